/- The law of the movements, walked and shown. Part 2 of 3 of what is the claim's own. -/
import Derived.Test.YtegpappenmhndaaDoorQBB1
import Derived.Test.YtegpappenmhndaaDoorQBB2
import Derived.Test.YtegpappenmhndaaDoorQWh1
import Derived.Test.YtegpappenmhndaaDoorQBB3
import Derived.Test.YtegpappenmhndaaDoorQBB4
import Derived.Test.YtegpappenmhndaaDoorQBB6
namespace Go.Proofs.YtegpappenmhndaaDoor.M
theorem pwh2_0 {p : Prop} (h : p := by rw [hg]; exact (below_size (by repeat (first | (with_reducible first | exact HB.out | apply below_alloc | apply pw_below_drewN | apply below_drew1 | refine below_set ?_ GE101.out) | exact HB.out)))) : p := h
theorem pwh2_1 {p : Prop} (h : p := by rw [hg]; exact Nat.ne_of_lt (blk_lt (g := gb101) (o := .cells #[.int .i64 a1_0, .int .i64 a1_1, .string a1_2, .int .i64 a1_3, .int .i64 a1_4, .int .i64 a1_5, .string a1_6, .int .i64 a1_7] 23 (0, 0)) (by (with_reducible repeat (first | refine blk_drewN ?_ _ | refine blk_drew ?_ | refine blk_alloc ?_ _)); exact BK101.out))) : p := h
theorem pwh2_2 {p : Prop} (h : p := by rw [hg]; exact Nat.ne_of_gt (blk_lt (g := gb101) (o := .cells #[.int .i64 a1_0, .int .i64 a1_1, .string a1_2, .int .i64 a1_3, .int .i64 a1_4, .int .i64 a1_5, .string a1_6, .int .i64 a1_7] 23 (0, 0)) (by (with_reducible repeat (first | refine blk_drewN ?_ _ | refine blk_drew ?_ | refine blk_alloc ?_ _)); exact BK101.out))) : p := h
theorem pwh2_3 {p : Prop} (h : p := by repeat (first | (with_reducible first | exact HB.out | apply below_alloc | apply pw_below_drewN | apply below_drew1 | refine below_set ?_ GE101.out | refine below_set ?_ GE103.out) | exact HB.out)) : p := h
theorem pwh2_4 {p : Prop} (h : p := by (with_reducible repeat (first | refine blk_drewN ?_ _ | refine blk_drew ?_ | refine blk_alloc ?_ _)); exact BK103.out) : p := h
theorem pwh2_5 {p : Prop} (h : p := by first | rfl | (simp [errW_none, errW_some] <;> rfl) | (simp only [← hji6]; first | rfl | (simp [errW_none, errW_some] <;> rfl)) | (simp [*, errW_none, errW_some] <;> rfl)) : p := h
end Go.Proofs.YtegpappenmhndaaDoor.M
section
namespace Go.Proofs.YtegpappenmhndaaDoor.M
open Go.RowKit Go.Proofs.YtegpappenmhndaaDoorW.PrintWords Go.Proofs.YtegpappenmhndaaDoorW.PrintLast Go.Proofs.YtegpappenmhndaaDoorW.PrintMore
attribute [local go_sem] max2_int min2_int max_two min_two max_three min_three max_four min_four
set_option linter.unusedVariables false
set_option linter.unusedSimpArgs false
mutual
def F38.j0 : Nat → List (S23) → Int → Int → Int → ByteArray → Int → Int → Int → ByteArray → Int → Int → Int → ByteArray → Int → Int → Int → ByteArray → Int → Option (Int)
  | 0, _, _, _, _, _, _, _, _, _, _, _, _, _, _, _, _, _, _ => none
  | k + 1, x0, x6, x102000, x102001, x102002, x102003, x102004, x102005, x102006, x102007, x104000, x104001, x104002, x104003, x104004, x104005, x104006, x104007 => if x104002.toList = x102002.toList then (F38.j1 k x0 (x104003 != x6) x102000 x102001 x102002 x102003 x102004 x102005 x102006 x102007 x104000 x104001 x104002 x104003 x104004 x104005 x104006 x104007) else (F38.j1 k x0 true x102000 x102001 x102002 x102003 x102004 x102005 x102006 x102007 x104000 x104001 x104002 x104003 x104004 x104005 x104006 x104007)
def F38.j1 : Nat → List (S23) → Bool → Int → Int → ByteArray → Int → Int → Int → ByteArray → Int → Int → Int → ByteArray → Int → Int → Int → ByteArray → Int → Option (Int)
  | 0, _, _, _, _, _, _, _, _, _, _, _, _, _, _, _, _, _, _ => none
  | k + 1, x0, x33, x102000, x102001, x102002, x102003, x102004, x102005, x102006, x102007, x104000, x104001, x104002, x104003, x104004, x104005, x104006, x104007 => if x33 = true then (some 28) else (if x102001 < x104001 then (some 17) else (F38.l0 k x0 x102004 0 x102000 x102001 x102002 x102003 x102004 x102005 x102006 x102007 x104000 x104001 x104002 x104003 x104004 x104005 x104006 x104007))
def F38.l0 : Nat → List (S23) → Int → Int → Int → Int → ByteArray → Int → Int → Int → ByteArray → Int → Int → Int → ByteArray → Int → Int → Int → ByteArray → Int → Option (Int)
  | 0, _, _, _, _, _, _, _, _, _, _, _, _, _, _, _, _, _, _, _ => none
  | k + 1, x0, x7, x8, x102000, x102001, x102002, x102003, x102004, x102005, x102006, x102007, x104000, x104001, x104002, x104003, x104004, x104005, x104006, x104007 => if x8 < (x0.length : Int) then (if 0 ≤ x8 then (if ((rd_T23 x0 x8).f3) = x102003 then (if ((rd_T23 x0 x8).f7) = x102007 then (F38.l0 k x0 (wrap64 (x7 + ((rd_T23 x0 x8).f4))) (wrap64 (x8 + 1)) x102000 x102001 x102002 x102003 x102004 x102005 x102006 x102007 x104000 x104001 x104002 x104003 x104004 x104005 x104006 x104007) else (F38.l0 k x0 x7 (wrap64 (x8 + 1)) x102000 x102001 x102002 x102003 x102004 x102005 x102006 x102007 x104000 x104001 x104002 x104003 x104004 x104005 x104006 x104007)) else (F38.l0 k x0 x7 (wrap64 (x8 + 1)) x102000 x102001 x102002 x102003 x102004 x102005 x102006 x102007 x104000 x104001 x104002 x104003 x104004 x104005 x104006 x104007)) else (none)) else (if x102003 = 5 then (some 0) else (if x7 > x104004 then (some 21) else (some 0)))
end
def F38.f (k : Nat) (l0 : List (S23)) (a1_0 : Int) (a1_1 : Int) (a1_2 : ByteArray) (a1_3 : Int) (a1_4 : Int) (a1_5 : Int) (a1_6 : ByteArray) (a1_7 : Int) : Option (Int) := if a1_7 > (l0.length : Int) then (some 28) else (if 0 ≤ (wrap64 (a1_7 - 1)) then (if (wrap64 (a1_7 - 1)) < (l0.length : Int) then (if a1_3 = 3 then (F38.j0 k l0 2 a1_0 a1_1 a1_2 a1_3 a1_4 a1_5 a1_6 a1_7 ((rd_T23 l0 (wrap64 (a1_7 - 1))).f0) ((rd_T23 l0 (wrap64 (a1_7 - 1))).f1) ((rd_T23 l0 (wrap64 (a1_7 - 1))).f2) ((rd_T23 l0 (wrap64 (a1_7 - 1))).f3) ((rd_T23 l0 (wrap64 (a1_7 - 1))).f4) ((rd_T23 l0 (wrap64 (a1_7 - 1))).f5) ((rd_T23 l0 (wrap64 (a1_7 - 1))).f6) ((rd_T23 l0 (wrap64 (a1_7 - 1))).f7)) else (F38.j0 k l0 1 a1_0 a1_1 a1_2 a1_3 a1_4 a1_5 a1_6 a1_7 ((rd_T23 l0 (wrap64 (a1_7 - 1))).f0) ((rd_T23 l0 (wrap64 (a1_7 - 1))).f1) ((rd_T23 l0 (wrap64 (a1_7 - 1))).f2) ((rd_T23 l0 (wrap64 (a1_7 - 1))).f3) ((rd_T23 l0 (wrap64 (a1_7 - 1))).f4) ((rd_T23 l0 (wrap64 (a1_7 - 1))).f5) ((rd_T23 l0 (wrap64 (a1_7 - 1))).f6) ((rd_T23 l0 (wrap64 (a1_7 - 1))).f7))) else (none)) else (none))
set_option maxHeartbeats 8000000 in
set_option maxRecDepth 100000 in
theorem F38.calls (k : Nat) (A0 : Option Addr) (c0 : Nat) (l0 : List (S23)) (a1_0 : Int) (a1_1 : Int) (a1_2 : ByteArray) (a1_3 : Int) (a1_4 : Int) (a1_5 : Int) (a1_6 : ByteArray) (a1_7 : Int) (r : Int) (w : World) (hr0 : Kd.C k23 w A0 l0.length l0) (hc0 : l0.length ≤ c0) (h : F38.f k l0 a1_0 a1_1 a1_2 a1_3 a1_4 a1_5 a1_6 a1_7 = some r) :
    Calls Tryd.prog 38 #[.slice A0 l0.length c0, .agg #[.int .i64 a1_0, .int .i64 a1_1, .string a1_2, .int .i64 a1_3, .int .i64 a1_4, .int .i64 a1_5, .string a1_6, .int .i64 a1_7]] w fun e w' => e = .returned (.int .i64 r) ∧ Below w.heap.size w w' := by
 have hu23 := Tryd.underlying23; have hu3 := Tryd.underlying3; have hu9 := Tryd.underlying9; have HR0 := Aside0.mk hr0; have HC0 := Aside0.mk hc0; clear hr0 hc0; have HB := Aside0.mk (Below.refl w.heap.size w)
 unfold F38.f at h
 have H := h; clear h
 by_cases c3 : a1_7 > (l0.length : Int)
 ·rw [if_pos c3] at H; have c3b0 : decide ((l0.length : Int) < a1_7) = true := decide_eq_true c3; clear c3; obtain rfl := Option.some.inj H; go_enter Tryd.func38, Tryd.ntmps38
  go_wp2_with (first | ((with_reducible refine gate_dst (N := 3) rfl ?_); refine box_event ?hg (N := 3) ?hd (cs := #[.int .i64 a1_0, .int .i64 a1_1, .string a1_2, .int .i64 a1_3, .int .i64 a1_4, .int .i64 a1_5, .string a1_6, .int .i64 a1_7]) (t := 23) ?hr ?_; (case hd => rfl); (case hg => rfl); (case hr => first | (go_simp; done) | (go_simp; rfl)); intro gb101 hg w4 hbox hb; have BK101 := Aside0.mk (hbox); have GW101 := Aside0.mk ((pbb2_6 : w.heap.size ≤ gb101)); have GE101 := Aside0.mk ((pbb2_6 : w.heap.size ≤ gb101)); replace HB := Aside0.mk (below_step pbb2_3 hb); clear hb hbox hg; obtain ⟨hcz5_0, hcz5_1, hcz5_2, hcz5_3, hcz5_4, hcz5_5, hcz5_6, hcz5_7⟩ := cz8 BK101.out; obtain ⟨hfz5_0, hfz5_1, hfz5_2, hfz5_3, hfz5_4, hfz5_5, hfz5_6, hfz5_7⟩ := fz8 BK101.out))
  repeat (go_quiet (first | ((with_reducible refine gate_dst (N := 3) rfl ?_); refine box_event ?hg (N := 3) ?hd (cs := #[.int .i64 a1_0, .int .i64 a1_1, .string a1_2, .int .i64 a1_3, .int .i64 a1_4, .int .i64 a1_5, .string a1_6, .int .i64 a1_7]) (t := 23) ?hr ?_; (case hd => rfl); (case hg => rfl); (case hr => first | (go_simp; done) | (go_simp; rfl)); intro gb101 hg w4 hbox hb; have BK101 := Aside0.mk (hbox); have GW101 := Aside0.mk ((pbb2_6 : w.heap.size ≤ gb101)); have GE101 := Aside0.mk ((pbb2_6 : w.heap.size ≤ gb101)); replace HB := Aside0.mk (below_step pbb2_3 hb); clear hb hbox hg; obtain ⟨hcz5_0, hcz5_1, hcz5_2, hcz5_3, hcz5_4, hcz5_5, hcz5_6, hcz5_7⟩ := cz8 BK101.out; obtain ⟨hfz5_0, hfz5_1, hfz5_2, hfz5_3, hfz5_4, hfz5_5, hfz5_6, hfz5_7⟩ := fz8 BK101.out)); try go_wp2_with (first | ((with_reducible refine gate_dst (N := 3) rfl ?_); refine box_event ?hg (N := 3) ?hd (cs := #[.int .i64 a1_0, .int .i64 a1_1, .string a1_2, .int .i64 a1_3, .int .i64 a1_4, .int .i64 a1_5, .string a1_6, .int .i64 a1_7]) (t := 23) ?hr ?_; (case hd => rfl); (case hg => rfl); (case hr => first | (go_simp; done) | (go_simp; rfl)); intro gb101 hg w4 hbox hb; have BK101 := Aside0.mk (hbox); have GW101 := Aside0.mk ((pbb2_6 : w.heap.size ≤ gb101)); have GE101 := Aside0.mk ((pbb2_6 : w.heap.size ≤ gb101)); replace HB := Aside0.mk (below_step pbb2_3 hb); clear hb hbox hg; obtain ⟨hcz5_0, hcz5_1, hcz5_2, hcz5_3, hcz5_4, hcz5_5, hcz5_6, hcz5_7⟩ := cz8 BK101.out; obtain ⟨hfz5_0, hfz5_1, hfz5_2, hfz5_3, hfz5_4, hfz5_5, hfz5_6, hfz5_7⟩ := fz8 BK101.out)))
  go_ret
  exact ⟨pbb2_5, pbb2_9⟩
 ·rw [if_neg c3] at H; have c3b0 : decide ((l0.length : Int) < a1_7) = false := decide_eq_false c3; clear c3; obtain ⟨ji6, hji6⟩ : ∃ j_ : Int, (wrap64 (a1_7 - 1)) = j_ := ⟨_, rfl⟩; (first | rw [hji6] at H | simp only [hji6] at H); have hji6w : (IntKind.i64.wrap (a1_7 - 1)) = ji6 := (i64_w _).trans hji6
  by_cases c7 : 0 ≤ (ji6)
  ·rw [if_pos c7] at H; have c7b0 := decide_eq_true c7; clear c7
   by_cases c8 : (ji6) < (l0.length : Int)
   ·rw [if_pos c8] at H; have c8b0 := decide_eq_true c8; clear c8; have HC9 := Aside0.mk H; clear H; go_enter Tryd.func38, Tryd.ntmps38
    go_upto_if 22 with (first | ((with_reducible refine gate_dst (N := 3) rfl ?_); refine box_event ?hg (N := 3) ?hd (cs := #[.int .i64 a1_0, .int .i64 a1_1, .string a1_2, .int .i64 a1_3, .int .i64 a1_4, .int .i64 a1_5, .string a1_6, .int .i64 a1_7]) (t := 23) ?hr ?_; (case hd => rfl); (case hg => rfl); (case hr => first | (go_simp; done) | (go_simp; rfl)); intro gb101 hg w10 hbox hb; have BK101 := Aside0.mk (hbox); have GW101 := Aside0.mk ((pbb2_6 : w.heap.size ≤ gb101)); have GE101 := Aside0.mk ((pbb2_6 : w.heap.size ≤ gb101)); replace HB := Aside0.mk (below_step pbb2_3 hb); clear hb hbox hg; obtain ⟨hcz11_0, hcz11_1, hcz11_2, hcz11_3, hcz11_4, hcz11_5, hcz11_6, hcz11_7⟩ := cz8 BK101.out; obtain ⟨hfz11_0, hfz11_1, hfz11_2, hfz11_3, hfz11_4, hfz11_5, hfz11_6, hfz11_7⟩ := fz8 BK101.out; have p102 : 0 ≤ ((ji6) : Int) := of_decide_eq_true pbb2_4; have q102 : (ji6) < (l0.length : Int) := of_decide_eq_true pbb2_4; obtain ⟨ad102, e102, hx102_0, hx102_1, hx102_2, hx102_3, hx102_4, hx102_5, hx102_6, hx102_7⟩ := up8 HB.out (at_T23 HR0.out (ji6) p102 q102); cases e102; replace p102 := eq_true p102; replace q102 := eq_true q102) | ((with_reducible refine gate_dst (N := 5) rfl ?_); refine box_event ?hg (N := 5) ?hd (cs := #[.int .i64 0, .int .i64 0, .string (⟨#[]⟩ : ByteArray), .int .i64 0, .int .i64 0, .int .i64 0, .string (⟨#[]⟩ : ByteArray), .int .i64 0]) (t := 23) ?hr ?_; (case hd => rfl); (case hg => rfl); (case hr => first | (go_simp; done) | (go_simp; rfl)); intro gb103 hg w12 hbox hb; have BK103 := Aside0.mk (hbox); have GW103 := Aside0.mk ((pwh2_0 : w.heap.size ≤ gb103)); have GE103 := Aside0.mk ((pwh2_0 : w.heap.size ≤ gb103)); replace HB := Aside0.mk (below_step pbb2_9 hb); have NB101_103 := Aside0.mk ((pwh2_1 : gb101 ≠ gb103)); have NB103_101 := Aside0.mk ((pwh2_2 : gb103 ≠ gb101)); replace BK101 := Aside0.mk (blk_below (g := gb101) (o := .cells #[.int .i64 a1_0, .int .i64 a1_1, .string a1_2, .int .i64 a1_3, .int .i64 a1_4, .int .i64 a1_5, .string a1_6, .int .i64 a1_7] 23 (0, 0)) pbb2_10 hb); clear hb hbox hg; have hnb13 := NB103_101.out; have hnc13 := NB101_103.out; obtain ⟨hcz14_0, hcz14_1, hcz14_2, hcz14_3, hcz14_4, hcz14_5, hcz14_6, hcz14_7⟩ := cz8 BK103.out; obtain ⟨hfz14_0, hfz14_1, hfz14_2, hfz14_3, hfz14_4, hfz14_5, hfz14_6, hfz14_7⟩ := fz8 BK103.out; obtain ⟨hcz15_0, hcz15_1, hcz15_2, hcz15_3, hcz15_4, hcz15_5, hcz15_6, hcz15_7⟩ := cz8 BK101.out; obtain ⟨hfz15_0, hfz15_1, hfz15_2, hfz15_3, hfz15_4, hfz15_5, hfz15_6, hfz15_7⟩ := fz8 BK101.out))
    repeat (go_quiet (first | ((with_reducible refine gate_dst (N := 3) rfl ?_); refine box_event ?hg (N := 3) ?hd (cs := #[.int .i64 a1_0, .int .i64 a1_1, .string a1_2, .int .i64 a1_3, .int .i64 a1_4, .int .i64 a1_5, .string a1_6, .int .i64 a1_7]) (t := 23) ?hr ?_; (case hd => rfl); (case hg => rfl); (case hr => first | (go_simp; done) | (go_simp; rfl)); intro gb101 hg w10 hbox hb; have BK101 := Aside0.mk (hbox); have GW101 := Aside0.mk ((pbb2_6 : w.heap.size ≤ gb101)); have GE101 := Aside0.mk ((pbb2_6 : w.heap.size ≤ gb101)); replace HB := Aside0.mk (below_step pbb2_3 hb); clear hb hbox hg; obtain ⟨hcz11_0, hcz11_1, hcz11_2, hcz11_3, hcz11_4, hcz11_5, hcz11_6, hcz11_7⟩ := cz8 BK101.out; obtain ⟨hfz11_0, hfz11_1, hfz11_2, hfz11_3, hfz11_4, hfz11_5, hfz11_6, hfz11_7⟩ := fz8 BK101.out; have p102 : 0 ≤ ((ji6) : Int) := of_decide_eq_true pbb2_4; have q102 : (ji6) < (l0.length : Int) := of_decide_eq_true pbb2_4; obtain ⟨ad102, e102, hx102_0, hx102_1, hx102_2, hx102_3, hx102_4, hx102_5, hx102_6, hx102_7⟩ := up8 HB.out (at_T23 HR0.out (ji6) p102 q102); cases e102; replace p102 := eq_true p102; replace q102 := eq_true q102) | ((with_reducible refine gate_dst (N := 5) rfl ?_); refine box_event ?hg (N := 5) ?hd (cs := #[.int .i64 0, .int .i64 0, .string (⟨#[]⟩ : ByteArray), .int .i64 0, .int .i64 0, .int .i64 0, .string (⟨#[]⟩ : ByteArray), .int .i64 0]) (t := 23) ?hr ?_; (case hd => rfl); (case hg => rfl); (case hr => first | (go_simp; done) | (go_simp; rfl)); intro gb103 hg w12 hbox hb; have BK103 := Aside0.mk (hbox); have GW103 := Aside0.mk ((pwh2_0 : w.heap.size ≤ gb103)); have GE103 := Aside0.mk ((pwh2_0 : w.heap.size ≤ gb103)); replace HB := Aside0.mk (below_step pbb2_9 hb); have NB101_103 := Aside0.mk ((pwh2_1 : gb101 ≠ gb103)); have NB103_101 := Aside0.mk ((pwh2_2 : gb103 ≠ gb101)); replace BK101 := Aside0.mk (blk_below (g := gb101) (o := .cells #[.int .i64 a1_0, .int .i64 a1_1, .string a1_2, .int .i64 a1_3, .int .i64 a1_4, .int .i64 a1_5, .string a1_6, .int .i64 a1_7] 23 (0, 0)) pbb2_10 hb); clear hb hbox hg; have hnb13 := NB103_101.out; have hnc13 := NB101_103.out; obtain ⟨hcz14_0, hcz14_1, hcz14_2, hcz14_3, hcz14_4, hcz14_5, hcz14_6, hcz14_7⟩ := cz8 BK103.out; obtain ⟨hfz14_0, hfz14_1, hfz14_2, hfz14_3, hfz14_4, hfz14_5, hfz14_6, hfz14_7⟩ := fz8 BK103.out; obtain ⟨hcz15_0, hcz15_1, hcz15_2, hcz15_3, hcz15_4, hcz15_5, hcz15_6, hcz15_7⟩ := cz8 BK101.out; obtain ⟨hfz15_0, hfz15_1, hfz15_2, hfz15_3, hfz15_4, hfz15_5, hfz15_6, hfz15_7⟩ := fz8 BK101.out)); go_upto_if 22 with (first | ((with_reducible refine gate_dst (N := 3) rfl ?_); refine box_event ?hg (N := 3) ?hd (cs := #[.int .i64 a1_0, .int .i64 a1_1, .string a1_2, .int .i64 a1_3, .int .i64 a1_4, .int .i64 a1_5, .string a1_6, .int .i64 a1_7]) (t := 23) ?hr ?_; (case hd => rfl); (case hg => rfl); (case hr => first | (go_simp; done) | (go_simp; rfl)); intro gb101 hg w10 hbox hb; have BK101 := Aside0.mk (hbox); have GW101 := Aside0.mk ((pbb2_6 : w.heap.size ≤ gb101)); have GE101 := Aside0.mk ((pbb2_6 : w.heap.size ≤ gb101)); replace HB := Aside0.mk (below_step pbb2_3 hb); clear hb hbox hg; obtain ⟨hcz11_0, hcz11_1, hcz11_2, hcz11_3, hcz11_4, hcz11_5, hcz11_6, hcz11_7⟩ := cz8 BK101.out; obtain ⟨hfz11_0, hfz11_1, hfz11_2, hfz11_3, hfz11_4, hfz11_5, hfz11_6, hfz11_7⟩ := fz8 BK101.out; have p102 : 0 ≤ ((ji6) : Int) := of_decide_eq_true pbb2_4; have q102 : (ji6) < (l0.length : Int) := of_decide_eq_true pbb2_4; obtain ⟨ad102, e102, hx102_0, hx102_1, hx102_2, hx102_3, hx102_4, hx102_5, hx102_6, hx102_7⟩ := up8 HB.out (at_T23 HR0.out (ji6) p102 q102); cases e102; replace p102 := eq_true p102; replace q102 := eq_true q102) | ((with_reducible refine gate_dst (N := 5) rfl ?_); refine box_event ?hg (N := 5) ?hd (cs := #[.int .i64 0, .int .i64 0, .string (⟨#[]⟩ : ByteArray), .int .i64 0, .int .i64 0, .int .i64 0, .string (⟨#[]⟩ : ByteArray), .int .i64 0]) (t := 23) ?hr ?_; (case hd => rfl); (case hg => rfl); (case hr => first | (go_simp; done) | (go_simp; rfl)); intro gb103 hg w12 hbox hb; have BK103 := Aside0.mk (hbox); have GW103 := Aside0.mk ((pwh2_0 : w.heap.size ≤ gb103)); have GE103 := Aside0.mk ((pwh2_0 : w.heap.size ≤ gb103)); replace HB := Aside0.mk (below_step pbb2_9 hb); have NB101_103 := Aside0.mk ((pwh2_1 : gb101 ≠ gb103)); have NB103_101 := Aside0.mk ((pwh2_2 : gb103 ≠ gb101)); replace BK101 := Aside0.mk (blk_below (g := gb101) (o := .cells #[.int .i64 a1_0, .int .i64 a1_1, .string a1_2, .int .i64 a1_3, .int .i64 a1_4, .int .i64 a1_5, .string a1_6, .int .i64 a1_7] 23 (0, 0)) pbb2_10 hb); clear hb hbox hg; have hnb13 := NB103_101.out; have hnc13 := NB101_103.out; obtain ⟨hcz14_0, hcz14_1, hcz14_2, hcz14_3, hcz14_4, hcz14_5, hcz14_6, hcz14_7⟩ := cz8 BK103.out; obtain ⟨hfz14_0, hfz14_1, hfz14_2, hfz14_3, hfz14_4, hfz14_5, hfz14_6, hfz14_7⟩ := fz8 BK103.out; obtain ⟨hcz15_0, hcz15_1, hcz15_2, hcz15_3, hcz15_4, hcz15_5, hcz15_6, hcz15_7⟩ := cz8 BK101.out; obtain ⟨hfz15_0, hfz15_1, hfz15_2, hfz15_3, hfz15_4, hfz15_5, hfz15_6, hfz15_7⟩ := fz8 BK101.out)))
    (try simp only [Act.put, List.setIfInBounds_toArray, List.set_cons_zero, List.set_cons_succ])
    go_cut [6] (fun v6 wc => ∃ (kq : Nat) (x6_8 : Int), v6 = .int .i64 x6_8 ∧ Aside0 (F38.j0 kq l0 x6_8 a1_0 a1_1 a1_2 a1_3 a1_4 a1_5 a1_6 a1_7 ((rd_T23 l0 (ji6)).f0) ((rd_T23 l0 (ji6)).f1) ((rd_T23 l0 (ji6)).f2) ((rd_T23 l0 (ji6)).f3) ((rd_T23 l0 (ji6)).f4) ((rd_T23 l0 (ji6)).f5) ((rd_T23 l0 (ji6)).f6) ((rd_T23 l0 (ji6)).f7) = some r) ∧ Aside0 (kq ≤ k) ∧ Aside0 (wc.heap[gb101]? = some (.cells #[.int .i64 a1_0, .int .i64 a1_1, .string a1_2, .int .i64 a1_3, .int .i64 a1_4, .int .i64 a1_5, .string a1_6, .int .i64 a1_7] 23 (0, 0))) ∧ Aside0 (wc.heap[gb103]? = some (.cells #[.int .i64 ((rd_T23 l0 (ji6)).f0), .int .i64 ((rd_T23 l0 (ji6)).f1), .string ((rd_T23 l0 (ji6)).f2), .int .i64 ((rd_T23 l0 (ji6)).f3), .int .i64 ((rd_T23 l0 (ji6)).f4), .int .i64 ((rd_T23 l0 (ji6)).f5), .string ((rd_T23 l0 (ji6)).f6), .int .i64 ((rd_T23 l0 (ji6)).f7)] 23 (0, 0))) ∧ Aside0 (Below w.heap.size w wc))
    case first =>
     have H := HC9.out; clear HC9
     by_cases c16 : a1_3 = 3
     ·rw [if_pos c16] at H; have c16b0 := bT_ c16; have c16b1 := bF_ c16; clear c16; (first | rw [c16b0] | (simp only [i64_w, i32_w]; rw [c16b0]) | skip); have H' := Aside0.mk H; clear H
      go_wp2
      repeat (go_quiet (fail); try go_wp2)
      go_meet
      case rel => exact ⟨_, (2), pbb2_0, H', ⟨pwh1_0⟩, ⟨by (with_reducible repeat (first | refine blk_drewN ?_ _ | refine blk_drew ?_ | refine blk_alloc ?_ _ | refine blk_far ?_ NB101_103.out _)); exact BK101.out⟩, ⟨by (with_reducible repeat (first | refine blk_drewN ?_ _ | refine blk_drew ?_ | refine blk_alloc ?_ _)); refine blk_put (cs := #[.int .i64 ((rd_T23 l0 (ji6)).f0), .int .i64 ((rd_T23 l0 (ji6)).f1), .string ((rd_T23 l0 (ji6)).f2), .int .i64 ((rd_T23 l0 (ji6)).f3), .int .i64 ((rd_T23 l0 (ji6)).f4), .int .i64 ((rd_T23 l0 (ji6)).f5), .string ((rd_T23 l0 (ji6)).f6), .int .i64 0]) ?_ 7 _ rfl; (with_reducible repeat (first | refine blk_drewN ?_ _ | refine blk_drew ?_ | refine blk_alloc ?_ _)); refine blk_put (cs := #[.int .i64 ((rd_T23 l0 (ji6)).f0), .int .i64 ((rd_T23 l0 (ji6)).f1), .string ((rd_T23 l0 (ji6)).f2), .int .i64 ((rd_T23 l0 (ji6)).f3), .int .i64 ((rd_T23 l0 (ji6)).f4), .int .i64 ((rd_T23 l0 (ji6)).f5), .string (⟨#[]⟩ : ByteArray), .int .i64 0]) ?_ 6 _ rfl; (with_reducible repeat (first | refine blk_drewN ?_ _ | refine blk_drew ?_ | refine blk_alloc ?_ _)); refine blk_put (cs := #[.int .i64 ((rd_T23 l0 (ji6)).f0), .int .i64 ((rd_T23 l0 (ji6)).f1), .string ((rd_T23 l0 (ji6)).f2), .int .i64 ((rd_T23 l0 (ji6)).f3), .int .i64 ((rd_T23 l0 (ji6)).f4), .int .i64 0, .string (⟨#[]⟩ : ByteArray), .int .i64 0]) ?_ 5 _ rfl; (with_reducible repeat (first | refine blk_drewN ?_ _ | refine blk_drew ?_ | refine blk_alloc ?_ _)); refine blk_put (cs := #[.int .i64 ((rd_T23 l0 (ji6)).f0), .int .i64 ((rd_T23 l0 (ji6)).f1), .string ((rd_T23 l0 (ji6)).f2), .int .i64 ((rd_T23 l0 (ji6)).f3), .int .i64 0, .int .i64 0, .string (⟨#[]⟩ : ByteArray), .int .i64 0]) ?_ 4 _ rfl; (with_reducible repeat (first | refine blk_drewN ?_ _ | refine blk_drew ?_ | refine blk_alloc ?_ _)); refine blk_put (cs := #[.int .i64 ((rd_T23 l0 (ji6)).f0), .int .i64 ((rd_T23 l0 (ji6)).f1), .string ((rd_T23 l0 (ji6)).f2), .int .i64 0, .int .i64 0, .int .i64 0, .string (⟨#[]⟩ : ByteArray), .int .i64 0]) ?_ 3 _ rfl; (with_reducible repeat (first | refine blk_drewN ?_ _ | refine blk_drew ?_ | refine blk_alloc ?_ _)); refine blk_put (cs := #[.int .i64 ((rd_T23 l0 (ji6)).f0), .int .i64 ((rd_T23 l0 (ji6)).f1), .string (⟨#[]⟩ : ByteArray), .int .i64 0, .int .i64 0, .int .i64 0, .string (⟨#[]⟩ : ByteArray), .int .i64 0]) ?_ 2 _ rfl; (with_reducible repeat (first | refine blk_drewN ?_ _ | refine blk_drew ?_ | refine blk_alloc ?_ _)); refine blk_put (cs := #[.int .i64 ((rd_T23 l0 (ji6)).f0), .int .i64 0, .string (⟨#[]⟩ : ByteArray), .int .i64 0, .int .i64 0, .int .i64 0, .string (⟨#[]⟩ : ByteArray), .int .i64 0]) ?_ 1 _ rfl; (with_reducible repeat (first | refine blk_drewN ?_ _ | refine blk_drew ?_ | refine blk_alloc ?_ _)); refine blk_put (cs := #[.int .i64 0, .int .i64 0, .string (⟨#[]⟩ : ByteArray), .int .i64 0, .int .i64 0, .int .i64 0, .string (⟨#[]⟩ : ByteArray), .int .i64 0]) ?_ 0 _ rfl; (with_reducible repeat (first | refine blk_drewN ?_ _ | refine blk_drew ?_ | refine blk_alloc ?_ _)); exact BK103.out⟩, ⟨pwh2_3⟩⟩
     ·rw [if_neg c16] at H; have c16b0 := nF_ c16; have c16b1 := nT_ c16; (first | rw [c16b0] | (simp only [i64_w, i32_w]; rw [c16b0]) | skip); have H' := Aside0.mk H; clear H
      go_wp2
      repeat (go_quiet (fail); try go_wp2)
      go_meet
      case rel => exact ⟨_, (1), pbb2_0, H', ⟨pwh1_0⟩, ⟨by (with_reducible repeat (first | refine blk_drewN ?_ _ | refine blk_drew ?_ | refine blk_alloc ?_ _ | refine blk_far ?_ NB101_103.out _)); exact BK101.out⟩, ⟨by (with_reducible repeat (first | refine blk_drewN ?_ _ | refine blk_drew ?_ | refine blk_alloc ?_ _)); refine blk_put (cs := #[.int .i64 ((rd_T23 l0 (ji6)).f0), .int .i64 ((rd_T23 l0 (ji6)).f1), .string ((rd_T23 l0 (ji6)).f2), .int .i64 ((rd_T23 l0 (ji6)).f3), .int .i64 ((rd_T23 l0 (ji6)).f4), .int .i64 ((rd_T23 l0 (ji6)).f5), .string ((rd_T23 l0 (ji6)).f6), .int .i64 0]) ?_ 7 _ rfl; (with_reducible repeat (first | refine blk_drewN ?_ _ | refine blk_drew ?_ | refine blk_alloc ?_ _)); refine blk_put (cs := #[.int .i64 ((rd_T23 l0 (ji6)).f0), .int .i64 ((rd_T23 l0 (ji6)).f1), .string ((rd_T23 l0 (ji6)).f2), .int .i64 ((rd_T23 l0 (ji6)).f3), .int .i64 ((rd_T23 l0 (ji6)).f4), .int .i64 ((rd_T23 l0 (ji6)).f5), .string (⟨#[]⟩ : ByteArray), .int .i64 0]) ?_ 6 _ rfl; (with_reducible repeat (first | refine blk_drewN ?_ _ | refine blk_drew ?_ | refine blk_alloc ?_ _)); refine blk_put (cs := #[.int .i64 ((rd_T23 l0 (ji6)).f0), .int .i64 ((rd_T23 l0 (ji6)).f1), .string ((rd_T23 l0 (ji6)).f2), .int .i64 ((rd_T23 l0 (ji6)).f3), .int .i64 ((rd_T23 l0 (ji6)).f4), .int .i64 0, .string (⟨#[]⟩ : ByteArray), .int .i64 0]) ?_ 5 _ rfl; (with_reducible repeat (first | refine blk_drewN ?_ _ | refine blk_drew ?_ | refine blk_alloc ?_ _)); refine blk_put (cs := #[.int .i64 ((rd_T23 l0 (ji6)).f0), .int .i64 ((rd_T23 l0 (ji6)).f1), .string ((rd_T23 l0 (ji6)).f2), .int .i64 ((rd_T23 l0 (ji6)).f3), .int .i64 0, .int .i64 0, .string (⟨#[]⟩ : ByteArray), .int .i64 0]) ?_ 4 _ rfl; (with_reducible repeat (first | refine blk_drewN ?_ _ | refine blk_drew ?_ | refine blk_alloc ?_ _)); refine blk_put (cs := #[.int .i64 ((rd_T23 l0 (ji6)).f0), .int .i64 ((rd_T23 l0 (ji6)).f1), .string ((rd_T23 l0 (ji6)).f2), .int .i64 0, .int .i64 0, .int .i64 0, .string (⟨#[]⟩ : ByteArray), .int .i64 0]) ?_ 3 _ rfl; (with_reducible repeat (first | refine blk_drewN ?_ _ | refine blk_drew ?_ | refine blk_alloc ?_ _)); refine blk_put (cs := #[.int .i64 ((rd_T23 l0 (ji6)).f0), .int .i64 ((rd_T23 l0 (ji6)).f1), .string (⟨#[]⟩ : ByteArray), .int .i64 0, .int .i64 0, .int .i64 0, .string (⟨#[]⟩ : ByteArray), .int .i64 0]) ?_ 2 _ rfl; (with_reducible repeat (first | refine blk_drewN ?_ _ | refine blk_drew ?_ | refine blk_alloc ?_ _)); refine blk_put (cs := #[.int .i64 ((rd_T23 l0 (ji6)).f0), .int .i64 0, .string (⟨#[]⟩ : ByteArray), .int .i64 0, .int .i64 0, .int .i64 0, .string (⟨#[]⟩ : ByteArray), .int .i64 0]) ?_ 1 _ rfl; (with_reducible repeat (first | refine blk_drewN ?_ _ | refine blk_drew ?_ | refine blk_alloc ?_ _)); refine blk_put (cs := #[.int .i64 0, .int .i64 0, .string (⟨#[]⟩ : ByteArray), .int .i64 0, .int .i64 0, .int .i64 0, .string (⟨#[]⟩ : ByteArray), .int .i64 0]) ?_ 0 _ rfl; (with_reducible repeat (first | refine blk_drewN ?_ _ | refine blk_drew ?_ | refine blk_alloc ?_ _)); exact BK103.out⟩, ⟨pwh2_3⟩⟩
    case rest =>
     clear HC9; obtain ⟨kq, x6_8, rfl, HA, HJ8, BK101, BK103, HB⟩ := hcut
     cases kq with
     | zero => exact absurd HA.out (by simp [F38.j0])
     | succ kj8 =>
      have H := HA.out; clear HA; simp only [F38.j0] at H; have HC17 := Aside0.mk H; clear H
      go_upto_region 7 with (fail)
      repeat (go_quiet (fail); go_upto_region 7 with (fail))
      go_cut [33] (fun v33 wc => ∃ (kq : Nat) (x33_16 : Bool), v33 = .bool x33_16 ∧ Aside0 (F38.j1 kq l0 x33_16 a1_0 a1_1 a1_2 a1_3 a1_4 a1_5 a1_6 a1_7 ((rd_T23 l0 (ji6)).f0) ((rd_T23 l0 (ji6)).f1) ((rd_T23 l0 (ji6)).f2) ((rd_T23 l0 (ji6)).f3) ((rd_T23 l0 (ji6)).f4) ((rd_T23 l0 (ji6)).f5) ((rd_T23 l0 (ji6)).f6) ((rd_T23 l0 (ji6)).f7) = some r) ∧ Aside0 (kq ≤ kj8) ∧ Aside0 (wc.heap[gb101]? = some (.cells #[.int .i64 a1_0, .int .i64 a1_1, .string a1_2, .int .i64 a1_3, .int .i64 a1_4, .int .i64 a1_5, .string a1_6, .int .i64 a1_7] 23 (0, 0))) ∧ Aside0 (wc.heap[gb103]? = some (.cells #[.int .i64 ((rd_T23 l0 (ji6)).f0), .int .i64 ((rd_T23 l0 (ji6)).f1), .string ((rd_T23 l0 (ji6)).f2), .int .i64 ((rd_T23 l0 (ji6)).f3), .int .i64 ((rd_T23 l0 (ji6)).f4), .int .i64 ((rd_T23 l0 (ji6)).f5), .string ((rd_T23 l0 (ji6)).f6), .int .i64 ((rd_T23 l0 (ji6)).f7)] 23 (0, 0))) ∧ Aside0 (Below w.heap.size w wc))
      case first =>
       have H := HC17.out; clear HC17
       by_cases c18 : ((rd_T23 l0 (ji6)).f2).toList = a1_2.toList
       ·rw [if_pos c18] at H; have c18b0 := bT_ c18; have c18b1 := bF_ c18; clear c18; (first | rw [c18b0] | (simp only [i64_w, i32_w]; rw [c18b0]) | skip); have H' := Aside0.mk H; clear H; have hnb19 := NB103_101.out; have hnc19 := NB101_103.out; obtain ⟨hcz20_0, hcz20_1, hcz20_2, hcz20_3, hcz20_4, hcz20_5, hcz20_6, hcz20_7⟩ := cz8 BK103.out; obtain ⟨hfz20_0, hfz20_1, hfz20_2, hfz20_3, hfz20_4, hfz20_5, hfz20_6, hfz20_7⟩ := fz8 BK103.out; obtain ⟨hcz21_0, hcz21_1, hcz21_2, hcz21_3, hcz21_4, hcz21_5, hcz21_6, hcz21_7⟩ := cz8 BK101.out; obtain ⟨hfz21_0, hfz21_1, hfz21_2, hfz21_3, hfz21_4, hfz21_5, hfz21_6, hfz21_7⟩ := fz8 BK101.out
        go_wp2
        repeat (go_quiet (fail); try go_wp2)
        go_meet
        case rel => exact ⟨_, ((((rd_T23 l0 (ji6)).f3) != x6_8)), (by first | rfl | (simp; done) | (simp only [← hji6] <;> (first | rfl | simp)) | (simp [*]; done)), H', ⟨by have := HJ8.out; first | omega | exact Nat.le_refl _⟩, ⟨pbb2_10⟩, ⟨pwh2_4⟩, ⟨pwh2_3⟩⟩
       ·rw [if_neg c18] at H; have c18b0 := nF_ c18; have c18b1 := nT_ c18; (first | rw [c18b0] | (simp only [i64_w, i32_w]; rw [c18b0]) | skip); have H' := Aside0.mk H; clear H; have hnb22 := NB103_101.out; have hnc22 := NB101_103.out; obtain ⟨hcz23_0, hcz23_1, hcz23_2, hcz23_3, hcz23_4, hcz23_5, hcz23_6, hcz23_7⟩ := cz8 BK103.out; obtain ⟨hfz23_0, hfz23_1, hfz23_2, hfz23_3, hfz23_4, hfz23_5, hfz23_6, hfz23_7⟩ := fz8 BK103.out; obtain ⟨hcz24_0, hcz24_1, hcz24_2, hcz24_3, hcz24_4, hcz24_5, hcz24_6, hcz24_7⟩ := cz8 BK101.out; obtain ⟨hfz24_0, hfz24_1, hfz24_2, hfz24_3, hfz24_4, hfz24_5, hfz24_6, hfz24_7⟩ := fz8 BK101.out
        go_wp2
        repeat (go_quiet (fail); try go_wp2)
        go_meet
        case rel => exact ⟨_, (true), pbb2_0, H', ⟨by have := HJ8.out; first | omega | exact Nat.le_refl _⟩, ⟨pbb2_10⟩, ⟨pwh2_4⟩, ⟨pwh2_3⟩⟩
      case rest =>
       clear HC17; obtain ⟨kq, x33_16, rfl, HA, HJ16, BK101, BK103, HB⟩ := hcut
       cases kq with
       | zero => exact absurd HA.out (by simp [F38.j1])
       | succ kj16 =>
        have H := HA.out; clear HA; simp only [F38.j1] at H
        by_cases c25 : x33_16 = true
        ·subst c25; rw [if_pos rfl] at H; obtain rfl := Option.some.inj H
         go_wp2
         repeat (go_quiet (fail); try go_wp2)
         go_ret
         exact ⟨pwh2_5, pwh2_3⟩
        ·replace c25 := Bool.eq_false_iff.mpr c25; subst c25; rw [if_neg (show ¬ (false = true) by decide)] at H
         by_cases c26 : a1_1 < ((rd_T23 l0 (ji6)).f1)
         ·rw [if_pos c26] at H; have c26b0 := decide_eq_true c26; clear c26; obtain rfl := Option.some.inj H; have hnb27 := NB101_103.out; have hnc27 := NB103_101.out; obtain ⟨hcz28_0, hcz28_1, hcz28_2, hcz28_3, hcz28_4, hcz28_5, hcz28_6, hcz28_7⟩ := cz8 BK101.out; obtain ⟨hfz28_0, hfz28_1, hfz28_2, hfz28_3, hfz28_4, hfz28_5, hfz28_6, hfz28_7⟩ := fz8 BK101.out; obtain ⟨hcz29_0, hcz29_1, hcz29_2, hcz29_3, hcz29_4, hcz29_5, hcz29_6, hcz29_7⟩ := cz8 BK103.out; obtain ⟨hfz29_0, hfz29_1, hfz29_2, hfz29_3, hfz29_4, hfz29_5, hfz29_6, hfz29_7⟩ := fz8 BK103.out
          go_wp2
          repeat (go_quiet (fail); try go_wp2)
          go_ret
          exact ⟨pwh2_5, pwh2_3⟩
         ·rw [if_neg c26] at H; have c26b0 := decide_eq_false c26; clear c26; have H' := Aside0.mk H; clear H; have hnb30 := NB101_103.out; have hnc30 := NB103_101.out; obtain ⟨hcz31_0, hcz31_1, hcz31_2, hcz31_3, hcz31_4, hcz31_5, hcz31_6, hcz31_7⟩ := cz8 BK101.out; obtain ⟨hfz31_0, hfz31_1, hfz31_2, hfz31_3, hfz31_4, hfz31_5, hfz31_6, hfz31_7⟩ := fz8 BK101.out; obtain ⟨hcz32_0, hcz32_1, hcz32_2, hcz32_3, hcz32_4, hcz32_5, hcz32_6, hcz32_7⟩ := cz8 BK103.out; obtain ⟨hfz32_0, hfz32_1, hfz32_2, hfz32_3, hfz32_4, hfz32_5, hfz32_6, hfz32_7⟩ := fz8 BK103.out
          go_wp2
          repeat (go_quiet (fail); try go_wp2)
          go_loopg [7, 8] kj16 (fun kq v7 v8 w' => ∃ (x7_3 : Int) (x8_3 : Int), v7 = .int .i64 x7_3 ∧ v8 = .int .i64 x8_3 ∧ Aside0 (F38.l0 kq l0 x7_3 x8_3 a1_0 a1_1 a1_2 a1_3 a1_4 a1_5 a1_6 a1_7 ((rd_T23 l0 (ji6)).f0) ((rd_T23 l0 (ji6)).f1) ((rd_T23 l0 (ji6)).f2) ((rd_T23 l0 (ji6)).f3) ((rd_T23 l0 (ji6)).f4) ((rd_T23 l0 (ji6)).f5) ((rd_T23 l0 (ji6)).f6) ((rd_T23 l0 (ji6)).f7) = some r) ∧ Aside0 (kq ≤ kj16) ∧ Aside0 (w'.heap[gb101]? = some (.cells #[.int .i64 a1_0, .int .i64 a1_1, .string a1_2, .int .i64 a1_3, .int .i64 a1_4, .int .i64 a1_5, .string a1_6, .int .i64 a1_7] 23 (0, 0))) ∧ Aside0 (w'.heap[gb103]? = some (.cells #[.int .i64 ((rd_T23 l0 (ji6)).f0), .int .i64 ((rd_T23 l0 (ji6)).f1), .string ((rd_T23 l0 (ji6)).f2), .int .i64 ((rd_T23 l0 (ji6)).f3), .int .i64 ((rd_T23 l0 (ji6)).f4), .int .i64 ((rd_T23 l0 (ji6)).f5), .string ((rd_T23 l0 (ji6)).f6), .int .i64 ((rd_T23 l0 (ji6)).f7)] 23 (0, 0))) ∧ Aside0 (Below w.heap.size w w'))
          case atStart => exact ⟨(a1_4), (0), pbb2_0, pbb2_0, H', ⟨Nat.le_refl _⟩, ⟨pbb2_10⟩, ⟨pwh2_4⟩, ⟨pwh2_3⟩⟩
          case round =>
           clear H'; obtain ⟨x7_3, x8_3, rfl, rfl, HA, HK3, BK101, BK103, HB⟩ := hrel
           cases gk with
           | zero => exact absurd HA.out (by simp [F38.l0])
           | succ k3 =>
            have H := HA.out; clear HA; simp only [F38.l0] at H
            by_cases c33 : x8_3 < (l0.length : Int)
            ·rw [if_pos c33] at H; have c33b0 := decide_eq_true c33; clear c33
             by_cases c34 : 0 ≤ x8_3
             ·rw [if_pos c34] at H; have c34b0 := decide_eq_true c34; clear c34
              by_cases c35 : ((rd_T23 l0 x8_3).f3) = a1_3
              ·rw [if_pos c35] at H; have c35b0 := bT_ c35; have c35b1 := bF_ c35; clear c35
               by_cases c36 : ((rd_T23 l0 x8_3).f7) = a1_7
               ·rw [if_pos c36] at H; have c36b0 := bT_ c36; have c36b1 := bF_ c36; clear c36; have H' := Aside0.mk H; clear H; have p104 : 0 ≤ (x8_3 : Int) := of_decide_eq_true pbb2_4; have q104 : x8_3 < (l0.length : Int) := of_decide_eq_true pbb2_4; obtain ⟨ad104, e104, hx104_0, hx104_1, hx104_2, hx104_3, hx104_4, hx104_5, hx104_6, hx104_7⟩ := up8 HB.out (at_T23 HR0.out x8_3 p104 q104); obtain rfl : ad102 = ad104 := (by injection e104); replace p104 := eq_true p104; replace q104 := eq_true q104; have hnb37 := NB101_103.out; have hnc37 := NB103_101.out; obtain ⟨hcz38_0, hcz38_1, hcz38_2, hcz38_3, hcz38_4, hcz38_5, hcz38_6, hcz38_7⟩ := cz8 BK101.out; obtain ⟨hfz38_0, hfz38_1, hfz38_2, hfz38_3, hfz38_4, hfz38_5, hfz38_6, hfz38_7⟩ := fz8 BK101.out; have p105 : 0 ≤ (x8_3 : Int) := of_decide_eq_true pbb2_4; have q105 : x8_3 < (l0.length : Int) := of_decide_eq_true pbb2_4; obtain ⟨ad105, e105, hx105_0, hx105_1, hx105_2, hx105_3, hx105_4, hx105_5, hx105_6, hx105_7⟩ := up8 HB.out (at_T23 HR0.out x8_3 p105 q105); obtain rfl : ad102 = ad105 := (by injection e105); replace p105 := eq_true p105; replace q105 := eq_true q105; have p106 : 0 ≤ (x8_3 : Int) := of_decide_eq_true pbb2_4; have q106 : x8_3 < (l0.length : Int) := of_decide_eq_true pbb2_4; obtain ⟨ad106, e106, hx106_0, hx106_1, hx106_2, hx106_3, hx106_4, hx106_5, hx106_6, hx106_7⟩ := up8 HB.out (at_T23 HR0.out x8_3 p106 q106); obtain rfl : ad102 = ad106 := (by injection e106); replace p106 := eq_true p106; replace q106 := eq_true q106
                go_wp2
                repeat (go_quiet (fail); try go_wp2)
                go_roundg k3
                case measure => have := HJ8.out; have := HJ16.out; have := HK3.out; omega
                case rel => exact ⟨(wrap64 (x7_3 + ((rd_T23 l0 x8_3).f4))), (wrap64 (x8_3 + 1)), pbb2_0, pbb2_0, H', ⟨by have := HJ8.out; have := HJ16.out; have := HK3.out; omega⟩, ⟨pbb2_10⟩, ⟨pwh2_4⟩, ⟨pwh2_3⟩⟩
               ·rw [if_neg c36] at H; have c36b0 := nF_ c36; have c36b1 := nT_ c36; have H' := Aside0.mk H; clear H; have p104 : 0 ≤ (x8_3 : Int) := of_decide_eq_true pbb2_4; have q104 : x8_3 < (l0.length : Int) := of_decide_eq_true pbb2_4; obtain ⟨ad104, e104, hx104_0, hx104_1, hx104_2, hx104_3, hx104_4, hx104_5, hx104_6, hx104_7⟩ := up8 HB.out (at_T23 HR0.out x8_3 p104 q104); obtain rfl : ad102 = ad104 := (by injection e104); replace p104 := eq_true p104; replace q104 := eq_true q104; have hnb39 := NB101_103.out; have hnc39 := NB103_101.out; obtain ⟨hcz40_0, hcz40_1, hcz40_2, hcz40_3, hcz40_4, hcz40_5, hcz40_6, hcz40_7⟩ := cz8 BK101.out; obtain ⟨hfz40_0, hfz40_1, hfz40_2, hfz40_3, hfz40_4, hfz40_5, hfz40_6, hfz40_7⟩ := fz8 BK101.out; have p105 : 0 ≤ (x8_3 : Int) := of_decide_eq_true pbb2_4; have q105 : x8_3 < (l0.length : Int) := of_decide_eq_true pbb2_4; obtain ⟨ad105, e105, hx105_0, hx105_1, hx105_2, hx105_3, hx105_4, hx105_5, hx105_6, hx105_7⟩ := up8 HB.out (at_T23 HR0.out x8_3 p105 q105); obtain rfl : ad102 = ad105 := (by injection e105); replace p105 := eq_true p105; replace q105 := eq_true q105
                go_wp2
                repeat (go_quiet (fail); try go_wp2)
                go_roundg k3
                case measure => have := HJ8.out; have := HJ16.out; have := HK3.out; omega
                case rel => exact ⟨(x7_3), (wrap64 (x8_3 + 1)), pbb2_0, pbb2_0, H', ⟨by have := HJ8.out; have := HJ16.out; have := HK3.out; omega⟩, ⟨pbb2_10⟩, ⟨pwh2_4⟩, ⟨pwh2_3⟩⟩
              ·rw [if_neg c35] at H; have c35b0 := nF_ c35; have c35b1 := nT_ c35; have H' := Aside0.mk H; clear H; have p104 : 0 ≤ (x8_3 : Int) := of_decide_eq_true pbb2_4; have q104 : x8_3 < (l0.length : Int) := of_decide_eq_true pbb2_4; obtain ⟨ad104, e104, hx104_0, hx104_1, hx104_2, hx104_3, hx104_4, hx104_5, hx104_6, hx104_7⟩ := up8 HB.out (at_T23 HR0.out x8_3 p104 q104); obtain rfl : ad102 = ad104 := (by injection e104); replace p104 := eq_true p104; replace q104 := eq_true q104; have hnb41 := NB101_103.out; have hnc41 := NB103_101.out; obtain ⟨hcz42_0, hcz42_1, hcz42_2, hcz42_3, hcz42_4, hcz42_5, hcz42_6, hcz42_7⟩ := cz8 BK101.out; obtain ⟨hfz42_0, hfz42_1, hfz42_2, hfz42_3, hfz42_4, hfz42_5, hfz42_6, hfz42_7⟩ := fz8 BK101.out
               go_wp2
               repeat (go_quiet (fail); try go_wp2)
               go_roundg k3
               case measure => have := HJ8.out; have := HJ16.out; have := HK3.out; omega
               case rel => exact ⟨(x7_3), (wrap64 (x8_3 + 1)), pbb2_0, pbb2_0, H', ⟨by have := HJ8.out; have := HJ16.out; have := HK3.out; omega⟩, ⟨pbb2_10⟩, ⟨pwh2_4⟩, ⟨pwh2_3⟩⟩
             ·rw [if_neg c34] at H; exact absurd H (by simp)
            ·rw [if_neg c33] at H; have c33b0 := decide_eq_false c33; clear c33
             by_cases c43 : a1_3 = 5
             ·rw [if_pos c43] at H; have c43b0 := bT_ c43; have c43b1 := bF_ c43; clear c43; obtain rfl := Option.some.inj H; have hnb44 := NB101_103.out; have hnc44 := NB103_101.out; obtain ⟨hcz45_0, hcz45_1, hcz45_2, hcz45_3, hcz45_4, hcz45_5, hcz45_6, hcz45_7⟩ := cz8 BK101.out; obtain ⟨hfz45_0, hfz45_1, hfz45_2, hfz45_3, hfz45_4, hfz45_5, hfz45_6, hfz45_7⟩ := fz8 BK101.out
              go_wp2
              repeat (go_quiet (fail); try go_wp2)
              go_ret
              exact ⟨pwh2_5, pwh2_3⟩
             ·rw [if_neg c43] at H; have c43b0 := nF_ c43; have c43b1 := nT_ c43
              by_cases c46 : x7_3 > ((rd_T23 l0 (ji6)).f4)
              ·rw [if_pos c46] at H; have c46b0 : decide (((rd_T23 l0 (ji6)).f4) < x7_3) = true := decide_eq_true c46; clear c46; obtain rfl := Option.some.inj H; have hnb47 := NB101_103.out; have hnc47 := NB103_101.out; obtain ⟨hcz48_0, hcz48_1, hcz48_2, hcz48_3, hcz48_4, hcz48_5, hcz48_6, hcz48_7⟩ := cz8 BK101.out; obtain ⟨hfz48_0, hfz48_1, hfz48_2, hfz48_3, hfz48_4, hfz48_5, hfz48_6, hfz48_7⟩ := fz8 BK101.out; obtain ⟨hcz49_0, hcz49_1, hcz49_2, hcz49_3, hcz49_4, hcz49_5, hcz49_6, hcz49_7⟩ := cz8 BK103.out; obtain ⟨hfz49_0, hfz49_1, hfz49_2, hfz49_3, hfz49_4, hfz49_5, hfz49_6, hfz49_7⟩ := fz8 BK103.out
               go_wp2
               repeat (go_quiet (fail); try go_wp2)
               go_ret
               exact ⟨pwh2_5, pwh2_3⟩
              ·rw [if_neg c46] at H; have c46b0 : decide (((rd_T23 l0 (ji6)).f4) < x7_3) = false := decide_eq_false c46; clear c46; obtain rfl := Option.some.inj H; have hnb50 := NB101_103.out; have hnc50 := NB103_101.out; obtain ⟨hcz51_0, hcz51_1, hcz51_2, hcz51_3, hcz51_4, hcz51_5, hcz51_6, hcz51_7⟩ := cz8 BK101.out; obtain ⟨hfz51_0, hfz51_1, hfz51_2, hfz51_3, hfz51_4, hfz51_5, hfz51_6, hfz51_7⟩ := fz8 BK101.out; obtain ⟨hcz52_0, hcz52_1, hcz52_2, hcz52_3, hcz52_4, hcz52_5, hcz52_6, hcz52_7⟩ := cz8 BK103.out; obtain ⟨hfz52_0, hfz52_1, hfz52_2, hfz52_3, hfz52_4, hfz52_5, hfz52_6, hfz52_7⟩ := fz8 BK103.out
               go_wp2
               repeat (go_quiet (fail); try go_wp2)
               go_ret
               exact ⟨pwh2_5, pwh2_3⟩
   ·rw [if_neg c8] at H; exact absurd H (by simp)
  ·rw [if_neg c7] at H; exact absurd H (by simp)
def F15.l0 : Nat → List (S23) → Int → Option (Int × Int)
  | 0, _, _ => none
  | k + 1, x0, x4 => if x4 < (x0.length : Int) then (if 0 ≤ x4 then (if ((rd_T23 x0 x4).f0) = (wrap64 (x4 + 1)) then ((F13.f k ((rd_T23 x0 x4).f0) ((rd_T23 x0 x4).f1) ((rd_T23 x0 x4).f2) ((rd_T23 x0 x4).f3) ((rd_T23 x0 x4).f4) ((rd_T23 x0 x4).f5) ((rd_T23 x0 x4).f6) ((rd_T23 x0 x4).f7)).bind fun t103 => (if t103 = 0 then ((F36.f ((rd_T23 x0 x4).f3)).bind fun t105 => (if t105 = true then (if x4 ≤ (x0.length : Int) then ((F38.f k (x0.take (x4 : Int).toNat) ((rd_T23 x0 x4).f0) ((rd_T23 x0 x4).f1) ((rd_T23 x0 x4).f2) ((rd_T23 x0 x4).f3) ((rd_T23 x0 x4).f4) ((rd_T23 x0 x4).f5) ((rd_T23 x0 x4).f6) ((rd_T23 x0 x4).f7)).bind fun t111 => (if t111 = 0 then (F15.l0 k x0 (wrap64 (x4 + 1))) else (some (x4, t111)))) else (none)) else (F15.l0 k x0 (wrap64 (x4 + 1))))) else (some (x4, t103)))) else (some (x4, 17))) else (none)) else (some ((-1), 0))
def F15.f (k : Nat) (l0 : List (S23)) : Option (Int × Int) := if (l0.length : Int) > 2000 then (some (0, 9)) else (F15.l0 k l0 0)
def F15.T12 : Bool × List (List Nat × List Nat) := (true, [([], []), ([], []), ([0, 1], [0, 1]), ([], []), ([], []), ([3, 4], [3, 4]), ([5], [5]), ([2, 6], [2, 6]), ([7, 7, 0, 1, 2, 3, 4, 5, 6, 7], [7])])
def F15.B12 : List Nat := [0, 0, 3, 0, 0, 24, 56, 127, 255]
theorem F15.tab12 : rtab .any (opsOf Tryd.f15 12) = F15.T12 := by kernel_rfl
theorem F15.bits12 : waitsOk F15.T12.2 F15.B12 = true := by kernel_rfl
set_option maxHeartbeats 8000000 in
set_option maxRecDepth 100000 in
theorem F15.calls (k : Nat) (A0 : Option Addr) (c0 : Nat) (l0 : List (S23)) (r1 : Int) (r2 : Int) (w : World) (hr0 : Kd.C k23 w A0 l0.length l0) (hc0 : l0.length ≤ c0) (h : F15.f k l0 = some (r1, r2)) :
    Calls Tryd.prog 15 #[.slice A0 l0.length c0] w fun e w' => e = .returned (.tuple #[.int .i64 r1, .int .i64 r2]) ∧ Below w.heap.size w w' := by
 have hu3 := Tryd.underlying3; have hu23 := Tryd.underlying23; have HR0 := Aside0.mk hr0; have HC0 := Aside0.mk hc0; clear hr0 hc0; have HB := Aside0.mk (Below.refl w.heap.size w)
 unfold F15.f at h
 have H := h; clear h
 by_cases c2 : (l0.length : Int) > 2000
 ·rw [if_pos c2] at H; have c2b0 : decide (2000 < (l0.length : Int)) = true := decide_eq_true c2; have c2b1 : decide (2000 < l0.length) = true := decide_eq_true (by omega); clear c2; simp only [Option.some.injEq, Prod.mk.injEq] at H; obtain ⟨rfl, rfl⟩ := H; go_enter Tryd.func15, Tryd.ntmps15
  go_wp2
  go_ret2
  exact ⟨pbb2_5, pbb2_3⟩
 ·rw [if_neg c2] at H; have c2b0 : decide (2000 < (l0.length : Int)) = false := decide_eq_false c2; have c2b1 : decide (2000 < l0.length) = false := decide_eq_false (by omega); clear c2; have H' := Aside0.mk H; clear H; go_enter Tryd.func15, Tryd.ntmps15
  go_wp2
  go_loopg [4] k (fun kq v4 w' => ∃ (x4_1 : Int), v4 = .int .i64 x4_1 ∧ Aside0 (F15.l0 kq l0 x4_1 = some (r1, r2)) ∧ Aside0 (kq ≤ k) ∧ Aside0 (Below w.heap.size w w'))
  case atStart => exact ⟨(0), pbb2_0, H', ⟨Nat.le_refl _⟩, ⟨pbb2_3⟩⟩
  case round =>
   clear H'; obtain ⟨x4_1, rfl, HA, HK1, HB⟩ := hrel
   cases gk with
   | zero => exact absurd HA.out (by simp [F15.l0])
   | succ k1 =>
    have H := HA.out; clear HA; simp only [F15.l0] at H
    by_cases c3 : x4_1 < (l0.length : Int)
    ·rw [if_pos c3] at H; have c3b0 := decide_eq_true c3; clear c3
     by_cases c4 : 0 ≤ x4_1
     ·rw [if_pos c4] at H; have c4b0 := decide_eq_true c4; clear c4
      by_cases c5 : ((rd_T23 l0 x4_1).f0) = (wrap64 (x4_1 + 1))
      ·rw [if_pos c5] at H; have c5b0 := bT_ c5; have c5b1 := bF_ c5; clear c5; obtain ⟨t103, A60, H⟩ := bnd H; have A6 := Aside0.mk A60; clear A60
       by_cases c7 : t103 = 0
       ·rw [if_pos c7] at H; have c7b0 := bT_ c7; have c7b1 := bF_ c7; clear c7; obtain ⟨t105, A80, H⟩ := bnd H; have A8 := Aside0.mk A80; clear A80
        by_cases c9 : t105 = true
        ·subst c9; rw [if_pos rfl] at H; have c10b0 := eq_true (of_decide_eq_true pbb2_4 : 0 ≤ x4_1)
         by_cases c11 : x4_1 ≤ (l0.length : Int)
         ·rw [if_pos c11] at H; have c11b0 := eq_true c11; have c11b1 := decide_eq_true c11; clear c11; obtain ⟨y106, hy106⟩ : ∃ y_ : List (S23), y_ = (l0.take (x4_1 : Int).toNat) := ⟨_, rfl⟩; replace H : ((F38.f k1 y106 ((rd_T23 l0 x4_1).f0) ((rd_T23 l0 x4_1).f1) ((rd_T23 l0 x4_1).f2) ((rd_T23 l0 x4_1).f3) ((rd_T23 l0 x4_1).f4) ((rd_T23 l0 x4_1).f5) ((rd_T23 l0 x4_1).f6) ((rd_T23 l0 x4_1).f7)).bind fun t111 => (if t111 = 0 then (F15.l0 k1 l0 (wrap64 (x4_1 + 1))) else (some (x4_1, t111)))) = some (r1, r2) := by first | (rw [hy106]; with_reducible exact H) | (have H2_ := (Option.bind_some _ _).symm.trans H; rw [hy106]; with_reducible exact H2_) | (have H2_ := (Option.bind_some _ _).symm.trans H; with_reducible exact H2_) | with_reducible exact H | (rw [hy106]; exact H) | exact H
          have Ny106 := Aside0.mk hy106; clear hy106; obtain ⟨t111, A120, H⟩ := bnd H; have A12 := Aside0.mk A120; clear A120
          by_cases c13 : t111 = 0
          ·rw [if_pos c13] at H; have c13b0 := bT_ c13; have c13b1 := bF_ c13; clear c13; have H' := Aside0.mk H; clear H; have p101 : 0 ≤ (x4_1 : Int) := of_decide_eq_true pbb2_4; have q101 : x4_1 < (l0.length : Int) := of_decide_eq_true pbb2_4; obtain ⟨ad101, e101, hx101_0, hx101_1, hx101_2, hx101_3, hx101_4, hx101_5, hx101_6, hx101_7⟩ := up8 HB.out (at_T23 HR0.out x4_1 p101 q101)
           cases e101
           replace p101 := eq_true p101; replace q101 := eq_true q101; have p102 : 0 ≤ (x4_1 : Int) := of_decide_eq_true pbb2_4; have q102 : x4_1 < (l0.length : Int) := of_decide_eq_true pbb2_4; obtain ⟨ad102, e102, hx102_0, hx102_1, hx102_2, hx102_3, hx102_4, hx102_5, hx102_6, hx102_7⟩ := up8 HB.out (at_T23 HR0.out x4_1 p102 q102); obtain rfl : ad101 = ad102 := (by injection e102); replace p102 := eq_true p102; replace q102 := eq_true q102; (try go_wp2_with (first | ((with_reducible refine gate_callee (f := 13) rfl ?_); refine goesL_ (some 29) rfl rfl Tryd.func13 (by kernel_rfl) rfl #[.agg #[.int .i64 ((rd_T23 l0 x4_1).f0), .int .i64 ((rd_T23 l0 x4_1).f1), .string ((rd_T23 l0 x4_1).f2), .int .i64 ((rd_T23 l0 x4_1).f3), .int .i64 ((rd_T23 l0 x4_1).f4), .int .i64 ((rd_T23 l0 x4_1).f5), .string ((rd_T23 l0 x4_1).f6), .int .i64 ((rd_T23 l0 x4_1).f7)]] rfl pbb2_2 ?_; (with_reducible refine (F13.calls k1 ((rd_T23 l0 x4_1).f0) ((rd_T23 l0 x4_1).f1) ((rd_T23 l0 x4_1).f2) ((rd_T23 l0 x4_1).f3) ((rd_T23 l0 x4_1).f4) ((rd_T23 l0 x4_1).f5) ((rd_T23 l0 x4_1).f6) ((rd_T23 l0 x4_1).f7) t103 _ A6.out).mono ?_); rintro e w14 ⟨rfl, hb⟩; refine ⟨_, rfl, ?_⟩; replace HB := Aside0.mk (below_step pbb2_3 hb); (try clear hb); (try clear hb2); (try clear hk); (try clear hi); have p104 : 0 ≤ (x4_1 : Int) := of_decide_eq_true pbb2_4; have q104 : x4_1 < (l0.length : Int) := of_decide_eq_true pbb2_4; obtain ⟨ad104, e104, hx104_0, hx104_1, hx104_2, hx104_3, hx104_4, hx104_5, hx104_6, hx104_7⟩ := up8 HB.out (at_T23 HR0.out x4_1 p104 q104); obtain rfl : ad101 = ad104 := (by injection e104); replace p104 := eq_true p104; replace q104 := eq_true q104) | ((with_reducible refine gate_callee (f := 36) rfl ?_); refine goesL_ (some 39) rfl rfl Tryd.func36 (by kernel_rfl) rfl #[.int .i64 ((rd_T23 l0 x4_1).f3)] rfl pbb2_2 ?_; (with_reducible refine (F36.calls ((rd_T23 l0 x4_1).f3) true _ A8.out).mono ?_); rintro e w' ⟨rfl, ⟨nd, rfl⟩⟩; refine ⟨_, rfl, ?_⟩))); (try (rw [drewN_self w14]; generalize hq_ : World.drewN w14 _ = w14; have n0_ : Aside0 (Below w.heap.size w w14) := ⟨pbb4_0⟩; clear HB hq_; have HB := n0_; clear n0_)); replace HB := Aside0.mk (below_drew1 HB.out); have q16 : (x4_1 : Int) ≤ ((l0.length : Int) : Int) := of_decide_eq_true pbb2_4; obtain ⟨i016, hi016, _, hsz16, _⟩ := info_parts info23; have hroom16 : l0.length ≤ c0 := HC0.out; have hC16 : Kd.C k23 _ (some ad101) l0.length l0 := HR0.out; have hcut16 := cut_to (P := Tryd.prog) 25 23 .i64 Tryd.underlying25 hi016 (some ad101) l0.length c0 x4_1 (of_decide_eq_true pbb2_4) q16 hroom16; have hr16 := Kd.C_take (m := (x4_1 : Int).toNat) hC16 (by omega); have hy16 : y106.length = (x4_1 : Int).toNat := (by rw [Ny106.out, List.length_take]; omega); rw [← Ny106.out] at hr16; rw [← hy16] at hcut16; have HR109 := Aside0.mk hr16; have HC109 := Aside0.mk (show y106.length ≤ c0 from by omega); clear hr16 hC16 hroom16 hi016 hsz16; have KY16 := Aside0.mk hy16; clear hy16; replace q16 := eq_true q16; have p110 : 0 ≤ (x4_1 : Int) := of_decide_eq_true pbb2_4; have q110 : x4_1 < (l0.length : Int) := of_decide_eq_true pbb2_4; obtain ⟨ad110, e110, hx110_0, hx110_1, hx110_2, hx110_3, hx110_4, hx110_5, hx110_6, hx110_7⟩ := at_T23 HR0.out x4_1 p110 q110; have hw110_7 := hx110_7; have hw110_6 := hx110_6; have hw110_5 := hx110_5; have hw110_4 := hx110_4; have hw110_3 := hx110_3; have hw110_2 := hx110_2; have hw110_1 := hx110_1; have hw110_0 := hx110_0; obtain rfl : ad101 = ad110 := (by injection e110); replace hx110_0 := (HB.out.cell (World.block_lt_of_cell? w _ hx110_0)).trans hx110_0; replace hx110_1 := (HB.out.cell (World.block_lt_of_cell? w _ hx110_1)).trans hx110_1; replace hx110_2 := (HB.out.cell (World.block_lt_of_cell? w _ hx110_2)).trans hx110_2; replace hx110_3 := (HB.out.cell (World.block_lt_of_cell? w _ hx110_3)).trans hx110_3; replace hx110_4 := (HB.out.cell (World.block_lt_of_cell? w _ hx110_4)).trans hx110_4; replace hx110_5 := (HB.out.cell (World.block_lt_of_cell? w _ hx110_5)).trans hx110_5; replace hx110_6 := (HB.out.cell (World.block_lt_of_cell? w _ hx110_6)).trans hx110_6; replace hx110_7 := (HB.out.cell (World.block_lt_of_cell? w _ hx110_7)).trans hx110_7; replace p110 := eq_true p110; replace q110 := eq_true q110; refine start_ (n := 9) (S := fun w' => w'.cell? (ad101.add ((x4_1).toNat * 8)) = some (.int .i64 ((rd_T23 l0 x4_1).f0)) ∧ w'.cell? ⟨(ad101.add ((x4_1).toNat * 8)).block, (ad101.add ((x4_1).toNat * 8)).off + 1, none⟩ = some (.int .i64 ((rd_T23 l0 x4_1).f1)) ∧ w'.cell? ⟨(ad101.add ((x4_1).toNat * 8)).block, (ad101.add ((x4_1).toNat * 8)).off + 2, none⟩ = some (.string ((rd_T23 l0 x4_1).f2)) ∧ w'.cell? ⟨(ad101.add ((x4_1).toNat * 8)).block, (ad101.add ((x4_1).toNat * 8)).off + 3, none⟩ = some (.int .i64 ((rd_T23 l0 x4_1).f3)) ∧ w'.cell? ⟨(ad101.add ((x4_1).toNat * 8)).block, (ad101.add ((x4_1).toNat * 8)).off + 4, none⟩ = some (.int .i64 ((rd_T23 l0 x4_1).f4)) ∧ w'.cell? ⟨(ad101.add ((x4_1).toNat * 8)).block, (ad101.add ((x4_1).toNat * 8)).off + 5, none⟩ = some (.int .i64 ((rd_T23 l0 x4_1).f5)) ∧ w'.cell? ⟨(ad101.add ((x4_1).toNat * 8)).block, (ad101.add ((x4_1).toNat * 8)).off + 6, none⟩ = some (.string ((rd_T23 l0 x4_1).f6)) ∧ w'.cell? ⟨(ad101.add ((x4_1).toNat * 8)).block, (ad101.add ((x4_1).toNat * 8)).off + 7, none⟩ = some (.int .i64 ((rd_T23 l0 x4_1).f7))) (ds := []) (bq 9 0) (by kernel_rfl) rfl rfl ⟨((HB.out.cell (World.block_lt_of_cell? w _ hw110_0)).trans hw110_0), ((HB.out.cell (World.block_lt_of_cell? w _ hw110_1)).trans hw110_1), ((HB.out.cell (World.block_lt_of_cell? w _ hw110_2)).trans hw110_2), ((HB.out.cell (World.block_lt_of_cell? w _ hw110_3)).trans hw110_3), ((HB.out.cell (World.block_lt_of_cell? w _ hw110_4)).trans hw110_4), ((HB.out.cell (World.block_lt_of_cell? w _ hw110_5)).trans hw110_5), ((HB.out.cell (World.block_lt_of_cell? w _ hw110_6)).trans hw110_6), ((HB.out.cell (World.block_lt_of_cell? w _ hw110_7)).trans hw110_7)⟩ (fun hHeld => ?_); refine with_tabW F15.tab12 F15.bits12 (fun HT_ HW_ => ?_); generalize w14.drew = w15 at HB HR109 hx110_0 hx110_1 hx110_2 hx110_3 hx110_4 hx110_5 hx110_6 hx110_7 hHeld ⊢; refine pv_ 0 40 (bq 9 1) HT_ ?_; refine pv_ 1 41 (bq 9 3) HT_ ?_; refine pv_ 2 42 (bq 9 7) HT_ ?_; refine pv_ 3 43 (bq 9 15) HT_ ?_; refine pv_ 4 44 (bq 9 31) HT_ ?_; refine pv_ 5 45 (bq 9 63) HT_ ?_; refine take_ (i := 6) (N := some 46) (v := ?_) (a' := ?_) (bq 9 127) rfl rfl (take_ofW HT_.out HW_.out (by kernel_rfl)) (fun _ _ _ h => h) (Or.inl ⟨by rfl, ?_⟩) hHeld ?_ ?_; rotate_left
           ·rintro w' ⟨s0, s1, s2, s3, s4, s5, s6, s7⟩; go_simp; (with_reducible rfl)
           rotate_left
           ·exact cbb2_0
           refine one_ (i := 7) (N := some 47) (bq 9 255) rfl rfl (one_of HT_.out (by kernel_rfl)) (by decide) (fun K hK => ?_); refine goes_ Tryd.func38 (by kernel_rfl) rfl #[.slice (some ad101) y106.length c0, .agg #[.int .i64 ((rd_T23 l0 x4_1).f0), .int .i64 ((rd_T23 l0 x4_1).f1), .string ((rd_T23 l0 x4_1).f2), .int .i64 ((rd_T23 l0 x4_1).f3), .int .i64 ((rd_T23 l0 x4_1).f4), .int .i64 ((rd_T23 l0 x4_1).f5), .string ((rd_T23 l0 x4_1).f6), .int .i64 ((rd_T23 l0 x4_1).f7)]] (by rfl) rfl rfl pbb2_2 ?_; (with_reducible refine (F38.calls k1 _ _ y106 ((rd_T23 l0 x4_1).f0) ((rd_T23 l0 x4_1).f1) ((rd_T23 l0 x4_1).f2) ((rd_T23 l0 x4_1).f3) ((rd_T23 l0 x4_1).f4) ((rd_T23 l0 x4_1).f5) ((rd_T23 l0 x4_1).f6) ((rd_T23 l0 x4_1).f7) t111 _ ?side1 ?side2 A12.out).mono ?_); (case side1 => repeat (first | exact (Kd.C_below HR109.out HB.out) | (with_reducible refine Kd.C_alloc ?_ _) | (with_reducible refine Kd.C_drewN ?_ _) | (with_reducible refine Kd.C_drew ?_))); (case side2 => exact HC109.out); rintro e w17 ⟨rfl, hb⟩; refine ⟨_, rfl, ?_⟩; replace HB := Aside0.mk (below_step pbb2_3 hb); (try clear hb); (try clear hb2); (try clear hk); (try clear hi); refine hK.out _ _ ⟨((HB.out.cell (World.block_lt_of_cell? w _ hw110_0)).trans hw110_0), ((HB.out.cell (World.block_lt_of_cell? w _ hw110_1)).trans hw110_1), ((HB.out.cell (World.block_lt_of_cell? w _ hw110_2)).trans hw110_2), ((HB.out.cell (World.block_lt_of_cell? w _ hw110_3)).trans hw110_3), ((HB.out.cell (World.block_lt_of_cell? w _ hw110_4)).trans hw110_4), ((HB.out.cell (World.block_lt_of_cell? w _ hw110_5)).trans hw110_5), ((HB.out.cell (World.block_lt_of_cell? w _ hw110_6)).trans hw110_6), ((HB.out.cell (World.block_lt_of_cell? w _ hw110_7)).trans hw110_7)⟩ (fun hHeld => ?_); clear hK K; refine norm_ (a' := ?_) ?_ ?_; rotate_left
           ·show Act.put _ (some 47) _ = _; simp only [Act.put, List.setIfInBounds_toArray, List.set_cons_zero, List.set_cons_succ, i64_w, i32_w]
            rfl
           refine pv_ 8 6 (bq 9 511) HT_ ?_; refine done_ (done_of HT_.out (by kernel_rfl)) ?_; (try go_wp2)
           go_roundg k1
           case measure => have := HK1.out; omega
           case rel => exact ⟨(wrap64 (x4_1 + 1)), pbb2_0, H', ⟨pbb6_1⟩, ⟨pbb2_3⟩⟩
          ·rw [if_neg c13] at H; have c13b0 := nF_ c13; have c13b1 := nT_ c13; simp only [Option.some.injEq, Prod.mk.injEq] at H; obtain ⟨rfl, rfl⟩ := H; have p101 : 0 ≤ (x4_1 : Int) := of_decide_eq_true pbb2_4; have q101 : x4_1 < (l0.length : Int) := of_decide_eq_true pbb2_4; obtain ⟨ad101, e101, hx101_0, hx101_1, hx101_2, hx101_3, hx101_4, hx101_5, hx101_6, hx101_7⟩ := up8 HB.out (at_T23 HR0.out x4_1 p101 q101)
           cases e101
           replace p101 := eq_true p101; replace q101 := eq_true q101; have p102 : 0 ≤ (x4_1 : Int) := of_decide_eq_true pbb2_4; have q102 : x4_1 < (l0.length : Int) := of_decide_eq_true pbb2_4; obtain ⟨ad102, e102, hx102_0, hx102_1, hx102_2, hx102_3, hx102_4, hx102_5, hx102_6, hx102_7⟩ := up8 HB.out (at_T23 HR0.out x4_1 p102 q102); obtain rfl : ad101 = ad102 := (by injection e102); replace p102 := eq_true p102; replace q102 := eq_true q102; (try go_wp2_with (first | ((with_reducible refine gate_callee (f := 13) rfl ?_); refine goesL_ (some 29) rfl rfl Tryd.func13 (by kernel_rfl) rfl #[.agg #[.int .i64 ((rd_T23 l0 x4_1).f0), .int .i64 ((rd_T23 l0 x4_1).f1), .string ((rd_T23 l0 x4_1).f2), .int .i64 ((rd_T23 l0 x4_1).f3), .int .i64 ((rd_T23 l0 x4_1).f4), .int .i64 ((rd_T23 l0 x4_1).f5), .string ((rd_T23 l0 x4_1).f6), .int .i64 ((rd_T23 l0 x4_1).f7)]] rfl pbb2_2 ?_; (with_reducible refine (F13.calls k1 ((rd_T23 l0 x4_1).f0) ((rd_T23 l0 x4_1).f1) ((rd_T23 l0 x4_1).f2) ((rd_T23 l0 x4_1).f3) ((rd_T23 l0 x4_1).f4) ((rd_T23 l0 x4_1).f5) ((rd_T23 l0 x4_1).f6) ((rd_T23 l0 x4_1).f7) t103 _ A6.out).mono ?_); rintro e w18 ⟨rfl, hb⟩; refine ⟨_, rfl, ?_⟩; replace HB := Aside0.mk (below_step pbb2_3 hb); (try clear hb); (try clear hb2); (try clear hk); (try clear hi); have p104 : 0 ≤ (x4_1 : Int) := of_decide_eq_true pbb2_4; have q104 : x4_1 < (l0.length : Int) := of_decide_eq_true pbb2_4; obtain ⟨ad104, e104, hx104_0, hx104_1, hx104_2, hx104_3, hx104_4, hx104_5, hx104_6, hx104_7⟩ := up8 HB.out (at_T23 HR0.out x4_1 p104 q104); obtain rfl : ad101 = ad104 := (by injection e104); replace p104 := eq_true p104; replace q104 := eq_true q104) | ((with_reducible refine gate_callee (f := 36) rfl ?_); refine goesL_ (some 39) rfl rfl Tryd.func36 (by kernel_rfl) rfl #[.int .i64 ((rd_T23 l0 x4_1).f3)] rfl pbb2_2 ?_; (with_reducible refine (F36.calls ((rd_T23 l0 x4_1).f3) true _ A8.out).mono ?_); rintro e w' ⟨rfl, ⟨nd, rfl⟩⟩; refine ⟨_, rfl, ?_⟩))); (try (rw [drewN_self w18]; generalize hq_ : World.drewN w18 _ = w18; have n0_ : Aside0 (Below w.heap.size w w18) := ⟨pbb4_0⟩; clear HB hq_; have HB := n0_; clear n0_)); replace HB := Aside0.mk (below_drew1 HB.out); have q20 : (x4_1 : Int) ≤ ((l0.length : Int) : Int) := of_decide_eq_true pbb2_4; obtain ⟨i020, hi020, _, hsz20, _⟩ := info_parts info23; have hroom20 : l0.length ≤ c0 := HC0.out; have hC20 : Kd.C k23 _ (some ad101) l0.length l0 := HR0.out; have hcut20 := cut_to (P := Tryd.prog) 25 23 .i64 Tryd.underlying25 hi020 (some ad101) l0.length c0 x4_1 (of_decide_eq_true pbb2_4) q20 hroom20; have hr20 := Kd.C_take (m := (x4_1 : Int).toNat) hC20 (by omega); have hy20 : y106.length = (x4_1 : Int).toNat := (by rw [Ny106.out, List.length_take]; omega); rw [← Ny106.out] at hr20; rw [← hy20] at hcut20; have HR109 := Aside0.mk hr20; have HC109 := Aside0.mk (show y106.length ≤ c0 from by omega); clear hr20 hC20 hroom20 hi020 hsz20; have KY20 := Aside0.mk hy20; clear hy20; replace q20 := eq_true q20; have p110 : 0 ≤ (x4_1 : Int) := of_decide_eq_true pbb2_4; have q110 : x4_1 < (l0.length : Int) := of_decide_eq_true pbb2_4; obtain ⟨ad110, e110, hx110_0, hx110_1, hx110_2, hx110_3, hx110_4, hx110_5, hx110_6, hx110_7⟩ := at_T23 HR0.out x4_1 p110 q110; have hw110_7 := hx110_7; have hw110_6 := hx110_6; have hw110_5 := hx110_5; have hw110_4 := hx110_4; have hw110_3 := hx110_3; have hw110_2 := hx110_2; have hw110_1 := hx110_1; have hw110_0 := hx110_0; obtain rfl : ad101 = ad110 := (by injection e110); replace hx110_0 := (HB.out.cell (World.block_lt_of_cell? w _ hx110_0)).trans hx110_0; replace hx110_1 := (HB.out.cell (World.block_lt_of_cell? w _ hx110_1)).trans hx110_1; replace hx110_2 := (HB.out.cell (World.block_lt_of_cell? w _ hx110_2)).trans hx110_2; replace hx110_3 := (HB.out.cell (World.block_lt_of_cell? w _ hx110_3)).trans hx110_3; replace hx110_4 := (HB.out.cell (World.block_lt_of_cell? w _ hx110_4)).trans hx110_4; replace hx110_5 := (HB.out.cell (World.block_lt_of_cell? w _ hx110_5)).trans hx110_5; replace hx110_6 := (HB.out.cell (World.block_lt_of_cell? w _ hx110_6)).trans hx110_6; replace hx110_7 := (HB.out.cell (World.block_lt_of_cell? w _ hx110_7)).trans hx110_7; replace p110 := eq_true p110; replace q110 := eq_true q110; refine start_ (n := 9) (S := fun w' => w'.cell? (ad101.add ((x4_1).toNat * 8)) = some (.int .i64 ((rd_T23 l0 x4_1).f0)) ∧ w'.cell? ⟨(ad101.add ((x4_1).toNat * 8)).block, (ad101.add ((x4_1).toNat * 8)).off + 1, none⟩ = some (.int .i64 ((rd_T23 l0 x4_1).f1)) ∧ w'.cell? ⟨(ad101.add ((x4_1).toNat * 8)).block, (ad101.add ((x4_1).toNat * 8)).off + 2, none⟩ = some (.string ((rd_T23 l0 x4_1).f2)) ∧ w'.cell? ⟨(ad101.add ((x4_1).toNat * 8)).block, (ad101.add ((x4_1).toNat * 8)).off + 3, none⟩ = some (.int .i64 ((rd_T23 l0 x4_1).f3)) ∧ w'.cell? ⟨(ad101.add ((x4_1).toNat * 8)).block, (ad101.add ((x4_1).toNat * 8)).off + 4, none⟩ = some (.int .i64 ((rd_T23 l0 x4_1).f4)) ∧ w'.cell? ⟨(ad101.add ((x4_1).toNat * 8)).block, (ad101.add ((x4_1).toNat * 8)).off + 5, none⟩ = some (.int .i64 ((rd_T23 l0 x4_1).f5)) ∧ w'.cell? ⟨(ad101.add ((x4_1).toNat * 8)).block, (ad101.add ((x4_1).toNat * 8)).off + 6, none⟩ = some (.string ((rd_T23 l0 x4_1).f6)) ∧ w'.cell? ⟨(ad101.add ((x4_1).toNat * 8)).block, (ad101.add ((x4_1).toNat * 8)).off + 7, none⟩ = some (.int .i64 ((rd_T23 l0 x4_1).f7))) (ds := []) (bq 9 0) (by kernel_rfl) rfl rfl ⟨((HB.out.cell (World.block_lt_of_cell? w _ hw110_0)).trans hw110_0), ((HB.out.cell (World.block_lt_of_cell? w _ hw110_1)).trans hw110_1), ((HB.out.cell (World.block_lt_of_cell? w _ hw110_2)).trans hw110_2), ((HB.out.cell (World.block_lt_of_cell? w _ hw110_3)).trans hw110_3), ((HB.out.cell (World.block_lt_of_cell? w _ hw110_4)).trans hw110_4), ((HB.out.cell (World.block_lt_of_cell? w _ hw110_5)).trans hw110_5), ((HB.out.cell (World.block_lt_of_cell? w _ hw110_6)).trans hw110_6), ((HB.out.cell (World.block_lt_of_cell? w _ hw110_7)).trans hw110_7)⟩ (fun hHeld => ?_); refine with_tabW F15.tab12 F15.bits12 (fun HT_ HW_ => ?_); generalize w18.drew = w19 at HB HR109 hx110_0 hx110_1 hx110_2 hx110_3 hx110_4 hx110_5 hx110_6 hx110_7 hHeld ⊢; refine pv_ 0 40 (bq 9 1) HT_ ?_; refine pv_ 1 41 (bq 9 3) HT_ ?_; refine pv_ 2 42 (bq 9 7) HT_ ?_; refine pv_ 3 43 (bq 9 15) HT_ ?_; refine pv_ 4 44 (bq 9 31) HT_ ?_; refine pv_ 5 45 (bq 9 63) HT_ ?_; refine take_ (i := 6) (N := some 46) (v := ?_) (a' := ?_) (bq 9 127) rfl rfl (take_ofW HT_.out HW_.out (by kernel_rfl)) (fun _ _ _ h => h) (Or.inl ⟨by rfl, ?_⟩) hHeld ?_ ?_; rotate_left
           ·rintro w' ⟨s0, s1, s2, s3, s4, s5, s6, s7⟩; go_simp; (with_reducible rfl)
           rotate_left
           ·exact cbb2_0
           refine one_ (i := 7) (N := some 47) (bq 9 255) rfl rfl (one_of HT_.out (by kernel_rfl)) (by decide) (fun K hK => ?_); refine goes_ Tryd.func38 (by kernel_rfl) rfl #[.slice (some ad101) y106.length c0, .agg #[.int .i64 ((rd_T23 l0 x4_1).f0), .int .i64 ((rd_T23 l0 x4_1).f1), .string ((rd_T23 l0 x4_1).f2), .int .i64 ((rd_T23 l0 x4_1).f3), .int .i64 ((rd_T23 l0 x4_1).f4), .int .i64 ((rd_T23 l0 x4_1).f5), .string ((rd_T23 l0 x4_1).f6), .int .i64 ((rd_T23 l0 x4_1).f7)]] (by rfl) rfl rfl pbb2_2 ?_; (with_reducible refine (F38.calls k1 _ _ y106 ((rd_T23 l0 x4_1).f0) ((rd_T23 l0 x4_1).f1) ((rd_T23 l0 x4_1).f2) ((rd_T23 l0 x4_1).f3) ((rd_T23 l0 x4_1).f4) ((rd_T23 l0 x4_1).f5) ((rd_T23 l0 x4_1).f6) ((rd_T23 l0 x4_1).f7) t111 _ ?side1 ?side2 A12.out).mono ?_); (case side1 => repeat (first | exact (Kd.C_below HR109.out HB.out) | (with_reducible refine Kd.C_alloc ?_ _) | (with_reducible refine Kd.C_drewN ?_ _) | (with_reducible refine Kd.C_drew ?_))); (case side2 => exact HC109.out); rintro e w21 ⟨rfl, hb⟩; refine ⟨_, rfl, ?_⟩; replace HB := Aside0.mk (below_step pbb2_3 hb); (try clear hb); (try clear hb2); (try clear hk); (try clear hi); refine hK.out _ _ ⟨((HB.out.cell (World.block_lt_of_cell? w _ hw110_0)).trans hw110_0), ((HB.out.cell (World.block_lt_of_cell? w _ hw110_1)).trans hw110_1), ((HB.out.cell (World.block_lt_of_cell? w _ hw110_2)).trans hw110_2), ((HB.out.cell (World.block_lt_of_cell? w _ hw110_3)).trans hw110_3), ((HB.out.cell (World.block_lt_of_cell? w _ hw110_4)).trans hw110_4), ((HB.out.cell (World.block_lt_of_cell? w _ hw110_5)).trans hw110_5), ((HB.out.cell (World.block_lt_of_cell? w _ hw110_6)).trans hw110_6), ((HB.out.cell (World.block_lt_of_cell? w _ hw110_7)).trans hw110_7)⟩ (fun hHeld => ?_); clear hK K; refine norm_ (a' := ?_) ?_ ?_; rotate_left
           ·show Act.put _ (some 47) _ = _; simp only [Act.put, List.setIfInBounds_toArray, List.set_cons_zero, List.set_cons_succ, i64_w, i32_w]
            rfl
           refine pv_ 8 6 (bq 9 511) HT_ ?_; refine done_ (done_of HT_.out (by kernel_rfl)) ?_; (try go_wp2)
           go_ret2
           exact ⟨pbb2_5, pbb2_3⟩
         ·rw [if_neg c11] at H; exact absurd H (by simp)
        ·replace c9 := Bool.eq_false_iff.mpr c9; subst c9; rw [if_neg (show ¬ (false = true) by decide)] at H; have H' := Aside0.mk H; clear H; have p101 : 0 ≤ (x4_1 : Int) := of_decide_eq_true pbb2_4; have q101 : x4_1 < (l0.length : Int) := of_decide_eq_true pbb2_4; obtain ⟨ad101, e101, hx101_0, hx101_1, hx101_2, hx101_3, hx101_4, hx101_5, hx101_6, hx101_7⟩ := up8 HB.out (at_T23 HR0.out x4_1 p101 q101)
         cases e101
         replace p101 := eq_true p101; replace q101 := eq_true q101; have p102 : 0 ≤ (x4_1 : Int) := of_decide_eq_true pbb2_4; have q102 : x4_1 < (l0.length : Int) := of_decide_eq_true pbb2_4; obtain ⟨ad102, e102, hx102_0, hx102_1, hx102_2, hx102_3, hx102_4, hx102_5, hx102_6, hx102_7⟩ := up8 HB.out (at_T23 HR0.out x4_1 p102 q102); obtain rfl : ad101 = ad102 := (by injection e102); replace p102 := eq_true p102; replace q102 := eq_true q102
         go_wp2_with (first | ((with_reducible refine gate_callee (f := 13) rfl ?_); refine goesL_ (some 29) rfl rfl Tryd.func13 (by kernel_rfl) rfl #[.agg #[.int .i64 ((rd_T23 l0 x4_1).f0), .int .i64 ((rd_T23 l0 x4_1).f1), .string ((rd_T23 l0 x4_1).f2), .int .i64 ((rd_T23 l0 x4_1).f3), .int .i64 ((rd_T23 l0 x4_1).f4), .int .i64 ((rd_T23 l0 x4_1).f5), .string ((rd_T23 l0 x4_1).f6), .int .i64 ((rd_T23 l0 x4_1).f7)]] rfl pbb2_2 ?_; (with_reducible refine (F13.calls k1 ((rd_T23 l0 x4_1).f0) ((rd_T23 l0 x4_1).f1) ((rd_T23 l0 x4_1).f2) ((rd_T23 l0 x4_1).f3) ((rd_T23 l0 x4_1).f4) ((rd_T23 l0 x4_1).f5) ((rd_T23 l0 x4_1).f6) ((rd_T23 l0 x4_1).f7) t103 _ A6.out).mono ?_); rintro e w22 ⟨rfl, hb⟩; refine ⟨_, rfl, ?_⟩; replace HB := Aside0.mk (below_step pbb2_3 hb); (try clear hb); (try clear hb2); (try clear hk); (try clear hi); have p104 : 0 ≤ (x4_1 : Int) := of_decide_eq_true pbb2_4; have q104 : x4_1 < (l0.length : Int) := of_decide_eq_true pbb2_4; obtain ⟨ad104, e104, hx104_0, hx104_1, hx104_2, hx104_3, hx104_4, hx104_5, hx104_6, hx104_7⟩ := up8 HB.out (at_T23 HR0.out x4_1 p104 q104); obtain rfl : ad101 = ad104 := (by injection e104); replace p104 := eq_true p104; replace q104 := eq_true q104) | ((with_reducible refine gate_callee (f := 36) rfl ?_); refine goesL_ (some 39) rfl rfl Tryd.func36 (by kernel_rfl) rfl #[.int .i64 ((rd_T23 l0 x4_1).f3)] rfl pbb2_2 ?_; (with_reducible refine (F36.calls ((rd_T23 l0 x4_1).f3) false _ A8.out).mono ?_); rintro e w' ⟨rfl, ⟨nd, rfl⟩⟩; refine ⟨_, rfl, ?_⟩))
         go_roundg k1
         case measure => have := HK1.out; omega
         case rel => exact ⟨(wrap64 (x4_1 + 1)), pbb2_0, H', ⟨pbb6_1⟩, ⟨pbb2_3⟩⟩
       ·rw [if_neg c7] at H; have c7b0 := nF_ c7; have c7b1 := nT_ c7; simp only [Option.some.injEq, Prod.mk.injEq] at H; obtain ⟨rfl, rfl⟩ := H; have p101 : 0 ≤ (x4_1 : Int) := of_decide_eq_true pbb2_4; have q101 : x4_1 < (l0.length : Int) := of_decide_eq_true pbb2_4; obtain ⟨ad101, e101, hx101_0, hx101_1, hx101_2, hx101_3, hx101_4, hx101_5, hx101_6, hx101_7⟩ := up8 HB.out (at_T23 HR0.out x4_1 p101 q101)
        cases e101
        replace p101 := eq_true p101; replace q101 := eq_true q101; have p102 : 0 ≤ (x4_1 : Int) := of_decide_eq_true pbb2_4; have q102 : x4_1 < (l0.length : Int) := of_decide_eq_true pbb2_4; obtain ⟨ad102, e102, hx102_0, hx102_1, hx102_2, hx102_3, hx102_4, hx102_5, hx102_6, hx102_7⟩ := up8 HB.out (at_T23 HR0.out x4_1 p102 q102); obtain rfl : ad101 = ad102 := (by injection e102); replace p102 := eq_true p102; replace q102 := eq_true q102
        go_wp2_with (first | ((with_reducible refine gate_callee (f := 13) rfl ?_); refine goesL_ (some 29) rfl rfl Tryd.func13 (by kernel_rfl) rfl #[.agg #[.int .i64 ((rd_T23 l0 x4_1).f0), .int .i64 ((rd_T23 l0 x4_1).f1), .string ((rd_T23 l0 x4_1).f2), .int .i64 ((rd_T23 l0 x4_1).f3), .int .i64 ((rd_T23 l0 x4_1).f4), .int .i64 ((rd_T23 l0 x4_1).f5), .string ((rd_T23 l0 x4_1).f6), .int .i64 ((rd_T23 l0 x4_1).f7)]] rfl pbb2_2 ?_; (with_reducible refine (F13.calls k1 ((rd_T23 l0 x4_1).f0) ((rd_T23 l0 x4_1).f1) ((rd_T23 l0 x4_1).f2) ((rd_T23 l0 x4_1).f3) ((rd_T23 l0 x4_1).f4) ((rd_T23 l0 x4_1).f5) ((rd_T23 l0 x4_1).f6) ((rd_T23 l0 x4_1).f7) t103 _ A6.out).mono ?_); rintro e w23 ⟨rfl, hb⟩; refine ⟨_, rfl, ?_⟩; replace HB := Aside0.mk (below_step pbb2_3 hb); (try clear hb); (try clear hb2); (try clear hk); (try clear hi)))
        go_ret2
        exact ⟨pbb2_5, pbb2_3⟩
      ·rw [if_neg c5] at H; have c5b0 := nF_ c5; have c5b1 := nT_ c5; simp only [Option.some.injEq, Prod.mk.injEq] at H; obtain ⟨rfl, rfl⟩ := H; have p101 : 0 ≤ (x4_1 : Int) := of_decide_eq_true pbb2_4; have q101 : x4_1 < (l0.length : Int) := of_decide_eq_true pbb2_4; obtain ⟨ad101, e101, hx101_0, hx101_1, hx101_2, hx101_3, hx101_4, hx101_5, hx101_6, hx101_7⟩ := up8 HB.out (at_T23 HR0.out x4_1 p101 q101)
       cases e101
       replace p101 := eq_true p101; replace q101 := eq_true q101
       go_wp2
       go_ret2
       exact ⟨pbb2_5, pbb2_3⟩
     ·rw [if_neg c4] at H; exact absurd H (by simp)
    ·rw [if_neg c3] at H; have c3b0 := decide_eq_false c3; clear c3; simp only [Option.some.injEq, Prod.mk.injEq] at H; obtain ⟨rfl, rfl⟩ := H
     go_wp2
     go_ret2
     exact ⟨pbb2_5, pbb2_3⟩
end Go.Proofs.YtegpappenmhndaaDoor.M
end
section
namespace Go.Proofs.YtegpappenmhndaaDoor.M
open Go.RowKit Go.Proofs.YtegpappenmhndaaDoorW.PrintWords Go.Proofs.YtegpappenmhndaaDoorW.PrintLast
set_option linter.unusedVariables false
set_option linter.unusedSimpArgs false
abbrev rdv (l : List MV) (i : Int) : MV := rd_T23 l i
theorem rdv_at (P R : List MV) (m : MV) (i : Int) (h : i = (P.length : Int)) : rdv (P ++ m :: R) i = m := by
 subst h; simp [rdv, rd_T23]
theorem rdv_mem {l : List MV} {i : Int} (h0 : 0 ≤ i) (h1 : i < l.length) : rdv l i ∈ l := by
 obtain ⟨n, rfl⟩ := Int.eq_ofNat_of_zero_le h0; have hn : n < l.length := by omega
 show l.getD (n : Int).toNat _ ∈ l; rw [Int.toNat_natCast, List.getD_eq_getElem?_getD, List.getElem?_eq_getElem hn]; exact List.getElem_mem hn
def onem (m : MV) : Int := onev m.f1 m.f2 m.f3 m.f4 m.f5 m.f6 m.f7
theorem onev_zero {value : Int} {item : ByteArray} {kind qty cost : Int} {lot : ByteArray} {ref : Int} (h : onev value item kind qty cost lot ref = 0) : dayv value = true ∧ codev item = true ∧ inv kind 1 6 = true ∧ qtyv kind qty = true ∧ cstv kind cost = true ∧ lotv kind lot = true ∧ rfv kind ref = true := by
 unfold onev at h
 by_cases c1 : dayv value = false
 ·rw [if_pos c1] at h; omega
 rw [if_neg c1] at h
 by_cases c2 : codev item = false
 ·rw [if_pos c2] at h; omega
 rw [if_neg c2] at h
 by_cases c3 : inv kind 1 6 = false
 ·rw [if_pos c3] at h; omega
 rw [if_neg c3] at h
 by_cases c4 : (qtyv kind qty && cstv kind cost) = false
 ·rw [if_pos c4] at h; omega
 rw [if_neg c4] at h
 by_cases c5 : lotv kind lot = false
 ·rw [if_pos c5] at h; omega
 rw [if_neg c5] at h
 by_cases c6 : rfv kind ref = false
 ·rw [if_pos c6] at h; omega
 have c4 : (qtyv kind qty && cstv kind cost) = true := by simpa using c4
 rw [Bool.and_eq_true] at c4; exact ⟨by simpa using c1, by simpa using c2, by simpa using c3, c4.1, c4.2, by simpa using c5, by simpa using c6⟩
theorem onev_ok {value : Int} {item : ByteArray} {kind qty cost : Int} {lot : ByteArray} {ref : Int} (h1 : dayv value = true) (h2 : codev item = true) (h3 : inv kind 1 6 = true) (h4 : qtyv kind qty = true) (h5 : cstv kind cost = true) (h6 : lotv kind lot = true) (h7 : rfv kind ref = true) : onev value item kind qty cost lot ref = 0 := by
 unfold onev
 simp [h1, h2, h3, h4, h5, h6, h7]
theorem qty_range {m : MV} (h : onem m = 0) : 0 ≤ m.f4 ∧ m.f4 ≤ 1000000000 ∧ (m.f3 = 5 → m.f4 = 0) ∧ (m.f3 = 1 → 1 ≤ m.f4) ∧ (folv m.f3 = true → 1 ≤ m.f7) := by
 obtain ⟨_, _, h3, h4, _, _, h7⟩ := onev_zero h
 unfold qtyv at h4
 have h8 : folv m.f3 = true → 1 ≤ m.f7 := by
  intro hf
  unfold rfv at h7
  rw [if_pos hf] at h7; exact of_decide_eq_true h7
 by_cases c : m.f3 = 5 ∨ m.f3 = 6
 ·rw [if_pos c] at h4; have := eq_of_beq h4; exact ⟨by omega, by omega, fun _ => this, by omega, h8⟩
 ·rw [if_neg c] at h4; have := of_decide_eq_true h4; exact ⟨by omega, by omega, by omega, by omega, h8⟩
def qsum : List MV → Int → Int → Int
 | [], _, _ => 0
 | y :: r, kind, ref => (if y.f3 = kind ∧ y.f7 = ref then y.f4 else 0) + qsum r kind ref
theorem qsum_app (P : List MV) (m : MV) (kind ref : Int) : qsum (P ++ [m]) kind ref = qsum P kind ref + if m.f3 = kind ∧ m.f7 = ref then m.f4 else 0 := by
 induction P with
 | nil => simp [qsum]
 | cons y r ih => simp only [List.cons_append, qsum, ih]; omega
def Good (P : List MV) : Prop := ∀ y ∈ P, onem y = 0
theorem Good.app {P : List MV} {m : MV} (h : Good P) (hm : onem m = 0) : Good (P ++ [m]) := by
 intro y hy
 rcases List.mem_append.1 hy with h1 | h1
 ·exact h y h1
 ·rw [List.mem_singleton.1 h1]; exact hm
theorem qsum_range : ∀ (P : List MV) (kind ref : Int), Good P → 0 ≤ qsum P kind ref ∧ qsum P kind ref ≤ 1000000000 * (P.length : Int) ∧ (kind = 5 → qsum P kind ref = 0)
 | [], kind, ref, _ => by simp [qsum]
 | y :: r, kind, ref, h => by
  have ih := qsum_range r kind ref (fun z hz => h z (List.mem_cons_of_mem _ hz)); have hy := qty_range (h y (List.mem_cons_self)); simp only [qsum, List.length_cons]
  by_cases c : y.f3 = kind ∧ y.f7 = ref
  ·rw [if_pos c]; refine ⟨by omega, by omega, fun k5 => ?_⟩; have := ih.2.2 k5; have := hy.2.2.1 (by omega)
   omega
  ·rw [if_neg c]; refine ⟨by omega, by omega, fun k5 => ?_⟩; have := ih.2.2 k5
   omega
def trg (kind : Int) : Int := if kind = 3 then 2 else 1
def refv (P : List MV) (m : MV) : Int :=
 if m.f7 > (P.length : Int) then 28
 else if (rdv P (m.f7 - 1)).f2.toList = m.f2.toList ∧ (rdv P (m.f7 - 1)).f3 = trg m.f3 then
  (if m.f1 < (rdv P (m.f7 - 1)).f1 then 17 else if ¬ m.f3 = 5 ∧ m.f4 + qsum P m.f3 m.f7 > (rdv P (m.f7 - 1)).f4 then 21 else 0)
 else 28
def chkv (P : List MV) : List MV → Int × Int
 | [] => (-1, 0)
 | m :: r => if m.f0 = (P.length : Int) + 1 then (if onem m = 0 then (if folv m.f3 = true then (if refv P m = 0 then chkv (P ++ [m]) r else ((P.length : Int), refv P m)) else chkv (P ++ [m]) r) else ((P.length : Int), onem m)) else ((P.length : Int), 17)
def Checkv (l : List MV) : Int × Int := if (l.length : Int) > 2000 then (0, 9) else chkv [] l
def MapOk (L : Rmap) (P : List MV) : Prop := ∀ kind ref, folv kind = true → (aget L (kind, ref)).getD 0 = qsum P kind ref
theorem aget_aput_other {κ ν : Type} [DecidableEq κ] (k k' : κ) (v : ν) (h : k ≠ k') : ∀ L : List (κ × ν), aget (aput L k v) k' = aget L k'
 | [] => by simp [aput, aget, h]
 | p :: r => by
  unfold aput
  by_cases c : p.1 = k
  ·simp only [c, if_true, aget, if_neg h]
  ·simp only [if_neg c, aget, aget_aput_other k k' v h r]
theorem F55.eq (n : Int) : F55.f n = some (trg n) := by
 unfold F55.f trg
 by_cases h : n = 3 <;> simp [h]
theorem F37.eq {P : List MV} {m : MV} {L : Rmap} (hP : Good P) (hl : P.length ≤ 2000) (hm : onem m = 0) (hf : folv m.f3 = true) (hL : MapOk L P) :
  ∃ L', F37.f P m L = some (refv P m, L') ∧ (refv P m = 0 → MapOk L' (P ++ [m])) := by
 have hq := qty_range hm; have h7 := hq.2.2.2.2 hf; have hs := qsum_range P m.f3 m.f7 hP
 unfold F37.f refv
 by_cases c1 : m.f7 > (P.length : Int)
 ·simp only [if_pos c1]; exact ⟨L, rfl, by omega⟩
 simp only [if_neg c1, if_neg (show ¬ m.f7 < 1 by omega), F55.eq, Option.bind_some]
 by_cases c2 : (rdv P (m.f7 - 1)).f2.toList = m.f2.toList
 rotate_left
 ·simp only [if_neg c2, if_neg (show ¬ ((rdv P (m.f7 - 1)).f2.toList = m.f2.toList ∧ (rdv P (m.f7 - 1)).f3 = trg m.f3) from fun h => c2 h.1)]; exact ⟨L, rfl, by omega⟩
 by_cases c3 : (rdv P (m.f7 - 1)).f3 = trg m.f3
 rotate_left
 ·simp only [if_pos c2, if_neg c3, if_neg (show ¬ ((rdv P (m.f7 - 1)).f2.toList = m.f2.toList ∧ (rdv P (m.f7 - 1)).f3 = trg m.f3) from fun h => c3 h.2)]; exact ⟨L, rfl, by omega⟩
 simp only [if_pos c2, if_pos c3, if_pos (show (rdv P (m.f7 - 1)).f2.toList = m.f2.toList ∧ (rdv P (m.f7 - 1)).f3 = trg m.f3 from ⟨c2, c3⟩)]
 by_cases c4 : m.f1 < (rdv P (m.f7 - 1)).f1
 ·simp only [if_pos c4]; exact ⟨L, rfl, by omega⟩
 simp only [if_neg c4]; have hx : onem (rdv P (m.f7 - 1)) = 0 := hP _ (rdv_mem (by omega) (by omega)); have hxq := qty_range hx; have e : (aget L (m.f3, m.f7)).getD 0 = qsum P m.f3 m.f7 := hL _ _ hf; rw [e, w64 (n := qsum P m.f3 m.f7 + m.f4) (by omega) (by omega)]
 have ok : MapOk (aput L (m.f3, m.f7) (qsum P m.f3 m.f7 + m.f4)) (P ++ [m]) := by
  intro kind ref hk; rw [qsum_app]
  by_cases d : m.f3 = kind ∧ m.f7 = ref
  ·rw [if_pos d, ← d.1, ← d.2, aget_aput_same]; rfl
  ·rw [if_neg d, aget_aput_other _ _ _ (by intro h; exact d (Prod.mk.inj h)), hL _ _ hk, Int.add_zero]
 by_cases c5 : m.f3 = 5
 ·have h0 : qsum P m.f3 m.f7 + m.f4 = 0 := by have := hs.2.2 c5; have := hq.2.2.1 c5; omega
  have hx1 : 1 ≤ (rdv P (m.f7 - 1)).f4 := hxq.2.2.2.1 (by rw [c3, c5]; rfl); have h9 : ¬ qsum P m.f3 m.f7 + m.f4 > (rdv P (m.f7 - 1)).f4 := by omega
  simp only [if_neg (show ¬ (¬ m.f3 = 5 ∧ m.f4 + qsum P m.f3 m.f7 > (rdv P (m.f7 - 1)).f4) from fun h => h.1 c5), if_neg h9]; exact ⟨_, rfl, fun _ => ok⟩
 ·by_cases c6 : qsum P m.f3 m.f7 + m.f4 > (rdv P (m.f7 - 1)).f4
  ·simp only [if_pos c6, if_pos (show ¬ m.f3 = 5 ∧ m.f4 + qsum P m.f3 m.f7 > (rdv P (m.f7 - 1)).f4 from ⟨c5, by omega⟩)]; exact ⟨_, rfl, by omega⟩
  ·simp only [if_neg c6, if_neg (show ¬ (¬ m.f3 = 5 ∧ m.f4 + qsum P m.f3 m.f7 > (rdv P (m.f7 - 1)).f4) from fun h => c6 (by omega))]; exact ⟨_, rfl, fun _ => ok⟩
theorem F14.go (l : List MV) (hl : l.length ≤ 2000) : ∀ (R P : List MV) (L : Rmap), P ++ R = l → Good P → MapOk L P → Ev (fun k => chkL k months l R P.length L) (chkv P R)
 | [], P, L, _, _, _ => by simp only [chkL, chkv]; exact Ev.const _
 | m :: R, P, L, e, hP, hL => by
  have hPl : P.length ≤ 2000 := by rw [← e, List.length_append] at hl; omega
  have ht : l.take P.length = P := by rw [← e]; simp
  have hn : (P ++ [m]).length = P.length + 1 := by simp
  simp only [chkL, chkv]
  by_cases c1 : m.f0 = (P.length : Int) + 1
  rotate_left
  ·simp only [if_neg c1]; exact Ev.const _
  simp only [if_pos c1]; refine Ev.bind (F12.eq m.f0 m.f1 m.f2 m.f3 m.f4 m.f5 m.f6 m.f7) ?_; show Ev (fun k => if onem m = 0 then _ else _) _
  by_cases c2 : onem m = 0
  rotate_left
  ·simp only [if_neg c2]; exact Ev.const _
  simp only [if_pos c2, F31.eq, Option.bind_some]
  by_cases c3 : folv m.f3 = true
  ·simp only [if_pos c3, ht]; obtain ⟨L', h1, h2⟩ := F37.eq hP hPl c2 c3 hL; simp only [h1, Option.bind_some]
   by_cases c4 : refv P m = 0
   ·simp only [if_pos c4]; rw [← hn]; exact F14.go l hl R (P ++ [m]) L' (by simpa using e) (hP.app c2) (h2 c4)
   ·simp only [if_neg c4]; exact Ev.const _
  ·simp only [if_neg c3]; rw [← hn]; refine F14.go l hl R (P ++ [m]) L (by simpa using e) (hP.app c2) ?_; intro kind ref hk; rw [qsum_app, if_neg (fun h => c3 (by rw [h.1]; exact hk)), hL _ _ hk, Int.add_zero]
theorem F14.eq (l : List MV) : Ev (fun k => F14.f k l months) (Checkv l) := by
 unfold F14.f Checkv
 by_cases c : l.length > 2000
 ·simp only [if_pos c, if_pos (show (l.length : Int) > 2000 by omega)]; exact Ev.const _
 ·simp only [if_neg c, if_neg (show ¬ (l.length : Int) > 2000 by omega)]; exact F14.go l (by omega) l [] [] rfl (by intro y hy; simp at hy) (by intro a b _; rfl)
theorem F38.go (m x : MV) : ∀ (B A : List MV) (q i : Int), i = (A.length : Int) → Good (A ++ B) → (A ++ B).length ≤ 2000 → 0 ≤ q → q ≤ 1000000000 * (A.length : Int) + 1000000000 →
  Ev (fun k => F38.l0 k (A ++ B) q i m.f0 m.f1 m.f2 m.f3 m.f4 m.f5 m.f6 m.f7 x.f0 x.f1 x.f2 x.f3 x.f4 x.f5 x.f6 x.f7) (if ¬ m.f3 = 5 ∧ q + qsum B m.f3 m.f7 > x.f4 then 21 else 0)
 | [], A, q, i, hi, _, hl, h0, h1 => by
  refine Ev.succ ?_; simp only [List.append_nil] at hl ⊢; simp only [F38.l0, if_neg (show ¬ i < (A.length : Int) by omega), qsum, Int.add_zero]
  by_cases c : m.f3 = 5
  ·simp only [if_pos c, if_neg (show ¬ (¬ m.f3 = 5 ∧ q > x.f4) from fun h => h.1 c)]; exact Ev.const _
  ·simp only [if_neg c]
   by_cases d : q > x.f4
   ·simp only [if_pos d, if_pos (show ¬ m.f3 = 5 ∧ q > x.f4 from ⟨c, d⟩)]; exact Ev.const _
   ·simp only [if_neg d, if_neg (show ¬ (¬ m.f3 = 5 ∧ q > x.f4) from fun h => d h.2)]; exact Ev.const _
 | y :: B, A, q, i, hi, hg, hl, h0, h1 => by
  have hy := qty_range (hg y (by simp)); have hl2 : A.length + (B.length + 1) ≤ 2000 := by simpa using hl
  have ih : ∀ q', 0 ≤ q' → q' ≤ 1000000000 * (A.length : Int) + 2000000000 → _ := fun q' a b => F38.go m x B (A ++ [y]) q' (i + 1) (by simp; omega) (by simpa using hg) (by simpa using hl) a (by simp; omega); refine Ev.succ ?_; simp only [F38.l0, if_pos (show i < ((A ++ y :: B).length : Int) by simp; omega), if_pos (show (0 : Int) ≤ i by omega)]; rw [show rd_T23 (A ++ y :: B) i = y from rdv_at A B y i hi, w64 (n := i + 1) (by omega) (by omega)]; rw [show A ++ y :: B = (A ++ [y]) ++ B by simp]; simp only [qsum]
  by_cases c : y.f3 = m.f3
  ·simp only [if_pos c]
   by_cases d : y.f7 = m.f7
   ·simp only [if_pos d, if_pos (show y.f3 = m.f3 ∧ y.f7 = m.f7 from ⟨c, d⟩)]; rw [w64 (n := q + y.f4) (by omega) (by omega), ← Int.add_assoc]; exact ih (q + y.f4) (by omega) (by omega)
   ·simp only [if_neg d, if_neg (show ¬ (y.f3 = m.f3 ∧ y.f7 = m.f7) from fun h => d h.2), Int.zero_add]; exact ih q (by omega) (by omega)
  ·simp only [if_neg c, if_neg (show ¬ (y.f3 = m.f3 ∧ y.f7 = m.f7) from fun h => c h.1), Int.zero_add]; exact ih q (by omega) (by omega)
theorem F38.eq {P : List MV} {m : MV} (hP : Good P) (hl : P.length ≤ 2000) (hm : onem m = 0) (hf : folv m.f3 = true) :
  Ev (fun k => F38.f k P m.f0 m.f1 m.f2 m.f3 m.f4 m.f5 m.f6 m.f7) (refv P m) := by
 have hq := qty_range hm; have h7 := hq.2.2.2.2 hf
 unfold F38.f refv
 by_cases c1 : m.f7 > (P.length : Int)
 ·simp only [if_pos c1]; exact Ev.const _
 simp only [if_neg c1]; rw [w64 (n := m.f7 - 1) (by omega) (by omega)]; simp only [if_pos (show (0 : Int) ≤ m.f7 - 1 by omega), if_pos (show m.f7 - 1 < (P.length : Int) by omega)]
 have fin : ∀ t : Int, t = trg m.f3 → Ev (fun k => F38.j0 k P t m.f0 m.f1 m.f2 m.f3 m.f4 m.f5 m.f6 m.f7 (rdv P (m.f7 - 1)).f0 (rdv P (m.f7 - 1)).f1 (rdv P (m.f7 - 1)).f2 (rdv P (m.f7 - 1)).f3 (rdv P (m.f7 - 1)).f4 (rdv P (m.f7 - 1)).f5 (rdv P (m.f7 - 1)).f6 (rdv P (m.f7 - 1)).f7)
   (if (rdv P (m.f7 - 1)).f2.toList = m.f2.toList ∧ (rdv P (m.f7 - 1)).f3 = trg m.f3 then (if m.f1 < (rdv P (m.f7 - 1)).f1 then 17 else if ¬ m.f3 = 5 ∧ m.f4 + qsum P m.f3 m.f7 > (rdv P (m.f7 - 1)).f4 then 21 else 0) else 28) := by
  intro t ht; subst ht; refine Ev.succ ?_
  by_cases c2 : (rdv P (m.f7 - 1)).f2.toList = m.f2.toList
  rotate_left
  ·simp only [F38.j0, if_neg c2, if_neg (show ¬ ((rdv P (m.f7 - 1)).f2.toList = m.f2.toList ∧ (rdv P (m.f7 - 1)).f3 = trg m.f3) from fun h => c2 h.1)]; refine Ev.succ ?_; simp only [F38.j1, if_true]; exact Ev.const _
  simp only [F38.j0, if_pos c2]; refine Ev.succ ?_
  by_cases c3 : (rdv P (m.f7 - 1)).f3 = trg m.f3
  rotate_left
  ·simp only [F38.j1, bne_iff_ne.2 c3, if_true, if_neg (show ¬ ((rdv P (m.f7 - 1)).f2.toList = m.f2.toList ∧ (rdv P (m.f7 - 1)).f3 = trg m.f3) from fun h => c3 h.2)]; exact Ev.const _
  simp only [F38.j1, bne_eq_false_iff_eq.2 c3, Bool.false_eq_true, if_false, if_pos (show (rdv P (m.f7 - 1)).f2.toList = m.f2.toList ∧ (rdv P (m.f7 - 1)).f3 = trg m.f3 from ⟨c2, c3⟩)]
  by_cases c4 : m.f1 < (rdv P (m.f7 - 1)).f1
  ·simp only [if_pos c4]; exact Ev.const _
  simp only [if_neg c4]; exact F38.go m (rdv P (m.f7 - 1)) P [] m.f4 0 rfl hP hl (by omega) (by simp; omega)
 by_cases c : m.f3 = 3
 ·simp only [if_pos c]; exact fin 2 (by simp [trg, c])
 ·simp only [if_neg c]; exact fin 1 (by simp [trg, c])
theorem F15.go (l : List MV) (hl : l.length ≤ 2000) (hz : ∀ y ∈ l, y.f2.size ≤ 1000000000000000 ∧ y.f6.size ≤ 1000000000000000) : ∀ (R P : List MV), P ++ R = l → Good P → Ev (fun k => F15.l0 k l (P.length : Int)) (chkv P R)
 | [], P, e, _ => by
  refine Ev.succ ?_; have : P.length = l.length := by rw [← e]; simp
  simp only [F15.l0, chkv, if_neg (show ¬ (P.length : Int) < (l.length : Int) by omega)]; exact Ev.const _
 | m :: R, P, e, hP => by
  have hPl : P.length + (R.length + 1) = l.length := by rw [← e]; simp
  have ht : l.take P.length = P := by rw [← e]; simp
  have hn : (P ++ [m]).length = P.length + 1 := by simp
  have hr : rd_T23 l (P.length : Int) = m := by rw [← e]; exact rdv_at P R m _ rfl
  have hzm := hz m (by rw [← e]; simp); refine Ev.succ ?_; simp only [F15.l0, chkv, if_pos (show (P.length : Int) < (l.length : Int) by omega), if_pos (show (0 : Int) ≤ (P.length : Int) by omega), hr]; rw [w64 (n := (P.length : Int) + 1) (by omega) (by omega)]
  by_cases c1 : m.f0 = (P.length : Int) + 1
  rotate_left
  ·simp only [if_neg c1]; exact Ev.const _
  simp only [if_pos c1]; refine Ev.bind (F13.eq m.f0 m.f1 m.f2 m.f3 m.f4 m.f5 m.f6 m.f7 hzm.1 hzm.2) ?_; show Ev (fun k => if onem m = 0 then _ else _) _
  by_cases c2 : onem m = 0
  rotate_left
  ·simp only [if_neg c2]; exact Ev.const _
  simp only [if_pos c2, F36.eq, Option.bind_some, if_pos (show (P.length : Int) ≤ (l.length : Int) by omega), Int.toNat_natCast, ht]; rw [show (P.length : Int) + 1 = ((P ++ [m]).length : Int) by rw [hn]; omega]
  by_cases c3 : folv m.f3 = true
  ·simp only [if_pos c3]; refine Ev.bind (F38.eq hP (by omega) c2 c3) ?_
   by_cases c4 : refv P m = 0
   ·simp only [if_pos c4]; exact F15.go l hl hz R (P ++ [m]) (by simpa using e) (hP.app c2)
   ·simp only [if_neg c4]; exact Ev.const _
  ·simp only [if_neg c3]; exact F15.go l hl hz R (P ++ [m]) (by simpa using e) (hP.app c2)
theorem F15.eq (l : List MV) (hz : ∀ y ∈ l, y.f2.size ≤ 1000000000000000 ∧ y.f6.size ≤ 1000000000000000) : Ev (fun k => F15.f k l) (Checkv l) := by
 unfold F15.f Checkv
 by_cases c : (l.length : Int) > 2000
 ·simp only [if_pos c]; exact Ev.const _
 ·simp only [if_neg c]; exact F15.go l (by omega) hz l [] rfl (by intro y hy; simp at hy)
end Go.Proofs.YtegpappenmhndaaDoor.M
end
section
namespace Go.Proofs.YtegpappenmhndaaDoor.M
open Go.RowKit Go.Proofs.YtegpappenmhndaaDoorW.PrintWords Go.Proofs.YtegpappenmhndaaDoorW.PrintLast Go.Proofs.YtegpappenmhndaaDoorW.PrintMore
attribute [local go_sem] max2_int min2_int max_two min_two max_three min_three max_four min_four
set_option linter.unusedVariables false
set_option linter.unusedSimpArgs false
mutual
def F45.l0 : Nat → List (S23) → List Int → Int → Int → Option (Int)
  | 0, _, _, _, _ => none
  | k + 1, x0, x1, x2, x7 => if x7 < (x1.length : Int) then (if 0 ≤ x7 then (if (rd x1 x7) < 1 then (F45.j1 k x0 x1 x2 x7 true) else (if (rd x1 x7) > (x0.length : Int) then (F45.j1 k x0 x1 x2 x7 true) else (if 0 ≤ (wrap64 ((rd x1 x7) - 1)) then (if (wrap64 ((rd x1 x7) - 1)) < (x0.length : Int) then (F45.j1 k x0 x1 x2 x7 (((rd_T23 x0 (wrap64 ((rd x1 x7) - 1))).f3) != 1)) else (none)) else (none)))) else (none)) else (some 0)
def F45.j1 : Nat → List (S23) → List Int → Int → Int → Bool → Option (Int)
  | 0, _, _, _, _, _ => none
  | k + 1, x0, x1, x2, x7, x40 => if x40 = true then (some 28) else (F45.l1 k x0 x1 x2 x7 0)
def F45.l1 : Nat → List (S23) → List Int → Int → Int → Int → Option (Int)
  | 0, _, _, _, _, _ => none
  | k + 1, x0, x1, x2, x7, x8 => if x8 < x7 then (if 0 ≤ x8 then (if x8 < (x1.length : Int) then (if 0 ≤ x7 then (if x7 < (x1.length : Int) then (if (rd x1 x8) = (rd x1 x7) then (some 8) else (F45.l1 k x0 x1 x2 x7 (wrap64 (x8 + 1)))) else (none)) else (none)) else (none)) else (none)) else (if 0 ≤ x7 then (if x7 < (x1.length : Int) then (if 0 ≤ (wrap64 ((rd x1 x7) - 1)) then (if (wrap64 ((rd x1 x7) - 1)) < (x0.length : Int) then (if x2 < ((rd_T23 x0 (wrap64 ((rd x1 x7) - 1))).f1) then (some 17) else (F45.l0 k x0 x1 x2 (wrap64 (x7 + 1)))) else (none)) else (none)) else (none)) else (none))
end
def F45.f (k : Nat) (l0 : List (S23)) (l1 : List Int) (a2 : Int) : Option (Int) := F45.l0 k l0 l1 a2 0
set_option maxHeartbeats 8000000 in
set_option maxRecDepth 100000 in
theorem F45.calls (k : Nat) (A0 : Option Addr) (c0 : Nat) (l0 : List (S23)) (A1 : Option Addr) (c1 : Nat) (l1 : List Int) (a2 : Int) (r : Int) (w : World) (hr0 : Kd.C k23 w A0 l0.length l0) (hc0 : l0.length ≤ c0) (hr1 : Kd.C (Kd.int .i64) w A1 l1.length l1) (hc1 : l1.length ≤ c1) (h : F45.f k l0 l1 a2 = some r) :
    Calls Tryd.prog 45 #[.slice A0 l0.length c0, .slice A1 l1.length c1, .int .i64 a2] w fun e w' => e = .returned (.int .i64 r) ∧ Drawn0 w w' := by
 have hu3 := Tryd.underlying3; have HR0 := Aside0.mk hr0; have HC0 := Aside0.mk hc0; clear hr0 hc0; have HR1 := Aside0.mk hr1; have HC1 := Aside0.mk hc1; clear hr1 hc1
 unfold F45.f at h
 have H := h; clear h; have H' := Aside0.mk H; clear H; go_enter Tryd.func45, Tryd.ntmps45
 go_wp2
 repeat (go_quiet (fail); try go_wp2)
 go_loopg [7] k (fun kq v7 w' => ∃ (x7_1 : Int), v7 = .int .i64 x7_1 ∧ Aside0 (F45.l0 kq l0 l1 a2 x7_1 = some r) ∧ Aside0 (kq ≤ k) ∧ Drawn0 w w')
 case atStart => exact ⟨(0), pbb2_0, H', ⟨Nat.le_refl _⟩, pbb2_1⟩
 case round =>
  clear H'; obtain ⟨x7_1, rfl, HA, HK1, ⟨m1, rfl⟩⟩ := hrel
  cases gk with
  | zero => exact absurd HA.out (by simp [F45.l0])
  | succ k1 =>
   have H := HA.out; clear HA; simp only [F45.l0] at H
   by_cases c4 : x7_1 < (l1.length : Int)
   ·rw [if_pos c4] at H; have c4b0 := decide_eq_true c4; clear c4; have HC5 := Aside0.mk H; clear H
    go_upto_region 4 with (fail)
    repeat (go_quiet (fail); go_upto_region 4 with (fail))
    go_cut [40] (fun v40 wc => ∃ (kq : Nat) (x40_4 : Bool), v40 = .bool x40_4 ∧ Aside0 (F45.j1 kq l0 l1 a2 x7_1 x40_4 = some r) ∧ Aside0 (kq ≤ k1) ∧ Drawn0 w wc)
    case first =>
     have H := HC5.out; clear HC5
     by_cases c6 : 0 ≤ x7_1
     ·rw [if_pos c6] at H; have c6b0 := decide_eq_true c6; clear c6; (first | rw [c6b0] | (simp only [i64_w, i32_w]; rw [c6b0]) | skip)
      by_cases c7 : (rd l1 x7_1) < 1
      ·rw [if_pos c7] at H; have c7b0 := decide_eq_true c7; clear c7; have H' := Aside0.mk H; clear H; have p101 : 0 ≤ (x7_1 : Int) := of_decide_eq_true pbb2_4; have q101 : x7_1 < (l1.length : Int) := of_decide_eq_true pbb2_4; obtain ⟨ad101, e101, hx101_0⟩ := Kd.at_int HR1.out x7_1 p101 q101
       cases e101
       replace p101 := eq_true p101; replace q101 := eq_true q101
       go_wp2
       repeat (go_quiet (fail); try go_wp2)
       go_meet
       case rel => exact ⟨_, (true), pbb2_0, H', ⟨by have := HK1.out; first | omega | exact Nat.le_refl _⟩, pbb2_1⟩
      ·rw [if_neg c7] at H; have c7b0 := decide_eq_false c7; clear c7
       by_cases c8 : (rd l1 x7_1) > (l0.length : Int)
       ·rw [if_pos c8] at H; have c8b0 : decide ((l0.length : Int) < (rd l1 x7_1)) = true := decide_eq_true c8; clear c8; have H' := Aside0.mk H; clear H; have p101 : 0 ≤ (x7_1 : Int) := of_decide_eq_true pbb2_4; have q101 : x7_1 < (l1.length : Int) := of_decide_eq_true pbb2_4; obtain ⟨ad101, e101, hx101_0⟩ := Kd.at_int HR1.out x7_1 p101 q101
        cases e101
        replace p101 := eq_true p101; replace q101 := eq_true q101; have p102 : 0 ≤ (x7_1 : Int) := of_decide_eq_true pbb2_4; have q102 : x7_1 < (l1.length : Int) := of_decide_eq_true pbb2_4; obtain ⟨ad102, e102, hx102_0⟩ := Kd.at_int HR1.out x7_1 p102 q102; obtain rfl : ad101 = ad102 := (by injection e102); replace p102 := eq_true p102; replace q102 := eq_true q102
        go_wp2
        repeat (go_quiet (fail); try go_wp2)
        go_meet
        case rel => exact ⟨_, (true), pbb2_0, H', ⟨by have := HK1.out; first | omega | exact Nat.le_refl _⟩, pbb2_1⟩
       ·rw [if_neg c8] at H; have c8b0 : decide ((l0.length : Int) < (rd l1 x7_1)) = false := decide_eq_false c8; clear c8; obtain ⟨ji9, hji9⟩ : ∃ j_ : Int, (wrap64 ((rd l1 x7_1) - 1)) = j_ := ⟨_, rfl⟩; (first | rw [hji9] at H | simp only [hji9] at H); have hji9w : (IntKind.i64.wrap ((rd l1 x7_1) - 1)) = ji9 := (i64_w _).trans hji9
        by_cases c10 : 0 ≤ (ji9)
        ·rw [if_pos c10] at H; have c10b0 := decide_eq_true c10; clear c10
         by_cases c11 : (ji9) < (l0.length : Int)
         ·rw [if_pos c11] at H; have c11b0 := decide_eq_true c11; clear c11; have H' := Aside0.mk H; clear H; have p101 : 0 ≤ (x7_1 : Int) := of_decide_eq_true pbb2_4; have q101 : x7_1 < (l1.length : Int) := of_decide_eq_true pbb2_4; obtain ⟨ad101, e101, hx101_0⟩ := Kd.at_int HR1.out x7_1 p101 q101
          cases e101
          replace p101 := eq_true p101; replace q101 := eq_true q101; have p102 : 0 ≤ (x7_1 : Int) := of_decide_eq_true pbb2_4; have q102 : x7_1 < (l1.length : Int) := of_decide_eq_true pbb2_4; obtain ⟨ad102, e102, hx102_0⟩ := Kd.at_int HR1.out x7_1 p102 q102; obtain rfl : ad101 = ad102 := (by injection e102); replace p102 := eq_true p102; replace q102 := eq_true q102; have p103 : 0 ≤ (x7_1 : Int) := of_decide_eq_true pbb2_4; have q103 : x7_1 < (l1.length : Int) := of_decide_eq_true pbb2_4; obtain ⟨ad103, e103, hx103_0⟩ := Kd.at_int HR1.out x7_1 p103 q103; obtain rfl : ad101 = ad103 := (by injection e103); replace p103 := eq_true p103; replace q103 := eq_true q103; have p104 : 0 ≤ ((ji9) : Int) := of_decide_eq_true pbb2_4; have q104 : (ji9) < (l0.length : Int) := of_decide_eq_true pbb2_4; obtain ⟨ad104, e104, hx104_0, hx104_1, hx104_2, hx104_3, hx104_4, hx104_5, hx104_6, hx104_7⟩ := at_T23 HR0.out (ji9) p104 q104
          cases e104
          replace p104 := eq_true p104; replace q104 := eq_true q104
          go_wp2
          repeat (go_quiet (fail); try go_wp2)
          go_meet
          case rel => exact ⟨_, ((((rd_T23 l0 (ji9)).f3) != 1)), (by first | rfl | (simp; done) | (simp only [← hji9] <;> (first | rfl | simp)) | (simp [*]; done)), H', ⟨by have := HK1.out; first | omega | exact Nat.le_refl _⟩, pbb2_1⟩
         ·rw [if_neg c11] at H; exact absurd H (by simp)
        ·rw [if_neg c10] at H; exact absurd H (by simp)
     ·rw [if_neg c6] at H; exact absurd H (by simp)
    case rest =>
     clear HC5; obtain ⟨kq, x40_4, rfl, HA, HJ4, ⟨mc4, rfl⟩⟩ := hcut
     cases kq with
     | zero => exact absurd HA.out (by simp [F45.j1])
     | succ kj4 =>
      have H := HA.out; clear HA; simp only [F45.j1] at H
      by_cases c12 : x40_4 = true
      ·subst c12; rw [if_pos rfl] at H; obtain rfl := Option.some.inj H
       go_wp2
       repeat (go_quiet (fail); try go_wp2)
       go_ret
       exact ⟨pbb2_0, pbb2_1⟩
      ·replace c12 := Bool.eq_false_iff.mpr c12; subst c12; rw [if_neg (show ¬ (false = true) by decide)] at H; have H' := Aside0.mk H; clear H
       go_wp2
       repeat (go_quiet (fail); try go_wp2)
       go_loopg [8] kj4 (fun kq v8 w' => ∃ (x8_3 : Int), v8 = .int .i64 x8_3 ∧ Aside0 (F45.l1 kq l0 l1 a2 x7_1 x8_3 = some r) ∧ Aside0 (kq ≤ kj4) ∧ Drawn0 w w')
       case atStart => exact ⟨(0), pbb2_0, H', ⟨Nat.le_refl _⟩, pbb2_1⟩
       case round =>
        clear H'; obtain ⟨x8_3, rfl, HA, HK3, ⟨m3, rfl⟩⟩ := hrel
        cases gk with
        | zero => exact absurd HA.out (by simp [F45.l1])
        | succ k3 =>
         have H := HA.out; clear HA; simp only [F45.l1] at H
         by_cases c13 : x8_3 < x7_1
         ·rw [if_pos c13] at H; have c13b0 := decide_eq_true c13; clear c13
          by_cases c14 : 0 ≤ x8_3
          ·rw [if_pos c14] at H; have c14b0 := decide_eq_true c14; clear c14
           by_cases c15 : x8_3 < (l1.length : Int)
           ·rw [if_pos c15] at H; have c15b0 := decide_eq_true c15; clear c15
            by_cases c16 : 0 ≤ x7_1
            ·rw [if_pos c16] at H; have c16b0 := decide_eq_true c16; clear c16
             by_cases c17 : x7_1 < (l1.length : Int)
             ·rw [if_pos c17] at H; have c17b0 := decide_eq_true c17; clear c17
              by_cases c18 : (rd l1 x8_3) = (rd l1 x7_1)
              ·rw [if_pos c18] at H; have c18b0 := bT_ c18; have c18b1 := bF_ c18; clear c18; obtain rfl := Option.some.inj H; have p105 : 0 ≤ (x8_3 : Int) := of_decide_eq_true pbb2_4; have q105 : x8_3 < (l1.length : Int) := of_decide_eq_true pbb2_4; obtain ⟨ad105, e105, hx105_0⟩ := Kd.at_int HR1.out x8_3 p105 q105
               cases e105
               replace p105 := eq_true p105; replace q105 := eq_true q105; have p106 : 0 ≤ (x7_1 : Int) := of_decide_eq_true pbb2_4; have q106 : x7_1 < (l1.length : Int) := of_decide_eq_true pbb2_4; obtain ⟨ad106, e106, hx106_0⟩ := Kd.at_int HR1.out x7_1 p106 q106; obtain rfl : ad105 = ad106 := (by injection e106); replace p106 := eq_true p106; replace q106 := eq_true q106
               go_wp2
               repeat (go_quiet (fail); try go_wp2)
               go_ret
               exact ⟨pbb2_0, pbb2_1⟩
              ·rw [if_neg c18] at H; have c18b0 := nF_ c18; have c18b1 := nT_ c18; have H' := Aside0.mk H; clear H; have p105 : 0 ≤ (x8_3 : Int) := of_decide_eq_true pbb2_4; have q105 : x8_3 < (l1.length : Int) := of_decide_eq_true pbb2_4; obtain ⟨ad105, e105, hx105_0⟩ := Kd.at_int HR1.out x8_3 p105 q105
               cases e105
               replace p105 := eq_true p105; replace q105 := eq_true q105; have p106 : 0 ≤ (x7_1 : Int) := of_decide_eq_true pbb2_4; have q106 : x7_1 < (l1.length : Int) := of_decide_eq_true pbb2_4; obtain ⟨ad106, e106, hx106_0⟩ := Kd.at_int HR1.out x7_1 p106 q106; obtain rfl : ad105 = ad106 := (by injection e106); replace p106 := eq_true p106; replace q106 := eq_true q106
               go_wp2
               repeat (go_quiet (fail); try go_wp2)
               go_roundg k3
               case measure => have := HK1.out; have := HJ4.out; have := HK3.out; omega
               case rel => exact ⟨(wrap64 (x8_3 + 1)), pbb2_0, H', ⟨by have := HK1.out; have := HJ4.out; have := HK3.out; omega⟩, pbb2_1⟩
             ·rw [if_neg c17] at H; exact absurd H (by simp)
            ·rw [if_neg c16] at H; exact absurd H (by simp)
           ·rw [if_neg c15] at H; exact absurd H (by simp)
          ·rw [if_neg c14] at H; exact absurd H (by simp)
         ·rw [if_neg c13] at H; have c13b0 := decide_eq_false c13; clear c13
          by_cases c19 : 0 ≤ x7_1
          ·rw [if_pos c19] at H; have c19b0 := decide_eq_true c19; clear c19
           by_cases c20 : x7_1 < (l1.length : Int)
           ·rw [if_pos c20] at H; have c20b0 := decide_eq_true c20; clear c20; obtain ⟨ji21, hji21⟩ : ∃ j_ : Int, (wrap64 ((rd l1 x7_1) - 1)) = j_ := ⟨_, rfl⟩; (first | rw [hji21] at H | simp only [hji21] at H); have hji21w : (IntKind.i64.wrap ((rd l1 x7_1) - 1)) = ji21 := (i64_w _).trans hji21
            by_cases c22 : 0 ≤ (ji21)
            ·rw [if_pos c22] at H; have c22b0 := decide_eq_true c22; clear c22
             by_cases c23 : (ji21) < (l0.length : Int)
             ·rw [if_pos c23] at H; have c23b0 := decide_eq_true c23; clear c23
              by_cases c24 : a2 < ((rd_T23 l0 (ji21)).f1)
              ·rw [if_pos c24] at H; have c24b0 := decide_eq_true c24; clear c24; obtain rfl := Option.some.inj H; have p107 : 0 ≤ (x7_1 : Int) := of_decide_eq_true pbb2_4; have q107 : x7_1 < (l1.length : Int) := of_decide_eq_true pbb2_4; obtain ⟨ad107, e107, hx107_0⟩ := Kd.at_int HR1.out x7_1 p107 q107
               cases e107
               replace p107 := eq_true p107; replace q107 := eq_true q107; have p108 : 0 ≤ ((ji21) : Int) := of_decide_eq_true pbb2_4; have q108 : (ji21) < (l0.length : Int) := of_decide_eq_true pbb2_4; obtain ⟨ad108, e108, hx108_0, hx108_1, hx108_2, hx108_3, hx108_4, hx108_5, hx108_6, hx108_7⟩ := at_T23 HR0.out (ji21) p108 q108
               cases e108
               replace p108 := eq_true p108; replace q108 := eq_true q108
               go_wp2
               repeat (go_quiet (fail); try go_wp2)
               go_ret
               exact ⟨by first | rfl | (simp; done) | (simp only [← hji21] <;> (first | rfl | simp)) | (simp [*]; done), pbb2_1⟩
              ·rw [if_neg c24] at H; have c24b0 := decide_eq_false c24; clear c24; have H' := Aside0.mk H; clear H; have p107 : 0 ≤ (x7_1 : Int) := of_decide_eq_true pbb2_4; have q107 : x7_1 < (l1.length : Int) := of_decide_eq_true pbb2_4; obtain ⟨ad107, e107, hx107_0⟩ := Kd.at_int HR1.out x7_1 p107 q107
               cases e107
               replace p107 := eq_true p107; replace q107 := eq_true q107; have p108 : 0 ≤ ((ji21) : Int) := of_decide_eq_true pbb2_4; have q108 : (ji21) < (l0.length : Int) := of_decide_eq_true pbb2_4; obtain ⟨ad108, e108, hx108_0, hx108_1, hx108_2, hx108_3, hx108_4, hx108_5, hx108_6, hx108_7⟩ := at_T23 HR0.out (ji21) p108 q108
               cases e108
               replace p108 := eq_true p108; replace q108 := eq_true q108
               go_wp2
               repeat (go_quiet (fail); try go_wp2)
               go_roundg k3
               case measure => have := HK1.out; have := HJ4.out; have := HK3.out; omega
               case rel => exact ⟨(wrap64 (x7_1 + 1)), pbb2_0, H', ⟨by have := HK1.out; have := HJ4.out; have := HK3.out; omega⟩, pbb2_1⟩
             ·rw [if_neg c23] at H; exact absurd H (by simp)
            ·rw [if_neg c22] at H; exact absurd H (by simp)
           ·rw [if_neg c20] at H; exact absurd H (by simp)
          ·rw [if_neg c19] at H; exact absurd H (by simp)
   ·rw [if_neg c4] at H; have c4b0 := decide_eq_false c4; clear c4; obtain rfl := Option.some.inj H
    go_wp2
    repeat (go_quiet (fail); try go_wp2)
    go_ret
    exact ⟨pbb2_0, pbb2_1⟩
end Go.Proofs.YtegpappenmhndaaDoor.M
end
section
namespace Go.Proofs.YtegpappenmhndaaDoor.M
open Go.RowKit Go.Proofs.YtegpappenmhndaaDoorW.PrintWords Go.Proofs.YtegpappenmhndaaDoorW.PrintLast
set_option linter.unusedVariables false
set_option linter.unusedSimpArgs false
def recE (l : List MV) (value : Int) (P : List Int) : List Int → Int
 | [] => 0
 | n :: r => if ¬ (1 ≤ n ∧ n ≤ (l.length : Int) ∧ (rdv l (n - 1)).f3 = 1) then 28 else if n ∈ P then 8 else if value < (rdv l (n - 1)).f1 then 17 else recE l value (P ++ [n]) r
abbrev fnd (l : List MV) (r : List Int) : List MV := r.map fun n => rdv l (n - 1)
theorem recL.eq (l : List MV) (value : Int) : ∀ (r P : List Int) (S : List (Int × Bool)), (P ++ r).length < 1000000000 → (∀ n, (aget S n).getD false = decide (n ∈ P)) →
  recL l value r (fnd l P) S = some (if recE l value P r = 0 then fnd l (P ++ r) else [], recE l value P r)
 | [], P, S, _, _ => by simp [recL, recE]
 | n :: r, P, S, hl, hS => by
  have hl2 : P.length + (r.length + 1) < 1000000000 := by simpa using hl
  simp only [recL, recE, F27.eq, Option.bind_some]
  by_cases c1 : 1 ≤ n ∧ n ≤ (l.length : Int)
  rotate_left
  ·simp only [inv, decide_eq_false c1, Bool.false_eq_true, if_false, if_pos (show ¬ (1 ≤ n ∧ n ≤ (l.length : Int) ∧ (rdv l (n - 1)).f3 = 1) from fun h => c1 ⟨h.1, h.2.1⟩), if_neg (show ¬ (28 : Int) = 0 by omega)]
  simp only [inv, decide_eq_true c1, if_true, if_pos c1]
  by_cases c2 : (rdv l (n - 1)).f3 = 1
  rotate_left
  ·simp only [if_neg c2, if_pos (show ¬ (1 ≤ n ∧ n ≤ (l.length : Int) ∧ (rdv l (n - 1)).f3 = 1) from fun h => c2 h.2.2), if_neg (show ¬ (28 : Int) = 0 by omega)]
  simp only [if_pos c2, if_neg (show ¬ ¬ (1 ≤ n ∧ n ≤ (l.length : Int) ∧ (rdv l (n - 1)).f3 = 1) from fun h => h ⟨c1.1, c1.2, c2⟩), hS]
  by_cases c3 : n ∈ P
  ·simp only [decide_eq_true c3, if_true, if_pos c3, if_neg (show ¬ (8 : Int) = 0 by omega)]
  simp only [decide_eq_false c3, Bool.false_eq_true, if_false, if_neg c3]
  by_cases c4 : value < (rdv l (n - 1)).f1
  ·simp only [if_pos c4, if_neg (show ¬ (17 : Int) = 0 by omega)]
  simp only [if_neg c4, if_pos (show (fnd l P).length < 1000000000 by simp; omega)]
  have ih := recL.eq l value r (P ++ [n]) (aput S n true) (by simpa using hl) (fun m => by
   by_cases e : n = m
   ·subst e; rw [aget_aput_same]; simp
   ·rw [aget_aput_other _ _ _ e, hS]; have : (m ∈ P ++ [n]) = (m ∈ P) := by simp [Ne.symm e]
    simp only [this])
  rw [show fnd l P ++ [rdM l (n - 1)] = fnd l (P ++ [n]) by simp [fnd]]; rw [ih]
  simp
theorem F43.eq {l : List MV} {r : List Int} (value : Int) (h : r.length ≤ 1000000) : F43.f l r value = some (if recE l value [] r = 0 then fnd l r else [], recE l value [] r) := by
 unfold F43.f
 rw [if_pos h]; exact recL.eq l value r [] [] (by simp; omega) (by simp [aget])
theorem rd_mem_of {P r : List Int} {n i : Int} (h : i = (P.length : Int)) : rd (P ++ n :: r) i = n := rd_at P n r i h
theorem F45.l1_go {l : List MV} {value n : Int} {P r : List Int} (hl : (P ++ n :: r).length < 1000000) (hn : 1 ≤ n ∧ n ≤ (l.length : Int)) (hll : l.length < 1000000) {X : Int}
  (hX : Ev (fun k => F45.l0 k l (P ++ n :: r) value ((P.length : Int) + 1)) X) : ∀ (B A : List Int), A ++ B = P →
  Ev (fun k => F45.l1 k l (P ++ n :: r) value (P.length : Int) (A.length : Int)) (if n ∈ B then 8 else if value < (rdv l (n - 1)).f1 then 17 else X)
 | [], A, e => by
  obtain rfl : A = P := by simpa using e
  have hl2 : A.length + (r.length + 1) < 1000000 := by simpa using hl
  have e1 : ((A ++ n :: r).length : Int) = A.length + (r.length + 1) := by simp
  refine Ev.succ ?_; simp only [F45.l1, if_neg (show ¬ (A.length : Int) < (A.length : Int) by omega), if_pos (show (0 : Int) ≤ (A.length : Int) by omega), if_pos (show (A.length : Int) < ((A ++ n :: r).length : Int) by omega), rd_mem_of (P := A) (r := r) (n := n) rfl]; rw [w64 (n := n - 1) (by omega) (by omega), w64 (n := (A.length : Int) + 1) (by omega) (by omega)]; simp only [if_pos (show (0 : Int) ≤ n - 1 by omega), if_pos (show n - 1 < (l.length : Int) by omega), List.not_mem_nil, if_false]
  by_cases c : value < (rdv l (n - 1)).f1
  ·simp only [if_pos c]; exact Ev.const _
  ·simp only [if_neg c]; exact hX
 | b :: B, A, e => by
  have hP : P.length = A.length + (B.length + 1) := by rw [← e]; simp
  have hl2 : P.length + (r.length + 1) < 1000000 := by simpa using hl
  have e1 : ((P ++ n :: r).length : Int) = P.length + (r.length + 1) := by simp
  have hb : rd (P ++ n :: r) (A.length : Int) = b := by
   rw [← e, show A ++ b :: B ++ n :: r = A ++ b :: (B ++ n :: r) by simp]; exact rd_at A b _ _ rfl
  have ih := F45.l1_go hl hn hll hX B (A ++ [b]) (by simpa using e); rw [show ((A ++ [b]).length : Int) = (A.length : Int) + 1 by simp] at ih; refine Ev.succ ?_; simp only [F45.l1, if_pos (show (A.length : Int) < (P.length : Int) by omega), if_pos (show (0 : Int) ≤ (A.length : Int) by omega), if_pos (show (A.length : Int) < ((P ++ n :: r).length : Int) by omega), if_pos (show (0 : Int) ≤ (P.length : Int) by omega), if_pos (show (P.length : Int) < ((P ++ n :: r).length : Int) by omega), hb, rd_mem_of (P := P) (r := r) (n := n) rfl]; rw [w64 (n := (A.length : Int) + 1) (by omega) (by omega)]
  by_cases c : b = n
  ·simp only [if_pos c, if_pos (show n ∈ b :: B by rw [c]; exact List.mem_cons_self)]; exact Ev.const _
  ·simp only [if_neg c, show (n ∈ b :: B) = (n ∈ B) by simp [Ne.symm c]]; exact ih
theorem F45.go {l : List MV} {value : Int} (hll : l.length < 1000000) : ∀ (r P : List Int), (P ++ r).length < 1000000 → Ev (fun k => F45.l0 k l (P ++ r) value (P.length : Int)) (recE l value P r)
 | [], P, h => by
  refine Ev.succ ?_; simp only [F45.l0, List.append_nil, if_neg (show ¬ (P.length : Int) < (P.length : Int) by omega), recE]; exact Ev.const _
 | n :: r, P, h => by
  have h2 : P.length + (r.length + 1) < 1000000 := by simpa using h
  have e1 : ((P ++ n :: r).length : Int) = P.length + (r.length + 1) := by simp
  refine Ev.succ ?_; simp only [F45.l0, if_pos (show (P.length : Int) < ((P ++ n :: r).length : Int) by omega), if_pos (show (0 : Int) ≤ (P.length : Int) by omega), rd_mem_of (P := P) (r := r) (n := n) rfl, recE]
  by_cases a : n < 1
  ·simp only [if_pos a, if_pos (show ¬ (1 ≤ n ∧ n ≤ (l.length : Int) ∧ (rdv l (n - 1)).f3 = 1) by omega)]; refine Ev.succ ?_; simp only [F45.j1, if_true]; exact Ev.const _
  simp only [if_neg a]
  by_cases b : n > (l.length : Int)
  ·simp only [if_pos b, if_pos (show ¬ (1 ≤ n ∧ n ≤ (l.length : Int) ∧ (rdv l (n - 1)).f3 = 1) by omega)]; refine Ev.succ ?_; simp only [F45.j1, if_true]; exact Ev.const _
  simp only [if_neg b]; rw [w64 (n := n - 1) (by omega) (by omega)]; simp only [if_pos (show (0 : Int) ≤ n - 1 by omega), if_pos (show n - 1 < (l.length : Int) by omega)]; refine Ev.succ ?_
  by_cases c : (rdv l (n - 1)).f3 = 1
  rotate_left
  ·simp only [F45.j1, bne_iff_ne.2 c, if_true, if_pos (show ¬ (1 ≤ n ∧ n ≤ (l.length : Int) ∧ (rdv l (n - 1)).f3 = 1) from fun h => c h.2.2)]; exact Ev.const _
  simp only [F45.j1, bne_eq_false_iff_eq.2 c, Bool.false_eq_true, if_false, if_neg (show ¬ ¬ (1 ≤ n ∧ n ≤ (l.length : Int) ∧ (rdv l (n - 1)).f3 = 1) from fun h => h ⟨by omega, by omega, c⟩)]; have ih := F45.go (value := value) hll r (P ++ [n]) (by simpa using h); rw [show ((P ++ [n]).length : Int) = (P.length : Int) + 1 by simp, show P ++ [n] ++ r = P ++ n :: r by simp] at ih; exact F45.l1_go h ⟨by omega, by omega⟩ hll ih P [] rfl
theorem F45.eq {l : List MV} {r : List Int} (value : Int) (hll : l.length < 1000000) (h : r.length < 1000000) : Ev (fun k => F45.f k l r value) (recE l value [] r) := by
 unfold F45.f
 exact F45.go hll r [] h
def ChkOk (P : List MV) : List MV → Prop
 | [] => True
 | m :: r => m.f0 = (P.length : Int) + 1 ∧ onem m = 0 ∧ (folv m.f3 = true → refv P m = 0) ∧ ChkOk (P ++ [m]) r
theorem chkv_ok : ∀ (R P : List MV), (chkv P R).2 = 0 ↔ ChkOk P R
 | [], P => by simp [chkv, ChkOk]
 | m :: R, P => by
  simp only [chkv, ChkOk]
  by_cases c1 : m.f0 = (P.length : Int) + 1
  rotate_left
  ·simp [if_neg c1, c1]
  by_cases c2 : onem m = 0
  rotate_left
  ·simp [if_pos c1, if_neg c2, c2]
  by_cases c3 : folv m.f3 = true
  ·by_cases c4 : refv P m = 0
   ·rw [if_pos c1, if_pos c2, if_pos c3, if_pos c4, chkv_ok R (P ++ [m])]; exact ⟨fun h => ⟨c1, c2, fun _ => c4, h⟩, fun h => h.2.2.2⟩
   ·simp [if_pos c1, if_pos c2, if_pos c3, if_neg c4, c4, c3]
  ·rw [if_pos c1, if_pos c2, if_neg c3, chkv_ok R (P ++ [m])]; exact ⟨fun h => ⟨c1, c2, fun h1 => absurd h1 c3, h⟩, fun h => h.2.2.2⟩
theorem ChkOk.fst : ∀ {R P : List MV}, ChkOk P R → chkv P R = (-1, 0)
 | [], P, _ => rfl
 | m :: R, P, h => by
  obtain ⟨h1, h2, h3, h4⟩ := h; simp only [chkv, if_pos h1, if_pos h2]
  by_cases c : folv m.f3 = true
  ·simp only [if_pos c, if_pos (h3 c), ChkOk.fst h4]
  ·simp only [if_neg c, ChkOk.fst h4]
theorem ChkOk.app : ∀ (R P S : List MV), ChkOk P (R ++ S) ↔ ChkOk P R ∧ ChkOk (P ++ R) S
 | [], P, S => by simp [ChkOk]
 | m :: R, P, S => by
  simp only [List.cons_append, ChkOk, ChkOk.app R (P ++ [m]) S, List.append_assoc, List.singleton_append]
  constructor
  ·rintro ⟨a, b, c, d, e⟩; exact ⟨⟨a, b, c, d⟩, e⟩
  ·rintro ⟨⟨a, b, c, d⟩, e⟩; exact ⟨a, b, c, d, e⟩
theorem ChkOk.good : ∀ {R P : List MV}, ChkOk P R → ∀ y ∈ R, onem y = 0
 | [], _, _, y, hy => by simp at hy
 | m :: R, P, h, y, hy => by
  rcases List.mem_cons.1 hy with e | e
  ·rw [e]; exact h.2.1
  ·exact ChkOk.good h.2.2.2 y e
theorem ChkOk.seq : ∀ {R P : List MV}, ChkOk P R → ∀ i : Nat, (h : i < R.length) → (R[i]).f0 = (P.length : Int) + (i : Int) + 1
 | [], _, _, i, h => by simp at h
 | m :: R, P, h, 0, _ => by simpa using h.1
 | m :: R, P, h, i + 1, hi => by
  have := ChkOk.seq h.2.2.2 i (by simpa using hi); simp only [List.getElem_cons_succ, this, List.length_append, List.length_singleton]
  omega
theorem Checkv_ok (l : List MV) : (Checkv l).2 = 0 ↔ (l.length ≤ 2000 ∧ ChkOk [] l) := by
 unfold Checkv
 by_cases c : (l.length : Int) > 2000
 ·rw [if_pos c]
  constructor
  ·intro h; exact absurd h (by decide)
  ·intro h; omega
 ·rw [if_neg c, chkv_ok]
  constructor
  ·intro h; exact ⟨by omega, h⟩
  ·exact fun h => h.2
theorem Checkv_fst {l : List MV} (h : (Checkv l).2 = 0) : Checkv l = (-1, 0) := by
 obtain ⟨h1, h2⟩ := (Checkv_ok l).1 h
 unfold Checkv
 rw [if_neg (by omega), h2.fst]
theorem rdv_seq {l : List MV} (h : ChkOk [] l) {n : Int} (h0 : 1 ≤ n) (h1 : n ≤ (l.length : Int)) : (rdv l (n - 1)).f0 = n := by
 obtain ⟨j, hj⟩ : ∃ j : Nat, n - 1 = (j : Int) := ⟨(n - 1).toNat, by omega⟩; have hlt : j < l.length := by omega
 have e : rdv l (n - 1) = l[j] := by rw [hj]; simp [rdv, rd_T23, List.getD_eq_getElem?_getD, hlt]
 rw [e, h.seq j hlt]
 simp; omega
end Go.Proofs.YtegpappenmhndaaDoor.M
end
