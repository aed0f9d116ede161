/- What the claims of this seat share, part 6 of 7: what the program's functions compute. -/
import Derived.Test.YtoppdlideonjjaaQBB1
import Derived.Test.YtoppdlideonjjaaQBB5
import Derived.Test.YtoppdlideonjjaaQBB4
import Derived.WalkSpells
import Derived.Lib.SliceRun
import Derived.Maps.Own
import Derived.MapKept
import Derived.Maps.RangeRun
import Derived.Shelf.SlIter.Nil
import Derived.Shelf.SortM.Plain
import Derived.Shelf.SortM.SortNone
import Derived.Test.YtoppdlideonjjaaProg
import Derived.Test.YtoppdlideonjjaaQBB3
section
-- Written by mprint.py (a program of this session) over the kit's print.
namespace Go.Proofs.Ytoppdlideonjjaa.M
open Go.RowKit Go.Proofs.YtoppdlideonjjaaW.PrintWords Go.Proofs.YtoppdlideonjjaaW.PrintLast Go.Proofs.YtoppdlideonjjaaW.PrintMore
attribute [local go_sem] max2_int min2_int max_two min_two max_three min_three max_four min_four   -- for this text's walks alone
set_option linter.unusedVariables false
set_option linter.unusedSimpArgs false

/-! ### accountingref32_From: function 19 -/
def accountingref32_From.f (k : Nat) (a0_0 : ByteArray) (a0_1 : ByteArray) (a0_2 : Int) (a0_3 : Int) (l0_4 : List (S61)) (a1 : Int) (a2 : ByteArray) : Option (Int × Int × Int) := (accountingref32_factor.f k a0_0 a0_1 a0_2 a0_3 l0_4 a1 a2).bind fun bt103 => (if bt103.2.2 = 0 then ((accountingref03_Make.f k (wrap64 (a1 * bt103.2.1)) bt103.1).bind fun bt107 => (some (bt107.1, bt107.2.1, bt107.2.2))) else (some (0, 0, bt103.2.2)))
theorem accountingref32_From.mono : ∀ a0 a1 a2 a3 a4 a5 a6 k, LeO (accountingref32_From.f k a0 a1 a2 a3 a4 a5 a6) (accountingref32_From.f (k + 1) a0 a1 a2 a3 a4 a5 a6) := by
 intro a0 a1 a2 a3 a4 a5 a6 k
 unfold accountingref32_From.f
 repeat' first
   | (with_reducible exact accountingref03_Make.mono _ _ _)
   | (with_reducible exact accountingref32_factor.mono _ _ _ _ _ _ _ _)
   | (with_reducible exact LeO.refl _)
   | (with_reducible exact LeO.none _)
   | (with_reducible refine LeO.ite ?_ ?_)
   | (with_reducible refine LeO.bind ?_ (fun _ => ?_))
   | exact accountingref03_Make.mono _ _ _
   | exact accountingref32_factor.mono _ _ _ _ _ _ _ _
   | exact LeO.none _
   | refine LeO.ite ?_ ?_
   | refine LeO.bind ?_ (fun _ => ?_)
set_option maxHeartbeats 8000000 in
set_option maxRecDepth 100000 in
theorem accountingref32_From.calls (k : Nat) (a0_0 : ByteArray) (a0_1 : ByteArray) (a0_2 : Int) (a0_3 : Int) (A0_4 : Option Addr) (c0_4 : Nat) (l0_4 : List (S61)) (a1 : Int) (a2 : ByteArray) (r1 : Int) (r2 : Int) (r3 : Int) (w : World) (hr0_4 : Kd.C k61 w A0_4 l0_4.length l0_4) (hc0_4 : l0_4.length ≤ c0_4) (h : accountingref32_From.f k a0_0 a0_1 a0_2 a0_3 l0_4 a1 a2 = some (r1, r2, r3)) :
    Calls Try.prog 19 #[.agg #[.string a0_0, .string a0_1, .int .i64 a0_2, .int .i64 a0_3, .slice A0_4 l0_4.length c0_4], .int .i64 a1, .string a2] w fun e w' => e = .returned (.tuple #[.agg #[.int .i64 r1, .int .i64 r2], .int .i64 r3]) ∧ Below w.heap.size w w' := by
 have hu24 := Try.underlying24
 have hu35 := Try.underlying35
 have hu3 := Try.underlying3
 have HR0_4 := Aside0.mk hr0_4
 have HC0_4 := Aside0.mk hc0_4
 clear hr0_4 hc0_4
 have HB := Aside0.mk (Below.refl w.heap.size w)
 have H : ((accountingref32_factor.f k a0_0 a0_1 a0_2 a0_3 l0_4 a1 a2).bind fun bt103 => (if bt103.2.2 = 0 then ((accountingref03_Make.f k (wrap64 (a1 * bt103.2.1)) bt103.1).bind fun bt107 => (some (bt107.1, bt107.2.1, bt107.2.2))) else (some (0, 0, bt103.2.2)))) = some (r1, r2, r3) := h
 clear h
 replace H := Option.bind_eq_some_iff.mp H
 obtain ⟨⟨t103, t104, t105⟩, A40, H⟩ := H
 replace H : (if t105 = 0 then ((accountingref03_Make.f k (wrap64 (a1 * t104)) t103).bind fun bt107 => (some (bt107.1, bt107.2.1, bt107.2.2))) else (some (0, 0, t105))) = some (r1, r2, r3) := H
 have A4 := Aside0.mk A40
 clear A40
 by_cases c5 : t105 = 0
 ·rw [if_pos c5] at H
  have c5b0 : (t105 == 0) = true := beq_iff_eq.mpr c5
  have c5b1 : (t105 != 0) = false := bne_eq_false_iff_eq.mpr c5
  clear c5
  replace H := Option.bind_eq_some_iff.mp H
  obtain ⟨⟨t107, t108, t109⟩, A60, H⟩ := H
  replace H : (some (t107, t108, t109)) = some (r1, r2, r3) := H
  have A6 := Aside0.mk A60
  clear A60
  simp only [Option.some.injEq, Prod.mk.injEq] at H
  obtain ⟨rfl, rfl, rfl⟩ := H
  go_enter Try.func19, Try.ntmps19
  go_wp2_with (first | ((with_reducible refine gate_dst (N := 3) rfl ?_); refine box_event ?hg (N := 3) ?hd (cs := #[.string a0_0, .string a0_1, .int .i64 a0_2, .int .i64 a0_3, .slice A0_4 l0_4.length c0_4]) (t := 24) ?hr ?_; (case hd => rfl); (case hg => rfl); (case hr => first | (go_simp; done) | (go_simp; rfl)); intro gb101 hg w7 hbox hb; have n0_ := Aside0.mk (below_step (by repeat (first | (with_reducible first | exact HB.out | apply below_alloc | apply pw_below_drewN | apply below_drew1) | exact HB.out)) hb); have n1_ := Aside0.mk (hbox); have n2_ := Aside0.mk ((by rw [hg]; exact (below_size (by repeat (first | (with_reducible first | exact HB.out | apply below_alloc | apply pw_below_drewN | apply below_drew1) | exact HB.out))) : w.heap.size ≤ gb101)); have n3_ := Aside0.mk ((by rw [hg]; exact (below_size (by repeat (first | (with_reducible first | exact HB.out | apply below_alloc | apply pw_below_drewN | apply below_drew1) | exact HB.out))) : w.heap.size ≤ gb101)); clear HB; have HB := n0_; have BK101 := n1_; have GW101 := n2_; have GE101 := n3_; clear n0_ n1_ n2_ n3_; clear hb hbox hg) | ((with_reducible refine gate_dst (N := 6) rfl ?_); refine box_event ?hg (N := 6) ?hd (cs := #[.int .i64 0, .int .i64 0]) (t := 35) ?hr ?_; (case hd => rfl); (case hg => rfl); (case hr => first | (go_simp; done) | (go_simp; rfl)); intro gb102 hg w8 hbox hb; have n0_ := Aside0.mk (blk_below (g := gb101) (o := .cells #[.string a0_0, .string a0_1, .int .i64 a0_2, .int .i64 a0_3, .slice A0_4 l0_4.length c0_4] 24 (0, 0)) (by (with_reducible repeat (first | refine blk_drewN ?_ _ | refine blk_drew ?_ | refine blk_alloc ?_ _)); exact BK101.out) hb); have n1_ := Aside0.mk (below_step (by repeat (first | (with_reducible first | exact HB.out | apply below_alloc | apply pw_below_drewN | apply below_drew1 | refine below_set ?_ GE101.out) | exact HB.out)) hb); have n2_ := Aside0.mk (hbox); have n3_ := Aside0.mk ((by rw [hg]; exact (below_size (by repeat (first | (with_reducible first | exact HB.out | apply below_alloc | apply pw_below_drewN | apply below_drew1 | refine below_set ?_ GE101.out) | exact HB.out))) : w.heap.size ≤ gb102)); have n4_ := Aside0.mk ((by rw [hg]; exact (below_size (by repeat (first | (with_reducible first | exact HB.out | apply below_alloc | apply pw_below_drewN | apply below_drew1 | refine below_set ?_ GE101.out) | exact HB.out))) : w.heap.size ≤ gb102)); have n5_ := Aside0.mk ((by rw [hg]; exact Nat.ne_of_lt (blk_lt (g := gb101) (o := .cells #[.string a0_0, .string a0_1, .int .i64 a0_2, .int .i64 a0_3, .slice A0_4 l0_4.length c0_4] 24 (0, 0)) (by (with_reducible repeat (first | refine blk_drewN ?_ _ | refine blk_drew ?_ | refine blk_alloc ?_ _)); exact BK101.out)) : gb101 ≠ gb102)); have n6_ := Aside0.mk ((by rw [hg]; exact Nat.ne_of_gt (blk_lt (g := gb101) (o := .cells #[.string a0_0, .string a0_1, .int .i64 a0_2, .int .i64 a0_3, .slice A0_4 l0_4.length c0_4] 24 (0, 0)) (by (with_reducible repeat (first | refine blk_drewN ?_ _ | refine blk_drew ?_ | refine blk_alloc ?_ _)); exact BK101.out)) : gb102 ≠ gb101)); clear BK101; clear HB; have BK101 := n0_; have HB := n1_; have BK102 := n2_; have GW102 := n3_; have GE102 := n4_; have NB101_102 := n5_; have NB102_101 := n6_; clear n0_ n1_ n2_ n3_ n4_ n5_ n6_; clear hb hbox hg; have hnb9 := NB101_102.out; have hnc9 := NB102_101.out; have hcz10_0 : w8.cell? ⟨gb101, 0, none⟩ = some (.string a0_0) := (blk_cell BK101.out 0).trans rfl; have hcz10_1 : w8.cell? ⟨gb101, 1, none⟩ = some (.string a0_1) := (blk_cell BK101.out 1).trans rfl; have hcz10_2 : w8.cell? ⟨gb101, 2, none⟩ = some (.int .i64 a0_2) := (blk_cell BK101.out 2).trans rfl; have hcz10_3 : w8.cell? ⟨gb101, 3, none⟩ = some (.int .i64 a0_3) := (blk_cell BK101.out 3).trans rfl; have hcz10_4 : w8.cell? ⟨gb101, 4, none⟩ = some (.slice A0_4 l0_4.length c0_4) := (blk_cell BK101.out 4).trans rfl; have hfz10_0 := blk_frozen BK101.out 0; have hfz10_1 := blk_frozen BK101.out 1; have hfz10_2 := blk_frozen BK101.out 2; have hfz10_3 := blk_frozen BK101.out 3; have hfz10_4 := blk_frozen BK101.out 4) | ((with_reducible refine gate_callee (f := 39) rfl ?_); refine goesL_ (some 14) rfl rfl Try.func39 (by kernel_rfl) rfl #[.agg #[.string a0_0, .string a0_1, .int .i64 a0_2, .int .i64 a0_3, .slice A0_4 l0_4.length c0_4], .int .i64 a1, .string a2] rfl (by (try simp only [List.map_toArray, List.map_cons, List.map_nil]); first | done | rfl | (simp only [List.length_drop, List.length_take]; rfl)) ?_; (with_reducible refine (accountingref32_factor.calls k a0_0 a0_1 a0_2 a0_3 _ _ l0_4 a1 a2 t103 t104 t105 _ ?side1 ?side2 A4.out).mono ?_); (case side1 => repeat (first | exact (Kd.C_below HR0_4.out HB.out) | (with_reducible refine Kd.C_alloc ?_ _) | (with_reducible refine Kd.C_drewN ?_ _) | (with_reducible refine Kd.C_drew ?_))); (case side2 => exact HC0_4.out); rintro e w11 ⟨rfl, hb⟩; refine ⟨_, rfl, ?_⟩; have n0_ := Aside0.mk (blk_below (g := gb101) (o := .cells #[.string a0_0, .string a0_1, .int .i64 a0_2, .int .i64 a0_3, .slice A0_4 l0_4.length c0_4] 24 (0, 0)) (by (with_reducible repeat (first | refine blk_drewN ?_ _ | refine blk_drew ?_ | refine blk_alloc ?_ _)); exact BK101.out) hb); have n1_ := Aside0.mk (blk_below (g := gb102) (o := .cells #[.int .i64 0, .int .i64 0] 35 (0, 0)) (by (with_reducible repeat (first | refine blk_drewN ?_ _ | refine blk_drew ?_ | refine blk_alloc ?_ _)); exact BK102.out) hb); have n2_ := Aside0.mk (below_step (by repeat (first | (with_reducible first | exact HB.out | apply below_alloc | apply pw_below_drewN | apply below_drew1 | refine below_set ?_ GE101.out | refine below_set ?_ GE102.out) | exact HB.out)) hb); clear BK101; clear BK102; clear HB; have BK101 := n0_; have BK102 := n1_; have HB := n2_; clear n0_ n1_ n2_; (try clear hb); (try clear hb2); (try clear hk); (try clear hi)) | ((with_reducible refine gate_dst (N := 8) rfl ?_); refine box_event ?hg (N := 8) ?hd (cs := #[.int .i64 0, .int .i64 0]) (t := 35) ?hr ?_; (case hd => rfl); (case hg => rfl); (case hr => first | (go_simp; done) | (go_simp; rfl)); intro gb106 hg w12 hbox hb; have n0_ := Aside0.mk (blk_below (g := gb101) (o := .cells #[.string a0_0, .string a0_1, .int .i64 a0_2, .int .i64 a0_3, .slice A0_4 l0_4.length c0_4] 24 (0, 0)) (by (with_reducible repeat (first | refine blk_drewN ?_ _ | refine blk_drew ?_ | refine blk_alloc ?_ _)); exact BK101.out) hb); have n1_ := Aside0.mk (blk_below (g := gb102) (o := .cells #[.int .i64 0, .int .i64 0] 35 (0, 0)) (by (with_reducible repeat (first | refine blk_drewN ?_ _ | refine blk_drew ?_ | refine blk_alloc ?_ _)); exact BK102.out) hb); have n2_ := Aside0.mk (below_step (by repeat (first | (with_reducible first | exact HB.out | apply below_alloc | apply pw_below_drewN | apply below_drew1 | refine below_set ?_ GE101.out | refine below_set ?_ GE102.out) | exact HB.out)) hb); have n3_ := Aside0.mk (hbox); have n4_ := Aside0.mk ((by rw [hg]; exact (below_size (by repeat (first | (with_reducible first | exact HB.out | apply below_alloc | apply pw_below_drewN | apply below_drew1 | refine below_set ?_ GE101.out | refine below_set ?_ GE102.out) | exact HB.out))) : w.heap.size ≤ gb106)); have n5_ := Aside0.mk ((by rw [hg]; exact (below_size (by repeat (first | (with_reducible first | exact HB.out | apply below_alloc | apply pw_below_drewN | apply below_drew1 | refine below_set ?_ GE101.out | refine below_set ?_ GE102.out) | exact HB.out))) : w.heap.size ≤ gb106)); have n6_ := Aside0.mk ((by rw [hg]; exact Nat.ne_of_lt (blk_lt (g := gb101) (o := .cells #[.string a0_0, .string a0_1, .int .i64 a0_2, .int .i64 a0_3, .slice A0_4 l0_4.length c0_4] 24 (0, 0)) (by (with_reducible repeat (first | refine blk_drewN ?_ _ | refine blk_drew ?_ | refine blk_alloc ?_ _)); exact BK101.out)) : gb101 ≠ gb106)); have n7_ := Aside0.mk ((by rw [hg]; exact Nat.ne_of_gt (blk_lt (g := gb101) (o := .cells #[.string a0_0, .string a0_1, .int .i64 a0_2, .int .i64 a0_3, .slice A0_4 l0_4.length c0_4] 24 (0, 0)) (by (with_reducible repeat (first | refine blk_drewN ?_ _ | refine blk_drew ?_ | refine blk_alloc ?_ _)); exact BK101.out)) : gb106 ≠ gb101)); have n8_ := Aside0.mk ((by rw [hg]; exact Nat.ne_of_lt (blk_lt (g := gb102) (o := .cells #[.int .i64 0, .int .i64 0] 35 (0, 0)) (by (with_reducible repeat (first | refine blk_drewN ?_ _ | refine blk_drew ?_ | refine blk_alloc ?_ _)); exact BK102.out)) : gb102 ≠ gb106)); have n9_ := Aside0.mk ((by rw [hg]; exact Nat.ne_of_gt (blk_lt (g := gb102) (o := .cells #[.int .i64 0, .int .i64 0] 35 (0, 0)) (by (with_reducible repeat (first | refine blk_drewN ?_ _ | refine blk_drew ?_ | refine blk_alloc ?_ _)); exact BK102.out)) : gb106 ≠ gb102)); clear BK101; clear BK102; clear HB; have BK101 := n0_; have BK102 := n1_; have HB := n2_; have BK106 := n3_; have GW106 := n4_; have GE106 := n5_; have NB101_106 := n6_; have NB106_101 := n7_; have NB102_106 := n8_; have NB106_102 := n9_; clear n0_ n1_ n2_ n3_ n4_ n5_ n6_ n7_ n8_ n9_; clear hb hbox hg; have hnb13 := NB106_101.out; have hnc13 := NB101_106.out; have hnb14 := NB106_102.out; have hnc14 := NB102_106.out; have hcz15_0 : w12.cell? ⟨gb106, 0, none⟩ = some (.int .i64 0) := (blk_cell BK106.out 0).trans rfl; have hcz15_1 : w12.cell? ⟨gb106, 1, none⟩ = some (.int .i64 0) := (blk_cell BK106.out 1).trans rfl; have hfz15_0 := blk_frozen BK106.out 0; have hfz15_1 := blk_frozen BK106.out 1) | ((with_reducible refine gate_callee (f := 40) rfl ?_); refine goesL_ (some 27) rfl rfl Try.func40 (by kernel_rfl) rfl #[.int .i64 (wrap64 (a1 * t104)), .int .i64 t103] rfl (by (try simp only [List.map_toArray, List.map_cons, List.map_nil]); first | done | rfl | (simp only [List.length_drop, List.length_take]; rfl)) ?_; (with_reducible refine (accountingref03_Make.calls k (wrap64 (a1 * t104)) t103 t107 t108 t109 _ A6.out).mono ?_); rintro e w16 ⟨rfl, hb⟩; refine ⟨_, rfl, ?_⟩; have n0_ := Aside0.mk (blk_below (g := gb101) (o := .cells #[.string a0_0, .string a0_1, .int .i64 a0_2, .int .i64 a0_3, .slice A0_4 l0_4.length c0_4] 24 (0, 0)) (by (with_reducible repeat (first | refine blk_drewN ?_ _ | refine blk_drew ?_ | refine blk_alloc ?_ _)); refine blk_far ?_ NB101_106.out _; (with_reducible repeat (first | refine blk_drewN ?_ _ | refine blk_drew ?_ | refine blk_alloc ?_ _)); refine blk_far ?_ NB101_106.out _; (with_reducible repeat (first | refine blk_drewN ?_ _ | refine blk_drew ?_ | refine blk_alloc ?_ _)); exact BK101.out) hb); have n1_ := Aside0.mk (blk_below (g := gb102) (o := .cells #[.int .i64 0, .int .i64 0] 35 (0, 0)) (by (with_reducible repeat (first | refine blk_drewN ?_ _ | refine blk_drew ?_ | refine blk_alloc ?_ _)); refine blk_far ?_ NB102_106.out _; (with_reducible repeat (first | refine blk_drewN ?_ _ | refine blk_drew ?_ | refine blk_alloc ?_ _)); refine blk_far ?_ NB102_106.out _; (with_reducible repeat (first | refine blk_drewN ?_ _ | refine blk_drew ?_ | refine blk_alloc ?_ _)); exact BK102.out) hb); have n2_ := Aside0.mk (blk_below (g := gb106) (o := .cells #[.int .i64 t103, .int .i64 t104] 35 (0, 0)) (by (with_reducible repeat (first | refine blk_drewN ?_ _ | refine blk_drew ?_ | refine blk_alloc ?_ _)); refine blk_put (cs := #[.int .i64 t103, .int .i64 0]) ?_ 1 _ rfl; (with_reducible repeat (first | refine blk_drewN ?_ _ | refine blk_drew ?_ | refine blk_alloc ?_ _)); refine blk_put (cs := #[.int .i64 0, .int .i64 0]) ?_ 0 _ rfl; (with_reducible repeat (first | refine blk_drewN ?_ _ | refine blk_drew ?_ | refine blk_alloc ?_ _)); exact BK106.out) hb); have n3_ := Aside0.mk (below_step (by repeat (first | (with_reducible first | exact HB.out | apply below_alloc | apply pw_below_drewN | apply below_drew1 | refine below_set ?_ GE101.out | refine below_set ?_ GE102.out | refine below_set ?_ GE106.out) | exact HB.out)) hb); clear BK101; clear BK102; clear BK106; clear HB; have BK101 := n0_; have BK102 := n1_; have BK106 := n2_; have HB := n3_; clear n0_ n1_ n2_ n3_; (try clear hb); (try clear hb2); (try clear hk); (try clear hi); have hcz17_0 : w16.cell? ⟨gb102, 0, none⟩ = some (.int .i64 0) := (blk_cell BK102.out 0).trans rfl; have hcz17_1 : w16.cell? ⟨gb102, 1, none⟩ = some (.int .i64 0) := (blk_cell BK102.out 1).trans rfl; have hfz17_0 := blk_frozen BK102.out 0; have hfz17_1 := blk_frozen BK102.out 1))
  refine bodyPost_ret (results_ct rfl _ _ gb102 35 #[.int .i64 t107, .int .i64 t108] (0, 0) _ rfl (by (with_reducible repeat (first | refine blk_drewN ?_ _ | refine blk_drew ?_ | refine blk_alloc ?_ _)); refine blk_put (cs := #[.int .i64 t107, .int .i64 0]) ?_ 1 _ rfl; (with_reducible repeat (first | refine blk_drewN ?_ _ | refine blk_drew ?_ | refine blk_alloc ?_ _)); refine blk_put (cs := #[.int .i64 0, .int .i64 0]) ?_ 0 _ rfl; (with_reducible repeat (first | refine blk_drewN ?_ _ | refine blk_drew ?_ | refine blk_alloc ?_ _)); exact BK102.out) Try.underlying35 rfl (by kernel_rfl)) rfl ?_
  exact ⟨by first | rfl | (simp [errW_none, errW_some] <;> rfl) | (simp [*, errW_none, errW_some] <;> rfl), by repeat (first | (with_reducible first | exact HB.out | apply below_alloc | apply pw_below_drewN | apply below_drew1 | refine below_set ?_ GE101.out | refine below_set ?_ GE102.out | refine below_set ?_ GE106.out) | exact HB.out)⟩
 ·rw [if_neg c5] at H
  have c5b0 : (t105 == 0) = false := beq_eq_false_iff_ne.mpr c5
  have c5b1 : (t105 != 0) = true := bne_iff_ne.mpr c5
  simp only [Option.some.injEq, Prod.mk.injEq] at H
  obtain ⟨rfl, rfl, rfl⟩ := H
  go_enter Try.func19, Try.ntmps19
  go_wp2_with (first | ((with_reducible refine gate_dst (N := 3) rfl ?_); refine box_event ?hg (N := 3) ?hd (cs := #[.string a0_0, .string a0_1, .int .i64 a0_2, .int .i64 a0_3, .slice A0_4 l0_4.length c0_4]) (t := 24) ?hr ?_; (case hd => rfl); (case hg => rfl); (case hr => first | (go_simp; done) | (go_simp; rfl)); intro gb101 hg w18 hbox hb; have n0_ := Aside0.mk (below_step (by repeat (first | (with_reducible first | exact HB.out | apply below_alloc | apply pw_below_drewN | apply below_drew1) | exact HB.out)) hb); have n1_ := Aside0.mk (hbox); have n2_ := Aside0.mk ((by rw [hg]; exact (below_size (by repeat (first | (with_reducible first | exact HB.out | apply below_alloc | apply pw_below_drewN | apply below_drew1) | exact HB.out))) : w.heap.size ≤ gb101)); have n3_ := Aside0.mk ((by rw [hg]; exact (below_size (by repeat (first | (with_reducible first | exact HB.out | apply below_alloc | apply pw_below_drewN | apply below_drew1) | exact HB.out))) : w.heap.size ≤ gb101)); clear HB; have HB := n0_; have BK101 := n1_; have GW101 := n2_; have GE101 := n3_; clear n0_ n1_ n2_ n3_; clear hb hbox hg) | ((with_reducible refine gate_dst (N := 6) rfl ?_); refine box_event ?hg (N := 6) ?hd (cs := #[.int .i64 0, .int .i64 0]) (t := 35) ?hr ?_; (case hd => rfl); (case hg => rfl); (case hr => first | (go_simp; done) | (go_simp; rfl)); intro gb102 hg w19 hbox hb; have n0_ := Aside0.mk (blk_below (g := gb101) (o := .cells #[.string a0_0, .string a0_1, .int .i64 a0_2, .int .i64 a0_3, .slice A0_4 l0_4.length c0_4] 24 (0, 0)) (by (with_reducible repeat (first | refine blk_drewN ?_ _ | refine blk_drew ?_ | refine blk_alloc ?_ _)); exact BK101.out) hb); have n1_ := Aside0.mk (below_step (by repeat (first | (with_reducible first | exact HB.out | apply below_alloc | apply pw_below_drewN | apply below_drew1 | refine below_set ?_ GE101.out) | exact HB.out)) hb); have n2_ := Aside0.mk (hbox); have n3_ := Aside0.mk ((by rw [hg]; exact (below_size (by repeat (first | (with_reducible first | exact HB.out | apply below_alloc | apply pw_below_drewN | apply below_drew1 | refine below_set ?_ GE101.out) | exact HB.out))) : w.heap.size ≤ gb102)); have n4_ := Aside0.mk ((by rw [hg]; exact (below_size (by repeat (first | (with_reducible first | exact HB.out | apply below_alloc | apply pw_below_drewN | apply below_drew1 | refine below_set ?_ GE101.out) | exact HB.out))) : w.heap.size ≤ gb102)); have n5_ := Aside0.mk ((by rw [hg]; exact Nat.ne_of_lt (blk_lt (g := gb101) (o := .cells #[.string a0_0, .string a0_1, .int .i64 a0_2, .int .i64 a0_3, .slice A0_4 l0_4.length c0_4] 24 (0, 0)) (by (with_reducible repeat (first | refine blk_drewN ?_ _ | refine blk_drew ?_ | refine blk_alloc ?_ _)); exact BK101.out)) : gb101 ≠ gb102)); have n6_ := Aside0.mk ((by rw [hg]; exact Nat.ne_of_gt (blk_lt (g := gb101) (o := .cells #[.string a0_0, .string a0_1, .int .i64 a0_2, .int .i64 a0_3, .slice A0_4 l0_4.length c0_4] 24 (0, 0)) (by (with_reducible repeat (first | refine blk_drewN ?_ _ | refine blk_drew ?_ | refine blk_alloc ?_ _)); exact BK101.out)) : gb102 ≠ gb101)); clear BK101; clear HB; have BK101 := n0_; have HB := n1_; have BK102 := n2_; have GW102 := n3_; have GE102 := n4_; have NB101_102 := n5_; have NB102_101 := n6_; clear n0_ n1_ n2_ n3_ n4_ n5_ n6_; clear hb hbox hg; have hnb20 := NB101_102.out; have hnc20 := NB102_101.out; have hcz21_0 : w19.cell? ⟨gb101, 0, none⟩ = some (.string a0_0) := (blk_cell BK101.out 0).trans rfl; have hcz21_1 : w19.cell? ⟨gb101, 1, none⟩ = some (.string a0_1) := (blk_cell BK101.out 1).trans rfl; have hcz21_2 : w19.cell? ⟨gb101, 2, none⟩ = some (.int .i64 a0_2) := (blk_cell BK101.out 2).trans rfl; have hcz21_3 : w19.cell? ⟨gb101, 3, none⟩ = some (.int .i64 a0_3) := (blk_cell BK101.out 3).trans rfl; have hcz21_4 : w19.cell? ⟨gb101, 4, none⟩ = some (.slice A0_4 l0_4.length c0_4) := (blk_cell BK101.out 4).trans rfl; have hfz21_0 := blk_frozen BK101.out 0; have hfz21_1 := blk_frozen BK101.out 1; have hfz21_2 := blk_frozen BK101.out 2; have hfz21_3 := blk_frozen BK101.out 3; have hfz21_4 := blk_frozen BK101.out 4) | ((with_reducible refine gate_callee (f := 39) rfl ?_); refine goesL_ (some 14) rfl rfl Try.func39 (by kernel_rfl) rfl #[.agg #[.string a0_0, .string a0_1, .int .i64 a0_2, .int .i64 a0_3, .slice A0_4 l0_4.length c0_4], .int .i64 a1, .string a2] rfl (by (try simp only [List.map_toArray, List.map_cons, List.map_nil]); first | done | rfl | (simp only [List.length_drop, List.length_take]; rfl)) ?_; (with_reducible refine (accountingref32_factor.calls k a0_0 a0_1 a0_2 a0_3 _ _ l0_4 a1 a2 t103 t104 t105 _ ?side1 ?side2 A4.out).mono ?_); (case side1 => repeat (first | exact (Kd.C_below HR0_4.out HB.out) | (with_reducible refine Kd.C_alloc ?_ _) | (with_reducible refine Kd.C_drewN ?_ _) | (with_reducible refine Kd.C_drew ?_))); (case side2 => exact HC0_4.out); rintro e w22 ⟨rfl, hb⟩; refine ⟨_, rfl, ?_⟩; have n0_ := Aside0.mk (blk_below (g := gb101) (o := .cells #[.string a0_0, .string a0_1, .int .i64 a0_2, .int .i64 a0_3, .slice A0_4 l0_4.length c0_4] 24 (0, 0)) (by (with_reducible repeat (first | refine blk_drewN ?_ _ | refine blk_drew ?_ | refine blk_alloc ?_ _)); exact BK101.out) hb); have n1_ := Aside0.mk (blk_below (g := gb102) (o := .cells #[.int .i64 0, .int .i64 0] 35 (0, 0)) (by (with_reducible repeat (first | refine blk_drewN ?_ _ | refine blk_drew ?_ | refine blk_alloc ?_ _)); exact BK102.out) hb); have n2_ := Aside0.mk (below_step (by repeat (first | (with_reducible first | exact HB.out | apply below_alloc | apply pw_below_drewN | apply below_drew1 | refine below_set ?_ GE101.out | refine below_set ?_ GE102.out) | exact HB.out)) hb); clear BK101; clear BK102; clear HB; have BK101 := n0_; have BK102 := n1_; have HB := n2_; clear n0_ n1_ n2_; (try clear hb); (try clear hb2); (try clear hk); (try clear hi)) | ((with_reducible refine gate_dst (N := 8) rfl ?_); refine box_event ?hg (N := 8) ?hd (cs := #[.int .i64 0, .int .i64 0]) (t := 35) ?hr ?_; (case hd => rfl); (case hg => rfl); (case hr => first | (go_simp; done) | (go_simp; rfl)); intro gb106 hg w23 hbox hb; have n0_ := Aside0.mk (blk_below (g := gb101) (o := .cells #[.string a0_0, .string a0_1, .int .i64 a0_2, .int .i64 a0_3, .slice A0_4 l0_4.length c0_4] 24 (0, 0)) (by (with_reducible repeat (first | refine blk_drewN ?_ _ | refine blk_drew ?_ | refine blk_alloc ?_ _)); exact BK101.out) hb); have n1_ := Aside0.mk (blk_below (g := gb102) (o := .cells #[.int .i64 0, .int .i64 0] 35 (0, 0)) (by (with_reducible repeat (first | refine blk_drewN ?_ _ | refine blk_drew ?_ | refine blk_alloc ?_ _)); exact BK102.out) hb); have n2_ := Aside0.mk (below_step (by repeat (first | (with_reducible first | exact HB.out | apply below_alloc | apply pw_below_drewN | apply below_drew1 | refine below_set ?_ GE101.out | refine below_set ?_ GE102.out) | exact HB.out)) hb); have n3_ := Aside0.mk (hbox); have n4_ := Aside0.mk ((by rw [hg]; exact (below_size (by repeat (first | (with_reducible first | exact HB.out | apply below_alloc | apply pw_below_drewN | apply below_drew1 | refine below_set ?_ GE101.out | refine below_set ?_ GE102.out) | exact HB.out))) : w.heap.size ≤ gb106)); have n5_ := Aside0.mk ((by rw [hg]; exact (below_size (by repeat (first | (with_reducible first | exact HB.out | apply below_alloc | apply pw_below_drewN | apply below_drew1 | refine below_set ?_ GE101.out | refine below_set ?_ GE102.out) | exact HB.out))) : w.heap.size ≤ gb106)); have n6_ := Aside0.mk ((by rw [hg]; exact Nat.ne_of_lt (blk_lt (g := gb101) (o := .cells #[.string a0_0, .string a0_1, .int .i64 a0_2, .int .i64 a0_3, .slice A0_4 l0_4.length c0_4] 24 (0, 0)) (by (with_reducible repeat (first | refine blk_drewN ?_ _ | refine blk_drew ?_ | refine blk_alloc ?_ _)); exact BK101.out)) : gb101 ≠ gb106)); have n7_ := Aside0.mk ((by rw [hg]; exact Nat.ne_of_gt (blk_lt (g := gb101) (o := .cells #[.string a0_0, .string a0_1, .int .i64 a0_2, .int .i64 a0_3, .slice A0_4 l0_4.length c0_4] 24 (0, 0)) (by (with_reducible repeat (first | refine blk_drewN ?_ _ | refine blk_drew ?_ | refine blk_alloc ?_ _)); exact BK101.out)) : gb106 ≠ gb101)); have n8_ := Aside0.mk ((by rw [hg]; exact Nat.ne_of_lt (blk_lt (g := gb102) (o := .cells #[.int .i64 0, .int .i64 0] 35 (0, 0)) (by (with_reducible repeat (first | refine blk_drewN ?_ _ | refine blk_drew ?_ | refine blk_alloc ?_ _)); exact BK102.out)) : gb102 ≠ gb106)); have n9_ := Aside0.mk ((by rw [hg]; exact Nat.ne_of_gt (blk_lt (g := gb102) (o := .cells #[.int .i64 0, .int .i64 0] 35 (0, 0)) (by (with_reducible repeat (first | refine blk_drewN ?_ _ | refine blk_drew ?_ | refine blk_alloc ?_ _)); exact BK102.out)) : gb106 ≠ gb102)); clear BK101; clear BK102; clear HB; have BK101 := n0_; have BK102 := n1_; have HB := n2_; have BK106 := n3_; have GW106 := n4_; have GE106 := n5_; have NB101_106 := n6_; have NB106_101 := n7_; have NB102_106 := n8_; have NB106_102 := n9_; clear n0_ n1_ n2_ n3_ n4_ n5_ n6_ n7_ n8_ n9_; clear hb hbox hg; have hnb24 := NB106_101.out; have hnc24 := NB101_106.out; have hnb25 := NB106_102.out; have hnc25 := NB102_106.out; have hcz26_0 : w23.cell? ⟨gb106, 0, none⟩ = some (.int .i64 0) := (blk_cell BK106.out 0).trans rfl; have hcz26_1 : w23.cell? ⟨gb106, 1, none⟩ = some (.int .i64 0) := (blk_cell BK106.out 1).trans rfl; have hfz26_0 := blk_frozen BK106.out 0; have hfz26_1 := blk_frozen BK106.out 1; have hcz27_0 : w23.cell? ⟨gb102, 0, none⟩ = some (.int .i64 0) := (blk_cell BK102.out 0).trans rfl; have hcz27_1 : w23.cell? ⟨gb102, 1, none⟩ = some (.int .i64 0) := (blk_cell BK102.out 1).trans rfl; have hfz27_0 := blk_frozen BK102.out 0; have hfz27_1 := blk_frozen BK102.out 1))
  refine bodyPost_ret (results_ct rfl _ _ gb102 35 #[.int .i64 0, .int .i64 0] (0, 0) _ rfl (by (with_reducible repeat (first | refine blk_drewN ?_ _ | refine blk_drew ?_ | refine blk_alloc ?_ _)); refine blk_put (cs := #[.int .i64 0, .int .i64 0]) ?_ 1 _ rfl; (with_reducible repeat (first | refine blk_drewN ?_ _ | refine blk_drew ?_ | refine blk_alloc ?_ _)); refine blk_put (cs := #[.int .i64 0, .int .i64 0]) ?_ 0 _ rfl; (with_reducible repeat (first | refine blk_drewN ?_ _ | refine blk_drew ?_ | refine blk_alloc ?_ _)); refine blk_far ?_ NB102_106.out _; (with_reducible repeat (first | refine blk_drewN ?_ _ | refine blk_drew ?_ | refine blk_alloc ?_ _)); refine blk_far ?_ NB102_106.out _; (with_reducible repeat (first | refine blk_drewN ?_ _ | refine blk_drew ?_ | refine blk_alloc ?_ _)); exact BK102.out) Try.underlying35 rfl (by kernel_rfl)) rfl ?_
  exact ⟨by first | rfl | (simp [errW_none, errW_some] <;> rfl) | (simp [*, errW_none, errW_some] <;> rfl), by repeat (first | (with_reducible first | exact HB.out | apply below_alloc | apply pw_below_drewN | apply below_drew1 | refine below_set ?_ GE101.out | refine below_set ?_ GE102.out | refine below_set ?_ GE106.out) | exact HB.out)⟩

end Go.Proofs.Ytoppdlideonjjaa.M
end
section
/- What conversions come to, of the program and of the specification. -/
namespace Go.Proofs.Ytoppdlideonjjaa.M
open Go.RowKit Go.Proofs.YtoppdlideonjjaaW.PrintWords Go.Proofs.YtoppdlideonjjaaW.PrintLast Dv
set_option linter.unusedVariables false
set_option linter.unusedSimpArgs false
/-! ### what a checked product is -/
theorem codev_ne {b : ByteArray} (h : codev b = true) : b.toList ≠ ([] : List UInt8) := by
  intro e
  rw [size_nil] at e
  unfold codev at h
  simp [e] at h
theorem unitv_zero {b1 : ByteArray} {seen : List Uu} {u : Uu} (h : unitv b1 seen u = 0) : codev u.f0 = true ∧ u.f0.toList ≠ b1.toList ∧ seenU seen u.f0 = false ∧ rightv u.f1.f0 u.f1.f1 = true ∧ 0 < u.f1.f0 := by
  unfold unitv at h
  cases c0 : codev u.f0 with
  | false => rw [c0, if_pos rfl] at h; omega
  | true =>
    rw [c0, if_neg (by decide)] at h
    by_cases c1 : u.f0.toList = b1.toList
    · rw [if_pos c1] at h; omega
    rw [if_neg c1] at h
    cases c2 : seenU seen u.f0 with
    | true => rw [c2, if_pos rfl] at h; omega
    | false =>
      rw [c2, if_neg (by decide)] at h
      cases c3 : rightv u.f1.f0 u.f1.f1 with
      | false => rw [c3, if_neg (by decide)] at h; omega
      | true =>
        rw [c3, if_pos rfl] at h
        by_cases c4 : u.f1.f0 ≤ 0
        · rw [if_pos c4] at h; omega
        · exact ⟨rfl, c1, rfl, rfl, by omega⟩
theorem unitsv_zero {b1 : ByteArray} : ∀ (l seen : List Uu), unitsv b1 seen l = 0 → (∀ u ∈ l, codev u.f0 = true ∧ u.f0.toList ≠ b1.toList ∧ seenU seen u.f0 = false ∧ rightv u.f1.f0 u.f1.f1 = true ∧ 0 < u.f1.f0) ∧ l.Pairwise (fun u v => u.f0.toList ≠ v.f0.toList)
  | [], seen, h => ⟨fun u hu => by simp at hu, List.Pairwise.nil⟩
  | u :: r, seen, h => by
    unfold unitsv at h
    by_cases c : unitv b1 seen u = 0
    · rw [if_pos c] at h
      have hu := unitv_zero c
      obtain ⟨h1, h2⟩ := unitsv_zero r _ h
      have hs : ∀ v ∈ r, seenU seen v.f0 = false ∧ u.f0.toList ≠ v.f0.toList := fun v hv => by
        have h3 := (h1 v hv).2.2.1
        unfold seenU at h3 ⊢
        rw [List.any_append, Bool.or_eq_false_iff] at h3
        refine ⟨h3.1, fun e => ?_⟩
        have h4 := h3.2
        simp [e] at h4
      refine ⟨fun v hv => ?_, List.pairwise_cons.2 ⟨fun v hv => (hs v hv).2, h2⟩⟩
      rcases List.mem_cons.1 hv with rfl | hv
      · exact hu
      · obtain ⟨q1, q2, _, q4, q5⟩ := h1 v hv
        exact ⟨q1, q2, (hs v hv).1, q4, q5⟩
    · rw [if_neg c] at h
      exact absurd h c
structure GoodP (p : Pd) : Prop where
  c0 : codev p.f0 = true
  c1 : codev p.f1 = true
  us : ∀ u ∈ p.f4, codev u.f0 = true ∧ u.f0.toList ≠ p.f1.toList ∧ rightv u.f1.f0 u.f1.f1 = true ∧ 0 < u.f1.f0
  pw : p.f4.Pairwise (fun u v => u.f0.toList ≠ v.f0.toList)
  len : p.f4.length ≤ 10
theorem chkv_zero {p : Pd} (h : chkv p = 0) : GoodP p := by
  unfold chkv at h
  cases c0 : codev p.f0 with
  | false => rw [c0, if_pos rfl] at h; omega
  | true =>
    rw [c0, if_neg (by decide)] at h
    cases c1 : codev p.f1 with
    | false => rw [c1, if_pos rfl] at h; omega
    | true =>
      rw [c1, if_neg (by decide)] at h
      split at h
      · omega
      · split at h
        · omega
        · split at h
          · omega
          · obtain ⟨h1, h2⟩ := unitsv_zero p.f4 [] h
            exact ⟨c0, c1, fun u hu => ⟨(h1 u hu).1, (h1 u hu).2.1, (h1 u hu).2.2.2.1, (h1 u hu).2.2.2.2⟩, h2, by omega⟩
/-! ### the factor of a unit -/
def findU (l : List Uu) (s : ByteArray) : Option Uu := l.find? (fun u => u.f0.toList == s.toList)
def facv (p : Pd) (s : ByteArray) : Option (Int × Int) :=
  if s.toList = ([] : List UInt8) ∨ s.toList = p.f1.toList then some (1, 1) else (findU p.f4 s).map (fun u => (u.f1.f0, u.f1.f1))
def largev (n : Int) : Bool := decide (n > 1000000000) || decide (n < -1000000000)
theorem items_large.eq (n : Int) : items_large.f n = some (largev n) := by
  unfold items_large.f largev
  split
  · rename_i h; rw [decide_eq_true h]; rfl
  · rename_i h; rw [decide_eq_false h]; rfl
def convv (p : Pd) (n : Int) (s : ByteArray) : Int × Int × Int :=
  if chkv p = 0 then (match facv p s with
    | none => (0, 0, 22)
    | some q => if largev n = true then (0, 0, 3) else (q.1, q.2, 0)) else (0, 0, chkv p)
theorem find_item (l : List Uu) (hl : l.length ≤ 10000000000000) (s : ByteArray) : ∀ (m i : Nat), i + m = l.length → ∃ r : Int, Ev (fun k => api_Unit_64__items_factor_1.l0 k l (l.length : Int) (i : Int) s) (r, s) ∧ ((r < 0 ∧ findU (l.drop i) s = none) ∨ ∃ j : Nat, r = (j : Int) ∧ ∃ h : j < l.length, findU (l.drop i) s = some l[j])
  | 0, i, h => by
    refine ⟨-1, Ev.succ ?_, .inl ⟨by omega, ?_⟩⟩
    · simp only [api_Unit_64__items_factor_1.l0, if_neg (show ¬ (i : Int) < (l.length : Int) by omega)]
      exact Ev.const _
    · rw [List.drop_eq_nil_of_le (by omega)]
      rfl
  | m + 1, i, h => by
    have hi : i < l.length := by omega
    rw [List.drop_eq_getElem_cons hi]
    unfold findU
    rw [List.find?_cons]
    by_cases c : l[i].f0.toList = s.toList
    · refine ⟨(i : Int), Ev.succ ?_, .inr ⟨i, rfl, hi, ?_⟩⟩
      · simp only [api_Unit_64__items_factor_1.l0, if_pos (show (i : Int) < (l.length : Int) by omega), if_pos (show 0 ≤ (i : Int) by omega), items_factor_1.f, Option.bind_some, show rd_T61 l (i : Int) = l[i] from rdU_at l i hi, c, beq_self_eq_true, if_true]
        exact Ev.const _
      · rw [c, beq_self_eq_true]
    · obtain ⟨r, h1, h2⟩ := find_item l hl s m (i + 1) (by omega)
      refine ⟨r, Ev.succ ?_, ?_⟩
      · simp only [api_Unit_64__items_factor_1.l0, if_pos (show (i : Int) < (l.length : Int) by omega), if_pos (show 0 ≤ (i : Int) by omega), items_factor_1.f, Option.bind_some, show rd_T61 l (i : Int) = l[i] from rdU_at l i hi, beq_eq_false_iff_ne.mpr c, Bool.false_eq_true, if_false, w64 (show -9223372036854775808 ≤ (i : Int) + 1 by omega) (by omega)]
        exact h1
      · rw [beq_eq_false_iff_ne.mpr c]
        exact h2
theorem items_factor.eq (p : Pd) (hl : p.f4.length ≤ 10000000000000) (s : ByteArray) : Ev (fun k => items_factor.f k p.f0 p.f1 p.f2 p.f3 p.f4 s) (match facv p s with | none => (0, 0, false) | some q => (q.1, q.2, true)) := by
  have h1 : Ev (fun k => items_factor.j0 k true p.f0 p.f1 p.f2 p.f3 p.f4 s) (1, 1, true) := Ev.succ (by simp only [items_factor.j0, if_true]; exact Ev.const _)
  unfold items_factor.f facv
  by_cases c0 : s.toList = ([] : List UInt8)
  · simp only [if_pos c0, if_pos (show s.toList = ([] : List UInt8) ∨ s.toList = p.f1.toList from .inl c0)]
    exact h1
  simp only [if_neg c0]
  by_cases c1 : s.toList = p.f1.toList
  · simp only [c1, beq_self_eq_true, if_pos (show (p.f1.toList = ([] : List UInt8) ∨ True) from .inr trivial)]
    exact h1
  · simp only [beq_eq_false_iff_ne.mpr c1, if_neg (show ¬ (s.toList = ([] : List UInt8) ∨ s.toList = p.f1.toList) from fun h => h.elim c0 c1)]
    refine Ev.succ ?_
    simp only [items_factor.j0, Bool.false_eq_true, if_false]
    obtain ⟨r, h2, h3⟩ := find_item p.f4 hl s p.f4.length 0 (by omega)
    rw [List.drop_zero] at h3
    refine Ev.bind (a := (r, s)) (by unfold api_Unit_64__items_factor_1.f; exact h2) ?_
    dsimp only
    rcases h3 with ⟨h3, h4⟩ | ⟨j, rfl, hj, h4⟩
    · simp only [if_pos h3, h4]
      exact Ev.const _
    · simp only [if_neg (show ¬ (j : Int) < 0 by omega), if_pos (show 0 ≤ (j : Int) by omega), if_pos (show (j : Int) < (p.f4.length : Int) by omega), h4, Option.map_some, show rd_T61 p.f4 (j : Int) = p.f4[j] from rdU_at p.f4 j hj]
      exact Ev.const _
theorem items_convertible.eq (p : Pd) (hl : p.f4.length ≤ 10000000000000) (hg : ∀ u ∈ p.f4, inI u.f1.f0 ∧ inI u.f1.f1) (n : Int) (s : ByteArray) : Ev (fun k => items_convertible.f k p.f0 p.f1 p.f2 p.f3 p.f4 n s) (convv p n s) := by
  unfold items_convertible.f convv
  refine Ev.bind (items_Check.eq p hl hg) ?_
  by_cases c : chkv p = 0
  · simp only [if_pos c]
    refine Ev.bind (items_factor.eq p hl s) ?_
    cases facv p s with
    | none => simp only [Bool.false_eq_true, if_false]; exact Ev.const _
    | some q =>
      simp only [if_true, items_large.eq, Option.bind_some]
      split <;> exact Ev.const _
  · simp only [if_neg c]
    exact Ev.const _
/-! ### the specification's -/
def lastU (s : ByteArray) (l : List Uu) (q : Int × Int) : Int × Int := l.foldl (fun q u => if u.f0.toList = s.toList then (u.f1.f0, u.f1.f1) else q) q
def finv (n : Int) (q : Int × Int) : Int × Int × Int := if q.2 = 0 then (0, 0, 22) else if largev n = true then (0, 0, 3) else (q.1, q.2, 0)
theorem fac_go (p : Pd) (hl : p.f4.length ≤ 10000000000000) (n : Int) (s : ByteArray) : ∀ (m i : Nat) (q : Int × Int), i + m = p.f4.length → Ev (fun k => accountingref32_factor.l0 k n s (i : Int) p.f0 p.f1 p.f2 p.f3 p.f4 q.1 q.2) (finv n (lastU s (p.f4.drop i) q))
  | 0, i, q, h => by
    refine Ev.succ ?_
    rw [List.drop_eq_nil_of_le (by omega)]
    simp only [accountingref32_factor.l0, if_neg (show ¬ (i : Int) < (p.f4.length : Int) by omega), lastU, List.foldl_nil, finv, largev]
    by_cases c0 : q.2 = 0
    · simp only [c0, if_true]; exact Ev.const _
    simp only [c0, if_false]
    by_cases c1 : n > 1000000000
    · simp only [if_pos c1, decide_eq_true c1, Bool.true_or, if_true]; exact Ev.const _
    simp only [if_neg c1, decide_eq_false c1, Bool.false_or]
    by_cases c2 : n < -1000000000
    · simp only [if_pos c2, decide_eq_true c2, if_true]; exact Ev.const _
    · simp only [if_neg c2, decide_eq_false c2, Bool.false_eq_true, if_false]; exact Ev.const _
  | m + 1, i, q, h => by
    have hi : i < p.f4.length := by omega
    rw [List.drop_eq_getElem_cons hi]
    refine Ev.succ ?_
    simp only [accountingref32_factor.l0, if_pos (show (i : Int) < (p.f4.length : Int) by omega), if_pos (show 0 ≤ (i : Int) by omega), show rd_T61 p.f4 (i : Int) = p.f4[i] from rdU_at p.f4 i hi, w64 (show -9223372036854775808 ≤ (i : Int) + 1 by omega) (by omega), lastU, List.foldl_cons]
    by_cases c : p.f4[i].f0.toList = s.toList
    · simp only [if_pos c]
      exact fac_go p hl n s m (i + 1) (p.f4[i].f1.f0, p.f4[i].f1.f1) (by omega)
    · simp only [if_neg c]
      exact fac_go p hl n s m (i + 1) q (by omega)
theorem lastU_none (s : ByteArray) : ∀ (l : List Uu) (q : Int × Int), (∀ u ∈ l, u.f0.toList ≠ s.toList) → lastU s l q = q
  | [], q, h => rfl
  | u :: r, q, h => by
    unfold lastU
    rw [List.foldl_cons, if_neg (h u List.mem_cons_self)]
    exact lastU_none s r q (fun v hv => h v (List.mem_cons_of_mem _ hv))
theorem lastU_find (s : ByteArray) : ∀ (l : List Uu) (q : Int × Int), l.Pairwise (fun u v => u.f0.toList ≠ v.f0.toList) → lastU s l q = ((findU l s).map (fun u => (u.f1.f0, u.f1.f1))).getD q
  | [], q, h => rfl
  | u :: r, q, h => by
    obtain ⟨h1, h2⟩ := List.pairwise_cons.1 h
    unfold findU
    rw [List.find?_cons]
    by_cases c : u.f0.toList = s.toList
    · rw [c, beq_self_eq_true]
      have e : lastU s (u :: r) q = lastU s r (u.f1.f0, u.f1.f1) := by unfold lastU; rw [List.foldl_cons, if_pos c]
      rw [e, lastU_none s r _ (fun v hv e => h1 v hv (c.trans e.symm))]
      rfl
    · rw [beq_eq_false_iff_ne.mpr c]
      have e : lastU s (u :: r) q = lastU s r q := by unfold lastU; rw [List.foldl_cons, if_neg c]
      rw [e]
      exact lastU_find s r q h2
theorem accountingref32_factor.eq (p : Pd) (hl : p.f4.length ≤ 10000000000000) (hg : ∀ u ∈ p.f4, inI u.f1.f0 ∧ inI u.f1.f1) (hs : ∀ u ∈ p.f4, u.f0.size ≤ 1000000000000000) (h0 : p.f0.size ≤ 1000000000000000) (h1 : p.f1.size ≤ 1000000000000000) (n : Int) (s : ByteArray) : Ev (fun k => accountingref32_factor.f k p.f0 p.f1 p.f2 p.f3 p.f4 n s) (convv p n s) := by
  unfold accountingref32_factor.f convv
  refine Ev.bind (accountingref32_Check.eq p hl hg hs h0 h1) ?_
  by_cases c : chkv p = 0
  · simp only [if_pos c]
    have hp := chkv_zero c
    have hj1 : ∀ a b : Int, Ev (fun k => accountingref32_factor.j1 k n s p.f0 p.f1 p.f2 p.f3 p.f4 a b) (finv n (lastU s p.f4 (a, b))) := fun a b => Ev.succ (by
      simp only [accountingref32_factor.j1]
      exact fac_go p hl n s p.f4.length 0 (a, b) (by omega))
    have hone : (∀ u ∈ p.f4, u.f0.toList ≠ s.toList) → Ev (fun k => accountingref32_factor.j0 k n s true p.f0 p.f1 p.f2 p.f3 p.f4 0 0) (if largev n = true then (0, 0, 3) else (1, 1, 0)) := fun hno => Ev.succ (by
      simp only [accountingref32_factor.j0, if_true]
      have := hj1 1 1
      rw [lastU_none s p.f4 _ hno] at this
      exact this)
    unfold facv
    by_cases c0 : s.toList = ([] : List UInt8)
    · simp only [if_pos c0, if_pos (show s.toList = ([] : List UInt8) ∨ s.toList = p.f1.toList from .inl c0)]
      exact hone (fun u hu e => codev_ne (hp.us u hu).1 (e.trans c0))
    simp only [if_neg c0]
    by_cases c1 : s.toList = p.f1.toList
    · simp only [c1, beq_self_eq_true, if_pos (show (p.f1.toList = ([] : List UInt8) ∨ True) from .inr trivial)]
      exact hone (fun u hu e => (hp.us u hu).2.1 (e.trans c1))
    · simp only [beq_eq_false_iff_ne.mpr c1, if_neg (show ¬ (s.toList = ([] : List UInt8) ∨ s.toList = p.f1.toList) from fun h => h.elim c0 c1)]
      refine Ev.succ ?_
      simp only [accountingref32_factor.j0, Bool.false_eq_true, if_false]
      have h2 := hj1 0 0
      rw [lastU_find s p.f4 _ hp.pw] at h2
      cases hf : findU p.f4 s with
      | none =>
        rw [hf] at h2
        exact h2
      | some u =>
        rw [hf] at h2
        have hu := List.mem_of_find?_eq_some hf
        have hr := rightv_bounds (hp.us u hu).2.2.1
        simp only [Option.map_some, Option.getD_some, finv, if_neg (show ¬ u.f1.f1 = 0 by omega)] at h2
        exact h2
  · simp only [if_neg c]
    exact Ev.const _
/-! ### the conversions -/
def tov (p : Pd) (n : Int) (s : ByteArray) : Int × Int :=
  if (convv p n s).2.2 = 0 then (if Int.tmod (wrap64 (n * (convv p n s).1)) (convv p n s).2.1 = 0 then (if largev (wrap64 (Int.tdiv (wrap64 (n * (convv p n s).1)) (convv p n s).2.1)) = true then (0, 4) else (wrap64 (Int.tdiv (wrap64 (n * (convv p n s).1)) (convv p n s).2.1), 0)) else (0, 2)) else (0, (convv p n s).2.2)
theorem facv_bounds {p : Pd} (h : chkv p = 0) {s : ByteArray} {q : Int × Int} (hq : facv p s = some q) : 1 ≤ q.1 ∧ q.1 ≤ 1000000 ∧ 1 ≤ q.2 ∧ q.2 ≤ 1000000 ∧ rightv q.1 q.2 = true := by
  unfold facv at hq
  split at hq
  · obtain rfl := Option.some.inj hq
    exact ⟨by decide, by decide, by decide, by decide, by decide⟩
  · cases hf : findU p.f4 s with
    | none => rw [hf] at hq; cases hq
    | some u =>
      rw [hf] at hq
      obtain rfl := Option.some.inj hq
      have hu := (chkv_zero h).us u (List.mem_of_find?_eq_some hf)
      have hr := rightv_bounds hu.2.2.1
      exact ⟨hu.2.2.2, hr.2.2.2, hr.1, hr.2.1, hu.2.2.1⟩
theorem convv_ok {p : Pd} {n : Int} {s : ByteArray} (h : (convv p n s).2.2 = 0) : chkv p = 0 ∧ facv p s = some ((convv p n s).1, (convv p n s).2.1) ∧ -1000000000 ≤ n ∧ n ≤ 1000000000 ∧ 1 ≤ (convv p n s).1 ∧ (convv p n s).1 ≤ 1000000 ∧ 1 ≤ (convv p n s).2.1 ∧ (convv p n s).2.1 ≤ 1000000 ∧ rightv (convv p n s).1 (convv p n s).2.1 = true := by
  unfold convv at h ⊢
  by_cases c : chkv p = 0
  · simp only [if_pos c] at h ⊢
    cases hf : facv p s with
    | none => rw [hf] at h; simp at h
    | some q =>
      rw [hf] at h
      dsimp only at h ⊢
      cases hl : largev n with
      | true => rw [hl] at h; simp at h
      | false =>
        simp only [Bool.false_eq_true, if_false]
        have hb := facv_bounds c hf
        unfold largev at hl
        simp only [Bool.or_eq_false_iff, decide_eq_false_iff_not] at hl
        exact ⟨c, trivial, by omega, by omega, hb⟩
  · simp only [if_neg c] at h
    exact absurd h c
theorem items_To.eq (p : Pd) (hl : p.f4.length ≤ 10000000000000) (hg : ∀ u ∈ p.f4, inI u.f1.f0 ∧ inI u.f1.f1) (n : Int) (s : ByteArray) : Ev (fun k => items_To.f k p.f0 p.f1 p.f2 p.f3 p.f4 n s) (tov p n s) := by
  unfold items_To.f tov
  refine Ev.bind (items_convertible.eq p hl hg n s) ?_
  by_cases c : (convv p n s).2.2 = 0
  · simp only [if_pos c]
    have hb := convv_ok c
    simp only [if_neg (show ¬ (convv p n s).2.1 = 0 by omega)]
    split
    · simp only [items_large.eq, Option.bind_some]
      split <;> exact Ev.const _
    · exact Ev.const _
  · simp only [if_neg c]
    exact Ev.const _
theorem accountingref32_To.eq (p : Pd) (hl : p.f4.length ≤ 10000000000000) (hg : ∀ u ∈ p.f4, inI u.f1.f0 ∧ inI u.f1.f1) (hs : ∀ u ∈ p.f4, u.f0.size ≤ 1000000000000000) (h0 : p.f0.size ≤ 1000000000000000) (h1 : p.f1.size ≤ 1000000000000000) (n : Int) (s : ByteArray) : Ev (fun k => accountingref32_To.f k p.f0 p.f1 p.f2 p.f3 p.f4 n s) (tov p n s) := by
  unfold accountingref32_To.f tov
  refine Ev.bind (accountingref32_factor.eq p hl hg hs h0 h1 n s) ?_
  by_cases c : (convv p n s).2.2 = 0
  · simp only [if_pos c]
    have hb := convv_ok c
    simp only [if_neg (show ¬ (convv p n s).2.1 = 0 by omega)]
    split
    · unfold largev
      by_cases c1 : wrap64 (Int.tdiv (wrap64 (n * (convv p n s).1)) (convv p n s).2.1) > 1000000000
      · simp only [if_pos c1, decide_eq_true c1, Bool.true_or, if_true]; exact Ev.const _
      simp only [if_neg c1, decide_eq_false c1, Bool.false_or]
      by_cases c2 : wrap64 (Int.tdiv (wrap64 (n * (convv p n s).1)) (convv p n s).2.1) < -1000000000
      · simp only [if_pos c2, decide_eq_true c2, if_true]; exact Ev.const _
      · simp only [if_neg c2, decide_eq_false c2, Bool.false_eq_true, if_false]; exact Ev.const _
    · exact Ev.const _
  · simp only [if_neg c]
    exact Ev.const _
end Go.Proofs.Ytoppdlideonjjaa.M
end
section
/- What Make and From come to. -/
namespace Go.Proofs.Ytoppdlideonjjaa.M
open Go.RowKit Go.Proofs.YtoppdlideonjjaaW.PrintWords Go.Proofs.YtoppdlideonjjaaW.PrintLast Dv
set_option linter.unusedVariables false
set_option linter.unusedSimpArgs false
def gd (n d : Int) : Int := ((Nat.gcd (ab n).toNat (ab d).toNat : Nat) : Int)
def makev (n d : Int) : Int × Int × Int :=
  if d = 0 then (0, 0, 2) else if ab n / gd n d > 1000000 ∨ ab d / gd n d > 1000000 then (0, 0, 4) else (if ((decide (n < 0)) != (decide (d < 0))) = true then -(ab n / gd n d) else ab n / gd n d, ab d / gd n d, 0)
theorem gd_pos {n d : Int} (h : d ≠ 0) : 0 < gd n d := by
  unfold gd
  have h1 := ab_pos h
  have : 0 < Nat.gcd (ab n).toNat (ab d).toNat := Nat.gcd_pos_of_pos_right _ (by omega)
  omega
theorem div_range {x g : Int} (h0 : 0 ≤ x) (hg : 0 < g) : 0 ≤ x / g ∧ x / g ≤ x := ⟨Int.ediv_nonneg h0 (by omega), Int.ediv_le_self _ h0⟩
theorem frac_Make.eq {n d : Int} (hn : inI n) (hd : inI d) : Ev (fun k => frac_Make.f k n d) (makev n d) := by
  have bn := ab_bound hn
  have bd := ab_bound hd
  unfold frac_Make.f makev
  by_cases c : d = 0
  · simp only [if_pos c]; exact Ev.const _
  simp only [if_neg c, frac_size.eq hn, frac_size.eq hd, Option.bind_some]
  have hg := gd_pos (n := n) c
  refine Ev.bind (a := gd n d) (frac_gcd.go _ _ _ (Nat.le_refl _) bn.1 bd.1) ?_
  have e1 : Int.tdiv (ab n) (gd n d) = ab n / gd n d := Int.tdiv_eq_ediv_of_nonneg bn.1
  have e2 : Int.tdiv (ab d) (gd n d) = ab d / gd n d := Int.tdiv_eq_ediv_of_nonneg bd.1
  have r1 := div_range bn.1 hg
  have r2 := div_range bd.1 hg
  simp only [if_neg (show ¬ gd n d = 0 by omega), e1, e2, u64w r1.1 (by omega), u64w r2.1 (by omega)]
  have hj : Ev (fun k => frac_Make.j0 k n d (ab n / gd n d) (ab d / gd n d) true 0 0) (0, 0, 4) := Ev.succ (by simp only [frac_Make.j0, if_true]; exact Ev.const _)
  by_cases c1 : ab n / gd n d > 1000000
  · simp only [if_pos c1, if_pos (show ab n / gd n d > 1000000 ∨ ab d / gd n d > 1000000 from .inl c1)]; exact hj
  simp only [if_neg c1]
  by_cases c2 : ab d / gd n d > 1000000
  · simp only [decide_eq_true c2, if_pos (show ab n / gd n d > 1000000 ∨ ab d / gd n d > 1000000 from .inr c2)]; exact hj
  simp only [decide_eq_false c2, if_neg (show ¬ (ab n / gd n d > 1000000 ∨ ab d / gd n d > 1000000) by omega)]
  refine Ev.succ ?_
  simp only [frac_Make.j0, Bool.false_eq_true, if_false, w64 (show -9223372036854775808 ≤ ab n / gd n d by omega) (by omega), w64 (show -9223372036854775808 ≤ ab d / gd n d by omega) (by omega), w64 (show -9223372036854775808 ≤ -(ab n / gd n d) by omega) (by omega)]
  split <;> exact Ev.const _
theorem accountingref03_Make.eq {n d : Int} (hn : inI n) (hd : inI d) : Ev (fun k => accountingref03_Make.f k n d) (makev n d) := by
  have bn := ab_bound hn
  have bd := ab_bound hd
  unfold accountingref03_Make.f makev
  by_cases c : d = 0
  · simp only [if_pos c]; exact Ev.const _
  simp only [if_neg c, accountingref03_size.eq hn, accountingref03_size.eq hd, Option.bind_some]
  have hg := gd_pos (n := n) c
  refine Ev.bind (a := gd n d) (accountingref03_divisor.go _ _ _ (Nat.le_refl _) bn.1 bd.1) ?_
  have e1 : Int.tdiv (ab n) (gd n d) = ab n / gd n d := Int.tdiv_eq_ediv_of_nonneg bn.1
  have e2 : Int.tdiv (ab d) (gd n d) = ab d / gd n d := Int.tdiv_eq_ediv_of_nonneg bd.1
  have r1 := div_range bn.1 hg
  have r2 := div_range bd.1 hg
  simp only [if_neg (show ¬ gd n d = 0 by omega), e1, e2, u64w r1.1 (by omega), u64w r2.1 (by omega)]
  have hj : Ev (fun k => accountingref03_Make.j0 k n d (ab n / gd n d) (ab d / gd n d) true) (0, 0, 4) := Ev.succ (by simp only [accountingref03_Make.j0, if_true]; exact Ev.const _)
  by_cases c1 : ab n / gd n d > 1000000
  · simp only [if_pos c1, if_pos (show ab n / gd n d > 1000000 ∨ ab d / gd n d > 1000000 from .inl c1)]; exact hj
  simp only [if_neg c1]
  by_cases c2 : ab d / gd n d > 1000000
  · simp only [decide_eq_true c2, if_pos (show ab n / gd n d > 1000000 ∨ ab d / gd n d > 1000000 from .inr c2)]; exact hj
  simp only [decide_eq_false c2, if_neg (show ¬ (ab n / gd n d > 1000000 ∨ ab d / gd n d > 1000000) by omega)]
  refine Ev.succ ?_
  simp only [accountingref03_Make.j0, Bool.false_eq_true, if_false, w64 (show -9223372036854775808 ≤ ab n / gd n d by omega) (by omega), w64 (show -9223372036854775808 ≤ ab d / gd n d by omega) (by omega), w64 (show -9223372036854775808 ≤ -(ab n / gd n d) by omega) (by omega)]
  split <;> exact Ev.const _
theorem inI_wrap (n : Int) : inI (wrap64 n) := by unfold inI wrap64; omega
def fromv (p : Pd) (n : Int) (s : ByteArray) : Int × Int × Int :=
  if (convv p n s).2.2 = 0 then makev (wrap64 (n * (convv p n s).2.1)) (convv p n s).1 else (0, 0, (convv p n s).2.2)
theorem items_From.eq (p : Pd) (hl : p.f4.length ≤ 10000000000000) (hg : ∀ u ∈ p.f4, inI u.f1.f0 ∧ inI u.f1.f1) (n : Int) (s : ByteArray) : Ev (fun k => items_From.f k p.f0 p.f1 p.f2 p.f3 p.f4 n s) (fromv p n s) := by
  unfold items_From.f fromv
  refine Ev.bind (items_convertible.eq p hl hg n s) ?_
  by_cases c : (convv p n s).2.2 = 0
  · simp only [if_pos c]
    have hb := convv_ok c
    refine Ev.bind (frac_Make.eq (inI_wrap _) (by unfold inI; omega)) (Ev.const _)
  · simp only [if_neg c]
    exact Ev.const _
theorem accountingref32_From.eq (p : Pd) (hl : p.f4.length ≤ 10000000000000) (hg : ∀ u ∈ p.f4, inI u.f1.f0 ∧ inI u.f1.f1) (hs : ∀ u ∈ p.f4, u.f0.size ≤ 1000000000000000) (h0 : p.f0.size ≤ 1000000000000000) (h1 : p.f1.size ≤ 1000000000000000) (n : Int) (s : ByteArray) : Ev (fun k => accountingref32_From.f k p.f0 p.f1 p.f2 p.f3 p.f4 n s) (fromv p n s) := by
  unfold accountingref32_From.f fromv
  refine Ev.bind (accountingref32_factor.eq p hl hg hs h0 h1 n s) ?_
  by_cases c : (convv p n s).2.2 = 0
  · simp only [if_pos c]
    have hb := convv_ok c
    refine Ev.bind (accountingref03_Make.eq (inI_wrap _) (by unfold inI; omega)) (Ev.const _)
  · simp only [if_neg c]
    exact Ev.const _
end Go.Proofs.Ytoppdlideonjjaa.M
end
section
/- slices.Clone of units: a row of the call's own. -/
namespace Go.Proofs.Ytoppdlideonjjaa.M
open Go.RowKit Go.Proofs.YtoppdlideonjjaaW.PrintWords Go.Proofs.YtoppdlideonjjaaW.PrintLast Go.Proofs.YtoppdlideonjjaaW.PrintMore
attribute [local go_sem] max2_int min2_int max_two min_two max_three min_three max_four min_four
set_option linter.unusedVariables false
set_option linter.unusedSimpArgs false
abbrev Un := S61
abbrev kUn : Kd Un := k61
theorem un_flat (w : World) (base : Nat) (ok : Nat → Prop) (x : Un) (cs : List Value) (h : kUn.K w x cs) : kUn.M w base ok x cs := h
def api_Unit_61.f (l0 : List Un) : Option (List Un) := if l0.length ≤ 1000000 then some l0 else none
set_option maxHeartbeats 4000000 in
set_option maxRecDepth 100000 in
theorem api_Unit_61.calls (A0 : Option Addr) (c0 : Nat) (l0 : List Un) (r : List Un) (w : World) (hr0 : Kd.C kUn w A0 l0.length l0) (hc0 : l0.length ≤ c0) (h : api_Unit_61.f l0 = some r) :
    Calls Try.prog 61 #[.slice A0 l0.length c0] w fun e w' => ∃ v0_ : Value, e = .returned v0_ ∧ Kd.R kUn 61 w' w.heap.size (fun _ => True) v0_ r ∧ Below w.heap.size w w' := by
  have HR0 := Aside0.mk hr0
  have HC0 := Aside0.mk hc0
  clear hr0 hc0
  unfold api_Unit_61.f at h
  by_cases cN : l0.length ≤ 1000000
  rotate_left
  · rw [if_neg cN] at h; cases h
  rw [if_pos cN] at h
  obtain rfl := Option.some.inj h
  have HN := Aside0.mk cN
  clear h cN
  cases A0 with
  | none =>
    obtain rfl : l0 = [] := by
      cases l0 with
      | nil => rfl
      | cons x l => obtain ⟨ad, e, _⟩ := HR0.out.2.2 (by simp); cases e
    have hq := fun w => Lib.run_eql_slice_nil (P := Try.prog) w 22 61 none 0 c0 0 0 Try.underlying22
    simp only [Option.isNone_none] at hq
    go_enter Try.func61, Try.ntmps61
    go_wp2
    go_ret
    exact ⟨_, rfl, Kd.R_nil _ _ _ _ _, Below.refl _ _⟩
  | some ad =>
    have hq := fun w => Lib.run_eql_slice_nil (P := Try.prog) w 22 61 (some ad) l0.length c0 0 0 Try.underlying22
    simp only [Option.isNone_some] at hq
    go_enter Try.func61, Try.ntmps61
    go_wp2_with (first
      | (refine Kd.R_lit kUn (w0 := w) w.heap.size 61 rfl (N := 5) rfl (xs := []) (inner := []) (okp := fun _ => False) (ok := fun _ => True) (by first | (go_simp; done) | (go_simp; rfl)) ⟨rfl, fun j q hq => by simp at hq⟩ (fun _ hk => hk.elim) trivial (Below.refl _ _) (Nat.le_refl _) (by simp) ?_; intro v5 w5 ho5 hb5 hg5 hat5; have HO5 := Aside0.mk ho5; have HB5 := Aside0.mk hb5; clear ho5 hb5 hg5 hat5)
      | (refine Kd.R_append_rows kUn (w0 := w) (Rr := kUn.K w5) w.heap.size rfl (.tmp 5) (.tmp 6) 22 61 _ _ rfl Try.underlying22 info61 rfl (by decide) (by omega) v5 [] l0 (some ad) l0.length c0 (fun _ => True) (fun _ => False) rfl rfl HO5.out (Kd.C_below HR0.out HB5.out) (fun y cs hy => un_flat _ _ _ _ _ hy) (fun _ hk => hk.elim) (fun _ _ => trivial) HB5.out HB5.out.size (by have := HN.out; simp only [List.length_nil]; omega) ?_; intro v7 w7 ho7 hb7 hg7 hat7; have HO7 := Aside0.mk ho7; have HB7 := Aside0.mk hb7; clear ho7 hb7 hg7 hat7))
    go_ret
    exact ⟨_, rfl, HO7.out, HB7.out⟩
end Go.Proofs.Ytoppdlideonjjaa.M
end
section
/- Maps of the call's own, as_ lists of pairs. -/
namespace Go.Proofs.YtoppdlideonjjaaW.PrintLast
open Go.RowKit Go.Proofs.YtoppdlideonjjaaW.PrintWords
set_option linter.unusedSimpArgs false
set_option linter.unusedVariables false
section
variable {P : Program} {κ ν : Type} [DecidableEq κ]
/-- The element at a key. -/
def aget : List (κ × ν) → κ → Option ν
  | [], _ => none
  | p :: r, k => if p.1 = k then some p.2 else aget r k
/-- The list with an element at a key. -/
def aput : List (κ × ν) → κ → ν → List (κ × ν)
  | [], k, v => [(k, v)]
  | p :: r, k, v => if p.1 = k then (k, v) :: r else p :: aput r k v
def hitAt (k : κ) : List κ → List MapEntry → Nat → Option (Nat × Value)
  | k' :: ks, e :: es, i => if k' = k then some (i, e.val) else hitAt k ks es (i + 1)
  | _, _, _ => none
/-- What is asked of a type of keys. -/
structure KeyT (P : Program) (t : TypeId) (ek : κ → Value) : Prop where
  check : ∀ (e : Bool) (k : κ) (w : World), (Instr.checkKey e 10000 t (ek k)).run P w = .ok () w
  find : ∀ (k : κ) (l : List MapEntry) (ks : List κ) (w : World), l.map (·.key) = ks.map ek → (Instr.findKey t (ek k) l).run P w = .ok (hitAt k ks l 0) w
  same : ∀ k, Instr.sameBits 10000 (ek k) (ek k) = true
theorem findNow_hit {d : TypeDesc} {ek : κ → Value} (h : ∀ k k', Instr.sameNow d (ek k) (ek k') = some (decide (k' = k))) (k : κ) : ∀ (l : List MapEntry) (ks : List κ) (i : Nat), l.map (·.key) = ks.map ek → Instr.findNow d (ek k) l i = some (hitAt k ks l i)
  | [], [], i, _ => rfl
  | [], _ :: _, i, e => by simp at e
  | _ :: _, [], i, e => by simp at e
  | x :: l, k' :: ks, i, e => by
    simp only [List.map_cons, List.cons.injEq] at e
    unfold Instr.findNow hitAt
    rw [e.1, h k k']
    by_cases c : k' = k
    · simp [c]
    · simp [c, findNow_hit h k l ks (i + 1) e.2]
theorem KeyT.string {t : TypeId} (ht : P.underlying t = some .string) : KeyT P t Value.string where
  check := fun e k w => MapKept.run_checkKey (d := .string) ht (by simp [MapKept.IsKey]) e 9999
  find := fun k l ks w e => MapKept.run_findKey ht (findNow_hit (fun k k' => by
    simp only [Instr.sameNow, Option.some.injEq]
    by_cases c : k' = k
    · subst c; simp only [decide_true]; exact (MapKept.bytes_beq k' k').2 rfl
    · rw [decide_eq_false c]; rw [Bool.eq_false_iff]; exact fun h => c ((MapKept.bytes_beq k k').1 h).symm) k l ks 0 e)
  same := fun k => by simp only [Instr.sameBits]; exact (MapKept.bytes_beq k k).2 rfl
theorem KeyT.int {t : TypeId} {q : IntKind} (ht : P.underlying t = some (.int q)) : KeyT P t (Value.int q) where
  check := fun e k w => MapKept.run_checkKey (d := .int q) ht (by simp [MapKept.IsKey]) e 9999
  find := fun k l ks w e => MapKept.run_findKey ht (findNow_hit (fun k k' => by
    simp only [Instr.sameNow, if_true, Option.some.injEq]
    by_cases c : k' = k
    · subst c; simp
    · rw [decide_eq_false c]; exact beq_eq_false_iff_ne.2 (fun h => c h.symm)) k l ks 0 e)
  same := fun k => by simp [Instr.sameBits]
/-- Block b is a map that holds these pairs. -/
def MapIs (ek : κ → Value) (ev : ν → Value) (w : World) (b : Nat) (L : List (κ × ν)) : Prop :=
  ∃ (es : Array MapEntry) (clock : Nat), w.heap[b]? = some (.map es clock) ∧ es.toList.map (·.key) = L.map (fun p => ek p.1) ∧ es.toList.map (·.val) = L.map (fun p => ev p.2) ∧ (∀ e ∈ es.toList, e.born < clock) ∧ es.toList.Pairwise (fun x y => x.born ≠ y.born)
variable {ek : κ → Value} {ev : ν → Value} {w w' : World} {b : Nat} {L : List (κ × ν)}
omit [DecidableEq κ] in
theorem MapIs_made (ek : κ → Value) (ev : ν → Value) (w : World) : MapIs ek ev (w.alloc (.map #[] 0)) w.heap.size [] :=
  ⟨#[], 0, heap_alloc_new w _, rfl, rfl, by simp, by simp⟩
omit [DecidableEq κ] in
theorem MapIs.lt (h : MapIs ek ev w b L) : b < w.heap.size := by
  obtain ⟨es, clock, hb, _⟩ := h
  exact (Array.getElem?_eq_some_iff.1 hb).1
omit [DecidableEq κ] in
theorem MapIs.move (h : MapIs ek ev w b L) (e : w'.heap[b]? = w.heap[b]?) : MapIs ek ev w' b L := by
  obtain ⟨es, clock, hb, r⟩ := h
  exact ⟨es, clock, e.trans hb, r⟩
omit [DecidableEq κ] in
theorem MapIs.below (h : MapIs ek ev w b L) (hb : Below w.heap.size w w') : MapIs ek ev w' b L := h.move (hb.block b h.lt)
omit [DecidableEq κ] in
theorem MapIs.alloc (h : MapIs ek ev w b L) (o : Obj) : MapIs ek ev (w.alloc o) b L := h.move (Below.heap_alloc w o b h.lt)
theorem hitAt_get (k : κ) : ∀ (L : List (κ × ν)) (l : List MapEntry) (i : Nat), l.map (·.val) = L.map (fun p => ev p.2) → (hitAt k (L.map (·.1)) l i).map (·.2) = (aget L k).map ev
  | [], l, i, e => by cases l <;> simp [hitAt, aget] at *
  | p :: L, [], i, e => by simp at e
  | p :: L, x :: l, i, e => by
    simp only [List.map_cons, List.cons.injEq] at e
    simp only [List.map_cons, hitAt, aget]
    by_cases c : p.1 = k
    · simp [c, e.1]
    · simp only [if_neg c]
      exact hitAt_get k L l (i + 1) e.2
/-- What a look-up yields. -/
def lookV (ev : ν → Value) (L : List (κ × ν)) (k : κ) (z : Value) (c : Bool) : Value :=
  if c = true then .tuple #[((aget L k).map ev).getD z, .bool (aget L k).isSome] else ((aget L k).map ev).getD z
theorem MapIs.look {mt kt vt : TypeId} (h : MapIs ek ev w b L) (K : KeyT P kt ek) (ht : P.underlying mt = some (.map kt vt)) {z : Value} (hz : (zeroValue vt).run P w = .ok z w) (k : κ) (c : Bool) : (Instr.lookup mt (.map (some b)) (ek k) c).run P w = .ok (lookV ev L k z c) w := by
  obtain ⟨es, clock, hb, hk, hv, _⟩ := h
  have hf := K.find k es.toList (L.map (·.1)) w (by rw [hk, List.map_map]; rfl)
  have hg := hitAt_get (ev := ev) k L es.toList 0 hv
  unfold Instr.lookup lookV
  simp only [Sem.run_bind, run_underlying ht, Result.andThen_ok, MapKept.run_getObj_map hb, K.check, hf, Sem.run_pure]
  cases hh : hitAt k (L.map (·.1)) es.toList 0 with
  | none =>
    rw [hh] at hg
    have : aget L k = none := by cases ha : aget L k <;> simp [ha] at hg ⊢
    cases c <;> simp [this, Sem.run_bind, hz, Result.andThen, MapKept.run_getObj_map hb, K.check, hf, hh]
  | some r =>
    obtain ⟨i, v⟩ := r
    rw [hh] at hg
    cases ha : aget L k with
    | none => simp [ha] at hg
    | some u =>
      simp [ha] at hg
      cases c <;> simp [hg, Sem.run_bind, Result.andThen, MapKept.run_getObj_map hb, K.check, hf, hh]
/-- Where the key is: its place. -/
theorem hitAt_some (k : κ) : ∀ (L : List (κ × ν)) (l : List MapEntry) (i j : Nat) (v : Value), l.map (·.key) = L.map (fun p => ek p.1) → l.map (·.val) = L.map (fun p => ev p.2) → hitAt k (L.map (·.1)) l i = some (j, v) →
    ∃ n e, j = i + n ∧ l[n]? = some e ∧ e.key = ek k ∧ ∀ (f : MapEntry → MapEntry) (u : ν), (f e).key = ek k → (f e).val = ev u → (l.modify n f).map (·.key) = (aput L k u).map (fun p => ek p.1) ∧ (l.modify n f).map (·.val) = (aput L k u).map (fun p => ev p.2)
  | [], l, i, j, v, e1, e2, h => by cases l <;> simp [hitAt] at h
  | p :: L, [], i, j, v, e1, e2, h => by simp at e1
  | p :: L, x :: l, i, j, v, e1, e2, h => by
    simp only [List.map_cons, List.cons.injEq] at e1 e2
    simp only [List.map_cons, hitAt] at h
    by_cases c : p.1 = k
    · rw [if_pos c] at h
      simp only [Option.some.injEq, Prod.mk.injEq] at h
      refine ⟨0, x, by omega, rfl, by rw [e1.1, c], fun f u hk hv => ?_⟩
      simp [aput, c, hk, hv, e1.2, e2.2]
    · rw [if_neg c] at h
      obtain ⟨n, e, h1, h2, h3, h4⟩ := hitAt_some k L l (i + 1) j v e1.2 e2.2 h
      refine ⟨n + 1, e, by omega, by simpa using h2, h3, fun f u hk hv => ?_⟩
      have := h4 f u hk hv
      simp [aput, c, this.1, this.2, e1.1, e2.1]
theorem hitAt_none (k : κ) : ∀ (L : List (κ × ν)) (l : List MapEntry) (i : Nat), l.length = L.length → hitAt k (L.map (·.1)) l i = none → ∀ v, aput L k v = L ++ [(k, v)]
  | [], l, i, e, h, v => rfl
  | p :: L, [], i, e, h, v => by simp at e
  | p :: L, x :: l, i, e, h, v => by
    simp only [List.map_cons, hitAt] at h
    by_cases c : p.1 = k
    · rw [if_pos c] at h; cases h
    · rw [if_neg c] at h
      simp [aput, c, hitAt_none k L l (i + 1) (by simpa using e) h v]
theorem pairwise_modify {l : List MapEntry} (h : l.Pairwise (fun x y => x.born ≠ y.born)) (n : Nat) (f : MapEntry → MapEntry) (hf : ∀ e, (f e).born = e.born) : (l.modify n f).Pairwise (fun x y => x.born ≠ y.born) := by
  have e : (l.modify n f).map (·.born) = l.map (·.born) := by
    apply List.ext_getElem?
    intro i
    simp only [List.getElem?_map, List.getElem?_modify]
    cases l[i]? with
    | none => simp
    | some x => by_cases c : n = i <;> simp [c, hf]
  have h2 : (l.map (·.born)).Pairwise (· ≠ ·) := List.pairwise_map.2 h
  rw [← e] at h2
  exact List.pairwise_map.1 h2
theorem mem_modify {l : List MapEntry} {n : Nat} {f : MapEntry → MapEntry} {x : MapEntry} (hf : ∀ e, (f e).born = e.born) (h : x ∈ l.modify n f) : ∃ y ∈ l, x.born = y.born := by
  obtain ⟨i, hi⟩ := List.getElem?_of_mem h
  rw [List.getElem?_modify] at hi
  cases hl : l[i]? with
  | none => simp [hl] at hi
  | some y =>
    refine ⟨y, List.mem_of_getElem? hl, ?_⟩
    by_cases c : n = i
    · simp [hl, c] at hi; rw [← hi, hf]
    · simp [hl, c] at hi; rw [hi]
theorem grown_set (w : World) (b : Nat) (o : Obj) : w.grownBy { w with heap := w.heap.setIfInBounds b o } (some b) :=
  ⟨rfl, rfl, rfl, by simp, fun i _ hi => by simp [Array.getElem?_setIfInBounds]; intro e; exact absurd (by rw [e]) hi⟩
theorem MapIs.upd {mt kt vt : TypeId} (h : MapIs ek ev w b L) (K : KeyT P kt ek) (ht : P.underlying mt = some (.map kt vt)) (k : κ) (v : ν) : ∃ w', (Instr.mapUpdate mt (.map (some b)) (ek k) (ev v)).run P w = .ok () w' ∧ MapIs ek ev w' b (aput L k v) ∧ w.grownBy w' (some b) ∧ w'.heap.size = w.heap.size := by
  obtain ⟨es, clock, hb, hk, hv, hbn, hpw⟩ := h
  have hlt : b < w.heap.size := (Array.getElem?_eq_some_iff.1 hb).1
  have hlen : es.toList.length = L.length := by have := congrArg List.length hk; simpa using this
  have hf := K.find k es.toList (L.map (·.1)) w (by rw [hk, List.map_map]; rfl)
  have hset : ∀ o : Obj, (w.heap.setIfInBounds b o)[b]? = some o := fun o => by simp [Array.getElem?_setIfInBounds, hlt]
  cases hh : hitAt k (L.map (·.1)) es.toList 0 with
  | none =>
    rw [hh] at hf
    refine ⟨_, ?_, ⟨es.push { key := ek k, val := ev v, born := clock }, clock + 1, hset _, ?_, ?_, ?_, ?_⟩, grown_set w b _, by simp⟩
    · unfold Instr.mapUpdate
      simp only [Sem.run_bind, run_underlying ht, Result.andThen_ok, MapKept.run_getObj_map hb, K.check, hf]
      exact MapKept.run_setObj_map _ hb
    · rw [hitAt_none k L _ 0 hlen hh]; simp [hk]
    · rw [hitAt_none k L _ 0 hlen hh]; simp [hv]
    · intro e he
      simp at he
      rcases he with he | rfl
      · have := hbn e (by simpa using he); omega
      · simp
    · rw [Array.toList_push, List.pairwise_append]
      refine ⟨hpw, by simp, fun x hx y hy => ?_⟩
      simp at hy
      subst hy
      have := hbn x hx
      show x.born ≠ clock
      omega
  | some r =>
    obtain ⟨j, u⟩ := r
    obtain ⟨n, e, hj, hn, hek, hm⟩ := hitAt_some (ev := ev) k L es.toList 0 j u hk hv hh
    obtain rfl : j = n := by omega
    rw [hh] at hf
    have hn' : es[j]? = some e := by simpa using hn
    have hm2 := hm (fun e => { e with key := ek k, val := ev v }) v rfl rfl
    refine ⟨_, ?_, ⟨es.modify j (fun e => { e with key := ek k, val := ev v }), clock, hset _, ?_, ?_, ?_, ?_⟩, grown_set w b _, by simp⟩
    · unfold Instr.mapUpdate
      simp only [Sem.run_bind, run_underlying ht, Result.andThen_ok, MapKept.run_getObj_map hb, K.check, hf, hn', Option.map_some, Option.getD_some, hek, Instr.keyThatStays, K.same, if_true, Sem.run_pure]
      exact MapKept.run_setObj_map _ hb
    · simpa using hm2.1
    · simpa using hm2.2
    · intro x hx
      obtain ⟨y, hy, hb2⟩ := mem_modify (f := fun e => { e with key := ek k, val := ev v }) (n := j) (l := es.toList) (fun _ => rfl) (by simpa using hx)
      rw [hb2]
      exact hbn y hy
    · have := pairwise_modify hpw j (fun e => { e with key := ek k, val := ev v }) (fun _ => rfl)
      simpa using this
/-- A look-up, a store, as_ arms of the walk. -/
theorem lookL_ {ops : Array Oper} {Q : Exit → Act → World → Prop} {rest : List Oper} {o : Oper} {a : Act} (hg : o.guard = none) {m x : Operand} {mt kt vt : TypeId} {c : Bool} (hop : o.op = .lookup mt m x c) (ht : P.underlying mt = some (.map kt vt)) (K : KeyT P kt ek) {z : Value} (hz : ∀ w, (zeroValue vt).run P w = .ok z w) (M : MapIs ek ev w b L) (k : κ) (hm : a.eval m = .map (some b)) (hx : a.eval x = ek k)
    (h : wpList P ops Q rest (a.put o.dst (lookV ev L k z c)) w) : wpList P ops Q (o :: rest) a w := by
  refine wpList_plain hg fun K' hK' => ?_
  unfold Oper.wp
  simp only [execOp, hop, hm, hx, Sem.run_bind, M.look K ht (hz w) k c, Result.andThen_ok, Sem.run_pure]
  exact hK' _ _ h
end
end Go.Proofs.YtoppdlideonjjaaW.PrintLast
end
section
/- Making a map; ranging over a map of the call's own. -/
namespace Go.Proofs.YtoppdlideonjjaaW.PrintLast
open Go.RowKit Go.Proofs.YtoppdlideonjjaaW.PrintWords Go.ChangeMaps
set_option linter.unusedSimpArgs false
set_option linter.unusedVariables false
section
variable {P : Program} {κ ν : Type} [DecidableEq κ] {ek : κ → Value} {ev : ν → Value} {w w' : World} {b r : Nat} {L rest : List (κ × ν)}
/-- The iterator in block r over the map in block b: what it has not handed out. -/
def IterIs (ek : κ → Value) (ev : ν → Value) (w : World) (r b : Nat) (rest : List (κ × ν)) : Prop :=
  ∃ (es : Array MapEntry) (clock since c0 : Nat) (seen : Array Nat), w.heap[b]? = some (.map es clock) ∧ w.heap[r]? = some (.mapIter (some b) since seen c0) ∧ (∀ x ∈ es.toList, x.born < since) ∧ since ≤ c0 ∧ since ≤ clock ∧ (es.toList.map (·.born)).Nodup ∧ (leftOf es seen).toList.map (·.key) = rest.map (fun p => ek p.1) ∧ (leftOf es seen).toList.map (·.val) = rest.map (fun p => ev p.2)
omit [DecidableEq κ] in
theorem IterIs.move (h : IterIs ek ev w r b rest) (e1 : w'.heap[b]? = w.heap[b]?) (e2 : w'.heap[r]? = w.heap[r]?) : IterIs ek ev w' r b rest := by
  obtain ⟨es, clock, since, c0, seen, h1, h2, h⟩ := h
  exact ⟨es, clock, since, c0, seen, e1.trans h1, e2.trans h2, h⟩
omit [DecidableEq κ] in
theorem IterIs.lt (h : IterIs ek ev w r b rest) : b < w.heap.size ∧ r < w.heap.size := by
  obtain ⟨es, clock, since, c0, seen, h1, h2, h⟩ := h
  exact ⟨(Array.getElem?_eq_some_iff.1 h1).1, (Array.getElem?_eq_some_iff.1 h2).1⟩
omit [DecidableEq κ] in
theorem IterIs.below (h : IterIs ek ev w r b rest) (hb : Below w.heap.size w w') : IterIs ek ev w' r b rest := h.move (hb.block b h.lt.1) (hb.block r h.lt.2)
omit [DecidableEq κ] in
theorem IterIs.grown (h : IterIs ek ev w r b rest) {row : Option Nat} (hg : w.grownBy w' row) (h1 : some b ≠ row) (h2 : some r ≠ row) : IterIs ek ev w' r b rest := h.move (hg.block b h.lt.1 h1) (hg.block r h.lt.2 h2)
omit [DecidableEq κ] in
theorem MapIs.grown (h : MapIs ek ev w b L) {row : Option Nat} (hg : w.grownBy w' row) (h1 : some b ≠ row) : MapIs ek ev w' b L := h.move (hg.block b h.lt h1)
theorem makeL_ {ops : Array Oper} {Q : Exit → Act → World → Prop} {more : List Oper} {o : Oper} {a : Act} (hg : o.guard = none) {mt : TypeId} (hop : o.op = .makeMap mt none)
    (h : wpList P ops Q more (a.put o.dst (.map (some w.heap.size))) (w.alloc (.map #[] 0))) : wpList P ops Q (o :: more) a w := by
  refine wpList_plain hg fun K' hK' => ?_
  unfold Oper.wp
  simp only [execOp, hop, Option.map_none, Instr.makeMap, newObj, Sem.run_bind, Sem.run, Result.andThen, Sem.run_pure]
  exact hK' _ _ h
end
end Go.Proofs.YtoppdlideonjjaaW.PrintLast
end
section
/- A nil map looked up; how many pairs a map holds. -/
namespace Go.Proofs.YtoppdlideonjjaaW.PrintLast
open Go.RowKit Go.Proofs.YtoppdlideonjjaaW.PrintWords
set_option linter.unusedSimpArgs false
set_option linter.unusedVariables false
section
variable {P : Program} {κ ν : Type} [DecidableEq κ] {ek : κ → Value} {ev : ν → Value} {w w' : World} {b : Nat} {L : List (κ × ν)}
theorem nil_look {mt kt vt : TypeId} (K : KeyT P kt ek) (ht : P.underlying mt = some (.map kt vt)) {z : Value} (hz : (zeroValue vt).run P w = .ok z w) (k : κ) (c : Bool) : (Instr.lookup mt (.map none) (ek k) c).run P w = .ok (if c = true then .tuple #[z, .bool false] else z) w := by
  have hf := K.find k [] [] w rfl
  unfold Instr.lookup
  simp only [Sem.run_bind, run_underlying ht, Result.andThen_ok, K.check, Sem.run_pure, hf, hitAt, hz]
  try (cases c <;> simp [Sem.run_bind, Result.andThen, K.check, hf, hitAt, hz])
theorem nilL_ {ops : Array Oper} {Q : Exit → Act → World → Prop} {rest : List Oper} {o : Oper} {a : Act} (hg : o.guard = none) {m x : Operand} {mt kt vt : TypeId} {c : Bool} (hop : o.op = .lookup mt m x c) (ht : P.underlying mt = some (.map kt vt)) (K : KeyT P kt ek) {z : Value} (hz : ∀ w, (zeroValue vt).run P w = .ok z w) (k : κ) (hm : a.eval m = .map none) (hx : a.eval x = ek k)
    (h : wpList P ops Q rest (a.put o.dst (if c = true then .tuple #[z, .bool false] else z)) w) : wpList P ops Q (o :: rest) a w := by
  refine wpList_plain hg fun K' hK' => ?_
  unfold Oper.wp
  simp only [execOp, hop, hm, hx, Sem.run_bind, nil_look K ht (hz w) k c, Result.andThen_ok, Sem.run_pure]
  exact hK' _ _ h
omit [DecidableEq κ] in
theorem MapIs.size_ {P : Program} (h : MapIs ek ev w b L) : ∃ (es : Array MapEntry) (clock : Nat), w.heap[b]? = some (.map es clock) ∧ es.size = L.length := by
  obtain ⟨es, clock, hb, hk, _⟩ := h
  refine ⟨es, clock, hb, ?_⟩
  have := congrArg List.length hk
  simpa using this
end
theorem nameWL {P : Program} {ops : Array Oper} {Q : Exit → Act → World → Prop} {l : List Oper} {a : Act} {w1 : World} (h : ∀ W, w1 = W → wpList P ops Q l a W) : wpList P ops Q l a w1 := h w1 rfl
end Go.Proofs.YtoppdlideonjjaaW.PrintLast
end
section
/- Compound assignment to a map's element; keys that are structs. -/
namespace Go.Proofs.YtoppdlideonjjaaW.PrintLast
open Go.RowKit Go.Proofs.YtoppdlideonjjaaW.PrintWords
set_option linter.unusedSimpArgs false
set_option linter.unusedVariables false
section
variable {P : Program} {κ ν : Type} [DecidableEq κ] {ek : κ → Value} {ev : ν → Value} {w w' : World} {b : Nat} {L : List (κ × ν)}
theorem findAsking_hit {t : TypeId} (he : ∀ (k k' : κ) (w : World), (Op.equal t (ek k) (ek k')).run P w = .ok (decide (k' = k)) w) (k : κ) : ∀ (l : List MapEntry) (ks : List κ) (i : Nat) (w : World), l.map (·.key) = ks.map ek → (Instr.findAsking t (ek k) l i).run P w = .ok (hitAt k ks l i) w
  | [], [], i, w, _ => rfl
  | [], _ :: _, i, w, e => by simp at e
  | _ :: _, [], i, w, e => by simp at e
  | x :: l, k' :: ks, i, w, e => by
    simp only [List.map_cons, List.cons.injEq] at e
    unfold Instr.findAsking hitAt
    rw [e.1]
    simp only [Sem.run_bind, he, Result.andThen_ok]
    by_cases c : k' = k
    · simp [c]
    · simp only [decide_eq_false c, Bool.false_eq_true, if_false, if_neg c]
      exact findAsking_hit he k l ks (i + 1) w e.2
theorem KeyT.struct {t : TypeId} {fs : Array Field} (ht : P.underlying t = some (.struct fs)) (hc : ∀ (e : Bool) (k : κ) (w : World), (Instr.checkKey e 10000 t (ek k)).run P w = .ok () w) (he : ∀ (k k' : κ) (w : World), (Op.equal t (ek k) (ek k')).run P w = .ok (decide (k' = k)) w) (hs : ∀ k, Instr.sameBits 10000 (ek k) (ek k) = true) : KeyT P t ek where
  check := hc
  find := fun k l ks w e => by
    have h := findAsking_hit he k l ks 0 w e
    unfold Instr.findKey
    simp only [Sem.run_bind, run_underlying ht, Result.andThen_ok]
    cases l with
    | nil => cases ks <;> simp [Instr.findNow, hitAt] at e ⊢
    | cons x l => simpa [Instr.findNow, Instr.sameNow] using h
  same := hs
omit [DecidableEq κ] in
theorem hitAt_fst [DecidableEq κ] (k : κ) : ∀ (ks : List κ) (l l' : List MapEntry) (i : Nat), l.length = l'.length → (hitAt k ks l i).map (·.1) = (hitAt k ks l' i).map (·.1)
  | [], l, l', i, e => by cases l <;> cases l' <;> simp [hitAt]
  | k' :: ks, [], l', i, e => by cases l' <;> simp [hitAt] at e ⊢
  | k' :: ks, x :: l, [], i, e => by simp at e
  | k' :: ks, x :: l, y :: l', i, e => by
    simp only [hitAt]
    by_cases c : k' = k
    · simp [c]
    · simp only [if_neg c]
      exact hitAt_fst k ks l l' (i + 1) (by simpa using e)
theorem hitAt_val (k : κ) : ∀ (ks : List κ) (l : List MapEntry) (i j : Nat) (v : Value), hitAt k ks l i = some (j, v) → ∃ e, l[j - i]? = some e ∧ e.val = v ∧ i ≤ j
  | [], l, i, j, v, h => by cases l <;> simp [hitAt] at h
  | k' :: ks, [], i, j, v, h => by simp [hitAt] at h
  | k' :: ks, x :: l, i, j, v, h => by
    simp only [hitAt] at h
    by_cases c : k' = k
    · rw [if_pos c] at h
      simp only [Option.some.injEq, Prod.mk.injEq] at h
      obtain ⟨rfl, rfl⟩ := h
      exact ⟨x, by simp, rfl, Nat.le_refl _⟩
    · rw [if_neg c] at h
      obtain ⟨e, h1, h2, h3⟩ := hitAt_val k ks l (i + 1) j v h
      refine ⟨e, ?_, h2, by omega⟩
      rw [show j - i = (j - (i + 1)) + 1 by omega]
      simpa using h1
/-- The entry that was told stands in the map. -/
def EntryIs (ek : κ → Value) (ev : ν → Value) (w : World) (b : Nat) (L : List (κ × ν)) (k : κ) (st : Int) : Prop :=
  ∃ (es : Array MapEntry) (clock : Nat) (j : Nat) (e : MapEntry) (v : Value), w.heap[b]? = some (.map es clock) ∧ es.toList.map (·.key) = L.map (fun p => ek p.1) ∧ es.toList.map (·.val) = L.map (fun p => ev p.2) ∧ (∀ e ∈ es.toList, e.born < clock) ∧ es.toList.Pairwise (fun x y => x.born ≠ y.born) ∧ hitAt k (L.map (·.1)) es.toList 0 = some (j, v) ∧ es[j]? = some e ∧ (e.born : Int) = st
theorem EntryIs.move {k : κ} {st : Int} (h : EntryIs ek ev w b L k st) (e : w'.heap[b]? = w.heap[b]?) : EntryIs ek ev w' b L k st := by
  obtain ⟨es, clock, j, x, v, hb, r⟩ := h
  exact ⟨es, clock, j, x, v, e.trans hb, r⟩
theorem EntryIs.map {k : κ} {st : Int} (h : EntryIs ek ev w b L k st) : MapIs ek ev w b L := by
  obtain ⟨es, clock, j, x, v, hb, hk, hv, hbn, hpw, _⟩ := h
  exact ⟨es, clock, hb, hk, hv, hbn, hpw⟩
theorem hitAt_end (k : κ) (x : MapEntry) : ∀ (ks : List κ) (l : List MapEntry) (i : Nat), l.length = ks.length → hitAt k ks l i = none → hitAt k (ks ++ [k]) (l ++ [x]) i = some (i + l.length, x.val)
  | [], [], i, e, h => by simp [hitAt]
  | [], _ :: _, i, e, h => by simp at e
  | _ :: _, [], i, e, h => by simp at e
  | k' :: ks, y :: l, i, e, h => by
    simp only [List.cons_append, hitAt] at h ⊢
    by_cases c : k' = k
    · rw [if_pos c] at h; cases h
    · rw [if_neg c] at h ⊢
      rw [hitAt_end k x ks l (i + 1) (by simpa using e) h]
      simp; omega
theorem aput_id (k : κ) (v : ν) : ∀ (L : List (κ × ν)), aget L k = some v → aput L k v = L
  | [], h => by simp [aget] at h
  | p :: r, h => by
    unfold aget at h
    unfold aput
    by_cases c : p.1 = k
    · rw [if_pos c] at h
      cases p
      simp_all
    · rw [if_neg c] at h ⊢
      rw [aput_id k v r h]
theorem MapIs.entry {mt kt vt : TypeId} (h : MapIs ek ev w b L) (K : KeyT P kt ek) (ht : P.underlying mt = some (.map kt vt)) {z : ν} (hz : ∀ w, (zeroValue vt).run P w = .ok (ev z) w) (k : κ) : ∃ w' st, (Instr.mapEntry mt (.map (some b)) (ek k)).run P w = .ok (.tuple #[ev ((aget L k).getD z), .int .i64 st]) w' ∧ EntryIs ek ev w' b (aput L k ((aget L k).getD z)) k st ∧ w.grownBy w' (some b) ∧ w'.heap.size = w.heap.size := by
  obtain ⟨es, clock, hb, hk, hv, hbn, hpw⟩ := h
  have hlt : b < w.heap.size := (Array.getElem?_eq_some_iff.1 hb).1
  have hlen : es.toList.length = L.length := by have := congrArg List.length hk; simpa using this
  have hf := K.find k es.toList (L.map (·.1)) w (by rw [hk, List.map_map]; rfl)
  have hg := hitAt_get (ev := ev) k L es.toList 0 hv
  have hset : ∀ o : Obj, (w.heap.setIfInBounds b o)[b]? = some o := fun o => by simp [Array.getElem?_setIfInBounds, hlt]
  cases hh : hitAt k (L.map (·.1)) es.toList 0 with
  | none =>
    rw [hh] at hf hg
    have ha : aget L k = none := by cases ha : aget L k <;> simp [ha] at hg ⊢
    have hput := hitAt_none k L _ 0 hlen hh z
    refine ⟨_, clock, ?_, ⟨es.push { key := ek k, val := ev z, born := clock }, clock + 1, es.toList.length, { key := ek k, val := ev z, born := clock }, ev z, hset _, ?_, ?_, ?_, ?_, ?_, ?_, rfl⟩, grown_set w b _, by simp⟩
    · unfold Instr.mapEntry
      simp only [Sem.run_bind, run_underlying ht, Result.andThen_ok, MapKept.run_getObj_map hb, K.check, hf, hz, MapKept.run_setObj_map _ hb, ha, Option.getD_none]
      rfl
    · rw [ha, Option.getD_none, hput]; simp [hk]
    · rw [ha, Option.getD_none, hput]; simp [hv]
    · intro e he
      simp at he
      rcases he with he | rfl
      · have := hbn e (by simpa using he); omega
      · simp
    · rw [Array.toList_push, List.pairwise_append]
      refine ⟨hpw, by simp, fun x hx y hy => ?_⟩
      simp at hy
      subst hy
      have := hbn x hx
      show x.born ≠ clock
      omega
    · rw [ha, Option.getD_none, hput, Array.toList_push, List.map_append]
      have := hitAt_end k { key := ek k, val := ev z, born := clock } (L.map (·.1)) es.toList 0 (by simpa using hlen) hh
      simpa using this
    · simp
  | some r =>
    obtain ⟨j, u⟩ := r
    obtain ⟨n, e, hj, hn, hek, hm⟩ := hitAt_some (ev := ev) k L es.toList 0 j u hk hv hh
    obtain rfl : j = n := by omega
    rw [hh] at hf hg
    obtain ⟨v0, ha⟩ : ∃ v0, aget L k = some v0 := by
      cases ha : aget L k with
      | none => simp [ha] at hg
      | some v0 => exact ⟨v0, rfl⟩
    have hu : u = ev v0 := by simpa [ha] using hg
    have hn' : es[j]? = some e := by simpa using hn
    have hev : e.val = ev v0 := by
      have h1 := hitAt_val k (L.map (·.1)) es.toList 0 j u hh
      obtain ⟨e2, h2, h3, _⟩ := h1
      rw [Nat.sub_zero] at h2
      rw [h2] at hn
      cases hn
      rw [h3, hu]
    have hm2 := hm (fun e => { e with key := ek k }) v0 rfl hev
    refine ⟨_, e.born, ?_, ⟨es.modify j (fun e => { e with key := ek k }), clock, j, { e with key := ek k }, u, hset _, ?_, ?_, ?_, ?_, ?_, ?_, rfl⟩, grown_set w b _, by simp⟩
    · unfold Instr.mapEntry
      simp only [Sem.run_bind, run_underlying ht, Result.andThen_ok, MapKept.run_getObj_map hb, K.check, hf, hn', Option.map_some, Option.getD_some, hek, Instr.keyThatStays, K.same, if_true, Sem.run_pure, MapKept.run_setObj_map _ hb, ha, hu]
      rfl
    · rw [ha, Option.getD_some]; simpa using hm2.1
    · rw [ha, Option.getD_some]; simpa using hm2.2
    · intro x hx
      obtain ⟨y, hy, hb2⟩ := mem_modify (f := fun e => { e with key := ek k }) (n := j) (l := es.toList) (fun _ => rfl) (by simpa using hx)
      rw [hb2]
      exact hbn y hy
    · have := pairwise_modify hpw j (fun e => { e with key := ek k }) (fun _ => rfl)
      simpa using this
    · rw [ha, Option.getD_some, aput_id k v0 L ha]
      have h1 := hitAt_fst k (L.map (·.1)) es.toList (es.modify j (fun e => { e with key := ek k })).toList 0 (by simp)
      rw [hh] at h1
      cases h2 : hitAt k (L.map (·.1)) (es.modify j (fun e => { e with key := ek k })).toList 0 with
      | none => rw [h2] at h1; cases h1
      | some r =>
        obtain ⟨j2, u2⟩ := r
        rw [h2] at h1
        obtain rfl : j = j2 := Option.some.inj h1
        obtain ⟨e2, h3, h4, _⟩ := hitAt_val k _ _ 0 j u2 h2
        rw [Nat.sub_zero] at h3
        have h5 : (es.modify j (fun e => { e with key := ek k })).toList[j]? = some { e with key := ek k } := by simp [hn']
        rw [h5] at h3
        cases h3
        rw [← h4, hu, ← hev]
    · rw [Array.getElem?_modify, if_pos rfl, hn']
      rfl
theorem pairwise_at {l : List MapEntry} (h : l.Pairwise (fun x y => x.born ≠ y.born)) {i j : Nat} {x y : MapEntry} (hi : l[i]? = some x) (hj : l[j]? = some y) (e : x.born = y.born) : i = j := by
  have hn : (l.map (·.born)).Nodup := List.pairwise_map.2 h
  have h1 : (l.map (·.born))[i]? = some x.born := by simp [hi]
  have h2 : (l.map (·.born))[j]? = some x.born := by simp [hj, e]
  have hil := (List.getElem?_eq_some_iff.1 h1).1
  exact (List.getElem?_inj hil hn).1 (h1.trans h2.symm)
theorem EntryIs.store {mt : TypeId} {k : κ} {st : Int} (h : EntryIs ek ev w b L k st) (u : ν) : ∃ w', (Instr.entryStore mt (.map (some b)) (.int .i64 st) (ev u)).run P w = .ok () w' ∧ MapIs ek ev w' b (aput L k u) ∧ w.grownBy w' (some b) ∧ w'.heap.size = w.heap.size := by
  obtain ⟨es, clock, j, e, v, hb, hk, hv, hbn, hpw, hh, hn', hst⟩ := h
  have hlt : b < w.heap.size := (Array.getElem?_eq_some_iff.1 hb).1
  obtain ⟨n, e2, hj, hn, hek, hm⟩ := hitAt_some (ev := ev) k L es.toList 0 j v hk hv hh
  obtain rfl : j = n := by omega
  have hn2 : es.toList[j]? = some e := by simpa using hn'
  rw [hn2] at hn
  cases hn
  have hset : ∀ o : Obj, (w.heap.setIfInBounds b o)[b]? = some o := fun o => by simp [Array.getElem?_setIfInBounds, hlt]
  have hi : es.findIdx? (fun e => (e.born : Int) == st) = some j := by
    rw [Array.findIdx?_eq_some_iff_getElem]
    have hjl := (Array.getElem?_eq_some_iff.1 hn').1
    have hje := (Array.getElem?_eq_some_iff.1 hn').2
    refine ⟨hjl, by simp [hje, hst], fun i hi => ?_⟩
    have hil : i < es.size := by omega
    have h1 : es.toList[i]? = some es[i] := by simp
    have := fun q => pairwise_at hpw h1 hn2 q
    intro hb2
    have h3 : (es[i].born : Int) = st := by simpa using hb2
    have := this (by omega)
    omega
  have hm2 := hm (fun e => { e with val := ev u }) u hek rfl
  refine ⟨_, ?_, ⟨es.modify j (fun e => { e with val := ev u }), clock, hset _, ?_, ?_, ?_, ?_⟩, grown_set w b _, by simp⟩
  · unfold Instr.entryStore
    simp only [Sem.run_bind, MapKept.run_getObj_map hb, Result.andThen_ok, asInt, asIntOf, Sem.run_pure, hi, MapKept.run_setObj_map _ hb]
  · simpa using hm2.1
  · simpa using hm2.2
  · intro x hx
    obtain ⟨y, hy, hb2⟩ := mem_modify (f := fun e => { e with val := ev u }) (n := j) (l := es.toList) (fun _ => rfl) (by simpa using hx)
    rw [hb2]
    exact hbn y hy
  · have := pairwise_modify hpw j (fun e => { e with val := ev u }) (fun _ => rfl)
    simpa using this
/-! Small words for the steps of a region that draws its order. -/
omit [DecidableEq κ] in
theorem MapIs.heap (h : MapIs ek ev w b L) (e : w'.heap = w.heap) : MapIs ek ev w' b L := h.move (by rw [e])
theorem exec_update {o : Oper} {ρ : Operand → Value} {w1 w2 : World} {mt : TypeId} {m x y : Operand} {mv kv v : Value} (hop : o.op = .mapUpdate mt m x y) (hm : ρ m = mv) (hx : ρ x = kv) (hy : ρ y = v) (h : (Instr.mapUpdate mt mv kv v).run P w1 = .ok () w2) : (execOp ρ o).run P w1 = .ok .skip w2 := by
  simp only [execOp, hop, hm, hx, hy, Sem.run_bind, h, Result.andThen_ok, Sem.run_pure]
theorem cell_heap {w1 w2 : World} (e : w2.heap = w1.heap) {a : Addr} : w2.cell? a = w1.cell? a := by
  unfold World.cell?
  rw [e]
theorem nameW {c : Code} {Q : Exit → Act → World → Prop} {a : Act} {w1 : World} (h : ∀ W, w1 = W → c.wp P Q a W) : c.wp P Q a w1 := h w1 rfl
end
end Go.Proofs.YtoppdlideonjjaaW.PrintLast
end
section
-- Written by mprint.py (a program of this session) over the kit's print.
namespace Go.Proofs.Ytoppdlideonjjaa.M
open Go.RowKit Go.Proofs.YtoppdlideonjjaaW.PrintWords Go.Proofs.YtoppdlideonjjaaW.PrintLast Go.Proofs.YtoppdlideonjjaaW.PrintMore
attribute [local go_sem] max2_int min2_int max_two min_two max_three min_three max_four min_four   -- for this text's walks alone
set_option linter.unusedVariables false
set_option linter.unusedSimpArgs false

/-! ### items_duplicate: function 42 -/
def items_duplicate.f (a0_0 : ByteArray) (a0_1 : ByteArray) (a0_2 : Int) (a0_3 : Int) (l0_4 : List (S61)) : Option (ByteArray × ByteArray × Int × Int × (List (S61))) := (api_Unit_61.f l0_4).bind fun t103 => (some (a0_0, a0_1, a0_2, a0_3, t103))
set_option maxHeartbeats 8000000 in
set_option maxRecDepth 100000 in
theorem items_duplicate.calls (a0_0 : ByteArray) (a0_1 : ByteArray) (a0_2 : Int) (a0_3 : Int) (A0_4 : Option Addr) (c0_4 : Nat) (l0_4 : List (S61)) (r1 : ByteArray) (r2 : ByteArray) (r3 : Int) (r4 : Int) (r5 : List (S61)) (w : World) (hr0_4 : Kd.C k61 w A0_4 l0_4.length l0_4) (hc0_4 : l0_4.length ≤ c0_4) (h : items_duplicate.f a0_0 a0_1 a0_2 a0_3 l0_4 = some (r1, r2, r3, r4, r5)) :
    Calls Try.prog 42 #[.agg #[.string a0_0, .string a0_1, .int .i64 a0_2, .int .i64 a0_3, .slice A0_4 l0_4.length c0_4]] w fun e w' => ∃ v4_ : Value, e = .returned (.agg #[.string r1, .string r2, .int .i64 r3, .int .i64 r4, v4_]) ∧ Kd.R k61 61 w' w.heap.size (fun _ => True) v4_ r5 ∧ Below w.heap.size w w' := by
 have hu24 := Try.underlying24
 have hu22 := Try.underlying22
 have HR0_4 := Aside0.mk hr0_4
 have HC0_4 := Aside0.mk hc0_4
 clear hr0_4 hc0_4
 have HB := Aside0.mk (Below.refl w.heap.size w)
 have H : ((api_Unit_61.f l0_4).bind fun t103 => (some (a0_0, a0_1, a0_2, a0_3, t103))) = some (r1, r2, r3, r4, r5) := h
 clear h
 replace H := Option.bind_eq_some_iff.mp H
 obtain ⟨t103, A20, H⟩ := H
 replace H : (some (a0_0, a0_1, a0_2, a0_3, t103)) = some (r1, r2, r3, r4, r5) := H
 have A2 := Aside0.mk A20
 clear A20
 simp only [Option.some.injEq, Prod.mk.injEq] at H
 obtain ⟨rfl, rfl, rfl, rfl, rfl⟩ := H
 go_enter Try.func42, Try.ntmps42
 go_wp2_with (first | ((with_reducible refine gate_dst (N := 1) rfl ?_); refine box_event ?hg (N := 1) ?hd (cs := #[.string a0_0, .string a0_1, .int .i64 a0_2, .int .i64 a0_3, .slice A0_4 l0_4.length c0_4]) (t := 24) ?hr ?_; (case hd => rfl); (case hg => rfl); (case hr => first | (go_simp; done) | (go_simp; rfl)); intro gb101 hg w3 hbox hb; have n0_ := Aside0.mk (below_step (by repeat (first | (with_reducible first | exact HB.out | apply below_alloc | apply pw_below_drewN | apply below_drew1) | exact HB.out)) hb); have n1_ := Aside0.mk (hbox); have n2_ := Aside0.mk ((by rw [hg]; exact (below_size (by repeat (first | (with_reducible first | exact HB.out | apply below_alloc | apply pw_below_drewN | apply below_drew1) | exact HB.out))) : w.heap.size ≤ gb101)); have n3_ := Aside0.mk ((by rw [hg]; exact (below_size (by repeat (first | (with_reducible first | exact HB.out | apply below_alloc | apply pw_below_drewN | apply below_drew1) | exact HB.out))) : w.heap.size ≤ gb101)); clear HB; have HB := n0_; have BK101 := n1_; have GW101 := n2_; have GE101 := n3_; clear n0_ n1_ n2_ n3_; clear hb hbox hg) | ((with_reducible refine gate_dst (N := 2) rfl ?_); refine box_event ?hg (N := 2) ?hd (cs := #[.string (⟨#[]⟩ : ByteArray), .string (⟨#[]⟩ : ByteArray), .int .i64 0, .int .i64 0, .slice none 0 0]) (t := 24) ?hr ?_; (case hd => rfl); (case hg => rfl); (case hr => first | (go_simp; done) | (go_simp; rfl)); intro gb102 hg w4 hbox hb; have n0_ := Aside0.mk (blk_below (g := gb101) (o := .cells #[.string a0_0, .string a0_1, .int .i64 a0_2, .int .i64 a0_3, .slice A0_4 l0_4.length c0_4] 24 (0, 0)) (by (with_reducible repeat (first | refine blk_drewN ?_ _ | refine blk_drew ?_ | refine blk_alloc ?_ _)); exact BK101.out) hb); have n1_ := Aside0.mk (below_step (by repeat (first | (with_reducible first | exact HB.out | apply below_alloc | apply pw_below_drewN | apply below_drew1 | refine below_set ?_ GE101.out) | exact HB.out)) hb); have n2_ := Aside0.mk (hbox); have n3_ := Aside0.mk ((by rw [hg]; exact (below_size (by repeat (first | (with_reducible first | exact HB.out | apply below_alloc | apply pw_below_drewN | apply below_drew1 | refine below_set ?_ GE101.out) | exact HB.out))) : w.heap.size ≤ gb102)); have n4_ := Aside0.mk ((by rw [hg]; exact (below_size (by repeat (first | (with_reducible first | exact HB.out | apply below_alloc | apply pw_below_drewN | apply below_drew1 | refine below_set ?_ GE101.out) | exact HB.out))) : w.heap.size ≤ gb102)); have n5_ := Aside0.mk ((by rw [hg]; exact Nat.ne_of_lt (blk_lt (g := gb101) (o := .cells #[.string a0_0, .string a0_1, .int .i64 a0_2, .int .i64 a0_3, .slice A0_4 l0_4.length c0_4] 24 (0, 0)) (by (with_reducible repeat (first | refine blk_drewN ?_ _ | refine blk_drew ?_ | refine blk_alloc ?_ _)); exact BK101.out)) : gb101 ≠ gb102)); have n6_ := Aside0.mk ((by rw [hg]; exact Nat.ne_of_gt (blk_lt (g := gb101) (o := .cells #[.string a0_0, .string a0_1, .int .i64 a0_2, .int .i64 a0_3, .slice A0_4 l0_4.length c0_4] 24 (0, 0)) (by (with_reducible repeat (first | refine blk_drewN ?_ _ | refine blk_drew ?_ | refine blk_alloc ?_ _)); exact BK101.out)) : gb102 ≠ gb101)); clear BK101; clear HB; have BK101 := n0_; have HB := n1_; have BK102 := n2_; have GW102 := n3_; have GE102 := n4_; have NB101_102 := n5_; have NB102_101 := n6_; clear n0_ n1_ n2_ n3_ n4_ n5_ n6_; clear hb hbox hg; have hnb5 := NB101_102.out; have hnc5 := NB102_101.out; have hcz6_0 : w4.cell? ⟨gb101, 0, none⟩ = some (.string a0_0) := (blk_cell BK101.out 0).trans rfl; have hcz6_1 : w4.cell? ⟨gb101, 1, none⟩ = some (.string a0_1) := (blk_cell BK101.out 1).trans rfl; have hcz6_2 : w4.cell? ⟨gb101, 2, none⟩ = some (.int .i64 a0_2) := (blk_cell BK101.out 2).trans rfl; have hcz6_3 : w4.cell? ⟨gb101, 3, none⟩ = some (.int .i64 a0_3) := (blk_cell BK101.out 3).trans rfl; have hcz6_4 : w4.cell? ⟨gb101, 4, none⟩ = some (.slice A0_4 l0_4.length c0_4) := (blk_cell BK101.out 4).trans rfl; have hfz6_0 := blk_frozen BK101.out 0; have hfz6_1 := blk_frozen BK101.out 1; have hfz6_2 := blk_frozen BK101.out 2; have hfz6_3 := blk_frozen BK101.out 3; have hfz6_4 := blk_frozen BK101.out 4) | ((with_reducible refine gate_callee (f := 61) rfl ?_); refine goesL_ (some 5) rfl rfl Try.func61 (by kernel_rfl) rfl #[.slice A0_4 l0_4.length c0_4] rfl (by (try simp only [List.map_toArray, List.map_cons, List.map_nil]); first | done | rfl | (simp only [List.length_drop, List.length_take]; rfl)) ?_; (with_reducible refine (api_Unit_61.calls _ _ l0_4 t103 _ ?side1 ?side2 A2.out).mono ?_); (case side1 => repeat (first | exact (Kd.C_below HR0_4.out HB.out) | (with_reducible refine Kd.C_alloc ?_ _) | (with_reducible refine Kd.C_drewN ?_ _) | (with_reducible refine Kd.C_drew ?_))); (case side2 => exact HC0_4.out); rintro e w7 ⟨v104, rfl, ho0, hb⟩; refine ⟨_, rfl, ?_⟩; have n0_ := Aside0.mk (Kd.R_lower ho0 (below_size (by repeat (first | (with_reducible first | exact HB.out | apply below_alloc | apply pw_below_drewN | apply below_drew1 | refine below_set ?_ GE101.out | refine below_set ?_ GE102.out) | exact HB.out)))); have n1_ := Aside0.mk (blk_below (g := gb101) (o := .cells #[.string a0_0, .string a0_1, .int .i64 a0_2, .int .i64 a0_3, .slice A0_4 l0_4.length c0_4] 24 (0, 0)) (by (with_reducible repeat (first | refine blk_drewN ?_ _ | refine blk_drew ?_ | refine blk_alloc ?_ _)); exact BK101.out) hb); have n2_ := Aside0.mk (blk_below (g := gb102) (o := .cells #[.string (⟨#[]⟩ : ByteArray), .string (⟨#[]⟩ : ByteArray), .int .i64 0, .int .i64 0, .slice none 0 0] 24 (0, 0)) (by (with_reducible repeat (first | refine blk_drewN ?_ _ | refine blk_drew ?_ | refine blk_alloc ?_ _)); exact BK102.out) hb); have n3_ := Aside0.mk (below_step (by repeat (first | (with_reducible first | exact HB.out | apply below_alloc | apply pw_below_drewN | apply below_drew1 | refine below_set ?_ GE101.out | refine below_set ?_ GE102.out) | exact HB.out)) hb); clear BK101; clear BK102; clear HB; have HO105 := n0_; have BK101 := n1_; have BK102 := n2_; have HB := n3_; clear n0_ n1_ n2_ n3_; (try clear hb); (try clear hb2); (try clear hk); (try clear hi); (try clear ho0); obtain ⟨Ao8, co8, eo8⟩ := Kd.R_slice HO105.out; subst eo8; have hcz9_0 : w7.cell? ⟨gb101, 0, none⟩ = some (.string a0_0) := (blk_cell BK101.out 0).trans rfl; have hcz9_1 : w7.cell? ⟨gb101, 1, none⟩ = some (.string a0_1) := (blk_cell BK101.out 1).trans rfl; have hcz9_2 : w7.cell? ⟨gb101, 2, none⟩ = some (.int .i64 a0_2) := (blk_cell BK101.out 2).trans rfl; have hcz9_3 : w7.cell? ⟨gb101, 3, none⟩ = some (.int .i64 a0_3) := (blk_cell BK101.out 3).trans rfl; have hcz9_4 : w7.cell? ⟨gb101, 4, none⟩ = some (.slice A0_4 l0_4.length c0_4) := (blk_cell BK101.out 4).trans rfl; have hfz9_0 := blk_frozen BK101.out 0; have hfz9_1 := blk_frozen BK101.out 1; have hfz9_2 := blk_frozen BK101.out 2; have hfz9_3 := blk_frozen BK101.out 3; have hfz9_4 := blk_frozen BK101.out 4; have hcz10_0 : w7.cell? ⟨gb102, 0, none⟩ = some (.string (⟨#[]⟩ : ByteArray)) := (blk_cell BK102.out 0).trans rfl; have hcz10_1 : w7.cell? ⟨gb102, 1, none⟩ = some (.string (⟨#[]⟩ : ByteArray)) := (blk_cell BK102.out 1).trans rfl; have hcz10_2 : w7.cell? ⟨gb102, 2, none⟩ = some (.int .i64 0) := (blk_cell BK102.out 2).trans rfl; have hcz10_3 : w7.cell? ⟨gb102, 3, none⟩ = some (.int .i64 0) := (blk_cell BK102.out 3).trans rfl; have hcz10_4 : w7.cell? ⟨gb102, 4, none⟩ = some (.slice none 0 0) := (blk_cell BK102.out 4).trans rfl; have hfz10_0 := blk_frozen BK102.out 0; have hfz10_1 := blk_frozen BK102.out 1; have hfz10_2 := blk_frozen BK102.out 2; have hfz10_3 := blk_frozen BK102.out 3; have hfz10_4 := blk_frozen BK102.out 4))
 refine bodyPost_ret (results_cell_row rfl _ _ gb102 24 #[.string a0_0, .string a0_1, .int .i64 a0_2, .int .i64 a0_3, .slice Ao8 t103.length co8] (0, 0) _ rfl (by (with_reducible repeat (first | refine blk_drewN ?_ _ | refine blk_drew ?_ | refine blk_alloc ?_ _)); refine blk_put (cs := #[.string a0_0, .string a0_1, .int .i64 a0_2, .int .i64 a0_3, .slice none 0 0]) ?_ 4 _ rfl; (with_reducible repeat (first | refine blk_drewN ?_ _ | refine blk_drew ?_ | refine blk_alloc ?_ _)); refine blk_put (cs := #[.string a0_0, .string a0_1, .int .i64 a0_2, .int .i64 0, .slice none 0 0]) ?_ 3 _ rfl; (with_reducible repeat (first | refine blk_drewN ?_ _ | refine blk_drew ?_ | refine blk_alloc ?_ _)); refine blk_put (cs := #[.string a0_0, .string a0_1, .int .i64 0, .int .i64 0, .slice none 0 0]) ?_ 2 _ rfl; (with_reducible repeat (first | refine blk_drewN ?_ _ | refine blk_drew ?_ | refine blk_alloc ?_ _)); refine blk_put (cs := #[.string a0_0, .string (⟨#[]⟩ : ByteArray), .int .i64 0, .int .i64 0, .slice none 0 0]) ?_ 1 _ rfl; (with_reducible repeat (first | refine blk_drewN ?_ _ | refine blk_drew ?_ | refine blk_alloc ?_ _)); refine blk_put (cs := #[.string (⟨#[]⟩ : ByteArray), .string (⟨#[]⟩ : ByteArray), .int .i64 0, .int .i64 0, .slice none 0 0]) ?_ 0 _ rfl; (with_reducible repeat (first | refine blk_drewN ?_ _ | refine blk_drew ?_ | refine blk_alloc ?_ _)); refine blk_far ?_ NB102_101.out _; (with_reducible repeat (first | refine blk_drewN ?_ _ | refine blk_drew ?_ | refine blk_alloc ?_ _)); exact BK102.out) Try.underlying24 rfl (by kernel_rfl)) rfl ?_
 exact ⟨_, by first | rfl | (simp [errW_none, errW_some] <;> rfl) | (simp [*, errW_none, errW_some] <;> rfl), by (with_reducible repeat (first | apply Kd.R_alloc | apply Kd.R_drewN | apply Kd.R_drew)); exact Kd.R_mono (Kd.R_far (p := ⟨gb102, 4, none⟩) (Kd.R_far (p := ⟨gb102, 3, none⟩) (Kd.R_far (p := ⟨gb102, 2, none⟩) (Kd.R_far (p := ⟨gb102, 1, none⟩) (Kd.R_far (p := ⟨gb102, 0, none⟩) (Kd.R_far (p := ⟨gb101, 4, none⟩) (Kd.R_types (Kd.R_types HO105.out BK101.out (by decide)) BK102.out (by decide)) (fun _ hk => hk.1.2) (.slice Ao8 t103.length co8)) (fun _ hk => hk.2) (.string a0_0)) (fun _ hk => hk.2) (.string a0_1)) (fun _ hk => hk.2) (.int .i64 a0_2)) (fun _ hk => hk.2) (.int .i64 a0_3)) (fun _ hk => hk.2) (.slice Ao8 t103.length co8)) (fun _ hk => trivial), by repeat (first | (with_reducible first | exact HB.out | apply below_alloc | apply pw_below_drewN | apply below_drew1 | refine below_set ?_ GE101.out | refine below_set ?_ GE102.out) | exact HB.out)⟩

end Go.Proofs.Ytoppdlideonjjaa.M
end
section
/- A list of products: the map behind it; put, get, Len. -/
namespace Go.Proofs.Ytoppdlideonjjaa.M
open Go.RowKit Go.Proofs.YtoppdlideonjjaaW.PrintWords Go.Proofs.YtoppdlideonjjaaW.PrintLast Go.Proofs.YtoppdlideonjjaaW.PrintMore
attribute [local go_sem] max2_int min2_int max_two min_two max_three min_three max_four min_four
set_option linter.unusedVariables false
set_option linter.unusedSimpArgs false
abbrev Pr := S24
abbrev kPr : Kd Pr := k24
/-- An entry: the product, and its units' slice. -/
abbrev Ent := Pr × Value
def prV (e : Ent) : Value := .agg #[.string e.1.f0, .string e.1.f1, .int .i64 e.1.f2, .int .i64 e.1.f3, e.2]
structure MapPr (w : World) (base m : Nat) (L : List (ByteArray × Ent)) : Prop where
  lo : base ≤ m
  map : MapIs Value.string prV w m L
  own : ∀ e ∈ L, Kd.R kUn 61 w base (fun _ => True) e.2.2 e.2.1.f4
/-- Block b is a list's; behind it the map of these entries. -/
def KeyedIs (w : World) (base b : Nat) (L : List (ByteArray × Ent)) : Prop :=
  base ≤ b ∧ ((w.heap[b]? = some (.cells #[.map none] 75 (0, 0)) ∧ L = []) ∨ ∃ m, w.heap[b]? = some (.cells #[.map (some m)] 75 (0, 0)) ∧ MapPr w base m L)
theorem unR_step {w w1 : World} {base : Nat} {v : Value} {xs : List Un} (h : Kd.R kUn 61 w base (fun _ => True) v xs) (hm : ∀ k, base ≤ k → k < w.heap.size → w1.heap[k]? = w.heap[k]?) : Kd.R kUn 61 w1 base (fun _ => True) v xs :=
  Kd.R_mono (Kd.R_step (Kd.R_bound h) (fun k hk hl => hm k hk.2.1 hl)) (fun _ _ => trivial)
theorem unR_but {w w1 : World} {base b m : Nat} {v : Value} {xs : List Un} {es : Array MapEntry} {c : Nat} {cells : Array Value} (h : Kd.R kUn 61 w base (fun _ => True) v xs) (hb : w.heap[b]? = some (.cells cells 75 (0, 0))) (hme : w.heap[m]? = some (.map es c)) (hm : ∀ k, k ≠ b → k ≠ m → k < w.heap.size → w1.heap[k]? = w.heap[k]?) : Kd.R kUn 61 w1 base (fun _ => True) v xs :=
  Kd.R_mono (Kd.R_step (Kd.R_bound h) (fun k hk hl => by
    obtain ⟨_, _, _, q, hq, cells', hc⟩ := hk
    refine hm k ?_ ?_ hl
    · rintro rfl
      rw [hc] at hb
      injection hb with hb
      injection hb with _ hb
      rw [hb] at hq
      revert hq
      decide
    · rintro rfl
      rw [hc] at hme
      cases hme)) (fun _ _ => trivial)
theorem unR_far {w w1 : World} {base b : Nat} {v : Value} {xs : List Un} {cells : Array Value} (h : Kd.R kUn 61 w base (fun _ => True) v xs) (hb : w.heap[b]? = some (.cells cells 75 (0, 0))) (hm : ∀ k, k ≠ b → k < w.heap.size → w1.heap[k]? = w.heap[k]?) : Kd.R kUn 61 w1 base (fun _ => True) v xs :=
  Kd.R_mono (Kd.R_step (Kd.R_bound h) (fun k hk hl => by
    obtain ⟨_, _, _, q, hq, cells', hc⟩ := hk
    refine hm k ?_ hl
    rintro rfl
    rw [hc] at hb
    injection hb with hb
    injection hb with _ hb
    rw [hb] at hq
    revert hq
    decide)) (fun _ _ => trivial)
theorem KeyedIs.step {w w1 : World} {base b : Nat} {L : List (ByteArray × Ent)} (h : KeyedIs w base b L) (hm : ∀ k, base ≤ k → k < w.heap.size → w1.heap[k]? = w.heap[k]?) : KeyedIs w1 base b L := by
  obtain ⟨hb, h⟩ := h
  refine ⟨hb, ?_⟩
  rcases h with ⟨h1, h2⟩ | ⟨m, h1, h2⟩
  · exact .inl ⟨(hm b hb (blk_lt h1)).trans h1, h2⟩
  · exact .inr ⟨m, (hm b hb (blk_lt h1)).trans h1, h2.lo, h2.map.move (hm m h2.lo h2.map.lt), fun e he => unR_step (h2.own e he) hm⟩
theorem KeyedIs.below {w w1 : World} {base b : Nat} {L : List (ByteArray × Ent)} (h : KeyedIs w base b L) (hb : Below w.heap.size w w1) : KeyedIs w1 base b L := h.step (fun k _ hk => hb.block k hk)
abbrev zPr : Value := .agg #[.string ⟨#[]⟩, .string ⟨#[]⟩, .int .i64 0, .int .i64 0, .slice none 0 0]
theorem zero_pr (w : World) : (zeroValue 24).run Try.prog w = .ok zPr w := by kernel_rfl
theorem mem_of_aget {κ ν : Type} [DecidableEq κ] : ∀ (L : List (κ × ν)) (k : κ) (u : ν), aget L k = some u → (k, u) ∈ L
  | [], k, u, h => by cases h
  | p :: L, k, u, h => by
    unfold aget at h
    by_cases c : p.1 = k
    · rw [if_pos c] at h
      injection h with h
      rw [← c, ← h]
      exact List.mem_cons_self
    · rw [if_neg c] at h
      exact List.mem_cons_of_mem _ (mem_of_aget L k u h)
theorem aput_none {κ ν : Type} [DecidableEq κ] : ∀ (L : List (κ × ν)) (k : κ) (u : ν), aget L k = none → aput L k u = L ++ [(k, u)]
  | [], k, u, h => rfl
  | p :: L, k, u, h => by
    unfold aget at h
    by_cases c : p.1 = k
    · rw [if_pos c] at h; cases h
    · rw [if_neg c] at h
      simp [aput, c, aput_none L k u h]
abbrev zC : Array Value := #[.string ⟨#[]⟩, .string ⟨#[]⟩, .int .i64 0, .int .i64 0, .slice none 0 0]
set_option maxHeartbeats 4000000 in
set_option maxRecDepth 100000 in
/-- get, of a map that is there. -/
theorem keyed_get.calls (code : ByteArray) (L : List (ByteArray × Ent)) (base b : Nat) (w : World) (HK : KeyedIs w base b L) :
    Calls Try.prog 43 #[.pointer (some ⟨b, 0, none⟩), .string code] w fun e w' => e = .returned (.tuple #[((aget L code).map prV).getD zPr, .bool (aget L code).isSome]) ∧ Below w.heap.size w w' := by
  obtain ⟨hb, HK⟩ := HK
  rcases HK with ⟨h1, rfl⟩ | ⟨m, h1, h2⟩
  · have hc := blk_cell (blk_alloc h1 (.cells #[.string ⟨#[]⟩, .string ⟨#[]⟩, .int .i64 0, .int .i64 0, .slice none 0 0] 24)) 0
    go_enter Try.func43, Try.ntmps43
    go_wp2_with (first
      | (refine nilL_ rfl rfl Try.underlying71 (KeyT.string Try.underlying9) (z := zPr) (fun w => zero_pr w) code (by first | rfl | (go_simp; done) | (go_simp; rfl)) (by first | rfl | (go_simp; done) | (go_simp; rfl)) ?_))
    refine bodyPost_ret (results_ct rfl _ _ w.heap.size 24 zC (0, 0) _ rfl (blk_new w _) Try.underlying24 rfl (by kernel_rfl)) rfl ⟨by first | rfl | (simp [aget]; done) | simp [aget, prV], below_alloc (Below.refl w.heap.size w) _⟩
  · have hc := blk_cell (blk_alloc h1 (.cells #[.string ⟨#[]⟩, .string ⟨#[]⟩, .int .i64 0, .int .i64 0, .slice none 0 0] 24)) 0
    have HM := Aside0.mk (h2.map.alloc (.cells #[.string ⟨#[]⟩, .string ⟨#[]⟩, .int .i64 0, .int .i64 0, .slice none 0 0] 24))
    cases ha : aget L code with
    | none =>
      have hv : lookV prV L code zPr true = .tuple #[zPr, .bool false] := by simp [lookV, ha]
      go_enter Try.func43, Try.ntmps43
      go_wp2_with (first
        | (refine lookL_ rfl rfl Try.underlying71 (KeyT.string Try.underlying9) (z := zPr) (fun w => zero_pr w) HM.out code (by first | rfl | (go_simp; done) | (go_simp; rfl)) (by first | rfl | (go_simp; done) | (go_simp; rfl)) ?_; rw [hv]))
      refine bodyPost_ret (results_ct rfl _ _ w.heap.size 24 zC (0, 0) _ rfl (blk_new w _) Try.underlying24 rfl (by kernel_rfl)) rfl ⟨by first | rfl | (simp [aget]; done) | simp [aget, prV], below_alloc (Below.refl w.heap.size w) _⟩
    | some e =>
      obtain ⟨x, v⟩ := e
      obtain ⟨A4, c4, hv⟩ := Kd.R_slice (h2.own _ (mem_of_aget L code _ ha))
      dsimp only at hv
      subst hv
      have hv : lookV prV L code zPr true = .tuple #[.agg #[.string x.f0, .string x.f1, .int .i64 x.f2, .int .i64 x.f3, .slice A4 x.f4.length c4], .bool true] := by simp [lookV, ha, prV]
      go_enter Try.func43, Try.ntmps43
      go_wp2_with (first
        | (refine lookL_ rfl rfl Try.underlying71 (KeyT.string Try.underlying9) (z := zPr) (fun w => zero_pr w) HM.out code (by first | rfl | (go_simp; done) | (go_simp; rfl)) (by first | rfl | (go_simp; done) | (go_simp; rfl)) ?_; rw [hv]))
      refine bodyPost_ret (results_ct rfl _ _ w.heap.size 24 #[.string x.f0, .string x.f1, .int .i64 x.f2, .int .i64 x.f3, .slice A4 x.f4.length c4] (0, 0) _ rfl (blk_new w _) Try.underlying24 rfl (by kernel_rfl)) rfl ⟨by first | rfl | (simp [aget]; done) | simp [aget, prV], below_alloc (Below.refl w.heap.size w) _⟩
set_option maxHeartbeats 4000000 in
set_option maxRecDepth 100000 in
/-- put. -/
theorem keyed_put.calls (code : ByteArray) (x : Pr) (A4 : Option Addr) (c4 : Nat) (L : List (ByteArray × Ent)) (base b : Nat) (w : World) (HK : KeyedIs w base b L) (hbase : base ≤ w.heap.size) (hv4 : Kd.R kUn 61 w base (fun _ => True) (.slice A4 x.f4.length c4) x.f4) :
    Calls Try.prog 41 #[.pointer (some ⟨b, 0, none⟩), .string code, .agg #[.string x.f0, .string x.f1, .int .i64 x.f2, .int .i64 x.f3, .slice A4 x.f4.length c4]] w fun e w' => e = .returned (.bool (aget L code).isNone) ∧ KeyedIs w' base b (if (aget L code).isSome then L else L ++ [(code, (x, .slice A4 x.f4.length c4))]) ∧ Below base w w' := by
  have hq := fun (w : World) (r : Option Nat) => run_eql_map_nil (P := Try.prog) w 71 9 24 r Try.underlying71
  have hq0 := fun w => hq w none
  have hq1 := fun w m => hq w (some m)
  simp only [Option.isNone_none] at hq0
  simp only [Option.isNone_some] at hq1
  clear hq
  have HK0 := Aside0.mk HK
  have HB2 := Aside0.mk (((Below.refl base w).alloc hbase (.cells #[.string x.f0, .string x.f1, .int .i64 x.f2, .int .i64 x.f3, .slice A4 x.f4.length c4] 24)).alloc (by simp; omega) (.cells #[.string ⟨#[]⟩, .string ⟨#[]⟩, .int .i64 0, .int .i64 0, .slice none 0 0] 24))
  have HV := Aside0.mk hv4
  clear hv4
  obtain ⟨hb, HK⟩ := HK
  rcases HK with ⟨h1, rfl⟩ | ⟨m, h1, h2⟩
  · have hc := blk_cell (blk_alloc h1 (.cells #[.string x.f0, .string x.f1, .int .i64 x.f2, .int .i64 x.f3, .slice A4 x.f4.length c4] 24)) 0
    have hc2 := blk_cell (blk_alloc (blk_alloc h1 (.cells #[.string x.f0, .string x.f1, .int .i64 x.f2, .int .i64 x.f3, .slice A4 x.f4.length c4] 24)) (.cells #[.string ⟨#[]⟩, .string ⟨#[]⟩, .int .i64 0, .int .i64 0, .slice none 0 0] 24)) 0
    have hbw := blk_lt h1
    have hs2 : Aside0 (((w.alloc (.cells #[.string x.f0, .string x.f1, .int .i64 x.f2, .int .i64 x.f3, .slice A4 x.f4.length c4] 24)).alloc (.cells #[.string ⟨#[]⟩, .string ⟨#[]⟩, .int .i64 0, .int .i64 0, .slice none 0 0] 24)).heap.size = w.heap.size + 1 + 1) := ⟨by simp⟩
    go_enter Try.func41, Try.ntmps41
    go_wp2_with (first
      | (refine nilL_ rfl rfl Try.underlying71 (KeyT.string Try.underlying9) (z := zPr) (fun w => zero_pr w) code (by first | rfl | (go_simp; done) | (go_simp; rfl)) (by first | rfl | (go_simp; done) | (go_simp; rfl)) ?_)
      | (refine makeL_ rfl rfl ?_; refine nameWL ?_; intro W3 hW3; have h3 := blk_alloc (blk_alloc (blk_alloc h1 (.cells #[.string x.f0, .string x.f1, .int .i64 x.f2, .int .i64 x.f3, .slice A4 x.f4.length c4] 24)) (.cells #[.string ⟨#[]⟩, .string ⟨#[]⟩, .int .i64 0, .int .i64 0, .slice none 0 0] 24)) (.map #[] 0); have hx3 := blk_alloc (blk_alloc (blk_new w (.cells #[.string x.f0, .string x.f1, .int .i64 x.f2, .int .i64 x.f3, .slice A4 x.f4.length c4] 24)) (.cells #[.string ⟨#[]⟩, .string ⟨#[]⟩, .int .i64 0, .int .i64 0, .slice none 0 0] 24)) (.map #[] 0); have hm3 := MapIs_made (κ := ByteArray) Value.string prV ((w.alloc (.cells #[.string x.f0, .string x.f1, .int .i64 x.f2, .int .i64 x.f3, .slice A4 x.f4.length c4] 24)).alloc (.cells #[.string ⟨#[]⟩, .string ⟨#[]⟩, .int .i64 0, .int .i64 0, .slice none 0 0] 24)); have hB3 := HB2.out.alloc (Nat.le_trans hbase HB2.out.size) (.map #[] 0); have hK3 := below_alloc (below_alloc (below_alloc (Below.refl w.heap.size w) (.cells #[.string x.f0, .string x.f1, .int .i64 x.f2, .int .i64 x.f3, .slice A4 x.f4.length c4] 24)) (.cells #[.string ⟨#[]⟩, .string ⟨#[]⟩, .int .i64 0, .int .i64 0, .slice none 0 0] 24)) (.map #[] 0); rw [hs2.out] at hm3; rw [hW3] at h3 hx3 hm3 hB3 hK3; clear hW3; have hc3 := blk_cell h3 0; have hf3 := blk_frozen h3 0; have h4 := blk_set h3 0 (.map (some (w.heap.size + 1 + 1))); have hx4 := blk_far (p := ⟨b, 0, none⟩) hx3 (by show w.heap.size ≠ b; omega) (.map (some (w.heap.size + 1 + 1))); have hc4 := (blk_cell h4 0).trans rfl; have hx4_0 := (blk_cell hx4 0).trans rfl; have hx4_1 := (blk_cell hx4 1).trans rfl; have hx4_2 := (blk_cell hx4 2).trans rfl; have hx4_3 := (blk_cell hx4 3).trans rfl; have hx4_4 := (blk_cell hx4 4).trans rfl; have HM4 := Aside0.mk (hm3.move (Below.heap_setCell W3 ⟨b, 0, none⟩ (.map (some (w.heap.size + 1 + 1))) (w.heap.size + 1 + 1) (by show w.heap.size + 1 + 1 ≠ b; omega))); have HB4 := Aside0.mk (hB3.setCell (p := ⟨b, 0, none⟩) hb (.map (some (w.heap.size + 1 + 1)))); have H4 := Aside0.mk h4; have HK4 := Aside0.mk (fun k (hne : k ≠ b) (hk : k < w.heap.size) => (Below.heap_setCell W3 ⟨b, 0, none⟩ (.map (some (w.heap.size + 1 + 1))) k hne).trans (hK3.block k hk)); clear hm3 hB3 hx3 hx4 h4 hK3))
    refine nameW ?_
    intro W4 hW4
    simp only [hW4] at hc4 hx4_0 hx4_1 hx4_2 hx4_3 hx4_4
    rw [hW4] at HM4 HB4 H4 HK4
    clear hW4
    refine start_ (n := 7) (S := fun w' => w'.heap = W4.heap) (ds := [6]) #[false, false, false, false, false, false, false] (by kernel_rfl) rfl rfl rfl (fun hHeld => ?_)
    refine pure_ (i := 0) (N := some 28) (v := ?_) (a' := ?_) #[true, false, false, false, false, false, false] rfl rfl (by kernel_rfl) (fun _ _ _ h => h) (Or.inl ⟨by rfl, ?_⟩) ?_ ?_
    rotate_left
    · intro w'; go_simp; with_reducible rfl
    rotate_left
    · simp only [Act.put, List.setIfInBounds_toArray, List.set_cons_zero, List.set_cons_succ, i64_w, i32_w]
      rfl
    refine pure_ (i := 1) (N := some 29) (v := ?_) (a' := ?_) #[true, true, false, false, false, false, false] rfl rfl (by kernel_rfl) (fun _ _ _ h => h) (Or.inl ⟨by rfl, ?_⟩) ?_ ?_
    rotate_left
    · intro w'; go_simp; with_reducible rfl
    rotate_left
    · simp only [Act.put, List.setIfInBounds_toArray, List.set_cons_zero, List.set_cons_succ, i64_w, i32_w]
      rfl
    refine pure_ (i := 2) (N := some 30) (v := ?_) (a' := ?_) #[true, true, true, false, false, false, false] rfl rfl (by kernel_rfl) (fun _ _ _ h => h) (Or.inl ⟨by rfl, ?_⟩) ?_ ?_
    rotate_left
    · intro w'; go_simp; with_reducible rfl
    rotate_left
    · simp only [Act.put, List.setIfInBounds_toArray, List.set_cons_zero, List.set_cons_succ, i64_w, i32_w]
      rfl
    refine take_ (i := 3) (N := some 31) (v := ?_) (a' := ?_) #[true, true, true, true, false, false, false] rfl rfl (by kernel_rfl) (fun _ _ _ h => h) (Or.inl ⟨by rfl, ?_⟩) hHeld ?_ ?_
    rotate_left
    · rintro w' s0; have k0 := (cell_heap s0).trans hc4; have k1 := (cell_heap s0).trans hx4_0; have k2 := (cell_heap s0).trans hx4_1; have k3 := (cell_heap s0).trans hx4_2; have k4 := (cell_heap s0).trans hx4_3; have k5 := (cell_heap s0).trans hx4_4; go_simp; with_reducible rfl
    rotate_left
    · simp only [Act.put, List.setIfInBounds_toArray, List.set_cons_zero, List.set_cons_succ, i64_w, i32_w]
      rfl
    refine pure_ (i := 4) (N := some 32) (v := ?_) (a' := ?_) #[true, true, true, true, true, false, false] rfl rfl (by kernel_rfl) (fun _ _ _ h => h) (Or.inl ⟨by rfl, ?_⟩) ?_ ?_
    rotate_left
    · intro w'; go_simp; with_reducible rfl
    rotate_left
    · simp only [Act.put, List.setIfInBounds_toArray, List.set_cons_zero, List.set_cons_succ, i64_w, i32_w]
      rfl
    refine take_ (i := 5) (N := some 33) (v := ?_) (a' := ?_) #[true, true, true, true, true, true, false] rfl rfl (by kernel_rfl) (fun _ _ _ h => h) (Or.inl ⟨by rfl, ?_⟩) hHeld ?_ ?_
    rotate_left
    · rintro w' s0; have k0 := (cell_heap s0).trans hc4; have k1 := (cell_heap s0).trans hx4_0; have k2 := (cell_heap s0).trans hx4_1; have k3 := (cell_heap s0).trans hx4_2; have k4 := (cell_heap s0).trans hx4_3; have k5 := (cell_heap s0).trans hx4_4; go_simp; with_reducible rfl
    rotate_left
    · simp only [Act.put, List.setIfInBounds_toArray, List.set_cons_zero, List.set_cons_succ, i64_w, i32_w]
      rfl
    refine last_ (i := 6) (N := none) #[true, true, true, true, true, true, true] rfl rfl (by kernel_rfl) (by decide) (fun K hK => ?_)
    obtain ⟨w5, hrun5, hM5, hg5, hz5⟩ := (HM4.out.move (w' := W4.drew) rfl).upd (P := Try.prog) (KeyT.string Try.underlying9) Try.underlying71 code ((x, .slice A4 x.f4.length c4) : Ent)
    refine skip_ (w1 := w5) (by rfl) rfl (exec_update rfl rfl rfl rfl hrun5) ?_
    refine hK.out _ _ ?_
    clear hK K
    refine done_ (by kernel_rfl) ?_
    go_wp2
    go_ret
    have hb5 := blk_grown (w := W4.drew) H4.out hg5 (by intro e; injection e with e; omega)
    refine ⟨rfl, ⟨hb, .inr ⟨_, hb5, ⟨by omega, hM5, fun e he => ?_⟩⟩⟩, (below_drew HB4.out).grown hg5 (Nat.le_trans hbase HB4.out.size) (fun k hk => by injection hk with hk; omega)⟩
    obtain rfl : e = (code, (x, .slice A4 x.f4.length c4)) := by simpa [aput] using he
    exact unR_far HV.out h1 (fun k hne hk => (hg5.block k (Nat.lt_of_lt_of_le hk (by have := hg5.size; have := HM4.out.lt; show w.heap.size ≤ W4.heap.size; omega)) (by intro e; injection e with e; omega)).trans (HK4.out k hne hk))
  · cases ha : aget L code with
    | some e =>
      obtain ⟨y, v⟩ := e
      obtain ⟨A5, c5, hv⟩ := Kd.R_slice (h2.own _ (mem_of_aget L code _ ha))
      dsimp only at hv
      subst hv
      have hv : lookV prV L code zPr true = .tuple #[.agg #[.string y.f0, .string y.f1, .int .i64 y.f2, .int .i64 y.f3, .slice A5 y.f4.length c5], .bool true] := by simp [lookV, ha, prV]
      have hc := blk_cell (blk_alloc h1 (.cells #[.string x.f0, .string x.f1, .int .i64 x.f2, .int .i64 x.f3, .slice A4 x.f4.length c4] 24)) 0
      have HM := Aside0.mk (h2.map.alloc (.cells #[.string x.f0, .string x.f1, .int .i64 x.f2, .int .i64 x.f3, .slice A4 x.f4.length c4] 24))
      go_enter Try.func41, Try.ntmps41
      go_wp2_with (first
        | (refine lookL_ rfl rfl Try.underlying71 (KeyT.string Try.underlying9) (z := zPr) (fun w => zero_pr w) HM.out code (by first | rfl | (go_simp; done) | (go_simp; rfl)) (by first | rfl | (go_simp; done) | (go_simp; rfl)) ?_; rw [hv]))
      go_ret
      exact ⟨rfl, (HK0.out.below (below_alloc (below_alloc (Below.refl _ _) _) _)), ((Below.refl base w).alloc hbase _).alloc (by simp; omega) _⟩
    | none =>
      have hv : lookV prV L code zPr true = .tuple #[zPr, .bool false] := by simp [lookV, ha]
      have hc := blk_cell (blk_alloc h1 (.cells #[.string x.f0, .string x.f1, .int .i64 x.f2, .int .i64 x.f3, .slice A4 x.f4.length c4] 24)) 0
      have HM := Aside0.mk (h2.map.alloc (.cells #[.string x.f0, .string x.f1, .int .i64 x.f2, .int .i64 x.f3, .slice A4 x.f4.length c4] 24))
      have hc2 := blk_cell (blk_alloc (blk_alloc h1 (.cells #[.string x.f0, .string x.f1, .int .i64 x.f2, .int .i64 x.f3, .slice A4 x.f4.length c4] 24)) (.cells #[.string ⟨#[]⟩, .string ⟨#[]⟩, .int .i64 0, .int .i64 0, .slice none 0 0] 24)) 0
      have H1 := Aside0.mk h1
      have H2 := Aside0.mk h2
      clear h1 h2
      go_enter Try.func41, Try.ntmps41
      go_wp2_with (first
        | (refine lookL_ rfl rfl Try.underlying71 (KeyT.string Try.underlying9) (z := zPr) (fun w => zero_pr w) HM.out code (by first | rfl | (go_simp; done) | (go_simp; rfl)) (by first | rfl | (go_simp; done) | (go_simp; rfl)) ?_; rw [hv]))
      refine nameW ?_
      intro W4 hW4
      have hc4 : W4.cell? ⟨b, 0, none⟩ = some (.map (some m)) := by rw [← hW4]; exact hc2
      have h4 : W4.heap[b]? = some (.cells #[.map (some m)] 75 (0, 0)) := by rw [← hW4]; exact blk_alloc (blk_alloc H1.out _) _
      have hx4 : W4.heap[w.heap.size]? = some (.cells #[.string x.f0, .string x.f1, .int .i64 x.f2, .int .i64 x.f3, .slice A4 x.f4.length c4] 24 (0, 0)) := by rw [← hW4]; exact blk_alloc (blk_new w _) _
      have hx4_0 := (blk_cell hx4 0).trans rfl
      have hx4_1 := (blk_cell hx4 1).trans rfl
      have hx4_2 := (blk_cell hx4 2).trans rfl
      have hx4_3 := (blk_cell hx4 3).trans rfl
      have hx4_4 := (blk_cell hx4 4).trans rfl
      have HM4 : Aside0 (MapIs Value.string prV W4 m L) := ⟨by rw [← hW4]; exact (H2.out.map.alloc _).alloc _⟩
      have HB4 : Aside0 (Below base w W4) := ⟨by rw [← hW4]; exact HB2.out⟩
      have HK4 : Aside0 (Below w.heap.size w W4) := ⟨by rw [← hW4]; exact below_alloc (below_alloc (Below.refl _ _) _) _⟩
      have H4 := Aside0.mk h4
      clear hW4 hx4 h4 hc hc2 HM
      refine start_ (n := 7) (S := fun w' => w'.heap = W4.heap) (ds := [6]) #[false, false, false, false, false, false, false] (by kernel_rfl) rfl rfl rfl (fun hHeld => ?_)
      refine pure_ (i := 0) (N := some 28) (v := ?_) (a' := ?_) #[true, false, false, false, false, false, false] rfl rfl (by kernel_rfl) (fun _ _ _ h => h) (Or.inl ⟨by rfl, ?_⟩) ?_ ?_
      rotate_left
      · intro w'; go_simp; with_reducible rfl
      rotate_left
      · simp only [Act.put, List.setIfInBounds_toArray, List.set_cons_zero, List.set_cons_succ, i64_w, i32_w]
        rfl
      refine pure_ (i := 1) (N := some 29) (v := ?_) (a' := ?_) #[true, true, false, false, false, false, false] rfl rfl (by kernel_rfl) (fun _ _ _ h => h) (Or.inl ⟨by rfl, ?_⟩) ?_ ?_
      rotate_left
      · intro w'; go_simp; with_reducible rfl
      rotate_left
      · simp only [Act.put, List.setIfInBounds_toArray, List.set_cons_zero, List.set_cons_succ, i64_w, i32_w]
        rfl
      refine pure_ (i := 2) (N := some 30) (v := ?_) (a' := ?_) #[true, true, true, false, false, false, false] rfl rfl (by kernel_rfl) (fun _ _ _ h => h) (Or.inl ⟨by rfl, ?_⟩) ?_ ?_
      rotate_left
      · intro w'; go_simp; with_reducible rfl
      rotate_left
      · simp only [Act.put, List.setIfInBounds_toArray, List.set_cons_zero, List.set_cons_succ, i64_w, i32_w]
        rfl
      refine take_ (i := 3) (N := some 31) (v := ?_) (a' := ?_) #[true, true, true, true, false, false, false] rfl rfl (by kernel_rfl) (fun _ _ _ h => h) (Or.inl ⟨by rfl, ?_⟩) hHeld ?_ ?_
      rotate_left
      · rintro w' s0; have k0 := (cell_heap s0).trans hc4; have k1 := (cell_heap s0).trans hx4_0; have k2 := (cell_heap s0).trans hx4_1; have k3 := (cell_heap s0).trans hx4_2; have k4 := (cell_heap s0).trans hx4_3; have k5 := (cell_heap s0).trans hx4_4; go_simp; with_reducible rfl
      rotate_left
      · simp only [Act.put, List.setIfInBounds_toArray, List.set_cons_zero, List.set_cons_succ, i64_w, i32_w]
        rfl
      refine pure_ (i := 4) (N := some 32) (v := ?_) (a' := ?_) #[true, true, true, true, true, false, false] rfl rfl (by kernel_rfl) (fun _ _ _ h => h) (Or.inl ⟨by rfl, ?_⟩) ?_ ?_
      rotate_left
      · intro w'; go_simp; with_reducible rfl
      rotate_left
      · simp only [Act.put, List.setIfInBounds_toArray, List.set_cons_zero, List.set_cons_succ, i64_w, i32_w]
        rfl
      refine take_ (i := 5) (N := some 33) (v := ?_) (a' := ?_) #[true, true, true, true, true, true, false] rfl rfl (by kernel_rfl) (fun _ _ _ h => h) (Or.inl ⟨by rfl, ?_⟩) hHeld ?_ ?_
      rotate_left
      · rintro w' s0; have k0 := (cell_heap s0).trans hc4; have k1 := (cell_heap s0).trans hx4_0; have k2 := (cell_heap s0).trans hx4_1; have k3 := (cell_heap s0).trans hx4_2; have k4 := (cell_heap s0).trans hx4_3; have k5 := (cell_heap s0).trans hx4_4; go_simp; with_reducible rfl
      rotate_left
      · simp only [Act.put, List.setIfInBounds_toArray, List.set_cons_zero, List.set_cons_succ, i64_w, i32_w]
        rfl
      refine last_ (i := 6) (N := none) #[true, true, true, true, true, true, true] rfl rfl (by kernel_rfl) (by decide) (fun K hK => ?_)
      obtain ⟨w5, hrun5, hM5, hg5, hz5⟩ := (HM4.out.move (w' := W4.drew) rfl).upd (P := Try.prog) (KeyT.string Try.underlying9) Try.underlying71 code ((x, .slice A4 x.f4.length c4) : Ent)
      refine skip_ (w1 := w5) (by rfl) rfl (exec_update rfl rfl rfl rfl hrun5) ?_
      refine hK.out _ _ ?_
      clear hK K
      refine done_ (by kernel_rfl) ?_
      go_wp2
      go_ret
      have hbm : b ≠ m := by
        intro e
        obtain ⟨es, clock, hme, _⟩ := HM4.out
        rw [← e, H4.out] at hme
        cases hme
      have hb5 := blk_grown (w := W4.drew) H4.out hg5 (by intro e; injection e with e; exact hbm e)
      rw [aput_none L code _ ha] at hM5
      refine ⟨rfl, ⟨hb, .inr ⟨_, hb5, ⟨H2.out.lo, hM5, fun e he => ?_⟩⟩⟩, (below_drew HB4.out).grown hg5 (Nat.le_trans hbase HB4.out.size) (fun k hk => by injection hk with hk; have := H2.out.lo; omega)⟩
      obtain ⟨es, clock, hme, _⟩ := H2.out.map
      have hR : Kd.R kUn 61 w base (fun _ => True) e.2.2 e.2.1.f4 := by
        rcases List.mem_append.1 he with he | he
        · exact H2.out.own e he
        · obtain rfl : e = (code, (x, .slice A4 x.f4.length c4)) := by simpa using he
          exact HV.out
      exact unR_but hR H1.out hme (fun k hne hnm hk => (hg5.block k (Nat.lt_of_lt_of_le hk HK4.out.size) (by intro e; injection e with e; exact hnm e)).trans (HK4.out.block k hk))
end Go.Proofs.Ytoppdlideonjjaa.M
end
section
/-
  DERIVED: THE SHELF's CONTRACTS AT THIS DUMP, IN PLAIN WORDS (tools/lay-plain.mjs out of 'YtoppdlideonjjaaIter.lean', which tools/lay-shelf.mjs wrote): THE SAME DECLARATIONS UNDER THE SAME NAMES: 'import', 'namespace', 'open', 'def', 'theorem' AND NOTHING ELSE: no command of the shelf's: FOR A HAND-IN. Each laying: the table of numbers ('.._ren') and one theorem, a field a fact of the dump's own or the kernel's comparison; each contract: ONE APPLICATION.
-/
namespace Go.Proofs
open Go.Shelf
def Try.laysKeys_ren : Go.Shelf.Ren := ⟨fun | 7 => 63 | 10 => 68 | n => n, fun | 23 => 71 | 26 => 9 | 3 => 24 | 28 => 97 | 0 => 0 | 27 => 96 | 33 => 62 | 4 => 4 | n => n, fun | n => n⟩
theorem Try.laysKeys : Go.Proofs.SlLaysZ.n7 Try.prog Try.laysKeys_ren := {
  mixed := by kernel_rfl
  f7 := ⟨Try.f63.name, by decide, Try.func63.trans (congrArg some (by kernel_rfl))⟩
  f10 := ⟨Try.f68.name, by decide, Try.func68.trans (congrArg some (by kernel_rfl))⟩
  t0 := Try.underlying0
  a0 := Try.isAgg0
  z0 := Try.sizeOf0
  v0 := Try.zeroValue0
  t4 := Try.underlying4
  a4 := Try.isAgg4
  z4 := Try.sizeOf4
  v4 := Try.zeroValue4
  t23 := Try.underlying71
  a23 := Try.isAgg71
  z23 := Try.sizeOf71
  v23 := Try.zeroValue71
  t26 := Try.underlying9
  a26 := Try.isAgg9
  z26 := Try.sizeOf9
  v26 := Try.zeroValue9
  t27 := Try.underlying96
  a27 := Try.isAgg96
  z27 := Try.sizeOf96
  v27 := Try.zeroValue96
  t28 := Try.underlying97
  a28 := Try.isAgg97
  z28 := Try.sizeOf97
  v28 := Try.zeroValue97
  t33 := Try.underlying62
  a33 := Try.isAgg62
  z33 := Try.sizeOf62
  v33 := Try.zeroValue62 }
def Try.laysSorted_ren : Go.Shelf.Ren := ⟨fun | 6 => 62 | 8 => 66 | 9 => 67 | 11 => 69 | 13 => 71 | 12 => 70 | 23 => 81 | 24 => 82 | 14 => 72 | 15 => 73 | 16 => 74 | 17 => 75 | 18 => 76 | 19 => 77 | 20 => 78 | 21 => 79 | 22 => 80 | 25 => 83 | 26 => 84 | 27 => 85 | 28 => 86 | 29 => 87 | 30 => 88 | 31 => 89 | n => n, fun | 26 => 9 | 28 => 97 | 24 => 78 | 0 => 0 | 3 => 3 | 37 => 104 | 48 => 115 | 50 => 84 | 4 => 4 | 40 => 107 | 39 => 106 | 45 => 112 | 5 => 5 | 9 => 9 | 51 => 117 | 55 => 121 | 57 => 123 | 58 => 32 | 33 => 62 | n => n, fun | n => n⟩
theorem Try.laysSorted : Go.Proofs.SlLaysZ.n6 Try.prog Try.laysSorted_ren := {
  mixed := by kernel_rfl
  f6 := ⟨Try.f62.name, by decide, Try.func62.trans (congrArg some (by kernel_rfl))⟩
  f8 := ⟨Try.f66.name, by decide, Try.func66.trans (congrArg some (by kernel_rfl))⟩
  f11 := ⟨Try.f69.name, by decide, Try.func69.trans (congrArg some (by kernel_rfl))⟩
  t0 := Try.underlying0
  a0 := Try.isAgg0
  z0 := Try.sizeOf0
  v0 := Try.zeroValue0
  t24 := Try.underlying78
  a24 := Try.isAgg78
  z24 := Try.sizeOf78
  v24 := Try.zeroValue78
  t26 := Try.underlying9
  a26 := Try.isAgg9
  z26 := Try.sizeOf9
  v26 := Try.zeroValue9
  t28 := Try.underlying97
  a28 := Try.isAgg97
  z28 := Try.sizeOf97
  v28 := Try.zeroValue97
  i26 := by kernel_rfl }
def Try.laysSort_ren : Go.Shelf.Ren := ⟨fun | 6 => 67 | 8 => 71 | 9 => 70 | 19 => 81 | 20 => 82 | 21 => 72 | 22 => 73 | 23 => 74 | 24 => 75 | 25 => 76 | 26 => 77 | 27 => 78 | 28 => 79 | 29 => 80 | 36 => 83 | 31 => 84 | 32 => 85 | 37 => 86 | 38 => 87 | 39 => 88 | 41 => 89 | n => n, fun | 27 => 78 | 29 => 9 | 3 => 3 | 32 => 104 | 26 => 78 | 0 => 0 | 44 => 115 | 46 => 84 | 4 => 4 | 36 => 107 | 35 => 106 | 41 => 112 | 5 => 5 | 9 => 9 | 53 => 117 | 57 => 121 | 63 => 123 | 64 => 32 | n => n, fun | n => n⟩
theorem Try.laysSort : Go.Proofs.SlLaysM.n6 Try.prog Try.laysSort_ren := {
  mixed := by kernel_rfl
  f6 := ⟨Try.f67.name, by decide, Try.func67.trans (congrArg some (by kernel_rfl))⟩
  f8 := Try.func71.trans (congrArg some (by kernel_rfl))
  f9 := ⟨Try.f70.name, by decide, Try.func70.trans (congrArg some (by kernel_rfl))⟩
  f19 := Try.func81.trans (congrArg some (by kernel_rfl))
  f20 := Try.func82.trans (congrArg some (by kernel_rfl))
  f21 := ⟨Try.f72.name, by decide, Try.func72.trans (congrArg some (by kernel_rfl))⟩
  f22 := ⟨Try.f73.name, by decide, Try.func73.trans (congrArg some (by kernel_rfl))⟩
  f23 := ⟨Try.f74.name, by decide, Try.func74.trans (congrArg some (by kernel_rfl))⟩
  f24 := ⟨Try.f75.name, by decide, Try.func75.trans (congrArg some (by kernel_rfl))⟩
  f25 := ⟨Try.f76.name, by decide, Try.func76.trans (congrArg some (by kernel_rfl))⟩
  f26 := ⟨Try.f77.name, by decide, Try.func77.trans (congrArg some (by kernel_rfl))⟩
  f27 := ⟨Try.f78.name, by decide, Try.func78.trans (congrArg some (by kernel_rfl))⟩
  f28 := ⟨Try.f79.name, by decide, Try.func79.trans (congrArg some (by kernel_rfl))⟩
  f29 := ⟨Try.f80.name, by decide, Try.func80.trans (congrArg some (by kernel_rfl))⟩
  f31 := Try.func84.trans (congrArg some (by kernel_rfl))
  f32 := Try.func85.trans (congrArg some (by kernel_rfl))
  f36 := ⟨Try.f83.name, by decide, Try.func83.trans (congrArg some (by kernel_rfl))⟩
  f37 := ⟨Try.f86.name, by decide, Try.func86.trans (congrArg some (by kernel_rfl))⟩
  f38 := ⟨Try.f87.name, by decide, Try.func87.trans (congrArg some (by kernel_rfl))⟩
  f39 := ⟨Try.f88.name, by decide, Try.func88.trans (congrArg some (by kernel_rfl))⟩
  f41 := ⟨Try.f89.name, by decide, Try.func89.trans (congrArg some (by kernel_rfl))⟩
  t0 := Try.underlying0
  a0 := Try.isAgg0
  z0 := Try.sizeOf0
  v0 := Try.zeroValue0
  t3 := Try.underlying3
  a3 := Try.isAgg3
  z3 := Try.sizeOf3
  v3 := Try.zeroValue3
  t4 := Try.underlying4
  a4 := Try.isAgg4
  z4 := Try.sizeOf4
  v4 := Try.zeroValue4
  t5 := Try.underlying5
  a5 := Try.isAgg5
  z5 := Try.sizeOf5
  v5 := Try.zeroValue5
  t9 := Try.underlying9
  a9 := Try.isAgg9
  z9 := Try.sizeOf9
  v9 := Try.zeroValue9
  t26 := Try.underlying78
  a26 := Try.isAgg78
  z26 := Try.sizeOf78
  v26 := Try.zeroValue78
  t27 := Try.underlying78
  a27 := Try.isAgg78
  z27 := Try.sizeOf78
  v27 := Try.zeroValue78
  t29 := Try.underlying9
  a29 := Try.isAgg9
  z29 := Try.sizeOf9
  v29 := Try.zeroValue9
  t32 := Try.underlying104
  a32 := Try.isAgg104
  z32 := Try.sizeOf104
  v32 := Try.zeroValue104
  t35 := Try.underlying106
  a35 := Try.isAgg106
  z35 := Try.sizeOf106
  v35 := Try.zeroValue106
  t36 := Try.underlying107
  a36 := Try.isAgg107
  z36 := Try.sizeOf107
  v36 := Try.zeroValue107
  t41 := Try.underlying112
  a41 := Try.isAgg112
  z41 := Try.sizeOf112
  v41 := Try.zeroValue112
  t44 := Try.underlying115
  a44 := Try.isAgg115
  z44 := Try.sizeOf115
  v44 := Try.zeroValue115
  t46 := Try.underlying84
  a46 := Try.isAgg84
  z46 := Try.sizeOf84
  v46 := Try.zeroValue84
  t53 := Try.underlying117
  a53 := Try.isAgg117
  z53 := Try.sizeOf117
  v53 := Try.zeroValue117
  t57 := Try.underlying121
  a57 := Try.isAgg121
  z57 := Try.sizeOf121
  v57 := Try.zeroValue121
  t63 := Try.underlying123
  a63 := Try.isAgg123
  z63 := Try.sizeOf123
  v63 := Try.zeroValue123
  t64 := Try.underlying32
  a64 := Try.isAgg32
  z64 := Try.sizeOf32
  v64 := Try.zeroValue32 }
end Go.Proofs
end
section
/- slices.Sorted(maps.Keys(m)): the shelf's contracts, in the words of maps as_ lists of pairs. -/
namespace Go.Proofs.Ytoppdlideonjjaa.M
open Go.RowKit Go.Maps Go.Sort Go.Shelf Go.Proofs.YtoppdlideonjjaaW.PrintWords Go.Proofs.YtoppdlideonjjaaW.PrintLast Go.Proofs.YtoppdlideonjjaaW.PrintMore
set_option linter.unusedVariables false
set_option linter.unusedSimpArgs false
theorem sortsK (m : Nat) : AnyZ.SortsIn Try.prog Try.laysSorted_ren Fence.wide m :=
  ⟨fun blk off cap ss W hH hblk hsz => callsIn_wide.2 (AnyM.slices_Sort_string Try.laysSort blk off cap ss W hH hblk hsz),
   fun p cap W => callsIn_wide.2 (AnyM.slices_Sort_string_none Try.laysSort p cap W)⟩

theorem mapsK (mb : Option Nat) (W : World) : CallsIn Fence.wide 5 Try.prog 63 #[.map mb] W fun e w' => e = .returned (.func (.func 68) #[] #[.pointer (some ⟨W.heap.size, 0, none⟩)]) ∧ w' = W.alloc (.cells #[.map mb] 71) :=
  AnyZ.keys_in Try.laysKeys Fence.wide 5 trivial rfl mb W

set_option maxHeartbeats 1000000 in
theorem sortedK {H : Type} (b nn : Nat) (D0 : DataW H) (R : Value → Option (DataW H × List MemPlace)) (w : World) (hown : w.ownsMap Try.prog 9 R b nn D0) (hmax : Maps.size D0 ≤ maxLen) (hbytes : Maps.size D0 * 16 ≤ 140737488355328) :
    CallsIn Fence.wide 5 Try.prog 62 #[.func (.func 68) #[] #[.pointer (some ⟨w.heap.size, 0, none⟩)]] (w.alloc (.cells #[.map (some b)] 71)) fun e w' => ∃ (v : Value) (ss : List (List UInt8)), e = .returned v ∧ ss.Perm (strKeys D0) ∧
      w'.ownsRow (w.alloc (.cells #[.map (some b)] 71)).heap.size 9 1 v ss.length ((ss.mergeSort (fun x y => decide (x ≤ y))).map encStr) ∧ (v = .slice none 0 0 ↔ ss = []) ∧ Below (w.alloc (.cells #[.map (some b)] 71)).heap.size (w.alloc (.cells #[.map (some b)] 71)) w' := by
  have hbl := hown.lt
  have hseq : SeqGives Fence.wide 2 Try.prog 68 #[.pointer (some ⟨w.heap.size, 0, none⟩)] encStr (fun ss => ss.Perm (strKeys D0)) (Maps.size D0) (w.alloc (.cells #[.map (some b)] 71)) :=
    AnyZ.keys_gives (ρ := Try.laysKeys_ren) { Try.laysKeys with } Fence.wide _ trivial rfl (by omega) w.heap.size b nn D0 _ (by simp) (by simp) (by
      obtain ⟨es, clock, hb, Ft, hs, hD⟩ := hown
      exact ⟨es, clock, (Below.heap_alloc _ _ b hbl).trans hb, Ft, hs, hD⟩)
  exact AnyZ.sorted_in Try.laysSorted Fence.wide 5 trivial trivial trivial trivial rfl (by omega) (sortsK _) (enters_of Try.func67 (by kernel_rfl) rfl) 68 #[.pointer (some ⟨w.heap.size, 0, none⟩)] trivial (enters_of Try.func68 (by kernel_rfl) rfl) _ _ hmax hbytes _ hseq

set_option maxHeartbeats 1000000 in
theorem sortedNilK (w : World) :
    CallsIn Fence.wide 5 Try.prog 62 #[.func (.func 68) #[] #[.pointer (some ⟨w.heap.size, 0, none⟩)]] (w.alloc (.cells #[.map none] 71)) fun e w' => ∃ (v : Value) (ss : List (List UInt8)), e = .returned v ∧ ss = [] ∧
      w'.ownsRow (w.alloc (.cells #[.map none] 71)).heap.size 9 1 v ss.length ((ss.mergeSort (fun x y => decide (x ≤ y))).map encStr) ∧ (v = .slice none 0 0 ↔ ss = []) ∧ Below (w.alloc (.cells #[.map none] 71)).heap.size (w.alloc (.cells #[.map none] 71)) w' := by
  have hseq : SeqGives Fence.wide 2 Try.prog 68 #[.pointer (some ⟨w.heap.size, 0, none⟩)] encStr (fun ss : List (List UInt8) => ss = []) 0 (w.alloc (.cells #[.map none] 71)) :=
    AnyZ.keys_gives_nil (ρ := Try.laysKeys_ren) { Try.laysKeys with } Fence.wide _ trivial rfl w.heap.size _ (by simp) (by simp)
  exact AnyZ.sorted_in Try.laysSorted Fence.wide 5 trivial trivial trivial trivial rfl (by omega) (sortsK _) (enters_of Try.func67 (by kernel_rfl) rfl) 68 #[.pointer (some ⟨w.heap.size, 0, none⟩)] trivial (enters_of Try.func68 (by kernel_rfl) rfl) _ 0 (Nat.zero_le _) (by omega) _ hseq
/-- Strings in order of their bytes. -/
def srt (xs : List ByteArray) : List ByteArray := ((xs.map (fun b => b.data.toList)).mergeSort (fun x y => decide (x ≤ y))).map (fun l => ⟨l.toArray⟩)
theorem srt_length (xs : List ByteArray) : (srt xs).length = xs.length := by simp [srt]
theorem encStr_data (b : ByteArray) : encStr b.data.toList = .string b := by simp [encStr]
theorem leBs_trans (a b c : List UInt8) (h : decide (a ≤ b) = true) (k : decide (b ≤ c) = true) : decide (a ≤ c) = true := by
  simp only [decide_eq_true_eq] at h k ⊢
  exact List.le_trans h k
theorem leBs_total (a b : List UInt8) : (decide (a ≤ b) || decide (b ≤ a)) = true := by
  simp only [Bool.or_eq_true, decide_eq_true_eq]
  exact List.le_total a b
theorem mergeSort_perm_eq {xs ys : List (List UInt8)} (h : xs.Perm ys) : xs.mergeSort (fun x y => decide (x ≤ y)) = ys.mergeSort (fun x y => decide (x ≤ y)) := by
  refine List.Perm.eq_of_pairwise (le := fun a b => decide (a ≤ b) = true) (fun a b _ _ h1 h2 => ?_) (List.pairwise_mergeSort leBs_trans leBs_total xs) (List.pairwise_mergeSort leBs_trans leBs_total ys) (((List.mergeSort_perm xs _).trans h).trans (List.mergeSort_perm ys _).symm)
  simp only [decide_eq_true_eq] at h1 h2
  exact List.le_antisymm h1 h2
theorem MapIs.owns {P : Program} {k : TypeId} {ν : Type} {ev : ν → Value} {w : World} {b : Nat} {L : List (ByteArray × ν)} (h : MapIs Value.string ev w b L) (ht : P.underlying k = some .string) (hn : (L.map (·.1)).Nodup) (hs : ∀ e ∈ L, e.1.size ≤ maxLen) (hl : L.length ≤ maxLen) :
    ∃ D : DataW Unit, w.ownsMap P k (fun _ => some (.nil, [])) b L.length D ∧ (strKeys D).Perm (L.map (fun e => e.1.data.toList)) ∧ Maps.size D = L.length := by
  obtain ⟨es, clock, hb, hk, hv, hbn, hpw⟩ := h
  have hlen : es.toList.length = L.length := by have := congrArg List.length hk; simpa using this
  have hkey : ∀ x ∈ es.toList, ∃ e ∈ L, x.key = .string e.1 := by
    intro x hx
    have h1 : x.key ∈ es.toList.map (·.key) := List.mem_map_of_mem hx
    rw [hk] at h1
    obtain ⟨e, he, h2⟩ := List.mem_map.1 h1
    exact ⟨e, he, h2.symm⟩
  have hko : ∀ s : ByteArray, s.size ≤ maxLen → keyOf P k (.string s) = some (.string s.data.toList) := by
    intro s h
    simp [keyOf, ht, mapKey, h]
  have hrd : ∀ x ∈ es.toList, Go.WideElems.rd P k (fun _ => some ((.nil : DataW Unit), [])) x = some ((match x.key with | .string s => Lit.string s.data.toList | _ => .bool false), .nil) := by
    intro x hx
    obtain ⟨e, he, h1⟩ := hkey x hx
    simp [Go.WideElems.rd, h1, hko e.1 (hs e he)]
  have hrg : es.toList.map (Go.WideElems.rg P k (fun _ => some ((.nil : DataW Unit), []))) = L.map (fun e => (Lit.string e.1.data.toList, .nil)) := by
    have h1 : es.toList.map (Go.WideElems.rg P k (fun _ => some ((.nil : DataW Unit), []))) = (es.toList.map (·.key)).map (fun v => ((match v with | .string s => Lit.string s.data.toList | _ => .bool false), (.nil : DataW Unit))) := by
      rw [List.map_map]
      refine List.map_congr_left (fun x hx => ?_)
      simp [Go.WideElems.rg, hrd x hx]
    rw [h1, hk, List.map_map]
    rfl
  have hF : Go.WideElems.Fit P k (fun _ => some ((.nil : DataW Unit), [])) es clock := by
    refine ⟨by have : es.size = L.length := by simpa using hlen
               omega, (MapKept.stamped_iff es clock).2 ⟨hbn, List.pairwise_map.2 hpw, ?_⟩, fun x hx => ⟨_, hrd x hx⟩⟩
    have h1 : (es.toList.map (·.key)).Pairwise (· ≠ ·) := by
      rw [hk]
      refine List.pairwise_map.2 ((List.pairwise_map.1 hn).imp (fun h e => h ?_))
      injection e
    exact List.pairwise_map.1 h1
  refine ⟨_, ⟨es, clock, hb, hF, by have : es.size = L.length := by simpa using hlen
                                    omega, rfl⟩, ?_, ?_⟩
  · rw [hrg]
    have h1 := (Go.WideShapes.sorted_perm (L.map (fun e => (Lit.string e.1.data.toList, (.nil : DataW Unit))))).map (fun p => strOf p.1)
    rw [List.map_map] at h1
    exact h1
  · rw [hrg]
    have h1 := (Go.WideShapes.sorted_perm (L.map (fun e => (Lit.string e.1.data.toList, (.nil : DataW Unit))))).length_eq
    rw [List.length_map] at h1
    exact h1
/-- A row of sorted keys, as_ the print tells it. -/
theorem row_srt {w : World} {base : Nat} {v : Value} {ss : List (List UInt8)} {ks : List ByteArray} (h : w.ownsRow base 9 1 v ss.length ((ss.mergeSort (fun x y => decide (x ≤ y))).map encStr)) (hp : ss.Perm (ks.map (fun b => b.data.toList))) : Kd.R Kd.string 9 w base (fun _ => True) v (srt ks) := by
  have e : (ss.mergeSort (fun x y => decide (x ≤ y))).map encStr = (srt ks).map Value.string := by
    rw [mergeSort_perm_eq hp]
    unfold srt
    rw [List.map_map]
    refine List.map_congr_left (fun l _ => ?_)
    simp [encStr]
  have hl : (srt ks).length = ss.length := by rw [srt_length, hp.length_eq, List.length_map]
  rw [e, ← hl] at h
  refine ⟨fun _ _ => trivial, (srt ks).map Value.string, h, by simp [Kd.string, Kd.scalar], fun j p hj => ?_⟩
  show ((List.map Value.string (srt ks)).drop (j * 1)).take 1 = [Value.string p]
  obtain ⟨hj1, hj2⟩ := List.getElem?_eq_some_iff.1 hj
  rw [Nat.mul_one, List.drop_eq_getElem_cons (by simpa using hj1)]
  simp [hj2]
end Go.Proofs.Ytoppdlideonjjaa.M
end
section
/- A list of products: Len, codes, Get. -/
namespace Go.Proofs.Ytoppdlideonjjaa.M
open Go.RowKit Go.Proofs.YtoppdlideonjjaaW.PrintWords Go.Proofs.YtoppdlideonjjaaW.PrintLast Go.Proofs.YtoppdlideonjjaaW.PrintMore
attribute [local go_sem] max2_int min2_int max_two min_two max_three min_three max_four min_four
set_option linter.unusedVariables false
set_option linter.unusedSimpArgs false
set_option maxHeartbeats 4000000 in
set_option maxRecDepth 100000 in
theorem list_len.calls (L : List (ByteArray × Ent)) (base b : Nat) (w : World) (HK : KeyedIs w base b L) :
    Calls Try.prog 25 #[.pointer (some ⟨b, 0, none⟩)] w fun e w' => e = .returned (.int .i64 (L.length : Int)) ∧ w' = w := by
  obtain ⟨hb, HK⟩ := HK
  rcases HK with ⟨h1, rfl⟩ | ⟨m, h1, h2⟩
  · have hc := blk_cell h1 0
    go_enter Try.func25, Try.ntmps25
    go_wp2
    go_ret
    exact ⟨rfl, rfl⟩
  · have hc := blk_cell h1 0
    obtain ⟨es, clock, hm, hs⟩ := h2.map.size_ (P := Try.prog)
    have hl := run_len_map (P := Try.prog) w 71 3 m es clock (by kernel_rfl) hm
    rw [hs] at hl
    go_enter Try.func25, Try.ntmps25
    go_wp2
    go_ret
    exact ⟨rfl, rfl⟩
set_option maxHeartbeats 4000000 in
set_option maxRecDepth 100000 in
theorem list_len_nil.calls (w : World) : Calls Try.prog 25 #[.pointer none] w fun e w' => e = .returned (.int .i64 0) ∧ w' = w := by
  go_enter Try.func25, Try.ntmps25
  go_wp2
  go_ret
  exact ⟨rfl, rfl⟩
set_option maxHeartbeats 4000000 in
set_option maxRecDepth 100000 in
theorem keyed_codes.calls (L : List (ByteArray × Ent)) (base b : Nat) (w : World) (HK : KeyedIs w base b L) (hn : (L.map (·.1)).Nodup) (hs : ∀ e ∈ L, e.1.size ≤ maxLen) (hl : L.length ≤ 1000000) :
    Calls Try.prog 44 #[.pointer (some ⟨b, 0, none⟩)] w fun e w' => ∃ v, e = .returned v ∧ Kd.R Kd.string 9 w' w.heap.size (fun _ => True) v (srt (L.map (·.1))) ∧ Below w.heap.size w w' := by
  obtain ⟨hb, HK⟩ := HK
  rcases HK with ⟨h1, rfl⟩ | ⟨m, h1, h2⟩
  · have hc := blk_cell h1 0
    go_enter Try.func44, Try.ntmps44
    go_wp2_with (first
      | (go_at_call 63; refine (callsIn_wide.1 (mapsK none w)).mono ?_; rintro e w' ⟨rfl, rfl⟩)
      | (go_at_call 62; refine (callsIn_wide.1 (sortedNilK w)).mono ?_; rintro e w' ⟨v, ss, rfl, hss, hrow, _, hbel⟩))
    go_ret
    refine ⟨_, rfl, Kd.R_lower (row_srt hrow (ks := []) (by rw [hss]; exact List.Perm.refl _)) (by simp), below_then (below_alloc (Below.refl w.heap.size w) _) (by simp) hbel⟩
  · have hc := blk_cell h1 0
    obtain ⟨D, hown, hperm, hsize⟩ := MapIs.owns (P := Try.prog) (k := 9) h2.map Try.underlying9 hn hs (by unfold maxLen; omega)
    go_enter Try.func44, Try.ntmps44
    go_wp2_with (first
      | (go_at_call 63; refine (callsIn_wide.1 (mapsK (some m) w)).mono ?_; rintro e w' ⟨rfl, rfl⟩)
      | (go_at_call 62; refine (callsIn_wide.1 (sortedK m L.length D _ w hown (by rw [hsize]; unfold maxLen; omega) (by rw [hsize]; omega))).mono ?_; rintro e w' ⟨v, ss, rfl, hss, hrow, _, hbel⟩))
    go_ret
    refine ⟨_, rfl, Kd.R_lower (row_srt hrow (ks := L.map (·.1)) (hss.trans (by rw [List.map_map]; exact hperm))) (by simp), below_then (below_alloc (Below.refl w.heap.size w) _) (by simp) hbel⟩
/-- The list holds these products, each under its code. -/
structure ListOf (w : World) (base b : Nat) (ps : List Pr) : Prop where
  ex : ∃ L, KeyedIs w base b L ∧ L.map (fun e => (e.1, e.2.1)) = ps.map (fun p => (p.f0, p))
  nd : (ps.map (·.f0)).Nodup
  sz : ∀ p ∈ ps, p.f0.size ≤ 140737488351232
  len : ps.length ≤ 1000000
theorem ListOf.step {w w1 : World} {base b : Nat} {ps : List Pr} (h : ListOf w base b ps) (hm : ∀ k, base ≤ k → k < w.heap.size → w1.heap[k]? = w.heap[k]?) : ListOf w1 base b ps := by
  obtain ⟨⟨L, h1, h2⟩, h3, h4, h5⟩ := h
  exact ⟨⟨L, h1.step hm, h2⟩, h3, h4, h5⟩
theorem ListOf.below {w w1 : World} {base b : Nat} {ps : List Pr} (h : ListOf w base b ps) (hb : Below w.heap.size w w1) : ListOf w1 base b ps := h.step (fun k _ hk => hb.block k hk)
theorem aget_find : ∀ (L : List (ByteArray × Ent)) (ps : List Pr) (k : ByteArray), L.map (fun e => (e.1, e.2.1)) = ps.map (fun p => (p.f0, p)) → (aget L k).map (·.1) = ps.find? (fun p => decide (p.f0 = k))
  | [], [], k, h => rfl
  | [], p :: ps, k, h => by simp at h
  | e :: L, [], k, h => by simp at h
  | e :: L, p :: ps, k, h => by
    simp only [List.map_cons, List.cons.injEq, Prod.mk.injEq] at h
    obtain ⟨⟨h1, h2⟩, h3⟩ := h
    unfold aget
    rw [List.find?_cons]
    by_cases c : e.1 = k
    · rw [if_pos c, decide_eq_true (by rw [← h1]; exact c)]
      simp [h2]
    · rw [if_neg c, decide_eq_false (by rw [← h1]; exact c)]
      exact aget_find L ps k h3
/-- The product with a code, and whether there is one. -/
def getP (ps : List Pr) (k : ByteArray) : Pr × Bool :=
  match ps.find? (fun p => decide (p.f0 = k)) with
  | some p => (p, true)
  | none => (z24, false)
theorem set5_far (w : World) (g : Nat) (u0 u1 u2 u3 u4 : Value) (k : Nat) (h : k ≠ g) : (((((w.setCell ⟨g, 0, none⟩ u0).setCell ⟨g, 1, none⟩ u1).setCell ⟨g, 2, none⟩ u2).setCell ⟨g, 3, none⟩ u3).setCell ⟨g, 4, none⟩ u4).heap[k]? = w.heap[k]? :=
  (Below.heap_setCell _ ⟨g, 4, none⟩ u4 k h).trans ((Below.heap_setCell _ ⟨g, 3, none⟩ u3 k h).trans ((Below.heap_setCell _ ⟨g, 2, none⟩ u2 k h).trans ((Below.heap_setCell _ ⟨g, 1, none⟩ u1 k h).trans (Below.heap_setCell _ ⟨g, 0, none⟩ u0 k h))))
theorem set5_blk {w : World} {g : Nat} {t : TypeId} {v0 v1 v2 v3 v4 : Value} (u0 u1 u2 u3 u4 : Value) (h : w.heap[g]? = some (.cells #[v0, v1, v2, v3, v4] t (0, 0))) : (((((w.setCell ⟨g, 0, none⟩ u0).setCell ⟨g, 1, none⟩ u1).setCell ⟨g, 2, none⟩ u2).setCell ⟨g, 3, none⟩ u3).setCell ⟨g, 4, none⟩ u4).heap[g]? = some (.cells #[u0, u1, u2, u3, u4] t (0, 0)) :=
  blk_set (blk_set (blk_set (blk_set (blk_set h 0 u0) 1 u1) 2 u2) 3 u3) 4 u4
theorem set5_size (w : World) (g : Nat) (u0 u1 u2 u3 u4 : Value) : (((((w.setCell ⟨g, 0, none⟩ u0).setCell ⟨g, 1, none⟩ u1).setCell ⟨g, 2, none⟩ u2).setCell ⟨g, 3, none⟩ u3).setCell ⟨g, 4, none⟩ u4).heap.size = w.heap.size := by simp [World.setCell]
theorem set5_below {w w1 : World} {B g : Nat} (h : Below B w w1) (hg : B ≤ g) (u0 u1 u2 u3 u4 : Value) : Below B w (((((w1.setCell ⟨g, 0, none⟩ u0).setCell ⟨g, 1, none⟩ u1).setCell ⟨g, 2, none⟩ u2).setCell ⟨g, 3, none⟩ u3).setCell ⟨g, 4, none⟩ u4) :=
  ((((h.setCell (p := ⟨g, 0, none⟩) hg u0).setCell (p := ⟨g, 1, none⟩) hg u1).setCell (p := ⟨g, 2, none⟩) hg u2).setCell (p := ⟨g, 3, none⟩) hg u3).setCell (p := ⟨g, 4, none⟩) hg u4
theorem get_told {w : World} {base b : Nat} {ps : List Pr} {L : List (ByteArray × Ent)} (HK : KeyedIs w base b L) (hL : L.map (fun e => (e.1, e.2.1)) = ps.map (fun p => (p.f0, p))) (code : ByteArray) : ∃ A c, ((aget L code).map prV).getD zPr = .agg #[.string (getP ps code).1.f0, .string (getP ps code).1.f1, .int .i64 (getP ps code).1.f2, .int .i64 (getP ps code).1.f3, .slice A (getP ps code).1.f4.length c] ∧ (aget L code).isSome = (getP ps code).2 ∧ Kd.C kUn w A (getP ps code).1.f4.length (getP ps code).1.f4 ∧ (getP ps code).1.f4.length ≤ c := by
  have hf := aget_find L ps code hL
  unfold getP
  rw [← hf]
  cases ha : aget L code with
  | none => exact ⟨none, 0, rfl, rfl, ⟨rfl, Nat.zero_le _, fun h => absurd h (Nat.lt_irrefl 0)⟩, Nat.le_refl _⟩
  | some e =>
    obtain ⟨hb, HK⟩ := HK
    rcases HK with ⟨_, rfl⟩ | ⟨m, h1, h2⟩
    · cases ha
    · obtain ⟨A, c, he, hc, hC⟩ := Kd.R_reads (h2.own _ (mem_of_aget L code _ ha))
      dsimp only at he hc hC
      exact ⟨A, c, by simp [prV, he], rfl, hC, hc⟩
set_option maxHeartbeats 4000000 in
set_option maxRecDepth 100000 in
theorem list_get.calls (code : ByteArray) (ps : List Pr) (base b : Nat) (q : Pr) (s : Bool) (w : World) (HL : ListOf w base b ps) (hq : getP ps code = (q, s)) (hu : q.f4.length ≤ 1000000) :
    Calls Try.prog 23 #[.pointer (some ⟨b, 0, none⟩), .string code] w fun e w' => ∃ v4, e = .returned (.tuple #[.agg #[.string q.f0, .string q.f1, .int .i64 q.f2, .int .i64 q.f3, v4], .bool s]) ∧ Kd.R kUn 61 w' w.heap.size (fun _ => True) v4 q.f4 ∧ Below w.heap.size w w' := by
  obtain ⟨⟨L, HK, hL⟩, hnd, hsz, hlen⟩ := HL
  obtain ⟨A, c, hg1, hg2, hC, hcc⟩ := get_told HK hL code
  rw [hq] at hg1 hg2 hC hcc
  dsimp only at hg1 hg2 hC hcc
  have HK0 := Aside0.mk HK
  have HC := Aside0.mk hC
  have HCC := Aside0.mk hcc
  have HD : Aside0 (items_duplicate.f q.f0 q.f1 q.f2 q.f3 q.f4 = some (q.f0, q.f1, q.f2, q.f3, q.f4)) := ⟨by simp [items_duplicate.f, api_Unit_61.f, hu]⟩
  clear HK hC hcc hL hq hnd hsz hlen hu
  go_enter Try.func23, Try.ntmps23
  go_wp2_with (first
    | (go_at_call 43; refine (keyed_get.calls code L base b _ (HK0.out.below (below_alloc (Below.refl _ _) _))).mono ?_; rintro e w1 ⟨rfl, hb⟩; rw [hg1, hg2]; have HB := Aside0.mk (below_then (below_alloc (Below.refl w.heap.size w) _) (by simp) hb); have hx := blk_below (blk_new w (.cells #[.string ⟨#[]⟩, .string ⟨#[]⟩, .int .i64 0, .int .i64 0, .slice none 0 0] 24)) hb; have hx1_0 := (blk_cell hx 0).trans rfl; have hf1_0 := blk_frozen hx 0; have hx1_1 := (blk_cell hx 1).trans rfl; have hf1_1 := blk_frozen hx 1; have hx1_2 := (blk_cell hx 2).trans rfl; have hf1_2 := blk_frozen hx 2; have hx1_3 := (blk_cell hx 3).trans rfl; have hf1_3 := blk_frozen hx 3; have hx1_4 := (blk_cell hx 4).trans rfl; have hf1_4 := blk_frozen hx 4; have HX := Aside0.mk hx; clear hb hx)
    | (go_at_call 42; (with_reducible refine (items_duplicate.calls q.f0 q.f1 q.f2 q.f3 A c q.f4 q.f0 q.f1 q.f2 q.f3 q.f4 _ ?side1 HCC.out HD.out).mono ?_); (case side1 => exact Kd.C_below HC.out (set5_below HB.out (Nat.le_refl _) _ _ _ _ _)); rintro e w6 ⟨v4, rfl, hR, hb6⟩; obtain ⟨A6, c6, rfl⟩ := Kd.R_slice hR; have hx6 := blk_below (set5_blk (.string q.f0) (.string q.f1) (.int .i64 q.f2) (.int .i64 q.f3) (.slice A q.f4.length c) HX.out) hb6; have hx6_0 := (blk_cell hx6 0).trans rfl; have hf6_0 := blk_frozen hx6 0; have hx6_1 := (blk_cell hx6 1).trans rfl; have hf6_1 := blk_frozen hx6 1; have hx6_2 := (blk_cell hx6 2).trans rfl; have hf6_2 := blk_frozen hx6 2; have hx6_3 := (blk_cell hx6 3).trans rfl; have hf6_3 := blk_frozen hx6 3; have hx6_4 := (blk_cell hx6 4).trans rfl; have hf6_4 := blk_frozen hx6 4; have HX6 := Aside0.mk hx6; have HB6 := Aside0.mk (below_then (set5_below HB.out (Nat.le_refl _) _ _ _ _ _) (set5_below HB.out (Nat.le_refl _) _ _ _ _ _).size hb6); have HR6 := Aside0.mk hR; clear hR hb6 hx6))
  refine bodyPost_ret (results_ct rfl _ _ w.heap.size 24 #[.string q.f0, .string q.f1, .int .i64 q.f2, .int .i64 q.f3, .slice A6 q.f4.length c6] (0, 0) _ rfl (set5_blk _ _ _ _ _ HX6.out) Try.underlying24 rfl (by kernel_rfl)) rfl ⟨_, rfl, ?_, set5_below HB6.out (Nat.le_refl _) _ _ _ _ _⟩
  have hlt := blk_lt HX.out
  have h1 := Kd.R_step (w1 := ((((w6.setCell ⟨w.heap.size, 0, none⟩ (.string q.f0)).setCell ⟨w.heap.size, 1, none⟩ (.string q.f1)).setCell ⟨w.heap.size, 2, none⟩ (.int .i64 q.f2)).setCell ⟨w.heap.size, 3, none⟩ (.int .i64 q.f3)).setCell ⟨w.heap.size, 4, none⟩ (.slice A6 q.f4.length c6)) (Kd.R_bound HR6.out) (fun k hk hl => set5_far _ _ _ _ _ _ _ k (by have := hk.2.1; rw [set5_size] at this; omega))
  exact Kd.R_mono (Kd.R_lower h1 (by rw [set5_size]; omega)) (fun _ _ => trivial)
set_option maxHeartbeats 4000000 in
set_option maxRecDepth 100000 in
theorem list_get_nil.calls (code : ByteArray) (w : World) :
    Calls Try.prog 23 #[.pointer none, .string code] w fun e w' => e = .returned (.tuple #[zPr, .bool false]) ∧ Below w.heap.size w w' := by
  go_enter Try.func23, Try.ntmps23
  go_wp2
  refine bodyPost_ret (results_ct rfl _ _ w.heap.size 24 zC (0, 0) _ rfl (blk_new w _) Try.underlying24 rfl (by kernel_rfl)) rfl ⟨rfl, below_alloc (Below.refl w.heap.size w) _⟩
end Go.Proofs.Ytoppdlideonjjaa.M
end
section
/- A list of products: New. -/
namespace Go.Proofs.Ytoppdlideonjjaa.M
open Go.RowKit Go.Proofs.YtoppdlideonjjaaW.PrintWords Go.Proofs.YtoppdlideonjjaaW.PrintLast Go.Proofs.YtoppdlideonjjaaW.PrintMore
attribute [local go_sem] max2_int min2_int max_two min_two max_three min_three max_four min_four
set_option linter.unusedVariables false
set_option linter.unusedSimpArgs false
/-- The index and the error of New, if there is one. -/
def newL (k : Nat) : List Pr → Int → List Pr → Option (Option (Int × Int))
  | [], j, seen => some none
  | p :: r, j, seen => (items_Check.f k p.f0 p.f1 p.f2 p.f3 p.f4).bind fun e => if e = 0 then (if seen.any (fun q => decide (q.f0 = p.f0)) = true then some (some (j, 8)) else newL k r (j + 1) (seen ++ [p])) else some (some (j, e))
def newf (k : Nat) (l : List Pr) : Option (Option (Int × Int)) := if l.length > 200 then some (some (0, 9)) else newL k l 0 []
def NewPost (w : World) (l : List Pr) (res : Option (Int × Int)) (e : Ending) (w' : World) : Prop :=
  match res with
  | none => ∃ b, e = .returned (.tuple #[.pointer (some ⟨b, 0, none⟩), .int .i64 0, .int .i64 0]) ∧ ListOf w' w.heap.size b l ∧ Below w.heap.size w w'
  | some (at_, er) => e = .returned (.tuple #[.pointer none, .int .i64 at_, .int .i64 er]) ∧ Below w.heap.size w w'
theorem any_find (ps : List Pr) (k : ByteArray) : (ps.find? (fun q => decide (q.f0 = k))).isSome = ps.any (fun q => decide (q.f0 = k)) := by
  induction ps with
  | nil => rfl
  | cons q ps ih =>
    rw [List.find?_cons, List.any_cons]
    cases decide (q.f0 = k) with
    | true => rfl
    | false => simpa using ih
set_option maxHeartbeats 8000000 in
set_option maxRecDepth 100000 in
theorem items_New.calls (k : Nat) (A0 : Option Addr) (c0 : Nat) (l0 : List Pr) (res : Option (Int × Int)) (w : World) (hr0 : Kd.C kPr w A0 l0.length l0) (hc0 : l0.length ≤ c0) (hu : ∀ p ∈ l0, p.f4.length ≤ 1000000) (hs : ∀ p ∈ l0, p.f0.size ≤ 140737488351232) (h : newf k l0 = some res) :
    Calls Try.prog 21 #[.slice A0 l0.length c0] w fun e w' => NewPost w l0 res e w' := by
  have HR0 := Aside0.mk hr0
  have HC0 := Aside0.mk hc0
  have HU := Aside0.mk hu
  have HS := Aside0.mk hs
  clear hr0 hc0 hu hs
  unfold newf at h
  by_cases cN : l0.length > 200
  · rw [if_pos cN] at h
    obtain rfl := Option.some.inj h
    have cb : decide ((200 : Int) < (l0.length : Int)) = true := decide_eq_true (by omega)
    clear h cN
    go_enter Try.func21, Try.ntmps21
    go_wp2
    go_ret3
    exact ⟨rfl, Below.refl _ _⟩
  · rw [if_neg cN] at h
    have cb : decide ((200 : Int) < (l0.length : Int)) = false := decide_eq_false (by omega)
    have HN : Aside0 (l0.length ≤ 200) := ⟨by omega⟩
    have HL := Aside0.mk h
    clear h cN
    have HO : Aside0 (ListOf (w.alloc (.cells #[.map none] 75)) w.heap.size w.heap.size []) := ⟨⟨⟨[], ⟨Nat.le_refl _, .inl ⟨blk_new w _, rfl⟩⟩, rfl⟩, List.nodup_nil, fun p hp => by simp at hp, Nat.zero_le _⟩⟩
    have HB := Aside0.mk (below_alloc (Below.refl w.heap.size w) (.cells #[.map none] 75))
    go_enter Try.func21, Try.ntmps21
    go_wp2
    go_loopg [2, 15] l0.length (fun kq v2 v15 w' => ∃ (j : Nat), v2 = .pointer (some ⟨w.heap.size, 0, none⟩) ∧ v15 = .int .i64 (j : Int) ∧ Aside0 (j + kq = l0.length) ∧ Aside0 (newL k (l0.drop j) (j : Int) (l0.take j) = some res) ∧ Aside0 (ListOf w' w.heap.size w.heap.size (l0.take j)) ∧ Aside0 (Below w.heap.size w w'))
    case atStart => exact ⟨0, rfl, rfl, ⟨by omega⟩, HL, HO, HB⟩
    case round =>
      clear HL HB HO
      obtain ⟨j, rfl, rfl, HJ, H, HO, HB⟩ := hrel
      cases gk with
      | zero =>
        have hj : j = l0.length := by have := HJ.out; omega
        subst hj
        have H1 := H.out
        have HO1 := HO.out
        simp only [List.drop_length, newL, Option.some.injEq] at H1
        rw [List.take_length] at HO1
        subst H1
        have hjb : decide ((l0.length : Int) < (l0.length : Int)) = false := decide_eq_false (by omega)
        clear H HO
        go_wp2
        go_ret3
        exact ⟨_, rfl, HO1, HB.out⟩
      | succ k1 =>
        have hj : j < l0.length := by have := HJ.out; omega
        have hjb : decide ((j : Int) < (l0.length : Int)) = true := decide_eq_true (by omega)
        have hj2 : (j : Int) + 1 ≤ 201 := by have := HN.out; omega
        have p1 : 0 ≤ (j : Int) := by omega
        have qj : (j : Int) < (l0.length : Int) := by omega
        obtain ⟨ad, A4, c4, e1, hx0, hx1, hx2, hx3, hx4, hc4, hC4⟩ := at_T24 (Kd.C_below HR0.out HB.out) (j : Int) p1 qj
        cases e1
        have hrd : rd_T24 l0 (j : Int) = l0[j] := by simp [rd_T24, hj]
        have H1 := H.out
        clear H
        rw [List.drop_eq_getElem_cons hj] at H1
        simp only [newL] at H1
        have HM : Aside0 (l0[j] ∈ l0) := ⟨List.getElem_mem hj⟩
        have HT : Aside0 (l0.take j ++ [l0[j]] = l0.take (j + 1)) := ⟨by simp⟩
        rw [hrd] at hx0 hx1 hx2 hx3 hx4 hc4 hC4
        obtain ⟨p, hp⟩ : ∃ p, l0[j] = p := ⟨_, rfl⟩
        rw [hp] at H1 HM HT hx0 hx1 hx2 hx3 hx4 hc4 hC4
        clear hp hrd
        replace p1 := eq_true p1
        replace qj := eq_true qj
        simp only [Int.toNat_natCast] at hx0 hx1 hx2 hx3 hx4
        have HC4 := Aside0.mk hc4
        have HCC := Aside0.mk hC4
        clear hc4 hC4
        obtain ⟨er, he, H1⟩ := Option.bind_eq_some_iff.mp H1
        have HE := Aside0.mk he
        clear he
        by_cases ce : er = 0
        · subst ce
          rw [if_pos rfl] at H1
          have H2 := Aside0.mk H1
          clear H1
          go_wp2_with (first
            | (go_at_call 14; (with_reducible refine (items_Check.calls k p.f0 p.f1 p.f2 p.f3 A4 c4 p.f4 0 _ ?side1 HC4.out HE.out).mono ?_); (case side1 => exact Kd.C_below HCC.out (below_alloc (Below.refl _ _) _)); rintro e w5 ⟨rfl, hb5⟩; have hx5 := blk_below (blk_new wr (.cells #[.string p.f0, .string p.f1, .int .i64 p.f2, .int .i64 p.f3, .slice A4 p.f4.length c4] 24)) hb5; have HX5 := Aside0.mk hx5; have HB5 := Aside0.mk (below_then (below_alloc (Below.refl wr.heap.size wr) _) (by simp) hb5); clear hb5 hx5))
          obtain ⟨⟨L, hKL, hL⟩, hnd, hsz, hlen⟩ := HO.out
          have hfd := aget_find L (l0.take j) p.f0 hL
          have hany := any_find (l0.take j) p.f0
          refine nameW ?_
          intro W hW
          rw [hW] at HX5 HB5
          have hq0 := (blk_cell HX5.out 0).trans rfl
          have hq1 := (blk_cell HX5.out 1).trans rfl
          have hq2 := (blk_cell HX5.out 2).trans rfl
          have hq3 := (blk_cell HX5.out 3).trans rfl
          have hq4 := (blk_cell HX5.out 4).trans rfl
          have HCW := Aside0.mk (Kd.C_below HCC.out HB5.out)
          have HKW := Aside0.mk (hKL.below HB5.out)
          have HBW := Aside0.mk (show Below w.heap.size w W from below_then HB.out HB.out.size HB5.out)
          have HD : Aside0 (items_duplicate.f p.f0 p.f1 p.f2 p.f3 p.f4 = some (p.f0, p.f1, p.f2, p.f3, p.f4)) := ⟨by simp [items_duplicate.f, api_Unit_61.f, HU.out p HM.out]⟩
          clear hW hKL
          cases hsn : (l0.take j).any (fun q => decide (q.f0 = p.f0)) with
          | true =>
            obtain ⟨e0, hag⟩ : ∃ e0, aget L p.f0 = some e0 := by
              rw [hsn, ← hfd] at hany
              cases ha : aget L p.f0 with
              | none => rw [ha] at hany; cases hany
              | some e0 => exact ⟨e0, rfl⟩
            have H3 := H2.out
            rw [hsn, if_pos rfl] at H3
            obtain rfl := Option.some.inj H3
            clear H3 H2 hany hfd hsn hL hnd hsz hlen
            refine start_ (n := 9) (S := fun w' => Below W.heap.size W w') (ds := [7]) #[false, false, false, false, false, false, false, false, false] (by kernel_rfl) rfl rfl (below_drew (Below.refl _ _)) (fun hHeld => ?_)
            refine pure_ (i := 0) (N := some 26) (v := ?_) (a' := ?_) #[true, false, false, false, false, false, false, false, false] rfl rfl (by kernel_rfl) (fun _ _ _ h => h) (Or.inl ⟨by rfl, ?_⟩) ?_ ?_
            rotate_left
            · intro w'; go_simp; with_reducible rfl
            rotate_left
            · simp only [Act.put, List.setIfInBounds_toArray, List.set_cons_zero, List.set_cons_succ, i64_w, i32_w]
              rfl
            refine pure_ (i := 1) (N := some 27) (v := ?_) (a' := ?_) #[true, true, false, false, false, false, false, false, false] rfl rfl (by kernel_rfl) (fun _ _ _ h => h) (Or.inl ⟨by rfl, ?_⟩) ?_ ?_
            rotate_left
            · intro w'; go_simp; with_reducible rfl
            rotate_left
            · simp only [Act.put, List.setIfInBounds_toArray, List.set_cons_zero, List.set_cons_succ, i64_w, i32_w]
              rfl
            refine pure_ (i := 2) (N := some 28) (v := ?_) (a' := ?_) #[true, true, true, false, false, false, false, false, false] rfl rfl (by kernel_rfl) (fun _ _ _ h => h) (Or.inl ⟨by rfl, ?_⟩) ?_ ?_
            rotate_left
            · intro w'; go_simp; with_reducible rfl
            rotate_left
            · simp only [Act.put, List.setIfInBounds_toArray, List.set_cons_zero, List.set_cons_succ, i64_w, i32_w]
              rfl
            refine pure_ (i := 3) (N := some 29) (v := ?_) (a' := ?_) #[true, true, true, true, false, false, false, false, false] rfl rfl (by kernel_rfl) (fun _ _ _ h => h) (Or.inl ⟨by rfl, ?_⟩) ?_ ?_
            rotate_left
            · intro w'; go_simp; with_reducible rfl
            rotate_left
            · simp only [Act.put, List.setIfInBounds_toArray, List.set_cons_zero, List.set_cons_succ, i64_w, i32_w]
              rfl
            refine take_ (i := 4) (N := some 30) (v := ?_) (a' := ?_) #[true, true, true, true, true, false, false, false, false] rfl rfl (by kernel_rfl) (fun _ _ _ h => h) (Or.inl ⟨by rfl, ?_⟩) hHeld ?_ ?_
            rotate_left
            · rintro w' s0; have k0 := pw_cell_below s0 hq0; have k1 := pw_cell_below s0 hq1; have k2 := pw_cell_below s0 hq2; have k3 := pw_cell_below s0 hq3; have k4 := pw_cell_below s0 hq4; go_simp; with_reducible rfl
            rotate_left
            · simp only [Act.put, List.setIfInBounds_toArray, List.set_cons_zero, List.set_cons_succ, i64_w, i32_w]
              rfl
            refine take_ (i := 5) (N := some 31) (v := ?_) (a' := ?_) #[true, true, true, true, true, true, false, false, false] rfl rfl (by kernel_rfl) (fun _ _ _ h => h) (Or.inl ⟨by rfl, ?_⟩) hHeld ?_ ?_
            rotate_left
            · rintro w' s0; have k0 := pw_cell_below s0 hq0; have k1 := pw_cell_below s0 hq1; have k2 := pw_cell_below s0 hq2; have k3 := pw_cell_below s0 hq3; have k4 := pw_cell_below s0 hq4; go_simp; with_reducible rfl
            rotate_left
            · simp only [Act.put, List.setIfInBounds_toArray, List.set_cons_zero, List.set_cons_succ, i64_w, i32_w]
              rfl
            refine one_ (i := 6) (N := some 32) #[true, true, true, true, true, true, true, false, false] rfl rfl (by kernel_rfl) (by decide) (fun K hK => ?_)
            refine goes_ Try.func42 (by kernel_rfl) rfl #[.agg #[.string p.f0, .string p.f1, .int .i64 p.f2, .int .i64 p.f3, .slice A4 p.f4.length c4]] (by rfl) rfl rfl (by (try simp only [List.map_toArray, List.map_cons, List.map_nil]); first | done | rfl) ?_
            with_reducible refine (items_duplicate.calls p.f0 p.f1 p.f2 p.f3 A4 c4 p.f4 p.f0 p.f1 p.f2 p.f3 p.f4 _ ?side1 HC4.out HD.out).mono ?_
            (case side1 => exact Kd.C_below HCW.out (below_drew (Below.refl _ _)))
            rintro e w6 ⟨v4, rfl, hR6, hb6⟩
            refine ⟨_, rfl, ?_⟩
            refine hK.out _ _ (Below.trans (below_drew (Below.refl _ _)) hb6) (fun _ => ?_)
            clear hK K
            obtain ⟨A6, c6, rfl⟩ := Kd.R_slice hR6
            have HW6 := Aside0.mk (show Below W.heap.size W w6 from Below.trans (below_drew (Below.refl _ _)) hb6)
            have HR6 := Aside0.mk hR6
            clear hR6 hb6
            refine norm_ (a' := ?_) ?_ ?_
            rotate_left
            · simp only [Act.put, List.setIfInBounds_toArray, List.set_cons_zero, List.set_cons_succ, i64_w, i32_w]
              rfl
            refine last_ (i := 7) (N := some 33) #[true, true, true, true, true, true, true, true, false] rfl rfl (by kernel_rfl) (by decide) (fun K hK => ?_)
            refine goes_ Try.func41 (by kernel_rfl) rfl #[.pointer (some ⟨w.heap.size, 0, none⟩), .string p.f0, .agg #[.string p.f0, .string p.f1, .int .i64 p.f2, .int .i64 p.f3, .slice A6 p.f4.length c6]] (by rfl) rfl rfl (by (try simp only [List.map_toArray, List.map_cons, List.map_nil]); first | done | rfl) ?_
            refine (keyed_put.calls p.f0 p A6 c6 L w.heap.size w.heap.size w6 (HKW.out.below HW6.out) (Nat.le_trans HBW.out.size HW6.out.size) (Kd.R_mono (Kd.R_lower HR6.out HBW.out.size) (fun _ _ => trivial))).mono ?_
            rw [hag]
            rintro e w7 ⟨rfl, hK7, hb7⟩
            refine ⟨_, rfl, ?_⟩
            refine hK.out _ _ ?_
            clear hK K
            have HK7 := Aside0.mk hK7
            have HB7 := Aside0.mk (Below.trans (Below.trans HBW.out (Below.mono HW6.out HBW.out.size)) hb7)
            clear hK7 hb7
            refine norm_ (a' := ?_) ?_ ?_
            rotate_left
            · simp only [Act.put, List.setIfInBounds_toArray, List.set_cons_zero, List.set_cons_succ, i64_w, i32_w]
              rfl
            refine pure_ (i := 8) (N := some 34) (v := ?_) (a' := ?_) #[true, true, true, true, true, true, true, true, true] rfl rfl (by kernel_rfl) (fun _ _ _ h => h) (Or.inl ⟨by rfl, ?_⟩) ?_ ?_
            rotate_left
            · intro w'; go_simp; with_reducible rfl
            rotate_left
            · simp only [Act.put, List.setIfInBounds_toArray, List.set_cons_zero, List.set_cons_succ, i64_w, i32_w]
              rfl
            refine done_ (by kernel_rfl) ?_
            go_wp2
            go_ret3
            exact ⟨rfl, HB7.out⟩
          | false =>
            have hag : aget L p.f0 = none := by
              rw [hsn, ← hfd] at hany
              cases ha : aget L p.f0 with
              | none => rfl
              | some e0 => rw [ha] at hany; cases hany
            have H3 := H2.out
            rw [hsn, if_neg (by decide), HT.out] at H3
            have H4 := Aside0.mk H3
            clear H3 H2 hany hfd
            refine start_ (n := 9) (S := fun w' => Below W.heap.size W w') (ds := [7]) #[false, false, false, false, false, false, false, false, false] (by kernel_rfl) rfl rfl (below_drew (Below.refl _ _)) (fun hHeld => ?_)
            refine pure_ (i := 0) (N := some 26) (v := ?_) (a' := ?_) #[true, false, false, false, false, false, false, false, false] rfl rfl (by kernel_rfl) (fun _ _ _ h => h) (Or.inl ⟨by rfl, ?_⟩) ?_ ?_
            rotate_left
            · intro w'; go_simp; with_reducible rfl
            rotate_left
            · simp only [Act.put, List.setIfInBounds_toArray, List.set_cons_zero, List.set_cons_succ, i64_w, i32_w]
              rfl
            refine pure_ (i := 1) (N := some 27) (v := ?_) (a' := ?_) #[true, true, false, false, false, false, false, false, false] rfl rfl (by kernel_rfl) (fun _ _ _ h => h) (Or.inl ⟨by rfl, ?_⟩) ?_ ?_
            rotate_left
            · intro w'; go_simp; with_reducible rfl
            rotate_left
            · simp only [Act.put, List.setIfInBounds_toArray, List.set_cons_zero, List.set_cons_succ, i64_w, i32_w]
              rfl
            refine pure_ (i := 2) (N := some 28) (v := ?_) (a' := ?_) #[true, true, true, false, false, false, false, false, false] rfl rfl (by kernel_rfl) (fun _ _ _ h => h) (Or.inl ⟨by rfl, ?_⟩) ?_ ?_
            rotate_left
            · intro w'; go_simp; with_reducible rfl
            rotate_left
            · simp only [Act.put, List.setIfInBounds_toArray, List.set_cons_zero, List.set_cons_succ, i64_w, i32_w]
              rfl
            refine pure_ (i := 3) (N := some 29) (v := ?_) (a' := ?_) #[true, true, true, true, false, false, false, false, false] rfl rfl (by kernel_rfl) (fun _ _ _ h => h) (Or.inl ⟨by rfl, ?_⟩) ?_ ?_
            rotate_left
            · intro w'; go_simp; with_reducible rfl
            rotate_left
            · simp only [Act.put, List.setIfInBounds_toArray, List.set_cons_zero, List.set_cons_succ, i64_w, i32_w]
              rfl
            refine take_ (i := 4) (N := some 30) (v := ?_) (a' := ?_) #[true, true, true, true, true, false, false, false, false] rfl rfl (by kernel_rfl) (fun _ _ _ h => h) (Or.inl ⟨by rfl, ?_⟩) hHeld ?_ ?_
            rotate_left
            · rintro w' s0; have k0 := pw_cell_below s0 hq0; have k1 := pw_cell_below s0 hq1; have k2 := pw_cell_below s0 hq2; have k3 := pw_cell_below s0 hq3; have k4 := pw_cell_below s0 hq4; go_simp; with_reducible rfl
            rotate_left
            · simp only [Act.put, List.setIfInBounds_toArray, List.set_cons_zero, List.set_cons_succ, i64_w, i32_w]
              rfl
            refine take_ (i := 5) (N := some 31) (v := ?_) (a' := ?_) #[true, true, true, true, true, true, false, false, false] rfl rfl (by kernel_rfl) (fun _ _ _ h => h) (Or.inl ⟨by rfl, ?_⟩) hHeld ?_ ?_
            rotate_left
            · rintro w' s0; have k0 := pw_cell_below s0 hq0; have k1 := pw_cell_below s0 hq1; have k2 := pw_cell_below s0 hq2; have k3 := pw_cell_below s0 hq3; have k4 := pw_cell_below s0 hq4; go_simp; with_reducible rfl
            rotate_left
            · simp only [Act.put, List.setIfInBounds_toArray, List.set_cons_zero, List.set_cons_succ, i64_w, i32_w]
              rfl
            refine one_ (i := 6) (N := some 32) #[true, true, true, true, true, true, true, false, false] rfl rfl (by kernel_rfl) (by decide) (fun K hK => ?_)
            refine goes_ Try.func42 (by kernel_rfl) rfl #[.agg #[.string p.f0, .string p.f1, .int .i64 p.f2, .int .i64 p.f3, .slice A4 p.f4.length c4]] (by rfl) rfl rfl (by (try simp only [List.map_toArray, List.map_cons, List.map_nil]); first | done | rfl) ?_
            with_reducible refine (items_duplicate.calls p.f0 p.f1 p.f2 p.f3 A4 c4 p.f4 p.f0 p.f1 p.f2 p.f3 p.f4 _ ?side1 HC4.out HD.out).mono ?_
            (case side1 => exact Kd.C_below HCW.out (below_drew (Below.refl _ _)))
            rintro e w6 ⟨v4, rfl, hR6, hb6⟩
            refine ⟨_, rfl, ?_⟩
            refine hK.out _ _ (Below.trans (below_drew (Below.refl _ _)) hb6) (fun _ => ?_)
            clear hK K
            obtain ⟨A6, c6, rfl⟩ := Kd.R_slice hR6
            have HW6 := Aside0.mk (show Below W.heap.size W w6 from Below.trans (below_drew (Below.refl _ _)) hb6)
            have HR6 := Aside0.mk hR6
            clear hR6 hb6
            refine norm_ (a' := ?_) ?_ ?_
            rotate_left
            · simp only [Act.put, List.setIfInBounds_toArray, List.set_cons_zero, List.set_cons_succ, i64_w, i32_w]
              rfl
            refine last_ (i := 7) (N := some 33) #[true, true, true, true, true, true, true, true, false] rfl rfl (by kernel_rfl) (by decide) (fun K hK => ?_)
            refine goes_ Try.func41 (by kernel_rfl) rfl #[.pointer (some ⟨w.heap.size, 0, none⟩), .string p.f0, .agg #[.string p.f0, .string p.f1, .int .i64 p.f2, .int .i64 p.f3, .slice A6 p.f4.length c6]] (by rfl) rfl rfl (by (try simp only [List.map_toArray, List.map_cons, List.map_nil]); first | done | rfl) ?_
            refine (keyed_put.calls p.f0 p A6 c6 L w.heap.size w.heap.size w6 (HKW.out.below HW6.out) (Nat.le_trans HBW.out.size HW6.out.size) (Kd.R_mono (Kd.R_lower HR6.out HBW.out.size) (fun _ _ => trivial))).mono ?_
            rw [hag]
            rintro e w7 ⟨rfl, hK7, hb7⟩
            refine ⟨_, rfl, ?_⟩
            refine hK.out _ _ ?_
            clear hK K
            have HK7 := Aside0.mk hK7
            have HB7 := Aside0.mk (Below.trans (Below.trans HBW.out (Below.mono HW6.out HBW.out.size)) hb7)
            clear hK7 hb7
            refine norm_ (a' := ?_) ?_ ?_
            rotate_left
            · simp only [Act.put, List.setIfInBounds_toArray, List.set_cons_zero, List.set_cons_succ, i64_w, i32_w]
              rfl
            refine pure_ (i := 8) (N := some 34) (v := ?_) (a' := ?_) #[true, true, true, true, true, true, true, true, true] rfl rfl (by kernel_rfl) (fun _ _ _ h => h) (Or.inl ⟨by rfl, ?_⟩) ?_ ?_
            rotate_left
            · intro w'; go_simp; with_reducible rfl
            rotate_left
            · simp only [Act.put, List.setIfInBounds_toArray, List.set_cons_zero, List.set_cons_succ, i64_w, i32_w]
              rfl
            refine done_ (by kernel_rfl) ?_
            go_simp
            repeat go_step
            go_roundg k1
            case measure => omega
            case rel =>
              refine ⟨j + 1, rfl, by go_num, ⟨by have := HJ.out; omega⟩, ⟨by rw [Int.natCast_add]; exact H4.out⟩, ⟨⟨⟨L ++ [(p.f0, (p, .slice A6 p.f4.length c6))], HK7.out, ?_⟩, ?_, ?_, ?_⟩⟩, HB7⟩
              · rw [← HT.out, List.map_append, List.map_append, hL]
                rfl
              · rw [← HT.out, List.map_append, List.map_singleton, List.nodup_append]
                refine ⟨hnd, by simp, fun a ha b hb e => ?_⟩
                obtain rfl : b = p.f0 := by simpa using hb
                obtain ⟨q, hq, hqa⟩ := List.mem_map.1 ha
                have h1 := List.any_eq_false.1 hsn q hq
                exact h1 (decide_eq_true (hqa.trans e))
              · intro q hq
                exact HS.out q (List.mem_of_mem_take hq)
              · have := HN.out
                rw [List.length_take]
                omega
        · rw [if_neg ce] at H1
          obtain rfl := Option.some.inj H1
          have ceb : (er == 0) = false := beq_eq_false_iff_ne.mpr ce
          have cen : (er != 0) = true := bne_iff_ne.mpr ce
          clear H1 ce
          go_wp2_with (first
            | (go_at_call 14; (with_reducible refine (items_Check.calls k p.f0 p.f1 p.f2 p.f3 A4 c4 p.f4 er _ ?side1 HC4.out HE.out).mono ?_); (case side1 => exact Kd.C_below HCC.out (below_alloc (Below.refl _ _) _)); rintro e w5 ⟨rfl, hb5⟩; have hx5 := blk_below (blk_new wr (.cells #[.string p.f0, .string p.f1, .int .i64 p.f2, .int .i64 p.f3, .slice A4 p.f4.length c4] 24)) hb5; have HX5 := Aside0.mk hx5; have HB5 := Aside0.mk (below_then (below_alloc (Below.refl wr.heap.size wr) _) (by simp) hb5); clear hb5 hx5))
          go_ret3
          exact ⟨rfl, below_then HB.out HB.out.size HB5.out⟩
end Go.Proofs.Ytoppdlideonjjaa.M
end
section
/- A list of products: All. -/
namespace Go.Proofs.Ytoppdlideonjjaa.M
open Go.RowKit Go.Proofs.YtoppdlideonjjaaW.PrintWords Go.Proofs.YtoppdlideonjjaaW.PrintLast Go.Proofs.YtoppdlideonjjaaW.PrintMore
attribute [local go_sem] max2_int min2_int max_two min_two max_three min_three max_four min_four
set_option linter.unusedVariables false
set_option linter.unusedSimpArgs false
theorem infoPr : (Try.prog.info? 24).map (fun i => (i.zero, i.size, i.bytes)) = some (some zPr, 5, 72) := by kernel_rfl
/-- The products in order of their codes. -/
def allP (ps : List Pr) : List Pr := (srt (ps.map (·.f0))).map (fun c => (getP ps c).1)
theorem getP_mem (ps : List Pr) (c : ByteArray) (P : Pr → Prop) (h : ∀ p ∈ ps, P p) (h0 : P z24) : P (getP ps c).1 := by
  unfold getP
  cases hf : ps.find? (fun p => decide (p.f0 = c)) with
  | none => exact h0
  | some p => exact h p (List.mem_of_find?_eq_some hf)
set_option maxHeartbeats 8000000 in
set_option maxRecDepth 100000 in
theorem list_all.calls (ps : List Pr) (base b : Nat) (w : World) (HL : ListOf w base b ps) (hu : ∀ p ∈ ps, p.f4.length ≤ 1000000) :
    Calls Try.prog 28 #[.pointer (some ⟨b, 0, none⟩)] w fun e w' => ∃ v, e = .returned v ∧ Kd.R kPr 24 w' w.heap.size (fun _ => True) v (allP ps) ∧ Below w.heap.size w w' := by
  obtain ⟨⟨L, HK, hL⟩, hnd, hsz, hlen⟩ := HL
  have hlL : L.length = ps.length := by have := congrArg List.length hL; simpa using this
  have hkL : L.map (·.1) = ps.map (·.f0) := by
    have := congrArg (List.map Prod.fst) hL
    rw [List.map_map, List.map_map] at this
    exact this
  have hcodes := keyed_codes.calls L base b w HK (by rw [hkL]; exact hnd) (fun e he => by
    have h1 : e.1 ∈ L.map (·.1) := List.mem_map_of_mem he
    rw [hkL] at h1
    obtain ⟨p, hp, h2⟩ := List.mem_map.1 h1
    rw [← h2]
    have := hsz p hp
    unfold maxLen
    omega) (by omega)
  rw [hkL] at hcodes
  have HCO := Aside0.mk hcodes
  have HK0 := Aside0.mk HK
  have HLL := Aside0.mk hL
  have HU : Aside0 (∀ c, (getP ps c).1.f4.length ≤ 1000000) := ⟨fun c => getP_mem ps c (fun p => p.f4.length ≤ 1000000) hu (Nat.zero_le _)⟩
  have HN : Aside0 ((srt (ps.map (·.f0))).length ≤ 1000000) := ⟨by rw [srt_length, List.length_map]; exact hlen⟩
  unfold allP
  obtain ⟨cs, hcs⟩ : ∃ cs, srt (ps.map (·.f0)) = cs := ⟨_, rfl⟩
  rw [hcs] at HCO HN ⊢
  clear hcs hcodes HK hL hnd hsz hlen hu hlL hkL
  go_enter Try.func28, Try.ntmps28
  go_wp2_with (first
    | (go_at_call 44; refine HCO.out.mono ?_; rintro e w1 ⟨vc, rfl, hRc, hb1⟩; obtain ⟨Ac, cc, rfl, hcc, hCc⟩ := Kd.R_reads hRc; have HC := Aside0.mk hCc; have HB1 := Aside0.mk hb1; clear hRc hCc hb1))
  go_loopg [2, 14] cs.length (fun kq v2 v14 w' => ∃ (j : Nat), v14 = .int .i64 (j : Int) ∧ Aside0 (j + kq = cs.length) ∧ Aside0 (Kd.R kPr 24 w' w1.heap.size (fun _ => True) v2 ((cs.take j).map (fun c => (getP ps c).1))) ∧ Aside0 (Below w1.heap.size w1 w'))
  case atStart => exact ⟨0, rfl, ⟨by omega⟩, ⟨Kd.R_nil _ _ _ _ _⟩, ⟨Below.refl _ _⟩⟩
  case round =>
    obtain ⟨j, rfl, HJ, HO, HB⟩ := hrel
    cases gk with
    | zero =>
      have hj : j = cs.length := by have := HJ.out; omega
      subst hj
      have HO1 := HO.out
      rw [List.take_length] at HO1
      have hjb : decide ((cs.length : Int) < (cs.length : Int)) = false := decide_eq_false (by omega)
      clear HO
      go_wp2
      go_ret
      exact ⟨_, rfl, Kd.R_lower HO1 HB1.out.size, below_then HB1.out HB1.out.size HB.out⟩
    | succ k1 =>
      have hj : j < cs.length := by have := HJ.out; omega
      have hjb : decide ((j : Int) < (cs.length : Int)) = true := decide_eq_true (by omega)
      have hj2 : (j : Int) + 1 ≤ 1000001 := by have := HN.out; omega
      have p1 : 0 ≤ (j : Int) := by omega
      have qj : (j : Int) < (cs.length : Int) := by omega
      obtain ⟨ad, cv, e1, _, hK, hc0⟩ := Kd.C_get (Kd.C_below HC.out HB.out) (⟨#[]⟩ : ByteArray) (j : Int) p1 qj
      obtain rfl : cv = [.string (cs.getD (j : Int).toNat ⟨#[]⟩)] := hK
      have hx0 := hc0 0 _ rfl
      cases e1
      simp only [Int.toNat_natCast, Nat.add_zero] at hx0
      rw [show j * Kd.string.sz = j by show j * 1 = j; omega] at hx0
      have HT : Aside0 ((cs.take j).map (fun c => (getP ps c).1) ++ [(getP ps cs[j]).1] = (cs.take (j + 1)).map (fun c => (getP ps c).1)) := ⟨by rw [List.take_succ_eq_append_getElem hj, List.map_append]; rfl⟩
      have HTL : Aside0 (((cs.take j).map (fun c => (getP ps c).1)).length ≤ 1000000) := ⟨by rw [List.length_map, List.length_take]; have := HN.out; omega⟩
      rw [show cs.getD j ⟨#[]⟩ = cs[j] by simp [hj]] at hx0
      obtain ⟨c, hcj⟩ : ∃ c, cs[j] = c := ⟨_, rfl⟩
      rw [hcj] at hx0 HT
      clear hcj hc0
      have HKr := HK0.out.below (below_then HB1.out HB1.out.size HB.out)
      obtain ⟨A4, c4, hg1, hg2, hC4, hc4⟩ := get_told HKr HLL.out c
      have hq4 := HU.out c
      obtain ⟨⟨q, s⟩, hq⟩ : ∃ q, getP ps c = q := ⟨_, rfl⟩
      rw [hq] at hg1 hg2 hC4 hc4 HT hq4
      dsimp only at hg1 hg2 hC4 hc4 HT hq4
      clear hq
      obtain ⟨fd, hfd⟩ : ∃ fd, (cs.take j).map (fun c => (getP ps c).1) = fd := ⟨_, rfl⟩
      rw [hfd] at HT HO HTL
      clear hfd
      have HKR := Aside0.mk HKr
      have HC4 := Aside0.mk hC4
      have HCC := Aside0.mk hc4
      have HD : Aside0 (items_duplicate.f q.f0 q.f1 q.f2 q.f3 q.f4 = some (q.f0, q.f1, q.f2, q.f3, q.f4)) := ⟨by simp [items_duplicate.f, api_Unit_61.f, hq4]⟩
      replace p1 := eq_true p1
      replace qj := eq_true qj
      clear HKr hC4 hc4 hq4
      go_wp2_with (first
        | (go_at_call 43; refine (keyed_get.calls c L base b _ HKR.out).mono ?_; rintro e w2 ⟨rfl, hb2⟩; rw [hg1, hg2]; have HB2 := Aside0.mk hb2; clear hb2)
        | (go_at_call 42; (with_reducible refine (items_duplicate.calls q.f0 q.f1 q.f2 q.f3 A4 c4 q.f4 q.f0 q.f1 q.f2 q.f3 q.f4 _ ?side1 HCC.out HD.out).mono ?_); (case side1 => exact Kd.C_below HC4.out (below_then HB2.out HB2.out.size (below_alloc (Below.refl _ _) _))); rintro e w6 ⟨v4, rfl, hR6, hb6⟩; have HR6 := Aside0.mk hR6; have HB6 := Aside0.mk (below_then (below_then HB2.out HB2.out.size (below_alloc (Below.refl _ _) _)) (Nat.le_trans HB2.out.size (by simp)) hb6); clear hR6 hb6)
        | (refine Kd.R_append kPr (w0 := w1) w1.heap.size rfl (.tmp 26) (.tmp 29) 45 24 zPr 72 rfl Try.underlying45 infoPr rfl (by decide) (by omega) u2 fd q [.string q.f0, .string q.f1, .int .i64 q.f2, .int .i64 q.f3, v4] (fun _ => True) (fun k => w2.heap.size ≤ k) rfl rfl ?aP ?aK (fun _ _ => trivial) ?aO ?aB ?aS ?aL ?_
           (case aP => exact k24_mkM w6 w1.heap.size _ q (Kd.R_mono (Kd.R_lower (Kd.R_bound HR6.out) (Nat.le_trans HB.out.size (Nat.le_trans HB2.out.size (by simp)))) (fun k hk => by have := hk.2.1; simp at this; omega)))
           (case aO => exact Kd.R_below HO.out HB6.out)
           (case aK => exact fun k hk => ⟨trivial, fun e => by have := own_lt (Kd.R_own HO.out).choose_spec k e.symm; have := HB2.out.size; omega⟩)
           (case aB => exact below_then HB.out HB.out.size HB6.out)
           (case aS => exact Nat.le_trans HB.out.size HB6.out.size)
           (case aL => have := HTL.out; omega)
           intro v30 w7 ho hb hg hat
           have HO7 := Aside0.mk ho
           have HB7 := Aside0.mk hb
           have HG7 := Aside0.mk hg
           clear ho hb hg hat))
      go_roundg k1
      case measure => omega
      case rel => exact ⟨j + 1, by go_num, ⟨by have := HJ.out; omega⟩, ⟨by rw [← HT.out]; exact HO7.out⟩, HB7⟩
set_option maxHeartbeats 4000000 in
set_option maxRecDepth 100000 in
theorem list_all_nil.calls (w : World) : Calls Try.prog 28 #[.pointer none] w fun e w' => e = .returned (.slice none 0 0) ∧ w' = w := by
  go_enter Try.func28, Try.ntmps28
  go_wp2
  go_ret
  exact ⟨rfl, rfl⟩
end Go.Proofs.Ytoppdlideonjjaa.M
end
section
-- Written by mprint.py (a program of this session) over the kit's print.
namespace Go.Proofs.Ytoppdlideonjjaa.M
open Go.RowKit Go.Proofs.YtoppdlideonjjaaW.PrintWords Go.Proofs.YtoppdlideonjjaaW.PrintLast Go.Proofs.YtoppdlideonjjaaW.PrintMore
attribute [local go_sem] max2_int min2_int max_two min_two max_three min_three max_four min_four   -- for this text's walks alone
set_option linter.unusedVariables false
set_option linter.unusedSimpArgs false

theorem eqA35 (d : Nat) (w : World) (x0 y0 : Int) (x1 y1 : Int) :
    (Op.equalIn (d + 2) 35 (.agg #[.int .i64 x0, .int .i64 x1]) (.agg #[.int .i64 y0, .int .i64 y1])).run Try.prog w = .ok (x0 == y0 && (x1 == y1)) w := by
  refine eqA_of Try.underlying35 (by kernel_rfl) ?_
  refine eqf_cons (by rfl) (by go_simp; rfl) (by go_simp; rfl) (by go_simp) ?_
  exact eqf_last (by rfl) (by go_simp; rfl) (by go_simp; rfl) (by go_simp)
end Go.Proofs.Ytoppdlideonjjaa.M
end
