/- What the claims of this seat share, part 6 of 6: what the program's functions compute. -/
import Derived.Test.YtgjpegmhlnabpaaQB1
import Derived.Test.YtgjpegmhlnabpaaQB5
import Derived.Test.YtgjpegmhlnabpaaQB2
import Derived.Test.YtgjpegmhlnabpaaQB3
import Derived.Test.YtgjpegmhlnabpaaQB4
section
-- Written by mprint.py (a program of this session) over the kit's print.
namespace Go.Proofs.Ytgjpegmhlnabpaa.M
open Go.RowKit Go.Proofs.YtgjpegmhlnabpaaW.PrintWords Go.Proofs.YtgjpegmhlnabpaaW.PrintLast Go.Proofs.YtgjpegmhlnabpaaW.PrintMore
attribute [local go_sem] max2_int min2_int max_two min_two max_three min_three max_four min_four   -- for this text's walks alone
set_option linter.unusedVariables false
set_option linter.unusedSimpArgs false
/-! ### tax_code_1: function 60 -/
def tax_code_1.f (a0_0 : ByteArray) (a0_1 : ByteArray) (a0_2 : Int) (a0_3 : Int) : Option (ByteArray) := some a0_0
set_option maxHeartbeats 8000000 in
set_option maxRecDepth 100000 in
theorem tax_code_1.calls (a0_0 : ByteArray) (a0_1 : ByteArray) (a0_2 : Int) (a0_3 : Int) (r : ByteArray) (w : World) (h : tax_code_1.f a0_0 a0_1 a0_2 a0_3 = some r) :
    Calls Try.prog 60 #[.agg #[.string a0_0, .string a0_1, .int .i64 a0_2, .int .i64 a0_3]] w fun e w' => e = .returned (.string r) ∧ Below w.heap.size w w' := by
 have hu59 := Try.underlying59
 have hu9 := Try.underlying9
 have HB := Aside0.mk (Below.refl w.heap.size w)
 have H : (some a0_0) = some r := h
 clear h
 obtain rfl := Option.some.inj H
 go_enter Try.func60, Try.ntmps60
 go_wp2_with (first | ((with_reducible refine gate_dst (N := 1) rfl ?_); refine box_event ?hg (N := 1) ?hd (cs := #[.string a0_0, .string a0_1, .int .i64 a0_2, .int .i64 a0_3]) (t := 59) ?hr ?_; (case hd => rfl); (case hg => rfl); (case hr => first | (go_simp; done) | (go_simp; rfl)); intro gb101 hg w2 hbox hb; have n0_ := Aside0.mk (below_step (by repeat (first | (with_reducible first | exact HB.out | apply below_alloc | apply pw_below_drewN | apply below_drew1) | exact HB.out)) hb); have n1_ := Aside0.mk (hbox); have n2_ := Aside0.mk ((by rw [hg]; exact (below_size (by repeat (first | (with_reducible first | exact HB.out | apply below_alloc | apply pw_below_drewN | apply below_drew1) | exact HB.out))) : w.heap.size ≤ gb101)); have n3_ := Aside0.mk ((by rw [hg]; exact (below_size (by repeat (first | (with_reducible first | exact HB.out | apply below_alloc | apply pw_below_drewN | apply below_drew1) | exact HB.out))) : w.heap.size ≤ gb101)); clear HB; have HB := n0_; have BK101 := n1_; have GW101 := n2_; have GE101 := n3_; clear n0_ n1_ n2_ n3_; clear hb hbox hg; have hcz3_0 : w2.cell? ⟨gb101, 0, none⟩ = some (.string a0_0) := (blk_cell BK101.out 0).trans rfl; have hcz3_1 : w2.cell? ⟨gb101, 1, none⟩ = some (.string a0_1) := (blk_cell BK101.out 1).trans rfl; have hcz3_2 : w2.cell? ⟨gb101, 2, none⟩ = some (.int .i64 a0_2) := (blk_cell BK101.out 2).trans rfl; have hcz3_3 : w2.cell? ⟨gb101, 3, none⟩ = some (.int .i64 a0_3) := (blk_cell BK101.out 3).trans rfl; have hfz3_0 := blk_frozen BK101.out 0; have hfz3_1 := blk_frozen BK101.out 1; have hfz3_2 := blk_frozen BK101.out 2; have hfz3_3 := blk_frozen BK101.out 3))
 go_ret
 exact ⟨by first | rfl | (simp [errW_none, errW_some] <;> rfl) | (simp [*, errW_none, errW_some] <;> rfl), by repeat (first | (with_reducible first | exact HB.out | apply below_alloc | apply pw_below_drewN | apply below_drew1 | refine below_set ?_ GE101.out) | exact HB.out)⟩
end Go.Proofs.Ytgjpegmhlnabpaa.M
end
section
-- Written by mprint.py (a program of this session) over the kit's print.
namespace Go.Proofs.Ytgjpegmhlnabpaa.M
open Go.RowKit Go.Proofs.YtgjpegmhlnabpaaW.PrintWords Go.Proofs.YtgjpegmhlnabpaaW.PrintLast Go.Proofs.YtgjpegmhlnabpaaW.PrintMore
attribute [local go_sem] max2_int min2_int max_two min_two max_three min_three max_four min_four   -- for this text's walks alone
set_option linter.unusedVariables false
set_option linter.unusedSimpArgs false
/-! ### api_TaxCode__tax_code_1: function 59 -/
def api_TaxCode__tax_code_1.l0 : Nat → List (S59) → ByteArray → Int → Int → ByteArray → ByteArray → Int → Int → Option (ByteArray × ByteArray × Int × Int × Bool)
  | 0, _, _, _, _, _, _, _, _ => none
  | k + 1, x0, x1, x8, x9, x102000, x102001, x102002, x102003 => if x8 < x9 then (if 0 ≤ (wrap64 (Int.tdiv (wrap64 (x8 + x9)) 2)) then (if (wrap64 (Int.tdiv (wrap64 (x8 + x9)) 2)) < (x0.length : Int) then ((tax_code_1.f ((rd_T59 x0 (wrap64 (Int.tdiv (wrap64 (x8 + x9)) 2))).f0) ((rd_T59 x0 (wrap64 (Int.tdiv (wrap64 (x8 + x9)) 2))).f1) ((rd_T59 x0 (wrap64 (Int.tdiv (wrap64 (x8 + x9)) 2))).f2.f0) ((rd_T59 x0 (wrap64 (Int.tdiv (wrap64 (x8 + x9)) 2))).f2.f1)).bind fun t103 => (if (Op.bytesLess t103.toList x1.toList) = true then (api_TaxCode__tax_code_1.l0 k x0 x1 (wrap64 ((wrap64 (Int.tdiv (wrap64 (x8 + x9)) 2)) + 1)) x9 x102000 x102001 x102002 x102003) else (api_TaxCode__tax_code_1.l0 k x0 x1 x8 (wrap64 (Int.tdiv (wrap64 (x8 + x9)) 2)) x102000 x102001 x102002 x102003))) else (none)) else (none)) else (if x8 < (x0.length : Int) then (if 0 ≤ x8 then ((tax_code_1.f ((rd_T59 x0 x8).f0) ((rd_T59 x0 x8).f1) ((rd_T59 x0 x8).f2.f0) ((rd_T59 x0 x8).f2.f1)).bind fun t105 => (if t105.toList = x1.toList then (some ((rd_T59 x0 x8).f0, (rd_T59 x0 x8).f1, (rd_T59 x0 x8).f2.f0, (rd_T59 x0 x8).f2.f1, true)) else (some (x102000, x102001, x102002, x102003, false)))) else (none)) else (some (x102000, x102001, x102002, x102003, false)))
def api_TaxCode__tax_code_1.f (k : Nat) (l0 : List (S59)) (a1 : ByteArray)  : Option (ByteArray × ByteArray × Int × Int × Bool) := api_TaxCode__tax_code_1.l0 k l0 a1 0 (l0.length : Int) (⟨#[]⟩ : ByteArray) (⟨#[]⟩ : ByteArray) 0 0
theorem api_TaxCode__tax_code_1.mono_l : ∀ k, (∀ y0 y1 y2 y3 y4 y5 y6 y7, LeO (api_TaxCode__tax_code_1.l0 k y0 y1 y2 y3 y4 y5 y6 y7) (api_TaxCode__tax_code_1.l0 (k + 1) y0 y1 y2 y3 y4 y5 y6 y7))
  | 0 => fun _ _ _ _ _ _ _ _ r h => by simp [api_TaxCode__tax_code_1.l0] at h
  | k + 1 => by
    have ih0 := api_TaxCode__tax_code_1.mono_l k
    · intro y0 y1 y2 y3 y4 y5 y6 y7
      unfold api_TaxCode__tax_code_1.l0
      repeat' first
      | (with_reducible exact ih0 _ _ _ _ _ _ _ _)
      | (with_reducible exact LeO.refl _)
      | (with_reducible exact LeO.none _)
      | (with_reducible refine LeO.ite ?_ ?_)
      | (with_reducible refine LeO.bind ?_ (fun _ => ?_))
      | exact ih0 _ _ _ _ _ _ _ _
      | exact LeO.none _
      | refine LeO.ite ?_ ?_
      | refine LeO.bind ?_ (fun _ => ?_)
theorem api_TaxCode__tax_code_1.mono : ∀ a0 a1 k, LeO (api_TaxCode__tax_code_1.f k a0 a1) (api_TaxCode__tax_code_1.f (k + 1) a0 a1) := by
 intro a0 a1 k
 have ih0 := api_TaxCode__tax_code_1.mono_l k
 unfold api_TaxCode__tax_code_1.f
 repeat' first
   | (with_reducible exact ih0 _ _ _ _ _ _ _ _)
   | (with_reducible exact LeO.refl _)
   | (with_reducible exact LeO.none _)
   | (with_reducible refine LeO.ite ?_ ?_)
   | (with_reducible refine LeO.bind ?_ (fun _ => ?_))
   | exact ih0 _ _ _ _ _ _ _ _
   | exact LeO.none _
   | refine LeO.ite ?_ ?_
   | refine LeO.bind ?_ (fun _ => ?_)
set_option maxHeartbeats 8000000 in
set_option maxRecDepth 100000 in
theorem api_TaxCode__tax_code_1.calls (k : Nat) (A0 : Option Addr) (c0 : Nat) (l0 : List (S59)) (a1 : ByteArray)  (r1 : ByteArray) (r2 : ByteArray) (r3 : Int) (r4 : Int) (r5 : Bool) (w : World) (hr0 : Kd.C k59 w A0 l0.length l0) (hc0 : l0.length ≤ c0) (h : api_TaxCode__tax_code_1.f k l0 a1 = some (r1, r2, r3, r4, r5)) :
    Calls Try.prog 59 #[.slice A0 l0.length c0, .string a1, .func (.func 60) #[] #[]] w fun e w' => e = .returned (.tuple #[.agg #[.string r1, .string r2, .int .i64 r3, .int .i64 r4], .bool r5]) ∧ Below w.heap.size w w' := by
 have hu59 := Try.underlying59
 have HR0 := Aside0.mk hr0
 have HC0 := Aside0.mk hc0
 clear hr0 hc0
 have HB := Aside0.mk (Below.refl w.heap.size w)
 have H : (api_TaxCode__tax_code_1.l0 k l0 a1 0 (l0.length : Int) (⟨#[]⟩ : ByteArray) (⟨#[]⟩ : ByteArray) 0 0) = some (r1, r2, r3, r4, r5) := h
 clear h
 have H' := Aside0.mk H
 clear H
 go_enter Try.func59, Try.ntmps59
 go_wp2_with (first | ((with_reducible refine gate_dst (N := 6) rfl ?_); refine box_event ?hg (N := 6) ?hd (cs := #[.string (⟨#[]⟩ : ByteArray), .string (⟨#[]⟩ : ByteArray), .int .i64 0, .int .i64 0]) (t := 59) ?hr ?_; (case hd => rfl); (case hg => rfl); (case hr => first | (go_simp; done) | (go_simp; rfl)); intro gb101 hg w4 hbox hb; have n0_ := Aside0.mk (below_step (by repeat (first | (with_reducible first | exact HB.out | apply below_alloc | apply pw_below_drewN | apply below_drew1) | exact HB.out)) hb); have n1_ := Aside0.mk (hbox); have n2_ := Aside0.mk ((by rw [hg]; exact (below_size (by repeat (first | (with_reducible first | exact HB.out | apply below_alloc | apply pw_below_drewN | apply below_drew1) | exact HB.out))) : w.heap.size ≤ gb101)); have n3_ := Aside0.mk ((by rw [hg]; exact (below_size (by repeat (first | (with_reducible first | exact HB.out | apply below_alloc | apply pw_below_drewN | apply below_drew1) | exact HB.out))) : w.heap.size ≤ gb101)); clear HB; have HB := n0_; have BK101 := n1_; have GW101 := n2_; have GE101 := n3_; clear n0_ n1_ n2_ n3_; clear hb hbox hg))
 go_loopg [8, 9] k (fun kq v8 v9 w' => ∃ (x8_1 : Int) (x9_1 : Int), v8 = .int .i64 x8_1 ∧ v9 = .int .i64 x9_1 ∧ Aside0 (api_TaxCode__tax_code_1.l0 kq l0 a1 x8_1 x9_1 (⟨#[]⟩ : ByteArray) (⟨#[]⟩ : ByteArray) 0 0 = some (r1, r2, r3, r4, r5)) ∧ Aside0 (kq ≤ k) ∧ Aside0 (w'.heap[gb101]? = some (.cells #[.string (⟨#[]⟩ : ByteArray), .string (⟨#[]⟩ : ByteArray), .int .i64 0, .int .i64 0] 59 (0, 0))) ∧ Aside0 (Below w.heap.size w w'))
 case atStart => exact ⟨(0), ((l0.length : Int)), (by first | rfl | (simp; done) | (simp [*]; done)), (by first | rfl | (simp; done) | (simp [*]; done)), H', ⟨Nat.le_refl _⟩, ⟨by (with_reducible repeat (first | refine blk_drewN ?_ _ | refine blk_drew ?_ | refine blk_alloc ?_ _)); exact BK101.out⟩, ⟨by repeat (first | (with_reducible first | exact HB.out | apply below_alloc | apply pw_below_drewN | apply below_drew1 | refine below_set ?_ GE101.out) | exact HB.out)⟩⟩
 case round =>
  clear H'
  try clear p2
  obtain ⟨x8_1, x9_1, rfl, rfl, HA, HK1, BK101, HB⟩ := hrel
  cases gk with
  | zero => exact absurd HA.out (by simp [api_TaxCode__tax_code_1.l0])
  | succ k1 =>
   have H := HA.out
   clear HA
   simp only [api_TaxCode__tax_code_1.l0] at H
   by_cases c5 : x8_1 < x9_1
   ·rw [if_pos c5] at H
    have c5b0 : decide (x8_1 < x9_1) = true := decide_eq_true c5
    clear c5
    obtain ⟨ji6, hji6⟩ : ∃ j_ : Int, (wrap64 (Int.tdiv (wrap64 (x8_1 + x9_1)) 2)) = j_ := ⟨_, rfl⟩
    replace H : (if 0 ≤ (ji6) then (if (ji6) < (l0.length : Int) then ((tax_code_1.f ((rd_T59 l0 (ji6)).f0) ((rd_T59 l0 (ji6)).f1) ((rd_T59 l0 (ji6)).f2.f0) ((rd_T59 l0 (ji6)).f2.f1)).bind fun t103 => (if (Op.bytesLess t103.toList a1.toList) = true then (api_TaxCode__tax_code_1.l0 k1 l0 a1 (wrap64 ((ji6) + 1)) x9_1 (⟨#[]⟩ : ByteArray) (⟨#[]⟩ : ByteArray) 0 0) else (api_TaxCode__tax_code_1.l0 k1 l0 a1 x8_1 ji6 (⟨#[]⟩ : ByteArray) (⟨#[]⟩ : ByteArray) 0 0))) else (none)) else (none)) = some (r1, r2, r3, r4, r5) := by first | (rw [hji6] at H; exact H) | (simp only [hji6] at H ⊢; exact H)
    have hji6w : (IntKind.i64.wrap (Int.tdiv (wrap64 (x8_1 + x9_1)) 2)) = ji6 := (i64_w _).trans hji6
    by_cases c7 : 0 ≤ (ji6)
    ·rw [if_pos c7] at H
     have c7b0 : decide (0 ≤ (ji6)) = true := decide_eq_true c7
     clear c7
     by_cases c8 : (ji6) < (l0.length : Int)
     ·rw [if_pos c8] at H
      have c8b0 : decide ((ji6) < (l0.length : Int)) = true := decide_eq_true c8
      clear c8
      replace H := Option.bind_eq_some_iff.mp H
      obtain ⟨t103, A90, H⟩ := H
      replace H : (if (Op.bytesLess t103.toList a1.toList) = true then (api_TaxCode__tax_code_1.l0 k1 l0 a1 (wrap64 ((ji6) + 1)) x9_1 (⟨#[]⟩ : ByteArray) (⟨#[]⟩ : ByteArray) 0 0) else (api_TaxCode__tax_code_1.l0 k1 l0 a1 x8_1 ji6 (⟨#[]⟩ : ByteArray) (⟨#[]⟩ : ByteArray) 0 0)) = some (r1, r2, r3, r4, r5) := H
      have A9 := Aside0.mk A90
      clear A90
      by_cases c10 : (Op.bytesLess t103.toList a1.toList) = true
      ·rw [if_pos c10] at H
       have c10b0 : (Op.bytesLess t103.toList a1.toList) = true := c10
       clear c10
       have H' := Aside0.mk H
       clear H
       have p102 : 0 ≤ ((ji6) : Int) := of_decide_eq_true (by first | (with_reducible assumption) | assumption)
       have q102 : (ji6) < (l0.length : Int) := of_decide_eq_true (by first | (with_reducible assumption) | assumption)
       obtain ⟨ad102, e102, hx102_0, hx102_1, hx102_2, hx102_3⟩ := at_T59 HR0.out (ji6) p102 q102
       cases e102
       replace hx102_0 := (HB.out.cell (World.block_lt_of_cell? w _ hx102_0)).trans hx102_0
       replace hx102_1 := (HB.out.cell (World.block_lt_of_cell? w _ hx102_1)).trans hx102_1
       replace hx102_2 := (HB.out.cell (World.block_lt_of_cell? w _ hx102_2)).trans hx102_2
       replace hx102_3 := (HB.out.cell (World.block_lt_of_cell? w _ hx102_3)).trans hx102_3
       replace p102 := eq_true p102
       replace q102 := eq_true q102
       go_wp2_with (first | (go_at_call 60; (with_reducible refine (tax_code_1.calls ((rd_T59 l0 (ji6)).f0) ((rd_T59 l0 (ji6)).f1) ((rd_T59 l0 (ji6)).f2.f0) ((rd_T59 l0 (ji6)).f2.f1) t103 _ A9.out).mono ?_); rintro e w11 ⟨rfl, hb⟩; have n0_ := Aside0.mk (blk_below (g := gb101) (o := .cells #[.string (⟨#[]⟩ : ByteArray), .string (⟨#[]⟩ : ByteArray), .int .i64 0, .int .i64 0] 59 (0, 0)) (by (with_reducible repeat (first | refine blk_drewN ?_ _ | refine blk_drew ?_ | refine blk_alloc ?_ _)); exact BK101.out) hb); have n1_ := Aside0.mk (below_step (by repeat (first | (with_reducible first | exact HB.out | apply below_alloc | apply pw_below_drewN | apply below_drew1 | refine below_set ?_ GE101.out) | exact HB.out)) hb); clear BK101; clear HB; have BK101 := n0_; have HB := n1_; clear n0_ n1_; (try clear hb); (try clear hb2); (try clear hk); (try clear hi)))
       go_roundg k1
       case measure => have := HK1.out; omega
       case rel => exact ⟨(wrap64 ((ji6) + 1)), (x9_1), (by first | rfl | (simp; done) | (simp only [← hji6] <;> (first | rfl | simp)) | (simp [*]; done)), (by first | rfl | (simp; done) | (simp [*]; done)), H', ⟨by have := HK1.out; omega⟩, ⟨by (with_reducible repeat (first | refine blk_drewN ?_ _ | refine blk_drew ?_ | refine blk_alloc ?_ _)); exact BK101.out⟩, ⟨by repeat (first | (with_reducible first | exact HB.out | apply below_alloc | apply pw_below_drewN | apply below_drew1 | refine below_set ?_ GE101.out) | exact HB.out)⟩⟩
      ·rw [if_neg c10] at H
       have c10b0 : (Op.bytesLess t103.toList a1.toList) = false := by simpa using c10
       clear c10
       have H' := Aside0.mk H
       clear H
       have p102 : 0 ≤ ((ji6) : Int) := of_decide_eq_true (by first | (with_reducible assumption) | assumption)
       have q102 : (ji6) < (l0.length : Int) := of_decide_eq_true (by first | (with_reducible assumption) | assumption)
       obtain ⟨ad102, e102, hx102_0, hx102_1, hx102_2, hx102_3⟩ := at_T59 HR0.out (ji6) p102 q102
       cases e102
       replace hx102_0 := (HB.out.cell (World.block_lt_of_cell? w _ hx102_0)).trans hx102_0
       replace hx102_1 := (HB.out.cell (World.block_lt_of_cell? w _ hx102_1)).trans hx102_1
       replace hx102_2 := (HB.out.cell (World.block_lt_of_cell? w _ hx102_2)).trans hx102_2
       replace hx102_3 := (HB.out.cell (World.block_lt_of_cell? w _ hx102_3)).trans hx102_3
       replace p102 := eq_true p102
       replace q102 := eq_true q102
       go_wp2_with (first | (go_at_call 60; (with_reducible refine (tax_code_1.calls ((rd_T59 l0 (ji6)).f0) ((rd_T59 l0 (ji6)).f1) ((rd_T59 l0 (ji6)).f2.f0) ((rd_T59 l0 (ji6)).f2.f1) t103 _ A9.out).mono ?_); rintro e w12 ⟨rfl, hb⟩; have n0_ := Aside0.mk (blk_below (g := gb101) (o := .cells #[.string (⟨#[]⟩ : ByteArray), .string (⟨#[]⟩ : ByteArray), .int .i64 0, .int .i64 0] 59 (0, 0)) (by (with_reducible repeat (first | refine blk_drewN ?_ _ | refine blk_drew ?_ | refine blk_alloc ?_ _)); exact BK101.out) hb); have n1_ := Aside0.mk (below_step (by repeat (first | (with_reducible first | exact HB.out | apply below_alloc | apply pw_below_drewN | apply below_drew1 | refine below_set ?_ GE101.out) | exact HB.out)) hb); clear BK101; clear HB; have BK101 := n0_; have HB := n1_; clear n0_ n1_; (try clear hb); (try clear hb2); (try clear hk); (try clear hi)))
       go_roundg k1
       case measure => have := HK1.out; omega
       case rel => exact ⟨(x8_1), (ji6), (by first | rfl | (simp; done) | (simp [*]; done)), (by first | rfl | (simp; done) | (simp only [← hji6] <;> (first | rfl | simp)) | (simp [*]; done)), H', ⟨by have := HK1.out; omega⟩, ⟨by (with_reducible repeat (first | refine blk_drewN ?_ _ | refine blk_drew ?_ | refine blk_alloc ?_ _)); exact BK101.out⟩, ⟨by repeat (first | (with_reducible first | exact HB.out | apply below_alloc | apply pw_below_drewN | apply below_drew1 | refine below_set ?_ GE101.out) | exact HB.out)⟩⟩
     ·rw [if_neg c8] at H
      exact absurd H (by simp)
    ·rw [if_neg c7] at H
     exact absurd H (by simp)
   ·rw [if_neg c5] at H
    have c5b0 : decide (x8_1 < x9_1) = false := decide_eq_false c5
    clear c5
    by_cases c13 : x8_1 < (l0.length : Int)
    ·rw [if_pos c13] at H
     have c13b0 : decide (x8_1 < (l0.length : Int)) = true := decide_eq_true c13
     clear c13
     by_cases c14 : 0 ≤ x8_1
     ·rw [if_pos c14] at H
      have c14b0 : decide (0 ≤ x8_1) = true := decide_eq_true c14
      clear c14
      replace H := Option.bind_eq_some_iff.mp H
      obtain ⟨t105, A150, H⟩ := H
      replace H : (if t105.toList = a1.toList then (some ((rd_T59 l0 x8_1).f0, (rd_T59 l0 x8_1).f1, (rd_T59 l0 x8_1).f2.f0, (rd_T59 l0 x8_1).f2.f1, true)) else (some ((⟨#[]⟩ : ByteArray), (⟨#[]⟩ : ByteArray), 0, 0, false))) = some (r1, r2, r3, r4, r5) := H
      have A15 := Aside0.mk A150
      clear A150
      by_cases c16 : t105.toList = a1.toList
      ·rw [if_pos c16] at H
       have c16b0 : (t105.toList == a1.toList) = true := beq_iff_eq.mpr c16
       have c16b1 : (t105.toList != a1.toList) = false := bne_eq_false_iff_eq.mpr c16
       clear c16
       simp only [Option.some.injEq, Prod.mk.injEq] at H
       obtain ⟨rfl, rfl, rfl, rfl, rfl⟩ := H
       have p104 : 0 ≤ (x8_1 : Int) := of_decide_eq_true (by first | (with_reducible assumption) | assumption)
       have q104 : x8_1 < (l0.length : Int) := of_decide_eq_true (by first | (with_reducible assumption) | assumption)
       obtain ⟨ad104, e104, hx104_0, hx104_1, hx104_2, hx104_3⟩ := at_T59 HR0.out x8_1 p104 q104
       cases e104
       replace hx104_0 := (HB.out.cell (World.block_lt_of_cell? w _ hx104_0)).trans hx104_0
       replace hx104_1 := (HB.out.cell (World.block_lt_of_cell? w _ hx104_1)).trans hx104_1
       replace hx104_2 := (HB.out.cell (World.block_lt_of_cell? w _ hx104_2)).trans hx104_2
       replace hx104_3 := (HB.out.cell (World.block_lt_of_cell? w _ hx104_3)).trans hx104_3
       replace p104 := eq_true p104
       replace q104 := eq_true q104
       go_wp2_with (first | (go_at_call 60; (with_reducible refine (tax_code_1.calls ((rd_T59 l0 x8_1).f0) ((rd_T59 l0 x8_1).f1) ((rd_T59 l0 x8_1).f2.f0) ((rd_T59 l0 x8_1).f2.f1) t105 _ A15.out).mono ?_); rintro e w17 ⟨rfl, hb⟩; have n0_ := Aside0.mk (blk_below (g := gb101) (o := .cells #[.string (⟨#[]⟩ : ByteArray), .string (⟨#[]⟩ : ByteArray), .int .i64 0, .int .i64 0] 59 (0, 0)) (by (with_reducible repeat (first | refine blk_drewN ?_ _ | refine blk_drew ?_ | refine blk_alloc ?_ _)); exact BK101.out) hb); have n1_ := Aside0.mk (below_step (by repeat (first | (with_reducible first | exact HB.out | apply below_alloc | apply pw_below_drewN | apply below_drew1 | refine below_set ?_ GE101.out) | exact HB.out)) hb); clear BK101; clear HB; have BK101 := n0_; have HB := n1_; clear n0_ n1_; (try clear hb); (try clear hb2); (try clear hk); (try clear hi); have p106 : 0 ≤ (x8_1 : Int) := of_decide_eq_true (by first | (with_reducible assumption) | assumption); have q106 : x8_1 < (l0.length : Int) := of_decide_eq_true (by first | (with_reducible assumption) | assumption); obtain ⟨ad106, e106, hx106_0, hx106_1, hx106_2, hx106_3⟩ := at_T59 HR0.out x8_1 p106 q106; obtain rfl : ad104 = ad106 := (by injection e106); replace hx106_0 := (HB.out.cell (World.block_lt_of_cell? w _ hx106_0)).trans hx106_0; replace hx106_1 := (HB.out.cell (World.block_lt_of_cell? w _ hx106_1)).trans hx106_1; replace hx106_2 := (HB.out.cell (World.block_lt_of_cell? w _ hx106_2)).trans hx106_2; replace hx106_3 := (HB.out.cell (World.block_lt_of_cell? w _ hx106_3)).trans hx106_3; replace p106 := eq_true p106; replace q106 := eq_true q106; have hcz18_0 : w17.cell? ⟨gb101, 0, none⟩ = some (.string (⟨#[]⟩ : ByteArray)) := (blk_cell BK101.out 0).trans rfl; have hcz18_1 : w17.cell? ⟨gb101, 1, none⟩ = some (.string (⟨#[]⟩ : ByteArray)) := (blk_cell BK101.out 1).trans rfl; have hcz18_2 : w17.cell? ⟨gb101, 2, none⟩ = some (.int .i64 0) := (blk_cell BK101.out 2).trans rfl; have hcz18_3 : w17.cell? ⟨gb101, 3, none⟩ = some (.int .i64 0) := (blk_cell BK101.out 3).trans rfl; have hfz18_0 := blk_frozen BK101.out 0; have hfz18_1 := blk_frozen BK101.out 1; have hfz18_2 := blk_frozen BK101.out 2; have hfz18_3 := blk_frozen BK101.out 3))
       refine bodyPost_ret (results_ct rfl _ _ gb101 59 #[.string ((rd_T59 l0 x8_1).f0), .string ((rd_T59 l0 x8_1).f1), .int .i64 ((rd_T59 l0 x8_1).f2.f0), .int .i64 ((rd_T59 l0 x8_1).f2.f1)] (0, 0) _ rfl (by (with_reducible repeat (first | refine blk_drewN ?_ _ | refine blk_drew ?_ | refine blk_alloc ?_ _)); refine blk_put (cs := #[.string ((rd_T59 l0 x8_1).f0), .string ((rd_T59 l0 x8_1).f1), .int .i64 ((rd_T59 l0 x8_1).f2.f0), .int .i64 0]) ?_ 3 _ rfl; (with_reducible repeat (first | refine blk_drewN ?_ _ | refine blk_drew ?_ | refine blk_alloc ?_ _)); refine blk_put (cs := #[.string ((rd_T59 l0 x8_1).f0), .string ((rd_T59 l0 x8_1).f1), .int .i64 0, .int .i64 0]) ?_ 2 _ rfl; (with_reducible repeat (first | refine blk_drewN ?_ _ | refine blk_drew ?_ | refine blk_alloc ?_ _)); refine blk_put (cs := #[.string ((rd_T59 l0 x8_1).f0), .string (⟨#[]⟩ : ByteArray), .int .i64 0, .int .i64 0]) ?_ 1 _ rfl; (with_reducible repeat (first | refine blk_drewN ?_ _ | refine blk_drew ?_ | refine blk_alloc ?_ _)); refine blk_put (cs := #[.string (⟨#[]⟩ : ByteArray), .string (⟨#[]⟩ : ByteArray), .int .i64 0, .int .i64 0]) ?_ 0 _ rfl; (with_reducible repeat (first | refine blk_drewN ?_ _ | refine blk_drew ?_ | refine blk_alloc ?_ _)); exact BK101.out) Try.underlying59 rfl (by kernel_rfl)) rfl ?_
       exact ⟨by first | rfl | (simp [errW_none, errW_some] <;> rfl) | (simp [*, errW_none, errW_some] <;> rfl), by repeat (first | (with_reducible first | exact HB.out | apply below_alloc | apply pw_below_drewN | apply below_drew1 | refine below_set ?_ GE101.out) | exact HB.out)⟩
      ·rw [if_neg c16] at H
       have c16b0 : (t105.toList == a1.toList) = false := beq_eq_false_iff_ne.mpr c16
       have c16b1 : (t105.toList != a1.toList) = true := bne_iff_ne.mpr c16
       simp only [Option.some.injEq, Prod.mk.injEq] at H
       obtain ⟨rfl, rfl, rfl, rfl, rfl⟩ := H
       have p104 : 0 ≤ (x8_1 : Int) := of_decide_eq_true (by first | (with_reducible assumption) | assumption)
       have q104 : x8_1 < (l0.length : Int) := of_decide_eq_true (by first | (with_reducible assumption) | assumption)
       obtain ⟨ad104, e104, hx104_0, hx104_1, hx104_2, hx104_3⟩ := at_T59 HR0.out x8_1 p104 q104
       cases e104
       replace hx104_0 := (HB.out.cell (World.block_lt_of_cell? w _ hx104_0)).trans hx104_0
       replace hx104_1 := (HB.out.cell (World.block_lt_of_cell? w _ hx104_1)).trans hx104_1
       replace hx104_2 := (HB.out.cell (World.block_lt_of_cell? w _ hx104_2)).trans hx104_2
       replace hx104_3 := (HB.out.cell (World.block_lt_of_cell? w _ hx104_3)).trans hx104_3
       replace p104 := eq_true p104
       replace q104 := eq_true q104
       go_wp2_with (first | (go_at_call 60; (with_reducible refine (tax_code_1.calls ((rd_T59 l0 x8_1).f0) ((rd_T59 l0 x8_1).f1) ((rd_T59 l0 x8_1).f2.f0) ((rd_T59 l0 x8_1).f2.f1) t105 _ A15.out).mono ?_); rintro e w19 ⟨rfl, hb⟩; have n0_ := Aside0.mk (blk_below (g := gb101) (o := .cells #[.string (⟨#[]⟩ : ByteArray), .string (⟨#[]⟩ : ByteArray), .int .i64 0, .int .i64 0] 59 (0, 0)) (by (with_reducible repeat (first | refine blk_drewN ?_ _ | refine blk_drew ?_ | refine blk_alloc ?_ _)); exact BK101.out) hb); have n1_ := Aside0.mk (below_step (by repeat (first | (with_reducible first | exact HB.out | apply below_alloc | apply pw_below_drewN | apply below_drew1 | refine below_set ?_ GE101.out) | exact HB.out)) hb); clear BK101; clear HB; have BK101 := n0_; have HB := n1_; clear n0_ n1_; (try clear hb); (try clear hb2); (try clear hk); (try clear hi); have hcz20_0 : w19.cell? ⟨gb101, 0, none⟩ = some (.string (⟨#[]⟩ : ByteArray)) := (blk_cell BK101.out 0).trans rfl; have hcz20_1 : w19.cell? ⟨gb101, 1, none⟩ = some (.string (⟨#[]⟩ : ByteArray)) := (blk_cell BK101.out 1).trans rfl; have hcz20_2 : w19.cell? ⟨gb101, 2, none⟩ = some (.int .i64 0) := (blk_cell BK101.out 2).trans rfl; have hcz20_3 : w19.cell? ⟨gb101, 3, none⟩ = some (.int .i64 0) := (blk_cell BK101.out 3).trans rfl; have hfz20_0 := blk_frozen BK101.out 0; have hfz20_1 := blk_frozen BK101.out 1; have hfz20_2 := blk_frozen BK101.out 2; have hfz20_3 := blk_frozen BK101.out 3))
       refine bodyPost_ret (results_ct rfl _ _ gb101 59 #[.string (⟨#[]⟩ : ByteArray), .string (⟨#[]⟩ : ByteArray), .int .i64 0, .int .i64 0] (0, 0) _ rfl (by (with_reducible repeat (first | refine blk_drewN ?_ _ | refine blk_drew ?_ | refine blk_alloc ?_ _)); refine blk_put (cs := #[.string (⟨#[]⟩ : ByteArray), .string (⟨#[]⟩ : ByteArray), .int .i64 0, .int .i64 0]) ?_ 3 _ rfl; (with_reducible repeat (first | refine blk_drewN ?_ _ | refine blk_drew ?_ | refine blk_alloc ?_ _)); refine blk_put (cs := #[.string (⟨#[]⟩ : ByteArray), .string (⟨#[]⟩ : ByteArray), .int .i64 0, .int .i64 0]) ?_ 2 _ rfl; (with_reducible repeat (first | refine blk_drewN ?_ _ | refine blk_drew ?_ | refine blk_alloc ?_ _)); refine blk_put (cs := #[.string (⟨#[]⟩ : ByteArray), .string (⟨#[]⟩ : ByteArray), .int .i64 0, .int .i64 0]) ?_ 1 _ rfl; (with_reducible repeat (first | refine blk_drewN ?_ _ | refine blk_drew ?_ | refine blk_alloc ?_ _)); refine blk_put (cs := #[.string (⟨#[]⟩ : ByteArray), .string (⟨#[]⟩ : ByteArray), .int .i64 0, .int .i64 0]) ?_ 0 _ rfl; (with_reducible repeat (first | refine blk_drewN ?_ _ | refine blk_drew ?_ | refine blk_alloc ?_ _)); exact BK101.out) Try.underlying59 rfl (by kernel_rfl)) rfl ?_
       exact ⟨by first | rfl | (simp [errW_none, errW_some] <;> rfl) | (simp [*, errW_none, errW_some] <;> rfl), by repeat (first | (with_reducible first | exact HB.out | apply below_alloc | apply pw_below_drewN | apply below_drew1 | refine below_set ?_ GE101.out) | exact HB.out)⟩
     ·rw [if_neg c14] at H
      exact absurd H (by simp)
    ·rw [if_neg c13] at H
     have c13b0 : decide (x8_1 < (l0.length : Int)) = false := decide_eq_false c13
     clear c13
     simp only [Option.some.injEq, Prod.mk.injEq] at H
     obtain ⟨rfl, rfl, rfl, rfl, rfl⟩ := H
     have hcz21_0 : wr.cell? ⟨gb101, 0, none⟩ = some (.string (⟨#[]⟩ : ByteArray)) := (blk_cell BK101.out 0).trans rfl
     have hcz21_1 : wr.cell? ⟨gb101, 1, none⟩ = some (.string (⟨#[]⟩ : ByteArray)) := (blk_cell BK101.out 1).trans rfl
     have hcz21_2 : wr.cell? ⟨gb101, 2, none⟩ = some (.int .i64 0) := (blk_cell BK101.out 2).trans rfl
     have hcz21_3 : wr.cell? ⟨gb101, 3, none⟩ = some (.int .i64 0) := (blk_cell BK101.out 3).trans rfl
     have hfz21_0 := blk_frozen BK101.out 0
     have hfz21_1 := blk_frozen BK101.out 1
     have hfz21_2 := blk_frozen BK101.out 2
     have hfz21_3 := blk_frozen BK101.out 3
     go_wp2
     refine bodyPost_ret (results_ct rfl _ _ gb101 59 #[.string (⟨#[]⟩ : ByteArray), .string (⟨#[]⟩ : ByteArray), .int .i64 0, .int .i64 0] (0, 0) _ rfl (by (with_reducible repeat (first | refine blk_drewN ?_ _ | refine blk_drew ?_ | refine blk_alloc ?_ _)); refine blk_put (cs := #[.string (⟨#[]⟩ : ByteArray), .string (⟨#[]⟩ : ByteArray), .int .i64 0, .int .i64 0]) ?_ 3 _ rfl; (with_reducible repeat (first | refine blk_drewN ?_ _ | refine blk_drew ?_ | refine blk_alloc ?_ _)); refine blk_put (cs := #[.string (⟨#[]⟩ : ByteArray), .string (⟨#[]⟩ : ByteArray), .int .i64 0, .int .i64 0]) ?_ 2 _ rfl; (with_reducible repeat (first | refine blk_drewN ?_ _ | refine blk_drew ?_ | refine blk_alloc ?_ _)); refine blk_put (cs := #[.string (⟨#[]⟩ : ByteArray), .string (⟨#[]⟩ : ByteArray), .int .i64 0, .int .i64 0]) ?_ 1 _ rfl; (with_reducible repeat (first | refine blk_drewN ?_ _ | refine blk_drew ?_ | refine blk_alloc ?_ _)); refine blk_put (cs := #[.string (⟨#[]⟩ : ByteArray), .string (⟨#[]⟩ : ByteArray), .int .i64 0, .int .i64 0]) ?_ 0 _ rfl; (with_reducible repeat (first | refine blk_drewN ?_ _ | refine blk_drew ?_ | refine blk_alloc ?_ _)); exact BK101.out) Try.underlying59 rfl (by kernel_rfl)) rfl ?_
     exact ⟨by first | rfl | (simp [errW_none, errW_some] <;> rfl) | (simp [*, errW_none, errW_some] <;> rfl), by repeat (first | (with_reducible first | exact HB.out | apply below_alloc | apply pw_below_drewN | apply below_drew1 | refine below_set ?_ GE101.out) | exact HB.out)⟩
end Go.Proofs.Ytgjpegmhlnabpaa.M
end
section
-- Written by mprint.py (a program of this session) over the kit's print.
namespace Go.Proofs.Ytgjpegmhlnabpaa.M
open Go.RowKit Go.Proofs.YtgjpegmhlnabpaaW.PrintWords Go.Proofs.YtgjpegmhlnabpaaW.PrintLast Go.Proofs.YtgjpegmhlnabpaaW.PrintMore
attribute [local go_sem] max2_int min2_int max_two min_two max_three min_three max_four min_four   -- for this text's walks alone
set_option linter.unusedVariables false
set_option linter.unusedSimpArgs false
/-! ### tax_code: function 33 -/
def tax_code.f (k : Nat) (l0 : List (S59)) (a1 : ByteArray) : Option (ByteArray × ByteArray × Int × Int × Bool) := (api_TaxCode__tax_code_1.f k l0 a1).bind fun bt108 => (some (bt108.1, bt108.2.1, bt108.2.2.1, bt108.2.2.2.1, bt108.2.2.2.2))
theorem tax_code.mono : ∀ a0 a1 k, LeO (tax_code.f k a0 a1) (tax_code.f (k + 1) a0 a1) := by
 intro a0 a1 k
 unfold tax_code.f
 repeat' first
   | (with_reducible exact api_TaxCode__tax_code_1.mono _ _ _)
   | (with_reducible exact LeO.refl _)
   | (with_reducible exact LeO.none _)
   | (with_reducible refine LeO.ite ?_ ?_)
   | (with_reducible refine LeO.bind ?_ (fun _ => ?_))
   | exact api_TaxCode__tax_code_1.mono _ _ _
   | exact LeO.none _
   | refine LeO.ite ?_ ?_
   | refine LeO.bind ?_ (fun _ => ?_)
set_option maxHeartbeats 8000000 in
set_option maxRecDepth 100000 in
theorem tax_code.calls (k : Nat) (A0 : Option Addr) (c0 : Nat) (l0 : List (S59)) (a1 : ByteArray) (r1 : ByteArray) (r2 : ByteArray) (r3 : Int) (r4 : Int) (r5 : Bool) (w : World) (hr0 : Kd.C k59 w A0 l0.length l0) (hc0 : l0.length ≤ c0) (h : tax_code.f k l0 a1 = some (r1, r2, r3, r4, r5)) :
    Calls Try.prog 33 #[.slice A0 l0.length c0, .string a1] w fun e w' => e = .returned (.tuple #[.agg #[.string r1, .string r2, .int .i64 r3, .int .i64 r4], .bool r5]) ∧ Below w.heap.size w w' := by
 have hu59 := Try.underlying59
 have HR0 := Aside0.mk hr0
 have HC0 := Aside0.mk hc0
 clear hr0 hc0
 have HB := Aside0.mk (Below.refl w.heap.size w)
 have H : ((api_TaxCode__tax_code_1.f k l0 a1).bind fun bt108 => (some (bt108.1, bt108.2.1, bt108.2.2.1, bt108.2.2.2.1, bt108.2.2.2.2))) = some (r1, r2, r3, r4, r5) := h
 clear h
 replace H := Option.bind_eq_some_iff.mp H
 obtain ⟨⟨t108, t109, t110, t111, t112⟩, A30, H⟩ := H
 replace H : (some (t108, t109, t110, t111, t112)) = some (r1, r2, r3, r4, r5) := H
 have A3 := Aside0.mk A30
 clear A30
 simp only [Option.some.injEq, Prod.mk.injEq] at H
 obtain ⟨rfl, rfl, rfl, rfl, rfl⟩ := H
 go_enter Try.func33, Try.ntmps33
 go_wp2_with (first | ((with_reducible refine gate_dst (N := 4) rfl ?_); refine box_event ?hg (N := 4) ?hd (cs := #[.string (⟨#[]⟩ : ByteArray), .string (⟨#[]⟩ : ByteArray), .int .i64 0, .int .i64 0]) (t := 59) ?hr ?_; (case hd => rfl); (case hg => rfl); (case hr => first | (go_simp; done) | (go_simp; rfl)); intro gb107 hg w4 hbox hb; have n0_ := Aside0.mk (below_step (by repeat (first | (with_reducible first | exact HB.out | apply below_alloc | apply pw_below_drewN | apply below_drew1) | exact HB.out)) hb); have n1_ := Aside0.mk (hbox); have n2_ := Aside0.mk ((by rw [hg]; exact (below_size (by repeat (first | (with_reducible first | exact HB.out | apply below_alloc | apply pw_below_drewN | apply below_drew1) | exact HB.out))) : w.heap.size ≤ gb107)); have n3_ := Aside0.mk ((by rw [hg]; exact (below_size (by repeat (first | (with_reducible first | exact HB.out | apply below_alloc | apply pw_below_drewN | apply below_drew1) | exact HB.out))) : w.heap.size ≤ gb107)); clear HB; have HB := n0_; have BK107 := n1_; have GW107 := n2_; have GE107 := n3_; clear n0_ n1_ n2_ n3_; clear hb hbox hg) | ((with_reducible refine gate_callee (f := 59) rfl ?_); refine goesL_ (some 8) rfl rfl Try.func59 (by kernel_rfl) rfl #[.slice A0 l0.length c0, .string a1, .func (.func 60) #[] #[]] rfl (by (try simp only [List.map_toArray, List.map_cons, List.map_nil]); first | done | rfl | (simp only [List.length_drop, List.length_take]; rfl)) ?_; (with_reducible refine (api_TaxCode__tax_code_1.calls k _ _ l0 a1  t108 t109 t110 t111 t112 _ ?side1 ?side2 A3.out).mono ?_); (case side1 => repeat (first | exact (Kd.C_below HR0.out HB.out) | (with_reducible refine Kd.C_alloc ?_ _) | (with_reducible refine Kd.C_drewN ?_ _) | (with_reducible refine Kd.C_drew ?_))); (case side2 => exact HC0.out); rintro e w5 ⟨rfl, hb⟩; refine ⟨_, rfl, ?_⟩; have n0_ := Aside0.mk (blk_below (g := gb107) (o := .cells #[.string (⟨#[]⟩ : ByteArray), .string (⟨#[]⟩ : ByteArray), .int .i64 0, .int .i64 0] 59 (0, 0)) (by (with_reducible repeat (first | refine blk_drewN ?_ _ | refine blk_drew ?_ | refine blk_alloc ?_ _)); exact BK107.out) hb); have n1_ := Aside0.mk (below_step (by repeat (first | (with_reducible first | exact HB.out | apply below_alloc | apply pw_below_drewN | apply below_drew1 | refine below_set ?_ GE107.out) | exact HB.out)) hb); clear BK107; clear HB; have BK107 := n0_; have HB := n1_; clear n0_ n1_; (try clear hb); (try clear hb2); (try clear hk); (try clear hi); have hcz6_0 : w5.cell? ⟨gb107, 0, none⟩ = some (.string (⟨#[]⟩ : ByteArray)) := (blk_cell BK107.out 0).trans rfl; have hcz6_1 : w5.cell? ⟨gb107, 1, none⟩ = some (.string (⟨#[]⟩ : ByteArray)) := (blk_cell BK107.out 1).trans rfl; have hcz6_2 : w5.cell? ⟨gb107, 2, none⟩ = some (.int .i64 0) := (blk_cell BK107.out 2).trans rfl; have hcz6_3 : w5.cell? ⟨gb107, 3, none⟩ = some (.int .i64 0) := (blk_cell BK107.out 3).trans rfl; have hfz6_0 := blk_frozen BK107.out 0; have hfz6_1 := blk_frozen BK107.out 1; have hfz6_2 := blk_frozen BK107.out 2; have hfz6_3 := blk_frozen BK107.out 3))
 refine bodyPost_ret (results_ct rfl _ _ gb107 59 #[.string t108, .string t109, .int .i64 t110, .int .i64 t111] (0, 0) _ rfl (by (with_reducible repeat (first | refine blk_drewN ?_ _ | refine blk_drew ?_ | refine blk_alloc ?_ _)); refine blk_put (cs := #[.string t108, .string t109, .int .i64 t110, .int .i64 0]) ?_ 3 _ rfl; (with_reducible repeat (first | refine blk_drewN ?_ _ | refine blk_drew ?_ | refine blk_alloc ?_ _)); refine blk_put (cs := #[.string t108, .string t109, .int .i64 0, .int .i64 0]) ?_ 2 _ rfl; (with_reducible repeat (first | refine blk_drewN ?_ _ | refine blk_drew ?_ | refine blk_alloc ?_ _)); refine blk_put (cs := #[.string t108, .string (⟨#[]⟩ : ByteArray), .int .i64 0, .int .i64 0]) ?_ 1 _ rfl; (with_reducible repeat (first | refine blk_drewN ?_ _ | refine blk_drew ?_ | refine blk_alloc ?_ _)); refine blk_put (cs := #[.string (⟨#[]⟩ : ByteArray), .string (⟨#[]⟩ : ByteArray), .int .i64 0, .int .i64 0]) ?_ 0 _ rfl; (with_reducible repeat (first | refine blk_drewN ?_ _ | refine blk_drew ?_ | refine blk_alloc ?_ _)); exact BK107.out) Try.underlying59 rfl (by kernel_rfl)) rfl ?_
 exact ⟨by first | rfl | (simp [errW_none, errW_some] <;> rfl) | (simp [*, errW_none, errW_some] <;> rfl), by repeat (first | (with_reducible first | exact HB.out | apply below_alloc | apply pw_below_drewN | apply below_drew1 | refine below_set ?_ GE107.out) | exact HB.out)⟩
end Go.Proofs.Ytgjpegmhlnabpaa.M
end
section
-- Written by mprint.py (a program of this session) over the kit's print.
namespace Go.Proofs.Ytgjpegmhlnabpaa.M
open Go.RowKit Go.Proofs.YtgjpegmhlnabpaaW.PrintWords Go.Proofs.YtgjpegmhlnabpaaW.PrintLast Go.Proofs.YtgjpegmhlnabpaaW.PrintMore
attribute [local go_sem] max2_int min2_int max_two min_two max_three min_three max_four min_four   -- for this text's walks alone
set_option linter.unusedVariables false
set_option linter.unusedSimpArgs false
/-! ### tax_ask: function 31 -/
mutual
def tax_ask.j0 : Nat → List (S49) → List (S59) → Bool → Option (Int)
  | 0, _, _, _ => none
  | k + 1, x0, x1, x13 => if x13 = true then (some 10) else ((tax_Codes.f k x1).bind fun t101 => (if t101 = true then (if (x0.length : Int) > 200 then (some 9) else (tax_ask.l0 k x1 x0 (x0.length : Int) 0)) else (some 2)))
def tax_ask.l0 : Nat → List (S59) → List (S49) → Int → Int → Option (Int)
  | 0, _, _, _, _ => none
  | k + 1, x1, x36, x37, x38 => if x38 < x37 then (if 0 ≤ x38 then (if x38 < (x36.length : Int) then ((tax_far.f ((rd_T49 x36 x38).f0) 1000000000000).bind fun t104 => (if t104 = true then (some 4) else ((tax_code.f k x1 ((rd_T49 x36 x38).f1)).bind fun bt105 => (if bt105.2.2.2.2 = true then (tax_ask.l0 k x1 x36 x37 (wrap64 (x38 + 1))) else (if ((rd_T49 x36 x38).f1).toList = ([] : List UInt8) then (tax_ask.l0 k x1 x36 x37 (wrap64 (x38 + 1))) else (some 28)))))) else (none)) else (none)) else (some 0)
end
def tax_ask.f (k : Nat) (l0 : List (S49)) (l1 : List (S59)) (a2 : Int) (a3 : Int) : Option (Int) := if a2 < 1 then (tax_ask.j0 k l0 l1 true) else (if a2 > 3 then (tax_ask.j0 k l0 l1 true) else (if a3 < 1 then (tax_ask.j0 k l0 l1 true) else (tax_ask.j0 k l0 l1 (decide (a3 > 5)))))
theorem tax_ask.mono_l : ∀ k, (∀ y0 y1 y2, LeO (tax_ask.j0 k y0 y1 y2) (tax_ask.j0 (k + 1) y0 y1 y2)) ∧ (∀ y0 y1 y2 y3, LeO (tax_ask.l0 k y0 y1 y2 y3) (tax_ask.l0 (k + 1) y0 y1 y2 y3))
  | 0 => ⟨fun _ _ _ r h => by simp [tax_ask.j0] at h, fun _ _ _ _ r h => by simp [tax_ask.l0] at h⟩
  | k + 1 => by
    obtain ⟨ih0, ih1⟩ := tax_ask.mono_l k
    refine ⟨?_, ?_⟩
    · intro y0 y1 y2
      unfold tax_ask.j0
      repeat' first
      | (with_reducible exact ih0 _ _ _)
      | (with_reducible exact ih1 _ _ _ _)
      | (with_reducible exact tax_Codes.mono _ _)
      | (with_reducible exact tax_code.mono _ _ _)
      | (with_reducible exact LeO.refl _)
      | (with_reducible exact LeO.none _)
      | (with_reducible refine LeO.ite ?_ ?_)
      | (with_reducible refine LeO.bind ?_ (fun _ => ?_))
      | exact ih0 _ _ _
      | exact ih1 _ _ _ _
      | exact tax_Codes.mono _ _
      | exact tax_code.mono _ _ _
      | exact LeO.none _
      | refine LeO.ite ?_ ?_
      | refine LeO.bind ?_ (fun _ => ?_)
    · intro y0 y1 y2 y3
      unfold tax_ask.l0
      repeat' first
      | (with_reducible exact ih0 _ _ _)
      | (with_reducible exact ih1 _ _ _ _)
      | (with_reducible exact tax_Codes.mono _ _)
      | (with_reducible exact tax_code.mono _ _ _)
      | (with_reducible exact LeO.refl _)
      | (with_reducible exact LeO.none _)
      | (with_reducible refine LeO.ite ?_ ?_)
      | (with_reducible refine LeO.bind ?_ (fun _ => ?_))
      | exact ih0 _ _ _
      | exact ih1 _ _ _ _
      | exact tax_Codes.mono _ _
      | exact tax_code.mono _ _ _
      | exact LeO.none _
      | refine LeO.ite ?_ ?_
      | refine LeO.bind ?_ (fun _ => ?_)
theorem tax_ask.mono : ∀ a0 a1 a2 a3 k, LeO (tax_ask.f k a0 a1 a2 a3) (tax_ask.f (k + 1) a0 a1 a2 a3) := by
 intro a0 a1 a2 a3 k
 obtain ⟨ih0, ih1⟩ := tax_ask.mono_l k
 unfold tax_ask.f
 repeat' first
   | (with_reducible exact ih0 _ _ _)
   | (with_reducible exact ih1 _ _ _ _)
   | (with_reducible exact tax_Codes.mono _ _)
   | (with_reducible exact tax_code.mono _ _ _)
   | (with_reducible exact LeO.refl _)
   | (with_reducible exact LeO.none _)
   | (with_reducible refine LeO.ite ?_ ?_)
   | (with_reducible refine LeO.bind ?_ (fun _ => ?_))
   | exact ih0 _ _ _
   | exact ih1 _ _ _ _
   | exact tax_Codes.mono _ _
   | exact tax_code.mono _ _ _
   | exact LeO.none _
   | refine LeO.ite ?_ ?_
   | refine LeO.bind ?_ (fun _ => ?_)
set_option maxHeartbeats 8000000 in
set_option maxRecDepth 100000 in
theorem tax_ask.calls (k : Nat) (A0 : Option Addr) (c0 : Nat) (l0 : List (S49)) (A1 : Option Addr) (c1 : Nat) (l1 : List (S59)) (a2 : Int) (a3 : Int) (r : Int) (w : World) (hr0 : Kd.C k49 w A0 l0.length l0) (hc0 : l0.length ≤ c0) (hr1 : Kd.C k59 w A1 l1.length l1) (hc1 : l1.length ≤ c1) (h : tax_ask.f k l0 l1 a2 a3 = some r) :
    Calls Try.prog 31 #[.slice A0 l0.length c0, .slice A1 l1.length c1, .int .i64 a2, .int .i64 a3] w fun e w' => e = .returned (.int .i64 r) ∧ Below w.heap.size w w' := by
 have hu49 := Try.underlying49
 have hu3 := Try.underlying3
 have hu9 := Try.underlying9
 have hu59 := Try.underlying59
 have HR0 := Aside0.mk hr0
 have HC0 := Aside0.mk hc0
 clear hr0 hc0
 have HR1 := Aside0.mk hr1
 have HC1 := Aside0.mk hc1
 clear hr1 hc1
 have HB := Aside0.mk (Below.refl w.heap.size w)
 have H : (if a2 < 1 then (tax_ask.j0 k l0 l1 true) else (if a2 > 3 then (tax_ask.j0 k l0 l1 true) else (if a3 < 1 then (tax_ask.j0 k l0 l1 true) else (tax_ask.j0 k l0 l1 (decide (a3 > 5)))))) = some r := h
 clear h
 have HC5 := Aside0.mk H
 clear H
 go_enter Try.func31, Try.ntmps31
 go_upto_region 1 with (fail)
 go_cut [13] (fun v13 wc => ∃ (kq : Nat) (x13_4 : Bool), v13 = .bool x13_4 ∧ Aside0 (tax_ask.j0 kq l0 l1 x13_4 = some r) ∧ Aside0 (kq ≤ k) ∧ Aside0 (Below w.heap.size w wc))
 case first =>
  have H := HC5.out
  clear HC5
  by_cases c6 : a2 < 1
  ·rw [if_pos c6] at H
   have c6b0 : decide (a2 < 1) = true := decide_eq_true c6
   clear c6
   (first | rw [c6b0] | (simp only [i64_w, i32_w]; rw [c6b0]) | skip)
   have H' := Aside0.mk H
   clear H
   go_wp2
   go_meet
   case rel => exact ⟨_, (true), (by first | rfl | (simp; done) | (simp [*]; done)), H', ⟨by first | omega | exact Nat.le_refl _⟩, ⟨by repeat (first | (with_reducible first | exact HB.out | apply below_alloc | apply pw_below_drewN | apply below_drew1) | exact HB.out)⟩⟩
  ·rw [if_neg c6] at H
   have c6b0 : decide (a2 < 1) = false := decide_eq_false c6
   clear c6
   (first | rw [c6b0] | (simp only [i64_w, i32_w]; rw [c6b0]) | skip)
   by_cases c7 : a2 > 3
   ·rw [if_pos c7] at H
    have c7b0 : decide (3 < a2) = true := decide_eq_true c7
    clear c7
    have H' := Aside0.mk H
    clear H
    go_wp2
    go_meet
    case rel => exact ⟨_, (true), (by first | rfl | (simp; done) | (simp [*]; done)), H', ⟨by first | omega | exact Nat.le_refl _⟩, ⟨by repeat (first | (with_reducible first | exact HB.out | apply below_alloc | apply pw_below_drewN | apply below_drew1) | exact HB.out)⟩⟩
   ·rw [if_neg c7] at H
    have c7b0 : decide (3 < a2) = false := decide_eq_false c7
    clear c7
    by_cases c8 : a3 < 1
    ·rw [if_pos c8] at H
     have c8b0 : decide (a3 < 1) = true := decide_eq_true c8
     clear c8
     have H' := Aside0.mk H
     clear H
     go_wp2
     go_meet
     case rel => exact ⟨_, (true), (by first | rfl | (simp; done) | (simp [*]; done)), H', ⟨by first | omega | exact Nat.le_refl _⟩, ⟨by repeat (first | (with_reducible first | exact HB.out | apply below_alloc | apply pw_below_drewN | apply below_drew1) | exact HB.out)⟩⟩
    ·rw [if_neg c8] at H
     have c8b0 : decide (a3 < 1) = false := decide_eq_false c8
     clear c8
     have H' := Aside0.mk H
     clear H
     go_wp2
     go_meet
     case rel => exact ⟨_, (decide (a3 > 5)), (by first | rfl | (simp; done) | (simp [*]; done)), H', ⟨by first | omega | exact Nat.le_refl _⟩, ⟨by repeat (first | (with_reducible first | exact HB.out | apply below_alloc | apply pw_below_drewN | apply below_drew1) | exact HB.out)⟩⟩
 case rest =>
  clear HC5
  try clear c1
  try clear p2
  try clear c3
  try clear c6
  try clear c6b0
  try clear c7
  try clear c7b0
  try clear c8
  try clear c8b0
  obtain ⟨kq, x13_4, rfl, HA, HJ4, HB⟩ := hcut
  cases kq with
  | zero => exact absurd HA.out (by simp [tax_ask.j0])
  | succ kj4 =>
   have H := HA.out
   clear HA
   simp only [tax_ask.j0] at H
   by_cases c9 : x13_4 = true
   ·subst c9
    have H1 : (some 10) = some r := by rw [if_pos rfl] at H; exact H
    clear H
    have H := H1
    clear H1
    obtain rfl := Option.some.inj H
    go_wp2
    go_ret
    exact ⟨by first | rfl | (simp [errW_none, errW_some] <;> rfl) | (simp [*, errW_none, errW_some] <;> rfl), by repeat (first | (with_reducible first | exact HB.out | apply below_alloc | apply pw_below_drewN | apply below_drew1) | exact HB.out)⟩
   ·replace c9 := Bool.eq_false_iff.mpr c9
    subst c9
    have H1 : ((tax_Codes.f kj4 l1).bind fun t101 => (if t101 = true then (if (l0.length : Int) > 200 then (some 9) else (tax_ask.l0 kj4 l1 l0 (l0.length : Int) 0)) else (some 2))) = some r := by rw [if_neg (show ¬ (false = true) by decide)] at H; exact H
    clear H
    have H := H1
    clear H1
    replace H := Option.bind_eq_some_iff.mp H
    obtain ⟨t101, A100, H⟩ := H
    replace H : (if t101 = true then (if (l0.length : Int) > 200 then (some 9) else (tax_ask.l0 kj4 l1 l0 (l0.length : Int) 0)) else (some 2)) = some r := H
    have A10 := Aside0.mk A100
    clear A100
    by_cases c11 : t101 = true
    ·subst c11
     have H1 : (if (l0.length : Int) > 200 then (some 9) else (tax_ask.l0 kj4 l1 l0 (l0.length : Int) 0)) = some r := by rw [if_pos rfl] at H; exact H
     clear H
     have H := H1
     clear H1
     by_cases c12 : (l0.length : Int) > 200
     ·rw [if_pos c12] at H
      have c12b0 : decide (200 < (l0.length : Int)) = true := decide_eq_true c12
      have c12b1 : decide (200 < l0.length) = true := decide_eq_true (by omega)
      clear c12
      obtain rfl := Option.some.inj H
      go_wp2_with (first | ((with_reducible refine gate_callee (f := 15) rfl ?_); refine goesL_ (some 30) rfl rfl Try.func15 (by kernel_rfl) rfl #[.slice A1 l1.length c1] rfl (by (try simp only [List.map_toArray, List.map_cons, List.map_nil]); first | done | rfl | (simp only [List.length_drop, List.length_take]; rfl)) ?_; (with_reducible refine (tax_Codes.calls kj4 _ _ l1 true _ ?side1 ?side2 A10.out).mono ?_); (case side1 => repeat (first | exact (Kd.C_below HR1.out HB.out) | (with_reducible refine Kd.C_alloc ?_ _) | (with_reducible refine Kd.C_drewN ?_ _) | (with_reducible refine Kd.C_drew ?_))); (case side2 => exact HC1.out); rintro e w13 ⟨rfl, hb⟩; refine ⟨_, rfl, ?_⟩; have n0_ := Aside0.mk (below_step (by repeat (first | (with_reducible first | exact HB.out | apply below_alloc | apply pw_below_drewN | apply below_drew1) | exact HB.out)) hb); clear HB; have HB := n0_; clear n0_; (try clear hb); (try clear hb2); (try clear hk); (try clear hi)))
      go_ret
      exact ⟨by first | rfl | (simp [errW_none, errW_some] <;> rfl) | (simp [*, errW_none, errW_some] <;> rfl), by repeat (first | (with_reducible first | exact HB.out | apply below_alloc | apply pw_below_drewN | apply below_drew1) | exact HB.out)⟩
     ·rw [if_neg c12] at H
      have c12b0 : decide (200 < (l0.length : Int)) = false := decide_eq_false c12
      have c12b1 : decide (200 < l0.length) = false := decide_eq_false (by omega)
      clear c12
      have H' := Aside0.mk H
      clear H
      go_wp2_with (first | ((with_reducible refine gate_callee (f := 15) rfl ?_); refine goesL_ (some 30) rfl rfl Try.func15 (by kernel_rfl) rfl #[.slice A1 l1.length c1] rfl (by (try simp only [List.map_toArray, List.map_cons, List.map_nil]); first | done | rfl | (simp only [List.length_drop, List.length_take]; rfl)) ?_; (with_reducible refine (tax_Codes.calls kj4 _ _ l1 true _ ?side1 ?side2 A10.out).mono ?_); (case side1 => repeat (first | exact (Kd.C_below HR1.out HB.out) | (with_reducible refine Kd.C_alloc ?_ _) | (with_reducible refine Kd.C_drewN ?_ _) | (with_reducible refine Kd.C_drew ?_))); (case side2 => exact HC1.out); rintro e w14 ⟨rfl, hb⟩; refine ⟨_, rfl, ?_⟩; have n0_ := Aside0.mk (below_step (by repeat (first | (with_reducible first | exact HB.out | apply below_alloc | apply pw_below_drewN | apply below_drew1) | exact HB.out)) hb); clear HB; have HB := n0_; clear n0_; (try clear hb); (try clear hb2); (try clear hk); (try clear hi)))
      (try simp only [Act.put, List.setIfInBounds_toArray, List.set_cons_zero, List.set_cons_succ])
      go_loopg [38] kj4 (fun kq v38 w' => ∃ (x38_2 : Int), v38 = .int .i64 x38_2 ∧ Aside0 (tax_ask.l0 kq l1 l0 (l0.length : Int) x38_2 = some r) ∧ Aside0 (kq ≤ kj4) ∧ Aside0 (Below w.heap.size w w'))
      case atStart => exact ⟨(0), (by first | rfl | (simp; done) | (simp [*]; done)), H', ⟨Nat.le_refl _⟩, ⟨by repeat (first | (with_reducible first | exact HB.out | apply below_alloc | apply pw_below_drewN | apply below_drew1) | exact HB.out)⟩⟩
      case round =>
       clear H'
       try clear c1
       try clear p2
       try clear c3
       try clear c6
       try clear c6b0
       try clear c7
       try clear c7b0
       try clear c8
       try clear c8b0
       try clear c9
       try clear c11
       try clear c12
       try clear c12b0
       try clear c12b1
       try clear p2
       obtain ⟨x38_2, rfl, HA, HK2, HB⟩ := hrel
       cases gk with
       | zero => exact absurd HA.out (by simp [tax_ask.l0])
       | succ k2 =>
        have H := HA.out
        clear HA
        simp only [tax_ask.l0] at H
        by_cases c15 : x38_2 < (l0.length : Int)
        ·rw [if_pos c15] at H
         have c15b0 : decide (x38_2 < (l0.length : Int)) = true := decide_eq_true c15
         clear c15
         by_cases c16 : 0 ≤ x38_2
         ·rw [if_pos c16] at H
          have c16b0 : decide (0 ≤ x38_2) = true := decide_eq_true c16
          clear c16
          by_cases c17 : x38_2 < (l0.length : Int)
          ·rw [if_pos c17] at H
           have c17b0 : decide (x38_2 < (l0.length : Int)) = true := decide_eq_true c17
           clear c17
           replace H := Option.bind_eq_some_iff.mp H
           obtain ⟨t104, A180, H⟩ := H
           replace H : (if t104 = true then (some 4) else ((tax_code.f k2 l1 ((rd_T49 l0 x38_2).f1)).bind fun bt105 => (if bt105.2.2.2.2 = true then (tax_ask.l0 k2 l1 l0 (l0.length : Int) (wrap64 (x38_2 + 1))) else (if ((rd_T49 l0 x38_2).f1).toList = ([] : List UInt8) then (tax_ask.l0 k2 l1 l0 (l0.length : Int) (wrap64 (x38_2 + 1))) else (some 28))))) = some r := H
           have A18 := Aside0.mk A180
           clear A180
           by_cases c19 : t104 = true
           ·subst c19
            have H1 : (some 4) = some r := by rw [if_pos rfl] at H; exact H
            clear H
            have H := H1
            clear H1
            obtain rfl := Option.some.inj H
            have p102 : 0 ≤ (x38_2 : Int) := of_decide_eq_true (by first | (with_reducible assumption) | assumption)
            have q102 : x38_2 < (l0.length : Int) := of_decide_eq_true (by first | (with_reducible assumption) | assumption)
            obtain ⟨ad102, e102, hx102_0, hx102_1⟩ := at_T49 HR0.out x38_2 p102 q102
            cases e102
            replace hx102_0 := (HB.out.cell (World.block_lt_of_cell? w _ hx102_0)).trans hx102_0
            replace hx102_1 := (HB.out.cell (World.block_lt_of_cell? w _ hx102_1)).trans hx102_1
            replace p102 := eq_true p102
            replace q102 := eq_true q102
            go_wp2_with (first | ((with_reducible refine gate_dst (N := 10) rfl ?_); refine box_event ?hg (N := 10) ?hd (cs := #[.int .i64 0, .string (⟨#[]⟩ : ByteArray)]) (t := 49) ?hr ?_; (case hd => rfl); (case hg => rfl); (case hr => first | (go_simp; done) | (go_simp; rfl)); intro gb103 hg w20 hbox hb; have n0_ := Aside0.mk (below_step (by repeat (first | (with_reducible first | exact HB.out | apply below_alloc | apply pw_below_drewN | apply below_drew1) | exact HB.out)) hb); have n1_ := Aside0.mk (hbox); have n2_ := Aside0.mk ((by rw [hg]; exact (below_size (by repeat (first | (with_reducible first | exact HB.out | apply below_alloc | apply pw_below_drewN | apply below_drew1) | exact HB.out))) : w.heap.size ≤ gb103)); have n3_ := Aside0.mk ((by rw [hg]; exact (below_size (by repeat (first | (with_reducible first | exact HB.out | apply below_alloc | apply pw_below_drewN | apply below_drew1) | exact HB.out))) : w.heap.size ≤ gb103)); clear HB; have HB := n0_; have BK103 := n1_; have GW103 := n2_; have GE103 := n3_; clear n0_ n1_ n2_ n3_; clear hb hbox hg; have hcz21_0 : w20.cell? ⟨gb103, 0, none⟩ = some (.int .i64 0) := (blk_cell BK103.out 0).trans rfl; have hcz21_1 : w20.cell? ⟨gb103, 1, none⟩ = some (.string (⟨#[]⟩ : ByteArray)) := (blk_cell BK103.out 1).trans rfl; have hfz21_0 := blk_frozen BK103.out 0; have hfz21_1 := blk_frozen BK103.out 1) | ((with_reducible refine gate_callee (f := 37) rfl ?_); refine goesL_ (some 44) rfl rfl Try.func37 (by kernel_rfl) rfl #[.int .i64 ((rd_T49 l0 x38_2).f0), .int .i64 1000000000000] rfl (by (try simp only [List.map_toArray, List.map_cons, List.map_nil]); first | done | rfl | (simp only [List.length_drop, List.length_take]; rfl)) ?_; (with_reducible refine (tax_far.calls ((rd_T49 l0 x38_2).f0) 1000000000000 true _ A18.out).mono ?_); rintro e w' ⟨rfl, ⟨nd, rfl⟩⟩; refine ⟨_, rfl, ?_⟩))
            go_ret
            exact ⟨by first | rfl | (simp [errW_none, errW_some] <;> rfl) | (simp [*, errW_none, errW_some] <;> rfl), by repeat (first | (with_reducible first | exact HB.out | apply below_alloc | apply pw_below_drewN | apply below_drew1 | refine below_set ?_ GE103.out) | exact HB.out)⟩
           ·replace c19 := Bool.eq_false_iff.mpr c19
            subst c19
            have H1 : ((tax_code.f k2 l1 ((rd_T49 l0 x38_2).f1)).bind fun bt105 => (if bt105.2.2.2.2 = true then (tax_ask.l0 k2 l1 l0 (l0.length : Int) (wrap64 (x38_2 + 1))) else (if ((rd_T49 l0 x38_2).f1).toList = ([] : List UInt8) then (tax_ask.l0 k2 l1 l0 (l0.length : Int) (wrap64 (x38_2 + 1))) else (some 28)))) = some r := by rw [if_neg (show ¬ (false = true) by decide)] at H; exact H
            clear H
            have H := H1
            clear H1
            replace H := Option.bind_eq_some_iff.mp H
            obtain ⟨⟨t105, t106, t107, t108, t109⟩, A220, H⟩ := H
            replace H : (if t109 = true then (tax_ask.l0 k2 l1 l0 (l0.length : Int) (wrap64 (x38_2 + 1))) else (if ((rd_T49 l0 x38_2).f1).toList = ([] : List UInt8) then (tax_ask.l0 k2 l1 l0 (l0.length : Int) (wrap64 (x38_2 + 1))) else (some 28))) = some r := H
            have A22 := Aside0.mk A220
            clear A220
            by_cases c23 : t109 = true
            ·subst c23
             have H1 : (tax_ask.l0 k2 l1 l0 (l0.length : Int) (wrap64 (x38_2 + 1))) = some r := by rw [if_pos rfl] at H; exact H
             clear H
             have H := H1
             clear H1
             have H' := Aside0.mk H
             clear H
             have p102 : 0 ≤ (x38_2 : Int) := of_decide_eq_true (by first | (with_reducible assumption) | assumption)
             have q102 : x38_2 < (l0.length : Int) := of_decide_eq_true (by first | (with_reducible assumption) | assumption)
             obtain ⟨ad102, e102, hx102_0, hx102_1⟩ := at_T49 HR0.out x38_2 p102 q102
             cases e102
             replace hx102_0 := (HB.out.cell (World.block_lt_of_cell? w _ hx102_0)).trans hx102_0
             replace hx102_1 := (HB.out.cell (World.block_lt_of_cell? w _ hx102_1)).trans hx102_1
             replace p102 := eq_true p102
             replace q102 := eq_true q102
             go_wp2_with (first | ((with_reducible refine gate_dst (N := 10) rfl ?_); refine box_event ?hg (N := 10) ?hd (cs := #[.int .i64 0, .string (⟨#[]⟩ : ByteArray)]) (t := 49) ?hr ?_; (case hd => rfl); (case hg => rfl); (case hr => first | (go_simp; done) | (go_simp; rfl)); intro gb103 hg w24 hbox hb; have n0_ := Aside0.mk (below_step (by repeat (first | (with_reducible first | exact HB.out | apply below_alloc | apply pw_below_drewN | apply below_drew1) | exact HB.out)) hb); have n1_ := Aside0.mk (hbox); have n2_ := Aside0.mk ((by rw [hg]; exact (below_size (by repeat (first | (with_reducible first | exact HB.out | apply below_alloc | apply pw_below_drewN | apply below_drew1) | exact HB.out))) : w.heap.size ≤ gb103)); have n3_ := Aside0.mk ((by rw [hg]; exact (below_size (by repeat (first | (with_reducible first | exact HB.out | apply below_alloc | apply pw_below_drewN | apply below_drew1) | exact HB.out))) : w.heap.size ≤ gb103)); clear HB; have HB := n0_; have BK103 := n1_; have GW103 := n2_; have GE103 := n3_; clear n0_ n1_ n2_ n3_; clear hb hbox hg; have hcz25_0 : w24.cell? ⟨gb103, 0, none⟩ = some (.int .i64 0) := (blk_cell BK103.out 0).trans rfl; have hcz25_1 : w24.cell? ⟨gb103, 1, none⟩ = some (.string (⟨#[]⟩ : ByteArray)) := (blk_cell BK103.out 1).trans rfl; have hfz25_0 := blk_frozen BK103.out 0; have hfz25_1 := blk_frozen BK103.out 1) | ((with_reducible refine gate_callee (f := 37) rfl ?_); refine goesL_ (some 44) rfl rfl Try.func37 (by kernel_rfl) rfl #[.int .i64 ((rd_T49 l0 x38_2).f0), .int .i64 1000000000000] rfl (by (try simp only [List.map_toArray, List.map_cons, List.map_nil]); first | done | rfl | (simp only [List.length_drop, List.length_take]; rfl)) ?_; (with_reducible refine (tax_far.calls ((rd_T49 l0 x38_2).f0) 1000000000000 false _ A18.out).mono ?_); rintro e w' ⟨rfl, ⟨nd, rfl⟩⟩; refine ⟨_, rfl, ?_⟩) | ((with_reducible refine gate_callee (f := 33) rfl ?_); refine goesL_ (some 49) rfl rfl Try.func33 (by kernel_rfl) rfl #[.slice A1 l1.length c1, .string ((rd_T49 l0 x38_2).f1)] rfl (by (try simp only [List.map_toArray, List.map_cons, List.map_nil]); first | done | rfl | (simp only [List.length_drop, List.length_take]; rfl)) ?_; (with_reducible refine (tax_code.calls k2 _ _ l1 ((rd_T49 l0 x38_2).f1) t105 t106 t107 t108 true _ ?side1 ?side2 A22.out).mono ?_); (case side1 => exact Kd.C_below HR1.out (by repeat (first | (with_reducible first | exact HB.out | apply below_alloc | apply pw_below_drewN | apply below_drew1 | refine below_set ?_ GE103.out) | exact HB.out))); (case side2 => exact HC1.out); rintro e w26 ⟨rfl, hb⟩; refine ⟨_, rfl, ?_⟩; have n0_ := Aside0.mk (blk_below (g := gb103) (o := .cells #[.int .i64 ((rd_T49 l0 x38_2).f0), .string ((rd_T49 l0 x38_2).f1)] 49 (0, 0)) (by (with_reducible repeat (first | refine blk_drewN ?_ _ | refine blk_drew ?_ | refine blk_alloc ?_ _)); refine blk_put (cs := #[.int .i64 ((rd_T49 l0 x38_2).f0), .string (⟨#[]⟩ : ByteArray)]) ?_ 1 _ rfl; (with_reducible repeat (first | refine blk_drewN ?_ _ | refine blk_drew ?_ | refine blk_alloc ?_ _)); refine blk_put (cs := #[.int .i64 0, .string (⟨#[]⟩ : ByteArray)]) ?_ 0 _ rfl; (with_reducible repeat (first | refine blk_drewN ?_ _ | refine blk_drew ?_ | refine blk_alloc ?_ _)); exact BK103.out) hb); have n1_ := Aside0.mk (below_step (by repeat (first | (with_reducible first | exact HB.out | apply below_alloc | apply pw_below_drewN | apply below_drew1 | refine below_set ?_ GE103.out) | exact HB.out)) hb); clear BK103; clear HB; have BK103 := n0_; have HB := n1_; clear n0_ n1_; (try clear hb); (try clear hb2); (try clear hk); (try clear hi)) | ((with_reducible refine gate_dst (N := 11) rfl ?_); refine box_event ?hg (N := 11) ?hd (cs := #[.string (⟨#[]⟩ : ByteArray), .string (⟨#[]⟩ : ByteArray), .int .i64 0, .int .i64 0]) (t := 59) ?hr ?_; (case hd => rfl); (case hg => rfl); (case hr => first | (go_simp; done) | (go_simp; rfl)); intro gb110 hg w27 hbox hb; have n0_ := Aside0.mk (blk_below (g := gb103) (o := .cells #[.int .i64 ((rd_T49 l0 x38_2).f0), .string ((rd_T49 l0 x38_2).f1)] 49 (0, 0)) (by (with_reducible repeat (first | refine blk_drewN ?_ _ | refine blk_drew ?_ | refine blk_alloc ?_ _)); exact BK103.out) hb); have n1_ := Aside0.mk (below_step (by repeat (first | (with_reducible first | exact HB.out | apply below_alloc | apply pw_below_drewN | apply below_drew1 | refine below_set ?_ GE103.out) | exact HB.out)) hb); have n2_ := Aside0.mk (hbox); have n3_ := Aside0.mk ((by rw [hg]; exact (below_size (by repeat (first | (with_reducible first | exact HB.out | apply below_alloc | apply pw_below_drewN | apply below_drew1 | refine below_set ?_ GE103.out) | exact HB.out))) : w.heap.size ≤ gb110)); have n4_ := Aside0.mk ((by rw [hg]; exact (below_size (by repeat (first | (with_reducible first | exact HB.out | apply below_alloc | apply pw_below_drewN | apply below_drew1 | refine below_set ?_ GE103.out) | exact HB.out))) : w.heap.size ≤ gb110)); have n5_ := Aside0.mk ((by rw [hg]; exact Nat.ne_of_lt (blk_lt (g := gb103) (o := .cells #[.int .i64 ((rd_T49 l0 x38_2).f0), .string ((rd_T49 l0 x38_2).f1)] 49 (0, 0)) (by (with_reducible repeat (first | refine blk_drewN ?_ _ | refine blk_drew ?_ | refine blk_alloc ?_ _)); exact BK103.out)) : gb103 ≠ gb110)); have n6_ := Aside0.mk ((by rw [hg]; exact Nat.ne_of_gt (blk_lt (g := gb103) (o := .cells #[.int .i64 ((rd_T49 l0 x38_2).f0), .string ((rd_T49 l0 x38_2).f1)] 49 (0, 0)) (by (with_reducible repeat (first | refine blk_drewN ?_ _ | refine blk_drew ?_ | refine blk_alloc ?_ _)); exact BK103.out)) : gb110 ≠ gb103)); clear BK103; clear HB; have BK103 := n0_; have HB := n1_; have BK110 := n2_; have GW110 := n3_; have GE110 := n4_; have NB103_110 := n5_; have NB110_103 := n6_; clear n0_ n1_ n2_ n3_ n4_ n5_ n6_; clear hb hbox hg; have hnb28 := NB110_103.out; have hnc28 := NB103_110.out; have hcz29_0 : w27.cell? ⟨gb110, 0, none⟩ = some (.string (⟨#[]⟩ : ByteArray)) := (blk_cell BK110.out 0).trans rfl; have hcz29_1 : w27.cell? ⟨gb110, 1, none⟩ = some (.string (⟨#[]⟩ : ByteArray)) := (blk_cell BK110.out 1).trans rfl; have hcz29_2 : w27.cell? ⟨gb110, 2, none⟩ = some (.int .i64 0) := (blk_cell BK110.out 2).trans rfl; have hcz29_3 : w27.cell? ⟨gb110, 3, none⟩ = some (.int .i64 0) := (blk_cell BK110.out 3).trans rfl; have hfz29_0 := blk_frozen BK110.out 0; have hfz29_1 := blk_frozen BK110.out 1; have hfz29_2 := blk_frozen BK110.out 2; have hfz29_3 := blk_frozen BK110.out 3))
             go_roundg k2
             case measure => have := HJ4.out; have := HK2.out; omega
             case rel => exact ⟨(wrap64 (x38_2 + 1)), (by first | rfl | (simp; done) | (simp [*]; done)), H', ⟨by have := HJ4.out; have := HK2.out; omega⟩, ⟨by repeat (first | (with_reducible first | exact HB.out | apply below_alloc | apply pw_below_drewN | apply below_drew1 | refine below_set ?_ GE103.out | refine below_set ?_ GE110.out) | exact HB.out)⟩⟩
            ·replace c23 := Bool.eq_false_iff.mpr c23
             subst c23
             have H1 : (if ((rd_T49 l0 x38_2).f1).toList = ([] : List UInt8) then (tax_ask.l0 k2 l1 l0 (l0.length : Int) (wrap64 (x38_2 + 1))) else (some 28)) = some r := by rw [if_neg (show ¬ (false = true) by decide)] at H; exact H
             clear H
             have H := H1
             clear H1
             by_cases c30 : ((rd_T49 l0 x38_2).f1).toList = ([] : List UInt8)
             ·rw [if_pos c30] at H
              have c30b0 : (((rd_T49 l0 x38_2).f1).toList == ([] : List UInt8)) = true := beq_iff_eq.mpr c30
              have c30b1 : (((rd_T49 l0 x38_2).f1).toList != ([] : List UInt8)) = false := bne_eq_false_iff_eq.mpr c30
              clear c30
              have H' := Aside0.mk H
              clear H
              have p102 : 0 ≤ (x38_2 : Int) := of_decide_eq_true (by first | (with_reducible assumption) | assumption)
              have q102 : x38_2 < (l0.length : Int) := of_decide_eq_true (by first | (with_reducible assumption) | assumption)
              obtain ⟨ad102, e102, hx102_0, hx102_1⟩ := at_T49 HR0.out x38_2 p102 q102
              cases e102
              replace hx102_0 := (HB.out.cell (World.block_lt_of_cell? w _ hx102_0)).trans hx102_0
              replace hx102_1 := (HB.out.cell (World.block_lt_of_cell? w _ hx102_1)).trans hx102_1
              replace p102 := eq_true p102
              replace q102 := eq_true q102
              go_wp2_with (first | ((with_reducible refine gate_dst (N := 10) rfl ?_); refine box_event ?hg (N := 10) ?hd (cs := #[.int .i64 0, .string (⟨#[]⟩ : ByteArray)]) (t := 49) ?hr ?_; (case hd => rfl); (case hg => rfl); (case hr => first | (go_simp; done) | (go_simp; rfl)); intro gb103 hg w31 hbox hb; have n0_ := Aside0.mk (below_step (by repeat (first | (with_reducible first | exact HB.out | apply below_alloc | apply pw_below_drewN | apply below_drew1) | exact HB.out)) hb); have n1_ := Aside0.mk (hbox); have n2_ := Aside0.mk ((by rw [hg]; exact (below_size (by repeat (first | (with_reducible first | exact HB.out | apply below_alloc | apply pw_below_drewN | apply below_drew1) | exact HB.out))) : w.heap.size ≤ gb103)); have n3_ := Aside0.mk ((by rw [hg]; exact (below_size (by repeat (first | (with_reducible first | exact HB.out | apply below_alloc | apply pw_below_drewN | apply below_drew1) | exact HB.out))) : w.heap.size ≤ gb103)); clear HB; have HB := n0_; have BK103 := n1_; have GW103 := n2_; have GE103 := n3_; clear n0_ n1_ n2_ n3_; clear hb hbox hg; have hcz32_0 : w31.cell? ⟨gb103, 0, none⟩ = some (.int .i64 0) := (blk_cell BK103.out 0).trans rfl; have hcz32_1 : w31.cell? ⟨gb103, 1, none⟩ = some (.string (⟨#[]⟩ : ByteArray)) := (blk_cell BK103.out 1).trans rfl; have hfz32_0 := blk_frozen BK103.out 0; have hfz32_1 := blk_frozen BK103.out 1) | ((with_reducible refine gate_callee (f := 37) rfl ?_); refine goesL_ (some 44) rfl rfl Try.func37 (by kernel_rfl) rfl #[.int .i64 ((rd_T49 l0 x38_2).f0), .int .i64 1000000000000] rfl (by (try simp only [List.map_toArray, List.map_cons, List.map_nil]); first | done | rfl | (simp only [List.length_drop, List.length_take]; rfl)) ?_; (with_reducible refine (tax_far.calls ((rd_T49 l0 x38_2).f0) 1000000000000 false _ A18.out).mono ?_); rintro e w' ⟨rfl, ⟨nd, rfl⟩⟩; refine ⟨_, rfl, ?_⟩) | ((with_reducible refine gate_callee (f := 33) rfl ?_); refine goesL_ (some 49) rfl rfl Try.func33 (by kernel_rfl) rfl #[.slice A1 l1.length c1, .string ((rd_T49 l0 x38_2).f1)] rfl (by (try simp only [List.map_toArray, List.map_cons, List.map_nil]); first | done | rfl | (simp only [List.length_drop, List.length_take]; rfl)) ?_; (with_reducible refine (tax_code.calls k2 _ _ l1 ((rd_T49 l0 x38_2).f1) t105 t106 t107 t108 false _ ?side1 ?side2 A22.out).mono ?_); (case side1 => exact Kd.C_below HR1.out (by repeat (first | (with_reducible first | exact HB.out | apply below_alloc | apply pw_below_drewN | apply below_drew1 | refine below_set ?_ GE103.out) | exact HB.out))); (case side2 => exact HC1.out); rintro e w33 ⟨rfl, hb⟩; refine ⟨_, rfl, ?_⟩; have n0_ := Aside0.mk (blk_below (g := gb103) (o := .cells #[.int .i64 ((rd_T49 l0 x38_2).f0), .string ((rd_T49 l0 x38_2).f1)] 49 (0, 0)) (by (with_reducible repeat (first | refine blk_drewN ?_ _ | refine blk_drew ?_ | refine blk_alloc ?_ _)); refine blk_put (cs := #[.int .i64 ((rd_T49 l0 x38_2).f0), .string (⟨#[]⟩ : ByteArray)]) ?_ 1 _ rfl; (with_reducible repeat (first | refine blk_drewN ?_ _ | refine blk_drew ?_ | refine blk_alloc ?_ _)); refine blk_put (cs := #[.int .i64 0, .string (⟨#[]⟩ : ByteArray)]) ?_ 0 _ rfl; (with_reducible repeat (first | refine blk_drewN ?_ _ | refine blk_drew ?_ | refine blk_alloc ?_ _)); exact BK103.out) hb); have n1_ := Aside0.mk (below_step (by repeat (first | (with_reducible first | exact HB.out | apply below_alloc | apply pw_below_drewN | apply below_drew1 | refine below_set ?_ GE103.out) | exact HB.out)) hb); clear BK103; clear HB; have BK103 := n0_; have HB := n1_; clear n0_ n1_; (try clear hb); (try clear hb2); (try clear hk); (try clear hi)) | ((with_reducible refine gate_dst (N := 11) rfl ?_); refine box_event ?hg (N := 11) ?hd (cs := #[.string (⟨#[]⟩ : ByteArray), .string (⟨#[]⟩ : ByteArray), .int .i64 0, .int .i64 0]) (t := 59) ?hr ?_; (case hd => rfl); (case hg => rfl); (case hr => first | (go_simp; done) | (go_simp; rfl)); intro gb110 hg w34 hbox hb; have n0_ := Aside0.mk (blk_below (g := gb103) (o := .cells #[.int .i64 ((rd_T49 l0 x38_2).f0), .string ((rd_T49 l0 x38_2).f1)] 49 (0, 0)) (by (with_reducible repeat (first | refine blk_drewN ?_ _ | refine blk_drew ?_ | refine blk_alloc ?_ _)); exact BK103.out) hb); have n1_ := Aside0.mk (below_step (by repeat (first | (with_reducible first | exact HB.out | apply below_alloc | apply pw_below_drewN | apply below_drew1 | refine below_set ?_ GE103.out) | exact HB.out)) hb); have n2_ := Aside0.mk (hbox); have n3_ := Aside0.mk ((by rw [hg]; exact (below_size (by repeat (first | (with_reducible first | exact HB.out | apply below_alloc | apply pw_below_drewN | apply below_drew1 | refine below_set ?_ GE103.out) | exact HB.out))) : w.heap.size ≤ gb110)); have n4_ := Aside0.mk ((by rw [hg]; exact (below_size (by repeat (first | (with_reducible first | exact HB.out | apply below_alloc | apply pw_below_drewN | apply below_drew1 | refine below_set ?_ GE103.out) | exact HB.out))) : w.heap.size ≤ gb110)); have n5_ := Aside0.mk ((by rw [hg]; exact Nat.ne_of_lt (blk_lt (g := gb103) (o := .cells #[.int .i64 ((rd_T49 l0 x38_2).f0), .string ((rd_T49 l0 x38_2).f1)] 49 (0, 0)) (by (with_reducible repeat (first | refine blk_drewN ?_ _ | refine blk_drew ?_ | refine blk_alloc ?_ _)); exact BK103.out)) : gb103 ≠ gb110)); have n6_ := Aside0.mk ((by rw [hg]; exact Nat.ne_of_gt (blk_lt (g := gb103) (o := .cells #[.int .i64 ((rd_T49 l0 x38_2).f0), .string ((rd_T49 l0 x38_2).f1)] 49 (0, 0)) (by (with_reducible repeat (first | refine blk_drewN ?_ _ | refine blk_drew ?_ | refine blk_alloc ?_ _)); exact BK103.out)) : gb110 ≠ gb103)); clear BK103; clear HB; have BK103 := n0_; have HB := n1_; have BK110 := n2_; have GW110 := n3_; have GE110 := n4_; have NB103_110 := n5_; have NB110_103 := n6_; clear n0_ n1_ n2_ n3_ n4_ n5_ n6_; clear hb hbox hg; have hnb35 := NB110_103.out; have hnc35 := NB103_110.out; have hcz36_0 : w34.cell? ⟨gb110, 0, none⟩ = some (.string (⟨#[]⟩ : ByteArray)) := (blk_cell BK110.out 0).trans rfl; have hcz36_1 : w34.cell? ⟨gb110, 1, none⟩ = some (.string (⟨#[]⟩ : ByteArray)) := (blk_cell BK110.out 1).trans rfl; have hcz36_2 : w34.cell? ⟨gb110, 2, none⟩ = some (.int .i64 0) := (blk_cell BK110.out 2).trans rfl; have hcz36_3 : w34.cell? ⟨gb110, 3, none⟩ = some (.int .i64 0) := (blk_cell BK110.out 3).trans rfl; have hfz36_0 := blk_frozen BK110.out 0; have hfz36_1 := blk_frozen BK110.out 1; have hfz36_2 := blk_frozen BK110.out 2; have hfz36_3 := blk_frozen BK110.out 3; have hcz37_0 : w34.cell? ⟨gb103, 0, none⟩ = some (.int .i64 ((rd_T49 l0 x38_2).f0)) := (blk_cell BK103.out 0).trans rfl; have hcz37_1 : w34.cell? ⟨gb103, 1, none⟩ = some (.string ((rd_T49 l0 x38_2).f1)) := (blk_cell BK103.out 1).trans rfl; have hfz37_0 := blk_frozen BK103.out 0; have hfz37_1 := blk_frozen BK103.out 1))
              go_roundg k2
              case measure => have := HJ4.out; have := HK2.out; omega
              case rel => exact ⟨(wrap64 (x38_2 + 1)), (by first | rfl | (simp; done) | (simp [*]; done)), H', ⟨by have := HJ4.out; have := HK2.out; omega⟩, ⟨by repeat (first | (with_reducible first | exact HB.out | apply below_alloc | apply pw_below_drewN | apply below_drew1 | refine below_set ?_ GE103.out | refine below_set ?_ GE110.out) | exact HB.out)⟩⟩
             ·rw [if_neg c30] at H
              have c30b0 : (((rd_T49 l0 x38_2).f1).toList == ([] : List UInt8)) = false := beq_eq_false_iff_ne.mpr c30
              have c30b1 : (((rd_T49 l0 x38_2).f1).toList != ([] : List UInt8)) = true := bne_iff_ne.mpr c30
              obtain rfl := Option.some.inj H
              have p102 : 0 ≤ (x38_2 : Int) := of_decide_eq_true (by first | (with_reducible assumption) | assumption)
              have q102 : x38_2 < (l0.length : Int) := of_decide_eq_true (by first | (with_reducible assumption) | assumption)
              obtain ⟨ad102, e102, hx102_0, hx102_1⟩ := at_T49 HR0.out x38_2 p102 q102
              cases e102
              replace hx102_0 := (HB.out.cell (World.block_lt_of_cell? w _ hx102_0)).trans hx102_0
              replace hx102_1 := (HB.out.cell (World.block_lt_of_cell? w _ hx102_1)).trans hx102_1
              replace p102 := eq_true p102
              replace q102 := eq_true q102
              go_wp2_with (first | ((with_reducible refine gate_dst (N := 10) rfl ?_); refine box_event ?hg (N := 10) ?hd (cs := #[.int .i64 0, .string (⟨#[]⟩ : ByteArray)]) (t := 49) ?hr ?_; (case hd => rfl); (case hg => rfl); (case hr => first | (go_simp; done) | (go_simp; rfl)); intro gb103 hg w38 hbox hb; have n0_ := Aside0.mk (below_step (by repeat (first | (with_reducible first | exact HB.out | apply below_alloc | apply pw_below_drewN | apply below_drew1) | exact HB.out)) hb); have n1_ := Aside0.mk (hbox); have n2_ := Aside0.mk ((by rw [hg]; exact (below_size (by repeat (first | (with_reducible first | exact HB.out | apply below_alloc | apply pw_below_drewN | apply below_drew1) | exact HB.out))) : w.heap.size ≤ gb103)); have n3_ := Aside0.mk ((by rw [hg]; exact (below_size (by repeat (first | (with_reducible first | exact HB.out | apply below_alloc | apply pw_below_drewN | apply below_drew1) | exact HB.out))) : w.heap.size ≤ gb103)); clear HB; have HB := n0_; have BK103 := n1_; have GW103 := n2_; have GE103 := n3_; clear n0_ n1_ n2_ n3_; clear hb hbox hg; have hcz39_0 : w38.cell? ⟨gb103, 0, none⟩ = some (.int .i64 0) := (blk_cell BK103.out 0).trans rfl; have hcz39_1 : w38.cell? ⟨gb103, 1, none⟩ = some (.string (⟨#[]⟩ : ByteArray)) := (blk_cell BK103.out 1).trans rfl; have hfz39_0 := blk_frozen BK103.out 0; have hfz39_1 := blk_frozen BK103.out 1) | ((with_reducible refine gate_callee (f := 37) rfl ?_); refine goesL_ (some 44) rfl rfl Try.func37 (by kernel_rfl) rfl #[.int .i64 ((rd_T49 l0 x38_2).f0), .int .i64 1000000000000] rfl (by (try simp only [List.map_toArray, List.map_cons, List.map_nil]); first | done | rfl | (simp only [List.length_drop, List.length_take]; rfl)) ?_; (with_reducible refine (tax_far.calls ((rd_T49 l0 x38_2).f0) 1000000000000 false _ A18.out).mono ?_); rintro e w' ⟨rfl, ⟨nd, rfl⟩⟩; refine ⟨_, rfl, ?_⟩) | ((with_reducible refine gate_callee (f := 33) rfl ?_); refine goesL_ (some 49) rfl rfl Try.func33 (by kernel_rfl) rfl #[.slice A1 l1.length c1, .string ((rd_T49 l0 x38_2).f1)] rfl (by (try simp only [List.map_toArray, List.map_cons, List.map_nil]); first | done | rfl | (simp only [List.length_drop, List.length_take]; rfl)) ?_; (with_reducible refine (tax_code.calls k2 _ _ l1 ((rd_T49 l0 x38_2).f1) t105 t106 t107 t108 false _ ?side1 ?side2 A22.out).mono ?_); (case side1 => exact Kd.C_below HR1.out (by repeat (first | (with_reducible first | exact HB.out | apply below_alloc | apply pw_below_drewN | apply below_drew1 | refine below_set ?_ GE103.out) | exact HB.out))); (case side2 => exact HC1.out); rintro e w40 ⟨rfl, hb⟩; refine ⟨_, rfl, ?_⟩; have n0_ := Aside0.mk (blk_below (g := gb103) (o := .cells #[.int .i64 ((rd_T49 l0 x38_2).f0), .string ((rd_T49 l0 x38_2).f1)] 49 (0, 0)) (by (with_reducible repeat (first | refine blk_drewN ?_ _ | refine blk_drew ?_ | refine blk_alloc ?_ _)); refine blk_put (cs := #[.int .i64 ((rd_T49 l0 x38_2).f0), .string (⟨#[]⟩ : ByteArray)]) ?_ 1 _ rfl; (with_reducible repeat (first | refine blk_drewN ?_ _ | refine blk_drew ?_ | refine blk_alloc ?_ _)); refine blk_put (cs := #[.int .i64 0, .string (⟨#[]⟩ : ByteArray)]) ?_ 0 _ rfl; (with_reducible repeat (first | refine blk_drewN ?_ _ | refine blk_drew ?_ | refine blk_alloc ?_ _)); exact BK103.out) hb); have n1_ := Aside0.mk (below_step (by repeat (first | (with_reducible first | exact HB.out | apply below_alloc | apply pw_below_drewN | apply below_drew1 | refine below_set ?_ GE103.out) | exact HB.out)) hb); clear BK103; clear HB; have BK103 := n0_; have HB := n1_; clear n0_ n1_; (try clear hb); (try clear hb2); (try clear hk); (try clear hi)) | ((with_reducible refine gate_dst (N := 11) rfl ?_); refine box_event ?hg (N := 11) ?hd (cs := #[.string (⟨#[]⟩ : ByteArray), .string (⟨#[]⟩ : ByteArray), .int .i64 0, .int .i64 0]) (t := 59) ?hr ?_; (case hd => rfl); (case hg => rfl); (case hr => first | (go_simp; done) | (go_simp; rfl)); intro gb110 hg w41 hbox hb; have n0_ := Aside0.mk (blk_below (g := gb103) (o := .cells #[.int .i64 ((rd_T49 l0 x38_2).f0), .string ((rd_T49 l0 x38_2).f1)] 49 (0, 0)) (by (with_reducible repeat (first | refine blk_drewN ?_ _ | refine blk_drew ?_ | refine blk_alloc ?_ _)); exact BK103.out) hb); have n1_ := Aside0.mk (below_step (by repeat (first | (with_reducible first | exact HB.out | apply below_alloc | apply pw_below_drewN | apply below_drew1 | refine below_set ?_ GE103.out) | exact HB.out)) hb); have n2_ := Aside0.mk (hbox); have n3_ := Aside0.mk ((by rw [hg]; exact (below_size (by repeat (first | (with_reducible first | exact HB.out | apply below_alloc | apply pw_below_drewN | apply below_drew1 | refine below_set ?_ GE103.out) | exact HB.out))) : w.heap.size ≤ gb110)); have n4_ := Aside0.mk ((by rw [hg]; exact (below_size (by repeat (first | (with_reducible first | exact HB.out | apply below_alloc | apply pw_below_drewN | apply below_drew1 | refine below_set ?_ GE103.out) | exact HB.out))) : w.heap.size ≤ gb110)); have n5_ := Aside0.mk ((by rw [hg]; exact Nat.ne_of_lt (blk_lt (g := gb103) (o := .cells #[.int .i64 ((rd_T49 l0 x38_2).f0), .string ((rd_T49 l0 x38_2).f1)] 49 (0, 0)) (by (with_reducible repeat (first | refine blk_drewN ?_ _ | refine blk_drew ?_ | refine blk_alloc ?_ _)); exact BK103.out)) : gb103 ≠ gb110)); have n6_ := Aside0.mk ((by rw [hg]; exact Nat.ne_of_gt (blk_lt (g := gb103) (o := .cells #[.int .i64 ((rd_T49 l0 x38_2).f0), .string ((rd_T49 l0 x38_2).f1)] 49 (0, 0)) (by (with_reducible repeat (first | refine blk_drewN ?_ _ | refine blk_drew ?_ | refine blk_alloc ?_ _)); exact BK103.out)) : gb110 ≠ gb103)); clear BK103; clear HB; have BK103 := n0_; have HB := n1_; have BK110 := n2_; have GW110 := n3_; have GE110 := n4_; have NB103_110 := n5_; have NB110_103 := n6_; clear n0_ n1_ n2_ n3_ n4_ n5_ n6_; clear hb hbox hg; have hnb42 := NB110_103.out; have hnc42 := NB103_110.out; have hcz43_0 : w41.cell? ⟨gb110, 0, none⟩ = some (.string (⟨#[]⟩ : ByteArray)) := (blk_cell BK110.out 0).trans rfl; have hcz43_1 : w41.cell? ⟨gb110, 1, none⟩ = some (.string (⟨#[]⟩ : ByteArray)) := (blk_cell BK110.out 1).trans rfl; have hcz43_2 : w41.cell? ⟨gb110, 2, none⟩ = some (.int .i64 0) := (blk_cell BK110.out 2).trans rfl; have hcz43_3 : w41.cell? ⟨gb110, 3, none⟩ = some (.int .i64 0) := (blk_cell BK110.out 3).trans rfl; have hfz43_0 := blk_frozen BK110.out 0; have hfz43_1 := blk_frozen BK110.out 1; have hfz43_2 := blk_frozen BK110.out 2; have hfz43_3 := blk_frozen BK110.out 3; have hcz44_0 : w41.cell? ⟨gb103, 0, none⟩ = some (.int .i64 ((rd_T49 l0 x38_2).f0)) := (blk_cell BK103.out 0).trans rfl; have hcz44_1 : w41.cell? ⟨gb103, 1, none⟩ = some (.string ((rd_T49 l0 x38_2).f1)) := (blk_cell BK103.out 1).trans rfl; have hfz44_0 := blk_frozen BK103.out 0; have hfz44_1 := blk_frozen BK103.out 1))
              go_ret
              exact ⟨by first | rfl | (simp [errW_none, errW_some] <;> rfl) | (simp [*, errW_none, errW_some] <;> rfl), by repeat (first | (with_reducible first | exact HB.out | apply below_alloc | apply pw_below_drewN | apply below_drew1 | refine below_set ?_ GE103.out | refine below_set ?_ GE110.out) | exact HB.out)⟩
          ·rw [if_neg c17] at H
           exact absurd H (by simp)
         ·rw [if_neg c16] at H
          exact absurd H (by simp)
        ·rw [if_neg c15] at H
         have c15b0 : decide (x38_2 < (l0.length : Int)) = false := decide_eq_false c15
         clear c15
         obtain rfl := Option.some.inj H
         go_wp2
         go_ret
         exact ⟨by first | rfl | (simp [errW_none, errW_some] <;> rfl) | (simp [*, errW_none, errW_some] <;> rfl), by repeat (first | (with_reducible first | exact HB.out | apply below_alloc | apply pw_below_drewN | apply below_drew1) | exact HB.out)⟩
    ·replace c11 := Bool.eq_false_iff.mpr c11
     subst c11
     have H1 : (some 2) = some r := by rw [if_neg (show ¬ (false = true) by decide)] at H; exact H
     clear H
     have H := H1
     clear H1
     obtain rfl := Option.some.inj H
     go_wp2_with (first | ((with_reducible refine gate_callee (f := 15) rfl ?_); refine goesL_ (some 30) rfl rfl Try.func15 (by kernel_rfl) rfl #[.slice A1 l1.length c1] rfl (by (try simp only [List.map_toArray, List.map_cons, List.map_nil]); first | done | rfl | (simp only [List.length_drop, List.length_take]; rfl)) ?_; (with_reducible refine (tax_Codes.calls kj4 _ _ l1 false _ ?side1 ?side2 A10.out).mono ?_); (case side1 => repeat (first | exact (Kd.C_below HR1.out HB.out) | (with_reducible refine Kd.C_alloc ?_ _) | (with_reducible refine Kd.C_drewN ?_ _) | (with_reducible refine Kd.C_drew ?_))); (case side2 => exact HC1.out); rintro e w45 ⟨rfl, hb⟩; refine ⟨_, rfl, ?_⟩; have n0_ := Aside0.mk (below_step (by repeat (first | (with_reducible first | exact HB.out | apply below_alloc | apply pw_below_drewN | apply below_drew1) | exact HB.out)) hb); clear HB; have HB := n0_; clear n0_; (try clear hb); (try clear hb2); (try clear hk); (try clear hi)))
     go_ret
     exact ⟨by first | rfl | (simp [errW_none, errW_some] <;> rfl) | (simp [*, errW_none, errW_some] <;> rfl), by repeat (first | (with_reducible first | exact HB.out | apply below_alloc | apply pw_below_drewN | apply below_drew1) | exact HB.out)⟩
end Go.Proofs.Ytgjpegmhlnabpaa.M
end
section
namespace Go.Proofs.Ytgjpegmhlnabpaa.M
open Go.RowKit Go.Proofs.YtgjpegmhlnabpaaW.PrintWords Go.Proofs.YtgjpegmhlnabpaaW.PrintLast Go.Proofs.YtgjpegmhlnabpaaW.PrintMore
attribute [local go_sem] max2_int min2_int max_two min_two max_three min_three max_four min_four
set_option linter.unusedVariables false
set_option linter.unusedSimpArgs false
abbrev TxLine := S49
abbrev TxCode := S59
abbrev TxSum := S51
abbrev txZero : TxSum := z51
def txEnc (s : TxSum) : Value := .agg #[.string s.f0, .int .i64 s.f1, .int .i64 s.f2]
def ofL (k : Nat) (way mode : Int) (codes : List TxCode) : List TxLine → List Int → List (ByteArray × TxSum) → Option (List Int × List (ByteArray × TxSum))
  | [], n, L => some (n, L)
  | x :: r, n, L => if n.length < 17592186044416 then (if x.f1.toList = ([] : List UInt8) then ofL k way mode codes r (n ++ [x.f0]) L else (tax_code.f k codes x.f1).bind fun c => (tax_parts.f k way mode x.f0 c.2.2.1 c.2.2.2.1).bind fun p => ofL k way mode codes r (n ++ [p.1]) (aput L x.f1 ⟨x.f1, wrap64 (((aget L x.f1).getD txZero).f1 + p.1), wrap64 (((aget L x.f1).getD txZero).f2 + p.2)⟩)) else none
def ofS (k : Nat) (way mode : Int) (codes : List TxCode) (L : List (ByteArray × TxSum)) : List ByteArray → List TxSum → Option (List TxSum)
  | [], s => some s
  | m :: r, s => if s.length < 4398046511104 then (if way = 2 then (tax_code.f k codes m).bind fun c => (tax_On.f k ((aget L m).getD txZero).f1 c.2.2.1 c.2.2.2.1 mode).bind fun t => ofS k way mode codes L r (s ++ [⟨((aget L m).getD txZero).f0, ((aget L m).getD txZero).f1, t.1⟩]) else ofS k way mode codes L r (s ++ [(aget L m).getD txZero])) else none
def tax_Of.f (k : Nat) (l0 : List TxLine) (l1 : List TxCode) (a2 a3 : Int) : Option (List Int × List TxSum × Int) :=
  (tax_ask.f k l0 l1 a2 a3).bind fun e => if e = 0 then (if l0.length ≤ 1000000 then (ofL k a2 a3 l1 l0 [] []).bind fun t => if t.2.length < 8796093022208 then (ofS k a2 a3 l1 t.2 (srt (t.2.map (·.1))) []).bind fun s => some (t.1, s, 0) else none else none) else some ([], [], e)
theorem tax_parts.mono (a b c d e : Int) (k : Nat) : LeO (tax_parts.f k a b c d e) (tax_parts.f (k + 1) a b c d e) := by
  unfold tax_parts.f
  exact LeO.ite (LeO.bind (tax_On.mono _ _ _ _ _) (fun _ => LeO.refl _)) (LeO.ite (LeO.bind (tax_In.mono _ _ _ _ _) (fun _ => LeO.refl _)) (LeO.refl _))
theorem ofL.mono (k : Nat) (way mode : Int) (codes : List TxCode) : ∀ l n L, LeO (ofL k way mode codes l n L) (ofL (k + 1) way mode codes l n L)
  | [], n, L => LeO.refl _
  | x :: r, n, L => by
    unfold ofL
    exact LeO.ite (LeO.ite (ofL.mono k way mode codes r _ _) (LeO.bind (tax_code.mono _ _ _) (fun c => LeO.bind (tax_parts.mono _ _ _ _ _ _) (fun p => ofL.mono k way mode codes r _ _)))) (LeO.none _)
theorem ofS.mono (k : Nat) (way mode : Int) (codes : List TxCode) (L : List (ByteArray × TxSum)) : ∀ l s, LeO (ofS k way mode codes L l s) (ofS (k + 1) way mode codes L l s)
  | [], s => LeO.refl _
  | m :: r, s => by
    unfold ofS
    exact LeO.ite (LeO.ite (LeO.bind (tax_code.mono _ _ _) (fun c => LeO.bind (tax_On.mono _ _ _ _ _) (fun p => ofS.mono k way mode codes L r _))) (ofS.mono k way mode codes L r _)) (LeO.none _)
theorem tax_Of.mono : ∀ l0 l1 a2 a3 k, LeO (tax_Of.f k l0 l1 a2 a3) (tax_Of.f (k + 1) l0 l1 a2 a3) := by
  intro l0 l1 a2 a3 k
  unfold tax_Of.f
  exact LeO.bind (tax_ask.mono _ _ _ _ _) (fun e => LeO.ite (LeO.ite (LeO.bind (ofL.mono _ _ _ _ _ _ _) (fun t => LeO.ite (LeO.bind (ofS.mono _ _ _ _ _ _ _) (fun s => LeO.refl _)) (LeO.none _))) (LeO.none _)) (LeO.refl _))
theorem drop_rd {l : List TxLine} {j : Nat} (h : j < l.length) : l.drop j = rd_T49 l (j : Int) :: l.drop (j + 1) := by
  rw [List.drop_eq_getElem_cons h]
  congr 1
  unfold rd_T49
  simp [h]
theorem lookT_ {ops : Array Oper} {Q : Exit → Act → World → Prop} {rest : List Oper} {o : Oper} {a : Act} {w : World} {b : Nat} {L : List (ByteArray × TxSum)} (hg : o.guard = none) {m x : Operand} (hop : o.op = .lookup 65 m x false) (M : MapIs Value.string txEnc w b L) (k : ByteArray) (hm : a.eval m = .map (some b)) (hx : a.eval x = .string k) (s : TxSum) (hs : (aget L k).getD txZero = s)
    (h : wpList Try.prog ops Q rest (a.put o.dst (.agg #[.string s.f0, .int .i64 s.f1, .int .i64 s.f2])) w) : wpList Try.prog ops Q (o :: rest) a w := by
  refine lookL_ hg hop Try.underlying65 (KeyT.string Try.underlying9) (z := txEnc txZero) (fun w => ?_) M k hm hx ?_
  · first | exact Try.zeroValue51 w
  · have e : lookV txEnc L k (txEnc txZero) false = .agg #[.string s.f0, .int .i64 s.f1, .int .i64 s.f2] := by
      rw [← hs]
      unfold lookV
      cases aget L k <;> rfl
    rw [e]
    exact h
theorem below_grown {B : Nat} {row : Option Nat} {a w w' : World} (h : Below B a w) (hB : B ≤ w.heap.size) (hg : w.grownBy w' row) (hb : ∀ q, row = some q → B ≤ q) : Below B a w' :=
  ⟨hg.os.trans h.os, hg.tape.trans h.tape, hg.output.trans h.output, Nat.le_trans h.size hg.size, fun k hk => (hg.block k (Nat.lt_of_lt_of_le hk hB) (fun e => by have := hb k e.symm; omega)).trans (h.block k hk)⟩
theorem srt_perm {xs ys : List ByteArray} (h : xs.Perm ys) : srt xs = srt ys := by
  unfold srt
  congr 1
  have le_tr : ∀ a b c : List UInt8, decide (a ≤ b) = true → decide (b ≤ c) = true → decide (a ≤ c) = true := fun a b c h1 h2 => decide_eq_true (List.le_trans (of_decide_eq_true h1) (of_decide_eq_true h2))
  have le_to : ∀ a b : List UInt8, (decide (a ≤ b) || decide (b ≤ a)) = true := fun a b => by simpa using List.le_total a b
  refine List.Perm.eq_of_pairwise (le := fun a b => decide (a ≤ b) = true) ?_ (List.pairwise_mergeSort le_tr le_to _) (List.pairwise_mergeSort le_tr le_to _) ?_
  · intro a b _ _ h1 h2
    exact List.le_antisymm (of_decide_eq_true h1) (of_decide_eq_true h2)
  · exact (List.mergeSort_perm _ _).trans ((h.map _).trans (List.mergeSort_perm _ _).symm)
theorem info_str : (Try.prog.info? 9).map (fun i => (i.zero, i.size, i.bytes)) = some (some (.string ⟨#[]⟩), 1, 16) := by kernel_rfl
set_option maxHeartbeats 8000000 in
set_option maxRecDepth 100000 in
theorem tax_Of.calls (k : Nat) (A0 : Option Addr) (c0 : Nat) (l0 : List TxLine) (A1 : Option Addr) (c1 : Nat) (l1 : List TxCode) (a2 : Int) (a3 : Int) (r1 : List Int) (r2 : List TxSum) (r3 : Int) (w : World) (hr0 : Kd.C k49 w A0 l0.length l0) (hc0 : l0.length ≤ c0) (hr1 : Kd.C k59 w A1 l1.length l1) (hc1 : l1.length ≤ c1) (h : tax_Of.f k l0 l1 a2 a3 = some (r1, r2, r3)) :
    Calls Try.prog 18 #[.slice A0 l0.length c0, .slice A1 l1.length c1, .int .i64 a2, .int .i64 a3] w fun e w' => ∃ v0_ v1_ : Value, e = .returned (.tuple #[v0_, v1_, .int .i64 r3]) ∧ Kd.R (Kd.int .i64) 3 w' w.heap.size (fun _ => True) v0_ r1 ∧ Kd.R k51 51 w' w.heap.size (fun _ => True) v1_ r2 ∧ Below w.heap.size w w' := by
  have HR0 := Aside0.mk hr0
  have HC0 := Aside0.mk hc0
  have HR1 := Aside0.mk hr1
  have HC1 := Aside0.mk hc1
  clear hr0 hc0 hr1 hc1
  obtain ⟨e0, hE, h1⟩ := Option.bind_eq_some_iff.mp h
  have HE := Aside0.mk hE
  clear h hE
  by_cases ce : e0 = 0
  · rw [if_pos ce] at h1
    subst ce
    by_cases cN : l0.length ≤ 1000000
    rotate_left
    · rw [if_neg cN] at h1
      cases h1
    rw [if_pos cN] at h1
    obtain ⟨⟨nf, Lf⟩, hL, h2⟩ := Option.bind_eq_some_iff.mp h1
    have HL := Aside0.mk hL
    clear h1 hL
    by_cases cL : Lf.length < 8796093022208
    · replace h2 : (ofS k a2 a3 l1 Lf (srt (Lf.map (·.1))) []).bind (fun s => some (nf, s, 0)) = some (r1, r2, r3) := (if_pos cL).symm.trans h2
      obtain ⟨s2, hS, h3⟩ := Option.bind_eq_some_iff.mp h2
      injection h3 with h3
      injection h3 with e1 h3
      injection h3 with e2 e3
      subst e1
      subst e2
      subst e3
      have HS := Aside0.mk hS
      have CL := Aside0.mk cL
      clear h2 hS cL
      go_enter Try.func18, Try.ntmps18
      go_wp2_with (first
        | (go_at_call 31; (with_reducible refine (tax_ask.calls k A0 c0 l0 A1 c1 l1 a2 a3 0 _ HR0.out HC0.out HR1.out HC1.out HE.out).mono ?_); rintro e w1 ⟨rfl, hb'⟩; have HB1 := Aside0.mk hb'; clear hb')
        | (go_at_call 32; (with_reducible refine (tax_divide.calls k a2 a3 _).mono ?_); rintro e w2 ⟨K, cap, rfl, hb', hP⟩; have HB2 := Aside0.mk (below_then HB1.out HB1.out.size hb'); have HP := Aside0.mk hP; have HM := Aside0.mk (MapIs_made (κ := ByteArray) (ν := TxSum) Value.string txEnc w2); clear hb' hP)
        | (refine makeL_ rfl rfl ?_))
      have HB3 := Aside0.mk ((Below.refl w2.heap.size w2).alloc (Nat.le_refl _) (.map #[] 0))
      go_loopg [8, 42] l0.length (fun kq v8 v42 w' => ∃ (j : Nat) (ns : List Int) (L : List (ByteArray × TxSum)), v42 = .int .i64 (j : Int) ∧ Aside0 (j + kq = l0.length) ∧ Aside0 (ofL k a2 a3 l1 (l0.drop j) ns L = some (nf, Lf)) ∧ Aside0 (Kd.R (Kd.int .i64) 3 w' w2.heap.size (fun q => w2.heap.size < q) v8 ns) ∧ Aside0 (MapIs Value.string txEnc w' w2.heap.size L) ∧ Aside0 (Below w2.heap.size w2 w'))
      case atStart => exact ⟨0, [], [], rfl, ⟨by omega⟩, HL, ⟨Kd.R_nil _ _ _ _ _⟩, HM, HB3⟩
      case round =>
        clear HL HM HB3
        obtain ⟨j, ns, L, rfl, HJ, H, HO, HM, HB⟩ := hrel
        have HZ : Aside0 (w2.heap.size < wr.heap.size) := ⟨HM.out.lt⟩
        cases gk with
        | zero =>
          have hj0 : l0.drop j = [] := List.drop_eq_nil_of_le (by have := HJ.out; omega)
          have H1 := H.out
          clear H
          rw [hj0] at H1
          simp only [ofL, Option.some.injEq, Prod.mk.injEq] at H1
          obtain ⟨rfl, rfl⟩ := H1
          have hjb : decide ((j : Int) < (l0.length : Int)) = false := decide_eq_false (by have := HJ.out; omega)
          have hjn : ¬ j < l0.length := by have := HJ.out; omega
          have hjd : decide (j < l0.length) = false := decide_eq_false hjn
          obtain ⟨wa, hwa⟩ : ∃ v, v = wr := ⟨_, rfl⟩
          subst hwa
          clear HJ hj0
          have HOb := Aside0.mk (Kd.R_mono (ok' := fun q => q < wa.heap.size) (Kd.R_bound HO.out) (fun q hq => hq.2.2.1))
          go_wp2_with (first
            | (refine rangeL_ rfl rfl Try.underlying65 HM.out rfl ?_
               intro w4 hb4 hz4 hi4
               have HI4 := Aside0.mk hi4
               have HB4 := Aside0.mk hb4
               clear hb4 hz4 hi4))
          (try simp only [Act.put, List.setIfInBounds_toArray, List.set_cons_zero, List.set_cons_succ])
          go_loopg [21] L.length (fun kq v21 w' => ∃ (rest : List (ByteArray × TxSum)) (nm : List ByteArray), Aside0 (kq = rest.length) ∧ Aside0 ((nm ++ rest.map (·.1)).Perm (L.map (·.1))) ∧ Aside0 (IterIs Value.string txEnc w' wa.heap.size w2.heap.size rest) ∧ Aside0 (Kd.R Kd.string 9 w' wa.heap.size (fun q => wa.heap.size < q) v21 nm) ∧ Aside0 (Below wa.heap.size wa w'))
          case atStart => exact ⟨L, [], ⟨rfl⟩, ⟨List.Perm.refl _⟩, HI4, ⟨Kd.R_nil _ _ _ _ _⟩, HB4⟩
          case round =>
            clear HI4 HB4
            obtain ⟨rest, nm, HK, HPm, HI, HN, HBr⟩ := hrel
            cases gk with
            | zero =>
              obtain rfl : rest = [] := List.eq_nil_of_length_eq_zero HK.out.symm
              have hpm : nm.Perm (L.map (·.1)) := by have h1 := HPm.out; simpa using h1
              obtain ⟨A2, cc2, rfl, hcc2, _⟩ := Kd.R_reads HN.out
              have hlen : nm.length < 4611686018427387904 := by have h1 := hpm.length_eq; have h2 := CL.out; simp at h1; omega
              have HS1 : Aside0 (ofS k a2 a3 l1 L (srt nm) [] = some s2) := ⟨by rw [srt_perm hpm]; exact HS.out⟩
              obtain ⟨ss, hss⟩ : ∃ v, srt nm = v := ⟨_, rfl⟩
              have HSl : Aside0 (ss.length = nm.length) := ⟨by rw [← hss, srt_length]⟩
              have HSS := Aside0.mk hss
              rw [hss] at HS1
              have HLn := Aside0.mk hlen
              have HLs : Aside0 (nm.length < 8796093022208) := ⟨by have h1 := hpm.length_eq; have h2 := CL.out; simp at h1; omega⟩
              clear HK HPm HS hpm hss hlen
              go_wp2_with (first
                | (refine nextNil_ rfl rfl HI.out rfl ?_)
                | (go_at_call 34; (with_reducible refine (slices_Sort_str.calls HN.out HLn.out).mono ?_); rintro e w6 ⟨rfl, hR6, hg6⟩
                   rw [HSS.out] at hR6
                   obtain ⟨A3, c3, e3, hcc3, hC3⟩ := Kd.R_reads hR6
                   injection e3 with eA eN eC
                   subst eA
                   have HC6 := Aside0.mk hC3
                   have HB6 := Aside0.mk (below_grown HBr.out HBr.out.size hg6 (fun q hq => by have := HN.out.1 q hq; omega))
                   clear hR6 hg6 hcc3 hC3 eC eN))
              go_loopg [9, 107] ss.length (fun kq v9 v107 w' => ∃ (i : Nat) (sm : List TxSum), v107 = .int .i64 (i : Int) ∧ Aside0 (i + kq = ss.length) ∧ Aside0 (ofS k a2 a3 l1 L (ss.drop i) sm = some s2) ∧ Aside0 (Kd.R k51 51 w' w6.heap.size (fun q => w6.heap.size ≤ q) v9 sm) ∧ Aside0 (Below w6.heap.size w6 w'))
              case atStart => exact ⟨0, [], rfl, ⟨by omega⟩, HS1, ⟨Kd.R_nil _ _ _ _ _⟩, ⟨Below.refl _ _⟩⟩
              case round =>
                clear HS1
                obtain ⟨i, sm, rfl, HIi, HF, HO3, HB3⟩ := hrel
                cases gk with
                | zero =>
                  have hi0 : ss.drop i = [] := List.drop_eq_nil_of_le (by have := HIi.out; have := HSl.out; omega)
                  have H1 := HF.out
                  rw [hi0] at H1
                  simp only [ofS, Option.some.injEq] at H1
                  subst H1
                  have hib : decide ((i : Int) < (nm.length : Int)) = false := decide_eq_false (by have := HIi.out; have := HSl.out; omega)
                  have hin : ¬ i < nm.length := by have := HIi.out; have := HSl.out; omega
                  have hid : decide (i < nm.length) = false := decide_eq_false hin
                  go_wp2
                  have T1 := below_then HB2.out HB2.out.size HB.out
                  have T2 := below_then T1 T1.size HB6.out
                  go_ret3
                  exact ⟨u8, u9, rfl, Kd.R_lower (Kd.R_mono (Kd.R_below (Kd.R_below HOb.out HB6.out) HB3.out) (fun _ _ => trivial)) HB2.out.size, Kd.R_lower (Kd.R_mono HO3.out (fun _ _ => trivial)) T2.size, below_then T2 T2.size HB3.out⟩
                | succ k1 =>
                  have hi : i < ss.length := by have := HIi.out; omega
                  have hib : decide ((i : Int) < (nm.length : Int)) = true := decide_eq_true (by have := HSl.out; omega)
                  have hin : i < nm.length := by have := HSl.out; omega
                  have hid : decide (i < nm.length) = true := decide_eq_true hin
                  have hi2 : (i : Int) + 1 ≤ 1000000000000000 := by have h1 := HSl.out; have h2 := HLn.out; have h3 := HLs.out; omega
                  obtain ⟨ad, cv, e1, _, hK, hc0⟩ := Kd.C_get HC6.out (⟨#[]⟩ : ByteArray) (i : Int) (by omega) (by omega)
                  obtain rfl : cv = [.string (ss.getD (i : Int).toNat ⟨#[]⟩)] := hK
                  have hx0 := hc0 0 _ rfl
                  subst e1
                  simp only [Int.toNat_natCast, Nat.add_zero] at hx0
                  rw [show i * Kd.string.sz = i by show i * 1 = i; omega] at hx0
                  have H1 := HF.out
                  rw [List.drop_eq_getElem_cons hi] at H1
                  simp only [ofS] at H1
                  obtain ⟨m, hm⟩ : ∃ v, ss[i] = v := ⟨_, rfl⟩
                  rw [hm] at H1
                  rw [show ss.getD i ⟨#[]⟩ = m by rw [← hm]; simp [hi]] at hx0
                  replace hx0 := (HB3.out.cell (World.block_lt_of_cell? w6 _ hx0)).trans hx0
                  obtain ⟨s, hs⟩ : ∃ s, (aget L m).getD txZero = s := ⟨_, rfl⟩
                  rw [hs] at H1
                  have HSs := Aside0.mk hs
                  clear hs hm hc0 HF hi
                  have HMr := Aside0.mk ((HM.out.below HB6.out).below HB3.out)
                  have p2 : (i : Int) < (nm.length : Int) := by omega
                  have p3 : 0 ≤ (i : Int) := by omega
                  replace p2 := eq_true p2
                  replace p3 := eq_true p3
                  by_cases cl : sm.length < 4398046511104
                  · rw [if_pos cl] at H1
                    have LN := Aside0.mk cl
                    clear cl
                    obtain ⟨wb, hwb⟩ : ∃ v, v = wr := ⟨_, rfl⟩
                    subst hwb
                    have HO3b := Aside0.mk (Kd.R_mono (ok' := fun q => w6.heap.size ≤ q ∧ q ≠ wb.heap.size) (Kd.R_bound HO3.out) (fun q hq => ⟨hq.1, by have := hq.2.2.1; omega⟩))
                    have HSb := Aside0.mk (blk_new wb (.cells #[.string s.f0, .int .i64 s.f1, .int .i64 s.f2] 51))
                    have HBb := Aside0.mk (HB3.out.alloc HB3.out.size (.cells #[.string s.f0, .int .i64 s.f1, .int .i64 s.f2] 51))
                    by_cases cw : a2 = 2
                    · rw [if_pos cw] at H1
                      have cwb : (a2 == 2) = true := beq_iff_eq.mpr cw
                      obtain ⟨⟨q1, q2, q3, q4, q5⟩, hC, H1⟩ := Option.bind_eq_some_iff.mp H1
                      obtain ⟨⟨z1, z2⟩, hD, H1⟩ := Option.bind_eq_some_iff.mp H1
                      have H' := Aside0.mk H1
                      have HC := Aside0.mk hC
                      have HD := Aside0.mk hD
                      clear H1 hC hD cw
                      have hRc := Aside0.mk (Kd.C_below HR1.out (below_then (below_then (below_then HB2.out HB2.out.size HB.out) (below_then HB2.out HB2.out.size HB.out).size HB6.out) (below_then (below_then HB2.out HB2.out.size HB.out) (below_then HB2.out HB2.out.size HB.out).size HB6.out).size HBb.out))
                      go_wp2_with (first
                        | (refine lookT_ rfl rfl HMr.out m rfl (by first | rfl | (go_simp; done) | (go_simp; rfl)) s HSs.out ?_)
                        | (go_at_call 33; (with_reducible refine (tax_code.calls k A1 c1 l1 m q1 q2 q3 q4 q5 _ hRc.out HC1.out HC.out).mono ?_); rintro e w7 ⟨rfl, hb'⟩
                           have HS7 := Aside0.mk (blk_alloc (blk_below HSb.out hb') (.cells #[.string q1, .string q2, .int .i64 q3, .int .i64 q4] 59))
                           have HB7 := Aside0.mk (below_then HBb.out HBb.out.size hb')
                           have HO7 := Aside0.mk (Kd.R_alloc (Kd.R_below (Kd.R_alloc HO3b.out _) hb') (.cells #[.string q1, .string q2, .int .i64 q3, .int .i64 q4] 59))
                           have HB7a := Aside0.mk (HB7.out.alloc HB7.out.size (.cells #[.string q1, .string q2, .int .i64 q3, .int .i64 q4] 59))
                           have hy1 := (blk_cell HS7.out 1).trans rfl
                           clear hb')
                        | (go_at_call 10; (with_reducible refine (tax_On.calls k s.f1 q3 q4 a3 z1 z2 _ HD.out).mono ?_); rintro e w8 ⟨rfl, hb'⟩
                           have HS8 := Aside0.mk (blk_below HS7.out hb')
                           have HB8 := Aside0.mk (below_then HB7a.out HB7a.out.size hb')
                           have HO8 := Aside0.mk (Kd.R_below HO7.out hb')
                           have HZ8 : Aside0 (wb.heap.size < w8.heap.size) := ⟨by have := (Array.getElem?_eq_some_iff.1 HS8.out).1; omega⟩
                           have hz0 := (blk_cell HS8.out 0).trans rfl
                           have hz1 := (blk_cell HS8.out 1).trans rfl
                           have hz2 := (blk_cell HS8.out 2).trans rfl
                           have hf0 := blk_frozen HS8.out 0
                           have hf1 := blk_frozen HS8.out 1
                           have hf2 := blk_frozen HS8.out 2
                           clear hb')
                        | ((with_reducible refine gate_builtin (b := .append) (xs := #[.tmp 132, .tmp 134]) rfl ?_); at_builtin; refine Kd.R_append k51 (w0 := w6) w6.heap.size rfl (.tmp 132) (.tmp 134) 40 51 (.agg #[(.string ⟨#[]⟩), (.int .i64 0), (.int .i64 0)]) 32 rfl Try.underlying40 info51 rfl (by decide) (by omega) u9 sm (⟨s.f0, s.f1, z1⟩ : TxSum) [.string s.f0, .int .i64 s.f1, .int .i64 z1] (fun q => w6.heap.size ≤ q ∧ q ≠ wb.heap.size) (fun _ => False) rfl (by first | (go_simp; done) | (go_simp; rfl)) ?aP (fun _ hk => hk.elim) ?aF ?aO ?aB ?aS ?aL ?_
                           (case aP => exact k51_mkM _ _ _ (⟨s.f0, s.f1, z1⟩ : TxSum))
                           (case aF => exact fun q hq => by have h1 := HB8.out.size; have h2 := HZ8.out; simp at hq; exact ⟨by omega, by omega⟩)
                           (case aO => exact Kd.R_far (p := ⟨wb.heap.size, 2, none⟩) HO8.out (fun _ hk => hk.2) _)
                           (case aB => exact HB8.out.setCell HB3.out.size _)
                           (case aS => simp; exact HB8.out.size)
                           (case aL => have := LN.out; omega)
                           intro v135 w9 ho hb hg hat
                           have HO9 := Aside0.mk (Kd.R_mono (ok' := fun q => w6.heap.size ≤ q) ho (fun _ hk => hk.1))
                           have HB9 := Aside0.mk hb
                           clear ho hb hg hat))
                      go_roundg k1
                      case measure => omega
                      case rel => exact ⟨i + 1, sm ++ [⟨s.f0, s.f1, z1⟩], by go_num, ⟨by have := HIi.out; omega⟩, H', HO9, HB9⟩
                    · rw [if_neg cw] at H1
                      have cwb : (a2 == 2) = false := beq_eq_false_iff_ne.mpr cw
                      have H' := Aside0.mk H1
                      clear H1 cw
                      go_wp2_with (first
                        | (refine lookT_ rfl rfl HMr.out m rfl (by first | rfl | (go_simp; done) | (go_simp; rfl)) s HSs.out ?_)
                        | ((with_reducible refine gate_builtin (b := .append) (xs := #[.tmp 132, .tmp 134]) rfl ?_); at_builtin; refine Kd.R_append k51 (w0 := w6) w6.heap.size rfl (.tmp 132) (.tmp 134) 40 51 (.agg #[(.string ⟨#[]⟩), (.int .i64 0), (.int .i64 0)]) 32 rfl Try.underlying40 info51 rfl (by decide) (by omega) u9 sm s [.string s.f0, .int .i64 s.f1, .int .i64 s.f2] (fun q => w6.heap.size ≤ q) (fun _ => False) rfl (by first | (go_simp; done) | (go_simp; rfl)) ?aP (fun _ hk => hk.elim) ?aF ?aO ?aB ?aS ?aL ?_
                           (case aP => exact k51_mkM _ _ _ s)
                           (case aF => exact fun q hq => Nat.le_trans HBb.out.size hq)
                           (case aO => exact Kd.R_alloc HO3.out _)
                           (case aB => exact HBb.out)
                           (case aS => exact HBb.out.size)
                           (case aL => have := LN.out; omega)
                           intro v135 w9 ho hb hg hat
                           have HO9 := Aside0.mk ho
                           have HB9 := Aside0.mk hb
                           clear ho hb hg hat))
                      go_roundg k1
                      case measure => omega
                      case rel => exact ⟨i + 1, sm ++ [s], by go_num, ⟨by have := HIi.out; omega⟩, H', HO9, HB9⟩
                  · rw [if_neg cl] at H1
                    cases H1
            | succ k1 =>
              obtain ⟨q0, qs, rfl⟩ : ∃ q0 qs, rest = q0 :: qs := by
                cases rest with
                | nil => have := HK.out; simp at this
                | cons q0 qs => exact ⟨q0, qs, rfl⟩
              go_wp2_with (first
                | (refine nextMore_ rfl rfl HI.out rfl ?_
                   intro ra p rb w5 hl hg5 hz5 hi5 hen5
                   have HL5 := Aside0.mk hl
                   have HI5 := Aside0.mk hi5
                   have HN5 := Aside0.mk (Kd.R_grown HN.out hg5 (fun q hq e => by injection e with e; omega))
                   have HB5 := Aside0.mk (below_grown HBr.out HBr.out.size hg5 (fun q hq => by injection hq with hq; omega))
                   clear hl hg5 hi5)
                | (refine entryL_ rfl rfl rfl hen5 ?_)
                | ((with_reducible refine gate_builtin (b := .append) (xs := #[.tmp 99, .tmp 101]) rfl ?_); at_builtin; refine Kd.R_append Kd.string (w0 := wa) wa.heap.size rfl (.tmp 99) (.tmp 101) 68 9 (.string ⟨#[]⟩) 16 rfl Try.underlying68 info_str rfl (by decide) (by omega) u21 nm p.1 [.string p.1] (fun q => wa.heap.size < q) (fun _ => False) rfl (by first | (go_simp; done) | (go_simp; rfl)) ?aP (fun _ hk => hk.elim) ?aF ?aO ?aB ?aS ?aL ?_
                   (case aP => exact rfl)
                   (case aF => exact fun q hq => by have := HI5.out.lt.2; omega)
                   (case aO => exact HN5.out)
                   (case aB => exact HB5.out)
                   (case aS => exact HB5.out.size)
                   (case aL => have h1 := HPm.out.length_eq; have h2 := CL.out; simp at h1; omega)
                   intro v102 w6 ho hb hg hat
                   have HN6 := Aside0.mk ho
                   have HB6 := Aside0.mk hb
                   have HI6 := Aside0.mk (HI5.out.grown hg (fun e => by have := HN5.out.1 _ e.symm; have := HM.out.lt; omega) (fun e => by have := HN5.out.1 _ e.symm; omega))
                   clear ho hb hg hat))
              go_roundg k1
              case measure => omega
              case rel =>
                refine ⟨ra ++ rb, nm ++ [p.1], ⟨?_⟩, ⟨?_⟩, HI6, HN6, HB6⟩
                · have h1 := HK.out
                  have h2 := congrArg List.length HL5.out
                  simp at h1 h2 ⊢
                  omega
                · have h1 := HPm.out
                  rw [HL5.out] at h1
                  refine List.Perm.trans ?_ h1
                  simp only [List.map_append, List.map_cons, List.append_assoc, List.singleton_append]
                  exact List.Perm.append_left _ (List.perm_middle.symm)
        | succ k1 =>
          have hj : j < l0.length := by have := HJ.out; omega
          have hjb : decide ((j : Int) < (l0.length : Int)) = true := decide_eq_true (by omega)
          have hj2 : (j : Int) + 1 ≤ 1000000 := by omega
          have p1 : 0 ≤ (j : Int) := by omega
          have qj : (j : Int) < (l0.length : Int) := by omega
          obtain ⟨ad, e1, hx0, hx1⟩ := at_T49 HR0.out (j : Int) p1 qj
          cases e1
          simp only [Int.toNat_natCast] at hx0 hx1
          replace hx0 := (below_then HB2.out HB2.out.size HB.out).cell (World.block_lt_of_cell? w _ hx0) |>.trans hx0
          replace hx1 := (below_then HB2.out HB2.out.size HB.out).cell (World.block_lt_of_cell? w _ hx1) |>.trans hx1
          have H1 := H.out
          clear H
          rw [drop_rd hj] at H1
          simp only [ofL] at H1
          obtain ⟨x, hx⟩ : ∃ x, rd_T49 l0 (j : Int) = x := ⟨_, rfl⟩
          rw [hx] at H1 hx0 hx1
          clear hx hj
          by_cases cl : ns.length < 17592186044416
          · rw [if_pos cl] at H1
            have LN := Aside0.mk cl
            clear cl
            by_cases c1 : x.f1.toList = ([] : List UInt8)
            · rw [if_pos c1] at H1
              have c1b : (x.f1.toList == ([] : List UInt8)) = true := beq_iff_eq.mpr c1
              have H' := Aside0.mk H1
              clear H1 c1
              replace p1 := eq_true p1
              replace qj := eq_true qj
              go_wp2_with (first
                | ((with_reducible refine gate_builtin (b := .append) (xs := #[.tmp 49, .tmp 52]) rfl ?_); at_builtin; refine Kd.R_append (Kd.int .i64) (w0 := w2) w2.heap.size rfl (.tmp 49) (.tmp 52) 39 3 (.int .i64 0) 8 rfl Try.underlying39 info3 rfl (by decide) (by omega) u8 ns x.f0 [.int .i64 x.f0] (fun q => w2.heap.size < q) (fun _ => False) rfl (by first | (go_simp; done) | (go_simp; rfl)) ?aP (fun _ hk => hk.elim) ?aF ?aO ?aB ?aS ?aL ?_
                   (case aP => exact rfl)
                   (case aF => exact fun q hq => by simp at hq; have := HZ.out; omega)
                   (case aO => exact Kd.R_alloc HO.out _)
                   (case aB => exact HB.out.alloc (Nat.le_of_lt HZ.out) _)
                   (case aS => simp; have := HZ.out; omega)
                   (case aL => have := LN.out; omega)
                   intro v53 w4 ho hb hg hat
                   have HO1 := Aside0.mk ho
                   have HB1' := Aside0.mk hb
                   have HM1 := Aside0.mk ((HM.out.alloc _).grown hg (fun e => by have := HO.out.1 _ e.symm; omega))
                   clear ho hb hg hat))
              go_roundg k1
              case measure => omega
              case rel => exact ⟨j + 1, ns ++ [x.f0], L, by go_num, ⟨by have := HJ.out; omega⟩, H', HO1, HM1, HB1'⟩
            · rw [if_neg c1] at H1
              have c1b : (x.f1.toList == ([] : List UInt8)) = false := beq_eq_false_iff_ne.mpr c1
              obtain ⟨⟨q1, q2, q3, q4, q5⟩, hC, H1⟩ := Option.bind_eq_some_iff.mp H1
              obtain ⟨⟨z1, z2⟩, hD, H1⟩ := Option.bind_eq_some_iff.mp H1
              obtain ⟨s, hs⟩ : ∃ s, (aget L x.f1).getD txZero = s := ⟨_, rfl⟩
              rw [hs] at H1
              have HSs := Aside0.mk hs
              clear hs
              obtain ⟨inn, hown⟩ := Kd.R_own HO.out
              have H' := Aside0.mk H1
              have HC := Aside0.mk hC
              have HD := Aside0.mk hD
              clear H1 hC hD c1
              replace p1 := eq_true p1
              replace qj := eq_true qj
              have HX := Aside0.mk (blk_new wr (.cells #[.int .i64 x.f0, .string x.f1] 49))
              have HBx := Aside0.mk (HB.out.alloc (Nat.le_of_lt HZ.out) (.cells #[.int .i64 x.f0, .string x.f1] 49))
              obtain ⟨fn, hfn, hname, hbody⟩ := HP.out.f
              have hRc := Aside0.mk (Kd.C_below HR1.out (below_then HB2.out HB2.out.size HBx.out))
              go_wp2_with (first
                | (go_at_call 33; (with_reducible refine (tax_code.calls k A1 c1 l1 x.f1 q1 q2 q3 q4 q5 _ hRc.out HC1.out HC.out).mono ?_); rintro e w3 ⟨rfl, hb'⟩
                   have HX3 := Aside0.mk (blk_alloc (blk_below HX.out hb') (.cells #[.string q1, .string q2, .int .i64 q3, .int .i64 q4] 59))
                   have HO3 := Aside0.mk (Kd.R_alloc (Kd.R_below (Kd.R_alloc HO.out _) hb') (.cells #[.string q1, .string q2, .int .i64 q3, .int .i64 q4] 59))
                   have HM3 := Aside0.mk (((HM.out.alloc _).below hb').alloc (.cells #[.string q1, .string q2, .int .i64 q3, .int .i64 q4] 59))
                   have HZ3 : Aside0 (w2.heap.size < w3.heap.size) := ⟨by have := HZ.out; have h9 := hb'.size; simp at h9; omega⟩
                   have HB3 := Aside0.mk ((below_then HBx.out HBx.out.size hb').alloc (Nat.le_of_lt HZ3.out) (.cells #[.string q1, .string q2, .int .i64 q3, .int .i64 q4] 59))
                   have hy0 := (blk_cell HX3.out 0).trans rfl
                   clear hb')
                | (refine goesFL_ (some 67) rfl rfl hfn hname hbody (#[.int .i64 x.f0, .agg #[.int .i64 q3, .int .i64 q4]] ++ cap) rfl (by rfl) (by (try simp only [List.map_toArray, List.map_cons, List.map_nil]); first | done | rfl) ?_
                   (with_reducible refine (HP.out.call x.f0 q3 q4 z1 z2 _ (fun i hi => HB3.out.block i hi) HD.out).mono ?_)
                   rintro e w4 ⟨rfl, hb'⟩
                   refine ⟨_, rfl, ?_⟩
                   have HX4 := Aside0.mk (blk_below HX3.out hb')
                   have HO4 := Aside0.mk (Kd.R_below HO3.out hb')
                   have HM4 := Aside0.mk (HM3.out.below hb')
                   have HZ4 : Aside0 (w2.heap.size < w4.heap.size) := ⟨by have := HZ3.out; have h9 := hb'.size; simp at h9; omega⟩
                   have HB4 := Aside0.mk (below_then HB3.out HB3.out.size hb')
                   clear hb')
                | ((with_reducible refine gate_builtin (b := .append) (xs := #[.tmp 70, .tmp 72]) rfl ?_); at_builtin; refine Kd.R_append (Kd.int .i64) (w0 := w2) w2.heap.size rfl (.tmp 70) (.tmp 72) 39 3 (.int .i64 0) 8 rfl Try.underlying39 info3 rfl (by decide) (by omega) u8 ns z1 [.int .i64 z1] (fun q => w2.heap.size < q) (fun _ => False) rfl (by first | (go_simp; done) | (go_simp; rfl)) ?aP (fun _ hk => hk.elim) ?aF ?aO ?aB ?aS ?aL ?_
                   (case aP => exact rfl)
                   (case aF => exact fun q hq => Nat.lt_of_lt_of_le HZ4.out hq)
                   (case aO => exact HO4.out)
                   (case aB => exact HB4.out)
                   (case aS => exact Nat.le_of_lt HZ4.out)
                   (case aL => have := LN.out; omega)
                   intro v73 w5 ho hb hg hat
                   have HNE : ∀ q, q ≤ w2.heap.size → some q ≠ u8.ownBlock := fun q hq e => by have := HO4.out.1 _ e.symm; omega
                   have HO5 := Aside0.mk ho
                   have HB5 := Aside0.mk hb
                   have HM5 := Aside0.mk (HM4.out.grown hg (HNE _ (Nat.le_refl _)))
                   have HX5 := Aside0.mk (blk_grown HX4.out hg (fun e => by have := own_lt hown _ e.symm; omega))
                   have hy1 := (blk_cell HX5.out 1).trans rfl
                   have hy2 := (blk_cell (blk_alloc HX5.out (.cells #[.string s.f0, .int .i64 s.f1, .int .i64 s.f2] 51)) 1).trans rfl
                   clear ho hb hat hg)
                | (refine lookT_ rfl rfl HM5.out x.f1 rfl (by first | rfl | (go_simp; done) | (go_simp; rfl)) s HSs.out ?_)
                | (refine storeL_ rfl rfl Try.underlying65 (KeyT.string Try.underlying9) (HM5.out.alloc _) x.f1 (⟨x.f1, wrap64 (s.f1 + z1), wrap64 (s.f2 + z2)⟩ : TxSum) rfl (by first | rfl | (go_simp; done) | (go_simp; rfl)) (by first | rfl | (go_simp; done) | (go_simp; rfl)) ?_
                   intro w6 hm6 hg6 hz6
                   have HM6 := Aside0.mk hm6
                   have HO6 := Aside0.mk (Kd.R_grown (Kd.R_alloc HO5.out (.cells #[.string s.f0, .int .i64 s.f1, .int .i64 s.f2] 51)) hg6 (fun q hq e => by injection e with e; omega))
                   have HB6 := Aside0.mk (below_grown (HB5.out.alloc (by have := HM5.out.lt; omega) (.cells #[.string s.f0, .int .i64 s.f1, .int .i64 s.f2] 51)) (by have := HM5.out.lt; simp; omega) hg6 (fun q hq => by injection hq with hq; omega))
                   clear hm6 hg6 hz6))
              go_roundg k1
              case measure => omega
              case rel => exact ⟨j + 1, ns ++ [z1], aput L x.f1 ⟨x.f1, wrap64 (s.f1 + z1), wrap64 (s.f2 + z2)⟩, by go_num, ⟨by have := HJ.out; omega⟩, H', HO6, HM6, HB6⟩
          · rw [if_neg cl] at H1
            cases H1
    · rw [if_neg cL] at h2
      cases h2
  · rw [if_neg ce] at h1
    injection h1 with h1
    injection h1 with e1 h1
    injection h1 with e2 e3
    subst e1
    subst e2
    subst e3
    have ce0 : (e0 == 0) = false := beq_eq_false_iff_ne.mpr ce
    have ce1 : (e0 != 0) = true := bne_iff_ne.mpr ce
    clear ce
    go_enter Try.func18, Try.ntmps18
    go_wp2_with (first | (go_at_call 31; (with_reducible refine (tax_ask.calls k A0 c0 l0 A1 c1 l1 a2 a3 e0 _ HR0.out HC0.out HR1.out HC1.out HE.out).mono ?_); rintro e w1 ⟨rfl, hb'⟩; have HB1 := Aside0.mk hb'; clear hb'))
    go_ret3
    exact ⟨_, _, rfl, Kd.R_nil _ _ _ _ _, Kd.R_nil _ _ _ _ _, HB1.out⟩
end Go.Proofs.Ytgjpegmhlnabpaa.M
end
section
-- Written by mprint.py (a program of this session) over the kit's print.
namespace Go.Proofs.Ytgjpegmhlnabpaa.M
open Go.RowKit Go.Proofs.YtgjpegmhlnabpaaW.PrintWords Go.Proofs.YtgjpegmhlnabpaaW.PrintLast Go.Proofs.YtgjpegmhlnabpaaW.PrintMore
attribute [local go_sem] max2_int min2_int max_two min_two max_three min_three max_four min_four   -- for this text's walks alone
set_option linter.unusedVariables false
set_option linter.unusedSimpArgs false
/-! ### accountingref25_SameInts: function 20 -/
def accountingref25_SameInts.l0 : Nat → List Int → List Int → Int → Option (Bool)
  | 0, _, _, _ => none
  | k + 1, x0, x1, x5 => if x5 < (x0.length : Int) then (if 0 ≤ x5 then (if x5 < (x1.length : Int) then (if (rd x0 x5) = (rd x1 x5) then (accountingref25_SameInts.l0 k x0 x1 (wrap64 (x5 + 1))) else (some false)) else (none)) else (none)) else (some true)
def accountingref25_SameInts.f (k : Nat) (l0 : List Int) (l1 : List Int) : Option (Bool) := if (l0.length : Int) = (l1.length : Int) then (accountingref25_SameInts.l0 k l0 l1 0) else (some false)
theorem accountingref25_SameInts.mono_l : ∀ k, (∀ y0 y1 y2, LeO (accountingref25_SameInts.l0 k y0 y1 y2) (accountingref25_SameInts.l0 (k + 1) y0 y1 y2))
  | 0 => fun _ _ _ r h => by simp [accountingref25_SameInts.l0] at h
  | k + 1 => by
    have ih0 := accountingref25_SameInts.mono_l k
    · intro y0 y1 y2
      unfold accountingref25_SameInts.l0
      repeat' first
      | (with_reducible exact ih0 _ _ _)
      | (with_reducible exact LeO.refl _)
      | (with_reducible exact LeO.none _)
      | (with_reducible refine LeO.ite ?_ ?_)
      | (with_reducible refine LeO.bind ?_ (fun _ => ?_))
      | exact ih0 _ _ _
      | exact LeO.none _
      | refine LeO.ite ?_ ?_
      | refine LeO.bind ?_ (fun _ => ?_)
theorem accountingref25_SameInts.mono : ∀ a0 a1 k, LeO (accountingref25_SameInts.f k a0 a1) (accountingref25_SameInts.f (k + 1) a0 a1) := by
 intro a0 a1 k
 have ih0 := accountingref25_SameInts.mono_l k
 unfold accountingref25_SameInts.f
 repeat' first
   | (with_reducible exact ih0 _ _ _)
   | (with_reducible exact LeO.refl _)
   | (with_reducible exact LeO.none _)
   | (with_reducible refine LeO.ite ?_ ?_)
   | (with_reducible refine LeO.bind ?_ (fun _ => ?_))
   | exact ih0 _ _ _
   | exact LeO.none _
   | refine LeO.ite ?_ ?_
   | refine LeO.bind ?_ (fun _ => ?_)
set_option maxHeartbeats 8000000 in
set_option maxRecDepth 100000 in
theorem accountingref25_SameInts.calls (k : Nat) (A0 : Option Addr) (c0 : Nat) (l0 : List Int) (A1 : Option Addr) (c1 : Nat) (l1 : List Int) (r : Bool) (w : World) (hr0 : Kd.C (Kd.int .i64) w A0 l0.length l0) (hc0 : l0.length ≤ c0) (hr1 : Kd.C (Kd.int .i64) w A1 l1.length l1) (hc1 : l1.length ≤ c1) (h : accountingref25_SameInts.f k l0 l1 = some r) :
    Calls Try.prog 20 #[.slice A0 l0.length c0, .slice A1 l1.length c1] w fun e w' => e = .returned (.bool r) ∧ Drawn0 w w' := by
 have hu3 := Try.underlying3
 have HR0 := Aside0.mk hr0
 have HC0 := Aside0.mk hc0
 clear hr0 hc0
 have HR1 := Aside0.mk hr1
 have HC1 := Aside0.mk hc1
 clear hr1 hc1
 have H : (if (l0.length : Int) = (l1.length : Int) then (accountingref25_SameInts.l0 k l0 l1 0) else (some false)) = some r := h
 clear h
 by_cases c3 : (l0.length : Int) = (l1.length : Int)
 ·rw [if_pos c3] at H
  have c3b0 : ((l0.length : Int) == (l1.length : Int)) = true := beq_iff_eq.mpr c3
  have c3b1 : ((l0.length : Int) != (l1.length : Int)) = false := bne_eq_false_iff_eq.mpr c3
  have c3b2 : (l0.length == l1.length) = true := by first | simpa using c3 | (simp at c3 ⊢; omega)
  clear c3
  have H' := Aside0.mk H
  clear H
  go_enter Try.func20, Try.ntmps20
  go_wp2
  repeat (go_quiet (fail); try go_wp2)
  go_loopg [5] k (fun kq v5 w' => ∃ (x5_1 : Int), v5 = .int .i64 x5_1 ∧ Aside0 (accountingref25_SameInts.l0 kq l0 l1 x5_1 = some r) ∧ Aside0 (kq ≤ k) ∧ Drawn0 w w')
  case atStart => exact ⟨(0), (by first | rfl | (simp; done) | (simp [*]; done)), H', ⟨Nat.le_refl _⟩, by repeat (first | exact Drawn0.refl _ | apply Drawn0.step)⟩
  case round =>
   clear H'
   try clear c1
   try clear c2
   try clear p2
   try clear c3
   try clear c3b0
   try clear c3b1
   try clear c3b2
   obtain ⟨x5_1, rfl, HA, HK1, ⟨m1, rfl⟩⟩ := hrel
   cases gk with
   | zero => exact absurd HA.out (by simp [accountingref25_SameInts.l0])
   | succ k1 =>
    have H := HA.out
    clear HA
    simp only [accountingref25_SameInts.l0] at H
    by_cases c4 : x5_1 < (l0.length : Int)
    ·rw [if_pos c4] at H
     have c4b0 : decide (x5_1 < (l0.length : Int)) = true := decide_eq_true c4
     clear c4
     by_cases c5 : 0 ≤ x5_1
     ·rw [if_pos c5] at H
      have c5b0 : decide (0 ≤ x5_1) = true := decide_eq_true c5
      clear c5
      by_cases c6 : x5_1 < (l1.length : Int)
      ·rw [if_pos c6] at H
       have c6b0 : decide (x5_1 < (l1.length : Int)) = true := decide_eq_true c6
       clear c6
       by_cases c7 : (rd l0 x5_1) = (rd l1 x5_1)
       ·rw [if_pos c7] at H
        have c7b0 : ((rd l0 x5_1) == (rd l1 x5_1)) = true := beq_iff_eq.mpr c7
        have c7b1 : ((rd l0 x5_1) != (rd l1 x5_1)) = false := bne_eq_false_iff_eq.mpr c7
        clear c7
        have H' := Aside0.mk H
        clear H
        have p101 : 0 ≤ (x5_1 : Int) := of_decide_eq_true (by first | (with_reducible assumption) | assumption)
        have q101 : x5_1 < (l0.length : Int) := of_decide_eq_true (by first | (with_reducible assumption) | assumption)
        obtain ⟨ad101, e101, hx101_0⟩ := Kd.at_int HR0.out x5_1 p101 q101
        cases e101
        replace p101 := eq_true p101
        replace q101 := eq_true q101
        have p102 : 0 ≤ (x5_1 : Int) := of_decide_eq_true (by first | (with_reducible assumption) | assumption)
        have q102 : x5_1 < (l1.length : Int) := of_decide_eq_true (by first | (with_reducible assumption) | assumption)
        obtain ⟨ad102, e102, hx102_0⟩ := Kd.at_int HR1.out x5_1 p102 q102
        cases e102
        replace p102 := eq_true p102
        replace q102 := eq_true q102
        go_wp2
        repeat (go_quiet (fail); try go_wp2)
        go_roundg k1
        case measure => have := HK1.out; omega
        case rel => exact ⟨(wrap64 (x5_1 + 1)), (by first | rfl | (simp; done) | (simp [*]; done)), H', ⟨by have := HK1.out; omega⟩, by repeat (first | exact Drawn0.refl _ | apply Drawn0.step)⟩
       ·rw [if_neg c7] at H
        have c7b0 : ((rd l0 x5_1) == (rd l1 x5_1)) = false := beq_eq_false_iff_ne.mpr c7
        have c7b1 : ((rd l0 x5_1) != (rd l1 x5_1)) = true := bne_iff_ne.mpr c7
        obtain rfl := Option.some.inj H
        have p101 : 0 ≤ (x5_1 : Int) := of_decide_eq_true (by first | (with_reducible assumption) | assumption)
        have q101 : x5_1 < (l0.length : Int) := of_decide_eq_true (by first | (with_reducible assumption) | assumption)
        obtain ⟨ad101, e101, hx101_0⟩ := Kd.at_int HR0.out x5_1 p101 q101
        cases e101
        replace p101 := eq_true p101
        replace q101 := eq_true q101
        have p102 : 0 ≤ (x5_1 : Int) := of_decide_eq_true (by first | (with_reducible assumption) | assumption)
        have q102 : x5_1 < (l1.length : Int) := of_decide_eq_true (by first | (with_reducible assumption) | assumption)
        obtain ⟨ad102, e102, hx102_0⟩ := Kd.at_int HR1.out x5_1 p102 q102
        cases e102
        replace p102 := eq_true p102
        replace q102 := eq_true q102
        go_wp2
        repeat (go_quiet (fail); try go_wp2)
        go_ret
        exact ⟨by first | rfl | (simp; done) | (simp [*]; done), by repeat (first | exact Drawn0.refl _ | apply Drawn0.step)⟩
      ·rw [if_neg c6] at H
       exact absurd H (by simp)
     ·rw [if_neg c5] at H
      exact absurd H (by simp)
    ·rw [if_neg c4] at H
     have c4b0 : decide (x5_1 < (l0.length : Int)) = false := decide_eq_false c4
     clear c4
     obtain rfl := Option.some.inj H
     go_wp2
     repeat (go_quiet (fail); try go_wp2)
     go_ret
     exact ⟨by first | rfl | (simp; done) | (simp [*]; done), by repeat (first | exact Drawn0.refl _ | apply Drawn0.step)⟩
 ·rw [if_neg c3] at H
  have c3b0 : ((l0.length : Int) == (l1.length : Int)) = false := beq_eq_false_iff_ne.mpr c3
  have c3b1 : ((l0.length : Int) != (l1.length : Int)) = true := bne_iff_ne.mpr c3
  have c3b2 : (l0.length == l1.length) = false := by first | simpa using c3 | (simp at c3 ⊢; omega)
  obtain rfl := Option.some.inj H
  go_enter Try.func20, Try.ntmps20
  go_wp2
  repeat (go_quiet (fail); try go_wp2)
  go_ret
  exact ⟨by first | rfl | (simp; done) | (simp [*]; done), by repeat (first | exact Drawn0.refl _ | apply Drawn0.step)⟩
end Go.Proofs.Ytgjpegmhlnabpaa.M
end
section
-- Written by mprint.py (a program of this session) over the kit's print.
namespace Go.Proofs.Ytgjpegmhlnabpaa.M
open Go.RowKit Go.Proofs.YtgjpegmhlnabpaaW.PrintWords Go.Proofs.YtgjpegmhlnabpaaW.PrintLast Go.Proofs.YtgjpegmhlnabpaaW.PrintMore
attribute [local go_sem] max2_int min2_int max_two min_two max_three min_three max_four min_four   -- for this text's walks alone
set_option linter.unusedVariables false
set_option linter.unusedSimpArgs false
theorem eqA51 (d : Nat) (w : World) (x0 y0 : ByteArray) (x1 y1 : Int) (x2 y2 : Int) :
    (Op.equalIn (d + 2) 51 (.agg #[.string x0, .int .i64 x1, .int .i64 x2]) (.agg #[.string y0, .int .i64 y1, .int .i64 y2])).run Try.prog w = .ok (x0.toList == y0.toList && (x1 == y1 && (x2 == y2))) w := by
  refine eqA_of Try.underlying51 (by kernel_rfl) ?_
  refine eqf_cons (by rfl) (by go_simp; rfl) (by go_simp; rfl) (by go_simp) ?_
  refine eqf_cons (by rfl) (by go_simp; rfl) (by go_simp; rfl) (by go_simp) ?_
  exact eqf_last (by rfl) (by go_simp; rfl) (by go_simp; rfl) (by go_simp)
end Go.Proofs.Ytgjpegmhlnabpaa.M
end
section
-- Written by mprint.py (a program of this session) over the kit's print.
namespace Go.Proofs.Ytgjpegmhlnabpaa.M
open Go.RowKit Go.Proofs.YtgjpegmhlnabpaaW.PrintWords Go.Proofs.YtgjpegmhlnabpaaW.PrintLast Go.Proofs.YtgjpegmhlnabpaaW.PrintMore
attribute [local go_sem] max2_int min2_int max_two min_two max_three min_three max_four min_four   -- for this text's walks alone
set_option linter.unusedVariables false
set_option linter.unusedSimpArgs false
attribute [local go_sem high] eqA51
/-! ### accountingref25_Same: function 21 -/
def accountingref25_Same.l0 : Nat → List (S51) → List (S51) → Int → Option (Bool)
  | 0, _, _, _ => none
  | k + 1, x0, x1, x5 => if x5 < (x0.length : Int) then (if 0 ≤ x5 then (if x5 < (x1.length : Int) then (if (!((((rd_T51 x0 x5).f0).toList) == (((rd_T51 x1 x5).f0).toList)) || (!(((rd_T51 x0 x5).f1) == ((rd_T51 x1 x5).f1)) || (!(((rd_T51 x0 x5).f2) == ((rd_T51 x1 x5).f2))))) = true then (some false) else (accountingref25_Same.l0 k x0 x1 (wrap64 (x5 + 1)))) else (none)) else (none)) else (some true)
def accountingref25_Same.f (k : Nat) (l0 : List (S51)) (l1 : List (S51)) : Option (Bool) := if (l0.length : Int) = (l1.length : Int) then (accountingref25_Same.l0 k l0 l1 0) else (some false)
theorem accountingref25_Same.mono_l : ∀ k, (∀ y0 y1 y2, LeO (accountingref25_Same.l0 k y0 y1 y2) (accountingref25_Same.l0 (k + 1) y0 y1 y2))
  | 0 => fun _ _ _ r h => by simp [accountingref25_Same.l0] at h
  | k + 1 => by
    have ih0 := accountingref25_Same.mono_l k
    · intro y0 y1 y2
      unfold accountingref25_Same.l0
      repeat' first
      | (with_reducible exact ih0 _ _ _)
      | (with_reducible exact LeO.refl _)
      | (with_reducible exact LeO.none _)
      | (with_reducible refine LeO.ite ?_ ?_)
      | (with_reducible refine LeO.bind ?_ (fun _ => ?_))
      | exact ih0 _ _ _
      | exact LeO.none _
      | refine LeO.ite ?_ ?_
      | refine LeO.bind ?_ (fun _ => ?_)
theorem accountingref25_Same.mono : ∀ a0 a1 k, LeO (accountingref25_Same.f k a0 a1) (accountingref25_Same.f (k + 1) a0 a1) := by
 intro a0 a1 k
 have ih0 := accountingref25_Same.mono_l k
 unfold accountingref25_Same.f
 repeat' first
   | (with_reducible exact ih0 _ _ _)
   | (with_reducible exact LeO.refl _)
   | (with_reducible exact LeO.none _)
   | (with_reducible refine LeO.ite ?_ ?_)
   | (with_reducible refine LeO.bind ?_ (fun _ => ?_))
   | exact ih0 _ _ _
   | exact LeO.none _
   | refine LeO.ite ?_ ?_
   | refine LeO.bind ?_ (fun _ => ?_)
set_option maxHeartbeats 8000000 in
set_option maxRecDepth 100000 in
theorem accountingref25_Same.calls (k : Nat) (A0 : Option Addr) (c0 : Nat) (l0 : List (S51)) (A1 : Option Addr) (c1 : Nat) (l1 : List (S51)) (r : Bool) (w : World) (hr0 : Kd.C k51 w A0 l0.length l0) (hc0 : l0.length ≤ c0) (hr1 : Kd.C k51 w A1 l1.length l1) (hc1 : l1.length ≤ c1) (h : accountingref25_Same.f k l0 l1 = some r) :
    Calls Try.prog 21 #[.slice A0 l0.length c0, .slice A1 l1.length c1] w fun e w' => e = .returned (.bool r) ∧ Drawn0 w w' := by
 have hu51 := Try.underlying51
 have HR0 := Aside0.mk hr0
 have HC0 := Aside0.mk hc0
 clear hr0 hc0
 have HR1 := Aside0.mk hr1
 have HC1 := Aside0.mk hc1
 clear hr1 hc1
 have H : (if (l0.length : Int) = (l1.length : Int) then (accountingref25_Same.l0 k l0 l1 0) else (some false)) = some r := h
 clear h
 by_cases c3 : (l0.length : Int) = (l1.length : Int)
 ·rw [if_pos c3] at H
  have c3b0 : ((l0.length : Int) == (l1.length : Int)) = true := beq_iff_eq.mpr c3
  have c3b1 : ((l0.length : Int) != (l1.length : Int)) = false := bne_eq_false_iff_eq.mpr c3
  have c3b2 : (l0.length == l1.length) = true := by first | simpa using c3 | (simp at c3 ⊢; omega)
  clear c3
  have H' := Aside0.mk H
  clear H
  go_enter Try.func21, Try.ntmps21
  go_wp2
  repeat (go_quiet (fail); try go_wp2)
  go_loopg [5] k (fun kq v5 w' => ∃ (x5_1 : Int), v5 = .int .i64 x5_1 ∧ Aside0 (accountingref25_Same.l0 kq l0 l1 x5_1 = some r) ∧ Aside0 (kq ≤ k) ∧ Drawn0 w w')
  case atStart => exact ⟨(0), (by first | rfl | (simp; done) | (simp [*]; done)), H', ⟨Nat.le_refl _⟩, by repeat (first | exact Drawn0.refl _ | apply Drawn0.step)⟩
  case round =>
   clear H'
   try clear c1
   try clear c2
   try clear p2
   try clear c3
   try clear c3b0
   try clear c3b1
   try clear c3b2
   obtain ⟨x5_1, rfl, HA, HK1, ⟨m1, rfl⟩⟩ := hrel
   cases gk with
   | zero => exact absurd HA.out (by simp [accountingref25_Same.l0])
   | succ k1 =>
    have H := HA.out
    clear HA
    simp only [accountingref25_Same.l0] at H
    by_cases c4 : x5_1 < (l0.length : Int)
    ·rw [if_pos c4] at H
     have c4b0 : decide (x5_1 < (l0.length : Int)) = true := decide_eq_true c4
     clear c4
     by_cases c5 : 0 ≤ x5_1
     ·rw [if_pos c5] at H
      have c5b0 : decide (0 ≤ x5_1) = true := decide_eq_true c5
      clear c5
      by_cases c6 : x5_1 < (l1.length : Int)
      ·rw [if_pos c6] at H
       have c6b0 : decide (x5_1 < (l1.length : Int)) = true := decide_eq_true c6
       clear c6
       by_cases c7 : (!((((rd_T51 l0 x5_1).f0).toList) == (((rd_T51 l1 x5_1).f0).toList)) || (!(((rd_T51 l0 x5_1).f1) == ((rd_T51 l1 x5_1).f1)) || (!(((rd_T51 l0 x5_1).f2) == ((rd_T51 l1 x5_1).f2))))) = true
       ·rw [if_pos c7] at H
        have c7b0 : (!((((rd_T51 l0 x5_1).f0).toList) == (((rd_T51 l1 x5_1).f0).toList)) || (!(((rd_T51 l0 x5_1).f1) == ((rd_T51 l1 x5_1).f1)) || (!(((rd_T51 l0 x5_1).f2) == ((rd_T51 l1 x5_1).f2))))) = true := c7
        clear c7
        obtain rfl := Option.some.inj H
        have p101 : 0 ≤ (x5_1 : Int) := of_decide_eq_true (by first | (with_reducible assumption) | assumption)
        have q101 : x5_1 < (l0.length : Int) := of_decide_eq_true (by first | (with_reducible assumption) | assumption)
        obtain ⟨ad101, e101, hx101_0, hx101_1, hx101_2⟩ := at_T51 HR0.out x5_1 p101 q101
        cases e101
        replace p101 := eq_true p101
        replace q101 := eq_true q101
        have p102 : 0 ≤ (x5_1 : Int) := of_decide_eq_true (by first | (with_reducible assumption) | assumption)
        have q102 : x5_1 < (l1.length : Int) := of_decide_eq_true (by first | (with_reducible assumption) | assumption)
        obtain ⟨ad102, e102, hx102_0, hx102_1, hx102_2⟩ := at_T51 HR1.out x5_1 p102 q102
        cases e102
        replace p102 := eq_true p102
        replace q102 := eq_true q102
        go_wp2
        repeat (go_quiet (fail); try go_wp2)
        go_ret
        exact ⟨by first | rfl | (simp; done) | (simp [*]; done), by repeat (first | exact Drawn0.refl _ | apply Drawn0.step)⟩
       ·rw [if_neg c7] at H
        have c7b0 : (!((((rd_T51 l0 x5_1).f0).toList) == (((rd_T51 l1 x5_1).f0).toList)) || (!(((rd_T51 l0 x5_1).f1) == ((rd_T51 l1 x5_1).f1)) || (!(((rd_T51 l0 x5_1).f2) == ((rd_T51 l1 x5_1).f2))))) = false := by simpa using c7
        clear c7
        have H' := Aside0.mk H
        clear H
        have p101 : 0 ≤ (x5_1 : Int) := of_decide_eq_true (by first | (with_reducible assumption) | assumption)
        have q101 : x5_1 < (l0.length : Int) := of_decide_eq_true (by first | (with_reducible assumption) | assumption)
        obtain ⟨ad101, e101, hx101_0, hx101_1, hx101_2⟩ := at_T51 HR0.out x5_1 p101 q101
        cases e101
        replace p101 := eq_true p101
        replace q101 := eq_true q101
        have p102 : 0 ≤ (x5_1 : Int) := of_decide_eq_true (by first | (with_reducible assumption) | assumption)
        have q102 : x5_1 < (l1.length : Int) := of_decide_eq_true (by first | (with_reducible assumption) | assumption)
        obtain ⟨ad102, e102, hx102_0, hx102_1, hx102_2⟩ := at_T51 HR1.out x5_1 p102 q102
        cases e102
        replace p102 := eq_true p102
        replace q102 := eq_true q102
        go_wp2
        repeat (go_quiet (fail); try go_wp2)
        go_roundg k1
        case measure => have := HK1.out; omega
        case rel => exact ⟨(wrap64 (x5_1 + 1)), (by first | rfl | (simp; done) | (simp [*]; done)), H', ⟨by have := HK1.out; omega⟩, by repeat (first | exact Drawn0.refl _ | apply Drawn0.step)⟩
      ·rw [if_neg c6] at H
       exact absurd H (by simp)
     ·rw [if_neg c5] at H
      exact absurd H (by simp)
    ·rw [if_neg c4] at H
     have c4b0 : decide (x5_1 < (l0.length : Int)) = false := decide_eq_false c4
     clear c4
     obtain rfl := Option.some.inj H
     go_wp2
     repeat (go_quiet (fail); try go_wp2)
     go_ret
     exact ⟨by first | rfl | (simp; done) | (simp [*]; done), by repeat (first | exact Drawn0.refl _ | apply Drawn0.step)⟩
 ·rw [if_neg c3] at H
  have c3b0 : ((l0.length : Int) == (l1.length : Int)) = false := beq_eq_false_iff_ne.mpr c3
  have c3b1 : ((l0.length : Int) != (l1.length : Int)) = true := bne_iff_ne.mpr c3
  have c3b2 : (l0.length == l1.length) = false := by first | simpa using c3 | (simp at c3 ⊢; omega)
  obtain rfl := Option.some.inj H
  go_enter Try.func21, Try.ntmps21
  go_wp2
  repeat (go_quiet (fail); try go_wp2)
  go_ret
  exact ⟨by first | rfl | (simp; done) | (simp [*]; done), by repeat (first | exact Drawn0.refl _ | apply Drawn0.step)⟩
end Go.Proofs.Ytgjpegmhlnabpaa.M
end
section
-- Written by mprint.py (a program of this session) over the kit's print.
namespace Go.Proofs.Ytgjpegmhlnabpaa.M
open Go.RowKit Go.Proofs.YtgjpegmhlnabpaaW.PrintWords Go.Proofs.YtgjpegmhlnabpaaW.PrintLast Go.Proofs.YtgjpegmhlnabpaaW.PrintMore
attribute [local go_sem] max2_int min2_int max_two min_two max_three min_three max_four min_four   -- for this text's walks alone
set_option linter.unusedVariables false
set_option linter.unusedSimpArgs false
/-! ### accountinglaw25_rates: function 26 -/
def accountinglaw25_rates.f  : Option ((List (S59))) := some (([(⟨(⟨#[108, 111, 119]⟩ : ByteArray), (⟨#[50, 50]⟩ : ByteArray), (⟨7, 100⟩ : S23)⟩ : S59), (⟨(⟨#[115, 116, 100]⟩ : ByteArray), (⟨#[50, 50]⟩ : ByteArray), (⟨19, 100⟩ : S23)⟩ : S59)] : List (S59)))
set_option maxHeartbeats 8000000 in
set_option maxRecDepth 100000 in
theorem accountinglaw25_rates.calls  (r : List (S59)) (w : World) (h : accountinglaw25_rates.f  = some r) :
    Calls Try.prog 26 #[] w fun e w' => ∃ v0_ : Value, e = .returned (v0_) ∧ Kd.R k59 59 w' w.heap.size (fun _ => True) v0_ r ∧ Below w.heap.size w w' := by
 have hu23 := Try.underlying23
 have hu59 := Try.underlying59
 have HB := Aside0.mk (Below.refl w.heap.size w)
 have H : (some (([(⟨(⟨#[108, 111, 119]⟩ : ByteArray), (⟨#[50, 50]⟩ : ByteArray), (⟨7, 100⟩ : S23)⟩ : S59), (⟨(⟨#[115, 116, 100]⟩ : ByteArray), (⟨#[50, 50]⟩ : ByteArray), (⟨19, 100⟩ : S23)⟩ : S59)] : List (S59)))) = some r := h
 clear h
 obtain ⟨y101, hy101⟩ : ∃ y_ : List (S59), y_ = (([(⟨(⟨#[108, 111, 119]⟩ : ByteArray), (⟨#[50, 50]⟩ : ByteArray), (⟨7, 100⟩ : S23)⟩ : S59), (⟨(⟨#[115, 116, 100]⟩ : ByteArray), (⟨#[50, 50]⟩ : ByteArray), (⟨19, 100⟩ : S23)⟩ : S59)] : List (S59))) := ⟨_, rfl⟩
 replace H : (some y101) = some r := by first | (rw [hy101]; with_reducible exact H) | (have H2_ := (Option.bind_some _ _).symm.trans H; rw [hy101]; with_reducible exact H2_) | (have H2_ := (Option.bind_some _ _).symm.trans H; with_reducible exact H2_) | with_reducible exact H | (rw [hy101]; exact H) | exact H
 have Ny101 := Aside0.mk hy101
 clear hy101
 obtain rfl := Option.some.inj H
 go_enter Try.func26, Try.ntmps26
 go_wp2_with (first | ((with_reducible refine gate_dst (N := 5) rfl ?_); refine Kd.R_lit k59 _ 59 ?hg (N := 5) ?hd (xs := ([(⟨(⟨#[108, 111, 119]⟩ : ByteArray), (⟨#[50, 50]⟩ : ByteArray), (⟨7, 100⟩ : S23)⟩ : S59), (⟨(⟨#[115, 116, 100]⟩ : ByteArray), (⟨#[50, 50]⟩ : ByteArray), (⟨19, 100⟩ : S23)⟩ : S59)] : List (S59))) (inner := [.string (⟨#[108, 111, 119]⟩ : ByteArray), .string (⟨#[50, 50]⟩ : ByteArray), .int .i64 7, .int .i64 100, .string (⟨#[115, 116, 100]⟩ : ByteArray), .string (⟨#[50, 50]⟩ : ByteArray), .int .i64 19, .int .i64 100]) (ok := fun _ => True) (okp := fun _ => True) ?hr ?hp (fun _ hk => hk) trivial (Below.refl _ _) (Nat.le_refl _) (by simp) ?_; (case hd => rfl); (case hg => rfl); (case hr => first | (go_simp; done) | (go_simp; rfl)); (case hp => exact (Reps.c4 (show Kd.M k59 _ _ _ (⟨(⟨#[108, 111, 119]⟩ : ByteArray), (⟨#[50, 50]⟩ : ByteArray), (⟨7, 100⟩ : S23)⟩ : S59) [.string (⟨#[108, 111, 119]⟩ : ByteArray), .string (⟨#[50, 50]⟩ : ByteArray), .int .i64 7, .int .i64 100] from (k59_mkM _ _ _ (⟨(⟨#[108, 111, 119]⟩ : ByteArray), (⟨#[50, 50]⟩ : ByteArray), (⟨7, 100⟩ : S23)⟩ : S59) )) (Reps.c4 (show Kd.M k59 _ _ _ (⟨(⟨#[115, 116, 100]⟩ : ByteArray), (⟨#[50, 50]⟩ : ByteArray), (⟨19, 100⟩ : S23)⟩ : S59) [.string (⟨#[115, 116, 100]⟩ : ByteArray), .string (⟨#[50, 50]⟩ : ByteArray), .int .i64 19, .int .i64 100] from (k59_mkM _ _ _ (⟨(⟨#[115, 116, 100]⟩ : ByteArray), (⟨#[50, 50]⟩ : ByteArray), (⟨19, 100⟩ : S23)⟩ : S59) )) (Reps.none _ _)))); intro v102 w1 ho2 hb hg_ hnew_; clear hg_ hnew_; (first | rw [← Ny101.out] at ho2 | (simp only [Int.reduceToNat] at ho2; rw [← Ny101.out] at ho2)); have n0_ := Aside0.mk (Kd.R_lower ho2 (below_size (by repeat (first | (with_reducible first | exact HB.out | apply below_alloc | apply pw_below_drewN | apply below_drew1) | exact HB.out)))); have n1_ := Aside0.mk (below_step (by repeat (first | (with_reducible first | exact HB.out | apply below_alloc | apply pw_below_drewN | apply below_drew1) | exact HB.out)) hb); clear HB; have HO103 := n0_; have HB := n1_; clear n0_ n1_; clear hb ho2))
 go_ret
 exact ⟨_, by first | rfl | (simp [errW_none, errW_some] <;> rfl) | (simp [*, errW_none, errW_some] <;> rfl), by (with_reducible repeat (first | apply Kd.R_alloc | apply Kd.R_drewN | apply Kd.R_drew)); exact HO103.out, by repeat (first | (with_reducible first | exact HB.out | apply below_alloc | apply pw_below_drewN | apply below_drew1) | exact HB.out)⟩
end Go.Proofs.Ytgjpegmhlnabpaa.M
end
section
-- Written by mprint.py (a program of this session) over the kit's print.
namespace Go.Proofs.Ytgjpegmhlnabpaa.M
open Go.RowKit Go.Proofs.YtgjpegmhlnabpaaW.PrintWords Go.Proofs.YtgjpegmhlnabpaaW.PrintLast Go.Proofs.YtgjpegmhlnabpaaW.PrintMore
attribute [local go_sem] max2_int min2_int max_two min_two max_three min_three max_four min_four   -- for this text's walks alone
set_option linter.unusedVariables false
set_option linter.unusedSimpArgs false
/-! ### accountinglaw25_lives: function 12 -/
def accountinglaw25_lives.f (k : Nat)  : Option (Bool) := (tax_On.f k 250 19 100 3).bind fun bt101 => ((tax_In.f k 119 19 100 3).bind fun bt103 => ((some (([(⟨103, (⟨#[115, 116, 100]⟩ : ByteArray)⟩ : S49), (⟨50, (⟨#[]⟩ : ByteArray)⟩ : S49), (⟨103, (⟨#[115, 116, 100]⟩ : ByteArray)⟩ : S49)] : List (S49)) : List (S49))).bind fun y106 => ((accountinglaw25_rates.f).bind fun t109 => ((tax_Of.f k y106 t109 1 3).bind fun bt112 => ((accountinglaw25_rates.f).bind fun t119 => ((tax_Of.f k y106 t119 2 3).bind fun bt122 => (if bt101.1 = 48 then (if bt101.2 = 0 then (if bt103.1 = 100 then (if bt103.2.1 = 19 then (if bt103.2.2 = 0 then ((accountingref25_SameInts.f k bt112.1 (([103, 50, 103] : List Int))).bind fun t132 => (if t132 = true then ((accountingref25_Same.f k bt112.2.1 (([(⟨(⟨#[115, 116, 100]⟩ : ByteArray), 206, 40⟩ : S51)] : List (S51)))).bind fun t136 => (if t136 = true then (if bt112.2.2 = 0 then ((accountingref25_Same.f k bt122.2.1 (([(⟨(⟨#[115, 116, 100]⟩ : ByteArray), 206, 39⟩ : S51)] : List (S51)))).bind fun t140 => (if t140 = true then (some (bt122.2.2 == 0)) else (none))) else (none)) else (none))) else (none))) else (none)) else (none)) else (none)) else (none)) else (none))))))))
theorem accountinglaw25_lives.mono : ∀ k, LeO (accountinglaw25_lives.f k ) (accountinglaw25_lives.f (k + 1) ) := by
 intro  k
 unfold accountinglaw25_lives.f
 repeat' first
   | (with_reducible exact accountingref25_Same.mono _ _ _)
   | (with_reducible exact accountingref25_SameInts.mono _ _ _)
   | (with_reducible exact tax_In.mono _ _ _ _ _)
   | (with_reducible exact tax_Of.mono _ _ _ _ _)
   | (with_reducible exact tax_On.mono _ _ _ _ _)
   | (with_reducible exact LeO.refl _)
   | (with_reducible exact LeO.none _)
   | (with_reducible refine LeO.ite ?_ ?_)
   | (with_reducible refine LeO.bind ?_ (fun _ => ?_))
   | exact accountingref25_Same.mono _ _ _
   | exact accountingref25_SameInts.mono _ _ _
   | exact tax_In.mono _ _ _ _ _
   | exact tax_Of.mono _ _ _ _ _
   | exact tax_On.mono _ _ _ _ _
   | exact LeO.none _
   | refine LeO.ite ?_ ?_
   | refine LeO.bind ?_ (fun _ => ?_)
set_option maxHeartbeats 8000000 in
set_option maxRecDepth 100000 in
theorem accountinglaw25_lives.calls (k : Nat)  (r : Bool) (w : World) (h : accountinglaw25_lives.f k  = some r) :
    Calls Try.prog 12 #[] w fun e w' => e = .returned (.bool r) ∧ Below w.heap.size w w' := by
 have hu23 := Try.underlying23
 have hu49 := Try.underlying49
 have hu51 := Try.underlying51
 have HB := Aside0.mk (Below.refl w.heap.size w)
 have H : ((tax_On.f k 250 19 100 3).bind fun bt101 => ((tax_In.f k 119 19 100 3).bind fun bt103 => ((some (([(⟨103, (⟨#[115, 116, 100]⟩ : ByteArray)⟩ : S49), (⟨50, (⟨#[]⟩ : ByteArray)⟩ : S49), (⟨103, (⟨#[115, 116, 100]⟩ : ByteArray)⟩ : S49)] : List (S49)) : List (S49))).bind fun y106 => ((accountinglaw25_rates.f).bind fun t109 => ((tax_Of.f k y106 t109 1 3).bind fun bt112 => ((accountinglaw25_rates.f).bind fun t119 => ((tax_Of.f k y106 t119 2 3).bind fun bt122 => (if bt101.1 = 48 then (if bt101.2 = 0 then (if bt103.1 = 100 then (if bt103.2.1 = 19 then (if bt103.2.2 = 0 then ((accountingref25_SameInts.f k bt112.1 (([103, 50, 103] : List Int))).bind fun t132 => (if t132 = true then ((accountingref25_Same.f k bt112.2.1 (([(⟨(⟨#[115, 116, 100]⟩ : ByteArray), 206, 40⟩ : S51)] : List (S51)))).bind fun t136 => (if t136 = true then (if bt112.2.2 = 0 then ((accountingref25_Same.f k bt122.2.1 (([(⟨(⟨#[115, 116, 100]⟩ : ByteArray), 206, 39⟩ : S51)] : List (S51)))).bind fun t140 => (if t140 = true then (some (bt122.2.2 == 0)) else (none))) else (none)) else (none))) else (none))) else (none)) else (none)) else (none)) else (none)) else (none))))))))) = some r := h
 clear h
 replace H := Option.bind_eq_some_iff.mp H
 obtain ⟨⟨t101, t102⟩, A10, H⟩ := H
 replace H : ((tax_In.f k 119 19 100 3).bind fun bt103 => ((some (([(⟨103, (⟨#[115, 116, 100]⟩ : ByteArray)⟩ : S49), (⟨50, (⟨#[]⟩ : ByteArray)⟩ : S49), (⟨103, (⟨#[115, 116, 100]⟩ : ByteArray)⟩ : S49)] : List (S49)) : List (S49))).bind fun y106 => ((accountinglaw25_rates.f).bind fun t109 => ((tax_Of.f k y106 t109 1 3).bind fun bt112 => ((accountinglaw25_rates.f).bind fun t119 => ((tax_Of.f k y106 t119 2 3).bind fun bt122 => (if t101 = 48 then (if t102 = 0 then (if bt103.1 = 100 then (if bt103.2.1 = 19 then (if bt103.2.2 = 0 then ((accountingref25_SameInts.f k bt112.1 (([103, 50, 103] : List Int))).bind fun t132 => (if t132 = true then ((accountingref25_Same.f k bt112.2.1 (([(⟨(⟨#[115, 116, 100]⟩ : ByteArray), 206, 40⟩ : S51)] : List (S51)))).bind fun t136 => (if t136 = true then (if bt112.2.2 = 0 then ((accountingref25_Same.f k bt122.2.1 (([(⟨(⟨#[115, 116, 100]⟩ : ByteArray), 206, 39⟩ : S51)] : List (S51)))).bind fun t140 => (if t140 = true then (some (bt122.2.2 == 0)) else (none))) else (none)) else (none))) else (none))) else (none)) else (none)) else (none)) else (none)) else (none)))))))) = some r := H
 have A1 := Aside0.mk A10
 clear A10
 replace H := Option.bind_eq_some_iff.mp H
 obtain ⟨⟨t103, t104, t105⟩, A20, H⟩ := H
 replace H : ((some (([(⟨103, (⟨#[115, 116, 100]⟩ : ByteArray)⟩ : S49), (⟨50, (⟨#[]⟩ : ByteArray)⟩ : S49), (⟨103, (⟨#[115, 116, 100]⟩ : ByteArray)⟩ : S49)] : List (S49)) : List (S49))).bind fun y106 => ((accountinglaw25_rates.f).bind fun t109 => ((tax_Of.f k y106 t109 1 3).bind fun bt112 => ((accountinglaw25_rates.f).bind fun t119 => ((tax_Of.f k y106 t119 2 3).bind fun bt122 => (if t101 = 48 then (if t102 = 0 then (if t103 = 100 then (if t104 = 19 then (if t105 = 0 then ((accountingref25_SameInts.f k bt112.1 (([103, 50, 103] : List Int))).bind fun t132 => (if t132 = true then ((accountingref25_Same.f k bt112.2.1 (([(⟨(⟨#[115, 116, 100]⟩ : ByteArray), 206, 40⟩ : S51)] : List (S51)))).bind fun t136 => (if t136 = true then (if bt112.2.2 = 0 then ((accountingref25_Same.f k bt122.2.1 (([(⟨(⟨#[115, 116, 100]⟩ : ByteArray), 206, 39⟩ : S51)] : List (S51)))).bind fun t140 => (if t140 = true then (some (bt122.2.2 == 0)) else (none))) else (none)) else (none))) else (none))) else (none)) else (none)) else (none)) else (none)) else (none))))))) = some r := H
 have A2 := Aside0.mk A20
 clear A20
 obtain ⟨y106, hy106⟩ : ∃ y_ : List (S49), y_ = (([(⟨103, (⟨#[115, 116, 100]⟩ : ByteArray)⟩ : S49), (⟨50, (⟨#[]⟩ : ByteArray)⟩ : S49), (⟨103, (⟨#[115, 116, 100]⟩ : ByteArray)⟩ : S49)] : List (S49))) := ⟨_, rfl⟩
 replace H : ((accountinglaw25_rates.f).bind fun t109 => ((tax_Of.f k y106 t109 1 3).bind fun bt112 => ((accountinglaw25_rates.f).bind fun t119 => ((tax_Of.f k y106 t119 2 3).bind fun bt122 => (if t101 = 48 then (if t102 = 0 then (if t103 = 100 then (if t104 = 19 then (if t105 = 0 then ((accountingref25_SameInts.f k bt112.1 (([103, 50, 103] : List Int))).bind fun t132 => (if t132 = true then ((accountingref25_Same.f k bt112.2.1 (([(⟨(⟨#[115, 116, 100]⟩ : ByteArray), 206, 40⟩ : S51)] : List (S51)))).bind fun t136 => (if t136 = true then (if bt112.2.2 = 0 then ((accountingref25_Same.f k bt122.2.1 (([(⟨(⟨#[115, 116, 100]⟩ : ByteArray), 206, 39⟩ : S51)] : List (S51)))).bind fun t140 => (if t140 = true then (some (bt122.2.2 == 0)) else (none))) else (none)) else (none))) else (none))) else (none)) else (none)) else (none)) else (none)) else (none)))))) = some r := by first | (rw [hy106]; with_reducible exact H) | (have H2_ := (Option.bind_some _ _).symm.trans H; rw [hy106]; with_reducible exact H2_) | (have H2_ := (Option.bind_some _ _).symm.trans H; with_reducible exact H2_) | with_reducible exact H | (rw [hy106]; exact H) | exact H
 have Ny106 := Aside0.mk hy106
 clear hy106
 replace H := Option.bind_eq_some_iff.mp H
 obtain ⟨t109, A30, H⟩ := H
 replace H : ((tax_Of.f k y106 t109 1 3).bind fun bt112 => ((accountinglaw25_rates.f).bind fun t119 => ((tax_Of.f k y106 t119 2 3).bind fun bt122 => (if t101 = 48 then (if t102 = 0 then (if t103 = 100 then (if t104 = 19 then (if t105 = 0 then ((accountingref25_SameInts.f k bt112.1 (([103, 50, 103] : List Int))).bind fun t132 => (if t132 = true then ((accountingref25_Same.f k bt112.2.1 (([(⟨(⟨#[115, 116, 100]⟩ : ByteArray), 206, 40⟩ : S51)] : List (S51)))).bind fun t136 => (if t136 = true then (if bt112.2.2 = 0 then ((accountingref25_Same.f k bt122.2.1 (([(⟨(⟨#[115, 116, 100]⟩ : ByteArray), 206, 39⟩ : S51)] : List (S51)))).bind fun t140 => (if t140 = true then (some (bt122.2.2 == 0)) else (none))) else (none)) else (none))) else (none))) else (none)) else (none)) else (none)) else (none)) else (none))))) = some r := H
 have A3 := Aside0.mk A30
 clear A30
 replace H := Option.bind_eq_some_iff.mp H
 obtain ⟨⟨t112, t113, t114⟩, A40, H⟩ := H
 replace H : ((accountinglaw25_rates.f).bind fun t119 => ((tax_Of.f k y106 t119 2 3).bind fun bt122 => (if t101 = 48 then (if t102 = 0 then (if t103 = 100 then (if t104 = 19 then (if t105 = 0 then ((accountingref25_SameInts.f k t112 (([103, 50, 103] : List Int))).bind fun t132 => (if t132 = true then ((accountingref25_Same.f k t113 (([(⟨(⟨#[115, 116, 100]⟩ : ByteArray), 206, 40⟩ : S51)] : List (S51)))).bind fun t136 => (if t136 = true then (if t114 = 0 then ((accountingref25_Same.f k bt122.2.1 (([(⟨(⟨#[115, 116, 100]⟩ : ByteArray), 206, 39⟩ : S51)] : List (S51)))).bind fun t140 => (if t140 = true then (some (bt122.2.2 == 0)) else (none))) else (none)) else (none))) else (none))) else (none)) else (none)) else (none)) else (none)) else (none)))) = some r := H
 have A4 := Aside0.mk A40
 clear A40
 replace H := Option.bind_eq_some_iff.mp H
 obtain ⟨t119, A50, H⟩ := H
 replace H : ((tax_Of.f k y106 t119 2 3).bind fun bt122 => (if t101 = 48 then (if t102 = 0 then (if t103 = 100 then (if t104 = 19 then (if t105 = 0 then ((accountingref25_SameInts.f k t112 (([103, 50, 103] : List Int))).bind fun t132 => (if t132 = true then ((accountingref25_Same.f k t113 (([(⟨(⟨#[115, 116, 100]⟩ : ByteArray), 206, 40⟩ : S51)] : List (S51)))).bind fun t136 => (if t136 = true then (if t114 = 0 then ((accountingref25_Same.f k bt122.2.1 (([(⟨(⟨#[115, 116, 100]⟩ : ByteArray), 206, 39⟩ : S51)] : List (S51)))).bind fun t140 => (if t140 = true then (some (bt122.2.2 == 0)) else (none))) else (none)) else (none))) else (none))) else (none)) else (none)) else (none)) else (none)) else (none))) = some r := H
 have A5 := Aside0.mk A50
 clear A50
 replace H := Option.bind_eq_some_iff.mp H
 obtain ⟨⟨t122, t123, t124⟩, A60, H⟩ := H
 replace H : (if t101 = 48 then (if t102 = 0 then (if t103 = 100 then (if t104 = 19 then (if t105 = 0 then ((accountingref25_SameInts.f k t112 (([103, 50, 103] : List Int))).bind fun t132 => (if t132 = true then ((accountingref25_Same.f k t113 (([(⟨(⟨#[115, 116, 100]⟩ : ByteArray), 206, 40⟩ : S51)] : List (S51)))).bind fun t136 => (if t136 = true then (if t114 = 0 then ((accountingref25_Same.f k t123 (([(⟨(⟨#[115, 116, 100]⟩ : ByteArray), 206, 39⟩ : S51)] : List (S51)))).bind fun t140 => (if t140 = true then (some (t124 == 0)) else (none))) else (none)) else (none))) else (none))) else (none)) else (none)) else (none)) else (none)) else (none)) = some r := H
 have A6 := Aside0.mk A60
 clear A60
 by_cases c7 : t101 = 48
 ·rw [if_pos c7] at H
  have c7b0 : (t101 == 48) = true := beq_iff_eq.mpr c7
  have c7b1 : (t101 != 48) = false := bne_eq_false_iff_eq.mpr c7
  clear c7
  by_cases c8 : t102 = 0
  ·rw [if_pos c8] at H
   have c8b0 : (t102 == 0) = true := beq_iff_eq.mpr c8
   have c8b1 : (t102 != 0) = false := bne_eq_false_iff_eq.mpr c8
   clear c8
   by_cases c9 : t103 = 100
   ·rw [if_pos c9] at H
    have c9b0 : (t103 == 100) = true := beq_iff_eq.mpr c9
    have c9b1 : (t103 != 100) = false := bne_eq_false_iff_eq.mpr c9
    clear c9
    by_cases c10 : t104 = 19
    ·rw [if_pos c10] at H
     have c10b0 : (t104 == 19) = true := beq_iff_eq.mpr c10
     have c10b1 : (t104 != 19) = false := bne_eq_false_iff_eq.mpr c10
     clear c10
     by_cases c11 : t105 = 0
     ·rw [if_pos c11] at H
      have c11b0 : (t105 == 0) = true := beq_iff_eq.mpr c11
      have c11b1 : (t105 != 0) = false := bne_eq_false_iff_eq.mpr c11
      clear c11
      obtain ⟨y129, hy129⟩ : ∃ y_ : List Int, y_ = (([103, 50, 103] : List Int)) := ⟨_, rfl⟩
      replace H : ((accountingref25_SameInts.f k t112 y129).bind fun t132 => (if t132 = true then ((accountingref25_Same.f k t113 (([(⟨(⟨#[115, 116, 100]⟩ : ByteArray), 206, 40⟩ : S51)] : List (S51)))).bind fun t136 => (if t136 = true then (if t114 = 0 then ((accountingref25_Same.f k t123 (([(⟨(⟨#[115, 116, 100]⟩ : ByteArray), 206, 39⟩ : S51)] : List (S51)))).bind fun t140 => (if t140 = true then (some (t124 == 0)) else (none))) else (none)) else (none))) else (none))) = some r := by first | (rw [hy129]; with_reducible exact H) | (have H2_ := (Option.bind_some _ _).symm.trans H; rw [hy129]; with_reducible exact H2_) | (have H2_ := (Option.bind_some _ _).symm.trans H; with_reducible exact H2_) | with_reducible exact H | (rw [hy129]; exact H) | exact H
      have Ny129 := Aside0.mk hy129
      clear hy129
      replace H := Option.bind_eq_some_iff.mp H
      obtain ⟨t132, A120, H⟩ := H
      replace H : (if t132 = true then ((accountingref25_Same.f k t113 (([(⟨(⟨#[115, 116, 100]⟩ : ByteArray), 206, 40⟩ : S51)] : List (S51)))).bind fun t136 => (if t136 = true then (if t114 = 0 then ((accountingref25_Same.f k t123 (([(⟨(⟨#[115, 116, 100]⟩ : ByteArray), 206, 39⟩ : S51)] : List (S51)))).bind fun t140 => (if t140 = true then (some (t124 == 0)) else (none))) else (none)) else (none))) else (none)) = some r := H
      have A12 := Aside0.mk A120
      clear A120
      by_cases c13 : t132 = true
      ·subst c13
       have H1 : ((accountingref25_Same.f k t113 (([(⟨(⟨#[115, 116, 100]⟩ : ByteArray), 206, 40⟩ : S51)] : List (S51)))).bind fun t136 => (if t136 = true then (if t114 = 0 then ((accountingref25_Same.f k t123 (([(⟨(⟨#[115, 116, 100]⟩ : ByteArray), 206, 39⟩ : S51)] : List (S51)))).bind fun t140 => (if t140 = true then (some (t124 == 0)) else (none))) else (none)) else (none))) = some r := by rw [if_pos rfl] at H; exact H
       clear H
       have H := H1
       clear H1
       obtain ⟨y133, hy133⟩ : ∃ y_ : List (S51), y_ = (([(⟨(⟨#[115, 116, 100]⟩ : ByteArray), 206, 40⟩ : S51)] : List (S51))) := ⟨_, rfl⟩
       replace H : ((accountingref25_Same.f k t113 y133).bind fun t136 => (if t136 = true then (if t114 = 0 then ((accountingref25_Same.f k t123 (([(⟨(⟨#[115, 116, 100]⟩ : ByteArray), 206, 39⟩ : S51)] : List (S51)))).bind fun t140 => (if t140 = true then (some (t124 == 0)) else (none))) else (none)) else (none))) = some r := by first | (rw [hy133]; with_reducible exact H) | (have H2_ := (Option.bind_some _ _).symm.trans H; rw [hy133]; with_reducible exact H2_) | (have H2_ := (Option.bind_some _ _).symm.trans H; with_reducible exact H2_) | with_reducible exact H | (rw [hy133]; exact H) | exact H
       have Ny133 := Aside0.mk hy133
       clear hy133
       replace H := Option.bind_eq_some_iff.mp H
       obtain ⟨t136, A140, H⟩ := H
       replace H : (if t136 = true then (if t114 = 0 then ((accountingref25_Same.f k t123 (([(⟨(⟨#[115, 116, 100]⟩ : ByteArray), 206, 39⟩ : S51)] : List (S51)))).bind fun t140 => (if t140 = true then (some (t124 == 0)) else (none))) else (none)) else (none)) = some r := H
       have A14 := Aside0.mk A140
       clear A140
       by_cases c15 : t136 = true
       ·subst c15
        have H1 : (if t114 = 0 then ((accountingref25_Same.f k t123 (([(⟨(⟨#[115, 116, 100]⟩ : ByteArray), 206, 39⟩ : S51)] : List (S51)))).bind fun t140 => (if t140 = true then (some (t124 == 0)) else (none))) else (none)) = some r := by rw [if_pos rfl] at H; exact H
        clear H
        have H := H1
        clear H1
        by_cases c16 : t114 = 0
        ·rw [if_pos c16] at H
         have c16b0 : (t114 == 0) = true := beq_iff_eq.mpr c16
         have c16b1 : (t114 != 0) = false := bne_eq_false_iff_eq.mpr c16
         clear c16
         obtain ⟨y137, hy137⟩ : ∃ y_ : List (S51), y_ = (([(⟨(⟨#[115, 116, 100]⟩ : ByteArray), 206, 39⟩ : S51)] : List (S51))) := ⟨_, rfl⟩
         replace H : ((accountingref25_Same.f k t123 y137).bind fun t140 => (if t140 = true then (some (t124 == 0)) else (none))) = some r := by first | (rw [hy137]; with_reducible exact H) | (have H2_ := (Option.bind_some _ _).symm.trans H; rw [hy137]; with_reducible exact H2_) | (have H2_ := (Option.bind_some _ _).symm.trans H; with_reducible exact H2_) | with_reducible exact H | (rw [hy137]; exact H) | exact H
         have Ny137 := Aside0.mk hy137
         clear hy137
         replace H := Option.bind_eq_some_iff.mp H
         obtain ⟨t140, A170, H⟩ := H
         replace H : (if t140 = true then (some (t124 == 0)) else (none)) = some r := H
         have A17 := Aside0.mk A170
         clear A170
         by_cases c18 : t140 = true
         ·subst c18
          have H1 : (some (t124 == 0)) = some r := by rw [if_pos rfl] at H; exact H
          clear H
          have H := H1
          clear H1
          obtain rfl := Option.some.inj H
          go_enter Try.func12, Try.ntmps12
          go_wp2_with (first | ((with_reducible refine gate_callee (f := 10) rfl ?_); refine goesL_ (some 15) rfl rfl Try.func10 (by kernel_rfl) rfl #[.int .i64 250, .agg #[.int .i64 19, .int .i64 100], .int .i64 3] rfl (by (try simp only [List.map_toArray, List.map_cons, List.map_nil]); first | done | rfl | (simp only [List.length_drop, List.length_take]; rfl)) ?_; (with_reducible refine (tax_On.calls k 250 19 100 3 t101 t102 _ A1.out).mono ?_); rintro e w19 ⟨rfl, hb⟩; refine ⟨_, rfl, ?_⟩; have n0_ := Aside0.mk (below_step (by repeat (first | (with_reducible first | exact HB.out | apply below_alloc | apply pw_below_drewN | apply below_drew1) | exact HB.out)) hb); clear HB; have HB := n0_; clear n0_; (try clear hb); (try clear hb2); (try clear hk); (try clear hi)) | ((with_reducible refine gate_callee (f := 13) rfl ?_); refine goesL_ (some 20) rfl rfl Try.func13 (by kernel_rfl) rfl #[.int .i64 119, .agg #[.int .i64 19, .int .i64 100], .int .i64 3] rfl (by (try simp only [List.map_toArray, List.map_cons, List.map_nil]); first | done | rfl | (simp only [List.length_drop, List.length_take]; rfl)) ?_; (with_reducible refine (tax_In.calls k 119 19 100 3 t103 t104 t105 _ A2.out).mono ?_); rintro e w20 ⟨rfl, hb⟩; refine ⟨_, rfl, ?_⟩; have n0_ := Aside0.mk (below_step (by repeat (first | (with_reducible first | exact HB.out | apply below_alloc | apply pw_below_drewN | apply below_drew1) | exact HB.out)) hb); clear HB; have HB := n0_; clear n0_; (try clear hb); (try clear hb2); (try clear hk); (try clear hi)) | ((with_reducible refine gate_dst (N := 27) rfl ?_); (try (refine gate_guard (by rfl) ?_; dsimp only)); refine Kd.R_lit k49 _ 49 ?hg (N := 27) ?hd (xs := ([(⟨103, (⟨#[115, 116, 100]⟩ : ByteArray)⟩ : S49), (⟨50, (⟨#[]⟩ : ByteArray)⟩ : S49), (⟨103, (⟨#[115, 116, 100]⟩ : ByteArray)⟩ : S49)] : List (S49))) (inner := [.int .i64 103, .string (⟨#[115, 116, 100]⟩ : ByteArray), .int .i64 50, .string (⟨#[]⟩ : ByteArray), .int .i64 103, .string (⟨#[115, 116, 100]⟩ : ByteArray)]) (ok := fun _ => True) (okp := fun _ => True) ?hr ?hp (fun _ hk => hk) trivial (Below.refl _ _) (Nat.le_refl _) (by simp) ?_; (case hd => rfl); (case hg => rfl); (case hr => first | (go_simp; done) | (go_simp; rfl)); (case hp => exact (Reps.c2 (show Kd.M k49 _ _ _ (⟨103, (⟨#[115, 116, 100]⟩ : ByteArray)⟩ : S49) [.int .i64 103, .string (⟨#[115, 116, 100]⟩ : ByteArray)] from (k49_mkM _ _ _ (⟨103, (⟨#[115, 116, 100]⟩ : ByteArray)⟩ : S49) )) (Reps.c2 (show Kd.M k49 _ _ _ (⟨50, (⟨#[]⟩ : ByteArray)⟩ : S49) [.int .i64 50, .string (⟨#[]⟩ : ByteArray)] from (k49_mkM _ _ _ (⟨50, (⟨#[]⟩ : ByteArray)⟩ : S49) )) (Reps.c2 (show Kd.M k49 _ _ _ (⟨103, (⟨#[115, 116, 100]⟩ : ByteArray)⟩ : S49) [.int .i64 103, .string (⟨#[115, 116, 100]⟩ : ByteArray)] from (k49_mkM _ _ _ (⟨103, (⟨#[115, 116, 100]⟩ : ByteArray)⟩ : S49) )) (Reps.none _ _))))); intro v107 w21 ho22 hb hg_ hnew_; clear hg_ hnew_; (first | rw [← Ny106.out] at ho22 | (simp only [Int.reduceToNat] at ho22; rw [← Ny106.out] at ho22)); have n0_ := Aside0.mk (Kd.R_lower ho22 (below_size (by repeat (first | (with_reducible first | exact HB.out | apply below_alloc | apply pw_below_drewN | apply below_drew1) | exact HB.out)))); have n1_ := Aside0.mk (below_step (by repeat (first | (with_reducible first | exact HB.out | apply below_alloc | apply pw_below_drewN | apply below_drew1) | exact HB.out)) hb); clear HB; have HO108 := n0_; have HB := n1_; clear n0_ n1_; clear hb ho22) | ((with_reducible refine gate_callee (f := 26) rfl ?_); refine goesL_ (some 30) rfl rfl Try.func26 (by kernel_rfl) rfl #[] rfl (by (try simp only [List.map_toArray, List.map_cons, List.map_nil]); first | done | rfl | (simp only [List.length_drop, List.length_take]; rfl)) ?_; (with_reducible refine (accountinglaw25_rates.calls  t109 _ A3.out).mono ?_); rintro e w23 ⟨v110, rfl, ho0, hb⟩; refine ⟨_, rfl, ?_⟩; have n0_ := Aside0.mk (Kd.R_below (by (with_reducible repeat (first | apply Kd.R_alloc | apply Kd.R_drewN | apply Kd.R_drew)); exact HO108.out) hb); have n1_ := Aside0.mk (Kd.R_lower ho0 (below_size (by repeat (first | (with_reducible first | exact HB.out | apply below_alloc | apply pw_below_drewN | apply below_drew1) | exact HB.out)))); have n2_ := Aside0.mk (below_step (by repeat (first | (with_reducible first | exact HB.out | apply below_alloc | apply pw_below_drewN | apply below_drew1) | exact HB.out)) hb); clear HO108; clear HB; have HO108 := n0_; have HO111 := n1_; have HB := n2_; clear n0_ n1_ n2_; (try clear hb); (try clear hb2); (try clear hk); (try clear hi); (try clear ho0); obtain ⟨Ao24, co24, eo24⟩ := Kd.R_slice HO108.out; subst eo24; obtain ⟨Ao25, co25, eo25⟩ := Kd.R_slice HO111.out; subst eo25) | ((with_reducible refine gate_callee (f := 18) rfl ?_); refine goesL_ (some 31) rfl rfl Try.func18 (by kernel_rfl) rfl #[.slice Ao24 y106.length co24, .slice Ao25 t109.length co25, .int .i64 1, .int .i64 3] rfl (by (try simp only [List.map_toArray, List.map_cons, List.map_nil]); first | done | rfl | (simp only [List.length_drop, List.length_take]; rfl)) ?_; (with_reducible refine (tax_Of.calls k _ _ y106 _ _ t109 1 3 t112 t113 t114 _ ?side1 ?side2 ?side3 ?side4 A4.out).mono ?_); (case side1 => repeat (first | exact (Kd.R_reads' HO108.out).2.2 | (with_reducible refine Kd.C_alloc ?_ _) | (with_reducible refine Kd.C_drewN ?_ _) | (with_reducible refine Kd.C_drew ?_))); (case side2 => exact (Kd.R_reads' HO108.out).2.1); (case side3 => repeat (first | exact (Kd.R_reads' HO111.out).2.2 | (with_reducible refine Kd.C_alloc ?_ _) | (with_reducible refine Kd.C_drewN ?_ _) | (with_reducible refine Kd.C_drew ?_))); (case side4 => exact (Kd.R_reads' HO111.out).2.1); rintro e w26 ⟨v115, v117, rfl, ho0, ho1, hb⟩; refine ⟨_, rfl, ?_⟩; have n0_ := Aside0.mk (Kd.R_below (by (with_reducible repeat (first | apply Kd.R_alloc | apply Kd.R_drewN | apply Kd.R_drew)); exact HO108.out) hb); have n1_ := Aside0.mk (Kd.R_below (by (with_reducible repeat (first | apply Kd.R_alloc | apply Kd.R_drewN | apply Kd.R_drew)); exact HO111.out) hb); have n2_ := Aside0.mk (Kd.R_lower ho0 (below_size (by repeat (first | (with_reducible first | exact HB.out | apply below_alloc | apply pw_below_drewN | apply below_drew1) | exact HB.out)))); have n3_ := Aside0.mk (Kd.R_lower ho1 (below_size (by repeat (first | (with_reducible first | exact HB.out | apply below_alloc | apply pw_below_drewN | apply below_drew1) | exact HB.out)))); have n4_ := Aside0.mk (below_step (by repeat (first | (with_reducible first | exact HB.out | apply below_alloc | apply pw_below_drewN | apply below_drew1) | exact HB.out)) hb); clear HO108; clear HO111; clear HB; have HO108 := n0_; have HO111 := n1_; have HO116 := n2_; have HO118 := n3_; have HB := n4_; clear n0_ n1_ n2_ n3_ n4_; (try clear hb); (try clear hb2); (try clear hk); (try clear hi); (try clear ho0); (try clear ho1)) | ((with_reducible refine gate_callee (f := 26) rfl ?_); refine goesL_ (some 37) rfl rfl Try.func26 (by kernel_rfl) rfl #[] rfl (by (try simp only [List.map_toArray, List.map_cons, List.map_nil]); first | done | rfl | (simp only [List.length_drop, List.length_take]; rfl)) ?_; (with_reducible refine (accountinglaw25_rates.calls  t119 _ A5.out).mono ?_); rintro e w27 ⟨v120, rfl, ho0, hb⟩; refine ⟨_, rfl, ?_⟩; have n0_ := Aside0.mk (Kd.R_below (by (with_reducible repeat (first | apply Kd.R_alloc | apply Kd.R_drewN | apply Kd.R_drew)); exact HO108.out) hb); have n1_ := Aside0.mk (Kd.R_elder' (by (with_reducible repeat (first | apply Kd.R_alloc | apply Kd.R_drewN | apply Kd.R_drew)); exact HO111.out) (Kd.R_base ho0) hb); have n2_ := Aside0.mk (Kd.R_below (by (with_reducible repeat (first | apply Kd.R_alloc | apply Kd.R_drewN | apply Kd.R_drew)); exact HO116.out) hb); have n3_ := Aside0.mk (Kd.R_below (by (with_reducible repeat (first | apply Kd.R_alloc | apply Kd.R_drewN | apply Kd.R_drew)); exact HO118.out) hb); have n4_ := Aside0.mk (Kd.R_lower (Kd.R_new' ho0 (Kd.R_lt (by (with_reducible repeat (first | apply Kd.R_alloc | apply Kd.R_drewN | apply Kd.R_drew)); exact HO111.out))) (below_size (by repeat (first | (with_reducible first | exact HB.out | apply below_alloc | apply pw_below_drewN | apply below_drew1) | exact HB.out)))); have n5_ := Aside0.mk (below_step (by repeat (first | (with_reducible first | exact HB.out | apply below_alloc | apply pw_below_drewN | apply below_drew1) | exact HB.out)) hb); clear HO108; clear HO111; clear HO116; clear HO118; clear HB; have HO108 := n0_; have HO111 := n1_; have HO116 := n2_; have HO118 := n3_; have HO121 := n4_; have HB := n5_; clear n0_ n1_ n2_ n3_ n4_ n5_; (try clear hb); (try clear hb2); (try clear hk); (try clear hi); (try clear ho0); obtain ⟨Ao28, co28, eo28⟩ := Kd.R_slice HO121.out; subst eo28) | ((with_reducible refine gate_callee (f := 18) rfl ?_); refine goesL_ (some 38) rfl rfl Try.func18 (by kernel_rfl) rfl #[.slice Ao24 y106.length co24, .slice Ao28 t119.length co28, .int .i64 2, .int .i64 3] rfl (by (try simp only [List.map_toArray, List.map_cons, List.map_nil]); first | done | rfl | (simp only [List.length_drop, List.length_take]; rfl)) ?_; (with_reducible refine (tax_Of.calls k _ _ y106 _ _ t119 2 3 t122 t123 t124 _ ?side1 ?side2 ?side3 ?side4 A6.out).mono ?_); (case side1 => repeat (first | exact (Kd.R_reads' HO108.out).2.2 | (with_reducible refine Kd.C_alloc ?_ _) | (with_reducible refine Kd.C_drewN ?_ _) | (with_reducible refine Kd.C_drew ?_))); (case side2 => exact (Kd.R_reads' HO108.out).2.1); (case side3 => repeat (first | exact (Kd.R_reads' HO121.out).2.2 | (with_reducible refine Kd.C_alloc ?_ _) | (with_reducible refine Kd.C_drewN ?_ _) | (with_reducible refine Kd.C_drew ?_))); (case side4 => exact (Kd.R_reads' HO121.out).2.1); rintro e w29 ⟨v125, v127, rfl, ho0, ho1, hb⟩; refine ⟨_, rfl, ?_⟩; have n0_ := Aside0.mk (Kd.R_below (by (with_reducible repeat (first | apply Kd.R_alloc | apply Kd.R_drewN | apply Kd.R_drew)); exact HO108.out) hb); have n1_ := Aside0.mk (Kd.R_below (by (with_reducible repeat (first | apply Kd.R_alloc | apply Kd.R_drewN | apply Kd.R_drew)); exact HO111.out) hb); have n2_ := Aside0.mk (Kd.R_elder' (by (with_reducible repeat (first | apply Kd.R_alloc | apply Kd.R_drewN | apply Kd.R_drew)); exact HO116.out) (Kd.R_base ho0) hb); have n3_ := Aside0.mk (Kd.R_elder' (by (with_reducible repeat (first | apply Kd.R_alloc | apply Kd.R_drewN | apply Kd.R_drew)); exact HO118.out) (Kd.R_base ho1) hb); have n4_ := Aside0.mk (Kd.R_below (by (with_reducible repeat (first | apply Kd.R_alloc | apply Kd.R_drewN | apply Kd.R_drew)); exact HO121.out) hb); have n5_ := Aside0.mk (Kd.R_lower (Kd.R_new' ho0 (Kd.R_lt (by (with_reducible repeat (first | apply Kd.R_alloc | apply Kd.R_drewN | apply Kd.R_drew)); exact HO116.out))) (below_size (by repeat (first | (with_reducible first | exact HB.out | apply below_alloc | apply pw_below_drewN | apply below_drew1) | exact HB.out)))); have n6_ := Aside0.mk (Kd.R_lower (Kd.R_new' ho1 (Kd.R_lt (by (with_reducible repeat (first | apply Kd.R_alloc | apply Kd.R_drewN | apply Kd.R_drew)); exact HO118.out))) (below_size (by repeat (first | (with_reducible first | exact HB.out | apply below_alloc | apply pw_below_drewN | apply below_drew1) | exact HB.out)))); have n7_ := Aside0.mk (below_step (by repeat (first | (with_reducible first | exact HB.out | apply below_alloc | apply pw_below_drewN | apply below_drew1) | exact HB.out)) hb); clear HO108; clear HO111; clear HO116; clear HO118; clear HO121; clear HB; have HO108 := n0_; have HO111 := n1_; have HO116 := n2_; have HO118 := n3_; have HO121 := n4_; have HO126 := n5_; have HO128 := n6_; have HB := n7_; clear n0_ n1_ n2_ n3_ n4_ n5_ n6_ n7_; (try clear hb); (try clear hb2); (try clear hk); (try clear hi); (try clear ho0); (try clear ho1)) | ((with_reducible refine gate_dst (N := 62) rfl ?_); (try (refine gate_guard (by rfl) ?_; dsimp only)); refine Kd.R_lit (Kd.int .i64) _ 3 ?hg (N := 62) ?hd (xs := ([103, 50, 103] : List Int)) (inner := [.int .i64 103, .int .i64 50, .int .i64 103]) (ok := fun _ => True) (okp := fun _ => True) ?hr ?hp (fun _ hk => hk) trivial (Below.refl _ _) (Nat.le_refl _) (by simp) ?_; (case hd => rfl); (case hg => rfl); (case hr => first | (go_simp; done) | (go_simp; rfl)); (case hp => exact (Reps.one (show Kd.M (Kd.int .i64) _ _ _ 103 [.int .i64 103] from rfl) (Reps.one (show Kd.M (Kd.int .i64) _ _ _ 50 [.int .i64 50] from rfl) (Reps.one (show Kd.M (Kd.int .i64) _ _ _ 103 [.int .i64 103] from rfl) (Reps.none _ _))))); intro v130 w30 ho31 hb hg_ hnew_; clear hg_ hnew_; (first | rw [← Ny129.out] at ho31 | (simp only [Int.reduceToNat] at ho31; rw [← Ny129.out] at ho31)); have n0_ := Aside0.mk (Kd.R_below (by (with_reducible repeat (first | apply Kd.R_alloc | apply Kd.R_drewN | apply Kd.R_drew)); exact HO108.out) hb); have n1_ := Aside0.mk (Kd.R_below (by (with_reducible repeat (first | apply Kd.R_alloc | apply Kd.R_drewN | apply Kd.R_drew)); exact HO111.out) hb); have n2_ := Aside0.mk (Kd.R_elder' (by (with_reducible repeat (first | apply Kd.R_alloc | apply Kd.R_drewN | apply Kd.R_drew)); exact HO116.out) (Kd.R_base ho31) hb); have n3_ := Aside0.mk (Kd.R_below (by (with_reducible repeat (first | apply Kd.R_alloc | apply Kd.R_drewN | apply Kd.R_drew)); exact HO118.out) hb); have n4_ := Aside0.mk (Kd.R_below (by (with_reducible repeat (first | apply Kd.R_alloc | apply Kd.R_drewN | apply Kd.R_drew)); exact HO121.out) hb); have n5_ := Aside0.mk (Kd.R_elder' (by (with_reducible repeat (first | apply Kd.R_alloc | apply Kd.R_drewN | apply Kd.R_drew)); exact HO126.out) (Kd.R_base ho31) hb); have n6_ := Aside0.mk (Kd.R_below (by (with_reducible repeat (first | apply Kd.R_alloc | apply Kd.R_drewN | apply Kd.R_drew)); exact HO128.out) hb); have n7_ := Aside0.mk (Kd.R_lower (Kd.R_new' (Kd.R_new' ho31 (Kd.R_lt (by (with_reducible repeat (first | apply Kd.R_alloc | apply Kd.R_drewN | apply Kd.R_drew)); exact HO116.out))) (Kd.R_lt (by (with_reducible repeat (first | apply Kd.R_alloc | apply Kd.R_drewN | apply Kd.R_drew)); exact HO126.out))) (below_size (by repeat (first | (with_reducible first | exact HB.out | apply below_alloc | apply pw_below_drewN | apply below_drew1) | exact HB.out)))); have n8_ := Aside0.mk (below_step (by repeat (first | (with_reducible first | exact HB.out | apply below_alloc | apply pw_below_drewN | apply below_drew1) | exact HB.out)) hb); clear HO108; clear HO111; clear HO116; clear HO118; clear HO121; clear HO126; clear HO128; clear HB; have HO108 := n0_; have HO111 := n1_; have HO116 := n2_; have HO118 := n3_; have HO121 := n4_; have HO126 := n5_; have HO128 := n6_; have HO131 := n7_; have HB := n8_; clear n0_ n1_ n2_ n3_ n4_ n5_ n6_ n7_ n8_; clear hb ho31; obtain ⟨Ao32, co32, eo32⟩ := Kd.R_slice HO116.out; subst eo32; obtain ⟨Ao33, co33, eo33⟩ := Kd.R_slice HO131.out; subst eo33) | (go_at_call 20; (with_reducible refine (accountingref25_SameInts.calls k _ _ t112 _ _ y129 true _ ?side1 ?side2 ?side3 ?side4 A12.out).mono ?_); (case side1 => repeat (first | exact (Kd.R_reads' HO116.out).2.2 | (with_reducible refine Kd.C_alloc ?_ _) | (with_reducible refine Kd.C_drewN ?_ _) | (with_reducible refine Kd.C_drew ?_))); (case side2 => exact (Kd.R_reads' HO116.out).2.1); (case side3 => repeat (first | exact (Kd.R_reads' HO131.out).2.2 | (with_reducible refine Kd.C_alloc ?_ _) | (with_reducible refine Kd.C_drewN ?_ _) | (with_reducible refine Kd.C_drew ?_))); (case side4 => exact (Kd.R_reads' HO131.out).2.1); rintro e w' ⟨rfl, ⟨nd, rfl⟩⟩) | ((with_reducible refine gate_dst (N := 68) rfl ?_); (try (refine gate_guard (by rfl) ?_; dsimp only)); refine Kd.R_lit k51 _ 51 ?hg (N := 68) ?hd (xs := ([(⟨(⟨#[115, 116, 100]⟩ : ByteArray), 206, 40⟩ : S51)] : List (S51))) (inner := [.string (⟨#[115, 116, 100]⟩ : ByteArray), .int .i64 206, .int .i64 40]) (ok := fun _ => True) (okp := fun _ => True) ?hr ?hp (fun _ hk => hk) trivial (Below.refl _ _) (Nat.le_refl _) (by simp) ?_; (case hd => rfl); (case hg => rfl); (case hr => first | (go_simp; done) | (go_simp; rfl)); (case hp => exact (Reps.c3 (show Kd.M k51 _ _ _ (⟨(⟨#[115, 116, 100]⟩ : ByteArray), 206, 40⟩ : S51) [.string (⟨#[115, 116, 100]⟩ : ByteArray), .int .i64 206, .int .i64 40] from (k51_mkM _ _ _ (⟨(⟨#[115, 116, 100]⟩ : ByteArray), 206, 40⟩ : S51) )) (Reps.none _ _))); intro v134 w34 ho35 hb hg_ hnew_; clear hg_ hnew_; (first | rw [← Ny133.out] at ho35 | (simp only [Int.reduceToNat] at ho35; rw [← Ny133.out] at ho35)); have n0_ := Aside0.mk (Kd.R_below (by (with_reducible repeat (first | apply Kd.R_alloc | apply Kd.R_drewN | apply Kd.R_drew)); exact HO108.out) hb); have n1_ := Aside0.mk (Kd.R_below (by (with_reducible repeat (first | apply Kd.R_alloc | apply Kd.R_drewN | apply Kd.R_drew)); exact HO111.out) hb); have n2_ := Aside0.mk (Kd.R_below (by (with_reducible repeat (first | apply Kd.R_alloc | apply Kd.R_drewN | apply Kd.R_drew)); exact HO116.out) hb); have n3_ := Aside0.mk (Kd.R_elder' (by (with_reducible repeat (first | apply Kd.R_alloc | apply Kd.R_drewN | apply Kd.R_drew)); exact HO118.out) (Kd.R_base ho35) hb); have n4_ := Aside0.mk (Kd.R_below (by (with_reducible repeat (first | apply Kd.R_alloc | apply Kd.R_drewN | apply Kd.R_drew)); exact HO121.out) hb); have n5_ := Aside0.mk (Kd.R_below (by (with_reducible repeat (first | apply Kd.R_alloc | apply Kd.R_drewN | apply Kd.R_drew)); exact HO126.out) hb); have n6_ := Aside0.mk (Kd.R_elder' (by (with_reducible repeat (first | apply Kd.R_alloc | apply Kd.R_drewN | apply Kd.R_drew)); exact HO128.out) (Kd.R_base ho35) hb); have n7_ := Aside0.mk (Kd.R_below (by (with_reducible repeat (first | apply Kd.R_alloc | apply Kd.R_drewN | apply Kd.R_drew)); exact HO131.out) hb); have n8_ := Aside0.mk (Kd.R_lower (Kd.R_new' (Kd.R_new' ho35 (Kd.R_lt (by (with_reducible repeat (first | apply Kd.R_alloc | apply Kd.R_drewN | apply Kd.R_drew)); exact HO118.out))) (Kd.R_lt (by (with_reducible repeat (first | apply Kd.R_alloc | apply Kd.R_drewN | apply Kd.R_drew)); exact HO128.out))) (below_size (by repeat (first | (with_reducible first | exact HB.out | apply below_alloc | apply pw_below_drewN | apply below_drew1) | exact HB.out)))); have n9_ := Aside0.mk (below_step (by repeat (first | (with_reducible first | exact HB.out | apply below_alloc | apply pw_below_drewN | apply below_drew1) | exact HB.out)) hb); clear HO108; clear HO111; clear HO116; clear HO118; clear HO121; clear HO126; clear HO128; clear HO131; clear HB; have HO108 := n0_; have HO111 := n1_; have HO116 := n2_; have HO118 := n3_; have HO121 := n4_; have HO126 := n5_; have HO128 := n6_; have HO131 := n7_; have HO135 := n8_; have HB := n9_; clear n0_ n1_ n2_ n3_ n4_ n5_ n6_ n7_ n8_ n9_; clear hb ho35; obtain ⟨Ao36, co36, eo36⟩ := Kd.R_slice HO118.out; subst eo36; obtain ⟨Ao37, co37, eo37⟩ := Kd.R_slice HO135.out; subst eo37) | (go_at_call 21; (with_reducible refine (accountingref25_Same.calls k _ _ t113 _ _ y133 true _ ?side1 ?side2 ?side3 ?side4 A14.out).mono ?_); (case side1 => repeat (first | exact (Kd.R_reads' HO118.out).2.2 | (with_reducible refine Kd.C_alloc ?_ _) | (with_reducible refine Kd.C_drewN ?_ _) | (with_reducible refine Kd.C_drew ?_))); (case side2 => exact (Kd.R_reads' HO118.out).2.1); (case side3 => repeat (first | exact (Kd.R_reads' HO135.out).2.2 | (with_reducible refine Kd.C_alloc ?_ _) | (with_reducible refine Kd.C_drewN ?_ _) | (with_reducible refine Kd.C_drew ?_))); (case side4 => exact (Kd.R_reads' HO135.out).2.1); rintro e w' ⟨rfl, ⟨nd, rfl⟩⟩) | ((with_reducible refine gate_dst (N := 78) rfl ?_); (try (refine gate_guard (by rfl) ?_; dsimp only)); refine Kd.R_lit k51 _ 51 ?hg (N := 78) ?hd (xs := ([(⟨(⟨#[115, 116, 100]⟩ : ByteArray), 206, 39⟩ : S51)] : List (S51))) (inner := [.string (⟨#[115, 116, 100]⟩ : ByteArray), .int .i64 206, .int .i64 39]) (ok := fun _ => True) (okp := fun _ => True) ?hr ?hp (fun _ hk => hk) trivial (Below.refl _ _) (Nat.le_refl _) (by simp) ?_; (case hd => rfl); (case hg => rfl); (case hr => first | (go_simp; done) | (go_simp; rfl)); (case hp => exact (Reps.c3 (show Kd.M k51 _ _ _ (⟨(⟨#[115, 116, 100]⟩ : ByteArray), 206, 39⟩ : S51) [.string (⟨#[115, 116, 100]⟩ : ByteArray), .int .i64 206, .int .i64 39] from (k51_mkM _ _ _ (⟨(⟨#[115, 116, 100]⟩ : ByteArray), 206, 39⟩ : S51) )) (Reps.none _ _))); intro v138 w38 ho39 hb hg_ hnew_; clear hg_ hnew_; (first | rw [← Ny137.out] at ho39 | (simp only [Int.reduceToNat] at ho39; rw [← Ny137.out] at ho39)); have n0_ := Aside0.mk (Kd.R_below (by (with_reducible repeat (first | apply Kd.R_alloc | apply Kd.R_drewN | apply Kd.R_drew)); exact HO108.out) hb); have n1_ := Aside0.mk (Kd.R_below (by (with_reducible repeat (first | apply Kd.R_alloc | apply Kd.R_drewN | apply Kd.R_drew)); exact HO111.out) hb); have n2_ := Aside0.mk (Kd.R_below (by (with_reducible repeat (first | apply Kd.R_alloc | apply Kd.R_drewN | apply Kd.R_drew)); exact HO116.out) hb); have n3_ := Aside0.mk (Kd.R_elder' (by (with_reducible repeat (first | apply Kd.R_alloc | apply Kd.R_drewN | apply Kd.R_drew)); exact HO118.out) (Kd.R_base ho39) hb); have n4_ := Aside0.mk (Kd.R_below (by (with_reducible repeat (first | apply Kd.R_alloc | apply Kd.R_drewN | apply Kd.R_drew)); exact HO121.out) hb); have n5_ := Aside0.mk (Kd.R_below (by (with_reducible repeat (first | apply Kd.R_alloc | apply Kd.R_drewN | apply Kd.R_drew)); exact HO126.out) hb); have n6_ := Aside0.mk (Kd.R_elder' (by (with_reducible repeat (first | apply Kd.R_alloc | apply Kd.R_drewN | apply Kd.R_drew)); exact HO128.out) (Kd.R_base ho39) hb); have n7_ := Aside0.mk (Kd.R_below (by (with_reducible repeat (first | apply Kd.R_alloc | apply Kd.R_drewN | apply Kd.R_drew)); exact HO131.out) hb); have n8_ := Aside0.mk (Kd.R_elder' (by (with_reducible repeat (first | apply Kd.R_alloc | apply Kd.R_drewN | apply Kd.R_drew)); exact HO135.out) (Kd.R_base ho39) hb); have n9_ := Aside0.mk (Kd.R_lower (Kd.R_new' (Kd.R_new' (Kd.R_new' ho39 (Kd.R_lt (by (with_reducible repeat (first | apply Kd.R_alloc | apply Kd.R_drewN | apply Kd.R_drew)); exact HO118.out))) (Kd.R_lt (by (with_reducible repeat (first | apply Kd.R_alloc | apply Kd.R_drewN | apply Kd.R_drew)); exact HO128.out))) (Kd.R_lt (by (with_reducible repeat (first | apply Kd.R_alloc | apply Kd.R_drewN | apply Kd.R_drew)); exact HO135.out))) (below_size (by repeat (first | (with_reducible first | exact HB.out | apply below_alloc | apply pw_below_drewN | apply below_drew1) | exact HB.out)))); have n10_ := Aside0.mk (below_step (by repeat (first | (with_reducible first | exact HB.out | apply below_alloc | apply pw_below_drewN | apply below_drew1) | exact HB.out)) hb); clear HO108; clear HO111; clear HO116; clear HO118; clear HO121; clear HO126; clear HO128; clear HO131; clear HO135; clear HB; have HO108 := n0_; have HO111 := n1_; have HO116 := n2_; have HO118 := n3_; have HO121 := n4_; have HO126 := n5_; have HO128 := n6_; have HO131 := n7_; have HO135 := n8_; have HO139 := n9_; have HB := n10_; clear n0_ n1_ n2_ n3_ n4_ n5_ n6_ n7_ n8_ n9_ n10_; clear hb ho39; obtain ⟨Ao40, co40, eo40⟩ := Kd.R_slice HO128.out; subst eo40; obtain ⟨Ao41, co41, eo41⟩ := Kd.R_slice HO139.out; subst eo41) | (go_at_call 21; (with_reducible refine (accountingref25_Same.calls k _ _ t123 _ _ y137 true _ ?side1 ?side2 ?side3 ?side4 A17.out).mono ?_); (case side1 => repeat (first | exact (Kd.R_reads' HO128.out).2.2 | (with_reducible refine Kd.C_alloc ?_ _) | (with_reducible refine Kd.C_drewN ?_ _) | (with_reducible refine Kd.C_drew ?_))); (case side2 => exact (Kd.R_reads' HO128.out).2.1); (case side3 => repeat (first | exact (Kd.R_reads' HO139.out).2.2 | (with_reducible refine Kd.C_alloc ?_ _) | (with_reducible refine Kd.C_drewN ?_ _) | (with_reducible refine Kd.C_drew ?_))); (case side4 => exact (Kd.R_reads' HO139.out).2.1); rintro e w' ⟨rfl, ⟨nd, rfl⟩⟩))
          go_ret
          exact ⟨by first | rfl | (simp [errW_none, errW_some] <;> rfl) | (simp [*, errW_none, errW_some] <;> rfl), by repeat (first | (with_reducible first | exact HB.out | apply below_alloc | apply pw_below_drewN | apply below_drew1) | exact HB.out)⟩
         ·replace c18 := Bool.eq_false_iff.mpr c18
          subst c18
          have H1 : (none) = some r := by rw [if_neg (show ¬ (false = true) by decide)] at H; exact H
          clear H
          have H := H1
          clear H1
          exact absurd H (by simp)
        ·rw [if_neg c16] at H
         exact absurd H (by simp)
       ·replace c15 := Bool.eq_false_iff.mpr c15
        subst c15
        have H1 : (none) = some r := by rw [if_neg (show ¬ (false = true) by decide)] at H; exact H
        clear H
        have H := H1
        clear H1
        exact absurd H (by simp)
      ·replace c13 := Bool.eq_false_iff.mpr c13
       subst c13
       have H1 : (none) = some r := by rw [if_neg (show ¬ (false = true) by decide)] at H; exact H
       clear H
       have H := H1
       clear H1
       exact absurd H (by simp)
     ·rw [if_neg c11] at H
      exact absurd H (by simp)
    ·rw [if_neg c10] at H
     exact absurd H (by simp)
   ·rw [if_neg c9] at H
    exact absurd H (by simp)
  ·rw [if_neg c8] at H
   exact absurd H (by simp)
 ·rw [if_neg c7] at H
  exact absurd H (by simp)
end Go.Proofs.Ytgjpegmhlnabpaa.M
end
section
namespace Go.Proofs.Ytgjpegmhlnabpaa.M
theorem accountinglaw25_lives.true : Ev (fun k => accountinglaw25_lives.f k) true :=
  Ev.mono ⟨140, by decide +kernel⟩ accountinglaw25_lives.mono
end Go.Proofs.Ytgjpegmhlnabpaa.M
end
