/- What the claims of this seat share, part 7 of 7: what the program's functions compute. -/
import Derived.Test.YtoppdlideonjjaaQBB1
import Derived.Test.YtoppdlideonjjaaQBB6
import Derived.Test.YtoppdlideonjjaaQBB4
import Derived.Test.YtoppdlideonjjaaQBB5
section
-- Written by mprint.py (a program of this session) over the kit's print.
namespace Go.Proofs.Ytoppdlideonjjaa.M
open Go.RowKit Go.Proofs.YtoppdlideonjjaaW.PrintWords Go.Proofs.YtoppdlideonjjaaW.PrintLast Go.Proofs.YtoppdlideonjjaaW.PrintMore
attribute [local go_sem] max2_int min2_int max_two min_two max_three min_three max_four min_four   -- for this text's walks alone
set_option linter.unusedVariables false
set_option linter.unusedSimpArgs false

/-! ### accountinglaw32_bolt: function 32 -/
def accountinglaw32_bolt.f  : Option (ByteArray × ByteArray × Int × Int × (List (S61))) := some ((⟨#[98, 111, 108, 116]⟩ : ByteArray), (⟨#[112, 99]⟩ : ByteArray), 1, 0, (([(⟨(⟨#[98, 111, 120]⟩ : ByteArray), (⟨12, 1⟩ : S35)⟩ : S61), (⟨(⟨#[107, 103]⟩ : ByteArray), (⟨25, 2⟩ : S35)⟩ : S61)] : List (S61))))
set_option maxHeartbeats 8000000 in
set_option maxRecDepth 100000 in
theorem accountinglaw32_bolt.calls  (r1 : ByteArray) (r2 : ByteArray) (r3 : Int) (r4 : Int) (r5 : List (S61)) (w : World) (h : accountinglaw32_bolt.f  = some (r1, r2, r3, r4, r5)) :
    Calls Try.prog 32 #[] w fun e w' => ∃ v4_ : Value, e = .returned (.agg #[.string r1, .string r2, .int .i64 r3, .int .i64 r4, v4_]) ∧ Kd.R k61 61 w' w.heap.size (fun _ => True) v4_ r5 ∧ Below w.heap.size w w' := by
 have hu24 := Try.underlying24
 have hu35 := Try.underlying35
 have hu61 := Try.underlying61
 have HB := Aside0.mk (Below.refl w.heap.size w)
 have H : (some ((⟨#[98, 111, 108, 116]⟩ : ByteArray), (⟨#[112, 99]⟩ : ByteArray), 1, 0, (([(⟨(⟨#[98, 111, 120]⟩ : ByteArray), (⟨12, 1⟩ : S35)⟩ : S61), (⟨(⟨#[107, 103]⟩ : ByteArray), (⟨25, 2⟩ : S35)⟩ : S61)] : List (S61))))) = some (r1, r2, r3, r4, r5) := h
 clear h
 obtain ⟨y102, hy102⟩ : ∃ y_ : List (S61), y_ = (([(⟨(⟨#[98, 111, 120]⟩ : ByteArray), (⟨12, 1⟩ : S35)⟩ : S61), (⟨(⟨#[107, 103]⟩ : ByteArray), (⟨25, 2⟩ : S35)⟩ : S61)] : List (S61))) := ⟨_, rfl⟩
 replace H : (some ((⟨#[98, 111, 108, 116]⟩ : ByteArray), (⟨#[112, 99]⟩ : ByteArray), 1, 0, y102)) = some (r1, r2, r3, r4, r5) := by first | (rw [hy102]; with_reducible exact H) | (have H2_ := (Option.bind_some _ _).symm.trans H; rw [hy102]; with_reducible exact H2_) | (have H2_ := (Option.bind_some _ _).symm.trans H; with_reducible exact H2_) | with_reducible exact H | (rw [hy102]; exact H) | exact H
 have Ny102 := Aside0.mk hy102
 clear hy102
 simp only [Option.some.injEq, Prod.mk.injEq] at H
 obtain ⟨rfl, rfl, rfl, rfl, rfl⟩ := H
 go_enter Try.func32, Try.ntmps32
 go_wp2_with (first | ((with_reducible refine gate_dst (N := 0) rfl ?_); refine box_event ?hg (N := 0) ?hd (cs := #[.string (⟨#[]⟩ : ByteArray), .string (⟨#[]⟩ : ByteArray), .int .i64 0, .int .i64 0, .slice none 0 0]) (t := 24) ?hr ?_; (case hd => rfl); (case hg => rfl); (case hr => first | (go_simp; done) | (go_simp; rfl)); intro gb101 hg w1 hbox hb; have n0_ := Aside0.mk (below_step (by repeat (first | (with_reducible first | exact HB.out | apply below_alloc | apply pw_below_drewN | apply below_drew1) | exact HB.out)) hb); have n1_ := Aside0.mk (hbox); have n2_ := Aside0.mk ((by rw [hg]; exact (below_size (by repeat (first | (with_reducible first | exact HB.out | apply below_alloc | apply pw_below_drewN | apply below_drew1) | exact HB.out))) : w.heap.size ≤ gb101)); have n3_ := Aside0.mk ((by rw [hg]; exact (below_size (by repeat (first | (with_reducible first | exact HB.out | apply below_alloc | apply pw_below_drewN | apply below_drew1) | exact HB.out))) : w.heap.size ≤ gb101)); clear HB; have HB := n0_; have BK101 := n1_; have GW101 := n2_; have GE101 := n3_; clear n0_ n1_ n2_ n3_; clear hb hbox hg) | ((with_reducible refine gate_dst (N := 5) rfl ?_); refine Kd.R_lit k61 _ 61 ?hg (N := 5) ?hd (xs := ([(⟨(⟨#[98, 111, 120]⟩ : ByteArray), (⟨12, 1⟩ : S35)⟩ : S61), (⟨(⟨#[107, 103]⟩ : ByteArray), (⟨25, 2⟩ : S35)⟩ : S61)] : List (S61))) (inner := [.string (⟨#[98, 111, 120]⟩ : ByteArray), .int .i64 12, .int .i64 1, .string (⟨#[107, 103]⟩ : ByteArray), .int .i64 25, .int .i64 2]) (ok := fun _ => True) (okp := fun _ => True) ?hr ?hp (fun _ hk => hk) trivial (Below.refl _ _) (Nat.le_refl _) (by simp) ?_; (case hd => rfl); (case hg => rfl); (case hr => first | (go_simp; done) | (go_simp; rfl)); (case hp => exact (Reps.c3 (show Kd.M k61 _ _ _ (⟨(⟨#[98, 111, 120]⟩ : ByteArray), (⟨12, 1⟩ : S35)⟩ : S61) [.string (⟨#[98, 111, 120]⟩ : ByteArray), .int .i64 12, .int .i64 1] from (k61_mkM _ _ _ (⟨(⟨#[98, 111, 120]⟩ : ByteArray), (⟨12, 1⟩ : S35)⟩ : S61) )) (Reps.c3 (show Kd.M k61 _ _ _ (⟨(⟨#[107, 103]⟩ : ByteArray), (⟨25, 2⟩ : S35)⟩ : S61) [.string (⟨#[107, 103]⟩ : ByteArray), .int .i64 25, .int .i64 2] from (k61_mkM _ _ _ (⟨(⟨#[107, 103]⟩ : ByteArray), (⟨25, 2⟩ : S35)⟩ : S61) )) (Reps.none _ _)))); intro v103 w2 ho3 hb hg_ hnew_; clear hg_ hnew_; (first | rw [← Ny102.out] at ho3 | (simp only [Int.reduceToNat] at ho3; rw [← Ny102.out] at ho3)); have n0_ := Aside0.mk (Kd.R_lower ho3 (below_size (by repeat (first | (with_reducible first | exact HB.out | apply below_alloc | apply pw_below_drewN | apply below_drew1 | refine below_set ?_ GE101.out) | exact HB.out)))); have n1_ := Aside0.mk (blk_below (g := gb101) (o := .cells #[.string (⟨#[]⟩ : ByteArray), .string (⟨#[]⟩ : ByteArray), .int .i64 0, .int .i64 0, .slice none 0 0] 24 (0, 0)) (by (with_reducible repeat (first | refine blk_drewN ?_ _ | refine blk_drew ?_ | refine blk_alloc ?_ _)); exact BK101.out) hb); have n2_ := Aside0.mk (below_step (by repeat (first | (with_reducible first | exact HB.out | apply below_alloc | apply pw_below_drewN | apply below_drew1 | refine below_set ?_ GE101.out) | exact HB.out)) hb); clear BK101; clear HB; have HO104 := n0_; have BK101 := n1_; have HB := n2_; clear n0_ n1_ n2_; clear hb ho3; obtain ⟨Ao4, co4, eo4⟩ := Kd.R_slice HO104.out; subst eo4; have hcz5_0 : w2.cell? ⟨gb101, 0, none⟩ = some (.string (⟨#[]⟩ : ByteArray)) := (blk_cell BK101.out 0).trans rfl; have hcz5_1 : w2.cell? ⟨gb101, 1, none⟩ = some (.string (⟨#[]⟩ : ByteArray)) := (blk_cell BK101.out 1).trans rfl; have hcz5_2 : w2.cell? ⟨gb101, 2, none⟩ = some (.int .i64 0) := (blk_cell BK101.out 2).trans rfl; have hcz5_3 : w2.cell? ⟨gb101, 3, none⟩ = some (.int .i64 0) := (blk_cell BK101.out 3).trans rfl; have hcz5_4 : w2.cell? ⟨gb101, 4, none⟩ = some (.slice none 0 0) := (blk_cell BK101.out 4).trans rfl; have hfz5_0 := blk_frozen BK101.out 0; have hfz5_1 := blk_frozen BK101.out 1; have hfz5_2 := blk_frozen BK101.out 2; have hfz5_3 := blk_frozen BK101.out 3; have hfz5_4 := blk_frozen BK101.out 4))
 refine bodyPost_ret (results_cell_row rfl _ _ gb101 24 #[.string (⟨#[98, 111, 108, 116]⟩ : ByteArray), .string (⟨#[112, 99]⟩ : ByteArray), .int .i64 1, .int .i64 0, .slice Ao4 y102.length co4] (0, 0) _ rfl (by (with_reducible repeat (first | refine blk_drewN ?_ _ | refine blk_drew ?_ | refine blk_alloc ?_ _)); refine blk_put (cs := #[.string (⟨#[98, 111, 108, 116]⟩ : ByteArray), .string (⟨#[112, 99]⟩ : ByteArray), .int .i64 1, .int .i64 0, .slice none 0 0]) ?_ 4 _ rfl; (with_reducible repeat (first | refine blk_drewN ?_ _ | refine blk_drew ?_ | refine blk_alloc ?_ _)); refine blk_put (cs := #[.string (⟨#[98, 111, 108, 116]⟩ : ByteArray), .string (⟨#[112, 99]⟩ : ByteArray), .int .i64 1, .int .i64 0, .slice none 0 0]) ?_ 3 _ rfl; (with_reducible repeat (first | refine blk_drewN ?_ _ | refine blk_drew ?_ | refine blk_alloc ?_ _)); refine blk_put (cs := #[.string (⟨#[98, 111, 108, 116]⟩ : ByteArray), .string (⟨#[112, 99]⟩ : ByteArray), .int .i64 0, .int .i64 0, .slice none 0 0]) ?_ 2 _ rfl; (with_reducible repeat (first | refine blk_drewN ?_ _ | refine blk_drew ?_ | refine blk_alloc ?_ _)); refine blk_put (cs := #[.string (⟨#[98, 111, 108, 116]⟩ : ByteArray), .string (⟨#[]⟩ : ByteArray), .int .i64 0, .int .i64 0, .slice none 0 0]) ?_ 1 _ rfl; (with_reducible repeat (first | refine blk_drewN ?_ _ | refine blk_drew ?_ | refine blk_alloc ?_ _)); refine blk_put (cs := #[.string (⟨#[]⟩ : ByteArray), .string (⟨#[]⟩ : ByteArray), .int .i64 0, .int .i64 0, .slice none 0 0]) ?_ 0 _ rfl; (with_reducible repeat (first | refine blk_drewN ?_ _ | refine blk_drew ?_ | refine blk_alloc ?_ _)); exact BK101.out) Try.underlying24 rfl (by kernel_rfl)) rfl ?_
 exact ⟨_, by first | rfl | (simp [errW_none, errW_some] <;> rfl) | (simp [*, errW_none, errW_some] <;> rfl), by (with_reducible repeat (first | apply Kd.R_alloc | apply Kd.R_drewN | apply Kd.R_drew)); exact Kd.R_mono (Kd.R_far (p := ⟨gb101, 4, none⟩) (Kd.R_far (p := ⟨gb101, 3, none⟩) (Kd.R_far (p := ⟨gb101, 2, none⟩) (Kd.R_far (p := ⟨gb101, 1, none⟩) (Kd.R_far (p := ⟨gb101, 0, none⟩) (Kd.R_types HO104.out BK101.out (by decide)) (fun _ hk => hk.2) (.string (⟨#[98, 111, 108, 116]⟩ : ByteArray))) (fun _ hk => hk.2) (.string (⟨#[112, 99]⟩ : ByteArray))) (fun _ hk => hk.2) (.int .i64 1)) (fun _ hk => hk.2) (.int .i64 0)) (fun _ hk => hk.2) (.slice Ao4 y102.length co4)) (fun _ hk => trivial), by repeat (first | (with_reducible first | exact HB.out | apply below_alloc | apply pw_below_drewN | apply below_drew1 | refine below_set ?_ GE101.out) | exact HB.out)⟩

end Go.Proofs.Ytoppdlideonjjaa.M
end
section
/- The examples of the chapter. -/
namespace Go.Proofs.Ytoppdlideonjjaa.M
open Go.RowKit Go.Proofs.YtoppdlideonjjaaW.PrintWords Go.Proofs.YtoppdlideonjjaaW.PrintLast Go.Proofs.YtoppdlideonjjaaW.PrintMore
attribute [local go_sem] max2_int min2_int max_two min_two max_three min_three max_four min_four
set_option linter.unusedVariables false
set_option linter.unusedSimpArgs false
abbrev bo0 : ByteArray := ⟨#[98, 111, 108, 116]⟩
abbrev bo1 : ByteArray := ⟨#[112, 99]⟩
abbrev boU : List Un := [⟨⟨#[98, 111, 120]⟩, ⟨12, 1⟩⟩, ⟨⟨#[107, 103]⟩, ⟨25, 2⟩⟩]
abbrev bo : Pr := ⟨bo0, bo1, 1, 0, boU⟩
abbrev nut : Pr := ⟨⟨#[110, 117, 116]⟩, bo1, 4, 0, []⟩
theorem ex_bolt : accountinglaw32_bolt.f = some (bo0, bo1, 1, 0, boU) := rfl
theorem ex_to1 : items_To.f 60 bo0 bo1 1 0 boU 4 ⟨#[107, 103]⟩ = some (50, 0) := by kernel_rfl
theorem ex_to2 : items_To.f 60 bo0 bo1 1 0 boU 3 ⟨#[107, 103]⟩ = some (0, 2) := by kernel_rfl
theorem ex_to3 : items_To.f 60 bo0 bo1 1 0 boU 3 ⟨#[116]⟩ = some (0, 22) := by kernel_rfl
theorem ex_from1 : items_From.f 60 bo0 bo1 1 0 boU 18 ⟨#[98, 111, 120]⟩ = some (3, 2, 0) := by kernel_rfl
theorem ex_from2 : items_From.f 60 bo0 bo1 1 0 boU (-7) ⟨#[]⟩ = some (-7, 1, 0) := by kernel_rfl
theorem ex_new1 : newf 60 [nut, bo] = some none := by kernel_rfl
theorem ex_new2 : newf 60 [bo, bo] = some (some (1, 8)) := by kernel_rfl
theorem ex_get : getP [nut, bo] ⟨#[110, 117, 116]⟩ = (nut, true) := by rfl
theorem ex_all : ∃ p q, allP [nut, bo] = [p, q] ∧ p.f0 = bo0 := by
  have h : srt ([nut, bo].map (·.f0)) = [bo0, nut.f0] := by
    unfold srt
    have h1 : ([nut, bo].map (·.f0)).map (fun b => b.data.toList) = [[110, 117, 116], [98, 111, 108, 116]] := rfl
    rw [h1, mergeSort_perm_eq (List.Perm.swap _ _ _), List.mergeSort_of_pairwise]
    · rfl
    · simp; decide
  unfold allP
  rw [h]
  exact ⟨_, _, rfl, rfl⟩
theorem two_kept {w w1 : World} {g g' : Nat} {o o' : Obj} (h : w.heap[g]? = some o ∧ w.heap[g']? = some o') (hb : Below w.heap.size w w1) : w1.heap[g]? = some o ∧ w1.heap[g']? = some o' := ⟨blk_below h.1 hb, blk_below h.2 hb⟩
theorem box2 {w w1 : World} {g : Nat} {o : Obj} (h : w.heap[g]? = some o) (hb : Below w.heap.size w w1) : w1.heap[g]? = some o := blk_below h hb
def accountinglaw32_lives.f : Option Bool := some true
attribute [local go_sem high] eqA35
set_option maxHeartbeats 8000000 in
set_option maxRecDepth 100000 in
theorem accountinglaw32_lives.calls (r : Bool) (w : World) (h : accountinglaw32_lives.f = some r) :
    Calls Try.prog 13 #[] w fun e w' => e = .returned (.bool r) ∧ Below w.heap.size w w' := by
  obtain rfl := Option.some.inj h
  clear h
  have HB := Aside0.mk (Below.refl w.heap.size w)
  go_enter Try.func13, Try.ntmps13
  go_upto_region 4 with (first
    | (go_at_call 32; refine (accountinglaw32_bolt.calls _ _ _ _ _ _ ex_bolt).mono ?_; rintro e w1 ⟨v1, rfl, hR, hb⟩; obtain ⟨Ab, cb, rfl, hcb, hCb⟩ := Kd.R_reads hR; have n0_ := Aside0.mk (below_then HB.out HB.out.size hb); have HCb := Aside0.mk hCb; clear HB hR hb hCb; have HB := n0_; clear n0_)
    | (go_at_call 16; refine (items_To.calls 60 bo0 bo1 1 0 Ab cb boU _ _ _ _ _ HCb.out hcb (by first | exact ex_to1 | exact ex_to2 | exact ex_to3)).mono ?_; rintro e w2 ⟨rfl, hb⟩; have n0_ := Aside0.mk (below_then HB.out HB.out.size hb); clear HB hb; have HB := n0_; clear n0_))
  go_upto_region 5 with (first
    | (go_at_call 32; refine (accountinglaw32_bolt.calls _ _ _ _ _ _ ex_bolt).mono ?_; rintro e w1 ⟨v1, rfl, hR, hb⟩; obtain ⟨Ab, cb, rfl, hcb, hCb⟩ := Kd.R_reads hR; have n0_ := Aside0.mk (below_then HB.out HB.out.size hb); have n1_ := trivial; have HCb := Aside0.mk hCb; clear HB hR hCb hb; have HB := n0_; clear n0_ n1_)
    | (go_at_call 18; refine (items_From.calls 60 bo0 bo1 1 0 Ab cb boU _ _ _ _ _ _ HCb.out hcb ex_from1).mono ?_; rintro e w2 ⟨rfl, hb⟩; have n0_ := Aside0.mk (below_then HB.out HB.out.size hb); clear HB hb; have HB := n0_; clear n0_))
  refine nameW ?_
  intro W4 hW
  have HX : Aside0 (W4.heap[w2.heap.size]? = some (.cells #[.int .i64 3, .int .i64 2] 35 (0, 0))) := ⟨by rw [← hW]; exact blk_new w2 _⟩
  have HB4 : Aside0 (Below w.heap.size w W4) := ⟨by rw [← hW]; exact HB.out.alloc HB.out.size _⟩
  clear hW HB
  have HB := HB4
  clear HB4
  obtain ⟨g7, hg7⟩ : ∃ g, w2.heap.size = g := ⟨_, rfl⟩
  rw [hg7] at HX ⊢
  clear hg7
  go_upto_region 6 with (first
    | (go_at_call 32; refine (accountinglaw32_bolt.calls _ _ _ _ _ _ ex_bolt).mono ?_; rintro e w1 ⟨v1, rfl, hR, hb⟩; obtain ⟨Ab, cb, rfl, hcb, hCb⟩ := Kd.R_reads hR; have n0_ := Aside0.mk (below_then HB.out HB.out.size hb); have n1_ := Aside0.mk (box2 HX.out hb); have HCb := Aside0.mk hCb; clear HB hR hCb hb HX; have HB := n0_; have HX := n1_; clear n0_ n1_)
    | (go_at_call 18; refine (items_From.calls 60 bo0 bo1 1 0 Ab cb boU _ _ _ _ _ _ HCb.out hcb ex_from2).mono ?_; rintro e w2 ⟨rfl, hb⟩; have n0_ := Aside0.mk (below_then HB.out HB.out.size hb); have n1_ := Aside0.mk (box2 HX.out hb); clear HX; have HX := n1_; clear n1_; clear HB hb; have HB := n0_; clear n0_))
  refine nameW ?_
  intro W5 hW
  have HY : Aside0 (W5.heap[w2.heap.size]? = some (.cells #[.int .i64 (-7), .int .i64 1] 35 (0, 0))) := ⟨by rw [← hW]; exact blk_new w2 _⟩
  have HX5 : Aside0 (W5.heap[g7]? = some (.cells #[.int .i64 3, .int .i64 2] 35 (0, 0))) := ⟨by rw [← hW]; exact blk_alloc HX.out _⟩
  have HB5 : Aside0 (Below w.heap.size w W5) := ⟨by rw [← hW]; exact HB.out.alloc HB.out.size _⟩
  clear hW HB HX
  have HB := HB5
  have HX := HX5
  clear HB5 HX5
  obtain ⟨g9, hg9⟩ : ∃ g, w2.heap.size = g := ⟨_, rfl⟩
  rw [hg9] at HY ⊢
  clear hg9
  have HXY := Aside0.mk (show W5.heap[g7]? = some (.cells #[.int .i64 3, .int .i64 2] 35 (0, 0)) ∧ W5.heap[g9]? = some (.cells #[.int .i64 (-7), .int .i64 1] 35 (0, 0)) from ⟨HX.out, HY.out⟩)
  clear HX HY
  have HX := HXY
  clear HXY
  go_upto_region 7 with (first
    | (go_at_call 32; refine (accountinglaw32_bolt.calls _ _ _ _ _ _ ex_bolt).mono ?_; rintro e w1 ⟨v1, rfl, hR, hb⟩; have n0_ := Aside0.mk (below_then HB.out HB.out.size hb); have n1_ := Aside0.mk (two_kept HX.out hb); have n2_ := Aside0.mk (Kd.R_lower hR HB.out.size); clear HB HX hR hb; have HB := n0_; have HX := n1_; have HRb := n2_; clear n0_ n1_ n2_)
    | (refine Kd.R_lit kPr (w0 := w) w.heap.size 24 rfl (N := 48) rfl (xs := [nut, bo]) (inner := _) (okp := fun _ => True) (ok := fun _ => True) ?hr (Reps.snoc (Reps.snoc (Reps.none _ _) (k24_mkM _ w.heap.size _ nut (Kd.R_nil _ _ _ _ _)) rfl) (k24_mkM _ w.heap.size _ bo HRb.out) rfl) (fun _ _ => trivial) trivial HB.out HB.out.size (by simp) ?_; (case hr => first | (go_simp; done) | (go_simp; rfl)); intro v2 w3 ho hb hg hnew; obtain ⟨Al, cl, rfl, hcl, hCl⟩ := Kd.R_reads ho; have HCl := Aside0.mk hCl; have n1_ := Aside0.mk (⟨blk_grown HX.out.1 hg (by simp), blk_grown HX.out.2 hg (by simp)⟩ : _ ∧ _); have n2_ := Aside0.mk (Kd.R_grown HRb.out hg (by simp)); clear HRb; have HRb := n2_; clear n2_; clear HB HX ho hCl hg hnew; have HB := Aside0.mk hb; have HX := n1_; clear n1_ hb)
    | (go_at_call 21; refine (items_New.calls 60 Al cl [nut, bo] _ _ HCl.out hcl (by decide) (by decide) ex_new1).mono ?_; rintro e w4 ⟨gx, rfl, hls, hb⟩; have n0_ := Aside0.mk (below_then HB.out HB.out.size hb); have n1_ := Aside0.mk (two_kept HX.out hb); have n2_ := Aside0.mk (Kd.R_below HRb.out hb); have HLS := Aside0.mk hls; clear HB HX HRb hls hb; have HB := n0_; have HX := n1_; have HRb := n2_; clear n0_ n1_ n2_))
  go_upto_region 8 with (first
    | (go_at_call 32; refine (accountinglaw32_bolt.calls _ _ _ _ _ _ ex_bolt).mono ?_; rintro e w1 ⟨v1, rfl, hR, hb⟩; have n0_ := Aside0.mk (below_then HB.out HB.out.size hb); have n1_ := Aside0.mk (two_kept HX.out hb); have n2_ := Aside0.mk (Kd.R_lower hR HB.out.size); have HRa := Aside0.mk (Kd.R_below HRb.out hb); have n3_ := Aside0.mk (HLS.out.below hb); clear HB HX HRb hR HLS hb; have HB := n0_; have HX := n1_; have HRb := n2_; have HLS := n3_; clear n0_ n1_ n2_ n3_)
    | (refine Kd.R_lit kPr (w0 := w) w.heap.size 24 rfl (N := 56) rfl (xs := [bo, bo]) (inner := _) (okp := fun _ => True) (ok := fun _ => True) ?hr (Reps.snoc (Reps.snoc (Reps.none _ _) (k24_mkM _ w.heap.size _ bo HRa.out) rfl) (k24_mkM _ w.heap.size _ bo HRb.out) rfl) (fun _ _ => trivial) trivial HB.out HB.out.size (by simp) ?_; (case hr => first | (go_simp; done) | (go_simp; rfl)); intro v2 w3 ho hb hg hnew; obtain ⟨Al, cl, rfl, hcl, hCl⟩ := Kd.R_reads ho; have HCl := Aside0.mk hCl; have n1_ := Aside0.mk (⟨blk_grown HX.out.1 hg (by simp), blk_grown HX.out.2 hg (by simp)⟩ : _ ∧ _); have n3_ := Aside0.mk (HLS.out.step (fun k _ hk => hg.block k hk (by simp))); clear HB HX HLS HRa HRb ho hCl hg hnew; have HB := Aside0.mk hb; have HX := n1_; have HLS := n3_; clear n1_ n3_ hb)
    | (go_at_call 21; refine (items_New.calls 60 Al cl [bo, bo] _ _ HCl.out hcl (by decide) (by decide) ex_new2).mono ?_; rintro e w4 ⟨rfl, hb⟩; have n0_ := Aside0.mk (below_then HB.out HB.out.size hb); have n1_ := Aside0.mk (two_kept HX.out hb); have n2_ := Aside0.mk (HLS.out.below hb); clear HB HX HLS hb; have HB := n0_; have HX := n1_; have HLS := n2_; clear n0_ n1_ n2_))
  obtain ⟨⟨L, hKL, hL⟩, _, _, _⟩ := HLS.out
  have hlL : L.length = 2 := by have := congrArg List.length hL; simpa using this
  go_upto_region 10 with (first
    | (go_at_call 25; refine (list_len.calls L _ gx _ hKL).mono ?_; rintro e w5 ⟨rfl, rfl⟩; rw [hlL]))
  clear hKL hL hlL
  go_upto_region 11 with (first
    | (go_at_call 23; refine (list_get.calls _ [nut, bo] _ gx nut true _ HLS.out ex_get (by decide)).mono ?_; rintro e w5 ⟨v5, rfl, hR, hb⟩; obtain ⟨A5, c5, rfl⟩ := Kd.R_slice hR; have n0_ := Aside0.mk (below_then HB.out HB.out.size hb); have n1_ := Aside0.mk (two_kept HX.out hb); have n2_ := Aside0.mk (HLS.out.below hb); clear HB HX HLS hR hb; have HB := n0_; have HX := n1_; have HLS := n2_; clear n0_ n1_ n2_))
  refine nameW ?_
  intro W6 hW
  have hbl : Below w5.heap.size w5 W6 := by rw [← hW]; exact below_alloc (Below.refl _ _) _
  have HP : Aside0 (W6.heap[w5.heap.size]? = some (.cells #[.string nut.f0, .string nut.f1, .int .i64 4, .int .i64 0, .slice A5 0 c5] 24 (0, 0))) := ⟨by rw [← hW]; exact blk_new w5 _⟩
  have n0_ := Aside0.mk (below_then HB.out HB.out.size hbl)
  have n1_ := Aside0.mk (two_kept HX.out hbl)
  have n2_ := Aside0.mk (HLS.out.below hbl)
  clear HB HX HLS hbl hW
  have HB := n0_
  have HX := n1_
  have HLS := n2_
  clear n0_ n1_ n2_
  obtain ⟨g17, hg⟩ : ∃ g, w5.heap.size = g := ⟨_, rfl⟩
  rw [hg] at HP ⊢
  clear hg
  obtain ⟨p, q, hall, hp0⟩ := ex_all
  go_upto_region 12 with (first
    | (go_at_call 28; refine (list_all.calls [nut, bo] _ gx _ HLS.out (by decide)).mono ?_; rw [hall]; rintro e w7 ⟨v7, rfl, hR, hb⟩; obtain ⟨A7, c7, rfl, hc7, hC7⟩ := Kd.R_reads hR; have HC7 := Aside0.mk hC7; have n0_ := Aside0.mk (below_then HB.out HB.out.size hb); have n1_ := Aside0.mk (two_kept HX.out hb); have n2_ := Aside0.mk (box2 HP.out hb); clear HB HX HLS HP hR hb hC7; have HB := n0_; have HX := n1_; have HP := n2_; clear n0_ n1_ n2_))
  obtain ⟨ad, A8, c8, e8, hp_0, _⟩ := at_T24 HC7.out 0 (by decide) (by simp)
  cases e8
  have hp_1 : w7.cell? ad = some (.string bo0) := by
    rw [show ad = ad.add 0 by simp [Addr.add]]
    have h1 : w7.cell? (ad.add 0) = some (.string (rd_T24 [p, q] 0).f0) := hp_0
    rw [h1]
    show some (Value.string p.f0) = _
    rw [hp0]
  have hk0 := (blk_cell HX.out.1 0).trans rfl
  have hk1 := (blk_cell HX.out.1 1).trans rfl
  have hk2 := (blk_cell HX.out.2 0).trans rfl
  have hk3 := (blk_cell HX.out.2 1).trans rfl
  have hk4 := (blk_cell HP.out 2).trans rfl
  clear hp_0
  go_wp2
  go_ret
  exact ⟨rfl, HB.out⟩
end Go.Proofs.Ytoppdlideonjjaa.M
end
section
-- Written by mprint.py (a program of this session) over the kit's print.
namespace Go.Proofs.Ytoppdlideonjjaa.M
open Go.RowKit Go.Proofs.YtoppdlideonjjaaW.PrintWords Go.Proofs.YtoppdlideonjjaaW.PrintLast Go.Proofs.YtoppdlideonjjaaW.PrintMore
attribute [local go_sem] max2_int min2_int max_two min_two max_three min_three max_four min_four   -- for this text's walks alone
set_option linter.unusedVariables false
set_option linter.unusedSimpArgs false

/-! ### accountinglaw32_large: function 12 -/
mutual
def accountinglaw32_large.j0 : Nat → Bool → ByteArray → ByteArray → Int → Int → List (S61) → Option (Bool)
  | 0, _, _, _, _, _, _ => none
  | k + 1, x17, x102000, x102001, x102002, x102003, x102004 => if x17 = true then (some true) else (accountinglaw32_large.l0 k 0 x102000 x102001 x102002 x102003 x102004)
def accountinglaw32_large.l0 : Nat → Int → ByteArray → ByteArray → Int → Int → List (S61) → Option (Bool)
  | 0, _, _, _, _, _, _ => none
  | k + 1, x3, x102000, x102001, x102002, x102003, x102004 => if x3 < (x102004.length : Int) then (if 0 ≤ x3 then (if (((rd_T61 x102004 x3).f0).size : Int) > 100 then (some true) else (accountinglaw32_large.l0 k (wrap64 (x3 + 1)) x102000 x102001 x102002 x102003 x102004)) else (none)) else (some false)
end
def accountinglaw32_large.f (k : Nat) (a0_0 : ByteArray) (a0_1 : ByteArray) (a0_2 : Int) (a0_3 : Int) (l0_4 : List (S61)) : Option (Bool) := if (l0_4.length : Int) > 40 then (accountinglaw32_large.j0 k true a0_0 a0_1 a0_2 a0_3 l0_4) else (accountinglaw32_large.j0 k (decide ((wrap64 ((a0_0.size : Int) + (a0_1.size : Int))) > 200)) a0_0 a0_1 a0_2 a0_3 l0_4)
theorem accountinglaw32_large.mono_l : ∀ k, (∀ y0 y1 y2 y3 y4 y5, LeO (accountinglaw32_large.j0 k y0 y1 y2 y3 y4 y5) (accountinglaw32_large.j0 (k + 1) y0 y1 y2 y3 y4 y5)) ∧ (∀ y0 y1 y2 y3 y4 y5, LeO (accountinglaw32_large.l0 k y0 y1 y2 y3 y4 y5) (accountinglaw32_large.l0 (k + 1) y0 y1 y2 y3 y4 y5))
  | 0 => ⟨fun _ _ _ _ _ _ r h => by simp [accountinglaw32_large.j0] at h, fun _ _ _ _ _ _ r h => by simp [accountinglaw32_large.l0] at h⟩
  | k + 1 => by
    obtain ⟨ih0, ih1⟩ := accountinglaw32_large.mono_l k
    refine ⟨?_, ?_⟩
    · intro y0 y1 y2 y3 y4 y5
      unfold accountinglaw32_large.j0
      repeat' first
      | (with_reducible exact ih0 _ _ _ _ _ _)
      | (with_reducible exact ih1 _ _ _ _ _ _)
      | (with_reducible exact LeO.refl _)
      | (with_reducible exact LeO.none _)
      | (with_reducible refine LeO.ite ?_ ?_)
      | (with_reducible refine LeO.bind ?_ (fun _ => ?_))
      | exact ih0 _ _ _ _ _ _
      | exact ih1 _ _ _ _ _ _
      | exact LeO.none _
      | refine LeO.ite ?_ ?_
      | refine LeO.bind ?_ (fun _ => ?_)
    · intro y0 y1 y2 y3 y4 y5
      unfold accountinglaw32_large.l0
      repeat' first
      | (with_reducible exact ih0 _ _ _ _ _ _)
      | (with_reducible exact ih1 _ _ _ _ _ _)
      | (with_reducible exact LeO.refl _)
      | (with_reducible exact LeO.none _)
      | (with_reducible refine LeO.ite ?_ ?_)
      | (with_reducible refine LeO.bind ?_ (fun _ => ?_))
      | exact ih0 _ _ _ _ _ _
      | exact ih1 _ _ _ _ _ _
      | exact LeO.none _
      | refine LeO.ite ?_ ?_
      | refine LeO.bind ?_ (fun _ => ?_)
theorem accountinglaw32_large.mono : ∀ a0 a1 a2 a3 a4 k, LeO (accountinglaw32_large.f k a0 a1 a2 a3 a4) (accountinglaw32_large.f (k + 1) a0 a1 a2 a3 a4) := by
 intro a0 a1 a2 a3 a4 k
 obtain ⟨ih0, ih1⟩ := accountinglaw32_large.mono_l k
 unfold accountinglaw32_large.f
 repeat' first
   | (with_reducible exact ih0 _ _ _ _ _ _)
   | (with_reducible exact ih1 _ _ _ _ _ _)
   | (with_reducible exact LeO.refl _)
   | (with_reducible exact LeO.none _)
   | (with_reducible refine LeO.ite ?_ ?_)
   | (with_reducible refine LeO.bind ?_ (fun _ => ?_))
   | exact ih0 _ _ _ _ _ _
   | exact ih1 _ _ _ _ _ _
   | exact LeO.none _
   | refine LeO.ite ?_ ?_
   | refine LeO.bind ?_ (fun _ => ?_)
set_option maxHeartbeats 8000000 in
set_option maxRecDepth 100000 in
theorem accountinglaw32_large.calls (k : Nat) (a0_0 : ByteArray) (a0_1 : ByteArray) (a0_2 : Int) (a0_3 : Int) (A0_4 : Option Addr) (c0_4 : Nat) (l0_4 : List (S61)) (r : Bool) (w : World) (hr0_4 : Kd.C k61 w A0_4 l0_4.length l0_4) (hc0_4 : l0_4.length ≤ c0_4) (h : accountinglaw32_large.f k a0_0 a0_1 a0_2 a0_3 l0_4 = some r) :
    Calls Try.prog 12 #[.agg #[.string a0_0, .string a0_1, .int .i64 a0_2, .int .i64 a0_3, .slice A0_4 l0_4.length c0_4]] w fun e w' => e = .returned (.bool r) ∧ Below w.heap.size w w' := by
 have hu24 := Try.underlying24
 have hu22 := Try.underlying22
 have hu9 := Try.underlying9
 have HR0_4 := Aside0.mk hr0_4
 have HC0_4 := Aside0.mk hc0_4
 clear hr0_4 hc0_4
 have HB := Aside0.mk (Below.refl w.heap.size w)
 have H : (if (l0_4.length : Int) > 40 then (accountinglaw32_large.j0 k true a0_0 a0_1 a0_2 a0_3 l0_4) else (accountinglaw32_large.j0 k (decide ((wrap64 ((a0_0.size : Int) + (a0_1.size : Int))) > 200)) a0_0 a0_1 a0_2 a0_3 l0_4)) = some r := h
 clear h
 have HC2 := Aside0.mk H
 clear H
 go_enter Try.func12, Try.ntmps12
 go_upto_region 1 with (first | ((with_reducible refine gate_dst (N := 1) rfl ?_); (try (refine gate_guard (by rfl) ?_; dsimp only)); refine box_event ?hg (N := 1) ?hd (cs := #[.string a0_0, .string a0_1, .int .i64 a0_2, .int .i64 a0_3, .slice A0_4 l0_4.length c0_4]) (t := 24) ?hr ?_; (case hd => rfl); (case hg => rfl); (case hr => first | (go_simp; done) | (go_simp; rfl)); intro gb101 hg w3 hbox hb; have n0_ := Aside0.mk (below_step (by repeat (first | (with_reducible first | exact HB.out | apply below_alloc | apply pw_below_drewN | apply below_drew1) | exact HB.out)) hb); have n1_ := Aside0.mk (hbox); have n2_ := Aside0.mk ((by rw [hg]; exact (below_size (by repeat (first | (with_reducible first | exact HB.out | apply below_alloc | apply pw_below_drewN | apply below_drew1) | exact HB.out))) : w.heap.size ≤ gb101)); have n3_ := Aside0.mk ((by rw [hg]; exact (below_size (by repeat (first | (with_reducible first | exact HB.out | apply below_alloc | apply pw_below_drewN | apply below_drew1) | exact HB.out))) : w.heap.size ≤ gb101)); clear HB; have HB := n0_; have BK101 := n1_; have GW101 := n2_; have GE101 := n3_; clear n0_ n1_ n2_ n3_; clear hb hbox hg))
 (try simp only [Act.put, List.setIfInBounds_toArray, List.set_cons_zero, List.set_cons_succ])
 go_cut [17] (fun v17 wc => ∃ (kq : Nat) (x17_1 : Bool), v17 = .bool x17_1 ∧ Aside0 (accountinglaw32_large.j0 kq x17_1 a0_0 a0_1 a0_2 a0_3 l0_4 = some r) ∧ Aside0 (kq ≤ k) ∧ Aside0 (wc.heap[gb101]? = some (.cells #[.string a0_0, .string a0_1, .int .i64 a0_2, .int .i64 a0_3, (.slice A0_4 l0_4.length c0_4)] 24 (0, 0))) ∧ Aside0 (Below w.heap.size w wc))
 case first =>
  have H := HC2.out
  clear HC2
  by_cases c4 : (l0_4.length : Int) > 40
  ·rw [if_pos c4] at H
   have c4b0 : decide (40 < (l0_4.length : Int)) = true := decide_eq_true c4
   have c4b1 : decide (40 < l0_4.length) = true := decide_eq_true (by omega)
   clear c4
   (first | rw [c4b0] | (simp only [i64_w, i32_w]; rw [c4b0]) | skip)
   have H' := Aside0.mk H
   clear H
   have hcz5_0 : w3.cell? ⟨gb101, 0, none⟩ = some (.string a0_0) := (blk_cell BK101.out 0).trans rfl
   have hcz5_1 : w3.cell? ⟨gb101, 1, none⟩ = some (.string a0_1) := (blk_cell BK101.out 1).trans rfl
   have hcz5_2 : w3.cell? ⟨gb101, 2, none⟩ = some (.int .i64 a0_2) := (blk_cell BK101.out 2).trans rfl
   have hcz5_3 : w3.cell? ⟨gb101, 3, none⟩ = some (.int .i64 a0_3) := (blk_cell BK101.out 3).trans rfl
   have hcz5_4 : w3.cell? ⟨gb101, 4, none⟩ = some (.slice A0_4 l0_4.length c0_4) := (blk_cell BK101.out 4).trans rfl
   have hfz5_0 := blk_frozen BK101.out 0
   have hfz5_1 := blk_frozen BK101.out 1
   have hfz5_2 := blk_frozen BK101.out 2
   have hfz5_3 := blk_frozen BK101.out 3
   have hfz5_4 := blk_frozen BK101.out 4
   go_wp2
   go_meet
   case rel => exact ⟨_, (true), (by first | rfl | (simp; done) | (simp [*]; done)), H', ⟨by first | omega | exact Nat.le_refl _⟩, ⟨by (with_reducible repeat (first | refine blk_drewN ?_ _ | refine blk_drew ?_ | refine blk_alloc ?_ _)); exact BK101.out⟩, ⟨by repeat (first | (with_reducible first | exact HB.out | apply below_alloc | apply pw_below_drewN | apply below_drew1 | refine below_set ?_ GE101.out) | exact HB.out)⟩⟩
  ·rw [if_neg c4] at H
   have c4b0 : decide (40 < (l0_4.length : Int)) = false := decide_eq_false c4
   have c4b1 : decide (40 < l0_4.length) = false := decide_eq_false (by omega)
   clear c4
   (first | rw [c4b0] | (simp only [i64_w, i32_w]; rw [c4b0]) | skip)
   have H' := Aside0.mk H
   clear H
   have hcz6_0 : w3.cell? ⟨gb101, 0, none⟩ = some (.string a0_0) := (blk_cell BK101.out 0).trans rfl
   have hcz6_1 : w3.cell? ⟨gb101, 1, none⟩ = some (.string a0_1) := (blk_cell BK101.out 1).trans rfl
   have hcz6_2 : w3.cell? ⟨gb101, 2, none⟩ = some (.int .i64 a0_2) := (blk_cell BK101.out 2).trans rfl
   have hcz6_3 : w3.cell? ⟨gb101, 3, none⟩ = some (.int .i64 a0_3) := (blk_cell BK101.out 3).trans rfl
   have hcz6_4 : w3.cell? ⟨gb101, 4, none⟩ = some (.slice A0_4 l0_4.length c0_4) := (blk_cell BK101.out 4).trans rfl
   have hfz6_0 := blk_frozen BK101.out 0
   have hfz6_1 := blk_frozen BK101.out 1
   have hfz6_2 := blk_frozen BK101.out 2
   have hfz6_3 := blk_frozen BK101.out 3
   have hfz6_4 := blk_frozen BK101.out 4
   go_wp2
   go_meet
   case rel => exact ⟨_, (decide ((wrap64 ((a0_0.size : Int) + (a0_1.size : Int))) > 200)), (by first | rfl | (simp; done) | (simp [*]; done)), H', ⟨by first | omega | exact Nat.le_refl _⟩, ⟨by (with_reducible repeat (first | refine blk_drewN ?_ _ | refine blk_drew ?_ | refine blk_alloc ?_ _)); exact BK101.out⟩, ⟨by repeat (first | (with_reducible first | exact HB.out | apply below_alloc | apply pw_below_drewN | apply below_drew1 | refine below_set ?_ GE101.out) | exact HB.out)⟩⟩
 case rest =>
  clear HC2
  try clear c1
  try clear p2
  try clear c4
  try clear c4b0
  try clear c4b1
  try clear p6
  try clear hcz5_0
  try clear hcz5_1
  try clear hcz5_2
  try clear hcz5_3
  try clear hcz5_4
  try clear hcz6_0
  try clear hcz6_1
  try clear hcz6_2
  try clear hcz6_3
  try clear hcz6_4
  try clear hfz5_0
  try clear hfz5_1
  try clear hfz5_2
  try clear hfz5_3
  try clear hfz5_4
  try clear hfz6_0
  try clear hfz6_1
  try clear hfz6_2
  try clear hfz6_3
  try clear hfz6_4
  obtain ⟨kq, x17_1, rfl, HA, HJ1, BK101, HB⟩ := hcut
  cases kq with
  | zero => exact absurd HA.out (by simp [accountinglaw32_large.j0])
  | succ kj1 =>
   have H := HA.out
   clear HA
   simp only [accountinglaw32_large.j0] at H
   by_cases c7 : x17_1 = true
   ·subst c7
    have H1 : (some true) = some r := by rw [if_pos rfl] at H; exact H
    clear H
    have H := H1
    clear H1
    obtain rfl := Option.some.inj H
    go_wp2
    go_ret
    exact ⟨by first | rfl | (simp [errW_none, errW_some] <;> rfl) | (simp [*, errW_none, errW_some] <;> rfl), by repeat (first | (with_reducible first | exact HB.out | apply below_alloc | apply pw_below_drewN | apply below_drew1 | refine below_set ?_ GE101.out) | exact HB.out)⟩
   ·replace c7 := Bool.eq_false_iff.mpr c7
    subst c7
    have H1 : (accountinglaw32_large.l0 kj1 0 a0_0 a0_1 a0_2 a0_3 l0_4) = some r := by rw [if_neg (show ¬ (false = true) by decide)] at H; exact H
    clear H
    have H := H1
    clear H1
    have H' := Aside0.mk H
    clear H
    go_wp2
    go_loopg [3] kj1 (fun kq v3 w' => ∃ (x3_2 : Int), v3 = .int .i64 x3_2 ∧ Aside0 (accountinglaw32_large.l0 kq x3_2 a0_0 a0_1 a0_2 a0_3 l0_4 = some r) ∧ Aside0 (kq ≤ kj1) ∧ Aside0 (w'.heap[gb101]? = some (.cells #[.string a0_0, .string a0_1, .int .i64 a0_2, .int .i64 a0_3, (.slice A0_4 l0_4.length c0_4)] 24 (0, 0))) ∧ Aside0 (Below w.heap.size w w'))
    case atStart => exact ⟨(0), (by first | rfl | (simp; done) | (simp [*]; done)), H', ⟨Nat.le_refl _⟩, ⟨by (with_reducible repeat (first | refine blk_drewN ?_ _ | refine blk_drew ?_ | refine blk_alloc ?_ _)); exact BK101.out⟩, ⟨by repeat (first | (with_reducible first | exact HB.out | apply below_alloc | apply pw_below_drewN | apply below_drew1 | refine below_set ?_ GE101.out) | exact HB.out)⟩⟩
    case round =>
     clear H'
     try clear c1
     try clear p2
     try clear c4
     try clear c4b0
     try clear c4b1
     try clear p6
     try clear c7
     try clear hcz5_0
     try clear hcz5_1
     try clear hcz5_2
     try clear hcz5_3
     try clear hcz5_4
     try clear hcz6_0
     try clear hcz6_1
     try clear hcz6_2
     try clear hcz6_3
     try clear hcz6_4
     try clear hfz5_0
     try clear hfz5_1
     try clear hfz5_2
     try clear hfz5_3
     try clear hfz5_4
     try clear hfz6_0
     try clear hfz6_1
     try clear hfz6_2
     try clear hfz6_3
     try clear hfz6_4
     try clear p2
     try clear p6
     obtain ⟨x3_2, rfl, HA, HK2, BK101, HB⟩ := hrel
     cases gk with
     | zero => exact absurd HA.out (by simp [accountinglaw32_large.l0])
     | succ k2 =>
      have H := HA.out
      clear HA
      simp only [accountinglaw32_large.l0] at H
      by_cases c8 : x3_2 < (l0_4.length : Int)
      ·rw [if_pos c8] at H
       have c8b0 : decide (x3_2 < (l0_4.length : Int)) = true := decide_eq_true c8
       clear c8
       by_cases c9 : 0 ≤ x3_2
       ·rw [if_pos c9] at H
        have c9b0 : decide (0 ≤ x3_2) = true := decide_eq_true c9
        clear c9
        by_cases c10 : (((rd_T61 l0_4 x3_2).f0).size : Int) > 100
        ·rw [if_pos c10] at H
         have c10b0 : decide (100 < (((rd_T61 l0_4 x3_2).f0).size : Int)) = true := decide_eq_true c10
         have c10b1 : decide (100 < ((rd_T61 l0_4 x3_2).f0).size) = true := decide_eq_true (by omega)
         clear c10
         obtain rfl := Option.some.inj H
         have hcz11_0 : wr.cell? ⟨gb101, 0, none⟩ = some (.string a0_0) := (blk_cell BK101.out 0).trans rfl
         have hcz11_1 : wr.cell? ⟨gb101, 1, none⟩ = some (.string a0_1) := (blk_cell BK101.out 1).trans rfl
         have hcz11_2 : wr.cell? ⟨gb101, 2, none⟩ = some (.int .i64 a0_2) := (blk_cell BK101.out 2).trans rfl
         have hcz11_3 : wr.cell? ⟨gb101, 3, none⟩ = some (.int .i64 a0_3) := (blk_cell BK101.out 3).trans rfl
         have hcz11_4 : wr.cell? ⟨gb101, 4, none⟩ = some (.slice A0_4 l0_4.length c0_4) := (blk_cell BK101.out 4).trans rfl
         have hfz11_0 := blk_frozen BK101.out 0
         have hfz11_1 := blk_frozen BK101.out 1
         have hfz11_2 := blk_frozen BK101.out 2
         have hfz11_3 := blk_frozen BK101.out 3
         have hfz11_4 := blk_frozen BK101.out 4
         have p102 : 0 ≤ (x3_2 : Int) := of_decide_eq_true (by first | (with_reducible assumption) | assumption)
         have q102 : x3_2 < (l0_4.length : Int) := of_decide_eq_true (by first | (with_reducible assumption) | assumption)
         obtain ⟨ad102, e102, hx102_0, hx102_1, hx102_2⟩ := at_T61 HR0_4.out x3_2 p102 q102
         cases e102
         replace hx102_0 := (HB.out.cell (World.block_lt_of_cell? w _ hx102_0)).trans hx102_0
         replace hx102_1 := (HB.out.cell (World.block_lt_of_cell? w _ hx102_1)).trans hx102_1
         replace hx102_2 := (HB.out.cell (World.block_lt_of_cell? w _ hx102_2)).trans hx102_2
         replace p102 := eq_true p102
         replace q102 := eq_true q102
         go_wp2
         go_ret
         exact ⟨by first | rfl | (simp [errW_none, errW_some] <;> rfl) | (simp [*, errW_none, errW_some] <;> rfl), by repeat (first | (with_reducible first | exact HB.out | apply below_alloc | apply pw_below_drewN | apply below_drew1 | refine below_set ?_ GE101.out) | exact HB.out)⟩
        ·rw [if_neg c10] at H
         have c10b0 : decide (100 < (((rd_T61 l0_4 x3_2).f0).size : Int)) = false := decide_eq_false c10
         have c10b1 : decide (100 < ((rd_T61 l0_4 x3_2).f0).size) = false := decide_eq_false (by omega)
         clear c10
         have H' := Aside0.mk H
         clear H
         have hcz12_0 : wr.cell? ⟨gb101, 0, none⟩ = some (.string a0_0) := (blk_cell BK101.out 0).trans rfl
         have hcz12_1 : wr.cell? ⟨gb101, 1, none⟩ = some (.string a0_1) := (blk_cell BK101.out 1).trans rfl
         have hcz12_2 : wr.cell? ⟨gb101, 2, none⟩ = some (.int .i64 a0_2) := (blk_cell BK101.out 2).trans rfl
         have hcz12_3 : wr.cell? ⟨gb101, 3, none⟩ = some (.int .i64 a0_3) := (blk_cell BK101.out 3).trans rfl
         have hcz12_4 : wr.cell? ⟨gb101, 4, none⟩ = some (.slice A0_4 l0_4.length c0_4) := (blk_cell BK101.out 4).trans rfl
         have hfz12_0 := blk_frozen BK101.out 0
         have hfz12_1 := blk_frozen BK101.out 1
         have hfz12_2 := blk_frozen BK101.out 2
         have hfz12_3 := blk_frozen BK101.out 3
         have hfz12_4 := blk_frozen BK101.out 4
         have p102 : 0 ≤ (x3_2 : Int) := of_decide_eq_true (by first | (with_reducible assumption) | assumption)
         have q102 : x3_2 < (l0_4.length : Int) := of_decide_eq_true (by first | (with_reducible assumption) | assumption)
         obtain ⟨ad102, e102, hx102_0, hx102_1, hx102_2⟩ := at_T61 HR0_4.out x3_2 p102 q102
         cases e102
         replace hx102_0 := (HB.out.cell (World.block_lt_of_cell? w _ hx102_0)).trans hx102_0
         replace hx102_1 := (HB.out.cell (World.block_lt_of_cell? w _ hx102_1)).trans hx102_1
         replace hx102_2 := (HB.out.cell (World.block_lt_of_cell? w _ hx102_2)).trans hx102_2
         replace p102 := eq_true p102
         replace q102 := eq_true q102
         go_wp2
         go_roundg k2
         case measure => have := HJ1.out; have := HK2.out; omega
         case rel => exact ⟨(wrap64 (x3_2 + 1)), (by first | rfl | (simp; done) | (simp [*]; done)), H', ⟨by have := HJ1.out; have := HK2.out; omega⟩, ⟨by (with_reducible repeat (first | refine blk_drewN ?_ _ | refine blk_drew ?_ | refine blk_alloc ?_ _)); exact BK101.out⟩, ⟨by repeat (first | (with_reducible first | exact HB.out | apply below_alloc | apply pw_below_drewN | apply below_drew1 | refine below_set ?_ GE101.out) | exact HB.out)⟩⟩
       ·rw [if_neg c9] at H
        exact absurd H (by simp)
      ·rw [if_neg c8] at H
       have c8b0 : decide (x3_2 < (l0_4.length : Int)) = false := decide_eq_false c8
       clear c8
       obtain rfl := Option.some.inj H
       have hcz13_0 : wr.cell? ⟨gb101, 0, none⟩ = some (.string a0_0) := (blk_cell BK101.out 0).trans rfl
       have hcz13_1 : wr.cell? ⟨gb101, 1, none⟩ = some (.string a0_1) := (blk_cell BK101.out 1).trans rfl
       have hcz13_2 : wr.cell? ⟨gb101, 2, none⟩ = some (.int .i64 a0_2) := (blk_cell BK101.out 2).trans rfl
       have hcz13_3 : wr.cell? ⟨gb101, 3, none⟩ = some (.int .i64 a0_3) := (blk_cell BK101.out 3).trans rfl
       have hcz13_4 : wr.cell? ⟨gb101, 4, none⟩ = some (.slice A0_4 l0_4.length c0_4) := (blk_cell BK101.out 4).trans rfl
       have hfz13_0 := blk_frozen BK101.out 0
       have hfz13_1 := blk_frozen BK101.out 1
       have hfz13_2 := blk_frozen BK101.out 2
       have hfz13_3 := blk_frozen BK101.out 3
       have hfz13_4 := blk_frozen BK101.out 4
       go_wp2
       go_ret
       exact ⟨by first | rfl | (simp [errW_none, errW_some] <;> rfl) | (simp [*, errW_none, errW_some] <;> rfl), by repeat (first | (with_reducible first | exact HB.out | apply below_alloc | apply pw_below_drewN | apply below_drew1 | refine below_set ?_ GE101.out) | exact HB.out)⟩

end Go.Proofs.Ytoppdlideonjjaa.M
end
section
/- Large products; fractions in lowest terms; the examples. -/
namespace Go.Proofs.Ytoppdlideonjjaa.M
open Go.RowKit Go.Proofs.YtoppdlideonjjaaW.PrintWords Go.Proofs.YtoppdlideonjjaaW.PrintLast Dv
set_option linter.unusedVariables false
set_option linter.unusedSimpArgs false
structure LightP (p : Pd) : Prop where
  len : p.f4.length ≤ 40
  us : ∀ u ∈ p.f4, u.f0.size ≤ 100
  cs : p.f0.size + p.f1.size ≤ 200
structure FineP (p : Pd) : Prop where
  len : p.f4.length ≤ 10000000000000
  us : ∀ u ∈ p.f4, u.f0.size ≤ 1000000000000000
  s0 : p.f0.size ≤ 1000000000000000
  s1 : p.f1.size ≤ 1000000000000000
  gs : ∀ u ∈ p.f4, inI u.f1.f0 ∧ inI u.f1.f1
theorem fine_of {p : Pd} (h : G24 p) : FineP p := by
  obtain ⟨h0, h1, h2, h3, h4, h5⟩ := h
  exact ⟨by omega, fun u hu => by have := (h5 u hu).1; omega, by omega, by omega, fun u hu => ⟨inI_wf (h5 u hu).2.1, inI_wf (h5 u hu).2.2⟩⟩
theorem large_go (p : Pd) (hl : p.f4.length ≤ 40) : ∀ (m i : Nat), i + m = p.f4.length → ∃ b, Ev (fun k => accountinglaw32_large.l0 k (i : Int) p.f0 p.f1 p.f2 p.f3 p.f4) b ∧ (b = false → ∀ u ∈ p.f4.drop i, u.f0.size ≤ 100)
  | 0, i, h => by
    refine ⟨false, Ev.succ ?_, fun _ u hu => ?_⟩
    · simp only [accountinglaw32_large.l0, if_neg (show ¬ (i : Int) < (p.f4.length : Int) by omega)]
      exact Ev.const _
    · rw [List.drop_eq_nil_of_le (by omega)] at hu
      simp at hu
  | m + 1, i, h => by
    have hi : i < p.f4.length := by omega
    rw [List.drop_eq_getElem_cons hi]
    by_cases c : (p.f4[i].f0.size : Int) > 100
    · refine ⟨true, Ev.succ ?_, fun e => by cases e⟩
      simp only [accountinglaw32_large.l0, if_pos (show (i : Int) < (p.f4.length : Int) by omega), if_pos (show 0 ≤ (i : Int) by omega), show rd_T61 p.f4 (i : Int) = p.f4[i] from rdU_at p.f4 i hi, if_pos c]
      exact Ev.const _
    · obtain ⟨b, h1, h2⟩ := large_go p hl m (i + 1) (by omega)
      refine ⟨b, Ev.succ ?_, fun e u hu => ?_⟩
      · simp only [accountinglaw32_large.l0, if_pos (show (i : Int) < (p.f4.length : Int) by omega), if_pos (show 0 ≤ (i : Int) by omega), show rd_T61 p.f4 (i : Int) = p.f4[i] from rdU_at p.f4 i hi, if_neg c, w64 (show -9223372036854775808 ≤ (i : Int) + 1 by omega) (by omega)]
        exact h1
      · rcases List.mem_cons.1 hu with rfl | hu
        · omega
        · exact h2 e u hu
theorem large_ev (p : Pd) (h0 : p.f0.size ≤ 1000000000000000) (h1 : p.f1.size ≤ 1000000000000000) : ∃ b, Ev (fun k => accountinglaw32_large.f k p.f0 p.f1 p.f2 p.f3 p.f4) b ∧ (b = false → LightP p) := by
  have ht : Ev (fun k => accountinglaw32_large.j0 k true p.f0 p.f1 p.f2 p.f3 p.f4) true := Ev.succ (by simp only [accountinglaw32_large.j0, if_true]; exact Ev.const _)
  by_cases c : (p.f4.length : Int) > 40
  · refine ⟨true, ?_, fun e => by cases e⟩
    unfold accountinglaw32_large.f
    simp only [if_pos c]
    exact ht
  have hw : wrap64 ((p.f0.size : Int) + (p.f1.size : Int)) = (p.f0.size : Int) + (p.f1.size : Int) := w64 (by omega) (by omega)
  by_cases c2 : (p.f0.size : Int) + (p.f1.size : Int) > 200
  · refine ⟨true, ?_, fun e => by cases e⟩
    unfold accountinglaw32_large.f
    simp only [if_neg c, hw, decide_eq_true c2]
    exact ht
  · obtain ⟨b, h3, h4⟩ := large_go p (by omega) p.f4.length 0 (by omega)
    refine ⟨b, ?_, fun e => ⟨by omega, fun u hu => h4 e u (by simpa using hu), by omega⟩⟩
    unfold accountinglaw32_large.f
    simp only [if_neg c, hw, decide_eq_false c2]
    refine Ev.succ ?_
    simp only [accountinglaw32_large.j0, Bool.false_eq_true, if_false]
    exact h3
theorem lives_ev : Ev (fun _ : Nat => accountinglaw32_lives.f.bind fun t => some t) true := ⟨0, fun _ _ => rfl⟩
/-! ### fractions -/
theorem ab_mul_pos (q a : Int) (ha : 0 < a) : ab (q * a) = ab q * a := by
  unfold ab
  by_cases c : q < 0
  · rw [if_pos c, if_pos (Int.mul_neg_of_neg_of_pos c ha), Int.neg_mul]
  · rw [if_neg c, if_neg (by have := Int.mul_nonneg (show 0 ≤ q by omega) (Int.le_of_lt ha); omega)]
theorem ab_nonneg' (q : Int) : 0 ≤ ab q := by unfold ab; split <;> omega
theorem ab_of_pos {a : Int} (h : 0 < a) : ab a = a := by unfold ab; rw [if_neg (by omega)]
theorem mk_scale (q a : Int) (ha : 0 < a) : makev (q * a) a = if ab q > 1000000 then (0, 0, 4) else (q, 1, 0) := by
  have hg : gd (q * a) a = a := by
    unfold gd
    rw [ab_mul_pos q a ha, ab_of_pos ha, Int.toNat_mul (ab_nonneg' q) (by omega), Nat.gcd_mul_left_left]
    omega
  unfold makev
  rw [if_neg (by omega), hg, ab_mul_pos q a ha, ab_of_pos ha, Int.mul_ediv_cancel _ (by omega), Int.ediv_self (by omega)]
  by_cases c : ab q > 1000000
  · rw [if_pos (.inl c), if_pos c]
  · rw [if_neg (by omega), if_neg c]
    unfold ab
    by_cases d : q < 0
    · have h1 : q * a < 0 := Int.mul_neg_of_neg_of_pos d ha
      simp [d, h1, show ¬ a < 0 by omega]
    · have h1 : ¬ q * a < 0 := by have := Int.mul_nonneg (show 0 ≤ q by omega) (Int.le_of_lt ha); omega
      simp [d, h1, show ¬ a < 0 by omega]
theorem mk_red {N D x y : Int} (hD : 0 < D) (h : makev N D = (x, y, 0)) : x * D = N * y ∧ 1 ≤ y ∧ y ≤ 1000000 ∧ ab x ≤ 1000000 ∧ rightv x y = true := by
  unfold makev at h
  rw [if_neg (by omega), ab_of_pos hD] at h
  split at h
  · simp at h
  · rename_i c
    have hgp := gd_pos (n := N) (d := D) (by omega)
    have hgN : ((gd N D).toNat : Int) = gd N D := by omega
    have d1 : gd N D ∣ ab N := by
      have := Nat.gcd_dvd_left (ab N).toNat (ab D).toNat
      have h2 := Int.natCast_dvd_natCast.2 this
      rwa [Int.toNat_of_nonneg (ab_nonneg' N)] at h2
    have d2 : gd N D ∣ D := by
      have := Nat.gcd_dvd_right (ab N).toNat (ab D).toNat
      have h2 := Int.natCast_dvd_natCast.2 this
      rw [ab_of_pos hD, Int.toNat_of_nonneg (by omega)] at h2
      rw [show gd N D = ((Nat.gcd (ab N).toNat D.toNat : Nat) : Int) by unfold gd; rw [ab_of_pos hD]]
      exact h2
    obtain ⟨a, ha⟩ := d1
    obtain ⟨b, hb⟩ := d2
    have e1 : ab N / gd N D = a := by rw [ha, Int.mul_ediv_cancel_left _ (by omega)]
    have e2 : D / gd N D = b := by
      conv => lhs; arg 1; rw [hb]
      rw [Int.mul_ediv_cancel_left _ (by omega)]
    rw [e1, e2] at h c
    simp only [Prod.mk.injEq, and_true] at h
    obtain ⟨hx, hy⟩ := h
    subst hy
    have ha0 : 0 ≤ a := by
      rw [← e1]
      exact Int.ediv_nonneg (ab_nonneg' N) (by omega)
    have hb0 : 0 < b := by
      rcases Int.lt_trichotomy b 0 with h | h | h
      · have := Int.mul_neg_of_pos_of_neg hgp h; omega
      · rw [h] at hb; omega
      · exact h
    have hdn : decide (D < 0) = false := decide_eq_false (by omega)
    rw [hdn] at hx
    have hxa : ab x = a ∧ x * (gd N D) = N := by
      unfold ab at ha ⊢
      by_cases n0 : N < 0
      · rw [if_pos n0] at ha
        simp only [decide_eq_true n0] at hx
        have hx1 : x = -a := by simpa using hx.symm
        subst hx1
        have hap : 0 < a := by
          rcases Int.lt_or_le 0 a with h | h
          · exact h
          · have : a = 0 := by omega
            rw [this] at ha; omega
        refine ⟨by rw [if_pos (by omega)]; omega, ?_⟩
        rw [Int.neg_mul, Int.mul_comm]
        omega
      · rw [if_neg n0] at ha
        simp only [decide_eq_false n0] at hx
        have hx1 : x = a := by simpa using hx.symm
        subst hx1
        exact ⟨if_neg (by omega), by rw [Int.mul_comm]; omega⟩
    refine ⟨?_, by omega, by omega, by omega, ?_⟩
    · conv => lhs; rw [hb]
      rw [← Int.mul_assoc, hxa.2]
    · have hr : 1 ≤ b ∧ b ≤ 1000000 ∧ -1000000 ≤ x ∧ x ≤ 1000000 := by
        have h1 := hxa.1
        unfold ab at h1
        split at h1 <;> omega
      rw [rightv_yes hr, hxa.1]
      have hc := Nat.coprime_div_gcd_div_gcd (m := (ab N).toNat) (n := (ab D).toNat) (Nat.gcd_pos_of_pos_right _ (by rw [ab_of_pos hD]; omega))
      have q1 : (ab N).toNat / Nat.gcd (ab N).toNat (ab D).toNat = a.toNat := by
        have : (((ab N).toNat / Nat.gcd (ab N).toNat (ab D).toNat : Nat) : Int) = a := by
          rw [Int.natCast_ediv, Int.toNat_of_nonneg (ab_nonneg' N)]
          exact e1
        omega
      have q2 : (ab D).toNat / Nat.gcd (ab N).toNat (ab D).toNat = b.toNat := by
        have : (((ab D).toNat / Nat.gcd (ab N).toNat (ab D).toNat : Nat) : Int) = b := by
          rw [Int.natCast_ediv, Int.toNat_of_nonneg (ab_nonneg' D), ab_of_pos hD]
          have : gd N D = ((Nat.gcd (ab N).toNat D.toNat : Nat) : Int) := by unfold gd; rw [ab_of_pos hD]
          rw [← this]
          exact e2
        omega
      rw [q1, q2] at hc
      rw [show Nat.gcd a.toNat b.toNat = 1 from hc]
      rfl
end Go.Proofs.Ytoppdlideonjjaa.M
end
