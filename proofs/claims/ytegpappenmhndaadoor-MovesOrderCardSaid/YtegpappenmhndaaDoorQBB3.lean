/- What the claims of this seat share, part 3 of 8: what the program's functions compute. -/
import Derived.Test.YtegpappenmhndaaDoorQBB1
import Derived.Test.YtegpappenmhndaaDoorQBB2
import Derived.ArgAppend
namespace Go.Proofs.YtegpappenmhndaaDoor.M
theorem pbb3_0 {p : Prop} (h : p := by first | exact Kd.R_nil _ _ _ _ _ | exact Kd.N_nil _ _ _ _ _ | exact Kd.V_nil _ _ _ _ _ | exact Kd.Q_nil _ _ _ _ _ | exact Kd.S_nil _ _ _ _ _) : p := h
theorem pbb3_1 {p : Prop} (h : p := by (with_reducible repeat (first | apply Kd.R_alloc | apply Kd.R_drewN | apply Kd.R_drew)); exact HO_2.out) : p := h
theorem pbb3_2 {p : Prop} (h : p := by (with_reducible repeat (first | apply Kd.R_alloc | apply Kd.R_drewN | apply Kd.R_drew)); exact (Kd.R_mono (Kd.R_far (p := ⟨gb102, 7, none⟩) (Kd.R_far (p := ⟨gb102, 6, none⟩) (Kd.R_far (p := ⟨gb102, 5, none⟩) (Kd.R_far (p := ⟨gb102, 4, none⟩) (Kd.R_far (p := ⟨gb102, 3, none⟩) (Kd.R_far (p := ⟨gb102, 2, none⟩) (Kd.R_far (p := ⟨gb102, 1, none⟩) (Kd.R_far (p := ⟨gb102, 0, none⟩) (Kd.R_types HO_2.out BK102.out (by decide)) (fun _ hk => hk.2) (.int .i64 ((rd_T23 l0 x10_1).f0))) (fun _ hk => hk.2) (.int .i64 ((rd_T23 l0 x10_1).f1))) (fun _ hk => hk.2) (.string ((rd_T23 l0 x10_1).f2))) (fun _ hk => hk.2) (.int .i64 ((rd_T23 l0 x10_1).f3))) (fun _ hk => hk.2) (.int .i64 ((rd_T23 l0 x10_1).f4))) (fun _ hk => hk.2) (.int .i64 ((rd_T23 l0 x10_1).f5))) (fun _ hk => hk.2) (.string ((rd_T23 l0 x10_1).f6))) (fun _ hk => hk.2) (.int .i64 ((rd_T23 l0 x10_1).f7))) (fun _ h_ => h_.1))) : p := h
theorem pbb3_3 {p : Prop} (h : p := by (with_reducible repeat (first | refine blk_drewN ?_ _ | refine blk_drew ?_ | refine blk_alloc ?_ _)); refine blk_put (cs := #[.int .i64 ((rd_T23 l0 x10_1).f0), .int .i64 ((rd_T23 l0 x10_1).f1), .string ((rd_T23 l0 x10_1).f2), .int .i64 ((rd_T23 l0 x10_1).f3), .int .i64 ((rd_T23 l0 x10_1).f4), .int .i64 ((rd_T23 l0 x10_1).f5), .string ((rd_T23 l0 x10_1).f6), .int .i64 0]) ?_ 7 _ rfl; (with_reducible repeat (first | refine blk_drewN ?_ _ | refine blk_drew ?_ | refine blk_alloc ?_ _)); refine blk_put (cs := #[.int .i64 ((rd_T23 l0 x10_1).f0), .int .i64 ((rd_T23 l0 x10_1).f1), .string ((rd_T23 l0 x10_1).f2), .int .i64 ((rd_T23 l0 x10_1).f3), .int .i64 ((rd_T23 l0 x10_1).f4), .int .i64 ((rd_T23 l0 x10_1).f5), .string (⟨#[]⟩ : ByteArray), .int .i64 0]) ?_ 6 _ rfl; (with_reducible repeat (first | refine blk_drewN ?_ _ | refine blk_drew ?_ | refine blk_alloc ?_ _)); refine blk_put (cs := #[.int .i64 ((rd_T23 l0 x10_1).f0), .int .i64 ((rd_T23 l0 x10_1).f1), .string ((rd_T23 l0 x10_1).f2), .int .i64 ((rd_T23 l0 x10_1).f3), .int .i64 ((rd_T23 l0 x10_1).f4), .int .i64 0, .string (⟨#[]⟩ : ByteArray), .int .i64 0]) ?_ 5 _ rfl; (with_reducible repeat (first | refine blk_drewN ?_ _ | refine blk_drew ?_ | refine blk_alloc ?_ _)); refine blk_put (cs := #[.int .i64 ((rd_T23 l0 x10_1).f0), .int .i64 ((rd_T23 l0 x10_1).f1), .string ((rd_T23 l0 x10_1).f2), .int .i64 ((rd_T23 l0 x10_1).f3), .int .i64 0, .int .i64 0, .string (⟨#[]⟩ : ByteArray), .int .i64 0]) ?_ 4 _ rfl; (with_reducible repeat (first | refine blk_drewN ?_ _ | refine blk_drew ?_ | refine blk_alloc ?_ _)); refine blk_put (cs := #[.int .i64 ((rd_T23 l0 x10_1).f0), .int .i64 ((rd_T23 l0 x10_1).f1), .string ((rd_T23 l0 x10_1).f2), .int .i64 0, .int .i64 0, .int .i64 0, .string (⟨#[]⟩ : ByteArray), .int .i64 0]) ?_ 3 _ rfl; (with_reducible repeat (first | refine blk_drewN ?_ _ | refine blk_drew ?_ | refine blk_alloc ?_ _)); refine blk_put (cs := #[.int .i64 ((rd_T23 l0 x10_1).f0), .int .i64 ((rd_T23 l0 x10_1).f1), .string (⟨#[]⟩ : ByteArray), .int .i64 0, .int .i64 0, .int .i64 0, .string (⟨#[]⟩ : ByteArray), .int .i64 0]) ?_ 2 _ rfl; (with_reducible repeat (first | refine blk_drewN ?_ _ | refine blk_drew ?_ | refine blk_alloc ?_ _)); refine blk_put (cs := #[.int .i64 ((rd_T23 l0 x10_1).f0), .int .i64 0, .string (⟨#[]⟩ : ByteArray), .int .i64 0, .int .i64 0, .int .i64 0, .string (⟨#[]⟩ : ByteArray), .int .i64 0]) ?_ 1 _ rfl; (with_reducible repeat (first | refine blk_drewN ?_ _ | refine blk_drew ?_ | refine blk_alloc ?_ _)); refine blk_put (cs := #[.int .i64 0, .int .i64 0, .string (⟨#[]⟩ : ByteArray), .int .i64 0, .int .i64 0, .int .i64 0, .string (⟨#[]⟩ : ByteArray), .int .i64 0]) ?_ 0 _ rfl; (with_reducible repeat (first | refine blk_drewN ?_ _ | refine blk_drew ?_ | refine blk_alloc ?_ _)); exact BK102.out) : p := h
theorem pbb3_4 {p : Prop} (h : p := by repeat (first | (with_reducible first | exact HB.out | apply below_alloc | apply pw_below_drewN | apply below_drew1 | refine below_set ?_ GE102.out) | exact HB.out)) : p := h
theorem pbb3_5 {p : Prop} (h : p := by first | rfl | (go_simp; done) | (go_simp; rfl)) : p := h
theorem pbb3_6 {p : Prop} (h : p := by repeat (first | exact HR0.out | (with_reducible refine Kd.C_alloc ?_ _) | (with_reducible refine Kd.C_drewN ?_ _) | (with_reducible refine Kd.C_drew ?_))) : p := h
end Go.Proofs.YtegpappenmhndaaDoor.M
section
namespace Go.Proofs.YtegpappenmhndaaDoor.M
open Go.RowKit Go.Proofs.YtegpappenmhndaaDoorW.PrintWords Go.Proofs.YtegpappenmhndaaDoorW.PrintLast Go.Proofs.YtegpappenmhndaaDoorW.PrintMore
attribute [local go_sem] max2_int min2_int max_two min_two max_three min_three max_four min_four
set_option linter.unusedVariables false
set_option linter.unusedSimpArgs false
def F12.j0 : Nat → Bool → Int → Int → ByteArray → Int → Int → Int → ByteArray → Int → Option (Int)
  | 0, _, _, _, _, _, _, _, _, _ => none
  | k + 1, x18, x102000, x102001, x102002, x102003, x102004, x102005, x102006, x102007 => if x18 = true then (some 3) else ((F30.f k x102000 x102001 x102002 x102003 x102004 x102005 x102006 x102007).bind fun t107 => (if t107 = true then ((F31.f x102003).bind fun t108 => (if t108 = true then (if x102007 < 1 then (some 28) else ((F31.f x102003).bind fun t109 => (if t109 = true then (some 0) else (if x102007 = 0 then (some 0) else (some 28))))) else ((F31.f x102003).bind fun t110 => (if t110 = true then (some 0) else (if x102007 = 0 then (some 0) else (some 28)))))) else (some 22)))
def F12.f (k : Nat) (a0_0 : Int) (a0_1 : Int) (a0_2 : ByteArray) (a0_3 : Int) (a0_4 : Int) (a0_5 : Int) (a0_6 : ByteArray) (a0_7 : Int) (l1 : List Int) : Option (Int) := (F25.f k a0_1 l1).bind fun t102 => (if t102 = true then ((F26.f k a0_2).bind fun t103 => (if t103 = true then ((F27.f a0_3 1 6).bind fun t104 => (if t104 = true then ((F28.f a0_0 a0_1 a0_2 a0_3 a0_4 a0_5 a0_6 a0_7).bind fun t105 => (if t105 = true then ((F29.f k a0_0 a0_1 a0_2 a0_3 a0_4 a0_5 a0_6 a0_7).bind fun t106 => (F12.j0 k (!t106) a0_0 a0_1 a0_2 a0_3 a0_4 a0_5 a0_6 a0_7)) else (F12.j0 k true a0_0 a0_1 a0_2 a0_3 a0_4 a0_5 a0_6 a0_7))) else (some 10))) else (some 7))) else (some 11))
theorem F12.mono_l : ∀ k, (∀ y0 y1 y2 y3 y4 y5 y6 y7 y8, LeO (F12.j0 k y0 y1 y2 y3 y4 y5 y6 y7 y8) (F12.j0 (k + 1) y0 y1 y2 y3 y4 y5 y6 y7 y8))
  | 0 => fun _ _ _ _ _ _ _ _ _ r h => by simp [F12.j0] at h
  | k + 1 => by
    have ih0 := F12.mono_l k
    · intro y0 y1 y2 y3 y4 y5 y6 y7 y8
      unfold F12.j0
      repeat' first
      | (with_reducible exact ih0 _ _ _ _ _ _ _ _ _)
      | (with_reducible exact F29.mono _ _ _ _ _ _ _ _ _)
      | (with_reducible exact F25.mono _ _ _)
      | (with_reducible exact F30.mono _ _ _ _ _ _ _ _ _)
      | (with_reducible exact F26.mono _ _)
      | (with_reducible exact LeO.refl _)
      | (with_reducible exact LeO.none _)
      | (with_reducible refine LeO.ite ?_ ?_)
      | (with_reducible refine LeO.bind ?_ (fun _ => ?_))
      | exact ih0 _ _ _ _ _ _ _ _ _
      | exact F29.mono _ _ _ _ _ _ _ _ _
      | exact F25.mono _ _ _
      | exact F30.mono _ _ _ _ _ _ _ _ _
      | exact F26.mono _ _
      | exact LeO.none _
      | refine LeO.ite ?_ ?_
      | refine LeO.bind ?_ (fun _ => ?_)
theorem F12.mono : ∀ a0 a1 a2 a3 a4 a5 a6 a7 a8 k, LeO (F12.f k a0 a1 a2 a3 a4 a5 a6 a7 a8) (F12.f (k + 1) a0 a1 a2 a3 a4 a5 a6 a7 a8) := by
 intro a0 a1 a2 a3 a4 a5 a6 a7 a8 k; have ih0 := F12.mono_l k
 unfold F12.f
 repeat' first
   | (with_reducible exact ih0 _ _ _ _ _ _ _ _ _)
   | (with_reducible exact F29.mono _ _ _ _ _ _ _ _ _)
   | (with_reducible exact F25.mono _ _ _)
   | (with_reducible exact F30.mono _ _ _ _ _ _ _ _ _)
   | (with_reducible exact F26.mono _ _)
   | (with_reducible exact LeO.refl _)
   | (with_reducible exact LeO.none _)
   | (with_reducible refine LeO.ite ?_ ?_)
   | (with_reducible refine LeO.bind ?_ (fun _ => ?_))
   | exact ih0 _ _ _ _ _ _ _ _ _
   | exact F29.mono _ _ _ _ _ _ _ _ _
   | exact F25.mono _ _ _
   | exact F30.mono _ _ _ _ _ _ _ _ _
   | exact F26.mono _ _
   | exact LeO.none _
   | refine LeO.ite ?_ ?_
   | refine LeO.bind ?_ (fun _ => ?_)
set_option maxHeartbeats 8000000 in
set_option maxRecDepth 100000 in
theorem F12.calls (k : Nat) (a0_0 : Int) (a0_1 : Int) (a0_2 : ByteArray) (a0_3 : Int) (a0_4 : Int) (a0_5 : Int) (a0_6 : ByteArray) (a0_7 : Int) (A1 : Option Addr) (c1 : Nat) (l1 : List Int) (r : Int) (w : World) (hr1 : Kd.C kTab w A1 l1.length l1) (hc1 : l1.length ≤ c1) (h : F12.f k a0_0 a0_1 a0_2 a0_3 a0_4 a0_5 a0_6 a0_7 l1 = some r) :
    Calls Tryd.prog 12 #[.agg #[.int .i64 a0_0, .int .i64 a0_1, .string a0_2, .int .i64 a0_3, .int .i64 a0_4, .int .i64 a0_5, .string a0_6, .int .i64 a0_7]] w fun e w' => e = .returned (.int .i64 r) ∧ Below w.heap.size w w' := by
 have hu23 := Tryd.underlying23; have hu3 := Tryd.underlying3; have hu9 := Tryd.underlying9; have HR1 := Aside0.mk hr1; have HC1 := Aside0.mk hc1; clear hr1 hc1; have HB := Aside0.mk (Below.refl w.heap.size w)
 unfold F12.f at h
 have H := h; clear h; obtain ⟨t102, A30, H⟩ := bnd H; have A3 := Aside0.mk A30; clear A30
 by_cases c4 : t102 = true
 ·subst c4; rw [if_pos rfl] at H; obtain ⟨t103, A50, H⟩ := bnd H; have A5 := Aside0.mk A50; clear A50
  by_cases c6 : t103 = true
  ·subst c6; rw [if_pos rfl] at H; obtain ⟨t104, A70, H⟩ := bnd H; have A7 := Aside0.mk A70; clear A70
   by_cases c8 : t104 = true
   ·subst c8; rw [if_pos rfl] at H; have HC9 := Aside0.mk H; clear H; go_enter Tryd.func12, Tryd.ntmps12
    go_upto_region 7 with (first | ((with_reducible refine gate_dst (N := 1) rfl ?_); refine box_event ?hg (N := 1) ?hd (cs := #[.int .i64 a0_0, .int .i64 a0_1, .string a0_2, .int .i64 a0_3, .int .i64 a0_4, .int .i64 a0_5, .string a0_6, .int .i64 a0_7]) (t := 23) ?hr ?_; (case hd => rfl); (case hg => rfl); (case hr => first | (go_simp; done) | (go_simp; rfl)); intro gb101 hg w10 hbox hb; have BK101 := Aside0.mk (hbox); have GW101 := Aside0.mk ((pbb2_6 : w.heap.size ≤ gb101)); have GE101 := Aside0.mk ((pbb2_6 : w.heap.size ≤ gb101)); replace HB := Aside0.mk (below_step pbb2_3 hb); clear hb hbox hg; obtain ⟨hcz11_0, hcz11_1, hcz11_2, hcz11_3, hcz11_4, hcz11_5, hcz11_6, hcz11_7⟩ := cz8 BK101.out; obtain ⟨hfz11_0, hfz11_1, hfz11_2, hfz11_3, hfz11_4, hfz11_5, hfz11_6, hfz11_7⟩ := fz8 BK101.out) | ((with_reducible refine gate_callee (f := 25) rfl ?_); refine goesL_ (some 6) rfl rfl Tryd.func25 (by kernel_rfl) rfl #[.int .i64 a0_1] rfl pbb2_2 ?_; (with_reducible refine (F25.calls k a0_1 A1 c1 l1 true _ pbb2_11 HC1.out A3.out).mono ?_); rintro e w12 ⟨rfl, hb⟩; refine ⟨_, rfl, ?_⟩; replace BK101 := Aside0.mk (blk_below (g := gb101) (o := .cells #[.int .i64 a0_0, .int .i64 a0_1, .string a0_2, .int .i64 a0_3, .int .i64 a0_4, .int .i64 a0_5, .string a0_6, .int .i64 a0_7] 23 (0, 0)) pbb2_10 hb); replace HB := Aside0.mk (below_step pbb2_9 hb); (try clear hb); (try clear hb2); (try clear hk); (try clear hi); obtain ⟨hcz13_0, hcz13_1, hcz13_2, hcz13_3, hcz13_4, hcz13_5, hcz13_6, hcz13_7⟩ := cz8 BK101.out; obtain ⟨hfz13_0, hfz13_1, hfz13_2, hfz13_3, hfz13_4, hfz13_5, hfz13_6, hfz13_7⟩ := fz8 BK101.out) | ((with_reducible refine gate_callee (f := 26) rfl ?_); refine goesL_ (some 11) rfl rfl Tryd.func26 (by kernel_rfl) rfl #[.string a0_2] rfl pbb2_2 ?_; (with_reducible refine (F26.calls k a0_2 true _ A5.out).mono ?_); rintro e w14 ⟨rfl, hb⟩; refine ⟨_, rfl, ?_⟩; replace BK101 := Aside0.mk (blk_below (g := gb101) (o := .cells #[.int .i64 a0_0, .int .i64 a0_1, .string a0_2, .int .i64 a0_3, .int .i64 a0_4, .int .i64 a0_5, .string a0_6, .int .i64 a0_7] 23 (0, 0)) pbb2_10 hb); replace HB := Aside0.mk (below_step pbb2_9 hb); (try clear hb); (try clear hb2); (try clear hk); (try clear hi); obtain ⟨hcz15_0, hcz15_1, hcz15_2, hcz15_3, hcz15_4, hcz15_5, hcz15_6, hcz15_7⟩ := cz8 BK101.out; obtain ⟨hfz15_0, hfz15_1, hfz15_2, hfz15_3, hfz15_4, hfz15_5, hfz15_6, hfz15_7⟩ := fz8 BK101.out) | ((with_reducible refine gate_callee (f := 27) rfl ?_); refine goesL_ (some 16) rfl rfl Tryd.func27 (by kernel_rfl) rfl #[.int .i64 a0_3, .int .i64 1, .int .i64 6] rfl pbb2_2 ?_; (with_reducible refine (F27.calls a0_3 1 6 true _ A7.out).mono ?_); rintro e w' ⟨rfl, ⟨nd, rfl⟩⟩; refine ⟨_, rfl, ?_⟩))
    (try simp only [Act.put, List.setIfInBounds_toArray, List.set_cons_zero, List.set_cons_succ])
    go_cut [18] (fun v18 wc => ∃ (kq : Nat) (x18_8 : Bool), v18 = .bool x18_8 ∧ Aside0 (F12.j0 kq x18_8 a0_0 a0_1 a0_2 a0_3 a0_4 a0_5 a0_6 a0_7 = some r) ∧ Aside0 (kq ≤ k) ∧ Aside0 (wc.heap[gb101]? = some (.cells #[.int .i64 a0_0, .int .i64 a0_1, .string a0_2, .int .i64 a0_3, .int .i64 a0_4, .int .i64 a0_5, .string a0_6, .int .i64 a0_7] 23 (0, 0))) ∧ Aside0 (Below w.heap.size w wc))
    case first =>
     have H := HC9.out; clear HC9; obtain ⟨t105, A160, H⟩ := bnd H; have A16 := Aside0.mk A160; clear A160
     by_cases c17 : t105 = true
     ·subst c17; rw [if_pos rfl] at H; obtain ⟨t106, A180, H⟩ := bnd H; have A18 := Aside0.mk A180; clear A180; have H' := Aside0.mk H; clear H; obtain ⟨hcz19_0, hcz19_1, hcz19_2, hcz19_3, hcz19_4, hcz19_5, hcz19_6, hcz19_7⟩ := cz8 BK101.out; obtain ⟨hfz19_0, hfz19_1, hfz19_2, hfz19_3, hfz19_4, hfz19_5, hfz19_6, hfz19_7⟩ := fz8 BK101.out
      go_wp2_with (first | ((with_reducible refine gate_callee (f := 28) rfl ?_); refine goesL_ (some 20) rfl rfl Tryd.func28 (by kernel_rfl) rfl #[.agg #[.int .i64 a0_0, .int .i64 a0_1, .string a0_2, .int .i64 a0_3, .int .i64 a0_4, .int .i64 a0_5, .string a0_6, .int .i64 a0_7]] rfl pbb2_2 ?_; (with_reducible refine (F28.calls a0_0 a0_1 a0_2 a0_3 a0_4 a0_5 a0_6 a0_7 true _ A16.out).mono ?_); rintro e w20 ⟨rfl, hb⟩; refine ⟨_, rfl, ?_⟩; replace BK101 := Aside0.mk (blk_below (g := gb101) (o := .cells #[.int .i64 a0_0, .int .i64 a0_1, .string a0_2, .int .i64 a0_3, .int .i64 a0_4, .int .i64 a0_5, .string a0_6, .int .i64 a0_7] 23 (0, 0)) pbb2_10 hb); replace HB := Aside0.mk (below_step pbb2_9 hb); (try clear hb); (try clear hb2); (try clear hk); (try clear hi); obtain ⟨hcz21_0, hcz21_1, hcz21_2, hcz21_3, hcz21_4, hcz21_5, hcz21_6, hcz21_7⟩ := cz8 BK101.out; obtain ⟨hfz21_0, hfz21_1, hfz21_2, hfz21_3, hfz21_4, hfz21_5, hfz21_6, hfz21_7⟩ := fz8 BK101.out) | (go_at_call 29; (with_reducible refine (F29.calls k a0_0 a0_1 a0_2 a0_3 a0_4 a0_5 a0_6 a0_7 t106 _ A18.out).mono ?_); rintro e w22 ⟨rfl, hb⟩; replace BK101 := Aside0.mk (blk_below (g := gb101) (o := .cells #[.int .i64 a0_0, .int .i64 a0_1, .string a0_2, .int .i64 a0_3, .int .i64 a0_4, .int .i64 a0_5, .string a0_6, .int .i64 a0_7] 23 (0, 0)) pbb2_10 hb); replace HB := Aside0.mk (below_step pbb2_9 hb); (try clear hb); (try clear hb2); (try clear hk); (try clear hi)))
      go_meet
      case rel => exact ⟨_, (!t106), pbb2_0, H', ⟨by first | omega | exact Nat.le_refl _⟩, ⟨pbb2_10⟩, ⟨pbb2_9⟩⟩
     ·replace c17 := Bool.eq_false_iff.mpr c17; subst c17; rw [if_neg (show ¬ (false = true) by decide)] at H; have H' := Aside0.mk H; clear H; obtain ⟨hcz23_0, hcz23_1, hcz23_2, hcz23_3, hcz23_4, hcz23_5, hcz23_6, hcz23_7⟩ := cz8 BK101.out; obtain ⟨hfz23_0, hfz23_1, hfz23_2, hfz23_3, hfz23_4, hfz23_5, hfz23_6, hfz23_7⟩ := fz8 BK101.out
      go_wp2_with (first | ((with_reducible refine gate_callee (f := 28) rfl ?_); refine goesL_ (some 20) rfl rfl Tryd.func28 (by kernel_rfl) rfl #[.agg #[.int .i64 a0_0, .int .i64 a0_1, .string a0_2, .int .i64 a0_3, .int .i64 a0_4, .int .i64 a0_5, .string a0_6, .int .i64 a0_7]] rfl pbb2_2 ?_; (with_reducible refine (F28.calls a0_0 a0_1 a0_2 a0_3 a0_4 a0_5 a0_6 a0_7 false _ A16.out).mono ?_); rintro e w24 ⟨rfl, hb⟩; refine ⟨_, rfl, ?_⟩; replace BK101 := Aside0.mk (blk_below (g := gb101) (o := .cells #[.int .i64 a0_0, .int .i64 a0_1, .string a0_2, .int .i64 a0_3, .int .i64 a0_4, .int .i64 a0_5, .string a0_6, .int .i64 a0_7] 23 (0, 0)) pbb2_10 hb); replace HB := Aside0.mk (below_step pbb2_9 hb); (try clear hb); (try clear hb2); (try clear hk); (try clear hi)))
      go_meet
      case rel => exact ⟨_, (true), pbb2_0, H', ⟨by first | omega | exact Nat.le_refl _⟩, ⟨pbb2_10⟩, ⟨pbb2_9⟩⟩
    case rest =>
     clear HC9; obtain ⟨kq, x18_8, rfl, HA, HJ8, BK101, HB⟩ := hcut
     cases kq with
     | zero => exact absurd HA.out (by simp [F12.j0])
     | succ kj8 =>
      have H := HA.out; clear HA; simp only [F12.j0] at H
      by_cases c25 : x18_8 = true
      ·subst c25; rw [if_pos rfl] at H; obtain rfl := Option.some.inj H
       go_wp2
       go_ret
       exact ⟨pbb2_5, pbb2_9⟩
      ·replace c25 := Bool.eq_false_iff.mpr c25; subst c25; rw [if_neg (show ¬ (false = true) by decide)] at H; obtain ⟨t107, A260, H⟩ := bnd H; have A26 := Aside0.mk A260; clear A260
       by_cases c27 : t107 = true
       ·subst c27; rw [if_pos rfl] at H; obtain ⟨t108, A280, H⟩ := bnd H; have A28 := Aside0.mk A280; clear A280
        by_cases c29 : t108 = true
        ·subst c29; rw [if_pos rfl] at H
         by_cases c30 : a0_7 < 1
         ·rw [if_pos c30] at H; have c30b0 := decide_eq_true c30; clear c30; obtain rfl := Option.some.inj H; obtain ⟨hcz31_0, hcz31_1, hcz31_2, hcz31_3, hcz31_4, hcz31_5, hcz31_6, hcz31_7⟩ := cz8 BK101.out; obtain ⟨hfz31_0, hfz31_1, hfz31_2, hfz31_3, hfz31_4, hfz31_5, hfz31_6, hfz31_7⟩ := fz8 BK101.out
          go_wp2_with (first | ((with_reducible refine gate_callee (f := 30) rfl ?_); refine goesL_ (some 29) rfl rfl Tryd.func30 (by kernel_rfl) rfl #[.agg #[.int .i64 a0_0, .int .i64 a0_1, .string a0_2, .int .i64 a0_3, .int .i64 a0_4, .int .i64 a0_5, .string a0_6, .int .i64 a0_7]] rfl pbb2_2 ?_; (with_reducible refine (F30.calls kj8 a0_0 a0_1 a0_2 a0_3 a0_4 a0_5 a0_6 a0_7 true _ A26.out).mono ?_); rintro e w32 ⟨rfl, hb⟩; refine ⟨_, rfl, ?_⟩; replace BK101 := Aside0.mk (blk_below (g := gb101) (o := .cells #[.int .i64 a0_0, .int .i64 a0_1, .string a0_2, .int .i64 a0_3, .int .i64 a0_4, .int .i64 a0_5, .string a0_6, .int .i64 a0_7] 23 (0, 0)) pbb2_10 hb); replace HB := Aside0.mk (below_step pbb2_9 hb); (try clear hb); (try clear hb2); (try clear hk); (try clear hi); obtain ⟨hcz33_0, hcz33_1, hcz33_2, hcz33_3, hcz33_4, hcz33_5, hcz33_6, hcz33_7⟩ := cz8 BK101.out; obtain ⟨hfz33_0, hfz33_1, hfz33_2, hfz33_3, hfz33_4, hfz33_5, hfz33_6, hfz33_7⟩ := fz8 BK101.out) | ((with_reducible refine gate_callee (f := 31) rfl ?_); refine goesL_ (some 34) rfl rfl Tryd.func31 (by kernel_rfl) rfl #[.int .i64 a0_3] rfl pbb2_2 ?_; (with_reducible refine (F31.calls a0_3 true _ A28.out).mono ?_); rintro e w' ⟨rfl, ⟨nd, rfl⟩⟩; refine ⟨_, rfl, ?_⟩))
          go_ret
          exact ⟨pbb2_5, pbb2_9⟩
         ·rw [if_neg c30] at H; have c30b0 := decide_eq_false c30; clear c30; obtain ⟨t109, A340, H⟩ := bnd H; have A34 := Aside0.mk A340; clear A340
          by_cases c35 : t109 = true
          ·subst c35; rw [if_pos rfl] at H; obtain rfl := Option.some.inj H; obtain ⟨hcz36_0, hcz36_1, hcz36_2, hcz36_3, hcz36_4, hcz36_5, hcz36_6, hcz36_7⟩ := cz8 BK101.out; obtain ⟨hfz36_0, hfz36_1, hfz36_2, hfz36_3, hfz36_4, hfz36_5, hfz36_6, hfz36_7⟩ := fz8 BK101.out
           go_wp2_with (first | ((with_reducible refine gate_callee (f := 30) rfl ?_); refine goesL_ (some 29) rfl rfl Tryd.func30 (by kernel_rfl) rfl #[.agg #[.int .i64 a0_0, .int .i64 a0_1, .string a0_2, .int .i64 a0_3, .int .i64 a0_4, .int .i64 a0_5, .string a0_6, .int .i64 a0_7]] rfl pbb2_2 ?_; (with_reducible refine (F30.calls kj8 a0_0 a0_1 a0_2 a0_3 a0_4 a0_5 a0_6 a0_7 true _ A26.out).mono ?_); rintro e w37 ⟨rfl, hb⟩; refine ⟨_, rfl, ?_⟩; replace BK101 := Aside0.mk (blk_below (g := gb101) (o := .cells #[.int .i64 a0_0, .int .i64 a0_1, .string a0_2, .int .i64 a0_3, .int .i64 a0_4, .int .i64 a0_5, .string a0_6, .int .i64 a0_7] 23 (0, 0)) pbb2_10 hb); replace HB := Aside0.mk (below_step pbb2_9 hb); (try clear hb); (try clear hb2); (try clear hk); (try clear hi); obtain ⟨hcz38_0, hcz38_1, hcz38_2, hcz38_3, hcz38_4, hcz38_5, hcz38_6, hcz38_7⟩ := cz8 BK101.out; obtain ⟨hfz38_0, hfz38_1, hfz38_2, hfz38_3, hfz38_4, hfz38_5, hfz38_6, hfz38_7⟩ := fz8 BK101.out) | ((with_reducible refine gate_callee (f := 31) rfl ?_); refine goesL_ (some 34) rfl rfl Tryd.func31 (by kernel_rfl) rfl #[.int .i64 a0_3] rfl pbb2_2 ?_; (with_reducible refine (F31.calls a0_3 true _ A28.out).mono ?_); rintro e w' ⟨rfl, ⟨nd, rfl⟩⟩; refine ⟨_, rfl, ?_⟩) | (go_at_call 31; (with_reducible refine (F31.calls a0_3 true _ A34.out).mono ?_); rintro e w' ⟨rfl, ⟨nd, rfl⟩⟩))
           go_ret
           exact ⟨pbb2_5, pbb2_9⟩
          ·replace c35 := Bool.eq_false_iff.mpr c35; subst c35; rw [if_neg (show ¬ (false = true) by decide)] at H
           by_cases c39 : a0_7 = 0
           ·rw [if_pos c39] at H; have c39b0 := bT_ c39; have c39b1 := bF_ c39; clear c39; obtain rfl := Option.some.inj H; obtain ⟨hcz40_0, hcz40_1, hcz40_2, hcz40_3, hcz40_4, hcz40_5, hcz40_6, hcz40_7⟩ := cz8 BK101.out; obtain ⟨hfz40_0, hfz40_1, hfz40_2, hfz40_3, hfz40_4, hfz40_5, hfz40_6, hfz40_7⟩ := fz8 BK101.out
            go_wp2_with (first | ((with_reducible refine gate_callee (f := 30) rfl ?_); refine goesL_ (some 29) rfl rfl Tryd.func30 (by kernel_rfl) rfl #[.agg #[.int .i64 a0_0, .int .i64 a0_1, .string a0_2, .int .i64 a0_3, .int .i64 a0_4, .int .i64 a0_5, .string a0_6, .int .i64 a0_7]] rfl pbb2_2 ?_; (with_reducible refine (F30.calls kj8 a0_0 a0_1 a0_2 a0_3 a0_4 a0_5 a0_6 a0_7 true _ A26.out).mono ?_); rintro e w41 ⟨rfl, hb⟩; refine ⟨_, rfl, ?_⟩; replace BK101 := Aside0.mk (blk_below (g := gb101) (o := .cells #[.int .i64 a0_0, .int .i64 a0_1, .string a0_2, .int .i64 a0_3, .int .i64 a0_4, .int .i64 a0_5, .string a0_6, .int .i64 a0_7] 23 (0, 0)) pbb2_10 hb); replace HB := Aside0.mk (below_step pbb2_9 hb); (try clear hb); (try clear hb2); (try clear hk); (try clear hi); obtain ⟨hcz42_0, hcz42_1, hcz42_2, hcz42_3, hcz42_4, hcz42_5, hcz42_6, hcz42_7⟩ := cz8 BK101.out; obtain ⟨hfz42_0, hfz42_1, hfz42_2, hfz42_3, hfz42_4, hfz42_5, hfz42_6, hfz42_7⟩ := fz8 BK101.out) | ((with_reducible refine gate_callee (f := 31) rfl ?_); refine goesL_ (some 34) rfl rfl Tryd.func31 (by kernel_rfl) rfl #[.int .i64 a0_3] rfl pbb2_2 ?_; (with_reducible refine (F31.calls a0_3 true _ A28.out).mono ?_); rintro e w' ⟨rfl, ⟨nd, rfl⟩⟩; refine ⟨_, rfl, ?_⟩) | (go_at_call 31; (with_reducible refine (F31.calls a0_3 false _ A34.out).mono ?_); rintro e w' ⟨rfl, ⟨nd, rfl⟩⟩))
            go_ret
            exact ⟨pbb2_5, pbb2_9⟩
           ·rw [if_neg c39] at H; have c39b0 := nF_ c39; have c39b1 := nT_ c39; obtain rfl := Option.some.inj H; obtain ⟨hcz43_0, hcz43_1, hcz43_2, hcz43_3, hcz43_4, hcz43_5, hcz43_6, hcz43_7⟩ := cz8 BK101.out; obtain ⟨hfz43_0, hfz43_1, hfz43_2, hfz43_3, hfz43_4, hfz43_5, hfz43_6, hfz43_7⟩ := fz8 BK101.out
            go_wp2_with (first | ((with_reducible refine gate_callee (f := 30) rfl ?_); refine goesL_ (some 29) rfl rfl Tryd.func30 (by kernel_rfl) rfl #[.agg #[.int .i64 a0_0, .int .i64 a0_1, .string a0_2, .int .i64 a0_3, .int .i64 a0_4, .int .i64 a0_5, .string a0_6, .int .i64 a0_7]] rfl pbb2_2 ?_; (with_reducible refine (F30.calls kj8 a0_0 a0_1 a0_2 a0_3 a0_4 a0_5 a0_6 a0_7 true _ A26.out).mono ?_); rintro e w44 ⟨rfl, hb⟩; refine ⟨_, rfl, ?_⟩; replace BK101 := Aside0.mk (blk_below (g := gb101) (o := .cells #[.int .i64 a0_0, .int .i64 a0_1, .string a0_2, .int .i64 a0_3, .int .i64 a0_4, .int .i64 a0_5, .string a0_6, .int .i64 a0_7] 23 (0, 0)) pbb2_10 hb); replace HB := Aside0.mk (below_step pbb2_9 hb); (try clear hb); (try clear hb2); (try clear hk); (try clear hi); obtain ⟨hcz45_0, hcz45_1, hcz45_2, hcz45_3, hcz45_4, hcz45_5, hcz45_6, hcz45_7⟩ := cz8 BK101.out; obtain ⟨hfz45_0, hfz45_1, hfz45_2, hfz45_3, hfz45_4, hfz45_5, hfz45_6, hfz45_7⟩ := fz8 BK101.out) | ((with_reducible refine gate_callee (f := 31) rfl ?_); refine goesL_ (some 34) rfl rfl Tryd.func31 (by kernel_rfl) rfl #[.int .i64 a0_3] rfl pbb2_2 ?_; (with_reducible refine (F31.calls a0_3 true _ A28.out).mono ?_); rintro e w' ⟨rfl, ⟨nd, rfl⟩⟩; refine ⟨_, rfl, ?_⟩) | (go_at_call 31; (with_reducible refine (F31.calls a0_3 false _ A34.out).mono ?_); rintro e w' ⟨rfl, ⟨nd, rfl⟩⟩))
            go_ret
            exact ⟨pbb2_5, pbb2_9⟩
        ·replace c29 := Bool.eq_false_iff.mpr c29; subst c29; rw [if_neg (show ¬ (false = true) by decide)] at H; obtain ⟨t110, A460, H⟩ := bnd H; have A46 := Aside0.mk A460; clear A460
         by_cases c47 : t110 = true
         ·subst c47; rw [if_pos rfl] at H; obtain rfl := Option.some.inj H; obtain ⟨hcz48_0, hcz48_1, hcz48_2, hcz48_3, hcz48_4, hcz48_5, hcz48_6, hcz48_7⟩ := cz8 BK101.out; obtain ⟨hfz48_0, hfz48_1, hfz48_2, hfz48_3, hfz48_4, hfz48_5, hfz48_6, hfz48_7⟩ := fz8 BK101.out
          go_wp2_with (first | ((with_reducible refine gate_callee (f := 30) rfl ?_); refine goesL_ (some 29) rfl rfl Tryd.func30 (by kernel_rfl) rfl #[.agg #[.int .i64 a0_0, .int .i64 a0_1, .string a0_2, .int .i64 a0_3, .int .i64 a0_4, .int .i64 a0_5, .string a0_6, .int .i64 a0_7]] rfl pbb2_2 ?_; (with_reducible refine (F30.calls kj8 a0_0 a0_1 a0_2 a0_3 a0_4 a0_5 a0_6 a0_7 true _ A26.out).mono ?_); rintro e w49 ⟨rfl, hb⟩; refine ⟨_, rfl, ?_⟩; replace BK101 := Aside0.mk (blk_below (g := gb101) (o := .cells #[.int .i64 a0_0, .int .i64 a0_1, .string a0_2, .int .i64 a0_3, .int .i64 a0_4, .int .i64 a0_5, .string a0_6, .int .i64 a0_7] 23 (0, 0)) pbb2_10 hb); replace HB := Aside0.mk (below_step pbb2_9 hb); (try clear hb); (try clear hb2); (try clear hk); (try clear hi); obtain ⟨hcz50_0, hcz50_1, hcz50_2, hcz50_3, hcz50_4, hcz50_5, hcz50_6, hcz50_7⟩ := cz8 BK101.out; obtain ⟨hfz50_0, hfz50_1, hfz50_2, hfz50_3, hfz50_4, hfz50_5, hfz50_6, hfz50_7⟩ := fz8 BK101.out) | ((with_reducible refine gate_callee (f := 31) rfl ?_); refine goesL_ (some 34) rfl rfl Tryd.func31 (by kernel_rfl) rfl #[.int .i64 a0_3] rfl pbb2_2 ?_; (with_reducible refine (F31.calls a0_3 false _ A28.out).mono ?_); rintro e w' ⟨rfl, ⟨nd, rfl⟩⟩; refine ⟨_, rfl, ?_⟩) | (go_at_call 31; (with_reducible refine (F31.calls a0_3 true _ A46.out).mono ?_); rintro e w' ⟨rfl, ⟨nd, rfl⟩⟩))
          go_ret
          exact ⟨pbb2_5, pbb2_9⟩
         ·replace c47 := Bool.eq_false_iff.mpr c47; subst c47; rw [if_neg (show ¬ (false = true) by decide)] at H
          by_cases c51 : a0_7 = 0
          ·rw [if_pos c51] at H; have c51b0 := bT_ c51; have c51b1 := bF_ c51; clear c51; obtain rfl := Option.some.inj H; obtain ⟨hcz52_0, hcz52_1, hcz52_2, hcz52_3, hcz52_4, hcz52_5, hcz52_6, hcz52_7⟩ := cz8 BK101.out; obtain ⟨hfz52_0, hfz52_1, hfz52_2, hfz52_3, hfz52_4, hfz52_5, hfz52_6, hfz52_7⟩ := fz8 BK101.out
           go_wp2_with (first | ((with_reducible refine gate_callee (f := 30) rfl ?_); refine goesL_ (some 29) rfl rfl Tryd.func30 (by kernel_rfl) rfl #[.agg #[.int .i64 a0_0, .int .i64 a0_1, .string a0_2, .int .i64 a0_3, .int .i64 a0_4, .int .i64 a0_5, .string a0_6, .int .i64 a0_7]] rfl pbb2_2 ?_; (with_reducible refine (F30.calls kj8 a0_0 a0_1 a0_2 a0_3 a0_4 a0_5 a0_6 a0_7 true _ A26.out).mono ?_); rintro e w53 ⟨rfl, hb⟩; refine ⟨_, rfl, ?_⟩; replace BK101 := Aside0.mk (blk_below (g := gb101) (o := .cells #[.int .i64 a0_0, .int .i64 a0_1, .string a0_2, .int .i64 a0_3, .int .i64 a0_4, .int .i64 a0_5, .string a0_6, .int .i64 a0_7] 23 (0, 0)) pbb2_10 hb); replace HB := Aside0.mk (below_step pbb2_9 hb); (try clear hb); (try clear hb2); (try clear hk); (try clear hi); obtain ⟨hcz54_0, hcz54_1, hcz54_2, hcz54_3, hcz54_4, hcz54_5, hcz54_6, hcz54_7⟩ := cz8 BK101.out; obtain ⟨hfz54_0, hfz54_1, hfz54_2, hfz54_3, hfz54_4, hfz54_5, hfz54_6, hfz54_7⟩ := fz8 BK101.out) | ((with_reducible refine gate_callee (f := 31) rfl ?_); refine goesL_ (some 34) rfl rfl Tryd.func31 (by kernel_rfl) rfl #[.int .i64 a0_3] rfl pbb2_2 ?_; (with_reducible refine (F31.calls a0_3 false _ A28.out).mono ?_); rintro e w' ⟨rfl, ⟨nd, rfl⟩⟩; refine ⟨_, rfl, ?_⟩) | (go_at_call 31; (with_reducible refine (F31.calls a0_3 false _ A46.out).mono ?_); rintro e w' ⟨rfl, ⟨nd, rfl⟩⟩))
           go_ret
           exact ⟨pbb2_5, pbb2_9⟩
          ·rw [if_neg c51] at H; have c51b0 := nF_ c51; have c51b1 := nT_ c51; obtain rfl := Option.some.inj H; obtain ⟨hcz55_0, hcz55_1, hcz55_2, hcz55_3, hcz55_4, hcz55_5, hcz55_6, hcz55_7⟩ := cz8 BK101.out; obtain ⟨hfz55_0, hfz55_1, hfz55_2, hfz55_3, hfz55_4, hfz55_5, hfz55_6, hfz55_7⟩ := fz8 BK101.out
           go_wp2_with (first | ((with_reducible refine gate_callee (f := 30) rfl ?_); refine goesL_ (some 29) rfl rfl Tryd.func30 (by kernel_rfl) rfl #[.agg #[.int .i64 a0_0, .int .i64 a0_1, .string a0_2, .int .i64 a0_3, .int .i64 a0_4, .int .i64 a0_5, .string a0_6, .int .i64 a0_7]] rfl pbb2_2 ?_; (with_reducible refine (F30.calls kj8 a0_0 a0_1 a0_2 a0_3 a0_4 a0_5 a0_6 a0_7 true _ A26.out).mono ?_); rintro e w56 ⟨rfl, hb⟩; refine ⟨_, rfl, ?_⟩; replace BK101 := Aside0.mk (blk_below (g := gb101) (o := .cells #[.int .i64 a0_0, .int .i64 a0_1, .string a0_2, .int .i64 a0_3, .int .i64 a0_4, .int .i64 a0_5, .string a0_6, .int .i64 a0_7] 23 (0, 0)) pbb2_10 hb); replace HB := Aside0.mk (below_step pbb2_9 hb); (try clear hb); (try clear hb2); (try clear hk); (try clear hi); obtain ⟨hcz57_0, hcz57_1, hcz57_2, hcz57_3, hcz57_4, hcz57_5, hcz57_6, hcz57_7⟩ := cz8 BK101.out; obtain ⟨hfz57_0, hfz57_1, hfz57_2, hfz57_3, hfz57_4, hfz57_5, hfz57_6, hfz57_7⟩ := fz8 BK101.out) | ((with_reducible refine gate_callee (f := 31) rfl ?_); refine goesL_ (some 34) rfl rfl Tryd.func31 (by kernel_rfl) rfl #[.int .i64 a0_3] rfl pbb2_2 ?_; (with_reducible refine (F31.calls a0_3 false _ A28.out).mono ?_); rintro e w' ⟨rfl, ⟨nd, rfl⟩⟩; refine ⟨_, rfl, ?_⟩) | (go_at_call 31; (with_reducible refine (F31.calls a0_3 false _ A46.out).mono ?_); rintro e w' ⟨rfl, ⟨nd, rfl⟩⟩))
           go_ret
           exact ⟨pbb2_5, pbb2_9⟩
       ·replace c27 := Bool.eq_false_iff.mpr c27; subst c27; rw [if_neg (show ¬ (false = true) by decide)] at H; obtain rfl := Option.some.inj H; obtain ⟨hcz58_0, hcz58_1, hcz58_2, hcz58_3, hcz58_4, hcz58_5, hcz58_6, hcz58_7⟩ := cz8 BK101.out; obtain ⟨hfz58_0, hfz58_1, hfz58_2, hfz58_3, hfz58_4, hfz58_5, hfz58_6, hfz58_7⟩ := fz8 BK101.out
        go_wp2_with (first | ((with_reducible refine gate_callee (f := 30) rfl ?_); refine goesL_ (some 29) rfl rfl Tryd.func30 (by kernel_rfl) rfl #[.agg #[.int .i64 a0_0, .int .i64 a0_1, .string a0_2, .int .i64 a0_3, .int .i64 a0_4, .int .i64 a0_5, .string a0_6, .int .i64 a0_7]] rfl pbb2_2 ?_; (with_reducible refine (F30.calls kj8 a0_0 a0_1 a0_2 a0_3 a0_4 a0_5 a0_6 a0_7 false _ A26.out).mono ?_); rintro e w59 ⟨rfl, hb⟩; refine ⟨_, rfl, ?_⟩; replace BK101 := Aside0.mk (blk_below (g := gb101) (o := .cells #[.int .i64 a0_0, .int .i64 a0_1, .string a0_2, .int .i64 a0_3, .int .i64 a0_4, .int .i64 a0_5, .string a0_6, .int .i64 a0_7] 23 (0, 0)) pbb2_10 hb); replace HB := Aside0.mk (below_step pbb2_9 hb); (try clear hb); (try clear hb2); (try clear hk); (try clear hi)))
        go_ret
        exact ⟨pbb2_5, pbb2_9⟩
   ·replace c8 := Bool.eq_false_iff.mpr c8; subst c8; rw [if_neg (show ¬ (false = true) by decide)] at H; obtain rfl := Option.some.inj H; go_enter Tryd.func12, Tryd.ntmps12
    go_wp2_with (first | ((with_reducible refine gate_dst (N := 1) rfl ?_); refine box_event ?hg (N := 1) ?hd (cs := #[.int .i64 a0_0, .int .i64 a0_1, .string a0_2, .int .i64 a0_3, .int .i64 a0_4, .int .i64 a0_5, .string a0_6, .int .i64 a0_7]) (t := 23) ?hr ?_; (case hd => rfl); (case hg => rfl); (case hr => first | (go_simp; done) | (go_simp; rfl)); intro gb101 hg w60 hbox hb; have BK101 := Aside0.mk (hbox); have GW101 := Aside0.mk ((pbb2_6 : w.heap.size ≤ gb101)); have GE101 := Aside0.mk ((pbb2_6 : w.heap.size ≤ gb101)); replace HB := Aside0.mk (below_step pbb2_3 hb); clear hb hbox hg; obtain ⟨hcz61_0, hcz61_1, hcz61_2, hcz61_3, hcz61_4, hcz61_5, hcz61_6, hcz61_7⟩ := cz8 BK101.out; obtain ⟨hfz61_0, hfz61_1, hfz61_2, hfz61_3, hfz61_4, hfz61_5, hfz61_6, hfz61_7⟩ := fz8 BK101.out) | ((with_reducible refine gate_callee (f := 25) rfl ?_); refine goesL_ (some 6) rfl rfl Tryd.func25 (by kernel_rfl) rfl #[.int .i64 a0_1] rfl pbb2_2 ?_; (with_reducible refine (F25.calls k a0_1 A1 c1 l1 true _ pbb2_11 HC1.out A3.out).mono ?_); rintro e w62 ⟨rfl, hb⟩; refine ⟨_, rfl, ?_⟩; replace BK101 := Aside0.mk (blk_below (g := gb101) (o := .cells #[.int .i64 a0_0, .int .i64 a0_1, .string a0_2, .int .i64 a0_3, .int .i64 a0_4, .int .i64 a0_5, .string a0_6, .int .i64 a0_7] 23 (0, 0)) pbb2_10 hb); replace HB := Aside0.mk (below_step pbb2_9 hb); (try clear hb); (try clear hb2); (try clear hk); (try clear hi); obtain ⟨hcz63_0, hcz63_1, hcz63_2, hcz63_3, hcz63_4, hcz63_5, hcz63_6, hcz63_7⟩ := cz8 BK101.out; obtain ⟨hfz63_0, hfz63_1, hfz63_2, hfz63_3, hfz63_4, hfz63_5, hfz63_6, hfz63_7⟩ := fz8 BK101.out) | ((with_reducible refine gate_callee (f := 26) rfl ?_); refine goesL_ (some 11) rfl rfl Tryd.func26 (by kernel_rfl) rfl #[.string a0_2] rfl pbb2_2 ?_; (with_reducible refine (F26.calls k a0_2 true _ A5.out).mono ?_); rintro e w64 ⟨rfl, hb⟩; refine ⟨_, rfl, ?_⟩; replace BK101 := Aside0.mk (blk_below (g := gb101) (o := .cells #[.int .i64 a0_0, .int .i64 a0_1, .string a0_2, .int .i64 a0_3, .int .i64 a0_4, .int .i64 a0_5, .string a0_6, .int .i64 a0_7] 23 (0, 0)) pbb2_10 hb); replace HB := Aside0.mk (below_step pbb2_9 hb); (try clear hb); (try clear hb2); (try clear hk); (try clear hi); obtain ⟨hcz65_0, hcz65_1, hcz65_2, hcz65_3, hcz65_4, hcz65_5, hcz65_6, hcz65_7⟩ := cz8 BK101.out; obtain ⟨hfz65_0, hfz65_1, hfz65_2, hfz65_3, hfz65_4, hfz65_5, hfz65_6, hfz65_7⟩ := fz8 BK101.out) | ((with_reducible refine gate_callee (f := 27) rfl ?_); refine goesL_ (some 16) rfl rfl Tryd.func27 (by kernel_rfl) rfl #[.int .i64 a0_3, .int .i64 1, .int .i64 6] rfl pbb2_2 ?_; (with_reducible refine (F27.calls a0_3 1 6 false _ A7.out).mono ?_); rintro e w' ⟨rfl, ⟨nd, rfl⟩⟩; refine ⟨_, rfl, ?_⟩))
    go_ret
    exact ⟨pbb2_5, pbb2_9⟩
  ·replace c6 := Bool.eq_false_iff.mpr c6; subst c6; rw [if_neg (show ¬ (false = true) by decide)] at H; obtain rfl := Option.some.inj H; go_enter Tryd.func12, Tryd.ntmps12
   go_wp2_with (first | ((with_reducible refine gate_dst (N := 1) rfl ?_); refine box_event ?hg (N := 1) ?hd (cs := #[.int .i64 a0_0, .int .i64 a0_1, .string a0_2, .int .i64 a0_3, .int .i64 a0_4, .int .i64 a0_5, .string a0_6, .int .i64 a0_7]) (t := 23) ?hr ?_; (case hd => rfl); (case hg => rfl); (case hr => first | (go_simp; done) | (go_simp; rfl)); intro gb101 hg w66 hbox hb; have BK101 := Aside0.mk (hbox); have GW101 := Aside0.mk ((pbb2_6 : w.heap.size ≤ gb101)); have GE101 := Aside0.mk ((pbb2_6 : w.heap.size ≤ gb101)); replace HB := Aside0.mk (below_step pbb2_3 hb); clear hb hbox hg; obtain ⟨hcz67_0, hcz67_1, hcz67_2, hcz67_3, hcz67_4, hcz67_5, hcz67_6, hcz67_7⟩ := cz8 BK101.out; obtain ⟨hfz67_0, hfz67_1, hfz67_2, hfz67_3, hfz67_4, hfz67_5, hfz67_6, hfz67_7⟩ := fz8 BK101.out) | ((with_reducible refine gate_callee (f := 25) rfl ?_); refine goesL_ (some 6) rfl rfl Tryd.func25 (by kernel_rfl) rfl #[.int .i64 a0_1] rfl pbb2_2 ?_; (with_reducible refine (F25.calls k a0_1 A1 c1 l1 true _ pbb2_11 HC1.out A3.out).mono ?_); rintro e w68 ⟨rfl, hb⟩; refine ⟨_, rfl, ?_⟩; replace BK101 := Aside0.mk (blk_below (g := gb101) (o := .cells #[.int .i64 a0_0, .int .i64 a0_1, .string a0_2, .int .i64 a0_3, .int .i64 a0_4, .int .i64 a0_5, .string a0_6, .int .i64 a0_7] 23 (0, 0)) pbb2_10 hb); replace HB := Aside0.mk (below_step pbb2_9 hb); (try clear hb); (try clear hb2); (try clear hk); (try clear hi); obtain ⟨hcz69_0, hcz69_1, hcz69_2, hcz69_3, hcz69_4, hcz69_5, hcz69_6, hcz69_7⟩ := cz8 BK101.out; obtain ⟨hfz69_0, hfz69_1, hfz69_2, hfz69_3, hfz69_4, hfz69_5, hfz69_6, hfz69_7⟩ := fz8 BK101.out) | ((with_reducible refine gate_callee (f := 26) rfl ?_); refine goesL_ (some 11) rfl rfl Tryd.func26 (by kernel_rfl) rfl #[.string a0_2] rfl pbb2_2 ?_; (with_reducible refine (F26.calls k a0_2 false _ A5.out).mono ?_); rintro e w70 ⟨rfl, hb⟩; refine ⟨_, rfl, ?_⟩; replace BK101 := Aside0.mk (blk_below (g := gb101) (o := .cells #[.int .i64 a0_0, .int .i64 a0_1, .string a0_2, .int .i64 a0_3, .int .i64 a0_4, .int .i64 a0_5, .string a0_6, .int .i64 a0_7] 23 (0, 0)) pbb2_10 hb); replace HB := Aside0.mk (below_step pbb2_9 hb); (try clear hb); (try clear hb2); (try clear hk); (try clear hi)))
   go_ret
   exact ⟨pbb2_5, pbb2_9⟩
 ·replace c4 := Bool.eq_false_iff.mpr c4; subst c4; rw [if_neg (show ¬ (false = true) by decide)] at H; obtain rfl := Option.some.inj H; go_enter Tryd.func12, Tryd.ntmps12
  go_wp2_with (first | ((with_reducible refine gate_dst (N := 1) rfl ?_); refine box_event ?hg (N := 1) ?hd (cs := #[.int .i64 a0_0, .int .i64 a0_1, .string a0_2, .int .i64 a0_3, .int .i64 a0_4, .int .i64 a0_5, .string a0_6, .int .i64 a0_7]) (t := 23) ?hr ?_; (case hd => rfl); (case hg => rfl); (case hr => first | (go_simp; done) | (go_simp; rfl)); intro gb101 hg w71 hbox hb; have BK101 := Aside0.mk (hbox); have GW101 := Aside0.mk ((pbb2_6 : w.heap.size ≤ gb101)); have GE101 := Aside0.mk ((pbb2_6 : w.heap.size ≤ gb101)); replace HB := Aside0.mk (below_step pbb2_3 hb); clear hb hbox hg; obtain ⟨hcz72_0, hcz72_1, hcz72_2, hcz72_3, hcz72_4, hcz72_5, hcz72_6, hcz72_7⟩ := cz8 BK101.out; obtain ⟨hfz72_0, hfz72_1, hfz72_2, hfz72_3, hfz72_4, hfz72_5, hfz72_6, hfz72_7⟩ := fz8 BK101.out) | ((with_reducible refine gate_callee (f := 25) rfl ?_); refine goesL_ (some 6) rfl rfl Tryd.func25 (by kernel_rfl) rfl #[.int .i64 a0_1] rfl pbb2_2 ?_; (with_reducible refine (F25.calls k a0_1 A1 c1 l1 false _ pbb2_11 HC1.out A3.out).mono ?_); rintro e w73 ⟨rfl, hb⟩; refine ⟨_, rfl, ?_⟩; replace BK101 := Aside0.mk (blk_below (g := gb101) (o := .cells #[.int .i64 a0_0, .int .i64 a0_1, .string a0_2, .int .i64 a0_3, .int .i64 a0_4, .int .i64 a0_5, .string a0_6, .int .i64 a0_7] 23 (0, 0)) pbb2_10 hb); replace HB := Aside0.mk (below_step pbb2_9 hb); (try clear hb); (try clear hb2); (try clear hk); (try clear hi)))
  go_ret
  exact ⟨pbb2_5, pbb2_9⟩
def chkL (k : Nat) (g : List Int) (l : List Mv) : List Mv → Nat → Rmap → Option (Int × Int)
  | [], _, _ => some (-1, 0)
  | m :: r, i, L => if m.f0 = (i : Int) + 1 then (F12.f k m.f0 m.f1 m.f2 m.f3 m.f4 m.f5 m.f6 m.f7 g).bind fun e => if e = 0 then (F31.f m.f3).bind fun b => if b = true then (F37.f (l.take i) m L).bind fun t => if t.1 = 0 then chkL k g l r (i + 1) t.2 else some ((i : Int), t.1) else chkL k g l r (i + 1) L else some ((i : Int), e) else some ((i : Int), 17)
def F14.f (k : Nat) (l0 : List Mv) (l1 : List Int) : Option (Int × Int) := if l0.length > 2000 then some (0, 9) else chkL k l1 l0 l0 0 []
theorem chkL.mono (k : Nat) (g : List Int) (l : List Mv) : ∀ r i L, LeO (chkL k g l r i L) (chkL (k + 1) g l r i L)
  | [], i, L => LeO.refl _
  | m :: r, i, L => by
    unfold chkL
    exact LeO.ite (LeO.bind (F12.mono _ _ _ _ _ _ _ _ _ _) (fun e => LeO.ite (LeO.bind (LeO.refl _) (fun b => LeO.ite (LeO.bind (LeO.refl _) (fun t => LeO.ite (chkL.mono k g l r _ _) (LeO.refl _))) (chkL.mono k g l r _ _))) (LeO.refl _))) (LeO.refl _)
theorem F14.mono : ∀ l0 l1 k, LeO (F14.f k l0 l1) (F14.f (k + 1) l0 l1) := by
  intro l0 l1 k
  unfold F14.f
  exact LeO.ite (LeO.refl _) (chkL.mono _ _ _ _ _ _)
theorem drop_mv {l : List Mv} {j : Nat} (h : j < l.length) : l.drop j = rd_T23 l (j : Int) :: l.drop (j + 1) := by
  rw [List.drop_eq_getElem_cons h]
  congr 1
  unfold rd_T23
  simp [h]
theorem below_grown {B : Nat} {row : Option Nat} {a w w' : World} (h : Below B a w) (hB : B ≤ w.heap.size) (hg : w.grownBy w' row) (hb : ∀ q, row = some q → B ≤ q) : Below B a w' :=
  ⟨hg.os.trans h.os, hg.tape.trans h.tape, hg.output.trans h.output, Nat.le_trans h.size hg.size, fun k hk => (hg.block k (Nat.lt_of_lt_of_le hk hB) (fun e => by have := hb k e.symm; omega)).trans (h.block k hk)⟩
set_option maxHeartbeats 8000000 in
set_option maxRecDepth 100000 in
theorem F14.calls (k : Nat) (A0 : Option Addr) (c0 : Nat) (l0 : List Mv) (A1 : Option Addr) (c1 : Nat) (l1 : List Int) (r1 : Int) (r2 : Int) (w : World) (hr0 : Kd.C k23 w A0 l0.length l0) (hc0 : l0.length ≤ c0) (hr1 : Kd.C kTab w A1 l1.length l1) (hc1 : l1.length ≤ c1) (h : F14.f k l0 l1 = some (r1, r2)) :
    Calls Tryd.prog 14 #[.slice A0 l0.length c0] w fun e w' => e = .returned (.tuple #[.int .i64 r1, .int .i64 r2]) ∧ Below w.heap.size w w' := by
  have HR0 := Aside0.mk hr0; have HC0 := Aside0.mk hc0; have HR1 := Aside0.mk hr1; have HC1 := Aside0.mk hc1; clear hr0 hc0 hr1 hc1
  unfold F14.f at h
  by_cases c1 : l0.length > 2000
  · rw [if_pos c1] at h; obtain ⟨rfl, rfl⟩ := Prod.mk.inj (Option.some.inj h); clear h; have c1b : decide ((2000 : Int) < (l0.length : Int)) = true := decide_eq_true (by omega); have c1c : (2000 : Int) < (l0.length : Int) := by omega
    go_enter Tryd.func14, Tryd.ntmps14
    go_wp2
    go_ret2
    exact ⟨rfl, Below.refl _ _⟩
  rw [if_neg c1] at h; have c1b : decide ((2000 : Int) < (l0.length : Int)) = false := decide_eq_false (by omega); have c1c : ¬ (2000 : Int) < (l0.length : Int) := by omega
  have HN : Aside0 (l0.length ≤ 2000) := ⟨by omega⟩; clear c1; have HL := Aside0.mk h; clear h; have HM := Aside0.mk (MapIs_made (κ := Int × Int) (ν := Int) rtEnc (Value.int .i64) w); have HB := Aside0.mk ((Below.refl w.heap.size w).alloc (Nat.le_refl _) (.map #[] 0)); go_enter Tryd.func14, Tryd.ntmps14
  go_wp2_with (first | (refine makeL_ rfl rfl ?_))
  clear c1b c1c
  go_loopg [15] l0.length (fun kq v15 w' => ∃ (j : Nat) (L : Rmap), v15 = .int .i64 (j : Int) ∧ Aside0 (j + kq = l0.length) ∧ Aside0 (chkL k l1 l0 (l0.drop j) j L = some (r1, r2)) ∧ Aside0 (MapIs rtEnc (Value.int .i64) w' w.heap.size L) ∧ Aside0 (Below w.heap.size w w'))
  case atStart => exact ⟨0, [], rfl, ⟨by omega⟩, HL, HM, HB⟩
  case round =>
    clear HL HM HB; obtain ⟨j, L, rfl, HJ, H, HM, HB⟩ := hrel
    cases gk with
    | zero =>
      have hj0 : l0.drop j = [] := List.drop_eq_nil_of_le (by have := HJ.out; omega); have H1 := H.out; rw [hj0] at H1; simp only [chkL, Option.some.injEq, Prod.mk.injEq] at H1; obtain ⟨rfl, rfl⟩ := H1; have hjb : decide ((j : Int) < (l0.length : Int)) = false := decide_eq_false (by have := HJ.out; omega); have hjn : ¬ j < l0.length := by have := HJ.out; omega
      have hjd : decide (j < l0.length) = false := decide_eq_false hjn; clear hj0
      go_wp2
      go_ret2
      exact ⟨rfl, HB.out⟩
    | succ k1 =>
      have hj : j < l0.length := by have := HJ.out; omega
      have hjb : decide ((j : Int) < (l0.length : Int)) = true := decide_eq_true (by omega); have hjd : decide (j < l0.length) = true := decide_eq_true hj; have hjc : j ≤ c0 := by have := HC0.out; omega
      have hj2 : (j : Int) + 1 ≤ 2001 := by have := HN.out; omega
      have p1 : 0 ≤ (j : Int) := by omega
      have qj : (j : Int) < (l0.length : Int) := by omega
      obtain ⟨ad, e1, hx0, hx1, hx2, hx3, hx4, hx5, hx6, hx7⟩ := at_T23 HR0.out (j : Int) p1 qj
      cases e1
      simp only [Int.toNat_natCast] at hx0 hx1 hx2 hx3 hx4 hx5 hx6 hx7; have H1 := H.out; clear H; rw [drop_mv hj] at H1; simp only [chkL] at H1; obtain ⟨m, hm⟩ : ∃ m, rd_T23 l0 (j : Int) = m := ⟨_, rfl⟩; rw [hm] at H1 hx0 hx1 hx2 hx3 hx4 hx5 hx6 hx7; clear hm; replace hx0 := (HB.out.cell (World.block_lt_of_cell? w _ hx0)).trans hx0; replace hx1 := (HB.out.cell (World.block_lt_of_cell? w _ hx1)).trans hx1; replace hx2 := (HB.out.cell (World.block_lt_of_cell? w _ hx2)).trans hx2; replace hx3 := (HB.out.cell (World.block_lt_of_cell? w _ hx3)).trans hx3; replace hx4 := (HB.out.cell (World.block_lt_of_cell? w _ hx4)).trans hx4; replace hx5 := (HB.out.cell (World.block_lt_of_cell? w _ hx5)).trans hx5; replace hx6 := (HB.out.cell (World.block_lt_of_cell? w _ hx6)).trans hx6; replace hx7 := (HB.out.cell (World.block_lt_of_cell? w _ hx7)).trans hx7; replace p1 := eq_true p1; replace qj := eq_true qj; have HBb := Aside0.mk (HB.out.alloc HB.out.size (.cells #[.int .i64 m.f0, .int .i64 m.f1, .string m.f2, .int .i64 m.f3, .int .i64 m.f4, .int .i64 m.f5, .string m.f6, .int .i64 m.f7] 23)); have HX := Aside0.mk (blk_new wr (.cells #[.int .i64 m.f0, .int .i64 m.f1, .string m.f2, .int .i64 m.f3, .int .i64 m.f4, .int .i64 m.f5, .string m.f6, .int .i64 m.f7] 23)); have hml := HM.out.lt
      by_cases cs : m.f0 = (j : Int) + 1
      · rw [if_pos cs] at H1; have csb : (m.f0 == (j : Int) + 1) = true := beq_iff_eq.mpr cs; have csn : (m.f0 != (j : Int) + 1) = false := bne_eq_false_iff_eq.mpr cs; clear cs; obtain ⟨e0, hE, H1⟩ := Option.bind_eq_some_iff.mp H1; have HE := Aside0.mk hE; clear hE
        by_cases ce : e0 = 0
        · subst ce; rw [if_pos rfl] at H1; obtain ⟨b0, hb0, H1⟩ := Option.bind_eq_some_iff.mp H1; have HBf := Aside0.mk hb0; clear hb0
          cases b0 with
          | true =>
            rw [if_pos rfl] at H1; obtain ⟨⟨t1, t2⟩, hF, H1⟩ := Option.bind_eq_some_iff.mp H1; have HF := Aside0.mk hF; have H := Aside0.mk H1; clear H1 hF; have htl : (l0.take j).length = j := by rw [List.length_take]; omega
            go_wp2_with (first
              | (go_at_call 12; (with_reducible refine (F12.calls k m.f0 m.f1 m.f2 m.f3 m.f4 m.f5 m.f6 m.f7 A1 c1 l1 0 _ (Kd.C_below HR1.out HBb.out) HC1.out HE.out).mono ?_); rintro e w2 ⟨rfl, hb'⟩
                 have HX2 := Aside0.mk (blk_below HX.out hb'); have HB2 := Aside0.mk (below_then HBb.out HBb.out.size hb'); have HM2 := Aside0.mk ((HM.out.alloc (.cells #[.int .i64 m.f0, .int .i64 m.f1, .string m.f2, .int .i64 m.f3, .int .i64 m.f4, .int .i64 m.f5, .string m.f6, .int .i64 m.f7] 23)).below hb'); have hy3 := (blk_cell HX2.out 3).trans rfl; clear hb')
              | (go_at_call 31; (with_reducible refine (F31.calls m.f3 true _ HBf.out).mono ?_); rintro e w' ⟨rfl, ⟨nd, rfl⟩⟩))
            refine nameW ?_; intro W hW; have HBW : Aside0 (Below w.heap.size w W) := ⟨by rw [← hW]; exact pw_below_drewN HB2.out _⟩; have HMW : Aside0 (MapIs rtEnc (Value.int .i64) W w.heap.size L) := ⟨by rw [← hW]; exact HM2.out.heap rfl⟩; have HXW := Aside0.mk (show W.heap[wr.heap.size]? = some (.cells #[.int .i64 m.f0, .int .i64 m.f1, .string m.f2, .int .i64 m.f3, .int .i64 m.f4, .int .i64 m.f5, .string m.f6, .int .i64 m.f7] 23 (0, 0)) from by rw [← hW]; exact HX2.out); have hb0 : W.cell? ⟨wr.heap.size, 0, none⟩ = some (.int .i64 m.f0) := (blk_cell HXW.out 0).trans rfl; have hb1 : W.cell? ⟨wr.heap.size, 1, none⟩ = some (.int .i64 m.f1) := (blk_cell HXW.out 1).trans rfl; have hb2 : W.cell? ⟨wr.heap.size, 2, none⟩ = some (.string m.f2) := (blk_cell HXW.out 2).trans rfl; have hb3 : W.cell? ⟨wr.heap.size, 3, none⟩ = some (.int .i64 m.f3) := (blk_cell HXW.out 3).trans rfl; have hb4 : W.cell? ⟨wr.heap.size, 4, none⟩ = some (.int .i64 m.f4) := (blk_cell HXW.out 4).trans rfl; have hb5 : W.cell? ⟨wr.heap.size, 5, none⟩ = some (.int .i64 m.f5) := (blk_cell HXW.out 5).trans rfl; have hb6 : W.cell? ⟨wr.heap.size, 6, none⟩ = some (.string m.f6) := (blk_cell HXW.out 6).trans rfl; have hb7 : W.cell? ⟨wr.heap.size, 7, none⟩ = some (.int .i64 m.f7) := (blk_cell HXW.out 7).trans rfl; clear hW; refine start_ (n := 7) (S := fun w' => w'.heap = W.heap) (ds := [5,6]) (bq 7 0) (by kernel_rfl) rfl rfl rfl (fun hHeld => ?_); refine pure_ (i := 0) (N := some 36) (v := ?_) (a' := ?_) (bq 7 1) rfl rfl (by kernel_rfl) (fun _ _ _ h => h) (Or.inl ⟨by rfl, ?_⟩) ?_ ?_; rotate_left
            · intro w'; go_simp; with_reducible rfl
            rotate_left
            · simp only [Act.put, List.setIfInBounds_toArray, List.set_cons_zero, List.set_cons_succ, i64_w, i32_w]
              rfl
            refine pure_ (i := 1) (N := some 37) (v := ?_) (a' := ?_) (bq 7 3) rfl rfl (by kernel_rfl) (fun _ _ _ h => h) (Or.inl ⟨by rfl, ?_⟩) ?_ ?_; rotate_left
            · intro w'; go_simp; with_reducible rfl
            rotate_left
            · simp only [Act.put, List.setIfInBounds_toArray, List.set_cons_zero, List.set_cons_succ, i64_w, i32_w]
              rfl
            refine pure_ (i := 2) (N := some 38) (v := ?_) (a' := ?_) (bq 7 7) rfl rfl (by kernel_rfl) (fun _ _ _ h => h) (Or.inl ⟨by rfl, ?_⟩) ?_ ?_; rotate_left
            · intro w'; go_simp; with_reducible rfl
            rotate_left
            · simp only [Act.put, List.setIfInBounds_toArray, List.set_cons_zero, List.set_cons_succ, i64_w, i32_w]
              rfl
            refine take_ (i := 3) (N := some 39) (v := ?_) (a' := ?_) (bq 7 15) rfl rfl (by kernel_rfl) (fun _ _ _ h => h) (Or.inl ⟨by rfl, ?_⟩) hHeld ?_ ?_; rotate_left
            · rintro w' s0; have k0 := (cell_heap s0).trans hb0; have k1 := (cell_heap s0).trans hb1; have k2 := (cell_heap s0).trans hb2; have k3 := (cell_heap s0).trans hb3; have k4 := (cell_heap s0).trans hb4; have k5 := (cell_heap s0).trans hb5; have k6 := (cell_heap s0).trans hb6; have k7 := (cell_heap s0).trans hb7; go_simp; with_reducible rfl
            rotate_left
            · simp only [Act.put, List.setIfInBounds_toArray, List.set_cons_zero, List.set_cons_succ, i64_w, i32_w]
              rfl
            refine pure_ (i := 4) (N := some 40) (v := ?_) (a' := ?_) (bq 7 31) rfl rfl (by kernel_rfl) (fun _ _ _ h => h) (Or.inl ⟨by rfl, ?_⟩) ?_ ?_; rotate_left
            · intro w'; go_simp; with_reducible rfl
            rotate_left
            · simp only [Act.put, List.setIfInBounds_toArray, List.set_cons_zero, List.set_cons_succ, i64_w, i32_w]
              rfl
            refine last_ (i := 5) (N := some 41) (bq 7 63) rfl rfl (by kernel_rfl) (by decide) (fun K hK => ?_); refine goes_ Tryd.func37 (by kernel_rfl) rfl #[.slice (some ad) (l0.take j).length c0, .agg #[.int .i64 m.f0, .int .i64 m.f1, .string m.f2, .int .i64 m.f3, .int .i64 m.f4, .int .i64 m.f5, .string m.f6, .int .i64 m.f7], .map (some w.heap.size)] (by rfl) rfl rfl (by simp only [List.map_toArray, List.map_cons, List.map_nil]; rw [htl]; rfl) ?_; (with_reducible refine (F37.calls (some ad) c0 (l0.take j) m w.heap.size L t1 t2 _ ?hrA ?hrB ?hrC HF.out).mono ?_)
            case hrA => exact Kd.C_take (Kd.C_below HR0.out (below_drew HBW.out)) (by omega)
            case hrB => exact Nat.le_trans (List.length_take_le _ _) (by have := HC0.out; omega)
            case hrC => exact HMW.out.heap rfl
            rintro e w3 ⟨rfl, hm3, hg3⟩; refine ⟨_, rfl, ?_⟩; refine hK.out _ _ ?_; clear hK K; have HM3 := Aside0.mk hm3; have HB3 := Aside0.mk (below_grown (below_drew HBW.out) (below_drew HBW.out).size hg3 (fun q hq => by injection hq with hq; omega)); clear hm3 hg3; refine norm_ (a' := ?_) ?_ ?_; rotate_left
            · show Act.put _ (some 41) _ = _; simp only [Act.put, List.setIfInBounds_toArray, List.set_cons_zero, List.set_cons_succ, i64_w, i32_w]
              rfl
            refine pure_ (i := 6) (N := some 8) (v := ?_) (a' := ?_) (bq 7 127) rfl rfl (by kernel_rfl) (fun _ _ _ h => h) (Or.inl ⟨by rfl, ?_⟩) ?_ ?_; rotate_left
            · intro w'; go_simp; with_reducible rfl
            rotate_left
            · simp only [Act.put, List.setIfInBounds_toArray, List.set_cons_zero, List.set_cons_succ, i64_w, i32_w]
              rfl
            refine done_ (by kernel_rfl) ?_; have H1 := H.out
            by_cases ct : t1 = 0
            · subst ct; have H2 : chkL k l1 l0 (l0.drop (j + 1)) (j + 1) t2 = some (r1, r2) := (if_pos rfl).symm.trans H1; have H' := Aside0.mk H2; clear H1 H2 H
              go_wp2
              go_roundg k1
              case measure => omega
              case rel => exact ⟨j + 1, t2, by go_num, ⟨by have := HJ.out; omega⟩, H', HM3, HB3⟩
            · have H2 : some ((j : Int), t1) = some (r1, r2) := (if_neg ct).symm.trans H1; obtain ⟨rfl, rfl⟩ := Prod.mk.inj (Option.some.inj H2); clear H1 H2 H HF; have ctb : (t1 == 0) = false := beq_eq_false_iff_ne.mpr ct; have ctn : (t1 != 0) = true := bne_iff_ne.mpr ct
              go_wp2
              go_ret2
              exact ⟨rfl, HB3.out⟩
          | false =>
            have H' := Aside0.mk (show chkL k l1 l0 (l0.drop (j + 1)) (j + 1) L = some (r1, r2) from H1); clear H1
            go_wp2_with (first
              | (go_at_call 12; (with_reducible refine (F12.calls k m.f0 m.f1 m.f2 m.f3 m.f4 m.f5 m.f6 m.f7 A1 c1 l1 0 _ (Kd.C_below HR1.out HBb.out) HC1.out HE.out).mono ?_); rintro e w2 ⟨rfl, hb'⟩
                 have HX2 := Aside0.mk (blk_below HX.out hb'); have HB2 := Aside0.mk (below_then HBb.out HBb.out.size hb'); have HM2 := Aside0.mk ((HM.out.alloc (.cells #[.int .i64 m.f0, .int .i64 m.f1, .string m.f2, .int .i64 m.f3, .int .i64 m.f4, .int .i64 m.f5, .string m.f6, .int .i64 m.f7] 23)).below hb'); have hy3 := (blk_cell HX2.out 3).trans rfl; clear hb')
              | (go_at_call 31; (with_reducible refine (F31.calls m.f3 false _ HBf.out).mono ?_); rintro e w' ⟨rfl, ⟨nd, rfl⟩⟩))
            go_roundg k1
            case measure => omega
            case rel => exact ⟨j + 1, L, by go_num, ⟨by have := HJ.out; omega⟩, H', ⟨HM2.out.heap rfl⟩, ⟨pw_below_drewN HB2.out _⟩⟩
        · rw [if_neg ce] at H1; obtain ⟨rfl, rfl⟩ := Prod.mk.inj (Option.some.inj H1); clear H1; have ceb : (e0 == 0) = false := beq_eq_false_iff_ne.mpr ce; have cen : (e0 != 0) = true := bne_iff_ne.mpr ce
          go_wp2_with (first
            | (go_at_call 12; (with_reducible refine (F12.calls k m.f0 m.f1 m.f2 m.f3 m.f4 m.f5 m.f6 m.f7 A1 c1 l1 e0 _ (Kd.C_below HR1.out HBb.out) HC1.out HE.out).mono ?_); rintro e w2 ⟨rfl, hb'⟩; have HB2 := Aside0.mk (below_then HBb.out HBb.out.size hb'); clear hb'))
          go_ret2
          exact ⟨rfl, HB2.out⟩
      · rw [if_neg cs] at H1; obtain ⟨rfl, rfl⟩ := Prod.mk.inj (Option.some.inj H1); clear H1; have csb : (m.f0 == (j : Int) + 1) = false := beq_eq_false_iff_ne.mpr cs; have csn : (m.f0 != (j : Int) + 1) = true := bne_iff_ne.mpr cs
        go_wp2
        go_ret2
        exact ⟨rfl, HBb.out⟩
end Go.Proofs.YtegpappenmhndaaDoor.M
end
section
namespace Go.Proofs.YtegpappenmhndaaDoorW.PrintLast
open Go.RowKit Go.Proofs.YtegpappenmhndaaDoorW.PrintWords
set_option linter.unusedSimpArgs false
set_option linter.unusedVariables false
section
variable {P : Program} {ops : Array Oper} {o : Oper} {a : Act} {Q : Exit → Act → World → Prop} {Kc : Act → World → Prop} {α : Type}
def Flat (d : Kd α) : Prop := ∀ (w : World) (base : Nat) (ok : Nat → Prop) (x : α) (cs : List Value), d.K w x cs → d.M w base ok x cs
theorem run_full (d : Kd α) (hf : Flat d) {W : World} (t ty e : TypeId) (z : Value) (bytes : Nat)
    (ht : P.underlying t = some (.slice e)) (hinfo : (P.info? e).map (fun i => (i.zero, i.size, i.bytes)) = some (some z, d.sz, bytes)) (hz : z.cells.size = d.sz) (hs0 : 0 < d.sz) (hb0 : 0 < bytes)
    (A : Option Addr) (xs : List α) (p : α) (cs : List Value) (HC : d.C W A xs.length xs) (hp : d.K W p cs) (hl : (xs.length + 1) * bytes ≤ 140737488355328) :
    ∃ v1 w1, (Builtin.append_ #[t, t] ty #[.slice A xs.length xs.length, .slice (some ⟨W.heap.size, 0, none⟩) 1 1]).run P (W.alloc (.cells cs.toArray e)) = .ok v1 w1 ∧ d.R e w1 W.heap.size (fun _ => True) v1 (xs ++ [p]) ∧ Below W.heap.size W w1 := by
  obtain ⟨i0, hi, hzz⟩ := Option.map_eq_some_iff.1 hinfo; simp only [Prod.mk.injEq] at hzz; obtain ⟨hz0, hz1, hz2⟩ := hzz; have hlen : xs.length + 1 ≤ 140737488355328 := Nat.le_trans (Nat.le_mul_of_pos_right _ hb0) hl; have hcs : cs.length = d.sz := d.K_len hp
  have hnews : ∀ j u, cs[j]? = some u → (W.alloc (.cells cs.toArray e)).cell? ((⟨W.heap.size, 0, none⟩ : Addr).add j) = some u := by
    simpa using World.news_of_block (cs := cs.toArray) (t := e) (fr := (0, 0)) (heap_alloc_new W (.cells cs.toArray e))
  have hB : Below W.heap.size W (W.alloc (.cells cs.toArray e)) := (Below.refl _ _).alloc (Nat.le_refl _) _
  rcases A with _ | ad
  · have h0 : xs.length = 0 := by
      rcases Nat.eq_zero_or_pos xs.length with h0 | h0
      · exact h0
      · obtain ⟨ad, h, _⟩ := HC.2.2 h0
        cases h
    obtain rfl : xs = [] := List.eq_nil_of_length_eq_zero h0; obtain ⟨v1, w1, hr, hown, hg, _, hat⟩ := run_append_own_at (P := P) (W.alloc (.cells cs.toArray e)) W.heap.size t ty e i0 z d.sz bytes ht hi hz0 hz1 hz2 hz hs0 (.slice none 0 0) 0 [] (World.ownsRow_nil _ _ e d.sz) ⟨W.heap.size, 0, none⟩ 1 1 cs (by rw [hcs]; simp) hnews (d.K_one hp) (by simp only [maxLen]; omega) (by simpa using hl) (by simp); have hb1 : Below W.heap.size W w1 := hB.grown hg (by simp) (fun _ h => by simp [Value.ownBlock] at h); refine ⟨v1, w1, hr, ⟨fun _ _ => trivial, [] ++ cs, hown, ?_⟩, hb1⟩; exact Reps.snoc ⟨by simp, fun j q hq => by simp at hq⟩ (hf _ _ _ _ _ (d.K_below hb1 hp)) hcs
  · obtain ⟨olds, hrep, holds⟩ := ReadsRow.inner_ HC
    obtain ⟨v1, w1, hr, hown, hg⟩ := run_append_arg_grows (P := P) (W.alloc (.cells cs.toArray e)) t ty e i0 z d.sz bytes ht hi hz0 hz1 hz2 hz hs0 ad xs.length xs.length olds hrep.1
      (fun j u hu => (hB.cell (World.block_lt_of_cell? W _ (holds j u hu))).trans (holds j u hu)) ⟨W.heap.size, 0, none⟩ 1 1 cs (by rw [hcs]; simp) hnews (by omega) (by simp only [maxLen]; omega) hl
    have hb1 : Below W.heap.size W w1 := hB.grown hg (by simp) (fun _ h => by cases h); refine ⟨v1, w1, hr, ⟨fun _ _ => trivial, olds ++ cs, by rw [List.length_append, List.length_singleton]; exact own_weaken hown (by simp), ?_⟩, hb1⟩; exact Reps.snoc (hrep.imp_ (fun _ _ hq => hf _ _ _ _ _ (d.K_below hb1 hq))) (hf _ _ _ _ _ (d.K_below hb1 hp)) hcs
theorem full_step (d : Kd α) (hf : Flat d) {W : World} (hw : Region.wanted o (yielded ops a.tmps) = true) (s x : Operand) (t e : TypeId) (z : Value) (bytes : Nat)
    (ho : o.op = .call { callee := .builtin .append, args := #[s, x], argTypes := #[t, t] })
    (ht : P.underlying t = some (.slice e)) (hinfo : (P.info? e).map (fun i => (i.zero, i.size, i.bytes)) = some (some z, d.sz, bytes)) (hz : z.cells.size = d.sz) (hs0 : 0 < d.sz) (hb0 : 0 < bytes)
    (A : Option Addr) (xs : List α) (p : α) (cs : List Value) (hs : a.eval s = .slice A xs.length xs.length) (hx : a.eval x = .slice (some ⟨W.heap.size, 0, none⟩) 1 1) (HC : d.C W A xs.length xs) (hp : d.K W p cs) (hl : (xs.length + 1) * bytes ≤ 140737488355328)
    (h : ∀ v1 w1, d.R e w1 W.heap.size (fun _ => True) v1 (xs ++ [p]) → Below W.heap.size W w1 → Kc (a.put o.dst v1) w1) :
    if Region.wanted o (yielded ops a.tmps) = true then Oper.wp P o a (W.alloc (.cells cs.toArray e)) Kc Q else Kc (a.put o.dst undef) (W.alloc (.cells cs.toArray e)) := by
  obtain ⟨v1, w1, hr, h1, h2⟩ := run_full d hf t o.type e z bytes ht hinfo hz hs0 hb0 A xs p cs HC hp hl; rw [if_pos hw]
  unfold Oper.wp execOp
  simp only [ho, resolve, invoke, builtin, Sem.run_bind, Sem.run_pure, Result.andThen_ok, List.map_toArray, List.map_cons, List.map_nil, hs, hx, hr]; exact h v1 w1 h1 h2
end
end Go.Proofs.YtegpappenmhndaaDoorW.PrintLast
end
section
namespace Go.Proofs.YtegpappenmhndaaDoorW.PrintLast
open Go.RowKit Go.Proofs.YtegpappenmhndaaDoorW.PrintWords
section
variable {P : Program} {ops : Array Oper} {Q : Exit → Act → World → Prop}
theorem goesFL_ {rest : List Oper} {oi : Oper} {a : Act} {w : World} (N : Option Tmp) (hd : oi.dst = N) (hg : oi.guard = none) {f : FuncId} {fn : Func} {as_ : Array Operand} {ts : Array TypeId} {t : Tmp} {cap : Array Value} (hf : P.funcs[f]? = some fn) (hname : (fn.name == "runtime.NumGoroutine") = false) (hb : fn.body.isSome = true) (args : Array Value)
    (hop : oi.op = .call { callee := .value (.tmp t), args := as_, argTypes := ts }) (hv : a.eval (.tmp t) = .func (.func f) #[] cap) (hargs : as_.map a.eval ++ cap = args)
    (h : Calls P f args w fun e w' => ∃ v, e = .returned v ∧ wpList P ops Q rest (a.put N v) w') : wpList P ops Q (oi :: rest) a w := by
  refine wpList_plain hg fun K hK => ?_; have he := enters_ hf hname hb args w
  have hrun : (execOp a.eval oi).run P w = .ok (.enter f args) w := by
    unfold execOp
    simp [hop, resolve, hv, Deferred.ofValue, invoke, hargs, he]
  unfold Oper.wp
  rw [hrun, Oper.upon_enter]; refine h.mono fun e w'' hh => ?_; obtain ⟨v, rfl, hk⟩ := hh; subst hd; exact hK _ _ hk
end
end Go.Proofs.YtegpappenmhndaaDoorW.PrintLast
end
section
namespace Go.Proofs.YtegpappenmhndaaDoor.M
open Go.RowKit Go.Proofs.YtegpappenmhndaaDoorW.PrintWords Go.Proofs.YtegpappenmhndaaDoorW.PrintLast Go.Proofs.YtegpappenmhndaaDoorW.PrintMore
attribute [local go_sem] max2_int min2_int max_two min_two max_three min_three max_four min_four
set_option linter.unusedVariables false
set_option linter.unusedSimpArgs false
def aft (m y : Mv) : Bool := decide (m.f1 < y.f1) || (m.f1 == y.f1 && decide (m.f0 < y.f0))
def bsr (p : Nat → Bool) : Nat → Nat → Nat → Nat
  | 0, lo, _ => lo
  | f + 1, lo, hi => if lo < hi then (if p ((lo + hi) / 2) = true then bsr p f lo ((lo + hi) / 2) else bsr p f ((lo + hi) / 2 + 1) hi) else lo
def mvAt (l : List Mv) (i : Nat) : Mv := rd_T23 l (i : Int)
def insv (m : Mv) (l : List Mv) (x : Mv) : List Mv := l.take (bsr (fun i => aft m (mvAt l i)) l.length 0 l.length) ++ x :: l.drop (bsr (fun i => aft m (mvAt l i)) l.length 0 l.length)
theorem mv_flat : Flat k23 := fun w base ok x cs h => h
theorem mv_K (w : World) (x : Mv) : k23.K w x [.int .i64 x.f0, .int .i64 x.f1, .string x.f2, .int .i64 x.f3, .int .i64 x.f4, .int .i64 x.f5, .string x.f6, .int .i64 x.f7] := k23.K_of_M (k23_mkM w 0 (fun _ => True) x)
abbrev mvCells (m : Mv) : Array Value := #[.int .i64 m.f0, .int .i64 m.f1, .string m.f2, .int .i64 m.f3, .int .i64 m.f4, .int .i64 m.f5, .string m.f6, .int .i64 m.f7]
set_option maxHeartbeats 4000000 in
set_option maxRecDepth 100000 in
theorem moves_after.calls (m y : Mv) (g : Nat) (w : World) (hb : Aside0 (w.heap[g]? = some (.cells #[.int .i64 m.f0, .int .i64 m.f1, .string m.f2, .int .i64 m.f3, .int .i64 m.f4, .int .i64 m.f5, .string m.f6, .int .i64 m.f7] 23 (0, 0)))) :
    Calls Tryd.prog 40 (#[.agg #[.int .i64 y.f0, .int .i64 y.f1, .string y.f2, .int .i64 y.f3, .int .i64 y.f4, .int .i64 y.f5, .string y.f6, .int .i64 y.f7]] ++ #[.pointer (some ⟨g, 0, none⟩)]) w fun e w' => e = .returned (.bool (aft m y)) ∧ Below w.heap.size w w' := by
  have HB := Aside0.mk ((Below.refl w.heap.size w).alloc (Nat.le_refl _) (.cells #[.int .i64 y.f0, .int .i64 y.f1, .string y.f2, .int .i64 y.f3, .int .i64 y.f4, .int .i64 y.f5, .string y.f6, .int .i64 y.f7] 23)); have hc0 : (w.alloc (.cells #[.int .i64 y.f0, .int .i64 y.f1, .string y.f2, .int .i64 y.f3, .int .i64 y.f4, .int .i64 y.f5, .string y.f6, .int .i64 y.f7] 23)).cell? ⟨g, 0, none⟩ = some (.int .i64 m.f0) := (blk_cell (blk_alloc hb.out _) 0).trans rfl; have hc1 : (w.alloc (.cells #[.int .i64 y.f0, .int .i64 y.f1, .string y.f2, .int .i64 y.f3, .int .i64 y.f4, .int .i64 y.f5, .string y.f6, .int .i64 y.f7] 23)).cell? ⟨g, 1, none⟩ = some (.int .i64 m.f1) := (blk_cell (blk_alloc hb.out _) 1).trans rfl
  unfold aft
  by_cases c1 : m.f1 < y.f1
  · have c1b : decide (m.f1 < y.f1) = true := decide_eq_true c1; rw [c1b, Bool.true_or]; go_enter Tryd.func40, Tryd.ntmps40
    go_wp2
    go_ret
    exact ⟨rfl, HB.out⟩
  · have c1b : decide (m.f1 < y.f1) = false := decide_eq_false c1; rw [c1b, Bool.false_or]
    by_cases c2 : m.f1 = y.f1
    · have c2b : (m.f1 == y.f1) = true := beq_iff_eq.mpr c2; rw [c2b, Bool.true_and]; clear c2 c1; go_enter Tryd.func40, Tryd.ntmps40
      go_wp2
      go_ret
      exact ⟨rfl, HB.out⟩
    · have c2b : (m.f1 == y.f1) = false := beq_eq_false_iff_ne.mpr c2; rw [c2b, Bool.false_and]; go_enter Tryd.func40, Tryd.ntmps40
      go_wp2
      go_ret
      exact ⟨rfl, HB.out⟩
set_option maxHeartbeats 8000000 in
set_option maxRecDepth 100000 in
theorem moves_insert.calls (A0 : Option Addr) (c0 : Nat) (l0 : List Mv) (x m : Mv) (g : Nat) (w : World) (hr0 : Kd.C k23 w A0 l0.length l0) (hc0 : l0.length ≤ c0) (hl0 : l0.length ≤ 1000000) (hb : w.heap[g]? = some (.cells #[.int .i64 m.f0, .int .i64 m.f1, .string m.f2, .int .i64 m.f3, .int .i64 m.f4, .int .i64 m.f5, .string m.f6, .int .i64 m.f7] 23 (0, 0))) :
    Calls Tryd.prog 39 #[.slice A0 l0.length c0, .agg #[.int .i64 x.f0, .int .i64 x.f1, .string x.f2, .int .i64 x.f3, .int .i64 x.f4, .int .i64 x.f5, .string x.f6, .int .i64 x.f7], .func (.func 40) #[] #[.pointer (some ⟨g, 0, none⟩)]] w fun e w' => ∃ v0_ : Value, e = .returned v0_ ∧ Kd.R k23 23 w' w.heap.size (fun _ => True) v0_ (insv m l0 x) ∧ Below w.heap.size w w' := by
  have HR0 := Aside0.mk hr0; have HC0 := Aside0.mk hc0; have HN := Aside0.mk hl0; have HG := Aside0.mk hb; clear hr0 hc0 hb; have hl1 : (l0.length : Int) ≤ 1000000 := by omega
  clear hl0; have HX := Aside0.mk (blk_new w (.cells #[.int .i64 x.f0, .int .i64 x.f1, .string x.f2, .int .i64 x.f3, .int .i64 x.f4, .int .i64 x.f5, .string x.f6, .int .i64 x.f7] 23)); have HB := Aside0.mk ((Below.refl w.heap.size w).alloc (Nat.le_refl _) (.cells #[.int .i64 x.f0, .int .i64 x.f1, .string x.f2, .int .i64 x.f3, .int .i64 x.f4, .int .i64 x.f5, .string x.f6, .int .i64 x.f7] 23)); obtain ⟨pos, hpos⟩ : ∃ q, bsr (fun i => aft m (mvAt l0 i)) l0.length 0 l0.length = q := ⟨_, rfl⟩; have HP := Aside0.mk hpos
  unfold insv
  rw [hpos]; clear hpos; go_enter Tryd.func39, Tryd.ntmps39
  go_wp2
  go_loopg [7, 8] l0.length (fun kq v7 v8 w' => ∃ (lo hi : Nat), v7 = .int .i64 (lo : Int) ∧ v8 = .int .i64 (hi : Int) ∧ Aside0 (lo ≤ hi ∧ hi ≤ l0.length ∧ hi - lo ≤ kq) ∧ Aside0 (bsr (fun i => aft m (mvAt l0 i)) kq lo hi = pos) ∧ Aside0 (w'.heap[w.heap.size]? = some (.cells #[.int .i64 x.f0, .int .i64 x.f1, .string x.f2, .int .i64 x.f3, .int .i64 x.f4, .int .i64 x.f5, .string x.f6, .int .i64 x.f7] 23 (0, 0))) ∧ Aside0 (Below w.heap.size w w'))
  case atStart => exact ⟨0, l0.length, rfl, rfl, ⟨by omega⟩, HP, HX, HB⟩
  case round =>
    clear HP HX HB; obtain ⟨lo, hi, rfl, rfl, HJ, HP, HX, HB⟩ := hrel; have hhi : (hi : Int) ≤ 1000000 := by have := HJ.out; omega
    by_cases ch : lo < hi
    · cases gk with
      | zero => exact absurd HJ.out (by omega)
      | succ k1 =>
        have H1 := HP.out; simp only [bsr, if_pos ch] at H1; have chb : decide ((lo : Int) < (hi : Int)) = true := decide_eq_true (by omega); have chd : decide (lo < hi) = true := decide_eq_true ch; obtain ⟨md, hmd⟩ : ∃ md, (lo + hi) / 2 = md := ⟨_, rfl⟩; simp only [hmd] at H1; have hmdi : ((lo : Int) + (hi : Int)) / 2 = (md : Int) := by omega
        have m0 : 0 ≤ (md : Int) := by omega
        have m1 : (md : Int) < (l0.length : Int) := by have := HJ.out; omega
        have m2 : (md : Int) + 1 ≤ 1000001 := by omega
        obtain ⟨y, hy⟩ : ∃ y, mvAt l0 md = y := ⟨_, rfl⟩; simp only [hy] at H1; obtain ⟨ay, e1, hy0, hy1, hy2, hy3, hy4, hy5, hy6, hy7⟩ := at_T23 HR0.out (md : Int) m0 m1
        cases e1
        rw [show rd_T23 l0 (md : Int) = y from hy] at hy0 hy1 hy2 hy3 hy4 hy5 hy6 hy7; simp only [Int.toNat_natCast] at hy0 hy1 hy2 hy3 hy4 hy5 hy6 hy7; replace hy0 := (HB.out.cell (World.block_lt_of_cell? w _ hy0)).trans hy0; replace hy1 := (HB.out.cell (World.block_lt_of_cell? w _ hy1)).trans hy1; replace hy2 := (HB.out.cell (World.block_lt_of_cell? w _ hy2)).trans hy2; replace hy3 := (HB.out.cell (World.block_lt_of_cell? w _ hy3)).trans hy3; replace hy4 := (HB.out.cell (World.block_lt_of_cell? w _ hy4)).trans hy4; replace hy5 := (HB.out.cell (World.block_lt_of_cell? w _ hy5)).trans hy5; replace hy6 := (HB.out.cell (World.block_lt_of_cell? w _ hy6)).trans hy6; replace hy7 := (HB.out.cell (World.block_lt_of_cell? w _ hy7)).trans hy7; have HJ2 : Aside0 (lo ≤ md ∧ md < hi ∧ hi ≤ l0.length ∧ hi - lo ≤ k1 + 1) := ⟨by have := HJ.out; omega⟩; clear HJ hmd hy ch; replace m0 := eq_true m0; replace m1 := eq_true m1; have HGr := Aside0.mk (blk_below HG.out HB.out)
        cases ca : aft m y with
        | true =>
          simp only [ca, if_true] at H1; have H' := Aside0.mk H1; clear H1
          go_wp2_with (first
            | (refine goesFL_ (some 24) rfl rfl (f := 40) Tryd.func40 (by kernel_rfl) rfl (#[.agg #[.int .i64 y.f0, .int .i64 y.f1, .string y.f2, .int .i64 y.f3, .int .i64 y.f4, .int .i64 y.f5, .string y.f6, .int .i64 y.f7]] ++ #[.pointer (some ⟨g, 0, none⟩)]) rfl (by rfl) (by (try simp only [List.map_toArray, List.map_cons, List.map_nil]); first | done | rfl) ?_
               (with_reducible refine (moves_after.calls m y g _ HGr).mono ?_); rintro e w2 ⟨rfl, hb'⟩; rw [ca]; refine ⟨_, rfl, ?_⟩; simp only [Act.put, List.setIfInBounds_toArray, List.set_cons_zero, List.set_cons_succ]; have HX2 := Aside0.mk (blk_below HX.out hb'); have HB2 := Aside0.mk (below_then HB.out HB.out.size hb'); clear hb'))
          go_roundg k1
          case measure => omega
          case rel => exact ⟨lo, md, by go_num, by go_num, ⟨by have := HJ2.out; omega⟩, H', HX2, HB2⟩
        | false =>
          simp only [ca, Bool.false_eq_true, if_false] at H1; have H' := Aside0.mk H1; clear H1
          go_wp2_with (first
            | (refine goesFL_ (some 24) rfl rfl (f := 40) Tryd.func40 (by kernel_rfl) rfl (#[.agg #[.int .i64 y.f0, .int .i64 y.f1, .string y.f2, .int .i64 y.f3, .int .i64 y.f4, .int .i64 y.f5, .string y.f6, .int .i64 y.f7]] ++ #[.pointer (some ⟨g, 0, none⟩)]) rfl (by rfl) (by (try simp only [List.map_toArray, List.map_cons, List.map_nil]); first | done | rfl) ?_
               (with_reducible refine (moves_after.calls m y g _ HGr).mono ?_); rintro e w2 ⟨rfl, hb'⟩; rw [ca]; refine ⟨_, rfl, ?_⟩; simp only [Act.put, List.setIfInBounds_toArray, List.set_cons_zero, List.set_cons_succ]; have HX2 := Aside0.mk (blk_below HX.out hb'); have HB2 := Aside0.mk (below_then HB.out HB.out.size hb'); clear hb'))
          go_roundg k1
          case measure => omega
          case rel => exact ⟨md + 1, hi, by go_num, by go_num, ⟨by have := HJ2.out; omega⟩, H', HX2, HB2⟩
    · have hpl : pos = lo := by
        have H1 := HP.out
        cases gk with
        | zero => simpa [bsr] using H1.symm
        | succ k1 => simpa [bsr, ch] using H1.symm
      subst hpl; have chb : decide ((pos : Int) < (hi : Int)) = false := decide_eq_false (by omega); have chd : decide (pos < hi) = false := decide_eq_false ch; have hn1 : pos ≤ l0.length := by have := HJ.out; omega
      have hn2 : pos ≤ c0 := by have := HJ.out; have := HC0.out; omega
      clear ch HP HJ
      go_wp2
      refine nameW ?_; intro W hW; have HBW : Aside0 (Below w.heap.size w W) := ⟨by rw [← hW]; exact HB.out⟩; have HXW := Aside0.mk (show W.heap[w.heap.size]? = some (.cells #[.int .i64 x.f0, .int .i64 x.f1, .string x.f2, .int .i64 x.f3, .int .i64 x.f4, .int .i64 x.f5, .string x.f6, .int .i64 x.f7] 23 (0, 0)) from by rw [← hW]; exact HX.out); have hb0 : W.cell? ⟨w.heap.size, 0, none⟩ = some (.int .i64 x.f0) := (blk_cell HXW.out 0).trans rfl; have hb1 : W.cell? ⟨w.heap.size, 1, none⟩ = some (.int .i64 x.f1) := (blk_cell HXW.out 1).trans rfl; have hb2 : W.cell? ⟨w.heap.size, 2, none⟩ = some (.string x.f2) := (blk_cell HXW.out 2).trans rfl; have hb3 : W.cell? ⟨w.heap.size, 3, none⟩ = some (.int .i64 x.f3) := (blk_cell HXW.out 3).trans rfl; have hb4 : W.cell? ⟨w.heap.size, 4, none⟩ = some (.int .i64 x.f4) := (blk_cell HXW.out 4).trans rfl; have hb5 : W.cell? ⟨w.heap.size, 5, none⟩ = some (.int .i64 x.f5) := (blk_cell HXW.out 5).trans rfl; have hb6 : W.cell? ⟨w.heap.size, 6, none⟩ = some (.string x.f6) := (blk_cell HXW.out 6).trans rfl; have hb7 : W.cell? ⟨w.heap.size, 7, none⟩ = some (.int .i64 x.f7) := (blk_cell HXW.out 7).trans rfl; have htl : (l0.take pos).length = pos := by rw [List.length_take]; omega
      have hdl : (l0.drop pos).length = l0.length - pos := List.length_drop; have HCt := Aside0.mk (Kd.C_take (Kd.C_below HR0.out (below_drew HBW.out)) hn1); have HCd := Aside0.mk (Kd.C_drop (m := pos) (c := c0) (Kd.C_below HR0.out (below_drew HBW.out)) hn1 HC0.out); clear hW; refine start_ (n := 12) (S := fun w' => w'.heap = W.heap) (ds := [5,6,10,11]) (bq 12 0) (by kernel_rfl) rfl rfl rfl (fun hHeld => ?_); refine pure_ (i := 0) (N := some 28) (v := ?_) (a' := ?_) (bq 12 1) rfl rfl (by kernel_rfl) (fun _ _ _ h => h) (Or.inl ⟨by rfl, ?_⟩) ?_ ?_; rotate_left
      · intro w'; go_simp; with_reducible rfl
      rotate_left
      · simp only [Act.put, List.setIfInBounds_toArray, List.set_cons_zero, List.set_cons_succ, i64_w, i32_w]
        rfl
      refine pure_ (i := 1) (N := some 29) (v := ?_) (a' := ?_) (bq 12 3) rfl rfl (by kernel_rfl) (fun _ _ _ h => h) (Or.inl ⟨by rfl, ?_⟩) ?_ ?_; rotate_left
      · intro w'; go_simp; with_reducible rfl
      rotate_left
      · simp only [Act.put, List.setIfInBounds_toArray, List.set_cons_zero, List.set_cons_succ, i64_w, i32_w]
        rfl
      refine pure_ (i := 2) (N := some 30) (v := ?_) (a' := ?_) (bq 12 7) rfl rfl (by kernel_rfl) (fun _ _ _ h => h) (Or.inl ⟨by rfl, ?_⟩) ?_ ?_; rotate_left
      · intro w'; go_simp; with_reducible rfl
      rotate_left
      · simp only [Act.put, List.setIfInBounds_toArray, List.set_cons_zero, List.set_cons_succ, i64_w, i32_w]
        rfl
      refine pure_ (i := 3) (N := some 31) (v := ?_) (a' := ?_) (bq 12 15) rfl rfl (by kernel_rfl) (fun _ _ _ h => h) (Or.inl ⟨by rfl, ?_⟩) ?_ ?_; rotate_left
      · intro w'; go_simp; with_reducible rfl
      rotate_left
      · simp only [Act.put, List.setIfInBounds_toArray, List.set_cons_zero, List.set_cons_succ, i64_w, i32_w]
        rfl
      refine pure_ (i := 7) (N := some 35) (v := ?_) (a' := ?_) (bq 12 143) rfl rfl (by kernel_rfl) (fun _ _ _ h => h) (Or.inl ⟨by rfl, ?_⟩) ?_ ?_; rotate_left
      · intro w'; go_simp; with_reducible rfl
      rotate_left
      · simp only [Act.put, List.setIfInBounds_toArray, List.set_cons_zero, List.set_cons_succ, i64_w, i32_w]
        rfl
      refine pure_ (i := 8) (N := some 36) (v := ?_) (a' := ?_) (bq 12 399) rfl rfl (by kernel_rfl) (fun _ _ _ h => h) (Or.inl ⟨by rfl, ?_⟩) ?_ ?_; rotate_left
      · intro w'; go_simp; with_reducible rfl
      rotate_left
      · simp only [Act.put, List.setIfInBounds_toArray, List.set_cons_zero, List.set_cons_succ, i64_w, i32_w]
        rfl
      refine pure_ (i := 9) (N := some 37) (v := ?_) (a' := ?_) (bq 12 911) rfl rfl (by kernel_rfl) (fun _ _ _ h => h) (Or.inl ⟨by rfl, ?_⟩) ?_ ?_; rotate_left
      · intro w'; go_simp; with_reducible rfl
      rotate_left
      · simp only [Act.put, List.setIfInBounds_toArray, List.set_cons_zero, List.set_cons_succ, i64_w, i32_w]
        rfl
      refine take_ (i := 4) (N := some 32) (v := ?_) (a' := ?_) (bq 12 927) rfl rfl (by kernel_rfl) (fun _ _ _ h => h) (Or.inl ⟨by rfl, ?_⟩) hHeld ?_ ?_; rotate_left
      · rintro w' s0; have k0 := (cell_heap s0).trans hb0; have k1 := (cell_heap s0).trans hb1; have k2 := (cell_heap s0).trans hb2; have k3 := (cell_heap s0).trans hb3; have k4 := (cell_heap s0).trans hb4; have k5 := (cell_heap s0).trans hb5; have k6 := (cell_heap s0).trans hb6; have k7 := (cell_heap s0).trans hb7; go_simp; with_reducible rfl
      rotate_left
      · simp only [Act.put, List.setIfInBounds_toArray, List.set_cons_zero, List.set_cons_succ, i64_w, i32_w]
        rfl
      refine last_ (i := 5) (N := some 33) (bq 12 959) rfl rfl (by kernel_rfl) (by decide) (fun K hK => ?_); refine value_ (w1 := ?_) (v := ?_) (by rfl) rfl ?_ ?_; rotate_left 2
      · go_simp
        constructor
        · rfl
        · rfl
      refine hK.out _ _ ?_; clear hK K; refine norm_ (a' := ?_) ?_ ?_; rotate_left
      · show Act.put _ (some 33) _ = _; simp only [Act.put, List.setIfInBounds_toArray, List.set_cons_zero, List.set_cons_succ, i64_w, i32_w]
        rfl
      refine last_ (i := 6) (N := some 34) (bq 12 1023) rfl rfl (by kernel_rfl) (by decide) (fun K hK => ?_); refine full_step k23 mv_flat (W := W.drew) (by rfl) (.tmp 31) (.tmp 33) 25 23 (.agg #[(.int .i64 0), (.int .i64 0), (.string ⟨#[]⟩), (.int .i64 0), (.int .i64 0), (.int .i64 0), (.string ⟨#[]⟩), (.int .i64 0)]) 80 rfl Tryd.underlying25 info23 rfl (by decide) (by omega) A0 (l0.take pos) x [.int .i64 x.f0, .int .i64 x.f1, .string x.f2, .int .i64 x.f3, .int .i64 x.f4, .int .i64 x.f5, .string x.f6, .int .i64 x.f7] (by rw [htl]; rfl) rfl HCt.out (mv_K _ x) (by rw [htl]; omega) ?_; intro v1 w1 ho1 hb1; have HO1 := Aside0.mk ho1; have HB1 := Aside0.mk hb1; clear ho1 hb1; refine hK.out _ _ ?_; clear hK K; refine norm_ (a' := ?_) ?_ ?_; rotate_left
      · show Act.put _ (some 34) _ = _; simp only [Act.put, List.setIfInBounds_toArray, List.set_cons_zero, List.set_cons_succ, i64_w, i32_w]
        rfl
      refine last_ (i := 10) (N := some 38) (bq 12 2047) rfl rfl (by kernel_rfl) (by decide) (fun K hK => ?_); refine Kd.R_append_rows_step k23 (w0 := W.drew) (Rr := k23.K w1) W.drew.heap.size (by rfl) (.tmp 34) (.tmp 37) 25 23 (.agg #[(.int .i64 0), (.int .i64 0), (.string ⟨#[]⟩), (.int .i64 0), (.int .i64 0), (.int .i64 0), (.string ⟨#[]⟩), (.int .i64 0)]) 80 rfl Tryd.underlying25 info23 rfl (by decide) (by omega) v1 (l0.take pos ++ [x]) (l0.drop pos) (if c0 = pos then A0 else Option.map (fun x => x.add (pos * 8)) A0) (l0.drop pos).length (c0 - pos) (fun _ => True) (fun _ => False) rfl (by rw [hdl]; rfl) HO1.out (Kd.C_below HCd.out HB1.out) (fun y cs hy => mv_flat _ _ _ _ _ hy) (fun _ hk => hk.elim) (fun _ _ => trivial) HB1.out HB1.out.size (by simp only [List.length_append, List.length_singleton]; rw [htl, hdl]; omega) ?_; intro v2 w2 ho2 hb2 hg2 hat2; have HO2 := Aside0.mk ho2; have HB2 := Aside0.mk hb2; clear ho2 hb2 hg2 hat2; refine hK.out _ _ ?_; clear hK K; refine norm_ (a' := ?_) ?_ ?_; rotate_left
      · show Act.put _ (some 38) _ = _; simp only [Act.put, List.setIfInBounds_toArray, List.set_cons_zero, List.set_cons_succ, i64_w, i32_w]
        rfl
      refine pure_ (i := 11) (N := some 6) (v := ?_) (a' := ?_) (bq 12 4095) rfl rfl (by kernel_rfl) (fun _ _ _ h => h) (Or.inl ⟨by rfl, ?_⟩) ?_ ?_; rotate_left
      · intro w'; go_simp; with_reducible rfl
      rotate_left
      · simp only [Act.put, List.setIfInBounds_toArray, List.set_cons_zero, List.set_cons_succ, i64_w, i32_w]
        rfl
      refine done_ (by kernel_rfl) ?_; have ho3 := HO2.out; rw [List.append_assoc, List.singleton_append] at ho3; have HO3 := Aside0.mk ho3; clear ho3 HO2
      go_wp2
      all_goals
        go_ret
        exact ⟨_, rfl, Kd.R_lower HO3.out HBW.out.size, below_then (below_drew HBW.out) (below_drew HBW.out).size HB2.out⟩
def F17.f (l0 : List Mv) : Option (List Mv) := if l0.length ≤ 1000000 then some (l0.foldl (fun o m => insv m o m) []) else none
theorem insv_length (m x : Mv) (l : List Mv) : (insv m l x).length = l.length + 1 := by
  unfold insv
  rw [List.length_append, List.length_cons, List.length_take, List.length_drop]
  omega
set_option maxHeartbeats 8000000 in
set_option maxRecDepth 100000 in
theorem F17.calls (A0 : Option Addr) (c0 : Nat) (l0 : List Mv) (r : List Mv) (w : World) (hr0 : Kd.C k23 w A0 l0.length l0) (hc0 : l0.length ≤ c0) (h : F17.f l0 = some r) :
    Calls Tryd.prog 17 #[.slice A0 l0.length c0] w fun e w' => ∃ v0_ : Value, e = .returned v0_ ∧ Kd.R k23 23 w' w.heap.size (fun _ => True) v0_ r ∧ Below w.heap.size w w' := by
  have HR0 := Aside0.mk hr0; have HC0 := Aside0.mk hc0; clear hr0 hc0
  unfold F17.f at h
  by_cases cN : l0.length ≤ 1000000
  rotate_left
  · rw [if_neg cN] at h; cases h
  rw [if_pos cN] at h; have HL := Aside0.mk (Option.some.inj h); have HN := Aside0.mk cN; clear h cN; have HB := Aside0.mk (Below.refl w.heap.size w); go_enter Tryd.func17, Tryd.ntmps17
  go_wp2
  go_loopg [2, 7] l0.length (fun kq v2 v7 w' => ∃ (j : Nat) (o : List Mv), v7 = .int .i64 (j : Int) ∧ Aside0 (j + kq = l0.length) ∧ Aside0 ((l0.drop j).foldl (fun o m => insv m o m) o = r) ∧ Aside0 (o.length = j) ∧ Aside0 (Kd.R k23 23 w' w.heap.size (fun _ => True) v2 o) ∧ Aside0 (Below w.heap.size w w'))
  case atStart => exact ⟨0, [], rfl, ⟨by omega⟩, HL, ⟨rfl⟩, ⟨Kd.R_nil _ _ _ _ _⟩, HB⟩
  case round =>
    clear HL HB; obtain ⟨j, o, rfl, HJ, H, HO1, HO, HB⟩ := hrel
    cases gk with
    | zero =>
      have hj0 : l0.drop j = [] := List.drop_eq_nil_of_le (by have := HJ.out; omega); have H1 := H.out; rw [hj0] at H1; simp only [List.foldl_nil] at H1; subst H1; have hjb : decide ((j : Int) < (l0.length : Int)) = false := decide_eq_false (by have := HJ.out; omega); have hjn : ¬ j < l0.length := by have := HJ.out; omega
      have hjd : decide (j < l0.length) = false := decide_eq_false hjn; clear hj0
      go_wp2
      go_ret
      exact ⟨u2, rfl, HO.out, HB.out⟩
    | succ k1 =>
      have hj : j < l0.length := by have := HJ.out; omega
      have hjb : decide ((j : Int) < (l0.length : Int)) = true := decide_eq_true (by omega); have hjd : decide (j < l0.length) = true := decide_eq_true hj; have hj2 : (j : Int) + 1 ≤ 1000001 := by have := HN.out; omega
      have p1 : 0 ≤ (j : Int) := by omega
      have qj : (j : Int) < (l0.length : Int) := by omega
      obtain ⟨ad, e1, hx0, hx1, hx2, hx3, hx4, hx5, hx6, hx7⟩ := at_T23 HR0.out (j : Int) p1 qj
      cases e1
      simp only [Int.toNat_natCast] at hx0 hx1 hx2 hx3 hx4 hx5 hx6 hx7; have H1 := H.out; clear H; rw [drop_mv hj] at H1; simp only [List.foldl_cons] at H1; obtain ⟨m, hm⟩ : ∃ m, rd_T23 l0 (j : Int) = m := ⟨_, rfl⟩; rw [hm] at H1 hx0 hx1 hx2 hx3 hx4 hx5 hx6 hx7; clear hm; replace hx0 := (HB.out.cell (World.block_lt_of_cell? w _ hx0)).trans hx0; replace hx1 := (HB.out.cell (World.block_lt_of_cell? w _ hx1)).trans hx1; replace hx2 := (HB.out.cell (World.block_lt_of_cell? w _ hx2)).trans hx2; replace hx3 := (HB.out.cell (World.block_lt_of_cell? w _ hx3)).trans hx3; replace hx4 := (HB.out.cell (World.block_lt_of_cell? w _ hx4)).trans hx4; replace hx5 := (HB.out.cell (World.block_lt_of_cell? w _ hx5)).trans hx5; replace hx6 := (HB.out.cell (World.block_lt_of_cell? w _ hx6)).trans hx6; replace hx7 := (HB.out.cell (World.block_lt_of_cell? w _ hx7)).trans hx7; replace p1 := eq_true p1; replace qj := eq_true qj; have H' := Aside0.mk H1; clear H1; have HBb := Aside0.mk (HB.out.alloc HB.out.size (.cells #[.int .i64 m.f0, .int .i64 m.f1, .string m.f2, .int .i64 m.f3, .int .i64 m.f4, .int .i64 m.f5, .string m.f6, .int .i64 m.f7] 23)); have HX := Aside0.mk (blk_new wr (.cells #[.int .i64 m.f0, .int .i64 m.f1, .string m.f2, .int .i64 m.f3, .int .i64 m.f4, .int .i64 m.f5, .string m.f6, .int .i64 m.f7] 23)); obtain ⟨A2, c2, rfl, hcc, hC⟩ := Kd.R_reads HO.out; have HCC := Aside0.mk hcc; have HCo := Aside0.mk (Kd.C_below hC ((Below.refl wr.heap.size wr).alloc (Nat.le_refl _) (.cells #[.int .i64 m.f0, .int .i64 m.f1, .string m.f2, .int .i64 m.f3, .int .i64 m.f4, .int .i64 m.f5, .string m.f6, .int .i64 m.f7] 23))); have HOn : Aside0 (o.length ≤ 1000000) := ⟨by have := HO1.out; have := HN.out; omega⟩; clear hcc hC
      go_wp2_with (first
        | (go_at_call 39; (with_reducible refine (moves_insert.calls A2 c2 o m m wr.heap.size _ HCo.out HCC.out HOn.out HX.out).mono ?_)
           rintro e w2 ⟨v2, rfl, ho2, hb2⟩; have HO2 := Aside0.mk (Kd.R_lower ho2 HBb.out.size); have HB2 := Aside0.mk (below_then HBb.out HBb.out.size hb2); clear ho2 hb2))
      go_roundg k1
      case measure => omega
      case rel => exact ⟨j + 1, insv m o m, by go_num, ⟨by have := HJ.out; omega⟩, H', ⟨by rw [insv_length, HO1.out]⟩, HO2, HB2⟩
def F41.j0 : Nat → Int → Bool → Int → Int → ByteArray → Int → Int → Int → ByteArray → Int → Option (Int)
  | 0, _, _, _, _, _, _, _, _, _, _ => none
  | k + 1, x8, x9, x102000, x102001, x102002, x102003, x102004, x102005, x102006, x102007 => if x9 = true then (some x102004) else (if x8 = 2 then (some (wrap64 (-x102004))) else (if x8 = 4 then (some (wrap64 (-x102004))) else (some 0)))
def F41.f (k : Nat) (a0_0 : Int) (a0_1 : Int) (a0_2 : ByteArray) (a0_3 : Int) (a0_4 : Int) (a0_5 : Int) (a0_6 : ByteArray) (a0_7 : Int) : Option (Int) := (F27.f a0_4 1 1000000000).bind fun t102 => (if t102 = true then (if a0_3 = 1 then (F41.j0 k a0_3 (a0_3 == 1) a0_0 a0_1 a0_2 a0_3 a0_4 a0_5 a0_6 a0_7) else (F41.j0 k a0_3 (a0_3 == 3) a0_0 a0_1 a0_2 a0_3 a0_4 a0_5 a0_6 a0_7)) else (some 0))
set_option maxHeartbeats 8000000 in
set_option maxRecDepth 100000 in
theorem F41.calls (k : Nat) (a0_0 : Int) (a0_1 : Int) (a0_2 : ByteArray) (a0_3 : Int) (a0_4 : Int) (a0_5 : Int) (a0_6 : ByteArray) (a0_7 : Int) (r : Int) (w : World) (h : F41.f k a0_0 a0_1 a0_2 a0_3 a0_4 a0_5 a0_6 a0_7 = some r) :
    Calls Tryd.prog 41 #[.agg #[.int .i64 a0_0, .int .i64 a0_1, .string a0_2, .int .i64 a0_3, .int .i64 a0_4, .int .i64 a0_5, .string a0_6, .int .i64 a0_7]] w fun e w' => e = .returned (.int .i64 r) ∧ Below w.heap.size w w' := by
 have hu23 := Tryd.underlying23; have hu3 := Tryd.underlying3; have HB := Aside0.mk (Below.refl w.heap.size w)
 unfold F41.f at h
 have H := h; clear h; obtain ⟨t102, A20, H⟩ := bnd H; have A2 := Aside0.mk A20; clear A20
 by_cases c3 : t102 = true
 ·subst c3; rw [if_pos rfl] at H; have HC4 := Aside0.mk H; clear H; go_enter Tryd.func41, Tryd.ntmps41
  go_upto_if 9 with (first | ((with_reducible refine gate_dst (N := 1) rfl ?_); refine box_event ?hg (N := 1) ?hd (cs := #[.int .i64 a0_0, .int .i64 a0_1, .string a0_2, .int .i64 a0_3, .int .i64 a0_4, .int .i64 a0_5, .string a0_6, .int .i64 a0_7]) (t := 23) ?hr ?_; (case hd => rfl); (case hg => rfl); (case hr => first | (go_simp; done) | (go_simp; rfl)); intro gb101 hg w5 hbox hb; have BK101 := Aside0.mk (hbox); have GW101 := Aside0.mk ((pbb2_6 : w.heap.size ≤ gb101)); have GE101 := Aside0.mk ((pbb2_6 : w.heap.size ≤ gb101)); replace HB := Aside0.mk (below_step pbb2_3 hb); clear hb hbox hg; obtain ⟨hcz6_0, hcz6_1, hcz6_2, hcz6_3, hcz6_4, hcz6_5, hcz6_6, hcz6_7⟩ := cz8 BK101.out; obtain ⟨hfz6_0, hfz6_1, hfz6_2, hfz6_3, hfz6_4, hfz6_5, hfz6_6, hfz6_7⟩ := fz8 BK101.out) | ((with_reducible refine gate_callee (f := 27) rfl ?_); refine goesL_ (some 5) rfl rfl Tryd.func27 (by kernel_rfl) rfl #[.int .i64 a0_4, .int .i64 1, .int .i64 1000000000] rfl pbb2_2 ?_; (with_reducible refine (F27.calls a0_4 1 1000000000 true _ A2.out).mono ?_); rintro e w' ⟨rfl, ⟨nd, rfl⟩⟩; refine ⟨_, rfl, ?_⟩))
  (try simp only [Act.put, List.setIfInBounds_toArray, List.set_cons_zero, List.set_cons_succ])
  go_cut [9] (fun v9 wc => ∃ (kq : Nat) (x9_3 : Bool), v9 = .bool x9_3 ∧ Aside0 (F41.j0 kq a0_3 x9_3 a0_0 a0_1 a0_2 a0_3 a0_4 a0_5 a0_6 a0_7 = some r) ∧ Aside0 (kq ≤ k) ∧ Aside0 (wc.heap[gb101]? = some (.cells #[.int .i64 a0_0, .int .i64 a0_1, .string a0_2, .int .i64 a0_3, .int .i64 a0_4, .int .i64 a0_5, .string a0_6, .int .i64 a0_7] 23 (0, 0))) ∧ Aside0 (Below w.heap.size w wc))
  case first =>
   have H := HC4.out; clear HC4
   by_cases c7 : a0_3 = 1
   ·rw [if_pos c7] at H; have c7b0 := bT_ c7; have c7b1 := bF_ c7; clear c7; (first | rw [c7b0] | (simp only [i64_w, i32_w]; rw [c7b0]) | skip); have H' := Aside0.mk H; clear H
    go_wp2
    go_meet
    case rel => exact ⟨_, ((a0_3 == 1)), pbb2_0, H', ⟨by first | omega | exact Nat.le_refl _⟩, ⟨pbb2_10⟩, ⟨pbb2_9⟩⟩
   ·rw [if_neg c7] at H; have c7b0 := nF_ c7; have c7b1 := nT_ c7; (first | rw [c7b0] | (simp only [i64_w, i32_w]; rw [c7b0]) | skip); have H' := Aside0.mk H; clear H
    go_wp2
    go_meet
    case rel => exact ⟨_, ((a0_3 == 3)), pbb2_0, H', ⟨by first | omega | exact Nat.le_refl _⟩, ⟨pbb2_10⟩, ⟨pbb2_9⟩⟩
  case rest =>
   clear HC4; obtain ⟨kq, x9_3, rfl, HA, HJ3, BK101, HB⟩ := hcut
   cases kq with
   | zero => exact absurd HA.out (by simp [F41.j0])
   | succ kj3 =>
    have H := HA.out; clear HA; simp only [F41.j0] at H
    by_cases c8 : x9_3 = true
    ·subst c8; rw [if_pos rfl] at H; obtain rfl := Option.some.inj H; obtain ⟨hcz9_0, hcz9_1, hcz9_2, hcz9_3, hcz9_4, hcz9_5, hcz9_6, hcz9_7⟩ := cz8 BK101.out; obtain ⟨hfz9_0, hfz9_1, hfz9_2, hfz9_3, hfz9_4, hfz9_5, hfz9_6, hfz9_7⟩ := fz8 BK101.out
     go_wp2
     go_ret
     exact ⟨pbb2_5, pbb2_9⟩
    ·replace c8 := Bool.eq_false_iff.mpr c8; subst c8; rw [if_neg (show ¬ (false = true) by decide)] at H
     by_cases c10 : a0_3 = 2
     ·rw [if_pos c10] at H; have c10b0 := bT_ c10; have c10b1 := bF_ c10; clear c10; obtain rfl := Option.some.inj H; obtain ⟨hcz11_0, hcz11_1, hcz11_2, hcz11_3, hcz11_4, hcz11_5, hcz11_6, hcz11_7⟩ := cz8 BK101.out; obtain ⟨hfz11_0, hfz11_1, hfz11_2, hfz11_3, hfz11_4, hfz11_5, hfz11_6, hfz11_7⟩ := fz8 BK101.out
      go_wp2
      go_ret
      exact ⟨pbb2_5, pbb2_9⟩
     ·rw [if_neg c10] at H; have c10b0 := nF_ c10; have c10b1 := nT_ c10
      by_cases c12 : a0_3 = 4
      ·rw [if_pos c12] at H; have c12b0 := bT_ c12; have c12b1 := bF_ c12; clear c12; obtain rfl := Option.some.inj H; obtain ⟨hcz13_0, hcz13_1, hcz13_2, hcz13_3, hcz13_4, hcz13_5, hcz13_6, hcz13_7⟩ := cz8 BK101.out; obtain ⟨hfz13_0, hfz13_1, hfz13_2, hfz13_3, hfz13_4, hfz13_5, hfz13_6, hfz13_7⟩ := fz8 BK101.out
       go_wp2
       go_ret
       exact ⟨pbb2_5, pbb2_9⟩
      ·rw [if_neg c12] at H; have c12b0 := nF_ c12; have c12b1 := nT_ c12; obtain rfl := Option.some.inj H
       go_wp2
       go_ret
       exact ⟨pbb2_5, pbb2_9⟩
 ·replace c3 := Bool.eq_false_iff.mpr c3; subst c3; rw [if_neg (show ¬ (false = true) by decide)] at H; obtain rfl := Option.some.inj H; go_enter Tryd.func41, Tryd.ntmps41
  go_wp2_with (first | ((with_reducible refine gate_dst (N := 1) rfl ?_); refine box_event ?hg (N := 1) ?hd (cs := #[.int .i64 a0_0, .int .i64 a0_1, .string a0_2, .int .i64 a0_3, .int .i64 a0_4, .int .i64 a0_5, .string a0_6, .int .i64 a0_7]) (t := 23) ?hr ?_; (case hd => rfl); (case hg => rfl); (case hr => first | (go_simp; done) | (go_simp; rfl)); intro gb101 hg w14 hbox hb; have BK101 := Aside0.mk (hbox); have GW101 := Aside0.mk ((pbb2_6 : w.heap.size ≤ gb101)); have GE101 := Aside0.mk ((pbb2_6 : w.heap.size ≤ gb101)); replace HB := Aside0.mk (below_step pbb2_3 hb); clear hb hbox hg; obtain ⟨hcz15_0, hcz15_1, hcz15_2, hcz15_3, hcz15_4, hcz15_5, hcz15_6, hcz15_7⟩ := cz8 BK101.out; obtain ⟨hfz15_0, hfz15_1, hfz15_2, hfz15_3, hfz15_4, hfz15_5, hfz15_6, hfz15_7⟩ := fz8 BK101.out) | ((with_reducible refine gate_callee (f := 27) rfl ?_); refine goesL_ (some 5) rfl rfl Tryd.func27 (by kernel_rfl) rfl #[.int .i64 a0_4, .int .i64 1, .int .i64 1000000000] rfl pbb2_2 ?_; (with_reducible refine (F27.calls a0_4 1 1000000000 false _ A2.out).mono ?_); rintro e w' ⟨rfl, ⟨nd, rfl⟩⟩; refine ⟨_, rfl, ?_⟩))
  go_ret
  exact ⟨pbb2_5, pbb2_9⟩
def F19.l0 : Nat → List Int → Int → List (S23) → Int → Int → Option (List Int × Int × Int)
  | 0, _, _, _, _, _ => none
  | k + 1, x2, x5, x8, x9, x10 => if x10 < x9 then (if 0 ≤ x10 then (if x10 < (x8.length : Int) then ((F41.f k ((rd_T23 x8 x10).f0) ((rd_T23 x8 x10).f1) ((rd_T23 x8 x10).f2) ((rd_T23 x8 x10).f3) ((rd_T23 x8 x10).f4) ((rd_T23 x8 x10).f5) ((rd_T23 x8 x10).f6) ((rd_T23 x8 x10).f7)).bind fun t103 => (if (wrap64 (x5 + t103)) < 0 then (some (([] : List Int), x10, 21)) else (if (wrap64 (x5 + t103)) > 1000000000 then (some (([] : List Int), x10, 4)) else (if x2.length < 17592186044416 then (F19.l0 k (x2 ++ [wrap64 (x5 + t103)]) (wrap64 (x5 + t103)) x8 x9 (wrap64 (x10 + 1))) else (none))))) else (none)) else (none)) else (some (x2, (-1), 0))
def F19.f (k : Nat) (l0 : List (S23)) : Option (List Int × Int × Int) := F19.l0 k ([] : List Int) 0 l0 (l0.length : Int) 0
set_option maxHeartbeats 8000000 in
set_option maxRecDepth 100000 in
theorem F19.calls (k : Nat) (A0 : Option Addr) (c0 : Nat) (l0 : List (S23)) (r1 : List Int) (r2 : Int) (r3 : Int) (w : World) (hr0 : Kd.C k23 w A0 l0.length l0) (hc0 : l0.length ≤ c0) (h : F19.f k l0 = some (r1, r2, r3)) :
    Calls Tryd.prog 19 #[.slice A0 l0.length c0] w fun e w' => ∃ v0_ : Value, e = .returned (.tuple #[v0_, .int .i64 r2, .int .i64 r3]) ∧ Kd.R (Kd.int .i64) 3 w' w.heap.size (fun _ => True) v0_ r1 ∧ Below w.heap.size w w' := by
 have hu23 := Tryd.underlying23; have HR0 := Aside0.mk hr0; have HC0 := Aside0.mk hc0; clear hr0 hc0; have HB := Aside0.mk (Below.refl w.heap.size w)
 unfold F19.f at h
 have H := h; clear h; have H' := Aside0.mk H; clear H; go_enter Tryd.func19, Tryd.ntmps19
 go_wp2
 go_loopg [2, 5, 10] k (fun kq v2 v5 v10 w' => ∃ (x2_1 : List Int) (x5_1 : Int) (x10_1 : Int), v5 = .int .i64 x5_1 ∧ v10 = .int .i64 x10_1 ∧ Aside0 (F19.l0 kq x2_1 x5_1 l0 (l0.length : Int) x10_1 = some (r1, r2, r3)) ∧ Aside0 (kq ≤ k) ∧ Aside0 (Kd.R (Kd.int .i64) 3 w' w.heap.size (fun _ => True) v2 x2_1) ∧ Aside0 (Below w.heap.size w w'))
 case atStart => exact ⟨(([] : List Int)), (0), (0), pbb2_0, pbb2_0, H', ⟨Nat.le_refl _⟩, ⟨pbb3_0⟩, ⟨pbb2_3⟩⟩
 case round =>
  clear H'; obtain ⟨x2_1, x5_1, x10_1, rfl, rfl, HA, HK1, HO_2, HB⟩ := hrel
  cases gk with
  | zero => exact absurd HA.out (by simp [F19.l0])
  | succ k1 =>
   have H := HA.out; clear HA; simp only [F19.l0] at H
   by_cases c2 : x10_1 < (l0.length : Int)
   ·rw [if_pos c2] at H; have c2b0 := decide_eq_true c2; clear c2
    by_cases c3 : 0 ≤ x10_1
    ·rw [if_pos c3] at H; have c3b0 := decide_eq_true c3; clear c3
     by_cases c4 : x10_1 < (l0.length : Int)
     ·rw [if_pos c4] at H; have c4b0 := decide_eq_true c4; clear c4; obtain ⟨t103, A50, H⟩ := bnd H; have A5 := Aside0.mk A50; clear A50
      by_cases c6 : (wrap64 (x5_1 + t103)) < 0
      ·rw [if_pos c6] at H; have c6b0 := decide_eq_true c6; clear c6; simp only [Option.some.injEq, Prod.mk.injEq] at H; obtain ⟨rfl, rfl, rfl⟩ := H; have p101 : 0 ≤ (x10_1 : Int) := of_decide_eq_true pbb2_4; have q101 : x10_1 < (l0.length : Int) := of_decide_eq_true pbb2_4; obtain ⟨ad101, e101, hx101_0, hx101_1, hx101_2, hx101_3, hx101_4, hx101_5, hx101_6, hx101_7⟩ := up8 HB.out (at_T23 HR0.out x10_1 p101 q101)
       cases e101
       replace p101 := eq_true p101; replace q101 := eq_true q101
       go_wp2_with (first | ((with_reducible refine gate_dst (N := 7) rfl ?_); refine box_event ?hg (N := 7) ?hd (cs := #[.int .i64 0, .int .i64 0, .string (⟨#[]⟩ : ByteArray), .int .i64 0, .int .i64 0, .int .i64 0, .string (⟨#[]⟩ : ByteArray), .int .i64 0]) (t := 23) ?hr ?_; (case hd => rfl); (case hg => rfl); (case hr => first | (go_simp; done) | (go_simp; rfl)); intro gb102 hg w7 hbox hb; replace HO_2 := Aside0.mk (Kd.R_below pbb3_1 hb); have BK102 := Aside0.mk (hbox); have GW102 := Aside0.mk ((pbb2_6 : w.heap.size ≤ gb102)); have GE102 := Aside0.mk ((pbb2_6 : w.heap.size ≤ gb102)); replace HB := Aside0.mk (below_step pbb2_3 hb); clear hb hbox hg; obtain ⟨hcz8_0, hcz8_1, hcz8_2, hcz8_3, hcz8_4, hcz8_5, hcz8_6, hcz8_7⟩ := cz8 BK102.out; obtain ⟨hfz8_0, hfz8_1, hfz8_2, hfz8_3, hfz8_4, hfz8_5, hfz8_6, hfz8_7⟩ := fz8 BK102.out) | ((with_reducible refine gate_callee (f := 41) rfl ?_); refine goesL_ (some 17) rfl rfl Tryd.func41 (by kernel_rfl) rfl #[.agg #[.int .i64 ((rd_T23 l0 x10_1).f0), .int .i64 ((rd_T23 l0 x10_1).f1), .string ((rd_T23 l0 x10_1).f2), .int .i64 ((rd_T23 l0 x10_1).f3), .int .i64 ((rd_T23 l0 x10_1).f4), .int .i64 ((rd_T23 l0 x10_1).f5), .string ((rd_T23 l0 x10_1).f6), .int .i64 ((rd_T23 l0 x10_1).f7)]] rfl pbb2_2 ?_; (with_reducible refine (F41.calls k1 ((rd_T23 l0 x10_1).f0) ((rd_T23 l0 x10_1).f1) ((rd_T23 l0 x10_1).f2) ((rd_T23 l0 x10_1).f3) ((rd_T23 l0 x10_1).f4) ((rd_T23 l0 x10_1).f5) ((rd_T23 l0 x10_1).f6) ((rd_T23 l0 x10_1).f7) t103 _ A5.out).mono ?_); rintro e w9 ⟨rfl, hb⟩; refine ⟨_, rfl, ?_⟩; replace HO_2 := Aside0.mk (Kd.R_below pbb3_2 hb); replace BK102 := Aside0.mk (blk_below (g := gb102) (o := .cells #[.int .i64 ((rd_T23 l0 x10_1).f0), .int .i64 ((rd_T23 l0 x10_1).f1), .string ((rd_T23 l0 x10_1).f2), .int .i64 ((rd_T23 l0 x10_1).f3), .int .i64 ((rd_T23 l0 x10_1).f4), .int .i64 ((rd_T23 l0 x10_1).f5), .string ((rd_T23 l0 x10_1).f6), .int .i64 ((rd_T23 l0 x10_1).f7)] 23 (0, 0)) pbb3_3 hb); replace HB := Aside0.mk (below_step pbb3_4 hb); (try clear hb); (try clear hb2); (try clear hk); (try clear hi)))
       go_ret3
       exact ⟨_, pbb2_5, pbb3_0, pbb3_4⟩
      ·rw [if_neg c6] at H; have c6b0 := decide_eq_false c6; clear c6
       by_cases c10 : (wrap64 (x5_1 + t103)) > 1000000000
       ·rw [if_pos c10] at H; have c10b0 : decide (1000000000 < (wrap64 (x5_1 + t103))) = true := decide_eq_true c10; clear c10; simp only [Option.some.injEq, Prod.mk.injEq] at H; obtain ⟨rfl, rfl, rfl⟩ := H; have p101 : 0 ≤ (x10_1 : Int) := of_decide_eq_true pbb2_4; have q101 : x10_1 < (l0.length : Int) := of_decide_eq_true pbb2_4; obtain ⟨ad101, e101, hx101_0, hx101_1, hx101_2, hx101_3, hx101_4, hx101_5, hx101_6, hx101_7⟩ := up8 HB.out (at_T23 HR0.out x10_1 p101 q101)
        cases e101
        replace p101 := eq_true p101; replace q101 := eq_true q101
        go_wp2_with (first | ((with_reducible refine gate_dst (N := 7) rfl ?_); refine box_event ?hg (N := 7) ?hd (cs := #[.int .i64 0, .int .i64 0, .string (⟨#[]⟩ : ByteArray), .int .i64 0, .int .i64 0, .int .i64 0, .string (⟨#[]⟩ : ByteArray), .int .i64 0]) (t := 23) ?hr ?_; (case hd => rfl); (case hg => rfl); (case hr => first | (go_simp; done) | (go_simp; rfl)); intro gb102 hg w11 hbox hb; replace HO_2 := Aside0.mk (Kd.R_below pbb3_1 hb); have BK102 := Aside0.mk (hbox); have GW102 := Aside0.mk ((pbb2_6 : w.heap.size ≤ gb102)); have GE102 := Aside0.mk ((pbb2_6 : w.heap.size ≤ gb102)); replace HB := Aside0.mk (below_step pbb2_3 hb); clear hb hbox hg; obtain ⟨hcz12_0, hcz12_1, hcz12_2, hcz12_3, hcz12_4, hcz12_5, hcz12_6, hcz12_7⟩ := cz8 BK102.out; obtain ⟨hfz12_0, hfz12_1, hfz12_2, hfz12_3, hfz12_4, hfz12_5, hfz12_6, hfz12_7⟩ := fz8 BK102.out) | ((with_reducible refine gate_callee (f := 41) rfl ?_); refine goesL_ (some 17) rfl rfl Tryd.func41 (by kernel_rfl) rfl #[.agg #[.int .i64 ((rd_T23 l0 x10_1).f0), .int .i64 ((rd_T23 l0 x10_1).f1), .string ((rd_T23 l0 x10_1).f2), .int .i64 ((rd_T23 l0 x10_1).f3), .int .i64 ((rd_T23 l0 x10_1).f4), .int .i64 ((rd_T23 l0 x10_1).f5), .string ((rd_T23 l0 x10_1).f6), .int .i64 ((rd_T23 l0 x10_1).f7)]] rfl pbb2_2 ?_; (with_reducible refine (F41.calls k1 ((rd_T23 l0 x10_1).f0) ((rd_T23 l0 x10_1).f1) ((rd_T23 l0 x10_1).f2) ((rd_T23 l0 x10_1).f3) ((rd_T23 l0 x10_1).f4) ((rd_T23 l0 x10_1).f5) ((rd_T23 l0 x10_1).f6) ((rd_T23 l0 x10_1).f7) t103 _ A5.out).mono ?_); rintro e w13 ⟨rfl, hb⟩; refine ⟨_, rfl, ?_⟩; replace HO_2 := Aside0.mk (Kd.R_below pbb3_2 hb); replace BK102 := Aside0.mk (blk_below (g := gb102) (o := .cells #[.int .i64 ((rd_T23 l0 x10_1).f0), .int .i64 ((rd_T23 l0 x10_1).f1), .string ((rd_T23 l0 x10_1).f2), .int .i64 ((rd_T23 l0 x10_1).f3), .int .i64 ((rd_T23 l0 x10_1).f4), .int .i64 ((rd_T23 l0 x10_1).f5), .string ((rd_T23 l0 x10_1).f6), .int .i64 ((rd_T23 l0 x10_1).f7)] 23 (0, 0)) pbb3_3 hb); replace HB := Aside0.mk (below_step pbb3_4 hb); (try clear hb); (try clear hb2); (try clear hk); (try clear hi)))
        go_ret3
        exact ⟨_, pbb2_5, pbb3_0, pbb3_4⟩
       ·rw [if_neg c10] at H; have c10b0 : decide (1000000000 < (wrap64 (x5_1 + t103))) = false := decide_eq_false c10; clear c10
        by_cases c14 : x2_1.length < 17592186044416
        ·rw [if_pos c14] at H; have LMc14 := Aside0.mk c14; clear c14; obtain ⟨y104, hy104⟩ : ∃ y_ : List Int, y_ = (x2_1 ++ [wrap64 (x5_1 + t103)]) := ⟨_, rfl⟩; replace H : (F19.l0 k1 y104 (wrap64 (x5_1 + t103)) l0 (l0.length : Int) (wrap64 (x10_1 + 1))) = some (r1, r2, r3) := by first | (rw [hy104]; with_reducible exact H) | (have H2_ := (Option.bind_some _ _).symm.trans H; rw [hy104]; with_reducible exact H2_) | (have H2_ := (Option.bind_some _ _).symm.trans H; with_reducible exact H2_) | with_reducible exact H | (rw [hy104]; exact H) | exact H
         have Ny104 := Aside0.mk hy104; clear hy104; have H' := Aside0.mk H; clear H; have p101 : 0 ≤ (x10_1 : Int) := of_decide_eq_true pbb2_4; have q101 : x10_1 < (l0.length : Int) := of_decide_eq_true pbb2_4; obtain ⟨ad101, e101, hx101_0, hx101_1, hx101_2, hx101_3, hx101_4, hx101_5, hx101_6, hx101_7⟩ := up8 HB.out (at_T23 HR0.out x10_1 p101 q101)
         cases e101
         replace p101 := eq_true p101; replace q101 := eq_true q101
         go_wp2_with (first | ((with_reducible refine gate_dst (N := 7) rfl ?_); refine box_event ?hg (N := 7) ?hd (cs := #[.int .i64 0, .int .i64 0, .string (⟨#[]⟩ : ByteArray), .int .i64 0, .int .i64 0, .int .i64 0, .string (⟨#[]⟩ : ByteArray), .int .i64 0]) (t := 23) ?hr ?_; (case hd => rfl); (case hg => rfl); (case hr => first | (go_simp; done) | (go_simp; rfl)); intro gb102 hg w15 hbox hb; replace HO_2 := Aside0.mk (Kd.R_below pbb3_1 hb); have BK102 := Aside0.mk (hbox); have GW102 := Aside0.mk ((pbb2_6 : w.heap.size ≤ gb102)); have GE102 := Aside0.mk ((pbb2_6 : w.heap.size ≤ gb102)); replace HB := Aside0.mk (below_step pbb2_3 hb); clear hb hbox hg; obtain ⟨hcz16_0, hcz16_1, hcz16_2, hcz16_3, hcz16_4, hcz16_5, hcz16_6, hcz16_7⟩ := cz8 BK102.out; obtain ⟨hfz16_0, hfz16_1, hfz16_2, hfz16_3, hfz16_4, hfz16_5, hfz16_6, hfz16_7⟩ := fz8 BK102.out) | ((with_reducible refine gate_callee (f := 41) rfl ?_); refine goesL_ (some 17) rfl rfl Tryd.func41 (by kernel_rfl) rfl #[.agg #[.int .i64 ((rd_T23 l0 x10_1).f0), .int .i64 ((rd_T23 l0 x10_1).f1), .string ((rd_T23 l0 x10_1).f2), .int .i64 ((rd_T23 l0 x10_1).f3), .int .i64 ((rd_T23 l0 x10_1).f4), .int .i64 ((rd_T23 l0 x10_1).f5), .string ((rd_T23 l0 x10_1).f6), .int .i64 ((rd_T23 l0 x10_1).f7)]] rfl pbb2_2 ?_; (with_reducible refine (F41.calls k1 ((rd_T23 l0 x10_1).f0) ((rd_T23 l0 x10_1).f1) ((rd_T23 l0 x10_1).f2) ((rd_T23 l0 x10_1).f3) ((rd_T23 l0 x10_1).f4) ((rd_T23 l0 x10_1).f5) ((rd_T23 l0 x10_1).f6) ((rd_T23 l0 x10_1).f7) t103 _ A5.out).mono ?_); rintro e w17 ⟨rfl, hb⟩; refine ⟨_, rfl, ?_⟩; replace HO_2 := Aside0.mk (Kd.R_below pbb3_2 hb); replace BK102 := Aside0.mk (blk_below (g := gb102) (o := .cells #[.int .i64 ((rd_T23 l0 x10_1).f0), .int .i64 ((rd_T23 l0 x10_1).f1), .string ((rd_T23 l0 x10_1).f2), .int .i64 ((rd_T23 l0 x10_1).f3), .int .i64 ((rd_T23 l0 x10_1).f4), .int .i64 ((rd_T23 l0 x10_1).f5), .string ((rd_T23 l0 x10_1).f6), .int .i64 ((rd_T23 l0 x10_1).f7)] 23 (0, 0)) pbb3_3 hb); replace HB := Aside0.mk (below_step pbb3_4 hb); (try clear hb); (try clear hb2); (try clear hk); (try clear hi)) | ((with_reducible refine gate_builtin (b := .append) (xs := #[.tmp 25, .tmp 27]) rfl ?_); at_builtin; refine Kd.R_append (Kd.int .i64) (w0 := w) w.heap.size rfl (.tmp 25) (.tmp 27) 37 3 (.int .i64 0) 8 rfl Tryd.underlying37 info3 rfl (by decide) (by omega) u2 x2_1 (wrap64 (x5_1 + t103)) [.int .i64 (wrap64 (x5_1 + t103))] (fun _ => True) (fun _ => False) rfl rfl ?aP (fun _ hk => hk.elim) ?aF ?aO ?aB ?aS ?aL ?_; (case aP => exact rfl); (case aB => exact pbb3_4); (case aF => exact (fun _ _ => trivial)); (case aO => exact pbb3_1); (case aS => exact (below_size pbb3_4)); (case aL => have := LMc14.out; omega); intro v105 w18 ho hb hg hat; rw [← Ny104.out] at ho; replace BK102 := Aside0.mk (blk_grown (g := gb102) (o := .cells #[.int .i64 ((rd_T23 l0 x10_1).f0), .int .i64 ((rd_T23 l0 x10_1).f1), .string ((rd_T23 l0 x10_1).f2), .int .i64 ((rd_T23 l0 x10_1).f3), .int .i64 ((rd_T23 l0 x10_1).f4), .int .i64 ((rd_T23 l0 x10_1).f5), .string ((rd_T23 l0 x10_1).f6), .int .i64 ((rd_T23 l0 x10_1).f7)] 23 (0, 0)) (by (with_reducible repeat (first | refine blk_drewN ?_ _ | refine blk_drew ?_ | refine blk_alloc ?_ _)); exact BK102.out) hg (Kd.R_ne HO_2.out BK102.out (by decide))); replace HB := Aside0.mk (hb); have HO106 := Aside0.mk (ho); clear HO_2; clear ho hb hg hat))
         go_roundg k1
         case measure => have := HK1.out; omega
         case rel => exact ⟨(y104), (wrap64 (x5_1 + t103)), (wrap64 (x10_1 + 1)), pbb2_0, pbb2_0, H', ⟨by have := HK1.out; omega⟩, ⟨by (with_reducible repeat (first | apply Kd.R_alloc | apply Kd.R_drewN | apply Kd.R_drew)); exact HO106.out⟩, ⟨pbb3_4⟩⟩
        ·rw [if_neg c14] at H; exact absurd H (by simp)
     ·rw [if_neg c4] at H; exact absurd H (by simp)
    ·rw [if_neg c3] at H; exact absurd H (by simp)
   ·rw [if_neg c2] at H; have c2b0 := decide_eq_false c2; clear c2; simp only [Option.some.injEq, Prod.mk.injEq] at H; obtain ⟨rfl, rfl, rfl⟩ := H
    go_wp2
    go_ret3
    exact ⟨_, pbb2_5, pbb3_1, pbb2_3⟩
def F21.l0 : Nat → List Int → List Int → Int → Option (Bool)
  | 0, _, _, _ => none
  | k + 1, x0, x1, x5 => if x5 < (x0.length : Int) then (if 0 ≤ x5 then (if x5 < (x1.length : Int) then (if (rd x0 x5) = (rd x1 x5) then (F21.l0 k x0 x1 (wrap64 (x5 + 1))) else (some false)) else (none)) else (none)) else (some true)
def F21.f (k : Nat) (l0 : List Int) (l1 : List Int) : Option (Bool) := if (l0.length : Int) = (l1.length : Int) then (F21.l0 k l0 l1 0) else (some false)
set_option maxHeartbeats 8000000 in
set_option maxRecDepth 100000 in
theorem F21.calls (k : Nat) (A0 : Option Addr) (c0 : Nat) (l0 : List Int) (A1 : Option Addr) (c1 : Nat) (l1 : List Int) (r : Bool) (w : World) (hr0 : Kd.C (Kd.int .i64) w A0 l0.length l0) (hc0 : l0.length ≤ c0) (hr1 : Kd.C (Kd.int .i64) w A1 l1.length l1) (hc1 : l1.length ≤ c1) (h : F21.f k l0 l1 = some r) :
    Calls Tryd.prog 21 #[.slice A0 l0.length c0, .slice A1 l1.length c1] w fun e w' => e = .returned (.bool r) ∧ Drawn0 w w' := by
 have hu3 := Tryd.underlying3; have HR0 := Aside0.mk hr0; have HC0 := Aside0.mk hc0; clear hr0 hc0; have HR1 := Aside0.mk hr1; have HC1 := Aside0.mk hc1; clear hr1 hc1
 unfold F21.f at h
 have H := h; clear h
 by_cases c3 : (l0.length : Int) = (l1.length : Int)
 ·rw [if_pos c3] at H; have c3b0 := bT_ c3; have c3b1 := bF_ c3; have c3b2 : (l0.length == l1.length) = true := by first | simpa using c3 | (simp at c3 ⊢; omega)
  clear c3; have H' := Aside0.mk H; clear H; go_enter Tryd.func21, Tryd.ntmps21
  go_wp2
  repeat (go_quiet (fail); try go_wp2)
  go_loopg [5] k (fun kq v5 w' => ∃ (x5_1 : Int), v5 = .int .i64 x5_1 ∧ Aside0 (F21.l0 kq l0 l1 x5_1 = some r) ∧ Aside0 (kq ≤ k) ∧ Drawn0 w w')
  case atStart => exact ⟨(0), pbb2_0, H', ⟨Nat.le_refl _⟩, pbb2_1⟩
  case round =>
   clear H'; obtain ⟨x5_1, rfl, HA, HK1, ⟨m1, rfl⟩⟩ := hrel
   cases gk with
   | zero => exact absurd HA.out (by simp [F21.l0])
   | succ k1 =>
    have H := HA.out; clear HA; simp only [F21.l0] at H
    by_cases c4 : x5_1 < (l0.length : Int)
    ·rw [if_pos c4] at H; have c4b0 := decide_eq_true c4; clear c4
     by_cases c5 : 0 ≤ x5_1
     ·rw [if_pos c5] at H; have c5b0 := decide_eq_true c5; clear c5
      by_cases c6 : x5_1 < (l1.length : Int)
      ·rw [if_pos c6] at H; have c6b0 := decide_eq_true c6; clear c6
       by_cases c7 : (rd l0 x5_1) = (rd l1 x5_1)
       ·rw [if_pos c7] at H; have c7b0 := bT_ c7; have c7b1 := bF_ c7; clear c7; have H' := Aside0.mk H; clear H; have p101 : 0 ≤ (x5_1 : Int) := of_decide_eq_true pbb2_4; have q101 : x5_1 < (l0.length : Int) := of_decide_eq_true pbb2_4; obtain ⟨ad101, e101, hx101_0⟩ := Kd.at_int HR0.out x5_1 p101 q101
        cases e101
        replace p101 := eq_true p101; replace q101 := eq_true q101; have p102 : 0 ≤ (x5_1 : Int) := of_decide_eq_true pbb2_4; have q102 : x5_1 < (l1.length : Int) := of_decide_eq_true pbb2_4; obtain ⟨ad102, e102, hx102_0⟩ := Kd.at_int HR1.out x5_1 p102 q102
        cases e102
        replace p102 := eq_true p102; replace q102 := eq_true q102
        go_wp2
        repeat (go_quiet (fail); try go_wp2)
        go_roundg k1
        case measure => have := HK1.out; omega
        case rel => exact ⟨(wrap64 (x5_1 + 1)), pbb2_0, H', ⟨by have := HK1.out; omega⟩, pbb2_1⟩
       ·rw [if_neg c7] at H; have c7b0 := nF_ c7; have c7b1 := nT_ c7; obtain rfl := Option.some.inj H; have p101 : 0 ≤ (x5_1 : Int) := of_decide_eq_true pbb2_4; have q101 : x5_1 < (l0.length : Int) := of_decide_eq_true pbb2_4; obtain ⟨ad101, e101, hx101_0⟩ := Kd.at_int HR0.out x5_1 p101 q101
        cases e101
        replace p101 := eq_true p101; replace q101 := eq_true q101; have p102 : 0 ≤ (x5_1 : Int) := of_decide_eq_true pbb2_4; have q102 : x5_1 < (l1.length : Int) := of_decide_eq_true pbb2_4; obtain ⟨ad102, e102, hx102_0⟩ := Kd.at_int HR1.out x5_1 p102 q102
        cases e102
        replace p102 := eq_true p102; replace q102 := eq_true q102
        go_wp2
        repeat (go_quiet (fail); try go_wp2)
        go_ret
        exact ⟨pbb2_0, pbb2_1⟩
      ·rw [if_neg c6] at H; exact absurd H (by simp)
     ·rw [if_neg c5] at H; exact absurd H (by simp)
    ·rw [if_neg c4] at H; have c4b0 := decide_eq_false c4; clear c4; obtain rfl := Option.some.inj H
     go_wp2
     repeat (go_quiet (fail); try go_wp2)
     go_ret
     exact ⟨pbb2_0, pbb2_1⟩
 ·rw [if_neg c3] at H; have c3b0 := nF_ c3; have c3b1 := nT_ c3; have c3b2 : (l0.length == l1.length) = false := by first | simpa using c3 | (simp at c3 ⊢; omega)
  obtain rfl := Option.some.inj H; go_enter Tryd.func21, Tryd.ntmps21
  go_wp2
  repeat (go_quiet (fail); try go_wp2)
  go_ret
  exact ⟨pbb2_0, pbb2_1⟩
abbrev rdM (l : List Mv) (i : Int) : Mv := rd_T23 l i
def recL (l : List Mv) (value : Int) : List Int → List Mv → List (Int × Bool) → Option (List Mv × Int)
  | [], fd, _ => some (fd, 0)
  | n :: r, fd, S => (F27.f n 1 (l.length : Int)).bind fun b => if b = true then (if 1 ≤ n ∧ n ≤ (l.length : Int) then (if (rdM l (n - 1)).f3 = 1 then (if (aget S n).getD false = true then some ([], 8) else if value < (rdM l (n - 1)).f1 then some ([], 17) else if fd.length < 1000000000 then recL l value r (fd ++ [rdM l (n - 1)]) (aput S n true) else none) else some ([], 28)) else none) else some ([], 28)
def F43.f (l0 : List Mv) (l1 : List Int) (a2 : Int) : Option (List Mv × Int) := if l1.length ≤ 1000000 then recL l0 a2 l1 [] [] else none
theorem zero_bool (w : World) : (zeroValue 4).run Tryd.prog w = .ok (.bool false) w := by kernel_rfl
set_option maxHeartbeats 8000000 in
set_option maxRecDepth 100000 in
theorem F43.calls (A0 : Option Addr) (c0 : Nat) (l0 : List Mv) (A1 : Option Addr) (c1 : Nat) (l1 : List Int) (a2 : Int) (r1 : List Mv) (r2 : Int) (w : World) (hr0 : Kd.C k23 w A0 l0.length l0) (hc0 : l0.length ≤ c0) (hr1 : Kd.C (Kd.int .i64) w A1 l1.length l1) (hc1 : l1.length ≤ c1) (h : F43.f l0 l1 a2 = some (r1, r2)) :
    Calls Tryd.prog 43 #[.slice A0 l0.length c0, .slice A1 l1.length c1, .int .i64 a2] w fun e w' => ∃ v0_ : Value, e = .returned (.tuple #[v0_, .int .i64 r2]) ∧ Kd.R k23 23 w' w.heap.size (fun _ => True) v0_ r1 ∧ Below w.heap.size w w' := by
  have HR0 := Aside0.mk hr0; have HC0 := Aside0.mk hc0; have HR1 := Aside0.mk hr1; have HC1 := Aside0.mk hc1; clear hr0 hc0 hr1 hc1
  unfold F43.f at h
  by_cases cN : l1.length ≤ 1000000
  rotate_left
  · rw [if_neg cN] at h; cases h
  rw [if_pos cN] at h; have HL := Aside0.mk h; have HN := Aside0.mk cN; clear h cN; have HM := Aside0.mk (MapIs_made (κ := Int) (ν := Bool) (Value.int .i64) Value.bool w); have HB := Aside0.mk ((Below.refl w.heap.size w).alloc (Nat.le_refl _) (.map #[] 0)); go_enter Tryd.func43, Tryd.ntmps43
  go_wp2_with (first | (refine makeL_ rfl rfl ?_))
  go_loopg [6, 14] l1.length (fun kq v6 v14 w' => ∃ (j : Nat) (fd : List Mv) (L : List (Int × Bool)), v14 = .int .i64 (j : Int) ∧ Aside0 (j + kq = l1.length) ∧ Aside0 (recL l0 a2 (l1.drop j) fd L = some (r1, r2)) ∧ Aside0 (MapIs (Value.int .i64) Value.bool w' w.heap.size L) ∧ Aside0 (Kd.R k23 23 w' w.heap.size (fun q => w.heap.size < q) v6 fd) ∧ Aside0 (Below w.heap.size w w'))
  case atStart => exact ⟨0, [], [], rfl, ⟨by omega⟩, HL, HM, ⟨Kd.R_nil _ _ _ _ _⟩, HB⟩
  case round =>
    clear HL HM HB; obtain ⟨j, fd, L, rfl, HJ, H, HM, HO, HB⟩ := hrel
    cases gk with
    | zero =>
      have hj0 : l1.drop j = [] := List.drop_eq_nil_of_le (by have := HJ.out; omega); have H1 := H.out; rw [hj0] at H1; simp only [recL, Option.some.injEq, Prod.mk.injEq] at H1; obtain ⟨rfl, rfl⟩ := H1; have hjb : decide ((j : Int) < (l1.length : Int)) = false := decide_eq_false (by have := HJ.out; omega); have hjn : ¬ j < l1.length := by have := HJ.out; omega
      have hjd : decide (j < l1.length) = false := decide_eq_false hjn; clear hj0
      go_wp2
      go_ret2
      exact ⟨u6, rfl, Kd.R_mono HO.out (fun _ _ => trivial), HB.out⟩
    | succ k1 =>
      have hj : j < l1.length := by have := HJ.out; omega
      have hjb : decide ((j : Int) < (l1.length : Int)) = true := decide_eq_true (by omega); have hjd : decide (j < l1.length) = true := decide_eq_true hj; have hj2 : (j : Int) + 1 ≤ 1000001 := by have := HN.out; omega
      have p1 : 0 ≤ (j : Int) := by omega
      have qj : (j : Int) < (l1.length : Int) := by omega
      obtain ⟨ad, cv, e1, _, hK, hc0⟩ := Kd.C_get HR1.out (0 : Int) (j : Int) p1 qj; obtain rfl : cv = [.int .i64 (l1.getD (j : Int).toNat 0)] := hK; have hx0 := hc0 0 _ rfl
      cases e1
      simp only [Int.toNat_natCast, Nat.add_zero] at hx0; rw [show j * (Kd.int .i64).sz = j by show j * 1 = j; omega] at hx0; replace hx0 := (HB.out.cell (World.block_lt_of_cell? w _ hx0)).trans hx0; have H1 := H.out; clear H; rw [List.drop_eq_getElem_cons hj] at H1; simp only [recL] at H1; obtain ⟨n, hn⟩ : ∃ v, l1[j] = v := ⟨_, rfl⟩; rw [hn] at H1; rw [show l1.getD j 0 = n by rw [← hn]; simp [hj]] at hx0; clear hn hc0; replace p1 := eq_true p1; replace qj := eq_true qj; obtain ⟨b0, hI, H1⟩ := Option.bind_eq_some_iff.mp H1; have HI := Aside0.mk hI; clear hI
      cases b0 with
      | false =>
        obtain ⟨rfl, rfl⟩ := Prod.mk.inj (Option.some.inj H1); clear H1
        go_wp2_with (first
          | (go_at_call 27; (with_reducible refine (F27.calls n 1 (l0.length : Int) false _ HI.out).mono ?_); rintro e w' ⟨rfl, ⟨nd, rfl⟩⟩))
        go_ret2
        exact ⟨_, rfl, Kd.R_nil _ _ _ _ _, pw_below_drewN HB.out _⟩
      | true =>
        rw [if_pos rfl] at H1
        by_cases cr : 1 ≤ n ∧ n ≤ (l0.length : Int)
        rotate_left
        · rw [if_neg cr] at H1; cases H1
        rw [if_pos cr] at H1; obtain ⟨i, hi⟩ : ∃ i, n - 1 = i := ⟨_, rfl⟩; have i0 : 0 ≤ i := by omega
        have i1 : i < (l0.length : Int) := by omega
        have n0 : 1 ≤ n := cr.1; have n1 : n ≤ 9223372036854775807 := by have := HR0.out.2.1; omega
        rw [hi] at H1; obtain ⟨m, hm⟩ : ∃ m, rdM l0 i = m := ⟨_, rfl⟩; obtain ⟨am, e1, hm0, hm1, hm2, hm3, hm4, hm5, hm6, hm7⟩ := at_T23 HR0.out i i0 i1
        cases e1
        rw [show rd_T23 l0 i = m from hm] at hm0 hm1 hm2 hm3 hm4 hm5 hm6 hm7; rw [hm] at H1; replace hm0 := (HB.out.cell (World.block_lt_of_cell? w _ hm0)).trans hm0; replace hm1 := (HB.out.cell (World.block_lt_of_cell? w _ hm1)).trans hm1; replace hm2 := (HB.out.cell (World.block_lt_of_cell? w _ hm2)).trans hm2; replace hm3 := (HB.out.cell (World.block_lt_of_cell? w _ hm3)).trans hm3; replace hm4 := (HB.out.cell (World.block_lt_of_cell? w _ hm4)).trans hm4; replace hm5 := (HB.out.cell (World.block_lt_of_cell? w _ hm5)).trans hm5; replace hm6 := (HB.out.cell (World.block_lt_of_cell? w _ hm6)).trans hm6; replace hm7 := (HB.out.cell (World.block_lt_of_cell? w _ hm7)).trans hm7; clear cr hm; replace i0 := eq_true i0; replace i1 := eq_true i1
        by_cases ck : m.f3 = 1
        · rw [if_pos ck] at H1; have ckb : (m.f3 == 1) = true := beq_iff_eq.mpr ck; have ckn : (m.f3 != 1) = false := bne_eq_false_iff_eq.mpr ck; clear ck; obtain ⟨s, hs⟩ : ∃ s, (aget L n).getD false = s := ⟨_, rfl⟩; rw [hs] at H1; have HS := Aside0.mk hs; clear hs
          cases s with
          | true =>
            obtain ⟨rfl, rfl⟩ := Prod.mk.inj (Option.some.inj H1); clear H1
            go_wp2_with (first
              | (go_at_call 27; (with_reducible refine (F27.calls n 1 (l0.length : Int) true _ HI.out).mono ?_); rintro e w' ⟨rfl, ⟨nd, rfl⟩⟩; have HMd := Aside0.mk (HM.out.heap (w' := wr.drewN nd) rfl))
              | (refine lookL_ rfl rfl Tryd.underlying73 (KeyT.int Tryd.underlying3) (z := .bool false) (fun w => zero_bool w) HMd.out n pbb3_5 pbb3_5 ?_; rw [show lookV Value.bool L n (.bool false) false = .bool true from lookV_get (ev := Value.bool) HS.out]; simp only [Act.put, List.setIfInBounds_toArray, List.set_cons_zero, List.set_cons_succ]))
            go_ret2
            exact ⟨_, rfl, Kd.R_nil _ _ _ _ _, pw_below_drewN HB.out _⟩
          | false =>
            replace H1 : (if a2 < m.f1 then some ([], 17) else if fd.length < 1000000000 then recL l0 a2 (l1.drop (j + 1)) (fd ++ [m]) (aput L n true) else none) = some (r1, r2) := H1
            by_cases cv : a2 < m.f1
            · rw [if_pos cv] at H1; obtain ⟨rfl, rfl⟩ := Prod.mk.inj (Option.some.inj H1); clear H1; have cvb : decide (a2 < m.f1) = true := decide_eq_true cv
              go_wp2_with (first
                | (go_at_call 27; (with_reducible refine (F27.calls n 1 (l0.length : Int) true _ HI.out).mono ?_); rintro e w' ⟨rfl, ⟨nd, rfl⟩⟩; have HMd := Aside0.mk (HM.out.heap (w' := wr.drewN nd) rfl))
                | (refine lookL_ rfl rfl Tryd.underlying73 (KeyT.int Tryd.underlying3) (z := .bool false) (fun w => zero_bool w) HMd.out n pbb3_5 pbb3_5 ?_; rw [show lookV Value.bool L n (.bool false) false = .bool false from lookV_get (ev := Value.bool) HS.out]; simp only [Act.put, List.setIfInBounds_toArray, List.set_cons_zero, List.set_cons_succ]))
              go_ret2
              exact ⟨_, rfl, Kd.R_nil _ _ _ _ _, pw_below_drewN HB.out _⟩
            · rw [if_neg cv] at H1; have cvb : decide (a2 < m.f1) = false := decide_eq_false cv; clear cv
              by_cases cl : fd.length < 1000000000
              rotate_left
              · rw [if_neg cl] at H1; cases H1
              rw [if_pos cl] at H1; have LN := Aside0.mk cl; have H' := Aside0.mk H1; clear H1 cl
              have HNE : ∀ (p : Addr) (v : Value), wr.cell? p = some v → some p.block ≠ some w.heap.size := fun p v hp e => by
                injection e with e
                obtain ⟨es, clock, hmb, _⟩ := HM.out
                unfold World.cell? at hp
                rw [e, hmb] at hp
                cases hp
              go_wp2_with (first
                | (go_at_call 27; (with_reducible refine (F27.calls n 1 (l0.length : Int) true _ HI.out).mono ?_); rintro e w' ⟨rfl, ⟨nd, rfl⟩⟩; have HMd := Aside0.mk (HM.out.heap (w' := wr.drewN nd) rfl))
                | (refine lookL_ rfl rfl Tryd.underlying73 (KeyT.int Tryd.underlying3) (z := .bool false) (fun w => zero_bool w) HMd.out n pbb3_5 pbb3_5 ?_; rw [show lookV Value.bool L n (.bool false) false = .bool false from lookV_get (ev := Value.bool) HS.out]; simp only [Act.put, List.setIfInBounds_toArray, List.set_cons_zero, List.set_cons_succ])
                | (refine storeL_ rfl rfl Tryd.underlying73 (KeyT.int Tryd.underlying3) HMd.out n true pbb3_5 pbb3_5 pbb3_5 ?_
                   intro w3 hm3' hg3 hz3; have HM3 := Aside0.mk hm3'; have HO3 := Aside0.mk (Kd.R_grown (Kd.R_drewN HO.out _) hg3 (fun q hq e => by injection e with e; omega)); have HB3 := Aside0.mk (below_grown (pw_below_drewN HB.out _) (pw_below_drewN HB.out _).size hg3 (fun q hq => by injection hq with hq; omega)); replace hm0 := gcell ((grown_of_below (pw_below_drewN (Below.refl wr.heap.size wr) nd) (some w.heap.size)).trans hg3) hm0 (HNE _ _ hm0); replace hm1 := gcell ((grown_of_below (pw_below_drewN (Below.refl wr.heap.size wr) nd) (some w.heap.size)).trans hg3) hm1 (HNE _ _ hm1); replace hm2 := gcell ((grown_of_below (pw_below_drewN (Below.refl wr.heap.size wr) nd) (some w.heap.size)).trans hg3) hm2 (HNE _ _ hm2); replace hm3 := gcell ((grown_of_below (pw_below_drewN (Below.refl wr.heap.size wr) nd) (some w.heap.size)).trans hg3) hm3 (HNE _ _ hm3); replace hm4 := gcell ((grown_of_below (pw_below_drewN (Below.refl wr.heap.size wr) nd) (some w.heap.size)).trans hg3) hm4 (HNE _ _ hm4); replace hm5 := gcell ((grown_of_below (pw_below_drewN (Below.refl wr.heap.size wr) nd) (some w.heap.size)).trans hg3) hm5 (HNE _ _ hm5); replace hm6 := gcell ((grown_of_below (pw_below_drewN (Below.refl wr.heap.size wr) nd) (some w.heap.size)).trans hg3) hm6 (HNE _ _ hm6); replace hm7 := gcell ((grown_of_below (pw_below_drewN (Below.refl wr.heap.size wr) nd) (some w.heap.size)).trans hg3) hm7 (HNE _ _ hm7); simp only [Act.put]; clear hm3' hg3 hz3)
                | ((with_reducible refine gate_builtin (b := .append) (xs := #[.tmp 45, .tmp 51]) rfl ?_); at_builtin; refine Kd.R_append k23 (w0 := w) w.heap.size rfl (.tmp 45) (.tmp 51) 25 23 (.agg #[(.int .i64 0), (.int .i64 0), (.string ⟨#[]⟩), (.int .i64 0), (.int .i64 0), (.int .i64 0), (.string ⟨#[]⟩), (.int .i64 0)]) 80 rfl Tryd.underlying25 info23 rfl (by decide) (by omega) u6 fd m [.int .i64 m.f0, .int .i64 m.f1, .string m.f2, .int .i64 m.f3, .int .i64 m.f4, .int .i64 m.f5, .string m.f6, .int .i64 m.f7] (fun q => w.heap.size < q) (fun _ => False) rfl (by first | (go_simp; done) | (go_simp; rfl)) ?aP (fun _ hk => hk.elim) ?aF ?aO ?aB ?aS ?aL ?_
                   (case aP => exact k23_mkM _ _ _ m); (case aF => exact fun q hq => by have := HM3.out.lt; omega); (case aO => exact HO3.out); (case aB => exact HB3.out); (case aS => exact HB3.out.size); (case aL => have := LN.out; omega); intro v52 w4 ho hb hg hat; have HO4 := Aside0.mk ho; have HB4 := Aside0.mk hb; have HM4 := Aside0.mk (HM3.out.grown hg (fun e => by have := HO3.out.1 _ e.symm; omega)); clear ho hb hg hat))
              go_roundg k1
              case measure => omega
              case rel => exact ⟨j + 1, fd ++ [m], aput L n true, by go_num, ⟨by have := HJ.out; omega⟩, H', HM4, HO4, HB4⟩
        · rw [if_neg ck] at H1; obtain ⟨rfl, rfl⟩ := Prod.mk.inj (Option.some.inj H1); clear H1; have ckb : (m.f3 == 1) = false := beq_eq_false_iff_ne.mpr ck; have ckn : (m.f3 != 1) = true := bne_iff_ne.mpr ck
          go_wp2_with (first
            | (go_at_call 27; (with_reducible refine (F27.calls n 1 (l0.length : Int) true _ HI.out).mono ?_); rintro e w' ⟨rfl, ⟨nd, rfl⟩⟩))
          go_ret2
          exact ⟨_, rfl, Kd.R_nil _ _ _ _ _, pw_below_drewN HB.out _⟩
def F65.f (a0 : Int) : Option (Bool) := some (decide (a0 < 0))
set_option maxHeartbeats 8000000 in
set_option maxRecDepth 100000 in
theorem F65.calls (a0 : Int) (r : Bool) (w : World) (h : F65.f a0 = some r) :
    Calls Tryd.prog 65 #[.int .i64 a0] w fun e w' => e = .returned (.bool r) ∧ Drawn0 w w' := by
 unfold F65.f at h
 have H := h; clear h; obtain rfl := Option.some.inj H; go_enter Tryd.func65, Tryd.ntmps65
 go_wp2
 go_ret
 exact ⟨pbb2_0, pbb2_1⟩
def F74.l0 : Nat → List Int → Int → Int → Option (Int)
  | 0, _, _, _ => none
  | k + 1, x0, x7, x8 => if x8 < x7 then (if 0 ≤ x8 then (if x8 < (x0.length : Int) then ((F65.f (rd x0 x8)).bind fun t102 => (if t102 = true then (some x8) else (F74.l0 k x0 x7 (wrap64 (x8 + 1))))) else (none)) else (none)) else (some (-1))
def F74.f (k : Nat) (l0 : List Int)  : Option (Int) := F74.l0 k l0 (l0.length : Int) 0
set_option maxHeartbeats 8000000 in
set_option maxRecDepth 100000 in
theorem F74.calls (k : Nat) (A0 : Option Addr) (c0 : Nat) (l0 : List Int)  (r : Int) (w : World) (hr0 : Kd.C (Kd.int .i64) w A0 l0.length l0) (hc0 : l0.length ≤ c0) (h : F74.f k l0 = some r) :
    Calls Tryd.prog 74 #[.slice A0 l0.length c0, .func (.func 65) #[] #[]] w fun e w' => e = .returned (.int .i64 r) ∧ Below w.heap.size w w' := by
 have hu3 := Tryd.underlying3; have HR0 := Aside0.mk hr0; have HC0 := Aside0.mk hc0; clear hr0 hc0; have HB := Aside0.mk (Below.refl w.heap.size w)
 unfold F74.f at h
 have H := h; clear h; have H' := Aside0.mk H; clear H; go_enter Tryd.func74, Tryd.ntmps74
 go_wp2
 go_loopg [8] k (fun kq v8 w' => ∃ (x8_1 : Int), v8 = .int .i64 x8_1 ∧ Aside0 (F74.l0 kq l0 (l0.length : Int) x8_1 = some r) ∧ Aside0 (kq ≤ k) ∧ Aside0 (Below w.heap.size w w'))
 case atStart => exact ⟨(0), pbb2_0, H', ⟨Nat.le_refl _⟩, ⟨pbb2_3⟩⟩
 case round =>
  clear H'; obtain ⟨x8_1, rfl, HA, HK1, HB⟩ := hrel
  cases gk with
  | zero => exact absurd HA.out (by simp [F74.l0])
  | succ k1 =>
   have H := HA.out; clear HA; simp only [F74.l0] at H
   by_cases c3 : x8_1 < (l0.length : Int)
   ·rw [if_pos c3] at H; have c3b0 := decide_eq_true c3; clear c3
    by_cases c4 : 0 ≤ x8_1
    ·rw [if_pos c4] at H; have c4b0 := decide_eq_true c4; clear c4
     by_cases c5 : x8_1 < (l0.length : Int)
     ·rw [if_pos c5] at H; have c5b0 := decide_eq_true c5; clear c5; obtain ⟨t102, A60, H⟩ := bnd H; have A6 := Aside0.mk A60; clear A60
      by_cases c7 : t102 = true
      ·subst c7; rw [if_pos rfl] at H; obtain rfl := Option.some.inj H; have p101 : 0 ≤ (x8_1 : Int) := of_decide_eq_true pbb2_4; have q101 : x8_1 < (l0.length : Int) := of_decide_eq_true pbb2_4; obtain ⟨ad101, e101, hx101_0⟩ := Kd.at_int HR0.out x8_1 p101 q101
       cases e101
       replace hx101_0 := (HB.out.cell (World.block_lt_of_cell? w _ hx101_0)).trans hx101_0; replace p101 := eq_true p101; replace q101 := eq_true q101
       go_wp2_with (first | (go_at_call 65; (with_reducible refine (F65.calls (rd l0 x8_1) true _ A6.out).mono ?_); rintro e w' ⟨rfl, ⟨nd, rfl⟩⟩))
       go_ret
       exact ⟨pbb2_5, pbb2_3⟩
      ·replace c7 := Bool.eq_false_iff.mpr c7; subst c7; rw [if_neg (show ¬ (false = true) by decide)] at H; have H' := Aside0.mk H; clear H; have p101 : 0 ≤ (x8_1 : Int) := of_decide_eq_true pbb2_4; have q101 : x8_1 < (l0.length : Int) := of_decide_eq_true pbb2_4; obtain ⟨ad101, e101, hx101_0⟩ := Kd.at_int HR0.out x8_1 p101 q101
       cases e101
       replace hx101_0 := (HB.out.cell (World.block_lt_of_cell? w _ hx101_0)).trans hx101_0; replace p101 := eq_true p101; replace q101 := eq_true q101
       go_wp2_with (first | (go_at_call 65; (with_reducible refine (F65.calls (rd l0 x8_1) false _ A6.out).mono ?_); rintro e w' ⟨rfl, ⟨nd, rfl⟩⟩))
       go_roundg k1
       case measure => have := HK1.out; omega
       case rel => exact ⟨(wrap64 (x8_1 + 1)), pbb2_0, H', ⟨by have := HK1.out; omega⟩, ⟨pbb2_3⟩⟩
     ·rw [if_neg c5] at H; exact absurd H (by simp)
    ·rw [if_neg c4] at H; exact absurd H (by simp)
   ·rw [if_neg c3] at H; have c3b0 := decide_eq_false c3; clear c3; obtain rfl := Option.some.inj H
    go_wp2
    go_ret
    exact ⟨pbb2_5, pbb2_3⟩
def F64.f (k : Nat) (l0 : List Int)  : Option (Bool) := (F74.f k l0).bind fun t103 => (some (decide (t103 ≥ 0)))
set_option maxHeartbeats 8000000 in
set_option maxRecDepth 100000 in
theorem F64.calls (k : Nat) (A0 : Option Addr) (c0 : Nat) (l0 : List Int)  (r : Bool) (w : World) (hr0 : Kd.C (Kd.int .i64) w A0 l0.length l0) (hc0 : l0.length ≤ c0) (h : F64.f k l0 = some r) :
    Calls Tryd.prog 64 #[.slice A0 l0.length c0, .func (.func 65) #[] #[]] w fun e w' => e = .returned (.bool r) ∧ Below w.heap.size w w' := by
 have HR0 := Aside0.mk hr0; have HC0 := Aside0.mk hc0; clear hr0 hc0; have HB := Aside0.mk (Below.refl w.heap.size w)
 unfold F64.f at h
 have H := h; clear h; obtain ⟨t103, A30, H⟩ := bnd H; have A3 := Aside0.mk A30; clear A30; obtain rfl := Option.some.inj H; go_enter Tryd.func64, Tryd.ntmps64
 go_wp2_with (first | ((with_reducible refine gate_callee (f := 74) rfl ?_); refine goesL_ (some 7) rfl rfl Tryd.func74 (by kernel_rfl) rfl #[.slice A0 l0.length c0, .func (.func 65) #[] #[]] rfl pbb2_2 ?_; (with_reducible refine (F74.calls k _ _ l0  t103 _ pbb3_6 HC0.out A3.out).mono ?_); rintro e w4 ⟨rfl, hb⟩; refine ⟨_, rfl, ?_⟩; replace HB := Aside0.mk (below_step pbb2_3 hb); (try clear hb); (try clear hb2); (try clear hk); (try clear hi)))
 go_ret
 exact ⟨pbb2_5, pbb2_3⟩
def F56.l0 : Nat → Int → List Int → Int → Int → Option (Int × Int)
  | 0, _, _, _, _ => none
  | k + 1, x2, x8, x9, x10 => if x10 < x9 then (if 0 ≤ x10 then (if x10 < (x8.length : Int) then (if (rd x8 x10) > (wrap64 (1000000000000000 - x2)) then (some (0, 4)) else (F56.l0 k (wrap64 (x2 + (rd x8 x10))) x8 x9 (wrap64 (x10 + 1)))) else (none)) else (none)) else (if x2 = 0 then (some (0, 2)) else (some (x2, 0)))
def F56.f (k : Nat) (l0 : List Int) : Option (Int × Int) := (F64.f k l0).bind fun t104 => (if t104 = true then (some (0, 2)) else (F56.l0 k 0 l0 (l0.length : Int) 0))
set_option maxHeartbeats 8000000 in
set_option maxRecDepth 100000 in
theorem F56.calls (k : Nat) (A0 : Option Addr) (c0 : Nat) (l0 : List Int) (r1 : Int) (r2 : Int) (w : World) (hr0 : Kd.C (Kd.int .i64) w A0 l0.length l0) (hc0 : l0.length ≤ c0) (h : F56.f k l0 = some (r1, r2)) :
    Calls Tryd.prog 56 #[.slice A0 l0.length c0] w fun e w' => e = .returned (.tuple #[.int .i64 r1, .int .i64 r2]) ∧ Below w.heap.size w w' := by
 have hu3 := Tryd.underlying3; have HR0 := Aside0.mk hr0; have HC0 := Aside0.mk hc0; clear hr0 hc0; have HB := Aside0.mk (Below.refl w.heap.size w)
 unfold F56.f at h
 have H := h; clear h; obtain ⟨t104, A20, H⟩ := bnd H; have A2 := Aside0.mk A20; clear A20
 by_cases c3 : t104 = true
 ·subst c3; rw [if_pos rfl] at H; simp only [Option.some.injEq, Prod.mk.injEq] at H; obtain ⟨rfl, rfl⟩ := H; go_enter Tryd.func56, Tryd.ntmps56
  go_wp2_with (first | ((with_reducible refine gate_callee (f := 64) rfl ?_); refine goesL_ (some 7) rfl rfl Tryd.func64 (by kernel_rfl) rfl #[.slice A0 l0.length c0, .func (.func 65) #[] #[]] rfl pbb2_2 ?_; (with_reducible refine (F64.calls k _ _ l0  true _ pbb3_6 HC0.out A2.out).mono ?_); rintro e w4 ⟨rfl, hb⟩; refine ⟨_, rfl, ?_⟩; replace HB := Aside0.mk (below_step pbb2_3 hb); (try clear hb); (try clear hb2); (try clear hk); (try clear hi)))
  go_ret2
  exact ⟨pbb2_5, pbb2_3⟩
 ·replace c3 := Bool.eq_false_iff.mpr c3; subst c3; rw [if_neg (show ¬ (false = true) by decide)] at H; have H' := Aside0.mk H; clear H; go_enter Tryd.func56, Tryd.ntmps56
  go_wp2_with (first | ((with_reducible refine gate_callee (f := 64) rfl ?_); refine goesL_ (some 7) rfl rfl Tryd.func64 (by kernel_rfl) rfl #[.slice A0 l0.length c0, .func (.func 65) #[] #[]] rfl pbb2_2 ?_; (with_reducible refine (F64.calls k _ _ l0  false _ pbb3_6 HC0.out A2.out).mono ?_); rintro e w5 ⟨rfl, hb⟩; refine ⟨_, rfl, ?_⟩; replace HB := Aside0.mk (below_step pbb2_3 hb); (try clear hb); (try clear hb2); (try clear hk); (try clear hi)))
  (try simp only [Act.put, List.setIfInBounds_toArray, List.set_cons_zero, List.set_cons_succ])
  go_loopg [2, 10] k (fun kq v2 v10 w' => ∃ (x2_1 : Int) (x10_1 : Int), v2 = .int .i64 x2_1 ∧ v10 = .int .i64 x10_1 ∧ Aside0 (F56.l0 kq x2_1 l0 (l0.length : Int) x10_1 = some (r1, r2)) ∧ Aside0 (kq ≤ k) ∧ Aside0 (Below w.heap.size w w'))
  case atStart => exact ⟨(0), (0), pbb2_0, pbb2_0, H', ⟨Nat.le_refl _⟩, ⟨pbb2_3⟩⟩
  case round =>
   clear H'; obtain ⟨x2_1, x10_1, rfl, rfl, HA, HK1, HB⟩ := hrel
   cases gk with
   | zero => exact absurd HA.out (by simp [F56.l0])
   | succ k1 =>
    have H := HA.out; clear HA; simp only [F56.l0] at H
    by_cases c6 : x10_1 < (l0.length : Int)
    ·rw [if_pos c6] at H; have c6b0 := decide_eq_true c6; clear c6
     by_cases c7 : 0 ≤ x10_1
     ·rw [if_pos c7] at H; have c7b0 := decide_eq_true c7; clear c7
      by_cases c8 : x10_1 < (l0.length : Int)
      ·rw [if_pos c8] at H; have c8b0 := decide_eq_true c8; clear c8
       by_cases c9 : (rd l0 x10_1) > (wrap64 (1000000000000000 - x2_1))
       ·rw [if_pos c9] at H; have c9b0 : decide ((wrap64 (1000000000000000 - x2_1)) < (rd l0 x10_1)) = true := decide_eq_true c9; clear c9; simp only [Option.some.injEq, Prod.mk.injEq] at H; obtain ⟨rfl, rfl⟩ := H; have p105 : 0 ≤ (x10_1 : Int) := of_decide_eq_true pbb2_4; have q105 : x10_1 < (l0.length : Int) := of_decide_eq_true pbb2_4; obtain ⟨ad105, e105, hx105_0⟩ := Kd.at_int HR0.out x10_1 p105 q105
        cases e105
        replace hx105_0 := (HB.out.cell (World.block_lt_of_cell? w _ hx105_0)).trans hx105_0; replace p105 := eq_true p105; replace q105 := eq_true q105
        go_wp2
        go_ret2
        exact ⟨pbb2_5, pbb2_3⟩
       ·rw [if_neg c9] at H; have c9b0 : decide ((wrap64 (1000000000000000 - x2_1)) < (rd l0 x10_1)) = false := decide_eq_false c9; clear c9; have H' := Aside0.mk H; clear H; have p105 : 0 ≤ (x10_1 : Int) := of_decide_eq_true pbb2_4; have q105 : x10_1 < (l0.length : Int) := of_decide_eq_true pbb2_4; obtain ⟨ad105, e105, hx105_0⟩ := Kd.at_int HR0.out x10_1 p105 q105
        cases e105
        replace hx105_0 := (HB.out.cell (World.block_lt_of_cell? w _ hx105_0)).trans hx105_0; replace p105 := eq_true p105; replace q105 := eq_true q105
        go_wp2
        go_roundg k1
        case measure => have := HK1.out; omega
        case rel => exact ⟨(wrap64 (x2_1 + (rd l0 x10_1))), (wrap64 (x10_1 + 1)), pbb2_0, pbb2_0, H', ⟨by have := HK1.out; omega⟩, ⟨pbb2_3⟩⟩
      ·rw [if_neg c8] at H; exact absurd H (by simp)
     ·rw [if_neg c7] at H; exact absurd H (by simp)
    ·rw [if_neg c6] at H; have c6b0 := decide_eq_false c6; clear c6
     by_cases c10 : x2_1 = 0
     ·rw [if_pos c10] at H; have c10b0 := bT_ c10; have c10b1 := bF_ c10; clear c10; simp only [Option.some.injEq, Prod.mk.injEq] at H; obtain ⟨rfl, rfl⟩ := H
      go_wp2
      go_ret2
      exact ⟨pbb2_5, pbb2_3⟩
     ·rw [if_neg c10] at H; have c10b0 := nF_ c10; have c10b1 := nT_ c10; simp only [Option.some.injEq, Prod.mk.injEq] at H; obtain ⟨rfl, rfl⟩ := H
      go_wp2
      go_ret2
      exact ⟨pbb2_5, pbb2_3⟩
end Go.Proofs.YtegpappenmhndaaDoor.M
end
