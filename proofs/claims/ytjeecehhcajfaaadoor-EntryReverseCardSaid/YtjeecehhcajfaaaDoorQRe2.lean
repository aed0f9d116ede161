/- The law of the entries, walked and shown. Part 2 of 2 of what is the claim's own. -/
import Derived.Test.YtjeecehhcajfaaaDoorQBB2
import Derived.Test.YtjeecehhcajfaaaDoorQRe1
import Derived.Test.YtjeecehhcajfaaaDoorQBB7
import Derived.Test.YtjeecehhcajfaaaDoorQBB4
import Derived.Test.YtjeecehhcajfaaaDoorQBB8
import Derived.Test.YtjeecehhcajfaaaDoorQBB5
import Derived.Test.YtjeecehhcajfaaaDoorQBB6
import Derived.Test.YtjeecehhcajfaaaDoorQBB9
import Derived.Test.YtjeecehhcajfaaaDoorRows
import Derived.Test.YtjeecehhcajfaaaDoorQBB1
import Derived.ProofKit
import Derived.LaidMore
import Derived.OpenShut
import Derived.Stop.Joined
import Derived.WalkKit
import Derived.ShutString
import Derived.ChangeOld
import Derived.Below
import Derived.SizedLaws
import Derived.Test.YtjeecehhcajfaaaDoorCards
import Derived.Test.YtjeecehhcajfaaaDoorTie
import Derived.SevenTiedAt
namespace Go.Proofs.YtjeecehhcajfaaaDoor.M
theorem pre2_0 {p : Prop} (h : p := by repeat (first | (with_reducible first | exact HB.out | apply below_alloc | apply pw_below_drewN | apply below_drew1 | refine below_set ?_ GE101.out | refine below_set ?_ GE102.out | refine below_set ?_ GE108.out) | exact HB.out)) : p := h
theorem pre2_1 {p : Prop} (h : p := by (with_reducible repeat (first | refine blk_drewN ?_ _ | refine blk_drew ?_ | refine blk_alloc ?_ _)); exact BK108.out) : p := h
theorem pre2_2 {p : Prop} (h : p := by repeat (first | (with_reducible first | exact HB.out | apply below_alloc | apply pw_below_drewN | apply below_drew1 | refine below_set ?_ GE101.out | refine below_set ?_ GE102.out | refine below_set ?_ GE108.out | refine below_set ?_ GE110.out) | exact HB.out)) : p := h
theorem pre2_3 {p : Prop} (h : p := by (with_reducible repeat (first | refine blk_drewN ?_ _ | refine blk_drew ?_ | refine blk_alloc ?_ _)); exact BK110.out) : p := h
end Go.Proofs.YtjeecehhcajfaaaDoor.M
section
namespace Go.Proofs.YtjeecehhcajfaaaDoor.M
open Go.RowKit Go.Proofs.YtjeecehhcajfaaaDoorW.PrintWords Go.Proofs.YtjeecehhcajfaaaDoorW.PrintLast Go.Proofs.YtjeecehhcajfaaaDoorW.PrintMore
attribute [local go_sem] max2_int min2_int max_two min_two max_three min_three max_four min_four
set_option linter.unusedVariables false
set_option linter.unusedSimpArgs false
mutual
def F29.j0 : Nat → Int → Int → ByteArray → Bool → Int → ByteArray → Int → Int → Int → ByteArray → ByteArray → Int → List (S24) → Option (Int × ByteArray × Int × Int × Int × ByteArray × ByteArray × Int × (List (S24)) × Int)
  | 0, _, _, _, _, _, _, _, _, _, _, _, _, _ => none
  | k + 1, x1, x2, x3, x35, x102000, x102001, x102002, x102003, x102004, x102005, x102006, x102007, x102008 => if x35 = true then (some (0, (⟨#[]⟩ : ByteArray), 0, 0, 0, (⟨#[]⟩ : ByteArray), (⟨#[]⟩ : ByteArray), 0, ([] : List (S24)), 11)) else ((F38.f k x3).bind fun t107 => (if t107 = true then (F29.l0 k 0 x102000 x102001 x102002 x102003 x102004 x102005 x102006 x102007 x102008 0 x102001 x1 x2 5 x102005 x3 x102000 ([] : List (S24))) else (some (0, (⟨#[]⟩ : ByteArray), 0, 0, 0, (⟨#[]⟩ : ByteArray), (⟨#[]⟩ : ByteArray), 0, ([] : List (S24)), 7))))
def F29.l0 : Nat → Int → Int → ByteArray → Int → Int → Int → ByteArray → ByteArray → Int → List (S24) → Int → ByteArray → Int → Int → Int → ByteArray → ByteArray → Int → List (S24) → Option (Int × ByteArray × Int × Int × Int × ByteArray × ByteArray × Int × (List (S24)) × Int)
  | 0, _, _, _, _, _, _, _, _, _, _, _, _, _, _, _, _, _, _, _ => none
  | k + 1, x13, x102000, x102001, x102002, x102003, x102004, x102005, x102006, x102007, x102008, x109000, x109001, x109002, x109003, x109004, x109005, x109006, x109007, x109008 => if x13 < (x102008.length : Int) then (if 0 ≤ x13 then ((some (([] : List (S101)) : List (S101))).bind fun y111 => (if y111.length + ((rd_T24 x102008 x13).f6).length < 4398046511104 then (if x109008.length < 1353245080339 then (F29.l0 k (wrap64 (x13 + 1)) x102000 x102001 x102002 x102003 x102004 x102005 x102006 x102007 x102008 x109000 x109001 x109002 x109003 x109004 x109005 x109006 x109007 (x109008 ++ [(⟨(rd_T24 x102008 x13).f0, (rd_T24 x102008 x13).f1, wrap64 (-((rd_T24 x102008 x13).f2)), wrap64 (-((rd_T24 x102008 x13).f3)), (rd_T24 x102008 x13).f4, (rd_T24 x102008 x13).f5, (y111 ++ ((rd_T24 x102008 x13).f6))⟩ : S24)])) else (none)) else (none))) else (none)) else (some (x109000, x109001, x109002, x109003, x109004, x109005, x109006, x109007, x109008, 0))
end
def F29.f (k : Nat) (a0_0 : Int) (a0_1 : ByteArray) (a0_2 : Int) (a0_3 : Int) (a0_4 : Int) (a0_5 : ByteArray) (a0_6 : ByteArray) (a0_7 : Int) (l0_8 : List (S24)) (a1 : Int) (a2 : Int) (a3 : ByteArray) : Option (Int × ByteArray × Int × Int × Int × ByteArray × ByteArray × Int × (List (S24)) × Int) := (F17.f k a0_0 a0_1 a0_2 a0_3 a0_4 a0_5 a0_6 a0_7 l0_8).bind fun bt103 => (if bt103.2 = 0 then (if a0_0 = 0 then (some (0, (⟨#[]⟩ : ByteArray), 0, 0, 0, (⟨#[]⟩ : ByteArray), (⟨#[]⟩ : ByteArray), 0, ([] : List (S24)), 28)) else ((F58.f a1).bind fun t105 => (if t105 = true then ((F58.f a2).bind fun t106 => (F29.j0 k a1 a2 a3 (!t106) a0_0 a0_1 a0_2 a0_3 a0_4 a0_5 a0_6 a0_7 l0_8)) else (F29.j0 k a1 a2 a3 true a0_0 a0_1 a0_2 a0_3 a0_4 a0_5 a0_6 a0_7 l0_8)))) else (some (0, (⟨#[]⟩ : ByteArray), 0, 0, 0, (⟨#[]⟩ : ByteArray), (⟨#[]⟩ : ByteArray), 0, ([] : List (S24)), bt103.2)))
set_option maxHeartbeats 8000000 in
set_option maxRecDepth 100000 in
theorem F29.calls (k : Nat) (a0_0 : Int) (a0_1 : ByteArray) (a0_2 : Int) (a0_3 : Int) (a0_4 : Int) (a0_5 : ByteArray) (a0_6 : ByteArray) (a0_7 : Int) (A0_8 : Option Addr) (c0_8 : Nat) (l0_8 : List (S24)) (a1 : Int) (a2 : Int) (a3 : ByteArray) (r1 : Int) (r2 : ByteArray) (r3 : Int) (r4 : Int) (r5 : Int) (r6 : ByteArray) (r7 : ByteArray) (r8 : Int) (r9 : List (S24)) (r10 : Int) (w : World) (hr0_8 : Kd.C k24 w A0_8 l0_8.length l0_8) (hc0_8 : l0_8.length ≤ c0_8) (h : F29.f k a0_0 a0_1 a0_2 a0_3 a0_4 a0_5 a0_6 a0_7 l0_8 a1 a2 a3 = some (r1, r2, r3, r4, r5, r6, r7, r8, r9, r10)) :
    Calls Tryd.prog 29 #[.agg #[.int .i64 a0_0, .string a0_1, .int .i64 a0_2, .int .i64 a0_3, .int .i64 a0_4, .string a0_5, .string a0_6, .int .i64 a0_7, .slice A0_8 l0_8.length c0_8], .int .i64 a1, .int .i64 a2, .string a3] w fun e w' => ∃ v8_ : Value, e = .returned (.tuple #[.agg #[.int .i64 r1, .string r2, .int .i64 r3, .int .i64 r4, .int .i64 r5, .string r6, .string r7, .int .i64 r8, v8_], .int .i64 r10]) ∧ Kd.S k24 24 w' w.heap.size (fun _ => True) v8_ r9 ∧ Below w.heap.size w w' := by
 have hu33 := Tryd.underlying33; have hu3 := Tryd.underlying3; have hu9 := Tryd.underlying9; have hu26 := Tryd.underlying26; have hu24 := Tryd.underlying24; have hu22 := Tryd.underlying22; have HR0_8 := Aside0.mk hr0_8; have HC0_8 := Aside0.mk hc0_8; clear hr0_8 hc0_8; have HB := Aside0.mk (Below.refl w.heap.size w)
 unfold F29.f at h
 have H := h; clear h; obtain ⟨⟨t103, t104⟩, A50, H⟩ := bnd H; (try dsimp only at H); have A5 := Aside0.mk A50; clear A50
 by_cases c6 : t104 = 0
 ·rw [if_pos c6] at H; have c6b0 := bT_ c6; have c6b1 := bF_ c6; clear c6
  by_cases c7 : a0_0 = 0
  ·rw [if_pos c7] at H; have c7b0 := bT_ c7; have c7b1 := bF_ c7; clear c7; simp only [Option.some.injEq, Prod.mk.injEq] at H; obtain ⟨rfl, rfl, rfl, rfl, rfl, rfl, rfl, rfl, rfl, rfl⟩ := H; go_enter Tryd.func29, Tryd.ntmps29
   go_wp2_with (first | ((with_reducible refine gate_dst (N := 4) rfl ?_); refine box_event ?hg (N := 4) ?hd (cs := #[.int .i64 a0_0, .string a0_1, .int .i64 a0_2, .int .i64 a0_3, .int .i64 a0_4, .string a0_5, .string a0_6, .int .i64 a0_7, .slice A0_8 l0_8.length c0_8]) (t := 33) ?hr ?_; (case hd => rfl); (case hg => rfl); (case hr => first | (go_simp; done) | (go_simp; rfl)); intro gb101 hg w8 hbox hb; have BK101 := Aside0.mk (hbox); have GW101 := Aside0.mk ((pbb2_8 : w.heap.size ≤ gb101)); have GE101 := Aside0.mk ((pbb2_8 : w.heap.size ≤ gb101)); replace HB := Aside0.mk (below_step pbb2_9 hb); clear hb hbox hg) | ((with_reducible refine gate_dst (N := 8) rfl ?_); refine box_event ?hg (N := 8) ?hd (cs := #[.int .i64 0, .string (⟨#[]⟩ : ByteArray), .int .i64 0, .int .i64 0, .int .i64 0, .string (⟨#[]⟩ : ByteArray), .string (⟨#[]⟩ : ByteArray), .int .i64 0, .slice none 0 0]) (t := 33) ?hr ?_; (case hd => rfl); (case hg => rfl); (case hr => first | (go_simp; done) | (go_simp; rfl)); intro gb102 hg w9 hbox hb; have BK102 := Aside0.mk (hbox); have GW102 := Aside0.mk ((pbb2_10 : w.heap.size ≤ gb102)); have GE102 := Aside0.mk ((pbb2_10 : w.heap.size ≤ gb102)); replace HB := Aside0.mk (below_step pbb2_11 hb); have NB101_102 := Aside0.mk ((pbb4_0 : gb101 ≠ gb102)); have NB102_101 := Aside0.mk ((pbb4_1 : gb102 ≠ gb101)); replace BK101 := Aside0.mk (blk_below (g := gb101) (o := .cells #[.int .i64 a0_0, .string a0_1, .int .i64 a0_2, .int .i64 a0_3, .int .i64 a0_4, .string a0_5, .string a0_6, .int .i64 a0_7, .slice A0_8 l0_8.length c0_8] 33 (0, 0)) pbb2_12 hb); clear hb hbox hg; have hnb10 := NB101_102.out; have hnc10 := NB102_101.out; obtain ⟨hcz11_0, hcz11_1, hcz11_2, hcz11_3, hcz11_4, hcz11_5, hcz11_6, hcz11_7, hcz11_8⟩ := cz9 BK101.out; obtain ⟨hfz11_0, hfz11_1, hfz11_2, hfz11_3, hfz11_4, hfz11_5, hfz11_6, hfz11_7, hfz11_8⟩ := fz9 BK101.out) | ((with_reducible refine gate_callee (f := 17) rfl ?_); refine goesL_ (some 17) rfl rfl Tryd.func17 (by kernel_rfl) rfl #[.agg #[.int .i64 a0_0, .string a0_1, .int .i64 a0_2, .int .i64 a0_3, .int .i64 a0_4, .string a0_5, .string a0_6, .int .i64 a0_7, .slice A0_8 l0_8.length c0_8]] rfl pbb2_5 ?_; (with_reducible refine (F17.calls k a0_0 a0_1 a0_2 a0_3 a0_4 a0_5 a0_6 a0_7 _ _ l0_8 t103 t104 _ pbb6_6 (by exact HC0_8.out) A5.out).mono ?_); rintro e w12 ⟨rfl, hb⟩; refine ⟨_, rfl, ?_⟩; replace BK101 := Aside0.mk (blk_below (g := gb101) (o := .cells #[.int .i64 a0_0, .string a0_1, .int .i64 a0_2, .int .i64 a0_3, .int .i64 a0_4, .string a0_5, .string a0_6, .int .i64 a0_7, .slice A0_8 l0_8.length c0_8] 33 (0, 0)) pbb2_12 hb); replace BK102 := Aside0.mk (blk_below (g := gb102) (o := .cells #[.int .i64 0, .string (⟨#[]⟩ : ByteArray), .int .i64 0, .int .i64 0, .int .i64 0, .string (⟨#[]⟩ : ByteArray), .string (⟨#[]⟩ : ByteArray), .int .i64 0, .slice none 0 0] 33 (0, 0)) pbb2_14 hb); replace HB := Aside0.mk (below_step pbb2_13 hb); (try clear hb); (try clear hb2); (try clear hk); (try clear hi); obtain ⟨hcz13_0, hcz13_1, hcz13_2, hcz13_3, hcz13_4, hcz13_5, hcz13_6, hcz13_7, hcz13_8⟩ := cz9 BK101.out; obtain ⟨hfz13_0, hfz13_1, hfz13_2, hfz13_3, hfz13_4, hfz13_5, hfz13_6, hfz13_7, hfz13_8⟩ := fz9 BK101.out; obtain ⟨hcz14_0, hcz14_1, hcz14_2, hcz14_3, hcz14_4, hcz14_5, hcz14_6, hcz14_7, hcz14_8⟩ := cz9 BK102.out; obtain ⟨hfz14_0, hfz14_1, hfz14_2, hfz14_3, hfz14_4, hfz14_5, hfz14_6, hfz14_7, hfz14_8⟩ := fz9 BK102.out))
   refine bodyPost_ret (results_ct rfl _ _ gb102 33 #[.int .i64 0, .string (⟨#[]⟩ : ByteArray), .int .i64 0, .int .i64 0, .int .i64 0, .string (⟨#[]⟩ : ByteArray), .string (⟨#[]⟩ : ByteArray), .int .i64 0, .slice none 0 0] (0, 0) _ rfl pbb7_1 Tryd.underlying33 rfl (by kernel_rfl)) rfl ?_; exact ⟨_, pbb2_18, pbb7_2, pbb2_13⟩
  ·rw [if_neg c7] at H; have c7b0 := nF_ c7; have c7b1 := nT_ c7; have HC15 := Aside0.mk H; clear H; go_enter Tryd.func29, Tryd.ntmps29
   go_upto_region 6 with (first | ((with_reducible refine gate_dst (N := 4) rfl ?_); refine box_event ?hg (N := 4) ?hd (cs := #[.int .i64 a0_0, .string a0_1, .int .i64 a0_2, .int .i64 a0_3, .int .i64 a0_4, .string a0_5, .string a0_6, .int .i64 a0_7, .slice A0_8 l0_8.length c0_8]) (t := 33) ?hr ?_; (case hd => rfl); (case hg => rfl); (case hr => first | (go_simp; done) | (go_simp; rfl)); intro gb101 hg w16 hbox hb; have BK101 := Aside0.mk (hbox); have GW101 := Aside0.mk ((pbb2_8 : w.heap.size ≤ gb101)); have GE101 := Aside0.mk ((pbb2_8 : w.heap.size ≤ gb101)); replace HB := Aside0.mk (below_step pbb2_9 hb); clear hb hbox hg) | ((with_reducible refine gate_dst (N := 8) rfl ?_); refine box_event ?hg (N := 8) ?hd (cs := #[.int .i64 0, .string (⟨#[]⟩ : ByteArray), .int .i64 0, .int .i64 0, .int .i64 0, .string (⟨#[]⟩ : ByteArray), .string (⟨#[]⟩ : ByteArray), .int .i64 0, .slice none 0 0]) (t := 33) ?hr ?_; (case hd => rfl); (case hg => rfl); (case hr => first | (go_simp; done) | (go_simp; rfl)); intro gb102 hg w17 hbox hb; have BK102 := Aside0.mk (hbox); have GW102 := Aside0.mk ((pbb2_10 : w.heap.size ≤ gb102)); have GE102 := Aside0.mk ((pbb2_10 : w.heap.size ≤ gb102)); replace HB := Aside0.mk (below_step pbb2_11 hb); have NB101_102 := Aside0.mk ((pbb4_0 : gb101 ≠ gb102)); have NB102_101 := Aside0.mk ((pbb4_1 : gb102 ≠ gb101)); replace BK101 := Aside0.mk (blk_below (g := gb101) (o := .cells #[.int .i64 a0_0, .string a0_1, .int .i64 a0_2, .int .i64 a0_3, .int .i64 a0_4, .string a0_5, .string a0_6, .int .i64 a0_7, .slice A0_8 l0_8.length c0_8] 33 (0, 0)) pbb2_12 hb); clear hb hbox hg; have hnb18 := NB101_102.out; have hnc18 := NB102_101.out; obtain ⟨hcz19_0, hcz19_1, hcz19_2, hcz19_3, hcz19_4, hcz19_5, hcz19_6, hcz19_7, hcz19_8⟩ := cz9 BK101.out; obtain ⟨hfz19_0, hfz19_1, hfz19_2, hfz19_3, hfz19_4, hfz19_5, hfz19_6, hfz19_7, hfz19_8⟩ := fz9 BK101.out) | ((with_reducible refine gate_callee (f := 17) rfl ?_); refine goesL_ (some 17) rfl rfl Tryd.func17 (by kernel_rfl) rfl #[.agg #[.int .i64 a0_0, .string a0_1, .int .i64 a0_2, .int .i64 a0_3, .int .i64 a0_4, .string a0_5, .string a0_6, .int .i64 a0_7, .slice A0_8 l0_8.length c0_8]] rfl pbb2_5 ?_; (with_reducible refine (F17.calls k a0_0 a0_1 a0_2 a0_3 a0_4 a0_5 a0_6 a0_7 _ _ l0_8 t103 t104 _ pbb6_6 (by exact HC0_8.out) A5.out).mono ?_); rintro e w20 ⟨rfl, hb⟩; refine ⟨_, rfl, ?_⟩; replace BK101 := Aside0.mk (blk_below (g := gb101) (o := .cells #[.int .i64 a0_0, .string a0_1, .int .i64 a0_2, .int .i64 a0_3, .int .i64 a0_4, .string a0_5, .string a0_6, .int .i64 a0_7, .slice A0_8 l0_8.length c0_8] 33 (0, 0)) pbb2_12 hb); replace BK102 := Aside0.mk (blk_below (g := gb102) (o := .cells #[.int .i64 0, .string (⟨#[]⟩ : ByteArray), .int .i64 0, .int .i64 0, .int .i64 0, .string (⟨#[]⟩ : ByteArray), .string (⟨#[]⟩ : ByteArray), .int .i64 0, .slice none 0 0] 33 (0, 0)) pbb2_14 hb); replace HB := Aside0.mk (below_step pbb2_13 hb); (try clear hb); (try clear hb2); (try clear hk); (try clear hi); obtain ⟨hcz21_0, hcz21_1, hcz21_2, hcz21_3, hcz21_4, hcz21_5, hcz21_6, hcz21_7, hcz21_8⟩ := cz9 BK101.out; obtain ⟨hfz21_0, hfz21_1, hfz21_2, hfz21_3, hfz21_4, hfz21_5, hfz21_6, hfz21_7, hfz21_8⟩ := fz9 BK101.out))
   (try simp only [Act.put, List.setIfInBounds_toArray, List.set_cons_zero, List.set_cons_succ])
   go_cut [35] (fun v35 wc => ∃ (kq : Nat) (x35_14 : Bool), v35 = .bool x35_14 ∧ Aside0 (F29.j0 kq a1 a2 a3 x35_14 a0_0 a0_1 a0_2 a0_3 a0_4 a0_5 a0_6 a0_7 l0_8 = some (r1, r2, r3, r4, r5, r6, r7, r8, r9, r10)) ∧ Aside0 (kq ≤ k) ∧ Aside0 (wc.heap[gb101]? = some (.cells #[.int .i64 a0_0, .string a0_1, .int .i64 a0_2, .int .i64 a0_3, .int .i64 a0_4, .string a0_5, .string a0_6, .int .i64 a0_7, (.slice A0_8 l0_8.length c0_8)] 33 (0, 0))) ∧ Aside0 (wc.heap[gb102]? = some (.cells #[.int .i64 0, .string (⟨#[]⟩ : ByteArray), .int .i64 0, .int .i64 0, .int .i64 0, .string (⟨#[]⟩ : ByteArray), .string (⟨#[]⟩ : ByteArray), .int .i64 0, (.slice none 0 0)] 33 (0, 0))) ∧ Aside0 (Below w.heap.size w wc))
   case first =>
    have H := HC15.out; clear HC15; obtain ⟨t105, A220, H⟩ := bnd H; have A22 := Aside0.mk A220; clear A220
    by_cases c23 : t105 = true
    ·subst c23; rw [if_pos rfl] at H; obtain ⟨t106, A240, H⟩ := bnd H; have A24 := Aside0.mk A240; clear A240; have H' := Aside0.mk H; clear H
     go_wp2_with (first | ((with_reducible refine gate_callee (f := 58) rfl ?_); refine goesL_ (some 29) rfl rfl Tryd.func58 (by kernel_rfl) rfl #[.int .i64 a1] rfl pbb2_5 ?_; (with_reducible refine (F58.calls a1 true _ A22.out).mono ?_); rintro e w' ⟨rfl, ⟨nd, rfl⟩⟩; refine ⟨_, rfl, ?_⟩) | (go_at_call 58; (with_reducible refine (F58.calls a2 t106 _ A24.out).mono ?_); rintro e w' ⟨rfl, ⟨nd, rfl⟩⟩))
     go_meet
     case rel => exact ⟨_, (!t106), pbb2_3, H', ⟨pbb6_2⟩, ⟨pbb2_12⟩, ⟨pbb2_14⟩, ⟨pbb2_13⟩⟩
    ·replace c23 := Bool.eq_false_iff.mpr c23; subst c23; rw [if_neg (show ¬ (false = true) by decide)] at H; have H' := Aside0.mk H; clear H
     go_wp2_with (first | ((with_reducible refine gate_callee (f := 58) rfl ?_); refine goesL_ (some 29) rfl rfl Tryd.func58 (by kernel_rfl) rfl #[.int .i64 a1] rfl pbb2_5 ?_; (with_reducible refine (F58.calls a1 false _ A22.out).mono ?_); rintro e w' ⟨rfl, ⟨nd, rfl⟩⟩; refine ⟨_, rfl, ?_⟩))
     go_meet
     case rel => exact ⟨_, (true), pbb2_3, H', ⟨pbb6_2⟩, ⟨pbb2_12⟩, ⟨pbb2_14⟩, ⟨pbb2_13⟩⟩
   case rest =>
    clear HC15; obtain ⟨kq, x35_14, rfl, HA, HJ14, BK101, BK102, HB⟩ := hcut
    cases kq with
    | zero => exact absurd HA.out (by simp [F29.j0])
    | succ kj14 =>
     have H := HA.out; clear HA; simp only [F29.j0] at H
     by_cases c25 : x35_14 = true
     ·subst c25; rw [if_pos rfl] at H; simp only [Option.some.injEq, Prod.mk.injEq] at H; obtain ⟨rfl, rfl, rfl, rfl, rfl, rfl, rfl, rfl, rfl, rfl⟩ := H; have hnb26 := NB102_101.out; have hnc26 := NB101_102.out; obtain ⟨hcz27_0, hcz27_1, hcz27_2, hcz27_3, hcz27_4, hcz27_5, hcz27_6, hcz27_7, hcz27_8⟩ := cz9 BK102.out; obtain ⟨hfz27_0, hfz27_1, hfz27_2, hfz27_3, hfz27_4, hfz27_5, hfz27_6, hfz27_7, hfz27_8⟩ := fz9 BK102.out
      go_wp2
      refine bodyPost_ret (results_ct rfl _ _ gb102 33 #[.int .i64 0, .string (⟨#[]⟩ : ByteArray), .int .i64 0, .int .i64 0, .int .i64 0, .string (⟨#[]⟩ : ByteArray), .string (⟨#[]⟩ : ByteArray), .int .i64 0, .slice none 0 0] (0, 0) _ rfl pbb7_1 Tryd.underlying33 rfl (by kernel_rfl)) rfl ?_; exact ⟨_, pbb2_18, pbb7_2, pbb2_13⟩
     ·replace c25 := Bool.eq_false_iff.mpr c25; subst c25; rw [if_neg (show ¬ (false = true) by decide)] at H; obtain ⟨t107, A280, H⟩ := bnd H; have A28 := Aside0.mk A280; clear A280
      by_cases c29 : t107 = true
      ·subst c29; rw [if_pos rfl] at H; have H' := Aside0.mk H; clear H
       go_wp2_with (first | ((with_reducible refine gate_callee (f := 38) rfl ?_); refine goesL_ (some 38) rfl rfl Tryd.func38 (by kernel_rfl) rfl #[.string a3] rfl pbb2_5 ?_; (with_reducible refine (F38.calls kj14 a3 true _ A28.out).mono ?_); rintro e w' ⟨rfl, ⟨nd, rfl⟩⟩; refine ⟨_, rfl, ?_⟩; (try (rw [drewN_self wc]; generalize hq_ : World.drewN wc _ = wc; have n0_ : Aside0 (wc.heap[gb101]? = some (.cells #[.int .i64 a0_0, .string a0_1, .int .i64 a0_2, .int .i64 a0_3, .int .i64 a0_4, .string a0_5, .string a0_6, .int .i64 a0_7, .slice A0_8 l0_8.length c0_8] 33 (0, 0))) := ⟨pbb6_3⟩; have n1_ : Aside0 (wc.heap[gb102]? = some (.cells #[.int .i64 0, .string (⟨#[]⟩ : ByteArray), .int .i64 0, .int .i64 0, .int .i64 0, .string (⟨#[]⟩ : ByteArray), .string (⟨#[]⟩ : ByteArray), .int .i64 0, .slice none 0 0] 33 (0, 0))) := ⟨by rw [← hq_]; exact pbb2_14⟩; have n2_ : Aside0 (Below w.heap.size w wc) := ⟨by rw [← hq_]; exact pbb2_13⟩; clear BK101 BK102 HB hq_; have BK101 := n0_; have BK102 := n1_; have HB := n2_; clear n0_ n1_ n2_)); have hnb30 := NB101_102.out; have hnc30 := NB102_101.out; obtain ⟨hcz31_0, hcz31_1, hcz31_2, hcz31_3, hcz31_4, hcz31_5, hcz31_6, hcz31_7, hcz31_8⟩ := cz9 BK101.out; obtain ⟨hfz31_0, hfz31_1, hfz31_2, hfz31_3, hfz31_4, hfz31_5, hfz31_6, hfz31_7, hfz31_8⟩ := fz9 BK101.out) | ((with_reducible refine gate_dst (N := 12) rfl ?_); refine box_event ?hg (N := 12) ?hd (cs := #[.int .i64 0, .string (⟨#[]⟩ : ByteArray), .int .i64 0, .int .i64 0, .int .i64 0, .string (⟨#[]⟩ : ByteArray), .string (⟨#[]⟩ : ByteArray), .int .i64 0, .slice none 0 0]) (t := 33) ?hr ?_; (case hd => rfl); (case hg => rfl); (case hr => first | (go_simp; done) | (go_simp; rfl)); intro gb108 hg w32 hbox hb; have BK108 := Aside0.mk (hbox); have GW108 := Aside0.mk ((by rw [hg]; exact (below_size pbb2_13) : w.heap.size ≤ gb108)); have GE108 := Aside0.mk ((by rw [hg]; exact (below_size pbb2_13) : w.heap.size ≤ gb108)); replace HB := Aside0.mk (below_step pbb2_13 hb); have NB101_108 := Aside0.mk ((pbb4_0 : gb101 ≠ gb108)); have NB108_101 := Aside0.mk ((pbb4_1 : gb108 ≠ gb101)); replace BK101 := Aside0.mk (blk_below (g := gb101) (o := .cells #[.int .i64 a0_0, .string a0_1, .int .i64 a0_2, .int .i64 a0_3, .int .i64 a0_4, .string a0_5, .string a0_6, .int .i64 a0_7, .slice A0_8 l0_8.length c0_8] 33 (0, 0)) pbb2_12 hb); have NB102_108 := Aside0.mk ((by rw [hg]; exact Nat.ne_of_lt (blk_lt (g := gb102) (o := .cells #[.int .i64 0, .string (⟨#[]⟩ : ByteArray), .int .i64 0, .int .i64 0, .int .i64 0, .string (⟨#[]⟩ : ByteArray), .string (⟨#[]⟩ : ByteArray), .int .i64 0, .slice none 0 0] 33 (0, 0)) pbb2_14) : gb102 ≠ gb108)); have NB108_102 := Aside0.mk ((by rw [hg]; exact Nat.ne_of_gt (blk_lt (g := gb102) (o := .cells #[.int .i64 0, .string (⟨#[]⟩ : ByteArray), .int .i64 0, .int .i64 0, .int .i64 0, .string (⟨#[]⟩ : ByteArray), .string (⟨#[]⟩ : ByteArray), .int .i64 0, .slice none 0 0] 33 (0, 0)) pbb2_14) : gb108 ≠ gb102)); replace BK102 := Aside0.mk (blk_below (g := gb102) (o := .cells #[.int .i64 0, .string (⟨#[]⟩ : ByteArray), .int .i64 0, .int .i64 0, .int .i64 0, .string (⟨#[]⟩ : ByteArray), .string (⟨#[]⟩ : ByteArray), .int .i64 0, .slice none 0 0] 33 (0, 0)) pbb2_14 hb); clear hb hbox hg; have hnb33 := NB108_101.out; have hnc33 := NB101_108.out; have hnb34 := NB108_102.out; have hnc34 := NB102_108.out; obtain ⟨hcz35_0, hcz35_1, hcz35_2, hcz35_3, hcz35_4, hcz35_5, hcz35_6, hcz35_7, hcz35_8⟩ := cz9 BK108.out; obtain ⟨hfz35_0, hfz35_1, hfz35_2, hfz35_3, hfz35_4, hfz35_5, hfz35_6, hfz35_7, hfz35_8⟩ := fz9 BK108.out))
       (try simp only [Act.put, List.setIfInBounds_toArray, List.set_cons_zero, List.set_cons_succ])
       go_loopg [13] kj14 (fun kq v13 w' => ∃ (x13_2 : Int) (x109008_2 : List (S24)) (u109008 : Value), v13 = .int .i64 x13_2 ∧ Aside0 (F29.l0 kq x13_2 a0_0 a0_1 a0_2 a0_3 a0_4 a0_5 a0_6 a0_7 l0_8 0 a0_1 a1 a2 5 a0_5 a3 a0_0 x109008_2 = some (r1, r2, r3, r4, r5, r6, r7, r8, r9, r10)) ∧ Aside0 (kq ≤ kj14) ∧ Aside0 (Kd.S k24 24 w' w.heap.size (fun _ => True) u109008 x109008_2) ∧ Aside0 (w'.heap[gb101]? = some (.cells #[.int .i64 a0_0, .string a0_1, .int .i64 a0_2, .int .i64 a0_3, .int .i64 a0_4, .string a0_5, .string a0_6, .int .i64 a0_7, (.slice A0_8 l0_8.length c0_8)] 33 (0, 0))) ∧ Aside0 (w'.heap[gb102]? = some (.cells #[.int .i64 0, .string (⟨#[]⟩ : ByteArray), .int .i64 0, .int .i64 0, .int .i64 0, .string (⟨#[]⟩ : ByteArray), .string (⟨#[]⟩ : ByteArray), .int .i64 0, (.slice none 0 0)] 33 (0, 0))) ∧ Aside0 (w'.heap[gb108]? = some (.cells #[.int .i64 0, .string a0_1, .int .i64 a1, .int .i64 a2, .int .i64 5, .string a0_5, .string a3, .int .i64 a0_0, u109008] 33 (0, 0))) ∧ Aside0 (Below w.heap.size w w'))
       case atStart => exact ⟨(0), (([] : List (S24))), (.slice none 0 0), pbb2_3, H', ⟨Nat.le_refl _⟩, ⟨pbb7_2⟩, ⟨by (with_reducible repeat (first | refine blk_drewN ?_ _ | refine blk_drew ?_ | refine blk_alloc ?_ _ | refine blk_far ?_ NB101_108.out _)); exact BK101.out⟩, ⟨by (with_reducible repeat (first | refine blk_drewN ?_ _ | refine blk_drew ?_ | refine blk_alloc ?_ _ | refine blk_far ?_ NB102_108.out _)); exact BK102.out⟩, ⟨by (with_reducible repeat (first | refine blk_drewN ?_ _ | refine blk_drew ?_ | refine blk_alloc ?_ _)); refine blk_put (cs := #[.int .i64 0, .string a0_1, .int .i64 a1, .int .i64 a2, .int .i64 5, .string a0_5, .string a3, .int .i64 a0_0, .slice none 0 0]) ?_ 8 _ rfl; (with_reducible repeat (first | refine blk_drewN ?_ _ | refine blk_drew ?_ | refine blk_alloc ?_ _)); refine blk_put (cs := #[.int .i64 0, .string a0_1, .int .i64 a1, .int .i64 a2, .int .i64 5, .string a0_5, .string a3, .int .i64 0, .slice none 0 0]) ?_ 7 _ rfl; (with_reducible repeat (first | refine blk_drewN ?_ _ | refine blk_drew ?_ | refine blk_alloc ?_ _)); refine blk_put (cs := #[.int .i64 0, .string a0_1, .int .i64 a1, .int .i64 a2, .int .i64 5, .string a0_5, .string (⟨#[]⟩ : ByteArray), .int .i64 0, .slice none 0 0]) ?_ 6 _ rfl; (with_reducible repeat (first | refine blk_drewN ?_ _ | refine blk_drew ?_ | refine blk_alloc ?_ _)); refine blk_put (cs := #[.int .i64 0, .string a0_1, .int .i64 a1, .int .i64 a2, .int .i64 5, .string (⟨#[]⟩ : ByteArray), .string (⟨#[]⟩ : ByteArray), .int .i64 0, .slice none 0 0]) ?_ 5 _ rfl; (with_reducible repeat (first | refine blk_drewN ?_ _ | refine blk_drew ?_ | refine blk_alloc ?_ _)); refine blk_put (cs := #[.int .i64 0, .string a0_1, .int .i64 a1, .int .i64 a2, .int .i64 0, .string (⟨#[]⟩ : ByteArray), .string (⟨#[]⟩ : ByteArray), .int .i64 0, .slice none 0 0]) ?_ 4 _ rfl; (with_reducible repeat (first | refine blk_drewN ?_ _ | refine blk_drew ?_ | refine blk_alloc ?_ _)); refine blk_put (cs := #[.int .i64 0, .string a0_1, .int .i64 a1, .int .i64 0, .int .i64 0, .string (⟨#[]⟩ : ByteArray), .string (⟨#[]⟩ : ByteArray), .int .i64 0, .slice none 0 0]) ?_ 3 _ rfl; (with_reducible repeat (first | refine blk_drewN ?_ _ | refine blk_drew ?_ | refine blk_alloc ?_ _)); refine blk_put (cs := #[.int .i64 0, .string a0_1, .int .i64 0, .int .i64 0, .int .i64 0, .string (⟨#[]⟩ : ByteArray), .string (⟨#[]⟩ : ByteArray), .int .i64 0, .slice none 0 0]) ?_ 2 _ rfl; (with_reducible repeat (first | refine blk_drewN ?_ _ | refine blk_drew ?_ | refine blk_alloc ?_ _)); refine blk_put (cs := #[.int .i64 0, .string (⟨#[]⟩ : ByteArray), .int .i64 0, .int .i64 0, .int .i64 0, .string (⟨#[]⟩ : ByteArray), .string (⟨#[]⟩ : ByteArray), .int .i64 0, .slice none 0 0]) ?_ 1 _ rfl; (with_reducible repeat (first | refine blk_drewN ?_ _ | refine blk_drew ?_ | refine blk_alloc ?_ _)); refine blk_put (cs := #[.int .i64 0, .string (⟨#[]⟩ : ByteArray), .int .i64 0, .int .i64 0, .int .i64 0, .string (⟨#[]⟩ : ByteArray), .string (⟨#[]⟩ : ByteArray), .int .i64 0, .slice none 0 0]) ?_ 0 _ rfl; (with_reducible repeat (first | refine blk_drewN ?_ _ | refine blk_drew ?_ | refine blk_alloc ?_ _)); exact BK108.out⟩, ⟨pre2_0⟩⟩
       case round =>
        clear H'; obtain ⟨x13_2, x109008_2, u109008, rfl, HA, HK2, HO_109008, BK101, BK102, BK108, HB⟩ := hrel
        cases gk with
        | zero => exact absurd HA.out (by simp [F29.l0])
        | succ k2 =>
         have H := HA.out; clear HA; simp only [F29.l0] at H
         by_cases c36 : x13_2 < (l0_8.length : Int)
         ·rw [if_pos c36] at H; have c36b0 := decide_eq_true c36; clear c36
          by_cases c37 : 0 ≤ x13_2
          ·rw [if_pos c37] at H; have c37b0 := decide_eq_true c37; clear c37; obtain ⟨y111, hy111⟩ : ∃ y_ : List (S101), y_ = (([] : List (S101))) := ⟨_, rfl⟩; replace H : (if y111.length + ((rd_T24 l0_8 x13_2).f6).length < 4398046511104 then (if x109008_2.length < 1353245080339 then (F29.l0 k2 (wrap64 (x13_2 + 1)) a0_0 a0_1 a0_2 a0_3 a0_4 a0_5 a0_6 a0_7 l0_8 0 a0_1 a1 a2 5 a0_5 a3 a0_0 (x109008_2 ++ [(⟨(rd_T24 l0_8 x13_2).f0, (rd_T24 l0_8 x13_2).f1, wrap64 (-((rd_T24 l0_8 x13_2).f2)), wrap64 (-((rd_T24 l0_8 x13_2).f3)), (rd_T24 l0_8 x13_2).f4, (rd_T24 l0_8 x13_2).f5, (y111 ++ ((rd_T24 l0_8 x13_2).f6))⟩ : S24)])) else (none)) else (none)) = some (r1, r2, r3, r4, r5, r6, r7, r8, r9, r10) := by first | (rw [hy111]; with_reducible exact H) | (have H2_ := (Option.bind_some _ _).symm.trans H; rw [hy111]; with_reducible exact H2_) | (have H2_ := (Option.bind_some _ _).symm.trans H; with_reducible exact H2_) | with_reducible exact H | (rw [hy111]; exact H) | exact H
           have Ny111 := Aside0.mk hy111; clear hy111
           by_cases c38 : y111.length + ((rd_T24 l0_8 x13_2).f6).length < 4398046511104
           ·rw [if_pos c38] at H; have LMc38 := Aside0.mk c38; clear c38; obtain ⟨y114, hy114⟩ : ∃ y_ : List (S101), y_ = (y111 ++ ((rd_T24 l0_8 x13_2).f6)) := ⟨_, rfl⟩; replace H : (if x109008_2.length < 1353245080339 then (F29.l0 k2 (wrap64 (x13_2 + 1)) a0_0 a0_1 a0_2 a0_3 a0_4 a0_5 a0_6 a0_7 l0_8 0 a0_1 a1 a2 5 a0_5 a3 a0_0 (x109008_2 ++ [(⟨(rd_T24 l0_8 x13_2).f0, (rd_T24 l0_8 x13_2).f1, wrap64 (-((rd_T24 l0_8 x13_2).f2)), wrap64 (-((rd_T24 l0_8 x13_2).f3)), (rd_T24 l0_8 x13_2).f4, (rd_T24 l0_8 x13_2).f5, y114⟩ : S24)])) else (none)) = some (r1, r2, r3, r4, r5, r6, r7, r8, r9, r10) := by first | (rw [hy114]; with_reducible exact H) | (have H2_ := (Option.bind_some _ _).symm.trans H; rw [hy114]; with_reducible exact H2_) | (have H2_ := (Option.bind_some _ _).symm.trans H; with_reducible exact H2_) | with_reducible exact H | (rw [hy114]; exact H) | exact H
            have Ny114 := Aside0.mk hy114; clear hy114
            by_cases c39 : x109008_2.length < 1353245080339
            ·rw [if_pos c39] at H; have LMc39 := Aside0.mk c39; clear c39; obtain ⟨y117, hy117⟩ : ∃ y_ : List (S24), y_ = (x109008_2 ++ [(⟨(rd_T24 l0_8 x13_2).f0, (rd_T24 l0_8 x13_2).f1, wrap64 (-((rd_T24 l0_8 x13_2).f2)), wrap64 (-((rd_T24 l0_8 x13_2).f3)), (rd_T24 l0_8 x13_2).f4, (rd_T24 l0_8 x13_2).f5, y114⟩ : S24)]) := ⟨_, rfl⟩; replace H : (F29.l0 k2 (wrap64 (x13_2 + 1)) a0_0 a0_1 a0_2 a0_3 a0_4 a0_5 a0_6 a0_7 l0_8 0 a0_1 a1 a2 5 a0_5 a3 a0_0 y117) = some (r1, r2, r3, r4, r5, r6, r7, r8, r9, r10) := by first | (rw [hy117]; with_reducible exact H) | (have H2_ := (Option.bind_some _ _).symm.trans H; rw [hy117]; with_reducible exact H2_) | (have H2_ := (Option.bind_some _ _).symm.trans H; with_reducible exact H2_) | with_reducible exact H | (rw [hy117]; exact H) | exact H
             have Ny117 := Aside0.mk hy117; clear hy117; have H' := Aside0.mk H; clear H; have hnb40 := NB101_102.out; have hnc40 := NB102_101.out; have hnb41 := NB101_108.out; have hnc41 := NB108_101.out; obtain ⟨hcz42_0, hcz42_1, hcz42_2, hcz42_3, hcz42_4, hcz42_5, hcz42_6, hcz42_7, hcz42_8⟩ := cz9 BK101.out; obtain ⟨hfz42_0, hfz42_1, hfz42_2, hfz42_3, hfz42_4, hfz42_5, hfz42_6, hfz42_7, hfz42_8⟩ := fz9 BK101.out; have p109 : 0 ≤ (x13_2 : Int) := of_decide_eq_true pbb2_6; have q109 : x13_2 < (l0_8.length : Int) := of_decide_eq_true pbb2_6; obtain ⟨ad109, A109_6, c109_6, e109, hx109_0, hx109_1, hx109_2, hx109_3, hx109_4, hx109_5, hx109_6, hl109_6, hi109_6⟩ := at_T24 HR0_8.out x13_2 p109 q109
             cases e109
             replace hx109_0 := (HB.out.cell (World.block_lt_of_cell? w _ hx109_0)).trans hx109_0; replace hx109_1 := (HB.out.cell (World.block_lt_of_cell? w _ hx109_1)).trans hx109_1; replace hx109_2 := (HB.out.cell (World.block_lt_of_cell? w _ hx109_2)).trans hx109_2; replace hx109_3 := (HB.out.cell (World.block_lt_of_cell? w _ hx109_3)).trans hx109_3; replace hx109_4 := (HB.out.cell (World.block_lt_of_cell? w _ hx109_4)).trans hx109_4; replace hx109_5 := (HB.out.cell (World.block_lt_of_cell? w _ hx109_5)).trans hx109_5; replace hx109_6 := (HB.out.cell (World.block_lt_of_cell? w _ hx109_6)).trans hx109_6; have HR109_6 := Aside0.mk hi109_6; have HC109_6 := Aside0.mk hl109_6; clear hi109_6 hl109_6; replace p109 := eq_true p109; replace q109 := eq_true q109
             go_wp2_with (first | ((with_reducible refine gate_dst (N := 14) rfl ?_); refine box_event ?hg (N := 14) ?hd (cs := #[.string (⟨#[]⟩ : ByteArray), .string (⟨#[]⟩ : ByteArray), .int .i64 0, .int .i64 0, .string (⟨#[]⟩ : ByteArray), .string (⟨#[]⟩ : ByteArray), .slice none 0 0]) (t := 24) ?hr ?_; (case hd => rfl); (case hg => rfl); (case hr => first | (go_simp; done) | (go_simp; rfl)); intro gb110 hg w43 hbox hb; replace HO_109008 := Aside0.mk (Kd.S_below (Kd.S_elderB (by (with_reducible repeat (first | apply Kd.S_alloc | apply Kd.S_drewN | apply Kd.S_drew)); exact HO_109008.out) gb110 (Nat.le_of_eq hg.symm)) hb); have BK110 := Aside0.mk (hbox); have GW110 := Aside0.mk ((by rw [hg]; exact (below_size pre2_0) : w.heap.size ≤ gb110)); have GE110 := Aside0.mk ((by rw [hg]; exact (below_size pre2_0) : w.heap.size ≤ gb110)); replace HB := Aside0.mk (below_step pre2_0 hb); have NB101_110 := Aside0.mk ((by rw [hg]; exact Nat.ne_of_lt (blk_lt (g := gb101) (o := .cells #[.int .i64 a0_0, .string a0_1, .int .i64 a0_2, .int .i64 a0_3, .int .i64 a0_4, .string a0_5, .string a0_6, .int .i64 a0_7, .slice (some ad109) l0_8.length c0_8] 33 (0, 0)) pbb2_12) : gb101 ≠ gb110)); have NB110_101 := Aside0.mk ((by rw [hg]; exact Nat.ne_of_gt (blk_lt (g := gb101) (o := .cells #[.int .i64 a0_0, .string a0_1, .int .i64 a0_2, .int .i64 a0_3, .int .i64 a0_4, .string a0_5, .string a0_6, .int .i64 a0_7, .slice (some ad109) l0_8.length c0_8] 33 (0, 0)) pbb2_12) : gb110 ≠ gb101)); replace BK101 := Aside0.mk (blk_below (g := gb101) (o := .cells #[.int .i64 a0_0, .string a0_1, .int .i64 a0_2, .int .i64 a0_3, .int .i64 a0_4, .string a0_5, .string a0_6, .int .i64 a0_7, .slice (some ad109) l0_8.length c0_8] 33 (0, 0)) pbb2_12 hb); have NB102_110 := Aside0.mk ((by rw [hg]; exact Nat.ne_of_lt (blk_lt (g := gb102) (o := .cells #[.int .i64 0, .string (⟨#[]⟩ : ByteArray), .int .i64 0, .int .i64 0, .int .i64 0, .string (⟨#[]⟩ : ByteArray), .string (⟨#[]⟩ : ByteArray), .int .i64 0, .slice none 0 0] 33 (0, 0)) pbb2_14) : gb102 ≠ gb110)); have NB110_102 := Aside0.mk ((by rw [hg]; exact Nat.ne_of_gt (blk_lt (g := gb102) (o := .cells #[.int .i64 0, .string (⟨#[]⟩ : ByteArray), .int .i64 0, .int .i64 0, .int .i64 0, .string (⟨#[]⟩ : ByteArray), .string (⟨#[]⟩ : ByteArray), .int .i64 0, .slice none 0 0] 33 (0, 0)) pbb2_14) : gb110 ≠ gb102)); replace BK102 := Aside0.mk (blk_below (g := gb102) (o := .cells #[.int .i64 0, .string (⟨#[]⟩ : ByteArray), .int .i64 0, .int .i64 0, .int .i64 0, .string (⟨#[]⟩ : ByteArray), .string (⟨#[]⟩ : ByteArray), .int .i64 0, .slice none 0 0] 33 (0, 0)) pbb2_14 hb); have NB108_110 := Aside0.mk ((by rw [hg]; exact Nat.ne_of_lt (blk_lt (g := gb108) (o := .cells #[.int .i64 0, .string a0_1, .int .i64 a1, .int .i64 a2, .int .i64 5, .string a0_5, .string a3, .int .i64 a0_0, u109008] 33 (0, 0)) pre2_1) : gb108 ≠ gb110)); have NB110_108 := Aside0.mk ((by rw [hg]; exact Nat.ne_of_gt (blk_lt (g := gb108) (o := .cells #[.int .i64 0, .string a0_1, .int .i64 a1, .int .i64 a2, .int .i64 5, .string a0_5, .string a3, .int .i64 a0_0, u109008] 33 (0, 0)) pre2_1) : gb110 ≠ gb108)); replace BK108 := Aside0.mk (blk_below (g := gb108) (o := .cells #[.int .i64 0, .string a0_1, .int .i64 a1, .int .i64 a2, .int .i64 5, .string a0_5, .string a3, .int .i64 a0_0, u109008] 33 (0, 0)) pre2_1 hb); clear hb hbox hg; have hnb44 := NB110_101.out; have hnc44 := NB101_110.out; have hnb45 := NB110_102.out; have hnc45 := NB102_110.out; have hnb46 := NB110_108.out; have hnc46 := NB108_110.out; obtain ⟨hcz47_0, hcz47_1, hcz47_2, hcz47_3, hcz47_4, hcz47_5, hcz47_6⟩ := cz7 BK110.out; obtain ⟨hfz47_0, hfz47_1, hfz47_2, hfz47_3, hfz47_4, hfz47_5, hfz47_6⟩ := fz7 BK110.out) | ((with_reducible refine gate_dst (N := 71) rfl ?_); refine Kd.R_lit k101 _ 101 ?hg (N := 71) ?hd (xs := ([] : List (S101))) (inner := []) (ok := fun _ => True) (okp := fun _ => True) ?hr ?hp (fun _ hk => hk) trivial (Below.refl _ _) (Nat.le_refl _) (by simp) ?_; (case hd => rfl); (case hg => rfl); (case hr => first | (go_simp; done) | (go_simp; rfl)); (case hp => exact (Reps.none _ _)); intro v112 w48 ho49 hb hg_ hnew_; clear hg_ hnew_; (first | rw [← Ny111.out] at ho49 | (simp only [Int.reduceToNat] at ho49; rw [← Ny111.out] at ho49)); replace HO_109008 := Aside0.mk (Kd.S_elder' (by (with_reducible repeat (first | apply Kd.S_alloc | apply Kd.S_drewN | apply Kd.S_drew)); exact (Kd.S_mono (Kd.S_far (p := ⟨gb110, 3, none⟩) (Kd.S_far (p := ⟨gb110, 2, none⟩) (Kd.S_far (p := ⟨gb110, 6, none⟩) (Kd.S_far (p := ⟨gb110, 5, none⟩) (Kd.S_far (p := ⟨gb110, 4, none⟩) (Kd.S_far (p := ⟨gb110, 3, none⟩) (Kd.S_far (p := ⟨gb110, 2, none⟩) (Kd.S_far (p := ⟨gb110, 1, none⟩) (Kd.S_far (p := ⟨gb110, 0, none⟩) (Kd.S_mono HO_109008.out (fun k_ hk => (⟨hk, hk.2⟩ : _ ∧ k_ ≠ gb110))) (fun _ hk => hk.2) (.string ((rd_T24 l0_8 x13_2).f0))) (fun _ hk => hk.2) (.string ((rd_T24 l0_8 x13_2).f1))) (fun _ hk => hk.2) (.int .i64 ((rd_T24 l0_8 x13_2).f2))) (fun _ hk => hk.2) (.int .i64 ((rd_T24 l0_8 x13_2).f3))) (fun _ hk => hk.2) (.string ((rd_T24 l0_8 x13_2).f4))) (fun _ hk => hk.2) (.string ((rd_T24 l0_8 x13_2).f5))) (fun _ hk => hk.2) (.slice A109_6 ((rd_T24 l0_8 x13_2).f6).length c109_6)) (fun _ hk => hk.2) (.int .i64 (wrap64 (-((rd_T24 l0_8 x13_2).f2))))) (fun _ hk => hk.2) (.int .i64 (wrap64 (-((rd_T24 l0_8 x13_2).f3))))) (fun _ h_ => h_.1))) (Kd.R_base ho49) hb); have HO113 := Aside0.mk (Kd.R_lower ho49 (below_size pre2_2)); replace BK101 := Aside0.mk (blk_below (g := gb101) (o := .cells #[.int .i64 a0_0, .string a0_1, .int .i64 a0_2, .int .i64 a0_3, .int .i64 a0_4, .string a0_5, .string a0_6, .int .i64 a0_7, .slice (some ad109) l0_8.length c0_8] 33 (0, 0)) (by (with_reducible repeat (first | refine blk_drewN ?_ _ | refine blk_drew ?_ | refine blk_alloc ?_ _ | refine blk_far ?_ NB101_110.out _)); exact BK101.out) hb); replace BK102 := Aside0.mk (blk_below (g := gb102) (o := .cells #[.int .i64 0, .string (⟨#[]⟩ : ByteArray), .int .i64 0, .int .i64 0, .int .i64 0, .string (⟨#[]⟩ : ByteArray), .string (⟨#[]⟩ : ByteArray), .int .i64 0, .slice none 0 0] 33 (0, 0)) (by (with_reducible repeat (first | refine blk_drewN ?_ _ | refine blk_drew ?_ | refine blk_alloc ?_ _ | refine blk_far ?_ NB102_110.out _)); exact BK102.out) hb); replace BK108 := Aside0.mk (blk_below (g := gb108) (o := .cells #[.int .i64 0, .string a0_1, .int .i64 a1, .int .i64 a2, .int .i64 5, .string a0_5, .string a3, .int .i64 a0_0, u109008] 33 (0, 0)) (by (with_reducible repeat (first | refine blk_drewN ?_ _ | refine blk_drew ?_ | refine blk_alloc ?_ _ | refine blk_far ?_ NB108_110.out _)); exact BK108.out) hb); replace BK110 := Aside0.mk (blk_below (g := gb110) (o := .cells #[.string ((rd_T24 l0_8 x13_2).f0), .string ((rd_T24 l0_8 x13_2).f1), .int .i64 (wrap64 (-((rd_T24 l0_8 x13_2).f2))), .int .i64 (wrap64 (-((rd_T24 l0_8 x13_2).f3))), .string ((rd_T24 l0_8 x13_2).f4), .string ((rd_T24 l0_8 x13_2).f5), .slice A109_6 ((rd_T24 l0_8 x13_2).f6).length c109_6] 24 (0, 0)) (by (with_reducible repeat (first | refine blk_drewN ?_ _ | refine blk_drew ?_ | refine blk_alloc ?_ _)); refine blk_put (cs := #[.string ((rd_T24 l0_8 x13_2).f0), .string ((rd_T24 l0_8 x13_2).f1), .int .i64 (wrap64 (-((rd_T24 l0_8 x13_2).f2))), .int .i64 ((rd_T24 l0_8 x13_2).f3), .string ((rd_T24 l0_8 x13_2).f4), .string ((rd_T24 l0_8 x13_2).f5), .slice A109_6 ((rd_T24 l0_8 x13_2).f6).length c109_6]) ?_ 3 _ rfl; (with_reducible repeat (first | refine blk_drewN ?_ _ | refine blk_drew ?_ | refine blk_alloc ?_ _)); refine blk_put (cs := #[.string ((rd_T24 l0_8 x13_2).f0), .string ((rd_T24 l0_8 x13_2).f1), .int .i64 ((rd_T24 l0_8 x13_2).f2), .int .i64 ((rd_T24 l0_8 x13_2).f3), .string ((rd_T24 l0_8 x13_2).f4), .string ((rd_T24 l0_8 x13_2).f5), .slice A109_6 ((rd_T24 l0_8 x13_2).f6).length c109_6]) ?_ 2 _ rfl; (with_reducible repeat (first | refine blk_drewN ?_ _ | refine blk_drew ?_ | refine blk_alloc ?_ _)); refine blk_put (cs := #[.string ((rd_T24 l0_8 x13_2).f0), .string ((rd_T24 l0_8 x13_2).f1), .int .i64 ((rd_T24 l0_8 x13_2).f2), .int .i64 ((rd_T24 l0_8 x13_2).f3), .string ((rd_T24 l0_8 x13_2).f4), .string ((rd_T24 l0_8 x13_2).f5), .slice none 0 0]) ?_ 6 _ rfl; (with_reducible repeat (first | refine blk_drewN ?_ _ | refine blk_drew ?_ | refine blk_alloc ?_ _)); refine blk_put (cs := #[.string ((rd_T24 l0_8 x13_2).f0), .string ((rd_T24 l0_8 x13_2).f1), .int .i64 ((rd_T24 l0_8 x13_2).f2), .int .i64 ((rd_T24 l0_8 x13_2).f3), .string ((rd_T24 l0_8 x13_2).f4), .string (⟨#[]⟩ : ByteArray), .slice none 0 0]) ?_ 5 _ rfl; (with_reducible repeat (first | refine blk_drewN ?_ _ | refine blk_drew ?_ | refine blk_alloc ?_ _)); refine blk_put (cs := #[.string ((rd_T24 l0_8 x13_2).f0), .string ((rd_T24 l0_8 x13_2).f1), .int .i64 ((rd_T24 l0_8 x13_2).f2), .int .i64 ((rd_T24 l0_8 x13_2).f3), .string (⟨#[]⟩ : ByteArray), .string (⟨#[]⟩ : ByteArray), .slice none 0 0]) ?_ 4 _ rfl; (with_reducible repeat (first | refine blk_drewN ?_ _ | refine blk_drew ?_ | refine blk_alloc ?_ _)); refine blk_put (cs := #[.string ((rd_T24 l0_8 x13_2).f0), .string ((rd_T24 l0_8 x13_2).f1), .int .i64 ((rd_T24 l0_8 x13_2).f2), .int .i64 0, .string (⟨#[]⟩ : ByteArray), .string (⟨#[]⟩ : ByteArray), .slice none 0 0]) ?_ 3 _ rfl; (with_reducible repeat (first | refine blk_drewN ?_ _ | refine blk_drew ?_ | refine blk_alloc ?_ _)); refine blk_put (cs := #[.string ((rd_T24 l0_8 x13_2).f0), .string ((rd_T24 l0_8 x13_2).f1), .int .i64 0, .int .i64 0, .string (⟨#[]⟩ : ByteArray), .string (⟨#[]⟩ : ByteArray), .slice none 0 0]) ?_ 2 _ rfl; (with_reducible repeat (first | refine blk_drewN ?_ _ | refine blk_drew ?_ | refine blk_alloc ?_ _)); refine blk_put (cs := #[.string ((rd_T24 l0_8 x13_2).f0), .string (⟨#[]⟩ : ByteArray), .int .i64 0, .int .i64 0, .string (⟨#[]⟩ : ByteArray), .string (⟨#[]⟩ : ByteArray), .slice none 0 0]) ?_ 1 _ rfl; (with_reducible repeat (first | refine blk_drewN ?_ _ | refine blk_drew ?_ | refine blk_alloc ?_ _)); refine blk_put (cs := #[.string (⟨#[]⟩ : ByteArray), .string (⟨#[]⟩ : ByteArray), .int .i64 0, .int .i64 0, .string (⟨#[]⟩ : ByteArray), .string (⟨#[]⟩ : ByteArray), .slice none 0 0]) ?_ 0 _ rfl; (with_reducible repeat (first | refine blk_drewN ?_ _ | refine blk_drew ?_ | refine blk_alloc ?_ _)); exact BK110.out) hb); replace HB := Aside0.mk (below_step pre2_2 hb); clear hb ho49; obtain ⟨hcz50_0, hcz50_1, hcz50_2, hcz50_3, hcz50_4, hcz50_5, hcz50_6⟩ := cz7 BK110.out; obtain ⟨hfz50_0, hfz50_1, hfz50_2, hfz50_3, hfz50_4, hfz50_5, hfz50_6⟩ := fz7 BK110.out) | ((with_reducible refine gate_builtin (b := .append) (xs := #[.tmp 71, .tmp 73]) rfl ?_); at_builtin; refine Kd.R_append_rows k101 (w0 := w) w.heap.size rfl (.tmp 71) (.tmp 73) 22 101 (.agg #[(.string ⟨#[]⟩), (.string ⟨#[]⟩)]) 32 rfl Tryd.underlying22 info101 rfl (by decide) (by omega) v112 y111 ((rd_T24 l0_8 x13_2).f6) _ _ _ (fun _ => True) (fun _ => False) rfl rfl ?aO ?aR (fun _ _ h => h) (fun _ h => h.elim) ?aF ?aB ?aS ?aL ?_; (case aR => repeat (first | exact (Kd.C_below HR109_6.out HB.out) | (with_reducible refine Kd.C_alloc ?_ _) | (with_reducible refine Kd.C_drewN ?_ _) | (with_reducible refine Kd.C_drew ?_))); (case aB => exact pre2_2); (case aF => exact (fun _ _ => trivial)); (case aO => exact (by (with_reducible repeat (first | apply Kd.R_alloc | apply Kd.R_drewN | apply Kd.R_drew)); exact HO113.out)); (case aS => exact (below_size pre2_2)); (case aL => have := LMc38.out; omega); intro v115 w51 ho hb hg hat; rw [← Ny114.out] at ho; replace HO_109008 := Aside0.mk (Kd.S_after (ok := (fun k_ => k_ ≠ gb110)) (by (with_reducible repeat (first | apply Kd.S_alloc | apply Kd.S_drewN | apply Kd.S_drew)); exact Kd.S_mono HO_109008.out (fun _ hk => ⟨hk.1.2, hk.2⟩)) hg hat); replace BK101 := Aside0.mk (blk_grown (g := gb101) (o := .cells #[.int .i64 a0_0, .string a0_1, .int .i64 a0_2, .int .i64 a0_3, .int .i64 a0_4, .string a0_5, .string a0_6, .int .i64 a0_7, .slice (some ad109) l0_8.length c0_8] 33 (0, 0)) pbb2_12 hg (Kd.R_ne HO113.out BK101.out (by decide))); replace BK102 := Aside0.mk (blk_grown (g := gb102) (o := .cells #[.int .i64 0, .string (⟨#[]⟩ : ByteArray), .int .i64 0, .int .i64 0, .int .i64 0, .string (⟨#[]⟩ : ByteArray), .string (⟨#[]⟩ : ByteArray), .int .i64 0, .slice none 0 0] 33 (0, 0)) pbb2_14 hg (Kd.R_ne HO113.out BK102.out (by decide))); replace BK108 := Aside0.mk (blk_grown (g := gb108) (o := .cells #[.int .i64 0, .string a0_1, .int .i64 a1, .int .i64 a2, .int .i64 5, .string a0_5, .string a3, .int .i64 a0_0, u109008] 33 (0, 0)) pre2_1 hg (Kd.R_ne HO113.out BK108.out (by decide))); replace BK110 := Aside0.mk (blk_grown (g := gb110) (o := .cells #[.string ((rd_T24 l0_8 x13_2).f0), .string ((rd_T24 l0_8 x13_2).f1), .int .i64 (wrap64 (-((rd_T24 l0_8 x13_2).f2))), .int .i64 (wrap64 (-((rd_T24 l0_8 x13_2).f3))), .string ((rd_T24 l0_8 x13_2).f4), .string ((rd_T24 l0_8 x13_2).f5), .slice A109_6 ((rd_T24 l0_8 x13_2).f6).length c109_6] 24 (0, 0)) pre2_3 hg (Kd.R_ne HO113.out BK110.out (by decide))); replace HB := Aside0.mk (hb); have HO116 := Aside0.mk (ho); clear HO113; clear ho hb hg hat; obtain ⟨Ao52, co52, eo52⟩ := Kd.R_slice HO116.out; subst eo52; obtain ⟨hcz53_0, hcz53_1, hcz53_2, hcz53_3, hcz53_4, hcz53_5, hcz53_6⟩ := cz7 BK110.out; obtain ⟨hfz53_0, hfz53_1, hfz53_2, hfz53_3, hfz53_4, hfz53_5, hfz53_6⟩ := fz7 BK110.out) | ((with_reducible refine gate_store (t := 22) (p := 75) rfl ?_); refine store_event (t := 22) (p := 75) (v := ?vo_w54) (w1 := (w51.setCell ⟨gb110, 6, none⟩ (.slice Ao52 y114.length co52))) ?hg ?ho ?hn ?hr ?_; (case ho => rfl); (case hg => rfl); (case hn => rfl); (case hr => first | (go_simp; done) | (go_simp; rfl)); intro w54 hw; have n0_ : Aside0 (Kd.S k24 24 w54 w.heap.size (fun k_ => some k_ ≠ (.slice Ao52 y114.length co52 : Value).ownBlock ∧ k_ ≠ gb110) u109008 x109008_2) := ⟨(by rw [hw]; exact (by (with_reducible repeat (first | apply Kd.S_alloc | apply Kd.S_drewN | apply Kd.S_drew)); exact Kd.S_mono (Kd.S_far (p := ⟨gb110, 6, none⟩) (Kd.S_mono HO_109008.out (fun k_ hk => (⟨hk, hk.1⟩ : _ ∧ k_ ≠ gb110))) (fun _ hk => hk.2) (.slice Ao52 y114.length co52)) (fun _ hk => ⟨hk.1.2, hk.1.1⟩)))⟩; have n1_ : Aside0 (Kd.R k101 101 w54 w.heap.size (fun _ => True) (.slice Ao52 y114.length co52) y114) := ⟨(by rw [hw]; exact (by (with_reducible repeat (first | apply Kd.R_alloc | apply Kd.R_drewN | apply Kd.R_drew)); exact Kd.R_mono (Kd.R_far (p := ⟨gb110, 6, none⟩) (Kd.R_types HO116.out BK110.out (by decide)) (fun _ hk => hk.2) (.slice Ao52 y114.length co52)) (fun _ hk => trivial)))⟩; have n2_ : Aside0 (w54.heap[gb101]? = some (.cells #[.int .i64 a0_0, .string a0_1, .int .i64 a0_2, .int .i64 a0_3, .int .i64 a0_4, .string a0_5, .string a0_6, .int .i64 a0_7, .slice (some ad109) l0_8.length c0_8] 33 (0, 0))) := ⟨(by rw [hw]; exact (by (with_reducible repeat (first | refine blk_drewN ?_ _ | refine blk_drew ?_ | refine blk_alloc ?_ _)); refine blk_far ?_ NB101_110.out _; (with_reducible repeat (first | refine blk_drewN ?_ _ | refine blk_drew ?_ | refine blk_alloc ?_ _)); exact BK101.out))⟩; have n3_ : Aside0 (w54.heap[gb102]? = some (.cells #[.int .i64 0, .string (⟨#[]⟩ : ByteArray), .int .i64 0, .int .i64 0, .int .i64 0, .string (⟨#[]⟩ : ByteArray), .string (⟨#[]⟩ : ByteArray), .int .i64 0, .slice none 0 0] 33 (0, 0))) := ⟨(by rw [hw]; exact (by (with_reducible repeat (first | refine blk_drewN ?_ _ | refine blk_drew ?_ | refine blk_alloc ?_ _)); refine blk_far ?_ NB102_110.out _; (with_reducible repeat (first | refine blk_drewN ?_ _ | refine blk_drew ?_ | refine blk_alloc ?_ _)); exact BK102.out))⟩; have n4_ : Aside0 (w54.heap[gb108]? = some (.cells #[.int .i64 0, .string a0_1, .int .i64 a1, .int .i64 a2, .int .i64 5, .string a0_5, .string a3, .int .i64 a0_0, u109008] 33 (0, 0))) := ⟨(by rw [hw]; exact (by (with_reducible repeat (first | refine blk_drewN ?_ _ | refine blk_drew ?_ | refine blk_alloc ?_ _)); refine blk_far ?_ NB108_110.out _; (with_reducible repeat (first | refine blk_drewN ?_ _ | refine blk_drew ?_ | refine blk_alloc ?_ _)); exact BK108.out))⟩; have n5_ : Aside0 (w54.heap[gb110]? = some (.cells #[.string ((rd_T24 l0_8 x13_2).f0), .string ((rd_T24 l0_8 x13_2).f1), .int .i64 (wrap64 (-((rd_T24 l0_8 x13_2).f2))), .int .i64 (wrap64 (-((rd_T24 l0_8 x13_2).f3))), .string ((rd_T24 l0_8 x13_2).f4), .string ((rd_T24 l0_8 x13_2).f5), .slice Ao52 y114.length co52] 24 (0, 0))) := ⟨(by rw [hw]; exact (by (with_reducible repeat (first | refine blk_drewN ?_ _ | refine blk_drew ?_ | refine blk_alloc ?_ _)); refine blk_put (cs := #[.string ((rd_T24 l0_8 x13_2).f0), .string ((rd_T24 l0_8 x13_2).f1), .int .i64 (wrap64 (-((rd_T24 l0_8 x13_2).f2))), .int .i64 (wrap64 (-((rd_T24 l0_8 x13_2).f3))), .string ((rd_T24 l0_8 x13_2).f4), .string ((rd_T24 l0_8 x13_2).f5), .slice A109_6 ((rd_T24 l0_8 x13_2).f6).length c109_6]) ?_ 6 _ rfl; (with_reducible repeat (first | refine blk_drewN ?_ _ | refine blk_drew ?_ | refine blk_alloc ?_ _)); exact BK110.out))⟩; have n6_ : Aside0 (Below w.heap.size w w54) := ⟨(by rw [hw]; exact pre2_2)⟩; clear hw; clear HO_109008; clear HO116; clear BK101; clear BK102; clear BK108; clear BK110; clear HB; have HO_109008 := n0_; have HO116 := n1_; have BK101 := n2_; have BK102 := n3_; have BK108 := n4_; have BK110 := n5_; have HB := n6_; clear n0_ n1_ n2_ n3_ n4_ n5_ n6_; have hnb55 := NB108_102.out; have hnc55 := NB102_108.out; obtain ⟨hcz56_0, hcz56_1, hcz56_2, hcz56_3, hcz56_4, hcz56_5, hcz56_6, hcz56_7, hcz56_8⟩ := cz9 BK108.out; obtain ⟨hfz56_0, hfz56_1, hfz56_2, hfz56_3, hfz56_4, hfz56_5, hfz56_6, hfz56_7, hfz56_8⟩ := fz9 BK108.out; obtain ⟨hcz57_0, hcz57_1, hcz57_2, hcz57_3, hcz57_4, hcz57_5, hcz57_6⟩ := cz7 BK110.out; obtain ⟨hfz57_0, hfz57_1, hfz57_2, hfz57_3, hfz57_4, hfz57_5, hfz57_6⟩ := fz7 BK110.out) | ((with_reducible refine gate_builtin (b := .append) (xs := #[.tmp 77, .tmp 79]) rfl ?_); at_builtin; refine Kd.S_append k24 (w0 := w) w.heap.size rfl (.tmp 77) (.tmp 79) 26 24 (.agg #[(.string ⟨#[]⟩), (.string ⟨#[]⟩), (.int .i64 0), (.int .i64 0), (.string ⟨#[]⟩), (.string ⟨#[]⟩), (.slice none 0 0)]) 104 rfl Tryd.underlying26 info24 rfl (by decide) (by omega) u109008 x109008_2 (⟨(rd_T24 l0_8 x13_2).f0, (rd_T24 l0_8 x13_2).f1, wrap64 (-((rd_T24 l0_8 x13_2).f2)), wrap64 (-((rd_T24 l0_8 x13_2).f3)), (rd_T24 l0_8 x13_2).f4, (rd_T24 l0_8 x13_2).f5, y114⟩ : S24) [.string ((rd_T24 l0_8 x13_2).f0), .string ((rd_T24 l0_8 x13_2).f1), .int .i64 (wrap64 (-((rd_T24 l0_8 x13_2).f2))), .int .i64 (wrap64 (-((rd_T24 l0_8 x13_2).f3))), .string ((rd_T24 l0_8 x13_2).f4), .string ((rd_T24 l0_8 x13_2).f5), .slice Ao52 y114.length co52] (fun k_ => k_ ≠ gb110) (fun k_ => some k_ = (.slice Ao52 y114.length co52 : Value).ownBlock) rfl rfl ?aP (fun k_ hk_ => ((Kd.R_mono (ok' := fun k_ => ((fun k_ => k_ ≠ gb110)) k_ ∧ some k_ ≠ (u109008 : Value).ownBlock) (Kd.R_types (Kd.R_apart' (HO116.out) (Kd.S_typed HO_109008.out) (by decide)) BK110.out (by decide)) (fun k_ hk => ⟨hk.2, hk.1.2⟩))).1 k_ hk_.symm) ?aF ?aO ?aB ?aS ?aL ?_; (case aP => exact k24_mkM _ _ _ (⟨(rd_T24 l0_8 x13_2).f0, (rd_T24 l0_8 x13_2).f1, wrap64 (-((rd_T24 l0_8 x13_2).f2)), wrap64 (-((rd_T24 l0_8 x13_2).f3)), (rd_T24 l0_8 x13_2).f4, (rd_T24 l0_8 x13_2).f5, y114⟩ : S24) (Kd.R_mono (Kd.R_tight rfl (Kd.R_mono (ok' := fun k_ => ((fun k_ => k_ ≠ gb110)) k_ ∧ some k_ ≠ (u109008 : Value).ownBlock) (Kd.R_types (Kd.R_apart' (HO116.out) (Kd.S_typed HO_109008.out) (by decide)) BK110.out (by decide)) (fun k_ hk => ⟨hk.2, hk.1.2⟩))) (fun _ h_ => h_))); (case aB => exact pre2_2); (case aF => exact (fun k_ hk => Kd.freshB (g := gb110) (o := .cells #[.string ((rd_T24 l0_8 x13_2).f0), .string ((rd_T24 l0_8 x13_2).f1), .int .i64 (wrap64 (-((rd_T24 l0_8 x13_2).f2))), .int .i64 (wrap64 (-((rd_T24 l0_8 x13_2).f3))), .string ((rd_T24 l0_8 x13_2).f4), .string ((rd_T24 l0_8 x13_2).f5), .slice Ao52 y114.length co52] 24 (0, 0)) pre2_3 k_ hk)); (case aO => exact (by (with_reducible repeat (first | apply Kd.S_alloc | apply Kd.S_drewN | apply Kd.S_drew)); exact Kd.S_mono HO_109008.out (fun k_ hk => ⟨hk.2, fun e_ => hk.1 e_⟩))); (case aS => exact (below_size pre2_2)); (case aL => have := LMc39.out; omega); intro v118 w58 ho hb hg hat; rw [← Ny117.out] at ho; replace BK101 := Aside0.mk (blk_grown (g := gb101) (o := .cells #[.int .i64 a0_0, .string a0_1, .int .i64 a0_2, .int .i64 a0_3, .int .i64 a0_4, .string a0_5, .string a0_6, .int .i64 a0_7, .slice (some ad109) l0_8.length c0_8] 33 (0, 0)) pbb2_12 hg (Kd.S_ne HO_109008.out BK101.out (by decide))); replace BK102 := Aside0.mk (blk_grown (g := gb102) (o := .cells #[.int .i64 0, .string (⟨#[]⟩ : ByteArray), .int .i64 0, .int .i64 0, .int .i64 0, .string (⟨#[]⟩ : ByteArray), .string (⟨#[]⟩ : ByteArray), .int .i64 0, .slice none 0 0] 33 (0, 0)) pbb2_14 hg (Kd.S_ne HO_109008.out BK102.out (by decide))); replace BK108 := Aside0.mk (blk_grown (g := gb108) (o := .cells #[.int .i64 0, .string a0_1, .int .i64 a1, .int .i64 a2, .int .i64 5, .string a0_5, .string a3, .int .i64 a0_0, u109008] 33 (0, 0)) pre2_1 hg (Kd.S_ne HO_109008.out BK108.out (by decide))); replace BK110 := Aside0.mk (blk_grown (g := gb110) (o := .cells #[.string ((rd_T24 l0_8 x13_2).f0), .string ((rd_T24 l0_8 x13_2).f1), .int .i64 (wrap64 (-((rd_T24 l0_8 x13_2).f2))), .int .i64 (wrap64 (-((rd_T24 l0_8 x13_2).f3))), .string ((rd_T24 l0_8 x13_2).f4), .string ((rd_T24 l0_8 x13_2).f5), .slice Ao52 y114.length co52] 24 (0, 0)) pre2_3 hg (Kd.S_away HO_109008.out (fun _ hk => hk.2))); replace HB := Aside0.mk (hb); have HO119 := Aside0.mk (ho); clear HO_109008; clear HO116; clear ho hb hg hat; obtain ⟨Ao59, co59, eo59⟩ := Kd.S_slice HO119.out; subst eo59; obtain ⟨hcz60_0, hcz60_1, hcz60_2, hcz60_3, hcz60_4, hcz60_5, hcz60_6, hcz60_7, hcz60_8⟩ := cz9 BK108.out; obtain ⟨hfz60_0, hfz60_1, hfz60_2, hfz60_3, hfz60_4, hfz60_5, hfz60_6, hfz60_7, hfz60_8⟩ := fz9 BK108.out))
             go_roundg k2
             case measure => have := HJ14.out; have := HK2.out; omega
             case rel => exact ⟨(wrap64 (x13_2 + 1)), (y117), (.slice Ao59 y117.length co59), pbb2_3, H', ⟨by have := HJ14.out; have := HK2.out; omega⟩, ⟨by (with_reducible repeat (first | apply Kd.S_alloc | apply Kd.S_drewN | apply Kd.S_drew)); exact Kd.S_mono (Kd.S_far (p := ⟨gb108, 8, none⟩) (Kd.S_types HO119.out BK108.out (by decide)) (fun _ hk => hk.2) (.slice Ao59 y117.length co59)) (fun _ hk => trivial)⟩, ⟨by (with_reducible repeat (first | refine blk_drewN ?_ _ | refine blk_drew ?_ | refine blk_alloc ?_ _)); refine blk_far ?_ NB101_108.out _; (with_reducible repeat (first | refine blk_drewN ?_ _ | refine blk_drew ?_ | refine blk_alloc ?_ _)); exact BK101.out⟩, ⟨by (with_reducible repeat (first | refine blk_drewN ?_ _ | refine blk_drew ?_ | refine blk_alloc ?_ _)); refine blk_far ?_ NB102_108.out _; (with_reducible repeat (first | refine blk_drewN ?_ _ | refine blk_drew ?_ | refine blk_alloc ?_ _)); exact BK102.out⟩, ⟨by (with_reducible repeat (first | refine blk_drewN ?_ _ | refine blk_drew ?_ | refine blk_alloc ?_ _)); refine blk_put (cs := #[.int .i64 0, .string a0_1, .int .i64 a1, .int .i64 a2, .int .i64 5, .string a0_5, .string a3, .int .i64 a0_0, u109008]) ?_ 8 _ rfl; (with_reducible repeat (first | refine blk_drewN ?_ _ | refine blk_drew ?_ | refine blk_alloc ?_ _)); exact BK108.out⟩, ⟨pre2_2⟩⟩
            ·rw [if_neg c39] at H; exact absurd H (by simp)
           ·rw [if_neg c38] at H; exact absurd H (by simp)
          ·rw [if_neg c37] at H; exact absurd H (by simp)
         ·rw [if_neg c36] at H; have c36b0 := decide_eq_false c36; clear c36; simp only [Option.some.injEq, Prod.mk.injEq] at H; obtain ⟨rfl, rfl, rfl, rfl, rfl, rfl, rfl, rfl, rfl, rfl⟩ := H; have hnb61 := NB101_102.out; have hnc61 := NB102_101.out; have hnb62 := NB101_108.out; have hnc62 := NB108_101.out; obtain ⟨hcz63_0, hcz63_1, hcz63_2, hcz63_3, hcz63_4, hcz63_5, hcz63_6, hcz63_7, hcz63_8⟩ := cz9 BK101.out; obtain ⟨hfz63_0, hfz63_1, hfz63_2, hfz63_3, hfz63_4, hfz63_5, hfz63_6, hfz63_7, hfz63_8⟩ := fz9 BK101.out; have hnb64 := NB108_102.out; have hnc64 := NB102_108.out; obtain ⟨hcz65_0, hcz65_1, hcz65_2, hcz65_3, hcz65_4, hcz65_5, hcz65_6, hcz65_7, hcz65_8⟩ := cz9 BK108.out; obtain ⟨hfz65_0, hfz65_1, hfz65_2, hfz65_3, hfz65_4, hfz65_5, hfz65_6, hfz65_7, hfz65_8⟩ := fz9 BK108.out; obtain ⟨hcz66_0, hcz66_1, hcz66_2, hcz66_3, hcz66_4, hcz66_5, hcz66_6, hcz66_7, hcz66_8⟩ := cz9 BK102.out; obtain ⟨hfz66_0, hfz66_1, hfz66_2, hfz66_3, hfz66_4, hfz66_5, hfz66_6, hfz66_7, hfz66_8⟩ := fz9 BK102.out; obtain ⟨Ao67, co67, eo67⟩ := Kd.S_slice HO_109008.out; subst eo67
          go_wp2
          refine bodyPost_ret (results_ct rfl _ _ gb102 33 #[.int .i64 0, .string a0_1, .int .i64 a1, .int .i64 a2, .int .i64 5, .string a0_5, .string a3, .int .i64 a0_0, .slice Ao67 x109008_2.length co67] (0, 0) _ rfl (by (with_reducible repeat (first | refine blk_drewN ?_ _ | refine blk_drew ?_ | refine blk_alloc ?_ _)); refine blk_put (cs := #[.int .i64 0, .string a0_1, .int .i64 a1, .int .i64 a2, .int .i64 5, .string a0_5, .string a3, .int .i64 a0_0, .slice none 0 0]) ?_ 8 _ rfl; (with_reducible repeat (first | refine blk_drewN ?_ _ | refine blk_drew ?_ | refine blk_alloc ?_ _)); refine blk_put (cs := #[.int .i64 0, .string a0_1, .int .i64 a1, .int .i64 a2, .int .i64 5, .string a0_5, .string a3, .int .i64 0, .slice none 0 0]) ?_ 7 _ rfl; (with_reducible repeat (first | refine blk_drewN ?_ _ | refine blk_drew ?_ | refine blk_alloc ?_ _)); refine blk_put (cs := #[.int .i64 0, .string a0_1, .int .i64 a1, .int .i64 a2, .int .i64 5, .string a0_5, .string (⟨#[]⟩ : ByteArray), .int .i64 0, .slice none 0 0]) ?_ 6 _ rfl; (with_reducible repeat (first | refine blk_drewN ?_ _ | refine blk_drew ?_ | refine blk_alloc ?_ _)); refine blk_put (cs := #[.int .i64 0, .string a0_1, .int .i64 a1, .int .i64 a2, .int .i64 5, .string (⟨#[]⟩ : ByteArray), .string (⟨#[]⟩ : ByteArray), .int .i64 0, .slice none 0 0]) ?_ 5 _ rfl; (with_reducible repeat (first | refine blk_drewN ?_ _ | refine blk_drew ?_ | refine blk_alloc ?_ _)); refine blk_put (cs := #[.int .i64 0, .string a0_1, .int .i64 a1, .int .i64 a2, .int .i64 0, .string (⟨#[]⟩ : ByteArray), .string (⟨#[]⟩ : ByteArray), .int .i64 0, .slice none 0 0]) ?_ 4 _ rfl; (with_reducible repeat (first | refine blk_drewN ?_ _ | refine blk_drew ?_ | refine blk_alloc ?_ _)); refine blk_put (cs := #[.int .i64 0, .string a0_1, .int .i64 a1, .int .i64 0, .int .i64 0, .string (⟨#[]⟩ : ByteArray), .string (⟨#[]⟩ : ByteArray), .int .i64 0, .slice none 0 0]) ?_ 3 _ rfl; (with_reducible repeat (first | refine blk_drewN ?_ _ | refine blk_drew ?_ | refine blk_alloc ?_ _)); refine blk_put (cs := #[.int .i64 0, .string a0_1, .int .i64 0, .int .i64 0, .int .i64 0, .string (⟨#[]⟩ : ByteArray), .string (⟨#[]⟩ : ByteArray), .int .i64 0, .slice none 0 0]) ?_ 2 _ rfl; (with_reducible repeat (first | refine blk_drewN ?_ _ | refine blk_drew ?_ | refine blk_alloc ?_ _)); refine blk_put (cs := #[.int .i64 0, .string (⟨#[]⟩ : ByteArray), .int .i64 0, .int .i64 0, .int .i64 0, .string (⟨#[]⟩ : ByteArray), .string (⟨#[]⟩ : ByteArray), .int .i64 0, .slice none 0 0]) ?_ 1 _ rfl; (with_reducible repeat (first | refine blk_drewN ?_ _ | refine blk_drew ?_ | refine blk_alloc ?_ _)); refine blk_put (cs := #[.int .i64 0, .string (⟨#[]⟩ : ByteArray), .int .i64 0, .int .i64 0, .int .i64 0, .string (⟨#[]⟩ : ByteArray), .string (⟨#[]⟩ : ByteArray), .int .i64 0, .slice none 0 0]) ?_ 0 _ rfl; (with_reducible repeat (first | refine blk_drewN ?_ _ | refine blk_drew ?_ | refine blk_alloc ?_ _)); exact BK102.out) Tryd.underlying33 rfl (by kernel_rfl)) rfl ?_; exact ⟨_, pbb2_18, by (with_reducible repeat (first | apply Kd.S_alloc | apply Kd.S_drewN | apply Kd.S_drew)); exact Kd.S_mono (Kd.S_far (p := ⟨gb102, 8, none⟩) (Kd.S_far (p := ⟨gb102, 7, none⟩) (Kd.S_far (p := ⟨gb102, 6, none⟩) (Kd.S_far (p := ⟨gb102, 5, none⟩) (Kd.S_far (p := ⟨gb102, 4, none⟩) (Kd.S_far (p := ⟨gb102, 3, none⟩) (Kd.S_far (p := ⟨gb102, 2, none⟩) (Kd.S_far (p := ⟨gb102, 1, none⟩) (Kd.S_far (p := ⟨gb102, 0, none⟩) (Kd.S_types HO_109008.out BK102.out (by decide)) (fun _ hk => hk.2) (.int .i64 0)) (fun _ hk => hk.2) (.string a0_1)) (fun _ hk => hk.2) (.int .i64 a1)) (fun _ hk => hk.2) (.int .i64 a2)) (fun _ hk => hk.2) (.int .i64 5)) (fun _ hk => hk.2) (.string a0_5)) (fun _ hk => hk.2) (.string a3)) (fun _ hk => hk.2) (.int .i64 a0_0)) (fun _ hk => hk.2) (.slice Ao67 x109008_2.length co67)) (fun _ hk => trivial), pre2_0⟩
      ·replace c29 := Bool.eq_false_iff.mpr c29; subst c29; rw [if_neg (show ¬ (false = true) by decide)] at H; simp only [Option.some.injEq, Prod.mk.injEq] at H; obtain ⟨rfl, rfl, rfl, rfl, rfl, rfl, rfl, rfl, rfl, rfl⟩ := H
       go_wp2_with (first | ((with_reducible refine gate_callee (f := 38) rfl ?_); refine goesL_ (some 38) rfl rfl Tryd.func38 (by kernel_rfl) rfl #[.string a3] rfl pbb2_5 ?_; (with_reducible refine (F38.calls kj14 a3 false _ A28.out).mono ?_); rintro e w' ⟨rfl, ⟨nd, rfl⟩⟩; refine ⟨_, rfl, ?_⟩; (try (rw [drewN_self wc]; generalize hq_ : World.drewN wc _ = wc; have n0_ : Aside0 (wc.heap[gb101]? = some (.cells #[.int .i64 a0_0, .string a0_1, .int .i64 a0_2, .int .i64 a0_3, .int .i64 a0_4, .string a0_5, .string a0_6, .int .i64 a0_7, .slice A0_8 l0_8.length c0_8] 33 (0, 0))) := ⟨pbb6_3⟩; have n1_ : Aside0 (wc.heap[gb102]? = some (.cells #[.int .i64 0, .string (⟨#[]⟩ : ByteArray), .int .i64 0, .int .i64 0, .int .i64 0, .string (⟨#[]⟩ : ByteArray), .string (⟨#[]⟩ : ByteArray), .int .i64 0, .slice none 0 0] 33 (0, 0))) := ⟨by rw [← hq_]; exact pbb2_14⟩; have n2_ : Aside0 (Below w.heap.size w wc) := ⟨by rw [← hq_]; exact pbb2_13⟩; clear BK101 BK102 HB hq_; have BK101 := n0_; have BK102 := n1_; have HB := n2_; clear n0_ n1_ n2_)); have hnb68 := NB102_101.out; have hnc68 := NB101_102.out; obtain ⟨hcz69_0, hcz69_1, hcz69_2, hcz69_3, hcz69_4, hcz69_5, hcz69_6, hcz69_7, hcz69_8⟩ := cz9 BK102.out; obtain ⟨hfz69_0, hfz69_1, hfz69_2, hfz69_3, hfz69_4, hfz69_5, hfz69_6, hfz69_7, hfz69_8⟩ := fz9 BK102.out))
       refine bodyPost_ret (results_ct rfl _ _ gb102 33 #[.int .i64 0, .string (⟨#[]⟩ : ByteArray), .int .i64 0, .int .i64 0, .int .i64 0, .string (⟨#[]⟩ : ByteArray), .string (⟨#[]⟩ : ByteArray), .int .i64 0, .slice none 0 0] (0, 0) _ rfl pbb7_1 Tryd.underlying33 rfl (by kernel_rfl)) rfl ?_; exact ⟨_, pbb2_18, pbb7_2, pbb2_13⟩
 ·rw [if_neg c6] at H; have c6b0 := nF_ c6; have c6b1 := nT_ c6; simp only [Option.some.injEq, Prod.mk.injEq] at H; obtain ⟨rfl, rfl, rfl, rfl, rfl, rfl, rfl, rfl, rfl, rfl⟩ := H; go_enter Tryd.func29, Tryd.ntmps29
  go_wp2_with (first | ((with_reducible refine gate_dst (N := 4) rfl ?_); refine box_event ?hg (N := 4) ?hd (cs := #[.int .i64 a0_0, .string a0_1, .int .i64 a0_2, .int .i64 a0_3, .int .i64 a0_4, .string a0_5, .string a0_6, .int .i64 a0_7, .slice A0_8 l0_8.length c0_8]) (t := 33) ?hr ?_; (case hd => rfl); (case hg => rfl); (case hr => first | (go_simp; done) | (go_simp; rfl)); intro gb101 hg w70 hbox hb; have BK101 := Aside0.mk (hbox); have GW101 := Aside0.mk ((pbb2_8 : w.heap.size ≤ gb101)); have GE101 := Aside0.mk ((pbb2_8 : w.heap.size ≤ gb101)); replace HB := Aside0.mk (below_step pbb2_9 hb); clear hb hbox hg) | ((with_reducible refine gate_dst (N := 8) rfl ?_); refine box_event ?hg (N := 8) ?hd (cs := #[.int .i64 0, .string (⟨#[]⟩ : ByteArray), .int .i64 0, .int .i64 0, .int .i64 0, .string (⟨#[]⟩ : ByteArray), .string (⟨#[]⟩ : ByteArray), .int .i64 0, .slice none 0 0]) (t := 33) ?hr ?_; (case hd => rfl); (case hg => rfl); (case hr => first | (go_simp; done) | (go_simp; rfl)); intro gb102 hg w71 hbox hb; have BK102 := Aside0.mk (hbox); have GW102 := Aside0.mk ((pbb2_10 : w.heap.size ≤ gb102)); have GE102 := Aside0.mk ((pbb2_10 : w.heap.size ≤ gb102)); replace HB := Aside0.mk (below_step pbb2_11 hb); have NB101_102 := Aside0.mk ((pbb4_0 : gb101 ≠ gb102)); have NB102_101 := Aside0.mk ((pbb4_1 : gb102 ≠ gb101)); replace BK101 := Aside0.mk (blk_below (g := gb101) (o := .cells #[.int .i64 a0_0, .string a0_1, .int .i64 a0_2, .int .i64 a0_3, .int .i64 a0_4, .string a0_5, .string a0_6, .int .i64 a0_7, .slice A0_8 l0_8.length c0_8] 33 (0, 0)) pbb2_12 hb); clear hb hbox hg; have hnb72 := NB101_102.out; have hnc72 := NB102_101.out; obtain ⟨hcz73_0, hcz73_1, hcz73_2, hcz73_3, hcz73_4, hcz73_5, hcz73_6, hcz73_7, hcz73_8⟩ := cz9 BK101.out; obtain ⟨hfz73_0, hfz73_1, hfz73_2, hfz73_3, hfz73_4, hfz73_5, hfz73_6, hfz73_7, hfz73_8⟩ := fz9 BK101.out) | ((with_reducible refine gate_callee (f := 17) rfl ?_); refine goesL_ (some 17) rfl rfl Tryd.func17 (by kernel_rfl) rfl #[.agg #[.int .i64 a0_0, .string a0_1, .int .i64 a0_2, .int .i64 a0_3, .int .i64 a0_4, .string a0_5, .string a0_6, .int .i64 a0_7, .slice A0_8 l0_8.length c0_8]] rfl pbb2_5 ?_; (with_reducible refine (F17.calls k a0_0 a0_1 a0_2 a0_3 a0_4 a0_5 a0_6 a0_7 _ _ l0_8 t103 t104 _ pbb6_6 (by exact HC0_8.out) A5.out).mono ?_); rintro e w74 ⟨rfl, hb⟩; refine ⟨_, rfl, ?_⟩; replace BK101 := Aside0.mk (blk_below (g := gb101) (o := .cells #[.int .i64 a0_0, .string a0_1, .int .i64 a0_2, .int .i64 a0_3, .int .i64 a0_4, .string a0_5, .string a0_6, .int .i64 a0_7, .slice A0_8 l0_8.length c0_8] 33 (0, 0)) pbb2_12 hb); replace BK102 := Aside0.mk (blk_below (g := gb102) (o := .cells #[.int .i64 0, .string (⟨#[]⟩ : ByteArray), .int .i64 0, .int .i64 0, .int .i64 0, .string (⟨#[]⟩ : ByteArray), .string (⟨#[]⟩ : ByteArray), .int .i64 0, .slice none 0 0] 33 (0, 0)) pbb2_14 hb); replace HB := Aside0.mk (below_step pbb2_13 hb); (try clear hb); (try clear hb2); (try clear hk); (try clear hi); obtain ⟨hcz75_0, hcz75_1, hcz75_2, hcz75_3, hcz75_4, hcz75_5, hcz75_6, hcz75_7, hcz75_8⟩ := cz9 BK102.out; obtain ⟨hfz75_0, hfz75_1, hfz75_2, hfz75_3, hfz75_4, hfz75_5, hfz75_6, hfz75_7, hfz75_8⟩ := fz9 BK102.out))
  refine bodyPost_ret (results_ct rfl _ _ gb102 33 #[.int .i64 0, .string (⟨#[]⟩ : ByteArray), .int .i64 0, .int .i64 0, .int .i64 0, .string (⟨#[]⟩ : ByteArray), .string (⟨#[]⟩ : ByteArray), .int .i64 0, .slice none 0 0] (0, 0) _ rfl pbb7_1 Tryd.underlying33 rfl (by kernel_rfl)) rfl ?_; exact ⟨_, pbb2_18, pbb7_2, pbb2_13⟩
theorem p9 {w : World} {g : Nat} {t : TypeId} {c0 c1 c2 c3 c4 c5 c6 c7 c8 a0 a1 a2 a3 a4 a5 a6 a7 a8 : Value} (h : w.heap[g]? = some (.cells #[c0, c1, c2, c3, c4, c5, c6, c7, c8] t (0, 0))) : (((((((((w.setCell ⟨g, 0, none⟩ a0).setCell ⟨g, 1, none⟩ a1).setCell ⟨g, 2, none⟩ a2).setCell ⟨g, 3, none⟩ a3).setCell ⟨g, 4, none⟩ a4).setCell ⟨g, 5, none⟩ a5).setCell ⟨g, 6, none⟩ a6).setCell ⟨g, 7, none⟩ a7).setCell ⟨g, 8, none⟩ a8).heap[g]? = some (.cells #[a0, a1, a2, a3, a4, a5, a6, a7, a8] t (0, 0)) := by
 have h9 := blk_set (blk_set (blk_set (blk_set (blk_set (blk_set (blk_set (blk_set (blk_set h 0 a0) 1 a1) 2 a2) 3 a3) 4 a4) 5 a5) 6 a6) 7 a7) 8 a8; simp only [List.setIfInBounds_toArray, List.set_cons_zero, List.set_cons_succ] at h9; exact h9
theorem b9 {W0 w : World} {g B : Nat} {a0 a1 a2 a3 a4 a5 a6 a7 a8 : Value} (h : Below B W0 w) (hg : B ≤ g) : Below B W0 (((((((((w.setCell ⟨g, 0, none⟩ a0).setCell ⟨g, 1, none⟩ a1).setCell ⟨g, 2, none⟩ a2).setCell ⟨g, 3, none⟩ a3).setCell ⟨g, 4, none⟩ a4).setCell ⟨g, 5, none⟩ a5).setCell ⟨g, 6, none⟩ a6).setCell ⟨g, 7, none⟩ a7).setCell ⟨g, 8, none⟩ a8) :=
 ((((((((h.setCell hg a0).setCell hg a1).setCell hg a2).setCell hg a3).setCell hg a4).setCell hg a5).setCell hg a6).setCell hg a7).setCell hg a8
def F7.f (k : Nat) (a0_0 : Int) (a0_1 : ByteArray) (a0_2 : Int) (a0_3 : Int) (a0_4 : Int) (a0_5 : ByteArray) (a0_6 : ByteArray) (a0_7 : Int) (l0_8 : List S24) (a1_0 : Int) (a1_1 : Int) (a1_2 : ByteArray) (l2 : List Int) : Option Bool :=
 (F12.f k l0_8).bind fun t => if t = true then (F28.f k a0_0 a0_1 a0_2 a0_3 a0_4 a0_5 a0_6 a0_7 l0_8 a1_0 a1_1 a1_2 l2).bind fun y => (F29.f k a0_0 a0_1 a0_2 a0_3 a0_4 a0_5 a0_6 a0_7 l0_8 a1_0 a1_1 a1_2).bind fun z => (F30.f k y.1 y.2.1 y.2.2.1 y.2.2.2.1 y.2.2.2.2.1 y.2.2.2.2.2.1 y.2.2.2.2.2.2.1 y.2.2.2.2.2.2.2.1 y.2.2.2.2.2.2.2.2.1 z.1 z.2.1 z.2.2.1 z.2.2.2.1 z.2.2.2.2.1 z.2.2.2.2.2.1 z.2.2.2.2.2.2.1 z.2.2.2.2.2.2.2.1 z.2.2.2.2.2.2.2.2.1).bind fun s => if s = true ∧ y.2.2.2.2.2.2.2.2.2 = z.2.2.2.2.2.2.2.2.2 then F13.f k l2 else none else F13.f k l2
set_option maxHeartbeats 16000000 in
set_option maxRecDepth 100000 in
theorem F7.calls (k : Nat) (a0_0 : Int) (a0_1 : ByteArray) (a0_2 : Int) (a0_3 : Int) (a0_4 : Int) (a0_5 : ByteArray) (a0_6 : ByteArray) (a0_7 : Int) (A0_8 : Option Addr) (c0_8 : Nat) (l0_8 : List S24) (a1_0 : Int) (a1_1 : Int) (a1_2 : ByteArray) (A2 : Option Addr) (c2 : Nat) (l2 : List Int) (r : Bool) (w : World) (hr0_8 : Kd.C k24 w A0_8 l0_8.length l0_8) (hc0_8 : l0_8.length ≤ c0_8) (hr2 : Kd.C kTab w A2 l2.length l2) (hc2 : l2.length ≤ c2) (h : F7.f k a0_0 a0_1 a0_2 a0_3 a0_4 a0_5 a0_6 a0_7 l0_8 a1_0 a1_1 a1_2 l2 = some r) :
  Calls Tryd.prog 7 #[.agg #[.int .i64 a0_0, .string a0_1, .int .i64 a0_2, .int .i64 a0_3, .int .i64 a0_4, .string a0_5, .string a0_6, .int .i64 a0_7, .slice A0_8 l0_8.length c0_8], .agg #[.int .i64 a1_0, .int .i64 a1_1, .string a1_2]] w fun e w' => e = .returned (.bool r) ∧ Below w.heap.size w w' := by
 have HR0 := Aside0.mk hr0_8; have HC0 := Aside0.mk hc0_8; have HR2 := Aside0.mk hr2; have HC2 := Aside0.mk hc2; clear hr0_8 hc0_8 hr2 hc2
 unfold F7.f at h
 obtain ⟨t, ht, h1⟩ := Option.bind_eq_some_iff.mp h; clear h; have HT := Aside0.mk ht; clear ht; have HB := Aside0.mk (Below.refl w.heap.size w)
 cases t with
 | false =>
  simp only [Bool.false_eq_true, if_false] at h1; have HL := Aside0.mk h1; clear h1; go_enter Tryd.func7, Tryd.ntmps7
  go_wp2_with (first
   | ((with_reducible refine gate_dst (N := 2) rfl ?_); refine box_event ?hg (N := 2) ?hd (cs := #[.int .i64 a0_0, .string a0_1, .int .i64 a0_2, .int .i64 a0_3, .int .i64 a0_4, .string a0_5, .string a0_6, .int .i64 a0_7, .slice A0_8 l0_8.length c0_8]) (t := 33) ?hr ?_; (case hd => rfl); (case hg => rfl); (case hr => first | (go_simp; done) | (go_simp; rfl)); intro g1 hg w1 hbox hb; have BK1 := Aside0.mk hbox; have HB1 := Aside0.mk (below_step HB.out hb); clear hg hbox hb HB)
   | ((with_reducible refine gate_dst (N := 3) rfl ?_); refine box_event ?hg (N := 3) ?hd (cs := #[.int .i64 a1_0, .int .i64 a1_1, .string a1_2]) (t := 53) ?hr ?_; (case hd => rfl); (case hg => rfl); (case hr => first | (go_simp; done) | (go_simp; rfl)); intro g2 hg w2 hbox hb; have BK1b := Aside0.mk (blk_below BK1.out hb); have BK2 := Aside0.mk hbox; have HB2 := Aside0.mk (below_step HB1.out hb); clear hg hbox hb HB1 BK1; have k8 := (blk_cell BK1b.out 8).trans rfl)
   | (go_at_call 12; (with_reducible refine (F12.calls k A0_8 c0_8 l0_8 _ _ (by exact Kd.C_below HR0.out HB2.out) HC0.out HT.out).mono ?_); rintro e w5 ⟨rfl, ⟨nd, rfl⟩⟩)
   | (go_at_call 13; (with_reducible refine (F13.calls k A2 c2 l2 _ _ (by exact Kd.C_drewN (Kd.C_below HR2.out HB2.out) _) HC2.out HL.out).mono ?_); rintro e w9 ⟨rfl, hb⟩; have HB9 := Aside0.mk (below_step (pw_below_drewN HB2.out nd) hb); clear hb))
  go_ret
  exact ⟨rfl, HB9.out⟩
 | true =>
  simp only [if_true] at h1; obtain ⟨⟨y0, y1, y2, y3, y4, y5, y6, y7, y8, ye⟩, hy, h2⟩ := Option.bind_eq_some_iff.mp h1; clear h1; have HY := Aside0.mk hy; obtain ⟨⟨z0, z1, z2, z3, z4, z5, z6, z7, z8, ze⟩, hz, h3⟩ := Option.bind_eq_some_iff.mp h2; clear h2 hy; have HZ := Aside0.mk hz; obtain ⟨s, hs, h4⟩ := Option.bind_eq_some_iff.mp h3; clear h3 hz; simp only at h4
  by_cases hc : s = true ∧ ye = ze
  case neg => rw [if_neg hc] at h4; cases h4
  rw [if_pos hc] at h4; obtain ⟨e1, e2⟩ := hc; subst e1 e2; have HS := Aside0.mk hs; have HL := Aside0.mk h4; have hee : (ye == ye) = true := beq_self_eq_true _; clear hs h4; go_enter Tryd.func7, Tryd.ntmps7
  go_wp2_with (first
   | ((with_reducible refine gate_dst (N := 2) rfl ?_); refine box_event ?hg (N := 2) ?hd (cs := #[.int .i64 a0_0, .string a0_1, .int .i64 a0_2, .int .i64 a0_3, .int .i64 a0_4, .string a0_5, .string a0_6, .int .i64 a0_7, .slice A0_8 l0_8.length c0_8]) (t := 33) ?hr ?_; (case hd => rfl); (case hg => rfl); (case hr => first | (go_simp; done) | (go_simp; rfl)); intro g1 hg w1 hbox hb; have BK1 := Aside0.mk hbox; have HB1 := Aside0.mk (below_step HB.out hb); clear hg hbox hb HB)
   | ((with_reducible refine gate_dst (N := 3) rfl ?_); refine box_event ?hg (N := 3) ?hd (cs := #[.int .i64 a1_0, .int .i64 a1_1, .string a1_2]) (t := 53) ?hr ?_; (case hd => rfl); (case hg => rfl); (case hr => first | (go_simp; done) | (go_simp; rfl)); intro g2 hg w2 hbox hb; have BK1b := Aside0.mk (blk_below BK1.out hb); have BK2 := Aside0.mk hbox; have HB2 := Aside0.mk (below_step HB1.out hb); clear hg hbox hb HB1 BK1; have k8 := (blk_cell BK1b.out 8).trans rfl)
   | (go_at_call 12; (with_reducible refine (F12.calls k A0_8 c0_8 l0_8 _ _ (by exact Kd.C_below HR0.out HB2.out) HC0.out HT.out).mono ?_); rintro e w5 ⟨rfl, ⟨nd, rfl⟩⟩; have BK1c := Aside0.mk (blk_drewN BK1b.out nd); have BK2c := Aside0.mk (blk_drewN BK2.out nd); have HB3 := Aside0.mk (pw_below_drewN HB2.out nd); generalize w2.drewN nd = w3 at BK1c BK2c HB3 ⊢; clear BK1b BK2 HB2; have x0 := (blk_cell BK1c.out 0).trans rfl; have x1 := (blk_cell BK1c.out 1).trans rfl; have x2 := (blk_cell BK1c.out 2).trans rfl; have x3 := (blk_cell BK1c.out 3).trans rfl; have x4 := (blk_cell BK1c.out 4).trans rfl; have x5 := (blk_cell BK1c.out 5).trans rfl; have x6 := (blk_cell BK1c.out 6).trans rfl; have x7 := (blk_cell BK1c.out 7).trans rfl; have x8 := (blk_cell BK1c.out 8).trans rfl; have q0 := (blk_cell BK2c.out 0).trans rfl; have q1 := (blk_cell BK2c.out 1).trans rfl; have q2 := (blk_cell BK2c.out 2).trans rfl; skip)
   | (go_at_call 28; (with_reducible refine (F28.calls k a0_0 a0_1 a0_2 a0_3 a0_4 a0_5 a0_6 a0_7 A0_8 c0_8 l0_8 a1_0 a1_1 a1_2 A2 c2 l2 y0 y1 y2 y3 y4 y5 y6 y7 y8 ye _ (by exact Kd.C_below HR0.out HB3.out) HC0.out (by exact Kd.C_below HR2.out HB3.out) HC2.out HY.out).mono ?_); rintro e w4 ⟨v8, rfl, hS, hb⟩; obtain ⟨A8, c8, rfl⟩ := Kd.S_slice hS; have HS8 := Aside0.mk (Kd.R_reads' (Kd.S_R hS)); have HB4 := Aside0.mk (below_step HB3.out hb); have BK1d := Aside0.mk (blk_below BK1c.out hb); have BK2d := Aside0.mk (blk_below BK2c.out hb); clear hS hb BK1c BK2c)
   | ((with_reducible refine gate_dst (N := 5) rfl ?_); refine box_event ?hg (N := 5) ?hd (cs := #[.int .i64 0, .string (⟨#[]⟩ : ByteArray), .int .i64 0, .int .i64 0, .int .i64 0, .string (⟨#[]⟩ : ByteArray), .string (⟨#[]⟩ : ByteArray), .int .i64 0, .slice none 0 0]) (t := 33) ?hr ?_; (case hd => rfl); (case hg => rfl); (case hr => first | (go_simp; done) | (go_simp; rfl)); intro g5 hg w5 hbox hb; have GE5 := Aside0.mk (show w.heap.size ≤ g5 by rw [hg]; exact HB4.out.size); have GF5 := Aside0.mk (show w4.heap.size ≤ g5 by rw [hg]; exact Nat.le_refl _); have NE1 := (show g1 ≠ g5 by rw [hg]; exact Nat.ne_of_lt (blk_lt BK1d.out)); have NE2 := (show g2 ≠ g5 by rw [hg]; exact Nat.ne_of_lt (blk_lt BK2d.out)); have NF1 := NE1.symm; have NF2 := NE2.symm; have HB5 := Aside0.mk (below_step HB4.out hb); have BK1e := Aside0.mk (blk_below BK1d.out hb); have BK2e := Aside0.mk (blk_below BK2d.out hb); have BK5 := Aside0.mk hbox; have HX5 := Aside0.mk hb; have x0 := (blk_cell BK1e.out 0).trans rfl; have x1 := (blk_cell BK1e.out 1).trans rfl; have x2 := (blk_cell BK1e.out 2).trans rfl; have x3 := (blk_cell BK1e.out 3).trans rfl; have x4 := (blk_cell BK1e.out 4).trans rfl; have x5 := (blk_cell BK1e.out 5).trans rfl; have x6 := (blk_cell BK1e.out 6).trans rfl; have x7 := (blk_cell BK1e.out 7).trans rfl; have x8 := (blk_cell BK1e.out 8).trans rfl; have q0 := (blk_cell BK2e.out 0).trans rfl; have q1 := (blk_cell BK2e.out 1).trans rfl; have q2 := (blk_cell BK2e.out 2).trans rfl; have m0 := (blk_cell hbox 0).trans rfl; have m1 := (blk_cell hbox 1).trans rfl; have m2 := (blk_cell hbox 2).trans rfl; have m3 := (blk_cell hbox 3).trans rfl; have m4 := (blk_cell hbox 4).trans rfl; have m5 := (blk_cell hbox 5).trans rfl; have m6 := (blk_cell hbox 6).trans rfl; have m7 := (blk_cell hbox 7).trans rfl; have m8 := (blk_cell hbox 8).trans rfl; have f0 := blk_frozen hbox 0; have f1 := blk_frozen hbox 1; have f2 := blk_frozen hbox 2; have f3 := blk_frozen hbox 3; have f4 := blk_frozen hbox 4; have f5 := blk_frozen hbox 5; have f6 := blk_frozen hbox 6; have f7 := blk_frozen hbox 7; have f8 := blk_frozen hbox 8; clear hg hbox hb HB4 BK1d BK2d)
   | (go_at_call 29; (with_reducible refine (F29.calls k a0_0 a0_1 a0_2 a0_3 a0_4 a0_5 a0_6 a0_7 A0_8 c0_8 l0_8 a1_0 a1_1 a1_2 z0 z1 z2 z3 z4 z5 z6 z7 z8 ye _ (by exact Kd.C_below HR0.out (b9 HB5.out GE5.out)) HC0.out HZ.out).mono ?_); rintro e w6 ⟨v6, rfl, hS, hb⟩; obtain ⟨A6, c6, rfl⟩ := Kd.S_slice hS; have HS6 := Aside0.mk (Kd.R_reads' (Kd.S_R hS)); have HB6 := Aside0.mk (below_step (b9 HB5.out GE5.out) hb); have HX6 := Aside0.mk (below_step (b9 HX5.out GF5.out) hb); have BK5b := Aside0.mk (blk_below (p9 BK5.out) hb); clear hS hb BK1e BK2e BK5 HX5 HB5 x0 x1 x2 x3 x4 x5 x6 x7 x8 q0 q1 q2 m0 f0 m1 f1 m2 f2 m3 f3 m4 f4 m5 f5 m6 f6 m7 f7 m8 f8)
   | ((with_reducible refine gate_dst (N := 7) rfl ?_); refine box_event ?hg (N := 7) ?hd (cs := #[.int .i64 0, .string (⟨#[]⟩ : ByteArray), .int .i64 0, .int .i64 0, .int .i64 0, .string (⟨#[]⟩ : ByteArray), .string (⟨#[]⟩ : ByteArray), .int .i64 0, .slice none 0 0]) (t := 33) ?hr ?_; (case hd => rfl); (case hg => rfl); (case hr => first | (go_simp; done) | (go_simp; rfl)); intro g7 hg w7 hbox hb; have GE7 := Aside0.mk (show w.heap.size ≤ g7 by rw [hg]; exact HB6.out.size); have GF7 := Aside0.mk (show w6.heap.size ≤ g7 by rw [hg]; exact Nat.le_refl _); have GG7 := Aside0.mk (show w4.heap.size ≤ g7 by rw [hg]; exact HX6.out.size); have NE5 := (show g5 ≠ g7 by rw [hg]; exact Nat.ne_of_lt (blk_lt BK5b.out)); have NF5 := NE5.symm; have HB7 := Aside0.mk (below_step HB6.out hb); have HX7 := Aside0.mk (below_step HX6.out hb); have BK5c := Aside0.mk (blk_below BK5b.out hb); have HW7 := Aside0.mk hb; have x0 := (blk_cell BK5c.out 0).trans rfl; have x1 := (blk_cell BK5c.out 1).trans rfl; have x2 := (blk_cell BK5c.out 2).trans rfl; have x3 := (blk_cell BK5c.out 3).trans rfl; have x4 := (blk_cell BK5c.out 4).trans rfl; have x5 := (blk_cell BK5c.out 5).trans rfl; have x6 := (blk_cell BK5c.out 6).trans rfl; have x7 := (blk_cell BK5c.out 7).trans rfl; have x8 := (blk_cell BK5c.out 8).trans rfl; have m0 := (blk_cell hbox 0).trans rfl; have m1 := (blk_cell hbox 1).trans rfl; have m2 := (blk_cell hbox 2).trans rfl; have m3 := (blk_cell hbox 3).trans rfl; have m4 := (blk_cell hbox 4).trans rfl; have m5 := (blk_cell hbox 5).trans rfl; have m6 := (blk_cell hbox 6).trans rfl; have m7 := (blk_cell hbox 7).trans rfl; have m8 := (blk_cell hbox 8).trans rfl; have f0 := blk_frozen hbox 0; have f1 := blk_frozen hbox 1; have f2 := blk_frozen hbox 2; have f3 := blk_frozen hbox 3; have f4 := blk_frozen hbox 4; have f5 := blk_frozen hbox 5; have f6 := blk_frozen hbox 6; have f7 := blk_frozen hbox 7; have f8 := blk_frozen hbox 8; clear hg hbox hb HB6 HX6 BK5b)
   | (go_at_call 30; (with_reducible refine (F30.calls k y0 y1 y2 y3 y4 y5 y6 y7 A8 c8 y8 z0 z1 z2 z3 z4 z5 z6 z7 A6 c6 z8 true _ (by exact Kd.C_below HS8.out.2.2 (b9 HX7.out GG7.out)) HS8.out.2.1 (by exact Kd.C_below HS6.out.2.2 (b9 HW7.out GF7.out)) HS6.out.2.1 HS.out).mono ?_); rintro e w8 ⟨rfl, hb⟩; have HB8 := Aside0.mk (below_step (b9 HB7.out GE7.out) hb); clear hb)
   | (go_at_call 13; (with_reducible refine (F13.calls k A2 c2 l2 _ _ (by exact Kd.C_below HR2.out HB8.out) HC2.out HL.out).mono ?_); rintro e w9 ⟨rfl, hb⟩; have HB9 := Aside0.mk (below_step HB8.out hb); clear hb))
  go_ret
  exact ⟨rfl, HB9.out⟩
/-- THE ONE PURE STATEMENT of F7. -/
def F7.Pure : Prop := ∀ (x0 : S33) (x1 : S53), (G33 x0) → (G53 x1) → ∃ k, F7.f k x0.f0 x0.f1 x0.f2 x0.f3 x0.f4 x0.f5 x0.f6 x0.f7 x0.f8 x1.f0 x1.f1 x1.f2 months = some true
end Go.Proofs.YtjeecehhcajfaaaDoor.M
end
section
namespace Go.Proofs.YtjeecehhcajfaaaDoor.M
open Go.RowKit Go.Proofs.YtjeecehhcajfaaaDoorW.PrintWords Go.Proofs.YtjeecehhcajfaaaDoorW.PrintLast
set_option linter.unusedVariables false
set_option linter.unusedSimpArgs false
def capv (b : ByteArray) : Nat → Nat → Bool
 | 0, _ => true
 | n + 1, i => (decide (65 ≤ bt b (i : Int)) && decide (bt b (i : Int) ≤ 90)) && capv b n (i + 1)
theorem capv_all (b : ByteArray) : ∀ n i, i + n = b.size → capv b n i = (b.data.toList.drop i).all capital
 | 0, i, h => by
  have : b.data.toList.drop i = [] := List.drop_eq_nil_of_le (by simp; omega); rw [this]; rfl
 | n + 1, i, h => by
  have hi : i < b.data.toList.length := by simp; omega
  rw [List.drop_eq_getElem_cons hi, List.all_cons, ← capv_all b n (i + 1) (by omega), capv]
  congr 1
  unfold capital bt
  have h2 : i < b.size := by omega
  simp only [Int.toNat_natCast, h2, dif_pos]
  rfl
def moneyv (b : ByteArray) : Bool := decide (b.size = 3) && capv b 3 0
theorem F35.eq (b : ByteArray) (hb : b.size ≤ 1000000000000000) : F35.f b = some (moneyv b) := by
 unfold F35.f moneyv
 have hw : wrap64 (b.size : Int) = (b.size : Int) := w64 (by omega) (by omega); rw [hw]
 by_cases c : b.size = 3
 ·rw [decide_eq_true c, decide_eq_true (show (b.size : Int) = 3 by omega), Bool.and_true, Bool.true_and, capv_all b 3 0 (by omega)]
  rfl
 ·rw [decide_eq_false c, decide_eq_false (show ¬ (b.size : Int) = 3 by omega), Bool.and_false, Bool.false_and]
theorem ref07.go (b : ByteArray) (hb : b.size = 3) : ∀ n i : Nat, i + n = 3 → Ev (fun k => F40.l0 k b (i : Int)) (capv b n i)
 | 0, i, h => by
  refine Ev.succ ?_; simp only [F40.l0, if_neg (show ¬ (i : Int) < 3 by omega), capv]; exact Ev.const _
 | n + 1, i, h => by
  have ih := ref07.go b hb n (i + 1) (by omega); refine Ev.succ ?_; simp only [F40.l0, if_pos (show (i : Int) < 3 by omega), if_pos (show (0 : Int) ≤ (i : Int) by omega), if_pos (show (i : Int) < (b.size : Int) by omega), capv, w64s (show i ≤ 1000000000 by omega)]
  by_cases c1 : bt b (i : Int) < 65
  ·simp only [if_pos c1, decide_eq_false (show ¬ 65 ≤ bt b (i : Int) by omega), Bool.false_and]; exact Ev.const _
  ·simp only [if_neg c1, decide_eq_true (show 65 ≤ bt b (i : Int) by omega), Bool.true_and]
   by_cases c2 : bt b (i : Int) > 90
   ·simp only [if_pos c2, decide_eq_false (show ¬ bt b (i : Int) ≤ 90 by omega), Bool.false_and]; exact Ev.const _
   ·simp only [if_neg c2, decide_eq_true (show bt b (i : Int) ≤ 90 by omega), Bool.true_and]; exact ih
theorem ref07.eq (b : ByteArray) : Ev (fun k => F40.f k b) (moneyv b) := by
 unfold F40.f moneyv
 by_cases c : b.size = 3
 ·simp only [if_pos (show (b.size : Int) = 3 by omega), decide_eq_true c, Bool.true_and]; exact ref07.go b c 3 0 (by omega)
 ·simp only [if_neg (show ¬ (b.size : Int) = 3 by omega), decide_eq_false c, Bool.false_and]; exact Ev.const _
def optv (b : ByteArray) : Bool := decide (b.size = 0) || codev b
theorem optional.eq (b : ByteArray) : Ev (fun k => F34.f k b) (optv b) := by
 unfold F34.f optv
 simp only [size_nil]
 by_cases c : b.size = 0
 ·simp only [if_pos c, decide_eq_true c, Bool.true_or]; exact Ev.const _
 ·simp only [if_neg c, decide_eq_false c, Bool.false_or]; exact Ev.bind (F33.eq b) (Ev.const _)
theorem refOptional.eq (b : ByteArray) (hb : b.size ≤ 1000000000000000) : Ev (fun k => F39.f k b) (optv b) := by
 unfold F39.f optv
 simp only [size_nil]
 by_cases c : b.size = 0
 ·simp only [if_pos c, decide_eq_true c, Bool.true_or]; exact Ev.const _
 ·simp only [if_neg c, decide_eq_false c, Bool.false_or]; exact Ev.bind (F38.eq b hb) (Ev.const _)
def withv (a : Int) : Bool := decide (a ≥ -1000000000000) && decide (a ≤ 1000000000000)
theorem within.eq (a : Int) : F36.f a 1000000000000 = some (withv a) := by
 unfold F36.f withv
 rw [show wrap64 (-1000000000000) = -1000000000000 from w64 (by omega) (by omega)]
 by_cases c : a ≥ -1000000000000
 ·rw [if_pos c, decide_eq_true c, Bool.true_and]
 ·rw [if_neg c, decide_eq_false c, Bool.false_and]
theorem refWithin.eq (a : Int) : F41.f a 1000000000000 = some (withv a) := by
 unfold F41.f withv
 rw [show wrap64 (-1000000000000) = -1000000000000 from w64 (by omega) (by omega)]
 by_cases c : a ≥ -1000000000000
 ·rw [if_pos c, decide_eq_true c, Bool.true_and]
 ·rw [if_neg c, decide_eq_false c, Bool.false_and]
def tagv (t : Tg) : Bool := codev t.f0 && codev t.f1
def dimv (l : List Tg) : Nat → Nat → Bool
 | 0, _ => true
 | n + 1, i => tagv (rd_T101 l (i : Int)) && ((decide (i = 0) || Op.bytesLess (rd_T101 l ((i : Int) - 1)).f0.toList (rd_T101 l (i : Int)).f0.toList) && dimv l n (i + 1))
def rightv (l : List Tg) : Bool := dimv l l.length 0 && decide ((l.length : Int) ≤ 6)
theorem codes.eq (t : Tg) : Ev (fun k => F66.f k t.f0 t.f1) (tagv t) := by
 unfold F66.f tagv
 refine Ev.bind (F33.eq t.f0) ?_
 cases codev t.f0 with
 | true => simp only [if_true, Bool.true_and]; exact Ev.bind (F33.eq t.f1) (Ev.const _)
 | false => simp only [Bool.false_eq_true, if_false, Bool.false_and]; exact Ev.const _
theorem named.eq (t : Tg) (h : t.f0.size ≤ 1000000000000000 ∧ t.f1.size ≤ 1000000000000000) : Ev (fun k => F69.f k t.f0 t.f1) (tagv t) := by
 unfold F69.f tagv
 refine Ev.bind (F38.eq t.f0 h.1) ?_
 cases codev t.f0 with
 | true => simp only [if_true, Bool.true_and]; exact Ev.bind (F38.eq t.f1 h.2) (Ev.const _)
 | false => simp only [Bool.false_eq_true, if_false, Bool.false_and]; exact Ev.const _
theorem rd101_mem {a : List Tg} {i : Nat} (h : i < a.length) : rd_T101 a (i : Int) ∈ a := by
 have e1 : rd_T101 a (i : Int) = a[i] := by simp [rd_T101, h]
 rw [e1]; exact List.getElem_mem h
theorem right.go (l : List Tg) (hl : l.length ≤ 1000000) : ∀ n i, i + n = l.length → Ev (fun k => F37.l0 k l l (l.length : Int) (i : Int)) (dimv l n i)
 | 0, i, h => by
  refine Ev.succ ?_; simp only [F37.l0, if_neg (show ¬ (i : Int) < (l.length : Int) by omega), dimv]; exact Ev.const _
 | n + 1, i, h => by
  have ih := right.go l hl n (i + 1) (by omega); refine Ev.succ ?_; simp only [F37.l0, if_pos (show (i : Int) < (l.length : Int) by omega), if_pos (show (0 : Int) ≤ (i : Int) by omega), dimv, w64s (show i ≤ 1000000000 by omega)]; refine Ev.bind (codes.eq _) ?_
  cases tagv (rd_T101 l (i : Int)) with
  | false => simp only [Bool.false_eq_true, if_false, Bool.false_and]; exact Ev.const _
  | true =>
   simp only [if_true, Bool.true_and]
   by_cases c : i = 0
   ·simp only [if_neg (show ¬ (i : Int) > 0 by omega), decide_eq_true c, Bool.true_or, Bool.true_and]; exact ih
   ·rw [w64 (n := (i : Int) - 1) (by omega) (by omega)]; simp only [if_pos (show (i : Int) > 0 by omega), if_pos (show 0 ≤ (i : Int) - 1 by omega), if_pos (show (i : Int) - 1 < (l.length : Int) by omega), decide_eq_false c, Bool.false_or]
    by_cases d : Op.bytesLess (rd_T101 l ((i : Int) - 1)).f0.toList (rd_T101 l (i : Int)).f0.toList = true
    ·simp only [d, if_true, Bool.true_and]; exact ih
    ·have d2 : Op.bytesLess (rd_T101 l ((i : Int) - 1)).f0.toList (rd_T101 l (i : Int)).f0.toList = false := by simpa using d
     simp only [d2, Bool.false_eq_true, if_false, Bool.false_and]; exact Ev.const _
theorem right.eq (l : List Tg) (hl : l.length ≤ 1000000) : Ev (fun k => F37.f k l) (rightv l) := by
 unfold F37.f rightv
 by_cases c : (l.length : Int) > 6
 ·simp only [if_pos c, decide_eq_false (show ¬ (l.length : Int) ≤ 6 by omega), Bool.and_false]; exact Ev.const _
 ·simp only [if_neg c, decide_eq_true (show (l.length : Int) ≤ 6 by omega), Bool.and_true]; exact right.go l hl l.length 0 (by omega)
theorem refRight.go (l : List Tg) (hl : l.length ≤ 1000000) (ht : ∀ t ∈ l, t.f0.size ≤ 1000000000000000 ∧ t.f1.size ≤ 1000000000000000) : ∀ n i, i + n = l.length → Ev (fun k => F42.l0 k l (i : Int)) (dimv l n i && decide ((l.length : Int) ≤ 6))
 | 0, i, h => by
  refine Ev.succ ?_; simp only [F42.l0, if_neg (show ¬ (i : Int) < (l.length : Int) by omega), dimv, Bool.true_and]; exact Ev.const _
 | n + 1, i, h => by
  have ih := refRight.go l hl ht n (i + 1) (by omega); refine Ev.succ ?_; simp only [F42.l0, if_pos (show (i : Int) < (l.length : Int) by omega), if_pos (show (0 : Int) ≤ (i : Int) by omega), dimv, w64s (show i ≤ 1000000000 by omega)]; refine Ev.bind (named.eq _ (ht _ (rd101_mem (by omega)))) ?_
  cases tagv (rd_T101 l (i : Int)) with
  | false => simp only [Bool.false_eq_true, if_false, Bool.false_and]; exact Ev.const _
  | true =>
   simp only [if_true, Bool.true_and]
   by_cases c : i = 0
   ·simp only [if_neg (show ¬ (i : Int) > 0 by omega), decide_eq_true c, Bool.true_or, Bool.true_and]; exact ih
   ·rw [w64 (n := (i : Int) - 1) (by omega) (by omega)]; simp only [if_pos (show (i : Int) > 0 by omega), if_pos (show 0 ≤ (i : Int) - 1 by omega), if_pos (show (i : Int) - 1 < (l.length : Int) by omega), decide_eq_false c, Bool.false_or]
    by_cases d : Op.bytesLess (rd_T101 l ((i : Int) - 1)).f0.toList (rd_T101 l (i : Int)).f0.toList = true
    ·simp only [d, if_true, Bool.true_and]; exact ih
    ·have d2 : Op.bytesLess (rd_T101 l ((i : Int) - 1)).f0.toList (rd_T101 l (i : Int)).f0.toList = false := by simpa using d
     simp only [d2, Bool.false_eq_true, if_false, Bool.false_and]; exact Ev.const _
theorem refRight.eq (l : List Tg) (hl : l.length ≤ 1000000) (ht : ∀ t ∈ l, t.f0.size ≤ 1000000000000000 ∧ t.f1.size ≤ 1000000000000000) : Ev (fun k => F42.f k l) (rightv l) := by
 unfold F42.f rightv
 exact refRight.go l hl ht l.length 0 (by omega)
def linev (x : Li) : Int := if codev x.f0 = true ∧ optv x.f4 = true ∧ optv x.f5 = true then (if moneyv x.f1 = true then (if withv x.f2 = true ∧ withv x.f3 = true then (if x.f2 = 0 ∧ x.f3 = 0 then 2 else if rightv x.f6 = true then 0 else 14) else 4) else 13) else 7
theorem line.j2 (x : Li) (hx : okL x) (b : Bool) : Ev (fun k => F14.j2 k b x.f0 x.f1 x.f2 x.f3 x.f4 x.f5 x.f6) (if b = true then 2 else if rightv x.f6 = true then 0 else 14) := by
 refine Ev.succ ?_; simp only [F14.j2]
 cases b with
 | true => simp only [if_true]; exact Ev.const _
 | false =>
  simp only [Bool.false_eq_true, if_false]; refine Ev.bind (right.eq x.f6 (by have := hx.2.2.2.2.1; omega)) ?_
  cases rightv x.f6 with
  | true => simp only [if_true]; exact Ev.const _
  | false => simp only [Bool.false_eq_true, if_false]; exact Ev.const _
theorem line.j1 (x : Li) (hx : okL x) (b : Bool) : Ev (fun k => F14.j1 k b x.f0 x.f1 x.f2 x.f3 x.f4 x.f5 x.f6) (if b = true then 4 else if x.f2 = 0 ∧ x.f3 = 0 then 2 else if rightv x.f6 = true then 0 else 14) := by
 refine Ev.succ ?_; simp only [F14.j1]
 cases b with
 | true => simp only [if_true]; exact Ev.const _
 | false =>
  simp only [Bool.false_eq_true, if_false]
  by_cases c2 : x.f2 = 0
  ·simp only [if_pos c2]; have h := line.j2 x hx (x.f3 == 0)
   by_cases c3 : x.f3 = 0
   ·rw [if_pos ⟨c2, c3⟩]; simpa [c3] using h
   ·rw [if_neg (fun h => c3 h.2)]; simpa [c3] using h
  ·simp only [if_neg c2]; have h := line.j2 x hx false; rw [if_neg (fun h => c2 h.1)]; simpa using h
theorem line.j0 (x : Li) (hx : okL x) (b : Bool) : Ev (fun k => F14.j0 k b x.f0 x.f1 x.f2 x.f3 x.f4 x.f5 x.f6) (if b = true then 7 else if moneyv x.f1 = true then (if withv x.f2 = true ∧ withv x.f3 = true then (if x.f2 = 0 ∧ x.f3 = 0 then 2 else if rightv x.f6 = true then 0 else 14) else 4) else 13) := by
 refine Ev.succ ?_; simp only [F14.j0]
 cases b with
 | true => simp only [if_true]; exact Ev.const _
 | false =>
  simp only [Bool.false_eq_true, if_false, F35.eq x.f1 hx.2.1, Option.bind_some, within.eq]
  cases moneyv x.f1 with
  | false => simp only [Bool.false_eq_true, if_false]; exact Ev.const _
  | true =>
   simp only [if_true]
   cases h2 : withv x.f2 with
   | false =>
    have h := line.j1 x hx true
    simpa using h
   | true =>
    simp only [if_true]
    cases h3 : withv x.f3 with
    | false => have h := line.j1 x hx true; simpa using h
    | true => have h := line.j1 x hx false; simpa using h
theorem F14.eq (x : Li) (hx : okL x) : Ev (fun k => F14.f k x.f0 x.f1 x.f2 x.f3 x.f4 x.f5 x.f6) (linev x) := by
 unfold F14.f linev
 refine Ev.bind (F33.eq x.f0) ?_
 cases codev x.f0 with
 | false => have h := line.j0 x hx true; simpa using h
 | true =>
  simp only [if_true]; refine Ev.bind (optional.eq x.f4) ?_
  cases optv x.f4 with
  | false => have h := line.j0 x hx true; simpa using h
  | true =>
   simp only [if_true]; refine Ev.bind (optional.eq x.f5) ?_
   cases optv x.f5 with
   | false => have h := line.j0 x hx true; simpa using h
   | true => have h := line.j0 x hx false; simpa using h
theorem refLine.j2 (x : Li) (hx : okL x) (b : Bool) : Ev (fun k => F15.j2 k b x.f0 x.f1 x.f2 x.f3 x.f4 x.f5 x.f6) (if b = true then 2 else if rightv x.f6 = true then 0 else 14) := by
 refine Ev.succ ?_; simp only [F15.j2]
 cases b with
 | true => simp only [if_true]; exact Ev.const _
 | false =>
  simp only [Bool.false_eq_true, if_false]; refine Ev.bind (refRight.eq x.f6 (by have := hx.2.2.2.2.1; omega) hx.2.2.2.2.2) ?_
  cases rightv x.f6 with
  | true => simp only [if_true]; exact Ev.const _
  | false => simp only [Bool.false_eq_true, if_false]; exact Ev.const _
theorem refLine.j1 (x : Li) (hx : okL x) (b : Bool) : Ev (fun k => F15.j1 k b x.f0 x.f1 x.f2 x.f3 x.f4 x.f5 x.f6) (if b = true then 4 else if x.f2 = 0 ∧ x.f3 = 0 then 2 else if rightv x.f6 = true then 0 else 14) := by
 refine Ev.succ ?_; simp only [F15.j1]
 cases b with
 | true => simp only [if_true]; exact Ev.const _
 | false =>
  simp only [Bool.false_eq_true, if_false]
  by_cases c2 : x.f2 = 0
  ·simp only [if_pos c2]; have h := refLine.j2 x hx (x.f3 == 0)
   by_cases c3 : x.f3 = 0
   ·rw [if_pos ⟨c2, c3⟩]; simpa [c3] using h
   ·rw [if_neg (fun h => c3 h.2)]; simpa [c3] using h
  ·simp only [if_neg c2]; have h := refLine.j2 x hx false; rw [if_neg (fun h => c2 h.1)]; simpa using h
theorem refLine.j0 (x : Li) (hx : okL x) (b : Bool) : Ev (fun k => F15.j0 k b x.f0 x.f1 x.f2 x.f3 x.f4 x.f5 x.f6) (if b = true then 7 else if moneyv x.f1 = true then (if withv x.f2 = true ∧ withv x.f3 = true then (if x.f2 = 0 ∧ x.f3 = 0 then 2 else if rightv x.f6 = true then 0 else 14) else 4) else 13) := by
 refine Ev.succ ?_; simp only [F15.j0]
 cases b with
 | true => simp only [if_true]; exact Ev.const _
 | false =>
  simp only [Bool.false_eq_true, if_false, refWithin.eq, Option.bind_some]; refine Ev.bind (ref07.eq x.f1) ?_
  cases moneyv x.f1 with
  | false => simp only [Bool.false_eq_true, if_false]; exact Ev.const _
  | true =>
   simp only [if_true]
   cases h2 : withv x.f2 with
   | false =>
    have h := refLine.j1 x hx true
    simpa using h
   | true =>
    simp only [if_true]
    cases h3 : withv x.f3 with
    | false => have h := refLine.j1 x hx true; simpa using h
    | true => have h := refLine.j1 x hx false; simpa using h
theorem F15.eq (x : Li) (hx : okL x) : Ev (fun k => F15.f k x.f0 x.f1 x.f2 x.f3 x.f4 x.f5 x.f6) (linev x) := by
 unfold F15.f linev
 refine Ev.bind (F38.eq x.f0 hx.1) ?_
 cases codev x.f0 with
 | false => have h := refLine.j0 x hx true; simpa using h
 | true =>
  simp only [if_true]; refine Ev.bind (refOptional.eq x.f4 hx.2.2.1) ?_
  cases optv x.f4 with
  | false => have h := refLine.j0 x hx true; simpa using h
  | true =>
   simp only [if_true]; refine Ev.bind (refOptional.eq x.f5 hx.2.2.2.1) ?_
   cases optv x.f5 with
   | false => have h := refLine.j0 x hx true; simpa using h
   | true => have h := refLine.j0 x hx false; simpa using h
def inW (x : Int) : Prop := -9223372036854775808 ≤ x ∧ x ≤ 9223372036854775807
instance (x : Int) : Decidable (inW x) := by unfold inW; infer_instance
def sumv (l : List Int) : Int × Bool := if inW l.sum then (l.sum, true) else (0, false)
theorem sum_bound : ∀ (l : List Int), (∀ x ∈ l, inW x) → -9223372036854775808 * (l.length : Int) ≤ l.sum ∧ l.sum ≤ 9223372036854775808 * (l.length : Int)
 | [], _ => by simp
 | x :: l, h => by
  have h1 := sum_bound l (fun y hy => h y (List.mem_cons_of_mem _ hy)); have h2 := h x List.mem_cons_self
  unfold inW at h2
  simp only [List.sum_cons, List.length_cons]
  omega
theorem two_words (hi lo x : Int) (h0 : 0 ≤ hi) (h1 : hi < 18446744073709551616) (l0 : 0 ≤ lo) (l1 : lo < 18446744073709551616) (hx : inW x) :
  ((hi + x / 9223372036854775808 + (lo + x % 18446744073709551616) / 18446744073709551616) % 18446744073709551616) * 18446744073709551616 + (lo + x) % 18446744073709551616 = (hi * 18446744073709551616 + lo + x) % 340282366920938463463374607431768211456 := by
 unfold inW at hx
 omega
theorem sum_g : ∀ (l : List Int) (hi lo : Int), (∀ x ∈ l, inW x) → 0 ≤ hi → hi < 18446744073709551616 → 0 ≤ lo → lo < 18446744073709551616 →
  0 ≤ (F74.g l hi lo).1 ∧ (F74.g l hi lo).1 < 18446744073709551616 ∧ 0 ≤ (F74.g l hi lo).2 ∧ (F74.g l hi lo).2 < 18446744073709551616 ∧
  (F74.g l hi lo).1 * 18446744073709551616 + (F74.g l hi lo).2 = (hi * 18446744073709551616 + lo + l.sum) % 340282366920938463463374607431768211456
 | [], hi, lo, _, h0, h1, l0, l1 => by
  simp only [F74.g, List.sum_nil]; refine ⟨h0, h1, l0, l1, ?_⟩
  omega
 | x :: l, hi, lo, hx, h0, h1, l0, l1 => by
  have e := two_words hi lo x h0 h1 l0 l1 (hx x List.mem_cons_self); simp only [F74.g, List.sum_cons]; have b1 := Int.emod_nonneg (hi + x / 9223372036854775808 + (lo + x % 18446744073709551616) / 18446744073709551616) (b := 18446744073709551616) (by omega); have b2 := Int.emod_lt_of_pos (hi + x / 9223372036854775808 + (lo + x % 18446744073709551616) / 18446744073709551616) (b := 18446744073709551616) (by omega); have b3 := Int.emod_nonneg (lo + x) (b := 18446744073709551616) (by omega); have b4 := Int.emod_lt_of_pos (lo + x) (b := 18446744073709551616) (by omega); obtain ⟨g1, g2, g3, g4, g5⟩ := sum_g l _ _ (fun y hy => hx y (List.mem_cons_of_mem _ hy)) b1 b2 b3 b4; refine ⟨g1, g2, g3, g4, ?_⟩; rw [g5, e]
  omega
theorem sum_e (H L S : Int) (h0 : 0 ≤ H) (h1 : H < 18446744073709551616) (l0 : 0 ≤ L) (l1 : L < 18446744073709551616) (hT : H * 18446744073709551616 + L = S % 340282366920938463463374607431768211456) (s0 : -170141183460469231731687303715884105728 ≤ S) (s1 : S < 170141183460469231731687303715884105728) :
  F74.e (H, L) = if inW S then (S, true) else (0, false) := by
 unfold F74.e
 simp only; have hw : wrap64 L = if L < 9223372036854775808 then L else L - 18446744073709551616 := by unfold wrap64; split <;> omega
 rw [hw]
 by_cases c : inW S
 ·rw [if_pos c]
  unfold inW at c
  have hL : (if L < 9223372036854775808 then L else L - 18446744073709551616) = S := by split <;> omega
  rw [hL, if_neg (by simp only [ne_eq, Decidable.not_not]; omega)]
 ·rw [if_neg c]
  unfold inW at c
  rw [if_pos ?_]
  split <;> omega
theorem F74.eq (l : List Int) (hl : l.length ≤ 1000000) (hx : ∀ x ∈ l, inW x) : F74.f l = some (sumv l) := by
 unfold F74.f sumv
 rw [if_pos (by omega)]; obtain ⟨g1, g2, g3, g4, g5⟩ := sum_g l 0 0 hx (by omega) (by omega) (by omega) (by omega); have hb := sum_bound l hx; have := sum_e _ _ l.sum g1 g2 g3 g4 (by rw [g5]; congr 1; omega) (by omega) (by omega); rw [← this]
theorem and32 (x : Int) : Go.bits .and .i64 x 4294967295 = x % 4294967296 := by
 have h1 : (BitVec.ofInt 64 x &&& BitVec.ofInt 64 4294967295).toNat = (x % 18446744073709551616).toNat % 4294967296 := by
  rw [BitVec.toNat_and, BitVec.toNat_ofInt, BitVec.toNat_ofInt]; have e : ((4294967295 : Int) % ((2 ^ 64 : Nat) : Int)).toNat = 2 ^ 32 - 1 := by decide
  rw [e, Nat.and_two_pow_sub_one_eq_mod]
  congr 1
 unfold Go.bits
 show IntKind.i64.wrap (((BitVec.ofInt 64 x &&& BitVec.ofInt 64 4294967295).toNat : Nat) : Int) = _; rw [h1, IntKind.wrap_i64]
 omega
theorem refSum.go (l : List Int) (hl : l.length ≤ 1000000) (hx : ∀ x ∈ l, inW x) : ∀ (n i : Nat) (a b : Int), i + n = l.length → -2147483648 * (i : Int) ≤ a → a ≤ 2147483648 * (i : Int) → 0 ≤ b → b ≤ 4294967296 * (i : Int) → a * 4294967296 + b = (l.take i).sum → Ev (fun k => F52.l0 k l a b (i : Int)) (sumv l)
 | 0, i, a, b, h, a0, a1, b0, b1, hs => by
  have ht : l.take i = l := List.take_of_length_le (by omega); rw [ht] at hs; refine Ev.succ ?_; simp only [F52.l0, if_neg (show ¬ (i : Int) < (l.length : Int) by omega)]; have hw : wrap64 (a + b / 4294967296) = a + b / 4294967296 := w64 (by omega) (by omega); rw [hw, and32]
  unfold sumv
  by_cases c1 : a + b / 4294967296 < -2147483648
  ·simp only [if_pos c1, if_neg (show ¬ inW l.sum by unfold inW; omega)]; exact Ev.const _
  ·by_cases c2 : a + b / 4294967296 > 2147483647
   ·simp only [if_neg c1, if_pos c2, if_neg (show ¬ inW l.sum by unfold inW; omega)]; exact Ev.const _
   ·simp only [if_neg c1, if_neg c2, if_pos (show inW l.sum by unfold inW; omega)]; rw [w64 (n := (a + b / 4294967296) * 4294967296) (by omega) (by omega), w64 (by omega) (by omega), show (a + b / 4294967296) * 4294967296 + b % 4294967296 = l.sum by omega]; exact Ev.const _
 | n + 1, i, a, b, h, a0, a1, b0, b1, hs => by
  have hi : i < l.length := by omega
  have hrd : rd l (i : Int) = l[i] := by simp [rd, hi]
  have hxi := hx l[i] (List.getElem_mem hi)
  have hst : (l.take (i + 1)).sum = (l.take i).sum + l[i] := by
   rw [List.take_succ_eq_append_getElem hi, List.sum_append]; simp
  refine Ev.succ ?_; simp only [F52.l0, if_pos (show (i : Int) < (l.length : Int) by omega), if_pos (show (0 : Int) ≤ (i : Int) by omega), hrd, and32]; generalize l[i] = x at hxi hst
  unfold inW at hxi
  rw [w64 (n := a + x / 4294967296) (by omega) (by omega), w64 (n := b + x % 4294967296) (by omega) (by omega), w64 (n := (i : Int) + 1) (by omega) (by omega), show (i : Int) + 1 = ((i + 1 : Nat) : Int) by omega]; exact refSum.go l hl hx n (i + 1) _ _ (by omega) (by omega) (by omega) (by omega) (by omega) (by rw [hst, ← hs]; omega)
theorem refSum.eq (l : List Int) (hl : l.length ≤ 1000000) (hx : ∀ x ∈ l, inW x) : Ev (fun k => F52.f k l) (sumv l) := by
 unfold F52.f
 exact refSum.go l hl hx l.length 0 0 0 (by omega) (by omega) (by omega) (by omega) (by omega) (by simp)
section
variable {κ : Type} [DecidableEq κ]
def amtsOf (key : Li → κ) (l : List Li) (k : κ) : List Int := (l.filter (fun x => decide (key x = k))).map (·.f2)
def basesOf (key : Li → κ) (l : List Li) (k : κ) : List Int := (l.filter (fun x => decide (key x = k))).map (·.f3)
theorem amts_snoc (key : Li → κ) (p : List Li) (x : Li) (k : κ) : amtsOf key (p ++ [x]) k = amtsOf key p k ++ (if key x = k then [x.f2] else []) := by
 unfold amtsOf
 rw [List.filter_append, List.map_append]
 by_cases c : key x = k <;> simp [c]
theorem bases_snoc (key : Li → κ) (p : List Li) (x : Li) (k : κ) : basesOf key (p ++ [x]) k = basesOf key p k ++ (if key x = k then [x.f3] else []) := by
 unfold basesOf
 rw [List.filter_append, List.map_append]
 by_cases c : key x = k <;> simp [c]
def colInv (key : Li → κ) (pre : List Li) (L : List (Col κ)) : Prop := (∀ q ∈ L, q.2.1 = amtsOf key pre q.1 ∧ q.2.2 = basesOf key pre q.1) ∧ ∀ k, k ∈ L.map (·.1) ↔ ∃ x ∈ pre, key x = k
theorem colInv_step (key : Li → κ) (pre : List Li) (L : List (Col κ)) (x : Li) (h : colInv key pre L) : colInv key (pre ++ [x]) (colStep key L x) := by
 have hn : ∀ q ∈ colNew L (key x), q.2.1 = amtsOf key pre q.1 ∧ q.2.2 = basesOf key pre q.1 := by
  intro q hq
  unfold colNew at hq
  by_cases c : L.any (fun q => decide (q.1 = key x)) = true
  ·rw [if_pos c] at hq; exact h.1 q hq
  ·rw [if_neg c] at hq
   rcases List.mem_append.1 hq with h3 | h3
   ·exact h.1 q h3
   ·simp only [List.mem_singleton] at h3; subst h3; have hno : ∀ y ∈ pre, ¬ key y = key x := fun y hy e => c ((any_key L _).2 ((h.2 _).2 ⟨y, hy, e⟩))
    have hf : pre.filter (fun y => decide (key y = key x)) = [] := by
     rw [List.filter_eq_nil_iff]; intro y hy
     simpa using hno y hy
    simp [amtsOf, basesOf, hf]
 constructor
 ·intro q hq
  unfold colStep colPut at hq
  obtain ⟨q0, hq0, rfl⟩ := List.mem_map.1 hq; obtain ⟨h1, h2⟩ := hn q0 hq0
  by_cases c : q0.1 = key x
  ·rw [if_pos c]; simp only [amtsOf, basesOf, List.filter_append, List.map_append]; rw [h1, h2]
   simp [amtsOf, basesOf, c]
  ·rw [if_neg c]; have c2 : ¬ key x = q0.1 := fun e => c e.symm; simp only [amtsOf, basesOf, List.filter_append, List.map_append]; rw [h1, h2]
   simp [amtsOf, basesOf, c2]
 ·intro k
  unfold colStep
  rw [colPut_keys]
  have hk : k ∈ (colNew L (key x)).map (·.1) ↔ k ∈ L.map (·.1) ∨ k = key x := by
   unfold colNew
   by_cases c : L.any (fun q => decide (q.1 = key x)) = true
   ·rw [if_pos c]; exact ⟨.inl, fun hh => hh.elim id (fun e => e ▸ (any_key L _).1 c)⟩
   ·rw [if_neg c]; simp
  rw [hk, h.2 k]
  constructor
  ·rintro (⟨y, hy, e⟩ | e)
   ·exact ⟨y, List.mem_append_left _ hy, e⟩
   ·exact ⟨x, by simp, e.symm⟩
  ·rintro ⟨y, hy, e⟩
   rcases List.mem_append.1 hy with hy | hy
   ·exact .inl ⟨y, hy, e⟩
   ·simp only [List.mem_singleton] at hy; subst hy; exact .inr e.symm
theorem colInv_fold (key : Li → κ) : ∀ (l pre : List Li) (L : List (Col κ)), colInv key pre L → colInv key (pre ++ l) (l.foldl (colStep key) L)
 | [], pre, L, h => by simpa using h
 | x :: l, pre, L, h => by
  have := colInv_fold key l (pre ++ [x]) _ (colInv_step key pre L x h)
  simpa using this
theorem colsOf_inv (key : Li → κ) (l : List Li) : colInv key l (colsOf key l) := by
 have := colInv_fold key l [] [] ⟨by simp, by simp⟩
 simpa [colsOf] using this
end
def sumE (lim : Int) (l : List Int) : Int × Int := if -lim ≤ l.sum ∧ l.sum ≤ lim then (l.sum, 0) else (0, 4)
theorem F51.eq (lim : Int) (h0 : 0 ≤ lim) (h1 : lim ≤ 9223372036854775807) (l : List Int) (hl : l.length ≤ 1000000) (hx : ∀ x ∈ l, inW x) : F51.f lim l = some (sumE lim l) := by
 unfold F51.f
 rw [F74.eq l hl hx, Option.bind_some]
 unfold sumv sumE F36.f
 rw [w64 (n := -lim) (by omega) (by omega)]
 by_cases c : inW l.sum
 ·simp only [if_pos c, if_true]
  by_cases c1 : -lim ≤ l.sum
  ·by_cases c2 : l.sum ≤ lim
   ·simp [c1, c2]
   ·simp [c1, c2]
  ·have c1' : ¬ l.sum ≥ -lim := c1
   simp [c1, c1']
 ·have : ¬ (-lim ≤ l.sum ∧ l.sum ≤ lim) := fun h => c (by unfold inW; omega)
  simp [c, this]
theorem bothf.eq (lim : Int) (h0 : 0 ≤ lim) (h1 : lim ≤ 9223372036854775807) (A B : List Int) (ha : A.length ≤ 1000000) (hb : B.length ≤ 1000000) (hxa : ∀ x ∈ A, inW x) (hxb : ∀ x ∈ B, inW x) : bothf lim A B = some (if (-lim ≤ A.sum ∧ A.sum ≤ lim) ∧ (-lim ≤ B.sum ∧ B.sum ≤ lim) then (A.sum, B.sum, 0) else (0, 0, 4)) := by
 unfold bothf
 rw [F51.eq lim h0 h1 A ha hxa, Option.bind_some, F51.eq lim h0 h1 B hb hxb]
 unfold sumE
 by_cases c1 : -lim ≤ A.sum ∧ A.sum ≤ lim
 ·by_cases c2 : -lim ≤ B.sum ∧ B.sum ≤ lim
  ·simp [c1, c2]
  ·simp [c1, c2]
 ·simp [c1]
def okA (l : List Li) : Prop := l.length ≤ 1000000 ∧ ∀ x ∈ l, inW x.f2 ∧ inW x.f3
theorem amts_in {κ : Type} [DecidableEq κ] (key : Li → κ) {l : List Li} (h : okA l) (k : κ) : (amtsOf key l k).length ≤ 1000000 ∧ (basesOf key l k).length ≤ 1000000 ∧ (∀ x ∈ amtsOf key l k, inW x) ∧ ∀ x ∈ basesOf key l k, inW x := by
 have hf : (l.filter (fun x => decide (key x = k))).length ≤ l.length := List.length_filter_le _ _; refine ⟨by unfold amtsOf; rw [List.length_map]; have := h.1; omega, by unfold basesOf; rw [List.length_map]; have := h.1; omega, fun y hy => ?_, fun y hy => ?_⟩
 ·obtain ⟨x, hx, rfl⟩ := List.mem_map.1 hy; exact (h.2 x ((List.mem_filter.1 hx).1)).1
 ·obtain ⟨x, hx, rfl⟩ := List.mem_map.1 hy; exact (h.2 x ((List.mem_filter.1 hx).1)).2
def bal1 (l : List Li) (c : ByteArray) : Bool := decide ((amtsOf curKey l c).sum = 0 ∧ (basesOf curKey l c).sum = 0)
def balv (l : List Li) : Bool := l.all (fun x => bal1 l x.f1)
theorem balL_eq (l : List Li) (h : okA l) : ∀ L : List (Col ByteArray), (∀ q ∈ L, q.2.1 = amtsOf curKey l q.1 ∧ q.2.2 = basesOf curKey l q.1) → balL L = some (L.all (fun q => bal1 l q.1))
 | [], _ => rfl
 | q :: L, hq => by
  obtain ⟨h1, h2⟩ := hq q List.mem_cons_self; obtain ⟨b1, b2, b3, b4⟩ := amts_in curKey h q.1; have ih := balL_eq l h L (fun z hz => hq z (List.mem_cons_of_mem _ hz)); simp only [balL, h1, h2, bothf.eq 0 (by omega) (by omega) _ _ b1 b2 b3 b4, Option.bind_some, List.all_cons]
  unfold bal1
  by_cases c : (amtsOf curKey l q.1).sum = 0 ∧ (basesOf curKey l q.1).sum = 0
  ·obtain ⟨c1, c2⟩ := c; have e : (if (-0 ≤ (amtsOf curKey l q.1).sum ∧ (amtsOf curKey l q.1).sum ≤ 0) ∧ (-0 ≤ (basesOf curKey l q.1).sum ∧ (basesOf curKey l q.1).sum ≤ 0) then ((amtsOf curKey l q.1).sum, (basesOf curKey l q.1).sum, (0 : Int)) else (0, 0, 4)) = ((amtsOf curKey l q.1).sum, (basesOf curKey l q.1).sum, 0) := if_pos (by omega); rw [e]; simp only [if_true, c1, c2, and_self, decide_true, Bool.true_and]; exact ih
  ·have e : (if (-0 ≤ (amtsOf curKey l q.1).sum ∧ (amtsOf curKey l q.1).sum ≤ 0) ∧ (-0 ≤ (basesOf curKey l q.1).sum ∧ (basesOf curKey l q.1).sum ≤ 0) then ((amtsOf curKey l q.1).sum, (basesOf curKey l q.1).sum, (0 : Int)) else (0, 0, 4)) = (0, 0, 4) := if_neg (by omega); rw [e, decide_eq_false c]
   rfl
theorem all_keys (l : List Li) (p : ByteArray → Bool) (L : List (Col ByteArray)) (h : ∀ k, k ∈ L.map (·.1) ↔ ∃ x ∈ l, curKey x = k) : L.all (fun q => p q.1) = l.all (fun x => p x.f1) := by
 rw [Bool.eq_iff_iff, List.all_eq_true, List.all_eq_true]
 constructor
 ·intro hq x hx; obtain ⟨q, hq2, e⟩ := List.mem_map.1 ((h x.f1).2 ⟨x, hx, rfl⟩); rw [← e]; exact hq q hq2
 ·intro hx q hq; obtain ⟨x, hx2, e⟩ := (h q.1).1 (List.mem_map.2 ⟨q, hq, rfl⟩); rw [← e]; exact hx x hx2
theorem F23.eq (l : List Li) (h : okA l) : F23.f l = some (balv l) := by
 unfold F23.f balv
 rw [if_pos h.1]; have hi := colsOf_inv curKey l; rw [balL_eq l h _ hi.1, all_keys l (bal1 l) _ hi.2]
theorem refSums.go (l : List Li) (h : okA l) (c : ByteArray) : ∀ (n i : Nat) (A B : List Int), i + n = l.length → A = amtsOf curKey (l.take i) c → B = basesOf curKey (l.take i) c → Ev (fun k => F50.l0 k l c A B (i : Int)) ((sumv (amtsOf curKey l c)).1, (sumv (basesOf curKey l c)).1, (sumv (amtsOf curKey l c)).2 && (sumv (basesOf curKey l c)).2)
 | 0, i, A, B, hi, hA, hB => by
  have ht : l.take i = l := List.take_of_length_le (by omega); rw [ht] at hA hB; obtain ⟨b1, b2, b3, b4⟩ := amts_in curKey h c; refine Ev.succ ?_; simp only [F50.l0, if_neg (show ¬ (i : Int) < (l.length : Int) by omega)]; rw [hA, hB]; refine Ev.bind (refSum.eq _ b1 b3) (Ev.bind (refSum.eq _ b2 b4) ?_)
  cases hh : (sumv (amtsOf curKey l c)).2 with
  | true => simp only [if_true, Bool.true_and]; exact Ev.const _
  | false => simp only [Bool.false_eq_true, if_false, Bool.false_and]; exact Ev.const _
 | n + 1, i, A, B, hi, hA, hB => by
  have hlt : i < l.length := by omega
  have hll := h.1; have hrd : rd_T24 l (i : Int) = l[i] := by simp [rd_T24, hlt]
  have hAl : A.length ≤ i := by
   rw [hA]; unfold amtsOf; rw [List.length_map]; refine Nat.le_trans (List.length_filter_le _ _) ?_; rw [List.length_take]; omega
  have hBl : B.length ≤ i := by
   rw [hB]; unfold basesOf; rw [List.length_map]; refine Nat.le_trans (List.length_filter_le _ _) ?_; rw [List.length_take]; omega
  refine Ev.succ ?_; simp only [F50.l0, if_pos (show (i : Int) < (l.length : Int) by omega), if_pos (show (0 : Int) ≤ (i : Int) by omega), hrd, byt_inj, w64s (show i ≤ 1000000000 by omega)]
  by_cases e : l[i].f1 = c
  ·simp only [if_pos e, if_pos (show A.length < 17592186044416 by omega), if_pos (show B.length < 17592186044416 by omega)]; refine refSums.go l h c n (i + 1) _ _ (by omega) ?_ ?_
   ·rw [hA, List.take_succ_eq_append_getElem hlt, amts_snoc, if_pos (show curKey l[i] = c from e)]
   ·rw [hB, List.take_succ_eq_append_getElem hlt, bases_snoc, if_pos (show curKey l[i] = c from e)]
  ·simp only [if_neg e]; refine refSums.go l h c n (i + 1) _ _ (by omega) ?_ ?_
   ·rw [hA, List.take_succ_eq_append_getElem hlt, amts_snoc, if_neg (show ¬ curKey l[i] = c from e), List.append_nil]
   ·rw [hB, List.take_succ_eq_append_getElem hlt, bases_snoc, if_neg (show ¬ curKey l[i] = c from e), List.append_nil]
theorem refSums.eq (l : List Li) (h : okA l) (c : ByteArray) : Ev (fun k => F50.f k l c) ((sumv (amtsOf curKey l c)).1, (sumv (basesOf curKey l c)).1, (sumv (amtsOf curKey l c)).2 && (sumv (basesOf curKey l c)).2) := by
 unfold F50.f
 exact refSums.go l h c l.length 0 [] [] (by omega) (by simp [amtsOf]) (by simp [basesOf])
def cursOf (l : List Li) : List ByteArray := l.foldl (fun o x => insC o x.f1) []
theorem cursOf_fold (l : List Li) : cursOf l = isortC (l.map (·.f1)) := by
 unfold cursOf isortC
 rw [List.foldl_map]
theorem cursOf_mem (l : List Li) (c : ByteArray) : c ∈ cursOf l ↔ ∃ x ∈ l, x.f1 = c := by
 rw [cursOf_fold]
 unfold isortC
 rw [foldC_mem]
 simp
theorem cursOf_keys (l : List Li) : isortC ((colsOf curKey l).map (·.1)) = cursOf l := by
 rw [cursOf_fold]; refine sortedC_ext (foldC_sorted _ [] List.Pairwise.nil) (foldC_sorted _ [] List.Pairwise.nil) (fun x => ?_)
 unfold isortC
 rw [foldC_mem, foldC_mem, (colsOf_inv curKey l).2 x]
 simp [curKey]
theorem cursOf_len (l : List Li) : (cursOf l).length ≤ l.length := by
 have : ∀ (m : List Li) (o : List ByteArray), (m.foldl (fun o x => insC o x.f1) o).length ≤ o.length + m.length := by
  intro m
  induction m with
  | nil => intro o; simp
  | cons x m ih =>
   intro o; have h1 := ih (insC o x.f1); have h2 := insC_length o x.f1; simp only [List.foldl_cons, List.length_cons]
   omega
 have h := this l []
 simpa [cursOf] using h
theorem refBal.go (l : List Li) (h : okA l) (C : List ByteArray) (hC : C.length ≤ 1000000) : ∀ (n i : Nat), i + n = C.length → Ev (fun k => F24.l0 k l C (i : Int)) ((C.drop i).all (bal1 l))
 | 0, i, hi => by
  refine Ev.succ ?_; simp only [F24.l0, if_neg (show ¬ (i : Int) < (C.length : Int) by omega)]; rw [List.drop_eq_nil_of_le (by omega)]; exact Ev.const _
 | n + 1, i, hi => by
  have hlt : i < C.length := by omega
  have hrd : rdOf ByteArray.empty C (i : Int) = C[i] := by simp [rdOf, hlt]
  have ih := refBal.go l h C hC n (i + 1) (by omega); refine Ev.succ ?_; simp only [F24.l0, if_pos (show (i : Int) < (C.length : Int) by omega), if_pos (show (0 : Int) ≤ (i : Int) by omega), hrd, w64s (show i ≤ 1000000000 by omega)]; refine Ev.bind (refSums.eq l h C[i]) ?_; rw [List.drop_eq_getElem_cons hlt, List.all_cons]
  unfold bal1 sumv
  by_cases c1 : (amtsOf curKey l C[i]).sum = 0
  ·by_cases c2 : (basesOf curKey l C[i]).sum = 0
   ·have e1 : inW (amtsOf curKey l C[i]).sum := by rw [c1]; unfold inW; omega
    have e2 : inW (basesOf curKey l C[i]).sum := by rw [c2]; unfold inW; omega
    have e1' : inW 0 := by unfold inW; omega
    simp only [c1, c2, if_pos e1', Bool.and_self, if_true, and_self, decide_true, Bool.true_and]; exact ih
   ·have e1' : inW 0 := by unfold inW; omega
    by_cases e2 : inW (basesOf curKey l C[i]).sum
    ·simp only [c1, if_pos e1', if_pos e2, Bool.and_self, if_true, if_neg c2, c2, and_false, decide_false, Bool.false_and]; exact Ev.const _
    ·simp only [c1, if_pos e1', if_neg e2, Bool.and_false, Bool.false_eq_true, if_false, c2, and_false, decide_false, Bool.false_and]; exact Ev.const _
  ·by_cases e1 : inW (amtsOf curKey l C[i]).sum
   ·by_cases e2 : inW (basesOf curKey l C[i]).sum
    ·simp only [if_pos e1, if_pos e2, Bool.and_self, if_true, if_neg c1, c1, false_and, decide_false, Bool.false_and]; exact Ev.const _
    ·simp only [if_pos e1, if_neg e2, Bool.and_false, Bool.false_eq_true, if_false, c1, false_and, decide_false, Bool.false_and]; exact Ev.const _
   ·simp only [if_neg e1, Bool.false_and, Bool.false_eq_true, if_false, c1, false_and, decide_false]; exact Ev.const _
theorem refBal.eq (l : List Li) (h : okA l) : Ev (fun k => F24.f k l) (balv l) := by
 unfold F24.f F49.f
 simp only [if_pos h.1, Option.bind_some]; have h1 := refBal.go l h (cursOf l) (Nat.le_trans (cursOf_len l) h.1) (cursOf l).length 0 (by omega)
 have h2 : ((cursOf l).drop 0).all (bal1 l) = balv l := by
  rw [List.drop_zero]
  unfold balv
  rw [Bool.eq_iff_iff, List.all_eq_true, List.all_eq_true]
  constructor
  ·exact fun hc x hx => hc _ ((cursOf_mem l _).2 ⟨x, hx, rfl⟩)
  ·intro hx c hc; obtain ⟨x, hx2, rfl⟩ := (cursOf_mem l c).1 hc; exact hx x hx2
 rw [h2] at h1; exact h1
def dayv (n : Int) : Bool := decide (0 ≤ n ∧ n ≤ 109572)
def bef (y : Int) : Int := 365 * (y - 1900) + ((y - 1) / 4 - (y - 1) / 100 + (y - 1) / 400 - 460)
def lpv (y : Int) : Bool := (decide (y % 4 = 0) && !decide (y % 100 = 0)) || decide (y % 400 = 0)
theorem F86.eq {y : Int} (h0 : 1900 ≤ y) (h1 : y ≤ 2200) : F86.f y = some (bef y) := by
 unfold F86.f bef
 rw [w64 (n := y - 1) (by omega) (by omega), w64 (n := y - 1900) (by omega) (by omega), w64 (n := 365 * (y - 1900)) (by omega) (by omega)]; rw [Int.tdiv_eq_ediv_of_nonneg (by omega), Int.tdiv_eq_ediv_of_nonneg (by omega), Int.tdiv_eq_ediv_of_nonneg (by omega)]; rw [w64 (n := (y - 1) / 4) (by omega) (by omega), w64 (n := (y - 1) / 100) (by omega) (by omega), w64 (n := (y - 1) / 400) (by omega) (by omega)]; rw [w64 (n := (y - 1) / 4 - (y - 1) / 100) (by omega) (by omega)]; rw [w64 (n := (y - 1) / 4 - (y - 1) / 100 + (y - 1) / 400) (by omega) (by omega)]; rw [w64 (n := (y - 1) / 4 - (y - 1) / 100 + (y - 1) / 400 - 474) (by omega) (by omega)]; rw [w64 (n := (y - 1) / 4 - (y - 1) / 100 + (y - 1) / 400 - 474 + 18) (by omega) (by omega)]; rw [w64 (n := (y - 1) / 4 - (y - 1) / 100 + (y - 1) / 400 - 474 + 18 - 4) (by omega) (by omega)]; rw [w64 (by omega) (by omega)]
 congr 1
 omega
theorem F99.eq {y : Int} (h0 : 1900 ≤ y) : F99.f y = some (lpv y) := by
 unfold F99.f lpv
 rw [Int.tmod_eq_emod_of_nonneg (by omega), Int.tmod_eq_emod_of_nonneg (by omega), Int.tmod_eq_emod_of_nonneg (by omega)]
 by_cases a : y % 4 = 0 <;> by_cases b : y % 100 = 0 <;> by_cases c : y % 400 = 0 <;> simp [a, b, c] <;> omega
def ml (lp : Bool) (m : Int) : Int := if m = 2 then (if lp = true then 29 else 28) else rd months (m - 1)
theorem F87.eq {y m : Int} (h0 : 1900 ≤ y) (h1 : 1 ≤ m) (h2 : m ≤ 12) : F87.f y m months = some (ml (lpv y) m) := by
 unfold F87.f ml
 rw [if_neg (by decide), if_neg (by omega), if_neg (by omega), F99.eq h0]
 by_cases e : m = 2
 ·rw [if_pos e, if_pos e, Option.bind_some]
  cases lpv y with
  | true => rfl
  | false => subst e; rfl
 ·rw [if_neg e, if_neg e]
def tl (lp : Bool) : Nat → Int
 | 0 => 0
 | j + 1 => ml lp (12 - (j : Int)) + tl lp j
theorem tl_12 (lp : Bool) : tl lp 12 = if lp = true then 366 else 365 := by cases lp <;> rfl
theorem ml_range (lp : Bool) : ∀ j : Nat, j < 12 → 28 ≤ ml lp (12 - (j : Int)) ∧ ml lp (12 - (j : Int)) ≤ 31 := by
 intro j hj; have : ∀ lp : Bool, ∀ j : Fin 12, 28 ≤ ml lp (12 - ((j.val : Nat) : Int)) ∧ ml lp (12 - ((j.val : Nat) : Int)) ≤ 31 := by decide
 exact this lp ⟨j, hj⟩
theorem F77.go1 {y : Int} (h0 : 1900 ≤ y) (d : Int) : ∀ (j : Nat) (n : Int), j ≤ 12 → 0 ≤ n → n < tl (lpv y) j → n ≤ 1000 → ∃ a b, Ev (fun k => F77.l1 k n months y (13 - (j : Int)) d) (y, a, b, 0)
 | 0, n, _, hn, h, _ => by simp [tl] at h; omega
 | j + 1, n, hj, hn, h, hn2 => by
  have hr := ml_range (lpv y) j (by omega); have e : (13 : Int) - ((j + 1 : Nat) : Int) = 12 - (j : Int) := by omega
  have hL : F87.f y (13 - ((j + 1 : Nat) : Int)) months = some (ml (lpv y) (12 - (j : Int))) := by
   rw [e]; exact F87.eq h0 (by omega) (by omega)
  by_cases c : n ≥ ml (lpv y) (12 - (j : Int))
  ·obtain ⟨a, b, ih⟩ := F77.go1 h0 d j (n - ml (lpv y) (12 - (j : Int))) (by omega) (by omega) (by simp only [tl] at h; omega) (by omega); refine ⟨a, b, Ev.succ ?_⟩; simp only [F77.l1, hL, Option.bind_some, if_pos c]; rw [w64 (n := n - _) (by omega) (by omega), w64 (n := 13 - ((j + 1 : Nat) : Int) + 1) (by omega) (by omega), show (13 : Int) - ((j + 1 : Nat) : Int) + 1 = 13 - (j : Int) by omega]; exact ih
  ·refine ⟨13 - ((j + 1 : Nat) : Int), wrap64 (n + 1), Ev.succ ?_⟩; simp only [F77.l1, hL, Option.bind_some, if_neg c]; exact Ev.const _
theorem bef_next (y : Int) : bef (y + 1) - bef y = if lpv y = true then 366 else 365 := by
 unfold bef lpv
 by_cases a : y % 4 = 0 <;> by_cases b : y % 100 = 0 <;> by_cases c : y % 400 = 0 <;> simp [a, b, c] <;> omega
theorem F77.end_ {n y : Int} (d : Int) (h0 : 1900 ≤ y) (h1 : y ≤ 2199) (hb : bef y ≤ n) (hn : n < bef (y + 1)) (hn2 : n ≤ 109572) : ∃ a b, Ev (fun k => F77.j1 k n months y 0 d) (y, a, b, 0) := by
 have hd := bef_next y; have hbb : -1000 ≤ bef y ∧ bef y ≤ 110000 := by unfold bef; omega
 obtain ⟨a, b, ih⟩ := F77.go1 h0 d 12 (n - bef y) (by omega) (by omega) (by rw [tl_12]; omega) (by split at hd <;> omega); refine ⟨a, b, Ev.succ ?_⟩; simp only [F77.j1, F86.eq h0 (by omega : y ≤ 2200), Option.bind_some]; rw [w64 (n := n - _) (by omega) (by omega)]; exact ih
theorem F77.go0 {n : Int} (d : Int) (hn2 : n ≤ 109572) : ∀ (j : Nat) (y : Int), y + j = 2199 → 1900 ≤ y → bef y ≤ n → ∃ y' a b, Ev (fun k => F77.l0 k n months y 0 d) (y', a, b, 0)
 | 0, y, hy, h0, hb => by
  obtain rfl : y = 2199 := by omega
  obtain ⟨a, b, ih⟩ := F77.end_ (n := n) d (y := 2199) (by omega) (by omega) hb (by rw [show bef (2199 + 1) = 109573 by decide]; omega) hn2; refine ⟨2199, a, b, Ev.succ ?_⟩; simp only [F77.l0, if_neg (show ¬ (2199 : Int) < 2199 by omega)]; exact ih
 | j + 1, y, hy, h0, hb => by
  by_cases c : bef (y + 1) ≤ n
  ·obtain ⟨y', a, b, ih⟩ := F77.go0 d hn2 j (y + 1) (by omega) (by omega) c; refine ⟨y', a, b, Ev.succ ?_⟩; simp only [F77.l0, if_pos (show y < 2199 by omega), w64 (n := y + 1) (by omega) (by omega), F86.eq (y := y + 1) (by omega) (by omega), Option.bind_some, if_pos c]; exact ih
  ·obtain ⟨a, b, ih⟩ := F77.end_ (n := n) d (y := y) h0 (by omega) hb (by omega) hn2; refine ⟨y, a, b, Ev.succ ?_⟩; simp only [F77.l0, if_pos (show y < 2199 by omega), w64 (n := y + 1) (by omega) (by omega), F86.eq (y := y + 1) (by omega) (by omega), Option.bind_some, if_neg c]; exact ih
theorem F85.eq (n : Int) : F85.f n = some (dayv n) := by
 unfold F85.f dayv
 by_cases a : n ≥ 0 <;> by_cases b : n ≤ 109572 <;> simp [a, b] <;> omega
theorem F77.ok (n : Int) : ∃ y a b, Ev (fun k => F77.f k n months) (y, a, b, if dayv n = true then 0 else 11) := by
 unfold F77.f
 simp only [F85.eq, Option.bind_some]
 by_cases c : dayv n = true
 ·simp only [if_pos c]; have hc : 0 ≤ n ∧ n ≤ 109572 := of_decide_eq_true c; have hy : bef (1900 + n / 366) ≤ n := by unfold bef; omega
  rw [Int.tdiv_eq_ediv_of_nonneg hc.1, w64 (n := n / 366) (by omega) (by omega), w64 (n := 1900 + n / 366) (by omega) (by omega)]; exact F77.go0 0 hc.2 (2199 - (1900 + n / 366)).toNat _ (by omega) (by omega) hy
 ·simp only [if_neg c]; exact ⟨0, 0, 0, Ev.const _⟩
def prn (a : Int) : Bool := decide (32 ≤ a) && decide (a ≤ 126)
def plv (b : ByteArray) : Nat → Nat → Bool
 | 0, _ => true
 | n + 1, i => prn (bt b (i : Int)) && plv b n (i + 1)
def plainv (b : ByteArray) : Bool := plv b b.size 0 && decide ((b.size : Int) ≤ 60)
theorem printable.eq (a : Int) : F80.f a = some (prn a) := by
 unfold F80.f prn
 by_cases c : a ≥ 32
 ·simp [c]
 ·have c2 : ¬ 32 ≤ a := c
  simp [c2]
theorem every.go (b : ByteArray) (hb : b.size ≤ 1000) : ∀ n i, i + n = b.size → Ev (fun k => F62b.l0 k b (b.size : Int) (i : Int)) (plv b n i)
 | 0, i, h => by
  refine Ev.succ ?_; simp only [F62b.l0, if_neg (show ¬ (i : Int) < (b.size : Int) by omega), plv]; exact Ev.const _
 | n + 1, i, h => by
  have ih := every.go b hb n (i + 1) (by omega); refine Ev.succ ?_; simp only [F62b.l0, if_pos (show (i : Int) < (b.size : Int) by omega), if_pos (show (0 : Int) ≤ (i : Int) by omega), printable.eq, Option.bind_some, plv, w64s (show i ≤ 1000000000 by omega)]
  cases prn (bt b (i : Int)) with
  | true => simp only [if_true, Bool.true_and]; exact ih
  | false => simp only [Bool.false_eq_true, if_false, Bool.false_and]; exact Ev.const _
theorem F70.eq (b : ByteArray) : Ev (fun k => F70.f k b) (plainv b) := by
 unfold F70.f plainv
 by_cases c : (b.size : Int) ≤ 60
 ·simp only [if_pos c, decide_eq_true c, Bool.and_true]
  unfold F62b.f
  exact Ev.bind (every.go b (by omega) b.size 0 (by omega)) (Ev.const _)
 ·simp only [if_neg c, decide_eq_false c, Bool.and_false]; exact Ev.const _
theorem refPlain.go (b : ByteArray) (hb : b.size ≤ 1000000000000000) : ∀ n i, i + n = b.size → Ev (fun k => F71.l0 k b (i : Int)) (plv b n i && decide ((b.size : Int) ≤ 60))
 | 0, i, h => by
  refine Ev.succ ?_; simp only [F71.l0, if_neg (show ¬ (i : Int) < (b.size : Int) by omega), plv, Bool.true_and]; exact Ev.const _
 | n + 1, i, h => by
  have ih := refPlain.go b hb n (i + 1) (by omega); refine Ev.succ ?_; simp only [F71.l0, if_pos (show (i : Int) < (b.size : Int) by omega), if_pos (show (0 : Int) ≤ (i : Int) by omega), plv]; rw [w64 (n := (i : Int) + 1) (by omega) (by omega), show (i : Int) + 1 = ((i + 1 : Nat) : Int) by omega]
  unfold prn
  by_cases c1 : bt b (i : Int) < 32
  ·simp only [if_pos c1, decide_eq_false (show ¬ 32 ≤ bt b (i : Int) by omega), Bool.false_and]; exact Ev.const _
  ·simp only [if_neg c1, decide_eq_true (show 32 ≤ bt b (i : Int) by omega), Bool.true_and]
   by_cases c2 : bt b (i : Int) > 126
   ·simp only [if_pos c2, decide_eq_false (show ¬ bt b (i : Int) ≤ 126 by omega), Bool.false_and]; exact Ev.const _
   ·simp only [if_neg c2, decide_eq_true (show bt b (i : Int) ≤ 126 by omega), Bool.true_and]; exact ih
theorem refPlain.eq (b : ByteArray) (hb : b.size ≤ 1000000000000000) : Ev (fun k => F71.f k b) (plainv b) := by
 unfold F71.f plainv
 exact refPlain.go b hb b.size 0 (by omega)
theorem isDay.eq (n : Int) : Ev (fun k => F57.f k n months) (dayv n) := by
 obtain ⟨y, a, b, h⟩ := F77.ok n
 unfold F57.f
 refine Ev.bind h ?_
 cases dayv n with
 | true => simp only [if_true]; exact Ev.const _
 | false => simp only [Bool.false_eq_true, if_false]; exact Ev.const _
theorem refDay.eq (n : Int) : F58.f n = some (dayv n) := by
 unfold F58.f dayv
 by_cases c : n ≥ 0
 ·rw [if_pos c]
  by_cases c2 : n ≤ 109572
  ·rw [decide_eq_true c2, decide_eq_true ⟨c, c2⟩]
  ·rw [decide_eq_false c2, decide_eq_false (fun h => c2 h.2)]
 ·rw [if_neg c, decide_eq_false (fun h => c h.1)]
def okH (x : En) : Prop := x.f1.size ≤ 1000000000000000 ∧ x.f5.size ≤ 1000000000000000 ∧ x.f6.size ≤ 1000000000000000
def hd3 (x : En) (b : Bool) : Int := if b = true then 10 else if plainv x.f5 = true then (if (x.f8.length : Int) < 2 then 2 else if (x.f8.length : Int) > 100 then 9 else 0) else 5
def hd2 (x : En) (b : Bool) : Int := if b = true then 11 else hd3 x (decide (x.f4 < 1) || decide (x.f4 > 7))
def hd1 (x : En) (b : Bool) : Int := if b = true then 7 else hd2 x (!(dayv x.f2 && dayv x.f3))
def hd0 (x : En) (b : Bool) : Int := if b = true then 3 else hd1 x (!(codev x.f1 && codev x.f6))
def headv (x : En) : Int := hd0 x (decide (x.f0 < 0) || (decide (x.f0 > 4000) || (decide (x.f7 < 0) || decide (x.f7 > 4000))))
theorem head.j3 (x : En) (b : Bool) : Ev (fun k => F43.j3 k b x.f0 x.f1 x.f2 x.f3 x.f4 x.f5 x.f6 x.f7 x.f8) (hd3 x b) := by
 refine Ev.succ ?_; simp only [F43.j3]
 unfold hd3
 cases b with
 | true => simp only [if_true]; exact Ev.const _
 | false =>
  simp only [Bool.false_eq_true, if_false]; refine Ev.bind (F70.eq x.f5) ?_
  cases plainv x.f5 with
  | true =>
   simp only [if_true]
   by_cases c1 : (x.f8.length : Int) < 2
   ·simp only [if_pos c1]; exact Ev.const _
   ·by_cases c2 : (x.f8.length : Int) > 100
    ·simp only [if_neg c1, if_pos c2]; exact Ev.const _
    ·simp only [if_neg c1, if_neg c2]; exact Ev.const _
  | false => simp only [Bool.false_eq_true, if_false]; exact Ev.const _
theorem head.j2 (x : En) (b : Bool) : Ev (fun k => F43.j2 k b x.f0 x.f1 x.f2 x.f3 x.f4 x.f5 x.f6 x.f7 x.f8) (hd2 x b) := by
 refine Ev.succ ?_; simp only [F43.j2]
 unfold hd2
 cases b with
 | true => simp only [if_true]; exact Ev.const _
 | false =>
  simp only [Bool.false_eq_true, if_false]
  by_cases c : x.f4 < 1
  ·simp only [if_pos c, decide_eq_true c, Bool.true_or]; exact head.j3 x true
  ·simp only [if_neg c, decide_eq_false c, Bool.false_or]; exact head.j3 x _
theorem head.j1 (x : En) (b : Bool) : Ev (fun k => F43.j1 k b months x.f0 x.f1 x.f2 x.f3 x.f4 x.f5 x.f6 x.f7 x.f8) (hd1 x b) := by
 refine Ev.succ ?_; simp only [F43.j1]
 unfold hd1
 cases b with
 | true => simp only [if_true]; exact Ev.const _
 | false =>
  simp only [Bool.false_eq_true, if_false]; refine Ev.bind (isDay.eq x.f2) ?_
  cases dayv x.f2 with
  | false => simp only [Bool.false_eq_true, if_false, Bool.false_and, Bool.not_false]; exact head.j2 x true
  | true =>
   simp only [if_true, Bool.true_and]; exact Ev.bind (isDay.eq x.f3) (head.j2 x _)
theorem head.j0 (x : En) (hx : okH x) (b : Bool) : Ev (fun k => F43.j0 k b months x.f0 x.f1 x.f2 x.f3 x.f4 x.f5 x.f6 x.f7 x.f8) (hd0 x b) := by
 refine Ev.succ ?_; simp only [F43.j0]
 unfold hd0
 cases b with
 | true => simp only [if_true]; exact Ev.const _
 | false =>
  simp only [Bool.false_eq_true, if_false]; refine Ev.bind (F33.eq x.f1) ?_
  cases codev x.f1 with
  | false => simp only [Bool.false_eq_true, if_false, Bool.false_and, Bool.not_false]; exact head.j1 x true
  | true =>
   simp only [if_true, Bool.true_and]; exact Ev.bind (F33.eq x.f6) (head.j1 x _)
theorem F43.eq (x : En) (hx : okH x) : Ev (fun k => F43.f k x.f0 x.f1 x.f2 x.f3 x.f4 x.f5 x.f6 x.f7 x.f8 months) (headv x) := by
 unfold F43.f headv
 by_cases c1 : x.f0 < 0
 ·simp only [if_pos c1, decide_eq_true c1, Bool.true_or]; exact head.j0 x hx true
 by_cases c2 : x.f0 > 4000
 ·simp only [if_neg c1, if_pos c2, decide_eq_false c1, decide_eq_true c2, Bool.false_or, Bool.true_or]; exact head.j0 x hx true
 by_cases c3 : x.f7 < 0
 ·simp only [if_neg c1, if_neg c2, if_pos c3, decide_eq_false c1, decide_eq_false c2, decide_eq_true c3, Bool.false_or, Bool.true_or]; exact head.j0 x hx true
 simp only [if_neg c1, if_neg c2, if_neg c3, decide_eq_false c1, decide_eq_false c2, decide_eq_false c3, Bool.false_or]; exact head.j0 x hx _
theorem rhead.j3 (x : En) (hx : okH x) (b : Bool) : Ev (fun k => F44.j3 k b x.f0 x.f1 x.f2 x.f3 x.f4 x.f5 x.f6 x.f7 x.f8) (hd3 x b) := by
 refine Ev.succ ?_; simp only [F44.j3]
 unfold hd3
 cases b with
 | true => simp only [if_true]; exact Ev.const _
 | false =>
  simp only [Bool.false_eq_true, if_false]; refine Ev.bind (refPlain.eq x.f5 hx.2.1) ?_
  cases plainv x.f5 with
  | true =>
   simp only [if_true]
   by_cases c1 : (x.f8.length : Int) < 2
   ·simp only [if_pos c1]; exact Ev.const _
   ·by_cases c2 : (x.f8.length : Int) > 100
    ·simp only [if_neg c1, if_pos c2]; exact Ev.const _
    ·simp only [if_neg c1, if_neg c2]; exact Ev.const _
  | false => simp only [Bool.false_eq_true, if_false]; exact Ev.const _
theorem rhead.j2 (x : En) (hx : okH x) (b : Bool) : Ev (fun k => F44.j2 k b x.f0 x.f1 x.f2 x.f3 x.f4 x.f5 x.f6 x.f7 x.f8) (hd2 x b) := by
 refine Ev.succ ?_; simp only [F44.j2]
 unfold hd2
 cases b with
 | true => simp only [if_true]; exact Ev.const _
 | false =>
  simp only [Bool.false_eq_true, if_false]
  by_cases c : x.f4 < 1
  ·simp only [if_pos c, decide_eq_true c, Bool.true_or]; exact rhead.j3 x hx true
  ·simp only [if_neg c, decide_eq_false c, Bool.false_or]; exact rhead.j3 x hx _
theorem rhead.j1 (x : En) (hx : okH x) (b : Bool) : Ev (fun k => F44.j1 k b x.f0 x.f1 x.f2 x.f3 x.f4 x.f5 x.f6 x.f7 x.f8) (hd1 x b) := by
 refine Ev.succ ?_; simp only [F44.j1]
 unfold hd1
 cases b with
 | true => simp only [if_true]; exact Ev.const _
 | false =>
  simp only [Bool.false_eq_true, if_false]; simp only [refDay.eq, Option.bind_some]
  cases dayv x.f2 with
  | false => simp only [Bool.false_eq_true, if_false, Bool.false_and, Bool.not_false]; exact rhead.j2 x hx true
  | true =>
   simp only [if_true, Bool.true_and]; exact rhead.j2 x hx _
theorem rhead.j0 (x : En) (hx : okH x) (b : Bool) : Ev (fun k => F44.j0 k b x.f0 x.f1 x.f2 x.f3 x.f4 x.f5 x.f6 x.f7 x.f8) (hd0 x b) := by
 refine Ev.succ ?_; simp only [F44.j0]
 unfold hd0
 cases b with
 | true => simp only [if_true]; exact Ev.const _
 | false =>
  simp only [Bool.false_eq_true, if_false]; refine Ev.bind (F38.eq x.f1 hx.1) ?_
  cases codev x.f1 with
  | false => simp only [Bool.false_eq_true, if_false, Bool.false_and, Bool.not_false]; exact rhead.j1 x hx true
  | true =>
   simp only [if_true, Bool.true_and]; exact Ev.bind (F38.eq x.f6 hx.2.2) (rhead.j1 x hx _)
theorem F44.eq (x : En) (hx : okH x) : Ev (fun k => F44.f k x.f0 x.f1 x.f2 x.f3 x.f4 x.f5 x.f6 x.f7 x.f8) (headv x) := by
 unfold F44.f headv
 by_cases c1 : x.f0 < 0
 ·simp only [if_pos c1, decide_eq_true c1, Bool.true_or]; exact rhead.j0 x hx true
 by_cases c2 : x.f0 > 4000
 ·simp only [if_neg c1, if_pos c2, decide_eq_false c1, decide_eq_true c2, Bool.false_or, Bool.true_or]; exact rhead.j0 x hx true
 by_cases c3 : x.f7 < 0
 ·simp only [if_neg c1, if_neg c2, if_pos c3, decide_eq_false c1, decide_eq_false c2, decide_eq_true c3, Bool.false_or, Bool.true_or]; exact rhead.j0 x hx true
 simp only [if_neg c1, if_neg c2, if_neg c3, decide_eq_false c1, decide_eq_false c2, decide_eq_false c3, Bool.false_or]; exact rhead.j0 x hx _
def chk (l : List Li) (bal : Bool) : Nat → Nat → Int × Int
 | 0, _ => if bal = true then (-1, 0) else (-1, 15)
 | n + 1, i => if linev (rd_T24 l (i : Int)) = 0 then chk l bal n (i + 1) else ((i : Int), linev (rd_T24 l (i : Int)))
def checkv (x : En) : Int × Int := if headv x = 0 then chk x.f8 (balv x.f8) x.f8.length 0 else (-1, headv x)
theorem check.go (l : List Li) (h : okA l) (hl : ∀ z ∈ l, okL z) (a0 : Int) (a1 : ByteArray) (a2 a3 a4 : Int) (a5 a6 : ByteArray) (a7 : Int) : ∀ n i, i + n = l.length → Ev (fun k => F16.l0 k l (l.length : Int) (i : Int) a0 a1 a2 a3 a4 a5 a6 a7 l) (chk l (balv l) n i)
 | 0, i, hi => by
  refine Ev.succ ?_; simp only [F16.l0, if_neg (show ¬ (i : Int) < (l.length : Int) by omega), F23.eq l h, Option.bind_some, chk]
  cases balv l with
  | true => simp only [if_true]; exact Ev.const _
  | false => simp only [Bool.false_eq_true, if_false]; exact Ev.const _
 | n + 1, i, hi => by
  have ih := check.go l h hl a0 a1 a2 a3 a4 a5 a6 a7 n (i + 1) (by omega); have hn := h.1; refine Ev.succ ?_; simp only [F16.l0, if_pos (show (i : Int) < (l.length : Int) by omega), if_pos (show (0 : Int) ≤ (i : Int) by omega), chk, w64s (show i ≤ 1000000000 by omega)]; refine Ev.bind (F14.eq _ (hl _ (rd24_mem (by omega)))) ?_
  by_cases c : linev (rd_T24 l (i : Int)) = 0
  ·simp only [if_pos c]; exact ih
  ·simp only [if_neg c]; exact Ev.const _
theorem F16.eq (x : En) (hx : okH x) (h : okA x.f8) (hl : ∀ z ∈ x.f8, okL z) : Ev (fun k => F16.f k x.f0 x.f1 x.f2 x.f3 x.f4 x.f5 x.f6 x.f7 x.f8 months) (checkv x) := by
 unfold F16.f checkv
 refine Ev.bind (F43.eq x hx) ?_
 by_cases c : headv x = 0
 ·simp only [if_pos c]; exact check.go x.f8 h hl _ _ _ _ _ _ _ _ x.f8.length 0 (by omega)
 ·simp only [if_neg c]; exact Ev.const _
theorem refCheck.go (l : List Li) (h : okA l) (hl : ∀ z ∈ l, okL z) (a0 : Int) (a1 : ByteArray) (a2 a3 a4 : Int) (a5 a6 : ByteArray) (a7 : Int) : ∀ n i, i + n = l.length → Ev (fun k => F17.l0 k (i : Int) a0 a1 a2 a3 a4 a5 a6 a7 l) (chk l (balv l) n i)
 | 0, i, hi => by
  refine Ev.succ ?_; simp only [F17.l0, if_neg (show ¬ (i : Int) < (l.length : Int) by omega), chk]; refine Ev.bind (refBal.eq l h) ?_
  cases balv l with
  | true => simp only [if_true]; exact Ev.const _
  | false => simp only [Bool.false_eq_true, if_false]; exact Ev.const _
 | n + 1, i, hi => by
  have ih := refCheck.go l h hl a0 a1 a2 a3 a4 a5 a6 a7 n (i + 1) (by omega); have hn := h.1; refine Ev.succ ?_; simp only [F17.l0, if_pos (show (i : Int) < (l.length : Int) by omega), if_pos (show (0 : Int) ≤ (i : Int) by omega), chk, w64s (show i ≤ 1000000000 by omega)]; refine Ev.bind (F15.eq _ (hl _ (rd24_mem (by omega)))) ?_
  by_cases c : linev (rd_T24 l (i : Int)) = 0
  ·simp only [if_pos c]; exact ih
  ·simp only [if_neg c]; exact Ev.const _
theorem refCheck.eq (x : En) (hx : okH x) (h : okA x.f8) (hl : ∀ z ∈ x.f8, okL z) : Ev (fun k => F17.f k x.f0 x.f1 x.f2 x.f3 x.f4 x.f5 x.f6 x.f7 x.f8) (checkv x) := by
 unfold F17.f checkv
 refine Ev.bind (F44.eq x hx) ?_
 by_cases c : headv x = 0
 ·simp only [if_pos c]; exact refCheck.go x.f8 h hl _ _ _ _ _ _ _ _ x.f8.length 0 (by omega)
 ·simp only [if_neg c]; exact Ev.const _
theorem G33_ok {x : En} (h : G33 x) : okH x := by
 obtain ⟨_, h1, _, _, _, h5, h6, _, _⟩ := h; exact ⟨by omega, by omega, by omega⟩
theorem lit_in {x : Int} (h : (Lit.int .i64 x).wf = true) : inW x := by
 unfold inW
 simp [Lit.wf, IntKind.min, IntKind.max, IntKind.bits, IntKind.signed] at h
 omega
theorem G24_okA {l : List Li} (h : ∀ z ∈ l, G24 z) (hl : l.length ≤ 150) : okA l := by
 refine ⟨by omega, fun z hz => ?_⟩; obtain ⟨_, _, h2, h3, _⟩ := h z hz; exact ⟨lit_in h2, lit_in h3⟩
end Go.Proofs.YtjeecehhcajfaaaDoor.M
end
section
namespace Go.Proofs.YtjeecehhcajfaaaDoor.M
open Go.RowKit Go.Proofs.YtjeecehhcajfaaaDoorW.PrintWords Go.Proofs.YtjeecehhcajfaaaDoorW.PrintLast
set_option linter.unusedVariables false
set_option linter.unusedSimpArgs false
set_option linter.unusedSectionVars false
abbrev R10 := Int × ByteArray × Int × Int × Int × ByteArray × ByteArray × Int × (List Li) × Int
def negL (x : Li) : Li := ⟨x.f0, x.f1, wrap64 (-x.f2), wrap64 (-x.f3), x.f4, x.f5, x.f6⟩
def tupR (x : En) (r : List Li) (a b : Int) (c : ByteArray) : R10 := (0, x.f1, a, b, 5, x.f5, c, x.f0, r, 0)
def errR (e : Int) : R10 := (0, ⟨#[]⟩, 0, 0, 0, ⟨#[]⟩, ⟨#[]⟩, 0, [], e)
section
variable (x : En) (hn : x.f8.length ≤ 150) (hl : ∀ z ∈ x.f8, okL z) (a b : Int) (c : ByteArray)
include hn hl
theorem rev.l0 : ∀ (n i : Nat) (out : List Li), i + n = x.f8.length → out.length = i → Ev (fun k => F28.l0 k x.f8 (x.f8.length : Int) (i : Int) 0 x.f1 a b 5 x.f5 c x.f0 out) (tupR x (out ++ (x.f8.drop i).map negL) a b c)
 | 0, i, out, hi, ho => by
  refine Ev.succ ?_; simp only [F28.l0, if_neg (show ¬ (i : Int) < (x.f8.length : Int) by omega)]; rw [List.drop_eq_nil_of_le (by omega), List.map_nil, List.append_nil]; exact Ev.const _
 | n + 1, i, out, hi, ho => by
  have hlt : i < x.f8.length := by omega
  have hrd : rd_T24 x.f8 (i : Int) = x.f8[i] := by simp [rd_T24, hlt]
  have htg : (x.f8[i].f6).length < 4398046511104 := by have := (hl _ (List.getElem_mem hlt)).2.2.2.2.1; omega
  have ih := rev.l0 n (i + 1) (out ++ [negL x.f8[i]]) (by omega) (by simp; omega); rw [List.append_assoc] at ih; rw [List.drop_eq_getElem_cons hlt, List.map_cons]; refine Ev.succ ?_; simp only [F28.l0, if_pos (show (i : Int) < (x.f8.length : Int) by omega), if_pos (show (0 : Int) ≤ (i : Int) by omega), hrd, List.length_nil, Nat.zero_add, if_pos htg, if_pos (show out.length < 1353245080339 by omega), w64s (show i ≤ 1000000000 by omega), List.nil_append]; exact ih
def revJ (d : Bool) : R10 := if d = true then errR 11 else if codev c = true then tupR x (x.f8.map negL) a b c else errR 7
theorem rev.j0 (d : Bool) : Ev (fun k => F28.j0 k a b c d x.f0 x.f1 x.f2 x.f3 x.f4 x.f5 x.f6 x.f7 x.f8 0 (⟨#[]⟩ : ByteArray) 0 0 0 (⟨#[]⟩ : ByteArray) (⟨#[]⟩ : ByteArray) 0) (revJ x a b c d) := by
 refine Ev.succ ?_; simp only [F28.j0]
 unfold revJ
 cases d with
 | true => simp only [if_true]; exact Ev.const _
 | false =>
  simp only [Bool.false_eq_true, if_false]; refine Ev.bind (F33.eq c) ?_
  cases codev c with
  | true => simp only [if_true]; exact rev.l0 x hn hl a b c x.f8.length 0 [] (by omega) rfl
  | false => simp only [Bool.false_eq_true, if_false]; exact Ev.const _
def revv : R10 := if (checkv x).2 = 0 then (if x.f0 = 0 then errR 28 else revJ x a b c (!(dayv a && dayv b))) else errR (checkv x).2
theorem entryRev.eq (hx : okH x) (h : okA x.f8) : Ev (fun k => F28.f k x.f0 x.f1 x.f2 x.f3 x.f4 x.f5 x.f6 x.f7 x.f8 a b c months) (revv x a b c) := by
 unfold F28.f revv
 refine Ev.bind (F16.eq x hx h hl) ?_
 by_cases e : (checkv x).2 = 0
 ·simp only [if_pos e]
  by_cases z : x.f0 = 0
  ·simp only [if_pos z]; exact Ev.const _
  ·simp only [if_neg z]; refine Ev.bind (isDay.eq a) ?_
   cases dayv a with
   | true =>
    simp only [if_true, Bool.true_and]; exact Ev.bind (isDay.eq b) (rev.j0 x hn hl a b c _)
   | false => simp only [Bool.false_eq_true, if_false, Bool.false_and, Bool.not_false]; exact rev.j0 x hn hl a b c true
 ·simp only [if_neg e]; exact Ev.const _
theorem rev_ok : (revv x a b c).2.2.2.2.2.2.2.2.1.length ≤ 1000000 ∧ ∀ z ∈ (revv x a b c).2.2.2.2.2.2.2.2.1, okL z := by
 have h1 : ∀ e, (errR e).2.2.2.2.2.2.2.2.1.length ≤ 1000000 ∧ ∀ z ∈ (errR e).2.2.2.2.2.2.2.2.1, okL z := fun e => ⟨by simp [errR], fun z hz => by simp [errR] at hz⟩
 unfold revv revJ
 split
 ·split
  ·exact h1 _
  ·split
   ·exact h1 _
   ·split
    ·refine ⟨by simp [tupR]; omega, fun z hz => ?_⟩; simp only [tupR] at hz; obtain ⟨y, hy, rfl⟩ := List.mem_map.1 hz; exact hl y hy
    ·exact h1 _
 ·exact h1 _
end
end Go.Proofs.YtjeecehhcajfaaaDoor.M
end
section
namespace Go.Proofs.YtjeecehhcajfaaaDoor.M
open Go.RowKit Go.Proofs.YtjeecehhcajfaaaDoorW.PrintWords Go.Proofs.YtjeecehhcajfaaaDoorW.PrintLast
set_option linter.unusedVariables false
set_option linter.unusedSimpArgs false
set_option linter.unusedSectionVars false
section
variable (x : En) (hn : x.f8.length ≤ 150) (hl : ∀ z ∈ x.f8, okL z) (a b : Int) (c : ByteArray)
include hn hl
theorem refRev.l0 : ∀ (n i : Nat) (out : List Li), i + n = x.f8.length → out.length = i → Ev (fun k => F29.l0 k (i : Int) x.f0 x.f1 x.f2 x.f3 x.f4 x.f5 x.f6 x.f7 x.f8 0 x.f1 a b 5 x.f5 c x.f0 out) (tupR x (out ++ (x.f8.drop i).map negL) a b c)
 | 0, i, out, hi, ho => by
  refine Ev.succ ?_; simp only [F29.l0, if_neg (show ¬ (i : Int) < (x.f8.length : Int) by omega)]; rw [List.drop_eq_nil_of_le (by omega), List.map_nil, List.append_nil]; exact Ev.const _
 | n + 1, i, out, hi, ho => by
  have hlt : i < x.f8.length := by omega
  have hrd : rd_T24 x.f8 (i : Int) = x.f8[i] := by simp [rd_T24, hlt]
  have htg : (x.f8[i].f6).length < 4398046511104 := by have := (hl _ (List.getElem_mem hlt)).2.2.2.2.1; omega
  have ih := refRev.l0 n (i + 1) (out ++ [negL x.f8[i]]) (by omega) (by simp; omega); rw [List.append_assoc] at ih; rw [List.drop_eq_getElem_cons hlt, List.map_cons]; refine Ev.succ ?_; simp only [F29.l0, if_pos (show (i : Int) < (x.f8.length : Int) by omega), if_pos (show (0 : Int) ≤ (i : Int) by omega), hrd, Option.bind_some, List.length_nil, Nat.zero_add, if_pos htg, if_pos (show out.length < 1353245080339 by omega), w64s (show i ≤ 1000000000 by omega), List.nil_append]; exact ih
theorem refRev.j0 (hc : c.size ≤ 1000000000000000) (d : Bool) : Ev (fun k => F29.j0 k a b c d x.f0 x.f1 x.f2 x.f3 x.f4 x.f5 x.f6 x.f7 x.f8) (revJ x a b c d) := by
 refine Ev.succ ?_; simp only [F29.j0]
 unfold revJ
 cases d with
 | true => simp only [if_true]; exact Ev.const _
 | false =>
  simp only [Bool.false_eq_true, if_false]; refine Ev.bind (F38.eq c hc) ?_
  cases codev c with
  | true => simp only [if_true]; exact refRev.l0 x hn hl a b c x.f8.length 0 [] (by omega) rfl
  | false => simp only [Bool.false_eq_true, if_false]; exact Ev.const _
theorem refRev.eq (hc : c.size ≤ 1000000000000000) (hx : okH x) (h : okA x.f8) : Ev (fun k => F29.f k x.f0 x.f1 x.f2 x.f3 x.f4 x.f5 x.f6 x.f7 x.f8 a b c) (revv x a b c) := by
 unfold F29.f revv
 refine Ev.bind (refCheck.eq x hx h hl) ?_
 by_cases e : (checkv x).2 = 0
 ·simp only [if_pos e]
  by_cases z : x.f0 = 0
  ·simp only [if_pos z]; exact Ev.const _
  ·simp only [if_neg z, refDay.eq, Option.bind_some]
   cases dayv a with
   | true => simp only [if_true, Bool.true_and]; exact refRev.j0 x hn hl a b c hc _
   | false => simp only [Bool.false_eq_true, if_false, Bool.false_and, Bool.not_false]; exact refRev.j0 x hn hl a b c hc true
 ·simp only [if_neg e]; exact Ev.const _
end
theorem pure_EntryReverse : F7.Pure := by
 intro x y hx hy; have hlx : ∀ z ∈ x.f8, G24 z := hx.2.2.2.2.2.2.2.2.2; refine Ev.out (g := fun k => F7.f k x.f0 x.f1 x.f2 x.f3 x.f4 x.f5 x.f6 x.f7 x.f8 y.f0 y.f1 y.f2 months) ?_
 unfold F7.f
 obtain ⟨b, hb, hb2⟩ := F12.ok x.f8; refine Ev.bind hb ?_
 cases b with
 | false =>
  simp only [Bool.false_eq_true, if_false]; exact F13.true
 | true =>
  simp only [if_true]; obtain ⟨n1, t1⟩ := hb2 rfl; have ha : ∀ z ∈ x.f8, okL z := fun z hz => G24_ok (hlx z hz) (t1 z hz); have hA := G24_okA hlx n1; have hc : y.f2.size ≤ 1000000000000000 := by have := hy.2.2; omega
  refine Ev.bind (entryRev.eq x n1 ha y.f0 y.f1 y.f2 (G33_ok hx) hA) (Ev.bind (refRev.eq x n1 ha y.f0 y.f1 y.f2 hc (G33_ok hx) hA) ?_); obtain ⟨o1, o2⟩ := rev_ok x n1 ha y.f0 y.f1 y.f2; generalize revv x y.f0 y.f1 y.f2 = R at o1 o2 ⊢; obtain ⟨r0, r1, r2, r3, r4, r5, r6, r7, r8, r9⟩ := R; simp only at o1 o2 ⊢; have hs := refSame.eq (⟨r0, r1, r2, r3, r4, r5, r6, r7, r8⟩ : En) (⟨r0, r1, r2, r3, r4, r5, r6, r7, r8⟩ : En) o1 o2; rw [samev_self] at hs; refine Ev.bind hs ?_; simp only [and_self, if_true]; exact F13.true
end Go.Proofs.YtjeecehhcajfaaaDoor.M
namespace Go.Proofs.YtjeecehhcajfaaaDoor.Pure
theorem EntryReverse : M.F7.Pure := M.pure_EntryReverse
end Go.Proofs.YtjeecehhcajfaaaDoor.Pure
end
section
namespace Go.Proofs.YtjeecehhcajfaaaDoor.M
open Go.ChangeShapes Go.WideShapes Go.ChangeAt Go.RowKit Go.Proofs.YtjeecehhcajfaaaDoorW.PrintWords Go.Proofs.YtjeecehhcajfaaaDoorW.PrintLast
abbrev laidL : List (String × DataW Unit) := [("accounting/days.lengths", Rows.laid_accounting_days_lengths)]
theorem gLen : Tryd.prog.globalNamed "accounting/days.lengths" = some 0 := by kernel_rfl
theorem tLen : (Tryd.prog.globals[0]?).map (·.type) = some 136 := by kernel_rfl
theorem cLen : Tryd.prog.cellsOf 136 = 12 := by kernel_rfl
theorem cInt : Tryd.prog.cellsOf 3 = 1 := by kernel_rfl
set_option maxRecDepth 100000 in
theorem tab_of_laid {W : World} (h : laidMetH Tryd.prog laidL W) : Tab W := by
 rw [MakeChecks.laidMetH_plain _ _ _ (by kernel_rfl)] at h; obtain ⟨ps, ⟨g0, t0, cs0, f0, p0, q0, hg0, ht0, hv0, hd0, _⟩, _⟩ := h; obtain rfl := Option.some.inj (gLen.symm.trans hg0); obtain rfl := Option.some.inj (tLen.symm.trans ht0); obtain ⟨xs, m1, rfl, hx1, hlen, hn3, hel⟩ := DataW.trod_array Tryd.underlying136 hd0
 have hxs : xs.map (·.1) = months.map (fun n => (DataW.lit (.int .i64 n) : DataW Unit)) := by
  have e := congrArg (fun y : DataW Unit × List MemPlace => y.1) hx1
  unfold Rows.laid_accounting_days_lengths at e
  injection e with e
  exact e.symm
 have each : ∀ i, i < 12 → cs0.toList[i]? = (months[i]?).map (Value.int .i64) := by
  intro i hi; have h1 := hel i hi; rw [cInt, Nat.mul_one] at h1; obtain ⟨x, hx⟩ : ∃ x, xs[i]? = some x := ⟨xs[i], List.getElem?_eq_getElem (by omega)⟩; rw [hx] at h1; obtain ⟨n, e1, e2, _⟩ := DataW.trod_int Tryd.underlying3 h1; have e3 := congrArg (fun l => l[i]?) hxs; simp only [List.getElem?_map, hx, Option.map_some, e2] at e3; have e4 := congrArg (fun l => l[0]?) e1; simp only [List.getElem?_take, List.getElem?_drop, Nat.add_zero, Nat.zero_lt_one, if_true, List.getElem?_cons_zero] at e4; rw [e4]
  cases hm : months[i]? with
  | none => rw [hm] at e3; cases e3
  | some m =>
   rw [hm] at e3; simp only [Option.map_some, Option.some.injEq, DataW.lit.injEq, Lit.int.injEq, true_and] at e3; rw [e3]
   rfl
 have hcs : cs0 = (months.map (Value.int .i64)).toArray := by
  rw [← Array.toList_inj]; apply List.ext_getElem?; intro i
  by_cases hi : i < 12
  ·rw [each i hi, List.getElem?_map]
  ·rw [List.getElem?_eq_none (by rw [hlen, cLen]; omega), List.getElem?_eq_none (by simp [months]; omega)]
 have hv := hv0; simp only [World.var?, gLen, Option.bind_some] at hv
 split at hv
 ·rename_i cs t fr hb
  obtain rfl := Option.some.inj hv; exact ⟨t, fr, by rw [hb, hcs]⟩
 ·cases hv
theorem door_met (os : Os) (args : Array Value) : laidMetH Tryd.prog laidL ((World.doorLaid Tryd.prog 400 os).forCall (fun _ _ => 0) ⟨#[], args, []⟩).memory :=
 laidMetH_of_parts3 (fuel := 8) (laidMet_of_run' 8 (by kernel_rfl) (by kernel_rfl)) (by kernel_rfl) (by kernel_rfl)
end Go.Proofs.YtjeecehhcajfaaaDoor.M
end
section
namespace Go.Proofs.YtjeecehhcajfaaaDoor.entryReverse
open Go.ChangeShapes Go.WideShapes Go.ChangeAt Go.RowKit Go.Proofs.YtjeecehhcajfaaaDoor.M Go.Proofs.YtjeecehhcajfaaaDoorW.PrintWords Go.Proofs.YtjeecehhcajfaaaDoorW.PrintLast
open Go.ChangeMaps (open_string shut_string)
set_option linter.unusedVariables false
theorem own : ownKnob Tryd.prog.godebug = none := by kernel_rfl
theorem laidOut : laidOutB Tryd.prog = true := by kernel_rfl
set_option maxRecDepth 100000 in
set_option maxHeartbeats 4000000 in
theorem lifted (os : Os) (started : os.Started) (H : Type) (enc : TypeId × Value → H) :
  ReturnsInHanded {} Tryd.checked os 7 .any (fun w args => (Rows.entryReverseSpec.pre enc Tryd.prog Tryd.f7 Rows.entryReverseRow.domain false w args ∧ laidMetH Tryd.prog Rows.entryReverseRow.laid w) ∧ sizedMet enc Tryd.prog Tryd.f7 (OpenSpec.ofChange Rows.entryReverseSpec) false w args) (Rows.entryReverseSpec.post enc Tryd.prog Tryd.f7 false true false false) := by
 refine returnsInHanded_of_change_and (C := Tryd.checked) (X := fun w _ => laidMetH Tryd.prog Rows.entryReverseRow.laid w) (fun _ _ _ hh h => h.of_heap hh) own started (by kernel_rfl) Tryd.func7
  (ChangeSpec.witness_shaped (enc := enc) (C := Tryd.checked) (os := os) (X := fun w _ => laidMetH Tryd.prog Rows.entryReverseRow.laid w) false (World.doorLaid Tryd.prog 400 os) #[.agg #[.int .i64 0, .string ByteArray.empty, .int .i64 0, .int .i64 0, .int .i64 0, .string ByteArray.empty, .string ByteArray.empty, .int .i64 0, .slice none 0 0], .agg #[.int .i64 0, .int .i64 0, .string ByteArray.empty]] 8 rfl (World.shaped_of_RefB (by kernel_rfl) (by kernel_rfl)) (by kernel_rfl) (by kernel_rfl) (by kernel_rfl) (door_met os _)) ?_
 intro W base args ds gs before hval0 hW hcnd hsz0 hL _; have hsz : (DataW.weightsEach Tryd.prog (Tryd.f7.params.toList ++ Rows.entryReverseSpec.plain.varTypes Tryd.prog) (ds ++ gs)).all (· ≤ reachBytes) = true := hsz0; have hval : ∀ (j : Nat) t v, Tryd.f7.params[j]? = some t → args[j]? = some v → Value.okWide Tryd.prog W .any base t v := hval0; have hW' := hW; obtain ⟨p, q, hA0, hV, rfl, hfz, hnd⟩ := hW; have hA : DataW.TrodAll enc Tryd.prog W 0 (fun _ => true) true Tryd.f7.params.toList args.toList ds p := hA0; rw [Tryd.params7] at hA hval hsz; obtain ⟨v0, vs0, d0, ds0, p0, q0, hargs, rfl, rfl, h0, r0⟩ := trodAll_cons hA; obtain ⟨v1, vs1, d1, ds1, p1, q1, rfl, rfl, rfl, h1, r1⟩ := trodAll_cons r0; obtain ⟨rfl, rfl, rfl⟩ := trodAll_nil r1; obtain rfl : args = #[v0, v1] := by cases args; simp_all
 obtain ⟨rfl, rfl⟩ := trodVars_none hV; obtain ⟨cs0, rfl⟩ : ∃ cs, v0 = .agg cs := by have z := (hval 0 33 v0 rfl rfl); simp only [Value.okWide, Tryd.underlying33] at z; obtain ⟨cs, e, _⟩ := z; exact ⟨cs, e⟩
 have k0 := h0; have lt0 : ∀ x ∈ p0, x.block < W.heap.size := by obtain ⟨m, hm⟩ := k0; exact DataW.trod_lt m _ _ _ hm
 obtain ⟨x0, K0, g0⟩ : ∃ x_ : S33, k33.K W x_ cs0.toList ∧ (G33 x_) := by obtain ⟨f, hf⟩ := h0; exact (opens33).get enc W 0 _ _ f _ _ hf (weights_at hsz (j := 0) (t := 33) rfl rfl)
 obtain ⟨A0_8, c0_8, e0, L0_8, C0_8⟩ := k33_open K0; obtain rfl : cs0 = #[.int .i64 x0.f0, .string x0.f1, .int .i64 x0.f2, .int .i64 x0.f3, .int .i64 x0.f4, .string x0.f5, .string x0.f6, .int .i64 x0.f7, .slice A0_8 x0.f8.length c0_8] := by rw [← Array.toList_inj]; exact e0
 obtain ⟨cs1, rfl⟩ : ∃ cs, v1 = .agg cs := by have z := (hval 1 53 v1 rfl rfl); simp only [Value.okWide, Tryd.underlying53] at z; obtain ⟨cs, e, _⟩ := z; exact ⟨cs, e⟩
 have k1 := h1; have lt1 : ∀ x ∈ p1, x.block < W.heap.size := by obtain ⟨m, hm⟩ := k1; exact DataW.trod_lt m _ _ _ hm
 obtain ⟨x1, K1, g1⟩ : ∃ x_ : S53, k53.K W x_ cs1.toList ∧ (G53 x_) := by obtain ⟨f, hf⟩ := h1; exact (opens53).get enc W 0 _ _ f _ _ hf (weights_at hsz (j := 1) (t := 53) rfl rfl)
 obtain e1 := k53_open K1; obtain rfl : cs1 = #[.int .i64 x1.f0, .int .i64 x1.f1, .string x1.f2] := by rw [← Array.toList_inj]; exact e1
 clear hA0 hval0 hsz0 hsz; obtain ⟨k, h⟩ := Pure.EntryReverse x0 x1 g0 g1; refine (M.F7.calls (k := k) (r := true) (w := W) (hr0_8 := C0_8) (hc0_8 := L0_8) (hr2 := kTab_of (tab_of_laid hL)) (hc2 := Nat.le_refl _) (h := h)).mono fun e W' ⟨he, bel0⟩ => ?_; have bel : Below W.heap.size W W' := by first | exact bel0 | exact bel0.below | (obtain ⟨nd, rfl⟩ := bel0; exact pw_below_drewN (Below.refl _ _) nd)
 subst he; exact ⟨_, rfl, _, _, _, [], _, [], hW', trodAll_mk1 (shut_bool Tryd.underlying4 _), (trodAll_cons_mk (Below.trod laidOut (by kernel_rfl) (of_decide_eq_true (by kernel_rfl)) k0 bel lt0) (trodAll_cons_mk (Below.trod laidOut (by kernel_rfl) (of_decide_eq_true (by kernel_rfl)) k1 bel lt1) trodAll_mk0)), rfl, bel.frame _, fun h => by cases h⟩
theorem over : Rows.entryReverseRow.holds Tryd.pinned (OpenSpec.ofChange Rows.entryReverseSpec) :=
 OpenClaim.holds_of_wide 7 Tryd.f7 rfl rfl rfl rfl rfl rfl rfl ⟨rfl, rfl, rfl, rfl, rfl⟩ rfl rfl rfl rfl rfl (by kernel_rfl) Tryd.func7 (by kernel_rfl)
  (of_decide_eq_true (by kernel_rfl)) (by unfold Func.isWrapper; first | (rw [if_pos (by decide +kernel)]; kernel_rfl) | (rw [if_neg (by decide +kernel)]; exact ⟨rfl, rfl⟩))
  (fun os started H enc _ => lifted os started H enc)
theorem proved : Rows.EntryReverseCardSaid :=
 Claim7.holds_tied_plain_at .later [] [.data] true (true, "be3c0a6bf7d168cfecf7312c4a458ffdf88559f71113c4694bf92cbd7a7be984") false
  over (fun _ h => by cases h) (by kernel_rfl) (fun _ h => by cases h) entryReverse_row_tie rfl ⟨rfl, rfl⟩ (by kernel_rfl) rfl
  (fun f fn hf hfn => by
   obtain rfl : f = 7 := Option.some.inj ((show Tryd.prog.funcNamed "accounting/accountinglaw12.EntryReverse" = some 7 by kernel_rfl).symm.trans hf) |>.symm; obtain rfl : fn = Tryd.f7 := (Option.some.inj (Tryd.func7.symm.trans hfn)).symm
   exact ⟨by kernel_rfl, fun j t ht => by
    rw [Tryd.params7] at ht; have hm : t ∈ [33, 53] := by simpa using Array.mem_of_getElem? ht
    have hall : ([33, 53].all fun u => !Tryd.prog.wantsStandIn u) = true := by kernel_rfl
    exact (show Tryd.prog.wantsStandIn t = false by simpa using List.all_eq_true.1 hall t hm)⟩)
  (by kernel_rfl)
#print axioms proved
end Go.Proofs.YtjeecehhcajfaaaDoor.entryReverse
namespace Go.Proofs.YtjeecehhcajfaaaDoor
theorem entryReverse_holds : Rows.EntryReverseCardSaid := entryReverse.proved
end Go.Proofs.YtjeecehhcajfaaaDoor
end
