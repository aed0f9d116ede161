/- The law of the entries, walked and shown. Part 1 of 2 of what is the claim's own. -/
import Derived.Test.YtjeecehhcajfaaaDoorQBB2
import Derived.Test.YtjeecehhcajfaaaDoorQBB5
import Derived.Test.YtjeecehhcajfaaaDoorQBB7
import Derived.Test.YtjeecehhcajfaaaDoorQBB4
import Derived.Test.YtjeecehhcajfaaaDoorQBB8
import Derived.Laws.Cover1
import Derived.Test.YtjeecehhcajfaaaDoorQBB6
import Derived.Test.YtjeecehhcajfaaaDoorQBB3
namespace Go.Proofs.YtjeecehhcajfaaaDoor.M
theorem ptw1_0 {p : Prop} (h : p := by repeat (first | exact (Kd.C_below HR0.out HB.out) | (with_reducible refine Kd.C_alloc ?_ _) | (with_reducible refine Kd.C_drewN ?_ _) | (with_reducible refine Kd.C_drew ?_))) : p := h
theorem ptw1_1 {p : Prop} (h : p := by (with_reducible repeat (first | apply Kd.R_alloc | apply Kd.R_drewN | apply Kd.R_drew)); exact HO_3.out) : p := h
end Go.Proofs.YtjeecehhcajfaaaDoor.M
section
namespace Go.Proofs.YtjeecehhcajfaaaDoor.M
open Go.RowKit Go.Proofs.YtjeecehhcajfaaaDoorW.PrintWords Go.Proofs.YtjeecehhcajfaaaDoorW.PrintLast Go.Proofs.YtjeecehhcajfaaaDoorW.PrintMore
attribute [local go_sem] max2_int min2_int max_two min_two max_three min_three max_four min_four
set_option linter.unusedVariables false
set_option linter.unusedSimpArgs false
def lnT (w0 : World) : Kd S24 where
 sz := 7
 E := []
 K := fun _ x cs => k24.K w0 x cs
 M := fun _ _ _ x cs => k24.K w0 x cs
 K_len := fun h => k24.K_len h
 K_one := fun h => k24.K_one h
 K_below := fun _ h => h
 K_of_M := fun h => h
 M_mono := fun _ h => h
 M_bound := fun h => h
 M_move := fun _ h => h
 M_lower := fun _ h => h
theorem lnT_C {w0 W : World} {A : Option Addr} {n : Nat} {xs : List S24} (h : Kd.C (lnT w0) W A n xs) (hb : Below w0.heap.size w0 W) : Kd.C k24 W A n xs :=
 ReadsRow.imp_ h (Below.refl _ _) (fun _ _ hp => k24.K_below hb hp)
theorem lnT_below {w0 W : World} {A : Option Addr} {n : Nat} {xs : List S24} (h : Kd.C k24 w0 A n xs) (hb : Below w0.heap.size w0 W) : Kd.C (lnT w0) W A n xs :=
 Kd.C_below (d := lnT w0) (show Kd.C (lnT w0) w0 A n xs from h) hb
theorem put9 {w : World} {g : Nat} {t : TypeId} {c0 c1 c2 c3 c4 c5 c6 c7 c8 a0 a1 a2 a3 a4 a5 a6 a7 a8 : Value} (h : w.heap[g]? = some (.cells #[c0, c1, c2, c3, c4, c5, c6, c7, c8] t (0, 0))) :
  (((((((((w.setCell ⟨g, 0, none⟩ a0).setCell ⟨g, 1, none⟩ a1).setCell ⟨g, 2, none⟩ a2).setCell ⟨g, 3, none⟩ a3).setCell ⟨g, 4, none⟩ a4).setCell ⟨g, 5, none⟩ a5).setCell ⟨g, 6, none⟩ a6).setCell ⟨g, 7, none⟩ a7).setCell ⟨g, 8, none⟩ a8).heap[g]? = some (.cells #[a0, a1, a2, a3, a4, a5, a6, a7, a8] t (0, 0)) :=
 by
 have h9 := blk_set (blk_set (blk_set (blk_set (blk_set (blk_set (blk_set (blk_set (blk_set h 0 a0) 1 a1) 2 a2) 3 a3) 4 a4) 5 a5) 6 a6) 7 a7) 8 a8; simp only [List.setIfInBounds_toArray, List.set_cons_zero, List.set_cons_succ] at h9; exact h9
theorem far9 {w : World} {g g2 : Nat} {t : TypeId} {cs : Array Value} {a0 a1 a2 a3 a4 a5 a6 a7 a8 : Value} (h : w.heap[g2]? = some (.cells cs t (0, 0))) (hn : g2 ≠ g) :
  (((((((((w.setCell ⟨g, 0, none⟩ a0).setCell ⟨g, 1, none⟩ a1).setCell ⟨g, 2, none⟩ a2).setCell ⟨g, 3, none⟩ a3).setCell ⟨g, 4, none⟩ a4).setCell ⟨g, 5, none⟩ a5).setCell ⟨g, 6, none⟩ a6).setCell ⟨g, 7, none⟩ a7).setCell ⟨g, 8, none⟩ a8).heap[g2]? = some (.cells cs t (0, 0)) :=
 blk_far (blk_far (blk_far (blk_far (blk_far (blk_far (blk_far (blk_far (blk_far h hn a0) hn a1) hn a2) hn a3) hn a4) hn a5) hn a6) hn a7) hn a8
theorem bel9 {w W : World} {g B : Nat} {a0 a1 a2 a3 a4 a5 a6 a7 a8 : Value} (h : Below B w W) (hg : B ≤ g) :
  Below B w (((((((((W.setCell ⟨g, 0, none⟩ a0).setCell ⟨g, 1, none⟩ a1).setCell ⟨g, 2, none⟩ a2).setCell ⟨g, 3, none⟩ a3).setCell ⟨g, 4, none⟩ a4).setCell ⟨g, 5, none⟩ a5).setCell ⟨g, 6, none⟩ a6).setCell ⟨g, 7, none⟩ a7).setCell ⟨g, 8, none⟩ a8) :=
 ((((((((h.setCell hg a0).setCell hg a1).setCell hg a2).setCell hg a3).setCell hg a4).setCell hg a5).setCell hg a6).setCell hg a7).setCell hg a8
def zeros (s : List S61) : Bool := s.all (fun q => decide (q.f1 = 0) && decide (q.f2 = 0))
def F10.f (k : Nat) (a0_0 : Int) (a0_1 : ByteArray) (a0_2 : Int) (a0_3 : Int) (a0_4 : Int) (a0_5 : ByteArray) (a0_6 : ByteArray) (a0_7 : Int) (l0_8 : List S24) (a1_0 : Int) (a1_1 : Int) (a1_2 : ByteArray) (l2 : List Int) : Option Bool :=
 (F12.f k l0_8).bind fun t => if t = true then (F28.f k a0_0 a0_1 a0_2 a0_3 a0_4 a0_5 a0_6 a0_7 l0_8 a1_0 a1_1 a1_2 l2).bind fun y => if y.2.2.2.2.2.2.2.2.2 = 0 then (if l0_8.length ≤ 1000 ∧ y.2.2.2.2.2.2.2.2.1.length ≤ 1000 then (F18.f (l0_8 ++ y.2.2.2.2.2.2.2.2.1)).bind fun s => if s.2 = 0 ∧ zeros s.1 = true ∧ s.1.length ≤ 1000000 then (F28.f k 1 y.2.1 y.2.2.1 y.2.2.2.1 y.2.2.2.2.1 y.2.2.2.2.2.1 y.2.2.2.2.2.2.1 y.2.2.2.2.2.2.2.1 y.2.2.2.2.2.2.2.2.1 a1_0 a1_1 a1_2 l2).bind fun z => if z.2.2.2.2.2.2.2.2.2 = 0 ∧ z.2.2.2.2.2.2.2.1 = 1 then (F27.f k z.2.2.2.2.2.2.2.2.1 l0_8).bind fun u => if u = true then F13.f k l2 else none else none else none else none) else F13.f k l2 else F13.f k l2
set_option maxHeartbeats 16000000 in
set_option maxRecDepth 100000 in
theorem F10.calls (k : Nat) (a0_0 : Int) (a0_1 : ByteArray) (a0_2 : Int) (a0_3 : Int) (a0_4 : Int) (a0_5 : ByteArray) (a0_6 : ByteArray) (a0_7 : Int) (A0_8 : Option Addr) (c0_8 : Nat) (l0_8 : List S24) (a1_0 : Int) (a1_1 : Int) (a1_2 : ByteArray) (A2 : Option Addr) (c2 : Nat) (l2 : List Int) (r : Bool) (w : World) (hr0_8 : Kd.C k24 w A0_8 l0_8.length l0_8) (hc0_8 : l0_8.length ≤ c0_8) (hr2 : Kd.C kTab w A2 l2.length l2) (hc2 : l2.length ≤ c2) (h : F10.f k a0_0 a0_1 a0_2 a0_3 a0_4 a0_5 a0_6 a0_7 l0_8 a1_0 a1_1 a1_2 l2 = some r) :
  Calls Tryd.prog 10 #[.agg #[.int .i64 a0_0, .string a0_1, .int .i64 a0_2, .int .i64 a0_3, .int .i64 a0_4, .string a0_5, .string a0_6, .int .i64 a0_7, .slice A0_8 l0_8.length c0_8], .agg #[.int .i64 a1_0, .int .i64 a1_1, .string a1_2]] w fun e w' => e = .returned (.bool r) ∧ Below w.heap.size w w' := by
 have HR0 := Aside0.mk hr0_8; have HC0 := Aside0.mk hc0_8; have HR2 := Aside0.mk hr2; have HC2 := Aside0.mk hc2; clear hr0_8 hc0_8 hr2 hc2
 unfold F10.f at h
 obtain ⟨t, ht, h⟩ := Option.bind_eq_some_iff.mp h; have HT := Aside0.mk ht; clear ht; have HB := Aside0.mk (Below.refl w.heap.size w)
 cases t with
 | false =>
  simp only [Bool.false_eq_true, if_false] at h; have HL := Aside0.mk h; clear h; go_enter Tryd.func10, Tryd.ntmps10
  go_wp2_with (first
   | ((with_reducible refine gate_dst (N := 2) rfl ?_); refine box_event ?hg (N := 2) ?hd (cs := #[.int .i64 a0_0, .string a0_1, .int .i64 a0_2, .int .i64 a0_3, .int .i64 a0_4, .string a0_5, .string a0_6, .int .i64 a0_7, .slice A0_8 l0_8.length c0_8]) (t := 33) ?hr ?_; (case hd => rfl); (case hg => rfl); (case hr => first | (go_simp; done) | (go_simp; rfl)); intro g1 hg w1 hbox hb; have BK1 := Aside0.mk hbox; have HB1 := Aside0.mk (below_step HB.out hb); clear hg hbox hb HB)
   | ((with_reducible refine gate_dst (N := 3) rfl ?_); refine box_event ?hg (N := 3) ?hd (cs := #[.int .i64 a1_0, .int .i64 a1_1, .string a1_2]) (t := 53) ?hr ?_; (case hd => rfl); (case hg => rfl); (case hr => first | (go_simp; done) | (go_simp; rfl)); intro g2 hg w2 hbox hb; have BK1b := Aside0.mk (blk_below BK1.out hb); have HB2 := Aside0.mk (below_step HB1.out hb); clear hg hbox hb HB1 BK1; have k8 := (blk_cell BK1b.out 8).trans rfl)
   | (go_at_call 12; (with_reducible refine (F12.calls k A0_8 c0_8 l0_8 _ _ (by exact Kd.C_below HR0.out HB2.out) HC0.out HT.out).mono ?_); rintro e w5 ⟨rfl, ⟨nd, rfl⟩⟩)
   | (go_at_call 13; (with_reducible refine (F13.calls k A2 c2 l2 _ _ (by exact Kd.C_drewN (Kd.C_below HR2.out HB2.out) _) HC2.out HL.out).mono ?_); rintro e w9 ⟨rfl, hb⟩; have HB9 := Aside0.mk (below_step (pw_below_drewN HB2.out nd) hb); clear hb))
  go_ret
  exact ⟨rfl, HB9.out⟩
 | true =>
  simp only [if_true] at h; obtain ⟨⟨y0, y1, y2, y3, y4, y5, y6, y7, y8, ye⟩, hy, h⟩ := Option.bind_eq_some_iff.mp h; have HY := Aside0.mk hy; clear hy; simp only at h
  by_cases hye : ye = 0
  ·rw [if_pos hye] at h; subst hye
   by_cases hln : l0_8.length ≤ 1000 ∧ y8.length ≤ 1000
   case neg => rw [if_neg hln] at h; cases h
   rw [if_pos hln] at h; have HLN := Aside0.mk hln; clear hln; obtain ⟨⟨s1, s2⟩, hs, h1⟩ := Option.bind_eq_some_iff.mp h; clear h; simp only at h1
   by_cases hz : s2 = 0 ∧ zeros s1 = true ∧ s1.length ≤ 1000000
   case neg => rw [if_neg hz] at h1; cases h1
   rw [if_pos hz] at h1; obtain ⟨hs2, hz, hzl⟩ := hz; subst hs2; have HS := Aside0.mk hs; have HZ := Aside0.mk hz; have HZL := Aside0.mk hzl; clear hs hz hzl; obtain ⟨⟨z0, z1, z2, z3, z4, z5, z6, z7, z8, ze⟩, hzr, h2⟩ := Option.bind_eq_some_iff.mp h1; clear h1; simp only at h2
   by_cases hzz : ze = 0 ∧ z7 = 1
   case neg => rw [if_neg hzz] at h2; cases h2
   rw [if_pos hzz] at h2; obtain ⟨hz1, hz2⟩ := hzz; subst hz1 hz2; have HZR := Aside0.mk hzr; clear hzr; obtain ⟨u, hu, h3⟩ := Option.bind_eq_some_iff.mp h2; clear h2
   cases u with
   | false => cases h3
   | true =>
    simp only [if_true] at h3; have HU := Aside0.mk hu; have HL := Aside0.mk h3; clear hu h3; go_enter Tryd.func10, Tryd.ntmps10
    go_wp2_with (first
     | ((with_reducible refine gate_dst (N := 2) rfl ?_); refine box_event ?hg (N := 2) ?hd (cs := #[.int .i64 a0_0, .string a0_1, .int .i64 a0_2, .int .i64 a0_3, .int .i64 a0_4, .string a0_5, .string a0_6, .int .i64 a0_7, .slice A0_8 l0_8.length c0_8]) (t := 33) ?hr ?_; (case hd => rfl); (case hg => rfl); (case hr => first | (go_simp; done) | (go_simp; rfl)); intro g1 hg w1 hbox hb; have BK1 := Aside0.mk hbox; have GE1 := Aside0.mk (show w.heap.size ≤ g1 by rw [hg]; exact HB.out.size); have HB1 := Aside0.mk (below_step HB.out hb); clear hg hbox hb HB)
     | ((with_reducible refine gate_dst (N := 3) rfl ?_); refine box_event ?hg (N := 3) ?hd (cs := #[.int .i64 a1_0, .int .i64 a1_1, .string a1_2]) (t := 53) ?hr ?_; (case hd => rfl); (case hg => rfl); (case hr => first | (go_simp; done) | (go_simp; rfl)); intro g2 hg w2 hbox hb; have BK1b := Aside0.mk (blk_below BK1.out hb); have BK2 := Aside0.mk hbox; have HB2 := Aside0.mk (below_step HB1.out hb); clear hg hbox hb HB1 BK1; have k8 := (blk_cell BK1b.out 8).trans rfl)
     | (go_at_call 12; (with_reducible refine (F12.calls k A0_8 c0_8 l0_8 _ _ (by exact Kd.C_below HR0.out HB2.out) HC0.out HT.out).mono ?_); rintro e w5 ⟨rfl, ⟨nd, rfl⟩⟩; have BK1c := Aside0.mk (blk_drewN BK1b.out nd); have BK2c := Aside0.mk (blk_drewN BK2.out nd); have HB3 := Aside0.mk (pw_below_drewN HB2.out nd); generalize w2.drewN nd = w3 at BK1c BK2c HB3 ⊢; clear BK1b BK2 HB2; have x0 := (blk_cell BK1c.out 0).trans rfl; have x1 := (blk_cell BK1c.out 1).trans rfl; have x2 := (blk_cell BK1c.out 2).trans rfl; have x3 := (blk_cell BK1c.out 3).trans rfl; have x4 := (blk_cell BK1c.out 4).trans rfl; have x5 := (blk_cell BK1c.out 5).trans rfl; have x6 := (blk_cell BK1c.out 6).trans rfl; have x7 := (blk_cell BK1c.out 7).trans rfl; have x8 := (blk_cell BK1c.out 8).trans rfl; have zc0 := (blk_cell BK2c.out 0).trans rfl; have zc1 := (blk_cell BK2c.out 1).trans rfl; have zc2 := (blk_cell BK2c.out 2).trans rfl)
     | (go_at_call 28; (with_reducible refine (F28.calls k a0_0 a0_1 a0_2 a0_3 a0_4 a0_5 a0_6 a0_7 A0_8 c0_8 l0_8 a1_0 a1_1 a1_2 A2 c2 l2 y0 y1 y2 y3 y4 y5 y6 y7 y8 0 _ (by exact Kd.C_below HR0.out HB3.out) HC0.out (by exact Kd.C_below HR2.out HB3.out) HC2.out HY.out).mono ?_); rintro e w4 ⟨v8, rfl, hS, hb⟩; obtain ⟨A8, c8, rfl⟩ := Kd.S_slice hS; have HS8 := Aside0.mk (Kd.R_reads' (Kd.S_R hS)); have HB4 := Aside0.mk (below_step HB3.out hb); have BK1d := Aside0.mk (blk_below BK1c.out hb); have BK2d := Aside0.mk (blk_below BK2c.out hb); clear hS hb BK1c BK2c)
     | ((with_reducible refine gate_dst (N := 5) rfl ?_); refine box_event ?hg (N := 5) ?hd (cs := #[.int .i64 0, .string (⟨#[]⟩ : ByteArray), .int .i64 0, .int .i64 0, .int .i64 0, .string (⟨#[]⟩ : ByteArray), .string (⟨#[]⟩ : ByteArray), .int .i64 0, .slice none 0 0]) (t := 33) ?hr ?_; (case hd => rfl); (case hg => rfl); (case hr => first | (go_simp; done) | (go_simp; rfl)); intro g5 hg w5 hbox hb; have GE5 := Aside0.mk (show w.heap.size ≤ g5 by rw [hg]; exact HB4.out.size); have GF5 := Aside0.mk (show w4.heap.size ≤ g5 by rw [hg]; exact Nat.le_refl _); have NE1 := Aside0.mk (show g1 ≠ g5 by rw [hg]; exact Nat.ne_of_lt (blk_lt BK1d.out)); have NE2 := Aside0.mk (show g2 ≠ g5 by rw [hg]; exact Nat.ne_of_lt (blk_lt BK2d.out)); have HB5 := Aside0.mk (below_step HB4.out hb); have BK1e := Aside0.mk (blk_below BK1d.out hb); have BK2e := Aside0.mk (blk_below BK2d.out hb); have BK5 := Aside0.mk hbox; have HX5 := Aside0.mk hb; have q0 := (blk_cell hbox 0).trans rfl; have q1 := (blk_cell hbox 1).trans rfl; have q2 := (blk_cell hbox 2).trans rfl; have q3 := (blk_cell hbox 3).trans rfl; have q4 := (blk_cell hbox 4).trans rfl; have q5 := (blk_cell hbox 5).trans rfl; have q6 := (blk_cell hbox 6).trans rfl; have q7 := (blk_cell hbox 7).trans rfl; have q8 := (blk_cell hbox 8).trans rfl; have f0 := blk_frozen hbox 0; have f1 := blk_frozen hbox 1; have f2 := blk_frozen hbox 2; have f3 := blk_frozen hbox 3; have f4 := blk_frozen hbox 4; have f5 := blk_frozen hbox 5; have f6 := blk_frozen hbox 6; have f7 := blk_frozen hbox 7; have f8 := blk_frozen hbox 8; clear hg hbox hb HB4 BK1d BK2d))
    refine nameW ?_; intro W hW; have HB6 : Aside0 (Below w.heap.size w W.drew) := ⟨by rw [← hW]; exact below_drew (bel9 HB5.out GE5.out)⟩; have X6 : Aside0 (W.drew.heap[g1]? = some (.cells #[.int .i64 a0_0, .string a0_1, .int .i64 a0_2, .int .i64 a0_3, .int .i64 a0_4, .string a0_5, .string a0_6, .int .i64 a0_7, .slice A0_8 l0_8.length c0_8] 33 (0, 0))) := ⟨by rw [← hW]; exact blk_drew (far9 BK1e.out NE1.out)⟩; have Z6 : Aside0 (W.drew.heap[g2]? = some (.cells #[.int .i64 a1_0, .int .i64 a1_1, .string a1_2] 53 (0, 0))) := ⟨by rw [← hW]; exact blk_drew (far9 BK2e.out NE2.out)⟩; have Y6 : Aside0 (W.drew.heap[g5]? = some (.cells #[.int .i64 y0, .string y1, .int .i64 y2, .int .i64 y3, .int .i64 y4, .string y5, .string y6, .int .i64 y7, .slice A8 y8.length c8] 33 (0, 0))) := ⟨by rw [← hW]; exact blk_drew (put9 BK5.out)⟩; have C8 : Aside0 (Kd.C k24 W.drew A8 y8.length y8) := ⟨by rw [← hW]; exact Kd.C_below HS8.out.2.2 (below_drew (bel9 HX5.out GF5.out))⟩; have HX6 : Aside0 (Below w4.heap.size w4 W.drew) := ⟨by rw [← hW]; exact below_drew (bel9 HX5.out GF5.out)⟩; clear hW HB5 BK1e BK2e BK5 HX5 HB3; refine start_ (n := 13) (S := fun w' => w'.heap[g1]? = some (.cells #[.int .i64 a0_0, .string a0_1, .int .i64 a0_2, .int .i64 a0_3, .int .i64 a0_4, .string a0_5, .string a0_6, .int .i64 a0_7, .slice A0_8 l0_8.length c0_8] 33 (0, 0)) ∧ w'.heap[g5]? = some (.cells #[.int .i64 y0, .string y1, .int .i64 y2, .int .i64 y3, .int .i64 y4, .string y5, .string y6, .int .i64 y7, .slice A8 y8.length c8] 33 (0, 0))) (ds := []) (bq 13 0) (by kernel_rfl) rfl rfl ⟨X6.out, Y6.out⟩ (fun hHeld => ?_); generalize W.drew = W1 at hHeld HB6 X6 Z6 Y6 C8 HX6 ⊢; refine take_ (i := 1) (N := some 33) (v := ?_) (a' := ?_) (bq 13 2) rfl rfl (by kernel_rfl) (fun _ _ _ h => h) (Or.inl ⟨by rfl, ?_⟩) hHeld ?_ ?_; rotate_left
    ·rintro w' ⟨s0, s5⟩; have k8 := (blk_cell s0 8).trans rfl; have l8 := (blk_cell s5 8).trans rfl; go_simp; with_reducible rfl
    rotate_left
    ·exact cbb2_0
    refine take_ (i := 2) (N := some 34) (v := ?_) (a' := ?_) (bq 13 6) rfl rfl (by kernel_rfl) (fun _ _ _ h => h) (Or.inl ⟨by rfl, ?_⟩) hHeld ?_ ?_; rotate_left
    ·rintro w' ⟨s0, s5⟩; have k8 := (blk_cell s0 8).trans rfl; have l8 := (blk_cell s5 8).trans rfl; go_simp; with_reducible rfl
    rotate_left
    ·exact cbb2_0
    refine take_ (i := 4) (N := some 36) (v := ?_) (a' := ?_) (bq 13 22) rfl rfl (by kernel_rfl) (fun _ _ _ h => h) (Or.inl ⟨by rfl, ?_⟩) hHeld ?_ ?_; rotate_left
    ·rintro w' ⟨s0, s5⟩; have k8 := (blk_cell s0 8).trans rfl; have l8 := (blk_cell s5 8).trans rfl; go_simp; with_reducible rfl
    rotate_left
    ·exact cbb2_0
    refine take_ (i := 5) (N := some 37) (v := ?_) (a' := ?_) (bq 13 54) rfl rfl (by kernel_rfl) (fun _ _ _ h => h) (Or.inl ⟨by rfl, ?_⟩) hHeld ?_ ?_; rotate_left
    ·rintro w' ⟨s0, s5⟩; have k8 := (blk_cell s0 8).trans rfl; have l8 := (blk_cell s5 8).trans rfl; go_simp; with_reducible rfl
    rotate_left
    ·exact cbb2_0
    refine one_ (i := 0) (N := some 32) (bq 13 55) rfl rfl (by kernel_rfl) (by decide) (fun K hK => ?_); refine Kd.R_lit_step (lnT W1) (w0 := W1) W1.heap.size 24 (by rfl) (N := 32) rfl (xs := []) (inner := []) (okp := fun _ => False) (ok := (fun _ => True)) pbb5_4 ⟨rfl, fun j q hq => by simp at hq⟩ (fun _ hk => hk.elim) trivial (Below.refl _ _) (Nat.le_refl _) (by simp) ?_; intro v32 w32 ho hb hg hat; refine hK.out _ _ ⟨blk_below X6.out hb, blk_below Y6.out hb⟩ (fun hHeld => ?_); have H32 := Aside0.mk ho; have B32 := Aside0.mk hb; clear ho hb hg hat; clear hK K; refine norm_ (a' := ?_) ?_ ?_; rotate_left
    ·show Act.put _ (some 32) _ = _; simp only [Act.put, List.setIfInBounds_toArray, List.set_cons_zero, List.set_cons_succ, i64_w, i32_w]
     rfl
    refine one_ (i := 3) (N := some 35) (bq 13 63) rfl rfl (by kernel_rfl) (by decide) (fun K hK => ?_); refine Kd.R_append_rows_step (lnT W1) (w0 := W1) (Rr := (lnT W1).K W1) W1.heap.size (by rfl) (.tmp 32) (.tmp 34) 26 24 (.agg #[(.string ⟨#[]⟩), (.string ⟨#[]⟩), (.int .i64 0), (.int .i64 0), (.string ⟨#[]⟩), (.string ⟨#[]⟩), (.slice none 0 0)]) 104 rfl Tryd.underlying26 info24 rfl (show 0 < 7 by decide) (by omega) v32 [] l0_8 A0_8 l0_8.length c0_8 (fun _ => True) (fun _ => False) rfl rfl H32.out (lnT_below (Kd.C_below HR0.out HB6.out) B32.out) (fun y cs hy => hy) (fun _ hk => hk.elim) (fun _ _ => trivial) B32.out B32.out.size (by simp only [List.length_nil]; have := HLN.out.1; omega) ?_; intro v35 w35 ho hb hg hat; refine hK.out _ _ ⟨blk_below X6.out hb, blk_below Y6.out hb⟩ (fun hHeld => ?_); rw [List.nil_append] at ho; have H35 := Aside0.mk ho; have B35 := Aside0.mk hb; clear ho hb hg hat H32 B32; clear hK K; refine norm_ (a' := ?_) ?_ ?_; rotate_left
    ·show Act.put _ (some 35) _ = _; simp only [Act.put, List.setIfInBounds_toArray, List.set_cons_zero, List.set_cons_succ, i64_w, i32_w]
     rfl
    refine one_ (i := 6) (N := some 38) (bq 13 127) rfl rfl (by kernel_rfl) (by decide) (fun K hK => ?_); refine Kd.R_append_rows_step (lnT W1) (w0 := W1) (Rr := (lnT W1).K W1) W1.heap.size (by rfl) (.tmp 35) (.tmp 37) 26 24 (.agg #[(.string ⟨#[]⟩), (.string ⟨#[]⟩), (.int .i64 0), (.int .i64 0), (.string ⟨#[]⟩), (.string ⟨#[]⟩), (.slice none 0 0)]) 104 rfl Tryd.underlying26 info24 rfl (show 0 < 7 by decide) (by omega) v35 l0_8 y8 A8 y8.length c8 (fun _ => True) (fun _ => False) rfl rfl H35.out (lnT_below C8.out B35.out) (fun y cs hy => hy) (fun _ hk => hk.elim) (fun _ _ => trivial) B35.out B35.out.size (by have := HLN.out; omega) ?_; intro v38 w38 ho hb hg hat; refine hK.out _ _ ⟨blk_below X6.out hb, blk_below Y6.out hb⟩ (fun hHeld => ?_); obtain ⟨A38, c38, rfl, hl38, hC38⟩ := Kd.R_reads ho; have C38 := Aside0.mk (lnT_C hC38 hb); have L38 := Aside0.mk hl38; have B38 := Aside0.mk hb; clear ho hb hg hat H35 B35 hl38 hC38; generalize hcat : l0_8 ++ y8 = cat at HS C38 L38 ⊢; clear hK K; refine norm_ (a' := ?_) ?_ ?_; rotate_left
    ·show Act.put _ (some 38) _ = _; simp only [Act.put, List.setIfInBounds_toArray, List.set_cons_zero, List.set_cons_succ, i64_w, i32_w]
     rfl
    refine one_ (i := 7) (N := some 39) (bq 13 255) rfl rfl (by kernel_rfl) (by decide) (fun K hK => ?_); refine goes_ Tryd.func18 (by kernel_rfl) rfl #[.slice A38 cat.length c38] (by rfl) rfl rfl (by (try simp only [List.map_toArray, List.map_cons, List.map_nil]); first | done | rfl) ?_; (with_reducible refine (F18.calls A38 c38 cat s1 0 _ C38.out L38.out HS.out).mono ?_); rintro e w39 ⟨v39, rfl, hR, hb⟩; refine ⟨_, rfl, ?_⟩; obtain ⟨A39, c39, rfl, hl39, hC39⟩ := Kd.R_reads hR; have B39 := Aside0.mk (below_step B38.out hb); refine hK.out _ _ ⟨blk_below X6.out B39.out, blk_below Y6.out B39.out⟩ (fun hHeld => ?_); have C39 := Aside0.mk hC39; have L39 := Aside0.mk hl39; have X7 := Aside0.mk (blk_below X6.out B39.out); have Y7 := Aside0.mk (blk_below Y6.out B39.out); have Z7 := Aside0.mk (blk_below Z6.out B39.out); have C87 := Aside0.mk (Kd.C_below C8.out B39.out); have HB7 := Aside0.mk (below_step HB6.out B39.out); have HX7 := Aside0.mk (below_step HX6.out B39.out); clear hR hb hl39 hC39 C38 L38 B38 X6 Y6 Z6 C8 HB6 B39 HX6; clear hK K; refine norm_ (a' := ?_) ?_ ?_; rotate_left
    ·show Act.put _ (some 39) _ = _; simp only [Act.put, List.setIfInBounds_toArray, List.set_cons_zero, List.set_cons_succ, i64_w, i32_w]
     rfl
    refine pure_ (i := 8) (N := some 31) (v := ?_) (a' := ?_) (bq 13 511) rfl rfl (by kernel_rfl) (fun _ _ _ h => h) (Or.inl ⟨by rfl, ?_⟩) ?_ ?_; rotate_left
    ·intro w'; go_simp; with_reducible rfl
    rotate_left
    ·exact cbb2_0
    refine pure_ (i := 9) (N := some 40) (v := ?_) (a' := ?_) (bq 13 1023) rfl rfl (by kernel_rfl) (fun _ _ _ h => h) (Or.inl ⟨by rfl, ?_⟩) ?_ ?_; rotate_left
    ·intro w'; go_simp; with_reducible rfl
    rotate_left
    ·exact cbb2_0
    refine pure_ (i := 10) (N := some 41) (v := ?_) (a' := ?_) (bq 13 2047) rfl rfl (by kernel_rfl) (fun _ _ _ h => h) (Or.inl ⟨by rfl, ?_⟩) ?_ ?_; rotate_left
    ·intro w'; go_simp; with_reducible rfl
    rotate_left
    ·exact cbb2_0
    refine pure_ (i := 11) (N := some 7) (v := ?_) (a' := ?_) (bq 13 4095) rfl rfl (by kernel_rfl) (fun _ _ _ h => h) (Or.inl ⟨by rfl, ?_⟩) ?_ ?_; rotate_left
    ·intro w'; go_simp; with_reducible rfl
    rotate_left
    ·exact cbb2_0
    refine pure_ (i := 12) (N := some 8) (v := ?_) (a' := ?_) (bq 13 8191) rfl rfl (by kernel_rfl) (fun _ _ _ h => h) (Or.inl ⟨by rfl, ?_⟩) ?_ ?_; rotate_left
    ·intro w'; go_simp; with_reducible rfl
    rotate_left
    ·exact cbb2_0
    refine done_ (by kernel_rfl) ?_
    go_wp2
    go_loopg [9] s1.length (fun kq v9 w' => ∃ i : Nat, v9 = .int .i64 (i : Int) ∧ Aside0 (i + kq = s1.length) ∧ Aside0 (w' = w39))
    case atStart => exact ⟨0, by go_num, ⟨by omega⟩, ⟨rfl⟩⟩
    case round =>
     obtain ⟨i, rfl, HI, HW⟩ := hrel; obtain rfl := HW.out
     cases gk with
     | zero =>
      have hlt : decide ((i : Int) < (s1.length : Int)) = false := decide_eq_false (by have := HI.out; omega); have hlt2 : decide (i < s1.length) = false := decide_eq_false (by have := HI.out; omega); have d1 := NE1.out; have d2 := NE2.out; have d3 := d1.symm; have d4 := d2.symm; have q0 := (blk_cell Y7.out 0).trans rfl; have q1 := (blk_cell Y7.out 1).trans rfl; have q2 := (blk_cell Y7.out 2).trans rfl; have q3 := (blk_cell Y7.out 3).trans rfl; have q4 := (blk_cell Y7.out 4).trans rfl; have q5 := (blk_cell Y7.out 5).trans rfl; have q6 := (blk_cell Y7.out 6).trans rfl; have q7 := (blk_cell Y7.out 7).trans rfl; have q8 := (blk_cell Y7.out 8).trans rfl; have f0 := blk_frozen Y7.out 0; have f1 := blk_frozen Y7.out 1; have f2 := blk_frozen Y7.out 2; have f3 := blk_frozen Y7.out 3; have f4 := blk_frozen Y7.out 4; have f5 := blk_frozen Y7.out 5; have f6 := blk_frozen Y7.out 6; have f7 := blk_frozen Y7.out 7; have f8 := blk_frozen Y7.out 8; have r0 := (blk_cell Z7.out 0).trans rfl; have r1 := (blk_cell Z7.out 1).trans rfl; have r2 := (blk_cell Z7.out 2).trans rfl
      go_wp2_with (first
       | (go_at_call 28; (with_reducible refine (F28.calls k 1 y1 y2 y3 y4 y5 y6 y7 A8 c8 y8 a1_0 a1_1 a1_2 A2 c2 l2 z0 z1 z2 z3 z4 z5 z6 1 z8 0 _ (by exact Kd.C_below HS8.out.2.2 (HX7.out.setCell GF5.out _)) HS8.out.2.1 (by exact Kd.C_below HR2.out (HB7.out.setCell GE5.out _)) HC2.out HZR.out).mono ?_); rintro e w50 ⟨v50, rfl, hS, hb⟩; obtain ⟨A50, c50, rfl⟩ := Kd.S_slice hS; have HS50 := Aside0.mk (Kd.R_reads' (Kd.S_R hS)); have HB8 := Aside0.mk (below_step (HB7.out.setCell GE5.out _) hb); have X8 := Aside0.mk (blk_below (blk_far X7.out NE1.out _) hb); clear hS hb)
       | ((with_reducible refine gate_dst (N := 10) rfl ?_); refine box_event ?hg (N := 10) ?hd (cs := #[.int .i64 0, .string (⟨#[]⟩ : ByteArray), .int .i64 0, .int .i64 0, .int .i64 0, .string (⟨#[]⟩ : ByteArray), .string (⟨#[]⟩ : ByteArray), .int .i64 0, .slice none 0 0]) (t := 33) ?hr ?_; (case hd => rfl); (case hg => rfl); (case hr => first | (go_simp; done) | (go_simp; rfl)); intro g10 hg w51 hbox hb; have GE10 := Aside0.mk (show w.heap.size ≤ g10 by rw [hg]; exact HB8.out.size); have GF10 := Aside0.mk (show w50.heap.size ≤ g10 by rw [hg]; exact Nat.le_refl _); have N10 := (show g1 ≠ g10 by rw [hg]; exact Nat.ne_of_lt (blk_lt X8.out)); have N11 := N10.symm; have HB9 := Aside0.mk (below_step HB8.out hb); have X9 := Aside0.mk (blk_below X8.out hb); have HX10 := Aside0.mk hb; have BK10 := Aside0.mk hbox; have m0 := (blk_cell hbox 0).trans rfl; have m1 := (blk_cell hbox 1).trans rfl; have m2 := (blk_cell hbox 2).trans rfl; have m3 := (blk_cell hbox 3).trans rfl; have m4 := (blk_cell hbox 4).trans rfl; have m5 := (blk_cell hbox 5).trans rfl; have m6 := (blk_cell hbox 6).trans rfl; have m7 := (blk_cell hbox 7).trans rfl; have m8 := (blk_cell hbox 8).trans rfl; have n0 := blk_frozen hbox 0; have n1 := blk_frozen hbox 1; have n2 := blk_frozen hbox 2; have n3 := blk_frozen hbox 3; have n4 := blk_frozen hbox 4; have n5 := blk_frozen hbox 5; have n6 := blk_frozen hbox 6; have n7 := blk_frozen hbox 7; have n8 := blk_frozen hbox 8; have k8 := (blk_cell X9.out 8).trans rfl; clear hg hbox hb HB8 X8)
       | (go_at_call 27; (with_reducible refine (F27.calls k A50 c50 z8 A0_8 c0_8 l0_8 true _ (by exact Kd.C_below HS50.out.2.2 (bel9 HX10.out GF10.out)) HS50.out.2.1 (by exact Kd.C_below HR0.out (bel9 HB9.out GE10.out)) HC0.out HU.out).mono ?_); rintro e w52 ⟨rfl, hb⟩; have HB10 := Aside0.mk (below_step (bel9 HB9.out GE10.out) hb); have m7b := (blk_cell (blk_below (put9 BK10.out) hb) 7).trans rfl; clear hb)
       | (go_at_call 13; (with_reducible refine (F13.calls k A2 c2 l2 _ _ (by exact Kd.C_below HR2.out HB10.out) HC2.out HL.out).mono ?_); rintro e w53 ⟨rfl, hb⟩; have HB11 := Aside0.mk (below_step HB10.out hb); clear hb))
      go_ret
      exact ⟨rfl, HB11.out⟩
     | succ k1 =>
      have hi : i < s1.length := by have := HI.out; omega
      have hlt : decide ((i : Int) < (s1.length : Int)) = true := decide_eq_true (by omega); have p1 : 0 ≤ (i : Int) := by omega
      have q1 : (i : Int) < (s1.length : Int) := by omega
      obtain ⟨ad, e1, hx0, hx1, hx2⟩ := at_T61 C39.out (i : Int) p1 q1
      cases e1
      simp only [Int.toNat_natCast] at hx0 hx1 hx2; have hrd : rd_T61 s1 (i : Int) = s1[i] := by simp [rd_T61, hi]
      have hzz := List.all_eq_true.1 (show s1.all (fun q => decide (q.f1 = 0) && decide (q.f2 = 0)) = true from HZ.out) s1[i] (List.getElem_mem hi); simp only [Bool.and_eq_true, decide_eq_true_eq] at hzz; rw [hrd, hzz.1] at hx1; rw [hrd, hzz.2] at hx2; clear hrd hzz; replace p1 := eq_true p1; replace q1 := eq_true q1
      go_wp2
      go_roundg k1
      case measure => omega
      have hzl := HZL.out
      case rel => exact ⟨i + 1, by rw [show wrap64 ((i : Int) + 1) = ((i + 1 : Nat) : Int) by unfold wrap64; omega], ⟨by have := HI.out; omega⟩, ⟨rfl⟩⟩
  ·rw [if_neg hye] at h; have HL := Aside0.mk h; clear h; have hne : (ye != 0) = true := bne_iff_ne.2 hye; go_enter Tryd.func10, Tryd.ntmps10
   go_wp2_with (first
    | ((with_reducible refine gate_dst (N := 2) rfl ?_); refine box_event ?hg (N := 2) ?hd (cs := #[.int .i64 a0_0, .string a0_1, .int .i64 a0_2, .int .i64 a0_3, .int .i64 a0_4, .string a0_5, .string a0_6, .int .i64 a0_7, .slice A0_8 l0_8.length c0_8]) (t := 33) ?hr ?_; (case hd => rfl); (case hg => rfl); (case hr => first | (go_simp; done) | (go_simp; rfl)); intro g1 hg w1 hbox hb; have BK1 := Aside0.mk hbox; have HB1 := Aside0.mk (below_step HB.out hb); clear hg hbox hb HB)
    | ((with_reducible refine gate_dst (N := 3) rfl ?_); refine box_event ?hg (N := 3) ?hd (cs := #[.int .i64 a1_0, .int .i64 a1_1, .string a1_2]) (t := 53) ?hr ?_; (case hd => rfl); (case hg => rfl); (case hr => first | (go_simp; done) | (go_simp; rfl)); intro g2 hg w2 hbox hb; have BK1b := Aside0.mk (blk_below BK1.out hb); have BK2 := Aside0.mk hbox; have HB2 := Aside0.mk (below_step HB1.out hb); clear hg hbox hb HB1 BK1; have k8 := (blk_cell BK1b.out 8).trans rfl)
    | (go_at_call 12; (with_reducible refine (F12.calls k A0_8 c0_8 l0_8 _ _ (by exact Kd.C_below HR0.out HB2.out) HC0.out HT.out).mono ?_); rintro e w5 ⟨rfl, ⟨nd, rfl⟩⟩; have BK1c := Aside0.mk (blk_drewN BK1b.out nd); have BK2c := Aside0.mk (blk_drewN BK2.out nd); have HB3 := Aside0.mk (pw_below_drewN HB2.out nd); generalize w2.drewN nd = w3 at BK1c BK2c HB3 ⊢; clear BK1b BK2 HB2; have x0 := (blk_cell BK1c.out 0).trans rfl; have x1 := (blk_cell BK1c.out 1).trans rfl; have x2 := (blk_cell BK1c.out 2).trans rfl; have x3 := (blk_cell BK1c.out 3).trans rfl; have x4 := (blk_cell BK1c.out 4).trans rfl; have x5 := (blk_cell BK1c.out 5).trans rfl; have x6 := (blk_cell BK1c.out 6).trans rfl; have x7 := (blk_cell BK1c.out 7).trans rfl; have x8 := (blk_cell BK1c.out 8).trans rfl; have z0 := (blk_cell BK2c.out 0).trans rfl; have z1 := (blk_cell BK2c.out 1).trans rfl; have z2 := (blk_cell BK2c.out 2).trans rfl)
    | (go_at_call 28; (with_reducible refine (F28.calls k a0_0 a0_1 a0_2 a0_3 a0_4 a0_5 a0_6 a0_7 A0_8 c0_8 l0_8 a1_0 a1_1 a1_2 A2 c2 l2 y0 y1 y2 y3 y4 y5 y6 y7 y8 ye _ (by exact Kd.C_below HR0.out HB3.out) HC0.out (by exact Kd.C_below HR2.out HB3.out) HC2.out HY.out).mono ?_); rintro e w4 ⟨v8, rfl, hS, hb⟩; obtain ⟨A8, c8, rfl⟩ := Kd.S_slice hS; have HB4 := Aside0.mk (below_step HB3.out hb); clear hS hb)
    | ((with_reducible refine gate_dst (N := 5) rfl ?_); refine box_event ?hg (N := 5) ?hd (cs := #[.int .i64 0, .string (⟨#[]⟩ : ByteArray), .int .i64 0, .int .i64 0, .int .i64 0, .string (⟨#[]⟩ : ByteArray), .string (⟨#[]⟩ : ByteArray), .int .i64 0, .slice none 0 0]) (t := 33) ?hr ?_; (case hd => rfl); (case hg => rfl); (case hr => first | (go_simp; done) | (go_simp; rfl)); intro g5 hg w5 hbox hb; have GE5 := Aside0.mk (show w.heap.size ≤ g5 by rw [hg]; exact HB4.out.size); have HB5 := Aside0.mk (below_step HB4.out hb); have q0 := (blk_cell hbox 0).trans rfl; have q1 := (blk_cell hbox 1).trans rfl; have q2 := (blk_cell hbox 2).trans rfl; have q3 := (blk_cell hbox 3).trans rfl; have q4 := (blk_cell hbox 4).trans rfl; have q5 := (blk_cell hbox 5).trans rfl; have q6 := (blk_cell hbox 6).trans rfl; have q7 := (blk_cell hbox 7).trans rfl; have q8 := (blk_cell hbox 8).trans rfl; have f0 := blk_frozen hbox 0; have f1 := blk_frozen hbox 1; have f2 := blk_frozen hbox 2; have f3 := blk_frozen hbox 3; have f4 := blk_frozen hbox 4; have f5 := blk_frozen hbox 5; have f6 := blk_frozen hbox 6; have f7 := blk_frozen hbox 7; have f8 := blk_frozen hbox 8; clear hg hbox hb HB4)
    | (go_at_call 13; (with_reducible refine (F13.calls k A2 c2 l2 _ _ (by exact Kd.C_below HR2.out (bel9 HB5.out GE5.out)) HC2.out HL.out).mono ?_); rintro e w9 ⟨rfl, hb⟩; have HB9 := Aside0.mk (below_step (bel9 HB5.out GE5.out) hb); clear hb))
   go_ret
   exact ⟨rfl, HB9.out⟩
/-- THE ONE PURE STATEMENT of F10. -/
def F10.Pure : Prop := ∀ (x0 : S33) (x1 : S53), (G33 x0) → (G53 x1) → ∃ k, F10.f k x0.f0 x0.f1 x0.f2 x0.f3 x0.f4 x0.f5 x0.f6 x0.f7 x0.f8 x1.f0 x1.f1 x1.f2 months = some true
def F39.f (k : Nat) (a0 : ByteArray) : Option (Bool) := if a0.toList = ([] : List UInt8) then (some true) else ((F38.f k a0).bind fun t101 => (some t101))
set_option maxHeartbeats 8000000 in
set_option maxRecDepth 100000 in
theorem F39.calls (k : Nat) (a0 : ByteArray) (r : Bool) (w : World) (h : F39.f k a0 = some r) :
    Calls Tryd.prog 39 #[.string a0] w fun e w' => e = .returned (.bool r) ∧ Drawn0 w w' := by
 unfold F39.f at h
 have H := h; clear h
 by_cases c2 : a0.toList = ([] : List UInt8)
 ·rw [if_pos c2] at H; have c2b0 := bT_ c2; have c2b1 := bF_ c2; clear c2; obtain rfl := Option.some.inj H; go_enter Tryd.func39, Tryd.ntmps39
  go_wp2
  go_ret
  exact ⟨pbb2_3, pbb2_4⟩
 ·rw [if_neg c2] at H; have c2b0 := nF_ c2; have c2b1 := nT_ c2; obtain ⟨t101, A30, H⟩ := bnd H; have A3 := Aside0.mk A30; clear A30; obtain rfl := Option.some.inj H; go_enter Tryd.func39, Tryd.ntmps39
  go_wp2_with (first | (go_at_call 38; (with_reducible refine (F38.calls k a0 t101 _ A3.out).mono ?_); rintro e w' ⟨rfl, ⟨nd, rfl⟩⟩))
  go_ret
  exact ⟨pbb2_3, pbb2_4⟩
def F40.l0 : Nat → ByteArray → Int → Option (Bool)
  | 0, _, _ => none
  | k + 1, x0, x3 => if x3 < 3 then (if 0 ≤ x3 then (if x3 < (x0.size : Int) then (if (bt x0 x3) < 65 then (some false) else (if (bt x0 x3) > 90 then (some false) else (F40.l0 k x0 (wrap64 (x3 + 1))))) else (none)) else (none)) else (some true)
def F40.f (k : Nat) (a0 : ByteArray) : Option (Bool) := if (a0.size : Int) = 3 then (F40.l0 k a0 0) else (some false)
set_option maxHeartbeats 8000000 in
set_option maxRecDepth 100000 in
theorem F40.calls (k : Nat) (a0 : ByteArray) (r : Bool) (w : World) (h : F40.f k a0 = some r) :
    Calls Tryd.prog 40 #[.string a0] w fun e w' => e = .returned (.bool r) ∧ Drawn0 w w' := by
 unfold F40.f at h
 have H := h; clear h
 by_cases c2 : (a0.size : Int) = 3
 ·rw [if_pos c2] at H; have c2b0 := bT_ c2; have c2b1 := bF_ c2; clear c2; have H' := Aside0.mk H; clear H; go_enter Tryd.func40, Tryd.ntmps40
  go_wp2
  go_loopg [3] k (fun kq v3 w' => ∃ (x3_1 : Int), v3 = .int .i64 x3_1 ∧ Aside0 (F40.l0 kq a0 x3_1 = some r) ∧ Aside0 (kq ≤ k) ∧ Drawn0 w w')
  case atStart => exact ⟨(0), pbb2_3, H', ⟨Nat.le_refl _⟩, pbb2_4⟩
  case round =>
   clear H'; obtain ⟨x3_1, rfl, HA, HK1, ⟨m1, rfl⟩⟩ := hrel
   cases gk with
   | zero => exact absurd HA.out (by simp [F40.l0])
   | succ k1 =>
    have H := HA.out; clear HA; simp only [F40.l0] at H
    by_cases c3 : x3_1 < 3
    ·rw [if_pos c3] at H; have c3b0 := decide_eq_true c3; clear c3
     by_cases c4 : 0 ≤ x3_1
     ·rw [if_pos c4] at H; have c4b0 := decide_eq_true c4; clear c4
      by_cases c5 : x3_1 < (a0.size : Int)
      ·rw [if_pos c5] at H; have c5b0 := decide_eq_true c5; clear c5
       by_cases c7 : (bt a0 x3_1) < 65
       ·rw [if_pos c7] at H; have c7b0 := decide_eq_true c7; clear c7; obtain rfl := Option.some.inj H; have p6 : 0 ≤ (x3_1 : Int) := of_decide_eq_true pbb2_6; have q6 : x3_1 < (a0.size : Int) := of_decide_eq_true pbb2_6; have hx6 := bt_at a0 x3_1; replace p6 := eq_true p6; replace q6 := eq_true q6
        go_wp2
        go_ret
        exact ⟨pbb2_3, pbb2_4⟩
       ·rw [if_neg c7] at H; have c7b0 := decide_eq_false c7; clear c7
        by_cases c9 : (bt a0 x3_1) > 90
        ·rw [if_pos c9] at H; have c9b0 : decide (90 < (bt a0 x3_1)) = true := decide_eq_true c9; clear c9; obtain rfl := Option.some.inj H; have p6 : 0 ≤ (x3_1 : Int) := of_decide_eq_true pbb2_6; have q6 : x3_1 < (a0.size : Int) := of_decide_eq_true pbb2_6; have hx6 := bt_at a0 x3_1; replace p6 := eq_true p6; replace q6 := eq_true q6; have p8 : 0 ≤ (x3_1 : Int) := of_decide_eq_true pbb2_6; have q8 : x3_1 < (a0.size : Int) := of_decide_eq_true pbb2_6; have hx8 := bt_at a0 x3_1; replace p8 := eq_true p8; replace q8 := eq_true q8
         go_wp2
         go_ret
         exact ⟨pbb2_3, pbb2_4⟩
        ·rw [if_neg c9] at H; have c9b0 : decide (90 < (bt a0 x3_1)) = false := decide_eq_false c9; clear c9; have H' := Aside0.mk H; clear H; have p6 : 0 ≤ (x3_1 : Int) := of_decide_eq_true pbb2_6; have q6 : x3_1 < (a0.size : Int) := of_decide_eq_true pbb2_6; have hx6 := bt_at a0 x3_1; replace p6 := eq_true p6; replace q6 := eq_true q6; have p8 : 0 ≤ (x3_1 : Int) := of_decide_eq_true pbb2_6; have q8 : x3_1 < (a0.size : Int) := of_decide_eq_true pbb2_6; have hx8 := bt_at a0 x3_1; replace p8 := eq_true p8; replace q8 := eq_true q8
         go_wp2
         go_roundg k1
         case measure => have := HK1.out; omega
         case rel => exact ⟨(wrap64 (x3_1 + 1)), pbb2_3, H', ⟨pbb2_7⟩, pbb2_4⟩
      ·rw [if_neg c5] at H; exact absurd H (by simp)
     ·rw [if_neg c4] at H; exact absurd H (by simp)
    ·rw [if_neg c3] at H; have c3b0 := decide_eq_false c3; clear c3; obtain rfl := Option.some.inj H
     go_wp2
     go_ret
     exact ⟨pbb2_3, pbb2_4⟩
 ·rw [if_neg c2] at H; have c2b0 := nF_ c2; have c2b1 := nT_ c2; obtain rfl := Option.some.inj H; go_enter Tryd.func40, Tryd.ntmps40
  go_wp2
  go_ret
  exact ⟨pbb2_3, pbb2_4⟩
def F41.f (a0 : Int) (a1 : Int) : Option (Bool) := if a0 ≥ (wrap64 (-a1)) then (some (decide (a0 ≤ a1))) else (some false)
set_option maxHeartbeats 8000000 in
set_option maxRecDepth 100000 in
theorem F41.calls (a0 : Int) (a1 : Int) (r : Bool) (w : World) (h : F41.f a0 a1 = some r) :
    Calls Tryd.prog 41 #[.int .i64 a0, .int .i64 a1] w fun e w' => e = .returned (.bool r) ∧ Drawn0 w w' := by
 unfold F41.f at h
 have H := h; clear h
 by_cases c3 : a0 ≥ (wrap64 (-a1))
 ·rw [if_pos c3] at H; have c3b0 : decide ((wrap64 (-a1)) ≤ a0) = true := decide_eq_true c3; clear c3; obtain rfl := Option.some.inj H; go_enter Tryd.func41, Tryd.ntmps41
  go_wp2
  go_ret
  exact ⟨pbb2_3, pbb2_4⟩
 ·rw [if_neg c3] at H; have c3b0 : decide ((wrap64 (-a1)) ≤ a0) = false := decide_eq_false c3; clear c3; obtain rfl := Option.some.inj H; go_enter Tryd.func41, Tryd.ntmps41
  go_wp2
  go_ret
  exact ⟨pbb2_3, pbb2_4⟩
def F69.f (k : Nat) (a0_0 : ByteArray) (a0_1 : ByteArray) : Option (Bool) := (F38.f k a0_0).bind fun t102 => (if t102 = true then ((F38.f k a0_1).bind fun t103 => (some t103)) else (some false))
set_option maxHeartbeats 8000000 in
set_option maxRecDepth 100000 in
theorem F69.calls (k : Nat) (a0_0 : ByteArray) (a0_1 : ByteArray) (r : Bool) (w : World) (h : F69.f k a0_0 a0_1 = some r) :
    Calls Tryd.prog 69 #[.agg #[.string a0_0, .string a0_1]] w fun e w' => e = .returned (.bool r) ∧ Below w.heap.size w w' := by
 have hu101 := Tryd.underlying101; have hu9 := Tryd.underlying9; have HB := Aside0.mk (Below.refl w.heap.size w)
 unfold F69.f at h
 have H := h; clear h; obtain ⟨t102, A20, H⟩ := bnd H; have A2 := Aside0.mk A20; clear A20
 by_cases c3 : t102 = true
 ·subst c3; rw [if_pos rfl] at H; obtain ⟨t103, A40, H⟩ := bnd H; have A4 := Aside0.mk A40; clear A40; obtain rfl := Option.some.inj H; go_enter Tryd.func69, Tryd.ntmps69
  go_wp2_with (first | ((with_reducible refine gate_dst (N := 1) rfl ?_); refine box_event ?hg (N := 1) ?hd (cs := #[.string a0_0, .string a0_1]) (t := 101) ?hr ?_; (case hd => rfl); (case hg => rfl); (case hr => first | (go_simp; done) | (go_simp; rfl)); intro gb101 hg w5 hbox hb; have BK101 := Aside0.mk (hbox); have GW101 := Aside0.mk ((pbb2_8 : w.heap.size ≤ gb101)); have GE101 := Aside0.mk ((pbb2_8 : w.heap.size ≤ gb101)); replace HB := Aside0.mk (below_step pbb2_9 hb); clear hb hbox hg; obtain ⟨hcz6_0, hcz6_1⟩ := cz2 BK101.out; obtain ⟨hfz6_0, hfz6_1⟩ := fz2 BK101.out) | ((with_reducible refine gate_callee (f := 38) rfl ?_); refine goesL_ (some 5) rfl rfl Tryd.func38 (by kernel_rfl) rfl #[.string a0_0] rfl pbb2_5 ?_; (with_reducible refine (F38.calls k a0_0 true _ A2.out).mono ?_); rintro e w' ⟨rfl, ⟨nd, rfl⟩⟩; refine ⟨_, rfl, ?_⟩) | (go_at_call 38; (with_reducible refine (F38.calls k a0_1 t103 _ A4.out).mono ?_); rintro e w' ⟨rfl, ⟨nd, rfl⟩⟩))
  go_ret
  exact ⟨pbb2_18, pbb2_11⟩
 ·replace c3 := Bool.eq_false_iff.mpr c3; subst c3; rw [if_neg (show ¬ (false = true) by decide)] at H; obtain rfl := Option.some.inj H; go_enter Tryd.func69, Tryd.ntmps69
  go_wp2_with (first | ((with_reducible refine gate_dst (N := 1) rfl ?_); refine box_event ?hg (N := 1) ?hd (cs := #[.string a0_0, .string a0_1]) (t := 101) ?hr ?_; (case hd => rfl); (case hg => rfl); (case hr => first | (go_simp; done) | (go_simp; rfl)); intro gb101 hg w7 hbox hb; have BK101 := Aside0.mk (hbox); have GW101 := Aside0.mk ((pbb2_8 : w.heap.size ≤ gb101)); have GE101 := Aside0.mk ((pbb2_8 : w.heap.size ≤ gb101)); replace HB := Aside0.mk (below_step pbb2_9 hb); clear hb hbox hg; obtain ⟨hcz8_0, hcz8_1⟩ := cz2 BK101.out; obtain ⟨hfz8_0, hfz8_1⟩ := fz2 BK101.out) | ((with_reducible refine gate_callee (f := 38) rfl ?_); refine goesL_ (some 5) rfl rfl Tryd.func38 (by kernel_rfl) rfl #[.string a0_0] rfl pbb2_5 ?_; (with_reducible refine (F38.calls k a0_0 false _ A2.out).mono ?_); rintro e w' ⟨rfl, ⟨nd, rfl⟩⟩; refine ⟨_, rfl, ?_⟩))
  go_ret
  exact ⟨pbb2_18, pbb2_11⟩
def F42.l0 : Nat → List (S101) → Int → Option (Bool)
  | 0, _, _ => none
  | k + 1, x0, x3 => if x3 < (x0.length : Int) then (if 0 ≤ x3 then ((F69.f k ((rd_T101 x0 x3).f0) ((rd_T101 x0 x3).f1)).bind fun t102 => (if t102 = true then (if x3 > 0 then (if 0 ≤ (wrap64 (x3 - 1)) then (if (wrap64 (x3 - 1)) < (x0.length : Int) then (if ((Op.bytesLess (((rd_T101 x0 (wrap64 (x3 - 1))).f0).toList) (((rd_T101 x0 x3).f0).toList)) = true) then (F42.l0 k x0 (wrap64 (x3 + 1))) else (some false)) else (none)) else (none)) else (F42.l0 k x0 (wrap64 (x3 + 1)))) else (some false))) else (none)) else (some (decide ((x0.length : Int) ≤ 6)))
def F42.f (k : Nat) (l0 : List (S101)) : Option (Bool) := F42.l0 k l0 0
def F42.T4 : Bool × List (List Nat × List Nat) := (true, [([], []), ([], []), ([0, 1], [0, 1]), ([2], [2]), ([3], [3]), ([4], [4]), ([5, 4], [5]), ([6], [6]), ([7, 6], [6, 7]), ([8, 6, 6], [6, 8]), ([9], [9]), ([9], [9]), ([10, 11, 9], [9, 10, 11]), ([12, 9], [9, 12]), ([13, 9], [9, 13]), ([9], [9]), ([9], [9]), ([16, 9], [9, 16]), ([15, 17, 9], [9, 15, 17]), ([18, 9], [9, 18]), ([19, 9], [9, 19]), ([14, 20, 9], [9, 14, 20]), ([9, 21, 6], [6, 9, 21]), ([6, 22], [6, 22])])
def F42.B4 : List Nat := [0, 0, 3, 7, 15, 31, 63, 127, 255, 511, 1023, 1023, 4095, 8191, 16383, 1023, 1023, 66559, 230399, 492543, 1016831, 2097151, 4194303, 8388607]
theorem F42.tab4 : rtab .any (opsOf Tryd.f42 4) = F42.T4 := by kernel_rfl
theorem F42.bits4 : waitsOk F42.T4.2 F42.B4 = true := by kernel_rfl
set_option maxHeartbeats 8000000 in
set_option maxRecDepth 100000 in
theorem F42.calls (k : Nat) (A0 : Option Addr) (c0 : Nat) (l0 : List (S101)) (r : Bool) (w : World) (hr0 : Kd.C k101 w A0 l0.length l0) (hc0 : l0.length ≤ c0) (h : F42.f k l0 = some r) :
    Calls Tryd.prog 42 #[.slice A0 l0.length c0] w fun e w' => e = .returned (.bool r) ∧ Below w.heap.size w w' := by
 have hu101 := Tryd.underlying101; have hu9 := Tryd.underlying9; have HR0 := Aside0.mk hr0; have HC0 := Aside0.mk hc0; clear hr0 hc0; have HB := Aside0.mk (Below.refl w.heap.size w)
 unfold F42.f at h
 have H := h; clear h; have H' := Aside0.mk H; clear H; go_enter Tryd.func42, Tryd.ntmps42
 go_wp2
 go_loopg [3] k (fun kq v3 w' => ∃ (x3_1 : Int), v3 = .int .i64 x3_1 ∧ Aside0 (F42.l0 kq l0 x3_1 = some r) ∧ Aside0 (kq ≤ k) ∧ Aside0 (Below w.heap.size w w'))
 case atStart => exact ⟨(0), pbb2_3, H', ⟨Nat.le_refl _⟩, ⟨pbb2_9⟩⟩
 case round =>
  clear H'; obtain ⟨x3_1, rfl, HA, HK1, HB⟩ := hrel
  cases gk with
  | zero => exact absurd HA.out (by simp [F42.l0])
  | succ k1 =>
   have H := HA.out; clear HA; simp only [F42.l0] at H
   by_cases c2 : x3_1 < (l0.length : Int)
   ·rw [if_pos c2] at H; have c2b0 := decide_eq_true c2; clear c2
    by_cases c3 : 0 ≤ x3_1
    ·rw [if_pos c3] at H; have c3b0 := decide_eq_true c3; clear c3; obtain ⟨t102, A40, H⟩ := bnd H; have A4 := Aside0.mk A40; clear A40
     by_cases c5 : t102 = true
     ·subst c5; rw [if_pos rfl] at H
      by_cases c6 : x3_1 > 0
      ·rw [if_pos c6] at H; have c6b0 : decide (0 < x3_1) = true := decide_eq_true c6; clear c6; obtain ⟨ji7, hji7⟩ : ∃ j_ : Int, (wrap64 (x3_1 - 1)) = j_ := ⟨_, rfl⟩; (first | rw [hji7] at H | simp only [hji7] at H); (try rw [hji7] at A4); have hji7w : (IntKind.i64.wrap (x3_1 - 1)) = ji7 := (i64_w _).trans hji7
       by_cases c8 : 0 ≤ (ji7)
       ·rw [if_pos c8] at H; have c8b0 := decide_eq_true c8; clear c8
        by_cases c9 : (ji7) < (l0.length : Int)
        ·rw [if_pos c9] at H; have c9b0 := decide_eq_true c9; clear c9
         by_cases c10 : ((Op.bytesLess (((rd_T101 l0 (ji7)).f0).toList) (((rd_T101 l0 x3_1).f0).toList)) = true)
         ·rw [if_pos c10] at H; have c10b0 : (Op.bytesLess (((rd_T101 l0 (ji7)).f0).toList) (((rd_T101 l0 x3_1).f0).toList)) = true := c10; have c10z : (Op.bytesLess (((rd_T101 l0 x3_1).f0).toList) (((rd_T101 l0 (ji7)).f0).toList) || (((rd_T101 l0 x3_1).f0).toList) == (((rd_T101 l0 (ji7)).f0).toList)) = false := by rw [bytesLess_or, c10b0]; rfl
          clear c10; have H' := Aside0.mk H; clear H; (try go_wp2); replace HB := Aside0.mk (below_drew1 HB.out); have p101 : 0 ≤ (x3_1 : Int) := of_decide_eq_true pbb2_6; have q101 : x3_1 < (l0.length : Int) := of_decide_eq_true pbb2_6; obtain ⟨ad101, e101, hx101_0, hx101_1⟩ := at_T101 HR0.out x3_1 p101 q101; have hw101_1 := hx101_1; have hw101_0 := hx101_0
          cases e101
          replace hx101_0 := (HB.out.cell (World.block_lt_of_cell? w _ hx101_0)).trans hx101_0; replace hx101_1 := (HB.out.cell (World.block_lt_of_cell? w _ hx101_1)).trans hx101_1; replace p101 := eq_true p101; replace q101 := eq_true q101; have p103 : 0 ≤ (x3_1 : Int) := of_decide_eq_true pbb2_6; have q103 : x3_1 < (l0.length : Int) := of_decide_eq_true pbb2_6; obtain ⟨ad103, e103, hx103_0, hx103_1⟩ := at_T101 HR0.out x3_1 p103 q103; have hw103_1 := hx103_1; have hw103_0 := hx103_0; obtain rfl : ad101 = ad103 := (by injection e103); replace hx103_0 := (HB.out.cell (World.block_lt_of_cell? w _ hx103_0)).trans hx103_0; replace hx103_1 := (HB.out.cell (World.block_lt_of_cell? w _ hx103_1)).trans hx103_1; replace p103 := eq_true p103; replace q103 := eq_true q103; have p104 : 0 ≤ ((ji7) : Int) := of_decide_eq_true pbb2_6; have q104 : (ji7) < (l0.length : Int) := of_decide_eq_true pbb2_6; obtain ⟨ad104, e104, hx104_0, hx104_1⟩ := at_T101 HR0.out (ji7) p104 q104; have hw104_1 := hx104_1; have hw104_0 := hx104_0; obtain rfl : ad101 = ad104 := (by injection e104); replace hx104_0 := (HB.out.cell (World.block_lt_of_cell? w _ hx104_0)).trans hx104_0; replace hx104_1 := (HB.out.cell (World.block_lt_of_cell? w _ hx104_1)).trans hx104_1; replace p104 := eq_true p104; replace q104 := eq_true q104; refine start_ (n := 24) (S := fun w' => w'.cell? (ad101.add ((x3_1).toNat * 2)) = some (.string ((rd_T101 l0 x3_1).f0)) ∧ w'.cell? ⟨(ad101.add ((x3_1).toNat * 2)).block, (ad101.add ((x3_1).toNat * 2)).off + 1, none⟩ = some (.string ((rd_T101 l0 x3_1).f1)) ∧ w'.cell? (ad101.add ((x3_1).toNat * 2)) = some (.string ((rd_T101 l0 x3_1).f0)) ∧ w'.cell? ⟨(ad101.add ((x3_1).toNat * 2)).block, (ad101.add ((x3_1).toNat * 2)).off + 1, none⟩ = some (.string ((rd_T101 l0 x3_1).f1)) ∧ w'.cell? (ad101.add (((ji7)).toNat * 2)) = some (.string ((rd_T101 l0 (ji7)).f0)) ∧ w'.cell? ⟨(ad101.add (((ji7)).toNat * 2)).block, (ad101.add (((ji7)).toNat * 2)).off + 1, none⟩ = some (.string ((rd_T101 l0 (ji7)).f1))) (ds := []) (bq 24 0) (by kernel_rfl) rfl rfl ⟨((HB.out.cell (World.block_lt_of_cell? w _ hw101_0)).trans hw101_0), ((HB.out.cell (World.block_lt_of_cell? w _ hw101_1)).trans hw101_1), ((HB.out.cell (World.block_lt_of_cell? w _ hw103_0)).trans hw103_0), ((HB.out.cell (World.block_lt_of_cell? w _ hw103_1)).trans hw103_1), ((HB.out.cell (World.block_lt_of_cell? w _ hw104_0)).trans hw104_0), ((HB.out.cell (World.block_lt_of_cell? w _ hw104_1)).trans hw104_1)⟩ (fun hHeld => ?_); refine with_tabW F42.tab4 F42.bits4 (fun HT_ HW_ => ?_); generalize wr.drew = w11 at HB hx101_0 hx101_1 hx103_0 hx103_1 hx104_0 hx104_1 hHeld ⊢; refine pv_ 0 10 (bq 24 1) HT_ ?_; refine pv_ 1 11 (bq 24 3) HT_ ?_; refine pv_ 2 12 (bq 24 7) HT_ ?_; refine take_ (i := 3) (N := some 13) (v := ?_) (a' := ?_) (bq 24 15) rfl rfl (take_ofW HT_.out HW_.out (by kernel_rfl)) (fun _ _ _ h => h) (Or.inl ⟨by rfl, ?_⟩) hHeld ?_ ?_; rotate_left
          ·rintro w' ⟨s0, s1, s2, s3, s4, s5⟩; go_simp; (with_reducible rfl)
          rotate_left
          ·exact cbb2_0
          refine one_ (i := 4) (N := some 14) (bq 24 31) rfl rfl (one_of HT_.out (by kernel_rfl)) (by decide) (fun K hK => ?_); refine goes_ Tryd.func69 (by kernel_rfl) rfl #[.agg #[.string ((rd_T101 l0 x3_1).f0), .string ((rd_T101 l0 x3_1).f1)]] (by rfl) rfl rfl pbb2_5 ?_; (with_reducible refine (F69.calls k1 ((rd_T101 l0 x3_1).f0) ((rd_T101 l0 x3_1).f1) true _ A4.out).mono ?_); rintro e w12 ⟨rfl, hb⟩; refine ⟨_, rfl, ?_⟩; replace HB := Aside0.mk (below_step pbb2_9 hb); (try clear hb); (try clear hb2); (try clear hk); (try clear hi); refine hK.out _ _ ⟨((HB.out.cell (World.block_lt_of_cell? w _ hw101_0)).trans hw101_0), ((HB.out.cell (World.block_lt_of_cell? w _ hw101_1)).trans hw101_1), ((HB.out.cell (World.block_lt_of_cell? w _ hw103_0)).trans hw103_0), ((HB.out.cell (World.block_lt_of_cell? w _ hw103_1)).trans hw103_1), ((HB.out.cell (World.block_lt_of_cell? w _ hw104_0)).trans hw104_0), ((HB.out.cell (World.block_lt_of_cell? w _ hw104_1)).trans hw104_1)⟩ (fun hHeld => ?_); clear hK K; refine norm_ (a' := ?_) ?_ ?_; rotate_left
          ·show Act.put _ (some 14) _ = _; simp only [Act.put, List.setIfInBounds_toArray, List.set_cons_zero, List.set_cons_succ, i64_w, i32_w]
           rfl
          refine pv_ 5 15 (bq 24 63) HT_ ?_; refine pv_ 6 16 (bq 24 127) HT_ ?_; refine pv_ 7 17 (bq 24 255) HT_ ?_; refine pv_ 8 18 (bq 24 511) HT_ ?_; refine pv_ 9 19 (bq 24 1023) HT_ ?_; refine pv_ 10 20 (bq 24 2047) HT_ ?_; refine pv_ 11 21 (bq 24 4095) HT_ ?_; refine pv_ 12 22 (bq 24 8191) HT_ ?_; refine pv_ 13 23 (bq 24 16383) HT_ ?_; refine pv_ 15 25 (bq 24 49151) HT_ ?_; refine pv_ 16 26 (bq 24 114687) HT_ ?_; refine pv_ 17 27 (bq 24 245759) HT_ ?_; refine pv_ 18 28 (bq 24 507903) HT_ ?_; refine pv_ 19 29 (bq 24 1032191) HT_ ?_; refine take_ (i := 14) (N := some 24) (v := ?_) (a' := ?_) (bq 24 1048575) rfl rfl (take_ofW HT_.out HW_.out (by kernel_rfl)) (fun _ _ _ h => h) (Or.inl ⟨by rfl, ?_⟩) hHeld ?_ ?_; rotate_left
          ·rintro w' ⟨s0, s1, s2, s3, s4, s5⟩; go_simp; (with_reducible rfl)
          rotate_left
          ·exact cbb2_0
          refine take_ (i := 20) (N := some 30) (v := ?_) (a' := ?_) (bq 24 2097151) rfl rfl (take_ofW HT_.out HW_.out (by kernel_rfl)) (fun _ _ _ h => h) (Or.inl ⟨by rfl, ?_⟩) hHeld ?_ ?_; rotate_left
          ·rintro w' ⟨s0, s1, s2, s3, s4, s5⟩; go_simp; (with_reducible rfl)
          rotate_left
          ·exact cbb2_0
          refine pv_ 21 31 (bq 24 4194303) HT_ ?_; refine pv_ 22 32 (bq 24 8388607) HT_ ?_; refine pv_ 23 33 (bq 24 16777215) HT_ ?_; refine done_ (done_of HT_.out (by kernel_rfl)) ?_; (try go_wp2)
          go_roundg k1
          case measure => have := HK1.out; omega
          case rel => exact ⟨(wrap64 (x3_1 + 1)), pbb2_3, H', ⟨pbb2_7⟩, ⟨pbb2_9⟩⟩
         ·rw [if_neg c10] at H; have c10b0 : (Op.bytesLess (((rd_T101 l0 (ji7)).f0).toList) (((rd_T101 l0 x3_1).f0).toList)) = false := by simpa using c10
          have c10z : (Op.bytesLess (((rd_T101 l0 x3_1).f0).toList) (((rd_T101 l0 (ji7)).f0).toList) || (((rd_T101 l0 x3_1).f0).toList) == (((rd_T101 l0 (ji7)).f0).toList)) = true := by rw [bytesLess_or, c10b0]; rfl
          clear c10; obtain rfl := Option.some.inj H; (try go_wp2); replace HB := Aside0.mk (below_drew1 HB.out); have p101 : 0 ≤ (x3_1 : Int) := of_decide_eq_true pbb2_6; have q101 : x3_1 < (l0.length : Int) := of_decide_eq_true pbb2_6; obtain ⟨ad101, e101, hx101_0, hx101_1⟩ := at_T101 HR0.out x3_1 p101 q101; have hw101_1 := hx101_1; have hw101_0 := hx101_0
          cases e101
          replace hx101_0 := (HB.out.cell (World.block_lt_of_cell? w _ hx101_0)).trans hx101_0; replace hx101_1 := (HB.out.cell (World.block_lt_of_cell? w _ hx101_1)).trans hx101_1; replace p101 := eq_true p101; replace q101 := eq_true q101; have p103 : 0 ≤ (x3_1 : Int) := of_decide_eq_true pbb2_6; have q103 : x3_1 < (l0.length : Int) := of_decide_eq_true pbb2_6; obtain ⟨ad103, e103, hx103_0, hx103_1⟩ := at_T101 HR0.out x3_1 p103 q103; have hw103_1 := hx103_1; have hw103_0 := hx103_0; obtain rfl : ad101 = ad103 := (by injection e103); replace hx103_0 := (HB.out.cell (World.block_lt_of_cell? w _ hx103_0)).trans hx103_0; replace hx103_1 := (HB.out.cell (World.block_lt_of_cell? w _ hx103_1)).trans hx103_1; replace p103 := eq_true p103; replace q103 := eq_true q103; have p104 : 0 ≤ ((ji7) : Int) := of_decide_eq_true pbb2_6; have q104 : (ji7) < (l0.length : Int) := of_decide_eq_true pbb2_6; obtain ⟨ad104, e104, hx104_0, hx104_1⟩ := at_T101 HR0.out (ji7) p104 q104; have hw104_1 := hx104_1; have hw104_0 := hx104_0; obtain rfl : ad101 = ad104 := (by injection e104); replace hx104_0 := (HB.out.cell (World.block_lt_of_cell? w _ hx104_0)).trans hx104_0; replace hx104_1 := (HB.out.cell (World.block_lt_of_cell? w _ hx104_1)).trans hx104_1; replace p104 := eq_true p104; replace q104 := eq_true q104; refine start_ (n := 24) (S := fun w' => w'.cell? (ad101.add ((x3_1).toNat * 2)) = some (.string ((rd_T101 l0 x3_1).f0)) ∧ w'.cell? ⟨(ad101.add ((x3_1).toNat * 2)).block, (ad101.add ((x3_1).toNat * 2)).off + 1, none⟩ = some (.string ((rd_T101 l0 x3_1).f1)) ∧ w'.cell? (ad101.add ((x3_1).toNat * 2)) = some (.string ((rd_T101 l0 x3_1).f0)) ∧ w'.cell? ⟨(ad101.add ((x3_1).toNat * 2)).block, (ad101.add ((x3_1).toNat * 2)).off + 1, none⟩ = some (.string ((rd_T101 l0 x3_1).f1)) ∧ w'.cell? (ad101.add (((ji7)).toNat * 2)) = some (.string ((rd_T101 l0 (ji7)).f0)) ∧ w'.cell? ⟨(ad101.add (((ji7)).toNat * 2)).block, (ad101.add (((ji7)).toNat * 2)).off + 1, none⟩ = some (.string ((rd_T101 l0 (ji7)).f1))) (ds := []) (bq 24 0) (by kernel_rfl) rfl rfl ⟨((HB.out.cell (World.block_lt_of_cell? w _ hw101_0)).trans hw101_0), ((HB.out.cell (World.block_lt_of_cell? w _ hw101_1)).trans hw101_1), ((HB.out.cell (World.block_lt_of_cell? w _ hw103_0)).trans hw103_0), ((HB.out.cell (World.block_lt_of_cell? w _ hw103_1)).trans hw103_1), ((HB.out.cell (World.block_lt_of_cell? w _ hw104_0)).trans hw104_0), ((HB.out.cell (World.block_lt_of_cell? w _ hw104_1)).trans hw104_1)⟩ (fun hHeld => ?_); refine with_tabW F42.tab4 F42.bits4 (fun HT_ HW_ => ?_); generalize wr.drew = w13 at HB hx101_0 hx101_1 hx103_0 hx103_1 hx104_0 hx104_1 hHeld ⊢; refine pv_ 0 10 (bq 24 1) HT_ ?_; refine pv_ 1 11 (bq 24 3) HT_ ?_; refine pv_ 2 12 (bq 24 7) HT_ ?_; refine take_ (i := 3) (N := some 13) (v := ?_) (a' := ?_) (bq 24 15) rfl rfl (take_ofW HT_.out HW_.out (by kernel_rfl)) (fun _ _ _ h => h) (Or.inl ⟨by rfl, ?_⟩) hHeld ?_ ?_; rotate_left
          ·rintro w' ⟨s0, s1, s2, s3, s4, s5⟩; go_simp; (with_reducible rfl)
          rotate_left
          ·exact cbb2_0
          refine one_ (i := 4) (N := some 14) (bq 24 31) rfl rfl (one_of HT_.out (by kernel_rfl)) (by decide) (fun K hK => ?_); refine goes_ Tryd.func69 (by kernel_rfl) rfl #[.agg #[.string ((rd_T101 l0 x3_1).f0), .string ((rd_T101 l0 x3_1).f1)]] (by rfl) rfl rfl pbb2_5 ?_; (with_reducible refine (F69.calls k1 ((rd_T101 l0 x3_1).f0) ((rd_T101 l0 x3_1).f1) true _ A4.out).mono ?_); rintro e w14 ⟨rfl, hb⟩; refine ⟨_, rfl, ?_⟩; replace HB := Aside0.mk (below_step pbb2_9 hb); (try clear hb); (try clear hb2); (try clear hk); (try clear hi); refine hK.out _ _ ⟨((HB.out.cell (World.block_lt_of_cell? w _ hw101_0)).trans hw101_0), ((HB.out.cell (World.block_lt_of_cell? w _ hw101_1)).trans hw101_1), ((HB.out.cell (World.block_lt_of_cell? w _ hw103_0)).trans hw103_0), ((HB.out.cell (World.block_lt_of_cell? w _ hw103_1)).trans hw103_1), ((HB.out.cell (World.block_lt_of_cell? w _ hw104_0)).trans hw104_0), ((HB.out.cell (World.block_lt_of_cell? w _ hw104_1)).trans hw104_1)⟩ (fun hHeld => ?_); clear hK K; refine norm_ (a' := ?_) ?_ ?_; rotate_left
          ·show Act.put _ (some 14) _ = _; simp only [Act.put, List.setIfInBounds_toArray, List.set_cons_zero, List.set_cons_succ, i64_w, i32_w]
           rfl
          refine pv_ 5 15 (bq 24 63) HT_ ?_; refine pv_ 6 16 (bq 24 127) HT_ ?_; refine pv_ 7 17 (bq 24 255) HT_ ?_; refine pv_ 8 18 (bq 24 511) HT_ ?_; refine pv_ 9 19 (bq 24 1023) HT_ ?_; refine pv_ 10 20 (bq 24 2047) HT_ ?_; refine pv_ 11 21 (bq 24 4095) HT_ ?_; refine pv_ 12 22 (bq 24 8191) HT_ ?_; refine pv_ 13 23 (bq 24 16383) HT_ ?_; refine pv_ 15 25 (bq 24 49151) HT_ ?_; refine pv_ 16 26 (bq 24 114687) HT_ ?_; refine pv_ 17 27 (bq 24 245759) HT_ ?_; refine pv_ 18 28 (bq 24 507903) HT_ ?_; refine pv_ 19 29 (bq 24 1032191) HT_ ?_; refine take_ (i := 14) (N := some 24) (v := ?_) (a' := ?_) (bq 24 1048575) rfl rfl (take_ofW HT_.out HW_.out (by kernel_rfl)) (fun _ _ _ h => h) (Or.inl ⟨by rfl, ?_⟩) hHeld ?_ ?_; rotate_left
          ·rintro w' ⟨s0, s1, s2, s3, s4, s5⟩; go_simp; (with_reducible rfl)
          rotate_left
          ·exact cbb2_0
          refine take_ (i := 20) (N := some 30) (v := ?_) (a' := ?_) (bq 24 2097151) rfl rfl (take_ofW HT_.out HW_.out (by kernel_rfl)) (fun _ _ _ h => h) (Or.inl ⟨by rfl, ?_⟩) hHeld ?_ ?_; rotate_left
          ·rintro w' ⟨s0, s1, s2, s3, s4, s5⟩; go_simp; (with_reducible rfl)
          rotate_left
          ·exact cbb2_0
          refine pv_ 21 31 (bq 24 4194303) HT_ ?_; refine pv_ 22 32 (bq 24 8388607) HT_ ?_; refine pv_ 23 33 (bq 24 16777215) HT_ ?_; refine done_ (done_of HT_.out (by kernel_rfl)) ?_; (try go_wp2)
          go_ret
          exact ⟨by first | rfl | (simp [errW_none, errW_some] <;> rfl) | (simp only [← hji7]; first | rfl | (simp [errW_none, errW_some] <;> rfl)) | (simp [*, errW_none, errW_some] <;> rfl), pbb2_9⟩
        ·rw [if_neg c9] at H; exact absurd H (by simp)
       ·rw [if_neg c8] at H; exact absurd H (by simp)
      ·rw [if_neg c6] at H; have c6b0 : decide (0 < x3_1) = false := decide_eq_false c6; clear c6; have H' := Aside0.mk H; clear H; (try go_wp2); replace HB := Aside0.mk (below_drew1 HB.out); have p101 : 0 ≤ (x3_1 : Int) := of_decide_eq_true pbb2_6; have q101 : x3_1 < (l0.length : Int) := of_decide_eq_true pbb2_6; obtain ⟨ad101, e101, hx101_0, hx101_1⟩ := at_T101 HR0.out x3_1 p101 q101; have hw101_1 := hx101_1; have hw101_0 := hx101_0
       cases e101
       replace hx101_0 := (HB.out.cell (World.block_lt_of_cell? w _ hx101_0)).trans hx101_0; replace hx101_1 := (HB.out.cell (World.block_lt_of_cell? w _ hx101_1)).trans hx101_1; replace p101 := eq_true p101; replace q101 := eq_true q101; refine start_ (n := 24) (S := fun w' => w'.cell? (ad101.add ((x3_1).toNat * 2)) = some (.string ((rd_T101 l0 x3_1).f0)) ∧ w'.cell? ⟨(ad101.add ((x3_1).toNat * 2)).block, (ad101.add ((x3_1).toNat * 2)).off + 1, none⟩ = some (.string ((rd_T101 l0 x3_1).f1))) (ds := []) (bq 24 0) (by kernel_rfl) rfl rfl ⟨((HB.out.cell (World.block_lt_of_cell? w _ hw101_0)).trans hw101_0), ((HB.out.cell (World.block_lt_of_cell? w _ hw101_1)).trans hw101_1)⟩ (fun hHeld => ?_); refine with_tabW F42.tab4 F42.bits4 (fun HT_ HW_ => ?_); generalize wr.drew = w15 at HB hx101_0 hx101_1 hHeld ⊢; refine pv_ 0 10 (bq 24 1) HT_ ?_; refine pv_ 1 11 (bq 24 3) HT_ ?_; refine pv_ 2 12 (bq 24 7) HT_ ?_; refine take_ (i := 3) (N := some 13) (v := ?_) (a' := ?_) (bq 24 15) rfl rfl (take_ofW HT_.out HW_.out (by kernel_rfl)) (fun _ _ _ h => h) (Or.inl ⟨by rfl, ?_⟩) hHeld ?_ ?_; rotate_left
       ·rintro w' ⟨s0, s1⟩; go_simp; (with_reducible rfl)
       rotate_left
       ·exact cbb2_0
       refine one_ (i := 4) (N := some 14) (bq 24 31) rfl rfl (one_of HT_.out (by kernel_rfl)) (by decide) (fun K hK => ?_); refine goes_ Tryd.func69 (by kernel_rfl) rfl #[.agg #[.string ((rd_T101 l0 x3_1).f0), .string ((rd_T101 l0 x3_1).f1)]] (by rfl) rfl rfl pbb2_5 ?_; (with_reducible refine (F69.calls k1 ((rd_T101 l0 x3_1).f0) ((rd_T101 l0 x3_1).f1) true _ A4.out).mono ?_); rintro e w16 ⟨rfl, hb⟩; refine ⟨_, rfl, ?_⟩; replace HB := Aside0.mk (below_step pbb2_9 hb); (try clear hb); (try clear hb2); (try clear hk); (try clear hi); refine hK.out _ _ ⟨((HB.out.cell (World.block_lt_of_cell? w _ hw101_0)).trans hw101_0), ((HB.out.cell (World.block_lt_of_cell? w _ hw101_1)).trans hw101_1)⟩ (fun hHeld => ?_); clear hK K; refine norm_ (a' := ?_) ?_ ?_; rotate_left
       ·show Act.put _ (some 14) _ = _; simp only [Act.put, List.setIfInBounds_toArray, List.set_cons_zero, List.set_cons_succ, i64_w, i32_w]
        rfl
       refine pv_ 5 15 (bq 24 63) HT_ ?_; refine pv_ 6 16 (bq 24 127) HT_ ?_; refine pv_ 7 17 (bq 24 255) HT_ ?_; refine pv_ 8 18 (bq 24 511) HT_ ?_; refine pv_ 9 19 (bq 24 1023) HT_ ?_; refine pure_ (i := 10) (N := some 20) (v := undef) (a' := ?_) (bq 24 2047) rfl rfl (any_of HT_.out (by kernel_rfl)) (fun _ _ _ h => h) (Or.inr ⟨by rfl, rfl⟩) ?_ ?_; rotate_left
       ·exact cbb2_0
       refine pure_ (i := 11) (N := some 21) (v := undef) (a' := ?_) (bq 24 4095) rfl rfl (any_of HT_.out (by kernel_rfl)) (fun _ _ _ h => h) (Or.inr ⟨by rfl, rfl⟩) ?_ ?_; rotate_left
       ·exact cbb2_0
       refine pure_ (i := 12) (N := some 22) (v := undef) (a' := ?_) (bq 24 8191) rfl rfl (any_of HT_.out (by kernel_rfl)) (fun _ _ _ h => h) (Or.inr ⟨by rfl, rfl⟩) ?_ ?_; rotate_left
       ·exact cbb2_0
       refine pure_ (i := 13) (N := some 23) (v := undef) (a' := ?_) (bq 24 16383) rfl rfl (any_of HT_.out (by kernel_rfl)) (fun _ _ _ h => h) (Or.inr ⟨by rfl, rfl⟩) ?_ ?_; rotate_left
       ·exact cbb2_0
       refine pure_ (i := 14) (N := some 24) (v := undef) (a' := ?_) (bq 24 32767) rfl rfl (any_of HT_.out (by kernel_rfl)) (fun _ _ _ h => h) (Or.inr ⟨by rfl, rfl⟩) ?_ ?_; rotate_left
       ·exact cbb2_0
       refine pure_ (i := 15) (N := some 25) (v := undef) (a' := ?_) (bq 24 65535) rfl rfl (any_of HT_.out (by kernel_rfl)) (fun _ _ _ h => h) (Or.inr ⟨by rfl, rfl⟩) ?_ ?_; rotate_left
       ·exact cbb2_0
       refine pure_ (i := 16) (N := some 26) (v := undef) (a' := ?_) (bq 24 131071) rfl rfl (any_of HT_.out (by kernel_rfl)) (fun _ _ _ h => h) (Or.inr ⟨by rfl, rfl⟩) ?_ ?_; rotate_left
       ·exact cbb2_0
       refine pure_ (i := 17) (N := some 27) (v := undef) (a' := ?_) (bq 24 262143) rfl rfl (any_of HT_.out (by kernel_rfl)) (fun _ _ _ h => h) (Or.inr ⟨by rfl, rfl⟩) ?_ ?_; rotate_left
       ·exact cbb2_0
       refine pure_ (i := 18) (N := some 28) (v := undef) (a' := ?_) (bq 24 524287) rfl rfl (any_of HT_.out (by kernel_rfl)) (fun _ _ _ h => h) (Or.inr ⟨by rfl, rfl⟩) ?_ ?_; rotate_left
       ·exact cbb2_0
       refine pure_ (i := 19) (N := some 29) (v := undef) (a' := ?_) (bq 24 1048575) rfl rfl (any_of HT_.out (by kernel_rfl)) (fun _ _ _ h => h) (Or.inr ⟨by rfl, rfl⟩) ?_ ?_; rotate_left
       ·exact cbb2_0
       refine pure_ (i := 20) (N := some 30) (v := undef) (a' := ?_) (bq 24 2097151) rfl rfl (any_of HT_.out (by kernel_rfl)) (fun _ _ _ h => h) (Or.inr ⟨by rfl, rfl⟩) ?_ ?_; rotate_left
       ·exact cbb2_0
       refine pure_ (i := 21) (N := some 31) (v := undef) (a' := ?_) (bq 24 4194303) rfl rfl (any_of HT_.out (by kernel_rfl)) (fun _ _ _ h => h) (Or.inr ⟨by rfl, rfl⟩) ?_ ?_; rotate_left
       ·exact cbb2_0
       refine pv_ 22 32 (bq 24 8388607) HT_ ?_; refine pv_ 23 33 (bq 24 16777215) HT_ ?_; refine done_ (done_of HT_.out (by kernel_rfl)) ?_; (try go_wp2)
       go_roundg k1
       case measure => have := HK1.out; omega
       case rel => exact ⟨(wrap64 (x3_1 + 1)), pbb2_3, H', ⟨pbb2_7⟩, ⟨pbb2_9⟩⟩
     ·replace c5 := Bool.eq_false_iff.mpr c5; subst c5; rw [if_neg (show ¬ (false = true) by decide)] at H; obtain rfl := Option.some.inj H; (try go_wp2); replace HB := Aside0.mk (below_drew1 HB.out); have p101 : 0 ≤ (x3_1 : Int) := of_decide_eq_true pbb2_6; have q101 : x3_1 < (l0.length : Int) := of_decide_eq_true pbb2_6; obtain ⟨ad101, e101, hx101_0, hx101_1⟩ := at_T101 HR0.out x3_1 p101 q101; have hw101_1 := hx101_1; have hw101_0 := hx101_0
      cases e101
      replace hx101_0 := (HB.out.cell (World.block_lt_of_cell? w _ hx101_0)).trans hx101_0; replace hx101_1 := (HB.out.cell (World.block_lt_of_cell? w _ hx101_1)).trans hx101_1; replace p101 := eq_true p101; replace q101 := eq_true q101; refine start_ (n := 24) (S := fun w' => w'.cell? (ad101.add ((x3_1).toNat * 2)) = some (.string ((rd_T101 l0 x3_1).f0)) ∧ w'.cell? ⟨(ad101.add ((x3_1).toNat * 2)).block, (ad101.add ((x3_1).toNat * 2)).off + 1, none⟩ = some (.string ((rd_T101 l0 x3_1).f1))) (ds := []) (bq 24 0) (by kernel_rfl) rfl rfl ⟨((HB.out.cell (World.block_lt_of_cell? w _ hw101_0)).trans hw101_0), ((HB.out.cell (World.block_lt_of_cell? w _ hw101_1)).trans hw101_1)⟩ (fun hHeld => ?_); refine with_tabW F42.tab4 F42.bits4 (fun HT_ HW_ => ?_); generalize wr.drew = w17 at HB hx101_0 hx101_1 hHeld ⊢; refine pv_ 0 10 (bq 24 1) HT_ ?_; refine pv_ 1 11 (bq 24 3) HT_ ?_; refine pv_ 2 12 (bq 24 7) HT_ ?_; refine take_ (i := 3) (N := some 13) (v := ?_) (a' := ?_) (bq 24 15) rfl rfl (take_ofW HT_.out HW_.out (by kernel_rfl)) (fun _ _ _ h => h) (Or.inl ⟨by rfl, ?_⟩) hHeld ?_ ?_; rotate_left
      ·rintro w' ⟨s0, s1⟩; go_simp; (with_reducible rfl)
      rotate_left
      ·exact cbb2_0
      refine one_ (i := 4) (N := some 14) (bq 24 31) rfl rfl (one_of HT_.out (by kernel_rfl)) (by decide) (fun K hK => ?_); refine goes_ Tryd.func69 (by kernel_rfl) rfl #[.agg #[.string ((rd_T101 l0 x3_1).f0), .string ((rd_T101 l0 x3_1).f1)]] (by rfl) rfl rfl pbb2_5 ?_; (with_reducible refine (F69.calls k1 ((rd_T101 l0 x3_1).f0) ((rd_T101 l0 x3_1).f1) false _ A4.out).mono ?_); rintro e w18 ⟨rfl, hb⟩; refine ⟨_, rfl, ?_⟩; replace HB := Aside0.mk (below_step pbb2_9 hb); (try clear hb); (try clear hb2); (try clear hk); (try clear hi); refine hK.out _ _ ⟨((HB.out.cell (World.block_lt_of_cell? w _ hw101_0)).trans hw101_0), ((HB.out.cell (World.block_lt_of_cell? w _ hw101_1)).trans hw101_1)⟩ (fun hHeld => ?_); clear hK K; refine norm_ (a' := ?_) ?_ ?_; rotate_left
      ·show Act.put _ (some 14) _ = _; simp only [Act.put, List.setIfInBounds_toArray, List.set_cons_zero, List.set_cons_succ, i64_w, i32_w]
       rfl
      refine pv_ 5 15 (bq 24 63) HT_ ?_; refine pv_ 6 16 (bq 24 127) HT_ ?_; refine pure_ (i := 7) (N := some 17) (v := undef) (a' := ?_) (bq 24 255) rfl rfl (any_of HT_.out (by kernel_rfl)) (fun _ _ _ h => h) (Or.inr ⟨by rfl, rfl⟩) ?_ ?_; rotate_left
      ·exact cbb2_0
      refine pure_ (i := 8) (N := some 18) (v := undef) (a' := ?_) (bq 24 511) rfl rfl (any_of HT_.out (by kernel_rfl)) (fun _ _ _ h => h) (Or.inr ⟨by rfl, rfl⟩) ?_ ?_; rotate_left
      ·exact cbb2_0
      refine pure_ (i := 9) (N := some 19) (v := undef) (a' := ?_) (bq 24 1023) rfl rfl (any_of HT_.out (by kernel_rfl)) (fun _ _ _ h => h) (Or.inr ⟨by rfl, rfl⟩) ?_ ?_; rotate_left
      ·exact cbb2_0
      refine pure_ (i := 10) (N := some 20) (v := undef) (a' := ?_) (bq 24 2047) rfl rfl (any_of HT_.out (by kernel_rfl)) (fun _ _ _ h => h) (Or.inr ⟨by rfl, rfl⟩) ?_ ?_; rotate_left
      ·exact cbb2_0
      refine pure_ (i := 11) (N := some 21) (v := undef) (a' := ?_) (bq 24 4095) rfl rfl (any_of HT_.out (by kernel_rfl)) (fun _ _ _ h => h) (Or.inr ⟨by rfl, rfl⟩) ?_ ?_; rotate_left
      ·exact cbb2_0
      refine pure_ (i := 12) (N := some 22) (v := undef) (a' := ?_) (bq 24 8191) rfl rfl (any_of HT_.out (by kernel_rfl)) (fun _ _ _ h => h) (Or.inr ⟨by rfl, rfl⟩) ?_ ?_; rotate_left
      ·exact cbb2_0
      refine pure_ (i := 13) (N := some 23) (v := undef) (a' := ?_) (bq 24 16383) rfl rfl (any_of HT_.out (by kernel_rfl)) (fun _ _ _ h => h) (Or.inr ⟨by rfl, rfl⟩) ?_ ?_; rotate_left
      ·exact cbb2_0
      refine pure_ (i := 14) (N := some 24) (v := undef) (a' := ?_) (bq 24 32767) rfl rfl (any_of HT_.out (by kernel_rfl)) (fun _ _ _ h => h) (Or.inr ⟨by rfl, rfl⟩) ?_ ?_; rotate_left
      ·exact cbb2_0
      refine pure_ (i := 15) (N := some 25) (v := undef) (a' := ?_) (bq 24 65535) rfl rfl (any_of HT_.out (by kernel_rfl)) (fun _ _ _ h => h) (Or.inr ⟨by rfl, rfl⟩) ?_ ?_; rotate_left
      ·exact cbb2_0
      refine pure_ (i := 16) (N := some 26) (v := undef) (a' := ?_) (bq 24 131071) rfl rfl (any_of HT_.out (by kernel_rfl)) (fun _ _ _ h => h) (Or.inr ⟨by rfl, rfl⟩) ?_ ?_; rotate_left
      ·exact cbb2_0
      refine pure_ (i := 17) (N := some 27) (v := undef) (a' := ?_) (bq 24 262143) rfl rfl (any_of HT_.out (by kernel_rfl)) (fun _ _ _ h => h) (Or.inr ⟨by rfl, rfl⟩) ?_ ?_; rotate_left
      ·exact cbb2_0
      refine pure_ (i := 18) (N := some 28) (v := undef) (a' := ?_) (bq 24 524287) rfl rfl (any_of HT_.out (by kernel_rfl)) (fun _ _ _ h => h) (Or.inr ⟨by rfl, rfl⟩) ?_ ?_; rotate_left
      ·exact cbb2_0
      refine pure_ (i := 19) (N := some 29) (v := undef) (a' := ?_) (bq 24 1048575) rfl rfl (any_of HT_.out (by kernel_rfl)) (fun _ _ _ h => h) (Or.inr ⟨by rfl, rfl⟩) ?_ ?_; rotate_left
      ·exact cbb2_0
      refine pure_ (i := 20) (N := some 30) (v := undef) (a' := ?_) (bq 24 2097151) rfl rfl (any_of HT_.out (by kernel_rfl)) (fun _ _ _ h => h) (Or.inr ⟨by rfl, rfl⟩) ?_ ?_; rotate_left
      ·exact cbb2_0
      refine pure_ (i := 21) (N := some 31) (v := undef) (a' := ?_) (bq 24 4194303) rfl rfl (any_of HT_.out (by kernel_rfl)) (fun _ _ _ h => h) (Or.inr ⟨by rfl, rfl⟩) ?_ ?_; rotate_left
      ·exact cbb2_0
      refine pure_ (i := 22) (N := some 32) (v := undef) (a' := ?_) (bq 24 8388607) rfl rfl (any_of HT_.out (by kernel_rfl)) (fun _ _ _ h => h) (Or.inr ⟨by rfl, rfl⟩) ?_ ?_; rotate_left
      ·exact cbb2_0
      refine pv_ 23 33 (bq 24 16777215) HT_ ?_; refine done_ (done_of HT_.out (by kernel_rfl)) ?_; (try go_wp2)
      go_ret
      exact ⟨pbb2_18, pbb2_9⟩
    ·rw [if_neg c3] at H; exact absurd H (by simp)
   ·rw [if_neg c2] at H; have c2b0 := decide_eq_false c2; clear c2; obtain rfl := Option.some.inj H
    go_wp2
    go_ret
    exact ⟨pbb2_18, pbb2_9⟩
mutual
def F15.j0 : Nat → Bool → ByteArray → ByteArray → Int → Int → ByteArray → ByteArray → List (S101) → Option (Int)
  | 0, _, _, _, _, _, _, _, _ => none
  | k + 1, x3, x102000, x102001, x102002, x102003, x102004, x102005, x102006 => if x3 = true then (some 7) else ((F40.f k x102001).bind fun t105 => (if t105 = true then ((F41.f x102002 1000000000000).bind fun t106 => (if t106 = true then ((F41.f x102003 1000000000000).bind fun t107 => (F15.j1 k (!t107) x102000 x102001 x102002 x102003 x102004 x102005 x102006)) else (F15.j1 k true x102000 x102001 x102002 x102003 x102004 x102005 x102006))) else (some 13)))
def F15.j1 : Nat → Bool → ByteArray → ByteArray → Int → Int → ByteArray → ByteArray → List (S101) → Option (Int)
  | 0, _, _, _, _, _, _, _, _ => none
  | k + 1, x25, x102000, x102001, x102002, x102003, x102004, x102005, x102006 => if x25 = true then (some 4) else (if x102002 = 0 then (F15.j2 k (x102003 == 0) x102000 x102001 x102002 x102003 x102004 x102005 x102006) else (F15.j2 k false x102000 x102001 x102002 x102003 x102004 x102005 x102006))
def F15.j2 : Nat → Bool → ByteArray → ByteArray → Int → Int → ByteArray → ByteArray → List (S101) → Option (Int)
  | 0, _, _, _, _, _, _, _, _ => none
  | k + 1, x36, x102000, x102001, x102002, x102003, x102004, x102005, x102006 => if x36 = true then (some 2) else ((F42.f k x102006).bind fun t108 => (if t108 = true then (some 0) else (some 14)))
end
def F15.f (k : Nat) (a0_0 : ByteArray) (a0_1 : ByteArray) (a0_2 : Int) (a0_3 : Int) (a0_4 : ByteArray) (a0_5 : ByteArray) (l0_6 : List (S101)) : Option (Int) := (F38.f k a0_0).bind fun t102 => (if t102 = true then ((F39.f k a0_4).bind fun t103 => (if t103 = true then ((F39.f k a0_5).bind fun t104 => (F15.j0 k (!t104) a0_0 a0_1 a0_2 a0_3 a0_4 a0_5 l0_6)) else (F15.j0 k true a0_0 a0_1 a0_2 a0_3 a0_4 a0_5 l0_6))) else (F15.j0 k true a0_0 a0_1 a0_2 a0_3 a0_4 a0_5 l0_6))
set_option maxHeartbeats 8000000 in
set_option maxRecDepth 100000 in
theorem F15.calls (k : Nat) (a0_0 : ByteArray) (a0_1 : ByteArray) (a0_2 : Int) (a0_3 : Int) (a0_4 : ByteArray) (a0_5 : ByteArray) (A0_6 : Option Addr) (c0_6 : Nat) (l0_6 : List (S101)) (r : Int) (w : World) (hr0_6 : Kd.C k101 w A0_6 l0_6.length l0_6) (hc0_6 : l0_6.length ≤ c0_6) (h : F15.f k a0_0 a0_1 a0_2 a0_3 a0_4 a0_5 l0_6 = some r) :
    Calls Tryd.prog 15 #[.agg #[.string a0_0, .string a0_1, .int .i64 a0_2, .int .i64 a0_3, .string a0_4, .string a0_5, .slice A0_6 l0_6.length c0_6]] w fun e w' => e = .returned (.int .i64 r) ∧ Below w.heap.size w w' := by
 have hu24 := Tryd.underlying24; have hu9 := Tryd.underlying9; have hu3 := Tryd.underlying3; have hu22 := Tryd.underlying22; have HR0_6 := Aside0.mk hr0_6; have HC0_6 := Aside0.mk hc0_6; clear hr0_6 hc0_6; have HB := Aside0.mk (Below.refl w.heap.size w)
 unfold F15.f at h
 have H := h; clear h; have HC2 := Aside0.mk H; clear H; go_enter Tryd.func15, Tryd.ntmps15
 go_upto_region 1 with (first | ((with_reducible refine gate_dst (N := 1) rfl ?_); refine box_event ?hg (N := 1) ?hd (cs := #[.string a0_0, .string a0_1, .int .i64 a0_2, .int .i64 a0_3, .string a0_4, .string a0_5, .slice A0_6 l0_6.length c0_6]) (t := 24) ?hr ?_; (case hd => rfl); (case hg => rfl); (case hr => first | (go_simp; done) | (go_simp; rfl)); intro gb101 hg w3 hbox hb; have BK101 := Aside0.mk (hbox); have GW101 := Aside0.mk ((pbb2_8 : w.heap.size ≤ gb101)); have GE101 := Aside0.mk ((pbb2_8 : w.heap.size ≤ gb101)); replace HB := Aside0.mk (below_step pbb2_9 hb); clear hb hbox hg))
 (try simp only [Act.put, List.setIfInBounds_toArray, List.set_cons_zero, List.set_cons_succ])
 go_cut [3] (fun v3 wc => ∃ (kq : Nat) (x3_1 : Bool), v3 = .bool x3_1 ∧ Aside0 (F15.j0 kq x3_1 a0_0 a0_1 a0_2 a0_3 a0_4 a0_5 l0_6 = some r) ∧ Aside0 (kq ≤ k) ∧ Aside0 (wc.heap[gb101]? = some (.cells #[.string a0_0, .string a0_1, .int .i64 a0_2, .int .i64 a0_3, .string a0_4, .string a0_5, (.slice A0_6 l0_6.length c0_6)] 24 (0, 0))) ∧ Aside0 (Below w.heap.size w wc))
 case first =>
  have H := HC2.out; clear HC2; obtain ⟨t102, A40, H⟩ := bnd H; have A4 := Aside0.mk A40; clear A40
  by_cases c5 : t102 = true
  ·subst c5; rw [if_pos rfl] at H; obtain ⟨t103, A60, H⟩ := bnd H; have A6 := Aside0.mk A60; clear A60
   by_cases c7 : t103 = true
   ·subst c7; rw [if_pos rfl] at H; obtain ⟨t104, A80, H⟩ := bnd H; have A8 := Aside0.mk A80; clear A80; have H' := Aside0.mk H; clear H; obtain ⟨hcz9_0, hcz9_1, hcz9_2, hcz9_3, hcz9_4, hcz9_5, hcz9_6⟩ := cz7 BK101.out; obtain ⟨hfz9_0, hfz9_1, hfz9_2, hfz9_3, hfz9_4, hfz9_5, hfz9_6⟩ := fz7 BK101.out
    go_wp2_with (first | ((with_reducible refine gate_callee (f := 38) rfl ?_); refine goesL_ (some 6) rfl rfl Tryd.func38 (by kernel_rfl) rfl #[.string a0_0] rfl pbb2_5 ?_; (with_reducible refine (F38.calls k a0_0 true _ A4.out).mono ?_); rintro e w' ⟨rfl, ⟨nd, rfl⟩⟩; refine ⟨_, rfl, ?_⟩) | (go_at_call 39; (with_reducible refine (F39.calls k a0_4 true _ A6.out).mono ?_); rintro e w' ⟨rfl, ⟨nd, rfl⟩⟩) | (go_at_call 39; (with_reducible refine (F39.calls k a0_5 t104 _ A8.out).mono ?_); rintro e w' ⟨rfl, ⟨nd, rfl⟩⟩))
    go_meet
    case rel => exact ⟨_, (!t104), pbb2_3, H', ⟨pbb6_2⟩, ⟨pbb2_12⟩, ⟨pbb2_11⟩⟩
   ·replace c7 := Bool.eq_false_iff.mpr c7; subst c7; rw [if_neg (show ¬ (false = true) by decide)] at H; have H' := Aside0.mk H; clear H; obtain ⟨hcz10_0, hcz10_1, hcz10_2, hcz10_3, hcz10_4, hcz10_5, hcz10_6⟩ := cz7 BK101.out; obtain ⟨hfz10_0, hfz10_1, hfz10_2, hfz10_3, hfz10_4, hfz10_5, hfz10_6⟩ := fz7 BK101.out
    go_wp2_with (first | ((with_reducible refine gate_callee (f := 38) rfl ?_); refine goesL_ (some 6) rfl rfl Tryd.func38 (by kernel_rfl) rfl #[.string a0_0] rfl pbb2_5 ?_; (with_reducible refine (F38.calls k a0_0 true _ A4.out).mono ?_); rintro e w' ⟨rfl, ⟨nd, rfl⟩⟩; refine ⟨_, rfl, ?_⟩) | (go_at_call 39; (with_reducible refine (F39.calls k a0_4 false _ A6.out).mono ?_); rintro e w' ⟨rfl, ⟨nd, rfl⟩⟩))
    go_meet
    case rel => exact ⟨_, (true), pbb2_3, H', ⟨pbb6_2⟩, ⟨pbb2_12⟩, ⟨pbb2_11⟩⟩
  ·replace c5 := Bool.eq_false_iff.mpr c5; subst c5; rw [if_neg (show ¬ (false = true) by decide)] at H; have H' := Aside0.mk H; clear H; obtain ⟨hcz11_0, hcz11_1, hcz11_2, hcz11_3, hcz11_4, hcz11_5, hcz11_6⟩ := cz7 BK101.out; obtain ⟨hfz11_0, hfz11_1, hfz11_2, hfz11_3, hfz11_4, hfz11_5, hfz11_6⟩ := fz7 BK101.out
   go_wp2_with (first | ((with_reducible refine gate_callee (f := 38) rfl ?_); refine goesL_ (some 6) rfl rfl Tryd.func38 (by kernel_rfl) rfl #[.string a0_0] rfl pbb2_5 ?_; (with_reducible refine (F38.calls k a0_0 false _ A4.out).mono ?_); rintro e w' ⟨rfl, ⟨nd, rfl⟩⟩; refine ⟨_, rfl, ?_⟩))
   go_meet
   case rel => exact ⟨_, (true), pbb2_3, H', ⟨pbb6_2⟩, ⟨pbb2_12⟩, ⟨pbb2_11⟩⟩
 case rest =>
  clear HC2; obtain ⟨kq, x3_1, rfl, HA, HJ1, BK101, HB⟩ := hcut
  cases kq with
  | zero => exact absurd HA.out (by simp [F15.j0])
  | succ kj1 =>
   have H := HA.out; clear HA; simp only [F15.j0] at H
   by_cases c12 : x3_1 = true
   ·subst c12; rw [if_pos rfl] at H; obtain rfl := Option.some.inj H
    go_wp2
    go_ret
    exact ⟨pbb2_18, pbb2_11⟩
   ·replace c12 := Bool.eq_false_iff.mpr c12; subst c12; rw [if_neg (show ¬ (false = true) by decide)] at H; obtain ⟨t105, A130, H⟩ := bnd H; have A13 := Aside0.mk A130; clear A130
    by_cases c14 : t105 = true
    ·subst c14; rw [if_pos rfl] at H; have HC15 := Aside0.mk H; clear H; obtain ⟨hcz16_0, hcz16_1, hcz16_2, hcz16_3, hcz16_4, hcz16_5, hcz16_6⟩ := cz7 BK101.out; obtain ⟨hfz16_0, hfz16_1, hfz16_2, hfz16_3, hfz16_4, hfz16_5, hfz16_6⟩ := fz7 BK101.out
     go_upto_region 5 with (first | ((with_reducible refine gate_callee (f := 40) rfl ?_); refine goesL_ (some 23) rfl rfl Tryd.func40 (by kernel_rfl) rfl #[.string a0_1] rfl pbb2_5 ?_; (with_reducible refine (F40.calls kj1 a0_1 true _ A13.out).mono ?_); rintro e w' ⟨rfl, ⟨nd, rfl⟩⟩; refine ⟨_, rfl, ?_⟩))
     (try simp only [Act.put, List.setIfInBounds_toArray, List.set_cons_zero, List.set_cons_succ])
     go_cut [25] (fun v25 wc => ∃ (kq : Nat) (x25_14 : Bool), v25 = .bool x25_14 ∧ Aside0 (F15.j1 kq x25_14 a0_0 a0_1 a0_2 a0_3 a0_4 a0_5 l0_6 = some r) ∧ Aside0 (kq ≤ kj1) ∧ Aside0 (wc.heap[gb101]? = some (.cells #[.string a0_0, .string a0_1, .int .i64 a0_2, .int .i64 a0_3, .string a0_4, .string a0_5, (.slice A0_6 l0_6.length c0_6)] 24 (0, 0))) ∧ Aside0 (Below w.heap.size w wc))
     case first =>
      have H := HC15.out; clear HC15; obtain ⟨t106, A170, H⟩ := bnd H; have A17 := Aside0.mk A170; clear A170
      by_cases c18 : t106 = true
      ·subst c18; rw [if_pos rfl] at H; obtain ⟨t107, A190, H⟩ := bnd H; have A19 := Aside0.mk A190; clear A190; have H' := Aside0.mk H; clear H; obtain ⟨hcz20_0, hcz20_1, hcz20_2, hcz20_3, hcz20_4, hcz20_5, hcz20_6⟩ := cz7 BK101.out; obtain ⟨hfz20_0, hfz20_1, hfz20_2, hfz20_3, hfz20_4, hfz20_5, hfz20_6⟩ := fz7 BK101.out
       go_wp2_with (first | ((with_reducible refine gate_callee (f := 41) rfl ?_); refine goesL_ (some 28) rfl rfl Tryd.func41 (by kernel_rfl) rfl #[.int .i64 a0_2, .int .i64 1000000000000] rfl pbb2_5 ?_; (with_reducible refine (F41.calls a0_2 1000000000000 true _ A17.out).mono ?_); rintro e w' ⟨rfl, ⟨nd, rfl⟩⟩; refine ⟨_, rfl, ?_⟩) | (go_at_call 41; (with_reducible refine (F41.calls a0_3 1000000000000 t107 _ A19.out).mono ?_); rintro e w' ⟨rfl, ⟨nd, rfl⟩⟩))
       go_meet
       case rel => exact ⟨_, (!t107), pbb2_3, H', ⟨by have := HJ1.out; first | omega | exact Nat.le_refl _⟩, ⟨pbb2_12⟩, ⟨pbb2_11⟩⟩
      ·replace c18 := Bool.eq_false_iff.mpr c18; subst c18; rw [if_neg (show ¬ (false = true) by decide)] at H; have H' := Aside0.mk H; clear H; obtain ⟨hcz21_0, hcz21_1, hcz21_2, hcz21_3, hcz21_4, hcz21_5, hcz21_6⟩ := cz7 BK101.out; obtain ⟨hfz21_0, hfz21_1, hfz21_2, hfz21_3, hfz21_4, hfz21_5, hfz21_6⟩ := fz7 BK101.out
       go_wp2_with (first | ((with_reducible refine gate_callee (f := 41) rfl ?_); refine goesL_ (some 28) rfl rfl Tryd.func41 (by kernel_rfl) rfl #[.int .i64 a0_2, .int .i64 1000000000000] rfl pbb2_5 ?_; (with_reducible refine (F41.calls a0_2 1000000000000 false _ A17.out).mono ?_); rintro e w' ⟨rfl, ⟨nd, rfl⟩⟩; refine ⟨_, rfl, ?_⟩))
       go_meet
       case rel => exact ⟨_, (true), pbb2_3, H', ⟨by have := HJ1.out; first | omega | exact Nat.le_refl _⟩, ⟨pbb2_12⟩, ⟨pbb2_11⟩⟩
     case rest =>
      clear HC15; obtain ⟨kq, x25_14, rfl, HA, HJ14, BK101, HB⟩ := hcut
      cases kq with
      | zero => exact absurd HA.out (by simp [F15.j1])
      | succ kj14 =>
       have H := HA.out; clear HA; simp only [F15.j1] at H
       by_cases c22 : x25_14 = true
       ·subst c22; rw [if_pos rfl] at H; obtain rfl := Option.some.inj H
        go_wp2
        go_ret
        exact ⟨pbb2_18, pbb2_11⟩
       ·replace c22 := Bool.eq_false_iff.mpr c22; subst c22; rw [if_neg (show ¬ (false = true) by decide)] at H; have HC23 := Aside0.mk H; clear H
        go_upto_region 7 with (fail)
        go_cut [36] (fun v36 wc => ∃ (kq : Nat) (x36_22 : Bool), v36 = .bool x36_22 ∧ Aside0 (F15.j2 kq x36_22 a0_0 a0_1 a0_2 a0_3 a0_4 a0_5 l0_6 = some r) ∧ Aside0 (kq ≤ kj14) ∧ Aside0 (wc.heap[gb101]? = some (.cells #[.string a0_0, .string a0_1, .int .i64 a0_2, .int .i64 a0_3, .string a0_4, .string a0_5, (.slice A0_6 l0_6.length c0_6)] 24 (0, 0))) ∧ Aside0 (Below w.heap.size w wc))
        case first =>
         have H := HC23.out; clear HC23
         by_cases c24 : a0_2 = 0
         ·rw [if_pos c24] at H; have c24b0 := bT_ c24; have c24b1 := bF_ c24; clear c24; (first | rw [c24b0] | (simp only [i64_w, i32_w]; rw [c24b0]) | skip); have H' := Aside0.mk H; clear H; obtain ⟨hcz25_0, hcz25_1, hcz25_2, hcz25_3, hcz25_4, hcz25_5, hcz25_6⟩ := cz7 BK101.out; obtain ⟨hfz25_0, hfz25_1, hfz25_2, hfz25_3, hfz25_4, hfz25_5, hfz25_6⟩ := fz7 BK101.out
          go_wp2
          go_meet
          case rel => exact ⟨_, ((a0_3 == 0)), pbb2_3, H', ⟨by have := HJ1.out; have := HJ14.out; first | omega | exact Nat.le_refl _⟩, ⟨pbb2_12⟩, ⟨pbb2_11⟩⟩
         ·rw [if_neg c24] at H; have c24b0 := nF_ c24; have c24b1 := nT_ c24; (first | rw [c24b0] | (simp only [i64_w, i32_w]; rw [c24b0]) | skip); have H' := Aside0.mk H; clear H; obtain ⟨hcz26_0, hcz26_1, hcz26_2, hcz26_3, hcz26_4, hcz26_5, hcz26_6⟩ := cz7 BK101.out; obtain ⟨hfz26_0, hfz26_1, hfz26_2, hfz26_3, hfz26_4, hfz26_5, hfz26_6⟩ := fz7 BK101.out
          go_wp2
          go_meet
          case rel => exact ⟨_, (false), pbb2_3, H', ⟨by have := HJ1.out; have := HJ14.out; first | omega | exact Nat.le_refl _⟩, ⟨pbb2_12⟩, ⟨pbb2_11⟩⟩
        case rest =>
         clear HC23; obtain ⟨kq, x36_22, rfl, HA, HJ22, BK101, HB⟩ := hcut
         cases kq with
         | zero => exact absurd HA.out (by simp [F15.j2])
         | succ kj22 =>
          have H := HA.out; clear HA; simp only [F15.j2] at H
          by_cases c27 : x36_22 = true
          ·subst c27; rw [if_pos rfl] at H; obtain rfl := Option.some.inj H
           go_wp2
           go_ret
           exact ⟨pbb2_18, pbb2_11⟩
          ·replace c27 := Bool.eq_false_iff.mpr c27; subst c27; rw [if_neg (show ¬ (false = true) by decide)] at H; obtain ⟨t108, A280, H⟩ := bnd H; have A28 := Aside0.mk A280; clear A280
           by_cases c29 : t108 = true
           ·subst c29; rw [if_pos rfl] at H; obtain rfl := Option.some.inj H; obtain ⟨hcz30_0, hcz30_1, hcz30_2, hcz30_3, hcz30_4, hcz30_5, hcz30_6⟩ := cz7 BK101.out; obtain ⟨hfz30_0, hfz30_1, hfz30_2, hfz30_3, hfz30_4, hfz30_5, hfz30_6⟩ := fz7 BK101.out
            go_wp2_with (first | ((with_reducible refine gate_callee (f := 42) rfl ?_); refine goesL_ (some 48) rfl rfl Tryd.func42 (by kernel_rfl) rfl #[.slice A0_6 l0_6.length c0_6] rfl pbb2_5 ?_; (with_reducible refine (F42.calls kj22 _ _ l0_6 true _ pbb3_9 (by exact HC0_6.out) A28.out).mono ?_); rintro e w31 ⟨rfl, hb⟩; refine ⟨_, rfl, ?_⟩; replace BK101 := Aside0.mk (blk_below (g := gb101) (o := .cells #[.string a0_0, .string a0_1, .int .i64 a0_2, .int .i64 a0_3, .string a0_4, .string a0_5, .slice A0_6 l0_6.length c0_6] 24 (0, 0)) pbb2_12 hb); replace HB := Aside0.mk (below_step pbb2_11 hb); (try clear hb); (try clear hb2); (try clear hk); (try clear hi)))
            go_ret
            exact ⟨pbb2_18, pbb2_11⟩
           ·replace c29 := Bool.eq_false_iff.mpr c29; subst c29; rw [if_neg (show ¬ (false = true) by decide)] at H; obtain rfl := Option.some.inj H; obtain ⟨hcz32_0, hcz32_1, hcz32_2, hcz32_3, hcz32_4, hcz32_5, hcz32_6⟩ := cz7 BK101.out; obtain ⟨hfz32_0, hfz32_1, hfz32_2, hfz32_3, hfz32_4, hfz32_5, hfz32_6⟩ := fz7 BK101.out
            go_wp2_with (first | ((with_reducible refine gate_callee (f := 42) rfl ?_); refine goesL_ (some 48) rfl rfl Tryd.func42 (by kernel_rfl) rfl #[.slice A0_6 l0_6.length c0_6] rfl pbb2_5 ?_; (with_reducible refine (F42.calls kj22 _ _ l0_6 false _ pbb3_9 (by exact HC0_6.out) A28.out).mono ?_); rintro e w33 ⟨rfl, hb⟩; refine ⟨_, rfl, ?_⟩; replace BK101 := Aside0.mk (blk_below (g := gb101) (o := .cells #[.string a0_0, .string a0_1, .int .i64 a0_2, .int .i64 a0_3, .string a0_4, .string a0_5, .slice A0_6 l0_6.length c0_6] 24 (0, 0)) pbb2_12 hb); replace HB := Aside0.mk (below_step pbb2_11 hb); (try clear hb); (try clear hb2); (try clear hk); (try clear hi)))
            go_ret
            exact ⟨pbb2_18, pbb2_11⟩
    ·replace c14 := Bool.eq_false_iff.mpr c14; subst c14; rw [if_neg (show ¬ (false = true) by decide)] at H; obtain rfl := Option.some.inj H; obtain ⟨hcz34_0, hcz34_1, hcz34_2, hcz34_3, hcz34_4, hcz34_5, hcz34_6⟩ := cz7 BK101.out; obtain ⟨hfz34_0, hfz34_1, hfz34_2, hfz34_3, hfz34_4, hfz34_5, hfz34_6⟩ := fz7 BK101.out
     go_wp2_with (first | ((with_reducible refine gate_callee (f := 40) rfl ?_); refine goesL_ (some 23) rfl rfl Tryd.func40 (by kernel_rfl) rfl #[.string a0_1] rfl pbb2_5 ?_; (with_reducible refine (F40.calls kj1 a0_1 false _ A13.out).mono ?_); rintro e w' ⟨rfl, ⟨nd, rfl⟩⟩; refine ⟨_, rfl, ?_⟩))
     go_ret
     exact ⟨pbb2_18, pbb2_11⟩
end Go.Proofs.YtjeecehhcajfaaaDoor.M
end
section
namespace Go.Proofs.YtjeecehhcajfaaaDoor.M
open Go.RowKit Go.Proofs.YtjeecehhcajfaaaDoorW.PrintWords Go.Proofs.YtjeecehhcajfaaaDoorW.PrintLast
set_option linter.unusedVariables false
set_option linter.unusedSimpArgs false
def capv (b : ByteArray) : Nat → Nat → Bool
 | 0, _ => true
 | n + 1, i => (decide (65 ≤ bt b (i : Int)) && decide (bt b (i : Int) ≤ 90)) && capv b n (i + 1)
theorem capv_all (b : ByteArray) : ∀ n i, i + n = b.size → capv b n i = (b.data.toList.drop i).all capital
 | 0, i, h => by
  have : b.data.toList.drop i = [] := List.drop_eq_nil_of_le (by simp; omega); rw [this]; rfl
 | n + 1, i, h => by
  have hi : i < b.data.toList.length := by simp; omega
  rw [List.drop_eq_getElem_cons hi, List.all_cons, ← capv_all b n (i + 1) (by omega), capv]
  congr 1
  unfold capital bt
  have h2 : i < b.size := by omega
  simp only [Int.toNat_natCast, h2, dif_pos]
  rfl
def moneyv (b : ByteArray) : Bool := decide (b.size = 3) && capv b 3 0
theorem F35.eq (b : ByteArray) (hb : b.size ≤ 1000000000000000) : F35.f b = some (moneyv b) := by
 unfold F35.f moneyv
 have hw : wrap64 (b.size : Int) = (b.size : Int) := w64 (by omega) (by omega); rw [hw]
 by_cases c : b.size = 3
 ·rw [decide_eq_true c, decide_eq_true (show (b.size : Int) = 3 by omega), Bool.and_true, Bool.true_and, capv_all b 3 0 (by omega)]
  rfl
 ·rw [decide_eq_false c, decide_eq_false (show ¬ (b.size : Int) = 3 by omega), Bool.and_false, Bool.false_and]
theorem ref07.go (b : ByteArray) (hb : b.size = 3) : ∀ n i : Nat, i + n = 3 → Ev (fun k => F40.l0 k b (i : Int)) (capv b n i)
 | 0, i, h => by
  refine Ev.succ ?_; simp only [F40.l0, if_neg (show ¬ (i : Int) < 3 by omega), capv]; exact Ev.const _
 | n + 1, i, h => by
  have ih := ref07.go b hb n (i + 1) (by omega); refine Ev.succ ?_; simp only [F40.l0, if_pos (show (i : Int) < 3 by omega), if_pos (show (0 : Int) ≤ (i : Int) by omega), if_pos (show (i : Int) < (b.size : Int) by omega), capv, w64s (show i ≤ 1000000000 by omega)]
  by_cases c1 : bt b (i : Int) < 65
  ·simp only [if_pos c1, decide_eq_false (show ¬ 65 ≤ bt b (i : Int) by omega), Bool.false_and]; exact Ev.const _
  ·simp only [if_neg c1, decide_eq_true (show 65 ≤ bt b (i : Int) by omega), Bool.true_and]
   by_cases c2 : bt b (i : Int) > 90
   ·simp only [if_pos c2, decide_eq_false (show ¬ bt b (i : Int) ≤ 90 by omega), Bool.false_and]; exact Ev.const _
   ·simp only [if_neg c2, decide_eq_true (show bt b (i : Int) ≤ 90 by omega), Bool.true_and]; exact ih
theorem ref07.eq (b : ByteArray) : Ev (fun k => F40.f k b) (moneyv b) := by
 unfold F40.f moneyv
 by_cases c : b.size = 3
 ·simp only [if_pos (show (b.size : Int) = 3 by omega), decide_eq_true c, Bool.true_and]; exact ref07.go b c 3 0 (by omega)
 ·simp only [if_neg (show ¬ (b.size : Int) = 3 by omega), decide_eq_false c, Bool.false_and]; exact Ev.const _
def optv (b : ByteArray) : Bool := decide (b.size = 0) || codev b
theorem optional.eq (b : ByteArray) : Ev (fun k => F34.f k b) (optv b) := by
 unfold F34.f optv
 simp only [size_nil]
 by_cases c : b.size = 0
 ·simp only [if_pos c, decide_eq_true c, Bool.true_or]; exact Ev.const _
 ·simp only [if_neg c, decide_eq_false c, Bool.false_or]; exact Ev.bind (F33.eq b) (Ev.const _)
theorem refOptional.eq (b : ByteArray) (hb : b.size ≤ 1000000000000000) : Ev (fun k => F39.f k b) (optv b) := by
 unfold F39.f optv
 simp only [size_nil]
 by_cases c : b.size = 0
 ·simp only [if_pos c, decide_eq_true c, Bool.true_or]; exact Ev.const _
 ·simp only [if_neg c, decide_eq_false c, Bool.false_or]; exact Ev.bind (F38.eq b hb) (Ev.const _)
def withv (a : Int) : Bool := decide (a ≥ -1000000000000) && decide (a ≤ 1000000000000)
theorem within.eq (a : Int) : F36.f a 1000000000000 = some (withv a) := by
 unfold F36.f withv
 rw [show wrap64 (-1000000000000) = -1000000000000 from w64 (by omega) (by omega)]
 by_cases c : a ≥ -1000000000000
 ·rw [if_pos c, decide_eq_true c, Bool.true_and]
 ·rw [if_neg c, decide_eq_false c, Bool.false_and]
theorem refWithin.eq (a : Int) : F41.f a 1000000000000 = some (withv a) := by
 unfold F41.f withv
 rw [show wrap64 (-1000000000000) = -1000000000000 from w64 (by omega) (by omega)]
 by_cases c : a ≥ -1000000000000
 ·rw [if_pos c, decide_eq_true c, Bool.true_and]
 ·rw [if_neg c, decide_eq_false c, Bool.false_and]
def tagv (t : Tg) : Bool := codev t.f0 && codev t.f1
def dimv (l : List Tg) : Nat → Nat → Bool
 | 0, _ => true
 | n + 1, i => tagv (rd_T101 l (i : Int)) && ((decide (i = 0) || Op.bytesLess (rd_T101 l ((i : Int) - 1)).f0.toList (rd_T101 l (i : Int)).f0.toList) && dimv l n (i + 1))
def rightv (l : List Tg) : Bool := dimv l l.length 0 && decide ((l.length : Int) ≤ 6)
theorem codes.eq (t : Tg) : Ev (fun k => F66.f k t.f0 t.f1) (tagv t) := by
 unfold F66.f tagv
 refine Ev.bind (F33.eq t.f0) ?_
 cases codev t.f0 with
 | true => simp only [if_true, Bool.true_and]; exact Ev.bind (F33.eq t.f1) (Ev.const _)
 | false => simp only [Bool.false_eq_true, if_false, Bool.false_and]; exact Ev.const _
theorem named.eq (t : Tg) (h : t.f0.size ≤ 1000000000000000 ∧ t.f1.size ≤ 1000000000000000) : Ev (fun k => F69.f k t.f0 t.f1) (tagv t) := by
 unfold F69.f tagv
 refine Ev.bind (F38.eq t.f0 h.1) ?_
 cases codev t.f0 with
 | true => simp only [if_true, Bool.true_and]; exact Ev.bind (F38.eq t.f1 h.2) (Ev.const _)
 | false => simp only [Bool.false_eq_true, if_false, Bool.false_and]; exact Ev.const _
theorem rd101_mem {a : List Tg} {i : Nat} (h : i < a.length) : rd_T101 a (i : Int) ∈ a := by
 have e1 : rd_T101 a (i : Int) = a[i] := by simp [rd_T101, h]
 rw [e1]; exact List.getElem_mem h
theorem right.go (l : List Tg) (hl : l.length ≤ 1000000) : ∀ n i, i + n = l.length → Ev (fun k => F37.l0 k l l (l.length : Int) (i : Int)) (dimv l n i)
 | 0, i, h => by
  refine Ev.succ ?_; simp only [F37.l0, if_neg (show ¬ (i : Int) < (l.length : Int) by omega), dimv]; exact Ev.const _
 | n + 1, i, h => by
  have ih := right.go l hl n (i + 1) (by omega); refine Ev.succ ?_; simp only [F37.l0, if_pos (show (i : Int) < (l.length : Int) by omega), if_pos (show (0 : Int) ≤ (i : Int) by omega), dimv, w64s (show i ≤ 1000000000 by omega)]; refine Ev.bind (codes.eq _) ?_
  cases tagv (rd_T101 l (i : Int)) with
  | false => simp only [Bool.false_eq_true, if_false, Bool.false_and]; exact Ev.const _
  | true =>
   simp only [if_true, Bool.true_and]
   by_cases c : i = 0
   ·simp only [if_neg (show ¬ (i : Int) > 0 by omega), decide_eq_true c, Bool.true_or, Bool.true_and]; exact ih
   ·rw [w64 (n := (i : Int) - 1) (by omega) (by omega)]; simp only [if_pos (show (i : Int) > 0 by omega), if_pos (show 0 ≤ (i : Int) - 1 by omega), if_pos (show (i : Int) - 1 < (l.length : Int) by omega), decide_eq_false c, Bool.false_or]
    by_cases d : Op.bytesLess (rd_T101 l ((i : Int) - 1)).f0.toList (rd_T101 l (i : Int)).f0.toList = true
    ·simp only [d, if_true, Bool.true_and]; exact ih
    ·have d2 : Op.bytesLess (rd_T101 l ((i : Int) - 1)).f0.toList (rd_T101 l (i : Int)).f0.toList = false := by simpa using d
     simp only [d2, Bool.false_eq_true, if_false, Bool.false_and]; exact Ev.const _
theorem right.eq (l : List Tg) (hl : l.length ≤ 1000000) : Ev (fun k => F37.f k l) (rightv l) := by
 unfold F37.f rightv
 by_cases c : (l.length : Int) > 6
 ·simp only [if_pos c, decide_eq_false (show ¬ (l.length : Int) ≤ 6 by omega), Bool.and_false]; exact Ev.const _
 ·simp only [if_neg c, decide_eq_true (show (l.length : Int) ≤ 6 by omega), Bool.and_true]; exact right.go l hl l.length 0 (by omega)
theorem refRight.go (l : List Tg) (hl : l.length ≤ 1000000) (ht : ∀ t ∈ l, t.f0.size ≤ 1000000000000000 ∧ t.f1.size ≤ 1000000000000000) : ∀ n i, i + n = l.length → Ev (fun k => F42.l0 k l (i : Int)) (dimv l n i && decide ((l.length : Int) ≤ 6))
 | 0, i, h => by
  refine Ev.succ ?_; simp only [F42.l0, if_neg (show ¬ (i : Int) < (l.length : Int) by omega), dimv, Bool.true_and]; exact Ev.const _
 | n + 1, i, h => by
  have ih := refRight.go l hl ht n (i + 1) (by omega); refine Ev.succ ?_; simp only [F42.l0, if_pos (show (i : Int) < (l.length : Int) by omega), if_pos (show (0 : Int) ≤ (i : Int) by omega), dimv, w64s (show i ≤ 1000000000 by omega)]; refine Ev.bind (named.eq _ (ht _ (rd101_mem (by omega)))) ?_
  cases tagv (rd_T101 l (i : Int)) with
  | false => simp only [Bool.false_eq_true, if_false, Bool.false_and]; exact Ev.const _
  | true =>
   simp only [if_true, Bool.true_and]
   by_cases c : i = 0
   ·simp only [if_neg (show ¬ (i : Int) > 0 by omega), decide_eq_true c, Bool.true_or, Bool.true_and]; exact ih
   ·rw [w64 (n := (i : Int) - 1) (by omega) (by omega)]; simp only [if_pos (show (i : Int) > 0 by omega), if_pos (show 0 ≤ (i : Int) - 1 by omega), if_pos (show (i : Int) - 1 < (l.length : Int) by omega), decide_eq_false c, Bool.false_or]
    by_cases d : Op.bytesLess (rd_T101 l ((i : Int) - 1)).f0.toList (rd_T101 l (i : Int)).f0.toList = true
    ·simp only [d, if_true, Bool.true_and]; exact ih
    ·have d2 : Op.bytesLess (rd_T101 l ((i : Int) - 1)).f0.toList (rd_T101 l (i : Int)).f0.toList = false := by simpa using d
     simp only [d2, Bool.false_eq_true, if_false, Bool.false_and]; exact Ev.const _
theorem refRight.eq (l : List Tg) (hl : l.length ≤ 1000000) (ht : ∀ t ∈ l, t.f0.size ≤ 1000000000000000 ∧ t.f1.size ≤ 1000000000000000) : Ev (fun k => F42.f k l) (rightv l) := by
 unfold F42.f rightv
 exact refRight.go l hl ht l.length 0 (by omega)
def linev (x : Li) : Int := if codev x.f0 = true ∧ optv x.f4 = true ∧ optv x.f5 = true then (if moneyv x.f1 = true then (if withv x.f2 = true ∧ withv x.f3 = true then (if x.f2 = 0 ∧ x.f3 = 0 then 2 else if rightv x.f6 = true then 0 else 14) else 4) else 13) else 7
theorem line.j2 (x : Li) (hx : okL x) (b : Bool) : Ev (fun k => F14.j2 k b x.f0 x.f1 x.f2 x.f3 x.f4 x.f5 x.f6) (if b = true then 2 else if rightv x.f6 = true then 0 else 14) := by
 refine Ev.succ ?_; simp only [F14.j2]
 cases b with
 | true => simp only [if_true]; exact Ev.const _
 | false =>
  simp only [Bool.false_eq_true, if_false]; refine Ev.bind (right.eq x.f6 (by have := hx.2.2.2.2.1; omega)) ?_
  cases rightv x.f6 with
  | true => simp only [if_true]; exact Ev.const _
  | false => simp only [Bool.false_eq_true, if_false]; exact Ev.const _
theorem line.j1 (x : Li) (hx : okL x) (b : Bool) : Ev (fun k => F14.j1 k b x.f0 x.f1 x.f2 x.f3 x.f4 x.f5 x.f6) (if b = true then 4 else if x.f2 = 0 ∧ x.f3 = 0 then 2 else if rightv x.f6 = true then 0 else 14) := by
 refine Ev.succ ?_; simp only [F14.j1]
 cases b with
 | true => simp only [if_true]; exact Ev.const _
 | false =>
  simp only [Bool.false_eq_true, if_false]
  by_cases c2 : x.f2 = 0
  ·simp only [if_pos c2]; have h := line.j2 x hx (x.f3 == 0)
   by_cases c3 : x.f3 = 0
   ·rw [if_pos ⟨c2, c3⟩]; simpa [c3] using h
   ·rw [if_neg (fun h => c3 h.2)]; simpa [c3] using h
  ·simp only [if_neg c2]; have h := line.j2 x hx false; rw [if_neg (fun h => c2 h.1)]; simpa using h
theorem line.j0 (x : Li) (hx : okL x) (b : Bool) : Ev (fun k => F14.j0 k b x.f0 x.f1 x.f2 x.f3 x.f4 x.f5 x.f6) (if b = true then 7 else if moneyv x.f1 = true then (if withv x.f2 = true ∧ withv x.f3 = true then (if x.f2 = 0 ∧ x.f3 = 0 then 2 else if rightv x.f6 = true then 0 else 14) else 4) else 13) := by
 refine Ev.succ ?_; simp only [F14.j0]
 cases b with
 | true => simp only [if_true]; exact Ev.const _
 | false =>
  simp only [Bool.false_eq_true, if_false, F35.eq x.f1 hx.2.1, Option.bind_some, within.eq]
  cases moneyv x.f1 with
  | false => simp only [Bool.false_eq_true, if_false]; exact Ev.const _
  | true =>
   simp only [if_true]
   cases h2 : withv x.f2 with
   | false =>
    have h := line.j1 x hx true
    simpa using h
   | true =>
    simp only [if_true]
    cases h3 : withv x.f3 with
    | false => have h := line.j1 x hx true; simpa using h
    | true => have h := line.j1 x hx false; simpa using h
theorem F14.eq (x : Li) (hx : okL x) : Ev (fun k => F14.f k x.f0 x.f1 x.f2 x.f3 x.f4 x.f5 x.f6) (linev x) := by
 unfold F14.f linev
 refine Ev.bind (F33.eq x.f0) ?_
 cases codev x.f0 with
 | false => have h := line.j0 x hx true; simpa using h
 | true =>
  simp only [if_true]; refine Ev.bind (optional.eq x.f4) ?_
  cases optv x.f4 with
  | false => have h := line.j0 x hx true; simpa using h
  | true =>
   simp only [if_true]; refine Ev.bind (optional.eq x.f5) ?_
   cases optv x.f5 with
   | false => have h := line.j0 x hx true; simpa using h
   | true => have h := line.j0 x hx false; simpa using h
theorem refLine.j2 (x : Li) (hx : okL x) (b : Bool) : Ev (fun k => F15.j2 k b x.f0 x.f1 x.f2 x.f3 x.f4 x.f5 x.f6) (if b = true then 2 else if rightv x.f6 = true then 0 else 14) := by
 refine Ev.succ ?_; simp only [F15.j2]
 cases b with
 | true => simp only [if_true]; exact Ev.const _
 | false =>
  simp only [Bool.false_eq_true, if_false]; refine Ev.bind (refRight.eq x.f6 (by have := hx.2.2.2.2.1; omega) hx.2.2.2.2.2) ?_
  cases rightv x.f6 with
  | true => simp only [if_true]; exact Ev.const _
  | false => simp only [Bool.false_eq_true, if_false]; exact Ev.const _
theorem refLine.j1 (x : Li) (hx : okL x) (b : Bool) : Ev (fun k => F15.j1 k b x.f0 x.f1 x.f2 x.f3 x.f4 x.f5 x.f6) (if b = true then 4 else if x.f2 = 0 ∧ x.f3 = 0 then 2 else if rightv x.f6 = true then 0 else 14) := by
 refine Ev.succ ?_; simp only [F15.j1]
 cases b with
 | true => simp only [if_true]; exact Ev.const _
 | false =>
  simp only [Bool.false_eq_true, if_false]
  by_cases c2 : x.f2 = 0
  ·simp only [if_pos c2]; have h := refLine.j2 x hx (x.f3 == 0)
   by_cases c3 : x.f3 = 0
   ·rw [if_pos ⟨c2, c3⟩]; simpa [c3] using h
   ·rw [if_neg (fun h => c3 h.2)]; simpa [c3] using h
  ·simp only [if_neg c2]; have h := refLine.j2 x hx false; rw [if_neg (fun h => c2 h.1)]; simpa using h
theorem refLine.j0 (x : Li) (hx : okL x) (b : Bool) : Ev (fun k => F15.j0 k b x.f0 x.f1 x.f2 x.f3 x.f4 x.f5 x.f6) (if b = true then 7 else if moneyv x.f1 = true then (if withv x.f2 = true ∧ withv x.f3 = true then (if x.f2 = 0 ∧ x.f3 = 0 then 2 else if rightv x.f6 = true then 0 else 14) else 4) else 13) := by
 refine Ev.succ ?_; simp only [F15.j0]
 cases b with
 | true => simp only [if_true]; exact Ev.const _
 | false =>
  simp only [Bool.false_eq_true, if_false, refWithin.eq, Option.bind_some]; refine Ev.bind (ref07.eq x.f1) ?_
  cases moneyv x.f1 with
  | false => simp only [Bool.false_eq_true, if_false]; exact Ev.const _
  | true =>
   simp only [if_true]
   cases h2 : withv x.f2 with
   | false =>
    have h := refLine.j1 x hx true
    simpa using h
   | true =>
    simp only [if_true]
    cases h3 : withv x.f3 with
    | false => have h := refLine.j1 x hx true; simpa using h
    | true => have h := refLine.j1 x hx false; simpa using h
theorem F15.eq (x : Li) (hx : okL x) : Ev (fun k => F15.f k x.f0 x.f1 x.f2 x.f3 x.f4 x.f5 x.f6) (linev x) := by
 unfold F15.f linev
 refine Ev.bind (F38.eq x.f0 hx.1) ?_
 cases codev x.f0 with
 | false => have h := refLine.j0 x hx true; simpa using h
 | true =>
  simp only [if_true]; refine Ev.bind (refOptional.eq x.f4 hx.2.2.1) ?_
  cases optv x.f4 with
  | false => have h := refLine.j0 x hx true; simpa using h
  | true =>
   simp only [if_true]; refine Ev.bind (refOptional.eq x.f5 hx.2.2.2.1) ?_
   cases optv x.f5 with
   | false => have h := refLine.j0 x hx true; simpa using h
   | true => have h := refLine.j0 x hx false; simpa using h
end Go.Proofs.YtjeecehhcajfaaaDoor.M
end
section
namespace Go.Proofs.YtjeecehhcajfaaaDoor.M
open Go.RowKit Go.Proofs.YtjeecehhcajfaaaDoorW.PrintWords Go.Proofs.YtjeecehhcajfaaaDoorW.PrintLast Go.Proofs.YtjeecehhcajfaaaDoorW.PrintMore
attribute [local go_sem] max2_int min2_int max_two min_two max_three min_three max_four min_four
set_option linter.unusedVariables false
set_option linter.unusedSimpArgs false
def F52.l0 : Nat → List Int → Int → Int → Int → Option (Int × Bool)
  | 0, _, _, _, _ => none
  | k + 1, x0, x4, x5, x6 => if x6 < (x0.length : Int) then (if 0 ≤ x6 then (F52.l0 k x0 (wrap64 (x4 + ((rd x0 x6) / 4294967296))) (wrap64 (x5 + (Go.bits .and .i64 (rd x0 x6) 4294967295))) (wrap64 (x6 + 1))) else (none)) else (if (wrap64 (x4 + (x5 / 4294967296))) < (-2147483648) then (some (0, false)) else (if (wrap64 (x4 + (x5 / 4294967296))) > 2147483647 then (some (0, false)) else (some (wrap64 ((wrap64 ((wrap64 (x4 + (x5 / 4294967296))) * 4294967296)) + (Go.bits .and .i64 x5 4294967295)), true))))
def F52.f (k : Nat) (l0 : List Int) : Option (Int × Bool) := F52.l0 k l0 0 0 0
set_option maxHeartbeats 8000000 in
set_option maxRecDepth 100000 in
theorem F52.calls (k : Nat) (A0 : Option Addr) (c0 : Nat) (l0 : List Int) (r1 : Int) (r2 : Bool) (w : World) (hr0 : Kd.C (Kd.int .i64) w A0 l0.length l0) (hc0 : l0.length ≤ c0) (h : F52.f k l0 = some (r1, r2)) :
    Calls Tryd.prog 52 #[.slice A0 l0.length c0] w fun e w' => e = .returned (.tuple #[.int .i64 r1, .bool r2]) ∧ Drawn0 w w' := by
 have hu3 := Tryd.underlying3; have HR0 := Aside0.mk hr0; have HC0 := Aside0.mk hc0; clear hr0 hc0
 unfold F52.f at h
 have H := h; clear h; have H' := Aside0.mk H; clear H; go_enter Tryd.func52, Tryd.ntmps52
 go_wp2
 go_loopg [4, 5, 6] k (fun kq v4 v5 v6 w' => ∃ (x4_1 : Int) (x5_1 : Int) (x6_1 : Int), v4 = .int .i64 x4_1 ∧ v5 = .int .i64 x5_1 ∧ v6 = .int .i64 x6_1 ∧ Aside0 (F52.l0 kq l0 x4_1 x5_1 x6_1 = some (r1, r2)) ∧ Aside0 (kq ≤ k) ∧ Drawn0 w w')
 case atStart => exact ⟨(0), (0), (0), pbb2_3, pbb2_3, pbb2_3, H', ⟨Nat.le_refl _⟩, pbb2_4⟩
 case round =>
  clear H'; obtain ⟨x4_1, x5_1, x6_1, rfl, rfl, rfl, HA, HK1, ⟨m1, rfl⟩⟩ := hrel
  cases gk with
  | zero => exact absurd HA.out (by simp [F52.l0])
  | succ k1 =>
   have H := HA.out; clear HA; simp only [F52.l0] at H
   by_cases c2 : x6_1 < (l0.length : Int)
   ·rw [if_pos c2] at H; have c2b0 := decide_eq_true c2; clear c2
    by_cases c3 : 0 ≤ x6_1
    ·rw [if_pos c3] at H; have c3b0 := decide_eq_true c3; clear c3; have H' := Aside0.mk H; clear H; have p101 : 0 ≤ (x6_1 : Int) := of_decide_eq_true pbb2_6; have q101 : x6_1 < (l0.length : Int) := of_decide_eq_true pbb2_6; obtain ⟨ad101, e101, hx101_0⟩ := Kd.at_int HR0.out x6_1 p101 q101
     cases e101
     replace p101 := eq_true p101; replace q101 := eq_true q101; have p102 : 0 ≤ (x6_1 : Int) := of_decide_eq_true pbb2_6; have q102 : x6_1 < (l0.length : Int) := of_decide_eq_true pbb2_6; obtain ⟨ad102, e102, hx102_0⟩ := Kd.at_int HR0.out x6_1 p102 q102; obtain rfl : ad101 = ad102 := (by injection e102); replace p102 := eq_true p102; replace q102 := eq_true q102
     go_wp2
     go_roundg k1
     case measure => have := HK1.out; omega
     case rel => exact ⟨(wrap64 (x4_1 + ((rd l0 x6_1) / 4294967296))), (wrap64 (x5_1 + (Go.bits .and .i64 (rd l0 x6_1) 4294967295))), (wrap64 (x6_1 + 1)), pbb2_3, pbb2_3, pbb2_3, H', ⟨pbb2_7⟩, pbb2_4⟩
    ·rw [if_neg c3] at H; exact absurd H (by simp)
   ·rw [if_neg c2] at H; have c2b0 := decide_eq_false c2; clear c2
    by_cases c4 : (wrap64 (x4_1 + (x5_1 / 4294967296))) < (-2147483648)
    ·rw [if_pos c4] at H; have c4b0 := decide_eq_true c4; clear c4; simp only [Option.some.injEq, Prod.mk.injEq] at H; obtain ⟨rfl, rfl⟩ := H
     go_wp2
     go_ret2
     exact ⟨pbb2_3, pbb2_4⟩
    ·rw [if_neg c4] at H; have c4b0 := decide_eq_false c4; clear c4
     by_cases c5 : (wrap64 (x4_1 + (x5_1 / 4294967296))) > 2147483647
     ·rw [if_pos c5] at H; have c5b0 : decide (2147483647 < (wrap64 (x4_1 + (x5_1 / 4294967296)))) = true := decide_eq_true c5; clear c5; simp only [Option.some.injEq, Prod.mk.injEq] at H; obtain ⟨rfl, rfl⟩ := H
      go_wp2
      go_ret2
      exact ⟨pbb2_3, pbb2_4⟩
     ·rw [if_neg c5] at H; have c5b0 : decide (2147483647 < (wrap64 (x4_1 + (x5_1 / 4294967296)))) = false := decide_eq_false c5; clear c5; simp only [Option.some.injEq, Prod.mk.injEq] at H; obtain ⟨rfl, rfl⟩ := H
      go_wp2
      go_ret2
      exact ⟨pbb2_3, pbb2_4⟩
end Go.Proofs.YtjeecehhcajfaaaDoor.M
end
section
namespace Go.Proofs.YtjeecehhcajfaaaDoor.M
open Go.RowKit Go.Proofs.YtjeecehhcajfaaaDoorW.PrintWords Go.Proofs.YtjeecehhcajfaaaDoorW.PrintLast
set_option linter.unusedVariables false
set_option linter.unusedSimpArgs false
def inW (x : Int) : Prop := -9223372036854775808 ≤ x ∧ x ≤ 9223372036854775807
instance (x : Int) : Decidable (inW x) := by unfold inW; infer_instance
def sumv (l : List Int) : Int × Bool := if inW l.sum then (l.sum, true) else (0, false)
theorem sum_bound : ∀ (l : List Int), (∀ x ∈ l, inW x) → -9223372036854775808 * (l.length : Int) ≤ l.sum ∧ l.sum ≤ 9223372036854775808 * (l.length : Int)
 | [], _ => by simp
 | x :: l, h => by
  have h1 := sum_bound l (fun y hy => h y (List.mem_cons_of_mem _ hy)); have h2 := h x List.mem_cons_self
  unfold inW at h2
  simp only [List.sum_cons, List.length_cons]
  omega
theorem two_words (hi lo x : Int) (h0 : 0 ≤ hi) (h1 : hi < 18446744073709551616) (l0 : 0 ≤ lo) (l1 : lo < 18446744073709551616) (hx : inW x) :
  ((hi + x / 9223372036854775808 + (lo + x % 18446744073709551616) / 18446744073709551616) % 18446744073709551616) * 18446744073709551616 + (lo + x) % 18446744073709551616 = (hi * 18446744073709551616 + lo + x) % 340282366920938463463374607431768211456 := by
 unfold inW at hx
 omega
theorem sum_g : ∀ (l : List Int) (hi lo : Int), (∀ x ∈ l, inW x) → 0 ≤ hi → hi < 18446744073709551616 → 0 ≤ lo → lo < 18446744073709551616 →
  0 ≤ (F74.g l hi lo).1 ∧ (F74.g l hi lo).1 < 18446744073709551616 ∧ 0 ≤ (F74.g l hi lo).2 ∧ (F74.g l hi lo).2 < 18446744073709551616 ∧
  (F74.g l hi lo).1 * 18446744073709551616 + (F74.g l hi lo).2 = (hi * 18446744073709551616 + lo + l.sum) % 340282366920938463463374607431768211456
 | [], hi, lo, _, h0, h1, l0, l1 => by
  simp only [F74.g, List.sum_nil]; refine ⟨h0, h1, l0, l1, ?_⟩
  omega
 | x :: l, hi, lo, hx, h0, h1, l0, l1 => by
  have e := two_words hi lo x h0 h1 l0 l1 (hx x List.mem_cons_self); simp only [F74.g, List.sum_cons]; have b1 := Int.emod_nonneg (hi + x / 9223372036854775808 + (lo + x % 18446744073709551616) / 18446744073709551616) (b := 18446744073709551616) (by omega); have b2 := Int.emod_lt_of_pos (hi + x / 9223372036854775808 + (lo + x % 18446744073709551616) / 18446744073709551616) (b := 18446744073709551616) (by omega); have b3 := Int.emod_nonneg (lo + x) (b := 18446744073709551616) (by omega); have b4 := Int.emod_lt_of_pos (lo + x) (b := 18446744073709551616) (by omega); obtain ⟨g1, g2, g3, g4, g5⟩ := sum_g l _ _ (fun y hy => hx y (List.mem_cons_of_mem _ hy)) b1 b2 b3 b4; refine ⟨g1, g2, g3, g4, ?_⟩; rw [g5, e]
  omega
theorem sum_e (H L S : Int) (h0 : 0 ≤ H) (h1 : H < 18446744073709551616) (l0 : 0 ≤ L) (l1 : L < 18446744073709551616) (hT : H * 18446744073709551616 + L = S % 340282366920938463463374607431768211456) (s0 : -170141183460469231731687303715884105728 ≤ S) (s1 : S < 170141183460469231731687303715884105728) :
  F74.e (H, L) = if inW S then (S, true) else (0, false) := by
 unfold F74.e
 simp only; have hw : wrap64 L = if L < 9223372036854775808 then L else L - 18446744073709551616 := by unfold wrap64; split <;> omega
 rw [hw]
 by_cases c : inW S
 ·rw [if_pos c]
  unfold inW at c
  have hL : (if L < 9223372036854775808 then L else L - 18446744073709551616) = S := by split <;> omega
  rw [hL, if_neg (by simp only [ne_eq, Decidable.not_not]; omega)]
 ·rw [if_neg c]
  unfold inW at c
  rw [if_pos ?_]
  split <;> omega
theorem F74.eq (l : List Int) (hl : l.length ≤ 1000000) (hx : ∀ x ∈ l, inW x) : F74.f l = some (sumv l) := by
 unfold F74.f sumv
 rw [if_pos (by omega)]; obtain ⟨g1, g2, g3, g4, g5⟩ := sum_g l 0 0 hx (by omega) (by omega) (by omega) (by omega); have hb := sum_bound l hx; have := sum_e _ _ l.sum g1 g2 g3 g4 (by rw [g5]; congr 1; omega) (by omega) (by omega); rw [← this]
theorem and32 (x : Int) : Go.bits .and .i64 x 4294967295 = x % 4294967296 := by
 have h1 : (BitVec.ofInt 64 x &&& BitVec.ofInt 64 4294967295).toNat = (x % 18446744073709551616).toNat % 4294967296 := by
  rw [BitVec.toNat_and, BitVec.toNat_ofInt, BitVec.toNat_ofInt]; have e : ((4294967295 : Int) % ((2 ^ 64 : Nat) : Int)).toNat = 2 ^ 32 - 1 := by decide
  rw [e, Nat.and_two_pow_sub_one_eq_mod]
  congr 1
 unfold Go.bits
 show IntKind.i64.wrap (((BitVec.ofInt 64 x &&& BitVec.ofInt 64 4294967295).toNat : Nat) : Int) = _; rw [h1, IntKind.wrap_i64]
 omega
theorem refSum.go (l : List Int) (hl : l.length ≤ 1000000) (hx : ∀ x ∈ l, inW x) : ∀ (n i : Nat) (a b : Int), i + n = l.length → -2147483648 * (i : Int) ≤ a → a ≤ 2147483648 * (i : Int) → 0 ≤ b → b ≤ 4294967296 * (i : Int) → a * 4294967296 + b = (l.take i).sum → Ev (fun k => F52.l0 k l a b (i : Int)) (sumv l)
 | 0, i, a, b, h, a0, a1, b0, b1, hs => by
  have ht : l.take i = l := List.take_of_length_le (by omega); rw [ht] at hs; refine Ev.succ ?_; simp only [F52.l0, if_neg (show ¬ (i : Int) < (l.length : Int) by omega)]; have hw : wrap64 (a + b / 4294967296) = a + b / 4294967296 := w64 (by omega) (by omega); rw [hw, and32]
  unfold sumv
  by_cases c1 : a + b / 4294967296 < -2147483648
  ·simp only [if_pos c1, if_neg (show ¬ inW l.sum by unfold inW; omega)]; exact Ev.const _
  ·by_cases c2 : a + b / 4294967296 > 2147483647
   ·simp only [if_neg c1, if_pos c2, if_neg (show ¬ inW l.sum by unfold inW; omega)]; exact Ev.const _
   ·simp only [if_neg c1, if_neg c2, if_pos (show inW l.sum by unfold inW; omega)]; rw [w64 (n := (a + b / 4294967296) * 4294967296) (by omega) (by omega), w64 (by omega) (by omega), show (a + b / 4294967296) * 4294967296 + b % 4294967296 = l.sum by omega]; exact Ev.const _
 | n + 1, i, a, b, h, a0, a1, b0, b1, hs => by
  have hi : i < l.length := by omega
  have hrd : rd l (i : Int) = l[i] := by simp [rd, hi]
  have hxi := hx l[i] (List.getElem_mem hi)
  have hst : (l.take (i + 1)).sum = (l.take i).sum + l[i] := by
   rw [List.take_succ_eq_append_getElem hi, List.sum_append]; simp
  refine Ev.succ ?_; simp only [F52.l0, if_pos (show (i : Int) < (l.length : Int) by omega), if_pos (show (0 : Int) ≤ (i : Int) by omega), hrd, and32]; generalize l[i] = x at hxi hst
  unfold inW at hxi
  rw [w64 (n := a + x / 4294967296) (by omega) (by omega), w64 (n := b + x % 4294967296) (by omega) (by omega), w64 (n := (i : Int) + 1) (by omega) (by omega), show (i : Int) + 1 = ((i + 1 : Nat) : Int) by omega]; exact refSum.go l hl hx n (i + 1) _ _ (by omega) (by omega) (by omega) (by omega) (by omega) (by rw [hst, ← hs]; omega)
theorem refSum.eq (l : List Int) (hl : l.length ≤ 1000000) (hx : ∀ x ∈ l, inW x) : Ev (fun k => F52.f k l) (sumv l) := by
 unfold F52.f
 exact refSum.go l hl hx l.length 0 0 0 (by omega) (by omega) (by omega) (by omega) (by omega) (by simp)
end Go.Proofs.YtjeecehhcajfaaaDoor.M
end
section
namespace Go.Proofs.YtjeecehhcajfaaaDoor.M
open Go.RowKit Go.Proofs.YtjeecehhcajfaaaDoorW.PrintWords Go.Proofs.YtjeecehhcajfaaaDoorW.PrintLast Go.Proofs.YtjeecehhcajfaaaDoorW.PrintMore
attribute [local go_sem] max2_int min2_int max_two min_two max_three min_three max_four min_four
set_option linter.unusedVariables false
set_option linter.unusedSimpArgs false
def F50.l0 : Nat → List (S24) → ByteArray → List Int → List Int → Int → Option (Int × Int × Bool)
  | 0, _, _, _, _, _ => none
  | k + 1, x0, x1, x7, x8, x9 => if x9 < (x0.length : Int) then (if 0 ≤ x9 then (if ((rd_T24 x0 x9).f1).toList = x1.toList then (if x7.length < 17592186044416 then (if x8.length < 17592186044416 then (F50.l0 k x0 x1 (x7 ++ [(rd_T24 x0 x9).f2]) (x8 ++ [(rd_T24 x0 x9).f3]) (wrap64 (x9 + 1))) else (none)) else (none)) else (F50.l0 k x0 x1 x7 x8 (wrap64 (x9 + 1)))) else (none)) else ((F52.f k x7).bind fun bt110 => ((F52.f k x8).bind fun bt112 => (if bt110.2 = true then (some (bt110.1, bt112.1, bt112.2)) else (some (bt110.1, bt112.1, false)))))
def F50.f (k : Nat) (l0 : List (S24)) (a1 : ByteArray) : Option (Int × Int × Bool) := F50.l0 k l0 a1 ([] : List Int) ([] : List Int) 0
set_option maxHeartbeats 8000000 in
set_option maxRecDepth 100000 in
theorem F50.calls (k : Nat) (A0 : Option Addr) (c0 : Nat) (l0 : List (S24)) (a1 : ByteArray) (r1 : Int) (r2 : Int) (r3 : Bool) (w : World) (hr0 : Kd.C k24 w A0 l0.length l0) (hc0 : l0.length ≤ c0) (h : F50.f k l0 a1 = some (r1, r2, r3)) :
    Calls Tryd.prog 50 #[.slice A0 l0.length c0, .string a1] w fun e w' => e = .returned (.tuple #[.int .i64 r1, .int .i64 r2, .bool r3]) ∧ Below w.heap.size w w' := by
 have hu9 := Tryd.underlying9; have hu3 := Tryd.underlying3; have HR0 := Aside0.mk hr0; have HC0 := Aside0.mk hc0; clear hr0 hc0; have HB := Aside0.mk (Below.refl w.heap.size w)
 unfold F50.f at h
 have H := h; clear h; have H' := Aside0.mk H; clear H; go_enter Tryd.func50, Tryd.ntmps50
 go_wp2
 go_loopg [7, 8, 9] k (fun kq v7 v8 v9 w' => ∃ (x7_1 : List Int) (x8_1 : List Int) (x9_1 : Int), v9 = .int .i64 x9_1 ∧ Aside0 (F50.l0 kq l0 a1 x7_1 x8_1 x9_1 = some (r1, r2, r3)) ∧ Aside0 (kq ≤ k) ∧ Aside0 (Kd.R (Kd.int .i64) 3 w' w.heap.size (fun k_ => some k_ ≠ (v8 : Value).ownBlock) v7 x7_1) ∧ Aside0 (Kd.R (Kd.int .i64) 3 w' w.heap.size (fun k_ => some k_ ≠ (v7 : Value).ownBlock) v8 x8_1) ∧ Aside0 (Below w.heap.size w w'))
 case atStart => exact ⟨(([] : List Int)), (([] : List Int)), (0), pbb2_3, H', ⟨Nat.le_refl _⟩, ⟨by first | exact Kd.R_nil _ _ _ _ _ | exact Kd.N_nil _ _ _ _ _ | exact Kd.V_nil _ _ _ _ _ | exact Kd.Q_nil _ _ _ _ _ | exact Kd.S_nil _ _ _ _ _⟩, ⟨by first | exact Kd.R_nil _ _ _ _ _ | exact Kd.N_nil _ _ _ _ _ | exact Kd.V_nil _ _ _ _ _ | exact Kd.Q_nil _ _ _ _ _ | exact Kd.S_nil _ _ _ _ _⟩, ⟨pbb2_9⟩⟩
 case round =>
  clear H'; obtain ⟨x7_1, x8_1, x9_1, rfl, HA, HK1, HO_7, HO_8, HB⟩ := hrel
  cases gk with
  | zero => exact absurd HA.out (by simp [F50.l0])
  | succ k1 =>
   have H := HA.out; clear HA; simp only [F50.l0] at H
   by_cases c3 : x9_1 < (l0.length : Int)
   ·rw [if_pos c3] at H; have c3b0 := decide_eq_true c3; clear c3
    by_cases c4 : 0 ≤ x9_1
    ·rw [if_pos c4] at H; have c4b0 := decide_eq_true c4; clear c4
     by_cases c5 : ((rd_T24 l0 x9_1).f1).toList = a1.toList
     ·rw [if_pos c5] at H; have c5b0 := bT_ c5; have c5b1 := bF_ c5; clear c5
      by_cases c6 : x7_1.length < 17592186044416
      ·rw [if_pos c6] at H; have LMc6 := Aside0.mk c6; clear c6; obtain ⟨y103, hy103⟩ : ∃ y_ : List Int, y_ = (x7_1 ++ [(rd_T24 l0 x9_1).f2]) := ⟨_, rfl⟩; replace H : (if x8_1.length < 17592186044416 then (F50.l0 k1 l0 a1 y103 (x8_1 ++ [(rd_T24 l0 x9_1).f3]) (wrap64 (x9_1 + 1))) else (none)) = some (r1, r2, r3) := by first | (rw [hy103]; with_reducible exact H) | (have H2_ := (Option.bind_some _ _).symm.trans H; rw [hy103]; with_reducible exact H2_) | (have H2_ := (Option.bind_some _ _).symm.trans H; with_reducible exact H2_) | with_reducible exact H | (rw [hy103]; exact H) | exact H
       have Ny103 := Aside0.mk hy103; clear hy103
       by_cases c7 : x8_1.length < 17592186044416
       ·rw [if_pos c7] at H; have LMc7 := Aside0.mk c7; clear c7; obtain ⟨y107, hy107⟩ : ∃ y_ : List Int, y_ = (x8_1 ++ [(rd_T24 l0 x9_1).f3]) := ⟨_, rfl⟩; replace H : (F50.l0 k1 l0 a1 y103 y107 (wrap64 (x9_1 + 1))) = some (r1, r2, r3) := by first | (rw [hy107]; with_reducible exact H) | (have H2_ := (Option.bind_some _ _).symm.trans H; rw [hy107]; with_reducible exact H2_) | (have H2_ := (Option.bind_some _ _).symm.trans H; with_reducible exact H2_) | with_reducible exact H | (rw [hy107]; exact H) | exact H
        have Ny107 := Aside0.mk hy107; clear hy107; have H' := Aside0.mk H; clear H; have p101 : 0 ≤ (x9_1 : Int) := of_decide_eq_true pbb2_6; have q101 : x9_1 < (l0.length : Int) := of_decide_eq_true pbb2_6; obtain ⟨ad101, A101_6, c101_6, e101, hx101_0, hx101_1, hx101_2, hx101_3, hx101_4, hx101_5, hx101_6, hl101_6, hi101_6⟩ := at_T24 HR0.out x9_1 p101 q101
        cases e101
        replace hx101_0 := (HB.out.cell (World.block_lt_of_cell? w _ hx101_0)).trans hx101_0; replace hx101_1 := (HB.out.cell (World.block_lt_of_cell? w _ hx101_1)).trans hx101_1; replace hx101_2 := (HB.out.cell (World.block_lt_of_cell? w _ hx101_2)).trans hx101_2; replace hx101_3 := (HB.out.cell (World.block_lt_of_cell? w _ hx101_3)).trans hx101_3; replace hx101_4 := (HB.out.cell (World.block_lt_of_cell? w _ hx101_4)).trans hx101_4; replace hx101_5 := (HB.out.cell (World.block_lt_of_cell? w _ hx101_5)).trans hx101_5; replace hx101_6 := (HB.out.cell (World.block_lt_of_cell? w _ hx101_6)).trans hx101_6; have HR101_6 := Aside0.mk hi101_6; have HC101_6 := Aside0.mk hl101_6; clear hi101_6 hl101_6; replace p101 := eq_true p101; replace q101 := eq_true q101; have p102 : 0 ≤ (x9_1 : Int) := of_decide_eq_true pbb2_6; have q102 : x9_1 < (l0.length : Int) := of_decide_eq_true pbb2_6; obtain ⟨ad102, A102_6, c102_6, e102, hx102_0, hx102_1, hx102_2, hx102_3, hx102_4, hx102_5, hx102_6, hl102_6, hi102_6⟩ := at_T24 HR0.out x9_1 p102 q102; obtain rfl : ad101 = ad102 := (by injection e102); replace hx102_0 := (HB.out.cell (World.block_lt_of_cell? w _ hx102_0)).trans hx102_0; replace hx102_1 := (HB.out.cell (World.block_lt_of_cell? w _ hx102_1)).trans hx102_1; replace hx102_2 := (HB.out.cell (World.block_lt_of_cell? w _ hx102_2)).trans hx102_2; replace hx102_3 := (HB.out.cell (World.block_lt_of_cell? w _ hx102_3)).trans hx102_3; replace hx102_4 := (HB.out.cell (World.block_lt_of_cell? w _ hx102_4)).trans hx102_4; replace hx102_5 := (HB.out.cell (World.block_lt_of_cell? w _ hx102_5)).trans hx102_5; replace hx102_6 := (HB.out.cell (World.block_lt_of_cell? w _ hx102_6)).trans hx102_6; have HR102_6 := Aside0.mk hi102_6; have HC102_6 := Aside0.mk hl102_6; clear hi102_6 hl102_6; replace p102 := eq_true p102; replace q102 := eq_true q102; have ea_ := Option.some.inj (hx101_6.symm.trans hx102_6); injection ea_ with ea_ en_ ec_
        subst ea_; subst ec_; clear en_
        go_wp2_with (first | ((with_reducible refine gate_builtin (b := .append) (xs := #[.tmp 27, .tmp 33]) rfl ?_); at_builtin; refine Kd.R_append (Kd.int .i64) (w0 := w) w.heap.size rfl (.tmp 27) (.tmp 33) 80 3 (.int .i64 0) 8 rfl Tryd.underlying80 info3 rfl (by decide) (by omega) u7 x7_1 ((rd_T24 l0 x9_1).f2) [.int .i64 ((rd_T24 l0 x9_1).f2)] (fun k_ => some k_ ≠ (u8 : Value).ownBlock) (fun _ => False) rfl rfl ?aP (fun _ hk => hk.elim) ?aF ?aO ?aB ?aS ?aL ?_; (case aP => exact rfl); (case aB => exact pbb2_9); (case aF => exact (fun k_ hk => Kd.fresh' (Kd.R_lt (by (with_reducible repeat (first | apply Kd.R_alloc | apply Kd.R_drewN | apply Kd.R_drew)); exact HO_8.out)) k_ hk)); (case aO => exact (by (with_reducible repeat (first | apply Kd.R_alloc | apply Kd.R_drewN | apply Kd.R_drew)); exact HO_7.out)); (case aS => exact (below_size pbb2_9)); (case aL => have := LMc6.out; omega); intro v104 w8 ho hb hg hat; rw [← Ny103.out] at ho; replace HO_8 := Aside0.mk (Kd.R_after (ok := (fun _ => True)) (by (with_reducible repeat (first | apply Kd.R_alloc | apply Kd.R_drewN | apply Kd.R_drew)); exact Kd.R_mono HO_8.out (fun _ hk => ⟨trivial, hk⟩)) hg hat); replace HB := Aside0.mk (hb); have HO105 := Aside0.mk (ho); clear HO_7; clear ho hb hg hat; have p106 : 0 ≤ (x9_1 : Int) := of_decide_eq_true pbb2_6; have q106 : x9_1 < (l0.length : Int) := of_decide_eq_true pbb2_6; obtain ⟨ad106, A106_6, c106_6, e106, hx106_0, hx106_1, hx106_2, hx106_3, hx106_4, hx106_5, hx106_6, hl106_6, hi106_6⟩ := at_T24 HR0.out x9_1 p106 q106; obtain rfl : ad101 = ad106 := (by injection e106); replace hx106_0 := (HB.out.cell (World.block_lt_of_cell? w _ hx106_0)).trans hx106_0; replace hx106_1 := (HB.out.cell (World.block_lt_of_cell? w _ hx106_1)).trans hx106_1; replace hx106_2 := (HB.out.cell (World.block_lt_of_cell? w _ hx106_2)).trans hx106_2; replace hx106_3 := (HB.out.cell (World.block_lt_of_cell? w _ hx106_3)).trans hx106_3; replace hx106_4 := (HB.out.cell (World.block_lt_of_cell? w _ hx106_4)).trans hx106_4; replace hx106_5 := (HB.out.cell (World.block_lt_of_cell? w _ hx106_5)).trans hx106_5; replace hx106_6 := (HB.out.cell (World.block_lt_of_cell? w _ hx106_6)).trans hx106_6; have HR106_6 := Aside0.mk hi106_6; have HC106_6 := Aside0.mk hl106_6; clear hi106_6 hl106_6; replace p106 := eq_true p106; replace q106 := eq_true q106) | ((with_reducible refine gate_builtin (b := .append) (xs := #[.tmp 35, .tmp 41]) rfl ?_); at_builtin; refine Kd.R_append (Kd.int .i64) (w0 := w) w.heap.size rfl (.tmp 35) (.tmp 41) 80 3 (.int .i64 0) 8 rfl Tryd.underlying80 info3 rfl (by decide) (by omega) u8 x8_1 ((rd_T24 l0 x9_1).f3) [.int .i64 ((rd_T24 l0 x9_1).f3)] (fun k_ => some k_ ≠ (v104 : Value).ownBlock) (fun _ => False) rfl rfl ?aP (fun _ hk => hk.elim) ?aF ?aO ?aB ?aS ?aL ?_; (case aP => exact rfl); (case aB => exact pbb2_9); (case aF => exact (fun k_ hk => Kd.fresh' (Kd.R_lt (by (with_reducible repeat (first | apply Kd.R_alloc | apply Kd.R_drewN | apply Kd.R_drew)); exact HO105.out)) k_ hk)); (case aO => exact (by (with_reducible repeat (first | apply Kd.R_alloc | apply Kd.R_drewN | apply Kd.R_drew)); exact Kd.R_mono HO_8.out (fun _ hk => hk.2))); (case aS => exact (below_size pbb2_9)); (case aL => have := LMc7.out; omega); intro v108 w9 ho hb hg hat; rw [← Ny107.out] at ho; replace HO105 := Aside0.mk (Kd.R_after (ok := (fun _ => True)) (by (with_reducible repeat (first | apply Kd.R_alloc | apply Kd.R_drewN | apply Kd.R_drew)); exact Kd.R_mono HO105.out (fun _ hk => ⟨trivial, hk⟩)) hg hat); replace HB := Aside0.mk (hb); have HO109 := Aside0.mk (ho); clear HO_8; clear ho hb hg hat))
        go_roundg k1
        case measure => have := HK1.out; omega
        case rel => exact ⟨(y103), (y107), (wrap64 (x9_1 + 1)), pbb2_3, H', ⟨pbb2_7⟩, ⟨by (with_reducible repeat (first | apply Kd.R_alloc | apply Kd.R_drewN | apply Kd.R_drew)); exact Kd.R_mono HO105.out (fun _ hk => hk.2)⟩, ⟨by (with_reducible repeat (first | apply Kd.R_alloc | apply Kd.R_drewN | apply Kd.R_drew)); exact HO109.out⟩, ⟨pbb2_9⟩⟩
       ·rw [if_neg c7] at H; exact absurd H (by simp)
      ·rw [if_neg c6] at H; exact absurd H (by simp)
     ·rw [if_neg c5] at H; have c5b0 := nF_ c5; have c5b1 := nT_ c5; have H' := Aside0.mk H; clear H; have p101 : 0 ≤ (x9_1 : Int) := of_decide_eq_true pbb2_6; have q101 : x9_1 < (l0.length : Int) := of_decide_eq_true pbb2_6; obtain ⟨ad101, A101_6, c101_6, e101, hx101_0, hx101_1, hx101_2, hx101_3, hx101_4, hx101_5, hx101_6, hl101_6, hi101_6⟩ := at_T24 HR0.out x9_1 p101 q101
      cases e101
      replace hx101_0 := (HB.out.cell (World.block_lt_of_cell? w _ hx101_0)).trans hx101_0; replace hx101_1 := (HB.out.cell (World.block_lt_of_cell? w _ hx101_1)).trans hx101_1; replace hx101_2 := (HB.out.cell (World.block_lt_of_cell? w _ hx101_2)).trans hx101_2; replace hx101_3 := (HB.out.cell (World.block_lt_of_cell? w _ hx101_3)).trans hx101_3; replace hx101_4 := (HB.out.cell (World.block_lt_of_cell? w _ hx101_4)).trans hx101_4; replace hx101_5 := (HB.out.cell (World.block_lt_of_cell? w _ hx101_5)).trans hx101_5; replace hx101_6 := (HB.out.cell (World.block_lt_of_cell? w _ hx101_6)).trans hx101_6; have HR101_6 := Aside0.mk hi101_6; have HC101_6 := Aside0.mk hl101_6; clear hi101_6 hl101_6; replace p101 := eq_true p101; replace q101 := eq_true q101
      go_wp2
      go_roundg k1
      case measure => have := HK1.out; omega
      case rel => exact ⟨(x7_1), (x8_1), (wrap64 (x9_1 + 1)), pbb2_3, H', ⟨pbb2_7⟩, ⟨by (with_reducible repeat (first | apply Kd.R_alloc | apply Kd.R_drewN | apply Kd.R_drew)); exact HO_7.out⟩, ⟨by (with_reducible repeat (first | apply Kd.R_alloc | apply Kd.R_drewN | apply Kd.R_drew)); exact HO_8.out⟩, ⟨pbb2_9⟩⟩
    ·rw [if_neg c4] at H; exact absurd H (by simp)
   ·rw [if_neg c3] at H; have c3b0 := decide_eq_false c3; clear c3; obtain ⟨⟨t110, t111⟩, A100, H⟩ := bnd H; (try dsimp only at H); have A10 := Aside0.mk A100; clear A100; obtain ⟨⟨t112, t113⟩, A110, H⟩ := bnd H; (try dsimp only at H); have A11 := Aside0.mk A110; clear A110
    by_cases c12 : t111 = true
    ·subst c12; rw [if_pos rfl] at H; simp only [Option.some.injEq, Prod.mk.injEq] at H; obtain ⟨rfl, rfl, rfl⟩ := H; obtain ⟨Ao13, co13, eo13⟩ := Kd.R_slice HO_7.out; subst eo13
     go_wp2_with (first | ((with_reducible refine gate_callee (f := 52) rfl ?_); refine goesL_ (some 45) rfl rfl Tryd.func52 (by kernel_rfl) rfl #[.slice Ao13 x7_1.length co13] rfl pbb2_5 ?_; (with_reducible refine (F52.calls k1 _ _ x7_1 t110 true _ (by repeat (first | exact (Kd.R_reads' HO_7.out).2.2 | (with_reducible refine Kd.C_alloc ?_ _) | (with_reducible refine Kd.C_drewN ?_ _) | (with_reducible refine Kd.C_drew ?_))) (by exact (Kd.R_reads' HO_7.out).2.1) A10.out).mono ?_); rintro e w' ⟨rfl, ⟨nd, rfl⟩⟩; refine ⟨_, rfl, ?_⟩; obtain ⟨Ao14, co14, eo14⟩ := Kd.R_slice HO_8.out; subst eo14) | ((with_reducible refine gate_callee (f := 52) rfl ?_); refine goesL_ (some 50) rfl rfl Tryd.func52 (by kernel_rfl) rfl #[.slice Ao14 x8_1.length co14] rfl pbb2_5 ?_; (with_reducible refine (F52.calls k1 _ _ x8_1 t112 t113 _ (by repeat (first | exact (Kd.R_reads' HO_8.out).2.2 | (with_reducible refine Kd.C_alloc ?_ _) | (with_reducible refine Kd.C_drewN ?_ _) | (with_reducible refine Kd.C_drew ?_))) (by exact (Kd.R_reads' HO_8.out).2.1) A11.out).mono ?_); rintro e w' ⟨rfl, ⟨nd, rfl⟩⟩; refine ⟨_, rfl, ?_⟩))
     go_ret3
     exact ⟨pbb2_18, pbb2_9⟩
    ·replace c12 := Bool.eq_false_iff.mpr c12; subst c12; rw [if_neg (show ¬ (false = true) by decide)] at H; simp only [Option.some.injEq, Prod.mk.injEq] at H; obtain ⟨rfl, rfl, rfl⟩ := H; obtain ⟨Ao15, co15, eo15⟩ := Kd.R_slice HO_7.out; subst eo15
     go_wp2_with (first | ((with_reducible refine gate_callee (f := 52) rfl ?_); refine goesL_ (some 45) rfl rfl Tryd.func52 (by kernel_rfl) rfl #[.slice Ao15 x7_1.length co15] rfl pbb2_5 ?_; (with_reducible refine (F52.calls k1 _ _ x7_1 t110 false _ (by repeat (first | exact (Kd.R_reads' HO_7.out).2.2 | (with_reducible refine Kd.C_alloc ?_ _) | (with_reducible refine Kd.C_drewN ?_ _) | (with_reducible refine Kd.C_drew ?_))) (by exact (Kd.R_reads' HO_7.out).2.1) A10.out).mono ?_); rintro e w' ⟨rfl, ⟨nd, rfl⟩⟩; refine ⟨_, rfl, ?_⟩; obtain ⟨Ao16, co16, eo16⟩ := Kd.R_slice HO_8.out; subst eo16) | ((with_reducible refine gate_callee (f := 52) rfl ?_); refine goesL_ (some 50) rfl rfl Tryd.func52 (by kernel_rfl) rfl #[.slice Ao16 x8_1.length co16] rfl pbb2_5 ?_; (with_reducible refine (F52.calls k1 _ _ x8_1 t112 t113 _ (by repeat (first | exact (Kd.R_reads' HO_8.out).2.2 | (with_reducible refine Kd.C_alloc ?_ _) | (with_reducible refine Kd.C_drewN ?_ _) | (with_reducible refine Kd.C_drew ?_))) (by exact (Kd.R_reads' HO_8.out).2.1) A11.out).mono ?_); rintro e w' ⟨rfl, ⟨nd, rfl⟩⟩; refine ⟨_, rfl, ?_⟩))
     go_ret3
     exact ⟨pbb2_18, pbb2_9⟩
def F24.l0 : Nat → List (S24) → List ByteArray → Int → Option (Bool)
  | 0, _, _, _ => none
  | k + 1, x0, x3, x4 => if x4 < (x3.length : Int) then (if 0 ≤ x4 then ((F50.f k x0 (rdOf ByteArray.empty x3 x4)).bind fun bt105 => (if bt105.2.2 = true then (if bt105.1 = 0 then (if bt105.2.1 = 0 then (F24.l0 k x0 x3 (wrap64 (x4 + 1))) else (some false)) else (some false)) else (some false))) else (none)) else (some true)
def F24.f (k : Nat) (l0 : List (S24)) : Option (Bool) := (F49.f l0).bind fun t101 => (F24.l0 k l0 t101 0)
set_option maxHeartbeats 8000000 in
set_option maxRecDepth 100000 in
theorem F24.calls (k : Nat) (A0 : Option Addr) (c0 : Nat) (l0 : List (S24)) (r : Bool) (w : World) (hr0 : Kd.C k24 w A0 l0.length l0) (hc0 : l0.length ≤ c0) (h : F24.f k l0 = some r) :
    Calls Tryd.prog 24 #[.slice A0 l0.length c0] w fun e w' => e = .returned (.bool r) ∧ Below w.heap.size w w' := by
 have hu9 := Tryd.underlying9; have HR0 := Aside0.mk hr0; have HC0 := Aside0.mk hc0; clear hr0 hc0; have HB := Aside0.mk (Below.refl w.heap.size w)
 unfold F24.f at h
 have H := h; clear h; obtain ⟨t101, A20, H⟩ := bnd H; have A2 := Aside0.mk A20; clear A20; have H' := Aside0.mk H; clear H; go_enter Tryd.func24, Tryd.ntmps24
 go_wp2_with (first | ((with_reducible refine gate_callee (f := 49) rfl ?_); refine goesL_ (some 9) rfl rfl Tryd.func49 (by kernel_rfl) rfl #[.slice A0 l0.length c0] rfl pbb2_5 ?_; (with_reducible refine (F49.calls _ _ l0 t101 _ (by repeat (first | exact HR0.out | (with_reducible refine Kd.C_alloc ?_ _) | (with_reducible refine Kd.C_drewN ?_ _) | (with_reducible refine Kd.C_drew ?_))) HC0.out A2.out).mono ?_); rintro e w3 ⟨v102, rfl, ho0, hb⟩; refine ⟨_, rfl, ?_⟩; have HO103 := Aside0.mk (Kd.R_lower ho0 (below_size pbb2_9)); replace HB := Aside0.mk (below_step pbb2_9 hb); (try clear hb); (try clear hb2); (try clear hk); (try clear hi); (try clear ho0)))
 (try simp only [Act.put, List.setIfInBounds_toArray, List.set_cons_zero, List.set_cons_succ])
 go_loopg [4] k (fun kq v4 w' => ∃ (x4_1 : Int), v4 = .int .i64 x4_1 ∧ Aside0 (F24.l0 kq l0 t101 x4_1 = some r) ∧ Aside0 (kq ≤ k) ∧ Aside0 (Kd.R Kd.string 9 w' w.heap.size (fun _ => True) v102 t101) ∧ Aside0 (Below w.heap.size w w'))
 case atStart => exact ⟨(0), pbb2_3, H', ⟨Nat.le_refl _⟩, ⟨by (with_reducible repeat (first | apply Kd.R_alloc | apply Kd.R_drewN | apply Kd.R_drew)); exact HO103.out⟩, ⟨pbb2_9⟩⟩
 case round =>
  clear H'; obtain ⟨x4_1, rfl, HA, HK1, HO_3, HB⟩ := hrel
  cases gk with
  | zero => exact absurd HA.out (by simp [F24.l0])
  | succ k1 =>
   have H := HA.out; clear HA; simp only [F24.l0] at H
   by_cases c4 : x4_1 < (t101.length : Int)
   ·rw [if_pos c4] at H; have c4b0 := decide_eq_true c4; clear c4
    by_cases c5 : 0 ≤ x4_1
    ·rw [if_pos c5] at H; have c5b0 := decide_eq_true c5; clear c5; obtain ⟨⟨t105, t106, t107⟩, A60, H⟩ := bnd H; (try dsimp only at H); have A6 := Aside0.mk A60; clear A60
     by_cases c7 : t107 = true
     ·subst c7; rw [if_pos rfl] at H
      by_cases c8 : t105 = 0
      ·rw [if_pos c8] at H; have c8b0 := bT_ c8; have c8b1 := bF_ c8; clear c8
       by_cases c9 : t106 = 0
       ·rw [if_pos c9] at H; have c9b0 := bT_ c9; have c9b1 := bF_ c9; clear c9; have H' := Aside0.mk H; clear H; obtain ⟨Ao10, co10, eo10⟩ := Kd.R_slice HO_3.out; subst eo10; have p104 : 0 ≤ (x4_1 : Int) := of_decide_eq_true pbb2_6; have q104 : x4_1 < (t101.length : Int) := of_decide_eq_true pbb2_6; obtain ⟨ad104, e104, hx104_0⟩ := Kd.at_string (Kd.R_reads' HO_3.out).2.2 x4_1 p104 q104
        cases e104
        replace p104 := eq_true p104; replace q104 := eq_true q104
        go_wp2_with (first | ((with_reducible refine gate_callee (f := 50) rfl ?_); refine goesL_ (some 22) rfl rfl Tryd.func50 (by kernel_rfl) rfl #[.slice A0 l0.length c0, .string (rdOf ByteArray.empty t101 x4_1)] rfl pbb2_5 ?_; (with_reducible refine (F50.calls k1 _ _ l0 (rdOf ByteArray.empty t101 x4_1) t105 t106 true _ ptw1_0 HC0.out A6.out).mono ?_); rintro e w11 ⟨rfl, hb⟩; refine ⟨_, rfl, ?_⟩; replace HO_3 := Aside0.mk (Kd.R_below ptw1_1 hb); replace HB := Aside0.mk (below_step pbb2_9 hb); (try clear hb); (try clear hb2); (try clear hk); (try clear hi)))
        go_roundg k1
        case measure => have := HK1.out; omega
        case rel => exact ⟨(wrap64 (x4_1 + 1)), pbb2_3, H', ⟨pbb2_7⟩, ⟨ptw1_1⟩, ⟨pbb2_9⟩⟩
       ·rw [if_neg c9] at H; have c9b0 := nF_ c9; have c9b1 := nT_ c9; obtain rfl := Option.some.inj H; obtain ⟨Ao12, co12, eo12⟩ := Kd.R_slice HO_3.out; subst eo12; have p104 : 0 ≤ (x4_1 : Int) := of_decide_eq_true pbb2_6; have q104 : x4_1 < (t101.length : Int) := of_decide_eq_true pbb2_6; obtain ⟨ad104, e104, hx104_0⟩ := Kd.at_string (Kd.R_reads' HO_3.out).2.2 x4_1 p104 q104
        cases e104
        replace p104 := eq_true p104; replace q104 := eq_true q104
        go_wp2_with (first | ((with_reducible refine gate_callee (f := 50) rfl ?_); refine goesL_ (some 22) rfl rfl Tryd.func50 (by kernel_rfl) rfl #[.slice A0 l0.length c0, .string (rdOf ByteArray.empty t101 x4_1)] rfl pbb2_5 ?_; (with_reducible refine (F50.calls k1 _ _ l0 (rdOf ByteArray.empty t101 x4_1) t105 t106 true _ ptw1_0 HC0.out A6.out).mono ?_); rintro e w13 ⟨rfl, hb⟩; refine ⟨_, rfl, ?_⟩; replace HO_3 := Aside0.mk (Kd.R_below ptw1_1 hb); replace HB := Aside0.mk (below_step pbb2_9 hb); (try clear hb); (try clear hb2); (try clear hk); (try clear hi)))
        go_ret
        exact ⟨pbb2_18, pbb2_9⟩
      ·rw [if_neg c8] at H; have c8b0 := nF_ c8; have c8b1 := nT_ c8; obtain rfl := Option.some.inj H; obtain ⟨Ao14, co14, eo14⟩ := Kd.R_slice HO_3.out; subst eo14; have p104 : 0 ≤ (x4_1 : Int) := of_decide_eq_true pbb2_6; have q104 : x4_1 < (t101.length : Int) := of_decide_eq_true pbb2_6; obtain ⟨ad104, e104, hx104_0⟩ := Kd.at_string (Kd.R_reads' HO_3.out).2.2 x4_1 p104 q104
       cases e104
       replace p104 := eq_true p104; replace q104 := eq_true q104
       go_wp2_with (first | ((with_reducible refine gate_callee (f := 50) rfl ?_); refine goesL_ (some 22) rfl rfl Tryd.func50 (by kernel_rfl) rfl #[.slice A0 l0.length c0, .string (rdOf ByteArray.empty t101 x4_1)] rfl pbb2_5 ?_; (with_reducible refine (F50.calls k1 _ _ l0 (rdOf ByteArray.empty t101 x4_1) t105 t106 true _ ptw1_0 HC0.out A6.out).mono ?_); rintro e w15 ⟨rfl, hb⟩; refine ⟨_, rfl, ?_⟩; replace HO_3 := Aside0.mk (Kd.R_below ptw1_1 hb); replace HB := Aside0.mk (below_step pbb2_9 hb); (try clear hb); (try clear hb2); (try clear hk); (try clear hi)))
       go_ret
       exact ⟨pbb2_18, pbb2_9⟩
     ·replace c7 := Bool.eq_false_iff.mpr c7; subst c7; rw [if_neg (show ¬ (false = true) by decide)] at H; obtain rfl := Option.some.inj H; obtain ⟨Ao16, co16, eo16⟩ := Kd.R_slice HO_3.out; subst eo16; have p104 : 0 ≤ (x4_1 : Int) := of_decide_eq_true pbb2_6; have q104 : x4_1 < (t101.length : Int) := of_decide_eq_true pbb2_6; obtain ⟨ad104, e104, hx104_0⟩ := Kd.at_string (Kd.R_reads' HO_3.out).2.2 x4_1 p104 q104
      cases e104
      replace p104 := eq_true p104; replace q104 := eq_true q104
      go_wp2_with (first | ((with_reducible refine gate_callee (f := 50) rfl ?_); refine goesL_ (some 22) rfl rfl Tryd.func50 (by kernel_rfl) rfl #[.slice A0 l0.length c0, .string (rdOf ByteArray.empty t101 x4_1)] rfl pbb2_5 ?_; (with_reducible refine (F50.calls k1 _ _ l0 (rdOf ByteArray.empty t101 x4_1) t105 t106 false _ ptw1_0 HC0.out A6.out).mono ?_); rintro e w17 ⟨rfl, hb⟩; refine ⟨_, rfl, ?_⟩; replace HO_3 := Aside0.mk (Kd.R_below ptw1_1 hb); replace HB := Aside0.mk (below_step pbb2_9 hb); (try clear hb); (try clear hb2); (try clear hk); (try clear hi)))
      go_ret
      exact ⟨pbb2_18, pbb2_9⟩
    ·rw [if_neg c5] at H; exact absurd H (by simp)
   ·rw [if_neg c4] at H; have c4b0 := decide_eq_false c4; clear c4; obtain rfl := Option.some.inj H; obtain ⟨Ao18, co18, eo18⟩ := Kd.R_slice HO_3.out; subst eo18
    go_wp2
    go_ret
    exact ⟨pbb2_18, pbb2_9⟩
end Go.Proofs.YtjeecehhcajfaaaDoor.M
end
section
namespace Go.Proofs.YtjeecehhcajfaaaDoor.M
open Go.RowKit Go.Proofs.YtjeecehhcajfaaaDoorW.PrintWords Go.Proofs.YtjeecehhcajfaaaDoorW.PrintLast
set_option linter.unusedVariables false
set_option linter.unusedSimpArgs false
section
variable {κ : Type} [DecidableEq κ]
def amtsOf (key : Li → κ) (l : List Li) (k : κ) : List Int := (l.filter (fun x => decide (key x = k))).map (·.f2)
def basesOf (key : Li → κ) (l : List Li) (k : κ) : List Int := (l.filter (fun x => decide (key x = k))).map (·.f3)
theorem amts_snoc (key : Li → κ) (p : List Li) (x : Li) (k : κ) : amtsOf key (p ++ [x]) k = amtsOf key p k ++ (if key x = k then [x.f2] else []) := by
 unfold amtsOf
 rw [List.filter_append, List.map_append]
 by_cases c : key x = k <;> simp [c]
theorem bases_snoc (key : Li → κ) (p : List Li) (x : Li) (k : κ) : basesOf key (p ++ [x]) k = basesOf key p k ++ (if key x = k then [x.f3] else []) := by
 unfold basesOf
 rw [List.filter_append, List.map_append]
 by_cases c : key x = k <;> simp [c]
def colInv (key : Li → κ) (pre : List Li) (L : List (Col κ)) : Prop := (∀ q ∈ L, q.2.1 = amtsOf key pre q.1 ∧ q.2.2 = basesOf key pre q.1) ∧ ∀ k, k ∈ L.map (·.1) ↔ ∃ x ∈ pre, key x = k
theorem colInv_step (key : Li → κ) (pre : List Li) (L : List (Col κ)) (x : Li) (h : colInv key pre L) : colInv key (pre ++ [x]) (colStep key L x) := by
 have hn : ∀ q ∈ colNew L (key x), q.2.1 = amtsOf key pre q.1 ∧ q.2.2 = basesOf key pre q.1 := by
  intro q hq
  unfold colNew at hq
  by_cases c : L.any (fun q => decide (q.1 = key x)) = true
  ·rw [if_pos c] at hq; exact h.1 q hq
  ·rw [if_neg c] at hq
   rcases List.mem_append.1 hq with h3 | h3
   ·exact h.1 q h3
   ·simp only [List.mem_singleton] at h3; subst h3; have hno : ∀ y ∈ pre, ¬ key y = key x := fun y hy e => c ((any_key L _).2 ((h.2 _).2 ⟨y, hy, e⟩))
    have hf : pre.filter (fun y => decide (key y = key x)) = [] := by
     rw [List.filter_eq_nil_iff]; intro y hy
     simpa using hno y hy
    simp [amtsOf, basesOf, hf]
 constructor
 ·intro q hq
  unfold colStep colPut at hq
  obtain ⟨q0, hq0, rfl⟩ := List.mem_map.1 hq; obtain ⟨h1, h2⟩ := hn q0 hq0
  by_cases c : q0.1 = key x
  ·rw [if_pos c]; simp only [amtsOf, basesOf, List.filter_append, List.map_append]; rw [h1, h2]
   simp [amtsOf, basesOf, c]
  ·rw [if_neg c]; have c2 : ¬ key x = q0.1 := fun e => c e.symm; simp only [amtsOf, basesOf, List.filter_append, List.map_append]; rw [h1, h2]
   simp [amtsOf, basesOf, c2]
 ·intro k
  unfold colStep
  rw [colPut_keys]
  have hk : k ∈ (colNew L (key x)).map (·.1) ↔ k ∈ L.map (·.1) ∨ k = key x := by
   unfold colNew
   by_cases c : L.any (fun q => decide (q.1 = key x)) = true
   ·rw [if_pos c]; exact ⟨.inl, fun hh => hh.elim id (fun e => e ▸ (any_key L _).1 c)⟩
   ·rw [if_neg c]; simp
  rw [hk, h.2 k]
  constructor
  ·rintro (⟨y, hy, e⟩ | e)
   ·exact ⟨y, List.mem_append_left _ hy, e⟩
   ·exact ⟨x, by simp, e.symm⟩
  ·rintro ⟨y, hy, e⟩
   rcases List.mem_append.1 hy with hy | hy
   ·exact .inl ⟨y, hy, e⟩
   ·simp only [List.mem_singleton] at hy; subst hy; exact .inr e.symm
theorem colInv_fold (key : Li → κ) : ∀ (l pre : List Li) (L : List (Col κ)), colInv key pre L → colInv key (pre ++ l) (l.foldl (colStep key) L)
 | [], pre, L, h => by simpa using h
 | x :: l, pre, L, h => by
  have := colInv_fold key l (pre ++ [x]) _ (colInv_step key pre L x h)
  simpa using this
theorem colsOf_inv (key : Li → κ) (l : List Li) : colInv key l (colsOf key l) := by
 have := colInv_fold key l [] [] ⟨by simp, by simp⟩
 simpa [colsOf] using this
end
def sumE (lim : Int) (l : List Int) : Int × Int := if -lim ≤ l.sum ∧ l.sum ≤ lim then (l.sum, 0) else (0, 4)
theorem F51.eq (lim : Int) (h0 : 0 ≤ lim) (h1 : lim ≤ 9223372036854775807) (l : List Int) (hl : l.length ≤ 1000000) (hx : ∀ x ∈ l, inW x) : F51.f lim l = some (sumE lim l) := by
 unfold F51.f
 rw [F74.eq l hl hx, Option.bind_some]
 unfold sumv sumE F36.f
 rw [w64 (n := -lim) (by omega) (by omega)]
 by_cases c : inW l.sum
 ·simp only [if_pos c, if_true]
  by_cases c1 : -lim ≤ l.sum
  ·by_cases c2 : l.sum ≤ lim
   ·simp [c1, c2]
   ·simp [c1, c2]
  ·have c1' : ¬ l.sum ≥ -lim := c1
   simp [c1, c1']
 ·have : ¬ (-lim ≤ l.sum ∧ l.sum ≤ lim) := fun h => c (by unfold inW; omega)
  simp [c, this]
theorem bothf.eq (lim : Int) (h0 : 0 ≤ lim) (h1 : lim ≤ 9223372036854775807) (A B : List Int) (ha : A.length ≤ 1000000) (hb : B.length ≤ 1000000) (hxa : ∀ x ∈ A, inW x) (hxb : ∀ x ∈ B, inW x) : bothf lim A B = some (if (-lim ≤ A.sum ∧ A.sum ≤ lim) ∧ (-lim ≤ B.sum ∧ B.sum ≤ lim) then (A.sum, B.sum, 0) else (0, 0, 4)) := by
 unfold bothf
 rw [F51.eq lim h0 h1 A ha hxa, Option.bind_some, F51.eq lim h0 h1 B hb hxb]
 unfold sumE
 by_cases c1 : -lim ≤ A.sum ∧ A.sum ≤ lim
 ·by_cases c2 : -lim ≤ B.sum ∧ B.sum ≤ lim
  ·simp [c1, c2]
  ·simp [c1, c2]
 ·simp [c1]
def okA (l : List Li) : Prop := l.length ≤ 1000000 ∧ ∀ x ∈ l, inW x.f2 ∧ inW x.f3
theorem amts_in {κ : Type} [DecidableEq κ] (key : Li → κ) {l : List Li} (h : okA l) (k : κ) : (amtsOf key l k).length ≤ 1000000 ∧ (basesOf key l k).length ≤ 1000000 ∧ (∀ x ∈ amtsOf key l k, inW x) ∧ ∀ x ∈ basesOf key l k, inW x := by
 have hf : (l.filter (fun x => decide (key x = k))).length ≤ l.length := List.length_filter_le _ _; refine ⟨by unfold amtsOf; rw [List.length_map]; have := h.1; omega, by unfold basesOf; rw [List.length_map]; have := h.1; omega, fun y hy => ?_, fun y hy => ?_⟩
 ·obtain ⟨x, hx, rfl⟩ := List.mem_map.1 hy; exact (h.2 x ((List.mem_filter.1 hx).1)).1
 ·obtain ⟨x, hx, rfl⟩ := List.mem_map.1 hy; exact (h.2 x ((List.mem_filter.1 hx).1)).2
def bal1 (l : List Li) (c : ByteArray) : Bool := decide ((amtsOf curKey l c).sum = 0 ∧ (basesOf curKey l c).sum = 0)
def balv (l : List Li) : Bool := l.all (fun x => bal1 l x.f1)
theorem balL_eq (l : List Li) (h : okA l) : ∀ L : List (Col ByteArray), (∀ q ∈ L, q.2.1 = amtsOf curKey l q.1 ∧ q.2.2 = basesOf curKey l q.1) → balL L = some (L.all (fun q => bal1 l q.1))
 | [], _ => rfl
 | q :: L, hq => by
  obtain ⟨h1, h2⟩ := hq q List.mem_cons_self; obtain ⟨b1, b2, b3, b4⟩ := amts_in curKey h q.1; have ih := balL_eq l h L (fun z hz => hq z (List.mem_cons_of_mem _ hz)); simp only [balL, h1, h2, bothf.eq 0 (by omega) (by omega) _ _ b1 b2 b3 b4, Option.bind_some, List.all_cons]
  unfold bal1
  by_cases c : (amtsOf curKey l q.1).sum = 0 ∧ (basesOf curKey l q.1).sum = 0
  ·obtain ⟨c1, c2⟩ := c; have e : (if (-0 ≤ (amtsOf curKey l q.1).sum ∧ (amtsOf curKey l q.1).sum ≤ 0) ∧ (-0 ≤ (basesOf curKey l q.1).sum ∧ (basesOf curKey l q.1).sum ≤ 0) then ((amtsOf curKey l q.1).sum, (basesOf curKey l q.1).sum, (0 : Int)) else (0, 0, 4)) = ((amtsOf curKey l q.1).sum, (basesOf curKey l q.1).sum, 0) := if_pos (by omega); rw [e]; simp only [if_true, c1, c2, and_self, decide_true, Bool.true_and]; exact ih
  ·have e : (if (-0 ≤ (amtsOf curKey l q.1).sum ∧ (amtsOf curKey l q.1).sum ≤ 0) ∧ (-0 ≤ (basesOf curKey l q.1).sum ∧ (basesOf curKey l q.1).sum ≤ 0) then ((amtsOf curKey l q.1).sum, (basesOf curKey l q.1).sum, (0 : Int)) else (0, 0, 4)) = (0, 0, 4) := if_neg (by omega); rw [e, decide_eq_false c]
   rfl
theorem all_keys (l : List Li) (p : ByteArray → Bool) (L : List (Col ByteArray)) (h : ∀ k, k ∈ L.map (·.1) ↔ ∃ x ∈ l, curKey x = k) : L.all (fun q => p q.1) = l.all (fun x => p x.f1) := by
 rw [Bool.eq_iff_iff, List.all_eq_true, List.all_eq_true]
 constructor
 ·intro hq x hx; obtain ⟨q, hq2, e⟩ := List.mem_map.1 ((h x.f1).2 ⟨x, hx, rfl⟩); rw [← e]; exact hq q hq2
 ·intro hx q hq; obtain ⟨x, hx2, e⟩ := (h q.1).1 (List.mem_map.2 ⟨q, hq, rfl⟩); rw [← e]; exact hx x hx2
theorem F23.eq (l : List Li) (h : okA l) : F23.f l = some (balv l) := by
 unfold F23.f balv
 rw [if_pos h.1]; have hi := colsOf_inv curKey l; rw [balL_eq l h _ hi.1, all_keys l (bal1 l) _ hi.2]
theorem refSums.go (l : List Li) (h : okA l) (c : ByteArray) : ∀ (n i : Nat) (A B : List Int), i + n = l.length → A = amtsOf curKey (l.take i) c → B = basesOf curKey (l.take i) c → Ev (fun k => F50.l0 k l c A B (i : Int)) ((sumv (amtsOf curKey l c)).1, (sumv (basesOf curKey l c)).1, (sumv (amtsOf curKey l c)).2 && (sumv (basesOf curKey l c)).2)
 | 0, i, A, B, hi, hA, hB => by
  have ht : l.take i = l := List.take_of_length_le (by omega); rw [ht] at hA hB; obtain ⟨b1, b2, b3, b4⟩ := amts_in curKey h c; refine Ev.succ ?_; simp only [F50.l0, if_neg (show ¬ (i : Int) < (l.length : Int) by omega)]; rw [hA, hB]; refine Ev.bind (refSum.eq _ b1 b3) (Ev.bind (refSum.eq _ b2 b4) ?_)
  cases hh : (sumv (amtsOf curKey l c)).2 with
  | true => simp only [if_true, Bool.true_and]; exact Ev.const _
  | false => simp only [Bool.false_eq_true, if_false, Bool.false_and]; exact Ev.const _
 | n + 1, i, A, B, hi, hA, hB => by
  have hlt : i < l.length := by omega
  have hll := h.1; have hrd : rd_T24 l (i : Int) = l[i] := by simp [rd_T24, hlt]
  have hAl : A.length ≤ i := by
   rw [hA]; unfold amtsOf; rw [List.length_map]; refine Nat.le_trans (List.length_filter_le _ _) ?_; rw [List.length_take]; omega
  have hBl : B.length ≤ i := by
   rw [hB]; unfold basesOf; rw [List.length_map]; refine Nat.le_trans (List.length_filter_le _ _) ?_; rw [List.length_take]; omega
  refine Ev.succ ?_; simp only [F50.l0, if_pos (show (i : Int) < (l.length : Int) by omega), if_pos (show (0 : Int) ≤ (i : Int) by omega), hrd, byt_inj, w64s (show i ≤ 1000000000 by omega)]
  by_cases e : l[i].f1 = c
  ·simp only [if_pos e, if_pos (show A.length < 17592186044416 by omega), if_pos (show B.length < 17592186044416 by omega)]; refine refSums.go l h c n (i + 1) _ _ (by omega) ?_ ?_
   ·rw [hA, List.take_succ_eq_append_getElem hlt, amts_snoc, if_pos (show curKey l[i] = c from e)]
   ·rw [hB, List.take_succ_eq_append_getElem hlt, bases_snoc, if_pos (show curKey l[i] = c from e)]
  ·simp only [if_neg e]; refine refSums.go l h c n (i + 1) _ _ (by omega) ?_ ?_
   ·rw [hA, List.take_succ_eq_append_getElem hlt, amts_snoc, if_neg (show ¬ curKey l[i] = c from e), List.append_nil]
   ·rw [hB, List.take_succ_eq_append_getElem hlt, bases_snoc, if_neg (show ¬ curKey l[i] = c from e), List.append_nil]
theorem refSums.eq (l : List Li) (h : okA l) (c : ByteArray) : Ev (fun k => F50.f k l c) ((sumv (amtsOf curKey l c)).1, (sumv (basesOf curKey l c)).1, (sumv (amtsOf curKey l c)).2 && (sumv (basesOf curKey l c)).2) := by
 unfold F50.f
 exact refSums.go l h c l.length 0 [] [] (by omega) (by simp [amtsOf]) (by simp [basesOf])
def cursOf (l : List Li) : List ByteArray := l.foldl (fun o x => insC o x.f1) []
theorem cursOf_fold (l : List Li) : cursOf l = isortC (l.map (·.f1)) := by
 unfold cursOf isortC
 rw [List.foldl_map]
theorem cursOf_mem (l : List Li) (c : ByteArray) : c ∈ cursOf l ↔ ∃ x ∈ l, x.f1 = c := by
 rw [cursOf_fold]
 unfold isortC
 rw [foldC_mem]
 simp
theorem cursOf_keys (l : List Li) : isortC ((colsOf curKey l).map (·.1)) = cursOf l := by
 rw [cursOf_fold]; refine sortedC_ext (foldC_sorted _ [] List.Pairwise.nil) (foldC_sorted _ [] List.Pairwise.nil) (fun x => ?_)
 unfold isortC
 rw [foldC_mem, foldC_mem, (colsOf_inv curKey l).2 x]
 simp [curKey]
theorem cursOf_len (l : List Li) : (cursOf l).length ≤ l.length := by
 have : ∀ (m : List Li) (o : List ByteArray), (m.foldl (fun o x => insC o x.f1) o).length ≤ o.length + m.length := by
  intro m
  induction m with
  | nil => intro o; simp
  | cons x m ih =>
   intro o; have h1 := ih (insC o x.f1); have h2 := insC_length o x.f1; simp only [List.foldl_cons, List.length_cons]
   omega
 have h := this l []
 simpa [cursOf] using h
theorem refBal.go (l : List Li) (h : okA l) (C : List ByteArray) (hC : C.length ≤ 1000000) : ∀ (n i : Nat), i + n = C.length → Ev (fun k => F24.l0 k l C (i : Int)) ((C.drop i).all (bal1 l))
 | 0, i, hi => by
  refine Ev.succ ?_; simp only [F24.l0, if_neg (show ¬ (i : Int) < (C.length : Int) by omega)]; rw [List.drop_eq_nil_of_le (by omega)]; exact Ev.const _
 | n + 1, i, hi => by
  have hlt : i < C.length := by omega
  have hrd : rdOf ByteArray.empty C (i : Int) = C[i] := by simp [rdOf, hlt]
  have ih := refBal.go l h C hC n (i + 1) (by omega); refine Ev.succ ?_; simp only [F24.l0, if_pos (show (i : Int) < (C.length : Int) by omega), if_pos (show (0 : Int) ≤ (i : Int) by omega), hrd, w64s (show i ≤ 1000000000 by omega)]; refine Ev.bind (refSums.eq l h C[i]) ?_; rw [List.drop_eq_getElem_cons hlt, List.all_cons]
  unfold bal1 sumv
  by_cases c1 : (amtsOf curKey l C[i]).sum = 0
  ·by_cases c2 : (basesOf curKey l C[i]).sum = 0
   ·have e1 : inW (amtsOf curKey l C[i]).sum := by rw [c1]; unfold inW; omega
    have e2 : inW (basesOf curKey l C[i]).sum := by rw [c2]; unfold inW; omega
    have e1' : inW 0 := by unfold inW; omega
    simp only [c1, c2, if_pos e1', Bool.and_self, if_true, and_self, decide_true, Bool.true_and]; exact ih
   ·have e1' : inW 0 := by unfold inW; omega
    by_cases e2 : inW (basesOf curKey l C[i]).sum
    ·simp only [c1, if_pos e1', if_pos e2, Bool.and_self, if_true, if_neg c2, c2, and_false, decide_false, Bool.false_and]; exact Ev.const _
    ·simp only [c1, if_pos e1', if_neg e2, Bool.and_false, Bool.false_eq_true, if_false, c2, and_false, decide_false, Bool.false_and]; exact Ev.const _
  ·by_cases e1 : inW (amtsOf curKey l C[i]).sum
   ·by_cases e2 : inW (basesOf curKey l C[i]).sum
    ·simp only [if_pos e1, if_pos e2, Bool.and_self, if_true, if_neg c1, c1, false_and, decide_false, Bool.false_and]; exact Ev.const _
    ·simp only [if_pos e1, if_neg e2, Bool.and_false, Bool.false_eq_true, if_false, c1, false_and, decide_false, Bool.false_and]; exact Ev.const _
   ·simp only [if_neg e1, Bool.false_and, Bool.false_eq_true, if_false, c1, false_and, decide_false]; exact Ev.const _
theorem refBal.eq (l : List Li) (h : okA l) : Ev (fun k => F24.f k l) (balv l) := by
 unfold F24.f F49.f
 simp only [if_pos h.1, Option.bind_some]; have h1 := refBal.go l h (cursOf l) (Nat.le_trans (cursOf_len l) h.1) (cursOf l).length 0 (by omega)
 have h2 : ((cursOf l).drop 0).all (bal1 l) = balv l := by
  rw [List.drop_zero]
  unfold balv
  rw [Bool.eq_iff_iff, List.all_eq_true, List.all_eq_true]
  constructor
  ·exact fun hc x hx => hc _ ((cursOf_mem l _).2 ⟨x, hx, rfl⟩)
  ·intro hx c hc; obtain ⟨x, hx2, rfl⟩ := (cursOf_mem l c).1 hc; exact hx x hx2
 rw [h2] at h1; exact h1
end Go.Proofs.YtjeecehhcajfaaaDoor.M
end
