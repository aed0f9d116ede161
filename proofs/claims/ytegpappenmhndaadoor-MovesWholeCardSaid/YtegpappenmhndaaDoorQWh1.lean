/- The law of the movements, walked and shown. Part 1 of 3 of what is the claim's own. -/
import Derived.Test.YtegpappenmhndaaDoorQBB1
import Derived.Test.YtegpappenmhndaaDoorQBB2
import Derived.Test.YtegpappenmhndaaDoorQBB3
import Derived.Test.YtegpappenmhndaaDoorQBB8
import Derived.Test.YtegpappenmhndaaDoorQBB7
import Derived.SizedLaws
import Derived.ChangeArms
import Derived.ChangeShapes
import Derived.DataReads
namespace Go.Proofs.YtegpappenmhndaaDoor.M
theorem pwh1_0 {p : Prop} (h : p := by first | omega | exact Nat.le_refl _) : p := h
theorem pwh1_1 {p : Prop} (h : p := by repeat (first | exact (Kd.C_below HR2.out HB.out) | (with_reducible refine Kd.C_alloc ?_ _) | (with_reducible refine Kd.C_drewN ?_ _) | (with_reducible refine Kd.C_drew ?_))) : p := h
theorem pwh1_2 {p : Prop} (h : p := by repeat (first | exact (Kd.C_below HR1_0.out HB.out) | (with_reducible refine Kd.C_alloc ?_ _) | (with_reducible refine Kd.C_drewN ?_ _) | (with_reducible refine Kd.C_drew ?_))) : p := h
theorem pwh1_3 {p : Prop} (h : p := by (with_reducible repeat (first | apply Kd.R_alloc | apply Kd.R_drewN | apply Kd.R_drew)); exact HO107.out) : p := h
theorem pwh1_4 {p : Prop} (h : p := by (with_reducible repeat (first | apply Kd.R_alloc | apply Kd.R_drewN | apply Kd.R_drew)); exact HO_5.out) : p := h
theorem pwh1_5 {p : Prop} (h : p := by (with_reducible repeat (first | apply Kd.R_alloc | apply Kd.R_drewN | apply Kd.R_drew)); exact Kd.R_mono HO115.out (fun _ hk => hk.2)) : p := h
theorem pwh1_6 {p : Prop} (h : p := by (with_reducible repeat (first | apply Kd.R_alloc | apply Kd.R_drewN | apply Kd.R_drew)); exact HO118.out) : p := h
theorem pwh1_7 {p : Prop} (h : p := by repeat (first | exact (Kd.R_reads' HO121.out).2.2 | (with_reducible refine Kd.C_alloc ?_ _) | (with_reducible refine Kd.C_drewN ?_ _) | (with_reducible refine Kd.C_drew ?_))) : p := h
theorem pwh1_8 {p : Prop} (h : p := by (with_reducible repeat (first | apply Kd.R_alloc | apply Kd.R_drewN | apply Kd.R_drew)); exact HO121.out) : p := h
end Go.Proofs.YtegpappenmhndaaDoor.M
section
namespace Go.Proofs.YtegpappenmhndaaDoor.M
open Go.RowKit Go.Proofs.YtegpappenmhndaaDoorW.PrintWords Go.Proofs.YtegpappenmhndaaDoorW.PrintLast Go.Proofs.YtegpappenmhndaaDoorW.PrintMore
attribute [local go_sem] max2_int min2_int max_two min_two max_three min_three max_four min_four
set_option linter.unusedVariables false
set_option linter.unusedSimpArgs false
mutual
def F8.j0 : Nat → List (S23) → Bool → List Int → List Int → Int → Bool → Int → Option (Bool)
  | 0, _, _, _, _, _, _, _ => none
  | k + 1, x0, x19, x777, x102000, x102001, x102002, x102003 => if x19 = true then ((F11.f k x777).bind fun t103 => (some t103)) else ((F22.f k x0 x102000 x102001 x102002 x102003 x777).bind fun bt104 => (if bt104.2 = 0 then (F8.l0 k x0 bt104.1 0 0 x777 x102000 x102001 x102002 x102003) else (if (bt104.1.length : Int) = 0 then ((F11.f k x777).bind fun t108 => (some t108)) else (none))))
def F8.l0 : Nat → List (S23) → List (S23) → Int → Int → List Int → List Int → Int → Bool → Int → Option (Bool)
  | 0, _, _, _, _, _, _, _, _, _ => none
  | k + 1, x0, x5, x7, x8, x777, x102000, x102001, x102002, x102003 => if x8 < (x5.length : Int) then (if 0 ≤ x8 then (if ((rd_T23 x5 x8).f3) = 5 then (if ((rd_T23 x5 x8).f1) = x102003 then (if ((rd_T23 x5 x8).f0) = (wrap64 ((wrap64 ((x0.length : Int) + x8)) + 1)) then (F8.l0 k x0 x5 (wrap64 (x7 + ((rd_T23 x5 x8).f5))) (wrap64 (x8 + 1)) x777 x102000 x102001 x102002 x102003) else (none)) else (none)) else (none)) else (none)) else ((some (([] : List (S23)) : List (S23))).bind fun y113 => (if y113.length + x0.length < 1759218604441 then ((some (y113 ++ x0 : List (S23))).bind fun y116 => (if y116.length + x5.length < 1759218604441 then ((F14.f k (y116 ++ x5) x777).bind fun bt122 => (if x7 = x102001 then (if bt122.1 = (-1) then (if bt122.2 = 0 then ((F11.f k x777).bind fun t124 => (some t124)) else (none)) else (none)) else (none))) else (none))) else (none)))
end
def F8.f (k : Nat) (l0 : List (S23)) (l1_0 : List Int) (a1_1 : Int) (a1_2 : Bool) (a1_3 : Int) (l2 : List Int) : Option (Bool) := (F10.f k l0).bind fun t102 => (if t102 = true then (F8.j0 k l0 (decide ((l1_0.length : Int) > 250)) l2 l1_0 a1_1 a1_2 a1_3) else (F8.j0 k l0 true l2 l1_0 a1_1 a1_2 a1_3))
set_option maxHeartbeats 8000000 in
set_option maxRecDepth 100000 in
theorem F8.calls (k : Nat) (A0 : Option Addr) (c0 : Nat) (l0 : List (S23)) (A1_0 : Option Addr) (c1_0 : Nat) (l1_0 : List Int) (a1_1 : Int) (a1_2 : Bool) (a1_3 : Int) (A2 : Option Addr) (c2 : Nat) (l2 : List Int) (r : Bool) (w : World) (hr0 : Kd.C k23 w A0 l0.length l0) (hc0 : l0.length ≤ c0) (hr1_0 : Kd.C (Kd.int .i64) w A1_0 l1_0.length l1_0) (hc1_0 : l1_0.length ≤ c1_0) (hr2 : Kd.C kTab w A2 l2.length l2) (hc2 : l2.length ≤ c2) (h : F8.f k l0 l1_0 a1_1 a1_2 a1_3 l2 = some r) :
    Calls Tryd.prog 8 #[.slice A0 l0.length c0, .agg #[.slice A1_0 l1_0.length c1_0, .int .i64 a1_1, .bool a1_2, .int .i64 a1_3]] w fun e w' => e = .returned (.bool r) ∧ Below w.heap.size w w' := by
 have hu44 := Tryd.underlying44; have hu37 := Tryd.underlying37; have hu3 := Tryd.underlying3; have hu4 := Tryd.underlying4; have HR0 := Aside0.mk hr0; have HC0 := Aside0.mk hc0; clear hr0 hc0; have HR1_0 := Aside0.mk hr1_0; have HC1_0 := Aside0.mk hc1_0; clear hr1_0 hc1_0; have HR2 := Aside0.mk hr2; have HC2 := Aside0.mk hc2; clear hr2 hc2; have HB := Aside0.mk (Below.refl w.heap.size w)
 unfold F8.f at h
 have H := h; clear h; have HC4 := Aside0.mk H; clear H; go_enter Tryd.func8, Tryd.ntmps8
 go_upto_region 1 with (first | ((with_reducible refine gate_dst (N := 3) rfl ?_); (try (refine gate_guard (by rfl) ?_; dsimp only)); refine box_event ?hg (N := 3) ?hd (cs := #[.slice A1_0 l1_0.length c1_0, .int .i64 a1_1, .bool a1_2, .int .i64 a1_3]) (t := 44) ?hr ?_; (case hd => rfl); (case hg => rfl); (case hr => first | (go_simp; done) | (go_simp; rfl)); intro gb101 hg w5 hbox hb; have BK101 := Aside0.mk (hbox); have GW101 := Aside0.mk ((pbb2_6 : w.heap.size ≤ gb101)); have GE101 := Aside0.mk ((pbb2_6 : w.heap.size ≤ gb101)); replace HB := Aside0.mk (below_step pbb2_3 hb); clear hb hbox hg))
 repeat (go_quiet (first | ((with_reducible refine gate_dst (N := 3) rfl ?_); (try (refine gate_guard (by rfl) ?_; dsimp only)); refine box_event ?hg (N := 3) ?hd (cs := #[.slice A1_0 l1_0.length c1_0, .int .i64 a1_1, .bool a1_2, .int .i64 a1_3]) (t := 44) ?hr ?_; (case hd => rfl); (case hg => rfl); (case hr => first | (go_simp; done) | (go_simp; rfl)); intro gb101 hg w5 hbox hb; have BK101 := Aside0.mk (hbox); have GW101 := Aside0.mk ((pbb2_6 : w.heap.size ≤ gb101)); have GE101 := Aside0.mk ((pbb2_6 : w.heap.size ≤ gb101)); replace HB := Aside0.mk (below_step pbb2_3 hb); clear hb hbox hg)); go_upto_region 1 with (first | ((with_reducible refine gate_dst (N := 3) rfl ?_); (try (refine gate_guard (by rfl) ?_; dsimp only)); refine box_event ?hg (N := 3) ?hd (cs := #[.slice A1_0 l1_0.length c1_0, .int .i64 a1_1, .bool a1_2, .int .i64 a1_3]) (t := 44) ?hr ?_; (case hd => rfl); (case hg => rfl); (case hr => first | (go_simp; done) | (go_simp; rfl)); intro gb101 hg w5 hbox hb; have BK101 := Aside0.mk (hbox); have GW101 := Aside0.mk ((pbb2_6 : w.heap.size ≤ gb101)); have GE101 := Aside0.mk ((pbb2_6 : w.heap.size ≤ gb101)); replace HB := Aside0.mk (below_step pbb2_3 hb); clear hb hbox hg)))
 (try simp only [Act.put, List.setIfInBounds_toArray, List.set_cons_zero, List.set_cons_succ])
 go_cut [19] (fun v19 wc => ∃ (kq : Nat) (x19_3 : Bool), v19 = .bool x19_3 ∧ Aside0 (F8.j0 kq l0 x19_3 l2 l1_0 a1_1 a1_2 a1_3 = some r) ∧ Aside0 (kq ≤ k) ∧ Aside0 (wc.heap[gb101]? = some (.cells #[(.slice A1_0 l1_0.length c1_0), .int .i64 a1_1, .bool a1_2, .int .i64 a1_3] 44 (0, 0))) ∧ Aside0 (Below w.heap.size w wc))
 case first =>
  have H := HC4.out; clear HC4; obtain ⟨t102, A60, H⟩ := bnd H; have A6 := Aside0.mk A60; clear A60
  by_cases c7 : t102 = true
  ·subst c7; rw [if_pos rfl] at H; have H' := Aside0.mk H; clear H
   go_wp2_with (first | (go_at_call 10; (with_reducible refine (F10.calls k _ _ l0 true _ pbb8_1 HC0.out A6.out).mono ?_); rintro e w' ⟨rfl, ⟨nd, rfl⟩⟩; (try first | exact ⟨rfl, _, World.drewN_drewN _ _ _⟩ | exact ⟨rfl, _, Eq.trans (World.drewN_drewN _ _ _) (congrArg (World.drewN _) (Nat.add_assoc _ _ _))⟩); obtain ⟨hcz8_0, hcz8_1, hcz8_2, hcz8_3⟩ := cz4 BK101.out; obtain ⟨hfz8_0, hfz8_1, hfz8_2, hfz8_3⟩ := fz4 BK101.out))
   repeat (go_quiet (first | (go_at_call 10; (with_reducible refine (F10.calls k _ _ l0 true _ pbb8_1 HC0.out A6.out).mono ?_); rintro e w' ⟨rfl, ⟨nd, rfl⟩⟩; (try first | exact ⟨rfl, _, World.drewN_drewN _ _ _⟩ | exact ⟨rfl, _, Eq.trans (World.drewN_drewN _ _ _) (congrArg (World.drewN _) (Nat.add_assoc _ _ _))⟩); obtain ⟨hcz8_0, hcz8_1, hcz8_2, hcz8_3⟩ := cz4 BK101.out; obtain ⟨hfz8_0, hfz8_1, hfz8_2, hfz8_3⟩ := fz4 BK101.out)); try go_wp2_with (first | (go_at_call 10; (with_reducible refine (F10.calls k _ _ l0 true _ pbb8_1 HC0.out A6.out).mono ?_); rintro e w' ⟨rfl, ⟨nd, rfl⟩⟩; (try first | exact ⟨rfl, _, World.drewN_drewN _ _ _⟩ | exact ⟨rfl, _, Eq.trans (World.drewN_drewN _ _ _) (congrArg (World.drewN _) (Nat.add_assoc _ _ _))⟩); obtain ⟨hcz8_0, hcz8_1, hcz8_2, hcz8_3⟩ := cz4 BK101.out; obtain ⟨hfz8_0, hfz8_1, hfz8_2, hfz8_3⟩ := fz4 BK101.out)))
   go_meet
   case rel => exact ⟨_, (decide ((l1_0.length : Int) > 250)), pbb2_0, H', ⟨pwh1_0⟩, ⟨pbb2_10⟩, ⟨pbb2_9⟩⟩
  ·replace c7 := Bool.eq_false_iff.mpr c7; subst c7; rw [if_neg (show ¬ (false = true) by decide)] at H; have H' := Aside0.mk H; clear H
   go_wp2_with (first | (go_at_call 10; (with_reducible refine (F10.calls k _ _ l0 false _ pbb8_1 HC0.out A6.out).mono ?_); rintro e w' ⟨rfl, ⟨nd, rfl⟩⟩; (try first | exact ⟨rfl, _, World.drewN_drewN _ _ _⟩ | exact ⟨rfl, _, Eq.trans (World.drewN_drewN _ _ _) (congrArg (World.drewN _) (Nat.add_assoc _ _ _))⟩)))
   repeat (go_quiet (first | (go_at_call 10; (with_reducible refine (F10.calls k _ _ l0 false _ pbb8_1 HC0.out A6.out).mono ?_); rintro e w' ⟨rfl, ⟨nd, rfl⟩⟩; (try first | exact ⟨rfl, _, World.drewN_drewN _ _ _⟩ | exact ⟨rfl, _, Eq.trans (World.drewN_drewN _ _ _) (congrArg (World.drewN _) (Nat.add_assoc _ _ _))⟩))); try go_wp2_with (first | (go_at_call 10; (with_reducible refine (F10.calls k _ _ l0 false _ pbb8_1 HC0.out A6.out).mono ?_); rintro e w' ⟨rfl, ⟨nd, rfl⟩⟩; (try first | exact ⟨rfl, _, World.drewN_drewN _ _ _⟩ | exact ⟨rfl, _, Eq.trans (World.drewN_drewN _ _ _) (congrArg (World.drewN _) (Nat.add_assoc _ _ _))⟩))))
   go_meet
   case rel => exact ⟨_, (true), pbb2_0, H', ⟨pwh1_0⟩, ⟨pbb2_10⟩, ⟨pbb2_9⟩⟩
 case rest =>
  clear HC4; obtain ⟨kq, x19_3, rfl, HA, HJ3, BK101, HB⟩ := hcut
  cases kq with
  | zero => exact absurd HA.out (by simp [F8.j0])
  | succ kj3 =>
   have H := HA.out; clear HA; simp only [F8.j0] at H
   by_cases c9 : x19_3 = true
   ·subst c9; rw [if_pos rfl] at H; obtain ⟨t103, A100, H⟩ := bnd H; have A10 := Aside0.mk A100; clear A100; obtain rfl := Option.some.inj H
    go_wp2_with (first | (go_at_call 11; (with_reducible refine (F11.calls kj3 A2 c2 l2 t103 _ pwh1_1 HC2.out A10.out).mono ?_); rintro e w11 ⟨rfl, hb⟩; replace BK101 := Aside0.mk (blk_below (g := gb101) (o := .cells #[.slice A1_0 l1_0.length c1_0, .int .i64 a1_1, .bool a1_2, .int .i64 a1_3] 44 (0, 0)) pbb2_10 hb); replace HB := Aside0.mk (below_step pbb2_9 hb); (try clear hb); (try clear hb2); (try clear hk); (try clear hi)))
    repeat (go_quiet (first | (go_at_call 11; (with_reducible refine (F11.calls kj3 A2 c2 l2 t103 _ pwh1_1 HC2.out A10.out).mono ?_); rintro e w11 ⟨rfl, hb⟩; replace BK101 := Aside0.mk (blk_below (g := gb101) (o := .cells #[.slice A1_0 l1_0.length c1_0, .int .i64 a1_1, .bool a1_2, .int .i64 a1_3] 44 (0, 0)) pbb2_10 hb); replace HB := Aside0.mk (below_step pbb2_9 hb); (try clear hb); (try clear hb2); (try clear hk); (try clear hi))); try go_wp2_with (first | (go_at_call 11; (with_reducible refine (F11.calls kj3 A2 c2 l2 t103 _ pwh1_1 HC2.out A10.out).mono ?_); rintro e w11 ⟨rfl, hb⟩; replace BK101 := Aside0.mk (blk_below (g := gb101) (o := .cells #[.slice A1_0 l1_0.length c1_0, .int .i64 a1_1, .bool a1_2, .int .i64 a1_3] 44 (0, 0)) pbb2_10 hb); replace HB := Aside0.mk (below_step pbb2_9 hb); (try clear hb); (try clear hb2); (try clear hk); (try clear hi))))
    go_ret
    exact ⟨pbb2_5, pbb2_9⟩
   ·replace c9 := Bool.eq_false_iff.mpr c9; subst c9; rw [if_neg (show ¬ (false = true) by decide)] at H; obtain ⟨⟨t104, t105⟩, A120, H⟩ := bnd H; (try dsimp only at H); have A12 := Aside0.mk A120; clear A120
    by_cases c13 : t105 = 0
    ·rw [if_pos c13] at H; have c13b0 := bT_ c13; have c13b1 := bF_ c13; clear c13; have H' := Aside0.mk H; clear H; obtain ⟨hcz14_0, hcz14_1, hcz14_2, hcz14_3⟩ := cz4 BK101.out; obtain ⟨hfz14_0, hfz14_1, hfz14_2, hfz14_3⟩ := fz4 BK101.out
     go_wp2_with (first | (go_at_call 22; (with_reducible refine (F22.calls kj3 _ _ l0 _ _ l1_0 a1_1 a1_2 a1_3 A2 c2 l2 t104 t105 _ pbb8_1 HC0.out pwh1_2 (by exact HC1_0.out) pwh1_1 HC2.out A12.out).mono ?_); rintro e w15 ⟨v106, rfl, ho0, hb⟩; have HO107 := Aside0.mk (Kd.R_lower ho0 (below_size pbb2_9)); replace BK101 := Aside0.mk (blk_below (g := gb101) (o := .cells #[.slice A1_0 l1_0.length c1_0, .int .i64 a1_1, .bool a1_2, .int .i64 a1_3] 44 (0, 0)) pbb2_10 hb); replace HB := Aside0.mk (below_step pbb2_9 hb); (try clear hb); (try clear hb2); (try clear hk); (try clear hi); (try clear ho0)))
     repeat (go_quiet (first | (go_at_call 22; (with_reducible refine (F22.calls kj3 _ _ l0 _ _ l1_0 a1_1 a1_2 a1_3 A2 c2 l2 t104 t105 _ pbb8_1 HC0.out pwh1_2 (by exact HC1_0.out) pwh1_1 HC2.out A12.out).mono ?_); rintro e w15 ⟨v106, rfl, ho0, hb⟩; have HO107 := Aside0.mk (Kd.R_lower ho0 (below_size pbb2_9)); replace BK101 := Aside0.mk (blk_below (g := gb101) (o := .cells #[.slice A1_0 l1_0.length c1_0, .int .i64 a1_1, .bool a1_2, .int .i64 a1_3] 44 (0, 0)) pbb2_10 hb); replace HB := Aside0.mk (below_step pbb2_9 hb); (try clear hb); (try clear hb2); (try clear hk); (try clear hi); (try clear ho0))); try go_wp2_with (first | (go_at_call 22; (with_reducible refine (F22.calls kj3 _ _ l0 _ _ l1_0 a1_1 a1_2 a1_3 A2 c2 l2 t104 t105 _ pbb8_1 HC0.out pwh1_2 (by exact HC1_0.out) pwh1_1 HC2.out A12.out).mono ?_); rintro e w15 ⟨v106, rfl, ho0, hb⟩; have HO107 := Aside0.mk (Kd.R_lower ho0 (below_size pbb2_9)); replace BK101 := Aside0.mk (blk_below (g := gb101) (o := .cells #[.slice A1_0 l1_0.length c1_0, .int .i64 a1_1, .bool a1_2, .int .i64 a1_3] 44 (0, 0)) pbb2_10 hb); replace HB := Aside0.mk (below_step pbb2_9 hb); (try clear hb); (try clear hb2); (try clear hk); (try clear hi); (try clear ho0))))
     go_loopg [7, 8] kj3 (fun kq v7 v8 w' => ∃ (x7_2 : Int) (x8_2 : Int), v7 = .int .i64 x7_2 ∧ v8 = .int .i64 x8_2 ∧ Aside0 (F8.l0 kq l0 t104 x7_2 x8_2 l2 l1_0 a1_1 a1_2 a1_3 = some r) ∧ Aside0 (kq ≤ kj3) ∧ Aside0 (Kd.R k23 23 w' w.heap.size (fun _ => True) v106 t104) ∧ Aside0 (w'.heap[gb101]? = some (.cells #[(.slice A1_0 l1_0.length c1_0), .int .i64 a1_1, .bool a1_2, .int .i64 a1_3] 44 (0, 0))) ∧ Aside0 (Below w.heap.size w w'))
     case atStart => exact ⟨(0), (0), pbb2_0, pbb2_0, H', ⟨Nat.le_refl _⟩, ⟨pwh1_3⟩, ⟨pbb2_10⟩, ⟨pbb2_9⟩⟩
     case round =>
      clear H'; obtain ⟨x7_2, x8_2, rfl, rfl, HA, HK2, HO_5, BK101, HB⟩ := hrel
      cases gk with
      | zero => exact absurd HA.out (by simp [F8.l0])
      | succ k2 =>
       have H := HA.out; clear HA; simp only [F8.l0] at H
       by_cases c16 : x8_2 < (t104.length : Int)
       ·rw [if_pos c16] at H; have c16b0 := decide_eq_true c16; clear c16
        by_cases c17 : 0 ≤ x8_2
        ·rw [if_pos c17] at H; have c17b0 := decide_eq_true c17; clear c17
         by_cases c18 : ((rd_T23 t104 x8_2).f3) = 5
         ·rw [if_pos c18] at H; have c18b0 := bT_ c18; have c18b1 := bF_ c18; clear c18
          by_cases c19 : ((rd_T23 t104 x8_2).f1) = a1_3
          ·rw [if_pos c19] at H; have c19b0 := bT_ c19; have c19b1 := bF_ c19; clear c19
           by_cases c20 : ((rd_T23 t104 x8_2).f0) = (wrap64 ((wrap64 ((l0.length : Int) + x8_2)) + 1))
           ·rw [if_pos c20] at H; have c20b0 := bT_ c20; have c20b1 := bF_ c20; clear c20; have H' := Aside0.mk H; clear H; obtain ⟨Ao21, co21, eo21⟩ := Kd.R_slice HO_5.out; subst eo21; have p109 : 0 ≤ (x8_2 : Int) := of_decide_eq_true pbb2_4; have q109 : x8_2 < (t104.length : Int) := of_decide_eq_true pbb2_4; obtain ⟨ad109, e109, hx109_0, hx109_1, hx109_2, hx109_3, hx109_4, hx109_5, hx109_6, hx109_7⟩ := at_T23 (Kd.R_reads' HO_5.out).2.2 x8_2 p109 q109
            cases e109
            replace p109 := eq_true p109; replace q109 := eq_true q109; have p110 : 0 ≤ (x8_2 : Int) := of_decide_eq_true pbb2_4; have q110 : x8_2 < (t104.length : Int) := of_decide_eq_true pbb2_4; obtain ⟨ad110, e110, hx110_0, hx110_1, hx110_2, hx110_3, hx110_4, hx110_5, hx110_6, hx110_7⟩ := at_T23 (Kd.R_reads' HO_5.out).2.2 x8_2 p110 q110; obtain rfl : ad109 = ad110 := (by injection e110); replace p110 := eq_true p110; replace q110 := eq_true q110; have p111 : 0 ≤ (x8_2 : Int) := of_decide_eq_true pbb2_4; have q111 : x8_2 < (t104.length : Int) := of_decide_eq_true pbb2_4; obtain ⟨ad111, e111, hx111_0, hx111_1, hx111_2, hx111_3, hx111_4, hx111_5, hx111_6, hx111_7⟩ := at_T23 (Kd.R_reads' HO_5.out).2.2 x8_2 p111 q111; obtain rfl : ad109 = ad111 := (by injection e111); replace p111 := eq_true p111; replace q111 := eq_true q111; obtain ⟨hcz22_0, hcz22_1, hcz22_2, hcz22_3⟩ := cz4 BK101.out; obtain ⟨hfz22_0, hfz22_1, hfz22_2, hfz22_3⟩ := fz4 BK101.out; have p112 : 0 ≤ (x8_2 : Int) := of_decide_eq_true pbb2_4; have q112 : x8_2 < (t104.length : Int) := of_decide_eq_true pbb2_4; obtain ⟨ad112, e112, hx112_0, hx112_1, hx112_2, hx112_3, hx112_4, hx112_5, hx112_6, hx112_7⟩ := at_T23 (Kd.R_reads' HO_5.out).2.2 x8_2 p112 q112; obtain rfl : ad109 = ad112 := (by injection e112); replace p112 := eq_true p112; replace q112 := eq_true q112
            go_wp2
            repeat (go_quiet (fail); try go_wp2)
            go_roundg k2
            case measure => have := HJ3.out; have := HK2.out; omega
            case rel => exact ⟨(wrap64 (x7_2 + ((rd_T23 t104 x8_2).f5))), (wrap64 (x8_2 + 1)), pbb2_0, pbb2_0, H', ⟨by have := HJ3.out; have := HK2.out; omega⟩, ⟨pwh1_4⟩, ⟨pbb2_10⟩, ⟨pbb2_9⟩⟩
           ·rw [if_neg c20] at H; exact absurd H (by simp)
          ·rw [if_neg c19] at H; exact absurd H (by simp)
         ·rw [if_neg c18] at H; exact absurd H (by simp)
        ·rw [if_neg c17] at H; exact absurd H (by simp)
       ·rw [if_neg c16] at H; have c16b0 := decide_eq_false c16; clear c16; obtain ⟨y113, hy113⟩ : ∃ y_ : List (S23), y_ = (([] : List (S23))) := ⟨_, rfl⟩; replace H : (if y113.length + l0.length < 1759218604441 then ((some (y113 ++ l0 : List (S23))).bind fun y116 => (if y116.length + t104.length < 1759218604441 then ((F14.f k2 (y116 ++ t104) l2).bind fun bt122 => (if x7_2 = a1_1 then (if bt122.1 = (-1) then (if bt122.2 = 0 then ((F11.f k2 l2).bind fun t124 => (some t124)) else (none)) else (none)) else (none))) else (none))) else (none)) = some r := by first | (rw [hy113]; with_reducible exact H) | (have H2_ := (Option.bind_some _ _).symm.trans H; rw [hy113]; with_reducible exact H2_) | (have H2_ := (Option.bind_some _ _).symm.trans H; with_reducible exact H2_) | with_reducible exact H | (rw [hy113]; exact H) | exact H
        have Ny113 := Aside0.mk hy113; clear hy113
        by_cases c23 : y113.length + l0.length < 1759218604441
        ·rw [if_pos c23] at H; have LMc23 := Aside0.mk c23; clear c23; obtain ⟨y116, hy116⟩ : ∃ y_ : List (S23), y_ = (y113 ++ l0) := ⟨_, rfl⟩; replace H : (if y116.length + t104.length < 1759218604441 then ((F14.f k2 (y116 ++ t104) l2).bind fun bt122 => (if x7_2 = a1_1 then (if bt122.1 = (-1) then (if bt122.2 = 0 then ((F11.f k2 l2).bind fun t124 => (some t124)) else (none)) else (none)) else (none))) else (none)) = some r := by first | (rw [hy116]; with_reducible exact H) | (have H2_ := (Option.bind_some _ _).symm.trans H; rw [hy116]; with_reducible exact H2_) | (have H2_ := (Option.bind_some _ _).symm.trans H; with_reducible exact H2_) | with_reducible exact H | (rw [hy116]; exact H) | exact H
         have Ny116 := Aside0.mk hy116; clear hy116
         by_cases c24 : y116.length + t104.length < 1759218604441
         ·rw [if_pos c24] at H; have LMc24 := Aside0.mk c24; clear c24; obtain ⟨y119, hy119⟩ : ∃ y_ : List (S23), y_ = (y116 ++ t104) := ⟨_, rfl⟩; replace H : ((F14.f k2 y119 l2).bind fun bt122 => (if x7_2 = a1_1 then (if bt122.1 = (-1) then (if bt122.2 = 0 then ((F11.f k2 l2).bind fun t124 => (some t124)) else (none)) else (none)) else (none))) = some r := by first | (rw [hy119]; with_reducible exact H) | (have H2_ := (Option.bind_some _ _).symm.trans H; rw [hy119]; with_reducible exact H2_) | (have H2_ := (Option.bind_some _ _).symm.trans H; with_reducible exact H2_) | with_reducible exact H | (rw [hy119]; exact H) | exact H
          have Ny119 := Aside0.mk hy119; clear hy119; obtain ⟨⟨t122, t123⟩, A250, H⟩ := bnd H; (try dsimp only at H); have A25 := Aside0.mk A250; clear A250
          by_cases c26 : x7_2 = a1_1
          ·rw [if_pos c26] at H; have c26b0 := bT_ c26; have c26b1 := bF_ c26; clear c26
           by_cases c27 : t122 = (-1)
           ·rw [if_pos c27] at H; have c27b0 := bT_ c27; have c27b1 := bF_ c27; clear c27
            by_cases c28 : t123 = 0
            ·rw [if_pos c28] at H; have c28b0 := bT_ c28; have c28b1 := bF_ c28; clear c28; obtain ⟨t124, A290, H⟩ := bnd H; have A29 := Aside0.mk A290; clear A290; obtain rfl := Option.some.inj H; obtain ⟨Ao30, co30, eo30⟩ := Kd.R_slice HO_5.out; subst eo30
             go_wp2_with (first | ((with_reducible refine gate_dst (N := 85) rfl ?_); (try (refine gate_guard (by rfl) ?_; dsimp only)); refine Kd.R_lit k23 _ 23 ?hg (N := 85) ?hd (xs := ([] : List (S23))) (inner := []) (ok := fun _ => True) (okp := fun _ => True) ?hr ?hp (fun _ hk => hk) trivial (Below.refl _ _) (Nat.le_refl _) (by simp) ?_; (case hd => rfl); (case hg => rfl); (case hr => first | (go_simp; done) | (go_simp; rfl)); (case hp => exact (Reps.none _ _)); intro v114 w31 ho32 hb hg_ hnew_; clear hg_ hnew_; (first | rw [← Ny113.out] at ho32 | (simp only [Int.reduceToNat] at ho32; rw [← Ny113.out] at ho32)); have HO115 := Aside0.mk (Kd.R_lower (Kd.R_new' ho32 (Kd.R_lt pwh1_4)) (below_size pbb2_9)); replace HO_5 := Aside0.mk (Kd.R_elder' pwh1_4 (Kd.R_base ho32) hb); replace BK101 := Aside0.mk (blk_below (g := gb101) (o := .cells #[.slice A1_0 l1_0.length c1_0, .int .i64 a1_1, .bool a1_2, .int .i64 a1_3] 44 (0, 0)) pbb2_10 hb); replace HB := Aside0.mk (below_step pbb2_9 hb); clear hb ho32) | ((with_reducible refine gate_builtin (b := .append) (xs := #[.tmp 85, .tmp 86]) rfl ?_); (try (refine gate_guard (by rfl) ?_; dsimp only)); at_builtin; refine Kd.R_append_rows k23 (w0 := w) w.heap.size rfl (.tmp 85) (.tmp 86) 25 23 (.agg #[(.int .i64 0), (.int .i64 0), (.string ⟨#[]⟩), (.int .i64 0), (.int .i64 0), (.int .i64 0), (.string ⟨#[]⟩), (.int .i64 0)]) 80 rfl Tryd.underlying25 info23 rfl (by decide) (by omega) v114 y113 l0 _ _ _ (fun k_ => some k_ ≠ (.slice Ao30 t104.length co30 : Value).ownBlock) (fun _ => False) rfl rfl ?aO ?aR (fun _ _ h => h) (fun _ h => h.elim) ?aF ?aB ?aS ?aL ?_; (case aR => repeat (first | exact (Kd.C_below HR0.out HB.out) | (with_reducible refine Kd.C_alloc ?_ _) | (with_reducible refine Kd.C_drewN ?_ _) | (with_reducible refine Kd.C_drew ?_))); (case aB => exact pbb2_9); (case aF => exact (fun k_ hk => Kd.fresh' (Kd.R_lt pwh1_4) k_ hk)); (case aO => exact pwh1_5); (case aS => exact (below_size pbb2_9)); (case aL => have := LMc23.out; omega); intro v117 w33 ho hb hg hat; rw [← Ny116.out] at ho; replace HO_5 := Aside0.mk (Kd.R_after (ok := (fun _ => True)) pwh1_4 hg hat); replace BK101 := Aside0.mk (blk_grown (g := gb101) (o := .cells #[.slice A1_0 l1_0.length c1_0, .int .i64 a1_1, .bool a1_2, .int .i64 a1_3] 44 (0, 0)) pbb2_10 hg (Kd.R_ne HO115.out BK101.out (by decide))); replace HB := Aside0.mk (hb); have HO118 := Aside0.mk (ho); clear HO115; clear ho hb hg hat) | ((with_reducible refine gate_builtin (b := .append) (xs := #[.tmp 87, .tmp 88]) rfl ?_); (try (refine gate_guard (by rfl) ?_; dsimp only)); at_builtin; refine Kd.R_append_rows k23 (w0 := w) w.heap.size rfl (.tmp 87) (.tmp 88) 25 23 (.agg #[(.int .i64 0), (.int .i64 0), (.string ⟨#[]⟩), (.int .i64 0), (.int .i64 0), (.int .i64 0), (.string ⟨#[]⟩), (.int .i64 0)]) 80 rfl Tryd.underlying25 info23 rfl (by decide) (by omega) v117 y116 t104 _ _ _ (fun k_ => some k_ ≠ (.slice Ao30 t104.length co30 : Value).ownBlock) (fun _ => False) rfl rfl ?aO ?aR (fun _ _ h => h) (fun _ h => h.elim) ?aF ?aB ?aS ?aL ?_; (case aR => repeat (first | exact (Kd.R_reads' HO_5.out).2.2 | (with_reducible refine Kd.C_alloc ?_ _) | (with_reducible refine Kd.C_drewN ?_ _) | (with_reducible refine Kd.C_drew ?_))); (case aB => exact pbb2_9); (case aF => exact (fun k_ hk => Kd.fresh' (Kd.R_lt pwh1_4) k_ hk)); (case aO => exact pwh1_6); (case aS => exact (below_size pbb2_9)); (case aL => have := LMc24.out; omega); intro v120 w34 ho hb hg hat; rw [← Ny119.out] at ho; replace HO_5 := Aside0.mk (Kd.R_after (ok := (fun _ => True)) pwh1_4 hg hat); replace BK101 := Aside0.mk (blk_grown (g := gb101) (o := .cells #[.slice A1_0 l1_0.length c1_0, .int .i64 a1_1, .bool a1_2, .int .i64 a1_3] 44 (0, 0)) pbb2_10 hg (Kd.R_ne HO118.out BK101.out (by decide))); replace HB := Aside0.mk (hb); have HO121 := Aside0.mk (ho); clear HO118; clear ho hb hg hat; obtain ⟨Ao35, co35, eo35⟩ := Kd.R_slice HO121.out; subst eo35) | (go_at_call 14; (with_reducible refine (F14.calls k2 _ _ y119 A2 c2 l2 t122 t123 _ pwh1_7 (by exact (Kd.R_reads' HO121.out).2.1) pwh1_1 HC2.out A25.out).mono ?_); rintro e w36 ⟨rfl, hb⟩; replace HO_5 := Aside0.mk (Kd.R_below pwh1_4 hb); replace HO121 := Aside0.mk (Kd.R_below pwh1_8 hb); replace BK101 := Aside0.mk (blk_below (g := gb101) (o := .cells #[.slice A1_0 l1_0.length c1_0, .int .i64 a1_1, .bool a1_2, .int .i64 a1_3] 44 (0, 0)) pbb2_10 hb); replace HB := Aside0.mk (below_step pbb2_9 hb); (try clear hb); (try clear hb2); (try clear hk); (try clear hi); obtain ⟨hcz37_0, hcz37_1, hcz37_2, hcz37_3⟩ := cz4 BK101.out; obtain ⟨hfz37_0, hfz37_1, hfz37_2, hfz37_3⟩ := fz4 BK101.out) | (go_at_call 11; (with_reducible refine (F11.calls k2 A2 c2 l2 t124 _ pwh1_1 HC2.out A29.out).mono ?_); rintro e w38 ⟨rfl, hb⟩; replace HO_5 := Aside0.mk (Kd.R_below pwh1_4 hb); replace HO121 := Aside0.mk (Kd.R_below pwh1_8 hb); replace BK101 := Aside0.mk (blk_below (g := gb101) (o := .cells #[.slice A1_0 l1_0.length c1_0, .int .i64 a1_1, .bool a1_2, .int .i64 a1_3] 44 (0, 0)) pbb2_10 hb); replace HB := Aside0.mk (below_step pbb2_9 hb); (try clear hb); (try clear hb2); (try clear hk); (try clear hi)))
             repeat (go_quiet (first | ((with_reducible refine gate_dst (N := 85) rfl ?_); (try (refine gate_guard (by rfl) ?_; dsimp only)); refine Kd.R_lit k23 _ 23 ?hg (N := 85) ?hd (xs := ([] : List (S23))) (inner := []) (ok := fun _ => True) (okp := fun _ => True) ?hr ?hp (fun _ hk => hk) trivial (Below.refl _ _) (Nat.le_refl _) (by simp) ?_; (case hd => rfl); (case hg => rfl); (case hr => first | (go_simp; done) | (go_simp; rfl)); (case hp => exact (Reps.none _ _)); intro v114 w31 ho32 hb hg_ hnew_; clear hg_ hnew_; (first | rw [← Ny113.out] at ho32 | (simp only [Int.reduceToNat] at ho32; rw [← Ny113.out] at ho32)); have HO115 := Aside0.mk (Kd.R_lower (Kd.R_new' ho32 (Kd.R_lt pwh1_4)) (below_size pbb2_9)); replace HO_5 := Aside0.mk (Kd.R_elder' pwh1_4 (Kd.R_base ho32) hb); replace BK101 := Aside0.mk (blk_below (g := gb101) (o := .cells #[.slice A1_0 l1_0.length c1_0, .int .i64 a1_1, .bool a1_2, .int .i64 a1_3] 44 (0, 0)) pbb2_10 hb); replace HB := Aside0.mk (below_step pbb2_9 hb); clear hb ho32) | ((with_reducible refine gate_builtin (b := .append) (xs := #[.tmp 85, .tmp 86]) rfl ?_); (try (refine gate_guard (by rfl) ?_; dsimp only)); at_builtin; refine Kd.R_append_rows k23 (w0 := w) w.heap.size rfl (.tmp 85) (.tmp 86) 25 23 (.agg #[(.int .i64 0), (.int .i64 0), (.string ⟨#[]⟩), (.int .i64 0), (.int .i64 0), (.int .i64 0), (.string ⟨#[]⟩), (.int .i64 0)]) 80 rfl Tryd.underlying25 info23 rfl (by decide) (by omega) v114 y113 l0 _ _ _ (fun k_ => some k_ ≠ (.slice Ao30 t104.length co30 : Value).ownBlock) (fun _ => False) rfl rfl ?aO ?aR (fun _ _ h => h) (fun _ h => h.elim) ?aF ?aB ?aS ?aL ?_; (case aR => repeat (first | exact (Kd.C_below HR0.out HB.out) | (with_reducible refine Kd.C_alloc ?_ _) | (with_reducible refine Kd.C_drewN ?_ _) | (with_reducible refine Kd.C_drew ?_))); (case aB => exact pbb2_9); (case aF => exact (fun k_ hk => Kd.fresh' (Kd.R_lt pwh1_4) k_ hk)); (case aO => exact pwh1_5); (case aS => exact (below_size pbb2_9)); (case aL => have := LMc23.out; omega); intro v117 w33 ho hb hg hat; rw [← Ny116.out] at ho; replace HO_5 := Aside0.mk (Kd.R_after (ok := (fun _ => True)) pwh1_4 hg hat); replace BK101 := Aside0.mk (blk_grown (g := gb101) (o := .cells #[.slice A1_0 l1_0.length c1_0, .int .i64 a1_1, .bool a1_2, .int .i64 a1_3] 44 (0, 0)) pbb2_10 hg (Kd.R_ne HO115.out BK101.out (by decide))); replace HB := Aside0.mk (hb); have HO118 := Aside0.mk (ho); clear HO115; clear ho hb hg hat) | ((with_reducible refine gate_builtin (b := .append) (xs := #[.tmp 87, .tmp 88]) rfl ?_); (try (refine gate_guard (by rfl) ?_; dsimp only)); at_builtin; refine Kd.R_append_rows k23 (w0 := w) w.heap.size rfl (.tmp 87) (.tmp 88) 25 23 (.agg #[(.int .i64 0), (.int .i64 0), (.string ⟨#[]⟩), (.int .i64 0), (.int .i64 0), (.int .i64 0), (.string ⟨#[]⟩), (.int .i64 0)]) 80 rfl Tryd.underlying25 info23 rfl (by decide) (by omega) v117 y116 t104 _ _ _ (fun k_ => some k_ ≠ (.slice Ao30 t104.length co30 : Value).ownBlock) (fun _ => False) rfl rfl ?aO ?aR (fun _ _ h => h) (fun _ h => h.elim) ?aF ?aB ?aS ?aL ?_; (case aR => repeat (first | exact (Kd.R_reads' HO_5.out).2.2 | (with_reducible refine Kd.C_alloc ?_ _) | (with_reducible refine Kd.C_drewN ?_ _) | (with_reducible refine Kd.C_drew ?_))); (case aB => exact pbb2_9); (case aF => exact (fun k_ hk => Kd.fresh' (Kd.R_lt pwh1_4) k_ hk)); (case aO => exact pwh1_6); (case aS => exact (below_size pbb2_9)); (case aL => have := LMc24.out; omega); intro v120 w34 ho hb hg hat; rw [← Ny119.out] at ho; replace HO_5 := Aside0.mk (Kd.R_after (ok := (fun _ => True)) pwh1_4 hg hat); replace BK101 := Aside0.mk (blk_grown (g := gb101) (o := .cells #[.slice A1_0 l1_0.length c1_0, .int .i64 a1_1, .bool a1_2, .int .i64 a1_3] 44 (0, 0)) pbb2_10 hg (Kd.R_ne HO118.out BK101.out (by decide))); replace HB := Aside0.mk (hb); have HO121 := Aside0.mk (ho); clear HO118; clear ho hb hg hat; obtain ⟨Ao35, co35, eo35⟩ := Kd.R_slice HO121.out; subst eo35) | (go_at_call 14; (with_reducible refine (F14.calls k2 _ _ y119 A2 c2 l2 t122 t123 _ pwh1_7 (by exact (Kd.R_reads' HO121.out).2.1) pwh1_1 HC2.out A25.out).mono ?_); rintro e w36 ⟨rfl, hb⟩; replace HO_5 := Aside0.mk (Kd.R_below pwh1_4 hb); replace HO121 := Aside0.mk (Kd.R_below pwh1_8 hb); replace BK101 := Aside0.mk (blk_below (g := gb101) (o := .cells #[.slice A1_0 l1_0.length c1_0, .int .i64 a1_1, .bool a1_2, .int .i64 a1_3] 44 (0, 0)) pbb2_10 hb); replace HB := Aside0.mk (below_step pbb2_9 hb); (try clear hb); (try clear hb2); (try clear hk); (try clear hi); obtain ⟨hcz37_0, hcz37_1, hcz37_2, hcz37_3⟩ := cz4 BK101.out; obtain ⟨hfz37_0, hfz37_1, hfz37_2, hfz37_3⟩ := fz4 BK101.out) | (go_at_call 11; (with_reducible refine (F11.calls k2 A2 c2 l2 t124 _ pwh1_1 HC2.out A29.out).mono ?_); rintro e w38 ⟨rfl, hb⟩; replace HO_5 := Aside0.mk (Kd.R_below pwh1_4 hb); replace HO121 := Aside0.mk (Kd.R_below pwh1_8 hb); replace BK101 := Aside0.mk (blk_below (g := gb101) (o := .cells #[.slice A1_0 l1_0.length c1_0, .int .i64 a1_1, .bool a1_2, .int .i64 a1_3] 44 (0, 0)) pbb2_10 hb); replace HB := Aside0.mk (below_step pbb2_9 hb); (try clear hb); (try clear hb2); (try clear hk); (try clear hi))); try go_wp2_with (first | ((with_reducible refine gate_dst (N := 85) rfl ?_); (try (refine gate_guard (by rfl) ?_; dsimp only)); refine Kd.R_lit k23 _ 23 ?hg (N := 85) ?hd (xs := ([] : List (S23))) (inner := []) (ok := fun _ => True) (okp := fun _ => True) ?hr ?hp (fun _ hk => hk) trivial (Below.refl _ _) (Nat.le_refl _) (by simp) ?_; (case hd => rfl); (case hg => rfl); (case hr => first | (go_simp; done) | (go_simp; rfl)); (case hp => exact (Reps.none _ _)); intro v114 w31 ho32 hb hg_ hnew_; clear hg_ hnew_; (first | rw [← Ny113.out] at ho32 | (simp only [Int.reduceToNat] at ho32; rw [← Ny113.out] at ho32)); have HO115 := Aside0.mk (Kd.R_lower (Kd.R_new' ho32 (Kd.R_lt pwh1_4)) (below_size pbb2_9)); replace HO_5 := Aside0.mk (Kd.R_elder' pwh1_4 (Kd.R_base ho32) hb); replace BK101 := Aside0.mk (blk_below (g := gb101) (o := .cells #[.slice A1_0 l1_0.length c1_0, .int .i64 a1_1, .bool a1_2, .int .i64 a1_3] 44 (0, 0)) pbb2_10 hb); replace HB := Aside0.mk (below_step pbb2_9 hb); clear hb ho32) | ((with_reducible refine gate_builtin (b := .append) (xs := #[.tmp 85, .tmp 86]) rfl ?_); (try (refine gate_guard (by rfl) ?_; dsimp only)); at_builtin; refine Kd.R_append_rows k23 (w0 := w) w.heap.size rfl (.tmp 85) (.tmp 86) 25 23 (.agg #[(.int .i64 0), (.int .i64 0), (.string ⟨#[]⟩), (.int .i64 0), (.int .i64 0), (.int .i64 0), (.string ⟨#[]⟩), (.int .i64 0)]) 80 rfl Tryd.underlying25 info23 rfl (by decide) (by omega) v114 y113 l0 _ _ _ (fun k_ => some k_ ≠ (.slice Ao30 t104.length co30 : Value).ownBlock) (fun _ => False) rfl rfl ?aO ?aR (fun _ _ h => h) (fun _ h => h.elim) ?aF ?aB ?aS ?aL ?_; (case aR => repeat (first | exact (Kd.C_below HR0.out HB.out) | (with_reducible refine Kd.C_alloc ?_ _) | (with_reducible refine Kd.C_drewN ?_ _) | (with_reducible refine Kd.C_drew ?_))); (case aB => exact pbb2_9); (case aF => exact (fun k_ hk => Kd.fresh' (Kd.R_lt pwh1_4) k_ hk)); (case aO => exact pwh1_5); (case aS => exact (below_size pbb2_9)); (case aL => have := LMc23.out; omega); intro v117 w33 ho hb hg hat; rw [← Ny116.out] at ho; replace HO_5 := Aside0.mk (Kd.R_after (ok := (fun _ => True)) pwh1_4 hg hat); replace BK101 := Aside0.mk (blk_grown (g := gb101) (o := .cells #[.slice A1_0 l1_0.length c1_0, .int .i64 a1_1, .bool a1_2, .int .i64 a1_3] 44 (0, 0)) pbb2_10 hg (Kd.R_ne HO115.out BK101.out (by decide))); replace HB := Aside0.mk (hb); have HO118 := Aside0.mk (ho); clear HO115; clear ho hb hg hat) | ((with_reducible refine gate_builtin (b := .append) (xs := #[.tmp 87, .tmp 88]) rfl ?_); (try (refine gate_guard (by rfl) ?_; dsimp only)); at_builtin; refine Kd.R_append_rows k23 (w0 := w) w.heap.size rfl (.tmp 87) (.tmp 88) 25 23 (.agg #[(.int .i64 0), (.int .i64 0), (.string ⟨#[]⟩), (.int .i64 0), (.int .i64 0), (.int .i64 0), (.string ⟨#[]⟩), (.int .i64 0)]) 80 rfl Tryd.underlying25 info23 rfl (by decide) (by omega) v117 y116 t104 _ _ _ (fun k_ => some k_ ≠ (.slice Ao30 t104.length co30 : Value).ownBlock) (fun _ => False) rfl rfl ?aO ?aR (fun _ _ h => h) (fun _ h => h.elim) ?aF ?aB ?aS ?aL ?_; (case aR => repeat (first | exact (Kd.R_reads' HO_5.out).2.2 | (with_reducible refine Kd.C_alloc ?_ _) | (with_reducible refine Kd.C_drewN ?_ _) | (with_reducible refine Kd.C_drew ?_))); (case aB => exact pbb2_9); (case aF => exact (fun k_ hk => Kd.fresh' (Kd.R_lt pwh1_4) k_ hk)); (case aO => exact pwh1_6); (case aS => exact (below_size pbb2_9)); (case aL => have := LMc24.out; omega); intro v120 w34 ho hb hg hat; rw [← Ny119.out] at ho; replace HO_5 := Aside0.mk (Kd.R_after (ok := (fun _ => True)) pwh1_4 hg hat); replace BK101 := Aside0.mk (blk_grown (g := gb101) (o := .cells #[.slice A1_0 l1_0.length c1_0, .int .i64 a1_1, .bool a1_2, .int .i64 a1_3] 44 (0, 0)) pbb2_10 hg (Kd.R_ne HO118.out BK101.out (by decide))); replace HB := Aside0.mk (hb); have HO121 := Aside0.mk (ho); clear HO118; clear ho hb hg hat; obtain ⟨Ao35, co35, eo35⟩ := Kd.R_slice HO121.out; subst eo35) | (go_at_call 14; (with_reducible refine (F14.calls k2 _ _ y119 A2 c2 l2 t122 t123 _ pwh1_7 (by exact (Kd.R_reads' HO121.out).2.1) pwh1_1 HC2.out A25.out).mono ?_); rintro e w36 ⟨rfl, hb⟩; replace HO_5 := Aside0.mk (Kd.R_below pwh1_4 hb); replace HO121 := Aside0.mk (Kd.R_below pwh1_8 hb); replace BK101 := Aside0.mk (blk_below (g := gb101) (o := .cells #[.slice A1_0 l1_0.length c1_0, .int .i64 a1_1, .bool a1_2, .int .i64 a1_3] 44 (0, 0)) pbb2_10 hb); replace HB := Aside0.mk (below_step pbb2_9 hb); (try clear hb); (try clear hb2); (try clear hk); (try clear hi); obtain ⟨hcz37_0, hcz37_1, hcz37_2, hcz37_3⟩ := cz4 BK101.out; obtain ⟨hfz37_0, hfz37_1, hfz37_2, hfz37_3⟩ := fz4 BK101.out) | (go_at_call 11; (with_reducible refine (F11.calls k2 A2 c2 l2 t124 _ pwh1_1 HC2.out A29.out).mono ?_); rintro e w38 ⟨rfl, hb⟩; replace HO_5 := Aside0.mk (Kd.R_below pwh1_4 hb); replace HO121 := Aside0.mk (Kd.R_below pwh1_8 hb); replace BK101 := Aside0.mk (blk_below (g := gb101) (o := .cells #[.slice A1_0 l1_0.length c1_0, .int .i64 a1_1, .bool a1_2, .int .i64 a1_3] 44 (0, 0)) pbb2_10 hb); replace HB := Aside0.mk (below_step pbb2_9 hb); (try clear hb); (try clear hb2); (try clear hk); (try clear hi))))
             go_ret
             exact ⟨pbb2_5, pbb2_9⟩
            ·rw [if_neg c28] at H; exact absurd H (by simp)
           ·rw [if_neg c27] at H; exact absurd H (by simp)
          ·rw [if_neg c26] at H; exact absurd H (by simp)
         ·rw [if_neg c24] at H; exact absurd H (by simp)
        ·rw [if_neg c23] at H; exact absurd H (by simp)
    ·rw [if_neg c13] at H; have c13b0 := nF_ c13; have c13b1 := nT_ c13
     by_cases c39 : (t104.length : Int) = 0
     ·rw [if_pos c39] at H; have c39b0 := bT_ c39; have c39b1 := bF_ c39; clear c39; obtain ⟨t108, A400, H⟩ := bnd H; have A40 := Aside0.mk A400; clear A400; obtain rfl := Option.some.inj H; obtain ⟨hcz41_0, hcz41_1, hcz41_2, hcz41_3⟩ := cz4 BK101.out; obtain ⟨hfz41_0, hfz41_1, hfz41_2, hfz41_3⟩ := fz4 BK101.out
      go_wp2_with (first | (go_at_call 22; (with_reducible refine (F22.calls kj3 _ _ l0 _ _ l1_0 a1_1 a1_2 a1_3 A2 c2 l2 t104 t105 _ pbb8_1 HC0.out pwh1_2 (by exact HC1_0.out) pwh1_1 HC2.out A12.out).mono ?_); rintro e w42 ⟨v106, rfl, ho0, hb⟩; have HO107 := Aside0.mk (Kd.R_lower ho0 (below_size pbb2_9)); replace BK101 := Aside0.mk (blk_below (g := gb101) (o := .cells #[.slice A1_0 l1_0.length c1_0, .int .i64 a1_1, .bool a1_2, .int .i64 a1_3] 44 (0, 0)) pbb2_10 hb); replace HB := Aside0.mk (below_step pbb2_9 hb); (try clear hb); (try clear hb2); (try clear hk); (try clear hi); (try clear ho0); obtain ⟨Ao43, co43, eo43⟩ := Kd.R_slice HO107.out; subst eo43) | (go_at_call 11; (with_reducible refine (F11.calls kj3 A2 c2 l2 t108 _ pwh1_1 HC2.out A40.out).mono ?_); rintro e w44 ⟨rfl, hb⟩; replace HO107 := Aside0.mk (Kd.R_below pwh1_3 hb); replace BK101 := Aside0.mk (blk_below (g := gb101) (o := .cells #[.slice A1_0 l1_0.length c1_0, .int .i64 a1_1, .bool a1_2, .int .i64 a1_3] 44 (0, 0)) pbb2_10 hb); replace HB := Aside0.mk (below_step pbb2_9 hb); (try clear hb); (try clear hb2); (try clear hk); (try clear hi)))
      repeat (go_quiet (first | (go_at_call 22; (with_reducible refine (F22.calls kj3 _ _ l0 _ _ l1_0 a1_1 a1_2 a1_3 A2 c2 l2 t104 t105 _ pbb8_1 HC0.out pwh1_2 (by exact HC1_0.out) pwh1_1 HC2.out A12.out).mono ?_); rintro e w42 ⟨v106, rfl, ho0, hb⟩; have HO107 := Aside0.mk (Kd.R_lower ho0 (below_size pbb2_9)); replace BK101 := Aside0.mk (blk_below (g := gb101) (o := .cells #[.slice A1_0 l1_0.length c1_0, .int .i64 a1_1, .bool a1_2, .int .i64 a1_3] 44 (0, 0)) pbb2_10 hb); replace HB := Aside0.mk (below_step pbb2_9 hb); (try clear hb); (try clear hb2); (try clear hk); (try clear hi); (try clear ho0); obtain ⟨Ao43, co43, eo43⟩ := Kd.R_slice HO107.out; subst eo43) | (go_at_call 11; (with_reducible refine (F11.calls kj3 A2 c2 l2 t108 _ pwh1_1 HC2.out A40.out).mono ?_); rintro e w44 ⟨rfl, hb⟩; replace HO107 := Aside0.mk (Kd.R_below pwh1_3 hb); replace BK101 := Aside0.mk (blk_below (g := gb101) (o := .cells #[.slice A1_0 l1_0.length c1_0, .int .i64 a1_1, .bool a1_2, .int .i64 a1_3] 44 (0, 0)) pbb2_10 hb); replace HB := Aside0.mk (below_step pbb2_9 hb); (try clear hb); (try clear hb2); (try clear hk); (try clear hi))); try go_wp2_with (first | (go_at_call 22; (with_reducible refine (F22.calls kj3 _ _ l0 _ _ l1_0 a1_1 a1_2 a1_3 A2 c2 l2 t104 t105 _ pbb8_1 HC0.out pwh1_2 (by exact HC1_0.out) pwh1_1 HC2.out A12.out).mono ?_); rintro e w42 ⟨v106, rfl, ho0, hb⟩; have HO107 := Aside0.mk (Kd.R_lower ho0 (below_size pbb2_9)); replace BK101 := Aside0.mk (blk_below (g := gb101) (o := .cells #[.slice A1_0 l1_0.length c1_0, .int .i64 a1_1, .bool a1_2, .int .i64 a1_3] 44 (0, 0)) pbb2_10 hb); replace HB := Aside0.mk (below_step pbb2_9 hb); (try clear hb); (try clear hb2); (try clear hk); (try clear hi); (try clear ho0); obtain ⟨Ao43, co43, eo43⟩ := Kd.R_slice HO107.out; subst eo43) | (go_at_call 11; (with_reducible refine (F11.calls kj3 A2 c2 l2 t108 _ pwh1_1 HC2.out A40.out).mono ?_); rintro e w44 ⟨rfl, hb⟩; replace HO107 := Aside0.mk (Kd.R_below pwh1_3 hb); replace BK101 := Aside0.mk (blk_below (g := gb101) (o := .cells #[.slice A1_0 l1_0.length c1_0, .int .i64 a1_1, .bool a1_2, .int .i64 a1_3] 44 (0, 0)) pbb2_10 hb); replace HB := Aside0.mk (below_step pbb2_9 hb); (try clear hb); (try clear hb2); (try clear hk); (try clear hi))))
      go_ret
      exact ⟨pbb2_5, pbb2_9⟩
     ·rw [if_neg c39] at H; exact absurd H (by simp)
end Go.Proofs.YtegpappenmhndaaDoor.M
end
section
namespace Go.Proofs.YtegpappenmhndaaDoorW.PrintLast
open Go.RowKit Go.Proofs.YtegpappenmhndaaDoorW.PrintWords
section
variable {P : Program} {α β : Type}
structure Opens (P : Program) (d : Kd α) (t : TypeId) (G : α → Prop) : Prop where
  get : ∀ {H : Type} (enc : TypeId × Value → H) (W : World) (base : Nat) (sp : Nat → Bool) (held : Bool) (fuel : Nat) (cs : List Value) (x : DataW H × List MemPlace), DataW.trod enc P W base sp held fuel t cs = some x → (∀ n ∈ DataW.weights P t x.1, n ≤ reachBytes) → ∃ a : α, d.K W a cs ∧ G a
theorem Opens.imp {d : Kd α} {t : TypeId} {G G' : α → Prop} (h : Opens P d t G) (hg : ∀ a, G a → G' a) : Opens P d t G' :=
  ⟨fun enc W base sp held fuel cs x hx hw => let ⟨a, h1, h2⟩ := h.get enc W base sp held fuel cs x hx hw; ⟨a, h1, hg a h2⟩⟩
theorem Opens.int {t : TypeId} {k : IntKind} (ht : P.underlying t = some (.int k)) : Opens P (Kd.int k) t (fun n => (Lit.int k n).wf = true) :=
  ⟨fun enc W base sp held fuel cs x hx hw => by
    obtain ⟨n, rfl, _, h⟩ := DataW.trod_int ht hx; exact ⟨n, rfl, h⟩⟩
theorem Opens.bool {t : TypeId} (ht : P.underlying t = some .bool) : Opens P Kd.bool t (fun _ => True) :=
  ⟨fun enc W base sp held fuel cs x hx hw => by
    obtain ⟨n, rfl, _⟩ := DataW.trod_bool ht hx; exact ⟨n, rfl, trivial⟩⟩
theorem Opens.string {t : TypeId} (ht : P.underlying t = some .string) : Opens P Kd.string t (fun s => s.size ≤ 140737488351232) :=
  ⟨fun enc W base sp held fuel cs x hx hw => by
    obtain ⟨s, rfl, rfl, h⟩ := DataW.trod_string ht hx; have := hw s.data.toList.length (by simp [DataW.weights]); rw [Array.length_toList] at this; exact ⟨s, rfl, this⟩⟩
theorem list_of {Q : Nat → α → Prop} : ∀ n : Nat, (∀ i, i < n → ∃ a, Q i a) → ∃ xs : List α, xs.length = n ∧ ∀ i a, xs[i]? = some a → Q i a
  | 0, _ => ⟨[], rfl, fun i a h => by simp at h⟩
  | n + 1, h => by
    obtain ⟨xs, hl, hx⟩ := list_of n (fun i hi => h i (by omega)); obtain ⟨a, ha⟩ := h n (by omega); refine ⟨xs ++ [a], by simp [hl], fun i b hb => ?_⟩
    by_cases hi : i < n
    · rw [List.getElem?_append_left (by omega)] at hb; exact hx i b hb
    · have hi2 : i < n + 1 := by have := (List.getElem?_eq_some_iff.1 hb).1; simp [hl] at this; exact this
      obtain rfl : i = n := by omega
      rw [List.getElem?_append_right (by omega), hl] at hb
      simp at hb
      subst hb; exact ha
theorem Opens.slice {d : Kd α} {t e : TypeId} {G : α → Prop} (ht : P.underlying t = some (.slice e)) (h : Opens P d e G) (hc : P.cellsOf e = d.sz) {b : Nat} (hb : P.bytesOf e = b) : Opens P (Kd.slice e d) t (fun xs => xs.length * b ≤ 140737488351232 ∧ ∀ x ∈ xs, G x) :=
  ⟨fun {H} enc W base sp held fuel cs x hx hw => by
    rcases DataW.trod_slice ht hx with ⟨rfl, rfl⟩ | ⟨a, len, cap, elems, rest, n, rfl, rfl, rfl, hba, hl, hm, hlen, hel, _, _⟩
    · exact ⟨[], ⟨none, 0, rfl, Nat.le_refl _, rfl, by simp, fun h => absurd h (Nat.lt_irrefl 0)⟩, by simp, fun _ h => by simp at h⟩
    · simp only [DataW.weights, ht] at hw; have hw0 := hw _ (List.mem_cons_self ..)
      have each : ∀ i, i < len → ∃ y : α, (∃ c : List Value, c.length = d.sz ∧ d.K W y c ∧ ∀ j u, c[j]? = some u → W.cell? (a.add (i * d.sz + j)) = some u) ∧ G y := by
        intro i hi; have h1 := hel i hi; rw [List.getElem?_eq_getElem (by omega)] at h1; obtain ⟨c, hcs, h2⟩ := Option.bind_eq_some_iff.1 h1; obtain ⟨_, hcl, hcc⟩ := World.cells?_some hcs
        obtain ⟨y, hk, hg⟩ := h.get enc W base sp held n c _ h2 (fun m hm => hw m (List.mem_cons_of_mem _ (List.mem_append_left _ (by
          have : ∀ (l : List (DataW H)) (z : DataW H), z ∈ l → ∀ m ∈ DataW.weights P e z, m ∈ DataW.weightsAll P e l := by
            intro l z hz m hm
            induction l with
            | nil => simp at hz
            | cons y l ih =>
              simp only [DataW.weightsAll, List.mem_append]
              rcases List.mem_cons.1 hz with rfl | hz
              · exact .inl hm
              · exact .inr (ih hz)
          exact this _ _ (List.mem_map.2 ⟨_, List.getElem_mem (by omega), rfl⟩) m hm))))
        refine ⟨y, ⟨c, by rw [hcl, hc], hk, fun j u hu => ?_⟩, hg⟩; have hj : j < c.length := (List.getElem?_eq_some_iff.1 hu).1; rw [hc] at hcc; have := hcc j (by omega); rw [add_add] at this; rw [this, hu]
      obtain ⟨ys, hyl, hy⟩ := list_of len each; refine ⟨ys, ⟨some a, cap, by rw [hyl], by omega, rfl, ?_, fun _ => ⟨a, rfl, fun j p hj => (hy j p hj).1⟩⟩, ?_, fun y hy' => ?_⟩
      · unfold maxLen at hm; omega
      · rw [hyl]; have h2 : (elems.map (·.1)).length + (rest.map (·.1)).length ≥ len := by simp; omega
        have h3 : len * b ≤ ((elems.map (·.1)).length + (rest.map (·.1)).length) * P.bytesOf e := by rw [hb]; exact Nat.mul_le_mul_right _ h2
        exact Nat.le_trans h3 hw0
      · obtain ⟨j, hj⟩ := List.getElem?_of_mem hy'; exact (hy j y hj).2⟩
theorem Opens.iso {d : Kd α} {t : TypeId} {G : α → Prop} (h : Opens P d t G) (f : β → α) (g : α → β) (hg : ∀ a, f (g a) = a) : Opens P (Kd.iso d f) t (fun b => G (f b)) :=
  ⟨fun enc W base sp held fuel cs x hx hw => let ⟨a, h1, h2⟩ := h.get enc W base sp held fuel cs x hx hw; ⟨g a, by show d.K W (f (g a)) cs; rw [hg]; exact h1, by rw [hg]; exact h2⟩⟩
structure FOpens (P : Program) (d : Kd α) (fs : List Field) (o : Nat) (G : α → Prop) : Prop where
  get : ∀ {H : Type} (enc : TypeId × Value → H) (W : World) (base : Nat) (sp : Nat → Bool) (held : Bool) (n : Nat) (cs : List Value) (xs : List (DataW H × List MemPlace)), o + d.sz = cs.length → xs.length = fs.length →
    (∀ (i : Nat) (f : Field), fs[i]? = some f → DataW.trod enc P W base sp held n f.type ((cs.drop f.offset).take (P.cellsOf f.type)) = xs[i]?) → (∀ m ∈ DataW.weightsEach P (fs.map (·.type)) (xs.map (·.1)), m ≤ reachBytes) → ∃ a : α, d.K W a (cs.drop o) ∧ G a
theorem FOpens.one {d : Kd α} {f : Field} {o : Nat} {G : α → Prop} (h : Opens P d f.type G) (ho : f.offset = o) (hs : P.cellsOf f.type = d.sz) : FOpens P d [f] o G :=
  ⟨fun enc W base sp held n cs xs hl hx ht hw => by
    obtain ⟨x, rfl⟩ := List.length_eq_one_iff.1 hx; have h1 := ht 0 f rfl; rw [ho, hs, List.take_of_length_le (by simp; omega)] at h1; exact h.get enc W base sp held n _ x h1 (fun m hm => hw m (by simpa [DataW.weightsEach] using hm))⟩
theorem FOpens.cons {d : Kd α} {d2 : Kd β} {f : Field} {fs : List Field} {o : Nat} {G : α → Prop} {G2 : β → Prop} (h : Opens P d f.type G) (ho : f.offset = o) (hs : P.cellsOf f.type = d.sz) (hr : FOpens P d2 fs (o + d.sz) G2) : FOpens P (Kd.pair d d2) (f :: fs) o (fun p => G p.1 ∧ G2 p.2) :=
  ⟨fun enc W base sp held n cs xs hl hx ht hw => by
    cases xs with
    | nil => simp at hx
    | cons x xs =>
      have h1 := ht 0 f rfl; simp only [List.getElem?_cons_zero] at h1; rw [ho, hs] at h1; have e : o + (Kd.pair d d2).sz = o + d.sz + d2.sz := by show o + (d.sz + d2.sz) = _; omega
      obtain ⟨a, ha, hga⟩ := h.get enc W base sp held n _ x h1 (fun m hm => hw m (by simp only [List.map_cons, DataW.weightsEach, List.mem_append]; exact .inl hm)); obtain ⟨b, hb, hgb⟩ := hr.get enc W base sp held n cs xs (by omega) (by simpa using hx) (fun i f' hf => by simpa using ht (i + 1) f' (by simpa using hf)) (fun m hm => hw m (by simp only [List.map_cons, DataW.weightsEach, List.mem_append]; exact .inr hm)); refine ⟨(a, b), ⟨_, _, ?_, ha, hb⟩, hga, hgb⟩; rw [← List.drop_drop, List.take_append_drop]⟩
theorem Opens.struct {d : Kd α} {t : TypeId} {fs : Array Field} {G : α → Prop} (ht : P.underlying t = some (.struct fs)) (hs : P.cellsOf t = d.sz) (h : FOpens P d fs.toList 0 G) : Opens P d t G :=
  ⟨fun enc W base sp held fuel cs x hx hw => by
    obtain ⟨xs, n, rfl, rfl, hl, hxl, hi⟩ := DataW.trod_struct ht hx; simp only [DataW.weights, ht] at hw; have := h.get enc W base sp held n cs xs (by omega) (by simpa using hxl) (fun i f hf => hi i f (by simpa using hf)) hw
    simpa using this⟩
theorem weights_at {H : Type} {ts : List TypeId} {ds : List (DataW H)} (h : (DataW.weightsEach P ts ds).all (· ≤ reachBytes) = true) {j : Nat} {t : TypeId} {d : DataW H} (ht : ts[j]? = some t) (hd : ds[j]? = some d) : ∀ n ∈ DataW.weights P t d, n ≤ reachBytes :=
  fun n hn => by simpa using List.all_eq_true.1 h _ (DataW.weights_mem_each ht hd n hn)
end
end Go.Proofs.YtegpappenmhndaaDoorW.PrintLast
end
section
namespace Go.Proofs.YtegpappenmhndaaDoor.M
open Go.RowKit Go.Proofs.YtegpappenmhndaaDoorW.PrintWords Go.Proofs.YtegpappenmhndaaDoorW.PrintLast Go.Proofs.YtegpappenmhndaaDoorW.PrintMore
attribute [local go_sem] max2_int min2_int max_two min_two max_three min_three max_four min_four
set_option linter.unusedVariables false
set_option linter.unusedSimpArgs false
def G23 (x_ : S23) : Prop := ((Lit.int .i64 x_.f0).wf = true) ∧ (((Lit.int .i64 x_.f1).wf = true) ∧ ((x_.f2.size ≤ 140737488351232) ∧ (((Lit.int .i64 x_.f3).wf = true) ∧ (((Lit.int .i64 x_.f4).wf = true) ∧ (((Lit.int .i64 x_.f5).wf = true) ∧ ((x_.f6.size ≤ 140737488351232) ∧ ((Lit.int .i64 x_.f7).wf = true)))))))
theorem opens23 : Opens Tryd.prog k23 23 G23 :=
  Opens.imp (Opens.iso (Opens.struct Tryd.underlying23 (by kernel_rfl) (FOpens.cons (Opens.int Tryd.underlying3) rfl (by kernel_rfl) (FOpens.cons (Opens.int Tryd.underlying3) rfl (by kernel_rfl) (FOpens.cons (Opens.string Tryd.underlying9) rfl (by kernel_rfl) (FOpens.cons (Opens.int Tryd.underlying3) rfl (by kernel_rfl) (FOpens.cons (Opens.int Tryd.underlying3) rfl (by kernel_rfl) (FOpens.cons (Opens.int Tryd.underlying3) rfl (by kernel_rfl) (FOpens.cons (Opens.string Tryd.underlying9) rfl (by kernel_rfl) (FOpens.one (Opens.int Tryd.underlying3) rfl (by kernel_rfl)))))))))) (fun x : S23 => (x.f0, x.f1, x.f2, x.f3, x.f4, x.f5, x.f6, x.f7)) (fun p => (⟨p.1, p.2.1, p.2.2.1, p.2.2.2.1, p.2.2.2.2.1, p.2.2.2.2.2.1, p.2.2.2.2.2.2.1, p.2.2.2.2.2.2.2⟩ : S23)) (fun _ => rfl)) (fun _ h => h)
def G44 (x_ : S44) : Prop := (x_.f0.length * 8 ≤ 140737488351232 ∧ ∀ y0_ ∈ x_.f0, (Lit.int .i64 y0_).wf = true) ∧ (((Lit.int .i64 x_.f1).wf = true) ∧ ((True) ∧ ((Lit.int .i64 x_.f3).wf = true)))
theorem opens44 : Opens Tryd.prog k44 44 G44 :=
  Opens.imp (Opens.iso (Opens.struct Tryd.underlying44 (by kernel_rfl) (FOpens.cons (Opens.slice Tryd.underlying37 (Opens.int Tryd.underlying3) (by kernel_rfl) (b := 8) (by kernel_rfl)) rfl (by kernel_rfl) (FOpens.cons (Opens.int Tryd.underlying3) rfl (by kernel_rfl) (FOpens.cons (Opens.bool Tryd.underlying4) rfl (by kernel_rfl) (FOpens.one (Opens.int Tryd.underlying3) rfl (by kernel_rfl)))))) (fun x : S44 => (x.f0, x.f1, x.f2, x.f3)) (fun p => (⟨p.1, p.2.1, p.2.2.1, p.2.2.2⟩ : S44)) (fun _ => rfl)) (fun _ h => h)
/-- THE ONE PURE STATEMENT of F8. -/
def F8.Pure : Prop := ∀ (x0 : List (S23)) (x1 : S44), (x0.length * 80 ≤ 140737488351232 ∧ ∀ y0_ ∈ x0, G23 y0_) → (G44 x1) → ∃ k, F8.f k x0 x1.f0 x1.f1 x1.f2 x1.f3 months = some true
end Go.Proofs.YtegpappenmhndaaDoor.M
end
section
namespace Go.Proofs.YtegpappenmhndaaDoor.M
open Go.RowKit Go.Proofs.YtegpappenmhndaaDoorW.PrintWords Go.Proofs.YtegpappenmhndaaDoorW.PrintLast
set_option linter.unusedVariables false
set_option linter.unusedSimpArgs false
def dayv (n : Int) : Bool := decide (0 ≤ n ∧ n ≤ 109572)
def bef (y : Int) : Int := 365 * (y - 1900) + ((y - 1) / 4 - (y - 1) / 100 + (y - 1) / 400 - 460)
def lpv (y : Int) : Bool := (decide (y % 4 = 0) && !decide (y % 100 = 0)) || decide (y % 400 = 0)
theorem F62.eq {y : Int} (h0 : 1900 ≤ y) (h1 : y ≤ 2200) : F62.f y = some (bef y) := by
 unfold F62.f bef
 rw [w64 (n := y - 1) (by omega) (by omega), w64 (n := y - 1900) (by omega) (by omega), w64 (n := 365 * (y - 1900)) (by omega) (by omega)]; rw [Int.tdiv_eq_ediv_of_nonneg (by omega), Int.tdiv_eq_ediv_of_nonneg (by omega), Int.tdiv_eq_ediv_of_nonneg (by omega)]; rw [w64 (n := (y - 1) / 4) (by omega) (by omega), w64 (n := (y - 1) / 100) (by omega) (by omega), w64 (n := (y - 1) / 400) (by omega) (by omega)]; rw [w64 (n := (y - 1) / 4 - (y - 1) / 100) (by omega) (by omega)]; rw [w64 (n := (y - 1) / 4 - (y - 1) / 100 + (y - 1) / 400) (by omega) (by omega)]; rw [w64 (n := (y - 1) / 4 - (y - 1) / 100 + (y - 1) / 400 - 474) (by omega) (by omega)]; rw [w64 (n := (y - 1) / 4 - (y - 1) / 100 + (y - 1) / 400 - 474 + 18) (by omega) (by omega)]; rw [w64 (n := (y - 1) / 4 - (y - 1) / 100 + (y - 1) / 400 - 474 + 18 - 4) (by omega) (by omega)]; rw [w64 (by omega) (by omega)]
 congr 1
 omega
theorem F73.eq {y : Int} (h0 : 1900 ≤ y) : F73.f y = some (lpv y) := by
 unfold F73.f lpv
 rw [Int.tmod_eq_emod_of_nonneg (by omega), Int.tmod_eq_emod_of_nonneg (by omega), Int.tmod_eq_emod_of_nonneg (by omega)]
 by_cases a : y % 4 = 0 <;> by_cases b : y % 100 = 0 <;> by_cases c : y % 400 = 0 <;> simp [a, b, c] <;> omega
def ml (lp : Bool) (m : Int) : Int := if m = 2 then (if lp = true then 29 else 28) else rd months (m - 1)
theorem F63.eq {y m : Int} (h0 : 1900 ≤ y) (h1 : 1 ≤ m) (h2 : m ≤ 12) : F63.f y m months = some (ml (lpv y) m) := by
 unfold F63.f ml
 rw [if_neg (by decide), if_neg (by omega), if_neg (by omega), F73.eq h0]
 by_cases e : m = 2
 ·rw [if_pos e, if_pos e, Option.bind_some]
  cases lpv y with
  | true => rfl
  | false => subst e; rfl
 ·rw [if_neg e, if_neg e]
def tl (lp : Bool) : Nat → Int
 | 0 => 0
 | j + 1 => ml lp (12 - (j : Int)) + tl lp j
theorem tl_12 (lp : Bool) : tl lp 12 = if lp = true then 366 else 365 := by cases lp <;> rfl
theorem ml_range (lp : Bool) : ∀ j : Nat, j < 12 → 28 ≤ ml lp (12 - (j : Int)) ∧ ml lp (12 - (j : Int)) ≤ 31 := by
 intro j hj; have : ∀ lp : Bool, ∀ j : Fin 12, 28 ≤ ml lp (12 - ((j.val : Nat) : Int)) ∧ ml lp (12 - ((j.val : Nat) : Int)) ≤ 31 := by decide
 exact this lp ⟨j, hj⟩
theorem F47.go1 {y : Int} (h0 : 1900 ≤ y) (d : Int) : ∀ (j : Nat) (n : Int), j ≤ 12 → 0 ≤ n → n < tl (lpv y) j → n ≤ 1000 → ∃ a b, Ev (fun k => F47.l1 k n months y (13 - (j : Int)) d) (y, a, b, 0)
 | 0, n, _, hn, h, _ => by simp [tl] at h; omega
 | j + 1, n, hj, hn, h, hn2 => by
  have hr := ml_range (lpv y) j (by omega); have e : (13 : Int) - ((j + 1 : Nat) : Int) = 12 - (j : Int) := by omega
  have hL : F63.f y (13 - ((j + 1 : Nat) : Int)) months = some (ml (lpv y) (12 - (j : Int))) := by
   rw [e]; exact F63.eq h0 (by omega) (by omega)
  by_cases c : n ≥ ml (lpv y) (12 - (j : Int))
  ·obtain ⟨a, b, ih⟩ := F47.go1 h0 d j (n - ml (lpv y) (12 - (j : Int))) (by omega) (by omega) (by simp only [tl] at h; omega) (by omega); refine ⟨a, b, Ev.succ ?_⟩; simp only [F47.l1, hL, Option.bind_some, if_pos c]; rw [w64 (n := n - _) (by omega) (by omega), w64 (n := 13 - ((j + 1 : Nat) : Int) + 1) (by omega) (by omega), show (13 : Int) - ((j + 1 : Nat) : Int) + 1 = 13 - (j : Int) by omega]; exact ih
  ·refine ⟨13 - ((j + 1 : Nat) : Int), wrap64 (n + 1), Ev.succ ?_⟩; simp only [F47.l1, hL, Option.bind_some, if_neg c]; exact Ev.const _
theorem bef_next (y : Int) : bef (y + 1) - bef y = if lpv y = true then 366 else 365 := by
 unfold bef lpv
 by_cases a : y % 4 = 0 <;> by_cases b : y % 100 = 0 <;> by_cases c : y % 400 = 0 <;> simp [a, b, c] <;> omega
theorem F47.end_ {n y : Int} (d : Int) (h0 : 1900 ≤ y) (h1 : y ≤ 2199) (hb : bef y ≤ n) (hn : n < bef (y + 1)) (hn2 : n ≤ 109572) : ∃ a b, Ev (fun k => F47.j1 k n months y 0 d) (y, a, b, 0) := by
 have hd := bef_next y; have hbb : -1000 ≤ bef y ∧ bef y ≤ 110000 := by unfold bef; omega
 obtain ⟨a, b, ih⟩ := F47.go1 h0 d 12 (n - bef y) (by omega) (by omega) (by rw [tl_12]; omega) (by split at hd <;> omega); refine ⟨a, b, Ev.succ ?_⟩; simp only [F47.j1, F62.eq h0 (by omega : y ≤ 2200), Option.bind_some]; rw [w64 (n := n - _) (by omega) (by omega)]; exact ih
theorem F47.go0 {n : Int} (d : Int) (hn2 : n ≤ 109572) : ∀ (j : Nat) (y : Int), y + j = 2199 → 1900 ≤ y → bef y ≤ n → ∃ y' a b, Ev (fun k => F47.l0 k n months y 0 d) (y', a, b, 0)
 | 0, y, hy, h0, hb => by
  obtain rfl : y = 2199 := by omega
  obtain ⟨a, b, ih⟩ := F47.end_ (n := n) d (y := 2199) (by omega) (by omega) hb (by rw [show bef (2199 + 1) = 109573 by decide]; omega) hn2; refine ⟨2199, a, b, Ev.succ ?_⟩; simp only [F47.l0, if_neg (show ¬ (2199 : Int) < 2199 by omega)]; exact ih
 | j + 1, y, hy, h0, hb => by
  by_cases c : bef (y + 1) ≤ n
  ·obtain ⟨y', a, b, ih⟩ := F47.go0 d hn2 j (y + 1) (by omega) (by omega) c; refine ⟨y', a, b, Ev.succ ?_⟩; simp only [F47.l0, if_pos (show y < 2199 by omega), w64 (n := y + 1) (by omega) (by omega), F62.eq (y := y + 1) (by omega) (by omega), Option.bind_some, if_pos c]; exact ih
  ·obtain ⟨a, b, ih⟩ := F47.end_ (n := n) d (y := y) h0 (by omega) hb (by omega) hn2; refine ⟨y, a, b, Ev.succ ?_⟩; simp only [F47.l0, if_pos (show y < 2199 by omega), w64 (n := y + 1) (by omega) (by omega), F62.eq (y := y + 1) (by omega) (by omega), Option.bind_some, if_neg c]; exact ih
theorem F61.eq (n : Int) : F61.f n = some (dayv n) := by
 unfold F61.f dayv
 by_cases a : n ≥ 0 <;> by_cases b : n ≤ 109572 <;> simp [a, b] <;> omega
theorem F47.ok (n : Int) : ∃ y a b, Ev (fun k => F47.f k n months) (y, a, b, if dayv n = true then 0 else 11) := by
 unfold F47.f
 simp only [F61.eq, Option.bind_some]
 by_cases c : dayv n = true
 ·simp only [if_pos c]; have hc : 0 ≤ n ∧ n ≤ 109572 := of_decide_eq_true c; have hy : bef (1900 + n / 366) ≤ n := by unfold bef; omega
  rw [Int.tdiv_eq_ediv_of_nonneg hc.1, w64 (n := n / 366) (by omega) (by omega), w64 (n := 1900 + n / 366) (by omega) (by omega)]; exact F47.go0 0 hc.2 (2199 - (1900 + n / 366)).toNat _ (by omega) (by omega) hy
 ·simp only [if_neg c]; exact ⟨0, 0, 0, Ev.const _⟩
end Go.Proofs.YtegpappenmhndaaDoor.M
end
section
namespace Go.Proofs.YtegpappenmhndaaDoor.M
open Go.RowKit Go.Proofs.YtegpappenmhndaaDoorW.PrintWords Go.Proofs.YtegpappenmhndaaDoorW.PrintLast Go.Proofs.YtegpappenmhndaaDoorW.PrintMore
attribute [local go_sem] max2_int min2_int max_two min_two max_three min_three max_four min_four
set_option linter.unusedVariables false
set_option linter.unusedSimpArgs false
def F32.f (a0 : Int) : Option (Bool) := if a0 ≥ 0 then (some (decide (a0 ≤ 109572))) else (some false)
set_option maxHeartbeats 8000000 in
set_option maxRecDepth 100000 in
theorem F32.calls (a0 : Int) (r : Bool) (w : World) (h : F32.f a0 = some r) :
    Calls Tryd.prog 32 #[.int .i64 a0] w fun e w' => e = .returned (.bool r) ∧ Drawn0 w w' := by
 unfold F32.f at h
 have H := h; clear h
 by_cases c2 : a0 ≥ 0
 ·rw [if_pos c2] at H; have c2b0 : decide (0 ≤ a0) = true := decide_eq_true c2; clear c2; obtain rfl := Option.some.inj H; go_enter Tryd.func32, Tryd.ntmps32
  go_wp2
  go_ret
  exact ⟨pbb2_0, pbb2_1⟩
 ·rw [if_neg c2] at H; have c2b0 : decide (0 ≤ a0) = false := decide_eq_false c2; clear c2; obtain rfl := Option.some.inj H; go_enter Tryd.func32, Tryd.ntmps32
  go_wp2
  go_ret
  exact ⟨pbb2_0, pbb2_1⟩
def F54.f (a0 : Int) : Option (Bool) := if a0 ≥ 1 then (some (decide (a0 ≤ 4))) else (some false)
set_option maxHeartbeats 8000000 in
set_option maxRecDepth 100000 in
theorem F54.calls (a0 : Int) (r : Bool) (w : World) (h : F54.f a0 = some r) :
    Calls Tryd.prog 54 #[.int .i64 a0] w fun e w' => e = .returned (.bool r) ∧ Drawn0 w w' := by
 unfold F54.f at h
 have H := h; clear h
 by_cases c2 : a0 ≥ 1
 ·rw [if_pos c2] at H; have c2b0 : decide (1 ≤ a0) = true := decide_eq_true c2; clear c2; obtain rfl := Option.some.inj H; go_enter Tryd.func54, Tryd.ntmps54
  go_wp2
  go_ret
  exact ⟨pbb2_0, pbb2_1⟩
 ·rw [if_neg c2] at H; have c2b0 : decide (1 ≤ a0) = false := decide_eq_false c2; clear c2; obtain rfl := Option.some.inj H; go_enter Tryd.func54, Tryd.ntmps54
  go_wp2
  go_ret
  exact ⟨pbb2_0, pbb2_1⟩
def F34.f (a0_0 : Int) (a0_1 : Int) (a0_2 : ByteArray) (a0_3 : Int) (a0_4 : Int) (a0_5 : Int) (a0_6 : ByteArray) (a0_7 : Int) : Option (Bool) := (F54.f a0_3).bind fun t102 => (if t102 = true then (if a0_4 ≥ 1 then (some (decide (a0_4 ≤ 1000000000))) else (some false)) else (some (a0_4 == 0)))
set_option maxHeartbeats 8000000 in
set_option maxRecDepth 100000 in
theorem F34.calls (a0_0 : Int) (a0_1 : Int) (a0_2 : ByteArray) (a0_3 : Int) (a0_4 : Int) (a0_5 : Int) (a0_6 : ByteArray) (a0_7 : Int) (r : Bool) (w : World) (h : F34.f a0_0 a0_1 a0_2 a0_3 a0_4 a0_5 a0_6 a0_7 = some r) :
    Calls Tryd.prog 34 #[.agg #[.int .i64 a0_0, .int .i64 a0_1, .string a0_2, .int .i64 a0_3, .int .i64 a0_4, .int .i64 a0_5, .string a0_6, .int .i64 a0_7]] w fun e w' => e = .returned (.bool r) ∧ Below w.heap.size w w' := by
 have hu23 := Tryd.underlying23; have hu3 := Tryd.underlying3; have HB := Aside0.mk (Below.refl w.heap.size w)
 unfold F34.f at h
 have H := h; clear h; obtain ⟨t102, A20, H⟩ := bnd H; have A2 := Aside0.mk A20; clear A20
 by_cases c3 : t102 = true
 ·subst c3; rw [if_pos rfl] at H
  by_cases c4 : a0_4 ≥ 1
  ·rw [if_pos c4] at H; have c4b0 : decide (1 ≤ a0_4) = true := decide_eq_true c4; clear c4; obtain rfl := Option.some.inj H; go_enter Tryd.func34, Tryd.ntmps34
   go_wp2_with (first | ((with_reducible refine gate_dst (N := 1) rfl ?_); refine box_event ?hg (N := 1) ?hd (cs := #[.int .i64 a0_0, .int .i64 a0_1, .string a0_2, .int .i64 a0_3, .int .i64 a0_4, .int .i64 a0_5, .string a0_6, .int .i64 a0_7]) (t := 23) ?hr ?_; (case hd => rfl); (case hg => rfl); (case hr => first | (go_simp; done) | (go_simp; rfl)); intro gb101 hg w5 hbox hb; have BK101 := Aside0.mk (hbox); have GW101 := Aside0.mk ((pbb2_6 : w.heap.size ≤ gb101)); have GE101 := Aside0.mk ((pbb2_6 : w.heap.size ≤ gb101)); replace HB := Aside0.mk (below_step pbb2_3 hb); clear hb hbox hg; obtain ⟨hcz6_0, hcz6_1, hcz6_2, hcz6_3, hcz6_4, hcz6_5, hcz6_6, hcz6_7⟩ := cz8 BK101.out; obtain ⟨hfz6_0, hfz6_1, hfz6_2, hfz6_3, hfz6_4, hfz6_5, hfz6_6, hfz6_7⟩ := fz8 BK101.out) | ((with_reducible refine gate_callee (f := 54) rfl ?_); refine goesL_ (some 5) rfl rfl Tryd.func54 (by kernel_rfl) rfl #[.int .i64 a0_3] rfl pbb2_2 ?_; (with_reducible refine (F54.calls a0_3 true _ A2.out).mono ?_); rintro e w' ⟨rfl, ⟨nd, rfl⟩⟩; refine ⟨_, rfl, ?_⟩))
   go_ret
   exact ⟨pbb2_5, pbb2_9⟩
  ·rw [if_neg c4] at H; have c4b0 : decide (1 ≤ a0_4) = false := decide_eq_false c4; clear c4; obtain rfl := Option.some.inj H; go_enter Tryd.func34, Tryd.ntmps34
   go_wp2_with (first | ((with_reducible refine gate_dst (N := 1) rfl ?_); refine box_event ?hg (N := 1) ?hd (cs := #[.int .i64 a0_0, .int .i64 a0_1, .string a0_2, .int .i64 a0_3, .int .i64 a0_4, .int .i64 a0_5, .string a0_6, .int .i64 a0_7]) (t := 23) ?hr ?_; (case hd => rfl); (case hg => rfl); (case hr => first | (go_simp; done) | (go_simp; rfl)); intro gb101 hg w7 hbox hb; have BK101 := Aside0.mk (hbox); have GW101 := Aside0.mk ((pbb2_6 : w.heap.size ≤ gb101)); have GE101 := Aside0.mk ((pbb2_6 : w.heap.size ≤ gb101)); replace HB := Aside0.mk (below_step pbb2_3 hb); clear hb hbox hg; obtain ⟨hcz8_0, hcz8_1, hcz8_2, hcz8_3, hcz8_4, hcz8_5, hcz8_6, hcz8_7⟩ := cz8 BK101.out; obtain ⟨hfz8_0, hfz8_1, hfz8_2, hfz8_3, hfz8_4, hfz8_5, hfz8_6, hfz8_7⟩ := fz8 BK101.out) | ((with_reducible refine gate_callee (f := 54) rfl ?_); refine goesL_ (some 5) rfl rfl Tryd.func54 (by kernel_rfl) rfl #[.int .i64 a0_3] rfl pbb2_2 ?_; (with_reducible refine (F54.calls a0_3 true _ A2.out).mono ?_); rintro e w' ⟨rfl, ⟨nd, rfl⟩⟩; refine ⟨_, rfl, ?_⟩))
   go_ret
   exact ⟨pbb2_5, pbb2_9⟩
 ·replace c3 := Bool.eq_false_iff.mpr c3; subst c3; rw [if_neg (show ¬ (false = true) by decide)] at H; obtain rfl := Option.some.inj H; go_enter Tryd.func34, Tryd.ntmps34
  go_wp2_with (first | ((with_reducible refine gate_dst (N := 1) rfl ?_); refine box_event ?hg (N := 1) ?hd (cs := #[.int .i64 a0_0, .int .i64 a0_1, .string a0_2, .int .i64 a0_3, .int .i64 a0_4, .int .i64 a0_5, .string a0_6, .int .i64 a0_7]) (t := 23) ?hr ?_; (case hd => rfl); (case hg => rfl); (case hr => first | (go_simp; done) | (go_simp; rfl)); intro gb101 hg w9 hbox hb; have BK101 := Aside0.mk (hbox); have GW101 := Aside0.mk ((pbb2_6 : w.heap.size ≤ gb101)); have GE101 := Aside0.mk ((pbb2_6 : w.heap.size ≤ gb101)); replace HB := Aside0.mk (below_step pbb2_3 hb); clear hb hbox hg; obtain ⟨hcz10_0, hcz10_1, hcz10_2, hcz10_3, hcz10_4, hcz10_5, hcz10_6, hcz10_7⟩ := cz8 BK101.out; obtain ⟨hfz10_0, hfz10_1, hfz10_2, hfz10_3, hfz10_4, hfz10_5, hfz10_6, hfz10_7⟩ := fz8 BK101.out) | ((with_reducible refine gate_callee (f := 54) rfl ?_); refine goesL_ (some 5) rfl rfl Tryd.func54 (by kernel_rfl) rfl #[.int .i64 a0_3] rfl pbb2_2 ?_; (with_reducible refine (F54.calls a0_3 false _ A2.out).mono ?_); rintro e w' ⟨rfl, ⟨nd, rfl⟩⟩; refine ⟨_, rfl, ?_⟩))
  go_ret
  exact ⟨pbb2_5, pbb2_9⟩
def F35.j0 : Nat → Int → Bool → Int → Int → ByteArray → Int → Int → Int → ByteArray → Int → Option (Bool)
  | 0, _, _, _, _, _, _, _, _, _, _ => none
  | k + 1, x4, x5, x102000, x102001, x102002, x102003, x102004, x102005, x102006, x102007 => if x5 = true then (some (x102005 == 0)) else (if x4 = 5 then (if x102005 ≥ 1 then (some (decide (x102005 ≤ 1000000000000))) else (some false)) else (if x102005 ≥ 0 then (some (decide (x102005 ≤ 1000000000000))) else (some false)))
def F35.f (k : Nat) (a0_0 : Int) (a0_1 : Int) (a0_2 : ByteArray) (a0_3 : Int) (a0_4 : Int) (a0_5 : Int) (a0_6 : ByteArray) (a0_7 : Int) : Option (Bool) := if a0_3 = 2 then (F35.j0 k a0_3 (a0_3 == 2) a0_0 a0_1 a0_2 a0_3 a0_4 a0_5 a0_6 a0_7) else (F35.j0 k a0_3 (a0_3 == 3) a0_0 a0_1 a0_2 a0_3 a0_4 a0_5 a0_6 a0_7)
set_option maxHeartbeats 8000000 in
set_option maxRecDepth 100000 in
theorem F35.calls (k : Nat) (a0_0 : Int) (a0_1 : Int) (a0_2 : ByteArray) (a0_3 : Int) (a0_4 : Int) (a0_5 : Int) (a0_6 : ByteArray) (a0_7 : Int) (r : Bool) (w : World) (h : F35.f k a0_0 a0_1 a0_2 a0_3 a0_4 a0_5 a0_6 a0_7 = some r) :
    Calls Tryd.prog 35 #[.agg #[.int .i64 a0_0, .int .i64 a0_1, .string a0_2, .int .i64 a0_3, .int .i64 a0_4, .int .i64 a0_5, .string a0_6, .int .i64 a0_7]] w fun e w' => e = .returned (.bool r) ∧ Below w.heap.size w w' := by
 have hu23 := Tryd.underlying23; have hu3 := Tryd.underlying3; have HB := Aside0.mk (Below.refl w.heap.size w)
 unfold F35.f at h
 have H := h; clear h; have HC2 := Aside0.mk H; clear H; go_enter Tryd.func35, Tryd.ntmps35
 go_upto_if 5 with (first | ((with_reducible refine gate_dst (N := 1) rfl ?_); refine box_event ?hg (N := 1) ?hd (cs := #[.int .i64 a0_0, .int .i64 a0_1, .string a0_2, .int .i64 a0_3, .int .i64 a0_4, .int .i64 a0_5, .string a0_6, .int .i64 a0_7]) (t := 23) ?hr ?_; (case hd => rfl); (case hg => rfl); (case hr => first | (go_simp; done) | (go_simp; rfl)); intro gb101 hg w3 hbox hb; have BK101 := Aside0.mk (hbox); have GW101 := Aside0.mk ((pbb2_6 : w.heap.size ≤ gb101)); have GE101 := Aside0.mk ((pbb2_6 : w.heap.size ≤ gb101)); replace HB := Aside0.mk (below_step pbb2_3 hb); clear hb hbox hg; obtain ⟨hcz4_0, hcz4_1, hcz4_2, hcz4_3, hcz4_4, hcz4_5, hcz4_6, hcz4_7⟩ := cz8 BK101.out; obtain ⟨hfz4_0, hfz4_1, hfz4_2, hfz4_3, hfz4_4, hfz4_5, hfz4_6, hfz4_7⟩ := fz8 BK101.out))
 (try simp only [Act.put, List.setIfInBounds_toArray, List.set_cons_zero, List.set_cons_succ])
 go_cut [5] (fun v5 wc => ∃ (kq : Nat) (x5_1 : Bool), v5 = .bool x5_1 ∧ Aside0 (F35.j0 kq a0_3 x5_1 a0_0 a0_1 a0_2 a0_3 a0_4 a0_5 a0_6 a0_7 = some r) ∧ Aside0 (kq ≤ k) ∧ Aside0 (wc.heap[gb101]? = some (.cells #[.int .i64 a0_0, .int .i64 a0_1, .string a0_2, .int .i64 a0_3, .int .i64 a0_4, .int .i64 a0_5, .string a0_6, .int .i64 a0_7] 23 (0, 0))) ∧ Aside0 (Below w.heap.size w wc))
 case first =>
  have H := HC2.out; clear HC2
  by_cases c5 : a0_3 = 2
  ·rw [if_pos c5] at H; have c5b0 := bT_ c5; have c5b1 := bF_ c5; clear c5; (first | rw [c5b0] | (simp only [i64_w, i32_w]; rw [c5b0]) | skip); have H' := Aside0.mk H; clear H
   go_wp2
   go_meet
   case rel => exact ⟨_, ((a0_3 == 2)), pbb2_0, H', ⟨pwh1_0⟩, ⟨pbb2_10⟩, ⟨pbb2_9⟩⟩
  ·rw [if_neg c5] at H; have c5b0 := nF_ c5; have c5b1 := nT_ c5; (first | rw [c5b0] | (simp only [i64_w, i32_w]; rw [c5b0]) | skip); have H' := Aside0.mk H; clear H
   go_wp2
   go_meet
   case rel => exact ⟨_, ((a0_3 == 3)), pbb2_0, H', ⟨pwh1_0⟩, ⟨pbb2_10⟩, ⟨pbb2_9⟩⟩
 case rest =>
  clear HC2; obtain ⟨kq, x5_1, rfl, HA, HJ1, BK101, HB⟩ := hcut
  cases kq with
  | zero => exact absurd HA.out (by simp [F35.j0])
  | succ kj1 =>
   have H := HA.out; clear HA; simp only [F35.j0] at H
   by_cases c6 : x5_1 = true
   ·subst c6; rw [if_pos rfl] at H; obtain rfl := Option.some.inj H; obtain ⟨hcz7_0, hcz7_1, hcz7_2, hcz7_3, hcz7_4, hcz7_5, hcz7_6, hcz7_7⟩ := cz8 BK101.out; obtain ⟨hfz7_0, hfz7_1, hfz7_2, hfz7_3, hfz7_4, hfz7_5, hfz7_6, hfz7_7⟩ := fz8 BK101.out
    go_wp2
    go_ret
    exact ⟨pbb2_5, pbb2_9⟩
   ·replace c6 := Bool.eq_false_iff.mpr c6; subst c6; rw [if_neg (show ¬ (false = true) by decide)] at H
    by_cases c8 : a0_3 = 5
    ·rw [if_pos c8] at H; have c8b0 := bT_ c8; have c8b1 := bF_ c8; clear c8
     by_cases c9 : a0_5 ≥ 1
     ·rw [if_pos c9] at H; have c9b0 : decide (1 ≤ a0_5) = true := decide_eq_true c9; clear c9; obtain rfl := Option.some.inj H; obtain ⟨hcz10_0, hcz10_1, hcz10_2, hcz10_3, hcz10_4, hcz10_5, hcz10_6, hcz10_7⟩ := cz8 BK101.out; obtain ⟨hfz10_0, hfz10_1, hfz10_2, hfz10_3, hfz10_4, hfz10_5, hfz10_6, hfz10_7⟩ := fz8 BK101.out
      go_wp2
      go_ret
      exact ⟨pbb2_5, pbb2_9⟩
     ·rw [if_neg c9] at H; have c9b0 : decide (1 ≤ a0_5) = false := decide_eq_false c9; clear c9; obtain rfl := Option.some.inj H; obtain ⟨hcz11_0, hcz11_1, hcz11_2, hcz11_3, hcz11_4, hcz11_5, hcz11_6, hcz11_7⟩ := cz8 BK101.out; obtain ⟨hfz11_0, hfz11_1, hfz11_2, hfz11_3, hfz11_4, hfz11_5, hfz11_6, hfz11_7⟩ := fz8 BK101.out
      go_wp2
      go_ret
      exact ⟨pbb2_5, pbb2_9⟩
    ·rw [if_neg c8] at H; have c8b0 := nF_ c8; have c8b1 := nT_ c8
     by_cases c12 : a0_5 ≥ 0
     ·rw [if_pos c12] at H; have c12b0 : decide (0 ≤ a0_5) = true := decide_eq_true c12; clear c12; obtain rfl := Option.some.inj H; obtain ⟨hcz13_0, hcz13_1, hcz13_2, hcz13_3, hcz13_4, hcz13_5, hcz13_6, hcz13_7⟩ := cz8 BK101.out; obtain ⟨hfz13_0, hfz13_1, hfz13_2, hfz13_3, hfz13_4, hfz13_5, hfz13_6, hfz13_7⟩ := fz8 BK101.out
      go_wp2
      go_ret
      exact ⟨pbb2_5, pbb2_9⟩
     ·rw [if_neg c12] at H; have c12b0 : decide (0 ≤ a0_5) = false := decide_eq_false c12; clear c12; obtain rfl := Option.some.inj H; obtain ⟨hcz14_0, hcz14_1, hcz14_2, hcz14_3, hcz14_4, hcz14_5, hcz14_6, hcz14_7⟩ := cz8 BK101.out; obtain ⟨hfz14_0, hfz14_1, hfz14_2, hfz14_3, hfz14_4, hfz14_5, hfz14_6, hfz14_7⟩ := fz8 BK101.out
      go_wp2
      go_ret
      exact ⟨pbb2_5, pbb2_9⟩
def F36.f (a0 : Int) : Option (Bool) := if a0 = 3 then (some true) else (if a0 = 4 then (some true) else (some (a0 == 5)))
set_option maxHeartbeats 8000000 in
set_option maxRecDepth 100000 in
theorem F36.calls (a0 : Int) (r : Bool) (w : World) (h : F36.f a0 = some r) :
    Calls Tryd.prog 36 #[.int .i64 a0] w fun e w' => e = .returned (.bool r) ∧ Drawn0 w w' := by
 unfold F36.f at h
 have H := h; clear h
 by_cases c2 : a0 = 3
 ·rw [if_pos c2] at H; have c2b0 := bT_ c2; have c2b1 := bF_ c2; clear c2; obtain rfl := Option.some.inj H; go_enter Tryd.func36, Tryd.ntmps36
  go_wp2
  go_ret
  exact ⟨pbb2_0, pbb2_1⟩
 ·rw [if_neg c2] at H; have c2b0 := nF_ c2; have c2b1 := nT_ c2
  by_cases c3 : a0 = 4
  ·rw [if_pos c3] at H; have c3b0 := bT_ c3; have c3b1 := bF_ c3; clear c3; obtain rfl := Option.some.inj H; go_enter Tryd.func36, Tryd.ntmps36
   go_wp2
   go_ret
   exact ⟨pbb2_0, pbb2_1⟩
  ·rw [if_neg c3] at H; have c3b0 := nF_ c3; have c3b1 := nT_ c3; obtain rfl := Option.some.inj H; go_enter Tryd.func36, Tryd.ntmps36
   go_wp2
   go_ret
   exact ⟨pbb2_0, pbb2_1⟩
mutual
def F13.j0 : Nat → Bool → Int → Int → ByteArray → Int → Int → Int → ByteArray → Int → Option (Int)
  | 0, _, _, _, _, _, _, _, _, _ => none
  | k + 1, x13, x102000, x102001, x102002, x102003, x102004, x102005, x102006, x102007 => if x13 = true then (some 10) else ((F34.f x102000 x102001 x102002 x102003 x102004 x102005 x102006 x102007).bind fun t104 => (if t104 = true then ((F35.f k x102000 x102001 x102002 x102003 x102004 x102005 x102006 x102007).bind fun t105 => (F13.j1 k (!t105) x102000 x102001 x102002 x102003 x102004 x102005 x102006 x102007)) else (F13.j1 k true x102000 x102001 x102002 x102003 x102004 x102005 x102006 x102007)))
def F13.j1 : Nat → Bool → Int → Int → ByteArray → Int → Int → Int → ByteArray → Int → Option (Int)
  | 0, _, _, _, _, _, _, _, _, _ => none
  | k + 1, x22, x102000, x102001, x102002, x102003, x102004, x102005, x102006, x102007 => if x22 = true then (some 3) else (if x102006.toList = ([] : List UInt8) then (F13.j2 k false x102000 x102001 x102002 x102003 x102004 x102005 x102006 x102007) else ((F33.f k x102006).bind fun t106 => (if t106 = true then (F13.j2 k (decide (x102003 > 2)) x102000 x102001 x102002 x102003 x102004 x102005 x102006 x102007) else (F13.j2 k true x102000 x102001 x102002 x102003 x102004 x102005 x102006 x102007))))
def F13.j2 : Nat → Bool → Int → Int → ByteArray → Int → Int → Int → ByteArray → Int → Option (Int)
  | 0, _, _, _, _, _, _, _, _, _ => none
  | k + 1, x31, x102000, x102001, x102002, x102003, x102004, x102005, x102006, x102007 => if x31 = true then (some 22) else ((F36.f x102003).bind fun t107 => (if t107 = true then (if x102007 < 1 then (some 28) else ((F36.f x102003).bind fun t108 => (if t108 = true then (some 0) else (if x102007 = 0 then (some 0) else (some 28))))) else ((F36.f x102003).bind fun t109 => (if t109 = true then (some 0) else (if x102007 = 0 then (some 0) else (some 28))))))
end
def F13.f (k : Nat) (a0_0 : Int) (a0_1 : Int) (a0_2 : ByteArray) (a0_3 : Int) (a0_4 : Int) (a0_5 : Int) (a0_6 : ByteArray) (a0_7 : Int) : Option (Int) := (F32.f a0_1).bind fun t102 => (if t102 = true then ((F33.f k a0_2).bind fun t103 => (if t103 = true then (if a0_3 < 1 then (F13.j0 k true a0_0 a0_1 a0_2 a0_3 a0_4 a0_5 a0_6 a0_7) else (F13.j0 k (decide (a0_3 > 6)) a0_0 a0_1 a0_2 a0_3 a0_4 a0_5 a0_6 a0_7)) else (some 7))) else (some 11))
set_option maxHeartbeats 8000000 in
set_option maxRecDepth 100000 in
theorem F13.calls (k : Nat) (a0_0 : Int) (a0_1 : Int) (a0_2 : ByteArray) (a0_3 : Int) (a0_4 : Int) (a0_5 : Int) (a0_6 : ByteArray) (a0_7 : Int) (r : Int) (w : World) (h : F13.f k a0_0 a0_1 a0_2 a0_3 a0_4 a0_5 a0_6 a0_7 = some r) :
    Calls Tryd.prog 13 #[.agg #[.int .i64 a0_0, .int .i64 a0_1, .string a0_2, .int .i64 a0_3, .int .i64 a0_4, .int .i64 a0_5, .string a0_6, .int .i64 a0_7]] w fun e w' => e = .returned (.int .i64 r) ∧ Below w.heap.size w w' := by
 have hu23 := Tryd.underlying23; have hu3 := Tryd.underlying3; have hu9 := Tryd.underlying9; have HB := Aside0.mk (Below.refl w.heap.size w)
 unfold F13.f at h
 have H := h; clear h; obtain ⟨t102, A20, H⟩ := bnd H; have A2 := Aside0.mk A20; clear A20
 by_cases c3 : t102 = true
 ·subst c3; rw [if_pos rfl] at H; obtain ⟨t103, A40, H⟩ := bnd H; have A4 := Aside0.mk A40; clear A40
  by_cases c5 : t103 = true
  ·subst c5; rw [if_pos rfl] at H; have HC6 := Aside0.mk H; clear H; go_enter Tryd.func13, Tryd.ntmps13
   go_upto_region 5 with (first | ((with_reducible refine gate_dst (N := 1) rfl ?_); refine box_event ?hg (N := 1) ?hd (cs := #[.int .i64 a0_0, .int .i64 a0_1, .string a0_2, .int .i64 a0_3, .int .i64 a0_4, .int .i64 a0_5, .string a0_6, .int .i64 a0_7]) (t := 23) ?hr ?_; (case hd => rfl); (case hg => rfl); (case hr => first | (go_simp; done) | (go_simp; rfl)); intro gb101 hg w7 hbox hb; have BK101 := Aside0.mk (hbox); have GW101 := Aside0.mk ((pbb2_6 : w.heap.size ≤ gb101)); have GE101 := Aside0.mk ((pbb2_6 : w.heap.size ≤ gb101)); replace HB := Aside0.mk (below_step pbb2_3 hb); clear hb hbox hg; obtain ⟨hcz8_0, hcz8_1, hcz8_2, hcz8_3, hcz8_4, hcz8_5, hcz8_6, hcz8_7⟩ := cz8 BK101.out; obtain ⟨hfz8_0, hfz8_1, hfz8_2, hfz8_3, hfz8_4, hfz8_5, hfz8_6, hfz8_7⟩ := fz8 BK101.out) | ((with_reducible refine gate_callee (f := 32) rfl ?_); refine goesL_ (some 6) rfl rfl Tryd.func32 (by kernel_rfl) rfl #[.int .i64 a0_1] rfl pbb2_2 ?_; (with_reducible refine (F32.calls a0_1 true _ A2.out).mono ?_); rintro e w' ⟨rfl, ⟨nd, rfl⟩⟩; refine ⟨_, rfl, ?_⟩) | ((with_reducible refine gate_callee (f := 33) rfl ?_); refine goesL_ (some 11) rfl rfl Tryd.func33 (by kernel_rfl) rfl #[.string a0_2] rfl pbb2_2 ?_; (with_reducible refine (F33.calls k a0_2 true _ A4.out).mono ?_); rintro e w' ⟨rfl, ⟨nd, rfl⟩⟩; refine ⟨_, rfl, ?_⟩))
   (try simp only [Act.put, List.setIfInBounds_toArray, List.set_cons_zero, List.set_cons_succ])
   go_cut [13] (fun v13 wc => ∃ (kq : Nat) (x13_5 : Bool), v13 = .bool x13_5 ∧ Aside0 (F13.j0 kq x13_5 a0_0 a0_1 a0_2 a0_3 a0_4 a0_5 a0_6 a0_7 = some r) ∧ Aside0 (kq ≤ k) ∧ Aside0 (wc.heap[gb101]? = some (.cells #[.int .i64 a0_0, .int .i64 a0_1, .string a0_2, .int .i64 a0_3, .int .i64 a0_4, .int .i64 a0_5, .string a0_6, .int .i64 a0_7] 23 (0, 0))) ∧ Aside0 (Below w.heap.size w wc))
   case first =>
    have H := HC6.out; clear HC6
    by_cases c9 : a0_3 < 1
    ·rw [if_pos c9] at H; have c9b0 := decide_eq_true c9; clear c9; (first | rw [c9b0] | (simp only [i64_w, i32_w]; rw [c9b0]) | skip); have H' := Aside0.mk H; clear H; obtain ⟨hcz10_0, hcz10_1, hcz10_2, hcz10_3, hcz10_4, hcz10_5, hcz10_6, hcz10_7⟩ := cz8 BK101.out; obtain ⟨hfz10_0, hfz10_1, hfz10_2, hfz10_3, hfz10_4, hfz10_5, hfz10_6, hfz10_7⟩ := fz8 BK101.out
     go_wp2
     go_meet
     case rel => exact ⟨_, (true), pbb2_0, H', ⟨pwh1_0⟩, ⟨pbb2_10⟩, ⟨pbb2_9⟩⟩
    ·rw [if_neg c9] at H; have c9b0 := decide_eq_false c9; clear c9; (first | rw [c9b0] | (simp only [i64_w, i32_w]; rw [c9b0]) | skip); have H' := Aside0.mk H; clear H; obtain ⟨hcz11_0, hcz11_1, hcz11_2, hcz11_3, hcz11_4, hcz11_5, hcz11_6, hcz11_7⟩ := cz8 BK101.out; obtain ⟨hfz11_0, hfz11_1, hfz11_2, hfz11_3, hfz11_4, hfz11_5, hfz11_6, hfz11_7⟩ := fz8 BK101.out
     go_wp2
     go_meet
     case rel => exact ⟨_, (decide (a0_3 > 6)), pbb2_0, H', ⟨pwh1_0⟩, ⟨pbb2_10⟩, ⟨pbb2_9⟩⟩
   case rest =>
    clear HC6; obtain ⟨kq, x13_5, rfl, HA, HJ5, BK101, HB⟩ := hcut
    cases kq with
    | zero => exact absurd HA.out (by simp [F13.j0])
    | succ kj5 =>
     have H := HA.out; clear HA; simp only [F13.j0] at H
     by_cases c12 : x13_5 = true
     ·subst c12; rw [if_pos rfl] at H; obtain rfl := Option.some.inj H
      go_wp2
      go_ret
      exact ⟨pbb2_5, pbb2_9⟩
     ·replace c12 := Bool.eq_false_iff.mpr c12; subst c12; rw [if_neg (show ¬ (false = true) by decide)] at H; have HC13 := Aside0.mk H; clear H
      go_upto_region 7 with (fail)
      go_cut [22] (fun v22 wc => ∃ (kq : Nat) (x22_12 : Bool), v22 = .bool x22_12 ∧ Aside0 (F13.j1 kq x22_12 a0_0 a0_1 a0_2 a0_3 a0_4 a0_5 a0_6 a0_7 = some r) ∧ Aside0 (kq ≤ kj5) ∧ Aside0 (wc.heap[gb101]? = some (.cells #[.int .i64 a0_0, .int .i64 a0_1, .string a0_2, .int .i64 a0_3, .int .i64 a0_4, .int .i64 a0_5, .string a0_6, .int .i64 a0_7] 23 (0, 0))) ∧ Aside0 (Below w.heap.size w wc))
      case first =>
       have H := HC13.out; clear HC13; obtain ⟨t104, A140, H⟩ := bnd H; have A14 := Aside0.mk A140; clear A140
       by_cases c15 : t104 = true
       ·subst c15; rw [if_pos rfl] at H; obtain ⟨t105, A160, H⟩ := bnd H; have A16 := Aside0.mk A160; clear A160; have H' := Aside0.mk H; clear H; obtain ⟨hcz17_0, hcz17_1, hcz17_2, hcz17_3, hcz17_4, hcz17_5, hcz17_6, hcz17_7⟩ := cz8 BK101.out; obtain ⟨hfz17_0, hfz17_1, hfz17_2, hfz17_3, hfz17_4, hfz17_5, hfz17_6, hfz17_7⟩ := fz8 BK101.out
        go_wp2_with (first | ((with_reducible refine gate_callee (f := 34) rfl ?_); refine goesL_ (some 24) rfl rfl Tryd.func34 (by kernel_rfl) rfl #[.agg #[.int .i64 a0_0, .int .i64 a0_1, .string a0_2, .int .i64 a0_3, .int .i64 a0_4, .int .i64 a0_5, .string a0_6, .int .i64 a0_7]] rfl pbb2_2 ?_; (with_reducible refine (F34.calls a0_0 a0_1 a0_2 a0_3 a0_4 a0_5 a0_6 a0_7 true _ A14.out).mono ?_); rintro e w18 ⟨rfl, hb⟩; refine ⟨_, rfl, ?_⟩; replace BK101 := Aside0.mk (blk_below (g := gb101) (o := .cells #[.int .i64 a0_0, .int .i64 a0_1, .string a0_2, .int .i64 a0_3, .int .i64 a0_4, .int .i64 a0_5, .string a0_6, .int .i64 a0_7] 23 (0, 0)) pbb2_10 hb); replace HB := Aside0.mk (below_step pbb2_9 hb); (try clear hb); (try clear hb2); (try clear hk); (try clear hi); obtain ⟨hcz19_0, hcz19_1, hcz19_2, hcz19_3, hcz19_4, hcz19_5, hcz19_6, hcz19_7⟩ := cz8 BK101.out; obtain ⟨hfz19_0, hfz19_1, hfz19_2, hfz19_3, hfz19_4, hfz19_5, hfz19_6, hfz19_7⟩ := fz8 BK101.out) | (go_at_call 35; (with_reducible refine (F35.calls kj5 a0_0 a0_1 a0_2 a0_3 a0_4 a0_5 a0_6 a0_7 t105 _ A16.out).mono ?_); rintro e w20 ⟨rfl, hb⟩; replace BK101 := Aside0.mk (blk_below (g := gb101) (o := .cells #[.int .i64 a0_0, .int .i64 a0_1, .string a0_2, .int .i64 a0_3, .int .i64 a0_4, .int .i64 a0_5, .string a0_6, .int .i64 a0_7] 23 (0, 0)) pbb2_10 hb); replace HB := Aside0.mk (below_step pbb2_9 hb); (try clear hb); (try clear hb2); (try clear hk); (try clear hi)))
        go_meet
        case rel => exact ⟨_, (!t105), pbb2_0, H', ⟨by have := HJ5.out; first | omega | exact Nat.le_refl _⟩, ⟨pbb2_10⟩, ⟨pbb2_9⟩⟩
       ·replace c15 := Bool.eq_false_iff.mpr c15; subst c15; rw [if_neg (show ¬ (false = true) by decide)] at H; have H' := Aside0.mk H; clear H; obtain ⟨hcz21_0, hcz21_1, hcz21_2, hcz21_3, hcz21_4, hcz21_5, hcz21_6, hcz21_7⟩ := cz8 BK101.out; obtain ⟨hfz21_0, hfz21_1, hfz21_2, hfz21_3, hfz21_4, hfz21_5, hfz21_6, hfz21_7⟩ := fz8 BK101.out
        go_wp2_with (first | ((with_reducible refine gate_callee (f := 34) rfl ?_); refine goesL_ (some 24) rfl rfl Tryd.func34 (by kernel_rfl) rfl #[.agg #[.int .i64 a0_0, .int .i64 a0_1, .string a0_2, .int .i64 a0_3, .int .i64 a0_4, .int .i64 a0_5, .string a0_6, .int .i64 a0_7]] rfl pbb2_2 ?_; (with_reducible refine (F34.calls a0_0 a0_1 a0_2 a0_3 a0_4 a0_5 a0_6 a0_7 false _ A14.out).mono ?_); rintro e w22 ⟨rfl, hb⟩; refine ⟨_, rfl, ?_⟩; replace BK101 := Aside0.mk (blk_below (g := gb101) (o := .cells #[.int .i64 a0_0, .int .i64 a0_1, .string a0_2, .int .i64 a0_3, .int .i64 a0_4, .int .i64 a0_5, .string a0_6, .int .i64 a0_7] 23 (0, 0)) pbb2_10 hb); replace HB := Aside0.mk (below_step pbb2_9 hb); (try clear hb); (try clear hb2); (try clear hk); (try clear hi)))
        go_meet
        case rel => exact ⟨_, (true), pbb2_0, H', ⟨by have := HJ5.out; first | omega | exact Nat.le_refl _⟩, ⟨pbb2_10⟩, ⟨pbb2_9⟩⟩
      case rest =>
       clear HC13; obtain ⟨kq, x22_12, rfl, HA, HJ12, BK101, HB⟩ := hcut
       cases kq with
       | zero => exact absurd HA.out (by simp [F13.j1])
       | succ kj12 =>
        have H := HA.out; clear HA; simp only [F13.j1] at H
        by_cases c23 : x22_12 = true
        ·subst c23; rw [if_pos rfl] at H; obtain rfl := Option.some.inj H
         go_wp2
         go_ret
         exact ⟨pbb2_5, pbb2_9⟩
        ·replace c23 := Bool.eq_false_iff.mpr c23; subst c23; rw [if_neg (show ¬ (false = true) by decide)] at H; have HC24 := Aside0.mk H; clear H
         go_upto_region 9 with (fail)
         go_cut [31] (fun v31 wc => ∃ (kq : Nat) (x31_23 : Bool), v31 = .bool x31_23 ∧ Aside0 (F13.j2 kq x31_23 a0_0 a0_1 a0_2 a0_3 a0_4 a0_5 a0_6 a0_7 = some r) ∧ Aside0 (kq ≤ kj12) ∧ Aside0 (wc.heap[gb101]? = some (.cells #[.int .i64 a0_0, .int .i64 a0_1, .string a0_2, .int .i64 a0_3, .int .i64 a0_4, .int .i64 a0_5, .string a0_6, .int .i64 a0_7] 23 (0, 0))) ∧ Aside0 (Below w.heap.size w wc))
         case first =>
          have H := HC24.out; clear HC24
          by_cases c25 : a0_6.toList = ([] : List UInt8)
          ·rw [if_pos c25] at H; have c25b0 := bT_ c25; have c25b1 := bF_ c25; clear c25; (first | rw [c25b0] | (simp only [i64_w, i32_w]; rw [c25b0]) | skip); have H' := Aside0.mk H; clear H; obtain ⟨hcz26_0, hcz26_1, hcz26_2, hcz26_3, hcz26_4, hcz26_5, hcz26_6, hcz26_7⟩ := cz8 BK101.out; obtain ⟨hfz26_0, hfz26_1, hfz26_2, hfz26_3, hfz26_4, hfz26_5, hfz26_6, hfz26_7⟩ := fz8 BK101.out
           go_wp2
           go_meet
           case rel => exact ⟨_, (false), pbb2_0, H', ⟨by have := HJ5.out; have := HJ12.out; first | omega | exact Nat.le_refl _⟩, ⟨pbb2_10⟩, ⟨pbb2_9⟩⟩
          ·rw [if_neg c25] at H; have c25b0 := nF_ c25; have c25b1 := nT_ c25; (first | rw [c25b0] | (simp only [i64_w, i32_w]; rw [c25b0]) | skip); obtain ⟨t106, A270, H⟩ := bnd H; have A27 := Aside0.mk A270; clear A270
           by_cases c28 : t106 = true
           ·subst c28; rw [if_pos rfl] at H; have H' := Aside0.mk H; clear H; obtain ⟨hcz29_0, hcz29_1, hcz29_2, hcz29_3, hcz29_4, hcz29_5, hcz29_6, hcz29_7⟩ := cz8 BK101.out; obtain ⟨hfz29_0, hfz29_1, hfz29_2, hfz29_3, hfz29_4, hfz29_5, hfz29_6, hfz29_7⟩ := fz8 BK101.out
            go_wp2_with (first | (go_at_call 33; (with_reducible refine (F33.calls kj12 a0_6 true _ A27.out).mono ?_); rintro e w' ⟨rfl, ⟨nd, rfl⟩⟩))
            go_meet
            case rel => exact ⟨_, (decide (a0_3 > 2)), pbb2_0, H', ⟨by have := HJ5.out; have := HJ12.out; first | omega | exact Nat.le_refl _⟩, ⟨pbb2_10⟩, ⟨pbb2_9⟩⟩
           ·replace c28 := Bool.eq_false_iff.mpr c28; subst c28; rw [if_neg (show ¬ (false = true) by decide)] at H; have H' := Aside0.mk H; clear H; obtain ⟨hcz30_0, hcz30_1, hcz30_2, hcz30_3, hcz30_4, hcz30_5, hcz30_6, hcz30_7⟩ := cz8 BK101.out; obtain ⟨hfz30_0, hfz30_1, hfz30_2, hfz30_3, hfz30_4, hfz30_5, hfz30_6, hfz30_7⟩ := fz8 BK101.out
            go_wp2_with (first | (go_at_call 33; (with_reducible refine (F33.calls kj12 a0_6 false _ A27.out).mono ?_); rintro e w' ⟨rfl, ⟨nd, rfl⟩⟩))
            go_meet
            case rel => exact ⟨_, (true), pbb2_0, H', ⟨by have := HJ5.out; have := HJ12.out; first | omega | exact Nat.le_refl _⟩, ⟨pbb2_10⟩, ⟨pbb2_9⟩⟩
         case rest =>
          clear HC24; obtain ⟨kq, x31_23, rfl, HA, HJ23, BK101, HB⟩ := hcut
          cases kq with
          | zero => exact absurd HA.out (by simp [F13.j2])
          | succ kj23 =>
           have H := HA.out; clear HA; simp only [F13.j2] at H
           by_cases c31 : x31_23 = true
           ·subst c31; rw [if_pos rfl] at H; obtain rfl := Option.some.inj H
            go_wp2
            go_ret
            exact ⟨pbb2_5, pbb2_9⟩
           ·replace c31 := Bool.eq_false_iff.mpr c31; subst c31; rw [if_neg (show ¬ (false = true) by decide)] at H; obtain ⟨t107, A320, H⟩ := bnd H; have A32 := Aside0.mk A320; clear A320
            by_cases c33 : t107 = true
            ·subst c33; rw [if_pos rfl] at H
             by_cases c34 : a0_7 < 1
             ·rw [if_pos c34] at H; have c34b0 := decide_eq_true c34; clear c34; obtain rfl := Option.some.inj H; obtain ⟨hcz35_0, hcz35_1, hcz35_2, hcz35_3, hcz35_4, hcz35_5, hcz35_6, hcz35_7⟩ := cz8 BK101.out; obtain ⟨hfz35_0, hfz35_1, hfz35_2, hfz35_3, hfz35_4, hfz35_5, hfz35_6, hfz35_7⟩ := fz8 BK101.out
              go_wp2_with (first | ((with_reducible refine gate_callee (f := 36) rfl ?_); refine goesL_ (some 49) rfl rfl Tryd.func36 (by kernel_rfl) rfl #[.int .i64 a0_3] rfl pbb2_2 ?_; (with_reducible refine (F36.calls a0_3 true _ A32.out).mono ?_); rintro e w' ⟨rfl, ⟨nd, rfl⟩⟩; refine ⟨_, rfl, ?_⟩))
              go_ret
              exact ⟨pbb2_5, pbb2_9⟩
             ·rw [if_neg c34] at H; have c34b0 := decide_eq_false c34; clear c34; obtain ⟨t108, A360, H⟩ := bnd H; have A36 := Aside0.mk A360; clear A360
              by_cases c37 : t108 = true
              ·subst c37; rw [if_pos rfl] at H; obtain rfl := Option.some.inj H; obtain ⟨hcz38_0, hcz38_1, hcz38_2, hcz38_3, hcz38_4, hcz38_5, hcz38_6, hcz38_7⟩ := cz8 BK101.out; obtain ⟨hfz38_0, hfz38_1, hfz38_2, hfz38_3, hfz38_4, hfz38_5, hfz38_6, hfz38_7⟩ := fz8 BK101.out
               go_wp2_with (first | ((with_reducible refine gate_callee (f := 36) rfl ?_); refine goesL_ (some 49) rfl rfl Tryd.func36 (by kernel_rfl) rfl #[.int .i64 a0_3] rfl pbb2_2 ?_; (with_reducible refine (F36.calls a0_3 true _ A32.out).mono ?_); rintro e w' ⟨rfl, ⟨nd, rfl⟩⟩; refine ⟨_, rfl, ?_⟩) | (go_at_call 36; (with_reducible refine (F36.calls a0_3 true _ A36.out).mono ?_); rintro e w' ⟨rfl, ⟨nd, rfl⟩⟩))
               go_ret
               exact ⟨pbb2_5, pbb2_9⟩
              ·replace c37 := Bool.eq_false_iff.mpr c37; subst c37; rw [if_neg (show ¬ (false = true) by decide)] at H
               by_cases c39 : a0_7 = 0
               ·rw [if_pos c39] at H; have c39b0 := bT_ c39; have c39b1 := bF_ c39; clear c39; obtain rfl := Option.some.inj H; obtain ⟨hcz40_0, hcz40_1, hcz40_2, hcz40_3, hcz40_4, hcz40_5, hcz40_6, hcz40_7⟩ := cz8 BK101.out; obtain ⟨hfz40_0, hfz40_1, hfz40_2, hfz40_3, hfz40_4, hfz40_5, hfz40_6, hfz40_7⟩ := fz8 BK101.out
                go_wp2_with (first | ((with_reducible refine gate_callee (f := 36) rfl ?_); refine goesL_ (some 49) rfl rfl Tryd.func36 (by kernel_rfl) rfl #[.int .i64 a0_3] rfl pbb2_2 ?_; (with_reducible refine (F36.calls a0_3 true _ A32.out).mono ?_); rintro e w' ⟨rfl, ⟨nd, rfl⟩⟩; refine ⟨_, rfl, ?_⟩) | (go_at_call 36; (with_reducible refine (F36.calls a0_3 false _ A36.out).mono ?_); rintro e w' ⟨rfl, ⟨nd, rfl⟩⟩))
                go_ret
                exact ⟨pbb2_5, pbb2_9⟩
               ·rw [if_neg c39] at H; have c39b0 := nF_ c39; have c39b1 := nT_ c39; obtain rfl := Option.some.inj H; obtain ⟨hcz41_0, hcz41_1, hcz41_2, hcz41_3, hcz41_4, hcz41_5, hcz41_6, hcz41_7⟩ := cz8 BK101.out; obtain ⟨hfz41_0, hfz41_1, hfz41_2, hfz41_3, hfz41_4, hfz41_5, hfz41_6, hfz41_7⟩ := fz8 BK101.out
                go_wp2_with (first | ((with_reducible refine gate_callee (f := 36) rfl ?_); refine goesL_ (some 49) rfl rfl Tryd.func36 (by kernel_rfl) rfl #[.int .i64 a0_3] rfl pbb2_2 ?_; (with_reducible refine (F36.calls a0_3 true _ A32.out).mono ?_); rintro e w' ⟨rfl, ⟨nd, rfl⟩⟩; refine ⟨_, rfl, ?_⟩) | (go_at_call 36; (with_reducible refine (F36.calls a0_3 false _ A36.out).mono ?_); rintro e w' ⟨rfl, ⟨nd, rfl⟩⟩))
                go_ret
                exact ⟨pbb2_5, pbb2_9⟩
            ·replace c33 := Bool.eq_false_iff.mpr c33; subst c33; rw [if_neg (show ¬ (false = true) by decide)] at H; obtain ⟨t109, A420, H⟩ := bnd H; have A42 := Aside0.mk A420; clear A420
             by_cases c43 : t109 = true
             ·subst c43; rw [if_pos rfl] at H; obtain rfl := Option.some.inj H; obtain ⟨hcz44_0, hcz44_1, hcz44_2, hcz44_3, hcz44_4, hcz44_5, hcz44_6, hcz44_7⟩ := cz8 BK101.out; obtain ⟨hfz44_0, hfz44_1, hfz44_2, hfz44_3, hfz44_4, hfz44_5, hfz44_6, hfz44_7⟩ := fz8 BK101.out
              go_wp2_with (first | ((with_reducible refine gate_callee (f := 36) rfl ?_); refine goesL_ (some 49) rfl rfl Tryd.func36 (by kernel_rfl) rfl #[.int .i64 a0_3] rfl pbb2_2 ?_; (with_reducible refine (F36.calls a0_3 false _ A32.out).mono ?_); rintro e w' ⟨rfl, ⟨nd, rfl⟩⟩; refine ⟨_, rfl, ?_⟩) | (go_at_call 36; (with_reducible refine (F36.calls a0_3 true _ A42.out).mono ?_); rintro e w' ⟨rfl, ⟨nd, rfl⟩⟩))
              go_ret
              exact ⟨pbb2_5, pbb2_9⟩
             ·replace c43 := Bool.eq_false_iff.mpr c43; subst c43; rw [if_neg (show ¬ (false = true) by decide)] at H
              by_cases c45 : a0_7 = 0
              ·rw [if_pos c45] at H; have c45b0 := bT_ c45; have c45b1 := bF_ c45; clear c45; obtain rfl := Option.some.inj H; obtain ⟨hcz46_0, hcz46_1, hcz46_2, hcz46_3, hcz46_4, hcz46_5, hcz46_6, hcz46_7⟩ := cz8 BK101.out; obtain ⟨hfz46_0, hfz46_1, hfz46_2, hfz46_3, hfz46_4, hfz46_5, hfz46_6, hfz46_7⟩ := fz8 BK101.out
               go_wp2_with (first | ((with_reducible refine gate_callee (f := 36) rfl ?_); refine goesL_ (some 49) rfl rfl Tryd.func36 (by kernel_rfl) rfl #[.int .i64 a0_3] rfl pbb2_2 ?_; (with_reducible refine (F36.calls a0_3 false _ A32.out).mono ?_); rintro e w' ⟨rfl, ⟨nd, rfl⟩⟩; refine ⟨_, rfl, ?_⟩) | (go_at_call 36; (with_reducible refine (F36.calls a0_3 false _ A42.out).mono ?_); rintro e w' ⟨rfl, ⟨nd, rfl⟩⟩))
               go_ret
               exact ⟨pbb2_5, pbb2_9⟩
              ·rw [if_neg c45] at H; have c45b0 := nF_ c45; have c45b1 := nT_ c45; obtain rfl := Option.some.inj H; obtain ⟨hcz47_0, hcz47_1, hcz47_2, hcz47_3, hcz47_4, hcz47_5, hcz47_6, hcz47_7⟩ := cz8 BK101.out; obtain ⟨hfz47_0, hfz47_1, hfz47_2, hfz47_3, hfz47_4, hfz47_5, hfz47_6, hfz47_7⟩ := fz8 BK101.out
               go_wp2_with (first | ((with_reducible refine gate_callee (f := 36) rfl ?_); refine goesL_ (some 49) rfl rfl Tryd.func36 (by kernel_rfl) rfl #[.int .i64 a0_3] rfl pbb2_2 ?_; (with_reducible refine (F36.calls a0_3 false _ A32.out).mono ?_); rintro e w' ⟨rfl, ⟨nd, rfl⟩⟩; refine ⟨_, rfl, ?_⟩) | (go_at_call 36; (with_reducible refine (F36.calls a0_3 false _ A42.out).mono ?_); rintro e w' ⟨rfl, ⟨nd, rfl⟩⟩))
               go_ret
               exact ⟨pbb2_5, pbb2_9⟩
  ·replace c5 := Bool.eq_false_iff.mpr c5; subst c5; rw [if_neg (show ¬ (false = true) by decide)] at H; obtain rfl := Option.some.inj H; go_enter Tryd.func13, Tryd.ntmps13
   go_wp2_with (first | ((with_reducible refine gate_dst (N := 1) rfl ?_); refine box_event ?hg (N := 1) ?hd (cs := #[.int .i64 a0_0, .int .i64 a0_1, .string a0_2, .int .i64 a0_3, .int .i64 a0_4, .int .i64 a0_5, .string a0_6, .int .i64 a0_7]) (t := 23) ?hr ?_; (case hd => rfl); (case hg => rfl); (case hr => first | (go_simp; done) | (go_simp; rfl)); intro gb101 hg w48 hbox hb; have BK101 := Aside0.mk (hbox); have GW101 := Aside0.mk ((pbb2_6 : w.heap.size ≤ gb101)); have GE101 := Aside0.mk ((pbb2_6 : w.heap.size ≤ gb101)); replace HB := Aside0.mk (below_step pbb2_3 hb); clear hb hbox hg; obtain ⟨hcz49_0, hcz49_1, hcz49_2, hcz49_3, hcz49_4, hcz49_5, hcz49_6, hcz49_7⟩ := cz8 BK101.out; obtain ⟨hfz49_0, hfz49_1, hfz49_2, hfz49_3, hfz49_4, hfz49_5, hfz49_6, hfz49_7⟩ := fz8 BK101.out) | ((with_reducible refine gate_callee (f := 32) rfl ?_); refine goesL_ (some 6) rfl rfl Tryd.func32 (by kernel_rfl) rfl #[.int .i64 a0_1] rfl pbb2_2 ?_; (with_reducible refine (F32.calls a0_1 true _ A2.out).mono ?_); rintro e w' ⟨rfl, ⟨nd, rfl⟩⟩; refine ⟨_, rfl, ?_⟩) | ((with_reducible refine gate_callee (f := 33) rfl ?_); refine goesL_ (some 11) rfl rfl Tryd.func33 (by kernel_rfl) rfl #[.string a0_2] rfl pbb2_2 ?_; (with_reducible refine (F33.calls k a0_2 false _ A4.out).mono ?_); rintro e w' ⟨rfl, ⟨nd, rfl⟩⟩; refine ⟨_, rfl, ?_⟩))
   go_ret
   exact ⟨pbb2_5, pbb2_9⟩
 ·replace c3 := Bool.eq_false_iff.mpr c3; subst c3; rw [if_neg (show ¬ (false = true) by decide)] at H; obtain rfl := Option.some.inj H; go_enter Tryd.func13, Tryd.ntmps13
  go_wp2_with (first | ((with_reducible refine gate_dst (N := 1) rfl ?_); refine box_event ?hg (N := 1) ?hd (cs := #[.int .i64 a0_0, .int .i64 a0_1, .string a0_2, .int .i64 a0_3, .int .i64 a0_4, .int .i64 a0_5, .string a0_6, .int .i64 a0_7]) (t := 23) ?hr ?_; (case hd => rfl); (case hg => rfl); (case hr => first | (go_simp; done) | (go_simp; rfl)); intro gb101 hg w50 hbox hb; have BK101 := Aside0.mk (hbox); have GW101 := Aside0.mk ((pbb2_6 : w.heap.size ≤ gb101)); have GE101 := Aside0.mk ((pbb2_6 : w.heap.size ≤ gb101)); replace HB := Aside0.mk (below_step pbb2_3 hb); clear hb hbox hg; obtain ⟨hcz51_0, hcz51_1, hcz51_2, hcz51_3, hcz51_4, hcz51_5, hcz51_6, hcz51_7⟩ := cz8 BK101.out; obtain ⟨hfz51_0, hfz51_1, hfz51_2, hfz51_3, hfz51_4, hfz51_5, hfz51_6, hfz51_7⟩ := fz8 BK101.out) | ((with_reducible refine gate_callee (f := 32) rfl ?_); refine goesL_ (some 6) rfl rfl Tryd.func32 (by kernel_rfl) rfl #[.int .i64 a0_1] rfl pbb2_2 ?_; (with_reducible refine (F32.calls a0_1 false _ A2.out).mono ?_); rintro e w' ⟨rfl, ⟨nd, rfl⟩⟩; refine ⟨_, rfl, ?_⟩))
  go_ret
  exact ⟨pbb2_5, pbb2_9⟩
end Go.Proofs.YtegpappenmhndaaDoor.M
end
section
namespace Go.Proofs.YtegpappenmhndaaDoor.M
open Go.RowKit Go.Proofs.YtegpappenmhndaaDoorW.PrintWords Go.Proofs.YtegpappenmhndaaDoorW.PrintLast
set_option linter.unusedVariables false
set_option linter.unusedSimpArgs false
abbrev MV := S23
theorem wfm {x : Int} (h : (Lit.int .i64 x).wf = true) : -9223372036854775808 ≤ x ∧ x ≤ 9223372036854775807 := by
 have e1 : IntKind.i64.min = -9223372036854775808 := by decide
 have e2 : IntKind.i64.max = 9223372036854775807 := by decide
 simp [Lit.wf, e1, e2] at h
 exact h
def folv (k : Int) : Bool := k == 3 || (k == 4 || k == 5)
def inv (n lo hi : Int) : Bool := decide (lo ≤ n ∧ n ≤ hi)
def qtyv (kind q : Int) : Bool := if kind = 5 ∨ kind = 6 then q == 0 else inv q 1 1000000000
def cstv (kind c : Int) : Bool := if kind = 2 ∨ kind = 3 then c == 0 else if kind = 5 then inv c 1 1000000000000 else inv c 0 1000000000000
def lotv (kind : Int) (b : ByteArray) : Bool := decide (b.toList = ([] : List UInt8)) || (codev b && (kind == 1 || kind == 2))
def rfv (kind r : Int) : Bool := if folv kind = true then decide (1 ≤ r) else r == 0
def onev (value : Int) (item : ByteArray) (kind qty cost : Int) (lot : ByteArray) (ref : Int) : Int :=
 if dayv value = false then 11 else if codev item = false then 7 else if inv kind 1 6 = false then 10 else if (qtyv kind qty && cstv kind cost) = false then 3 else if lotv kind lot = false then 22 else if rfv kind ref = false then 28 else 0
theorem F25.eq (n : Int) : Ev (fun k => F25.f k n months) (dayv n) := by
 obtain ⟨y, a, b, h⟩ := F47.ok n
 unfold F25.f
 refine Ev.bind h ?_
 cases dayv n <;> exact Ev.const _
theorem F27.eq (n lo hi : Int) : F27.f n lo hi = some (inv n lo hi) := by
 unfold F27.f inv
 by_cases a : n ≥ lo
 ·rw [if_pos a]; congr 1; simp [show lo ≤ n from a]
 ·rw [if_neg a]; congr 1; simp [show ¬ lo ≤ n from a]
theorem F31.eq (n : Int) : F31.f n = some (folv n) := by
 unfold F31.f folv
 by_cases a : n = 3
 ·simp [a]
 ·by_cases b : n = 4
  ·simp [b]
  ·simp [a, b, beq_eq_false_iff_ne.2 a, beq_eq_false_iff_ne.2 b]
theorem F36.eq (n : Int) : F36.f n = some (folv n) := by
 unfold F36.f folv
 by_cases a : n = 3
 ·simp [a]
 ·by_cases b : n = 4
  ·simp [b]
  ·simp [a, b, beq_eq_false_iff_ne.2 a, beq_eq_false_iff_ne.2 b]
theorem F28.eq (a b : Int) (c : ByteArray) (kind qty e : Int) (f : ByteArray) (g : Int) : F28.f a b c kind qty e f g = some (qtyv kind qty) := by
 unfold F28.f qtyv
 by_cases x : kind = 5 <;> by_cases y : kind = 6 <;> simp [x, y, F27.eq]
theorem F29.eq (a b : Int) (c : ByteArray) (kind qty e : Int) (f : ByteArray) (g : Int) : Ev (fun k => F29.f k a b c kind qty e f g) (cstv kind e) := by
 unfold F29.f cstv
 by_cases x : kind = 2
 ·simp only [if_pos x, if_pos (show kind = 2 ∨ kind = 3 from .inl x)]; refine Ev.succ ?_; simp only [F29.j0, x, if_true, beq_self_eq_true]; exact Ev.const _
 ·simp only [if_neg x]; refine Ev.succ ?_
  by_cases y : kind = 3
  ·simp only [F29.j0, y, if_true, beq_self_eq_true, if_pos (show (3 : Int) = 2 ∨ (3 : Int) = 3 from .inr rfl)]; exact Ev.const _
  ·simp only [F29.j0, beq_eq_false_iff_ne.2 y, Bool.false_eq_true, if_false, if_neg (show ¬ (kind = 2 ∨ kind = 3) by simp [x, y]), F27.eq, Option.bind_some]
   by_cases z : kind = 5
   ·simp only [if_pos z]; exact Ev.const _
   ·simp only [if_neg z]; exact Ev.const _
theorem F30.eq (a b : Int) (c : ByteArray) (kind qty e : Int) (f : ByteArray) (g : Int) : Ev (fun k => F30.f k a b c kind qty e f g) (lotv kind f) := by
 unfold F30.f lotv
 by_cases x : f.toList = ([] : List UInt8)
 ·simp only [if_pos x, decide_eq_true x, Bool.true_or]; exact Ev.const _
 ·simp only [if_neg x, decide_eq_false x, Bool.false_or]; refine Ev.bind (F26.eq f) ?_
  cases codev f with
  | false => exact Ev.const _
  | true =>
   simp only [if_true, Bool.true_and]
   by_cases y : kind = 1
   ·simp only [if_pos y, y, beq_self_eq_true, Bool.true_or]; exact Ev.const _
   ·simp only [if_neg y, beq_eq_false_iff_ne.2 y, Bool.false_or]; exact Ev.const _
theorem bnot {b : Bool} (h : ¬ b = true) : b = false := by simpa using h
theorem F12.eq (a value : Int) (item : ByteArray) (kind qty cost : Int) (lot : ByteArray) (ref : Int) : Ev (fun k => F12.f k a value item kind qty cost lot ref months) (onev value item kind qty cost lot ref) := by
 unfold F12.f onev
 refine Ev.bind (F25.eq value) ?_
 by_cases c1 : dayv value = true
 rotate_left
 ·simp only [if_neg c1, bnot c1, if_true]; exact Ev.const _
 simp only [if_pos c1, c1, Bool.true_eq_false, if_false]; refine Ev.bind (F26.eq item) ?_
 by_cases c2 : codev item = true
 rotate_left
 ·simp only [if_neg c2, bnot c2, if_true]; exact Ev.const _
 simp only [if_pos c2, c2, Bool.true_eq_false, if_false, F27.eq, Option.bind_some]
 by_cases c3 : inv kind 1 6 = true
 rotate_left
 ·simp only [if_neg c3, bnot c3, if_true]; exact Ev.const _
 simp only [if_pos c3, c3, Bool.true_eq_false, if_false, F28.eq, Option.bind_some]
 by_cases c4 : qtyv kind qty = true
 rotate_left
 ·simp only [if_neg c4, bnot c4, Bool.false_and, if_true]; refine Ev.succ ?_; simp only [F12.j0, if_true]; exact Ev.const _
 simp only [if_pos c4, c4, Bool.true_and]; refine Ev.bind (F29.eq _ _ _ _ _ _ _ _) ?_
 by_cases c5 : cstv kind cost = true
 rotate_left
 ·simp only [bnot c5, if_true]; refine Ev.succ ?_; simp only [F12.j0, Bool.not_false, if_true]; exact Ev.const _
 simp only [c5, Bool.true_eq_false, if_false]; refine Ev.succ ?_; simp only [F12.j0, Bool.not_true, Bool.false_eq_true, if_false, F31.eq, Option.bind_some]; refine Ev.bind (F30.eq _ _ _ _ _ _ _ _) ?_
 by_cases c6 : lotv kind lot = true
 rotate_left
 ·simp only [if_neg c6, bnot c6, if_true]; exact Ev.const _
 simp only [if_pos c6, c6, Bool.true_eq_false, if_false]
 unfold rfv
 by_cases c7 : folv kind = true
 ·simp only [if_pos c7]
  by_cases c8 : ref < 1
  ·simp only [if_pos c8, decide_eq_false (show ¬ 1 ≤ ref by omega), if_true]; exact Ev.const _
  ·simp only [if_neg c8, decide_eq_true (show 1 ≤ ref by omega), Bool.true_eq_false, if_false]; exact Ev.const _
 ·simp only [if_neg c7]
  by_cases c8 : ref = 0
  ·simp only [if_pos c8, c8, beq_self_eq_true, Bool.true_eq_false, if_false]; exact Ev.const _
  ·simp only [if_neg c8, beq_eq_false_iff_ne.2 c8, if_true]; exact Ev.const _
theorem F32.eq (n : Int) : F32.f n = some (dayv n) := by
 unfold F32.f dayv
 by_cases a : n ≥ 0
 ·rw [if_pos a]; congr 1; simp [show 0 ≤ n from a]
 ·rw [if_neg a]; congr 1; simp [show ¬ 0 ≤ n from a]
theorem F34.eq (a b : Int) (c : ByteArray) (kind qty e : Int) (f : ByteArray) (g : Int) (hk : inv kind 1 6 = true) : F34.f a b c kind qty e f g = some (qtyv kind qty) := by
 have hk : 1 ≤ kind ∧ kind ≤ 6 := of_decide_eq_true hk
 unfold F34.f F54.f qtyv
 by_cases x : kind = 5 ∨ kind = 6
 ·rw [if_pos x]
  simp [show ¬ kind ≤ 4 by omega, show kind ≥ 1 by omega]
 ·rw [if_neg x]; simp only [if_pos (show kind ≥ 1 by omega), decide_eq_true (show kind ≤ 4 by omega), Option.bind_some, if_true, inv]
  by_cases q : qty ≥ 1
  ·rw [if_pos q]; congr 1; simp [show 1 ≤ qty from q]
  ·rw [if_neg q]; congr 1; simp [show ¬ 1 ≤ qty from q]
theorem F35.eq (a b : Int) (c : ByteArray) (kind qty e : Int) (f : ByteArray) (g : Int) : Ev (fun k => F35.f k a b c kind qty e f g) (cstv kind e) := by
 unfold F35.f cstv
 by_cases x : kind = 2
 ·simp only [if_pos x, if_pos (show kind = 2 ∨ kind = 3 from .inl x)]; refine Ev.succ ?_; simp only [F35.j0, x, if_true, beq_self_eq_true]; exact Ev.const _
 ·simp only [if_neg x]; refine Ev.succ ?_
  by_cases y : kind = 3
  ·simp only [F35.j0, y, if_true, beq_self_eq_true, if_pos (show (3 : Int) = 2 ∨ (3 : Int) = 3 from .inr rfl)]; exact Ev.const _
  ·simp only [F35.j0, beq_eq_false_iff_ne.2 y, Bool.false_eq_true, if_false, if_neg (show ¬ (kind = 2 ∨ kind = 3) by simp [x, y])]
   by_cases z : kind = 5
   ·simp only [if_pos z]
    unfold inv
    by_cases q : e ≥ 1
    ·simp only [if_pos q]; simp only [show (1 ≤ e ∧ e ≤ 1000000000000) = (e ≤ 1000000000000) by simp [show 1 ≤ e from q]]; exact Ev.const _
    ·simp only [if_neg q, decide_eq_false (show ¬ (1 ≤ e ∧ e ≤ 1000000000000) by omega)]; exact Ev.const _
   ·simp only [if_neg z]
    unfold inv
    by_cases q : e ≥ 0
    ·simp only [if_pos q]; simp only [show (0 ≤ e ∧ e ≤ 1000000000000) = (e ≤ 1000000000000) by simp [show 0 ≤ e from q]]; exact Ev.const _
    ·simp only [if_neg q, decide_eq_false (show ¬ (0 ≤ e ∧ e ≤ 1000000000000) by omega)]; exact Ev.const _
theorem F13.j2_eq (bl : Bool) (a value : Int) (item : ByteArray) (kind qty cost : Int) (lot : ByteArray) (ref : Int) : Ev (fun k => F13.j2 k bl a value item kind qty cost lot ref) (if bl = true then 22 else if rfv kind ref = false then 28 else 0) := by
 refine Ev.succ ?_
 cases bl with
 | true => simp only [F13.j2, if_true]; exact Ev.const _
 | false =>
  simp only [F13.j2, Bool.false_eq_true, if_false, F36.eq, Option.bind_some]
  unfold rfv
  by_cases c7 : folv kind = true
  ·simp only [if_pos c7]
   by_cases c8 : ref < 1
   ·simp only [if_pos c8, decide_eq_false (show ¬ 1 ≤ ref by omega), if_true]; exact Ev.const _
   ·simp only [if_neg c8, decide_eq_true (show 1 ≤ ref by omega), Bool.true_eq_false, if_false]; exact Ev.const _
  ·simp only [if_neg c7]
   by_cases c8 : ref = 0
   ·simp only [if_pos c8, c8, beq_self_eq_true, Bool.true_eq_false, if_false]; exact Ev.const _
   ·simp only [if_neg c8, beq_eq_false_iff_ne.2 c8, if_true]; exact Ev.const _
theorem F13.eq (a value : Int) (item : ByteArray) (kind qty cost : Int) (lot : ByteArray) (ref : Int) (hi : item.size ≤ 1000000000000000) (hl : lot.size ≤ 1000000000000000) : Ev (fun k => F13.f k a value item kind qty cost lot ref) (onev value item kind qty cost lot ref) := by
 unfold F13.f onev
 simp only [F32.eq, Option.bind_some]
 by_cases c1 : dayv value = true
 rotate_left
 ·simp only [if_neg c1, bnot c1, if_true]; exact Ev.const _
 simp only [if_pos c1, c1, Bool.true_eq_false, if_false]; refine Ev.bind (F33.eq item hi) ?_
 by_cases c2 : codev item = true
 rotate_left
 ·simp only [if_neg c2, bnot c2, if_true]; exact Ev.const _
 simp only [if_pos c2, c2, Bool.true_eq_false, if_false]
 by_cases c3 : inv kind 1 6 = true
 rotate_left
 ·simp only [bnot c3, if_true]; have hk : ¬ (1 ≤ kind ∧ kind ≤ 6) := of_decide_eq_false (bnot c3)
  by_cases d : kind < 1
  ·simp only [if_pos d]; refine Ev.succ ?_; simp only [F13.j0, if_true]; exact Ev.const _
  ·simp only [if_neg d, decide_eq_true (show kind > 6 by omega)]; refine Ev.succ ?_; simp only [F13.j0, if_true]; exact Ev.const _
 have hk : 1 ≤ kind ∧ kind ≤ 6 := of_decide_eq_true c3; simp only [c3, Bool.true_eq_false, if_false, if_neg (show ¬ kind < 1 by omega), decide_eq_false (show ¬ kind > 6 by omega)]; refine Ev.succ ?_; simp only [F13.j0, Bool.false_eq_true, if_false, F34.eq _ _ _ _ _ _ _ _ c3, Option.bind_some]
 by_cases c4 : qtyv kind qty = true
 rotate_left
 ·simp only [if_neg c4, bnot c4, Bool.false_and, if_true]; refine Ev.succ ?_; simp only [F13.j1, if_true]; exact Ev.const _
 simp only [if_pos c4, c4, Bool.true_and]; refine Ev.bind (F35.eq _ _ _ _ _ _ _ _) ?_
 by_cases c5 : cstv kind cost = true
 rotate_left
 ·simp only [bnot c5, if_true]; refine Ev.succ ?_; simp only [F13.j1, Bool.not_false, if_true]; exact Ev.const _
 simp only [c5, Bool.true_eq_false, if_false]; refine Ev.succ ?_; simp only [F13.j1, Bool.not_true, Bool.false_eq_true, if_false]
 unfold lotv
 by_cases c6 : lot.toList = ([] : List UInt8)
 ·simp only [if_pos c6, decide_eq_true c6, Bool.true_or, Bool.true_eq_false, if_false]; exact F13.j2_eq false _ _ _ _ _ _ _ _
 ·simp only [if_neg c6, decide_eq_false c6, Bool.false_or]; refine Ev.bind (F33.eq lot hl) ?_
  cases codev lot with
  | false =>
   simp only [Bool.false_eq_true, if_false, Bool.false_and, if_true]; exact F13.j2_eq true _ _ _ _ _ _ _ _
  | true =>
   simp only [if_true, Bool.true_and]
   by_cases d : kind > 2
   ·simp only [decide_eq_true d, beq_eq_false_iff_ne.2 (show kind ≠ 1 by omega), beq_eq_false_iff_ne.2 (show kind ≠ 2 by omega), Bool.false_or, if_true]; exact F13.j2_eq true _ _ _ _ _ _ _ _
   ·simp only [decide_eq_false d, show (kind == 1 || kind == 2) = true by simp; omega, Bool.true_eq_false, if_false]; exact F13.j2_eq false _ _ _ _ _ _ _ _
end Go.Proofs.YtegpappenmhndaaDoor.M
end
