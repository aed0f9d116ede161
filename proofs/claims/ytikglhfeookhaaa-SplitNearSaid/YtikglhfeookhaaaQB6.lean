/- What the claims of this seat share, part 6 of 7: what the program's functions compute. -/
import Derived.Test.YtikglhfeookhaaaQB1
import Derived.Test.YtikglhfeookhaaaQB2
import Derived.Test.YtikglhfeookhaaaQB4
import Derived.Test.YtikglhfeookhaaaQB5
section
-- Written by mprint.py (a program of this session) over the kit's print.
namespace Go.Proofs.Ytikglhfeookhaaa.M
open Go.RowKit Go.Proofs.YtikglhfeookhaaaW.PrintWords Go.Proofs.YtikglhfeookhaaaW.PrintLast Go.Proofs.YtikglhfeookhaaaW.PrintMore
attribute [local go_sem] max2_int min2_int max_two min_two max_three min_three max_four min_four   -- for this text's walks alone
set_option linter.unusedVariables false
set_option linter.unusedSimpArgs false

/-! ### slices_SortStableFunc_int_int__split_ranked_1: function 45 -/
def slices_SortStableFunc_int_int__split_ranked_1.f (k : Nat) (l0 : List Int) (s1_0 : List Int) : Option (List Int) := (slices_stableCmpFunc_int__split_ranked_1.f k l0 (l0.length : Int) s1_0).bind fun t101 => (some t101)
theorem slices_SortStableFunc_int_int__split_ranked_1.mono : ∀ a0 a1 k, LeO (slices_SortStableFunc_int_int__split_ranked_1.f k a0 a1) (slices_SortStableFunc_int_int__split_ranked_1.f (k + 1) a0 a1) := by
 intro a0 a1 k
 unfold slices_SortStableFunc_int_int__split_ranked_1.f
 repeat' first
   | (with_reducible exact slices_stableCmpFunc_int__split_ranked_1.mono _ _ _ _)
   | (with_reducible exact LeO.refl _)
   | (with_reducible exact LeO.none _)
   | (with_reducible refine LeO.ite ?_ ?_)
   | (with_reducible refine LeO.bind ?_ (fun _ => ?_))
   | exact slices_stableCmpFunc_int__split_ranked_1.mono _ _ _ _
   | exact LeO.none _
   | refine LeO.ite ?_ ?_
   | refine LeO.bind ?_ (fun _ => ?_)
set_option maxHeartbeats 8000000 in
set_option maxRecDepth 100000 in
theorem slices_SortStableFunc_int_int__split_ranked_1.calls (k : Nat) (P0_ : Nat → Prop) (u9000_ : Value) (l0 : List Int) (g : Nat) (s1_0 : List Int) (r : List Int) (w0 w : World) (hI : IsS22 w0 w g s1_0) (hB : Below w0.heap.size w0 w) (ho0 : Kd.R (Kd.int .i64) 3 w w0.heap.size P0_ u9000_ l0) (h : slices_SortStableFunc_int_int__split_ranked_1.f k l0 s1_0 = some r) :
    Calls Try.prog 45 #[u9000_, .func (.func 46) #[] #[.pointer (some ⟨g, 0, none⟩)]] w fun e w' => e = .returned (.tuple #[]) ∧ IsS22 w0 w' g s1_0 ∧ Kd.R (Kd.int .i64) 3 w' w0.heap.size (fun k_ => (P0_ k_ ∨ w.heap.size ≤ k_)) u9000_ r ∧ Below w0.heap.size w0 w' ∧ Kept w w' (fun k_ => (P0_ k_) ∨ k_ = g) := by
 have HO0 := Aside0.mk (show Kd.R (Kd.int .i64) 3 w w0.heap.size (fun k_ => (P0_ k_ ∨ w.heap.size ≤ k_)) u9000_ l0 from Kd.R_mono ho0 (fun k_ hk => (.inl hk)))
 have HI1 := Aside0.mk hI
 have HL := Aside0.mk hB.size
 clear hI
 have HK := Aside0.mk (Kept.refl w (fun k_ => (P0_ k_) ∨ k_ = g))
 have HW0 := Aside0.mk hB.size
 have HB := Aside0.mk hB
 clear hB
 have H : ((slices_stableCmpFunc_int__split_ranked_1.f k l0 (l0.length : Int) s1_0).bind fun t101 => (some t101)) = some r := h
 clear h
 replace H := Option.bind_eq_some_iff.mp H
 obtain ⟨t101, A30, H⟩ := H
 replace H : (some t101) = some r := H
 have A3 := Aside0.mk A30
 clear A30
 obtain rfl := Option.some.inj H
 obtain ⟨Ao4, co4, eo4⟩ := Kd.R_slice HO0.out
 subst eo4
 go_enter Try.func45, Try.ntmps45
 go_wp2_with (first | ((with_reducible refine gate_callee (f := 49) rfl ?_); refine goesL_ (some 8) rfl rfl Try.func49 (by kernel_rfl) rfl #[.slice Ao4 l0.length co4, .int .i64 (l0.length : Int), .func (.func 46) #[] #[.pointer (some ⟨g, 0, none⟩)]] rfl (by (try simp only [List.map_toArray, List.map_cons, List.map_nil]); first | done | rfl | (simp only [List.length_drop, List.length_take]; rfl)) ?_; (with_reducible refine (slices_stableCmpFunc_int__split_ranked_1.calls k (fun k_ => some k_ = (.slice Ao4 l0.length co4 : Value).ownBlock) (.slice Ao4 l0.length co4) l0 (l0.length : Int) g s1_0 t101 w0 _ ?side1 ?side2 ?side3 A3.out).mono ?_); (case side1 => repeat (first | (with_reducible first | exact HI1.out | apply IsS22.alloc | apply IsS22.drewN | apply IsS22.drew) | exact HI1.out)); (case side2 => repeat (first | (with_reducible first | exact HB.out | apply below_alloc | apply pw_below_drewN | apply below_drew1 | refine below_set ?_ (IsS22.ge HI1.out)) | exact HB.out)); (case side3 => exact Kd.R_tight rfl HO0.out); rintro e w5 ⟨rfl, hi, hy0, hb, hkp⟩; refine ⟨_, rfl, ?_⟩; have n0_ := Aside0.mk (hi); have n1_ := Aside0.mk (Kd.R_reok rfl hy0 (fun k_ e_ => HO0.out.1 k_ e_)); have n2_ := Aside0.mk (Kept.then_ (S := (fun k_ => (P0_ k_) ∨ k_ = g)) (by repeat (first | (with_reducible first | exact HK.out | apply Kept.alloc | apply Kept.drewN | apply Kept.drew | refine Kept.setCell ?_ (.inl (.inr rfl)) _) | exact HK.out)) hkp (fun k_ hs_ => Or.elim hs_ (fun hs_ => (fun e_ => Or.imp_left Or.inl ((HO0.out.1 k_ e_.symm))) hs_) (fun e_ => .inl (.inr e_)))); have n3_ := Aside0.mk (hb); clear HI1; clear HO0; clear HK; clear HB; have HI1 := n0_; have HO0 := n1_; have HK := n2_; have HB := n3_; clear n0_ n1_ n2_ n3_; (try clear hb); (try clear hkp); (try clear hy0)))
 first | go_end0 | ((try simp only [Exit.inBlock, Exit.then]); refine bodyPost_ret (results_none rfl _ _ _) rfl ?_)
 exact ⟨by first | rfl | (simp [errW_none, errW_some] <;> rfl) | (simp [*, errW_none, errW_some] <;> rfl), by repeat (first | (with_reducible first | exact HI1.out | apply IsS22.alloc | apply IsS22.drewN | apply IsS22.drew) | exact HI1.out), by (with_reducible repeat (first | apply Kd.R_alloc | apply Kd.R_drewN | apply Kd.R_drew)); exact HO0.out, by repeat (first | (with_reducible first | exact HB.out | apply below_alloc | apply pw_below_drewN | apply below_drew1 | refine below_set ?_ (IsS22.ge HI1.out)) | exact HB.out), by repeat (first | (with_reducible first | exact HK.out | apply Kept.alloc | apply Kept.drewN | apply Kept.drew | refine Kept.setCell ?_ (.inl (.inr rfl)) _) | exact HK.out)⟩

end Go.Proofs.Ytikglhfeookhaaa.M
end
section
-- Written by mprint.py (a program of this session) over the kit's print.
namespace Go.Proofs.Ytikglhfeookhaaa.M
open Go.RowKit Go.Proofs.YtikglhfeookhaaaW.PrintWords Go.Proofs.YtikglhfeookhaaaW.PrintLast Go.Proofs.YtikglhfeookhaaaW.PrintMore
attribute [local go_sem] max2_int min2_int max_two min_two max_three min_three max_four min_four   -- for this text's walks alone
set_option linter.unusedVariables false
set_option linter.unusedSimpArgs false

/-! ### split_ranked: function 35 -/
def split_ranked.l0 : Nat → List Int → Int → Int → List Int → Option (List Int)
  | 0, _, _, _, _ => none
  | k + 1, x3, x10, x11, x103000 => if x11 < x10 then (if 0 ≤ x11 then (if x11 < (x3.length : Int) then (split_ranked.l0 k (x3.set (x11 : Int).toNat x11) x10 (wrap64 (x11 + 1)) x103000) else (none)) else (none)) else (if 0 ≤ (x3.length : Int) then (if ((x3.length : Int) : Int).toNat ≤ 35184372088832 then ((pw_copy_22.f (List.replicate ((x3.length : Int) : Int).toNat 0) x3).bind fun bt110 => ((slices_SortStableFunc_int_int__split_ranked_1.f k bt110.2 x103000).bind fun t112 => (some t112))) else (none)) else (none))
def split_ranked.f (k : Nat) (l0 : List Int) : Option (List Int) := if 0 ≤ (l0.length : Int) then (if ((l0.length : Int) : Int).toNat ≤ 35184372088832 then ((some (List.replicate ((l0.length : Int) : Int).toNat 0 : List Int)).bind fun y103 => (split_ranked.l0 k y103 (y103.length : Int) 0 l0)) else (none)) else (none)
theorem split_ranked.mono_l : ∀ k, (∀ y0 y1 y2 y3, LeO (split_ranked.l0 k y0 y1 y2 y3) (split_ranked.l0 (k + 1) y0 y1 y2 y3))
  | 0 => fun _ _ _ _ r h => by simp [split_ranked.l0] at h
  | k + 1 => by
    have ih0 := split_ranked.mono_l k
    · intro y0 y1 y2 y3
      unfold split_ranked.l0
      repeat' first
      | (with_reducible exact ih0 _ _ _ _)
      | (with_reducible exact slices_SortStableFunc_int_int__split_ranked_1.mono _ _ _)
      | (with_reducible exact LeO.refl _)
      | (with_reducible exact LeO.none _)
      | (with_reducible refine LeO.ite ?_ ?_)
      | (with_reducible refine LeO.bind ?_ (fun _ => ?_))
      | exact ih0 _ _ _ _
      | exact slices_SortStableFunc_int_int__split_ranked_1.mono _ _ _
      | exact LeO.none _
      | refine LeO.ite ?_ ?_
      | refine LeO.bind ?_ (fun _ => ?_)
theorem split_ranked.mono : ∀ a0 k, LeO (split_ranked.f k a0) (split_ranked.f (k + 1) a0) := by
 intro a0 k
 have ih0 := split_ranked.mono_l k
 unfold split_ranked.f
 repeat' first
   | (with_reducible exact ih0 _ _ _ _)
   | (with_reducible exact slices_SortStableFunc_int_int__split_ranked_1.mono _ _ _)
   | (with_reducible exact LeO.refl _)
   | (with_reducible exact LeO.none _)
   | (with_reducible refine LeO.ite ?_ ?_)
   | (with_reducible refine LeO.bind ?_ (fun _ => ?_))
   | exact ih0 _ _ _ _
   | exact slices_SortStableFunc_int_int__split_ranked_1.mono _ _ _
   | exact LeO.none _
   | refine LeO.ite ?_ ?_
   | refine LeO.bind ?_ (fun _ => ?_)
set_option maxHeartbeats 8000000 in
set_option maxRecDepth 100000 in
theorem split_ranked.calls (k : Nat) (A0 : Option Addr) (c0 : Nat) (l0 : List Int) (r : List Int) (w : World) (hr0 : Kd.C (Kd.int .i64) w A0 l0.length l0) (hc0 : l0.length ≤ c0) (h : split_ranked.f k l0 = some r) :
    Calls Try.prog 35 #[.slice A0 l0.length c0] w fun e w' => ∃ v0_ : Value, e = .returned (v0_) ∧ Kd.R (Kd.int .i64) 3 w' w.heap.size (fun _ => True) v0_ r ∧ Below w.heap.size w w' := by
 have hu22 := Try.underlying22
 have hu3 := Try.underlying3
 have HR0 := Aside0.mk hr0
 have HC0 := Aside0.mk hc0
 clear hr0 hc0
 have HB := Aside0.mk (Below.refl w.heap.size w)
 have H : (if 0 ≤ (l0.length : Int) then (if ((l0.length : Int) : Int).toNat ≤ 35184372088832 then ((some (List.replicate ((l0.length : Int) : Int).toNat 0 : List Int)).bind fun y103 => (split_ranked.l0 k y103 (y103.length : Int) 0 l0)) else (none)) else (none)) = some r := h
 clear h
 by_cases c2 : 0 ≤ (l0.length : Int)
 ·rw [if_pos c2] at H
  have c2b0 := eq_true c2
  have c2b1 : decide (0 ≤ (l0.length : Int)) = true := decide_eq_true c2
  clear c2
  by_cases c3 : ((l0.length : Int) : Int).toNat ≤ 35184372088832
  ·rw [if_pos c3] at H
   have c3b0 := eq_true c3
   have c3b1 : decide (((l0.length : Int) : Int).toNat ≤ 35184372088832) = true := decide_eq_true c3
   clear c3
   obtain ⟨y103, hy103⟩ : ∃ y_ : List Int, y_ = (List.replicate ((l0.length : Int) : Int).toNat 0) := ⟨_, rfl⟩
   replace H : (split_ranked.l0 k y103 (y103.length : Int) 0 l0) = some r := by first | (rw [hy103]; with_reducible exact H) | (have H2_ := (Option.bind_some _ _).symm.trans H; rw [hy103]; with_reducible exact H2_) | (have H2_ := (Option.bind_some _ _).symm.trans H; with_reducible exact H2_) | with_reducible exact H | (rw [hy103]; exact H) | exact H
   have Ny103 := Aside0.mk hy103
   clear hy103
   have H' := Aside0.mk H
   clear H
   go_enter Try.func35, Try.ntmps35
   go_wp2_with (first | ((with_reducible refine gate_dst (N := 1) rfl ?_); refine box_event ?hg (N := 1) ?hd (cs := #[.slice A0 l0.length c0]) (t := 22) ?hr ?_; (case hd => rfl); (case hg => rfl); (case hr => first | (go_simp; done) | (go_simp; rfl)); intro gb102 hg w4 hbox hb; have n0_ := Aside0.mk (below_step (by repeat (first | (with_reducible first | exact HB.out | apply below_alloc | apply pw_below_drewN | apply below_drew1) | exact HB.out)) hb); have n1_ := Aside0.mk ((show IsS22 w w4 gb102 l0 from ⟨_, _, hbox, (by rw [hg]; exact (below_size (by repeat (first | (with_reducible first | exact HB.out | apply below_alloc | apply pw_below_drewN | apply below_drew1) | exact HB.out))) : w.heap.size ≤ gb102), HR0.out⟩)); have n2_ := Aside0.mk ((by rw [hg]; exact (below_size (by repeat (first | (with_reducible first | exact HB.out | apply below_alloc | apply pw_below_drewN | apply below_drew1) | exact HB.out))) : w.heap.size ≤ gb102)); have n3_ := Aside0.mk ((by rw [hg]; exact (below_size (by repeat (first | (with_reducible first | exact HB.out | apply below_alloc | apply pw_below_drewN | apply below_drew1) | exact HB.out))) : w.heap.size ≤ gb102)); clear HB; have HB := n0_; have HI102 := n1_; have GW102 := n2_; have GE102 := n3_; clear n0_ n1_ n2_ n3_; clear hb hbox hg; obtain ⟨ASz5_0, cSz5_0, HGz5, hgz5, HSz5_0⟩ := HI102.out; have hcz5_0 := cellS22_0 HGz5; clear HGz5 hgz5) | ((with_reducible refine gate_dst (N := 8) rfl ?_); refine Kd.R_make (Kd.int .i64) _ 3 rfl (N := 8) rfl 22 _ _ rfl (l0.length : Int) rfl rfl Try.underlying22 (.int .i64 0) 8 info3 rfl (by decide) (by omega) 0 (ok := fun _ => True) (okp := fun _ => True) rfl (fun _ hk => hk) trivial (of_decide_eq_true (by first | (with_reducible assumption) | assumption)) (Nat.le_trans (Nat.mul_le_mul_right _ (of_decide_eq_true (by first | (with_reducible assumption) | assumption) : (l0.length : Int).toNat ≤ 35184372088832)) (by omega)) (Below.refl _ _) (Nat.le_refl _) ?_; intro v104 w6 ho7 hb hg_ hnew_; clear hg_ hnew_; (first | rw [← Ny103.out] at ho7 | (simp only [Int.reduceToNat] at ho7; rw [← Ny103.out] at ho7)); have n0_ := Aside0.mk (Kd.R_lower ho7 (below_size (by repeat (first | (with_reducible first | exact HB.out | apply below_alloc | apply pw_below_drewN | apply below_drew1 | refine below_set ?_ (IsS22.ge HI102.out)) | exact HB.out)))); have n1_ := Aside0.mk (IsS22.below (by repeat (first | (with_reducible first | exact HI102.out | apply IsS22.alloc | apply IsS22.drewN | apply IsS22.drew) | exact HI102.out)) hb); have n2_ := Aside0.mk (below_step (by repeat (first | (with_reducible first | exact HB.out | apply below_alloc | apply pw_below_drewN | apply below_drew1 | refine below_set ?_ (IsS22.ge HI102.out)) | exact HB.out)) hb); clear HI102; clear HB; have HO105 := n0_; have HI102 := n1_; have HB := n2_; clear n0_ n1_ n2_; clear hb ho7; obtain ⟨Ao8, co8, eo8⟩ := Kd.R_slice HO105.out; subst eo8))
   go_loopg [11] k (fun kq v11 w' => ∃ (x3_1 : List Int) (x11_1 : Int), v11 = .int .i64 x11_1 ∧ Aside0 (split_ranked.l0 kq x3_1 (y103.length : Int) x11_1 l0 = some r) ∧ Aside0 (kq ≤ k) ∧ Aside0 (Kd.R (Kd.int .i64) 3 w' w.heap.size (fun _ => True) (.slice Ao8 y103.length co8) x3_1) ∧ Aside0 (IsS22 w w' gb102 l0) ∧ Aside0 (Below w.heap.size w w'))
   case atStart => exact ⟨(y103), (0), (by first | rfl | (simp; done) | (simp [*]; done)), H', ⟨Nat.le_refl _⟩, ⟨by (with_reducible repeat (first | apply Kd.R_alloc | apply Kd.R_drewN | apply Kd.R_drew)); exact HO105.out⟩, ⟨by repeat (first | (with_reducible first | exact HI102.out | apply IsS22.alloc | apply IsS22.drewN | apply IsS22.drew) | exact HI102.out)⟩, ⟨by repeat (first | (with_reducible first | exact HB.out | apply below_alloc | apply pw_below_drewN | apply below_drew1 | refine below_set ?_ (IsS22.ge HI102.out)) | exact HB.out)⟩⟩
   case round =>
    clear H'
    try clear c2
    try clear c2b0
    try clear c2b1
    try clear p2
    try clear c3
    try clear c3b0
    try clear c3b1
    try clear hcz5_0
    obtain ⟨x3_1, x11_1, rfl, HA, HK1, HO_3, HI102, HB⟩ := hrel
    have hl3_1 := (Kd.R_reads' HO_3.out).1
    rw [hl3_1] at HO_3
    (try simp only [hl3_1])
    cases gk with
    | zero => exact absurd HA.out (by simp [split_ranked.l0])
    | succ k1 =>
     have H := HA.out
     clear HA
     simp only [split_ranked.l0] at H
     by_cases c9 : x11_1 < (y103.length : Int)
     ·rw [if_pos c9] at H
      have c9b0 : decide (x11_1 < (y103.length : Int)) = true := decide_eq_true c9
      (try (have c9b0hl3_1 := c9b0; simp only [hl3_1] at c9b0hl3_1))
      clear c9
      by_cases c10 : 0 ≤ x11_1
      ·rw [if_pos c10] at H
       have c10b0 : decide (0 ≤ x11_1) = true := decide_eq_true c10
       clear c10
       by_cases c11 : x11_1 < (x3_1.length : Int)
       ·rw [if_pos c11] at H
        have c11b0 : decide (x11_1 < (x3_1.length : Int)) = true := decide_eq_true c11
        (try (have c11b0hl3_1 := c11b0; simp only [hl3_1] at c11b0hl3_1))
        clear c11
        obtain ⟨y106, hy106⟩ : ∃ y_ : List Int, y_ = (x3_1.set (x11_1 : Int).toNat x11_1) := ⟨_, rfl⟩
        replace H : (split_ranked.l0 k1 y106 (y103.length : Int) (wrap64 (x11_1 + 1)) l0) = some r := by first | (rw [hy106]; with_reducible exact H) | (have H2_ := (Option.bind_some _ _).symm.trans H; rw [hy106]; with_reducible exact H2_) | (have H2_ := (Option.bind_some _ _).symm.trans H; with_reducible exact H2_) | with_reducible exact H | (rw [hy106]; exact H) | exact H
        have Ny106 := Aside0.mk hy106
        clear hy106
        have H' := Aside0.mk H
        clear H
        have p12 : 0 ≤ (x11_1 : Int) := of_decide_eq_true (by first | (with_reducible assumption) | assumption)
        have q12 : (x11_1 : Int) < ((x3_1.length : Int) : Int) := of_decide_eq_true (by first | (with_reducible assumption) | assumption)
        obtain ⟨go12, co12, eo12, gb12, gl12, cl12, HG12⟩ := Kd.R_form HO_3.out (by omega)
        (first | cases eo12 | (injection eo12 with ea_ en_ ec_; (first | subst ea_ | (injection ea_ with ea_; subst ea_)); subst ec_; clear en_))
        have GB12 := Aside0.mk gb12
        have GG12 := Aside0.mk HG12
        clear gb12 gl12 HG12
        obtain ⟨hx12_0, hf12_0⟩ := Kd.R_celln 0 HO_3.out (x11_1 : Int) p12 q12
        replace p12 := eq_true p12
        replace q12 := eq_true q12
        have HP13 := Kd.R_putg HO_3.out (x11_1 : Int) x11_1
        go_wp2_with (first | ((with_reducible refine gate_store (t := 3) (p := 17) rfl ?_); refine store_event (t := 3) (p := 17) (v := ?vo_w14) (w1 := (wr.setCell ⟨go12, (x11_1 : Int).toNat, none⟩ (.int .i64 x11_1))) ?hg ?ho ?hn ?hr ?_; (case ho => rfl); (case hg => rfl); (case hn => rfl); (case hr => first | (go_simp; done) | (go_simp; rfl)); intro w14 hw; have hg : wr.grownBy w14 (some go12) := (by rw [hw]; exact HP13.2); have hp_ : Kd.R (Kd.int .i64) 3 w14 w.heap.size (fun _ => True) (.slice (some ⟨go12, 0, none⟩) x3_1.length co8) y106 := (by rw [hw, Ny106.out]; exact HP13.1); clear HP13; have n0_ := Aside0.mk (hp_); have n1_ := Aside0.mk (IsS22.grown (by repeat (first | (with_reducible first | exact HI102.out | apply IsS22.alloc | apply IsS22.drewN | apply IsS22.drew) | exact HI102.out)) hg (IsS22.own_ne HI102.out HO_3.out (by decide))); have n2_ := Aside0.mk ((by rw [hw]; exact below_set (HB.out) GB12.out : Below w.heap.size w w14)); clear HO_3; clear HI102; clear HB; have HO_3 := n0_; have HI102 := n1_; have HB := n2_; clear n0_ n1_ n2_; clear hg hw hp_))
        (try simp only [← hl3_1])
        go_roundg k1
        case measure => have := HK1.out; omega
        case rel => exact ⟨(y106), (wrap64 (x11_1 + 1)), (by first | rfl | (simp; done) | (simp [*]; done)), H', ⟨by have := HK1.out; omega⟩, ⟨by (try simp only [hl3_1]); (with_reducible repeat (first | apply Kd.R_alloc | apply Kd.R_drewN | apply Kd.R_drew)); exact HO_3.out⟩, ⟨by repeat (first | (with_reducible first | exact HI102.out | apply IsS22.alloc | apply IsS22.drewN | apply IsS22.drew) | exact HI102.out)⟩, ⟨by repeat (first | (with_reducible first | exact HB.out | apply below_alloc | apply pw_below_drewN | apply below_drew1 | refine below_set ?_ (IsS22.ge HI102.out)) | exact HB.out)⟩⟩
       ·rw [if_neg c11] at H
        exact absurd H (by simp)
      ·rw [if_neg c10] at H
       exact absurd H (by simp)
     ·rw [if_neg c9] at H
      have c9b0 : decide (x11_1 < (y103.length : Int)) = false := decide_eq_false c9
      (try (have c9b0hl3_1 := c9b0; simp only [hl3_1] at c9b0hl3_1))
      clear c9
      by_cases c15 : 0 ≤ (x3_1.length : Int)
      ·rw [if_pos c15] at H
       have c15b0 := eq_true c15
       have c15b1 : decide (0 ≤ (x3_1.length : Int)) = true := decide_eq_true c15
       (try (have c15b1hl3_1 := c15b1; simp only [hl3_1] at c15b1hl3_1))
       clear c15
       by_cases c16 : ((x3_1.length : Int) : Int).toNat ≤ 35184372088832
       ·rw [if_pos c16] at H
        have c16b0 := eq_true c16
        have c16b1 : decide (((x3_1.length : Int) : Int).toNat ≤ 35184372088832) = true := decide_eq_true c16
        (try (have c16b1hl3_1 := c16b1; simp only [hl3_1] at c16b1hl3_1))
        clear c16
        obtain ⟨y107, hy107⟩ : ∃ y_ : List Int, y_ = (List.replicate ((x3_1.length : Int) : Int).toNat 0) := ⟨_, rfl⟩
        replace H : ((pw_copy_22.f y107 x3_1).bind fun bt110 => ((slices_SortStableFunc_int_int__split_ranked_1.f k1 bt110.2 l0).bind fun t112 => (some t112))) = some r := by first | (rw [hy107]; with_reducible exact H) | (have H2_ := (Option.bind_some _ _).symm.trans H; rw [hy107]; with_reducible exact H2_) | (have H2_ := (Option.bind_some _ _).symm.trans H; with_reducible exact H2_) | with_reducible exact H | (rw [hy107]; exact H) | exact H
        have Ny107 := Aside0.mk hy107
        clear hy107
        replace H := Option.bind_eq_some_iff.mp H
        obtain ⟨⟨t110, t111⟩, A170, H⟩ := H
        replace H : ((slices_SortStableFunc_int_int__split_ranked_1.f k1 t111 l0).bind fun t112 => (some t112)) = some r := H
        have A17 := Aside0.mk A170
        clear A170
        replace H := Option.bind_eq_some_iff.mp H
        obtain ⟨t112, A180, H⟩ := H
        replace H : (some t112) = some r := H
        have A18 := Aside0.mk A180
        clear A180
        obtain rfl := Option.some.inj H
        go_wp2_with (first | ((with_reducible refine gate_dst (N := 21) rfl ?_); refine Kd.R_make (Kd.int .i64) _ 3 rfl (N := 21) rfl 22 _ _ rfl (x3_1.length : Int) rfl rfl Try.underlying22 (.int .i64 0) 8 info3 rfl (by decide) (by omega) 0 (ok := fun _ => True) (okp := fun _ => True) rfl (fun _ hk => hk) trivial (of_decide_eq_true (by first | (with_reducible assumption) | assumption)) (Nat.le_trans (Nat.mul_le_mul_right _ (of_decide_eq_true (by first | (with_reducible assumption) | assumption) : (x3_1.length : Int).toNat ≤ 35184372088832)) (by omega)) (Below.refl _ _) (Nat.le_refl _) ?_; intro v108 w19 ho20 hb hg_ hnew_; clear hg_ hnew_; (first | rw [← Ny107.out] at ho20 | (simp only [Int.reduceToNat] at ho20; rw [← Ny107.out] at ho20)); have n0_ := Aside0.mk (Kd.R_elder' (by (with_reducible repeat (first | apply Kd.R_alloc | apply Kd.R_drewN | apply Kd.R_drew)); exact HO_3.out) (Kd.R_base ho20) hb); have n1_ := Aside0.mk (Kd.R_lower (Kd.R_new' ho20 (Kd.R_lt (by (with_reducible repeat (first | apply Kd.R_alloc | apply Kd.R_drewN | apply Kd.R_drew)); exact HO_3.out))) (below_size (by repeat (first | (with_reducible first | exact HB.out | apply below_alloc | apply pw_below_drewN | apply below_drew1 | refine below_set ?_ (IsS22.ge HI102.out)) | exact HB.out)))); have n2_ := Aside0.mk (IsS22.below (by repeat (first | (with_reducible first | exact HI102.out | apply IsS22.alloc | apply IsS22.drewN | apply IsS22.drew) | exact HI102.out)) hb); have n3_ := Aside0.mk (below_step (by repeat (first | (with_reducible first | exact HB.out | apply below_alloc | apply pw_below_drewN | apply below_drew1 | refine below_set ?_ (IsS22.ge HI102.out)) | exact HB.out)) hb); clear HO_3; clear HI102; clear HB; have HO_3 := n0_; have HO109 := n1_; have HI102 := n2_; have HB := n3_; clear n0_ n1_ n2_ n3_; clear hb ho20; obtain ⟨Ao21, co21, eo21⟩ := Kd.R_slice HO109.out; subst eo21) | (refine copyL_ (some 24) rfl rfl rfl #[.slice Ao21 y107.length co21, .slice Ao8 x3_1.length co8] (by first | rfl | (simp only [List.length_drop, List.length_take]; rfl)) ?_; (with_reducible refine (pw_copy_22.calls (fun k_ => some k_ = (.slice Ao21 y107.length co21 : Value).ownBlock) (.slice Ao21 y107.length co21) y107 _ _ x3_1 t110 t111 w _ ?side1 ?side2 ?side3 ?side4 A17.out).mono ?_); (case side1 => repeat (first | (with_reducible first | exact HB.out | apply below_alloc | apply pw_below_drewN | apply below_drew1 | refine below_set ?_ (IsS22.ge HI102.out)) | exact HB.out)); (case side2 => exact Kd.R_tight rfl HO109.out); (case side3 => exact Kd.C_kept_own (HO_3.out) (fun k_ hk_ hs_ => (hk_.2) hs_)); (case side4 => exact (Kd.R_reads' HO_3.out).2.1); rintro e w22 ⟨rfl, hy0, hb, hkp⟩; refine ⟨_, rfl, ?_⟩; have n0_ := Aside0.mk (Kd.R_mono (ok' := fun k_ => some k_ ≠ (.slice Ao21 y107.length co21 : Value).ownBlock) (Kd.R_keptB (HO_3.out) hkp (fun k_ hk_ hs_ => (hk_.2) hs_)) (fun k_ hk_ => hk_.1.2)); have n1_ := Aside0.mk (IsS22.kept (by repeat (first | (with_reducible first | exact HI102.out | apply IsS22.alloc | apply IsS22.drewN | apply IsS22.drew) | exact HI102.out)) hkp (fun hs_ => (fun e_ => (IsS22.own_ne HI102.out HO109.out (by decide)) e_) hs_)); have n2_ := Aside0.mk (Kd.R_reok rfl hy0 (fun k_ e_ => HO109.out.1 k_ e_)); have n3_ := Aside0.mk (hb); clear HO_3; clear HI102; clear HO109; clear HB; have HO_3 := n0_; have HI102 := n1_; have HO109 := n2_; have HB := n3_; clear n0_ n1_ n2_ n3_; (try clear hb); (try clear hkp); (try clear hy0)) | ((with_reducible refine gate_callee (f := 45) rfl ?_); refine goesL_ (some 27) rfl rfl Try.func45 (by kernel_rfl) rfl #[.slice Ao21 y107.length co21, .func (.func 46) #[] #[.pointer (some ⟨gb102, 0, none⟩)]] rfl (by (try simp only [List.map_toArray, List.map_cons, List.map_nil]); first | done | rfl | (simp only [List.length_drop, List.length_take]; rfl)) ?_; (with_reducible refine (slices_SortStableFunc_int_int__split_ranked_1.calls k1 (fun k_ => some k_ = (.slice Ao21 y107.length co21 : Value).ownBlock) (.slice Ao21 y107.length co21) t111 gb102 l0 t112 w _ ?side1 ?side2 ?side3 A18.out).mono ?_); (case side1 => repeat (first | (with_reducible first | exact HI102.out | apply IsS22.alloc | apply IsS22.drewN | apply IsS22.drew) | exact HI102.out)); (case side2 => repeat (first | (with_reducible first | exact HB.out | apply below_alloc | apply pw_below_drewN | apply below_drew1 | refine below_set ?_ (IsS22.ge HI102.out)) | exact HB.out)); (case side3 => exact Kd.R_tight rfl HO109.out); rintro e w23 ⟨rfl, hi, hy0, hb, hkp⟩; refine ⟨_, rfl, ?_⟩; have n0_ := Aside0.mk (Kd.R_mono (ok' := fun k_ => some k_ ≠ (.slice Ao21 y107.length co21 : Value).ownBlock) (Kd.R_keptB ((IsS22.apart HI102.out HO_3.out (by decide))) hkp (fun k_ hk_ hs_ => Or.elim hs_ (fun hs_ => (hk_.1) hs_) (fun e_ => (hk_.2) e_))) (fun k_ hk_ => hk_.1.1)); have n1_ := Aside0.mk (hi); have n2_ := Aside0.mk (Kd.R_reok rfl hy0 (fun k_ e_ => HO109.out.1 k_ e_)); have n3_ := Aside0.mk (hb); clear HO_3; clear HI102; clear HO109; clear HB; have HO_3 := n0_; have HI102 := n1_; have HO109 := n2_; have HB := n3_; clear n0_ n1_ n2_ n3_; (try clear hb); (try clear hkp); (try clear hy0)))
        go_ret
        exact ⟨_, by first | rfl | (simp [errW_none, errW_some] <;> rfl) | (simp [*, errW_none, errW_some] <;> rfl), by (with_reducible repeat (first | apply Kd.R_alloc | apply Kd.R_drewN | apply Kd.R_drew)); exact Kd.R_mono HO109.out (fun _ hk => trivial), by repeat (first | (with_reducible first | exact HB.out | apply below_alloc | apply pw_below_drewN | apply below_drew1 | refine below_set ?_ (IsS22.ge HI102.out)) | exact HB.out)⟩
       ·rw [if_neg c16] at H
        exact absurd H (by simp)
      ·rw [if_neg c15] at H
       exact absurd H (by simp)
  ·rw [if_neg c3] at H
   exact absurd H (by simp)
 ·rw [if_neg c2] at H
  exact absurd H (by simp)

end Go.Proofs.Ytikglhfeookhaaa.M
end
section
-- Written by mprint.py (a program of this session) over the kit's print.
namespace Go.Proofs.Ytikglhfeookhaaa.M
open Go.RowKit Go.Proofs.YtikglhfeookhaaaW.PrintWords Go.Proofs.YtikglhfeookhaaaW.PrintLast Go.Proofs.YtikglhfeookhaaaW.PrintMore
attribute [local go_sem] max2_int min2_int max_two min_two max_three min_three max_four min_four   -- for this text's walks alone
set_option linter.unusedVariables false
set_option linter.unusedSimpArgs false

/-! ### split_divide: function 22 -/
mutual
def split_divide.l0 : Nat → Int → Int → List Int → List Int → Int → List Int → Int → Int → Option (List Int)
  | 0, _, _, _, _, _, _, _, _ => none
  | k + 1, x0, x1, x7, x8, x9, x25, x26, x27 => if x27 < x26 then (if 0 ≤ x27 then (if x27 < (x25.length : Int) then ((muldiv_MulDiv.f k x0 (rd x25 x27) x1 1).bind fun bt108 => ((muldiv_Mod.f x0 (rd x25 x27) x1).bind fun bt110 => (if x27 < (x7.length : Int) then (if x27 < (x8.length : Int) then (split_divide.l0 k x0 x1 (x7.set (x27 : Int).toNat bt108.1) (x8.set (x27 : Int).toNat bt110.1) (wrap64 (x9 - bt108.1)) x25 x26 (wrap64 (x27 + 1))) else (none)) else (none)))) else (none)) else (none)) else ((split_ranked.f k x8).bind fun t114 => (if 0 ≤ x9 then (if x9 ≤ (t114.length : Int) then ((some (t114.take (x9 : Int).toNat : List Int)).bind fun y117 => (split_divide.l1 k x7 y117 (y117.length : Int) 0)) else (none)) else (none)))
def split_divide.l1 : Nat → List Int → List Int → Int → Int → Option (List Int)
  | 0, _, _, _, _ => none
  | k + 1, x7, x61, x62, x63 => if x63 < x62 then (if 0 ≤ x63 then (if x63 < (x61.length : Int) then (if 0 ≤ (rd x61 x63) then (if (rd x61 x63) < (x7.length : Int) then (split_divide.l1 k (x7.set ((rd x61 x63) : Int).toNat (wrap64 ((rd x7 (rd x61 x63)) + 1))) x61 x62 (wrap64 (x63 + 1))) else (none)) else (none)) else (none)) else (none)) else (some x7)
end
def split_divide.f (k : Nat) (a0 : Int) (a1 : Int) (l2 : List Int) : Option (List Int) := if 0 ≤ (l2.length : Int) then (if ((l2.length : Int) : Int).toNat ≤ 35184372088832 then (split_divide.l0 k a0 a1 (List.replicate ((l2.length : Int) : Int).toNat 0) (List.replicate ((l2.length : Int) : Int).toNat 0) a0 l2 (l2.length : Int) 0) else (none)) else (none)
theorem split_divide.mono_l : ∀ k, (∀ y0 y1 y2 y3 y4 y5 y6 y7, LeO (split_divide.l0 k y0 y1 y2 y3 y4 y5 y6 y7) (split_divide.l0 (k + 1) y0 y1 y2 y3 y4 y5 y6 y7)) ∧ (∀ y0 y1 y2 y3, LeO (split_divide.l1 k y0 y1 y2 y3) (split_divide.l1 (k + 1) y0 y1 y2 y3))
  | 0 => ⟨fun _ _ _ _ _ _ _ _ r h => by simp [split_divide.l0] at h, fun _ _ _ _ r h => by simp [split_divide.l1] at h⟩
  | k + 1 => by
    obtain ⟨ih0, ih1⟩ := split_divide.mono_l k
    refine ⟨?_, ?_⟩
    · intro y0 y1 y2 y3 y4 y5 y6 y7
      unfold split_divide.l0
      repeat' first
      | (with_reducible exact ih0 _ _ _ _ _ _ _ _)
      | (with_reducible exact ih1 _ _ _ _)
      | (with_reducible exact muldiv_MulDiv.mono _ _ _ _ _)
      | (with_reducible exact split_ranked.mono _ _)
      | (with_reducible exact LeO.refl _)
      | (with_reducible exact LeO.none _)
      | (with_reducible refine LeO.ite ?_ ?_)
      | (with_reducible refine LeO.bind ?_ (fun _ => ?_))
      | exact ih0 _ _ _ _ _ _ _ _
      | exact ih1 _ _ _ _
      | exact muldiv_MulDiv.mono _ _ _ _ _
      | exact split_ranked.mono _ _
      | exact LeO.none _
      | refine LeO.ite ?_ ?_
      | refine LeO.bind ?_ (fun _ => ?_)
    · intro y0 y1 y2 y3
      unfold split_divide.l1
      repeat' first
      | (with_reducible exact ih0 _ _ _ _ _ _ _ _)
      | (with_reducible exact ih1 _ _ _ _)
      | (with_reducible exact muldiv_MulDiv.mono _ _ _ _ _)
      | (with_reducible exact split_ranked.mono _ _)
      | (with_reducible exact LeO.refl _)
      | (with_reducible exact LeO.none _)
      | (with_reducible refine LeO.ite ?_ ?_)
      | (with_reducible refine LeO.bind ?_ (fun _ => ?_))
      | exact ih0 _ _ _ _ _ _ _ _
      | exact ih1 _ _ _ _
      | exact muldiv_MulDiv.mono _ _ _ _ _
      | exact split_ranked.mono _ _
      | exact LeO.none _
      | refine LeO.ite ?_ ?_
      | refine LeO.bind ?_ (fun _ => ?_)
theorem split_divide.mono : ∀ a0 a1 a2 k, LeO (split_divide.f k a0 a1 a2) (split_divide.f (k + 1) a0 a1 a2) := by
 intro a0 a1 a2 k
 obtain ⟨ih0, ih1⟩ := split_divide.mono_l k
 unfold split_divide.f
 repeat' first
   | (with_reducible exact ih0 _ _ _ _ _ _ _ _)
   | (with_reducible exact ih1 _ _ _ _)
   | (with_reducible exact muldiv_MulDiv.mono _ _ _ _ _)
   | (with_reducible exact split_ranked.mono _ _)
   | (with_reducible exact LeO.refl _)
   | (with_reducible exact LeO.none _)
   | (with_reducible refine LeO.ite ?_ ?_)
   | (with_reducible refine LeO.bind ?_ (fun _ => ?_))
   | exact ih0 _ _ _ _ _ _ _ _
   | exact ih1 _ _ _ _
   | exact muldiv_MulDiv.mono _ _ _ _ _
   | exact split_ranked.mono _ _
   | exact LeO.none _
   | refine LeO.ite ?_ ?_
   | refine LeO.bind ?_ (fun _ => ?_)
set_option maxHeartbeats 8000000 in
set_option maxRecDepth 100000 in
theorem split_divide.calls (k : Nat) (a0 : Int) (a1 : Int) (A2 : Option Addr) (c2 : Nat) (l2 : List Int) (r : List Int) (w : World) (hr2 : Kd.C (Kd.int .i64) w A2 l2.length l2) (hc2 : l2.length ≤ c2) (h : split_divide.f k a0 a1 l2 = some r) :
    Calls Try.prog 22 #[.int .i64 a0, .int .i64 a1, .slice A2 l2.length c2] w fun e w' => ∃ v0_ : Value, e = .returned (v0_) ∧ Kd.R (Kd.int .i64) 3 w' w.heap.size (fun _ => True) v0_ r ∧ Below w.heap.size w w' := by
 have hu3 := Try.underlying3
 have HR2 := Aside0.mk hr2
 have HC2 := Aside0.mk hc2
 clear hr2 hc2
 have HB := Aside0.mk (Below.refl w.heap.size w)
 have H : (if 0 ≤ (l2.length : Int) then (if ((l2.length : Int) : Int).toNat ≤ 35184372088832 then (split_divide.l0 k a0 a1 (List.replicate ((l2.length : Int) : Int).toNat 0) (List.replicate ((l2.length : Int) : Int).toNat 0) a0 l2 (l2.length : Int) 0) else (none)) else (none)) = some r := h
 clear h
 by_cases c4 : 0 ≤ (l2.length : Int)
 ·rw [if_pos c4] at H
  have c4b0 := eq_true c4
  have c4b1 : decide (0 ≤ (l2.length : Int)) = true := decide_eq_true c4
  clear c4
  by_cases c5 : ((l2.length : Int) : Int).toNat ≤ 35184372088832
  ·rw [if_pos c5] at H
   have c5b0 := eq_true c5
   have c5b1 : decide (((l2.length : Int) : Int).toNat ≤ 35184372088832) = true := decide_eq_true c5
   clear c5
   obtain ⟨y101, hy101⟩ : ∃ y_ : List Int, y_ = (List.replicate ((l2.length : Int) : Int).toNat 0) := ⟨_, rfl⟩
   replace H : (split_divide.l0 k a0 a1 y101 (List.replicate ((l2.length : Int) : Int).toNat 0) a0 l2 (l2.length : Int) 0) = some r := by first | (rw [hy101]; with_reducible exact H) | (have H2_ := (Option.bind_some _ _).symm.trans H; rw [hy101]; with_reducible exact H2_) | (have H2_ := (Option.bind_some _ _).symm.trans H; with_reducible exact H2_) | with_reducible exact H | (rw [hy101]; exact H) | exact H
   have Ny101 := Aside0.mk hy101
   clear hy101
   obtain ⟨y104, hy104⟩ : ∃ y_ : List Int, y_ = (List.replicate ((l2.length : Int) : Int).toNat 0) := ⟨_, rfl⟩
   replace H : (split_divide.l0 k a0 a1 y101 y104 a0 l2 (l2.length : Int) 0) = some r := by first | (rw [hy104]; with_reducible exact H) | (have H2_ := (Option.bind_some _ _).symm.trans H; rw [hy104]; with_reducible exact H2_) | (have H2_ := (Option.bind_some _ _).symm.trans H; with_reducible exact H2_) | with_reducible exact H | (rw [hy104]; exact H) | exact H
   have Ny104 := Aside0.mk hy104
   clear hy104
   have H' := Aside0.mk H
   clear H
   go_enter Try.func22, Try.ntmps22
   go_wp2_with (first | ((with_reducible refine gate_dst (N := 20) rfl ?_); refine Kd.R_make (Kd.int .i64) _ 3 rfl (N := 20) rfl 22 _ _ rfl (l2.length : Int) rfl rfl Try.underlying22 (.int .i64 0) 8 info3 rfl (by decide) (by omega) 0 (ok := fun _ => True) (okp := fun _ => True) rfl (fun _ hk => hk) trivial (of_decide_eq_true (by first | (with_reducible assumption) | assumption)) (Nat.le_trans (Nat.mul_le_mul_right _ (of_decide_eq_true (by first | (with_reducible assumption) | assumption) : (l2.length : Int).toNat ≤ 35184372088832)) (by omega)) (Below.refl _ _) (Nat.le_refl _) ?_; intro v102 w6 ho7 hb hg_ hnew_; clear hg_ hnew_; (first | rw [← Ny101.out] at ho7 | (simp only [Int.reduceToNat] at ho7; rw [← Ny101.out] at ho7)); have n0_ := Aside0.mk (Kd.R_lower ho7 (below_size (by repeat (first | (with_reducible first | exact HB.out | apply below_alloc | apply pw_below_drewN | apply below_drew1) | exact HB.out)))); have n1_ := Aside0.mk (below_step (by repeat (first | (with_reducible first | exact HB.out | apply below_alloc | apply pw_below_drewN | apply below_drew1) | exact HB.out)) hb); clear HB; have HO103 := n0_; have HB := n1_; clear n0_ n1_; clear hb ho7) | ((with_reducible refine gate_dst (N := 23) rfl ?_); refine Kd.R_make (Kd.int .i64) _ 3 rfl (N := 23) rfl 22 _ _ rfl (l2.length : Int) rfl rfl Try.underlying22 (.int .i64 0) 8 info3 rfl (by decide) (by omega) 0 (ok := fun _ => True) (okp := fun _ => True) rfl (fun _ hk => hk) trivial (of_decide_eq_true (by first | (with_reducible assumption) | assumption)) (Nat.le_trans (Nat.mul_le_mul_right _ (of_decide_eq_true (by first | (with_reducible assumption) | assumption) : (l2.length : Int).toNat ≤ 35184372088832)) (by omega)) (Below.refl _ _) (Nat.le_refl _) ?_; intro v105 w8 ho9 hb hg_ hnew_; clear hg_ hnew_; (first | rw [← Ny104.out] at ho9 | (simp only [Int.reduceToNat] at ho9; rw [← Ny104.out] at ho9)); have n0_ := Aside0.mk (Kd.R_elder' (by (with_reducible repeat (first | apply Kd.R_alloc | apply Kd.R_drewN | apply Kd.R_drew)); exact HO103.out) (Kd.R_base ho9) hb); have n1_ := Aside0.mk (Kd.R_lower (Kd.R_new' ho9 (Kd.R_lt (by (with_reducible repeat (first | apply Kd.R_alloc | apply Kd.R_drewN | apply Kd.R_drew)); exact HO103.out))) (below_size (by repeat (first | (with_reducible first | exact HB.out | apply below_alloc | apply pw_below_drewN | apply below_drew1) | exact HB.out)))); have n2_ := Aside0.mk (below_step (by repeat (first | (with_reducible first | exact HB.out | apply below_alloc | apply pw_below_drewN | apply below_drew1) | exact HB.out)) hb); clear HO103; clear HB; have HO103 := n0_; have HO106 := n1_; have HB := n2_; clear n0_ n1_ n2_; clear hb ho9))
   go_loopg [9, 27] k (fun kq v9 v27 w' => ∃ (x7_1 : List Int) (x8_1 : List Int) (x9_1 : Int) (x27_1 : Int), v9 = .int .i64 x9_1 ∧ v27 = .int .i64 x27_1 ∧ Aside0 (split_divide.l0 kq a0 a1 x7_1 x8_1 x9_1 l2 (l2.length : Int) x27_1 = some r) ∧ Aside0 (kq ≤ k) ∧ Aside0 (Kd.R (Kd.int .i64) 3 w' w.heap.size (fun k_ => some k_ ≠ (v105 : Value).ownBlock) v102 x7_1) ∧ Aside0 (Kd.R (Kd.int .i64) 3 w' w.heap.size (fun k_ => some k_ ≠ (v102 : Value).ownBlock) v105 x8_1) ∧ Aside0 (Below w.heap.size w w'))
   case atStart => exact ⟨(y101), (y104), (a0), (0), (by first | rfl | (simp; done) | (simp [*]; done)), (by first | rfl | (simp; done) | (simp [*]; done)), H', ⟨Nat.le_refl _⟩, ⟨by (with_reducible repeat (first | apply Kd.R_alloc | apply Kd.R_drewN | apply Kd.R_drew)); exact Kd.R_mono HO103.out (fun _ hk => hk.2)⟩, ⟨by (with_reducible repeat (first | apply Kd.R_alloc | apply Kd.R_drewN | apply Kd.R_drew)); exact Kd.R_mono HO106.out (fun _ hk => hk.2)⟩, ⟨by repeat (first | (with_reducible first | exact HB.out | apply below_alloc | apply pw_below_drewN | apply below_drew1) | exact HB.out)⟩⟩
   case round =>
    clear H'
    try clear c2
    try clear p2
    try clear c4
    try clear c4b0
    try clear c4b1
    try clear c5
    try clear c5b0
    try clear c5b1
    obtain ⟨x7_1, x8_1, x9_1, x27_1, rfl, rfl, HA, HK1, HO_7, HO_8, HB⟩ := hrel
    cases gk with
    | zero => exact absurd HA.out (by simp [split_divide.l0])
    | succ k1 =>
     have H := HA.out
     clear HA
     simp only [split_divide.l0] at H
     by_cases c10 : x27_1 < (l2.length : Int)
     ·rw [if_pos c10] at H
      have c10b0 : decide (x27_1 < (l2.length : Int)) = true := decide_eq_true c10
      clear c10
      by_cases c11 : 0 ≤ x27_1
      ·rw [if_pos c11] at H
       have c11b0 : decide (0 ≤ x27_1) = true := decide_eq_true c11
       clear c11
       by_cases c12 : x27_1 < (l2.length : Int)
       ·rw [if_pos c12] at H
        have c12b0 : decide (x27_1 < (l2.length : Int)) = true := decide_eq_true c12
        clear c12
        replace H := Option.bind_eq_some_iff.mp H
        obtain ⟨⟨t108, t109⟩, A130, H⟩ := H
        replace H : ((muldiv_Mod.f a0 (rd l2 x27_1) a1).bind fun bt110 => (if x27_1 < (x7_1.length : Int) then (if x27_1 < (x8_1.length : Int) then (split_divide.l0 k1 a0 a1 (x7_1.set (x27_1 : Int).toNat t108) (x8_1.set (x27_1 : Int).toNat bt110.1) (wrap64 (x9_1 - t108)) l2 (l2.length : Int) (wrap64 (x27_1 + 1))) else (none)) else (none))) = some r := H
        have A13 := Aside0.mk A130
        clear A130
        replace H := Option.bind_eq_some_iff.mp H
        obtain ⟨⟨t110, t111⟩, A140, H⟩ := H
        replace H : (if x27_1 < (x7_1.length : Int) then (if x27_1 < (x8_1.length : Int) then (split_divide.l0 k1 a0 a1 (x7_1.set (x27_1 : Int).toNat t108) (x8_1.set (x27_1 : Int).toNat t110) (wrap64 (x9_1 - t108)) l2 (l2.length : Int) (wrap64 (x27_1 + 1))) else (none)) else (none)) = some r := H
        have A14 := Aside0.mk A140
        clear A140
        by_cases c15 : x27_1 < (x7_1.length : Int)
        ·rw [if_pos c15] at H
         have c15b0 : decide (x27_1 < (x7_1.length : Int)) = true := decide_eq_true c15
         clear c15
         obtain ⟨y112, hy112⟩ : ∃ y_ : List Int, y_ = (x7_1.set (x27_1 : Int).toNat t108) := ⟨_, rfl⟩
         replace H : (if x27_1 < (x8_1.length : Int) then (split_divide.l0 k1 a0 a1 y112 (x8_1.set (x27_1 : Int).toNat t110) (wrap64 (x9_1 - t108)) l2 (l2.length : Int) (wrap64 (x27_1 + 1))) else (none)) = some r := by first | (rw [hy112]; with_reducible exact H) | (have H2_ := (Option.bind_some _ _).symm.trans H; rw [hy112]; with_reducible exact H2_) | (have H2_ := (Option.bind_some _ _).symm.trans H; with_reducible exact H2_) | with_reducible exact H | (rw [hy112]; exact H) | exact H
         have Ny112 := Aside0.mk hy112
         clear hy112
         by_cases c17 : x27_1 < (x8_1.length : Int)
         ·rw [if_pos c17] at H
          have c17b0 : decide (x27_1 < (x8_1.length : Int)) = true := decide_eq_true c17
          clear c17
          obtain ⟨y113, hy113⟩ : ∃ y_ : List Int, y_ = (x8_1.set (x27_1 : Int).toNat t110) := ⟨_, rfl⟩
          replace H : (split_divide.l0 k1 a0 a1 y112 y113 (wrap64 (x9_1 - t108)) l2 (l2.length : Int) (wrap64 (x27_1 + 1))) = some r := by first | (rw [hy113]; with_reducible exact H) | (have H2_ := (Option.bind_some _ _).symm.trans H; rw [hy113]; with_reducible exact H2_) | (have H2_ := (Option.bind_some _ _).symm.trans H; with_reducible exact H2_) | with_reducible exact H | (rw [hy113]; exact H) | exact H
          have Ny113 := Aside0.mk hy113
          clear hy113
          have H' := Aside0.mk H
          clear H
          have p107 : 0 ≤ (x27_1 : Int) := of_decide_eq_true (by first | (with_reducible assumption) | assumption)
          have q107 : x27_1 < (l2.length : Int) := of_decide_eq_true (by first | (with_reducible assumption) | assumption)
          obtain ⟨ad107, e107, hx107_0⟩ := Kd.at_int HR2.out x27_1 p107 q107
          cases e107
          replace hx107_0 := (HB.out.cell (World.block_lt_of_cell? w _ hx107_0)).trans hx107_0
          replace p107 := eq_true p107
          replace q107 := eq_true q107
          go_wp2_with (first | ((with_reducible refine gate_callee (f := 33) rfl ?_); refine goesL_ (some 36) rfl rfl Try.func33 (by kernel_rfl) rfl #[.int .i64 a0, .int .i64 (rd l2 x27_1), .int .i64 a1, .int .i64 1] rfl (by (try simp only [List.map_toArray, List.map_cons, List.map_nil]); first | done | rfl | (simp only [List.length_drop, List.length_take]; rfl)) ?_; (with_reducible refine (muldiv_MulDiv.calls k1 a0 (rd l2 x27_1) a1 1 t108 t109 _ A13.out).mono ?_); rintro e w19 ⟨rfl, hb⟩; refine ⟨_, rfl, ?_⟩; have n0_ := Aside0.mk (Kd.R_below (by (with_reducible repeat (first | apply Kd.R_alloc | apply Kd.R_drewN | apply Kd.R_drew)); exact HO_7.out) hb); have n1_ := Aside0.mk (Kd.R_below (by (with_reducible repeat (first | apply Kd.R_alloc | apply Kd.R_drewN | apply Kd.R_drew)); exact HO_8.out) hb); have n2_ := Aside0.mk (below_step (by repeat (first | (with_reducible first | exact HB.out | apply below_alloc | apply pw_below_drewN | apply below_drew1) | exact HB.out)) hb); clear HO_7; clear HO_8; clear HB; have HO_7 := n0_; have HO_8 := n1_; have HB := n2_; clear n0_ n1_ n2_; (try clear hb); (try clear hb2); (try clear hk); (try clear hi)) | ((with_reducible refine gate_callee (f := 34) rfl ?_); refine goesL_ (some 43) rfl rfl Try.func34 (by kernel_rfl) rfl #[.int .i64 a0, .int .i64 (rd l2 x27_1), .int .i64 a1] rfl (by (try simp only [List.map_toArray, List.map_cons, List.map_nil]); first | done | rfl | (simp only [List.length_drop, List.length_take]; rfl)) ?_; (with_reducible refine (muldiv_Mod.calls a0 (rd l2 x27_1) a1 t110 t111 _ A14.out).mono ?_); rintro e w20 ⟨rfl, hb⟩; refine ⟨_, rfl, ?_⟩; have n0_ := Aside0.mk (Kd.R_below (by (with_reducible repeat (first | apply Kd.R_alloc | apply Kd.R_drewN | apply Kd.R_drew)); exact HO_7.out) hb); have n1_ := Aside0.mk (Kd.R_below (by (with_reducible repeat (first | apply Kd.R_alloc | apply Kd.R_drewN | apply Kd.R_drew)); exact HO_8.out) hb); have n2_ := Aside0.mk (below_step (by repeat (first | (with_reducible first | exact HB.out | apply below_alloc | apply pw_below_drewN | apply below_drew1) | exact HB.out)) hb); clear HO_7; clear HO_8; clear HB; have HO_7 := n0_; have HO_8 := n1_; have HB := n2_; clear n0_ n1_ n2_; (try clear hb); (try clear hb2); (try clear hk); (try clear hi); have p16 : 0 ≤ (x27_1 : Int) := of_decide_eq_true (by first | (with_reducible assumption) | assumption); have q16 : (x27_1 : Int) < ((x7_1.length : Int) : Int) := of_decide_eq_true (by first | (with_reducible assumption) | assumption); obtain ⟨go16, co16, eo16, gb16, gl16, cl16, HG16⟩ := Kd.R_form HO_7.out (by omega); (first | cases eo16 | (injection eo16 with ea_ en_ ec_; (first | subst ea_ | (injection ea_ with ea_; subst ea_)); subst ec_; clear en_)); have GB16 := Aside0.mk gb16; have GG16 := Aside0.mk HG16; clear gb16 gl16 HG16; obtain ⟨hx16_0, hf16_0⟩ := Kd.R_celln 0 HO_7.out (x27_1 : Int) p16 q16; replace p16 := eq_true p16; replace q16 := eq_true q16; obtain ⟨hy21_, hz21_⟩ := Kd.R_celln 0 HO_7.out (x27_1 : Int) (of_decide_eq_true (by first | (with_reducible assumption) | assumption)) (of_decide_eq_true (by first | (with_reducible assumption) | assumption)); have HP21 := Kd.R_putg HO_7.out (x27_1 : Int) t108) | ((with_reducible refine gate_store (t := 3) (p := 49) rfl ?_); refine store_event (t := 3) (p := 49) (v := ?vo_w22) (w1 := (w20.setCell ⟨go16, (x27_1 : Int).toNat, none⟩ (.int .i64 t108))) ?hg ?ho ?hn ?hr ?_; (case ho => rfl); (case hg => rfl); (case hn => rfl); (case hr => first | (go_simp; done) | (go_simp; rfl)); intro w22 hw; have hg : w20.grownBy w22 (some go16) := (by rw [hw]; exact HP21.2); have hp_ : Kd.R (Kd.int .i64) 3 w22 w.heap.size (fun k_ => some k_ ≠ (v105 : Value).ownBlock) (.slice (some ⟨go16, 0, none⟩) x7_1.length co16) y112 := (by rw [hw, Ny112.out]; exact HP21.1); clear HP21; have n0_ := Aside0.mk (hp_); have n1_ := Aside0.mk (Kd.R_after (v := (.slice (some ⟨go16, 0, none⟩) x7_1.length co16)) (v1 := (.slice (some ⟨go16, 0, none⟩) x7_1.length co16)) (ok := (fun _ => True)) (by (with_reducible repeat (first | apply Kd.R_alloc | apply Kd.R_drewN | apply Kd.R_drew)); exact Kd.R_mono HO_8.out (fun _ hk => ⟨trivial, hk⟩)) hg (.inl rfl)); have n2_ := Aside0.mk ((by rw [hw]; exact below_set (HB.out) GB16.out : Below w.heap.size w w22)); clear HO_7; clear HO_8; clear HB; have HO_7 := n0_; have HO_8 := n1_; have HB := n2_; clear n0_ n1_ n2_; clear hg hw hp_; have p18 : 0 ≤ (x27_1 : Int) := of_decide_eq_true (by first | (with_reducible assumption) | assumption); have q18 : (x27_1 : Int) < ((x8_1.length : Int) : Int) := of_decide_eq_true (by first | (with_reducible assumption) | assumption); obtain ⟨go18, co18, eo18, gb18, gl18, cl18, HG18⟩ := Kd.R_form HO_8.out (by omega); (first | cases eo18 | (injection eo18 with ea_ en_ ec_; (first | subst ea_ | (injection ea_ with ea_; subst ea_)); subst ec_; clear en_)); have GB18 := Aside0.mk gb18; have GG18 := Aside0.mk HG18; clear gb18 gl18 HG18; obtain ⟨hx18_0, hf18_0⟩ := Kd.R_celln 0 HO_8.out (x27_1 : Int) p18 q18; replace p18 := eq_true p18; replace q18 := eq_true q18; have n_ := Aside0.mk (Kd.R_mono (ok' := (fun k_ => some k_ ≠ (.slice (some ⟨go16, 0, none⟩) x7_1.length co16 : Value).ownBlock)) HO_8.out (fun k_ hk => hk.2)); clear HO_8; have HO_8 := n_; clear n_; obtain ⟨hy23_, hz23_⟩ := Kd.R_celln 0 HO_8.out (x27_1 : Int) (of_decide_eq_true (by first | (with_reducible assumption) | assumption)) (of_decide_eq_true (by first | (with_reducible assumption) | assumption)); have HP23 := Kd.R_putg HO_8.out (x27_1 : Int) t110) | ((with_reducible refine gate_store (t := 3) (p := 53) rfl ?_); refine store_event (t := 3) (p := 53) (v := ?vo_w24) (w1 := (w22.setCell ⟨go18, (x27_1 : Int).toNat, none⟩ (.int .i64 t110))) ?hg ?ho ?hn ?hr ?_; (case ho => rfl); (case hg => rfl); (case hn => rfl); (case hr => first | (go_simp; done) | (go_simp; rfl)); intro w24 hw; have hg : w22.grownBy w24 (some go18) := (by rw [hw]; exact HP23.2); have hp_ : Kd.R (Kd.int .i64) 3 w24 w.heap.size (fun k_ => some k_ ≠ (.slice (some ⟨go16, 0, none⟩) x7_1.length co16 : Value).ownBlock) (.slice (some ⟨go18, 0, none⟩) x8_1.length co18) y113 := (by rw [hw, Ny113.out]; exact HP23.1); clear HP23; have n0_ := Aside0.mk (Kd.R_after (v := (.slice (some ⟨go18, 0, none⟩) x8_1.length co18)) (v1 := (.slice (some ⟨go18, 0, none⟩) x8_1.length co18)) (ok := (fun _ => True)) (by (with_reducible repeat (first | apply Kd.R_alloc | apply Kd.R_drewN | apply Kd.R_drew)); exact Kd.R_mono HO_7.out (fun _ hk => ⟨trivial, hk⟩)) hg (.inl rfl)); have n1_ := Aside0.mk (hp_); have n2_ := Aside0.mk ((by rw [hw]; exact below_set (HB.out) GB18.out : Below w.heap.size w w24)); clear HO_7; clear HO_8; clear HB; have HO_7 := n0_; have HO_8 := n1_; have HB := n2_; clear n0_ n1_ n2_; clear hg hw hp_))
          go_roundg k1
          case measure => have := HK1.out; omega
          case rel => exact ⟨(y112), (y113), (wrap64 (x9_1 - t108)), (wrap64 (x27_1 + 1)), (by first | rfl | (simp; done) | (simp [*]; done)), (by first | rfl | (simp; done) | (simp [*]; done)), H', ⟨by have := HK1.out; omega⟩, ⟨by (with_reducible repeat (first | apply Kd.R_alloc | apply Kd.R_drewN | apply Kd.R_drew)); exact Kd.R_mono HO_7.out (fun _ hk => hk.2)⟩, ⟨by (with_reducible repeat (first | apply Kd.R_alloc | apply Kd.R_drewN | apply Kd.R_drew)); exact HO_8.out⟩, ⟨by repeat (first | (with_reducible first | exact HB.out | apply below_alloc | apply pw_below_drewN | apply below_drew1) | exact HB.out)⟩⟩
         ·rw [if_neg c17] at H
          exact absurd H (by simp)
        ·rw [if_neg c15] at H
         exact absurd H (by simp)
       ·rw [if_neg c12] at H
        exact absurd H (by simp)
      ·rw [if_neg c11] at H
       exact absurd H (by simp)
     ·rw [if_neg c10] at H
      have c10b0 : decide (x27_1 < (l2.length : Int)) = false := decide_eq_false c10
      clear c10
      replace H := Option.bind_eq_some_iff.mp H
      obtain ⟨t114, A250, H⟩ := H
      replace H : (if 0 ≤ x9_1 then (if x9_1 ≤ (t114.length : Int) then ((some (t114.take (x9_1 : Int).toNat : List Int)).bind fun y117 => (split_divide.l1 k1 x7_1 y117 (y117.length : Int) 0)) else (none)) else (none)) = some r := H
      have A25 := Aside0.mk A250
      clear A250
      by_cases c26 : 0 ≤ x9_1
      ·rw [if_pos c26] at H
       have c26b0 := eq_true c26
       have c26b1 : decide (0 ≤ x9_1) = true := decide_eq_true c26
       clear c26
       by_cases c27 : x9_1 ≤ (t114.length : Int)
       ·rw [if_pos c27] at H
        have c27b0 := eq_true c27
        have c27b1 : decide (x9_1 ≤ (t114.length : Int)) = true := decide_eq_true c27
        clear c27
        obtain ⟨y117, hy117⟩ : ∃ y_ : List Int, y_ = (t114.take (x9_1 : Int).toNat) := ⟨_, rfl⟩
        replace H : (split_divide.l1 k1 x7_1 y117 (y117.length : Int) 0) = some r := by first | (rw [hy117]; with_reducible exact H) | (have H2_ := (Option.bind_some _ _).symm.trans H; rw [hy117]; with_reducible exact H2_) | (have H2_ := (Option.bind_some _ _).symm.trans H; with_reducible exact H2_) | with_reducible exact H | (rw [hy117]; exact H) | exact H
        have Ny117 := Aside0.mk hy117
        clear hy117
        have H' := Aside0.mk H
        clear H
        obtain ⟨Ao28, co28, eo28⟩ := Kd.R_slice HO_8.out
        subst eo28
        go_wp2_with (first | ((with_reducible refine gate_callee (f := 35) rfl ?_); refine goesL_ (some 59) rfl rfl Try.func35 (by kernel_rfl) rfl #[.slice Ao28 x8_1.length co28] rfl (by (try simp only [List.map_toArray, List.map_cons, List.map_nil]); first | done | rfl | (simp only [List.length_drop, List.length_take]; rfl)) ?_; (with_reducible refine (split_ranked.calls k1 _ _ x8_1 t114 _ ?side1 ?side2 A25.out).mono ?_); (case side1 => repeat (first | exact (Kd.R_reads' HO_8.out).2.2 | (with_reducible refine Kd.C_alloc ?_ _) | (with_reducible refine Kd.C_drewN ?_ _) | (with_reducible refine Kd.C_drew ?_))); (case side2 => exact (Kd.R_reads' HO_8.out).2.1); rintro e w29 ⟨v115, rfl, ho0, hb⟩; refine ⟨_, rfl, ?_⟩; have n0_ := Aside0.mk (Kd.R_elder' (by (with_reducible repeat (first | apply Kd.R_alloc | apply Kd.R_drewN | apply Kd.R_drew)); exact HO_7.out) (Kd.R_base ho0) hb); have n1_ := Aside0.mk (Kd.R_elder' (by (with_reducible repeat (first | apply Kd.R_alloc | apply Kd.R_drewN | apply Kd.R_drew)); exact HO_8.out) (Kd.R_base ho0) hb); have n2_ := Aside0.mk (Kd.R_lower (Kd.R_new' (Kd.R_new' ho0 (Kd.R_lt (by (with_reducible repeat (first | apply Kd.R_alloc | apply Kd.R_drewN | apply Kd.R_drew)); exact HO_7.out))) (Kd.R_lt (by (with_reducible repeat (first | apply Kd.R_alloc | apply Kd.R_drewN | apply Kd.R_drew)); exact HO_8.out))) (below_size (by repeat (first | (with_reducible first | exact HB.out | apply below_alloc | apply pw_below_drewN | apply below_drew1) | exact HB.out)))); have n3_ := Aside0.mk (below_step (by repeat (first | (with_reducible first | exact HB.out | apply below_alloc | apply pw_below_drewN | apply below_drew1) | exact HB.out)) hb); clear HO_7; clear HO_8; clear HB; have HO_7 := n0_; have HO_8 := n1_; have HO116 := n2_; have HB := n3_; clear n0_ n1_ n2_ n3_; (try clear hb); (try clear hb2); (try clear hk); (try clear hi); (try clear ho0); obtain ⟨Ao30, co30, eo30⟩ := Kd.R_slice HO116.out; subst eo30; have q31 : (x9_1 : Int) ≤ ((t114.length : Int) : Int) := of_decide_eq_true (by first | (with_reducible assumption) | assumption); obtain ⟨i031, hi031, _, hsz31, _⟩ := info_parts info3; have hcut31 := cut_to (P := Try.prog) 22 3 .i64 Try.underlying22 hi031 Ao30 t114.length co30 x9_1 (of_decide_eq_true (by first | (with_reducible assumption) | assumption)) q31 (Kd.R_reads' HO116.out).2.1; have hr31 := Kd.R_take (m := (x9_1 : Int).toNat) HO116.out (by omega); have hy31 : y117.length = (x9_1 : Int).toNat := (by rw [Ny117.out, List.length_take]; omega); rw [← Ny117.out] at hr31; rw [← hy31] at hr31 hcut31; clear hy31 hi031 hsz31 HO116; have HO119 := Aside0.mk hr31; clear hr31; replace q31 := eq_true q31; (try rw [show (Value.slice Ao30 t114.length co30).ownBlock = (Value.slice Ao30 y117.length co30).ownBlock from by first | rfl | (cases Ao30 <;> rfl)] at HO_7); (try rw [show (Value.slice Ao30 t114.length co30).ownBlock = (Value.slice Ao30 y117.length co30).ownBlock from by first | rfl | (cases Ao30 <;> rfl)] at HO_8)))
        (try simp only [Act.put, List.setIfInBounds_toArray, List.set_cons_zero, List.set_cons_succ])
        go_loopg [63] k1 (fun kq v63 w' => ∃ (x7_2 : List Int) (x63_2 : Int), v63 = .int .i64 x63_2 ∧ Aside0 (split_divide.l1 kq x7_2 y117 (y117.length : Int) x63_2 = some r) ∧ Aside0 (kq ≤ k1) ∧ Aside0 (Kd.R (Kd.int .i64) 3 w' w.heap.size (fun k_ => some k_ ≠ ((.slice Ao30 y117.length co30) : Value).ownBlock) v102 x7_2) ∧ Aside0 (Kd.R (Kd.int .i64) 3 w' w.heap.size (fun k_ => some k_ ≠ (v102 : Value).ownBlock) (.slice Ao30 y117.length co30) y117) ∧ Aside0 (Below w.heap.size w w'))
        case atStart => exact ⟨(x7_1), (0), (by first | rfl | (simp; done) | (simp [*]; done)), H', ⟨Nat.le_refl _⟩, ⟨by (with_reducible repeat (first | apply Kd.R_alloc | apply Kd.R_drewN | apply Kd.R_drew)); exact Kd.R_mono HO_7.out (fun _ hk => hk.2)⟩, ⟨by (with_reducible repeat (first | apply Kd.R_alloc | apply Kd.R_drewN | apply Kd.R_drew)); exact Kd.R_mono HO119.out (fun _ hk => hk.1.2)⟩, ⟨by repeat (first | (with_reducible first | exact HB.out | apply below_alloc | apply pw_below_drewN | apply below_drew1) | exact HB.out)⟩⟩
        case round =>
         clear H'
         try clear c1
         try clear p1
         try clear q1
         try clear hx1
         try clear c2
         try clear p2
         try clear c3
         try clear q3
         try clear c4
         try clear c4b0
         try clear c4b1
         try clear c5
         try clear c5b0
         try clear c5b1
         try clear p6
         try clear c10
         try clear c10b0
         try clear p10
         try clear q10
         try clear hx10
         try clear c11
         try clear c11b0
         try clear c12
         try clear c12b0
         try clear c15
         try clear c15b0
         try clear p16
         try clear q16
         try clear hx16
         try clear hf16
         try clear c17
         try clear c17b0
         try clear p18
         try clear q18
         try clear hx18
         try clear hf18
         try clear c22
         try clear c26
         try clear c26b0
         try clear c26b1
         try clear c27
         try clear c27b0
         try clear c27b1
         try clear q31
         try clear hx107_0
         try clear hx16_0
         try clear hx18_0
         try clear p107
         try clear p16
         try clear p18
         try clear p2
         try clear q107
         try clear q16
         try clear q18
         try clear q31
         obtain ⟨x7_2, x63_2, rfl, HA, HK2, HO_7, HO_61, HB⟩ := hrel
         cases gk with
         | zero => exact absurd HA.out (by simp [split_divide.l1])
         | succ k2 =>
          have H := HA.out
          clear HA
          simp only [split_divide.l1] at H
          by_cases c32 : x63_2 < (y117.length : Int)
          ·rw [if_pos c32] at H
           have c32b0 : decide (x63_2 < (y117.length : Int)) = true := decide_eq_true c32
           clear c32
           by_cases c33 : 0 ≤ x63_2
           ·rw [if_pos c33] at H
            have c33b0 : decide (0 ≤ x63_2) = true := decide_eq_true c33
            clear c33
            by_cases c34 : x63_2 < (y117.length : Int)
            ·rw [if_pos c34] at H
             have c34b0 : decide (x63_2 < (y117.length : Int)) = true := decide_eq_true c34
             clear c34
             by_cases c35 : 0 ≤ (rd y117 x63_2)
             ·rw [if_pos c35] at H
              have c35b0 : decide (0 ≤ (rd y117 x63_2)) = true := decide_eq_true c35
              clear c35
              by_cases c36 : (rd y117 x63_2) < (x7_2.length : Int)
              ·rw [if_pos c36] at H
               have c36b0 : decide ((rd y117 x63_2) < (x7_2.length : Int)) = true := decide_eq_true c36
               clear c36
               obtain ⟨y122, hy122⟩ : ∃ y_ : List Int, y_ = (x7_2.set ((rd y117 x63_2) : Int).toNat (wrap64 ((rd x7_2 (rd y117 x63_2)) + 1))) := ⟨_, rfl⟩
               replace H : (split_divide.l1 k2 y122 y117 (y117.length : Int) (wrap64 (x63_2 + 1))) = some r := by first | (rw [hy122]; with_reducible exact H) | (have H2_ := (Option.bind_some _ _).symm.trans H; rw [hy122]; with_reducible exact H2_) | (have H2_ := (Option.bind_some _ _).symm.trans H; with_reducible exact H2_) | with_reducible exact H | (rw [hy122]; exact H) | exact H
               have Ny122 := Aside0.mk hy122
               clear hy122
               have H' := Aside0.mk H
               clear H
               have p120 : 0 ≤ (x63_2 : Int) := of_decide_eq_true (by first | (with_reducible assumption) | assumption)
               have q120 : x63_2 < (y117.length : Int) := of_decide_eq_true (by first | (with_reducible assumption) | assumption)
               obtain ⟨ad120, e120, hx120_0⟩ := Kd.at_int (Kd.R_reads' HO_61.out).2.2 x63_2 p120 q120
               cases e120
               replace p120 := eq_true p120
               replace q120 := eq_true q120
               obtain ⟨Ao38, co38, eo38⟩ := Kd.R_slice HO_7.out
               subst eo38
               have p121 : 0 ≤ ((rd y117 x63_2) : Int) := of_decide_eq_true (by first | (with_reducible assumption) | assumption)
               have q121 : (rd y117 x63_2) < (x7_2.length : Int) := of_decide_eq_true (by first | (with_reducible assumption) | assumption)
               obtain ⟨ad121, e121, hx121_0⟩ := Kd.at_int (Kd.R_reads' HO_7.out).2.2 (rd y117 x63_2) p121 q121
               cases e121
               replace p121 := eq_true p121
               replace q121 := eq_true q121
               have p37 : 0 ≤ ((rd y117 x63_2) : Int) := of_decide_eq_true (by first | (with_reducible assumption) | assumption)
               have q37 : ((rd y117 x63_2) : Int) < ((x7_2.length : Int) : Int) := of_decide_eq_true (by first | (with_reducible assumption) | assumption)
               obtain ⟨go37, co37, eo37, gb37, gl37, cl37, HG37⟩ := Kd.R_form HO_7.out (by omega)
               (first | cases eo37 | (injection eo37 with ea_ en_ ec_; (first | subst ea_ | (injection ea_ with ea_; subst ea_)); subst ec_; clear en_))
               have GB37 := Aside0.mk gb37
               have GG37 := Aside0.mk HG37
               clear gb37 gl37 HG37
               (first | simp only [add_plain] at hx121_0 | skip)
               obtain ⟨hx37_0, hf37_0⟩ := Kd.R_celln 0 HO_7.out ((rd y117 x63_2) : Int) p37 q37
               replace p37 := eq_true p37
               replace q37 := eq_true q37
               have HP39 := Kd.R_putg HO_7.out ((rd y117 x63_2) : Int) (wrap64 ((rd x7_2 (rd y117 x63_2)) + 1))
               go_wp2_with (first | ((with_reducible refine gate_store (t := 3) (p := 72) rfl ?_); refine store_event (t := 3) (p := 72) (v := ?vo_w40) (w1 := (wr.setCell ⟨go37, ((rd y117 x63_2) : Int).toNat, none⟩ (.int .i64 (wrap64 ((rd x7_2 (rd y117 x63_2)) + 1))))) ?hg ?ho ?hn ?hr ?_; (case ho => rfl); (case hg => rfl); (case hn => rfl); (case hr => first | (go_simp; done) | (go_simp; rfl)); intro w40 hw; have hg : wr.grownBy w40 (some go37) := (by rw [hw]; exact HP39.2); have hp_ : Kd.R (Kd.int .i64) 3 w40 w.heap.size (fun k_ => some k_ ≠ (.slice (some ad120) y117.length co30 : Value).ownBlock) (.slice (some ⟨go37, 0, none⟩) x7_2.length co38) y122 := (by rw [hw, Ny122.out]; exact HP39.1); clear HP39; have n0_ := Aside0.mk (hp_); have n1_ := Aside0.mk (Kd.R_after (v := (.slice (some ⟨go37, 0, none⟩) x7_2.length co38)) (v1 := (.slice (some ⟨go37, 0, none⟩) x7_2.length co38)) (ok := (fun _ => True)) (by (with_reducible repeat (first | apply Kd.R_alloc | apply Kd.R_drewN | apply Kd.R_drew)); exact Kd.R_mono HO_61.out (fun _ hk => ⟨trivial, hk⟩)) hg (.inl rfl)); have n2_ := Aside0.mk ((by rw [hw]; exact below_set (HB.out) GB37.out : Below w.heap.size w w40)); clear HO_7; clear HO_61; clear HB; have HO_7 := n0_; have HO_61 := n1_; have HB := n2_; clear n0_ n1_ n2_; clear hg hw hp_))
               go_roundg k2
               case measure => have := HK1.out; have := HK2.out; omega
               case rel => exact ⟨(y122), (wrap64 (x63_2 + 1)), (by first | rfl | (simp; done) | (simp [*]; done)), H', ⟨by have := HK1.out; have := HK2.out; omega⟩, ⟨by (with_reducible repeat (first | apply Kd.R_alloc | apply Kd.R_drewN | apply Kd.R_drew)); exact HO_7.out⟩, ⟨by (with_reducible repeat (first | apply Kd.R_alloc | apply Kd.R_drewN | apply Kd.R_drew)); exact Kd.R_mono HO_61.out (fun _ hk => hk.2)⟩, ⟨by repeat (first | (with_reducible first | exact HB.out | apply below_alloc | apply pw_below_drewN | apply below_drew1) | exact HB.out)⟩⟩
              ·rw [if_neg c36] at H
               exact absurd H (by simp)
             ·rw [if_neg c35] at H
              exact absurd H (by simp)
            ·rw [if_neg c34] at H
             exact absurd H (by simp)
           ·rw [if_neg c33] at H
            exact absurd H (by simp)
          ·rw [if_neg c32] at H
           have c32b0 : decide (x63_2 < (y117.length : Int)) = false := decide_eq_false c32
           clear c32
           obtain rfl := Option.some.inj H
           go_wp2
           go_ret
           exact ⟨_, by first | rfl | (simp [errW_none, errW_some] <;> rfl) | (simp [*, errW_none, errW_some] <;> rfl), by (with_reducible repeat (first | apply Kd.R_alloc | apply Kd.R_drewN | apply Kd.R_drew)); exact Kd.R_mono HO_7.out (fun _ hk => trivial), by repeat (first | (with_reducible first | exact HB.out | apply below_alloc | apply pw_below_drewN | apply below_drew1) | exact HB.out)⟩
       ·rw [if_neg c27] at H
        exact absurd H (by simp)
      ·rw [if_neg c26] at H
       exact absurd H (by simp)
  ·rw [if_neg c5] at H
   exact absurd H (by simp)
 ·rw [if_neg c4] at H
  exact absurd H (by simp)

end Go.Proofs.Ytikglhfeookhaaa.M
end
section
-- Written by mprint.py (a program of this session) over the kit's print.
namespace Go.Proofs.Ytikglhfeookhaaa.M
open Go.RowKit Go.Proofs.YtikglhfeookhaaaW.PrintWords Go.Proofs.YtikglhfeookhaaaW.PrintLast Go.Proofs.YtikglhfeookhaaaW.PrintMore
attribute [local go_sem] max2_int min2_int max_two min_two max_three min_three max_four min_four   -- for this text's walks alone
set_option linter.unusedVariables false
set_option linter.unusedSimpArgs false

/-! ### split_Shares: function 12 -/
mutual
def split_Shares.j0 : Nat → Int → List Int → Bool → Option (List Int × Int)
  | 0, _, _, _ => none
  | k + 1, x0, x1, x16 => if x16 = true then (some (([] : List Int), 4)) else ((split_total.f k x1).bind fun bt101 => (if bt101.2 = 0 then (if x0 < 0 then ((split_divide.f k (wrap64 (-x0)) bt101.1 x1).bind fun t103 => (split_Shares.l0 k t103 (t103.length : Int) 0)) else ((split_divide.f k x0 bt101.1 x1).bind fun t108 => (some (t108, 0)))) else (some (([] : List Int), bt101.2))))
def split_Shares.l0 : Nat → List Int → Int → Int → Option (List Int × Int)
  | 0, _, _, _ => none
  | k + 1, x4, x33, x34 => if x34 < x33 then (if 0 ≤ x34 then (if x34 < (x4.length : Int) then (split_Shares.l0 k (x4.set (x34 : Int).toNat (wrap64 (-(rd x4 x34)))) x33 (wrap64 (x34 + 1))) else (none)) else (none)) else (some (x4, 0))
end
def split_Shares.f (k : Nat) (a0 : Int) (l1 : List Int) : Option (List Int × Int) := if (l1.length : Int) > 200 then (some (([] : List Int), 9)) else (if a0 > 1000000000000000 then (split_Shares.j0 k a0 l1 true) else (split_Shares.j0 k a0 l1 (decide (a0 < (-1000000000000000)))))
theorem split_Shares.mono_l : ∀ k, (∀ y0 y1 y2, LeO (split_Shares.j0 k y0 y1 y2) (split_Shares.j0 (k + 1) y0 y1 y2)) ∧ (∀ y0 y1 y2, LeO (split_Shares.l0 k y0 y1 y2) (split_Shares.l0 (k + 1) y0 y1 y2))
  | 0 => ⟨fun _ _ _ r h => by simp [split_Shares.j0] at h, fun _ _ _ r h => by simp [split_Shares.l0] at h⟩
  | k + 1 => by
    obtain ⟨ih0, ih1⟩ := split_Shares.mono_l k
    refine ⟨?_, ?_⟩
    · intro y0 y1 y2
      unfold split_Shares.j0
      repeat' first
      | (with_reducible exact ih0 _ _ _)
      | (with_reducible exact ih1 _ _ _)
      | (with_reducible exact split_divide.mono _ _ _ _)
      | (with_reducible exact split_total.mono _ _)
      | (with_reducible exact LeO.refl _)
      | (with_reducible exact LeO.none _)
      | (with_reducible refine LeO.ite ?_ ?_)
      | (with_reducible refine LeO.bind ?_ (fun _ => ?_))
      | exact ih0 _ _ _
      | exact ih1 _ _ _
      | exact split_divide.mono _ _ _ _
      | exact split_total.mono _ _
      | exact LeO.none _
      | refine LeO.ite ?_ ?_
      | refine LeO.bind ?_ (fun _ => ?_)
    · intro y0 y1 y2
      unfold split_Shares.l0
      repeat' first
      | (with_reducible exact ih0 _ _ _)
      | (with_reducible exact ih1 _ _ _)
      | (with_reducible exact split_divide.mono _ _ _ _)
      | (with_reducible exact split_total.mono _ _)
      | (with_reducible exact LeO.refl _)
      | (with_reducible exact LeO.none _)
      | (with_reducible refine LeO.ite ?_ ?_)
      | (with_reducible refine LeO.bind ?_ (fun _ => ?_))
      | exact ih0 _ _ _
      | exact ih1 _ _ _
      | exact split_divide.mono _ _ _ _
      | exact split_total.mono _ _
      | exact LeO.none _
      | refine LeO.ite ?_ ?_
      | refine LeO.bind ?_ (fun _ => ?_)
theorem split_Shares.mono : ∀ a0 a1 k, LeO (split_Shares.f k a0 a1) (split_Shares.f (k + 1) a0 a1) := by
 intro a0 a1 k
 obtain ⟨ih0, ih1⟩ := split_Shares.mono_l k
 unfold split_Shares.f
 repeat' first
   | (with_reducible exact ih0 _ _ _)
   | (with_reducible exact ih1 _ _ _)
   | (with_reducible exact split_divide.mono _ _ _ _)
   | (with_reducible exact split_total.mono _ _)
   | (with_reducible exact LeO.refl _)
   | (with_reducible exact LeO.none _)
   | (with_reducible refine LeO.ite ?_ ?_)
   | (with_reducible refine LeO.bind ?_ (fun _ => ?_))
   | exact ih0 _ _ _
   | exact ih1 _ _ _
   | exact split_divide.mono _ _ _ _
   | exact split_total.mono _ _
   | exact LeO.none _
   | refine LeO.ite ?_ ?_
   | refine LeO.bind ?_ (fun _ => ?_)
set_option maxHeartbeats 8000000 in
set_option maxRecDepth 100000 in
theorem split_Shares.calls (k : Nat) (a0 : Int) (A1 : Option Addr) (c1 : Nat) (l1 : List Int) (r1 : List Int) (r2 : Int) (w : World) (hr1 : Kd.C (Kd.int .i64) w A1 l1.length l1) (hc1 : l1.length ≤ c1) (h : split_Shares.f k a0 l1 = some (r1, r2)) :
    Calls Try.prog 12 #[.int .i64 a0, .slice A1 l1.length c1] w fun e w' => ∃ v0_ : Value, e = .returned (.tuple #[v0_, .int .i64 r2]) ∧ Kd.R (Kd.int .i64) 3 w' w.heap.size (fun _ => True) v0_ r1 ∧ Below w.heap.size w w' := by
 have hu3 := Try.underlying3
 have HR1 := Aside0.mk hr1
 have HC1 := Aside0.mk hc1
 clear hr1 hc1
 have HB := Aside0.mk (Below.refl w.heap.size w)
 have H : (if (l1.length : Int) > 200 then (some (([] : List Int), 9)) else (if a0 > 1000000000000000 then (split_Shares.j0 k a0 l1 true) else (split_Shares.j0 k a0 l1 (decide (a0 < (-1000000000000000)))))) = some (r1, r2) := h
 clear h
 by_cases c3 : (l1.length : Int) > 200
 ·rw [if_pos c3] at H
  have c3b0 : decide (200 < (l1.length : Int)) = true := decide_eq_true c3
  have c3b1 : decide (200 < l1.length) = true := decide_eq_true (by omega)
  clear c3
  simp only [Option.some.injEq, Prod.mk.injEq] at H
  obtain ⟨rfl, rfl⟩ := H
  go_enter Try.func12, Try.ntmps12
  go_wp2
  go_ret2
  exact ⟨_, by first | rfl | (simp [errW_none, errW_some] <;> rfl) | (simp [*, errW_none, errW_some] <;> rfl), by first | exact Kd.R_nil _ _ _ _ _ | exact Kd.N_nil _ _ _ _ _ | exact Kd.V_nil _ _ _ _ _ | exact Kd.Q_nil _ _ _ _ _ | exact Kd.S_nil _ _ _ _ _, by repeat (first | (with_reducible first | exact HB.out | apply below_alloc | apply pw_below_drewN | apply below_drew1) | exact HB.out)⟩
 ·rw [if_neg c3] at H
  have c3b0 : decide (200 < (l1.length : Int)) = false := decide_eq_false c3
  have c3b1 : decide (200 < l1.length) = false := decide_eq_false (by omega)
  clear c3
  have HC4 := Aside0.mk H
  clear H
  go_enter Try.func12, Try.ntmps12
  go_upto_region 3 with (fail)
  go_cut [16] (fun v16 wc => ∃ (kq : Nat) (x16_3 : Bool), v16 = .bool x16_3 ∧ Aside0 (split_Shares.j0 kq a0 l1 x16_3 = some (r1, r2)) ∧ Aside0 (kq ≤ k) ∧ Aside0 (Below w.heap.size w wc))
  case first =>
   have H := HC4.out
   clear HC4
   by_cases c5 : a0 > 1000000000000000
   ·rw [if_pos c5] at H
    have c5b0 : decide (1000000000000000 < a0) = true := decide_eq_true c5
    clear c5
    (first | rw [c5b0] | (simp only [i64_w, i32_w]; rw [c5b0]) | skip)
    have H' := Aside0.mk H
    clear H
    go_wp2
    go_meet
    case rel => exact ⟨_, (true), (by first | rfl | (simp; done) | (simp [*]; done)), H', ⟨by first | omega | exact Nat.le_refl _⟩, ⟨by repeat (first | (with_reducible first | exact HB.out | apply below_alloc | apply pw_below_drewN | apply below_drew1) | exact HB.out)⟩⟩
   ·rw [if_neg c5] at H
    have c5b0 : decide (1000000000000000 < a0) = false := decide_eq_false c5
    clear c5
    (first | rw [c5b0] | (simp only [i64_w, i32_w]; rw [c5b0]) | skip)
    have H' := Aside0.mk H
    clear H
    go_wp2
    go_meet
    case rel => exact ⟨_, (decide (a0 < (-1000000000000000))), (by first | rfl | (simp; done) | (simp [*]; done)), H', ⟨by first | omega | exact Nat.le_refl _⟩, ⟨by repeat (first | (with_reducible first | exact HB.out | apply below_alloc | apply pw_below_drewN | apply below_drew1) | exact HB.out)⟩⟩
  case rest =>
   clear HC4
   try clear c1
   try clear p2
   try clear c3
   try clear c3b0
   try clear c3b1
   try clear c5
   try clear c5b0
   obtain ⟨kq, x16_3, rfl, HA, HJ3, HB⟩ := hcut
   cases kq with
   | zero => exact absurd HA.out (by simp [split_Shares.j0])
   | succ kj3 =>
    have H := HA.out
    clear HA
    simp only [split_Shares.j0] at H
    by_cases c6 : x16_3 = true
    ·subst c6
     have H1 : (some (([] : List Int), 4)) = some (r1, r2) := by rw [if_pos rfl] at H; exact H
     clear H
     have H := H1
     clear H1
     simp only [Option.some.injEq, Prod.mk.injEq] at H
     obtain ⟨rfl, rfl⟩ := H
     go_wp2
     go_ret2
     exact ⟨_, by first | rfl | (simp [errW_none, errW_some] <;> rfl) | (simp [*, errW_none, errW_some] <;> rfl), by first | exact Kd.R_nil _ _ _ _ _ | exact Kd.N_nil _ _ _ _ _ | exact Kd.V_nil _ _ _ _ _ | exact Kd.Q_nil _ _ _ _ _ | exact Kd.S_nil _ _ _ _ _, by repeat (first | (with_reducible first | exact HB.out | apply below_alloc | apply pw_below_drewN | apply below_drew1) | exact HB.out)⟩
    ·replace c6 := Bool.eq_false_iff.mpr c6
     subst c6
     have H1 : ((split_total.f kj3 l1).bind fun bt101 => (if bt101.2 = 0 then (if a0 < 0 then ((split_divide.f kj3 (wrap64 (-a0)) bt101.1 l1).bind fun t103 => (split_Shares.l0 kj3 t103 (t103.length : Int) 0)) else ((split_divide.f kj3 a0 bt101.1 l1).bind fun t108 => (some (t108, 0)))) else (some (([] : List Int), bt101.2)))) = some (r1, r2) := by rw [if_neg (show ¬ (false = true) by decide)] at H; exact H
     clear H
     have H := H1
     clear H1
     replace H := Option.bind_eq_some_iff.mp H
     obtain ⟨⟨t101, t102⟩, A70, H⟩ := H
     replace H : (if t102 = 0 then (if a0 < 0 then ((split_divide.f kj3 (wrap64 (-a0)) t101 l1).bind fun t103 => (split_Shares.l0 kj3 t103 (t103.length : Int) 0)) else ((split_divide.f kj3 a0 t101 l1).bind fun t108 => (some (t108, 0)))) else (some (([] : List Int), t102))) = some (r1, r2) := H
     have A7 := Aside0.mk A70
     clear A70
     by_cases c8 : t102 = 0
     ·rw [if_pos c8] at H
      have c8b0 : (t102 == 0) = true := beq_iff_eq.mpr c8
      have c8b1 : (t102 != 0) = false := bne_eq_false_iff_eq.mpr c8
      clear c8
      by_cases c9 : a0 < 0
      ·rw [if_pos c9] at H
       have c9b0 : decide (a0 < 0) = true := decide_eq_true c9
       clear c9
       replace H := Option.bind_eq_some_iff.mp H
       obtain ⟨t103, A100, H⟩ := H
       replace H : (split_Shares.l0 kj3 t103 (t103.length : Int) 0) = some (r1, r2) := H
       have A10 := Aside0.mk A100
       clear A100
       have H' := Aside0.mk H
       clear H
       go_wp2_with (first | ((with_reducible refine gate_callee (f := 21) rfl ?_); refine goesL_ (some 19) rfl rfl Try.func21 (by kernel_rfl) rfl #[.slice A1 l1.length c1] rfl (by (try simp only [List.map_toArray, List.map_cons, List.map_nil]); first | done | rfl | (simp only [List.length_drop, List.length_take]; rfl)) ?_; (with_reducible refine (split_total.calls kj3 _ _ l1 t101 t102 _ ?side1 ?side2 A7.out).mono ?_); (case side1 => repeat (first | exact (Kd.C_below HR1.out HB.out) | (with_reducible refine Kd.C_alloc ?_ _) | (with_reducible refine Kd.C_drewN ?_ _) | (with_reducible refine Kd.C_drew ?_))); (case side2 => exact HC1.out); rintro e w' ⟨rfl, ⟨nd, rfl⟩⟩; refine ⟨_, rfl, ?_⟩) | ((with_reducible refine gate_callee (f := 22) rfl ?_); refine goesL_ (some 31) rfl rfl Try.func22 (by kernel_rfl) rfl #[.int .i64 (wrap64 (-a0)), .int .i64 t101, .slice A1 l1.length c1] rfl (by (try simp only [List.map_toArray, List.map_cons, List.map_nil]); first | done | rfl | (simp only [List.length_drop, List.length_take]; rfl)) ?_; (with_reducible refine (split_divide.calls kj3 (wrap64 (-a0)) t101 _ _ l1 t103 _ ?side1 ?side2 A10.out).mono ?_); (case side1 => repeat (first | exact (Kd.C_below HR1.out (by repeat (first | (with_reducible first | exact HB.out | apply below_alloc | apply pw_below_drewN | apply below_drew1) | exact HB.out))) | (with_reducible refine Kd.C_alloc ?_ _) | (with_reducible refine Kd.C_drewN ?_ _) | (with_reducible refine Kd.C_drew ?_))); (case side2 => exact HC1.out); rintro e w11 ⟨v104, rfl, ho0, hb⟩; refine ⟨_, rfl, ?_⟩; have n0_ := Aside0.mk (Kd.R_lower ho0 (below_size (by repeat (first | (with_reducible first | exact HB.out | apply below_alloc | apply pw_below_drewN | apply below_drew1) | exact HB.out)))); have n1_ := Aside0.mk (below_step (by repeat (first | (with_reducible first | exact HB.out | apply below_alloc | apply pw_below_drewN | apply below_drew1) | exact HB.out)) hb); clear HB; have HO105 := n0_; have HB := n1_; clear n0_ n1_; (try clear hb); (try clear hb2); (try clear hk); (try clear hi); (try clear ho0); obtain ⟨Ao12, co12, eo12⟩ := Kd.R_slice HO105.out; subst eo12))
       (try simp only [Act.put, List.setIfInBounds_toArray, List.set_cons_zero, List.set_cons_succ])
       go_loopg [34] kj3 (fun kq v34 w' => ∃ (x4_2 : List Int) (x34_2 : Int), v34 = .int .i64 x34_2 ∧ Aside0 (split_Shares.l0 kq x4_2 (t103.length : Int) x34_2 = some (r1, r2)) ∧ Aside0 (kq ≤ kj3) ∧ Aside0 (Kd.R (Kd.int .i64) 3 w' w.heap.size (fun _ => True) (.slice Ao12 t103.length co12) x4_2) ∧ Aside0 (Below w.heap.size w w'))
       case atStart => exact ⟨(t103), (0), (by first | rfl | (simp; done) | (simp [*]; done)), H', ⟨Nat.le_refl _⟩, ⟨by (with_reducible repeat (first | apply Kd.R_alloc | apply Kd.R_drewN | apply Kd.R_drew)); exact HO105.out⟩, ⟨by repeat (first | (with_reducible first | exact HB.out | apply below_alloc | apply pw_below_drewN | apply below_drew1) | exact HB.out)⟩⟩
       case round =>
        clear H'
        try clear c1
        try clear c2
        try clear p2
        try clear c3
        try clear c3b0
        try clear c3b1
        try clear c5
        try clear c5b0
        try clear c6
        try clear p6
        try clear c8
        try clear c8b0
        try clear c8b1
        try clear c9
        try clear c9b0
        try clear c12
        try clear p2
        obtain ⟨x4_2, x34_2, rfl, HA, HK2, HO_4, HB⟩ := hrel
        have hl4_2 := (Kd.R_reads' HO_4.out).1
        rw [hl4_2] at HO_4
        (try simp only [hl4_2])
        cases gk with
        | zero => exact absurd HA.out (by simp [split_Shares.l0])
        | succ k2 =>
         have H := HA.out
         clear HA
         simp only [split_Shares.l0] at H
         by_cases c13 : x34_2 < (t103.length : Int)
         ·rw [if_pos c13] at H
          have c13b0 : decide (x34_2 < (t103.length : Int)) = true := decide_eq_true c13
          (try (have c13b0hl4_2 := c13b0; simp only [hl4_2] at c13b0hl4_2))
          clear c13
          by_cases c14 : 0 ≤ x34_2
          ·rw [if_pos c14] at H
           have c14b0 : decide (0 ≤ x34_2) = true := decide_eq_true c14
           clear c14
           by_cases c15 : x34_2 < (x4_2.length : Int)
           ·rw [if_pos c15] at H
            have c15b0 : decide (x34_2 < (x4_2.length : Int)) = true := decide_eq_true c15
            (try (have c15b0hl4_2 := c15b0; simp only [hl4_2] at c15b0hl4_2))
            clear c15
            obtain ⟨y107, hy107⟩ : ∃ y_ : List Int, y_ = (x4_2.set (x34_2 : Int).toNat (wrap64 (-(rd x4_2 x34_2)))) := ⟨_, rfl⟩
            replace H : (split_Shares.l0 k2 y107 (t103.length : Int) (wrap64 (x34_2 + 1))) = some (r1, r2) := by first | (rw [hy107]; with_reducible exact H) | (have H2_ := (Option.bind_some _ _).symm.trans H; rw [hy107]; with_reducible exact H2_) | (have H2_ := (Option.bind_some _ _).symm.trans H; with_reducible exact H2_) | with_reducible exact H | (rw [hy107]; exact H) | exact H
            have Ny107 := Aside0.mk hy107
            clear hy107
            have H' := Aside0.mk H
            clear H
            have p106 : 0 ≤ (x34_2 : Int) := of_decide_eq_true (by first | (with_reducible assumption) | assumption)
            have q106 : x34_2 < (x4_2.length : Int) := of_decide_eq_true (by first | (with_reducible assumption) | assumption)
            obtain ⟨ad106, e106, hx106_0⟩ := Kd.at_int (Kd.R_reads' HO_4.out).2.2 x34_2 p106 q106
            cases e106
            replace p106 := eq_true p106
            replace q106 := eq_true q106
            have p16 : 0 ≤ (x34_2 : Int) := of_decide_eq_true (by first | (with_reducible assumption) | assumption)
            have q16 : (x34_2 : Int) < ((x4_2.length : Int) : Int) := of_decide_eq_true (by first | (with_reducible assumption) | assumption)
            obtain ⟨go16, co16, eo16, gb16, gl16, cl16, HG16⟩ := Kd.R_form HO_4.out (by omega)
            (first | cases eo16 | (injection eo16 with ea_ en_ ec_; (first | subst ea_ | (injection ea_ with ea_; subst ea_)); subst ec_; clear en_))
            have GB16 := Aside0.mk gb16
            have GG16 := Aside0.mk HG16
            clear gb16 gl16 HG16
            (first | simp only [add_plain] at hx106_0 | skip)
            obtain ⟨hx16_0, hf16_0⟩ := Kd.R_celln 0 HO_4.out (x34_2 : Int) p16 q16
            replace p16 := eq_true p16
            replace q16 := eq_true q16
            have HP17 := Kd.R_putg HO_4.out (x34_2 : Int) (wrap64 (-(rd x4_2 x34_2)))
            go_wp2_with (first | ((with_reducible refine gate_store (t := 3) (p := 44) rfl ?_); refine store_event (t := 3) (p := 44) (v := ?vo_w18) (w1 := (wr.setCell ⟨go16, (x34_2 : Int).toNat, none⟩ (.int .i64 (wrap64 (-(rd x4_2 x34_2)))))) ?hg ?ho ?hn ?hr ?_; (case ho => rfl); (case hg => rfl); (case hn => rfl); (case hr => first | (go_simp; done) | (go_simp; rfl)); intro w18 hw; have hg : wr.grownBy w18 (some go16) := (by rw [hw]; exact HP17.2); have hp_ : Kd.R (Kd.int .i64) 3 w18 w.heap.size (fun _ => True) (.slice (some ⟨go16, 0, none⟩) x4_2.length co12) y107 := (by rw [hw, Ny107.out]; exact HP17.1); clear HP17; have n0_ := Aside0.mk (hp_); have n1_ := Aside0.mk ((by rw [hw]; exact below_set (HB.out) GB16.out : Below w.heap.size w w18)); clear HO_4; clear HB; have HO_4 := n0_; have HB := n1_; clear n0_ n1_; clear hg hw hp_))
            (try simp only [← hl4_2])
            go_roundg k2
            case measure => have := HJ3.out; have := HK2.out; omega
            case rel => exact ⟨(y107), (wrap64 (x34_2 + 1)), (by first | rfl | (simp; done) | (simp [*]; done)), H', ⟨by have := HJ3.out; have := HK2.out; omega⟩, ⟨by (try simp only [hl4_2]); (with_reducible repeat (first | apply Kd.R_alloc | apply Kd.R_drewN | apply Kd.R_drew)); exact HO_4.out⟩, ⟨by repeat (first | (with_reducible first | exact HB.out | apply below_alloc | apply pw_below_drewN | apply below_drew1) | exact HB.out)⟩⟩
           ·rw [if_neg c15] at H
            exact absurd H (by simp)
          ·rw [if_neg c14] at H
           exact absurd H (by simp)
         ·rw [if_neg c13] at H
          have c13b0 : decide (x34_2 < (t103.length : Int)) = false := decide_eq_false c13
          (try (have c13b0hl4_2 := c13b0; simp only [hl4_2] at c13b0hl4_2))
          clear c13
          simp only [Option.some.injEq, Prod.mk.injEq] at H
          obtain ⟨rfl, rfl⟩ := H
          go_wp2
          go_ret2
          exact ⟨_, by first | rfl | (simp [errW_none, errW_some] <;> rfl) | (simp [*, errW_none, errW_some] <;> rfl), by (with_reducible repeat (first | apply Kd.R_alloc | apply Kd.R_drewN | apply Kd.R_drew)); exact HO_4.out, by repeat (first | (with_reducible first | exact HB.out | apply below_alloc | apply pw_below_drewN | apply below_drew1) | exact HB.out)⟩
      ·rw [if_neg c9] at H
       have c9b0 : decide (a0 < 0) = false := decide_eq_false c9
       clear c9
       replace H := Option.bind_eq_some_iff.mp H
       obtain ⟨t108, A190, H⟩ := H
       replace H : (some (t108, 0)) = some (r1, r2) := H
       have A19 := Aside0.mk A190
       clear A190
       simp only [Option.some.injEq, Prod.mk.injEq] at H
       obtain ⟨rfl, rfl⟩ := H
       go_wp2_with (first | ((with_reducible refine gate_callee (f := 21) rfl ?_); refine goesL_ (some 19) rfl rfl Try.func21 (by kernel_rfl) rfl #[.slice A1 l1.length c1] rfl (by (try simp only [List.map_toArray, List.map_cons, List.map_nil]); first | done | rfl | (simp only [List.length_drop, List.length_take]; rfl)) ?_; (with_reducible refine (split_total.calls kj3 _ _ l1 t101 t102 _ ?side1 ?side2 A7.out).mono ?_); (case side1 => repeat (first | exact (Kd.C_below HR1.out HB.out) | (with_reducible refine Kd.C_alloc ?_ _) | (with_reducible refine Kd.C_drewN ?_ _) | (with_reducible refine Kd.C_drew ?_))); (case side2 => exact HC1.out); rintro e w' ⟨rfl, ⟨nd, rfl⟩⟩; refine ⟨_, rfl, ?_⟩) | ((with_reducible refine gate_callee (f := 22) rfl ?_); refine goesL_ (some 50) rfl rfl Try.func22 (by kernel_rfl) rfl #[.int .i64 a0, .int .i64 t101, .slice A1 l1.length c1] rfl (by (try simp only [List.map_toArray, List.map_cons, List.map_nil]); first | done | rfl | (simp only [List.length_drop, List.length_take]; rfl)) ?_; (with_reducible refine (split_divide.calls kj3 a0 t101 _ _ l1 t108 _ ?side1 ?side2 A19.out).mono ?_); (case side1 => repeat (first | exact (Kd.C_below HR1.out (by repeat (first | (with_reducible first | exact HB.out | apply below_alloc | apply pw_below_drewN | apply below_drew1) | exact HB.out))) | (with_reducible refine Kd.C_alloc ?_ _) | (with_reducible refine Kd.C_drewN ?_ _) | (with_reducible refine Kd.C_drew ?_))); (case side2 => exact HC1.out); rintro e w20 ⟨v109, rfl, ho0, hb⟩; refine ⟨_, rfl, ?_⟩; have n0_ := Aside0.mk (Kd.R_lower ho0 (below_size (by repeat (first | (with_reducible first | exact HB.out | apply below_alloc | apply pw_below_drewN | apply below_drew1) | exact HB.out)))); have n1_ := Aside0.mk (below_step (by repeat (first | (with_reducible first | exact HB.out | apply below_alloc | apply pw_below_drewN | apply below_drew1) | exact HB.out)) hb); clear HB; have HO110 := n0_; have HB := n1_; clear n0_ n1_; (try clear hb); (try clear hb2); (try clear hk); (try clear hi); (try clear ho0)))
       go_ret2
       exact ⟨_, by first | rfl | (simp [errW_none, errW_some] <;> rfl) | (simp [*, errW_none, errW_some] <;> rfl), by (with_reducible repeat (first | apply Kd.R_alloc | apply Kd.R_drewN | apply Kd.R_drew)); exact HO110.out, by repeat (first | (with_reducible first | exact HB.out | apply below_alloc | apply pw_below_drewN | apply below_drew1) | exact HB.out)⟩
     ·rw [if_neg c8] at H
      have c8b0 : (t102 == 0) = false := beq_eq_false_iff_ne.mpr c8
      have c8b1 : (t102 != 0) = true := bne_iff_ne.mpr c8
      simp only [Option.some.injEq, Prod.mk.injEq] at H
      obtain ⟨rfl, rfl⟩ := H
      go_wp2_with (first | ((with_reducible refine gate_callee (f := 21) rfl ?_); refine goesL_ (some 19) rfl rfl Try.func21 (by kernel_rfl) rfl #[.slice A1 l1.length c1] rfl (by (try simp only [List.map_toArray, List.map_cons, List.map_nil]); first | done | rfl | (simp only [List.length_drop, List.length_take]; rfl)) ?_; (with_reducible refine (split_total.calls kj3 _ _ l1 t101 t102 _ ?side1 ?side2 A7.out).mono ?_); (case side1 => repeat (first | exact (Kd.C_below HR1.out HB.out) | (with_reducible refine Kd.C_alloc ?_ _) | (with_reducible refine Kd.C_drewN ?_ _) | (with_reducible refine Kd.C_drew ?_))); (case side2 => exact HC1.out); rintro e w' ⟨rfl, ⟨nd, rfl⟩⟩; refine ⟨_, rfl, ?_⟩))
      go_ret2
      exact ⟨_, by first | rfl | (simp [errW_none, errW_some] <;> rfl) | (simp [*, errW_none, errW_some] <;> rfl), by first | exact Kd.R_nil _ _ _ _ _ | exact Kd.N_nil _ _ _ _ _ | exact Kd.V_nil _ _ _ _ _ | exact Kd.Q_nil _ _ _ _ _ | exact Kd.S_nil _ _ _ _ _, by repeat (first | (with_reducible first | exact HB.out | apply below_alloc | apply pw_below_drewN | apply below_drew1) | exact HB.out)⟩

end Go.Proofs.Ytikglhfeookhaaa.M
end
section
/- split.Shares: what it comes to. -/
namespace Go.Proofs.Ytikglhfeookhaaa.M
open Go.RowKit Go.Proofs.YtikglhfeookhaaaW.PrintWords Dv
set_option linter.unusedVariables false
/-- The error of the chapter. -/
def shErr (a : Int) (l : List Int) : Int :=
  if l.length > 200 then 9 else if a > 1000000000000000 ∨ a < -1000000000000000 then 4 else if ∃ x ∈ l, x < 0 then 2 else if l.sum > 1000000000000000 then 4 else if l.sum = 0 then 2 else 0
theorem sum_nonneg : ∀ l : List Int, (∀ x ∈ l, 0 ≤ x) → 0 ≤ l.sum
  | [], _ => by simp
  | x :: l, h => by
    have h1 := h x (by simp)
    have h2 := sum_nonneg l (fun y hy => h y (by simp [hy]))
    simp only [List.sum_cons]; omega
theorem slices_IndexFunc_int_int__split_total_1.go : ∀ (B A : List Int) (i n : Int), i = (A.length : Int) → n = (A.length : Int) + B.length → n < 1000000 → ∃ v, Ev (fun k => slices_IndexFunc_int_int__split_total_1.l0 k (A ++ B) n i) v ∧ ((0 ≤ v) ↔ ∃ x ∈ B, x < 0)
  | [], A, i, n, hi, hn, hs => by
    refine ⟨-1, Ev.succ ?_, by simp⟩
    have g : ¬ i < n := by simp at hn; omega
    simp only [slices_IndexFunc_int_int__split_total_1.l0, if_neg g]
    exact Ev.const _
  | x :: B, A, i, n, hi, hn, hs => by
    simp only [List.length_cons] at hn
    have g : i < n := by omega
    have g1 : 0 ≤ i := by omega
    have g2 : i < ((A ++ x :: B).length : Int) := by simp; omega
    have r := rd_at A x B i hi
    have e : wrap64 (i + 1) = i + 1 := w64 (by omega) (by omega)
    by_cases hx : x < 0
    · refine ⟨i, Ev.succ ?_, by simp [hx, g1]⟩
      simp only [slices_IndexFunc_int_int__split_total_1.l0, if_pos g, if_pos g1, if_pos g2, r, split_total_1.f, Option.bind_some, decide_eq_true hx, if_true]
      exact Ev.const _
    · obtain ⟨v, h1, h2⟩ := slices_IndexFunc_int_int__split_total_1.go B (A ++ [x]) (i + 1) n (by simp; omega) (by simp; omega) hs
      refine ⟨v, Ev.succ ?_, by rw [h2]; simp [hx]⟩
      simp only [slices_IndexFunc_int_int__split_total_1.l0, if_pos g, if_pos g1, if_pos g2, r, split_total_1.f, Option.bind_some, decide_eq_false hx, Bool.false_eq_true, if_false, e]
      simpa using h1
theorem slices_ContainsFunc_int_int__split_total_1.eq (l : List Int) (h : l.length < 1000000) : Ev (fun k => slices_ContainsFunc_int_int__split_total_1.f k l) (decide (∃ x ∈ l, x < 0)) := by
  obtain ⟨v, h1, h2⟩ := slices_IndexFunc_int_int__split_total_1.go l [] 0 l.length rfl (by simp) (by omega)
  unfold slices_ContainsFunc_int_int__split_total_1.f slices_IndexFunc_int_int__split_total_1.f
  refine Ev.bind (by simpa using h1) ?_
  have : (decide (v ≥ 0)) = decide (∃ x ∈ l, x < 0) := by
    by_cases hx : ∃ x ∈ l, x < 0
    · rw [decide_eq_true hx, decide_eq_true (h2.2 hx)]
    · rw [decide_eq_false hx, decide_eq_false (fun k => hx (h2.1 k))]
  rw [this]
  exact Ev.const _
/-- What the summing comes to, from a sum so far. -/
def sumFrom (s : Int) (B : List Int) : Int × Int := if s + B.sum > 1000000000000000 then (0, 4) else if s + B.sum = 0 then (0, 2) else (s + B.sum, 0)
theorem split_total.go : ∀ (B A : List Int) (s i n : Int), i = (A.length : Int) → n = (A.length : Int) + B.length → n < 1000000 → 0 ≤ s → s ≤ 1000000000000000 → (∀ x ∈ B, 0 ≤ x ∧ x ≤ 9223372036854775807) → Ev (fun k => split_total.l0 k s (A ++ B) n i) (sumFrom s B)
  | [], A, s, i, n, hi, hn, hs, h0, h1, hB => by
    refine Ev.succ ?_
    have g : ¬ i < n := by simp at hn; omega
    simp only [split_total.l0, if_neg g, sumFrom, List.sum_nil, Int.add_zero, if_neg (show ¬ s > 1000000000000000 by omega)]
    split
    · exact Ev.const _
    · exact Ev.const _
  | x :: B, A, s, i, n, hi, hn, hs, h0, h1, hB => by
    simp only [List.length_cons] at hn
    have g : i < n := by omega
    have g1 : 0 ≤ i := by omega
    have g2 : i < ((A ++ x :: B).length : Int) := by simp; omega
    have r := rd_at A x B i hi
    have e : wrap64 (i + 1) = i + 1 := w64 (by omega) (by omega)
    have hx := hB x (by simp)
    have e2 : wrap64 (1000000000000000 - s) = 1000000000000000 - s := w64 (by omega) (by omega)
    have hBs := sum_nonneg B (fun y hy => (hB y (by simp [hy])).1)
    refine Ev.succ ?_
    by_cases hc : x > 1000000000000000 - s
    · simp only [split_total.l0, if_pos g, if_pos g1, if_pos g2, r, e2, if_pos hc]
      have : sumFrom s (x :: B) = (0, 4) := by unfold sumFrom; rw [List.sum_cons, if_pos (by omega)]
      rw [this]; exact Ev.const _
    · have e3 : wrap64 (s + x) = s + x := w64 (by omega) (by omega)
      simp only [split_total.l0, if_pos g, if_pos g1, if_pos g2, r, e2, if_neg hc, e, e3]
      have ih := split_total.go B (A ++ [x]) (s + x) (i + 1) n (by simp; omega) (by simp; omega) hs (by omega) (by omega) (fun y hy => hB y (by simp [hy]))
      have : sumFrom s (x :: B) = sumFrom (s + x) B := by unfold sumFrom; rw [List.sum_cons, Int.add_assoc]
      rw [this]; simpa using ih
theorem sumFrom_zero (l : List Int) : sumFrom 0 l = if l.sum > 1000000000000000 then (0, 4) else if l.sum = 0 then (0, 2) else (l.sum, 0) := by simp [sumFrom]
theorem split_total.eq (l : List Int) (hl : l.length < 1000000) (hw : ∀ x ∈ l, x ≤ 9223372036854775807) : Ev (fun k => split_total.f k l) (if ∃ x ∈ l, x < 0 then (0, 2) else sumFrom 0 l) := by
  unfold split_total.f
  refine Ev.bind (slices_ContainsFunc_int_int__split_total_1.eq l hl) ?_
  by_cases h : ∃ x ∈ l, x < 0
  · simp only [decide_eq_true h, if_true, if_pos h]; exact Ev.const _
  · simp only [decide_eq_false h, Bool.false_eq_true, if_false, if_neg h]
    have := split_total.go l [] 0 0 l.length rfl (by simp) (by omega) (by omega) (by omega) (fun x hx => ⟨by
      have : ¬ x < 0 := fun k => h ⟨x, hx, k⟩
      omega, hw x hx⟩)
    simpa using this
/-! The ranking of remainders. -/
/-- Which of two remainders comes first. -/
def rOrd (r : List Int) (i k : Int) : Prop := rd r i > rd r k ∨ (rd r i = rd r k ∧ i < k)
theorem rOrd.tot (r : List Int) : Tot (rOrd r) where
  trans x y z h k := by unfold rOrd at *; omega
  tot x y h := by unfold rOrd; omega
  irr x h := by unfold rOrd at h; omega
/-- 0, 1, .., n - 1. -/
def idx (n : Nat) : List Int := (List.range n).map fun (i : Nat) => (i : Int)
theorem idx_length (n : Nat) : (idx n).length = n := by simp [idx]
theorem idx_succ (n : Nat) : idx (n + 1) = idx n ++ [(n : Int)] := by simp [idx, List.range_succ]
theorem mem_idx (n : Nat) (i : Int) : i ∈ idx n ↔ 0 ≤ i ∧ i < n := by
  simp only [idx, List.mem_map, List.mem_range]
  constructor
  · rintro ⟨j, h, rfl⟩; omega
  · intro h; exact ⟨i.toNat, by omega, by omega⟩
theorem idx_lt (n : Nat) : (idx n).Pairwise (· < ·) := by
  unfold idx
  rw [List.pairwise_map]
  exact List.pairwise_lt_range.imp (fun h => by omega)
theorem rk_ex (r : List Int) (h : r.length < 1000) : ∃ Z, Z.Perm (idx r.length) ∧ Z.Pairwise (rOrd r) ∧ Ev (fun k => slices_stableCmpFunc_int__split_ranked_1.f k (idx r.length) r.length r) Z := by
  refine slices_stableCmpFunc_int__split_ranked_1.f_sort r (rOrd r) (rOrd.tot r) (idx r.length) ?_ r.length (by rw [idx_length]) (by rw [idx_length]; omega)
  refine (List.Pairwise.and_mem.1 (idx_lt r.length)).imp ?_
  rintro x y ⟨hx, hy, hxy⟩
  rw [mem_idx] at hx hy
  refine ⟨by omega, ?_⟩
  unfold split_ranked_1.f
  simp only [if_pos hx.1, if_pos hx.2, if_pos hy.1, if_pos hy.2]
  by_cases c1 : rd r y > rd r x
  · exact ⟨-1, by rw [if_pos c1], by unfold rOrd; constructor <;> intro <;> omega⟩
  · by_cases c2 : rd r y < rd r x
    · exact ⟨1, by rw [if_neg c1, if_pos c2], by unfold rOrd; constructor <;> intro <;> omega⟩
    · exact ⟨0, by rw [if_neg c1, if_neg c2], by unfold rOrd; constructor <;> intro <;> omega⟩
open Classical in
/-- The places in the order of their remainders. -/
noncomputable def rk (r : List Int) : List Int := if h : ∃ Z : List Int, Z.Perm (idx r.length) ∧ Z.Pairwise (rOrd r) then h.choose else []
theorem rk_spec (r : List Int) (h : r.length < 1000) : (rk r).Perm (idx r.length) ∧ (rk r).Pairwise (rOrd r) := by
  obtain ⟨Z, z1, z2, _⟩ := rk_ex r h
  have e : ∃ Z : List Int, Z.Perm (idx r.length) ∧ Z.Pairwise (rOrd r) := ⟨Z, z1, z2⟩
  unfold rk
  rw [dif_pos e]
  exact e.choose_spec
theorem rk_uniq (r Z : List Int) (h : r.length < 1000) (h1 : Z.Perm (idx r.length)) (h2 : Z.Pairwise (rOrd r)) : Z = rk r := by
  obtain ⟨r1, r2⟩ := rk_spec r h
  exact List.Perm.eq_of_pairwise (le := rOrd r) (fun a b _ _ k1 k2 => absurd k2 ((rOrd.tot r).asym k1)) h2 r2 (h1.trans r1.symm)
theorem split_ranked.fill (r : List Int) (N : Nat) (Z : List Int) (hN : N < 1000) (hZ : Ev (fun k => slices_stableCmpFunc_int__split_ranked_1.f k (idx N) N r) Z) : ∀ (d i : Nat), i + d = N → Ev (fun k => split_ranked.l0 k (idx i ++ List.replicate d 0) N i r) Z
  | 0, i, h => by
    obtain rfl : i = N := by omega
    refine Ev.succ ?_
    have g : ¬ (i : Int) < i := by omega
    have hl : (idx i ++ List.replicate 0 (0 : Int)).length = i := by simp [idx_length]
    have g1 : (0 : Int) ≤ ((idx i ++ List.replicate 0 (0 : Int)).length : Int) := by omega
    have g2 : ((idx i ++ List.replicate 0 (0 : Int)).length : Int).toNat ≤ 35184372088832 := by omega
    simp only [split_ranked.l0, if_neg g, if_pos g1, if_pos g2, pw_copy_22.f, Option.bind_some]
    have e : (idx i ++ List.replicate 0 (0 : Int)).take (List.replicate ((idx i ++ List.replicate 0 (0 : Int)).length : Int).toNat (0 : Int)).length ++ (List.replicate ((idx i ++ List.replicate 0 (0 : Int)).length : Int).toNat (0 : Int)).drop (idx i ++ List.replicate 0 (0 : Int)).length = idx i := by
      simp [idx_length]
      exact List.take_of_length_le (by rw [idx_length]; omega)
    rw [e]
    refine Ev.bind (a := Z) ?_ (Ev.const _)
    unfold slices_SortStableFunc_int_int__split_ranked_1.f
    rw [idx_length]
    exact Ev.bind hZ (Ev.const _)
  | d + 1, i, h => by
    have hl : (idx i ++ List.replicate (d + 1) (0 : Int)).length = N := by simp [idx_length]; omega
    have g : (i : Int) < N := by omega
    have g1 : (0 : Int) ≤ i := by omega
    have g2 : (i : Int) < ((idx i ++ List.replicate (d + 1) (0 : Int)).length : Int) := by omega
    have e : wrap64 ((i : Int) + 1) = ((i + 1 : Nat) : Int) := by rw [w64 (by omega) (by omega)]; omega
    refine Ev.succ ?_
    simp only [split_ranked.l0, if_pos g, if_pos g1, if_pos g2, e]
    have s1 : (idx i ++ List.replicate (d + 1) (0 : Int)).set (i : Int).toNat i = idx (i + 1) ++ List.replicate d 0 := by
      rw [List.replicate_succ, set_at _ _ _ _ _ (by rw [idx_length]), idx_succ]; simp
    rw [s1]
    exact split_ranked.fill r N Z hN hZ d (i + 1) (by omega)
theorem split_ranked.eq (r : List Int) (h : r.length < 1000) : Ev (fun k => split_ranked.f k r) (rk r) := by
  obtain ⟨Z, z1, z2, z3⟩ := rk_ex r h
  rw [← rk_uniq r Z h z1 z2]
  have g1 : (0 : Int) ≤ (r.length : Int) := by omega
  have g2 : (r.length : Int).toNat ≤ 35184372088832 := by omega
  simp only [split_ranked.f, if_pos g1, if_pos g2, Option.bind_some]
  have := split_ranked.fill r r.length Z h z3 r.length 0 (by omega)
  simpa [idx] using this
/-- Each place's part is one more. -/
def inc (x Y : List Int) : List Int := Y.foldl (fun x y => x.set y.toNat (rd x y + 1)) x
theorem inc_cons (x : List Int) (y : Int) (Y : List Int) : inc x (y :: Y) = inc (x.set y.toNat (rd x y + 1)) Y := rfl
theorem inc_length : ∀ (Y x : List Int), (inc x Y).length = x.length
  | [], x => rfl
  | y :: Y, x => by rw [inc_cons, inc_length Y]; simp
theorem rd_set (x : List Int) (i j v : Int) (hi : 0 ≤ i) (hi2 : i < x.length) (hj : 0 ≤ j) : rd (x.set i.toNat v) j = if j = i then v else rd x j := by
  unfold rd
  rw [List.getD_eq_getElem?_getD, List.getElem?_set]
  by_cases h : j = i
  · subst h
    rw [if_pos rfl, if_pos (by omega), if_pos rfl]; rfl
  · rw [if_neg (by omega), if_neg h, List.getD_eq_getElem?_getD]
theorem rd_inc : ∀ (Y x : List Int) (i : Int), Y.Nodup → (∀ y ∈ Y, 0 ≤ y ∧ y < x.length) → 0 ≤ i → rd (inc x Y) i = rd x i + if i ∈ Y then 1 else 0
  | [], x, i, _, _, _ => by simp [inc]
  | y :: Y, x, i, hn, hy, hi => by
    obtain ⟨n1, n2⟩ := List.nodup_cons.1 hn
    have h0 := hy y (by simp)
    rw [inc_cons, rd_inc Y _ i n2 (fun z hz => by rw [List.length_set]; exact hy z (by simp [hz])) hi, rd_set x y i _ h0.1 h0.2 hi]
    by_cases h : i = y
    · subst h; simp [n1]
    · simp [h]
theorem rd_mem' (x : List Int) (i : Int) (h0 : 0 ≤ i) (h1 : i < x.length) : rd x i ∈ x := by
  have := rd_mem [] x [] i (by simpa using h0) (by simpa using h1)
  simpa using this
theorem mem_set' {x : List Int} {n : Nat} {v w : Int} (h : w ∈ x.set n v) : w = v ∨ w ∈ x := by
  rcases List.mem_or_eq_of_mem_set h with h | h
  · exact .inr h
  · exact .inl h
theorem split_divide.go1 : ∀ (Y2 Y1 x : List Int) (n i : Int), i = (Y1.length : Int) → n = (Y1.length : Int) + Y2.length → n < 1000000 → (∀ y ∈ Y2, 0 ≤ y ∧ y < x.length) → (∀ v ∈ x, 0 ≤ v ∧ v + Y2.length ≤ 9000000000000000000) → Ev (fun k => split_divide.l1 k x (Y1 ++ Y2) n i) (inc x Y2)
  | [], Y1, x, n, i, hi, hn, hs, hy, hv => by
    refine Ev.succ ?_
    have g : ¬ i < n := by simp at hn; omega
    simp only [split_divide.l1, if_neg g]
    exact Ev.const _
  | y :: Y2, Y1, x, n, i, hi, hn, hs, hy, hv => by
    simp only [List.length_cons] at hn hv
    have h0 := hy y (by simp)
    have g : i < n := by omega
    have g1 : 0 ≤ i := by omega
    have g2 : i < ((Y1 ++ y :: Y2).length : Int) := by simp; omega
    have r := rd_at Y1 y Y2 i hi
    have hm := hv _ (rd_mem' x y h0.1 h0.2)
    have e : wrap64 (i + 1) = i + 1 := w64 (by omega) (by omega)
    have e2 : wrap64 (rd x y + 1) = rd x y + 1 := w64 (by omega) (by omega)
    refine Ev.succ ?_
    simp only [split_divide.l1, if_pos g, if_pos g1, if_pos g2, r, if_pos h0.1, if_pos h0.2, e, e2]
    have ih := split_divide.go1 Y2 (Y1 ++ [y]) (x.set y.toNat (rd x y + 1)) n (i + 1) (by simp; omega) (by simp; omega) hs (fun z hz => by rw [List.length_set]; exact hy z (by simp [hz])) (fun v hvm => by
      rcases mem_set' hvm with rfl | h
      · omega
      · have := hv v h; omega)
    rw [inc_cons]
    simpa using ih
/-- The parts without the remainders, and the remainders. -/
def qs (s t : Int) (l : List Int) : List Int := l.map fun w => s * w / t
def rs (s t : Int) (l : List Int) : List Int := l.map fun w => s * w % t
theorem mdv_down {s w t : Int} (h0 : 0 ≤ s) (h1 : s ≤ 1000000000000000) (h2 : 0 ≤ w) (h3 : w ≤ t) (h4 : 0 < t) : mdv s w t 1 = (s * w / t, 0) ∧ 0 ≤ s * w / t ∧ s * w / t ≤ s := by
  have hp : 0 ≤ s * w := Int.mul_nonneg h0 h2
  have q0 : 0 ≤ s * w / t := Int.ediv_nonneg hp (by omega)
  have q1 : s * w / t ≤ s := by
    have : s * w ≤ s * t := Int.mul_le_mul_of_nonneg_left h3 h0
    have h5 := Int.ediv_le_ediv h4 this
    rwa [Int.mul_ediv_cancel _ (by omega)] at h5
  refine ⟨?_, q0, q1⟩
  unfold mdv
  rw [if_neg (by omega), if_neg (by omega)]
  have n : negv s w t = false := by
    unfold negv
    rw [decide_eq_false (show ¬ s < 0 by omega), decide_eq_false (show ¬ w < 0 by omega), decide_eq_false (show ¬ t < 0 by omega)]
    simp
  have z : sizev s w t 1 = s * w / t := by
    unfold sizev awayv ab
    rw [if_neg (show ¬ s < 0 by omega), if_neg (show ¬ w < 0 by omega), if_neg (show ¬ t < 0 by omega), n]
    simp
  rw [n, z]
  unfold signv
  rw [if_neg (by simp), if_neg (by omega)]
theorem modv_down {s w t : Int} (h4 : 0 < t) : modv s w t = (s * w % t, 0) := by
  unfold modv ab
  rw [if_neg (by omega), if_neg (by omega)]
/-- What is left for the remainders. -/
def lf (s t : Int) (l : List Int) : Int := s - (qs s t l).sum
theorem sum_qr (s t : Int) (ht : 0 < t) : ∀ l : List Int, t * (qs s t l).sum + (rs s t l).sum = s * l.sum
  | [] => by simp [qs, rs]
  | w :: l => by
    have ih := sum_qr s t ht l
    have h := Int.emod_add_mul_ediv (s * w) t
    simp only [qs, rs, List.map_cons, List.sum_cons, Int.mul_add] at *
    omega
theorem rs_bounds (s t : Int) (ht : 0 < t) (l : List Int) : ∀ x ∈ rs s t l, 0 ≤ x ∧ x < t := by
  intro x hx
  obtain ⟨w, _, rfl⟩ := List.mem_map.1 hx
  exact ⟨Int.emod_nonneg _ (by omega), Int.emod_lt_of_pos _ ht⟩
theorem sum_rs (t : Int) : ∀ l : List Int, (∀ x ∈ l, 0 ≤ x ∧ x < t) → 0 ≤ l.sum ∧ l.sum ≤ t * l.length
  | [], _ => by simp
  | x :: l, h => by
    have ih := sum_rs t l (fun y hy => h y (by simp [hy]))
    have hx := h x (by simp)
    simp only [List.sum_cons, List.length_cons]
    have : t * ((l.length + 1 : Nat) : Int) = t * l.length + t := by rw [Int.natCast_add, Int.mul_add]; simp
    omega
theorem lf_bounds (s : Int) (l : List Int) (ht : 0 < l.sum) : 0 ≤ lf s l.sum l ∧ lf s l.sum l ≤ l.length ∧ l.sum * lf s l.sum l = (rs s l.sum l).sum := by
  have h := sum_qr s l.sum ht l
  have hr := sum_rs l.sum (rs s l.sum l) (rs_bounds s l.sum ht l)
  have hl : (rs s l.sum l).length = l.length := by simp [rs]
  rw [hl] at hr
  have e : l.sum * lf s l.sum l = (rs s l.sum l).sum := by
    unfold lf
    rw [Int.mul_sub, Int.mul_comm l.sum s]; omega
  refine ⟨?_, ?_, e⟩
  · have : 0 ≤ l.sum * lf s l.sum l := by omega
    exact Int.nonneg_of_mul_nonneg_right this ht
  · have : l.sum * lf s l.sum l ≤ l.sum * l.length := by omega
    exact Int.le_of_mul_le_mul_left this ht
theorem qs_snoc (s t : Int) (l : List Int) (w : Int) : qs s t (l ++ [w]) = qs s t l ++ [s * w / t] := by simp [qs]
theorem rs_snoc (s t : Int) (l : List Int) (w : Int) : rs s t (l ++ [w]) = rs s t l ++ [s * w % t] := by simp [rs]
theorem qs_bounds {s t : Int} (h0 : 0 ≤ s) (h1 : s ≤ 1000000000000000) (h4 : 0 < t) (l : List Int) (hl : ∀ w ∈ l, 0 ≤ w ∧ w ≤ t) : ∀ x ∈ qs s t l, 0 ≤ x ∧ x ≤ 1000000000000000 := by
  intro x hx
  obtain ⟨w, hw, rfl⟩ := List.mem_map.1 hx
  have := mdv_down h0 h1 (hl w hw).1 (hl w hw).2 h4
  omega
/-- The shares of an amount that is not negative. -/
noncomputable def pos (s : Int) (l : List Int) : List Int := inc (qs s l.sum l) ((rk (rs s l.sum l)).take (lf s l.sum l).toNat)
theorem split_divide.go0 (s t : Int) (h0 : 0 ≤ s) (h1 : s ≤ 1000000000000000) (h4 : 0 < t) (ht : t ≤ 1000000000000000) (X : List Int) : ∀ (W2 W1 : List Int) (n i left : Int), i = (W1.length : Int) → n = (W1.length : Int) + W2.length → n ≤ 1000 → (∀ w ∈ W2, 0 ≤ w ∧ w ≤ t) → left ≤ 1000000000000000 → -1000000000000000 * i ≤ left →
    Ev (fun k => (split_ranked.f k (rs s t (W1 ++ W2))).bind fun t114 => (if 0 ≤ left - (qs s t W2).sum then (if left - (qs s t W2).sum ≤ (t114.length : Int) then ((some (t114.take (left - (qs s t W2).sum).toNat : List Int)).bind fun y117 => (split_divide.l1 k (qs s t (W1 ++ W2)) y117 (y117.length : Int) 0)) else (none)) else (none))) X →
    Ev (fun k => split_divide.l0 k s t (qs s t W1 ++ List.replicate W2.length 0) (rs s t W1 ++ List.replicate W2.length 0) left (W1 ++ W2) n i) X
  | [], W1, n, i, left, hi, hn, hs, hw, l1, l2, hX => by
    refine Ev.succ ?_
    have g : ¬ i < n := by simp at hn; omega
    simp only [split_divide.l0, if_neg g]
    simpa [qs, rs] using hX
  | w :: W2, W1, n, i, left, hi, hn, hs, hw, l1, l2, hX => by
    simp only [List.length_cons] at hn
    have hw0 := hw w (by simp)
    have g : i < n := by omega
    have g1 : 0 ≤ i := by omega
    have g2 : i < ((W1 ++ w :: W2).length : Int) := by simp; omega
    have r := rd_at W1 w W2 i hi
    obtain ⟨m1, m2, m3⟩ := mdv_down h0 h1 hw0.1 hw0.2 h4
    have M := muldiv_MulDiv.eq (a := s) (b := w) (c := t) 1 (by unfold inI; omega) (by unfold inI; omega) (by unfold inI; omega)
    have D := muldiv_Mod.eq (a := s) (b := w) (c := t) (by unfold inI; omega) (by unfold inI; omega) (by unfold inI; omega)
    rw [m1] at M
    rw [modv_down h4] at D
    have e : wrap64 (i + 1) = i + 1 := w64 (by omega) (by omega)
    have e2 : wrap64 (left - s * w / t) = left - s * w / t := w64 (by omega) (by omega)
    have lq : (qs s t W1).length = W1.length := by simp [qs]
    have lr : (rs s t W1).length = W1.length := by simp [rs]
    have g3 : i < ((qs s t W1 ++ List.replicate (w :: W2).length (0 : Int)).length : Int) := by simp [lq]; omega
    have g4 : i < ((rs s t W1 ++ List.replicate (w :: W2).length (0 : Int)).length : Int) := by simp [lr]; omega
    refine Ev.succ ?_
    simp only [split_divide.l0, if_pos g, if_pos g1, if_pos g2, r]
    refine Ev.bind M ?_
    simp only [D, Option.bind_some, if_pos g3, if_pos g4, e, e2]
    have s1 : (qs s t W1 ++ List.replicate (w :: W2).length (0 : Int)).set i.toNat (s * w / t) = qs s t (W1 ++ [w]) ++ List.replicate W2.length 0 := by
      rw [List.length_cons, List.replicate_succ, set_at _ _ _ _ _ (by rw [lq]; exact hi), qs_snoc]; simp
    have s2 : (rs s t W1 ++ List.replicate (w :: W2).length (0 : Int)).set i.toNat (s * w % t) = rs s t (W1 ++ [w]) ++ List.replicate W2.length 0 := by
      rw [List.length_cons, List.replicate_succ, set_at _ _ _ _ _ (by rw [lr]; exact hi), rs_snoc]; simp
    rw [s1, s2]
    have ih := split_divide.go0 s t h0 h1 h4 ht X W2 (W1 ++ [w]) n (i + 1) (left - s * w / t) (by simp; omega) (by simp; omega) hs (fun z hz => hw z (by simp [hz])) (by omega) (by omega) (by
      have e5 : (qs s t (w :: W2)).sum = s * w / t + (qs s t W2).sum := by simp [qs]
      have e6 : left - s * w / t - (qs s t W2).sum = left - (qs s t (w :: W2)).sum := by omega
      rw [e6]
      simpa using hX)
    simpa using ih
theorem le_sum {l : List Int} (h : ∀ x ∈ l, 0 ≤ x) : ∀ x ∈ l, x ≤ l.sum := by
  induction l with
  | nil => intro x hx; simp at hx
  | cons y l ih =>
    intro x hx
    have h1 := sum_nonneg l (fun z hz => h z (by simp [hz]))
    have h2 := h y (by simp)
    rw [List.sum_cons]
    rcases List.mem_cons.1 hx with rfl | hx
    · omega
    · have := ih (fun z hz => h z (by simp [hz])) x hx
      omega
/-- What is taken for granted of an amount without sign, and of weights. -/
structure Fit (s : Int) (l : List Int) : Prop where
  s0 : 0 ≤ s
  s1 : s ≤ 1000000000000000
  w0 : ∀ x ∈ l, 0 ≤ x
  t0 : 0 < l.sum
  t1 : l.sum ≤ 1000000000000000
  n : l.length ≤ 200
theorem Fit.w {s : Int} {l : List Int} (h : Fit s l) : ∀ w ∈ l, 0 ≤ w ∧ w ≤ l.sum := fun w hw => ⟨h.w0 w hw, le_sum h.w0 w hw⟩
theorem Fit.rk {s : Int} {l : List Int} (h : Fit s l) : (rk (rs s l.sum l)).Perm (idx l.length) ∧ (rk (rs s l.sum l)).Pairwise (rOrd (rs s l.sum l)) := by
  have := rk_spec (rs s l.sum l) (by have := h.n; simp [rs]; omega)
  simpa [rs] using this
theorem Fit.take {s : Int} {l : List Int} (h : Fit s l) : ∀ y ∈ (M.rk (rs s l.sum l)).take (lf s l.sum l).toNat, 0 ≤ y ∧ y < (qs s l.sum l).length := by
  intro y hy
  have := h.rk.1.mem_iff.1 (List.mem_of_mem_take hy)
  rw [mem_idx] at this
  simpa [qs] using this
theorem split_divide.eq {s : Int} {l : List Int} (h : Fit s l) : Ev (fun k => split_divide.f k s l.sum l) (pos s l) := by
  have g1 : (0 : Int) ≤ (l.length : Int) := by omega
  have g2 : (l.length : Int).toNat ≤ 35184372088832 := by have := h.n; omega
  simp only [split_divide.f, if_pos g1, if_pos g2]
  have hn := h.n
  have lb := lf_bounds s l h.t0
  have hl : (rk (rs s l.sum l)).length = l.length := by rw [h.rk.1.length_eq, idx_length]
  have := split_divide.go0 s l.sum h.s0 h.s1 h.t0 h.t1 (pos s l) l [] l.length 0 s rfl (by simp) (by omega) h.w h.s1 (by have := h.s0; omega) (by
    refine Ev.bind (split_ranked.eq _ (by simp [rs]; omega)) ?_
    have g3 : 0 ≤ s - (qs s l.sum l).sum := lb.1
    have g4 : s - (qs s l.sum l).sum ≤ ((rk (rs s l.sum l)).length : Int) := by rw [hl]; exact lb.2.1
    simp only [List.nil_append, if_pos g3, if_pos g4, Option.bind_some]
    refine split_divide.go1 ((rk (rs s l.sum l)).take (lf s l.sum l).toNat) [] (qs s l.sum l) ((((rk (rs s l.sum l)).take (lf s l.sum l).toNat).length : Nat) : Int) 0 rfl (by simp) (by rw [List.length_take]; omega) h.take (fun v hv => ?_)
    have := qs_bounds h.s0 h.s1 h.t0 l h.w v hv
    have : ((rk (rs s l.sum l)).take (lf s l.sum l).toNat).length ≤ 200 := by simp; omega
    omega)
  simpa [qs, rs] using this
/-- The shares. -/
noncomputable def shr (a : Int) (l : List Int) : List Int := if a < 0 then (pos (-a) l).map (fun x => -x) else pos a l
theorem pos_bounds {s : Int} {l : List Int} (h : Fit s l) : ∀ v ∈ pos s l, 0 ≤ v ∧ v ≤ 2000000000000000 := by
  have key : ∀ (Y x : List Int) (b : Int), (∀ v ∈ x, 0 ≤ v ∧ v ≤ b) → (∀ y ∈ Y, 0 ≤ y ∧ y < x.length) → ∀ v ∈ inc x Y, 0 ≤ v ∧ v ≤ b + Y.length := by
    intro Y
    induction Y with
    | nil => intro x b h _ v hv; have := h v hv; simp; omega
    | cons y Y ih =>
      intro x b hx hy v hv
      have hy0 := hy y (by simp)
      have := ih (x.set y.toNat (rd x y + 1)) (b + 1) (fun w hw => by
        have hm := hx _ (rd_mem' x y hy0.1 hy0.2)
        rcases mem_set' hw with rfl | hw
        · omega
        · have := hx w hw; omega) (fun z hz => by rw [List.length_set]; exact hy z (by simp [hz])) v hv
      simp only [List.length_cons]; omega
  intro v hv
  have := key _ _ 1000000000000000 (qs_bounds h.s0 h.s1 h.t0 l h.w) h.take v hv
  have hl : (M.rk (rs s l.sum l)).length = l.length := by rw [h.rk.1.length_eq, idx_length]
  have hn := h.n
  have : ((M.rk (rs s l.sum l)).take (lf s l.sum l).toNat).length ≤ 200 := by simp; omega
  omega
theorem split_Shares.neg : ∀ (B A : List Int) (n i : Int), i = (A.length : Int) → n = (A.length : Int) + B.length → n < 1000000 → (∀ v ∈ B, 0 ≤ v ∧ v ≤ 2000000000000000) → Ev (fun k => split_Shares.l0 k (A ++ B) n i) (A ++ B.map (fun x => -x), 0)
  | [], A, n, i, hi, hn, hs, hB => by
    refine Ev.succ ?_
    have g : ¬ i < n := by simp at hn; omega
    simp only [split_Shares.l0, if_neg g]
    simpa using Ev.const _
  | x :: B, A, n, i, hi, hn, hs, hB => by
    simp only [List.length_cons] at hn
    have g : i < n := by omega
    have g1 : 0 ≤ i := by omega
    have g2 : i < ((A ++ x :: B).length : Int) := by simp; omega
    have r := rd_at A x B i hi
    have hx := hB x (by simp)
    have e : wrap64 (i + 1) = i + 1 := w64 (by omega) (by omega)
    have e2 : wrap64 (-x) = -x := w64 (by omega) (by omega)
    refine Ev.succ ?_
    simp only [split_Shares.l0, if_pos g, if_pos g1, if_pos g2, r, e, e2, set_at A x (-x) B i hi]
    have ih := split_Shares.neg B (A ++ [-x]) n (i + 1) (by simp; omega) (by simp; omega) hs (fun z hz => hB z (by simp [hz]))
    simpa using ih
theorem shErr_le {a : Int} {l : List Int} : shErr a l = 0 → Fit (if a < 0 then -a else a) l := by
  intro h
  unfold shErr at h
  split at h
  · omega
  · split at h
    · omega
    · split at h
      · omega
      · split at h
        · omega
        · split at h
          · omega
          · rename_i h1 h2 h3 h4 h5
            have h3' : ∀ x ∈ l, 0 ≤ x := fun x hx => by
              have : ¬ x < 0 := fun k => h3 ⟨x, hx, k⟩
              omega
            have := sum_nonneg l h3'
            exact ⟨by split <;> omega, by split <;> omega, h3', by omega, by omega, by omega⟩
theorem split_Shares.eq {a : Int} {l : List Int} (hl : l.length < 100000000000000) (hw : ∀ x ∈ l, x ≤ 9223372036854775807) : Ev (fun k => split_Shares.f k a l) (if shErr a l = 0 then shr a l else [], shErr a l) := by
  by_cases c1 : l.length > 200
  · have c1' : (l.length : Int) > 200 := by omega
    have : shErr a l = 9 := by unfold shErr; rw [if_pos c1]
    rw [this]
    simp only [split_Shares.f, if_pos c1']
    exact Ev.const _
  · have c1' : ¬ (l.length : Int) > 200 := by omega
    have J : ∀ b, b = (decide (a > 1000000000000000 ∨ a < -1000000000000000)) → Ev (fun k => split_Shares.j0 k a l b) (if shErr a l = 0 then shr a l else [], shErr a l) := by
      intro b hb
      subst hb
      refine Ev.succ ?_
      by_cases c2 : a > 1000000000000000 ∨ a < -1000000000000000
      · have : shErr a l = 4 := by unfold shErr; rw [if_neg c1, if_pos c2]
        rw [this]
        simp only [split_Shares.j0, decide_eq_true c2, if_true]
        exact Ev.const _
      · simp only [split_Shares.j0, decide_eq_false c2, Bool.false_eq_true, if_false]
        have T := split_total.eq l (by omega) hw
        refine Ev.bind T ?_
        by_cases c3 : ∃ x ∈ l, x < 0
        · have : shErr a l = 2 := by unfold shErr; rw [if_neg c1, if_neg c2, if_pos c3]
          rw [this]
          simp only [if_pos c3]
          exact Ev.const _
        · simp only [if_neg c3, sumFrom_zero]
          by_cases c4 : l.sum > 1000000000000000
          · have : shErr a l = 4 := by unfold shErr; rw [if_neg c1, if_neg c2, if_neg c3, if_pos c4]
            rw [this]
            simp only [if_pos c4]
            exact Ev.const _
          · by_cases c5 : l.sum = 0
            · have : shErr a l = 2 := by unfold shErr; rw [if_neg c1, if_neg c2, if_neg c3, if_neg c4, if_pos c5]
              rw [this]
              simp only [if_neg c4, if_pos c5]
              exact Ev.const _
            · have z : shErr a l = 0 := by unfold shErr; rw [if_neg c1, if_neg c2, if_neg c3, if_neg c4, if_neg c5]
              have F := shErr_le z
              rw [z]
              simp only [if_neg c4, if_neg c5, if_true]
              unfold shr
              by_cases c6 : a < 0
              · simp only [if_pos c6] at F ⊢
                rw [w64 (n := -a) (by omega) (by omega)]
                refine Ev.bind (split_divide.eq F) ?_
                have hlen : ((pos (-a) l).length : Int) ≤ 200 := by
                  unfold pos; rw [inc_length]; simp [qs]; omega
                have := split_Shares.neg (pos (-a) l) [] (pos (-a) l).length 0 rfl (by simp) (by omega) (pos_bounds F)
                simpa using this
              · simp only [if_neg c6] at F ⊢
                exact Ev.bind (split_divide.eq F) (Ev.const _)
    by_cases c2 : a > 1000000000000000
    · simp only [split_Shares.f, if_neg c1', if_pos c2]
      exact J true (by simp [c2])
    · simp only [split_Shares.f, if_neg c1', if_neg c2]
      exact J _ (by simp [c2])
end Go.Proofs.Ytikglhfeookhaaa.M
end
section
-- Written by mprint.py (a program of this session) over the kit's print.
namespace Go.Proofs.Ytikglhfeookhaaa.M
open Go.RowKit Go.Proofs.YtikglhfeookhaaaW.PrintWords Go.Proofs.YtikglhfeookhaaaW.PrintLast Go.Proofs.YtikglhfeookhaaaW.PrintMore
attribute [local go_sem] max2_int min2_int max_two min_two max_three min_three max_four min_four   -- for this text's walks alone
set_option linter.unusedVariables false
set_option linter.unusedSimpArgs false

/-! ### accountingref08_Same: function 15 -/
def accountingref08_Same.l0 : Nat → List Int → List Int → Int → Option (Bool)
  | 0, _, _, _ => none
  | k + 1, x0, x1, x5 => if x5 < (x0.length : Int) then (if 0 ≤ x5 then (if x5 < (x1.length : Int) then (if (rd x0 x5) = (rd x1 x5) then (accountingref08_Same.l0 k x0 x1 (wrap64 (x5 + 1))) else (some false)) else (none)) else (none)) else (some true)
def accountingref08_Same.f (k : Nat) (l0 : List Int) (l1 : List Int) : Option (Bool) := if (l0.length : Int) = (l1.length : Int) then (accountingref08_Same.l0 k l0 l1 0) else (some false)
theorem accountingref08_Same.mono_l : ∀ k, (∀ y0 y1 y2, LeO (accountingref08_Same.l0 k y0 y1 y2) (accountingref08_Same.l0 (k + 1) y0 y1 y2))
  | 0 => fun _ _ _ r h => by simp [accountingref08_Same.l0] at h
  | k + 1 => by
    have ih0 := accountingref08_Same.mono_l k
    · intro y0 y1 y2
      unfold accountingref08_Same.l0
      repeat' first
      | (with_reducible exact ih0 _ _ _)
      | (with_reducible exact LeO.refl _)
      | (with_reducible exact LeO.none _)
      | (with_reducible refine LeO.ite ?_ ?_)
      | (with_reducible refine LeO.bind ?_ (fun _ => ?_))
      | exact ih0 _ _ _
      | exact LeO.none _
      | refine LeO.ite ?_ ?_
      | refine LeO.bind ?_ (fun _ => ?_)
theorem accountingref08_Same.mono : ∀ a0 a1 k, LeO (accountingref08_Same.f k a0 a1) (accountingref08_Same.f (k + 1) a0 a1) := by
 intro a0 a1 k
 have ih0 := accountingref08_Same.mono_l k
 unfold accountingref08_Same.f
 repeat' first
   | (with_reducible exact ih0 _ _ _)
   | (with_reducible exact LeO.refl _)
   | (with_reducible exact LeO.none _)
   | (with_reducible refine LeO.ite ?_ ?_)
   | (with_reducible refine LeO.bind ?_ (fun _ => ?_))
   | exact ih0 _ _ _
   | exact LeO.none _
   | refine LeO.ite ?_ ?_
   | refine LeO.bind ?_ (fun _ => ?_)
set_option maxHeartbeats 8000000 in
set_option maxRecDepth 100000 in
theorem accountingref08_Same.calls (k : Nat) (A0 : Option Addr) (c0 : Nat) (l0 : List Int) (A1 : Option Addr) (c1 : Nat) (l1 : List Int) (r : Bool) (w : World) (hr0 : Kd.C (Kd.int .i64) w A0 l0.length l0) (hc0 : l0.length ≤ c0) (hr1 : Kd.C (Kd.int .i64) w A1 l1.length l1) (hc1 : l1.length ≤ c1) (h : accountingref08_Same.f k l0 l1 = some r) :
    Calls Try.prog 15 #[.slice A0 l0.length c0, .slice A1 l1.length c1] w fun e w' => e = .returned (.bool r) ∧ Drawn0 w w' := by
 have hu3 := Try.underlying3
 have HR0 := Aside0.mk hr0
 have HC0 := Aside0.mk hc0
 clear hr0 hc0
 have HR1 := Aside0.mk hr1
 have HC1 := Aside0.mk hc1
 clear hr1 hc1
 have H : (if (l0.length : Int) = (l1.length : Int) then (accountingref08_Same.l0 k l0 l1 0) else (some false)) = some r := h
 clear h
 by_cases c3 : (l0.length : Int) = (l1.length : Int)
 ·rw [if_pos c3] at H
  have c3b0 : ((l0.length : Int) == (l1.length : Int)) = true := beq_iff_eq.mpr c3
  have c3b1 : ((l0.length : Int) != (l1.length : Int)) = false := bne_eq_false_iff_eq.mpr c3
  have c3b2 : (l0.length == l1.length) = true := by first | simpa using c3 | (simp at c3 ⊢; omega)
  clear c3
  have H' := Aside0.mk H
  clear H
  go_enter Try.func15, Try.ntmps15
  go_wp2
  repeat (go_quiet (fail); try go_wp2)
  go_loopg [5] k (fun kq v5 w' => ∃ (x5_1 : Int), v5 = .int .i64 x5_1 ∧ Aside0 (accountingref08_Same.l0 kq l0 l1 x5_1 = some r) ∧ Aside0 (kq ≤ k) ∧ Drawn0 w w')
  case atStart => exact ⟨(0), (by first | rfl | (simp; done) | (simp [*]; done)), H', ⟨Nat.le_refl _⟩, by repeat (first | exact Drawn0.refl _ | apply Drawn0.step)⟩
  case round =>
   clear H'
   try clear c1
   try clear p2
   try clear c3
   try clear c3b0
   try clear c3b1
   try clear c3b2
   obtain ⟨x5_1, rfl, HA, HK1, ⟨m1, rfl⟩⟩ := hrel
   cases gk with
   | zero => exact absurd HA.out (by simp [accountingref08_Same.l0])
   | succ k1 =>
    have H := HA.out
    clear HA
    simp only [accountingref08_Same.l0] at H
    by_cases c4 : x5_1 < (l0.length : Int)
    ·rw [if_pos c4] at H
     have c4b0 : decide (x5_1 < (l0.length : Int)) = true := decide_eq_true c4
     clear c4
     by_cases c5 : 0 ≤ x5_1
     ·rw [if_pos c5] at H
      have c5b0 : decide (0 ≤ x5_1) = true := decide_eq_true c5
      clear c5
      by_cases c6 : x5_1 < (l1.length : Int)
      ·rw [if_pos c6] at H
       have c6b0 : decide (x5_1 < (l1.length : Int)) = true := decide_eq_true c6
       clear c6
       by_cases c7 : (rd l0 x5_1) = (rd l1 x5_1)
       ·rw [if_pos c7] at H
        have c7b0 : ((rd l0 x5_1) == (rd l1 x5_1)) = true := beq_iff_eq.mpr c7
        have c7b1 : ((rd l0 x5_1) != (rd l1 x5_1)) = false := bne_eq_false_iff_eq.mpr c7
        clear c7
        have H' := Aside0.mk H
        clear H
        have p101 : 0 ≤ (x5_1 : Int) := of_decide_eq_true (by first | (with_reducible assumption) | assumption)
        have q101 : x5_1 < (l0.length : Int) := of_decide_eq_true (by first | (with_reducible assumption) | assumption)
        obtain ⟨ad101, e101, hx101_0⟩ := Kd.at_int HR0.out x5_1 p101 q101
        cases e101
        replace p101 := eq_true p101
        replace q101 := eq_true q101
        have p102 : 0 ≤ (x5_1 : Int) := of_decide_eq_true (by first | (with_reducible assumption) | assumption)
        have q102 : x5_1 < (l1.length : Int) := of_decide_eq_true (by first | (with_reducible assumption) | assumption)
        obtain ⟨ad102, e102, hx102_0⟩ := Kd.at_int HR1.out x5_1 p102 q102
        cases e102
        replace p102 := eq_true p102
        replace q102 := eq_true q102
        go_wp2
        repeat (go_quiet (fail); try go_wp2)
        go_roundg k1
        case measure => have := HK1.out; omega
        case rel => exact ⟨(wrap64 (x5_1 + 1)), (by first | rfl | (simp; done) | (simp [*]; done)), H', ⟨by have := HK1.out; omega⟩, by repeat (first | exact Drawn0.refl _ | apply Drawn0.step)⟩
       ·rw [if_neg c7] at H
        have c7b0 : ((rd l0 x5_1) == (rd l1 x5_1)) = false := beq_eq_false_iff_ne.mpr c7
        have c7b1 : ((rd l0 x5_1) != (rd l1 x5_1)) = true := bne_iff_ne.mpr c7
        obtain rfl := Option.some.inj H
        have p101 : 0 ≤ (x5_1 : Int) := of_decide_eq_true (by first | (with_reducible assumption) | assumption)
        have q101 : x5_1 < (l0.length : Int) := of_decide_eq_true (by first | (with_reducible assumption) | assumption)
        obtain ⟨ad101, e101, hx101_0⟩ := Kd.at_int HR0.out x5_1 p101 q101
        cases e101
        replace p101 := eq_true p101
        replace q101 := eq_true q101
        have p102 : 0 ≤ (x5_1 : Int) := of_decide_eq_true (by first | (with_reducible assumption) | assumption)
        have q102 : x5_1 < (l1.length : Int) := of_decide_eq_true (by first | (with_reducible assumption) | assumption)
        obtain ⟨ad102, e102, hx102_0⟩ := Kd.at_int HR1.out x5_1 p102 q102
        cases e102
        replace p102 := eq_true p102
        replace q102 := eq_true q102
        go_wp2
        repeat (go_quiet (fail); try go_wp2)
        go_ret
        exact ⟨by first | rfl | (simp; done) | (simp [*]; done), by repeat (first | exact Drawn0.refl _ | apply Drawn0.step)⟩
      ·rw [if_neg c6] at H
       exact absurd H (by simp)
     ·rw [if_neg c5] at H
      exact absurd H (by simp)
    ·rw [if_neg c4] at H
     have c4b0 : decide (x5_1 < (l0.length : Int)) = false := decide_eq_false c4
     clear c4
     obtain rfl := Option.some.inj H
     go_wp2
     repeat (go_quiet (fail); try go_wp2)
     go_ret
     exact ⟨by first | rfl | (simp; done) | (simp [*]; done), by repeat (first | exact Drawn0.refl _ | apply Drawn0.step)⟩
 ·rw [if_neg c3] at H
  have c3b0 : ((l0.length : Int) == (l1.length : Int)) = false := beq_eq_false_iff_ne.mpr c3
  have c3b1 : ((l0.length : Int) != (l1.length : Int)) = true := bne_iff_ne.mpr c3
  have c3b2 : (l0.length == l1.length) = false := by first | simpa using c3 | (simp at c3 ⊢; omega)
  obtain rfl := Option.some.inj H
  go_enter Try.func15, Try.ntmps15
  go_wp2
  repeat (go_quiet (fail); try go_wp2)
  go_ret
  exact ⟨by first | rfl | (simp; done) | (simp [*]; done), by repeat (first | exact Drawn0.refl _ | apply Drawn0.step)⟩

end Go.Proofs.Ytikglhfeookhaaa.M
end
section
-- Written by mprint.py (a program of this session) over the kit's print.
namespace Go.Proofs.Ytikglhfeookhaaa.M
open Go.RowKit Go.Proofs.YtikglhfeookhaaaW.PrintWords Go.Proofs.YtikglhfeookhaaaW.PrintLast Go.Proofs.YtikglhfeookhaaaW.PrintMore
attribute [local go_sem] max2_int min2_int max_two min_two max_three min_three max_four min_four   -- for this text's walks alone
set_option linter.unusedVariables false
set_option linter.unusedSimpArgs false

/-! ### bits_Mul64: function 48 -/
def bits_Mul64.f (a0 : Int) (a1 : Int) : Option (Int × Int) := some (IntKind.u64.wrap ((IntKind.u64.wrap ((IntKind.u64.wrap ((a0 / 4294967296) * (a1 / 4294967296))) + ((IntKind.u64.wrap ((IntKind.u64.wrap ((a0 / 4294967296) * (Go.bits .and .u64 a1 4294967295))) + ((IntKind.u64.wrap ((Go.bits .and .u64 a0 4294967295) * (Go.bits .and .u64 a1 4294967295))) / 4294967296))) / 4294967296))) + ((IntKind.u64.wrap ((Go.bits .and .u64 (IntKind.u64.wrap ((IntKind.u64.wrap ((a0 / 4294967296) * (Go.bits .and .u64 a1 4294967295))) + ((IntKind.u64.wrap ((Go.bits .and .u64 a0 4294967295) * (Go.bits .and .u64 a1 4294967295))) / 4294967296))) 4294967295) + (IntKind.u64.wrap ((Go.bits .and .u64 a0 4294967295) * (a1 / 4294967296))))) / 4294967296)), IntKind.u64.wrap (a0 * a1))
set_option maxHeartbeats 8000000 in
set_option maxRecDepth 100000 in
theorem bits_Mul64.calls (a0 : Int) (a1 : Int) (r1 : Int) (r2 : Int) (w : World) (h : bits_Mul64.f a0 a1 = some (r1, r2)) :
    Calls Try.prog 48 #[.int .u64 a0, .int .u64 a1] w fun e w' => e = .returned (.tuple #[.int .u64 r1, .int .u64 r2]) ∧ Drawn0 w w' := by
 have H : (some (IntKind.u64.wrap ((IntKind.u64.wrap ((IntKind.u64.wrap ((a0 / 4294967296) * (a1 / 4294967296))) + ((IntKind.u64.wrap ((IntKind.u64.wrap ((a0 / 4294967296) * (Go.bits .and .u64 a1 4294967295))) + ((IntKind.u64.wrap ((Go.bits .and .u64 a0 4294967295) * (Go.bits .and .u64 a1 4294967295))) / 4294967296))) / 4294967296))) + ((IntKind.u64.wrap ((Go.bits .and .u64 (IntKind.u64.wrap ((IntKind.u64.wrap ((a0 / 4294967296) * (Go.bits .and .u64 a1 4294967295))) + ((IntKind.u64.wrap ((Go.bits .and .u64 a0 4294967295) * (Go.bits .and .u64 a1 4294967295))) / 4294967296))) 4294967295) + (IntKind.u64.wrap ((Go.bits .and .u64 a0 4294967295) * (a1 / 4294967296))))) / 4294967296)), IntKind.u64.wrap (a0 * a1))) = some (r1, r2) := h
 clear h
 simp only [Option.some.injEq, Prod.mk.injEq] at H
 obtain ⟨rfl, rfl⟩ := H
 go_enter Try.func48, Try.ntmps48
 go_wp2
 go_ret2
 exact ⟨by first | rfl | (simp; done) | (simp [*]; done), by repeat (first | exact Drawn0.refl _ | apply Drawn0.step)⟩

end Go.Proofs.Ytikglhfeookhaaa.M
end
section
-- Written by mprint.py (a program of this session) over the kit's print.
namespace Go.Proofs.Ytikglhfeookhaaa.M
open Go.RowKit Go.Proofs.YtikglhfeookhaaaW.PrintWords Go.Proofs.YtikglhfeookhaaaW.PrintLast Go.Proofs.YtikglhfeookhaaaW.PrintMore
attribute [local go_sem] max2_int min2_int max_two min_two max_three min_three max_four min_four   -- for this text's walks alone
set_option linter.unusedVariables false
set_option linter.unusedSimpArgs false

/-! ### bits_Mul: function 40 -/
def bits_Mul.f (a0 : Int) (a1 : Int) : Option (Int × Int) := (bits_Mul64.f a0 a1).bind fun bt101 => (some (bt101.1, bt101.2))
set_option maxHeartbeats 8000000 in
set_option maxRecDepth 100000 in
theorem bits_Mul.calls (a0 : Int) (a1 : Int) (r1 : Int) (r2 : Int) (w : World) (h : bits_Mul.f a0 a1 = some (r1, r2)) :
    Calls Try.prog 40 #[.int .u64 a0, .int .u64 a1] w fun e w' => e = .returned (.tuple #[.int .u64 r1, .int .u64 r2]) ∧ Drawn0 w w' := by
 have H : ((bits_Mul64.f a0 a1).bind fun bt101 => (some (bt101.1, bt101.2))) = some (r1, r2) := h
 clear h
 replace H := Option.bind_eq_some_iff.mp H
 obtain ⟨⟨t101, t102⟩, A30, H⟩ := H
 replace H : (some (t101, t102)) = some (r1, r2) := H
 have A3 := Aside0.mk A30
 clear A30
 simp only [Option.some.injEq, Prod.mk.injEq] at H
 obtain ⟨rfl, rfl⟩ := H
 go_enter Try.func40, Try.ntmps40
 go_wp2_with (first | ((with_reducible refine gate_callee (f := 48) rfl ?_); refine goesL_ (some 25) rfl rfl Try.func48 (by kernel_rfl) rfl #[.int .u64 a0, .int .u64 a1] rfl (by (try simp only [List.map_toArray, List.map_cons, List.map_nil]); first | done | rfl | (simp only [List.length_drop, List.length_take]; rfl)) ?_; (with_reducible refine (bits_Mul64.calls a0 a1 t101 t102 _ A3.out).mono ?_); rintro e w' ⟨rfl, ⟨nd, rfl⟩⟩; refine ⟨_, rfl, ?_⟩))
 go_ret2
 exact ⟨by first | rfl | (simp; done) | (simp [*]; done), by repeat (first | exact Drawn0.refl _ | apply Drawn0.step)⟩

end Go.Proofs.Ytikglhfeookhaaa.M
end
section
/- slices.Repeat of one element: a row of that element, as_ often as_ asked (at most 100000 times). -/
namespace Go.Proofs.Ytikglhfeookhaaa.M
open Go.RowKit Go.Proofs.YtikglhfeookhaaaW.PrintWords Go.Proofs.YtikglhfeookhaaaW.PrintLast Go.Proofs.YtikglhfeookhaaaW.PrintMore
set_option linter.unusedVariables false
def slices_Repeat_int_int.f (l0 : List Int) (a1 : Int) : Option (List Int) :=
  if l0.length = 1 ∧ 0 ≤ a1 ∧ a1 ≤ 100000 then some (List.replicate a1.toNat (l0.getD 0 0)) else none
theorem slices_Repeat_int_int.and_small (x : Int) (h0 : 0 ≤ x) (h1 : x < 4294967296) : Go.bits .and .u64 x 4294967295 = x := by
  have h := bits_mask .u64 64 (by decide) (fun n a b => by simp [IntKind.wrap, IntKind.bits, IntKind.signed]; omega) 32 (by decide) x h0 (by omega)
  have e : ((2 : Int) ^ 32 - 1) = 4294967295 := by decide
  rw [e] at h
  rw [h]; omega
theorem slices_Repeat_int_int.mul1 (n : Int) (h0 : 0 ≤ n) (h1 : n ≤ 100000) : bits_Mul.f 1 n = some (0, n) := by
  have w : ∀ x : Int, 0 ≤ x → x < 18446744073709551616 → IntKind.u64.wrap x = x := fun x a b => by simp [IntKind.wrap, IntKind.bits, IntKind.signed]; omega
  unfold bits_Mul.f bits_Mul64.f
  rw [slices_Repeat_int_int.and_small 1 (by omega) (by omega), slices_Repeat_int_int.and_small n h0 (by omega)]
  have e1 : (1 : Int) / 4294967296 = 0 := by decide
  have e2 : n / 4294967296 = 0 := by omega
  rw [e1, e2]
  simp only [Int.zero_mul, Int.one_mul, Int.mul_zero]
  rw [w 0 (by omega) (by omega), w n h0 (by omega)]
  have e3 : n / 4294967296 = 0 := by omega
  simp only [e3, Int.zero_add, Int.add_zero]
  rw [w 0 (by omega) (by omega)]
  rw [show Go.bits .and .u64 0 4294967295 = 0 from by decide]
  simp [w 0 (by omega) (by omega)]
theorem slices_Repeat_int_int.pos {wr : World} {g m n k : Nat} {x : Int} {t : TypeId} {z : List Value} (hG : wr.heap[g]? = some (.cells (List.replicate m (Value.int .i64 x) ++ z).toArray t (0, 0))) (hk : k ≤ m) (W : World) (hW : W.heap = wr.heap) : 0 < (List.replicate k (Value.int .i64 x)).length → some (⟨g, n, none⟩ : Addr) = some ⟨g, n, none⟩ ∧ ∃ ad, some (⟨g, 0, none⟩ : Addr) = some ad ∧ ∀ j v, (List.replicate k (Value.int .i64 x))[j]? = some v → W.cell? (ad.add j) = some v := by
  intro _
  refine ⟨rfl, _, rfl, ?_⟩
  intro j v hv
  have hj : j < k := by
    have := (List.getElem?_eq_some_iff.1 hv).1
    rw [List.length_replicate] at this
    omega
  have hv2 : v = .int .i64 x := (List.mem_replicate.1 (List.mem_of_getElem? hv)).2
  subst hv2
  rw [Addr.add_lit, Nat.zero_add]
  have hj2 : j < m := by omega
  simp [World.cell?, hW, hG, List.getElem?_append_left, hj2]
theorem slices_Repeat_int_int.spl (m n : Nat) (x : Int) (t : TypeId) (h : m < n := by omega) : some (Obj.cells (splice (List.replicate m (Value.int .i64 x) ++ List.replicate (n - m) (Value.int .i64 0)) m (List.replicate (min m (n - m)) (Value.int .i64 x))).toArray t (0, 0)) = some (Obj.cells (List.replicate (m + min m (n - m)) (Value.int .i64 x) ++ List.replicate (n - (m + min m (n - m))) (Value.int .i64 0)).toArray t (0, 0)) := by
  have e : splice (List.replicate m (Value.int .i64 x) ++ List.replicate (n - m) (Value.int .i64 0)) m (List.replicate (min m (n - m)) (Value.int .i64 x)) = List.replicate (m + min m (n - m)) (Value.int .i64 x) ++ List.replicate (n - (m + min m (n - m))) (Value.int .i64 0) := by
    unfold splice
    rw [List.length_replicate, List.take_left' (by simp), List.drop_append, List.drop_of_length_le (by simp)]
    rw [List.length_replicate, List.nil_append, List.drop_replicate, ← List.append_assoc, List.replicate_append_replicate]
    congr 2
    omega
  rw [e]
set_option maxHeartbeats 4000000 in
set_option maxRecDepth 100000 in
theorem slices_Repeat_int_int.calls (A0 : Option Addr) (c0 : Nat) (l0 : List Int) (a1 : Int) (r : List Int) (w : World) (hr0 : Kd.C (Kd.int .i64) w A0 l0.length l0) (hc0 : l0.length ≤ c0) (h : slices_Repeat_int_int.f l0 a1 = some r) :
    Calls Try.prog 26 #[.slice A0 l0.length c0, .int .i64 a1] w fun e w' => ∃ v0_ : Value, e = .returned (v0_) ∧ Kd.R (Kd.int .i64) 3 w' w.heap.size (fun _ => True) v0_ r ∧ Below w.heap.size w w' := by
  unfold slices_Repeat_int_int.f at h
  split at h
  · rename_i hc
    obtain ⟨hl, h0, h1⟩ := hc
    obtain ⟨x, rfl⟩ := List.length_eq_one_iff.1 hl
    obtain ⟨n, rfl⟩ := Int.eq_ofNat_of_zero_le h0
    injection h with h
    simp at h
    subst h
    have hrd := Kd.reads_of_C (d := (0 : Int)) hr0
    obtain ⟨ad, rfl, hcell⟩ := hrd.2.2 (by simp)
    have hx := hcell 0 (by simp)
    simp at hx
    have hn : n ≤ 100000 := by omega
    have HM := Aside0.mk (slices_Repeat_int_int.mul1 n (by omega) (by omega))
    have hu := Try.underlying22
    have hmk := @print_make Try.prog 22 3 .i64 8 Try.underlying22 (by kernel_rfl) (by decide) n (by omega)
    clear hl h0 h1 hr0 hrd hcell
    go_enter Try.func26, Try.ntmps26
    have hsz : (Try.prog.info? 3).map (·.size) = some 1 := by kernel_rfl
    have hu' : Try.prog.underlying 22 = some (.slice 3) := hu
    go_wp2_with (first
      | (go_at_call 40; refine (bits_Mul.calls _ _ _ _ _ HM.out).mono ?_; rintro e w' ⟨rfl, ⟨nd, rfl⟩⟩)
      | (refine wpList_copy_splice rfl (.tmp 31) (.tmp 32) 22 22 rfl 3 hu' hsz _ _ _ _ _ _ rfl rfl w.heap.size 0 (List.replicate n (.int .i64 0)) 3 ?chg (List.replicate (min 1 n) (.int .i64 x)) ?chn ?chpos ?chfit ?ch1 w.heap.size w ?chb (Nat.le_refl _) ?crest
         case chg =>
           have e := toList_madeCells_one (.int .i64 0) n
           have e2 : madeCells #[.int .i64 0] n = (List.replicate n (.int .i64 0)).toArray := by rw [← e]
           rw [← e2]
           simp [World.alloc, World.drewN]
         case chn => simp [Nat.min_def]
         case chpos =>
           intro _
           refine ⟨rfl, ad, rfl, ?_⟩
           intro j v hv
           have hj : j = 0 := by
             have := (List.getElem?_eq_some_iff.1 hv).1
             simp at this
             omega
           subst hj
           have hv2 : v = .int .i64 x := by
             have := List.mem_of_getElem? hv
             exact (List.mem_replicate.1 this).2
           subst hv2
           exact (World.cell?_alloc_some (w.drewN nd) (ad.add 0) _ (by rw [World.cell?_drewN, hx]; rfl)).trans hx
         case chfit => simp; omega
         case ch1 =>
           intro v hv
           obtain ⟨_, rfl⟩ := List.mem_replicate.1 hv
           rfl
         case chb => repeat (first | exact Below.refl _ _ | apply below_alloc | apply pw_below_drewN | apply below_drew1)
         intro w2 hg2 hb2))
    all_goals go_goals
    have hB := Aside0.mk hb2
    go_loopg [8] n (fun k v8 w' => ∃ m : Nat, v8 = .int .i64 m ∧ m ≤ n ∧ min 1 n ≤ m ∧ n - m ≤ k ∧ Aside0 (w'.heap[w.heap.size]? = some (.cells (List.replicate m (Value.int .i64 x) ++ List.replicate (n - m) (Value.int .i64 0)).toArray 3 (0, 0))) ∧ Aside0 (Below w.heap.size w w'))
    case atStart =>
      refine ⟨min 1 n, by simp, by omega, Nat.le_refl _, by omega, ⟨?_⟩, ⟨hb2⟩⟩
      rw [hg2.out]
      simp [splice]
    case round =>
      obtain ⟨m, rfl, hm1, hm2, hm3, hG, hB⟩ := hrel
      by_cases hmn : m < n
      · have hne : ¬ n = m := by omega
        have hm0 : (m : Int) < (n : Int) := by omega
        have hm0b : decide ((m : Int) < (n : Int)) = true := decide_eq_true hm0
        have hmi : (m : Int) ≤ (n : Int) := by omega
        have hmn' : m ≤ n := hm1
        have hsum : IntKind.i64.wrap ((m : Int) + ((min m (n - m) : Nat) : Int)) = ((m + min m (n - m) : Nat) : Int) := by
          rw [IntKind.wrap_i64]; omega
        have hcl : (List.replicate (min m (n - m)) (Value.int .i64 x)).length = min m (n - m) := by simp
        have hchn : (List.replicate (min m (n - m)) (Value.int .i64 x)).length = Nat.min m (n - m) := hcl
        have hfit : m + (List.replicate (min m (n - m)) (Value.int .i64 x)).length ≤ (List.replicate m (Value.int .i64 x) ++ List.replicate (n - m) (Value.int .i64 0)).length := by
          rw [List.length_append, hcl, List.length_replicate, List.length_replicate]
          omega
        have hone : ∀ v ∈ List.replicate (min m (n - m)) (Value.int .i64 x), v.oneCell' = true := by
          intro v hv
          obtain ⟨_, rfl⟩ := List.mem_replicate.1 hv
          rfl
        replace hchn := Aside0.mk hchn
        replace hfit := Aside0.mk hfit
        replace hone := Aside0.mk hone
        clear hcl
        go_wp2_with fail
        have hpos := Aside0.mk (slices_Repeat_int_int.pos (n := m) hG.out (Nat.min_le_left m (n - m)) wr.drew rfl)
        go_region_law (
                       refine step_copy_splice rfl (.tmp 41) (.tmp 44) 22 22 rfl 3 hu' hsz (some ⟨w.heap.size, m, none⟩) (some ⟨w.heap.size, 0, none⟩) (n - m) (n - m) m n (by simp [Act.eval, Act.put]) (by simp [Act.eval, Act.put]) w.heap.size m (List.replicate m (Value.int .i64 x) ++ List.replicate (n - m) (Value.int .i64 0)) 3 hG.out (List.replicate (min m (n - m)) (.int .i64 x)) hchn.out hpos.out hfit.out hone.out w.heap.size w ⟨hB.out.os, hB.out.tape, hB.out.output, hB.out.size, hB.out.block⟩ (Nat.le_refl _) ?_
                       intro w4 hg4 hb4)
        go_wp2
        go_roundg (n - (m + min m (n - m)))
        case measure => omega
        case rel =>
          refine ⟨m + min m (n - m), rfl, by omega, by omega, Nat.le_refl _, ⟨?_⟩, ⟨hb4⟩⟩
          rw [hg4.out]
          exact slices_Repeat_int_int.spl m n x _
      · have e : m = n := by omega
        subst e
        have hm0 : ¬ (m : Int) < (m : Int) := by omega
        have hm0b : decide ((m : Int) < (m : Int)) = false := decide_eq_false hm0
        go_wp2
        clear hm0 hm0b hm2 hm3 hmn
        go_ret
        have hown : wr.ownsRow w.heap.size 3 1 (.slice (some ⟨w.heap.size, 0, none⟩) m m) (List.replicate m x).length (encs (fun i => Value.int .i64 i) (List.replicate m x)) := by
          rw [List.length_replicate]
          refine ⟨by simp [encs], .inr ⟨w.heap.size, m, _, rfl, Nat.le_refl _, hG.out, Nat.le_refl _, ?_, ?_, ?_⟩⟩
          · unfold maxLen; omega
          · simp
          · simp [encs]
        exact ⟨_, rfl, Kd.R_of_own hown (fun _ _ => trivial), hB.out⟩
  · cases h
end Go.Proofs.Ytikglhfeookhaaa.M
end
section
-- Written by mprint.py (a program of this session) over the kit's print.
namespace Go.Proofs.Ytikglhfeookhaaa.M
open Go.RowKit Go.Proofs.YtikglhfeookhaaaW.PrintWords Go.Proofs.YtikglhfeookhaaaW.PrintLast Go.Proofs.YtikglhfeookhaaaW.PrintMore
attribute [local go_sem] max2_int min2_int max_two min_two max_three min_three max_four min_four   -- for this text's walks alone
set_option linter.unusedVariables false
set_option linter.unusedSimpArgs false

/-! ### split_Even: function 16 -/
def split_Even.f (k : Nat) (a0 : Int) (a1 : Int) : Option (List Int × Int) := if a1 < 1 then (some (([] : List Int), 2)) else (if a1 > 200 then (some (([] : List Int), 9)) else ((slices_Repeat_int_int.f (([1] : List Int)) a1).bind fun t104 => ((split_Shares.f k a0 t104).bind fun bt107 => (some (bt107.1, bt107.2)))))
theorem split_Even.mono : ∀ a0 a1 k, LeO (split_Even.f k a0 a1) (split_Even.f (k + 1) a0 a1) := by
 intro a0 a1 k
 unfold split_Even.f
 repeat' first
   | (with_reducible exact split_Shares.mono _ _ _)
   | (with_reducible exact LeO.refl _)
   | (with_reducible exact LeO.none _)
   | (with_reducible refine LeO.ite ?_ ?_)
   | (with_reducible refine LeO.bind ?_ (fun _ => ?_))
   | exact split_Shares.mono _ _ _
   | exact LeO.none _
   | refine LeO.ite ?_ ?_
   | refine LeO.bind ?_ (fun _ => ?_)
set_option maxHeartbeats 8000000 in
set_option maxRecDepth 100000 in
theorem split_Even.calls (k : Nat) (a0 : Int) (a1 : Int) (r1 : List Int) (r2 : Int) (w : World) (h : split_Even.f k a0 a1 = some (r1, r2)) :
    Calls Try.prog 16 #[.int .i64 a0, .int .i64 a1] w fun e w' => ∃ v0_ : Value, e = .returned (.tuple #[v0_, .int .i64 r2]) ∧ Kd.R (Kd.int .i64) 3 w' w.heap.size (fun _ => True) v0_ r1 ∧ Below w.heap.size w w' := by
 have HB := Aside0.mk (Below.refl w.heap.size w)
 have H : (if a1 < 1 then (some (([] : List Int), 2)) else (if a1 > 200 then (some (([] : List Int), 9)) else ((slices_Repeat_int_int.f (([1] : List Int)) a1).bind fun t104 => ((split_Shares.f k a0 t104).bind fun bt107 => (some (bt107.1, bt107.2)))))) = some (r1, r2) := h
 clear h
 by_cases c3 : a1 < 1
 ·rw [if_pos c3] at H
  have c3b0 : decide (a1 < 1) = true := decide_eq_true c3
  clear c3
  simp only [Option.some.injEq, Prod.mk.injEq] at H
  obtain ⟨rfl, rfl⟩ := H
  go_enter Try.func16, Try.ntmps16
  go_wp2
  go_ret2
  exact ⟨_, by first | rfl | (simp [errW_none, errW_some] <;> rfl) | (simp [*, errW_none, errW_some] <;> rfl), by first | exact Kd.R_nil _ _ _ _ _ | exact Kd.N_nil _ _ _ _ _ | exact Kd.V_nil _ _ _ _ _ | exact Kd.Q_nil _ _ _ _ _ | exact Kd.S_nil _ _ _ _ _, by repeat (first | (with_reducible first | exact HB.out | apply below_alloc | apply pw_below_drewN | apply below_drew1) | exact HB.out)⟩
 ·rw [if_neg c3] at H
  have c3b0 : decide (a1 < 1) = false := decide_eq_false c3
  clear c3
  by_cases c4 : a1 > 200
  ·rw [if_pos c4] at H
   have c4b0 : decide (200 < a1) = true := decide_eq_true c4
   clear c4
   simp only [Option.some.injEq, Prod.mk.injEq] at H
   obtain ⟨rfl, rfl⟩ := H
   go_enter Try.func16, Try.ntmps16
   go_wp2
   go_ret2
   exact ⟨_, by first | rfl | (simp [errW_none, errW_some] <;> rfl) | (simp [*, errW_none, errW_some] <;> rfl), by first | exact Kd.R_nil _ _ _ _ _ | exact Kd.N_nil _ _ _ _ _ | exact Kd.V_nil _ _ _ _ _ | exact Kd.Q_nil _ _ _ _ _ | exact Kd.S_nil _ _ _ _ _, by repeat (first | (with_reducible first | exact HB.out | apply below_alloc | apply pw_below_drewN | apply below_drew1) | exact HB.out)⟩
  ·rw [if_neg c4] at H
   have c4b0 : decide (200 < a1) = false := decide_eq_false c4
   clear c4
   obtain ⟨y101, hy101⟩ : ∃ y_ : List Int, y_ = (([1] : List Int)) := ⟨_, rfl⟩
   replace H : ((slices_Repeat_int_int.f y101 a1).bind fun t104 => ((split_Shares.f k a0 t104).bind fun bt107 => (some (bt107.1, bt107.2)))) = some (r1, r2) := by first | (rw [hy101]; with_reducible exact H) | (have H2_ := (Option.bind_some _ _).symm.trans H; rw [hy101]; with_reducible exact H2_) | (have H2_ := (Option.bind_some _ _).symm.trans H; with_reducible exact H2_) | with_reducible exact H | (rw [hy101]; exact H) | exact H
   have Ny101 := Aside0.mk hy101
   clear hy101
   replace H := Option.bind_eq_some_iff.mp H
   obtain ⟨t104, A50, H⟩ := H
   replace H : ((split_Shares.f k a0 t104).bind fun bt107 => (some (bt107.1, bt107.2))) = some (r1, r2) := H
   have A5 := Aside0.mk A50
   clear A50
   replace H := Option.bind_eq_some_iff.mp H
   obtain ⟨⟨t107, t108⟩, A60, H⟩ := H
   replace H : (some (t107, t108)) = some (r1, r2) := H
   have A6 := Aside0.mk A60
   clear A60
   simp only [Option.some.injEq, Prod.mk.injEq] at H
   obtain ⟨rfl, rfl⟩ := H
   go_enter Try.func16, Try.ntmps16
   go_wp2_with (first | ((with_reducible refine gate_dst (N := 11) rfl ?_); refine Kd.R_lit (Kd.int .i64) _ 3 ?hg (N := 11) ?hd (xs := ([1] : List Int)) (inner := [.int .i64 1]) (ok := fun _ => True) (okp := fun _ => True) ?hr ?hp (fun _ hk => hk) trivial (Below.refl _ _) (Nat.le_refl _) (by simp) ?_; (case hd => rfl); (case hg => rfl); (case hr => first | (go_simp; done) | (go_simp; rfl)); (case hp => exact (Reps.one (show Kd.M (Kd.int .i64) _ _ _ 1 [.int .i64 1] from rfl) (Reps.none _ _))); intro v102 w7 ho8 hb hg_ hnew_; clear hg_ hnew_; (first | rw [← Ny101.out] at ho8 | (simp only [Int.reduceToNat] at ho8; rw [← Ny101.out] at ho8)); have n0_ := Aside0.mk (Kd.R_lower ho8 (below_size (by repeat (first | (with_reducible first | exact HB.out | apply below_alloc | apply pw_below_drewN | apply below_drew1) | exact HB.out)))); have n1_ := Aside0.mk (below_step (by repeat (first | (with_reducible first | exact HB.out | apply below_alloc | apply pw_below_drewN | apply below_drew1) | exact HB.out)) hb); clear HB; have HO103 := n0_; have HB := n1_; clear n0_ n1_; clear hb ho8; obtain ⟨Ao9, co9, eo9⟩ := Kd.R_slice HO103.out; subst eo9) | ((with_reducible refine gate_callee (f := 26) rfl ?_); refine goesL_ (some 13) rfl rfl Try.func26 (by kernel_rfl) rfl #[.slice Ao9 y101.length co9, .int .i64 a1] rfl (by (try simp only [List.map_toArray, List.map_cons, List.map_nil]); first | done | rfl | (simp only [List.length_drop, List.length_take]; rfl)) ?_; (with_reducible refine (slices_Repeat_int_int.calls _ _ y101 a1 t104 _ ?side1 ?side2 A5.out).mono ?_); (case side1 => repeat (first | exact (Kd.R_reads' HO103.out).2.2 | (with_reducible refine Kd.C_alloc ?_ _) | (with_reducible refine Kd.C_drewN ?_ _) | (with_reducible refine Kd.C_drew ?_))); (case side2 => exact (Kd.R_reads' HO103.out).2.1); rintro e w10 ⟨v105, rfl, ho0, hb⟩; refine ⟨_, rfl, ?_⟩; have n0_ := Aside0.mk (Kd.R_elder' (by (with_reducible repeat (first | apply Kd.R_alloc | apply Kd.R_drewN | apply Kd.R_drew)); exact HO103.out) (Kd.R_base ho0) hb); have n1_ := Aside0.mk (Kd.R_lower (Kd.R_new' ho0 (Kd.R_lt (by (with_reducible repeat (first | apply Kd.R_alloc | apply Kd.R_drewN | apply Kd.R_drew)); exact HO103.out))) (below_size (by repeat (first | (with_reducible first | exact HB.out | apply below_alloc | apply pw_below_drewN | apply below_drew1) | exact HB.out)))); have n2_ := Aside0.mk (below_step (by repeat (first | (with_reducible first | exact HB.out | apply below_alloc | apply pw_below_drewN | apply below_drew1) | exact HB.out)) hb); clear HO103; clear HB; have HO103 := n0_; have HO106 := n1_; have HB := n2_; clear n0_ n1_ n2_; (try clear hb); (try clear hb2); (try clear hk); (try clear hi); (try clear ho0); obtain ⟨Ao11, co11, eo11⟩ := Kd.R_slice HO106.out; subst eo11) | ((with_reducible refine gate_callee (f := 12) rfl ?_); refine goesL_ (some 14) rfl rfl Try.func12 (by kernel_rfl) rfl #[.int .i64 a0, .slice Ao11 t104.length co11] rfl (by (try simp only [List.map_toArray, List.map_cons, List.map_nil]); first | done | rfl | (simp only [List.length_drop, List.length_take]; rfl)) ?_; (with_reducible refine (split_Shares.calls k a0 _ _ t104 t107 t108 _ ?side1 ?side2 A6.out).mono ?_); (case side1 => repeat (first | exact (Kd.R_reads' HO106.out).2.2 | (with_reducible refine Kd.C_alloc ?_ _) | (with_reducible refine Kd.C_drewN ?_ _) | (with_reducible refine Kd.C_drew ?_))); (case side2 => exact (Kd.R_reads' HO106.out).2.1); rintro e w12 ⟨v109, rfl, ho0, hb⟩; refine ⟨_, rfl, ?_⟩; have n0_ := Aside0.mk (Kd.R_elder' (by (with_reducible repeat (first | apply Kd.R_alloc | apply Kd.R_drewN | apply Kd.R_drew)); exact HO103.out) (Kd.R_base ho0) hb); have n1_ := Aside0.mk (Kd.R_elder' (by (with_reducible repeat (first | apply Kd.R_alloc | apply Kd.R_drewN | apply Kd.R_drew)); exact HO106.out) (Kd.R_base ho0) hb); have n2_ := Aside0.mk (Kd.R_lower (Kd.R_new' (Kd.R_new' ho0 (Kd.R_lt (by (with_reducible repeat (first | apply Kd.R_alloc | apply Kd.R_drewN | apply Kd.R_drew)); exact HO103.out))) (Kd.R_lt (by (with_reducible repeat (first | apply Kd.R_alloc | apply Kd.R_drewN | apply Kd.R_drew)); exact HO106.out))) (below_size (by repeat (first | (with_reducible first | exact HB.out | apply below_alloc | apply pw_below_drewN | apply below_drew1) | exact HB.out)))); have n3_ := Aside0.mk (below_step (by repeat (first | (with_reducible first | exact HB.out | apply below_alloc | apply pw_below_drewN | apply below_drew1) | exact HB.out)) hb); clear HO103; clear HO106; clear HB; have HO103 := n0_; have HO106 := n1_; have HO110 := n2_; have HB := n3_; clear n0_ n1_ n2_ n3_; (try clear hb); (try clear hb2); (try clear hk); (try clear hi); (try clear ho0)))
   go_ret2
   exact ⟨_, by first | rfl | (simp [errW_none, errW_some] <;> rfl) | (simp [*, errW_none, errW_some] <;> rfl), by (with_reducible repeat (first | apply Kd.R_alloc | apply Kd.R_drewN | apply Kd.R_drew)); exact Kd.R_mono HO110.out (fun _ hk => trivial), by repeat (first | (with_reducible first | exact HB.out | apply below_alloc | apply pw_below_drewN | apply below_drew1) | exact HB.out)⟩

end Go.Proofs.Ytikglhfeookhaaa.M
end
