/- What the claims of this seat share, part 5 of 8: what the program's functions compute. -/
import Derived.Test.YtegpappenmhndaaDoorQBB2
import Derived.Test.YtegpappenmhndaaDoorQBB1
namespace Go.Proofs.YtegpappenmhndaaDoor.M
theorem pbb5_0 {p : Prop} (h : p := by repeat (first | (with_reducible first | exact HI2.out | apply IsS37.alloc | apply IsS37.drewN | apply IsS37.drew) | exact HI2.out)) : p := h
theorem pbb5_1 {p : Prop} (h : p := by repeat (first | (with_reducible first | exact HB.out | apply below_alloc | apply pw_below_drewN | apply below_drew1 | refine below_set ?_ (IsS37.ge HI2.out)) | exact HB.out)) : p := h
theorem pbb5_2 {p : Prop} (h : p := by repeat (first | (with_reducible first | exact HK.out | apply KeepBut.set_ | apply keep_drewN | apply keep_drew | apply keep_alloc) | exact HK.out)) : p := h
theorem pbb5_3 {p : Prop} (h : p := by (with_reducible repeat (first | apply Kd.R_alloc | apply Kd.R_drewN | apply Kd.R_drew)); exact HO0.out) : p := h
theorem pbb5_4 {p : Prop} (h : p := by repeat (first | (with_reducible first | exact HI3.out | apply IsS37.alloc | apply IsS37.drewN | apply IsS37.drew) | exact HI3.out)) : p := h
theorem pbb5_5 {p : Prop} (h : p := by repeat (first | (with_reducible first | exact HK.out | apply Kept.alloc | apply Kept.drewN | apply Kept.drew | refine Kept.setCell ?_ (.inl (.inr rfl)) _) | exact HK.out)) : p := h
theorem pbb5_6 {p : Prop} (h : p := by repeat (first | (with_reducible first | exact HB.out | apply below_alloc | apply pw_below_drewN | apply below_drew1 | refine below_set ?_ (IsS37.ge HI3.out)) | exact HB.out)) : p := h
theorem pbb5_7 {p : Prop} (h : p := by (with_reducible repeat (first | apply Kd.R_alloc | apply Kd.R_drewN | apply Kd.R_drew)); exact HO_0.out) : p := h
theorem pbb5_8 {p : Prop} (h : p := by first | (rw [add_block]; exact Kd.own_blk (IsS37.own_ne HI3.out HO_0.out (by decide))) | (show (Addr.add _ _).block ≠ _; rw [add_block]; exact Kd.own_blk (IsS37.own_ne HI3.out HO_0.out (by decide))) | exact Kd.own_blk (IsS37.own_ne HI3.out HO_0.out (by decide))) : p := h
theorem pbb5_9 {p : Prop} (h : p := by repeat (first | (with_reducible first | exact HI4.out | apply IsS37.alloc | apply IsS37.drewN | apply IsS37.drew) | exact HI4.out)) : p := h
theorem pbb5_10 {p : Prop} (h : p := by repeat (first | (with_reducible first | exact HB.out | apply below_alloc | apply pw_below_drewN | apply below_drew1 | refine below_set ?_ (IsS37.ge HI4.out)) | exact HB.out)) : p := h
end Go.Proofs.YtegpappenmhndaaDoor.M
section
namespace Go.Proofs.YtegpappenmhndaaDoor.M
open Go.RowKit Go.Proofs.YtegpappenmhndaaDoorW.PrintWords Go.Proofs.YtegpappenmhndaaDoorW.PrintLast Go.Proofs.YtegpappenmhndaaDoorW.PrintMore
attribute [local go_sem] max2_int min2_int max_two min_two max_three min_three max_four min_four
set_option linter.unusedVariables false
set_option linter.unusedSimpArgs false
/-- A state of type 37 at block g of W; what its slices lead to came in by w0. -/
def IsS37 (w0 W : World) (g : Nat) (f0 : List Int) : Prop := ∃ A0 c0, W.heap[g]? = some (.cells #[.slice A0 f0.length c0] 37 (0, 0)) ∧ w0.heap.size ≤ g ∧ Kd.C (Kd.int .i64) w0 A0 f0.length f0
theorem IsS37.grown {w0 W : World} {g : Nat} {f0 : List Int} {W1 : World} {row : Option Nat} (h : IsS37 w0 W g f0) (hw : W.grownBy W1 row) (hne : some g ≠ row) : IsS37 w0 W1 g f0 := by
 obtain ⟨A0, c0, hb, hg, hr0⟩ := h; exact ⟨A0, c0, blk_grown hb hw hne, hg, hr0⟩
theorem IsS37.own_neN {w0 W : World} {g : Nat} {f0 : List Int} {α : Type} {d : Kd α} {e : Nat} {base : Nat} {ok : Nat → Prop} {v : Value} {xs : List α} (h : IsS37 w0 W g f0) (ho : Kd.N d e W base ok v xs) (ht : e ≠ 37) : some g ≠ v.ownBlock := by
 obtain ⟨A0, c0, hb, hg, hr0⟩ := h; exact Kd.N_ne ho hb ht
theorem IsS37.fresh {w0 W : World} {g : Nat} {f0 : List Int} (h : IsS37 w0 W g f0) : ∀ k, W.heap.size ≤ k → k ≠ g := by
 obtain ⟨A0, c0, hb, hg, hr0⟩ := h; exact Kd.freshB hb
theorem IsS37.kept {w0 W : World} {g : Nat} {f0 : List Int} {W1 : World} {S : Nat → Prop} (h : IsS37 w0 W g f0) (hk : Kept W W1 S) (hne : ¬ S g) : IsS37 w0 W1 g f0 := by
 obtain ⟨A0, c0, hb, hg, hr0⟩ := h; exact ⟨A0, c0, blk_kept hb hk hne, hg, hr0⟩
theorem IsS37.below {w0 W : World} {g : Nat} {f0 : List Int} {W1 : World} (h : IsS37 w0 W g f0) (hw : Below W.heap.size W W1) : IsS37 w0 W1 g f0 := h.grown (grown_of_below hw none) (by simp)
theorem IsS37.alloc {w0 W : World} {g : Nat} {f0 : List Int} (h : IsS37 w0 W g f0) (o : Obj) : IsS37 w0 (W.alloc o) g f0 := h.below (below_alloc (Below.refl _ _) o)
theorem IsS37.drewN {w0 W : World} {g : Nat} {f0 : List Int} (h : IsS37 w0 W g f0) (m : Nat) : IsS37 w0 (W.drewN m) g f0 := h
theorem IsS37.drew {w0 W : World} {g : Nat} {f0 : List Int} (h : IsS37 w0 W g f0) : IsS37 w0 W.drew g f0 := h
theorem IsS37.at_ {w0 W : World} {g : Nat} {f0 : List Int} {w' : World} {m : Nat} (hq : W.drewN m = w') (h : IsS37 w0 W g f0) : IsS37 w0 w' g f0 := by subst hq; exact IsS37.drewN h m
theorem IsS37.apart {w0 W : World} {g : Nat} {f0 : List Int} {α : Type} {d : Kd α} {e : Nat} {base : Nat} {ok : Nat → Prop} {v : Value} {xs : List α} (h : IsS37 w0 W g f0) (ho : d.R e W base ok v xs) (ht : ∀ q, q ∈ e :: d.E → q ≠ 37) : d.R e W base (fun k => ok k ∧ k ≠ g) v xs := by
 obtain ⟨A0, c0, hb, hg, hr0⟩ := h; exact Kd.R_types ho hb ht
theorem IsS37.own_ne {w0 W : World} {g : Nat} {f0 : List Int} {α : Type} {d : Kd α} {e : Nat} {base : Nat} {ok : Nat → Prop} {v : Value} {xs : List α} (h : IsS37 w0 W g f0) (ho : d.R e W base ok v xs) (ht : e ≠ 37) : some g ≠ v.ownBlock := by
 obtain ⟨A0, c0, hb, hg, hr0⟩ := h; exact Kd.R_ne ho hb ht
theorem IsS37.apartQ {w0 W : World} {g : Nat} {f0 : List Int} {α : Type} {d : Kd α} {e : Nat} {base : Nat} {ok : Nat → Prop} {v : Value} {xs : List α} (h : IsS37 w0 W g f0) (ho : d.Q e W base ok v xs) (ht : ∀ q, q ∈ e :: d.E → q ≠ 37) : d.Q e W base (fun k => ok k ∧ k ≠ g) v xs := by
 obtain ⟨A0, c0, hb, hg, hr0⟩ := h; exact Kd.Q_types ho hb ht
theorem IsS37.own_neQ {w0 W : World} {g : Nat} {f0 : List Int} {α : Type} {d : Kd α} {e : Nat} {base : Nat} {ok : Nat → Prop} {v : Value} {xs : List α} (h : IsS37 w0 W g f0) (ho : d.Q e W base ok v xs) (ht : e ≠ 37) : some g ≠ v.ownBlock := by
 obtain ⟨A0, c0, hb, hg, hr0⟩ := h; exact Kd.Q_ne ho hb ht
theorem IsS37.apartS {w0 W : World} {g : Nat} {f0 : List Int} {α : Type} {d : Kd α} {e : Nat} {base : Nat} {ok : Nat → Prop} {v : Value} {xs : List α} (h : IsS37 w0 W g f0) (ho : d.S e W base ok v xs) (ht : ∀ q, q ∈ e :: d.E → q ≠ 37) : d.S e W base (fun k => ok k ∧ k ≠ g) v xs := by
 obtain ⟨A0, c0, hb, hg, hr0⟩ := h; exact Kd.S_types ho hb ht
theorem IsS37.own_neS {w0 W : World} {g : Nat} {f0 : List Int} {α : Type} {d : Kd α} {e : Nat} {base : Nat} {ok : Nat → Prop} {v : Value} {xs : List α} (h : IsS37 w0 W g f0) (ho : d.S e W base ok v xs) (ht : e ≠ 37) : some g ≠ v.ownBlock := by
 obtain ⟨A0, c0, hb, hg, hr0⟩ := h; exact Kd.S_ne ho hb ht
theorem IsS37.lt {w0 W : World} {g : Nat} {f0 : List Int} (h : IsS37 w0 W g f0) : g < W.heap.size := by
 obtain ⟨A0, c0, hb, hg, hr0⟩ := h; exact blk_lt hb
theorem IsS37.ge {w0 W : World} {g : Nat} {f0 : List Int} (h : IsS37 w0 W g f0) : w0.heap.size ≤ g := by
 obtain ⟨A0, c0, hb, hg, hr0⟩ := h; exact hg
theorem IsS37.ne_blk {w0 W : World} {g : Nat} {f0 : List Int} {a : Nat} {cs : Array Value} {t : TypeId} {fr : Nat × Nat} (h : IsS37 w0 W g f0) (hb2 : W.heap[a]? = some (.cells cs t fr)) (ht : t ≠ 37) : g ≠ a := by
 obtain ⟨A0, c0, hb, hg, hr0⟩ := h; rintro rfl; rw [hb] at hb2; injection hb2 with hb2
 injection hb2 with _ ht2
 exact ht ht2.symm
theorem IsS37.far {w0 W : World} {g : Nat} {f0 : List Int} {p : Addr} (h : IsS37 w0 W g f0) (hne : g ≠ p.block) (u : Value) : IsS37 w0 (W.setCell p u) g f0 := by
 obtain ⟨A0, c0, hb, hg, hr0⟩ := h; exact ⟨A0, c0, blk_far hb hne u, hg, hr0⟩
theorem cellS37_0 {W : World} {g : Nat} {A0 : Option Addr} {c0 : Nat} {f0 : List Int} (h : W.heap[g]? = some (.cells #[.slice A0 f0.length c0] 37 (0, 0))) : W.cell? ⟨g, 0, none⟩ = some (.slice A0 f0.length c0) := (blk_cell h 0).trans rfl
theorem IsS37.new (w0 W : World) (A0 : Option Addr) (c0 : Nat) (f0 : List Int) (hB : Below w0.heap.size w0 W) (hr0 : Kd.C (Kd.int .i64) w0 A0 f0.length f0) : IsS37 w0 (W.alloc (.cells #[.slice A0 f0.length c0] 37)) W.heap.size f0 := ⟨A0, c0, by simpa using heap_alloc_new W _, hB.size, hr0⟩
def F81.f (a0 : Int) (a1 : Int) (s2_0 : List Int) : Option (Int) := if 0 ≤ a0 then (if a0 < (s2_0.length : Int) then (if 0 ≤ a1 then (if a1 < (s2_0.length : Int) then (if (rd s2_0 a0) > (rd s2_0 a1) then (some (-1)) else (if (rd s2_0 a0) < (rd s2_0 a1) then (some 1) else (some 0))) else (none)) else (none)) else (none)) else (none)
set_option maxHeartbeats 8000000 in
set_option maxRecDepth 100000 in
theorem F81.calls (a0 : Int) (a1 : Int) (g : Nat) (s2_0 : List Int) (r : Int) (w0 w : World) (hI : IsS37 w0 w g s2_0) (hB : Below w0.heap.size w0 w) (h : F81.f a0 a1 s2_0 = some r) :
    Calls Tryd.prog 81 #[.int .i64 a0, .int .i64 a1, .pointer (some ⟨g, 0, none⟩)] w fun e w' => e = .returned (.int .i64 r) ∧ IsS37 w0 w' g s2_0 ∧ Below w0.heap.size w0 w' ∧ KeepBut w w' g none := by
 have hu37 := Tryd.underlying37; have hu3 := Tryd.underlying3; have HI2 := Aside0.mk hI; have HK := Aside0.mk (KeepBut.refl w g none); have HL := Aside0.mk hB.size; clear hI; have HW0 := Aside0.mk hB.size; have HB := Aside0.mk hB; clear hB
 unfold F81.f at h
 have H := h; clear h
 by_cases c4 : 0 ≤ a0
 ·rw [if_pos c4] at H; have c4b0 := decide_eq_true c4; clear c4
  by_cases c5 : a0 < (s2_0.length : Int)
  ·rw [if_pos c5] at H; have c5b0 := decide_eq_true c5; clear c5
   by_cases c6 : 0 ≤ a1
   ·rw [if_pos c6] at H; have c6b0 := decide_eq_true c6; clear c6
    by_cases c7 : a1 < (s2_0.length : Int)
    ·rw [if_pos c7] at H; have c7b0 := decide_eq_true c7; clear c7
     by_cases c8 : (rd s2_0 a0) > (rd s2_0 a1)
     ·rw [if_pos c8] at H; have c8b0 : decide ((rd s2_0 a1) < (rd s2_0 a0)) = true := decide_eq_true c8; clear c8; obtain rfl := Option.some.inj H; obtain ⟨ASz9_0, cSz9_0, HGz9, hgz9, HSz9_0⟩ := HI2.out; have hcz9_0 := cellS37_0 HGz9; clear HGz9 hgz9; have p101 : 0 ≤ (a0 : Int) := of_decide_eq_true pbb2_4; have q101 : a0 < (s2_0.length : Int) := of_decide_eq_true pbb2_4; obtain ⟨ad101, e101, hx101_0⟩ := Kd.at_int HSz9_0 a0 p101 q101
      cases e101
      replace hx101_0 := pw_cell_below HB.out hx101_0; replace p101 := eq_true p101; replace q101 := eq_true q101; have p102 : 0 ≤ (a1 : Int) := of_decide_eq_true pbb2_4; have q102 : a1 < (s2_0.length : Int) := of_decide_eq_true pbb2_4; obtain ⟨ad102, e102, hx102_0⟩ := Kd.at_int HSz9_0 a1 p102 q102; obtain rfl : ad101 = ad102 := (by injection e102); replace hx102_0 := pw_cell_below HB.out hx102_0; replace p102 := eq_true p102; replace q102 := eq_true q102; go_enter Tryd.func81, Tryd.ntmps81
      go_wp2
      repeat (go_quiet (fail); try go_wp2)
      go_ret
      exact ⟨pbb2_5, pbb5_0, pbb5_1, pbb5_2⟩
     ·rw [if_neg c8] at H; have c8b0 : decide ((rd s2_0 a1) < (rd s2_0 a0)) = false := decide_eq_false c8; clear c8
      by_cases c10 : (rd s2_0 a0) < (rd s2_0 a1)
      ·rw [if_pos c10] at H; have c10b0 := decide_eq_true c10; clear c10; obtain rfl := Option.some.inj H; obtain ⟨ASz11_0, cSz11_0, HGz11, hgz11, HSz11_0⟩ := HI2.out; have hcz11_0 := cellS37_0 HGz11; clear HGz11 hgz11; have p101 : 0 ≤ (a0 : Int) := of_decide_eq_true pbb2_4; have q101 : a0 < (s2_0.length : Int) := of_decide_eq_true pbb2_4; obtain ⟨ad101, e101, hx101_0⟩ := Kd.at_int HSz11_0 a0 p101 q101
       cases e101
       replace hx101_0 := pw_cell_below HB.out hx101_0; replace p101 := eq_true p101; replace q101 := eq_true q101; have p102 : 0 ≤ (a1 : Int) := of_decide_eq_true pbb2_4; have q102 : a1 < (s2_0.length : Int) := of_decide_eq_true pbb2_4; obtain ⟨ad102, e102, hx102_0⟩ := Kd.at_int HSz11_0 a1 p102 q102; obtain rfl : ad101 = ad102 := (by injection e102); replace hx102_0 := pw_cell_below HB.out hx102_0; replace p102 := eq_true p102; replace q102 := eq_true q102; have p103 : 0 ≤ (a0 : Int) := of_decide_eq_true pbb2_4; have q103 : a0 < (s2_0.length : Int) := of_decide_eq_true pbb2_4; obtain ⟨ad103, e103, hx103_0⟩ := Kd.at_int HSz11_0 a0 p103 q103; obtain rfl : ad101 = ad103 := (by injection e103); replace hx103_0 := pw_cell_below HB.out hx103_0; replace p103 := eq_true p103; replace q103 := eq_true q103; have p104 : 0 ≤ (a1 : Int) := of_decide_eq_true pbb2_4; have q104 : a1 < (s2_0.length : Int) := of_decide_eq_true pbb2_4; obtain ⟨ad104, e104, hx104_0⟩ := Kd.at_int HSz11_0 a1 p104 q104; obtain rfl : ad101 = ad104 := (by injection e104); replace hx104_0 := pw_cell_below HB.out hx104_0; replace p104 := eq_true p104; replace q104 := eq_true q104; go_enter Tryd.func81, Tryd.ntmps81
       go_wp2
       repeat (go_quiet (fail); try go_wp2)
       go_ret
       exact ⟨pbb2_5, pbb5_0, pbb5_1, pbb5_2⟩
      ·rw [if_neg c10] at H; have c10b0 := decide_eq_false c10; clear c10; obtain rfl := Option.some.inj H; obtain ⟨ASz12_0, cSz12_0, HGz12, hgz12, HSz12_0⟩ := HI2.out; have hcz12_0 := cellS37_0 HGz12; clear HGz12 hgz12; have p101 : 0 ≤ (a0 : Int) := of_decide_eq_true pbb2_4; have q101 : a0 < (s2_0.length : Int) := of_decide_eq_true pbb2_4; obtain ⟨ad101, e101, hx101_0⟩ := Kd.at_int HSz12_0 a0 p101 q101
       cases e101
       replace hx101_0 := pw_cell_below HB.out hx101_0; replace p101 := eq_true p101; replace q101 := eq_true q101; have p102 : 0 ≤ (a1 : Int) := of_decide_eq_true pbb2_4; have q102 : a1 < (s2_0.length : Int) := of_decide_eq_true pbb2_4; obtain ⟨ad102, e102, hx102_0⟩ := Kd.at_int HSz12_0 a1 p102 q102; obtain rfl : ad101 = ad102 := (by injection e102); replace hx102_0 := pw_cell_below HB.out hx102_0; replace p102 := eq_true p102; replace q102 := eq_true q102; have p103 : 0 ≤ (a0 : Int) := of_decide_eq_true pbb2_4; have q103 : a0 < (s2_0.length : Int) := of_decide_eq_true pbb2_4; obtain ⟨ad103, e103, hx103_0⟩ := Kd.at_int HSz12_0 a0 p103 q103; obtain rfl : ad101 = ad103 := (by injection e103); replace hx103_0 := pw_cell_below HB.out hx103_0; replace p103 := eq_true p103; replace q103 := eq_true q103; have p104 : 0 ≤ (a1 : Int) := of_decide_eq_true pbb2_4; have q104 : a1 < (s2_0.length : Int) := of_decide_eq_true pbb2_4; obtain ⟨ad104, e104, hx104_0⟩ := Kd.at_int HSz12_0 a1 p104 q104; obtain rfl : ad101 = ad104 := (by injection e104); replace hx104_0 := pw_cell_below HB.out hx104_0; replace p104 := eq_true p104; replace q104 := eq_true q104; go_enter Tryd.func81, Tryd.ntmps81
       go_wp2
       repeat (go_quiet (fail); try go_wp2)
       go_ret
       exact ⟨pbb2_5, pbb5_0, pbb5_1, pbb5_2⟩
    ·rw [if_neg c7] at H; exact absurd H (by simp)
   ·rw [if_neg c6] at H; exact absurd H (by simp)
  ·rw [if_neg c5] at H; exact absurd H (by simp)
 ·rw [if_neg c4] at H; exact absurd H (by simp)
mutual
def F83.l0 : Nat → List Int → Int → Int → Int → List Int → Option (List Int)
  | 0, _, _, _, _, _ => none
  | k + 1, x0, x1, x2, x8, x4000 => if x8 < x2 then (F83.l1 k x0 x1 x2 x8 x8 x4000) else (some x0)
def F83.l1 : Nat → List Int → Int → Int → Int → Int → List Int → Option (List Int)
  | 0, _, _, _, _, _, _ => none
  | k + 1, x0, x1, x2, x8, x9, x4000 => if x9 > x1 then (if 0 ≤ x9 then (if x9 < (x0.length : Int) then (if 0 ≤ (wrap64 (x9 - 1)) then (if (wrap64 (x9 - 1)) < (x0.length : Int) then ((F81.f (rd x0 x9) (rd x0 (wrap64 (x9 - 1))) x4000).bind fun t103 => (if t103 < 0 then (F83.l1 k ((x0.set (x9 : Int).toNat (rd x0 (wrap64 (x9 - 1)))).set ((wrap64 (x9 - 1)) : Int).toNat (rd x0 x9)) x1 x2 x8 (wrap64 (x9 - 1)) x4000) else (F83.l0 k x0 x1 x2 (wrap64 (x8 + 1)) x4000))) else (none)) else (none)) else (none)) else (none)) else (F83.l0 k x0 x1 x2 (wrap64 (x8 + 1)) x4000)
end
def F83.f (k : Nat) (l0 : List Int) (a1 : Int) (a2 : Int) (s3_0 : List Int) : Option (List Int) := F83.l0 k l0 a1 a2 (wrap64 (a1 + 1)) s3_0
def F83.T4 : Bool × List (List Nat × List Nat) := (true, [([], []), ([], []), ([0, 1], [0, 1]), ([2], [2]), ([3], [3]), ([3], [3]), ([3], [3]), ([5, 6, 3], [3, 5, 6]), ([7, 3], [3, 7]), ([3], [3]), ([3], [3]), ([10, 3], [3, 10]), ([9, 11, 3], [3, 9, 11]), ([12, 3], [3, 12]), ([4, 8, 13, 3, 3], [3, 4, 8, 13]), ([14, 3], [3, 14]), ([3, 15], [3, 15])])
def F83.B4 : List Nat := [0, 0, 3, 7, 15, 15, 15, 111, 239, 15, 15, 1039, 3599, 7695, 16383, 32767, 65535]
theorem F83.tab4 : rtab .any (opsOf Tryd.f83 4) = F83.T4 := by kernel_rfl
theorem F83.bits4 : waitsOk F83.T4.2 F83.B4 = true := by kernel_rfl
def F83.T6 : Bool × List (List Nat × List Nat) := (true, [([], []), ([], []), ([], []), ([], []), ([3], [3]), ([], []), ([], []), ([6], [6]), ([5, 7], [5, 7]), ([8], [8]), ([], []), ([], []), ([10, 11], [10, 11]), ([12], [12]), ([0, 1, 0, 1, 5, 6, 7, 8, 9, 13], [0, 1]), ([14, 9, 0, 1, 5, 6, 7, 8, 9, 13], [9, 14]), ([2, 4, 0, 1, 2, 3, 4, 5, 6, 7, 8, 9, 10, 11, 12, 13, 14, 15], [2, 4]), ([16, 13, 15, 0, 1, 2, 3, 4, 5, 6, 7, 8, 9, 10, 11, 12, 13, 14, 15], [13, 16])])
def F83.B6 : List Nat := [0, 0, 0, 0, 8, 0, 0, 64, 224, 480, 0, 0, 3072, 7168, 16355, 32739, 65535, 131071]
theorem F83.tab6 : rtab .any (opsOf Tryd.f83 6) = F83.T6 := by kernel_rfl
theorem F83.bits6 : waitsOk F83.T6.2 F83.B6 = true := by kernel_rfl
set_option maxHeartbeats 8000000 in
set_option maxRecDepth 100000 in
theorem F83.calls (k : Nat) (P0_ : Nat → Prop) (u9000_ : Value) (l0 : List Int) (a1 : Int) (a2 : Int) (g : Nat) (s3_0 : List Int) (r : List Int) (w0 w : World) (hI : IsS37 w0 w g s3_0) (hB : Below w0.heap.size w0 w) (ho0 : Kd.R (Kd.int .i64) 3 w w0.heap.size P0_ u9000_ l0) (h : F83.f k l0 a1 a2 s3_0 = some r) :
    Calls Tryd.prog 83 #[u9000_, .int .i64 a1, .int .i64 a2, .func (.func 81) #[] #[.pointer (some ⟨g, 0, none⟩)]] w fun e w' => e = .returned (.tuple #[]) ∧ IsS37 w0 w' g s3_0 ∧ Kd.R (Kd.int .i64) 3 w' w0.heap.size (fun k_ => (P0_ k_ ∨ w.heap.size ≤ k_)) u9000_ r ∧ Below w0.heap.size w0 w' ∧ Kept w w' (fun k_ => (P0_ k_) ∨ k_ = g) := by
 have hu3 := Tryd.underlying3; have HO0 := Aside0.mk (show Kd.R (Kd.int .i64) 3 w w0.heap.size (fun k_ => (P0_ k_ ∨ w.heap.size ≤ k_)) u9000_ l0 from Kd.R_mono ho0 (fun k_ hk => (.inl hk))); have HI3 := Aside0.mk hI; have HL := Aside0.mk hB.size; clear hI; have HK := Aside0.mk (Kept.refl w (fun k_ => (P0_ k_) ∨ k_ = g)); have HW0 := Aside0.mk hB.size; have HB := Aside0.mk hB; clear hB
 unfold F83.f at h
 have H := h; clear h; have H' := Aside0.mk H; clear H; go_enter Tryd.func83, Tryd.ntmps83
 go_wp2
 go_loopg [8] k (fun kq v8 w' => ∃ (x0_1 : List Int) (x8_1 : Int), v8 = .int .i64 x8_1 ∧ Aside0 (F83.l0 kq x0_1 a1 a2 x8_1 s3_0 = some r) ∧ Aside0 (kq ≤ k) ∧ Aside0 (Kd.R (Kd.int .i64) 3 w' w0.heap.size (fun k_ => (P0_ k_ ∨ w.heap.size ≤ k_)) u9000_ x0_1) ∧ Aside0 (IsS37 w0 w' g s3_0) ∧ Aside0 (Kept w w' (fun k_ => (P0_ k_) ∨ k_ = g)) ∧ Aside0 (Below w0.heap.size w0 w'))
 case atStart => exact ⟨(l0), (wrap64 (a1 + 1)), pbb2_0, H', ⟨Nat.le_refl _⟩, ⟨pbb5_3⟩, ⟨pbb5_4⟩, ⟨pbb5_5⟩, ⟨pbb5_6⟩⟩
 case round =>
  clear H'; obtain ⟨x0_1, x8_1, rfl, HA, HK1, HO_0, HI3, HK, HB⟩ := hrel
  cases gk with
  | zero => exact absurd HA.out (by simp [F83.l0])
  | succ k1 =>
   have H := HA.out; clear HA; simp only [F83.l0] at H
   by_cases c5 : x8_1 < a2
   ·rw [if_pos c5] at H; have c5b0 := decide_eq_true c5; clear c5; have H' := Aside0.mk H; clear H
    go_wp2
    go_loopg [9] k1 (fun kq v9 w' => ∃ (x0_2 : List Int) (x9_2 : Int), v9 = .int .i64 x9_2 ∧ Aside0 (F83.l1 kq x0_2 a1 a2 x8_1 x9_2 s3_0 = some r) ∧ Aside0 (kq ≤ k1) ∧ Aside0 (Kd.R (Kd.int .i64) 3 w' w0.heap.size (fun k_ => (P0_ k_ ∨ w.heap.size ≤ k_)) u9000_ x0_2) ∧ Aside0 (IsS37 w0 w' g s3_0) ∧ Aside0 (Kept w w' (fun k_ => (P0_ k_) ∨ k_ = g)) ∧ Aside0 (Below w0.heap.size w0 w'))
    case atStart => exact ⟨(x0_1), (x8_1), pbb2_0, H', ⟨Nat.le_refl _⟩, ⟨pbb5_7⟩, ⟨pbb5_4⟩, ⟨pbb5_5⟩, ⟨pbb5_6⟩⟩
    case round =>
     clear H'; obtain ⟨x0_2, x9_2, rfl, HA, HK2, HO_0, HI3, HK, HB⟩ := hrel
     cases gk with
     | zero => exact absurd HA.out (by simp [F83.l1])
     | succ k2 =>
      have H := HA.out; clear HA; simp only [F83.l1] at H
      by_cases c6 : x9_2 > a1
      ·rw [if_pos c6] at H; have c6b0 : decide (a1 < x9_2) = true := decide_eq_true c6; clear c6
       by_cases c7 : 0 ≤ x9_2
       ·rw [if_pos c7] at H; have c7b0 := decide_eq_true c7; clear c7
        by_cases c8 : x9_2 < (x0_2.length : Int)
        ·rw [if_pos c8] at H; have c8b0 := decide_eq_true c8; clear c8; obtain ⟨ji9, hji9⟩ : ∃ j_ : Int, (wrap64 (x9_2 - 1)) = j_ := ⟨_, rfl⟩; (first | rw [hji9] at H | simp only [hji9] at H); have hji9w : (IntKind.i64.wrap (x9_2 - 1)) = ji9 := (i64_w _).trans hji9
         by_cases c10 : 0 ≤ (ji9)
         ·rw [if_pos c10] at H; have c10b0 := decide_eq_true c10; clear c10
          by_cases c11 : (ji9) < (x0_2.length : Int)
          ·rw [if_pos c11] at H; have c11b0 := decide_eq_true c11; clear c11; obtain ⟨t103, A120, H⟩ := bnd H; have A12 := Aside0.mk A120; clear A120
           by_cases c13 : t103 < 0
           ·rw [if_pos c13] at H; have c13b0 := decide_eq_true c13; clear c13; obtain ⟨y106, hy106⟩ : ∃ y_ : List Int, y_ = (x0_2.set (x9_2 : Int).toNat (rd x0_2 (ji9))) := ⟨_, rfl⟩; replace H : (F83.l1 k2 (y106.set ((ji9) : Int).toNat (rd x0_2 x9_2)) a1 a2 x8_1 ji9 s3_0) = some r := by first | (rw [hy106]; with_reducible exact H) | (have H2_ := (Option.bind_some _ _).symm.trans H; rw [hy106]; with_reducible exact H2_) | (have H2_ := (Option.bind_some _ _).symm.trans H; with_reducible exact H2_) | with_reducible exact H | (rw [hy106]; exact H) | exact H
            have Ny106 := Aside0.mk hy106; clear hy106; obtain ⟨y107, hy107⟩ : ∃ y_ : List Int, y_ = (y106.set ((ji9) : Int).toNat (rd x0_2 x9_2)) := ⟨_, rfl⟩; replace H : (F83.l1 k2 y107 a1 a2 x8_1 ji9 s3_0) = some r := by first | (rw [hy107]; with_reducible exact H) | (have H2_ := (Option.bind_some _ _).symm.trans H; rw [hy107]; with_reducible exact H2_) | (have H2_ := (Option.bind_some _ _).symm.trans H; with_reducible exact H2_) | with_reducible exact H | (rw [hy107]; exact H) | exact H
            have Ny107 := Aside0.mk hy107; clear hy107; have H' := Aside0.mk H; clear H; (try go_wp2); replace HO_0 := Aside0.mk (Kd.R_drew HO_0.out); replace HI3 := Aside0.mk (IsS37.drew HI3.out); replace HK := Aside0.mk (Kept.drew HK.out); replace HB := Aside0.mk (below_drew1 HB.out); obtain ⟨Ao17, co17, eo17⟩ := Kd.R_slice HO_0.out; (first | subst eo17 | (injection eo17 with f1_ f2_ f3_; have f4_ := f1_.symm; have f5_ := f3_.symm; clear f1_ f2_ f3_; subst f4_; subst f5_)); have p101 : 0 ≤ (x9_2 : Int) := of_decide_eq_true pbb2_4; have q101 : x9_2 < (x0_2.length : Int) := of_decide_eq_true pbb2_4; obtain ⟨ad101, e101, hx101_0⟩ := Kd.at_int (Kd.R_reads' HO_0.out).2.2 x9_2 p101 q101
            cases e101
            replace p101 := eq_true p101; replace q101 := eq_true q101; have p102 : 0 ≤ ((ji9) : Int) := of_decide_eq_true pbb2_4; have q102 : (ji9) < (x0_2.length : Int) := of_decide_eq_true pbb2_4; obtain ⟨ad102, e102, hx102_0⟩ := Kd.at_int (Kd.R_reads' HO_0.out).2.2 (ji9) p102 q102; obtain rfl : ad101 = ad102 := (by injection e102); replace p102 := eq_true p102; replace q102 := eq_true q102; refine start_ (n := 17) (S := fun w' => w'.cell? (ad101.add (x9_2).toNat) = some (.int .i64 (rd x0_2 x9_2)) ∧ w'.cell? (ad101.add ((ji9)).toNat) = some (.int .i64 (rd x0_2 (ji9)))) (ds := []) (bq 17 0) (by kernel_rfl) rfl rfl ⟨hx101_0, hx102_0⟩ (fun hHeld => ?_); refine with_tabW F83.tab4 F83.bits4 (fun HT_ HW_ => ?_); generalize wr.drew = w16 at HO_0 HI3 HK HB hx101_0 hx102_0 hHeld ⊢; refine pv_ 0 18 (bq 17 1) HT_ ?_; refine pv_ 1 19 (bq 17 3) HT_ ?_; refine pv_ 2 20 (bq 17 7) HT_ ?_; refine pv_ 3 21 (bq 17 15) HT_ ?_; refine pv_ 4 22 (bq 17 31) HT_ ?_; refine pv_ 5 23 (bq 17 63) HT_ ?_; refine pv_ 6 24 (bq 17 127) HT_ ?_; refine pv_ 7 25 (bq 17 255) HT_ ?_; refine pv_ 9 27 (bq 17 767) HT_ ?_; refine pv_ 10 28 (bq 17 1791) HT_ ?_; refine pv_ 11 29 (bq 17 3839) HT_ ?_; refine pv_ 12 30 (bq 17 7935) HT_ ?_; refine take_ (i := 8) (N := some 26) (v := ?_) (a' := ?_) (bq 17 8191) rfl rfl (take_ofW HT_.out HW_.out (by kernel_rfl)) (fun _ _ _ h => h) (Or.inl ⟨by rfl, ?_⟩) hHeld ?_ ?_; rotate_left
            ·rintro w' ⟨s0, s1⟩; go_simp; (with_reducible rfl)
            rotate_left
            ·exact cbb2_0
            refine take_ (i := 13) (N := some 31) (v := ?_) (a' := ?_) (bq 17 16383) rfl rfl (take_ofW HT_.out HW_.out (by kernel_rfl)) (fun _ _ _ h => h) (Or.inl ⟨by rfl, ?_⟩) hHeld ?_ ?_; rotate_left
            ·rintro w' ⟨s0, s1⟩; go_simp; (with_reducible rfl)
            rotate_left
            ·exact cbb2_0
            refine one_ (i := 14) (N := some 32) (bq 17 32767) rfl rfl (one_of HT_.out (by kernel_rfl)) (by decide) (fun K hK => ?_); refine goesF_ Tryd.func81 (by kernel_rfl) rfl #[.int .i64 (rd x0_2 x9_2), .int .i64 (rd x0_2 (ji9)), .pointer (some ⟨g, 0, none⟩)] (by rfl) rfl rfl (by rfl) (by (try simp only [List.map_toArray, List.map_cons, List.map_nil]); first | done | (simp only [hji9]; rfl) | rfl | (simp only [List.length_drop, List.length_take]; rfl)) ?_; (with_reducible refine (F81.calls (rd x0_2 x9_2) (rd x0_2 (ji9)) g s3_0 t103 w0 _ ?side1 ?side2 A12.out).mono ?_); (case side1 => repeat (first | (with_reducible first | exact HI3.out | apply IsS37.alloc | apply IsS37.drewN | apply IsS37.drew) | exact HI3.out)); (case side2 => repeat (first | (with_reducible first | exact HB.out | apply below_alloc | apply pw_below_drewN | apply below_drew1 | refine below_set ?_ (IsS37.ge HI3.out)) | exact HB.out)); rintro e w18 ⟨rfl, hi, hb, hk⟩; have HS0_ := keep_cell hk (hHeld.1) pbb5_8; have HS1_ := keep_cell hk (hHeld.2) pbb5_8; refine ⟨_, rfl, ?_⟩; replace HO_0 := Aside0.mk (Kd.R_mono (Kd.R_keep (IsS37.apart (show IsS37 w0 _ g s3_0 from by repeat (first | (with_reducible first | exact HI3.out | apply IsS37.alloc | apply IsS37.drewN | apply IsS37.drew) | exact HI3.out)) pbb5_7 (by decide)) hk (fun _ h => h.2)) (fun _ h => h.1)); replace HK := Aside0.mk (Kept.of_keep (S := (fun k_ => (P0_ k_) ∨ k_ = g)) pbb5_5 hk (.inl (.inr rfl))); replace HB := Aside0.mk (hb); replace HI3 := Aside0.mk (hi); (try clear hb); (try clear hb2); (try clear hk); (try clear hi); refine hK.out _ _ ⟨HS0_, HS1_⟩ (fun hHeld => ?_); clear hK K; refine norm_ (a' := ?_) ?_ ?_; rotate_left
            ·show Act.put _ (some 32) _ = _; simp only [Act.put, List.setIfInBounds_toArray, List.set_cons_zero, List.set_cons_succ, i64_w, i32_w]
             rfl
            refine pv_ 15 33 (bq 17 65535) HT_ ?_; refine pv_ 16 34 (bq 17 131071) HT_ ?_; refine done_ (done_of HT_.out (by kernel_rfl)) ?_; (try go_wp2); replace HO_0 := Aside0.mk (Kd.R_drew HO_0.out); replace HI3 := Aside0.mk (IsS37.drew HI3.out); replace HK := Aside0.mk (Kept.drew HK.out); replace HB := Aside0.mk (below_drew1 HB.out); have p104 : 0 ≤ ((ji9) : Int) := of_decide_eq_true pbb2_4; have q104 : (ji9) < (x0_2.length : Int) := of_decide_eq_true pbb2_4; obtain ⟨ad104, e104, hx104_0⟩ := Kd.at_int (Kd.R_reads' HO_0.out).2.2 (ji9) p104 q104; obtain rfl : ad101 = ad104 := (by injection e104); replace p104 := eq_true p104; replace q104 := eq_true q104; have p105 : 0 ≤ (x9_2 : Int) := of_decide_eq_true pbb2_4; have q105 : x9_2 < (x0_2.length : Int) := of_decide_eq_true pbb2_4; obtain ⟨ad105, e105, hx105_0⟩ := Kd.at_int (Kd.R_reads' HO_0.out).2.2 x9_2 p105 q105; obtain rfl : ad101 = ad105 := (by injection e105); replace p105 := eq_true p105; replace q105 := eq_true q105; have p14 : 0 ≤ (x9_2 : Int) := of_decide_eq_true pbb2_4; have q14 : (x9_2 : Int) < ((x0_2.length : Int) : Int) := of_decide_eq_true pbb2_4; obtain ⟨go14, co14, eo14, gb14, gl14, cl14, HG14⟩ := Kd.R_form HO_0.out (by omega); (first | cases eo14 | (injection eo14 with ea_ en_ ec_; (first | subst ea_ | (injection ea_ with ea_; subst ea_)); subst ec_; clear en_)); have GB14 := Aside0.mk gb14; have GG14 := Aside0.mk HG14; clear gb14 gl14 HG14; have HMgo14 := Aside0.mk (show (P0_ go14 ∨ w.heap.size ≤ go14) from (HO_0.out.1 _ rfl)); (first | simp only [add_plain] at hx101_0 | skip); (first | simp only [add_plain] at hx102_0 | skip); (first | simp only [add_plain] at hx104_0 | skip); (first | simp only [add_plain] at hx105_0 | skip); obtain ⟨hx14_0, hf14_0⟩ := Kd.R_celln 0 HO_0.out (x9_2 : Int) p14 q14; replace p14 := eq_true p14; replace q14 := eq_true q14; have HN3_go14 := Aside0.mk (show g ≠ go14 from by have h_ := IsS37.own_ne HI3.out HO_0.out (by decide); intro e_; exact h_ (by rw [e_]; rfl)); have HP20 := Kd.R_putn HO_0.out (x9_2 : Int) (rd x0_2 (ji9)); rw [← Ny106.out] at HP20; have HQ20 := Aside0.mk HP20; clear HP20; have p15 : 0 ≤ ((ji9) : Int) := of_decide_eq_true pbb2_4; have q15 : ((ji9) : Int) < ((x0_2.length : Int) : Int) := of_decide_eq_true pbb2_4; obtain ⟨hx15_0, hf15_0⟩ := Kd.R_celln 0 HQ20.out ((ji9) : Int) p15 q15; replace p15 := eq_true p15; replace q15 := eq_true q15; have HN3_go14 := Aside0.mk (show g ≠ go14 from by have h_ := IsS37.own_ne HI3.out HO_0.out (by decide); intro e_; exact h_ (by rw [e_]; rfl)); have HP21 := Kd.R_putn HQ20.out ((ji9) : Int) (rd x0_2 x9_2); rw [← Ny107.out] at HP21; have HQ21 := Aside0.mk HP21; clear HP21; refine start_ (n := 18) (S := fun w' => w'.cell? ⟨go14, ((ji9)).toNat, none⟩ = some (.int .i64 (rd x0_2 (ji9))) ∧ w'.cell? ⟨go14, (x9_2).toNat, none⟩ = some (.int .i64 (rd x0_2 x9_2))) (ds := [15, 17]) (bq 18 0) (by kernel_rfl) rfl rfl ⟨hx104_0, hx105_0⟩ (fun hHeld => ?_); refine with_tabW F83.tab6 F83.bits6 (fun HT_ HW_ => ?_); generalize w18.drew = w19 at HO_0 HI3 HK HB GG14 HQ20 HQ21 hf14_0 hf15_0 hx101_0 hx102_0 hx104_0 hx105_0 hx14_0 hx15_0 hHeld ⊢; refine pv_ 0 37 (bq 18 1) HT_ ?_; refine pv_ 1 38 (bq 18 3) HT_ ?_; refine pv_ 2 39 (bq 18 7) HT_ ?_; refine pv_ 3 40 (bq 18 15) HT_ ?_; refine pv_ 4 41 (bq 18 31) HT_ ?_; refine pv_ 5 42 (bq 18 63) HT_ ?_; refine pv_ 6 43 (bq 18 127) HT_ ?_; refine pv_ 7 44 (bq 18 255) HT_ ?_; refine pv_ 8 45 (bq 18 511) HT_ ?_; refine pv_ 10 47 (bq 18 1535) HT_ ?_; refine pv_ 11 48 (bq 18 3583) HT_ ?_; refine pv_ 12 49 (bq 18 7679) HT_ ?_; refine take_ (i := 9) (N := some 46) (v := ?_) (a' := ?_) (bq 18 8191) rfl rfl (take_ofW HT_.out HW_.out (by kernel_rfl)) (fun _ _ _ h => h) (Or.inl ⟨by rfl, ?_⟩) hHeld ?_ ?_; rotate_left
            ·rintro w' ⟨s0, s1⟩; go_simp; (with_reducible rfl)
            rotate_left
            ·exact cbb2_0
            refine take_ (i := 13) (N := some 50) (v := ?_) (a' := ?_) (bq 18 16383) rfl rfl (take_ofW HT_.out HW_.out (by kernel_rfl)) (fun _ _ _ h => h) (Or.inl ⟨by rfl, ?_⟩) hHeld ?_ ?_; rotate_left
            ·rintro w' ⟨s0, s1⟩; go_simp; (with_reducible rfl)
            rotate_left
            ·exact cbb2_0
            refine pv_ 14 51 (bq 18 32767) HT_ ?_; refine last_ (i := 15) (N := none) (bq 18 65535) rfl rfl (one_of HT_.out (by kernel_rfl)) (by decide) (fun K hK => ?_); refine skip_ (w1 := ?_) (by rfl) rfl ?_ ?_; rotate_left
            ·go_simp
             rfl
            refine hK.out _ _ ?_; clear hK K; refine pv_ 16 52 (bq 18 131071) HT_ ?_; refine last_ (i := 17) (N := none) (bq 18 262143) rfl rfl (one_of HT_.out (by kernel_rfl)) (by decide) (fun K hK => ?_); refine skip_ (w1 := ?_) (by rfl) rfl ?_ ?_; rotate_left
            ·go_simp
             rfl
            refine hK.out _ _ ?_; clear hK K; refine done_ (done_of HT_.out (by kernel_rfl)) ?_; (try go_wp2)
            go_roundg k2
            case measure => have := HK1.out; have := HK2.out; omega
            case rel => exact ⟨(y107), (ji9), (by first | rfl | (simp; done) | (simp only [← hji9] <;> (first | rfl | simp)) | (simp [*]; done)), H', ⟨by have := HK1.out; have := HK2.out; omega⟩, ⟨by (with_reducible repeat (first | apply Kd.R_alloc | apply Kd.R_drewN | apply Kd.R_drew)); exact HQ21.out⟩, ⟨by repeat (first | (with_reducible first | exact HI3.out | apply IsS37.alloc | apply IsS37.drewN | apply IsS37.drew | refine IsS37.far ?_ HN3_go14.out _ | refine IsS37.far ?_ HN3_go14.out _) | exact HI3.out)⟩, ⟨by repeat (first | (with_reducible first | exact HK.out | apply Kept.alloc | apply Kept.drewN | apply Kept.drew | refine Kept.setCell ?_ (Or.imp_left Or.inl HMgo14.out) _ | refine Kept.setCell ?_ (Or.imp_left Or.inl HMgo14.out) _ | refine Kept.setCell ?_ (.inl (.inr rfl)) _) | exact HK.out)⟩, ⟨by repeat (first | (with_reducible first | exact HB.out | apply below_alloc | apply pw_below_drewN | apply below_drew1 | refine below_set ?_ GB14.out | refine below_set ?_ GB14.out | refine below_set ?_ (IsS37.ge HI3.out)) | exact HB.out)⟩⟩
           ·rw [if_neg c13] at H; have c13b0 := decide_eq_false c13; clear c13; have H' := Aside0.mk H; clear H; (try go_wp2); replace HO_0 := Aside0.mk (Kd.R_drew HO_0.out); replace HI3 := Aside0.mk (IsS37.drew HI3.out); replace HK := Aside0.mk (Kept.drew HK.out); replace HB := Aside0.mk (below_drew1 HB.out); obtain ⟨Ao23, co23, eo23⟩ := Kd.R_slice HO_0.out; (first | subst eo23 | (injection eo23 with f1_ f2_ f3_; have f4_ := f1_.symm; have f5_ := f3_.symm; clear f1_ f2_ f3_; subst f4_; subst f5_)); have p101 : 0 ≤ (x9_2 : Int) := of_decide_eq_true pbb2_4; have q101 : x9_2 < (x0_2.length : Int) := of_decide_eq_true pbb2_4; obtain ⟨ad101, e101, hx101_0⟩ := Kd.at_int (Kd.R_reads' HO_0.out).2.2 x9_2 p101 q101
            cases e101
            replace p101 := eq_true p101; replace q101 := eq_true q101; have p102 : 0 ≤ ((ji9) : Int) := of_decide_eq_true pbb2_4; have q102 : (ji9) < (x0_2.length : Int) := of_decide_eq_true pbb2_4; obtain ⟨ad102, e102, hx102_0⟩ := Kd.at_int (Kd.R_reads' HO_0.out).2.2 (ji9) p102 q102; obtain rfl : ad101 = ad102 := (by injection e102); replace p102 := eq_true p102; replace q102 := eq_true q102; refine start_ (n := 17) (S := fun w' => w'.cell? (ad101.add (x9_2).toNat) = some (.int .i64 (rd x0_2 x9_2)) ∧ w'.cell? (ad101.add ((ji9)).toNat) = some (.int .i64 (rd x0_2 (ji9)))) (ds := []) (bq 17 0) (by kernel_rfl) rfl rfl ⟨hx101_0, hx102_0⟩ (fun hHeld => ?_); refine with_tabW F83.tab4 F83.bits4 (fun HT_ HW_ => ?_); generalize wr.drew = w22 at HO_0 HI3 HK HB hx101_0 hx102_0 hHeld ⊢; refine pv_ 0 18 (bq 17 1) HT_ ?_; refine pv_ 1 19 (bq 17 3) HT_ ?_; refine pv_ 2 20 (bq 17 7) HT_ ?_; refine pv_ 3 21 (bq 17 15) HT_ ?_; refine pv_ 4 22 (bq 17 31) HT_ ?_; refine pv_ 5 23 (bq 17 63) HT_ ?_; refine pv_ 6 24 (bq 17 127) HT_ ?_; refine pv_ 7 25 (bq 17 255) HT_ ?_; refine pv_ 9 27 (bq 17 767) HT_ ?_; refine pv_ 10 28 (bq 17 1791) HT_ ?_; refine pv_ 11 29 (bq 17 3839) HT_ ?_; refine pv_ 12 30 (bq 17 7935) HT_ ?_; refine take_ (i := 8) (N := some 26) (v := ?_) (a' := ?_) (bq 17 8191) rfl rfl (take_ofW HT_.out HW_.out (by kernel_rfl)) (fun _ _ _ h => h) (Or.inl ⟨by rfl, ?_⟩) hHeld ?_ ?_; rotate_left
            ·rintro w' ⟨s0, s1⟩; go_simp; (with_reducible rfl)
            rotate_left
            ·exact cbb2_0
            refine take_ (i := 13) (N := some 31) (v := ?_) (a' := ?_) (bq 17 16383) rfl rfl (take_ofW HT_.out HW_.out (by kernel_rfl)) (fun _ _ _ h => h) (Or.inl ⟨by rfl, ?_⟩) hHeld ?_ ?_; rotate_left
            ·rintro w' ⟨s0, s1⟩; go_simp; (with_reducible rfl)
            rotate_left
            ·exact cbb2_0
            refine one_ (i := 14) (N := some 32) (bq 17 32767) rfl rfl (one_of HT_.out (by kernel_rfl)) (by decide) (fun K hK => ?_); refine goesF_ Tryd.func81 (by kernel_rfl) rfl #[.int .i64 (rd x0_2 x9_2), .int .i64 (rd x0_2 (ji9)), .pointer (some ⟨g, 0, none⟩)] (by rfl) rfl rfl (by rfl) (by (try simp only [List.map_toArray, List.map_cons, List.map_nil]); first | done | (simp only [hji9]; rfl) | rfl | (simp only [List.length_drop, List.length_take]; rfl)) ?_; (with_reducible refine (F81.calls (rd x0_2 x9_2) (rd x0_2 (ji9)) g s3_0 t103 w0 _ ?side1 ?side2 A12.out).mono ?_); (case side1 => repeat (first | (with_reducible first | exact HI3.out | apply IsS37.alloc | apply IsS37.drewN | apply IsS37.drew) | exact HI3.out)); (case side2 => repeat (first | (with_reducible first | exact HB.out | apply below_alloc | apply pw_below_drewN | apply below_drew1 | refine below_set ?_ (IsS37.ge HI3.out)) | exact HB.out)); rintro e w24 ⟨rfl, hi, hb, hk⟩; have HS0_ := keep_cell hk (hHeld.1) pbb5_8; have HS1_ := keep_cell hk (hHeld.2) pbb5_8; refine ⟨_, rfl, ?_⟩; replace HO_0 := Aside0.mk (Kd.R_mono (Kd.R_keep (IsS37.apart (show IsS37 w0 _ g s3_0 from by repeat (first | (with_reducible first | exact HI3.out | apply IsS37.alloc | apply IsS37.drewN | apply IsS37.drew) | exact HI3.out)) pbb5_7 (by decide)) hk (fun _ h => h.2)) (fun _ h => h.1)); replace HK := Aside0.mk (Kept.of_keep (S := (fun k_ => (P0_ k_) ∨ k_ = g)) pbb5_5 hk (.inl (.inr rfl))); replace HB := Aside0.mk (hb); replace HI3 := Aside0.mk (hi); (try clear hb); (try clear hb2); (try clear hk); (try clear hi); refine hK.out _ _ ⟨HS0_, HS1_⟩ (fun hHeld => ?_); clear hK K; refine norm_ (a' := ?_) ?_ ?_; rotate_left
            ·show Act.put _ (some 32) _ = _; simp only [Act.put, List.setIfInBounds_toArray, List.set_cons_zero, List.set_cons_succ, i64_w, i32_w]
             rfl
            refine pv_ 15 33 (bq 17 65535) HT_ ?_; refine pv_ 16 34 (bq 17 131071) HT_ ?_; refine done_ (done_of HT_.out (by kernel_rfl)) ?_; (try go_wp2)
            go_roundg k2
            case measure => have := HK1.out; have := HK2.out; omega
            case rel => exact ⟨(x0_2), (wrap64 (x8_1 + 1)), pbb2_0, H', ⟨by have := HK1.out; have := HK2.out; omega⟩, ⟨pbb5_7⟩, ⟨pbb5_4⟩, ⟨pbb5_5⟩, ⟨pbb5_6⟩⟩
          ·rw [if_neg c11] at H; exact absurd H (by simp)
         ·rw [if_neg c10] at H; exact absurd H (by simp)
        ·rw [if_neg c8] at H; exact absurd H (by simp)
       ·rw [if_neg c7] at H; exact absurd H (by simp)
      ·rw [if_neg c6] at H; have c6b0 : decide (a1 < x9_2) = false := decide_eq_false c6; clear c6; have H' := Aside0.mk H; clear H; (try go_wp2); replace HO_0 := Aside0.mk (Kd.R_drew HO_0.out); replace HI3 := Aside0.mk (IsS37.drew HI3.out); replace HK := Aside0.mk (Kept.drew HK.out); replace HB := Aside0.mk (below_drew1 HB.out); refine start_ (n := 17) (S := fun w' => True) (ds := []) (bq 17 0) (by kernel_rfl) rfl rfl trivial (fun hHeld => ?_); refine with_tabW F83.tab4 F83.bits4 (fun HT_ HW_ => ?_); generalize wr.drew = w25 at HO_0 HI3 HK HB hHeld ⊢; refine pv_ 0 18 (bq 17 1) HT_ ?_; refine pv_ 1 19 (bq 17 3) HT_ ?_; refine pv_ 2 20 (bq 17 7) HT_ ?_; refine pv_ 3 21 (bq 17 15) HT_ ?_; refine pure_ (i := 4) (N := some 22) (v := undef) (a' := ?_) (bq 17 31) rfl rfl (any_of HT_.out (by kernel_rfl)) (fun _ _ _ h => h) (Or.inr ⟨by rfl, rfl⟩) ?_ ?_; rotate_left
       ·exact cbb2_0
       refine pure_ (i := 5) (N := some 23) (v := undef) (a' := ?_) (bq 17 63) rfl rfl (any_of HT_.out (by kernel_rfl)) (fun _ _ _ h => h) (Or.inr ⟨by rfl, rfl⟩) ?_ ?_; rotate_left
       ·exact cbb2_0
       refine pure_ (i := 6) (N := some 24) (v := undef) (a' := ?_) (bq 17 127) rfl rfl (any_of HT_.out (by kernel_rfl)) (fun _ _ _ h => h) (Or.inr ⟨by rfl, rfl⟩) ?_ ?_; rotate_left
       ·exact cbb2_0
       refine pure_ (i := 7) (N := some 25) (v := undef) (a' := ?_) (bq 17 255) rfl rfl (any_of HT_.out (by kernel_rfl)) (fun _ _ _ h => h) (Or.inr ⟨by rfl, rfl⟩) ?_ ?_; rotate_left
       ·exact cbb2_0
       refine pure_ (i := 8) (N := some 26) (v := undef) (a' := ?_) (bq 17 511) rfl rfl (any_of HT_.out (by kernel_rfl)) (fun _ _ _ h => h) (Or.inr ⟨by rfl, rfl⟩) ?_ ?_; rotate_left
       ·exact cbb2_0
       refine pure_ (i := 9) (N := some 27) (v := undef) (a' := ?_) (bq 17 1023) rfl rfl (any_of HT_.out (by kernel_rfl)) (fun _ _ _ h => h) (Or.inr ⟨by rfl, rfl⟩) ?_ ?_; rotate_left
       ·exact cbb2_0
       refine pure_ (i := 10) (N := some 28) (v := undef) (a' := ?_) (bq 17 2047) rfl rfl (any_of HT_.out (by kernel_rfl)) (fun _ _ _ h => h) (Or.inr ⟨by rfl, rfl⟩) ?_ ?_; rotate_left
       ·exact cbb2_0
       refine pure_ (i := 11) (N := some 29) (v := undef) (a' := ?_) (bq 17 4095) rfl rfl (any_of HT_.out (by kernel_rfl)) (fun _ _ _ h => h) (Or.inr ⟨by rfl, rfl⟩) ?_ ?_; rotate_left
       ·exact cbb2_0
       refine pure_ (i := 12) (N := some 30) (v := undef) (a' := ?_) (bq 17 8191) rfl rfl (any_of HT_.out (by kernel_rfl)) (fun _ _ _ h => h) (Or.inr ⟨by rfl, rfl⟩) ?_ ?_; rotate_left
       ·exact cbb2_0
       refine pure_ (i := 13) (N := some 31) (v := undef) (a' := ?_) (bq 17 16383) rfl rfl (any_of HT_.out (by kernel_rfl)) (fun _ _ _ h => h) (Or.inr ⟨by rfl, rfl⟩) ?_ ?_; rotate_left
       ·exact cbb2_0
       refine pure_ (i := 14) (N := some 32) (v := undef) (a' := ?_) (bq 17 32767) rfl rfl (any_of HT_.out (by kernel_rfl)) (fun _ _ _ h => h) (Or.inr ⟨by rfl, rfl⟩) ?_ ?_; rotate_left
       ·exact cbb2_0
       refine pure_ (i := 15) (N := some 33) (v := undef) (a' := ?_) (bq 17 65535) rfl rfl (any_of HT_.out (by kernel_rfl)) (fun _ _ _ h => h) (Or.inr ⟨by rfl, rfl⟩) ?_ ?_; rotate_left
       ·exact cbb2_0
       refine pv_ 16 34 (bq 17 131071) HT_ ?_; refine done_ (done_of HT_.out (by kernel_rfl)) ?_; (try go_wp2)
       go_roundg k2
       case measure => have := HK1.out; have := HK2.out; omega
       case rel => exact ⟨(x0_2), (wrap64 (x8_1 + 1)), pbb2_0, H', ⟨by have := HK1.out; have := HK2.out; omega⟩, ⟨pbb5_7⟩, ⟨pbb5_4⟩, ⟨pbb5_5⟩, ⟨pbb5_6⟩⟩
   ·rw [if_neg c5] at H; have c5b0 := decide_eq_false c5; clear c5; obtain rfl := Option.some.inj H
    go_wp2
    first | go_end0 | ((try simp only [Exit.inBlock, Exit.then]); refine bodyPost_ret (results_none rfl _ _ _) rfl ?_)
    exact ⟨pbb2_5, pbb5_4, pbb5_7, pbb5_6, pbb5_5⟩
def F86.l0 : Nat → List Int → Int → Int → Int → Int → Option (List Int)
  | 0, _, _, _, _, _ => none
  | k + 1, x0, x1, x2, x3, x10 => if x10 < x3 then (if 0 ≤ (wrap64 (x2 + x10)) then (if (wrap64 (x2 + x10)) < (x0.length : Int) then (if 0 ≤ (wrap64 (x1 + x10)) then (if (wrap64 (x1 + x10)) < (x0.length : Int) then (F86.l0 k ((x0.set ((wrap64 (x1 + x10)) : Int).toNat (rd x0 (wrap64 (x2 + x10)))).set ((wrap64 (x2 + x10)) : Int).toNat (rd x0 (wrap64 (x1 + x10)))) x1 x2 x3 (wrap64 (x10 + 1))) else (none)) else (none)) else (none)) else (none)) else (some x0)
def F86.f (k : Nat) (l0 : List Int) (a1 : Int) (a2 : Int) (a3 : Int) (s4_0 : List Int) : Option (List Int) := F86.l0 k l0 a1 a2 a3 0
def F86.T3 : Bool × List (List Nat × List Nat) := (true, [([], []), ([], []), ([], []), ([1, 2], [1, 2]), ([], []), ([], []), ([], []), ([5, 6], [5, 6]), ([], []), ([], []), ([], []), ([9, 10], [9, 10]), ([8, 11], [8, 11]), ([12], [12]), ([], []), ([], []), ([], []), ([15, 16], [15, 16]), ([14, 17], [14, 17]), ([18], [18]), ([0, 3, 0, 1, 2, 3, 8, 9, 10, 11, 12, 13, 19], [0, 3]), ([20, 13, 0, 1, 2, 3, 8, 9, 10, 11, 12, 13, 19], [13, 20]), ([4, 7, 0, 1, 2, 3, 4, 5, 6, 7, 8, 9, 10, 11, 12, 13, 14, 15, 16, 17, 18, 19, 20, 21], [4, 7]), ([22, 19, 21, 0, 1, 2, 3, 4, 5, 6, 7, 8, 9, 10, 11, 12, 13, 14, 15, 16, 17, 18, 19, 20, 21], [19, 22])])
def F86.B3 : List Nat := [0, 0, 0, 6, 0, 0, 0, 96, 0, 0, 0, 1536, 3840, 7936, 0, 0, 0, 98304, 245760, 507904, 1048335, 2096911, 4194303, 8388607]
theorem F86.tab3 : rtab .any (opsOf Tryd.f86 3) = F86.T3 := by kernel_rfl
theorem F86.bits3 : waitsOk F86.T3.2 F86.B3 = true := by kernel_rfl
set_option maxHeartbeats 8000000 in
set_option maxRecDepth 100000 in
theorem F86.calls (k : Nat) (P0_ : Nat → Prop) (u9000_ : Value) (l0 : List Int) (a1 : Int) (a2 : Int) (a3 : Int) (g : Nat) (s4_0 : List Int) (r : List Int) (w0 w : World) (hI : IsS37 w0 w g s4_0) (hB : Below w0.heap.size w0 w) (ho0 : Kd.R (Kd.int .i64) 3 w w0.heap.size P0_ u9000_ l0) (h : F86.f k l0 a1 a2 a3 s4_0 = some r) :
    Calls Tryd.prog 86 #[u9000_, .int .i64 a1, .int .i64 a2, .int .i64 a3, .func (.func 81) #[] #[.pointer (some ⟨g, 0, none⟩)]] w fun e w' => e = .returned (.tuple #[]) ∧ IsS37 w0 w' g s4_0 ∧ Kd.R (Kd.int .i64) 3 w' w0.heap.size (fun k_ => (P0_ k_ ∨ w.heap.size ≤ k_)) u9000_ r ∧ Below w0.heap.size w0 w' ∧ Kept w w' (fun k_ => (P0_ k_) ∨ k_ = g) := by
 have hu3 := Tryd.underlying3; have HO0 := Aside0.mk (show Kd.R (Kd.int .i64) 3 w w0.heap.size (fun k_ => (P0_ k_ ∨ w.heap.size ≤ k_)) u9000_ l0 from Kd.R_mono ho0 (fun k_ hk => (.inl hk))); have HI4 := Aside0.mk hI; have HL := Aside0.mk hB.size; clear hI; have HK := Aside0.mk (Kept.refl w (fun k_ => (P0_ k_) ∨ k_ = g)); have HW0 := Aside0.mk hB.size; have HB := Aside0.mk hB; clear hB
 unfold F86.f at h
 have H := h; clear h; have H' := Aside0.mk H; clear H; go_enter Tryd.func86, Tryd.ntmps86
 go_wp2
 go_loopg [10] k (fun kq v10 w' => ∃ (x0_1 : List Int) (x10_1 : Int), v10 = .int .i64 x10_1 ∧ Aside0 (F86.l0 kq x0_1 a1 a2 a3 x10_1 = some r) ∧ Aside0 (kq ≤ k) ∧ Aside0 (Kd.R (Kd.int .i64) 3 w' w0.heap.size (fun k_ => (P0_ k_ ∨ w.heap.size ≤ k_)) u9000_ x0_1) ∧ Aside0 (IsS37 w0 w' g s4_0) ∧ Aside0 (Kept w w' (fun k_ => (P0_ k_) ∨ k_ = g)) ∧ Aside0 (Below w0.heap.size w0 w'))
 case atStart => exact ⟨(l0), (0), pbb2_0, H', ⟨Nat.le_refl _⟩, ⟨pbb5_3⟩, ⟨pbb5_9⟩, ⟨pbb5_5⟩, ⟨pbb5_10⟩⟩
 case round =>
  clear H'; obtain ⟨x0_1, x10_1, rfl, HA, HK1, HO_0, HI4, HK, HB⟩ := hrel
  cases gk with
  | zero => exact absurd HA.out (by simp [F86.l0])
  | succ k1 =>
   have H := HA.out; clear HA; simp only [F86.l0] at H
   by_cases c6 : x10_1 < a3
   ·rw [if_pos c6] at H; have c6b0 := decide_eq_true c6; clear c6; obtain ⟨ji7, hji7⟩ : ∃ j_ : Int, (wrap64 (a2 + x10_1)) = j_ := ⟨_, rfl⟩; (first | rw [hji7] at H | simp only [hji7] at H); have hji7w : (IntKind.i64.wrap (a2 + x10_1)) = ji7 := (i64_w _).trans hji7
    by_cases c8 : 0 ≤ (ji7)
    ·rw [if_pos c8] at H; have c8b0 := decide_eq_true c8; clear c8
     by_cases c9 : (ji7) < (x0_1.length : Int)
     ·rw [if_pos c9] at H; have c9b0 := decide_eq_true c9; clear c9; obtain ⟨ji10, hji10⟩ : ∃ j_ : Int, (wrap64 (a1 + x10_1)) = j_ := ⟨_, rfl⟩; (first | rw [hji10] at H | simp only [hji10] at H); have hji10w : (IntKind.i64.wrap (a1 + x10_1)) = ji10 := (i64_w _).trans hji10
      by_cases c11 : 0 ≤ (ji10)
      ·rw [if_pos c11] at H; have c11b0 := decide_eq_true c11; clear c11
       by_cases c12 : (ji10) < (x0_1.length : Int)
       ·rw [if_pos c12] at H; have c12b0 := decide_eq_true c12; clear c12; obtain ⟨y103, hy103⟩ : ∃ y_ : List Int, y_ = (x0_1.set ((ji10) : Int).toNat (rd x0_1 (ji7))) := ⟨_, rfl⟩; replace H : (F86.l0 k1 (y103.set ((ji7) : Int).toNat (rd x0_1 (ji10))) a1 a2 a3 (wrap64 (x10_1 + 1))) = some r := by first | (rw [hy103]; with_reducible exact H) | (have H2_ := (Option.bind_some _ _).symm.trans H; rw [hy103]; with_reducible exact H2_) | (have H2_ := (Option.bind_some _ _).symm.trans H; with_reducible exact H2_) | with_reducible exact H | (rw [hy103]; exact H) | exact H
        have Ny103 := Aside0.mk hy103; clear hy103; obtain ⟨y104, hy104⟩ : ∃ y_ : List Int, y_ = (y103.set ((ji7) : Int).toNat (rd x0_1 (ji10))) := ⟨_, rfl⟩; replace H : (F86.l0 k1 y104 a1 a2 a3 (wrap64 (x10_1 + 1))) = some r := by first | (rw [hy104]; with_reducible exact H) | (have H2_ := (Option.bind_some _ _).symm.trans H; rw [hy104]; with_reducible exact H2_) | (have H2_ := (Option.bind_some _ _).symm.trans H; with_reducible exact H2_) | with_reducible exact H | (rw [hy104]; exact H) | exact H
        have Ny104 := Aside0.mk hy104; clear hy104; have H' := Aside0.mk H; clear H; (try go_wp2); replace HO_0 := Aside0.mk (Kd.R_drew HO_0.out); replace HI4 := Aside0.mk (IsS37.drew HI4.out); replace HK := Aside0.mk (Kept.drew HK.out); replace HB := Aside0.mk (below_drew1 HB.out); obtain ⟨Ao16, co16, eo16⟩ := Kd.R_slice HO_0.out; (first | subst eo16 | (injection eo16 with f1_ f2_ f3_; have f4_ := f1_.symm; have f5_ := f3_.symm; clear f1_ f2_ f3_; subst f4_; subst f5_)); have p101 : 0 ≤ ((ji7) : Int) := of_decide_eq_true pbb2_4; have q101 : (ji7) < (x0_1.length : Int) := of_decide_eq_true pbb2_4; obtain ⟨ad101, e101, hx101_0⟩ := Kd.at_int (Kd.R_reads' HO_0.out).2.2 (ji7) p101 q101
        cases e101
        replace p101 := eq_true p101; replace q101 := eq_true q101; have p102 : 0 ≤ ((ji10) : Int) := of_decide_eq_true pbb2_4; have q102 : (ji10) < (x0_1.length : Int) := of_decide_eq_true pbb2_4; obtain ⟨ad102, e102, hx102_0⟩ := Kd.at_int (Kd.R_reads' HO_0.out).2.2 (ji10) p102 q102; obtain rfl : ad101 = ad102 := (by injection e102); replace p102 := eq_true p102; replace q102 := eq_true q102; have p13 : 0 ≤ ((ji10) : Int) := of_decide_eq_true pbb2_4; have q13 : ((ji10) : Int) < ((x0_1.length : Int) : Int) := of_decide_eq_true pbb2_4; obtain ⟨go13, co13, eo13, gb13, gl13, cl13, HG13⟩ := Kd.R_form HO_0.out (by omega); (first | cases eo13 | (injection eo13 with ea_ en_ ec_; (first | subst ea_ | (injection ea_ with ea_; subst ea_)); subst ec_; clear en_)); have GB13 := Aside0.mk gb13; have GG13 := Aside0.mk HG13; clear gb13 gl13 HG13; have HMgo13 := Aside0.mk (show (P0_ go13 ∨ w.heap.size ≤ go13) from (HO_0.out.1 _ rfl)); (first | simp only [add_plain] at hx101_0 | skip); (first | simp only [add_plain] at hx102_0 | skip); obtain ⟨hx13_0, hf13_0⟩ := Kd.R_celln 0 HO_0.out ((ji10) : Int) p13 q13; replace p13 := eq_true p13; replace q13 := eq_true q13; have HN4_go13 := Aside0.mk (show g ≠ go13 from by have h_ := IsS37.own_ne HI4.out HO_0.out (by decide); intro e_; exact h_ (by rw [e_]; rfl)); have HP17 := Kd.R_putn HO_0.out ((ji10) : Int) (rd x0_1 (ji7)); rw [← Ny103.out] at HP17; have HQ17 := Aside0.mk HP17; clear HP17; have p14 : 0 ≤ ((ji7) : Int) := of_decide_eq_true pbb2_4; have q14 : ((ji7) : Int) < ((x0_1.length : Int) : Int) := of_decide_eq_true pbb2_4; obtain ⟨hx14_0, hf14_0⟩ := Kd.R_celln 0 HQ17.out ((ji7) : Int) p14 q14; replace p14 := eq_true p14; replace q14 := eq_true q14; have HN4_go13 := Aside0.mk (show g ≠ go13 from by have h_ := IsS37.own_ne HI4.out HO_0.out (by decide); intro e_; exact h_ (by rw [e_]; rfl)); have HP18 := Kd.R_putn HQ17.out ((ji7) : Int) (rd x0_1 (ji10)); rw [← Ny104.out] at HP18; have HQ18 := Aside0.mk HP18; clear HP18; refine start_ (n := 24) (S := fun w' => w'.cell? ⟨go13, ((ji7)).toNat, none⟩ = some (.int .i64 (rd x0_1 (ji7))) ∧ w'.cell? ⟨go13, ((ji10)).toNat, none⟩ = some (.int .i64 (rd x0_1 (ji10)))) (ds := [21, 23]) (bq 24 0) (by kernel_rfl) rfl rfl ⟨hx101_0, hx102_0⟩ (fun hHeld => ?_); refine with_tabW F86.tab3 F86.bits3 (fun HT_ HW_ => ?_); generalize wr.drew = w15 at HO_0 HI4 HK HB GG13 HQ17 HQ18 hf13_0 hf14_0 hx101_0 hx102_0 hx13_0 hx14_0 hHeld ⊢; refine pv_ 0 16 (bq 24 1) HT_ ?_; refine pv_ 1 17 (bq 24 3) HT_ ?_; refine pv_ 2 18 (bq 24 7) HT_ ?_; refine pv_ 3 19 (bq 24 15) HT_ ?_; refine pv_ 4 20 (bq 24 31) HT_ ?_; refine pv_ 5 21 (bq 24 63) HT_ ?_; refine pv_ 6 22 (bq 24 127) HT_ ?_; refine pv_ 7 23 (bq 24 255) HT_ ?_; refine pv_ 8 24 (bq 24 511) HT_ ?_; refine pv_ 9 25 (bq 24 1023) HT_ ?_; refine pv_ 10 26 (bq 24 2047) HT_ ?_; refine pv_ 11 27 (bq 24 4095) HT_ ?_; refine pv_ 12 28 (bq 24 8191) HT_ ?_; refine pv_ 14 30 (bq 24 24575) HT_ ?_; refine pv_ 15 31 (bq 24 57343) HT_ ?_; refine pv_ 16 32 (bq 24 122879) HT_ ?_; refine pv_ 17 33 (bq 24 253951) HT_ ?_; refine pv_ 18 34 (bq 24 516095) HT_ ?_; refine take_ (i := 13) (N := some 29) (v := ?_) (a' := ?_) (bq 24 524287) rfl rfl (take_ofW HT_.out HW_.out (by kernel_rfl)) (fun _ _ _ h => h) (Or.inl ⟨by rfl, ?_⟩) hHeld ?_ ?_; rotate_left
        ·rintro w' ⟨s0, s1⟩; go_simp; (with_reducible rfl)
        rotate_left
        ·exact cbb2_0
        refine take_ (i := 19) (N := some 35) (v := ?_) (a' := ?_) (bq 24 1048575) rfl rfl (take_ofW HT_.out HW_.out (by kernel_rfl)) (fun _ _ _ h => h) (Or.inl ⟨by rfl, ?_⟩) hHeld ?_ ?_; rotate_left
        ·rintro w' ⟨s0, s1⟩; go_simp; (with_reducible rfl)
        rotate_left
        ·exact cbb2_0
        refine pv_ 20 36 (bq 24 2097151) HT_ ?_; refine last_ (i := 21) (N := none) (bq 24 4194303) rfl rfl (one_of HT_.out (by kernel_rfl)) (by decide) (fun K hK => ?_); refine skip_ (w1 := ?_) (by rfl) rfl ?_ ?_; rotate_left
        ·go_simp
         rfl
        refine hK.out _ _ ?_; clear hK K; refine pv_ 22 37 (bq 24 8388607) HT_ ?_; refine last_ (i := 23) (N := none) (bq 24 16777215) rfl rfl (one_of HT_.out (by kernel_rfl)) (by decide) (fun K hK => ?_); refine skip_ (w1 := ?_) (by rfl) rfl ?_ ?_; rotate_left
        ·go_simp
         rfl
        refine hK.out _ _ ?_; clear hK K; refine done_ (done_of HT_.out (by kernel_rfl)) ?_; (try go_wp2)
        go_roundg k1
        case measure => have := HK1.out; omega
        case rel => exact ⟨(y104), (wrap64 (x10_1 + 1)), pbb2_0, H', ⟨by have := HK1.out; omega⟩, ⟨by (with_reducible repeat (first | apply Kd.R_alloc | apply Kd.R_drewN | apply Kd.R_drew)); exact HQ18.out⟩, ⟨by repeat (first | (with_reducible first | exact HI4.out | apply IsS37.alloc | apply IsS37.drewN | apply IsS37.drew | refine IsS37.far ?_ HN4_go13.out _ | refine IsS37.far ?_ HN4_go13.out _) | exact HI4.out)⟩, ⟨by repeat (first | (with_reducible first | exact HK.out | apply Kept.alloc | apply Kept.drewN | apply Kept.drew | refine Kept.setCell ?_ (Or.imp_left Or.inl HMgo13.out) _ | refine Kept.setCell ?_ (Or.imp_left Or.inl HMgo13.out) _ | refine Kept.setCell ?_ (.inl (.inr rfl)) _) | exact HK.out)⟩, ⟨by repeat (first | (with_reducible first | exact HB.out | apply below_alloc | apply pw_below_drewN | apply below_drew1 | refine below_set ?_ GB13.out | refine below_set ?_ GB13.out | refine below_set ?_ (IsS37.ge HI4.out)) | exact HB.out)⟩⟩
       ·rw [if_neg c12] at H; exact absurd H (by simp)
      ·rw [if_neg c11] at H; exact absurd H (by simp)
     ·rw [if_neg c9] at H; exact absurd H (by simp)
    ·rw [if_neg c8] at H; exact absurd H (by simp)
   ·rw [if_neg c6] at H; have c6b0 := decide_eq_false c6; clear c6; obtain rfl := Option.some.inj H
    go_wp2
    first | go_end0 | ((try simp only [Exit.inBlock, Exit.then]); refine bodyPost_ret (results_none rfl _ _ _) rfl ?_)
    exact ⟨pbb2_5, pbb5_9, pbb5_7, pbb5_10, pbb5_5⟩
def F85.l0 : Nat → List Int → Int → Int → Int → List Int → Option (List Int)
  | 0, _, _, _, _, _ => none
  | k + 1, x0, x2, x10, x11, x5000 => if x10 = x11 then ((F86.f k x0 (wrap64 (x2 - x10)) x2 x10 x5000).bind fun t101 => (some t101)) else (if x10 > x11 then ((F86.f k x0 (wrap64 (x2 - x10)) x2 x11 x5000).bind fun t102 => (F85.l0 k t102 x2 (wrap64 (x10 - x11)) x11 x5000)) else ((F86.f k x0 (wrap64 (x2 - x10)) (wrap64 ((wrap64 (x2 + x11)) - x10)) x10 x5000).bind fun t103 => (F85.l0 k t103 x2 x10 (wrap64 (x11 - x10)) x5000)))
def F85.f (k : Nat) (l0 : List Int) (a1 : Int) (a2 : Int) (a3 : Int) (s4_0 : List Int) : Option (List Int) := F85.l0 k l0 a2 (wrap64 (a2 - a1)) (wrap64 (a3 - a2)) s4_0
set_option maxHeartbeats 8000000 in
set_option maxRecDepth 100000 in
theorem F85.calls (k : Nat) (P0_ : Nat → Prop) (u9000_ : Value) (l0 : List Int) (a1 : Int) (a2 : Int) (a3 : Int) (g : Nat) (s4_0 : List Int) (r : List Int) (w0 w : World) (hI : IsS37 w0 w g s4_0) (hB : Below w0.heap.size w0 w) (ho0 : Kd.R (Kd.int .i64) 3 w w0.heap.size P0_ u9000_ l0) (h : F85.f k l0 a1 a2 a3 s4_0 = some r) :
    Calls Tryd.prog 85 #[u9000_, .int .i64 a1, .int .i64 a2, .int .i64 a3, .func (.func 81) #[] #[.pointer (some ⟨g, 0, none⟩)]] w fun e w' => e = .returned (.tuple #[]) ∧ IsS37 w0 w' g s4_0 ∧ Kd.R (Kd.int .i64) 3 w' w0.heap.size (fun k_ => (P0_ k_ ∨ w.heap.size ≤ k_)) u9000_ r ∧ Below w0.heap.size w0 w' ∧ Kept w w' (fun k_ => (P0_ k_) ∨ k_ = g) := by
 have HO0 := Aside0.mk (show Kd.R (Kd.int .i64) 3 w w0.heap.size (fun k_ => (P0_ k_ ∨ w.heap.size ≤ k_)) u9000_ l0 from Kd.R_mono ho0 (fun k_ hk => (.inl hk))); have HI4 := Aside0.mk hI; have HL := Aside0.mk hB.size; clear hI; have HK := Aside0.mk (Kept.refl w (fun k_ => (P0_ k_) ∨ k_ = g)); have HW0 := Aside0.mk hB.size; have HB := Aside0.mk hB; clear hB
 unfold F85.f at h
 have H := h; clear h; have H' := Aside0.mk H; clear H; go_enter Tryd.func85, Tryd.ntmps85
 go_wp2
 go_loopg [10, 11] k (fun kq v10 v11 w' => ∃ (x0_1 : List Int) (x10_1 : Int) (x11_1 : Int), v10 = .int .i64 x10_1 ∧ v11 = .int .i64 x11_1 ∧ Aside0 (F85.l0 kq x0_1 a2 x10_1 x11_1 s4_0 = some r) ∧ Aside0 (kq ≤ k) ∧ Aside0 (Kd.R (Kd.int .i64) 3 w' w0.heap.size (fun k_ => (P0_ k_ ∨ w.heap.size ≤ k_)) u9000_ x0_1) ∧ Aside0 (IsS37 w0 w' g s4_0) ∧ Aside0 (Kept w w' (fun k_ => (P0_ k_) ∨ k_ = g)) ∧ Aside0 (Below w0.heap.size w0 w'))
 case atStart => exact ⟨(l0), (wrap64 (a2 - a1)), (wrap64 (a3 - a2)), pbb2_0, pbb2_0, H', ⟨Nat.le_refl _⟩, ⟨pbb5_3⟩, ⟨pbb5_9⟩, ⟨pbb5_5⟩, ⟨pbb5_10⟩⟩
 case round =>
  clear H'; obtain ⟨x0_1, x10_1, x11_1, rfl, rfl, HA, HK1, HO_0, HI4, HK, HB⟩ := hrel
  cases gk with
  | zero => exact absurd HA.out (by simp [F85.l0])
  | succ k1 =>
   have H := HA.out; clear HA; simp only [F85.l0] at H
   by_cases c6 : x10_1 = x11_1
   ·rw [if_pos c6] at H; have c6b0 := bT_ c6; have c6b1 := bF_ c6; clear c6; obtain ⟨t101, A70, H⟩ := bnd H; have A7 := Aside0.mk A70; clear A70; obtain rfl := Option.some.inj H; obtain ⟨Ao8, co8, eo8⟩ := Kd.R_slice HO_0.out; subst eo8
    go_wp2_with (first | ((with_reducible refine gate_callee (f := 86) rfl ?_); refine goesL_ (some 57) rfl rfl Tryd.func86 (by kernel_rfl) rfl #[.slice Ao8 x0_1.length co8, .int .i64 (wrap64 (a2 - x10_1)), .int .i64 a2, .int .i64 x10_1, .func (.func 81) #[] #[.pointer (some ⟨g, 0, none⟩)]] rfl pbb2_2 ?_; (with_reducible refine (F86.calls k1 (fun k_ => some k_ = (.slice Ao8 x0_1.length co8 : Value).ownBlock) (.slice Ao8 x0_1.length co8) x0_1 (wrap64 (a2 - x10_1)) a2 x10_1 g s4_0 t101 w0 _ ?side1 ?side2 ?side3 A7.out).mono ?_); (case side1 => repeat (first | (with_reducible first | exact HI4.out | apply IsS37.alloc | apply IsS37.drewN | apply IsS37.drew) | exact HI4.out)); (case side2 => repeat (first | (with_reducible first | exact HB.out | apply below_alloc | apply pw_below_drewN | apply below_drew1 | refine below_set ?_ (IsS37.ge HI4.out)) | exact HB.out)); (case side3 => exact Kd.R_tight rfl HO_0.out); rintro e w9 ⟨rfl, hi, hy0, hb, hkp⟩; refine ⟨_, rfl, ?_⟩; replace HI4 := Aside0.mk (hi); replace HK := Aside0.mk (Kept.then_ (S := (fun k_ => (P0_ k_) ∨ k_ = g)) pbb5_5 hkp (fun k_ hs_ => Or.elim hs_ (fun hs_ => (fun e_ => Or.imp_left Or.inl ((HO_0.out.1 k_ e_.symm))) hs_) (fun e_ => .inl (.inr e_)))); replace HO_0 := Aside0.mk (Kd.R_reok rfl hy0 (fun k_ e_ => HO_0.out.1 k_ e_)); replace HB := Aside0.mk (hb); (try clear hb); (try clear hkp); (try clear hy0)))
    first | go_end0 | ((try simp only [Exit.inBlock, Exit.then]); refine bodyPost_ret (results_none rfl _ _ _) rfl ?_)
    exact ⟨pbb2_5, pbb5_9, pbb5_7, pbb5_10, pbb5_5⟩
   ·rw [if_neg c6] at H; have c6b0 := nF_ c6; have c6b1 := nT_ c6
    by_cases c10 : x10_1 > x11_1
    ·rw [if_pos c10] at H; have c10b0 : decide (x11_1 < x10_1) = true := decide_eq_true c10; clear c10; obtain ⟨t102, A110, H⟩ := bnd H; have A11 := Aside0.mk A110; clear A110; have H' := Aside0.mk H; clear H; obtain ⟨Ao12, co12, eo12⟩ := Kd.R_slice HO_0.out; subst eo12
     go_wp2_with (first | ((with_reducible refine gate_callee (f := 86) rfl ?_); refine goesL_ (some 31) rfl rfl Tryd.func86 (by kernel_rfl) rfl #[.slice Ao12 x0_1.length co12, .int .i64 (wrap64 (a2 - x10_1)), .int .i64 a2, .int .i64 x11_1, .func (.func 81) #[] #[.pointer (some ⟨g, 0, none⟩)]] rfl pbb2_2 ?_; (with_reducible refine (F86.calls k1 (fun k_ => some k_ = (.slice Ao12 x0_1.length co12 : Value).ownBlock) (.slice Ao12 x0_1.length co12) x0_1 (wrap64 (a2 - x10_1)) a2 x11_1 g s4_0 t102 w0 _ ?side1 ?side2 ?side3 A11.out).mono ?_); (case side1 => repeat (first | (with_reducible first | exact HI4.out | apply IsS37.alloc | apply IsS37.drewN | apply IsS37.drew) | exact HI4.out)); (case side2 => repeat (first | (with_reducible first | exact HB.out | apply below_alloc | apply pw_below_drewN | apply below_drew1 | refine below_set ?_ (IsS37.ge HI4.out)) | exact HB.out)); (case side3 => exact Kd.R_tight rfl HO_0.out); rintro e w13 ⟨rfl, hi, hy0, hb, hkp⟩; refine ⟨_, rfl, ?_⟩; replace HI4 := Aside0.mk (hi); replace HK := Aside0.mk (Kept.then_ (S := (fun k_ => (P0_ k_) ∨ k_ = g)) pbb5_5 hkp (fun k_ hs_ => Or.elim hs_ (fun hs_ => (fun e_ => Or.imp_left Or.inl ((HO_0.out.1 k_ e_.symm))) hs_) (fun e_ => .inl (.inr e_)))); replace HO_0 := Aside0.mk (Kd.R_reok rfl hy0 (fun k_ e_ => HO_0.out.1 k_ e_)); replace HB := Aside0.mk (hb); (try clear hb); (try clear hkp); (try clear hy0)))
     go_roundg k1
     case measure => have := HK1.out; omega
     case rel => exact ⟨(t102), (wrap64 (x10_1 - x11_1)), (x11_1), pbb2_0, pbb2_0, H', ⟨by have := HK1.out; omega⟩, ⟨pbb5_7⟩, ⟨pbb5_9⟩, ⟨pbb5_5⟩, ⟨pbb5_10⟩⟩
    ·rw [if_neg c10] at H; have c10b0 : decide (x11_1 < x10_1) = false := decide_eq_false c10; clear c10; obtain ⟨t103, A140, H⟩ := bnd H; have A14 := Aside0.mk A140; clear A140; have H' := Aside0.mk H; clear H; obtain ⟨Ao15, co15, eo15⟩ := Kd.R_slice HO_0.out; subst eo15
     go_wp2_with (first | ((with_reducible refine gate_callee (f := 86) rfl ?_); refine goesL_ (some 46) rfl rfl Tryd.func86 (by kernel_rfl) rfl #[.slice Ao15 x0_1.length co15, .int .i64 (wrap64 (a2 - x10_1)), .int .i64 (wrap64 ((wrap64 (a2 + x11_1)) - x10_1)), .int .i64 x10_1, .func (.func 81) #[] #[.pointer (some ⟨g, 0, none⟩)]] rfl pbb2_2 ?_; (with_reducible refine (F86.calls k1 (fun k_ => some k_ = (.slice Ao15 x0_1.length co15 : Value).ownBlock) (.slice Ao15 x0_1.length co15) x0_1 (wrap64 (a2 - x10_1)) (wrap64 ((wrap64 (a2 + x11_1)) - x10_1)) x10_1 g s4_0 t103 w0 _ ?side1 ?side2 ?side3 A14.out).mono ?_); (case side1 => repeat (first | (with_reducible first | exact HI4.out | apply IsS37.alloc | apply IsS37.drewN | apply IsS37.drew) | exact HI4.out)); (case side2 => repeat (first | (with_reducible first | exact HB.out | apply below_alloc | apply pw_below_drewN | apply below_drew1 | refine below_set ?_ (IsS37.ge HI4.out)) | exact HB.out)); (case side3 => exact Kd.R_tight rfl HO_0.out); rintro e w16 ⟨rfl, hi, hy0, hb, hkp⟩; refine ⟨_, rfl, ?_⟩; replace HI4 := Aside0.mk (hi); replace HK := Aside0.mk (Kept.then_ (S := (fun k_ => (P0_ k_) ∨ k_ = g)) pbb5_5 hkp (fun k_ hs_ => Or.elim hs_ (fun hs_ => (fun e_ => Or.imp_left Or.inl ((HO_0.out.1 k_ e_.symm))) hs_) (fun e_ => .inl (.inr e_)))); replace HO_0 := Aside0.mk (Kd.R_reok rfl hy0 (fun k_ e_ => HO_0.out.1 k_ e_)); replace HB := Aside0.mk (hb); (try clear hb); (try clear hkp); (try clear hy0)))
     go_roundg k1
     case measure => have := HK1.out; omega
     case rel => exact ⟨(t103), (x10_1), (wrap64 (x11_1 - x10_1)), pbb2_0, pbb2_0, H', ⟨by have := HK1.out; omega⟩, ⟨pbb5_7⟩, ⟨pbb5_9⟩, ⟨pbb5_5⟩, ⟨pbb5_10⟩⟩
end Go.Proofs.YtegpappenmhndaaDoor.M
end
