/- The law of the movements, walked and shown. Part 1 of 1 of what is the claim's own. -/
import Derived.Test.YtegpappenmhndaaDoorQBB1
import Derived.Test.YtegpappenmhndaaDoorQBB3
import Derived.Test.YtegpappenmhndaaDoorQBB2
import Derived.Test.YtegpappenmhndaaDoorQBB8
import Derived.SizedLaws
import Derived.ChangeArms
import Derived.ChangeShapes
import Derived.DataReads
import Derived.Test.YtegpappenmhndaaDoorRows
import Derived.ProofKit
import Derived.LaidMore
import Derived.OpenShut
import Derived.Stop.Joined
import Derived.WalkKit
import Derived.ShutString
import Derived.ChangeOld
import Derived.Below
import Derived.Test.YtegpappenmhndaaDoorCards
import Derived.Test.YtegpappenmhndaaDoorTie
import Derived.SevenTiedAt
import Derived.Test.YtegpappenmhndaaDoorQBB6
namespace Go.Proofs.YtegpappenmhndaaDoor.M
theorem por1_0 {p : Prop} (h : p := by first | (go_simp; done) | (go_simp; rfl)) : p := h
theorem por1_1 {p : Prop} (h : p := by (with_reducible repeat (first | apply Kd.R_alloc | apply Kd.R_drewN | apply Kd.R_drew)); exact HO105.out) : p := h
end Go.Proofs.YtegpappenmhndaaDoor.M
section
namespace Go.Proofs.YtegpappenmhndaaDoor.M
open Go.RowKit Go.Proofs.YtegpappenmhndaaDoorW.PrintWords Go.Proofs.YtegpappenmhndaaDoorW.PrintLast Go.Proofs.YtegpappenmhndaaDoorW.PrintMore
attribute [local go_sem] max2_int min2_int max_two min_two max_three min_three max_four min_four
set_option linter.unusedVariables false
set_option linter.unusedSimpArgs false
def gtm (m y : Mv) : Bool := decide (m.f1 < y.f1) || (y.f1 == m.f1 && decide (m.f0 < y.f0))
def refpos (p : Nat → Bool) : Nat → Nat
 | 0 => 0
 | k + 1 => if p k = true then refpos p k else k + 1
theorem refpos_le (p : Nat → Bool) : ∀ n, refpos p n ≤ n
 | 0 => Nat.le_refl _
 | n + 1 => by
  unfold refpos
  have := refpos_le p n
  split <;> omega
def insr (o : List Mv) (m : Mv) : List Mv := o.take (refpos (fun i => gtm m (mvAt o i)) o.length) ++ m :: o.drop (refpos (fun i => gtm m (mvAt o i)) o.length)
def F18.f (l0 : List Mv) : Option (List Mv) := if l0.length ≤ 1000000 then some (l0.foldl insr []) else none
theorem insr_length (m : Mv) (l : List Mv) : (insr l m).length = l.length + 1 := by
 unfold insr
 rw [List.length_append, List.length_cons, List.length_take, List.length_drop]
 omega
theorem insr_pos {m : Mv} {o : List Mv} {pos : Nat} (h : refpos (fun i => gtm m (mvAt o i)) o.length = pos) : insr o m = o.take pos ++ m :: o.drop pos := by
 unfold insr
 rw [h]
theorem reads_below {w w' : World} {A : Option Addr} {n : Nat} {xs : List Mv} (h : Kd.C k23 w A n xs) (hb : Below w.heap.size w w') : ReadsRow (k23.K w) k23.sz w' A n xs := by
 obtain ⟨h1, h2, h3⟩ := h; refine ⟨h1, h2, fun hp => ?_⟩; obtain ⟨ad, e, hc⟩ := h3 hp; refine ⟨ad, e, fun j p hj => ?_⟩; obtain ⟨c, hcl, hk, hcc⟩ := hc j p hj; exact ⟨c, hcl, hk, fun i u hu => (hb.cell (World.block_lt_of_cell? w _ (hcc i u hu))).trans (hcc i u hu)⟩
theorem reads_box {w : World} {b : Nat} {m : Mv} (h : w.heap[b]? = some (.cells #[.int .i64 m.f0, .int .i64 m.f1, .string m.f2, .int .i64 m.f3, .int .i64 m.f4, .int .i64 m.f5, .string m.f6, .int .i64 m.f7] 23 (0, 0))) : ReadsRow (k23.K w) k23.sz w (some ⟨b, 0, none⟩) 1 [m] := by
 refine ⟨rfl, by omega, fun _ => ⟨_, rfl, fun j p hj => ?_⟩⟩; have hj0 : j = 0 := by have := (List.getElem?_eq_some_iff.1 hj).1; simpa using this
 subst hj0; obtain rfl : m = p := by simpa using hj
 refine ⟨_, rfl, mv_K w m, fun i u hu => ?_⟩; rw [Addr.add_lit]; refine (blk_cell h _).trans ?_
 simpa using hu
theorem nameA {P : Program} {md : Region.Mode} {ops : Array Oper} {Q : Exit → Act → World → Prop} {S : World → Prop} {ds : List Nat} {fuel : Nat} {l : Array Bool} {a : Act} {w : World} (h : ∀ a0, a = a0 → wpAnyLast P md ops Q S ds fuel l a0 w) : wpAnyLast P md ops Q S ds fuel l a w := h a rfl
set_option maxHeartbeats 8000000 in
set_option maxRecDepth 100000 in
theorem F18.calls (A0 : Option Addr) (c0 : Nat) (l0 : List Mv) (r : List Mv) (w : World) (hr0 : Kd.C k23 w A0 l0.length l0) (hc0 : l0.length ≤ c0) (h : F18.f l0 = some r) :
  Calls Tryd.prog 18 #[.slice A0 l0.length c0] w fun e w' => ∃ v0_ : Value, e = .returned v0_ ∧ Kd.R k23 23 w' w.heap.size (fun _ => True) v0_ r ∧ Below w.heap.size w w' := by
 have HR0 := Aside0.mk hr0; have HC0 := Aside0.mk hc0; clear hr0 hc0
 unfold F18.f at h
 by_cases cN : l0.length ≤ 1000000
 rotate_left
 ·rw [if_neg cN] at h; cases h
 rw [if_pos cN] at h; have HL := Aside0.mk (Option.some.inj h); have HN := Aside0.mk cN; clear h cN; have HB := Aside0.mk (Below.refl w.heap.size w); go_enter Tryd.func18, Tryd.ntmps18
 go_wp2
 go_loopg [3, 4] l0.length (fun kq v3 v4 w' => ∃ (j : Nat) (o : List Mv), v4 = .int .i64 (j : Int) ∧ Aside0 (j + kq = l0.length) ∧ Aside0 ((l0.drop j).foldl insr o = r) ∧ Aside0 (o.length = j) ∧ Aside0 (Kd.R k23 23 w' w.heap.size (fun _ => True) v3 o) ∧ Aside0 (Below w.heap.size w w'))
 case atStart => exact ⟨0, [], rfl, ⟨by omega⟩, HL, ⟨rfl⟩, ⟨Kd.R_nil _ _ _ _ _⟩, HB⟩
 case round =>
  clear HL HB; obtain ⟨j, o, rfl, HJ, H, HO1, HO, HB⟩ := hrel
  cases gk with
  | zero =>
   have hj0 : l0.drop j = [] := List.drop_eq_nil_of_le (by have := HJ.out; omega); have H1 := H.out; rw [hj0] at H1; simp only [List.foldl_nil] at H1; subst H1; have hjb : decide ((j : Int) < (l0.length : Int)) = false := decide_eq_false (by have := HJ.out; omega); have hjn : ¬ j < l0.length := by have := HJ.out; omega
   have hjd : decide (j < l0.length) = false := decide_eq_false hjn; clear hj0
   go_wp2
   go_ret
   exact ⟨u3, rfl, HO.out, HB.out⟩
  | succ k1 =>
   have hj : j < l0.length := by have := HJ.out; omega
   have hjb : decide ((j : Int) < (l0.length : Int)) = true := decide_eq_true (by omega); have hjd : decide (j < l0.length) = true := decide_eq_true hj; have hj2 : (j : Int) + 1 ≤ 1000001 := by have := HN.out; omega
   have p1 : 0 ≤ (j : Int) := by omega
   have qj : (j : Int) < (l0.length : Int) := by omega
   have HMC := Aside0.mk (at_T23 HR0.out (j : Int) p1 qj); have H1 := H.out; clear H; rw [drop_mv hj] at H1; simp only [List.foldl_cons] at H1; obtain ⟨m, hm⟩ : ∃ m, rd_T23 l0 (j : Int) = m := ⟨_, rfl⟩; rw [hm] at H1 HMC; clear hm hj; replace p1 := eq_true p1; replace qj := eq_true qj; have H' := Aside0.mk H1; clear H1; obtain ⟨A2, c2, rfl, hcc, hC⟩ := Kd.R_reads HO.out; have HCC := Aside0.mk hcc; have HOn : Aside0 (o.length ≤ 1000000) := ⟨by have := HO1.out; have := HN.out; omega⟩; have HCo := Aside0.mk hC; obtain ⟨A0', rfl⟩ : ∃ ad, A0 = some ad := by obtain ⟨ad, e, _⟩ := HMC.out; exact ⟨ad, e⟩
   clear hcc hC; obtain ⟨pos, hpos⟩ : ∃ q, refpos (fun i => gtm m (mvAt o i)) o.length = q := ⟨_, rfl⟩; have HP := Aside0.mk hpos; have HP0 := Aside0.mk hpos; clear hpos
   go_upto_block 2 with (fail)
   go_cut [5] (fun v5 wc => v5 = .int .i64 (pos : Int) ∧ Aside0 (Kd.C k23 wc A2 o.length o) ∧ Aside0 (Below w.heap.size w wc))
   case first =>
    go_wp2
    go_loopg [5] o.length (fun kq v5 w' => v5 = .int .i64 (kq : Int) ∧ Aside0 (kq ≤ o.length) ∧ Aside0 (refpos (fun i => gtm m (mvAt o i)) kq = pos) ∧ Aside0 (Kd.C k23 w' A2 o.length o) ∧ Aside0 (Below w.heap.size w w'))
    case atStart => exact ⟨rfl, ⟨Nat.le_refl _⟩, HP, HCo, HB⟩
    case round =>
     clear HCo HB HO; obtain ⟨rfl, HK, HPk, HCo, HB⟩ := hrel; obtain ⟨am, e1, hi0, hi1, hi2, hi3, hi4, hi5, hi6, hi7⟩ := HMC.out
     cases e1
     simp only [Int.toNat_natCast] at hi0 hi1 hi2 hi3 hi4 hi5 hi6 hi7; replace hi0 := (HB.out.cell (World.block_lt_of_cell? w _ hi0)).trans hi0; replace hi1 := (HB.out.cell (World.block_lt_of_cell? w _ hi1)).trans hi1; replace hi2 := (HB.out.cell (World.block_lt_of_cell? w _ hi2)).trans hi2; replace hi3 := (HB.out.cell (World.block_lt_of_cell? w _ hi3)).trans hi3; replace hi4 := (HB.out.cell (World.block_lt_of_cell? w _ hi4)).trans hi4; replace hi5 := (HB.out.cell (World.block_lt_of_cell? w _ hi5)).trans hi5; replace hi6 := (HB.out.cell (World.block_lt_of_cell? w _ hi6)).trans hi6; replace hi7 := (HB.out.cell (World.block_lt_of_cell? w _ hi7)).trans hi7
     by_cases cx : ∃ k2, gk = k2 + 1 ∧ gtm m (mvAt o k2) = true
     ·obtain ⟨k2, rfl, cg⟩ := cx; have HP2 : Aside0 (refpos (fun i => gtm m (mvAt o i)) k2 = pos) := ⟨by have h1 := HPk.out; simpa [refpos, cg] using h1⟩; have hg0 : decide (0 < (k2 : Int) + 1) = true := decide_eq_true (by omega); have hg1 : (0 : Int) < (k2 : Int) + 1 := by omega
      have he : (k2 : Int) + 1 - 1 = (k2 : Int) := by omega
      have q0 : 0 ≤ (k2 : Int) := by omega
      have q1 : (k2 : Int) < (o.length : Int) := by have := HK.out; omega
      have q2 : (k2 : Int) + 1 ≤ 1000001 := by have := HK.out; have := HOn.out; omega
      obtain ⟨y, hy⟩ : ∃ y, mvAt o k2 = y := ⟨_, rfl⟩; rw [hy] at cg; obtain ⟨ay, ey, hy0, hy1, hy2, hy3, hy4, hy5, hy6, hy7⟩ := at_T23 HCo.out (k2 : Int) q0 q1
      cases ey
      simp only [Int.toNat_natCast] at hy0 hy1 hy2 hy3 hy4 hy5 hy6 hy7; rw [show rd_T23 o (k2 : Int) = y from hy] at hy0 hy1 hy2 hy3 hy4 hy5 hy6 hy7; clear hy; replace q0 := eq_true q0; replace q1 := eq_true q1
      unfold gtm at cg
      by_cases cy : m.f1 < y.f1
      ·have cyb : decide (m.f1 < y.f1) = true := decide_eq_true cy; clear cg
       go_wp2
       repeat (go_quiet (fail); try go_wp2)
       go_roundg k2
       case measure => omega
       case rel => exact ⟨by go_num, ⟨by have := HK.out; omega⟩, HP2, ⟨HCo.out⟩, ⟨pw_below_drewN HB.out _⟩⟩
      ·have cyb : decide (m.f1 < y.f1) = false := decide_eq_false cy; rw [cyb, Bool.false_or, Bool.and_eq_true] at cg; obtain ⟨ce, cl⟩ := cg; clear cy
       go_wp2
       repeat (go_quiet (fail); try go_wp2)
       go_roundg k2
       case measure => omega
       case rel => exact ⟨by go_num, ⟨by have := HK.out; omega⟩, HP2, ⟨HCo.out⟩, ⟨pw_below_drewN HB.out _⟩⟩
     ·have hpk : pos = gk := by
       have h1 := HPk.out
       cases gk with
       | zero => exact h1.symm
       | succ k2 =>
        have hf : gtm m (mvAt o k2) = false := by
         cases hc : gtm m (mvAt o k2) with
         | false => rfl
         | true => exact absurd ⟨k2, rfl, hc⟩ cx
        simpa [refpos, hf] using h1.symm
      subst hpk
      by_cases cz : pos = 0
      ·have hg0 : decide (0 < (pos : Int)) = false := decide_eq_false (by omega); have hg1 : ¬ (0 : Int) < (pos : Int) := by omega
       have hg2 : decide (0 < pos) = false := decide_eq_false (by omega); clear cz cx
       go_wp2
       repeat (go_quiet (fail); try go_wp2)
       go_meet
       case rel => exact ⟨rfl, ⟨HCo.out⟩, ⟨pw_below_drewN HB.out _⟩⟩
      ·obtain ⟨k2, hk2⟩ : ∃ k2, pos = k2 + 1 := ⟨pos - 1, by omega⟩
       have hf : gtm m (mvAt o k2) = false := by
        cases hc : gtm m (mvAt o k2) with
        | false => rfl
        | true => exact absurd ⟨k2, hk2, hc⟩ cx
       have hg0 : decide (0 < (pos : Int)) = true := decide_eq_true (by omega); have hg1 : (0 : Int) < (pos : Int) := by omega
       have hg2 : decide (0 < pos) = true := decide_eq_true (by omega); have he : (pos : Int) - 1 = (k2 : Int) := by omega
       have q0 : 0 ≤ (k2 : Int) := by omega
       have q1 : (k2 : Int) < (o.length : Int) := by have := HK.out; omega
       have q2 : (pos : Int) ≤ 1000001 := by have := HK.out; have := HOn.out; omega
       obtain ⟨y, hy⟩ : ∃ y, mvAt o k2 = y := ⟨_, rfl⟩; rw [hy] at hf; obtain ⟨ay, ey, hy0, hy1, hy2, hy3, hy4, hy5, hy6, hy7⟩ := at_T23 HCo.out (k2 : Int) q0 q1
       cases ey
       simp only [Int.toNat_natCast] at hy0 hy1 hy2 hy3 hy4 hy5 hy6 hy7; rw [show rd_T23 o (k2 : Int) = y from hy] at hy0 hy1 hy2 hy3 hy4 hy5 hy6 hy7; clear hy; replace q0 := eq_true q0; replace q1 := eq_true q1; clear cx cz hk2
       unfold gtm at hf
       rw [Bool.or_eq_false_iff] at hf; obtain ⟨hf1, hf2⟩ := hf
       by_cases ce : y.f1 = m.f1
       ·have ceb : (y.f1 == m.f1) = true := beq_iff_eq.mpr ce; rw [ceb, Bool.true_and] at hf2; clear ce
        go_wp2
        repeat (go_quiet (fail); try go_wp2)
        go_meet
        case rel => exact ⟨rfl, ⟨HCo.out⟩, ⟨pw_below_drewN HB.out _⟩⟩
       ·have ceb : (y.f1 == m.f1) = false := beq_eq_false_iff_ne.mpr ce; clear ce hf2
        go_wp2
        repeat (go_quiet (fail); try go_wp2)
        go_meet
        case rel => exact ⟨rfl, ⟨HCo.out⟩, ⟨pw_below_drewN HB.out _⟩⟩
   case rest =>
    have HPo := Aside0.mk (show refpos (fun i => gtm m (mvAt o i)) o.length = pos from HP0.out); have HK : Aside0 (pos ≤ o.length) := ⟨by rw [← HP0.out]; exact refpos_le _ _⟩; clear HCo HB HO HP; obtain ⟨rfl, HCo, HB⟩ := hcut; obtain ⟨am, e1, hi0, hi1, hi2, hi3, hi4, hi5, hi6, hi7⟩ := HMC.out
    cases e1
    simp only [Int.toNat_natCast] at hi0 hi1 hi2 hi3 hi4 hi5 hi6 hi7; replace hi0 := (HB.out.cell (World.block_lt_of_cell? w _ hi0)).trans hi0; replace hi1 := (HB.out.cell (World.block_lt_of_cell? w _ hi1)).trans hi1; replace hi2 := (HB.out.cell (World.block_lt_of_cell? w _ hi2)).trans hi2; replace hi3 := (HB.out.cell (World.block_lt_of_cell? w _ hi3)).trans hi3; replace hi4 := (HB.out.cell (World.block_lt_of_cell? w _ hi4)).trans hi4; replace hi5 := (HB.out.cell (World.block_lt_of_cell? w _ hi5)).trans hi5; replace hi6 := (HB.out.cell (World.block_lt_of_cell? w _ hi6)).trans hi6; replace hi7 := (HB.out.cell (World.block_lt_of_cell? w _ hi7)).trans hi7
    go_wp2
    refine nameW ?_; intro W hW; have HBW : Aside0 (Below w.heap.size w W) := ⟨by rw [← hW]; exact HB.out⟩; have HCoW : Aside0 (Kd.C k23 W A2 o.length o) := ⟨by rw [← hW]; exact HCo.out⟩; have hj0 : W.cell? (A0'.add (j * 8)) = some (.int .i64 m.f0) := by rw [← hW]; exact hi0
    have hj1 : W.cell? ⟨(A0'.add (j * 8)).block, (A0'.add (j * 8)).off + 1, none⟩ = some (.int .i64 m.f1) := by rw [← hW]; exact hi1
    have hj2 : W.cell? ⟨(A0'.add (j * 8)).block, (A0'.add (j * 8)).off + 2, none⟩ = some (.string m.f2) := by rw [← hW]; exact hi2
    have hj3 : W.cell? ⟨(A0'.add (j * 8)).block, (A0'.add (j * 8)).off + 3, none⟩ = some (.int .i64 m.f3) := by rw [← hW]; exact hi3
    have hj4 : W.cell? ⟨(A0'.add (j * 8)).block, (A0'.add (j * 8)).off + 4, none⟩ = some (.int .i64 m.f4) := by rw [← hW]; exact hi4
    have hj5 : W.cell? ⟨(A0'.add (j * 8)).block, (A0'.add (j * 8)).off + 5, none⟩ = some (.int .i64 m.f5) := by rw [← hW]; exact hi5
    have hj6 : W.cell? ⟨(A0'.add (j * 8)).block, (A0'.add (j * 8)).off + 6, none⟩ = some (.string m.f6) := by rw [← hW]; exact hi6
    have hj7 : W.cell? ⟨(A0'.add (j * 8)).block, (A0'.add (j * 8)).off + 7, none⟩ = some (.int .i64 m.f7) := by rw [← hW]; exact hi7
    clear hi0 hi1 hi2 hi3 hi4 hi5 hi6 hi7 hW; have hn1 : pos ≤ o.length := HK.out; have hn2 : pos ≤ c2 := Nat.le_trans HK.out HCC.out; have hno : (o.length : Int) ≤ 1000000 := by have := HOn.out; omega
    have htl : (o.take pos).length = pos := by rw [List.length_take]; omega
    have hdl : (o.drop pos).length = o.length - pos := List.length_drop; have HCt := Aside0.mk (Kd.C_take HCoW.out hn1); have HCd := Aside0.mk (Kd.C_drop (m := pos) (c := c2) HCoW.out hn1 HCC.out); refine start_ (n := 16) (S := fun w' => Below W.heap.size W w') (ds := []) (bq 16 0) (by kernel_rfl) rfl rfl (below_drew (Below.refl W.heap.size W)) (fun hHeld => ?_); refine pure_ (i := 1) (N := some 61) (v := ?_) (a' := ?_) (bq 16 2) rfl rfl (by kernel_rfl) (fun _ _ _ h => h) (Or.inl ⟨by rfl, ?_⟩) ?_ ?_; rotate_left
    ·intro w'; go_simp; with_reducible rfl
    rotate_left
    ·exact cbb2_0
    refine pure_ (i := 2) (N := some 62) (v := ?_) (a' := ?_) (bq 16 6) rfl rfl (by kernel_rfl) (fun _ _ _ h => h) (Or.inl ⟨by rfl, ?_⟩) ?_ ?_; rotate_left
    ·intro w'; go_simp; with_reducible rfl
    rotate_left
    ·exact cbb2_0
    refine pure_ (i := 3) (N := some 63) (v := ?_) (a' := ?_) (bq 16 14) rfl rfl (by kernel_rfl) (fun _ _ _ h => h) (Or.inl ⟨by rfl, ?_⟩) ?_ ?_; rotate_left
    ·intro w'; go_simp; with_reducible rfl
    rotate_left
    ·exact cbb2_0
    refine pure_ (i := 5) (N := some 65) (v := ?_) (a' := ?_) (bq 16 46) rfl rfl (by kernel_rfl) (fun _ _ _ h => h) (Or.inl ⟨by rfl, ?_⟩) ?_ ?_; rotate_left
    ·intro w'; go_simp; with_reducible rfl
    rotate_left
    ·exact cbb2_0
    refine pure_ (i := 6) (N := some 66) (v := ?_) (a' := ?_) (bq 16 110) rfl rfl (by kernel_rfl) (fun _ _ _ h => h) (Or.inl ⟨by rfl, ?_⟩) ?_ ?_; rotate_left
    ·intro w'; go_simp; with_reducible rfl
    rotate_left
    ·exact cbb2_0
    refine pure_ (i := 7) (N := some 67) (v := ?_) (a' := ?_) (bq 16 238) rfl rfl (by kernel_rfl) (fun _ _ _ h => h) (Or.inl ⟨by rfl, ?_⟩) ?_ ?_; rotate_left
    ·intro w'; go_simp; with_reducible rfl
    rotate_left
    ·exact cbb2_0
    refine take_ (i := 8) (N := some 68) (v := ?_) (a' := ?_) (bq 16 494) rfl rfl (by kernel_rfl) (fun _ _ _ h => h) (Or.inl ⟨by rfl, ?_⟩) hHeld ?_ ?_; rotate_left
    ·rintro w' s0; have k0 := (s0.cell (World.block_lt_of_cell? W _ hj0)).trans hj0; have k1 := (s0.cell (World.block_lt_of_cell? W _ hj1)).trans hj1; have k2 := (s0.cell (World.block_lt_of_cell? W _ hj2)).trans hj2; have k3 := (s0.cell (World.block_lt_of_cell? W _ hj3)).trans hj3; have k4 := (s0.cell (World.block_lt_of_cell? W _ hj4)).trans hj4; have k5 := (s0.cell (World.block_lt_of_cell? W _ hj5)).trans hj5; have k6 := (s0.cell (World.block_lt_of_cell? W _ hj6)).trans hj6; have k7 := (s0.cell (World.block_lt_of_cell? W _ hj7)).trans hj7; go_simp; with_reducible rfl
    rotate_left
    ·exact cbb2_0
    refine pure_ (i := 11) (N := some 71) (v := ?_) (a' := ?_) (bq 16 2542) rfl rfl (by kernel_rfl) (fun _ _ _ h => h) (Or.inl ⟨by rfl, ?_⟩) ?_ ?_; rotate_left
    ·intro w'; go_simp; with_reducible rfl
    rotate_left
    ·exact cbb2_0
    refine pure_ (i := 12) (N := some 72) (v := ?_) (a' := ?_) (bq 16 6638) rfl rfl (by kernel_rfl) (fun _ _ _ h => h) (Or.inl ⟨by rfl, ?_⟩) ?_ ?_; rotate_left
    ·intro w'; go_simp; with_reducible rfl
    rotate_left
    ·exact cbb2_0
    refine pure_ (i := 13) (N := some 73) (v := ?_) (a' := ?_) (bq 16 14830) rfl rfl (by kernel_rfl) (fun _ _ _ h => h) (Or.inl ⟨by rfl, ?_⟩) ?_ ?_; rotate_left
    ·intro w'; go_simp; with_reducible rfl
    rotate_left
    ·exact cbb2_0
    have HS := Aside0.mk hHeld; generalize W.drew = w0 at hHeld HS ⊢; refine nameA ?_; intro a0 ha0; refine join_ (σ := Value × Value × Nat) 3 (bq 16 15359) (fun (s : Value × Value × Nat) => [(60, s.1), (64, s.2.1), (69, .slice (some ⟨s.2.2, 0, none⟩) 1 1)]) (fun (s : Value × Value × Nat) w' => k23.R 23 w' W.heap.size (fun k => k ≠ s.2.2) s.2.1 (o.take pos) ∧ w'.heap[s.2.2]? = some (.cells #[.int .i64 m.f0, .int .i64 m.f1, .string m.f2, .int .i64 m.f3, .int .i64 m.f4, .int .i64 m.f5, .string m.f6, .int .i64 m.f7] 23 (0, 0)) ∧ W.heap.size ≤ s.2.2 ∧ Below W.heap.size W w') ?_ ?_; rotate_left
    ·intro hj; rw [← ha0]; refine two_ (i := 0) (j := 9) (Ni := some 60) (Nj := some 69) (bq 16 14831) (bq 16 15342) rfl rfl rfl rfl (by kernel_rfl) (by decide) (by decide) (fun K hK => ?_) (fun K hK => ?_)
     ·-- the literal first
      refine Kd.R_lit_step k23 (w0 := W) W.heap.size 23 (by rfl) (N := 60) rfl (xs := []) (inner := []) (okp := fun _ => False) (ok := (fun _ => True)) por1_0 ⟨rfl, fun j q hq => by simp at hq⟩ (fun _ hk => hk.elim) trivial HS.out HS.out.size (by simp) ?_; intro v60 w60 ho hb hg hat; refine hK.out _ _ hb (fun _ => ?_); clear hK K; have H60 := Aside0.mk ho; have HS := Aside0.mk hb; clear ho hb hg hat; refine norm_ (a' := ?_) ?_ ?_; rotate_left
      ·show Act.put _ (some 60) _ = _; simp only [Act.put, List.setIfInBounds_toArray, List.set_cons_zero, List.set_cons_succ, i64_w, i32_w]
       rfl
      refine two_ (i := 4) (j := 9) (Ni := some 64) (Nj := some 69) (bq 16 14847) (bq 16 15343) rfl rfl rfl rfl (by kernel_rfl) (by decide) (by decide) (fun K hK => ?_) (fun K hK => ?_)
      ·refine Kd.R_append_rows_step k23 (w0 := W) (Rr := k23.K W) W.heap.size (by rfl) (.tmp 60) (.tmp 63) 25 23 (.agg #[(.int .i64 0), (.int .i64 0), (.string ⟨#[]⟩), (.int .i64 0), (.int .i64 0), (.int .i64 0), (.string ⟨#[]⟩), (.int .i64 0)]) 80 rfl Tryd.underlying25 info23 rfl (by decide) (by omega) v60 [] (o.take pos) A2 (o.take pos).length c2 (fun _ => True) (fun _ => False) rfl (by rw [htl]; rfl) H60.out ?hR (fun y cs hy => mv_flat _ _ _ _ _ (k23.K_below HS.out hy)) (fun _ hk => hk.elim) (fun _ _ => trivial) HS.out HS.out.size (by simp only [List.length_nil]; rw [htl]; omega) ?_
       case hR => exact reads_below HCt.out HS.out
       intro v64 w64 ho hb hg hat; refine hK.out _ _ hb (fun _ => ?_); clear hK K; have H64 := Aside0.mk ho; have HS := Aside0.mk hb; clear ho hb hg hat; refine norm_ (a' := ?_) ?_ ?_; rotate_left
       ·show Act.put _ (some 64) _ = _; simp only [Act.put, List.setIfInBounds_toArray, List.set_cons_zero, List.set_cons_succ, i64_w, i32_w]
        rfl
       refine one_ (i := 9) (N := some 69) (bq 16 15359) rfl rfl (by kernel_rfl) (by decide) (fun K hK => ?_); refine value_ (w1 := w64.alloc (.cells #[.int .i64 m.f0, .int .i64 m.f1, .string m.f2, .int .i64 m.f3, .int .i64 m.f4, .int .i64 m.f5, .string m.f6, .int .i64 m.f7] 23)) (v := .slice (some ⟨w64.heap.size, 0, none⟩) 1 1) (by rfl) rfl por1_0 ?_; refine hK.out _ _ (HS.out.alloc HS.out.size _) (fun _ => ?_); clear hK K; have HS9 := Aside0.mk (HS.out.alloc HS.out.size (.cells #[.int .i64 m.f0, .int .i64 m.f1, .string m.f2, .int .i64 m.f3, .int .i64 m.f4, .int .i64 m.f5, .string m.f6, .int .i64 m.f7] 23)); refine norm_ (a' := putAll a0 ((fun (s : Value × Value × Nat) => [(60, s.1), (64, s.2.1), (69, .slice (some ⟨s.2.2, 0, none⟩) 1 1)]) (v60, v64, w64.heap.size))) (by rw [← ha0]; rfl) (hj (v60, v64, w64.heap.size) _ ⟨?_, blk_new w64 _, HS.out.size, HS9.out⟩); exact Kd.R_alloc (Kd.R_mono (ok' := fun k => k ≠ w64.heap.size) (Kd.R_bound H64.out) (fun k hk e => by have := hk.2.2.1; omega)) _
      ·refine value_ (w1 := w60.alloc (.cells #[.int .i64 m.f0, .int .i64 m.f1, .string m.f2, .int .i64 m.f3, .int .i64 m.f4, .int .i64 m.f5, .string m.f6, .int .i64 m.f7] 23)) (v := .slice (some ⟨w60.heap.size, 0, none⟩) 1 1) (by rfl) rfl por1_0 ?_; refine hK.out _ _ (HS.out.alloc HS.out.size _) (fun _ => ?_); clear hK K; have HB9 := Aside0.mk (blk_new w60 (.cells #[.int .i64 m.f0, .int .i64 m.f1, .string m.f2, .int .i64 m.f3, .int .i64 m.f4, .int .i64 m.f5, .string m.f6, .int .i64 m.f7] 23)); have HS9 := Aside0.mk (HS.out.alloc HS.out.size (.cells #[.int .i64 m.f0, .int .i64 m.f1, .string m.f2, .int .i64 m.f3, .int .i64 m.f4, .int .i64 m.f5, .string m.f6, .int .i64 m.f7] 23)); have H60' := Aside0.mk (Kd.R_alloc (Kd.R_mono (ok' := fun k => k ≠ w60.heap.size) (Kd.R_bound H60.out) (fun k hk e => by have := hk.2.2.1; omega)) (.cells #[.int .i64 m.f0, .int .i64 m.f1, .string m.f2, .int .i64 m.f3, .int .i64 m.f4, .int .i64 m.f5, .string m.f6, .int .i64 m.f7] 23)); have HL9 := Aside0.mk HS.out.size; obtain ⟨b9, hb9⟩ : ∃ b, w60.heap.size = b := ⟨_, rfl⟩; generalize w60.alloc (.cells #[.int .i64 m.f0, .int .i64 m.f1, .string m.f2, .int .i64 m.f3, .int .i64 m.f4, .int .i64 m.f5, .string m.f6, .int .i64 m.f7] 23) = w69 at HB9 HS9 H60' ⊢; rw [hb9] at HB9 H60' HL9 ⊢; clear HS hb9 H60; have HS := HS9; clear HS9; refine norm_ (a' := ?_) ?_ ?_; rotate_left
       ·show Act.put _ (some 69) _ = _; simp only [Act.put, List.setIfInBounds_toArray, List.set_cons_zero, List.set_cons_succ, i64_w, i32_w]
        rfl
       refine one_ (i := 4) (N := some 64) (bq 16 15359) rfl rfl (by kernel_rfl) (by decide) (fun K hK => ?_); refine Kd.R_append_rows_step k23 (w0 := W) (Rr := k23.K W) W.heap.size (by rfl) (.tmp 60) (.tmp 63) 25 23 (.agg #[(.int .i64 0), (.int .i64 0), (.string ⟨#[]⟩), (.int .i64 0), (.int .i64 0), (.int .i64 0), (.string ⟨#[]⟩), (.int .i64 0)]) 80 rfl Tryd.underlying25 info23 rfl (by decide) (by omega) v60 [] (o.take pos) A2 (o.take pos).length c2 (fun k => k ≠ b9) (fun _ => False) rfl (by rw [htl]; rfl) H60'.out ?hR (fun y cs hy => mv_flat _ _ _ _ _ (k23.K_below HS.out hy)) (fun _ hk => hk.elim) (fun k hk e => by have := blk_lt HB9.out; omega) HS.out HS.out.size (by simp only [List.length_nil]; rw [htl]; omega) ?_
       case hR => exact reads_below HCt.out HS.out
       intro v64 w64 ho hb hg hat; refine hK.out _ _ hb (fun _ => ?_); clear hK K; rw [List.nil_append] at ho; refine norm_ (a' := putAll a0 ((fun (s : Value × Value × Nat) => [(60, s.1), (64, s.2.1), (69, .slice (some ⟨s.2.2, 0, none⟩) 1 1)]) (v60, v64, b9))) (by rw [← ha0]; rfl) (hj (v60, v64, b9) _ ⟨ho, ?_, HL9.out, hb⟩); exact blk_grown HB9.out hg (fun e => H60'.out.1 _ e.symm rfl)
     ·-- the element first
      refine value_ (w1 := w0.alloc (.cells #[.int .i64 m.f0, .int .i64 m.f1, .string m.f2, .int .i64 m.f3, .int .i64 m.f4, .int .i64 m.f5, .string m.f6, .int .i64 m.f7] 23)) (v := .slice (some ⟨w0.heap.size, 0, none⟩) 1 1) (by rfl) rfl por1_0 ?_; refine hK.out _ _ (HS.out.alloc HS.out.size _) (fun _ => ?_); clear hK K; have HB9 := Aside0.mk (blk_new w0 (.cells #[.int .i64 m.f0, .int .i64 m.f1, .string m.f2, .int .i64 m.f3, .int .i64 m.f4, .int .i64 m.f5, .string m.f6, .int .i64 m.f7] 23)); have HS9 := Aside0.mk (HS.out.alloc HS.out.size (.cells #[.int .i64 m.f0, .int .i64 m.f1, .string m.f2, .int .i64 m.f3, .int .i64 m.f4, .int .i64 m.f5, .string m.f6, .int .i64 m.f7] 23)); have HL9 := Aside0.mk HS.out.size; obtain ⟨b9, hb9⟩ : ∃ b, w0.heap.size = b := ⟨_, rfl⟩; generalize w0.alloc (.cells #[.int .i64 m.f0, .int .i64 m.f1, .string m.f2, .int .i64 m.f3, .int .i64 m.f4, .int .i64 m.f5, .string m.f6, .int .i64 m.f7] 23) = w69 at HB9 HS9 ⊢; rw [hb9] at HB9 HL9 ⊢; clear HS hb9; have HS := HS9; clear HS9; refine norm_ (a' := ?_) ?_ ?_; rotate_left
      ·show Act.put _ (some 69) _ = _; simp only [Act.put, List.setIfInBounds_toArray, List.set_cons_zero, List.set_cons_succ, i64_w, i32_w]
       rfl
      refine one_ (i := 0) (N := some 60) (bq 16 15343) rfl rfl (by kernel_rfl) (by decide) (fun K hK => ?_); refine Kd.R_lit_step k23 (w0 := W) W.heap.size 23 (by rfl) (N := 60) rfl (xs := []) (inner := []) (okp := fun _ => False) (ok := (fun k => k ≠ b9)) por1_0 ⟨rfl, fun j q hq => by simp at hq⟩ (fun _ hk => hk.elim) (by have := blk_lt HB9.out; intro e; rw [e] at this; exact absurd this (Nat.lt_irrefl _)) HS.out HS.out.size (by simp) ?_; intro v60 w60 ho hb hg hat; refine hK.out _ _ hb (fun _ => ?_); clear hK K; have H60 := Aside0.mk ho; have HB9' := Aside0.mk (blk_grown HB9.out hg (by simp)); have HS' := Aside0.mk hb; clear ho hb hg hat HB9 HS; have HB9 := HB9'; have HS := HS'; clear HB9' HS'; refine norm_ (a' := ?_) ?_ ?_; rotate_left
      ·show Act.put _ (some 60) _ = _; simp only [Act.put, List.setIfInBounds_toArray, List.set_cons_zero, List.set_cons_succ, i64_w, i32_w]
       rfl
      refine one_ (i := 4) (N := some 64) (bq 16 15359) rfl rfl (by kernel_rfl) (by decide) (fun K hK => ?_); refine Kd.R_append_rows_step k23 (w0 := W) (Rr := k23.K W) W.heap.size (by rfl) (.tmp 60) (.tmp 63) 25 23 (.agg #[(.int .i64 0), (.int .i64 0), (.string ⟨#[]⟩), (.int .i64 0), (.int .i64 0), (.int .i64 0), (.string ⟨#[]⟩), (.int .i64 0)]) 80 rfl Tryd.underlying25 info23 rfl (by decide) (by omega) v60 [] (o.take pos) A2 (o.take pos).length c2 (fun k => k ≠ b9) (fun _ => False) rfl (by rw [htl]; rfl) H60.out ?hR (fun y cs hy => mv_flat _ _ _ _ _ (k23.K_below HS.out hy)) (fun _ hk => hk.elim) (fun k hk e => by have := blk_lt HB9.out; omega) HS.out HS.out.size (by simp only [List.length_nil]; rw [htl]; omega) ?_
      case hR => exact reads_below HCt.out HS.out
      intro v64 w64 ho hb hg hat; refine hK.out _ _ hb (fun _ => ?_); clear hK K; rw [List.nil_append] at ho; refine norm_ (a' := putAll a0 ((fun (s : Value × Value × Nat) => [(60, s.1), (64, s.2.1), (69, .slice (some ⟨s.2.2, 0, none⟩) 1 1)]) (v60, v64, b9))) (by rw [← ha0]; rfl) (hj (v60, v64, b9) _ ⟨ho, ?_, HL9.out, hb⟩); exact blk_grown HB9.out hg (fun e => H60.out.1 _ e.symm rfl)
    rintro ⟨v60, v64, b9⟩ w9 ⟨hr9, hb9, hl9, hs9⟩
    dsimp only at hr9 hb9 hl9
    have HR9 := Aside0.mk hr9; have HB9 := Aside0.mk hb9; have HS := Aside0.mk hs9; clear hr9 hb9 hl9 hs9; rw [← ha0]; clear ha0; refine norm_ (a' := ?_) ?_ ?_; rotate_left
    ·simp only [putAll, Act.put, List.setIfInBounds_toArray, List.set_cons_zero, List.set_cons_succ]
     rfl
    refine one_ (i := 10) (N := some 70) (bq 16 16383) rfl rfl (by kernel_rfl) (by decide) (fun K hK => ?_); refine Kd.R_append_rows_step k23 (w0 := W) (Rr := k23.K w9) W.heap.size (by rfl) (.tmp 64) (.tmp 69) 25 23 (.agg #[(.int .i64 0), (.int .i64 0), (.string ⟨#[]⟩), (.int .i64 0), (.int .i64 0), (.int .i64 0), (.string ⟨#[]⟩), (.int .i64 0)]) 80 rfl Tryd.underlying25 info23 rfl (by decide) (by omega) v64 (o.take pos) [m] (some ⟨b9, 0, none⟩) 1 1 (fun k => k ≠ b9) (fun _ => False) rfl rfl HR9.out (reads_box HB9.out) (fun y cs hy => mv_flat _ _ _ _ _ hy) (fun _ hk => hk.elim) (fun k hk e => by have := blk_lt HB9.out; omega) HS.out HS.out.size (by rw [htl]; omega) ?_; intro v70 w70 ho hb hg hat; refine hK.out _ _ hb (fun _ => ?_); clear hK K; have HLT : Aside0 (b9 < w70.heap.size) := ⟨Nat.lt_of_lt_of_le (blk_lt HB9.out) hg.size⟩; have HR9' := Aside0.mk ho; have HS9 := Aside0.mk hb; clear ho hb hg hat HS; refine norm_ (a' := ?_) ?_ ?_; rotate_left
    ·show Act.put _ (some 70) _ = _; simp only [Act.put, List.setIfInBounds_toArray, List.set_cons_zero, List.set_cons_succ, i64_w, i32_w]
     rfl
    refine one_ (i := 14) (N := some 74) (bq 16 32767) rfl rfl (by kernel_rfl) (by decide) (fun K hK => ?_); refine Kd.R_append_rows_step k23 (w0 := W) (Rr := k23.K W) W.heap.size (by rfl) (.tmp 70) (.tmp 73) 25 23 (.agg #[(.int .i64 0), (.int .i64 0), (.string ⟨#[]⟩), (.int .i64 0), (.int .i64 0), (.int .i64 0), (.string ⟨#[]⟩), (.int .i64 0)]) 80 rfl Tryd.underlying25 info23 rfl (by decide) (by omega) v70 (o.take pos ++ [m]) (o.drop pos) (if c2 = pos then A2 else Option.map (fun x => x.add (pos * 8)) A2) (o.drop pos).length (c2 - pos) (fun k => k ≠ b9) (fun _ => False) rfl (by rw [hdl]; rfl) HR9'.out ?hR (fun y cs hy => mv_flat _ _ _ _ _ (k23.K_below HS9.out hy)) (fun _ hk => hk.elim) ?hF HS9.out HS9.out.size (by simp only [List.length_append, List.length_singleton]; rw [htl, hdl]; omega) ?_
    case hR => exact reads_below HCd.out HS9.out
    case hF => exact fun k hk e => by have := HLT.out; omega
    intro v74 w74 ho hb hg hat; refine hK.out _ _ hb (fun _ => ?_); clear hK K; rw [List.append_assoc, List.singleton_append] at ho; have HR14 := Aside0.mk (Kd.R_mono (ok' := fun _ => True) ho (fun _ _ => trivial)); have HS14 := Aside0.mk hb; clear ho hb hg hat HR9' HS9; refine norm_ (a' := ?_) ?_ ?_; rotate_left
    ·show Act.put _ (some 74) _ = _; simp only [Act.put, List.setIfInBounds_toArray, List.set_cons_zero, List.set_cons_succ, i64_w, i32_w]
     rfl
    refine pure_ (i := 15) (N := some 3) (v := ?_) (a' := ?_) (bq 16 65535) rfl rfl (by kernel_rfl) (fun _ _ _ h => h) (Or.inl ⟨by rfl, ?_⟩) ?_ ?_; rotate_left
    ·intro w'; go_simp; with_reducible rfl
    rotate_left
    ·exact cbb2_0
    refine done_ (by kernel_rfl) ?_; go_simp
    repeat go_step
    all_goals
     go_roundg k1
     case measure => omega
     case rel => exact ⟨j + 1, insr o m, by go_num, ⟨by have := HJ.out; omega⟩, H', ⟨by rw [insr_length, HO1.out]⟩, ⟨Kd.R_lower (by rw [insr_pos HPo.out]; exact HR14.out) HBW.out.size⟩, ⟨below_then HBW.out HBW.out.size HS14.out⟩⟩
theorem eqA23 (d : Nat) (w : World) (x0 y0 : Int) (x1 y1 : Int) (x2 y2 : ByteArray) (x3 y3 : Int) (x4 y4 : Int) (x5 y5 : Int) (x6 y6 : ByteArray) (x7 y7 : Int) :
    (Op.equalIn (d + 2) 23 (.agg #[.int .i64 x0, .int .i64 x1, .string x2, .int .i64 x3, .int .i64 x4, .int .i64 x5, .string x6, .int .i64 x7]) (.agg #[.int .i64 y0, .int .i64 y1, .string y2, .int .i64 y3, .int .i64 y4, .int .i64 y5, .string y6, .int .i64 y7])).run Tryd.prog w = .ok (x0 == y0 && (x1 == y1 && (x2.toList == y2.toList && (x3 == y3 && (x4 == y4 && (x5 == y5 && (x6.toList == y6.toList && (x7 == y7)))))))) w := by
  refine eqA_of Tryd.underlying23 (by kernel_rfl) ?_; refine eqf_cons (by rfl) (by go_simp; rfl) (by go_simp; rfl) (by go_simp) ?_; refine eqf_cons (by rfl) (by go_simp; rfl) (by go_simp; rfl) (by go_simp) ?_; refine eqf_cons (by rfl) (by go_simp; rfl) (by go_simp; rfl) (by go_simp) ?_; refine eqf_cons (by rfl) (by go_simp; rfl) (by go_simp; rfl) (by go_simp) ?_; refine eqf_cons (by rfl) (by go_simp; rfl) (by go_simp; rfl) (by go_simp) ?_; refine eqf_cons (by rfl) (by go_simp; rfl) (by go_simp; rfl) (by go_simp) ?_; refine eqf_cons (by rfl) (by go_simp; rfl) (by go_simp; rfl) (by go_simp) ?_; exact eqf_last (by rfl) (by go_simp; rfl) (by go_simp; rfl) (by go_simp)
end Go.Proofs.YtegpappenmhndaaDoor.M
end
section
namespace Go.Proofs.YtegpappenmhndaaDoor.M
open Go.RowKit Go.Proofs.YtegpappenmhndaaDoorW.PrintWords Go.Proofs.YtegpappenmhndaaDoorW.PrintLast Go.Proofs.YtegpappenmhndaaDoorW.PrintMore
attribute [local go_sem] max2_int min2_int max_two min_two max_three min_three max_four min_four
set_option linter.unusedVariables false
set_option linter.unusedSimpArgs false
attribute [local go_sem high] eqA23
def F16.l0 : Nat → List (S23) → List (S23) → Int → Option (Bool)
  | 0, _, _, _ => none
  | k + 1, x0, x1, x5 => if x5 < (x0.length : Int) then (if 0 ≤ x5 then (if x5 < (x1.length : Int) then (if (!(((rd_T23 x0 x5).f0) == ((rd_T23 x1 x5).f0)) || (!(((rd_T23 x0 x5).f1) == ((rd_T23 x1 x5).f1)) || (!((((rd_T23 x0 x5).f2).toList) == (((rd_T23 x1 x5).f2).toList)) || (!(((rd_T23 x0 x5).f3) == ((rd_T23 x1 x5).f3)) || (!(((rd_T23 x0 x5).f4) == ((rd_T23 x1 x5).f4)) || (!(((rd_T23 x0 x5).f5) == ((rd_T23 x1 x5).f5)) || (!((((rd_T23 x0 x5).f6).toList) == (((rd_T23 x1 x5).f6).toList)) || (!(((rd_T23 x0 x5).f7) == ((rd_T23 x1 x5).f7)))))))))) = true then (some false) else (F16.l0 k x0 x1 (wrap64 (x5 + 1)))) else (none)) else (none)) else (some true)
def F16.f (k : Nat) (l0 : List (S23)) (l1 : List (S23)) : Option (Bool) := if (l0.length : Int) = (l1.length : Int) then (F16.l0 k l0 l1 0) else (some false)
set_option maxHeartbeats 8000000 in
set_option maxRecDepth 100000 in
theorem F16.calls (k : Nat) (A0 : Option Addr) (c0 : Nat) (l0 : List (S23)) (A1 : Option Addr) (c1 : Nat) (l1 : List (S23)) (r : Bool) (w : World) (hr0 : Kd.C k23 w A0 l0.length l0) (hc0 : l0.length ≤ c0) (hr1 : Kd.C k23 w A1 l1.length l1) (hc1 : l1.length ≤ c1) (h : F16.f k l0 l1 = some r) :
    Calls Tryd.prog 16 #[.slice A0 l0.length c0, .slice A1 l1.length c1] w fun e w' => e = .returned (.bool r) ∧ Drawn0 w w' := by
 have hu23 := Tryd.underlying23; have HR0 := Aside0.mk hr0; have HC0 := Aside0.mk hc0; clear hr0 hc0; have HR1 := Aside0.mk hr1; have HC1 := Aside0.mk hc1; clear hr1 hc1
 unfold F16.f at h
 have H := h; clear h
 by_cases c3 : (l0.length : Int) = (l1.length : Int)
 ·rw [if_pos c3] at H; have c3b0 := bT_ c3; have c3b1 := bF_ c3; have c3b2 : (l0.length == l1.length) = true := by first | simpa using c3 | (simp at c3 ⊢; omega)
  clear c3; have H' := Aside0.mk H; clear H; go_enter Tryd.func16, Tryd.ntmps16
  go_wp2
  repeat (go_quiet (fail); try go_wp2)
  go_loopg [5] k (fun kq v5 w' => ∃ (x5_1 : Int), v5 = .int .i64 x5_1 ∧ Aside0 (F16.l0 kq l0 l1 x5_1 = some r) ∧ Aside0 (kq ≤ k) ∧ Drawn0 w w')
  case atStart => exact ⟨(0), pbb2_0, H', ⟨Nat.le_refl _⟩, pbb2_1⟩
  case round =>
   clear H'; obtain ⟨x5_1, rfl, HA, HK1, ⟨m1, rfl⟩⟩ := hrel
   cases gk with
   | zero => exact absurd HA.out (by simp [F16.l0])
   | succ k1 =>
    have H := HA.out; clear HA; simp only [F16.l0] at H
    by_cases c4 : x5_1 < (l0.length : Int)
    ·rw [if_pos c4] at H; have c4b0 := decide_eq_true c4; clear c4
     by_cases c5 : 0 ≤ x5_1
     ·rw [if_pos c5] at H; have c5b0 := decide_eq_true c5; clear c5
      by_cases c6 : x5_1 < (l1.length : Int)
      ·rw [if_pos c6] at H; have c6b0 := decide_eq_true c6; clear c6
       by_cases c7 : (!(((rd_T23 l0 x5_1).f0) == ((rd_T23 l1 x5_1).f0)) || (!(((rd_T23 l0 x5_1).f1) == ((rd_T23 l1 x5_1).f1)) || (!((((rd_T23 l0 x5_1).f2).toList) == (((rd_T23 l1 x5_1).f2).toList)) || (!(((rd_T23 l0 x5_1).f3) == ((rd_T23 l1 x5_1).f3)) || (!(((rd_T23 l0 x5_1).f4) == ((rd_T23 l1 x5_1).f4)) || (!(((rd_T23 l0 x5_1).f5) == ((rd_T23 l1 x5_1).f5)) || (!((((rd_T23 l0 x5_1).f6).toList) == (((rd_T23 l1 x5_1).f6).toList)) || (!(((rd_T23 l0 x5_1).f7) == ((rd_T23 l1 x5_1).f7)))))))))) = true
       ·rw [if_pos c7] at H; have c7b0 : (!(((rd_T23 l0 x5_1).f0) == ((rd_T23 l1 x5_1).f0)) || (!(((rd_T23 l0 x5_1).f1) == ((rd_T23 l1 x5_1).f1)) || (!((((rd_T23 l0 x5_1).f2).toList) == (((rd_T23 l1 x5_1).f2).toList)) || (!(((rd_T23 l0 x5_1).f3) == ((rd_T23 l1 x5_1).f3)) || (!(((rd_T23 l0 x5_1).f4) == ((rd_T23 l1 x5_1).f4)) || (!(((rd_T23 l0 x5_1).f5) == ((rd_T23 l1 x5_1).f5)) || (!((((rd_T23 l0 x5_1).f6).toList) == (((rd_T23 l1 x5_1).f6).toList)) || (!(((rd_T23 l0 x5_1).f7) == ((rd_T23 l1 x5_1).f7)))))))))) = true := c7; clear c7; obtain rfl := Option.some.inj H; have p101 : 0 ≤ (x5_1 : Int) := of_decide_eq_true pbb2_4; have q101 : x5_1 < (l0.length : Int) := of_decide_eq_true pbb2_4; obtain ⟨ad101, e101, hx101_0, hx101_1, hx101_2, hx101_3, hx101_4, hx101_5, hx101_6, hx101_7⟩ := at_T23 HR0.out x5_1 p101 q101
        cases e101
        replace p101 := eq_true p101; replace q101 := eq_true q101; have p102 : 0 ≤ (x5_1 : Int) := of_decide_eq_true pbb2_4; have q102 : x5_1 < (l1.length : Int) := of_decide_eq_true pbb2_4; obtain ⟨ad102, e102, hx102_0, hx102_1, hx102_2, hx102_3, hx102_4, hx102_5, hx102_6, hx102_7⟩ := at_T23 HR1.out x5_1 p102 q102
        cases e102
        replace p102 := eq_true p102; replace q102 := eq_true q102
        go_wp2
        repeat (go_quiet (fail); try go_wp2)
        go_ret
        exact ⟨pbb2_0, pbb2_1⟩
       ·rw [if_neg c7] at H; have c7b0 : (!(((rd_T23 l0 x5_1).f0) == ((rd_T23 l1 x5_1).f0)) || (!(((rd_T23 l0 x5_1).f1) == ((rd_T23 l1 x5_1).f1)) || (!((((rd_T23 l0 x5_1).f2).toList) == (((rd_T23 l1 x5_1).f2).toList)) || (!(((rd_T23 l0 x5_1).f3) == ((rd_T23 l1 x5_1).f3)) || (!(((rd_T23 l0 x5_1).f4) == ((rd_T23 l1 x5_1).f4)) || (!(((rd_T23 l0 x5_1).f5) == ((rd_T23 l1 x5_1).f5)) || (!((((rd_T23 l0 x5_1).f6).toList) == (((rd_T23 l1 x5_1).f6).toList)) || (!(((rd_T23 l0 x5_1).f7) == ((rd_T23 l1 x5_1).f7)))))))))) = false := by simpa using c7
        clear c7; have H' := Aside0.mk H; clear H; have p101 : 0 ≤ (x5_1 : Int) := of_decide_eq_true pbb2_4; have q101 : x5_1 < (l0.length : Int) := of_decide_eq_true pbb2_4; obtain ⟨ad101, e101, hx101_0, hx101_1, hx101_2, hx101_3, hx101_4, hx101_5, hx101_6, hx101_7⟩ := at_T23 HR0.out x5_1 p101 q101
        cases e101
        replace p101 := eq_true p101; replace q101 := eq_true q101; have p102 : 0 ≤ (x5_1 : Int) := of_decide_eq_true pbb2_4; have q102 : x5_1 < (l1.length : Int) := of_decide_eq_true pbb2_4; obtain ⟨ad102, e102, hx102_0, hx102_1, hx102_2, hx102_3, hx102_4, hx102_5, hx102_6, hx102_7⟩ := at_T23 HR1.out x5_1 p102 q102
        cases e102
        replace p102 := eq_true p102; replace q102 := eq_true q102
        go_wp2
        repeat (go_quiet (fail); try go_wp2)
        go_roundg k1
        case measure => have := HK1.out; omega
        case rel => exact ⟨(wrap64 (x5_1 + 1)), pbb2_0, H', ⟨pbb6_1⟩, pbb2_1⟩
      ·rw [if_neg c6] at H; exact absurd H (by simp)
     ·rw [if_neg c5] at H; exact absurd H (by simp)
    ·rw [if_neg c4] at H; have c4b0 := decide_eq_false c4; clear c4; obtain rfl := Option.some.inj H
     go_wp2
     repeat (go_quiet (fail); try go_wp2)
     go_ret
     exact ⟨pbb2_0, pbb2_1⟩
 ·rw [if_neg c3] at H; have c3b0 := nF_ c3; have c3b1 := nT_ c3; have c3b2 : (l0.length == l1.length) = false := by first | simpa using c3 | (simp at c3 ⊢; omega)
  obtain rfl := Option.some.inj H; go_enter Tryd.func16, Tryd.ntmps16
  go_wp2
  repeat (go_quiet (fail); try go_wp2)
  go_ret
  exact ⟨pbb2_0, pbb2_1⟩
end Go.Proofs.YtegpappenmhndaaDoor.M
end
section
namespace Go.Proofs.YtegpappenmhndaaDoor.M
open Go.RowKit Go.Proofs.YtegpappenmhndaaDoorW.PrintWords Go.Proofs.YtegpappenmhndaaDoorW.PrintLast Go.Proofs.YtegpappenmhndaaDoorW.PrintMore
attribute [local go_sem] max2_int min2_int max_two min_two max_three min_three max_four min_four
set_option linter.unusedVariables false
set_option linter.unusedSimpArgs false
def F5.f (k : Nat) (l0 : List (S23)) (l1 : List Int) : Option (Bool) := (F10.f k l0).bind fun t101 => (if t101 = true then ((F17.f l0).bind fun t103 => ((F18.f l0).bind fun t106 => ((F16.f k t103 t106).bind fun t109 => (if t109 = true then ((F11.f k l1).bind fun t110 => (some t110)) else (none))))) else ((F11.f k l1).bind fun t102 => (some t102)))
set_option maxHeartbeats 8000000 in
set_option maxRecDepth 100000 in
theorem F5.calls (k : Nat) (A0 : Option Addr) (c0 : Nat) (l0 : List (S23)) (A1 : Option Addr) (c1 : Nat) (l1 : List Int) (r : Bool) (w : World) (hr0 : Kd.C k23 w A0 l0.length l0) (hc0 : l0.length ≤ c0) (hr1 : Kd.C kTab w A1 l1.length l1) (hc1 : l1.length ≤ c1) (h : F5.f k l0 l1 = some r) :
    Calls Tryd.prog 5 #[.slice A0 l0.length c0] w fun e w' => e = .returned (.bool r) ∧ Below w.heap.size w w' := by
 have HR0 := Aside0.mk hr0; have HC0 := Aside0.mk hc0; clear hr0 hc0; have HR1 := Aside0.mk hr1; have HC1 := Aside0.mk hc1; clear hr1 hc1; have HB := Aside0.mk (Below.refl w.heap.size w)
 unfold F5.f at h
 have H := h; clear h; obtain ⟨t101, A30, H⟩ := bnd H; have A3 := Aside0.mk A30; clear A30
 by_cases c4 : t101 = true
 ·subst c4; rw [if_pos rfl] at H; obtain ⟨t103, A50, H⟩ := bnd H; have A5 := Aside0.mk A50; clear A50; obtain ⟨t106, A60, H⟩ := bnd H; have A6 := Aside0.mk A60; clear A60; obtain ⟨t109, A70, H⟩ := bnd H; have A7 := Aside0.mk A70; clear A70
  by_cases c8 : t109 = true
  ·subst c8; rw [if_pos rfl] at H; obtain ⟨t110, A90, H⟩ := bnd H; have A9 := Aside0.mk A90; clear A90; obtain rfl := Option.some.inj H; go_enter Tryd.func5, Tryd.ntmps5
   go_wp2_with (first | ((with_reducible refine gate_callee (f := 10) rfl ?_); refine goesL_ (some 4) rfl rfl Tryd.func10 (by kernel_rfl) rfl #[.slice A0 l0.length c0] rfl pbb2_2 ?_; (with_reducible refine (F10.calls k _ _ l0 true _ pbb3_6 HC0.out A3.out).mono ?_); rintro e w' ⟨rfl, ⟨nd, rfl⟩⟩; refine ⟨_, rfl, ?_⟩) | ((with_reducible refine gate_callee (f := 17) rfl ?_); refine goesL_ (some 8) rfl rfl Tryd.func17 (by kernel_rfl) rfl #[.slice A0 l0.length c0] rfl pbb2_2 ?_; (with_reducible refine (F17.calls _ _ l0 t103 _ pbb3_6 HC0.out A5.out).mono ?_); rintro e w10 ⟨v104, rfl, ho0, hb⟩; refine ⟨_, rfl, ?_⟩; have HO105 := Aside0.mk (Kd.R_lower ho0 (below_size pbb2_3)); replace HB := Aside0.mk (below_step pbb2_3 hb); (try clear hb); (try clear hb2); (try clear hk); (try clear hi); (try clear ho0)) | ((with_reducible refine gate_callee (f := 18) rfl ?_); refine goesL_ (some 10) rfl rfl Tryd.func18 (by kernel_rfl) rfl #[.slice A0 l0.length c0] rfl pbb2_2 ?_; (with_reducible refine (F18.calls _ _ l0 t106 _ pbb8_1 HC0.out A6.out).mono ?_); rintro e w11 ⟨v107, rfl, ho0, hb⟩; refine ⟨_, rfl, ?_⟩; have HO108 := Aside0.mk (Kd.R_lower (Kd.R_new' ho0 (Kd.R_lt por1_1)) (below_size pbb2_3)); replace HO105 := Aside0.mk (Kd.R_elder' por1_1 (Kd.R_base ho0) hb); replace HB := Aside0.mk (below_step pbb2_3 hb); (try clear hb); (try clear hb2); (try clear hk); (try clear hi); (try clear ho0); obtain ⟨Ao12, co12, eo12⟩ := Kd.R_slice HO105.out; subst eo12; obtain ⟨Ao13, co13, eo13⟩ := Kd.R_slice HO108.out; subst eo13) | ((with_reducible refine gate_callee (f := 16) rfl ?_); refine goesL_ (some 11) rfl rfl Tryd.func16 (by kernel_rfl) rfl #[.slice Ao12 t103.length co12, .slice Ao13 t106.length co13] rfl pbb2_2 ?_; (with_reducible refine (F16.calls k _ _ t103 _ _ t106 true _ (by repeat (first | exact (Kd.R_reads' HO105.out).2.2 | (with_reducible refine Kd.C_alloc ?_ _) | (with_reducible refine Kd.C_drewN ?_ _) | (with_reducible refine Kd.C_drew ?_))) (by exact (Kd.R_reads' HO105.out).2.1) (by repeat (first | exact (Kd.R_reads' HO108.out).2.2 | (with_reducible refine Kd.C_alloc ?_ _) | (with_reducible refine Kd.C_drewN ?_ _) | (with_reducible refine Kd.C_drew ?_))) (by exact (Kd.R_reads' HO108.out).2.1) A7.out).mono ?_); rintro e w' ⟨rfl, ⟨nd, rfl⟩⟩; refine ⟨_, rfl, ?_⟩) | (go_at_call 11; (with_reducible refine (F11.calls k A1 c1 l1 t110 _ (by repeat (first | exact (Kd.C_below HR1.out pbb2_3) | (with_reducible refine Kd.C_alloc ?_ _) | (with_reducible refine Kd.C_drewN ?_ _) | (with_reducible refine Kd.C_drew ?_))) HC1.out A9.out).mono ?_); rintro e w14 ⟨rfl, hb⟩; replace HO105 := Aside0.mk (Kd.R_below por1_1 hb); replace HO108 := Aside0.mk (Kd.R_below pbb8_2 hb); replace HB := Aside0.mk (below_step pbb2_3 hb); (try clear hb); (try clear hb2); (try clear hk); (try clear hi)))
   go_ret
   exact ⟨pbb2_5, pbb2_3⟩
  ·replace c8 := Bool.eq_false_iff.mpr c8; subst c8; rw [if_neg (show ¬ (false = true) by decide)] at H; exact absurd H (by simp)
 ·replace c4 := Bool.eq_false_iff.mpr c4; subst c4; rw [if_neg (show ¬ (false = true) by decide)] at H; obtain ⟨t102, A150, H⟩ := bnd H; have A15 := Aside0.mk A150; clear A150; obtain rfl := Option.some.inj H; go_enter Tryd.func5, Tryd.ntmps5
  go_wp2_with (first | ((with_reducible refine gate_callee (f := 10) rfl ?_); refine goesL_ (some 4) rfl rfl Tryd.func10 (by kernel_rfl) rfl #[.slice A0 l0.length c0] rfl pbb2_2 ?_; (with_reducible refine (F10.calls k _ _ l0 false _ pbb3_6 HC0.out A3.out).mono ?_); rintro e w' ⟨rfl, ⟨nd, rfl⟩⟩; refine ⟨_, rfl, ?_⟩) | ((with_reducible refine gate_callee (f := 11) rfl ?_); refine goesL_ (some 6) rfl rfl Tryd.func11 (by kernel_rfl) rfl #[] rfl pbb2_2 ?_; (with_reducible refine (F11.calls k A1 c1 l1 t102 _ (by repeat (first | exact HR1.out | (with_reducible refine Kd.C_alloc ?_ _) | (with_reducible refine Kd.C_drewN ?_ _) | (with_reducible refine Kd.C_drew ?_))) HC1.out A15.out).mono ?_); rintro e w16 ⟨rfl, hb⟩; refine ⟨_, rfl, ?_⟩; replace HB := Aside0.mk (below_step pbb2_3 hb); (try clear hb); (try clear hb2); (try clear hk); (try clear hi)))
  go_ret
  exact ⟨pbb2_5, pbb2_3⟩
end Go.Proofs.YtegpappenmhndaaDoor.M
end
section
namespace Go.Proofs.YtegpappenmhndaaDoorW.PrintLast
open Go.RowKit Go.Proofs.YtegpappenmhndaaDoorW.PrintWords
section
variable {P : Program} {α β : Type}
structure Opens (P : Program) (d : Kd α) (t : TypeId) (G : α → Prop) : Prop where
  get : ∀ {H : Type} (enc : TypeId × Value → H) (W : World) (base : Nat) (sp : Nat → Bool) (held : Bool) (fuel : Nat) (cs : List Value) (x : DataW H × List MemPlace), DataW.trod enc P W base sp held fuel t cs = some x → (∀ n ∈ DataW.weights P t x.1, n ≤ reachBytes) → ∃ a : α, d.K W a cs ∧ G a
theorem Opens.imp {d : Kd α} {t : TypeId} {G G' : α → Prop} (h : Opens P d t G) (hg : ∀ a, G a → G' a) : Opens P d t G' :=
  ⟨fun enc W base sp held fuel cs x hx hw => let ⟨a, h1, h2⟩ := h.get enc W base sp held fuel cs x hx hw; ⟨a, h1, hg a h2⟩⟩
theorem Opens.int {t : TypeId} {k : IntKind} (ht : P.underlying t = some (.int k)) : Opens P (Kd.int k) t (fun n => (Lit.int k n).wf = true) :=
  ⟨fun enc W base sp held fuel cs x hx hw => by
    obtain ⟨n, rfl, _, h⟩ := DataW.trod_int ht hx; exact ⟨n, rfl, h⟩⟩
theorem Opens.bool {t : TypeId} (ht : P.underlying t = some .bool) : Opens P Kd.bool t (fun _ => True) :=
  ⟨fun enc W base sp held fuel cs x hx hw => by
    obtain ⟨n, rfl, _⟩ := DataW.trod_bool ht hx; exact ⟨n, rfl, trivial⟩⟩
theorem Opens.string {t : TypeId} (ht : P.underlying t = some .string) : Opens P Kd.string t (fun s => s.size ≤ 140737488351232) :=
  ⟨fun enc W base sp held fuel cs x hx hw => by
    obtain ⟨s, rfl, rfl, h⟩ := DataW.trod_string ht hx; have := hw s.data.toList.length (by simp [DataW.weights]); rw [Array.length_toList] at this; exact ⟨s, rfl, this⟩⟩
theorem list_of {Q : Nat → α → Prop} : ∀ n : Nat, (∀ i, i < n → ∃ a, Q i a) → ∃ xs : List α, xs.length = n ∧ ∀ i a, xs[i]? = some a → Q i a
  | 0, _ => ⟨[], rfl, fun i a h => by simp at h⟩
  | n + 1, h => by
    obtain ⟨xs, hl, hx⟩ := list_of n (fun i hi => h i (by omega)); obtain ⟨a, ha⟩ := h n (by omega); refine ⟨xs ++ [a], by simp [hl], fun i b hb => ?_⟩
    by_cases hi : i < n
    · rw [List.getElem?_append_left (by omega)] at hb; exact hx i b hb
    · have hi2 : i < n + 1 := by have := (List.getElem?_eq_some_iff.1 hb).1; simp [hl] at this; exact this
      obtain rfl : i = n := by omega
      rw [List.getElem?_append_right (by omega), hl] at hb
      simp at hb
      subst hb; exact ha
theorem Opens.slice {d : Kd α} {t e : TypeId} {G : α → Prop} (ht : P.underlying t = some (.slice e)) (h : Opens P d e G) (hc : P.cellsOf e = d.sz) {b : Nat} (hb : P.bytesOf e = b) : Opens P (Kd.slice e d) t (fun xs => xs.length * b ≤ 140737488351232 ∧ ∀ x ∈ xs, G x) :=
  ⟨fun {H} enc W base sp held fuel cs x hx hw => by
    rcases DataW.trod_slice ht hx with ⟨rfl, rfl⟩ | ⟨a, len, cap, elems, rest, n, rfl, rfl, rfl, hba, hl, hm, hlen, hel, _, _⟩
    · exact ⟨[], ⟨none, 0, rfl, Nat.le_refl _, rfl, by simp, fun h => absurd h (Nat.lt_irrefl 0)⟩, by simp, fun _ h => by simp at h⟩
    · simp only [DataW.weights, ht] at hw; have hw0 := hw _ (List.mem_cons_self ..)
      have each : ∀ i, i < len → ∃ y : α, (∃ c : List Value, c.length = d.sz ∧ d.K W y c ∧ ∀ j u, c[j]? = some u → W.cell? (a.add (i * d.sz + j)) = some u) ∧ G y := by
        intro i hi; have h1 := hel i hi; rw [List.getElem?_eq_getElem (by omega)] at h1; obtain ⟨c, hcs, h2⟩ := Option.bind_eq_some_iff.1 h1; obtain ⟨_, hcl, hcc⟩ := World.cells?_some hcs
        obtain ⟨y, hk, hg⟩ := h.get enc W base sp held n c _ h2 (fun m hm => hw m (List.mem_cons_of_mem _ (List.mem_append_left _ (by
          have : ∀ (l : List (DataW H)) (z : DataW H), z ∈ l → ∀ m ∈ DataW.weights P e z, m ∈ DataW.weightsAll P e l := by
            intro l z hz m hm
            induction l with
            | nil => simp at hz
            | cons y l ih =>
              simp only [DataW.weightsAll, List.mem_append]
              rcases List.mem_cons.1 hz with rfl | hz
              · exact .inl hm
              · exact .inr (ih hz)
          exact this _ _ (List.mem_map.2 ⟨_, List.getElem_mem (by omega), rfl⟩) m hm))))
        refine ⟨y, ⟨c, by rw [hcl, hc], hk, fun j u hu => ?_⟩, hg⟩; have hj : j < c.length := (List.getElem?_eq_some_iff.1 hu).1; rw [hc] at hcc; have := hcc j (by omega); rw [add_add] at this; rw [this, hu]
      obtain ⟨ys, hyl, hy⟩ := list_of len each; refine ⟨ys, ⟨some a, cap, by rw [hyl], by omega, rfl, ?_, fun _ => ⟨a, rfl, fun j p hj => (hy j p hj).1⟩⟩, ?_, fun y hy' => ?_⟩
      · unfold maxLen at hm; omega
      · rw [hyl]; have h2 : (elems.map (·.1)).length + (rest.map (·.1)).length ≥ len := by simp; omega
        have h3 : len * b ≤ ((elems.map (·.1)).length + (rest.map (·.1)).length) * P.bytesOf e := by rw [hb]; exact Nat.mul_le_mul_right _ h2
        exact Nat.le_trans h3 hw0
      · obtain ⟨j, hj⟩ := List.getElem?_of_mem hy'; exact (hy j y hj).2⟩
theorem Opens.iso {d : Kd α} {t : TypeId} {G : α → Prop} (h : Opens P d t G) (f : β → α) (g : α → β) (hg : ∀ a, f (g a) = a) : Opens P (Kd.iso d f) t (fun b => G (f b)) :=
  ⟨fun enc W base sp held fuel cs x hx hw => let ⟨a, h1, h2⟩ := h.get enc W base sp held fuel cs x hx hw; ⟨g a, by show d.K W (f (g a)) cs; rw [hg]; exact h1, by rw [hg]; exact h2⟩⟩
structure FOpens (P : Program) (d : Kd α) (fs : List Field) (o : Nat) (G : α → Prop) : Prop where
  get : ∀ {H : Type} (enc : TypeId × Value → H) (W : World) (base : Nat) (sp : Nat → Bool) (held : Bool) (n : Nat) (cs : List Value) (xs : List (DataW H × List MemPlace)), o + d.sz = cs.length → xs.length = fs.length →
    (∀ (i : Nat) (f : Field), fs[i]? = some f → DataW.trod enc P W base sp held n f.type ((cs.drop f.offset).take (P.cellsOf f.type)) = xs[i]?) → (∀ m ∈ DataW.weightsEach P (fs.map (·.type)) (xs.map (·.1)), m ≤ reachBytes) → ∃ a : α, d.K W a (cs.drop o) ∧ G a
theorem FOpens.one {d : Kd α} {f : Field} {o : Nat} {G : α → Prop} (h : Opens P d f.type G) (ho : f.offset = o) (hs : P.cellsOf f.type = d.sz) : FOpens P d [f] o G :=
  ⟨fun enc W base sp held n cs xs hl hx ht hw => by
    obtain ⟨x, rfl⟩ := List.length_eq_one_iff.1 hx; have h1 := ht 0 f rfl; rw [ho, hs, List.take_of_length_le (by simp; omega)] at h1; exact h.get enc W base sp held n _ x h1 (fun m hm => hw m (by simpa [DataW.weightsEach] using hm))⟩
theorem FOpens.cons {d : Kd α} {d2 : Kd β} {f : Field} {fs : List Field} {o : Nat} {G : α → Prop} {G2 : β → Prop} (h : Opens P d f.type G) (ho : f.offset = o) (hs : P.cellsOf f.type = d.sz) (hr : FOpens P d2 fs (o + d.sz) G2) : FOpens P (Kd.pair d d2) (f :: fs) o (fun p => G p.1 ∧ G2 p.2) :=
  ⟨fun enc W base sp held n cs xs hl hx ht hw => by
    cases xs with
    | nil => simp at hx
    | cons x xs =>
      have h1 := ht 0 f rfl; simp only [List.getElem?_cons_zero] at h1; rw [ho, hs] at h1; have e : o + (Kd.pair d d2).sz = o + d.sz + d2.sz := by show o + (d.sz + d2.sz) = _; omega
      obtain ⟨a, ha, hga⟩ := h.get enc W base sp held n _ x h1 (fun m hm => hw m (by simp only [List.map_cons, DataW.weightsEach, List.mem_append]; exact .inl hm)); obtain ⟨b, hb, hgb⟩ := hr.get enc W base sp held n cs xs (by omega) (by simpa using hx) (fun i f' hf => by simpa using ht (i + 1) f' (by simpa using hf)) (fun m hm => hw m (by simp only [List.map_cons, DataW.weightsEach, List.mem_append]; exact .inr hm)); refine ⟨(a, b), ⟨_, _, ?_, ha, hb⟩, hga, hgb⟩; rw [← List.drop_drop, List.take_append_drop]⟩
theorem Opens.struct {d : Kd α} {t : TypeId} {fs : Array Field} {G : α → Prop} (ht : P.underlying t = some (.struct fs)) (hs : P.cellsOf t = d.sz) (h : FOpens P d fs.toList 0 G) : Opens P d t G :=
  ⟨fun enc W base sp held fuel cs x hx hw => by
    obtain ⟨xs, n, rfl, rfl, hl, hxl, hi⟩ := DataW.trod_struct ht hx; simp only [DataW.weights, ht] at hw; have := h.get enc W base sp held n cs xs (by omega) (by simpa using hxl) (fun i f hf => hi i f (by simpa using hf)) hw
    simpa using this⟩
theorem weights_at {H : Type} {ts : List TypeId} {ds : List (DataW H)} (h : (DataW.weightsEach P ts ds).all (· ≤ reachBytes) = true) {j : Nat} {t : TypeId} {d : DataW H} (ht : ts[j]? = some t) (hd : ds[j]? = some d) : ∀ n ∈ DataW.weights P t d, n ≤ reachBytes :=
  fun n hn => by simpa using List.all_eq_true.1 h _ (DataW.weights_mem_each ht hd n hn)
end
end Go.Proofs.YtegpappenmhndaaDoorW.PrintLast
end
section
namespace Go.Proofs.YtegpappenmhndaaDoor.M
open Go.RowKit Go.Proofs.YtegpappenmhndaaDoorW.PrintWords Go.Proofs.YtegpappenmhndaaDoorW.PrintLast Go.Proofs.YtegpappenmhndaaDoorW.PrintMore
attribute [local go_sem] max2_int min2_int max_two min_two max_three min_three max_four min_four
set_option linter.unusedVariables false
set_option linter.unusedSimpArgs false
def G23 (x_ : S23) : Prop := ((Lit.int .i64 x_.f0).wf = true) ∧ (((Lit.int .i64 x_.f1).wf = true) ∧ ((x_.f2.size ≤ 140737488351232) ∧ (((Lit.int .i64 x_.f3).wf = true) ∧ (((Lit.int .i64 x_.f4).wf = true) ∧ (((Lit.int .i64 x_.f5).wf = true) ∧ ((x_.f6.size ≤ 140737488351232) ∧ ((Lit.int .i64 x_.f7).wf = true)))))))
theorem opens23 : Opens Tryd.prog k23 23 G23 :=
  Opens.imp (Opens.iso (Opens.struct Tryd.underlying23 (by kernel_rfl) (FOpens.cons (Opens.int Tryd.underlying3) rfl (by kernel_rfl) (FOpens.cons (Opens.int Tryd.underlying3) rfl (by kernel_rfl) (FOpens.cons (Opens.string Tryd.underlying9) rfl (by kernel_rfl) (FOpens.cons (Opens.int Tryd.underlying3) rfl (by kernel_rfl) (FOpens.cons (Opens.int Tryd.underlying3) rfl (by kernel_rfl) (FOpens.cons (Opens.int Tryd.underlying3) rfl (by kernel_rfl) (FOpens.cons (Opens.string Tryd.underlying9) rfl (by kernel_rfl) (FOpens.one (Opens.int Tryd.underlying3) rfl (by kernel_rfl)))))))))) (fun x : S23 => (x.f0, x.f1, x.f2, x.f3, x.f4, x.f5, x.f6, x.f7)) (fun p => (⟨p.1, p.2.1, p.2.2.1, p.2.2.2.1, p.2.2.2.2.1, p.2.2.2.2.2.1, p.2.2.2.2.2.2.1, p.2.2.2.2.2.2.2⟩ : S23)) (fun _ => rfl)) (fun _ h => h)
def G44 (x_ : S44) : Prop := (x_.f0.length * 8 ≤ 140737488351232 ∧ ∀ y0_ ∈ x_.f0, (Lit.int .i64 y0_).wf = true) ∧ (((Lit.int .i64 x_.f1).wf = true) ∧ ((True) ∧ ((Lit.int .i64 x_.f3).wf = true)))
theorem opens44 : Opens Tryd.prog k44 44 G44 :=
  Opens.imp (Opens.iso (Opens.struct Tryd.underlying44 (by kernel_rfl) (FOpens.cons (Opens.slice Tryd.underlying37 (Opens.int Tryd.underlying3) (by kernel_rfl) (b := 8) (by kernel_rfl)) rfl (by kernel_rfl) (FOpens.cons (Opens.int Tryd.underlying3) rfl (by kernel_rfl) (FOpens.cons (Opens.bool Tryd.underlying4) rfl (by kernel_rfl) (FOpens.one (Opens.int Tryd.underlying3) rfl (by kernel_rfl)))))) (fun x : S44 => (x.f0, x.f1, x.f2, x.f3)) (fun p => (⟨p.1, p.2.1, p.2.2.1, p.2.2.2⟩ : S44)) (fun _ => rfl)) (fun _ h => h)
/-- THE ONE PURE STATEMENT of F5. -/
def F5.Pure : Prop := ∀ (x0 : List (S23)), (x0.length * 80 ≤ 140737488351232 ∧ ∀ y0_ ∈ x0, G23 y0_) → ∃ k, F5.f k x0 months = some true
end Go.Proofs.YtegpappenmhndaaDoor.M
end
section
namespace Go.Proofs.YtegpappenmhndaaDoor.M
open Go.RowKit Go.Proofs.YtegpappenmhndaaDoorW.PrintWords Go.Proofs.YtegpappenmhndaaDoorW.PrintLast
set_option linter.unusedVariables false
set_option linter.unusedSimpArgs false
def aftP (m y : Mv) : Prop := m.f1 < y.f1 ∨ (m.f1 = y.f1 ∧ m.f0 < y.f0)
instance (m y : Mv) : Decidable (aftP m y) := by unfold aftP; infer_instance
theorem aft_iff (m y : Mv) : aft m y = true ↔ aftP m y := by simp [aft, aftP]
theorem gtm_iff (m y : Mv) : gtm m y = true ↔ aftP m y := by
 unfold gtm aftP
 rw [show (y.f1 == m.f1) = (m.f1 == y.f1) from Bool.beq_comm]
 simp
def leM (x y : Mv) : Prop := ¬ aftP y x
theorem leM_trans {x y z : Mv} (h : leM x y) (g : leM y z) : leM x z := by unfold leM aftP at *; omega
theorem leM_total (x y : Mv) : leM x y ∨ leM y x := by unfold leM aftP; omega
theorem aft_leM {m y : Mv} (h : aftP m y) : leM m y := by unfold leM aftP at *; omega
theorem mvAt_get (l : List Mv) (i : Nat) (h : i < l.length) : mvAt l i = l[i] := by
 simp [mvAt, rd_T23, List.getD_eq_getElem?_getD, h]
def At (p : Nat → Bool) (n k : Nat) : Prop := k ≤ n ∧ (∀ i, i < k → p i = false) ∧ ∀ i, k ≤ i → i < n → p i = true
theorem At.uniq {p : Nat → Bool} {n k j : Nat} (h : At p n k) (g : At p n j) : k = j := by
 rcases Nat.lt_trichotomy k j with c | c | c
 ·have h1 := h.2.2 k (Nat.le_refl _) (by have := g.1; omega); have h2 := g.2.1 k c; rw [h1] at h2; cases h2
 ·exact c
 ·have h1 := g.2.2 j (Nat.le_refl _) (by have := h.1; omega); have h2 := h.2.1 j c; rw [h1] at h2; cases h2
theorem bsr_at (p : Nat → Bool) (n : Nat) (hp : ∀ i j, i ≤ j → j < n → p i = true → p j = true) : ∀ (f lo hi : Nat), hi - lo ≤ f → lo ≤ hi → hi ≤ n → (∀ i, i < lo → p i = false) → (∀ i, hi ≤ i → i < n → p i = true) → At p n (bsr p f lo hi)
 | 0, lo, hi, h, h1, h2, h3, h4 => by
  obtain rfl : lo = hi := by omega
  exact ⟨h2, h3, h4⟩
 | f + 1, lo, hi, h, h1, h2, h3, h4 => by
  unfold bsr
  by_cases c : lo < hi
  ·rw [if_pos c]
   by_cases d : p ((lo + hi) / 2) = true
   ·rw [if_pos d]; exact bsr_at p n hp f lo ((lo + hi) / 2) (by omega) (by omega) (by omega) h3 (fun i hi1 hi2 => hp _ i hi1 hi2 d)
   ·rw [if_neg d]; refine bsr_at p n hp f ((lo + hi) / 2 + 1) hi (by omega) (by omega) h2 (fun i hi1 => ?_) h4
    cases e : p i with
    | false => rfl
    | true => exact absurd (hp i _ (by omega) (by omega) e) d
  ·rw [if_neg c]; obtain rfl : lo = hi := by omega
   exact ⟨h2, h3, h4⟩
theorem refpos_at (p : Nat → Bool) (n : Nat) (hp : ∀ i j, i ≤ j → j < n → p i = true → p j = true) : ∀ k, k ≤ n → (∀ i, k ≤ i → i < n → p i = true) → At p n (refpos p k)
 | 0, h, h1 => show At p n 0 from ⟨h, fun i hi => absurd hi (by omega), h1⟩
 | k + 1, h, h1 => by
  unfold refpos
  by_cases d : p k = true
  ·rw [if_pos d]; refine refpos_at p n hp k (by omega) (fun i h2 h3 => ?_)
   by_cases e : i = k
   ·rw [e]; exact d
   ·exact h1 i (by omega) h3
  ·rw [if_neg d]; refine ⟨h, fun i hi => ?_, h1⟩
   cases e : p i with
   | false => rfl
   | true => exact absurd (hp i k (by omega) (by omega) e) d
def insv' (o : List Mv) (m : Mv) : List Mv := o.takeWhile (fun y => ! aft m y) ++ m :: o.dropWhile (fun y => ! aft m y)
theorem tw_at (m : Mv) : ∀ (o : List Mv), o.Pairwise leM → ∃ k, At (fun i => aft m (mvAt o i)) o.length k ∧ o.takeWhile (fun y => ! aft m y) = o.take k ∧ o.dropWhile (fun y => ! aft m y) = o.drop k
 | [], _ => ⟨0, ⟨Nat.le_refl _, by simp, by simp⟩, rfl, rfl⟩
 | y :: r, h => by
  obtain ⟨hy, hr⟩ := List.pairwise_cons.1 h
  by_cases c : aft m y = true
  ·refine ⟨0, ⟨by simp, by simp, fun i _ hi => ?_⟩, by simp [c], by simp [c]⟩; show aft m (mvAt (y :: r) i) = true; rw [mvAt_get _ _ hi]; rw [aft_iff] at c ⊢
   cases i with
   | zero => exact c
   | succ i =>
    have := hy (r[i]'(by simpa using hi)) (List.getElem_mem _); simp only [List.getElem_cons_succ]
    unfold leM aftP at *
    omega
  ·obtain ⟨k, ⟨h1, h2, h3⟩, h4, h5⟩ := tw_at m r hr; have c' : aft m y = false := by simpa using c
   refine ⟨k + 1, ⟨by simpa using h1, fun i hi => ?_, fun i hi1 hi2 => ?_⟩, by simp [c', h4], by simp [c', h5]⟩
   ·cases i with
    | zero => exact c'
    | succ i =>
     have := h2 i (by omega)
     simpa [mvAt, rd_T23] using this
   ·cases i with
    | zero => omega
    | succ i =>
     have := h3 i (by omega) (by simpa using hi2)
     simpa [mvAt, rd_T23] using this
theorem mono_of {o : List Mv} (h : o.Pairwise leM) (m : Mv) : ∀ i j, i ≤ j → j < o.length → aft m (mvAt o i) = true → aft m (mvAt o j) = true := by
 intro i j hij hj hp
 rcases Nat.lt_or_ge i j with c | c
 ·rw [mvAt_get _ _ (by omega), aft_iff] at hp; rw [mvAt_get _ _ hj, aft_iff]; have := List.pairwise_iff_getElem.1 h i j (by omega) hj c
  unfold leM aftP at *
  omega
 ·obtain rfl : i = j := by omega
  exact hp
theorem insv_eq {o : List Mv} (h : o.Pairwise leM) (m : Mv) : insv m o m = insv' o m := by
 obtain ⟨k, h1, h2, h3⟩ := tw_at m o h; have e := (bsr_at _ _ (mono_of h m) o.length 0 o.length (by omega) (by omega) (by omega) (by intro i hi; omega) (by intro i hi hj; omega)).uniq h1
 unfold insv insv'
 rw [e, h2, h3]
theorem gtm_eq : (fun (m : Mv) (o : List Mv) i => gtm m (mvAt o i)) = fun m o i => aft m (mvAt o i) := by
 funext m o i
 rw [Bool.eq_iff_iff, gtm_iff, aft_iff]
theorem insr_eq {o : List Mv} (h : o.Pairwise leM) (m : Mv) : insr o m = insv' o m := by
 obtain ⟨k, h1, h2, h3⟩ := tw_at m o h; have hg : (fun i => gtm m (mvAt o i)) = fun i => aft m (mvAt o i) := congrFun (congrFun gtm_eq m) o; have e := (refpos_at _ _ (mono_of h m) o.length (by omega) (by intro i hi hj; omega)).uniq h1
 unfold insr insv'
 rw [hg, e, h2, h3]
theorem insv'_perm (o : List Mv) (m : Mv) : (insv' o m).Perm (m :: o) := by
 unfold insv'
 have := List.takeWhile_append_dropWhile (p := fun y => ! aft m y) (l := o); refine List.perm_middle.trans ?_; rw [this]
theorem insv'_sorted {o : List Mv} (h : o.Pairwise leM) (m : Mv) : (insv' o m).Pairwise leM := by
 obtain ⟨k, ⟨h1, h2, h3⟩, h4, h5⟩ := tw_at m o h
 unfold insv'
 rw [h4, h5]
 have ht : ∀ y ∈ o.take k, leM y m := by
  intro y hy; obtain ⟨i, hi, rfl⟩ := List.mem_iff_getElem.1 hy; have hi' : i < k := by simp at hi; omega
  have := h2 i hi'; rw [List.getElem_take]; have h9 : ¬ aft m (mvAt o i) = true := fun h => by have := this.symm.trans h; cases this
  rw [aft_iff, mvAt_get _ _ (by omega)] at h9; exact h9
 have hd : ∀ y ∈ o.drop k, leM m y := by
  intro y hy; obtain ⟨i, hi, rfl⟩ := List.mem_iff_getElem.1 hy; have hi' : k + i < o.length := by simp at hi; omega
  have := h3 (k + i) (by omega) hi'; rw [List.getElem_drop]; rw [aft_iff, mvAt_get _ _ hi'] at this; exact aft_leM this
 refine List.pairwise_append.2 ⟨h.sublist (List.take_sublist _ _), List.pairwise_cons.2 ⟨hd, h.sublist (List.drop_sublist _ _)⟩, ?_⟩; intro x hx y hy
 rcases List.mem_cons.1 hy with e | e
 ·rw [e]; exact ht x hx
 ·exact leM_trans (ht x hx) (hd y e)
def ordv (l : List Mv) : List Mv := l.foldl insv' []
theorem fold_both : ∀ (l o : List Mv), o.Pairwise leM → l.foldl (fun o m => insv m o m) o = l.foldl insv' o ∧ l.foldl insr o = l.foldl insv' o ∧ (l.foldl insv' o).Pairwise leM ∧ (l.foldl insv' o).Perm (o ++ l)
 | [], o, h => ⟨rfl, rfl, h, by simp⟩
 | m :: l, o, h => by
  obtain ⟨h1, h2, h3, h4⟩ := fold_both l (insv' o m) (insv'_sorted h m); simp only [List.foldl_cons, insv_eq h, insr_eq h]; refine ⟨h1, h2, h3, h4.trans ?_⟩; exact (List.Perm.append_right l (insv'_perm o m)).trans (List.perm_middle (a := m) (l₁ := o) (l₂ := l)).symm
theorem ordv_sorted (l : List Mv) : (ordv l).Pairwise leM := (fold_both l [] List.Pairwise.nil).2.2.1
theorem ordv_perm (l : List Mv) : (ordv l).Perm l := (fold_both l [] List.Pairwise.nil).2.2.2
theorem ordv_length (l : List Mv) : (ordv l).length = l.length := (ordv_perm l).length_eq
theorem F17.eq {l : List Mv} (h : l.length ≤ 1000000) : F17.f l = some (ordv l) := by
 unfold F17.f ordv
 rw [if_pos h, (fold_both l [] List.Pairwise.nil).1]
theorem F18.eq {l : List Mv} (h : l.length ≤ 1000000) : F18.f l = some (ordv l) := by
 unfold F18.f ordv
 rw [if_pos h, (fold_both l [] List.Pairwise.nil).2.1]
theorem F16.go (L : List Mv) (hs : L.length < 100000000000000) : ∀ (d : Nat) (i : Int), i + d = L.length → 0 ≤ i → Ev (fun k => F16.l0 k L L i) true
 | 0, i, h, h0 => by
  refine Ev.succ ?_; simp only [F16.l0, if_neg (show ¬ i < (L.length : Int) by omega)]; exact Ev.const _
 | d + 1, i, h, h0 => by
  refine Ev.succ ?_; simp only [F16.l0, if_pos (show i < (L.length : Int) by omega), if_pos h0, beq_self_eq_true, Bool.not_true, Bool.or_self, Bool.false_eq_true, if_false]; rw [w64 (n := i + 1) (by omega) (by omega)]; exact F16.go L hs d (i + 1) (by omega) (by omega)
theorem F16.self (L : List Mv) (hs : L.length < 100000000000000) : Ev (fun k => F16.f k L L) true := by
 unfold F16.f
 simp only [if_true]; exact F16.go L hs L.length 0 (by omega) (by omega)
end Go.Proofs.YtegpappenmhndaaDoor.M
end
section
namespace Go.Proofs.YtegpappenmhndaaDoor.M
open Go.RowKit Go.Proofs.YtegpappenmhndaaDoorW.PrintWords Go.Proofs.YtegpappenmhndaaDoorW.PrintLast
set_option linter.unusedVariables false
theorem pure_MovesOrder : F5.Pure := by
 intro l hl; refine Ev.out (g := fun k => F5.f k l months) ?_
 unfold F5.f
 obtain ⟨b, hb, hb2⟩ := F10.ok l; refine Ev.bind hb ?_
 cases b with
 | false => simp only [Bool.false_eq_true, if_false]; exact Ev.bind F11.true (Ev.const _)
 | true =>
  have h40 := hb2 rfl; simp only [if_true, F17.eq (l := l) (by omega), F18.eq (l := l) (by omega), Option.bind_some]; refine Ev.bind (F16.self _ (by rw [ordv_length]; omega)) ?_; simp only [if_true]; exact Ev.bind F11.true (Ev.const _)
end Go.Proofs.YtegpappenmhndaaDoor.M
namespace Go.Proofs.YtegpappenmhndaaDoor.Pure
theorem MovesOrder : M.F5.Pure := M.pure_MovesOrder
end Go.Proofs.YtegpappenmhndaaDoor.Pure
end
section
namespace Go.Proofs.YtegpappenmhndaaDoor.M
open Go.ChangeShapes Go.WideShapes Go.ChangeAt Go.RowKit Go.Proofs.YtegpappenmhndaaDoorW.PrintWords Go.Proofs.YtegpappenmhndaaDoorW.PrintLast
abbrev laidL : List (String × DataW Unit) := [("accounting/days.lengths", Rows.laid_accounting_days_lengths)]
theorem gLen : Tryd.prog.globalNamed "accounting/days.lengths" = some 0 := by kernel_rfl
theorem tLen : (Tryd.prog.globals[0]?).map (·.type) = some 91 := by kernel_rfl
theorem cLen : Tryd.prog.cellsOf 91 = 12 := by kernel_rfl
theorem cInt : Tryd.prog.cellsOf 3 = 1 := by kernel_rfl
set_option maxRecDepth 100000 in
theorem tab_of_laid {W : World} (h : laidMetH Tryd.prog laidL W) : Tab W := by
 rw [MakeChecks.laidMetH_plain _ _ _ (by kernel_rfl)] at h; obtain ⟨ps, ⟨g0, t0, cs0, f0, p0, q0, hg0, ht0, hv0, hd0, _⟩, _⟩ := h; obtain rfl := Option.some.inj (gLen.symm.trans hg0); obtain rfl := Option.some.inj (tLen.symm.trans ht0); obtain ⟨xs, m1, rfl, hx1, hlen, hn3, hel⟩ := DataW.trod_array Tryd.underlying91 hd0
 have hxs : xs.map (·.1) = months.map (fun n => (DataW.lit (.int .i64 n) : DataW Unit)) := by
  have e := congrArg (fun y : DataW Unit × List MemPlace => y.1) hx1
  unfold Rows.laid_accounting_days_lengths at e
  injection e with e
  exact e.symm
 have each : ∀ i, i < 12 → cs0.toList[i]? = (months[i]?).map (Value.int .i64) := by
  intro i hi; have h1 := hel i hi; rw [cInt, Nat.mul_one] at h1; obtain ⟨x, hx⟩ : ∃ x, xs[i]? = some x := ⟨xs[i], List.getElem?_eq_getElem (by omega)⟩; rw [hx] at h1; obtain ⟨n, e1, e2, _⟩ := DataW.trod_int Tryd.underlying3 h1; have e3 := congrArg (fun l => l[i]?) hxs; simp only [List.getElem?_map, hx, Option.map_some, e2] at e3; have e4 := congrArg (fun l => l[0]?) e1; simp only [List.getElem?_take, List.getElem?_drop, Nat.add_zero, Nat.zero_lt_one, if_true, List.getElem?_cons_zero] at e4; rw [e4]
  cases hm : months[i]? with
  | none => rw [hm] at e3; cases e3
  | some m =>
   rw [hm] at e3; simp only [Option.map_some, Option.some.injEq, DataW.lit.injEq, Lit.int.injEq, true_and] at e3; rw [e3]
   rfl
 have hcs : cs0 = (months.map (Value.int .i64)).toArray := by
  rw [← Array.toList_inj]; apply List.ext_getElem?; intro i
  by_cases hi : i < 12
  ·rw [each i hi, List.getElem?_map]
  ·rw [List.getElem?_eq_none (by rw [hlen, cLen]; omega), List.getElem?_eq_none (by simp [months]; omega)]
 have hv := hv0; simp only [World.var?, gLen, Option.bind_some] at hv
 split at hv
 ·rename_i cs t fr hb
  obtain rfl := Option.some.inj hv; exact ⟨t, fr, by rw [hb, hcs]⟩
 ·cases hv
theorem door_met (os : Os) (args : Array Value) : laidMetH Tryd.prog laidL ((World.doorLaid Tryd.prog 400 os).forCall (fun _ _ => 0) ⟨#[], args, []⟩).memory :=
 laidMetH_of_parts3 (fuel := 8) (laidMet_of_run' 8 (by kernel_rfl) (by kernel_rfl)) (by kernel_rfl) (by kernel_rfl)
end Go.Proofs.YtegpappenmhndaaDoor.M
end
section
namespace Go.Proofs.YtegpappenmhndaaDoor.movesOrder
open Go.ChangeShapes Go.WideShapes Go.ChangeAt Go.RowKit Go.Proofs.YtegpappenmhndaaDoor.M Go.Proofs.YtegpappenmhndaaDoorW.PrintWords Go.Proofs.YtegpappenmhndaaDoorW.PrintLast
open Go.ChangeMaps (open_string shut_string)
set_option linter.unusedVariables false
theorem own : ownKnob Tryd.prog.godebug = none := by kernel_rfl
theorem laidOut : laidOutB Tryd.prog = true := by kernel_rfl
set_option maxRecDepth 100000 in
set_option maxHeartbeats 4000000 in
theorem lifted (os : Os) (started : os.Started) (H : Type) (enc : TypeId × Value → H) :
  ReturnsInHanded {} Tryd.checked os 5 .any (fun w args => (Rows.movesOrderSpec.pre enc Tryd.prog Tryd.f5 Rows.movesOrderRow.domain false w args ∧ laidMetH Tryd.prog Rows.movesOrderRow.laid w) ∧ sizedMet enc Tryd.prog Tryd.f5 (OpenSpec.ofChange Rows.movesOrderSpec) false w args) (Rows.movesOrderSpec.post enc Tryd.prog Tryd.f5 false true false false) := by
 refine returnsInHanded_of_change_and (C := Tryd.checked) (X := fun w _ => laidMetH Tryd.prog Rows.movesOrderRow.laid w) (fun _ _ _ hh h => h.of_heap hh) own started (by kernel_rfl) Tryd.func5
  (ChangeSpec.witness_shaped (enc := enc) (C := Tryd.checked) (os := os) (X := fun w _ => laidMetH Tryd.prog Rows.movesOrderRow.laid w) false (World.doorLaid Tryd.prog 400 os) #[.slice none 0 0] 8 rfl (World.shaped_of_RefB (by kernel_rfl) (by kernel_rfl)) (by kernel_rfl) (by kernel_rfl) (by kernel_rfl) (door_met os _)) ?_
 intro W base args ds gs before hval0 hW hcnd hsz0 hL _; have hsz : (DataW.weightsEach Tryd.prog (Tryd.f5.params.toList ++ Rows.movesOrderSpec.plain.varTypes Tryd.prog) (ds ++ gs)).all (· ≤ reachBytes) = true := hsz0; have hval : ∀ (j : Nat) t v, Tryd.f5.params[j]? = some t → args[j]? = some v → Value.okWide Tryd.prog W .any base t v := hval0; have hW' := hW; obtain ⟨p, q, hA0, hV, rfl, hfz, hnd⟩ := hW; have hA : DataW.TrodAll enc Tryd.prog W 0 (fun _ => true) true Tryd.f5.params.toList args.toList ds p := hA0; rw [Tryd.params5] at hA hval hsz; obtain ⟨v0, vs0, d0, ds0, p0, q0, hargs, rfl, rfl, h0, r0⟩ := trodAll_cons hA; obtain ⟨rfl, rfl, rfl⟩ := trodAll_nil r0; obtain rfl : args = #[v0] := by cases args; simp_all
 obtain ⟨rfl, rfl⟩ := trodVars_none hV; obtain ⟨a0, len0, cap0, rfl⟩ := okWide_slice Tryd.underlying25 (hval 0 25 v0 rfl rfl); have k0 := h0; have lt0 : ∀ x ∈ p0, x.block < W.heap.size := by obtain ⟨m, hm⟩ := k0; exact DataW.trod_lt m _ _ _ hm
 obtain ⟨x0, K0, g0⟩ : ∃ x_ : List (S23), (Kd.slice 23 k23).K W x_ [.slice a0 len0 cap0] ∧ (x_.length * 80 ≤ 140737488351232 ∧ ∀ y0_ ∈ x_, G23 y0_) := by obtain ⟨f, hf⟩ := h0; exact ((Opens.slice Tryd.underlying25 opens23 (by kernel_rfl) (b := 80) (by kernel_rfl))).get enc W 0 _ _ f _ _ hf (weights_at hsz (j := 0) (t := 25) rfl rfl)
 obtain ⟨A0, c0, e0, L0, C0⟩ := K0; injection e0 with e0 _
 injection e0 with e0a e0b e0c
 subst e0a e0b e0c; clear hA0 hval0 hsz0 hsz; obtain ⟨k, h⟩ := Pure.MovesOrder x0 g0; refine (M.F5.calls (k := k) (r := true) (w := W) (hr0 := C0) (hc0 := L0) (hr1 := kTab_of (tab_of_laid hL)) (hc1 := Nat.le_refl _) (h := h)).mono fun e W' ⟨he, bel0⟩ => ?_; have bel : Below W.heap.size W W' := by first | exact bel0 | exact bel0.below | (obtain ⟨nd, rfl⟩ := bel0; exact pw_below_drewN (Below.refl _ _) nd)
 subst he; exact ⟨_, rfl, _, _, _, [], _, [], hW', trodAll_mk1 (shut_bool Tryd.underlying4 _), (trodAll_cons_mk (Below.trod laidOut (by kernel_rfl) (of_decide_eq_true (by kernel_rfl)) k0 bel lt0) trodAll_mk0), rfl, bel.frame _, fun h => by cases h⟩
theorem over : Rows.movesOrderRow.holds Tryd.pinned (OpenSpec.ofChange Rows.movesOrderSpec) :=
 OpenClaim.holds_of_wide 5 Tryd.f5 rfl rfl rfl rfl rfl rfl rfl ⟨rfl, rfl, rfl, rfl, rfl⟩ rfl rfl rfl rfl rfl (by kernel_rfl) Tryd.func5 (by kernel_rfl)
  (of_decide_eq_true (by kernel_rfl)) (by unfold Func.isWrapper; first | (rw [if_pos (by decide +kernel)]; kernel_rfl) | (rw [if_neg (by decide +kernel)]; exact ⟨rfl, rfl⟩))
  (fun os started H enc _ => lifted os started H enc)
theorem proved : Rows.MovesOrderCardSaid :=
 Claim7.holds_tied_plain_at .later [] [.data] true (true, "98db53edb2efb439c9ec8dc62e8b94103ef33d00be49343a9acd4b193d3e4474") false
  over (fun _ h => by cases h) (by kernel_rfl) (fun _ h => by cases h) movesOrder_row_tie rfl ⟨rfl, rfl⟩ (by kernel_rfl) rfl
  (fun f fn hf hfn => by
   obtain rfl : f = 5 := Option.some.inj ((show Tryd.prog.funcNamed "accounting/accountinglaw33.MovesOrder" = some 5 by kernel_rfl).symm.trans hf) |>.symm; obtain rfl : fn = Tryd.f5 := (Option.some.inj (Tryd.func5.symm.trans hfn)).symm
   exact ⟨by kernel_rfl, fun j t ht => by
    rw [Tryd.params5] at ht; have hm : t ∈ [25] := by simpa using Array.mem_of_getElem? ht
    have hall : ([25].all fun u => !Tryd.prog.wantsStandIn u) = true := by kernel_rfl
    exact (show Tryd.prog.wantsStandIn t = false by simpa using List.all_eq_true.1 hall t hm)⟩)
  (by kernel_rfl)
#print axioms proved
end Go.Proofs.YtegpappenmhndaaDoor.movesOrder
namespace Go.Proofs.YtegpappenmhndaaDoor
theorem movesOrder_holds : Rows.MovesOrderCardSaid := movesOrder.proved
end Go.Proofs.YtegpappenmhndaaDoor
end
