/- Each share differs from the exact proportion by less than one unit, and a weight of 0 has the share 0: under no condition. Part 3 of 3 of what is the claim's own. -/
import Derived.Test.YtikglhfeookhaaaQB1
import Derived.Test.YtikglhfeookhaaaQB7
import Derived.Test.YtikglhfeookhaaaQB5
import Derived.Test.YtikglhfeookhaaaQNr1
import Derived.Test.YtikglhfeookhaaaQNr2
import Derived.SizedLaws
import Derived.ChangeSlices
import Derived.Test.YtikglhfeookhaaaRows
import Derived.WalkKit
import Derived.ProofKit
import Derived.OpenShut
import Derived.ShutString
import Derived.ChangeOld
import Derived.Below
section
-- Written by mprint.py (a program of this session) over the kit's print.
namespace Go.Proofs.Ytikglhfeookhaaa.M
open Go.RowKit Go.Proofs.YtikglhfeookhaaaW.PrintWords Go.Proofs.YtikglhfeookhaaaW.PrintLast Go.Proofs.YtikglhfeookhaaaW.PrintMore
attribute [local go_sem] max2_int min2_int max_two min_two max_three min_three max_four min_four   -- for this text's walks alone
set_option linter.unusedVariables false
set_option linter.unusedSimpArgs false

/-! ### accountinglaw08_size: function 19 -/
def accountinglaw08_size.f (a0 : Int) : Option (Int) := if a0 < 0 then (some (wrap64 (-a0))) else (some a0)
set_option maxHeartbeats 8000000 in
set_option maxRecDepth 100000 in
theorem accountinglaw08_size.calls (a0 : Int) (r : Int) (w : World) (h : accountinglaw08_size.f a0 = some r) :
    Calls Try.prog 19 #[.int .i64 a0] w fun e w' => e = .returned (.int .i64 r) ∧ Drawn0 w w' := by
 have H : (if a0 < 0 then (some (wrap64 (-a0))) else (some a0)) = some r := h
 clear h
 by_cases c2 : a0 < 0
 ·rw [if_pos c2] at H
  have c2b0 : decide (a0 < 0) = true := decide_eq_true c2
  clear c2
  obtain rfl := Option.some.inj H
  go_enter Try.func19, Try.ntmps19
  go_wp2
  go_ret
  exact ⟨by first | rfl | (simp; done) | (simp [*]; done), by repeat (first | exact Drawn0.refl _ | apply Drawn0.step)⟩
 ·rw [if_neg c2] at H
  have c2b0 : decide (a0 < 0) = false := decide_eq_false c2
  clear c2
  obtain rfl := Option.some.inj H
  go_enter Try.func19, Try.ntmps19
  go_wp2
  go_ret
  exact ⟨by first | rfl | (simp; done) | (simp [*]; done), by repeat (first | exact Drawn0.refl _ | apply Drawn0.step)⟩

end Go.Proofs.Ytikglhfeookhaaa.M
end
section
/- The shares, place by place: which are one more, how they are ordered, what multiplying the weights does. -/
namespace Go.Proofs.Ytikglhfeookhaaa.M
open Go.RowKit Go.Proofs.YtikglhfeookhaaaW.PrintWords Dv
set_option linter.unusedVariables false
theorem rd_map (f : Int → Int) (l : List Int) (i : Int) (h0 : 0 ≤ i) (h1 : i < l.length) : rd (l.map f) i = f (rd l i) := by
  unfold rd
  rw [List.getD_eq_getElem?_getD, List.getD_eq_getElem?_getD, List.getElem?_map, List.getElem?_eq_getElem (show i.toNat < l.length by omega)]
  rfl
theorem Fit.nodup {s : Int} {l : List Int} (h : Fit s l) : ((M.rk (rs s l.sum l)).take (lf s l.sum l).toNat).Nodup := by
  have p : (M.rk (rs s l.sum l)).Nodup := List.Pairwise.imp (S := fun x y => x ≠ y) (fun {x y} q e => (rOrd.tot (rs s l.sum l)).irr x (by rw [← e] at q; exact q)) h.rk.2
  exact p.sublist (List.take_sublist _ _)
/-- Is the part at this place one more? -/
def sel (s : Int) (l : List Int) (i : Int) : Prop := i ∈ (rk (rs s l.sum l)).take (lf s l.sum l).toNat
theorem rd_pos {s : Int} {l : List Int} (h : Fit s l) (i : Int) (h0 : 0 ≤ i) (h1 : i < l.length) : (sel s l i → rd (pos s l) i = s * rd l i / l.sum + 1) ∧ (¬ sel s l i → rd (pos s l) i = s * rd l i / l.sum) := by
  have e : rd (pos s l) i = rd (qs s l.sum l) i + if i ∈ (rk (rs s l.sum l)).take (lf s l.sum l).toNat then 1 else 0 := rd_inc _ _ i h.nodup h.take h0
  have e2 : rd (qs s l.sum l) i = s * rd l i / l.sum := rd_map _ l i h0 h1
  rw [e, e2]
  unfold sel
  refine ⟨fun k => ?_, fun k => ?_⟩
  · rw [if_pos k]
  · rw [if_neg k]; omega
theorem sel_up {s : Int} {l : List Int} (h : Fit s l) {i k : Int} (h0 : 0 ≤ i) (h1 : i < l.length) (o : rOrd (rs s l.sum l) i k) (hk : sel s l k) : sel s l i := by
  have hi : i ∈ rk (rs s l.sum l) := h.rk.1.mem_iff.2 ((mem_idx _ _).2 ⟨h0, h1⟩)
  have he := List.take_append_drop (lf s l.sum l).toNat (rk (rs s l.sum l))
  have hp := h.rk.2
  rw [← he] at hi hp
  rcases List.mem_append.1 hi with q | q
  · exact q
  · have := (List.pairwise_append.1 hp).2.2 k hk i q
    exact absurd o ((rOrd.tot _).asym this)
theorem perm_sum {l m : List Int} (h : l.Perm m) : l.sum = m.sum := by
  induction h with
  | nil => rfl
  | cons x _ ih => simp only [List.sum_cons, ih]
  | swap x y l => simp only [List.sum_cons]; omega
  | trans _ _ a b => rw [a, b]
theorem map_rd_idx : ∀ r : List Int, (idx r.length).map (rd r) = r := by
  intro r
  apply List.ext_getElem
  · simp [idx_length]
  · intro i h1 h2
    simp [idx, rd, List.getElem?_eq_getElem h2]
theorem sel_rest {s : Int} {l : List Int} (h : Fit s l) {i : Int} (hs : sel s l i) : 0 < rd (rs s l.sum l) i := by
  have hb := rs_bounds s l.sum h.t0 l
  have lb := lf_bounds s l h.t0
  have hl : (rk (rs s l.sum l)).length = l.length := by rw [h.rk.1.length_eq, idx_length]
  have hi := h.take i hs
  have hql : (qs s l.sum l).length = (rs s l.sum l).length := by simp [qs, rs]
  rw [hql] at hi
  have h0 := hb _ (rd_mem' _ i hi.1 hi.2)
  rcases Int.lt_or_eq_of_le h0.1 with z | hz
  · exact z
  exfalso
  have he := List.take_append_drop (lf s l.sum l).toNat (rk (rs s l.sum l))
  have hp := h.rk.2
  rw [← he] at hp
  have hd : ∀ j ∈ (rk (rs s l.sum l)).drop (lf s l.sum l).toNat, rd (rs s l.sum l) j = 0 := fun j hj => by
    have o := (List.pairwise_append.1 hp).2.2 i hs j hj
    have hjm := h.rk.1.mem_iff.1 (List.mem_of_mem_drop hj)
    rw [mem_idx] at hjm
    have hj0 := (hb _ (rd_mem' (rs s l.sum l) j hjm.1 (by simp [rs]; omega))).1
    unfold rOrd at o
    omega
  have zero : ∀ D : List Int, (∀ j ∈ D, rd (rs s l.sum l) j = 0) → (D.map (rd (rs s l.sum l))).sum = 0 := by
    intro D
    induction D with
    | nil => intro _; rfl
    | cons x D ih => intro hD; simp only [List.map_cons, List.sum_cons, hD x (by simp), ih (fun j hj => hD j (by simp [hj]))]; rfl
  have tot : ((rk (rs s l.sum l)).map (rd (rs s l.sum l))).sum = (rs s l.sum l).sum := by
    have e1 := perm_sum (h.rk.1.map (rd (rs s l.sum l)))
    rw [e1]
    have e2 : l.length = (rs s l.sum l).length := by simp [rs]
    rw [e2, map_rd_idx]
  rw [← he, List.map_append, List.sum_append, zero _ hd, Int.add_zero] at tot
  obtain ⟨T', hT⟩ : ∃ T', ((rk (rs s l.sum l)).take (lf s l.sum l).toNat).Perm (i :: T') := ⟨_, List.perm_cons_erase hs⟩
  have hlen : ((rk (rs s l.sum l)).take (lf s l.sum l).toNat).length = T'.length + 1 := by rw [hT.length_eq]; rfl
  rw [List.length_take, hl] at hlen
  have e3 := perm_sum (hT.map (rd (rs s l.sum l)))
  rw [List.map_cons, List.sum_cons, ← hz, Int.zero_add] at e3
  have b := sum_rs l.sum (T'.map (rd (rs s l.sum l))) (fun x hx => by
    obtain ⟨j, hj, rfl⟩ := List.mem_map.1 hx
    have := h.take j (hT.mem_iff.2 (by simp [hj]))
    rw [hql] at this
    exact hb _ (rd_mem' _ j this.1 this.2))
  rw [List.length_map] at b
  have e4 : l.sum * lf s l.sum l ≤ l.sum * T'.length := by omega
  have := Int.le_of_mul_le_mul_left e4 h.t0
  omega
/-- The order of the shares. -/
theorem pos_order {s : Int} {l : List Int} (h : Fit s l) {i k : Int} (i0 : 0 ≤ i) (i1 : i < l.length) (k0 : 0 ≤ k) (k1 : k < l.length) (o : rd l i > rd l k ∨ (rd l i = rd l k ∧ i < k)) : rd (pos s l) k ≤ rd (pos s l) i := by
  have pi := rd_pos h i i0 i1
  have pk := rd_pos h k k0 k1
  have ri : rd (rs s l.sum l) i = s * rd l i % l.sum := rd_map _ l i i0 i1
  have rk' : rd (rs s l.sum l) k = s * rd l k % l.sum := rd_map _ l k k0 k1
  have mono : s * rd l k ≤ s * rd l i := Int.mul_le_mul_of_nonneg_left (by omega) h.s0
  have qm := Int.ediv_le_ediv h.t0 mono
  by_cases hq : s * rd l k / l.sum = s * rd l i / l.sum
  · by_cases hk : sel s l k
    · have oo : rOrd (rs s l.sum l) i k := by
        unfold rOrd
        rw [ri, rk']
        have d1 := Int.emod_add_mul_ediv (s * rd l i) l.sum
        have d2 := Int.emod_add_mul_ediv (s * rd l k) l.sum
        rw [hq] at d2
        by_cases he : s * rd l k = s * rd l i
        · rcases o with o | o
          · have : s * (rd l i - rd l k) = 0 := by rw [Int.mul_sub]; omega
            rcases Int.mul_eq_zero.1 this with z | z
            · exfalso
              subst z
              have lz : lf 0 l.sum l = 0 := by
                have := (lf_bounds 0 l h.t0).2.2
                have e : (rs 0 l.sum l).sum = 0 := by
                  have := sum_qr 0 l.sum h.t0 l
                  have hr := sum_rs l.sum (rs 0 l.sum l) (rs_bounds 0 l.sum h.t0 l)
                  have hq : 0 ≤ (qs 0 l.sum l).sum := sum_nonneg _ (fun x hx => (qs_bounds (Int.le_refl 0) (by omega) h.t0 l h.w x hx).1)
                  have : 0 ≤ l.sum * (qs 0 l.sum l).sum := Int.mul_nonneg (by have := h.t0; omega) hq
                  omega
                rw [e] at this
                rcases Int.mul_eq_zero.1 this with z | z
                · have := h.t0; omega
                · exact z
              unfold sel at hk
              rw [lz] at hk
              simp at hk
            · omega
          · right; rw [he]; exact ⟨rfl, o.2⟩
        · left; omega
      rw [pk.1 hk, pi.1 (sel_up h i0 i1 oo hk)]; omega
    · rw [pk.2 hk]
      by_cases hi : sel s l i
      · rw [pi.1 hi]; omega
      · rw [pi.2 hi]; omega
  · have a1 : rd (pos s l) k ≤ s * rd l k / l.sum + 1 := by
      by_cases hk : sel s l k
      · rw [pk.1 hk]; omega
      · rw [pk.2 hk]; omega
    have a2 : s * rd l i / l.sum ≤ rd (pos s l) i := by
      by_cases hi : sel s l i
      · rw [pi.1 hi]; omega
      · rw [pi.2 hi]; omega
    omega
theorem size_shr {a : Int} {l : List Int} (h : shErr a l = 0) (i : Int) (h0 : 0 ≤ i) (h1 : i < l.length) : accountinglaw08_size.f (rd (shr a l) i) = some (rd (pos (if a < 0 then -a else a) l) i) := by
  have F := shErr_le h
  unfold shr accountinglaw08_size.f
  have hb := pos_bounds F _ (rd_mem' (pos (if a < 0 then -a else a) l) i h0 (by rw [pos_length]; exact h1))
  by_cases c : a < 0
  · simp only [if_pos c] at hb ⊢
    rw [rd_map _ _ i h0 (by rw [pos_length]; exact h1)]
    by_cases z : -rd (pos (-a) l) i < 0
    · rw [if_pos z, w64 (by omega) (by omega), Int.neg_neg]
    · rw [if_neg z]; congr 1; omega
  · simp only [if_neg c] at hb ⊢
    rw [if_neg (by omega)]
/-! All weights multiplied. -/
theorem sum_mul (m : Int) : ∀ l : List Int, (l.map (· * m)).sum = l.sum * m
  | [] => by simp
  | x :: l => by simp only [List.map_cons, List.sum_cons, sum_mul m l, Int.add_mul]
theorem qs_mul (s t m : Int) (hm : 0 < m) (l : List Int) : qs s (t * m) (l.map (· * m)) = qs s t l := by
  unfold qs
  rw [List.map_map]
  refine List.map_congr_left (fun w _ => ?_)
  show s * (w * m) / (t * m) = s * w / t
  rw [← Int.mul_assoc]
  exact Int.mul_ediv_mul_of_pos_left _ _ hm
theorem rs_mul (s t m : Int) (hm : 0 < m) (l : List Int) : rs s (t * m) (l.map (· * m)) = (rs s t l).map (· * m) := by
  unfold rs
  rw [List.map_map, List.map_map]
  refine List.map_congr_left (fun w _ => ?_)
  show s * (w * m) % (t * m) = s * w % t * m
  rw [← Int.mul_assoc, Int.mul_comm (s * w) m, Int.mul_comm t m, Int.mul_emod_mul_of_pos _ _ hm, Int.mul_comm]
theorem rd_mul (m : Int) (r : List Int) (i : Int) : rd (r.map (· * m)) i = rd r i * m := by
  unfold rd
  rw [List.getD_eq_getElem?_getD, List.getD_eq_getElem?_getD, List.getElem?_map]
  cases r[i.toNat]? <;> simp
theorem rk_mul (m : Int) (hm : 0 < m) (r : List Int) (h : r.length < 1000) : rk (r.map (· * m)) = rk r := by
  obtain ⟨a, b⟩ := rk_spec r h
  refine (rk_uniq (r.map (· * m)) (rk r) (by simpa using h) (by simpa using a) (b.imp ?_)).symm
  intro x y o
  unfold rOrd at *
  rw [rd_mul, rd_mul]
  rcases o with o | o
  · left; exact Int.mul_lt_mul_of_pos_right o hm
  · right; rw [o.1]; exact ⟨rfl, o.2⟩
theorem pos_mul (s m : Int) (hm : 0 < m) (l : List Int) (hl : l.length < 1000) : pos s (l.map (· * m)) = pos s l := by
  unfold pos lf
  rw [sum_mul, qs_mul s _ m hm, rs_mul s _ m hm, rk_mul m hm _ (by simpa [rs] using hl)]
theorem shr_mul (a m : Int) (hm : 0 < m) (l : List Int) (hl : l.length < 1000) : shr a (l.map (· * m)) = shr a l := by
  unfold shr
  rw [pos_mul _ m hm l hl, pos_mul _ m hm l hl]
theorem shErr_mul (a m : Int) (hm : 0 < m) (l : List Int) (hw : ∀ x ∈ l, 0 ≤ x) (hb : l.sum * m ≤ 1000000000000000) : shErr a (l.map (· * m)) = shErr a l := by
  have h0 := sum_nonneg l hw
  have h1 : l.sum ≤ 1000000000000000 := by
    have : l.sum * 1 ≤ l.sum * m := Int.mul_le_mul_of_nonneg_left (by omega) h0
    omega
  have n1 : ¬ ∃ x ∈ l, x < 0 := by
    rintro ⟨x, hx, k⟩
    have := hw x hx
    omega
  have n2 : ¬ ∃ x ∈ l.map (· * m), x < 0 := by
    rintro ⟨x, hx, k⟩
    obtain ⟨w, hwm, rfl⟩ := List.mem_map.1 hx
    have := Int.mul_nonneg (hw w hwm) (Int.le_of_lt hm)
    have k' : w * m < 0 := k
    omega
  unfold shErr
  rw [List.length_map, if_neg n1, if_neg n2, sum_mul, if_neg (show ¬ l.sum * m > 1000000000000000 by omega), if_neg (show ¬ l.sum > 1000000000000000 by omega)]
  have z : (l.sum * m = 0) ↔ (l.sum = 0) := by
    rw [Int.mul_eq_zero]; omega
  by_cases c : l.sum = 0
  · rw [if_pos c, if_pos (z.2 c)]
  · rw [if_neg c, if_neg (fun k => c (z.1 k))]
end Go.Proofs.Ytikglhfeookhaaa.M
end
section
/- muldiv.Cmp: the order of two products, for all whole numbers of 64 bits. -/
namespace Go.Proofs.Ytikglhfeookhaaa.M
open Go.RowKit Go.Proofs.YtikglhfeookhaaaW.PrintWords Dv
set_option linter.unusedVariables false
/-- The sign of a number. -/
def sgn (x : Int) : Int := if x < 0 then -1 else if x = 0 then 0 else 1
theorem ab_mul (a b : Int) : a * b = if ((decide (a < 0)) != (decide (b < 0))) = true then -(ab a * ab b) else ab a * ab b := by
  unfold ab
  by_cases x : a < 0 <;> by_cases y : b < 0 <;> simp [x, y, Int.neg_mul, Int.mul_neg]
theorem muldiv_direction.eq (a b : Int) : Ev (fun k => muldiv_direction.f k a b) (sgn (a * b)) := by
  have J1 : Ev (fun k => muldiv_direction.j0 k a b true) 0 := by
    refine Ev.succ ?_
    simp only [muldiv_direction.j0, if_true]; exact Ev.const _
  by_cases h : a = 0
  · have : sgn (a * b) = 0 := by subst h; simp [sgn]
    rw [this]
    simp only [muldiv_direction.f, if_pos h]; exact J1
  · simp only [muldiv_direction.f, if_neg h]
    by_cases h2 : b = 0
    · have : sgn (a * b) = 0 := by subst h2; simp [sgn]
      rw [this]
      have e : (b == 0) = true := by simp [h2]
      simp only [e]; exact J1
    · have e : (b == 0) = false := by simp [h2]
      simp only [e]
      refine Ev.succ ?_
      simp only [muldiv_direction.j0, Bool.false_eq_true, if_false]
      have p : 0 < ab a * ab b := Int.mul_pos (ab_pos h) (ab_pos h2)
      rw [ab_mul a b]
      by_cases n : ((decide (a < 0)) != (decide (b < 0))) = true
      · simp only [if_pos n]
        have : sgn (-(ab a * ab b)) = -1 := by unfold sgn; rw [if_pos (by omega)]
        rw [this]; exact Ev.const _
      · simp only [if_neg n]
        have : sgn (ab a * ab b) = 1 := by unfold sgn; rw [if_neg (by omega), if_neg (by omega)]
        rw [this]; exact Ev.const _
theorem muldiv_compare.eq (P Q : Int) : muldiv_compare.f (P / 18446744073709551616) (P % 18446744073709551616) (Q / 18446744073709551616) (Q % 18446744073709551616) = some (sgn (P - Q)) := by
  unfold muldiv_compare.f sgn
  congr 1
  by_cases h : P / 18446744073709551616 = Q / 18446744073709551616
  · rw [if_pos h]
    by_cases h1 : P % 18446744073709551616 = Q % 18446744073709551616
    · rw [if_pos h1, if_neg (by omega), if_pos (by omega)]
    · rw [if_neg h1]
      by_cases h2 : P % 18446744073709551616 < Q % 18446744073709551616
      · rw [if_pos h2, if_pos (by omega)]
      · rw [if_neg h2, if_neg (by omega), if_neg (by omega)]
  · rw [if_neg h]
    by_cases h2 : P / 18446744073709551616 < Q / 18446744073709551616
    · rw [if_pos h2, if_pos (by omega)]
    · rw [if_neg h2, if_neg (by omega), if_neg (by omega)]
theorem muldiv_Cmp.eq {a b c d : Int} (ha : inI a) (hb : inI b) (hc : inI c) (hd : inI d) : Ev (fun k => muldiv_Cmp.f k a b c d) (sgn (a * b - c * d)) := by
  have ba := ab_bound ha; have bb := ab_bound hb; have bc := ab_bound hc; have bd := ab_bound hd
  simp only [muldiv_Cmp.f, muldiv_magnitude.eq ha, muldiv_magnitude.eq hb, muldiv_magnitude.eq hc, muldiv_magnitude.eq hd, Option.bind_some, muldiv_multiply.eq ba.1 (show ab a < 18446744073709551616 by omega) bb.1 (show ab b < 18446744073709551616 by omega), muldiv_multiply.eq bc.1 (show ab c < 18446744073709551616 by omega) bd.1 (show ab d < 18446744073709551616 by omega)]
  refine Ev.bind (muldiv_direction.eq a b) (Ev.bind (muldiv_direction.eq c d) ?_)
  have p0 : 0 ≤ ab a * ab b := Int.mul_nonneg ba.1 bb.1
  have q0 : 0 ≤ ab c * ab d := Int.mul_nonneg bc.1 bd.1
  have m1 : a * b = ab a * ab b ∨ a * b = -(ab a * ab b) := by rw [ab_mul a b]; split <;> simp
  have m2 : c * d = ab c * ab d ∨ c * d = -(ab c * ab d) := by rw [ab_mul c d]; split <;> simp
  simp only [muldiv_compare.eq, Option.bind_some]
  generalize a * b = X at *
  generalize c * d = Y at *
  generalize ab a * ab b = P at *
  generalize ab c * ab d = Q at *
  by_cases c1 : sgn X < sgn Y
  · have : sgn (X - Y) = -1 := by
      unfold sgn at c1
      unfold sgn
      rw [if_pos]
      split at c1 <;> split at c1 <;> (try split at c1) <;> (try split at c1) <;> omega
    simp only [if_pos c1, this]; exact Ev.const _
  · by_cases c2 : sgn X > sgn Y
    · have : sgn (X - Y) = 1 := by
        unfold sgn at c2
        unfold sgn
        have h : 0 < X - Y := by
          split at c2 <;> split at c2 <;> (try split at c2) <;> (try split at c2) <;> omega
        rw [if_neg (by omega), if_neg (by omega)]
      simp only [if_neg c1, if_pos c2, this]; exact Ev.const _
    · have he : sgn X = sgn Y := by omega
      simp only [if_neg c1, if_neg c2]
      by_cases c3 : sgn X < 0
      · simp only [if_pos c3]
        have hx : X < 0 := by
          unfold sgn at c3
          split at c3
          · assumption
          · split at c3 <;> omega
        have hy : Y < 0 := by
          rw [he] at c3
          unfold sgn at c3
          split at c3
          · assumption
          · split at c3 <;> omega
        have : X - Y = Q - P := by omega
        rw [this]; exact Ev.const _
      · simp only [if_neg c3]
        have hx : 0 ≤ X := by
          unfold sgn at c3
          split at c3 <;> omega
        have hy : 0 ≤ Y := by
          rw [he] at c3
          unfold sgn at c3
          split at c3 <;> omega
        have : X - Y = P - Q := by omega
        rw [this]; exact Ev.const _
end Go.Proofs.Ytikglhfeookhaaa.M
end
section
/- Each share differs from the exact proportion by less than one unit, and a weight of 0 has the share 0: the law holds for every amount and all weights. -/
namespace Go.Proofs.Ytikglhfeookhaaa.M
open Go.RowKit Go.Proofs.YtikglhfeookhaaaW.PrintWords Dv
set_option linter.unusedVariables false
theorem near {s : Int} {l : List Int} (h : Fit s l) {i : Int} (i0 : 0 ≤ i) (i1 : i < l.length) : (rd (pos s l) i - 1) * l.sum < s * rd l i ∧ s * rd l i < (rd (pos s l) i + 1) * l.sum ∧ (rd l i = 0 → rd (pos s l) i = 0) := by
  have p := rd_pos h i i0 i1
  have ri : rd (rs s l.sum l) i = s * rd l i % l.sum := rd_map _ l i i0 i1
  have d := Int.emod_add_mul_ediv (s * rd l i) l.sum
  have r0 := Int.emod_nonneg (s * rd l i) (show l.sum ≠ 0 by have := h.t0; omega)
  have r1 := Int.emod_lt_of_pos (s * rd l i) h.t0
  have t0 := h.t0
  have c : s * rd l i / l.sum * l.sum = l.sum * (s * rd l i / l.sum) := Int.mul_comm _ _
  by_cases hs : sel s l i
  · have rp := sel_rest h hs
    rw [ri] at rp
    rw [p.1 hs]
    refine ⟨?_, ?_, ?_⟩
    · rw [show s * rd l i / l.sum + 1 - 1 = s * rd l i / l.sum by omega]; omega
    · rw [Int.add_mul, Int.add_mul]; omega
    · intro hw
      rw [hw, Int.mul_zero] at rp
      simp at rp
  · rw [p.2 hs]
    refine ⟨?_, ?_, ?_⟩
    · rw [Int.sub_mul]; omega
    · rw [Int.add_mul]; omega
    · intro hw
      rw [hw, Int.mul_zero, Int.zero_ediv]
theorem near_shr {a : Int} {l : List Int} (z : shErr a l = 0) {i : Int} (i0 : 0 ≤ i) (i1 : i < l.length) : sgn ((rd (shr a l) i - 1) * l.sum - a * rd l i) = -1 ∧ sgn ((rd (shr a l) i + 1) * l.sum - a * rd l i) = 1 ∧ (rd l i = 0 → rd (shr a l) i = 0) := by
  have F := shErr_le z
  have sg1 : ∀ x : Int, x < 0 → sgn x = -1 := fun x h => by unfold sgn; rw [if_pos h]
  have sg2 : ∀ x : Int, 0 < x → sgn x = 1 := fun x h => by unfold sgn; rw [if_neg (by omega), if_neg (by omega)]
  unfold shr
  by_cases c : a < 0
  · simp only [if_pos c] at F ⊢
    have n := near F i0 i1
    rw [rd_map _ _ i i0 (by rw [pos_length]; exact i1)]
    rw [Int.neg_mul] at n
    have e1 : (-rd (pos (-a) l) i - 1) * l.sum = -((rd (pos (-a) l) i + 1) * l.sum) := by rw [← Int.neg_mul]; congr 1; omega
    have e2 : (-rd (pos (-a) l) i + 1) * l.sum = -((rd (pos (-a) l) i - 1) * l.sum) := by rw [← Int.neg_mul]; congr 1; omega
    rw [e1, e2]
    exact ⟨sg1 _ (by omega), sg2 _ (by omega), fun hw => by rw [n.2.2 hw]; rfl⟩
  · simp only [if_neg c] at F ⊢
    have n := near F i0 i1
    exact ⟨sg1 _ (by omega), sg2 _ (by omega), n.2.2⟩
theorem near_loop {a : Int} {l : List Int} (z : shErr a l = 0) (hn : l.length ≤ 200) : ∀ (d : Nat) (i : Int), i + d = l.length → 0 ≤ i → Ev (fun k => accountinglaw08_SplitNear.l0 k a l (shr a l) l.sum i) true
  | 0, i, hi, h0 => by
    refine Ev.succ ?_
    have g : ¬ i < ((shr a l).length : Int) := by rw [shr_length]; omega
    simp only [accountinglaw08_SplitNear.l0, if_neg g]
    exact Ev.bind accountinglaw08_lives.true (Ev.const _)
  | d + 1, i, hi, h0 => by
    have F := shErr_le z
    have g : i < (l.length : Int) := by omega
    have g2 : i < ((shr a l).length : Int) := by rw [shr_length]; exact g
    have e : wrap64 (i + 1) = i + 1 := w64 (by omega) (by omega)
    have b := shr_bounds z _ (rd_mem' (shr a l) i h0 g2)
    have e1 : wrap64 (rd (shr a l) i - 1) = rd (shr a l) i - 1 := w64 (by omega) (by omega)
    have e2 : wrap64 (rd (shr a l) i + 1) = rd (shr a l) i + 1 := w64 (by omega) (by omega)
    have hw := F.w _ (rd_mem' l i h0 g)
    have ht := F.t1
    have hab : -1000000000000000 ≤ a ∧ a ≤ 1000000000000000 := by
      have := F.s0; have := F.s1
      split at F <;> omega
    have C1 := muldiv_Cmp.eq (a := rd (shr a l) i - 1) (b := l.sum) (c := a) (d := rd l i) (by unfold inI; omega) (by unfold inI; omega) (by unfold inI; omega) (by unfold inI; omega)
    have C2 := muldiv_Cmp.eq (a := rd (shr a l) i + 1) (b := l.sum) (c := a) (d := rd l i) (by unfold inI; omega) (by unfold inI; omega) (by unfold inI; omega) (by unfold inI; omega)
    obtain ⟨n1, n2, n3⟩ := near_shr z h0 g
    rw [n1] at C1
    rw [n2] at C2
    have ih := near_loop z hn d (i + 1) (by omega) (by omega)
    have k1 : ¬ (-1 : Int) ≥ 0 := by decide
    have k2 : ¬ (1 : Int) ≤ 0 := by decide
    refine Ev.succ ?_
    by_cases c : rd l i = 0
    · simp only [accountinglaw08_SplitNear.l0, if_pos g2, if_pos h0, if_pos g, if_pos c, if_pos (n3 c), e, e1, e2]
      refine Ev.bind C1 ?_
      simp only [if_neg k1]
      refine Ev.bind C2 ?_
      simp only [if_neg k2]
      exact ih
    · simp only [accountinglaw08_SplitNear.l0, if_pos g2, if_pos h0, if_pos g, if_neg c, e, e1, e2]
      refine Ev.bind C1 ?_
      simp only [if_neg k1]
      refine Ev.bind C2 ?_
      simp only [if_neg k2]
      exact ih
theorem pure_SplitNear : accountinglaw08_SplitNear.Pure := by
  intro a l ha hl hm hw
  have hb : ∀ x ∈ l, x ≤ 9223372036854775807 := fun x hx => (wfb (hw x hx)).2
  refine Ev.out (g := fun k => accountinglaw08_SplitNear.f k a l) ?_
  have S := split_Shares.eq (a := a) (by omega) hb
  simp only [accountinglaw08_SplitNear.f, many_eq]
  refine Ev.bind S ?_
  simp only [Option.bind_some]
  by_cases z : shErr a l = 0
  · have F := shErr_le z
    have hn := F.n
    have c : ¬ l.length > 260 := by omega
    simp only [decide_eq_false c, Bool.false_eq_true, if_false, z, if_true]
    refine Ev.succ ?_
    have b : ((0 : Int) != 0) = false := by decide
    simp only [accountinglaw08_SplitNear.j0, b, Bool.false_eq_true, if_false, shr_length, if_true]
    refine Ev.bind (accountinglaw08_sum.eq l (by omega) (fun v hv => ?_)) ?_
    · have := F.w v hv; have := F.t1; omega
    · exact near_loop z hn l.length 0 (by omega) (by omega)
  · have J : ∀ b, b = true → Ev (fun k => accountinglaw08_SplitNear.j0 k a l ([] : List Int) b) true := by
      rintro b rfl
      refine Ev.succ ?_
      simp only [accountinglaw08_SplitNear.j0, if_true, List.length_nil]
      exact Ev.bind accountinglaw08_lives.true (Ev.const _)
    simp only [if_neg z]
    by_cases c : l.length > 260
    · simp only [decide_eq_true c, if_true]
      exact J _ rfl
    · simp only [decide_eq_false c, Bool.false_eq_true, if_false]
      exact J _ (by simpa using z)
end Go.Proofs.Ytikglhfeookhaaa.M
namespace Go.Proofs.Ytikglhfeookhaaa.Pure
theorem SplitNear : M.accountinglaw08_SplitNear.Pure := M.pure_SplitNear
end Go.Proofs.Ytikglhfeookhaaa.Pure
end
section
-- PRINTED BY print.sh 35421559b90ae4d0a3588c463048766b98c2df88dd9212a6774a882060cdf62d: not written by this session
-- PRINTED WORDS (module Derived/Print/Sized.lean): go-gate-2's, for the rows of laws over slices: an AI agent of Go's test side, Tue Nov 17 2026; no person has read it. Lean checks it.
namespace Go.Proofs.YtikglhfeookhaaaW.PrintWords
open Go.ChangeShapes Go.WideShapes
/-- A row's slice of whole numbers is no longer than its weight allows. -/
theorem sized_ints {H : Type} {enc : TypeId × Value → H} {P : Program} {W : World} {base : Nat} {spare : Nat → Bool} {held : Bool} {t e : TypeId} {k : IntKind} {a : Option Addr} {len cap : Nat} {d : DataW H} {ps : List MemPlace} {ts : List TypeId} {ds : List (DataW H)} {j : Nat}
    (hsz : (DataW.weightsEach P ts ds).all (· ≤ reachBytes) = true) (ht : ts[j]? = some t) (hd : ds[j]? = some d) (hu : P.underlying t = some (.slice e)) (he : P.underlying e = some (.int k)) (hc : P.cellsOf e = 1) {B : Nat} (hB : P.bytesOf e = B)
    (h : DataW.Trod enc P W base spare held t (.slice a len cap) d ps) : len * B ≤ 140737488351232 := by
  obtain ⟨fuel, hf⟩ := h
  rcases open_ints hu he hc hf with ⟨hcs, _⟩ | ⟨x, l, c, zs, hcs, _, hl, _, hz, hx, _, _⟩
  · simp [Value.cells] at hcs
    obtain ⟨rfl, rfl, rfl⟩ := hcs
    simp
  · simp [Value.cells] at hcs
    obtain ⟨rfl, rfl, rfl⟩ := hcs
    obtain ⟨hx, _⟩ := Prod.mk.inj hx
    subst hx
    have z := sized_slice hsz ht hd hu
    rw [hB] at z
    have hl2 : len ≤ zs.length := by
      rw [hz]
      split
      · exact hl
      · exact Nat.le_refl _
    have h1 : (lits (H := H) k (zs.take len)).length + (lits (H := H) k (zs.drop len)).length = zs.length := by
      simp [lits]
      omega
    rw [h1] at z
    exact Nat.le_trans (Nat.mul_le_mul_right _ hl2) z
end Go.Proofs.YtikglhfeookhaaaW.PrintWords
end
section
-- Written by mprint.py (a program of this session) over the kit's print.
namespace Go.Proofs.Ytikglhfeookhaaa.splitNear
open Go.ChangeShapes Go.WideShapes Go.ChangeAt Go.RowKit
open Go.ChangeMaps (open_string shut_string)
set_option linter.unusedVariables false
theorem own : ownKnob Try.prog.godebug = none := by kernel_rfl
theorem laidOut : laidOutB Try.prog = true := by kernel_rfl
def IsRow (k : IntKind) (w : World) (a : Option Addr) (len cap : Nat) (zs : List Int) : Prop :=
  (a = none ∧ len = 0 ∧ cap = 0 ∧ zs = []) ∨
  ∃ x, a = some x ∧ len ≤ cap ∧ cap ≤ maxLen ∧ zs.length = cap ∧ (∀ i, i < zs.length → w.cell? (x.add i) = some (.int k (zs.getD i 0))) ∧ ∀ n ∈ zs, (Lit.int k n).wf = true
set_option maxRecDepth 100000 in
theorem lifted (os : Os) (started : os.Started) (H : Type) (enc : TypeId × Value → H) :
    ReturnsInHanded {} Try.checked os 10 .any (Rows.splitNearSpec.pre6 enc Try.prog Try.f10 Rows.splitNearRow.domain false) (Rows.splitNearSpec.post enc Try.prog Try.f10 false true false false) := by
  refine returnsInHanded_of_change_sized (C := Try.checked) own started (by kernel_rfl) Try.func10
    (ChangeSpec.witness6 (enc := enc) (C := Try.checked) false ⟨#[], #[.int .i64 0, .slice none 0 0], []⟩ 8 (by kernel_rfl) (by kernel_rfl) (by kernel_rfl) (by kernel_rfl)) ?_
  intro W base args ds gs before hval0 hW hcnd hsz0 _
  have hsz : (DataW.weightsEach Try.prog (Try.f10.params.toList ++ Rows.splitNearSpec.plain.varTypes Try.prog) (ds ++ gs)).all (· ≤ reachBytes) = true := hsz0
  have hval : ∀ (j : Nat) t v, Try.f10.params[j]? = some t → args[j]? = some v → Value.okWide Try.prog W .any base t v := hval0
  have hW' := hW
  obtain ⟨p, q, hA0, hV, rfl, hfz, hnd⟩ := hW
  have hA : DataW.TrodAll enc Try.prog W 0 (fun _ => true) true Try.f10.params.toList args.toList ds p := hA0
  rw [Try.params10] at hA hval hsz
  obtain ⟨v0, vs0, d0, ds0, p0, q0, hargs, rfl, rfl, h0, r0⟩ := trodAll_cons hA
  obtain ⟨v1, vs1, d1, ds1, p1, q1, rfl, rfl, rfl, h1, r1⟩ := trodAll_cons r0
  obtain ⟨rfl, rfl, rfl⟩ := trodAll_nil r1
  obtain rfl : args = #[v0, v1] := by cases args; simp_all
  obtain ⟨rfl, rfl⟩ := trodVars_none hV
  obtain ⟨a0, rfl, rfl, rfl, w0⟩ := open_int Try.underlying3 (hval 0 3 v0 rfl rfl) h0
  obtain ⟨a1, len1, cap1, rfl⟩ := okWide_slice Try.underlying22 (hval 1 22 v1 rfl rfl)
  have k1 := h1
  have lt1 : ∀ x ∈ p1, x.block < W.heap.size := by obtain ⟨m, hm⟩ := k1; exact DataW.trod_lt m _ _ _ hm
  obtain ⟨z1, w1⟩ : ∃ zs, IsRow .i64 W a1 len1 cap1 zs := by
    obtain ⟨fuel, hf⟩ := h1
    rcases open_ints Try.underlying22 Try.underlying3 (by kernel_rfl) hf with ⟨hcs, _⟩ | ⟨x, l, c, zs, hcs, _, hl, hm, hz, _, hcell, hwz⟩
    · simp [Value.cells] at hcs
      obtain ⟨rfl, rfl, rfl⟩ := hcs
      exact ⟨[], .inl ⟨rfl, rfl, rfl, rfl⟩⟩
    · simp [Value.cells] at hcs
      obtain ⟨rfl, rfl, rfl⟩ := hcs
      exact ⟨zs, .inr ⟨_, rfl, hl, hm, by simpa using hz, hcell, hwz⟩⟩
  have y1 : len1 * 8 ≤ 140737488351232 := Go.Proofs.YtikglhfeookhaaaW.PrintWords.sized_ints hsz (j := 1) (t := 22) rfl rfl Try.underlying22 Try.underlying3 (by kernel_rfl) (by kernel_rfl) h1
  clear hA0 hval0 hsz0 hsz
  refine (M.accountinglaw08_SplitNear.walk Pure.SplitNear a0 a1 len1 cap1 z1 W w0 w1 y1).mono fun e W' ⟨he, bel⟩ => ?_
  subst he
  exact ⟨_, rfl, _, _, _, [], _, [], hW', trodAll_mk1 (shut_bool Try.underlying4 _), (trodAll_cons_mk (shut_int Try.underlying3 w0) (trodAll_cons_mk (Below.trod laidOut (by kernel_rfl) (of_decide_eq_true (by kernel_rfl)) k1 bel lt1) trodAll_mk0)), rfl, bel.frame _, fun h => by cases h⟩
theorem over : Rows.splitNearRow.holds Try.pinned (OpenSpec.ofChange Rows.splitNearSpec) :=
  OpenClaim.holds_of_wide 10 Try.f10 rfl rfl rfl rfl rfl rfl rfl ⟨rfl, rfl, rfl, rfl, rfl⟩ rfl rfl rfl rfl rfl (by kernel_rfl) Try.func10 (by kernel_rfl)
    (of_decide_eq_true (by kernel_rfl)) (by unfold Func.isWrapper; first | (rw [if_pos (by decide +kernel)]; kernel_rfl) | (rw [if_neg (by decide +kernel)]; exact ⟨rfl, rfl⟩))
    (fun os started H enc _ => lifted os started H enc)
theorem proved : Rows.SplitNearSaid := over
#print axioms proved
end Go.Proofs.Ytikglhfeookhaaa.splitNear
namespace Go.Proofs.Ytikglhfeookhaaa
/-- The row, under a short name, for the claim. -/
theorem splitNear_holds : Rows.SplitNearSaid := splitNear.proved
end Go.Proofs.Ytikglhfeookhaaa
end
