/- The texts of a claim of chapter 25. Part 3 of 3 of what is the claim's own. -/
import Derived.Test.YtgjpegmhlnabpaaQB1
import Derived.Test.YtgjpegmhlnabpaaQB6
import Derived.Test.YtgjpegmhlnabpaaQB5
import Derived.Test.YtgjpegmhlnabpaaQCo2
import Derived.SizedLaws
import Derived.ChangeArms
import Derived.ChangeShapes
import Derived.DataReads
import Derived.Test.YtgjpegmhlnabpaaQR2
import Derived.Laws.Closers25b
import Derived.Test.YtgjpegmhlnabpaaRows
import Derived.WalkKit
import Derived.ProofKit
import Derived.OpenShut
import Derived.ShutString
import Derived.ChangeOld
import Derived.Below
section
-- Written by mprint.py (a program of this session) over the kit's print.
namespace Go.Proofs.Ytgjpegmhlnabpaa.M
open Go.RowKit Go.Proofs.YtgjpegmhlnabpaaW.PrintWords Go.Proofs.YtgjpegmhlnabpaaW.PrintLast Go.Proofs.YtgjpegmhlnabpaaW.PrintMore
attribute [local go_sem] max2_int min2_int max_two min_two max_three min_three max_four min_four   -- for this text's walks alone
set_option linter.unusedVariables false
set_option linter.unusedSimpArgs false

/-! ### accountinglaw25_TaxCodes: function 6 -/
def accountinglaw25_TaxCodes.f (k : Nat) (l0 : List (S59)) : Option (Bool) := if (l0.length : Int) > 250 then (some true) else ((tax_Codes.f k l0).bind fun t101 => ((accountingref25_Codes.f k l0).bind fun t102 => (if (t101 == t102) = true then ((accountinglaw25_lives.f k).bind fun t103 => (some t103)) else (none))))
theorem accountinglaw25_TaxCodes.mono : ∀ a0 k, LeO (accountinglaw25_TaxCodes.f k a0) (accountinglaw25_TaxCodes.f (k + 1) a0) := by
 intro a0 k
 unfold accountinglaw25_TaxCodes.f
 repeat' first
   | (with_reducible exact accountinglaw25_lives.mono _)
   | (with_reducible exact accountingref25_Codes.mono _ _)
   | (with_reducible exact tax_Codes.mono _ _)
   | (with_reducible exact LeO.refl _)
   | (with_reducible exact LeO.none _)
   | (with_reducible refine LeO.ite ?_ ?_)
   | (with_reducible refine LeO.bind ?_ (fun _ => ?_))
   | exact accountinglaw25_lives.mono _
   | exact accountingref25_Codes.mono _ _
   | exact tax_Codes.mono _ _
   | exact LeO.none _
   | refine LeO.ite ?_ ?_
   | refine LeO.bind ?_ (fun _ => ?_)
set_option maxHeartbeats 8000000 in
set_option maxRecDepth 100000 in
theorem accountinglaw25_TaxCodes.calls (k : Nat) (A0 : Option Addr) (c0 : Nat) (l0 : List (S59)) (r : Bool) (w : World) (hr0 : Kd.C k59 w A0 l0.length l0) (hc0 : l0.length ≤ c0) (h : accountinglaw25_TaxCodes.f k l0 = some r) :
    Calls Try.prog 6 #[.slice A0 l0.length c0] w fun e w' => e = .returned (.bool r) ∧ Below w.heap.size w w' := by
 have HR0 := Aside0.mk hr0
 have HC0 := Aside0.mk hc0
 clear hr0 hc0
 have HB := Aside0.mk (Below.refl w.heap.size w)
 have H : (if (l0.length : Int) > 250 then (some true) else ((tax_Codes.f k l0).bind fun t101 => ((accountingref25_Codes.f k l0).bind fun t102 => (if (t101 == t102) = true then ((accountinglaw25_lives.f k).bind fun t103 => (some t103)) else (none))))) = some r := h
 clear h
 by_cases c2 : (l0.length : Int) > 250
 ·rw [if_pos c2] at H
  have c2b0 : decide (250 < (l0.length : Int)) = true := decide_eq_true c2
  have c2b1 : decide (250 < l0.length) = true := decide_eq_true (by omega)
  clear c2
  obtain rfl := Option.some.inj H
  go_enter Try.func6, Try.ntmps6
  go_wp2
  go_ret
  exact ⟨by first | rfl | (simp [errW_none, errW_some] <;> rfl) | (simp [*, errW_none, errW_some] <;> rfl), by repeat (first | (with_reducible first | exact HB.out | apply below_alloc | apply pw_below_drewN | apply below_drew1) | exact HB.out)⟩
 ·rw [if_neg c2] at H
  have c2b0 : decide (250 < (l0.length : Int)) = false := decide_eq_false c2
  have c2b1 : decide (250 < l0.length) = false := decide_eq_false (by omega)
  clear c2
  replace H := Option.bind_eq_some_iff.mp H
  obtain ⟨t101, A30, H⟩ := H
  replace H : ((accountingref25_Codes.f k l0).bind fun t102 => (if (t101 == t102) = true then ((accountinglaw25_lives.f k).bind fun t103 => (some t103)) else (none))) = some r := H
  have A3 := Aside0.mk A30
  clear A30
  replace H := Option.bind_eq_some_iff.mp H
  obtain ⟨t102, A40, H⟩ := H
  replace H : (if (t101 == t102) = true then ((accountinglaw25_lives.f k).bind fun t103 => (some t103)) else (none)) = some r := H
  have A4 := Aside0.mk A40
  clear A40
  by_cases c5 : (t101 == t102) = true
  ·rw [if_pos c5] at H
   have c5b0 : (t101 == t102) = true := c5
   (try (have c5b1 : decide (t101 = t102) = true := by simpa using c5))
   (try (have c5b2 : (t101 == t102) = true := by simpa using c5))
   clear c5
   replace H := Option.bind_eq_some_iff.mp H
   obtain ⟨t103, A60, H⟩ := H
   replace H : (some t103) = some r := H
   have A6 := Aside0.mk A60
   clear A60
   obtain rfl := Option.some.inj H
   go_enter Try.func6, Try.ntmps6
   go_wp2_with (first | (go_at_call 15; (with_reducible refine (tax_Codes.calls k _ _ l0 t101 _ ?side1 ?side2 A3.out).mono ?_); (case side1 => repeat (first | exact HR0.out | (with_reducible refine Kd.C_alloc ?_ _) | (with_reducible refine Kd.C_drewN ?_ _) | (with_reducible refine Kd.C_drew ?_))); (case side2 => exact HC0.out); rintro e w7 ⟨rfl, hb⟩; have n0_ := Aside0.mk (below_step (by repeat (first | (with_reducible first | exact HB.out | apply below_alloc | apply pw_below_drewN | apply below_drew1) | exact HB.out)) hb); clear HB; have HB := n0_; clear n0_; (try clear hb); (try clear hb2); (try clear hk); (try clear hi)) | (go_at_call 16; (with_reducible refine (accountingref25_Codes.calls k _ _ l0 t102 _ ?side1 ?side2 A4.out).mono ?_); (case side1 => repeat (first | exact (Kd.C_below HR0.out HB.out) | (with_reducible refine Kd.C_alloc ?_ _) | (with_reducible refine Kd.C_drewN ?_ _) | (with_reducible refine Kd.C_drew ?_))); (case side2 => exact HC0.out); rintro e w8 ⟨rfl, hb⟩; have n0_ := Aside0.mk (below_step (by repeat (first | (with_reducible first | exact HB.out | apply below_alloc | apply pw_below_drewN | apply below_drew1) | exact HB.out)) hb); clear HB; have HB := n0_; clear n0_; (try clear hb); (try clear hb2); (try clear hk); (try clear hi)) | (go_at_call 12; (with_reducible refine (accountinglaw25_lives.calls k  t103 _ A6.out).mono ?_); rintro e w9 ⟨rfl, hb⟩; have n0_ := Aside0.mk (below_step (by repeat (first | (with_reducible first | exact HB.out | apply below_alloc | apply pw_below_drewN | apply below_drew1) | exact HB.out)) hb); clear HB; have HB := n0_; clear n0_; (try clear hb); (try clear hb2); (try clear hk); (try clear hi)))
   go_ret
   exact ⟨by first | rfl | (simp [errW_none, errW_some] <;> rfl) | (simp [*, errW_none, errW_some] <;> rfl), by repeat (first | (with_reducible first | exact HB.out | apply below_alloc | apply pw_below_drewN | apply below_drew1) | exact HB.out)⟩
  ·rw [if_neg c5] at H
   exact absurd H (by simp)

end Go.Proofs.Ytgjpegmhlnabpaa.M
end
section
/- What came in as_ data of a type, told as_ a value of a kind: whole numbers, bools, strings, slices, structs, one inside the other. -/
namespace Go.Proofs.YtgjpegmhlnabpaaW.PrintLast
open Go.RowKit Go.Proofs.YtgjpegmhlnabpaaW.PrintWords
section
variable {P : Program} {α β : Type}
/-- Data of type t reads as_ values of kind d, of which G is known. -/
structure Opens (P : Program) (d : Kd α) (t : TypeId) (G : α → Prop) : Prop where
  get : ∀ {H : Type} (enc : TypeId × Value → H) (W : World) (base : Nat) (sp : Nat → Bool) (held : Bool) (fuel : Nat) (cs : List Value) (x : DataW H × List MemPlace), DataW.trod enc P W base sp held fuel t cs = some x → (∀ n ∈ DataW.weights P t x.1, n ≤ reachBytes) → ∃ a : α, d.K W a cs ∧ G a
theorem Opens.imp {d : Kd α} {t : TypeId} {G G' : α → Prop} (h : Opens P d t G) (hg : ∀ a, G a → G' a) : Opens P d t G' :=
  ⟨fun enc W base sp held fuel cs x hx hw => let ⟨a, h1, h2⟩ := h.get enc W base sp held fuel cs x hx hw; ⟨a, h1, hg a h2⟩⟩
theorem Opens.int {t : TypeId} {k : IntKind} (ht : P.underlying t = some (.int k)) : Opens P (Kd.int k) t (fun n => (Lit.int k n).wf = true) :=
  ⟨fun enc W base sp held fuel cs x hx hw => by
    obtain ⟨n, rfl, _, h⟩ := DataW.trod_int ht hx
    exact ⟨n, rfl, h⟩⟩
theorem Opens.bool {t : TypeId} (ht : P.underlying t = some .bool) : Opens P Kd.bool t (fun _ => True) :=
  ⟨fun enc W base sp held fuel cs x hx hw => by
    obtain ⟨n, rfl, _⟩ := DataW.trod_bool ht hx
    exact ⟨n, rfl, trivial⟩⟩
theorem Opens.string {t : TypeId} (ht : P.underlying t = some .string) : Opens P Kd.string t (fun s => s.size ≤ 140737488351232) :=
  ⟨fun enc W base sp held fuel cs x hx hw => by
    obtain ⟨s, rfl, rfl, h⟩ := DataW.trod_string ht hx
    have := hw s.data.toList.length (by simp [DataW.weights])
    rw [Array.length_toList] at this
    exact ⟨s, rfl, this⟩⟩
theorem list_of {Q : Nat → α → Prop} : ∀ n : Nat, (∀ i, i < n → ∃ a, Q i a) → ∃ xs : List α, xs.length = n ∧ ∀ i a, xs[i]? = some a → Q i a
  | 0, _ => ⟨[], rfl, fun i a h => by simp at h⟩
  | n + 1, h => by
    obtain ⟨xs, hl, hx⟩ := list_of n (fun i hi => h i (by omega))
    obtain ⟨a, ha⟩ := h n (by omega)
    refine ⟨xs ++ [a], by simp [hl], fun i b hb => ?_⟩
    by_cases hi : i < n
    · rw [List.getElem?_append_left (by omega)] at hb
      exact hx i b hb
    · have hi2 : i < n + 1 := by have := (List.getElem?_eq_some_iff.1 hb).1; simp [hl] at this; exact this
      obtain rfl : i = n := by omega
      rw [List.getElem?_append_right (by omega), hl] at hb
      simp at hb
      subst hb
      exact ha
theorem Opens.slice {d : Kd α} {t e : TypeId} {G : α → Prop} (ht : P.underlying t = some (.slice e)) (h : Opens P d e G) (hc : P.cellsOf e = d.sz) {b : Nat} (hb : P.bytesOf e = b) : Opens P (Kd.slice e d) t (fun xs => xs.length * b ≤ 140737488351232 ∧ ∀ x ∈ xs, G x) :=
  ⟨fun {H} enc W base sp held fuel cs x hx hw => by
    rcases DataW.trod_slice ht hx with ⟨rfl, rfl⟩ | ⟨a, len, cap, elems, rest, n, rfl, rfl, rfl, hba, hl, hm, hlen, hel, _, _⟩
    · exact ⟨[], ⟨none, 0, rfl, Nat.le_refl _, rfl, by simp, fun h => absurd h (Nat.lt_irrefl 0)⟩, by simp, fun _ h => by simp at h⟩
    · simp only [DataW.weights, ht] at hw
      have hw0 := hw _ (List.mem_cons_self ..)
      have each : ∀ i, i < len → ∃ y : α, (∃ c : List Value, c.length = d.sz ∧ d.K W y c ∧ ∀ j u, c[j]? = some u → W.cell? (a.add (i * d.sz + j)) = some u) ∧ G y := by
        intro i hi
        have h1 := hel i hi
        rw [List.getElem?_eq_getElem (by omega)] at h1
        obtain ⟨c, hcs, h2⟩ := Option.bind_eq_some_iff.1 h1
        obtain ⟨_, hcl, hcc⟩ := World.cells?_some hcs
        obtain ⟨y, hk, hg⟩ := h.get enc W base sp held n c _ h2 (fun m hm => hw m (List.mem_cons_of_mem _ (List.mem_append_left _ (by
          have : ∀ (l : List (DataW H)) (z : DataW H), z ∈ l → ∀ m ∈ DataW.weights P e z, m ∈ DataW.weightsAll P e l := by
            intro l z hz m hm
            induction l with
            | nil => simp at hz
            | cons y l ih =>
              simp only [DataW.weightsAll, List.mem_append]
              rcases List.mem_cons.1 hz with rfl | hz
              · exact .inl hm
              · exact .inr (ih hz)
          exact this _ _ (List.mem_map.2 ⟨_, List.getElem_mem (by omega), rfl⟩) m hm))))
        refine ⟨y, ⟨c, by rw [hcl, hc], hk, fun j u hu => ?_⟩, hg⟩
        have hj : j < c.length := (List.getElem?_eq_some_iff.1 hu).1
        rw [hc] at hcc
        have := hcc j (by omega)
        rw [add_add] at this
        rw [this, hu]
      obtain ⟨ys, hyl, hy⟩ := list_of len each
      refine ⟨ys, ⟨some a, cap, by rw [hyl], by omega, rfl, ?_, fun _ => ⟨a, rfl, fun j p hj => (hy j p hj).1⟩⟩, ?_, fun y hy' => ?_⟩
      · unfold maxLen at hm; omega
      · rw [hyl]
        have h2 : (elems.map (·.1)).length + (rest.map (·.1)).length ≥ len := by simp; omega
        have h3 : len * b ≤ ((elems.map (·.1)).length + (rest.map (·.1)).length) * P.bytesOf e := by rw [hb]; exact Nat.mul_le_mul_right _ h2
        exact Nat.le_trans h3 hw0
      · obtain ⟨j, hj⟩ := List.getElem?_of_mem hy'
        exact (hy j y hj).2⟩
theorem Opens.iso {d : Kd α} {t : TypeId} {G : α → Prop} (h : Opens P d t G) (f : β → α) (g : α → β) (hg : ∀ a, f (g a) = a) : Opens P (Kd.iso d f) t (fun b => G (f b)) :=
  ⟨fun enc W base sp held fuel cs x hx hw => let ⟨a, h1, h2⟩ := h.get enc W base sp held fuel cs x hx hw; ⟨g a, by show d.K W (f (g a)) cs; rw [hg]; exact h1, by rw [hg]; exact h2⟩⟩
/-- The fields from offset o on. -/
structure FOpens (P : Program) (d : Kd α) (fs : List Field) (o : Nat) (G : α → Prop) : Prop where
  get : ∀ {H : Type} (enc : TypeId × Value → H) (W : World) (base : Nat) (sp : Nat → Bool) (held : Bool) (n : Nat) (cs : List Value) (xs : List (DataW H × List MemPlace)), o + d.sz = cs.length → xs.length = fs.length →
    (∀ (i : Nat) (f : Field), fs[i]? = some f → DataW.trod enc P W base sp held n f.type ((cs.drop f.offset).take (P.cellsOf f.type)) = xs[i]?) → (∀ m ∈ DataW.weightsEach P (fs.map (·.type)) (xs.map (·.1)), m ≤ reachBytes) → ∃ a : α, d.K W a (cs.drop o) ∧ G a
theorem FOpens.one {d : Kd α} {f : Field} {o : Nat} {G : α → Prop} (h : Opens P d f.type G) (ho : f.offset = o) (hs : P.cellsOf f.type = d.sz) : FOpens P d [f] o G :=
  ⟨fun enc W base sp held n cs xs hl hx ht hw => by
    obtain ⟨x, rfl⟩ := List.length_eq_one_iff.1 hx
    have h1 := ht 0 f rfl
    rw [ho, hs, List.take_of_length_le (by simp; omega)] at h1
    exact h.get enc W base sp held n _ x h1 (fun m hm => hw m (by simpa [DataW.weightsEach] using hm))⟩
theorem FOpens.cons {d : Kd α} {d2 : Kd β} {f : Field} {fs : List Field} {o : Nat} {G : α → Prop} {G2 : β → Prop} (h : Opens P d f.type G) (ho : f.offset = o) (hs : P.cellsOf f.type = d.sz) (hr : FOpens P d2 fs (o + d.sz) G2) : FOpens P (Kd.pair d d2) (f :: fs) o (fun p => G p.1 ∧ G2 p.2) :=
  ⟨fun enc W base sp held n cs xs hl hx ht hw => by
    cases xs with
    | nil => simp at hx
    | cons x xs =>
      have h1 := ht 0 f rfl
      simp only [List.getElem?_cons_zero] at h1
      rw [ho, hs] at h1
      have e : o + (Kd.pair d d2).sz = o + d.sz + d2.sz := by show o + (d.sz + d2.sz) = _; omega
      obtain ⟨a, ha, hga⟩ := h.get enc W base sp held n _ x h1 (fun m hm => hw m (by simp only [List.map_cons, DataW.weightsEach, List.mem_append]; exact .inl hm))
      obtain ⟨b, hb, hgb⟩ := hr.get enc W base sp held n cs xs (by omega) (by simpa using hx) (fun i f' hf => by simpa using ht (i + 1) f' (by simpa using hf)) (fun m hm => hw m (by simp only [List.map_cons, DataW.weightsEach, List.mem_append]; exact .inr hm))
      refine ⟨(a, b), ⟨_, _, ?_, ha, hb⟩, hga, hgb⟩
      rw [← List.drop_drop, List.take_append_drop]⟩
theorem Opens.struct {d : Kd α} {t : TypeId} {fs : Array Field} {G : α → Prop} (ht : P.underlying t = some (.struct fs)) (hs : P.cellsOf t = d.sz) (h : FOpens P d fs.toList 0 G) : Opens P d t G :=
  ⟨fun enc W base sp held fuel cs x hx hw => by
    obtain ⟨xs, n, rfl, rfl, hl, hxl, hi⟩ := DataW.trod_struct ht hx
    simp only [DataW.weights, ht] at hw
    have := h.get enc W base sp held n cs xs (by omega) (by simpa using hxl) (fun i f hf => hi i f (by simpa using hf)) hw
    simpa using this⟩
/-- An argument's weights out of all arguments'. -/
theorem weights_at {H : Type} {ts : List TypeId} {ds : List (DataW H)} (h : (DataW.weightsEach P ts ds).all (· ≤ reachBytes) = true) {j : Nat} {t : TypeId} {d : DataW H} (ht : ts[j]? = some t) (hd : ds[j]? = some d) : ∀ n ∈ DataW.weights P t d, n ≤ reachBytes :=
  fun n hn => by simpa using List.all_eq_true.1 h _ (DataW.weights_mem_each ht hd n hn)
end
end Go.Proofs.YtgjpegmhlnabpaaW.PrintLast
end
section
-- Written by mprint.py (a program of this session) over the kit's print.
namespace Go.Proofs.Ytgjpegmhlnabpaa.M
open Go.RowKit Go.Proofs.YtgjpegmhlnabpaaW.PrintWords Go.Proofs.YtgjpegmhlnabpaaW.PrintLast Go.Proofs.YtgjpegmhlnabpaaW.PrintMore
attribute [local go_sem] max2_int min2_int max_two min_two max_three min_three max_four min_four   -- for this text's walks alone
set_option linter.unusedVariables false
set_option linter.unusedSimpArgs false

def G23 (x_ : S23) : Prop := ((Lit.int .i64 x_.f0).wf = true) ∧ ((Lit.int .i64 x_.f1).wf = true)
theorem opens23 : Opens Try.prog k23 23 G23 :=
  Opens.imp (Opens.iso (Opens.struct Try.underlying23 (by kernel_rfl) (FOpens.cons (Opens.int Try.underlying3) rfl (by kernel_rfl) (FOpens.one (Opens.int Try.underlying3) rfl (by kernel_rfl)))) (fun x : S23 => (x.f0, x.f1)) (fun p => (⟨p.1, p.2⟩ : S23)) (fun _ => rfl)) (fun _ h => h)
def G59 (x_ : S59) : Prop := (x_.f0.size ≤ 140737488351232) ∧ ((x_.f1.size ≤ 140737488351232) ∧ (G23 x_.f2))
theorem opens59 : Opens Try.prog k59 59 G59 :=
  Opens.imp (Opens.iso (Opens.struct Try.underlying59 (by kernel_rfl) (FOpens.cons (Opens.string Try.underlying9) rfl (by kernel_rfl) (FOpens.cons (Opens.string Try.underlying9) rfl (by kernel_rfl) (FOpens.one opens23 rfl (by kernel_rfl))))) (fun x : S59 => (x.f0, x.f1, x.f2)) (fun p => (⟨p.1, p.2.1, p.2.2⟩ : S59)) (fun _ => rfl)) (fun _ h => h)
def G49 (x_ : S49) : Prop := ((Lit.int .i64 x_.f0).wf = true) ∧ (x_.f1.size ≤ 140737488351232)
theorem opens49 : Opens Try.prog k49 49 G49 :=
  Opens.imp (Opens.iso (Opens.struct Try.underlying49 (by kernel_rfl) (FOpens.cons (Opens.int Try.underlying3) rfl (by kernel_rfl) (FOpens.one (Opens.string Try.underlying9) rfl (by kernel_rfl)))) (fun x : S49 => (x.f0, x.f1)) (fun p => (⟨p.1, p.2⟩ : S49)) (fun _ => rfl)) (fun _ h => h)
end Go.Proofs.Ytgjpegmhlnabpaa.M
end
section
-- Written by mprint.py (a program of this session) over the kit's print.
namespace Go.Proofs.Ytgjpegmhlnabpaa.M
open Go.RowKit Go.Proofs.YtgjpegmhlnabpaaW.PrintWords Go.Proofs.YtgjpegmhlnabpaaW.PrintLast Go.Proofs.YtgjpegmhlnabpaaW.PrintMore
attribute [local go_sem] max2_int min2_int max_two min_two max_three min_three max_four min_four   -- for this text's walks alone
set_option linter.unusedVariables false
set_option linter.unusedSimpArgs false

/-- THE ONE PURE STATEMENT of accountinglaw25_TaxCodes. -/
def accountinglaw25_TaxCodes.Pure : Prop := ∀ (x0 : List (S59)), (x0.length * 48 ≤ 140737488351232 ∧ ∀ y0_ ∈ x0, G59 y0_) → ∃ k, accountinglaw25_TaxCodes.f k x0 = some true
end Go.Proofs.Ytgjpegmhlnabpaa.M
end
section
/- Codes: the words, and the lists of codes: the program and its specification come to one closed form. -/
namespace Go.Proofs.Ytgjpegmhlnabpaa.M
open Go.RowKit Go.Proofs.YtgjpegmhlnabpaaW.PrintWords Dv
set_option linter.unusedVariables false
set_option linter.unusedSimpArgs false
def letv (a : Int) : Bool := decide (97 ≤ a ∧ a ≤ 122) || (decide (65 ≤ a ∧ a ≤ 90) || a == 95)
def digv (a : Int) : Bool := decide (48 ≤ a ∧ a ≤ 57)
theorem words_letter.eq (a : Int) : words_letter.f a = some (letv a) := by
  unfold words_letter.f letv
  by_cases h1 : a ≥ 97 <;> by_cases h2 : a ≤ 122 <;> by_cases h3 : a ≥ 65 <;> by_cases h4 : a ≤ 90 <;> simp [h1, h2, h3, h4]
theorem words_digit.eq (a : Int) : words_digit.f a = some (digv a) := by
  unfold words_digit.f digv
  by_cases h1 : a ≥ 48 <;> by_cases h2 : a ≤ 57 <;> simp [h1, h2]
theorem accountingref06_letter.eq (a : Int) : accountingref06_letter.f a = some (letv a) := by
  unfold accountingref06_letter.f letv
  by_cases h1 : a ≥ 97 <;> by_cases h2 : a ≤ 122 <;> by_cases h3 : a ≥ 65 <;> by_cases h4 : a ≤ 90 <;> simp [h1, h2, h3, h4]
theorem accountingref06_digit.eq (a : Int) : accountingref06_digit.f a = some (digv a) := by
  unfold accountingref06_digit.f digv
  by_cases h1 : a ≥ 48 <;> by_cases h2 : a ≤ 57 <;> simp [h1, h2]
theorem words_Code_1.eq (a : Int) : words_Code_1.f a = some (letv a || digv a) := by
  unfold words_Code_1.f
  rw [words_letter.eq, words_digit.eq]
  cases letv a <;> simp
/-- n bytes from place i on are letters or digits. -/
def gall (b : ByteArray) : Nat → Nat → Bool
  | 0, _ => true
  | n + 1, i => (letv (bt b (i : Int)) || digv (bt b (i : Int))) && gall b n (i + 1)
def codev (b : ByteArray) : Bool := gall b b.size 0 && (decide ((b.size : Int) ≥ 1) && decide ((b.size : Int) ≤ 12))
theorem words_every.go (b : ByteArray) (hb : b.size ≤ 1000) : ∀ n i, i + n = b.size → Ev (fun k => words_every__words_Code_1.l0 k b (b.size : Int) (i : Int)) (gall b n i)
  | 0, i, h => by
    refine Ev.succ ?_
    simp only [words_every__words_Code_1.l0, if_neg (show ¬ (i : Int) < (b.size : Int) by omega)]
    exact Ev.const _
  | n + 1, i, h => by
    refine Ev.succ ?_
    simp only [words_every__words_Code_1.l0, if_pos (show (i : Int) < (b.size : Int) by omega), if_pos (show (0 : Int) ≤ (i : Int) by omega), words_Code_1.eq, Option.bind_some]
    unfold gall
    rw [w64 (n := (i : Int) + 1) (by omega) (by omega), show (i : Int) + 1 = ((i + 1 : Nat) : Int) by omega]
    cases (letv (bt b (i : Int)) || digv (bt b (i : Int))) with
    | false => exact Ev.const _
    | true =>
      simp only [if_true, Bool.true_and]
      exact words_every.go b hb n (i + 1) (by omega)
theorem size_nil (b : ByteArray) : b.toList = ([] : List UInt8) ↔ b.size = 0 := by
  rw [toList_nil_iff_emptyBytes]
  constructor
  · rintro rfl; rfl
  · intro h
    exact ByteArray.ext (Array.eq_empty_of_size_eq_zero h)
theorem words_Code.eq (b : ByteArray) : Ev (fun k => words_Code.f k b) (codev b) := by
  unfold words_Code.f codev
  by_cases c : b.toList = ([] : List UInt8)
  · have := (size_nil b).1 c
    simp only [if_pos c, decide_eq_false (show ¬ (b.size : Int) ≥ 1 by omega), Bool.false_and, Bool.and_false]
    exact Ev.const _
  · have h1 : b.size ≠ 0 := fun h => c ((size_nil b).2 h)
    simp only [if_neg c, decide_eq_true (show (b.size : Int) ≥ 1 by omega), Bool.true_and]
    by_cases e : (b.size : Int) ≤ 12
    · simp only [if_pos e, decide_eq_true e, Bool.and_true]
      unfold words_every__words_Code_1.f
      exact Ev.bind (words_every.go b (by omega) b.size 0 (by omega)) (Ev.const _)
    · simp only [if_neg e, decide_eq_false e, Bool.and_false]
      exact Ev.const _
theorem accountingref06_Code.go (b : ByteArray) (hb : b.size ≤ 1000000000000000) : ∀ n i, i + n = b.size → Ev (fun k => accountingref06_Code.l0 k b (i : Int)) (gall b n i && (decide ((b.size : Int) ≥ 1) && decide ((b.size : Int) ≤ 12)))
  | 0, i, h => by
    refine Ev.succ ?_
    simp only [accountingref06_Code.l0, if_neg (show ¬ (i : Int) < (b.size : Int) by omega), gall, Bool.true_and]
    by_cases c : (b.size : Int) ≥ 1
    · simp only [if_pos c, decide_eq_true c, Bool.true_and]; exact Ev.const _
    · simp only [if_neg c, decide_eq_false c, Bool.false_and]; exact Ev.const _
  | n + 1, i, h => by
    refine Ev.succ ?_
    simp only [accountingref06_Code.l0, if_pos (show (i : Int) < (b.size : Int) by omega), if_pos (show (0 : Int) ≤ (i : Int) by omega), accountingref06_letter.eq, accountingref06_digit.eq, Option.bind_some]
    unfold gall
    rw [w64 (n := (i : Int) + 1) (by omega) (by omega), show (i : Int) + 1 = ((i + 1 : Nat) : Int) by omega]
    cases letv (bt b (i : Int)) with
    | true =>
      simp only [if_true, Bool.true_or, Bool.true_and]
      exact accountingref06_Code.go b hb n (i + 1) (by omega)
    | false =>
      simp only [Bool.false_eq_true, if_false, Bool.false_or]
      cases digv (bt b (i : Int)) with
      | true =>
        simp only [if_true, Bool.true_and]
        exact accountingref06_Code.go b hb n (i + 1) (by omega)
      | false => exact Ev.const _
theorem accountingref06_Code.eq (b : ByteArray) (hb : b.size ≤ 1000000000000000) : Ev (fun k => accountingref06_Code.f k b) (codev b) := by
  unfold accountingref06_Code.f codev
  exact accountingref06_Code.go b hb b.size 0 (by omega)
abbrev TC := S59
abbrev rdC (l : List TC) (i : Int) : TC := rd_T59 l i
/-- n codes from place i on are valid, and in order. -/
def cdv (l : List TC) : Nat → Nat → Bool
  | 0, _ => true
  | n + 1, i => codev (rdC l (i : Int)).f0 && (codev (rdC l (i : Int)).f1 && (ratev (rdC l (i : Int)).f2.f0 (rdC l (i : Int)).f2.f1 && ((decide (i = 0) || Op.bytesLess (rdC l ((i : Int) - 1)).f0.toList (rdC l (i : Int)).f0.toList) && cdv l n (i + 1))))
def codesv (l : List TC) : Bool := decide ((l.length : Int) ≤ 200) && cdv l l.length 0
/-- What is known of every code of a list. -/
def TCok (l : List TC) : Prop := ∀ y ∈ l, (y.f0.size ≤ 1000000000000000 ∧ y.f1.size ≤ 1000000000000000) ∧ inI y.f2.f0 ∧ inI y.f2.f1
theorem rdC_mem {l : List TC} {i : Nat} (h : i < l.length) : rdC l (i : Int) ∈ l := by
  show l.getD (i : Int).toNat _ ∈ l
  rw [Int.toNat_natCast, List.getD_eq_getElem?_getD, List.getElem?_eq_getElem h]
  exact List.getElem_mem h
theorem tax_Codes.go (l : List TC) (hl : l.length ≤ 200) (ho : TCok l) : ∀ n i, i + n = l.length → Ev (fun k => tax_Codes.l0 k l l (l.length : Int) (i : Int)) (cdv l n i)
  | 0, i, h => by
    refine Ev.succ ?_
    simp only [tax_Codes.l0, if_neg (show ¬ (i : Int) < (l.length : Int) by omega)]
    exact Ev.const _
  | n + 1, i, h => by
    have hm := ho _ (rdC_mem (l := l) (i := i) (by omega))
    refine Ev.succ ?_
    simp only [tax_Codes.l0, if_pos (show (i : Int) < (l.length : Int) by omega), if_pos (show (0 : Int) ≤ (i : Int) by omega)]
    unfold cdv
    refine Ev.bind (words_Code.eq _) ?_
    cases codev (rdC l (i : Int)).f0 with
    | false => exact Ev.const _
    | true =>
      simp only [if_true, Bool.true_and]
      refine Ev.bind (words_Code.eq _) ?_
      cases codev (rdC l (i : Int)).f1 with
      | false => exact Ev.const _
      | true =>
        simp only [if_true, Bool.true_and]
        refine Ev.bind (tax_rate.eq hm.2.1 hm.2.2) ?_
        cases ratev (rdC l (i : Int)).f2.f0 (rdC l (i : Int)).f2.f1 with
        | false => exact Ev.const _
        | true =>
          simp only [if_true, Bool.true_and]
          rw [w64 (n := (i : Int) + 1) (by omega) (by omega), show (i : Int) + 1 = ((i + 1 : Nat) : Int) by omega]
          by_cases c : (i : Int) > 0
          · rw [w64 (n := (i : Int) - 1) (by omega) (by omega)]
            simp only [if_pos c, if_pos (show (0 : Int) ≤ (i : Int) - 1 by omega), if_pos (show (i : Int) - 1 < (l.length : Int) by omega), decide_eq_false (show ¬ i = 0 by omega), Bool.false_or]
            by_cases e : Op.bytesLess (rdC l ((i : Int) - 1)).f0.toList (rdC l (i : Int)).f0.toList = true
            · rw [e]
              simp only [if_pos e, Bool.true_and]
              exact tax_Codes.go l hl ho n (i + 1) (by omega)
            · simp only [if_neg e, Bool.eq_false_iff.2 e, Bool.false_and]
              exact Ev.const _
          · simp only [if_neg c, decide_eq_true (show i = 0 by omega), Bool.true_or, Bool.true_and]
            exact tax_Codes.go l hl ho n (i + 1) (by omega)
theorem tax_Codes.eq {l : List TC} (ho : TCok l) : Ev (fun k => tax_Codes.f k l) (codesv l) := by
  unfold tax_Codes.f codesv
  by_cases c : (l.length : Int) > 200
  · simp only [if_pos c, decide_eq_false (show ¬ (l.length : Int) ≤ 200 by omega), Bool.false_and]
    exact Ev.const _
  · simp only [if_neg c, decide_eq_true (show (l.length : Int) ≤ 200 by omega), Bool.true_and]
    exact tax_Codes.go l (by omega) ho l.length 0 (by omega)
theorem accountingref25_Codes.go (l : List TC) (hl : l.length ≤ 200) (ho : TCok l) : ∀ n i, i + n = l.length → Ev (fun k => accountingref25_Codes.l0 k l (i : Int)) (cdv l n i)
  | 0, i, h => by
    refine Ev.succ ?_
    simp only [accountingref25_Codes.l0, if_neg (show ¬ (i : Int) < (l.length : Int) by omega)]
    exact Ev.const _
  | n + 1, i, h => by
    have hm := ho _ (rdC_mem (l := l) (i := i) (by omega))
    refine Ev.succ ?_
    simp only [accountingref25_Codes.l0, if_pos (show (i : Int) < (l.length : Int) by omega), if_pos (show (0 : Int) ≤ (i : Int) by omega)]
    unfold cdv
    refine Ev.bind (accountingref06_Code.eq _ hm.1.1) ?_
    cases codev (rdC l (i : Int)).f0 with
    | false => exact Ev.const _
    | true =>
      simp only [if_true, Bool.true_and]
      refine Ev.bind (accountingref06_Code.eq _ hm.1.2) ?_
      cases codev (rdC l (i : Int)).f1 with
      | false => exact Ev.const _
      | true =>
        simp only [if_true, Bool.true_and]
        refine Ev.bind (accountingref25_Rate.eq hm.2.1 hm.2.2) ?_
        cases ratev (rdC l (i : Int)).f2.f0 (rdC l (i : Int)).f2.f1 with
        | false => exact Ev.const _
        | true =>
          simp only [if_true, Bool.true_and]
          rw [w64 (n := (i : Int) + 1) (by omega) (by omega), show (i : Int) + 1 = ((i + 1 : Nat) : Int) by omega]
          by_cases c : (i : Int) > 0
          · rw [w64 (n := (i : Int) - 1) (by omega) (by omega)]
            simp only [if_pos c, if_pos (show (0 : Int) ≤ (i : Int) - 1 by omega), if_pos (show (i : Int) - 1 < (l.length : Int) by omega), decide_eq_false (show ¬ i = 0 by omega), Bool.false_or]
            by_cases e : Op.bytesLess (rdC l ((i : Int) - 1)).f0.toList (rdC l (i : Int)).f0.toList = true
            · rw [e]
              simp only [if_pos e, Bool.true_and]
              exact accountingref25_Codes.go l hl ho n (i + 1) (by omega)
            · simp only [if_neg e, Bool.eq_false_iff.2 e, Bool.false_and]
              exact Ev.const _
          · simp only [if_neg c, decide_eq_true (show i = 0 by omega), Bool.true_or, Bool.true_and]
            exact accountingref25_Codes.go l hl ho n (i + 1) (by omega)
theorem accountingref25_Codes.eq {l : List TC} (ho : TCok l) : Ev (fun k => accountingref25_Codes.f k l) (codesv l) := by
  unfold accountingref25_Codes.f codesv
  by_cases c : (l.length : Int) > 200
  · simp only [if_pos c, decide_eq_false (show ¬ (l.length : Int) ≤ 200 by omega), Bool.false_and]
    exact Ev.const _
  · simp only [if_neg c, decide_eq_true (show (l.length : Int) ≤ 200 by omega), Bool.true_and]
    exact accountingref25_Codes.go l (by omega) ho l.length 0 (by omega)
end Go.Proofs.Ytgjpegmhlnabpaa.M
end
section
/- Codes recognizes exactly the valid lists of tax codes. -/
namespace Go.Proofs.Ytgjpegmhlnabpaa.M
open Go.RowKit Go.Proofs.YtgjpegmhlnabpaaW.PrintWords Dv
set_option linter.unusedVariables false
theorem pure_TaxCodes : accountinglaw25_TaxCodes.Pure := by
  intro l hl
  have ho : TCok l := fun y hy => by
    have h := hl.2 y hy
    exact ⟨⟨by have := h.1; omega, by have := h.2.1; omega⟩, wfb h.2.2.1, wfb h.2.2.2⟩
  refine Ev.out (g := fun k => accountinglaw25_TaxCodes.f k l) ?_
  unfold accountinglaw25_TaxCodes.f
  by_cases c : (l.length : Int) > 250
  · simp only [if_pos c]
    exact Ev.const _
  · simp only [if_neg c]
    refine Ev.bind (tax_Codes.eq ho) (Ev.bind (accountingref25_Codes.eq ho) ?_)
    simp only [beq_self_eq_true, if_true]
    exact Ev.bind accountinglaw25_lives.true (Ev.const _)
end Go.Proofs.Ytgjpegmhlnabpaa.M
namespace Go.Proofs.Ytgjpegmhlnabpaa.Pure
theorem TaxCodes : M.accountinglaw25_TaxCodes.Pure := M.pure_TaxCodes
end Go.Proofs.Ytgjpegmhlnabpaa.Pure
end
section
-- Written by mprint.py (a program of this session) over the kit's print.
namespace Go.Proofs.Ytgjpegmhlnabpaa.taxCodes
open Go.ChangeShapes Go.WideShapes Go.ChangeAt Go.RowKit Go.Proofs.Ytgjpegmhlnabpaa.M Go.Proofs.YtgjpegmhlnabpaaW.PrintWords Go.Proofs.YtgjpegmhlnabpaaW.PrintLast
open Go.ChangeMaps (open_string shut_string)
set_option linter.unusedVariables false
theorem own : ownKnob Try.prog.godebug = none := by kernel_rfl
theorem laidOut : laidOutB Try.prog = true := by kernel_rfl
set_option maxRecDepth 100000 in
set_option maxHeartbeats 4000000 in
theorem lifted (os : Os) (started : os.Started) (H : Type) (enc : TypeId × Value → H) :
    ReturnsInHanded {} Try.checked os 6 .any (Rows.taxCodesSpec.pre6 enc Try.prog Try.f6 Rows.taxCodesRow.domain false) (Rows.taxCodesSpec.post enc Try.prog Try.f6 false true false false) := by
  refine returnsInHanded_of_change_sized (C := Try.checked) own started (by kernel_rfl) Try.func6
    (ChangeSpec.witness6 (enc := enc) (C := Try.checked) false ⟨#[], #[.slice none 0 0], []⟩ 8 (by kernel_rfl) (by kernel_rfl) (by kernel_rfl) (by kernel_rfl)) ?_
  intro W base args ds gs before hval0 hW hcnd hsz0 _
  have hsz : (DataW.weightsEach Try.prog (Try.f6.params.toList ++ Rows.taxCodesSpec.plain.varTypes Try.prog) (ds ++ gs)).all (· ≤ reachBytes) = true := hsz0
  have hval : ∀ (j : Nat) t v, Try.f6.params[j]? = some t → args[j]? = some v → Value.okWide Try.prog W .any base t v := hval0
  have hW' := hW
  obtain ⟨p, q, hA0, hV, rfl, hfz, hnd⟩ := hW
  have hA : DataW.TrodAll enc Try.prog W 0 (fun _ => true) true Try.f6.params.toList args.toList ds p := hA0
  rw [Try.params6] at hA hval hsz
  obtain ⟨v0, vs0, d0, ds0, p0, q0, hargs, rfl, rfl, h0, r0⟩ := trodAll_cons hA
  obtain ⟨rfl, rfl, rfl⟩ := trodAll_nil r0
  obtain rfl : args = #[v0] := by cases args; simp_all
  obtain ⟨rfl, rfl⟩ := trodVars_none hV
  obtain ⟨a0, len0, cap0, rfl⟩ := okWide_slice Try.underlying35 (hval 0 35 v0 rfl rfl)
  have k0 := h0
  have lt0 : ∀ x ∈ p0, x.block < W.heap.size := by obtain ⟨m, hm⟩ := k0; exact DataW.trod_lt m _ _ _ hm
  obtain ⟨x0, K0, g0⟩ : ∃ x_ : List (S59), (Kd.slice 59 k59).K W x_ [.slice a0 len0 cap0] ∧ (x_.length * 48 ≤ 140737488351232 ∧ ∀ y0_ ∈ x_, G59 y0_) := by obtain ⟨f, hf⟩ := h0; exact ((Opens.slice Try.underlying35 opens59 (by kernel_rfl) (b := 48) (by kernel_rfl))).get enc W 0 _ _ f _ _ hf (weights_at hsz (j := 0) (t := 35) rfl rfl)
  obtain ⟨A0, c0, e0, L0, C0⟩ := K0
  injection e0 with e0 _
  injection e0 with e0a e0b e0c
  subst e0a e0b e0c
  clear hA0 hval0 hsz0 hsz
  obtain ⟨k, h⟩ := Pure.TaxCodes x0 g0
  refine (M.accountinglaw25_TaxCodes.calls (k := k) (r := true) (w := W) (hr0 := C0) (hc0 := L0) (h := h)).mono fun e W' ⟨he, bel0⟩ => ?_
  have bel : Below W.heap.size W W' := by first | exact bel0 | exact bel0.below | (obtain ⟨nd, rfl⟩ := bel0; exact pw_below_drewN (Below.refl _ _) nd)
  subst he
  exact ⟨_, rfl, _, _, _, [], _, [], hW', trodAll_mk1 (shut_bool Try.underlying4 _), (trodAll_cons_mk (Below.trod laidOut (by kernel_rfl) (of_decide_eq_true (by kernel_rfl)) k0 bel lt0) trodAll_mk0), rfl, bel.frame _, fun h => by cases h⟩
theorem over : Rows.taxCodesRow.holds Try.pinned (OpenSpec.ofChange Rows.taxCodesSpec) :=
  OpenClaim.holds_of_wide 6 Try.f6 rfl rfl rfl rfl rfl rfl rfl ⟨rfl, rfl, rfl, rfl, rfl⟩ rfl rfl rfl rfl rfl (by kernel_rfl) Try.func6 (by kernel_rfl)
    (of_decide_eq_true (by kernel_rfl)) (by unfold Func.isWrapper; first | (rw [if_pos (by decide +kernel)]; kernel_rfl) | (rw [if_neg (by decide +kernel)]; exact ⟨rfl, rfl⟩))
    (fun os started H enc _ => lifted os started H enc)
theorem proved : Rows.TaxCodesSaid := over
#print axioms proved
end Go.Proofs.Ytgjpegmhlnabpaa.taxCodes
namespace Go.Proofs.Ytgjpegmhlnabpaa
/-- The row, under a short name, for the claim. -/
theorem taxCodes_holds : Rows.TaxCodesSaid := taxCodes.proved
end Go.Proofs.Ytgjpegmhlnabpaa
end
