/- The texts of a claim of chapter 25. Part 2 of 2 of what is the claim's own. -/
import Derived.Test.YtgjpegmhlnabpaaQB1
import Derived.SizedLaws
import Derived.ChangeArms
import Derived.ChangeShapes
import Derived.DataReads
import Derived.Test.YtgjpegmhlnabpaaQOf1
import Derived.Test.YtgjpegmhlnabpaaQCC3
import Derived.Test.YtgjpegmhlnabpaaQB6
import Derived.Test.YtgjpegmhlnabpaaRows
import Derived.WalkKit
import Derived.ProofKit
import Derived.OpenShut
import Derived.ShutString
import Derived.ChangeOld
import Derived.Below
section
namespace Go.Proofs.YtgjpegmhlnabpaaW.PrintLast
open Go.RowKit Go.Proofs.YtgjpegmhlnabpaaW.PrintWords
section
variable {P : Program} {α β : Type}
structure Opens (P : Program) (d : Kd α) (t : TypeId) (G : α → Prop) : Prop where
  get : ∀ {H : Type} (enc : TypeId × Value → H) (W : World) (base : Nat) (sp : Nat → Bool) (held : Bool) (fuel : Nat) (cs : List Value) (x : DataW H × List MemPlace), DataW.trod enc P W base sp held fuel t cs = some x → (∀ n ∈ DataW.weights P t x.1, n ≤ reachBytes) → ∃ a : α, d.K W a cs ∧ G a
theorem Opens.imp {d : Kd α} {t : TypeId} {G G' : α → Prop} (h : Opens P d t G) (hg : ∀ a, G a → G' a) : Opens P d t G' :=
  ⟨fun enc W base sp held fuel cs x hx hw => let ⟨a, h1, h2⟩ := h.get enc W base sp held fuel cs x hx hw; ⟨a, h1, hg a h2⟩⟩
theorem Opens.int {t : TypeId} {k : IntKind} (ht : P.underlying t = some (.int k)) : Opens P (Kd.int k) t (fun n => (Lit.int k n).wf = true) :=
  ⟨fun enc W base sp held fuel cs x hx hw => by
    obtain ⟨n, rfl, _, h⟩ := DataW.trod_int ht hx; exact ⟨n, rfl, h⟩⟩
theorem Opens.bool {t : TypeId} (ht : P.underlying t = some .bool) : Opens P Kd.bool t (fun _ => True) :=
  ⟨fun enc W base sp held fuel cs x hx hw => by
    obtain ⟨n, rfl, _⟩ := DataW.trod_bool ht hx; exact ⟨n, rfl, trivial⟩⟩
theorem Opens.string {t : TypeId} (ht : P.underlying t = some .string) : Opens P Kd.string t (fun s => s.size ≤ 140737488351232) :=
  ⟨fun enc W base sp held fuel cs x hx hw => by
    obtain ⟨s, rfl, rfl, h⟩ := DataW.trod_string ht hx; have := hw s.data.toList.length (by simp [DataW.weights]); rw [Array.length_toList] at this; exact ⟨s, rfl, this⟩⟩
theorem list_of {Q : Nat → α → Prop} : ∀ n : Nat, (∀ i, i < n → ∃ a, Q i a) → ∃ xs : List α, xs.length = n ∧ ∀ i a, xs[i]? = some a → Q i a
  | 0, _ => ⟨[], rfl, fun i a h => by simp at h⟩
  | n + 1, h => by
    obtain ⟨xs, hl, hx⟩ := list_of n (fun i hi => h i (by omega)); obtain ⟨a, ha⟩ := h n (by omega); refine ⟨xs ++ [a], by simp [hl], fun i b hb => ?_⟩
    by_cases hi : i < n
    · rw [List.getElem?_append_left (by omega)] at hb; exact hx i b hb
    · have hi2 : i < n + 1 := by have := (List.getElem?_eq_some_iff.1 hb).1; simp [hl] at this; exact this
      obtain rfl : i = n := by omega
      rw [List.getElem?_append_right (by omega), hl] at hb
      simp at hb
      subst hb; exact ha
theorem Opens.slice {d : Kd α} {t e : TypeId} {G : α → Prop} (ht : P.underlying t = some (.slice e)) (h : Opens P d e G) (hc : P.cellsOf e = d.sz) {b : Nat} (hb : P.bytesOf e = b) : Opens P (Kd.slice e d) t (fun xs => xs.length * b ≤ 140737488351232 ∧ ∀ x ∈ xs, G x) :=
  ⟨fun {H} enc W base sp held fuel cs x hx hw => by
    rcases DataW.trod_slice ht hx with ⟨rfl, rfl⟩ | ⟨a, len, cap, elems, rest, n, rfl, rfl, rfl, hba, hl, hm, hlen, hel, _, _⟩
    · exact ⟨[], ⟨none, 0, rfl, Nat.le_refl _, rfl, by simp, fun h => absurd h (Nat.lt_irrefl 0)⟩, by simp, fun _ h => by simp at h⟩
    · simp only [DataW.weights, ht] at hw; have hw0 := hw _ (List.mem_cons_self ..)
      have each : ∀ i, i < len → ∃ y : α, (∃ c : List Value, c.length = d.sz ∧ d.K W y c ∧ ∀ j u, c[j]? = some u → W.cell? (a.add (i * d.sz + j)) = some u) ∧ G y := by
        intro i hi; have h1 := hel i hi; rw [List.getElem?_eq_getElem (by omega)] at h1; obtain ⟨c, hcs, h2⟩ := Option.bind_eq_some_iff.1 h1; obtain ⟨_, hcl, hcc⟩ := World.cells?_some hcs
        obtain ⟨y, hk, hg⟩ := h.get enc W base sp held n c _ h2 (fun m hm => hw m (List.mem_cons_of_mem _ (List.mem_append_left _ (by
          have : ∀ (l : List (DataW H)) (z : DataW H), z ∈ l → ∀ m ∈ DataW.weights P e z, m ∈ DataW.weightsAll P e l := by
            intro l z hz m hm
            induction l with
            | nil => simp at hz
            | cons y l ih =>
              simp only [DataW.weightsAll, List.mem_append]
              rcases List.mem_cons.1 hz with rfl | hz
              · exact .inl hm
              · exact .inr (ih hz)
          exact this _ _ (List.mem_map.2 ⟨_, List.getElem_mem (by omega), rfl⟩) m hm))))
        refine ⟨y, ⟨c, by rw [hcl, hc], hk, fun j u hu => ?_⟩, hg⟩; have hj : j < c.length := (List.getElem?_eq_some_iff.1 hu).1; rw [hc] at hcc; have := hcc j (by omega); rw [add_add] at this; rw [this, hu]
      obtain ⟨ys, hyl, hy⟩ := list_of len each; refine ⟨ys, ⟨some a, cap, by rw [hyl], by omega, rfl, ?_, fun _ => ⟨a, rfl, fun j p hj => (hy j p hj).1⟩⟩, ?_, fun y hy' => ?_⟩
      · unfold maxLen at hm; omega
      · rw [hyl]; have h2 : (elems.map (·.1)).length + (rest.map (·.1)).length ≥ len := by simp; omega
        have h3 : len * b ≤ ((elems.map (·.1)).length + (rest.map (·.1)).length) * P.bytesOf e := by rw [hb]; exact Nat.mul_le_mul_right _ h2
        exact Nat.le_trans h3 hw0
      · obtain ⟨j, hj⟩ := List.getElem?_of_mem hy'; exact (hy j y hj).2⟩
theorem Opens.iso {d : Kd α} {t : TypeId} {G : α → Prop} (h : Opens P d t G) (f : β → α) (g : α → β) (hg : ∀ a, f (g a) = a) : Opens P (Kd.iso d f) t (fun b => G (f b)) :=
  ⟨fun enc W base sp held fuel cs x hx hw => let ⟨a, h1, h2⟩ := h.get enc W base sp held fuel cs x hx hw; ⟨g a, by show d.K W (f (g a)) cs; rw [hg]; exact h1, by rw [hg]; exact h2⟩⟩
structure FOpens (P : Program) (d : Kd α) (fs : List Field) (o : Nat) (G : α → Prop) : Prop where
  get : ∀ {H : Type} (enc : TypeId × Value → H) (W : World) (base : Nat) (sp : Nat → Bool) (held : Bool) (n : Nat) (cs : List Value) (xs : List (DataW H × List MemPlace)), o + d.sz = cs.length → xs.length = fs.length →
    (∀ (i : Nat) (f : Field), fs[i]? = some f → DataW.trod enc P W base sp held n f.type ((cs.drop f.offset).take (P.cellsOf f.type)) = xs[i]?) → (∀ m ∈ DataW.weightsEach P (fs.map (·.type)) (xs.map (·.1)), m ≤ reachBytes) → ∃ a : α, d.K W a (cs.drop o) ∧ G a
theorem FOpens.one {d : Kd α} {f : Field} {o : Nat} {G : α → Prop} (h : Opens P d f.type G) (ho : f.offset = o) (hs : P.cellsOf f.type = d.sz) : FOpens P d [f] o G :=
  ⟨fun enc W base sp held n cs xs hl hx ht hw => by
    obtain ⟨x, rfl⟩ := List.length_eq_one_iff.1 hx; have h1 := ht 0 f rfl; rw [ho, hs, List.take_of_length_le (by simp; omega)] at h1; exact h.get enc W base sp held n _ x h1 (fun m hm => hw m (by simpa [DataW.weightsEach] using hm))⟩
theorem FOpens.cons {d : Kd α} {d2 : Kd β} {f : Field} {fs : List Field} {o : Nat} {G : α → Prop} {G2 : β → Prop} (h : Opens P d f.type G) (ho : f.offset = o) (hs : P.cellsOf f.type = d.sz) (hr : FOpens P d2 fs (o + d.sz) G2) : FOpens P (Kd.pair d d2) (f :: fs) o (fun p => G p.1 ∧ G2 p.2) :=
  ⟨fun enc W base sp held n cs xs hl hx ht hw => by
    cases xs with
    | nil => simp at hx
    | cons x xs =>
      have h1 := ht 0 f rfl; simp only [List.getElem?_cons_zero] at h1; rw [ho, hs] at h1; have e : o + (Kd.pair d d2).sz = o + d.sz + d2.sz := by show o + (d.sz + d2.sz) = _; omega
      obtain ⟨a, ha, hga⟩ := h.get enc W base sp held n _ x h1 (fun m hm => hw m (by simp only [List.map_cons, DataW.weightsEach, List.mem_append]; exact .inl hm)); obtain ⟨b, hb, hgb⟩ := hr.get enc W base sp held n cs xs (by omega) (by simpa using hx) (fun i f' hf => by simpa using ht (i + 1) f' (by simpa using hf)) (fun m hm => hw m (by simp only [List.map_cons, DataW.weightsEach, List.mem_append]; exact .inr hm)); refine ⟨(a, b), ⟨_, _, ?_, ha, hb⟩, hga, hgb⟩; rw [← List.drop_drop, List.take_append_drop]⟩
theorem Opens.struct {d : Kd α} {t : TypeId} {fs : Array Field} {G : α → Prop} (ht : P.underlying t = some (.struct fs)) (hs : P.cellsOf t = d.sz) (h : FOpens P d fs.toList 0 G) : Opens P d t G :=
  ⟨fun enc W base sp held fuel cs x hx hw => by
    obtain ⟨xs, n, rfl, rfl, hl, hxl, hi⟩ := DataW.trod_struct ht hx; simp only [DataW.weights, ht] at hw; have := h.get enc W base sp held n cs xs (by omega) (by simpa using hxl) (fun i f hf => hi i f (by simpa using hf)) hw
    simpa using this⟩
theorem weights_at {H : Type} {ts : List TypeId} {ds : List (DataW H)} (h : (DataW.weightsEach P ts ds).all (· ≤ reachBytes) = true) {j : Nat} {t : TypeId} {d : DataW H} (ht : ts[j]? = some t) (hd : ds[j]? = some d) : ∀ n ∈ DataW.weights P t d, n ≤ reachBytes :=
  fun n hn => by simpa using List.all_eq_true.1 h _ (DataW.weights_mem_each ht hd n hn)
end
end Go.Proofs.YtgjpegmhlnabpaaW.PrintLast
end
section
namespace Go.Proofs.Ytgjpegmhlnabpaa.M
open Go.RowKit Go.Proofs.YtgjpegmhlnabpaaW.PrintWords Go.Proofs.YtgjpegmhlnabpaaW.PrintLast Go.Proofs.YtgjpegmhlnabpaaW.PrintMore
attribute [local go_sem] max2_int min2_int max_two min_two max_three min_three max_four min_four
set_option linter.unusedVariables false
set_option linter.unusedSimpArgs false
def G23 (x_ : S23) : Prop := ((Lit.int .i64 x_.f0).wf = true) ∧ ((Lit.int .i64 x_.f1).wf = true)
theorem opens23 : Opens Try.prog k23 23 G23 :=
  Opens.imp (Opens.iso (Opens.struct Try.underlying23 (by kernel_rfl) (FOpens.cons (Opens.int Try.underlying3) rfl (by kernel_rfl) (FOpens.one (Opens.int Try.underlying3) rfl (by kernel_rfl)))) (fun x : S23 => (x.f0, x.f1)) (fun p => (⟨p.1, p.2⟩ : S23)) (fun _ => rfl)) (fun _ h => h)
def G59 (x_ : S59) : Prop := (x_.f0.size ≤ 140737488351232) ∧ ((x_.f1.size ≤ 140737488351232) ∧ (G23 x_.f2))
theorem opens59 : Opens Try.prog k59 59 G59 :=
  Opens.imp (Opens.iso (Opens.struct Try.underlying59 (by kernel_rfl) (FOpens.cons (Opens.string Try.underlying9) rfl (by kernel_rfl) (FOpens.cons (Opens.string Try.underlying9) rfl (by kernel_rfl) (FOpens.one opens23 rfl (by kernel_rfl))))) (fun x : S59 => (x.f0, x.f1, x.f2)) (fun p => (⟨p.1, p.2.1, p.2.2⟩ : S59)) (fun _ => rfl)) (fun _ h => h)
def G49 (x_ : S49) : Prop := ((Lit.int .i64 x_.f0).wf = true) ∧ (x_.f1.size ≤ 140737488351232)
theorem opens49 : Opens Try.prog k49 49 G49 :=
  Opens.imp (Opens.iso (Opens.struct Try.underlying49 (by kernel_rfl) (FOpens.cons (Opens.int Try.underlying3) rfl (by kernel_rfl) (FOpens.one (Opens.string Try.underlying9) rfl (by kernel_rfl)))) (fun x : S49 => (x.f0, x.f1)) (fun p => (⟨p.1, p.2⟩ : S49)) (fun _ => rfl)) (fun _ h => h)
def accountinglaw25_TaxOf.Pure : Prop := ∀ (x0 : List (S49)) (x1 : List (S59)) (x2 : Int) (x3 : Int), (x0.length * 24 ≤ 140737488351232 ∧ ∀ y0_ ∈ x0, G49 y0_) → (x1.length * 48 ≤ 140737488351232 ∧ ∀ y0_ ∈ x1, G59 y0_) → ((Lit.int .i64 x2).wf = true) → ((Lit.int .i64 x3).wf = true) → ∃ k, accountinglaw25_TaxOf.f k x0 x1 x2 x3 = some true
end Go.Proofs.Ytgjpegmhlnabpaa.M
end
section
namespace Go.Proofs.Ytgjpegmhlnabpaa.M
open Go.RowKit Go.Proofs.YtgjpegmhlnabpaaW.PrintWords Dv
set_option linter.unusedVariables false
set_option linter.unusedSimpArgs false
theorem bl_lt : ∀ x y : List UInt8, Op.bytesLess x y = decide (x < y)
  | _, [] => by simp [Op.bytesLess]
  | [], _ :: _ => by simp [Op.bytesLess]
  | a :: x, b :: y => by
    rw [Op.bytesLess, bl_lt x y]
    by_cases h : a < b
    · simp [h, List.cons_lt_cons_iff]
    · by_cases e : a = b
      · subst e; simp [List.cons_lt_cons_iff]
      · simp [h, e, List.cons_lt_cons_iff]
theorem toList_inj {a b : ByteArray} : a.toList = b.toList ↔ a = b := by
  rw [ByteArray.toList_eq, ByteArray.toList_eq]
  constructor
  · intro h; exact ByteArray.ext (Array.toList_inj.1 h)
  · rintro rfl; rfl
theorem cdv_at (l : List TC) : ∀ n i, i + n = l.length → cdv l n i = true → ∀ j : Nat, i ≤ j → j < l.length → codev (rdC l (j : Int)).f0 = true ∧ ratev (rdC l (j : Int)).f2.f0 (rdC l (j : Int)).f2.f1 = true ∧ (0 < j → (rdC l ((j : Int) - 1)).f0.toList < (rdC l (j : Int)).f0.toList)
  | 0, i, h, hc, j, h1, h2 => by omega
  | n + 1, i, h, hc, j, h1, h2 => by
    unfold cdv at hc
    simp only [Bool.and_eq_true, Bool.or_eq_true, decide_eq_true_eq, bl_lt] at hc; obtain ⟨a1, a2, a3, a4, a5⟩ := hc
    by_cases e : j = i
    · subst e; exact ⟨a1, a3, fun hp => by rcases a4 with a4 | a4; omega; exact a4⟩
    · exact cdv_at l n (i + 1) (by omega) a5 j (by omega) h2
structure CodesOk (l : List TC) : Prop where
  len : l.length ≤ 200
  ok : TCok l
  one : ∀ j : Nat, j < l.length → codev (rdC l (j : Int)).f0 = true ∧ ratev (rdC l (j : Int)).f2.f0 (rdC l (j : Int)).f2.f1 = true
  next : ∀ j : Nat, 0 < j → j < l.length → (rdC l ((j : Int) - 1)).f0.toList < (rdC l (j : Int)).f0.toList
theorem codesOk {l : List TC} (ho : TCok l) (h : codesv l = true) : CodesOk l := by
  unfold codesv at h
  simp only [Bool.and_eq_true, decide_eq_true_eq] at h; have H := cdv_at l l.length 0 (by omega) h.2; exact ⟨by omega, ho, fun j hj => ⟨(H j (by omega) hj).1, (H j (by omega) hj).2.1⟩, fun j h0 hj => (H j (by omega) hj).2.2 h0⟩
theorem CodesOk.lt {l : List TC} (h : CodesOk l) : ∀ d i : Nat, i + d + 1 < l.length → (rdC l (i : Int)).f0.toList < (rdC l ((i + d + 1 : Nat) : Int)).f0.toList
  | 0, i, hi => by
    have := h.next (i + 1) (by omega) hi; rw [show ((i + 1 : Nat) : Int) - 1 = (i : Int) by omega] at this; exact this
  | d + 1, i, hi => by
    have h1 := CodesOk.lt h d i (by omega); have h2 := h.next (i + (d + 1) + 1) (by omega) hi; rw [show ((i + (d + 1) + 1 : Nat) : Int) - 1 = ((i + d + 1 : Nat) : Int) by omega] at h2; exact List.lt_trans h1 h2
theorem CodesOk.lt' {l : List TC} (h : CodesOk l) {c d : Int} (h0 : 0 ≤ c) (h1 : c < d) (h2 : d < (l.length : Int)) : (rdC l c).f0.toList < (rdC l d).f0.toList := by
  have := h.lt (d - c - 1).toNat c.toNat (by omega); rw [show ((c.toNat : Nat) : Int) = c by omega, show ((c.toNat + (d - c - 1).toNat + 1 : Nat) : Int) = d by omega] at this; exact this
theorem code_out {l : List TC} (h : CodesOk l) (m : ByteArray) : ∃ t : Int, 0 ≤ t ∧ t ≤ (l.length : Int) ∧ (∀ c, 0 ≤ c → c < t → (rdC l c).f0.toList < m.toList) ∧ (∀ c, t ≤ c → c < (l.length : Int) → ¬ (rdC l c).f0.toList < m.toList) ∧
    ∀ r, Ev (fun k => if t < (l.length : Int) then (if 0 ≤ t then ((tax_code_1.f (rdC l t).f0 (rdC l t).f1 (rdC l t).f2.f0 (rdC l t).f2.f1).bind fun t105 => (if t105.toList = m.toList then (some ((rdC l t).f0, (rdC l t).f1, (rdC l t).f2.f0, (rdC l t).f2.f1, true)) else (some ((⟨#[]⟩ : ByteArray), (⟨#[]⟩ : ByteArray), (0 : Int), (0 : Int), false)))) else none) else (some ((⟨#[]⟩ : ByteArray), (⟨#[]⟩ : ByteArray), (0 : Int), (0 : Int), false))) r → Ev (fun k => api_TaxCode__tax_code_1.l0 k l m 0 (l.length : Int) (⟨#[]⟩ : ByteArray) (⟨#[]⟩ : ByteArray) 0 0) r := by
  have hl := h.len
  refine bsearch (fun i j k => api_TaxCode__tax_code_1.l0 k l m i j (⟨#[]⟩ : ByteArray) (⟨#[]⟩ : ByteArray) 0 0)
    (fun t k => if t < (l.length : Int) then (if 0 ≤ t then ((tax_code_1.f (rdC l t).f0 (rdC l t).f1 (rdC l t).f2.f0 (rdC l t).f2.f1).bind fun t105 => (if t105.toList = m.toList then (some ((rdC l t).f0, (rdC l t).f1, (rdC l t).f2.f0, (rdC l t).f2.f1, true)) else (some ((⟨#[]⟩ : ByteArray), (⟨#[]⟩ : ByteArray), (0 : Int), (0 : Int), false)))) else none) else (some ((⟨#[]⟩ : ByteArray), (⟨#[]⟩ : ByteArray), (0 : Int), (0 : Int), false)))
    (fun c => (rdC l c).f0.toList < m.toList) 0 (l.length : Int) ?_ ?_ ?_ ?_ l.length 0 (l.length : Int) (by omega) (by omega) (by omega) (by omega) (fun c _ _ => by omega) (fun c _ _ => by omega)
  · intro i j r h0 h1 h2 hq hr; refine Ev.succ ?_; have e1 : wrap64 (i + j) = i + j := w64 (by omega) (by omega); have e2 : Int.tdiv (i + j) 2 = (i + j) / 2 := Int.tdiv_eq_ediv_of_nonneg (by omega); have e3 : wrap64 ((i + j) / 2) = (i + j) / 2 := w64 (by omega) (by omega); have e4 : wrap64 ((i + j) / 2 + 1) = (i + j) / 2 + 1 := w64 (by omega) (by omega); have hb : Op.bytesLess (rdC l ((i + j) / 2)).f0.toList m.toList = true := by rw [bl_lt]; exact decide_eq_true hq
    simp only [api_TaxCode__tax_code_1.l0, e1, e2, e3, e4, if_pos h1, if_pos (show 0 ≤ (i + j) / 2 by omega), if_pos (show (i + j) / 2 < (l.length : Int) by omega), tax_code_1.f, Option.bind_some, if_pos hb]; exact hr
  · intro i j r h0 h1 h2 hq hr; refine Ev.succ ?_; have e1 : wrap64 (i + j) = i + j := w64 (by omega) (by omega); have e2 : Int.tdiv (i + j) 2 = (i + j) / 2 := Int.tdiv_eq_ediv_of_nonneg (by omega); have e3 : wrap64 ((i + j) / 2) = (i + j) / 2 := w64 (by omega) (by omega); have hb : ¬ Op.bytesLess (rdC l ((i + j) / 2)).f0.toList m.toList = true := by rw [bl_lt]; simpa using hq
    simp only [api_TaxCode__tax_code_1.l0, e1, e2, e3, if_pos h1, if_pos (show 0 ≤ (i + j) / 2 by omega), if_pos (show (i + j) / 2 < (l.length : Int) by omega), tax_code_1.f, Option.bind_some, if_neg hb]; exact hr
  · intro i r h0 h1 hr; refine Ev.succ ?_; obtain ⟨k0, hk⟩ := hr; refine ⟨k0, fun k hk1 => ?_⟩; have := hk k hk1; simp only [api_TaxCode__tax_code_1.l0, if_neg (show ¬ i < i by omega)]; exact this
  · intro c d h0 h1 h2 hq; exact List.lt_trans (h.lt' h0 h1 h2) hq
theorem tax_code.hit {l : List TC} (h : CodesOk l) {j : Nat} (hj : j < l.length) : Ev (fun k => tax_code.f k l (rdC l (j : Int)).f0) ((rdC l (j : Int)).f0, (rdC l (j : Int)).f1, (rdC l (j : Int)).f2.f0, (rdC l (j : Int)).f2.f1, true) := by
  unfold tax_code.f api_TaxCode__tax_code_1.f
  obtain ⟨t, t0, t1, t2, t3, t4⟩ := code_out h (rdC l (j : Int)).f0
  have ht : t = (j : Int) := by
    rcases Int.lt_trichotomy t (j : Int) with c | c | c
    · exact absurd (h.lt' t0 c (by omega)) (t3 t (Int.le_refl _) (by omega))
    · exact c
    · exact absurd (t2 (j : Int) (by omega) c) (List.lt_irrefl _)
  subst ht; refine Ev.bind (a := ((rdC l (j : Int)).f0, (rdC l (j : Int)).f1, (rdC l (j : Int)).f2.f0, (rdC l (j : Int)).f2.f1, true)) (t4 _ ?_) (Ev.const _); simp only [if_pos (show (j : Int) < (l.length : Int) by omega), if_pos (show (0 : Int) ≤ (j : Int) by omega), tax_code_1.f, Option.bind_some, if_true]; exact Ev.const _
theorem tax_code.miss {l : List TC} (h : CodesOk l) {m : ByteArray} (hm : ∀ j : Nat, j < l.length → (rdC l (j : Int)).f0 ≠ m) : Ev (fun k => tax_code.f k l m) ((⟨#[]⟩ : ByteArray), (⟨#[]⟩ : ByteArray), 0, 0, false) := by
  unfold tax_code.f api_TaxCode__tax_code_1.f
  obtain ⟨t, t0, t1, t2, t3, t4⟩ := code_out h m; refine Ev.bind (a := ((⟨#[]⟩ : ByteArray), (⟨#[]⟩ : ByteArray), (0 : Int), (0 : Int), false)) (t4 _ ?_) (Ev.const _)
  by_cases c : t < (l.length : Int)
  · have hne : ¬ (rdC l t).f0.toList = m.toList := by
      intro e; have := hm t.toNat (by omega); rw [show ((t.toNat : Nat) : Int) = t by omega] at this; exact this (toList_inj.1 e)
    simp only [if_pos c, if_pos t0, tax_code_1.f, Option.bind_some, if_neg hne]; exact Ev.const _
  · simp only [if_neg c]; exact Ev.const _
theorem ref_find.go {l : List TC} (hl : l.length ≤ 200) (m : ByteArray) : ∀ n i, i + n = l.length → (∃ r : Int, 0 ≤ r ∧ (∃ j : Nat, i ≤ j ∧ j < l.length ∧ (rdC l (j : Int)).f0 = m) ∧ Ev (fun k => accountingref25_find.l0 k l m (i : Int)) r) ∨ ((∀ j : Nat, i ≤ j → j < l.length → (rdC l (j : Int)).f0 ≠ m) ∧ Ev (fun k => accountingref25_find.l0 k l m (i : Int)) (-1))
  | 0, i, h => by
    right
    refine ⟨fun j _ _ => by omega, Ev.succ ?_⟩; simp only [accountingref25_find.l0, if_neg (show ¬ (i : Int) < (l.length : Int) by omega)]; exact Ev.const _
  | n + 1, i, h => by
    by_cases e : (rdC l (i : Int)).f0 = m
    · left
      refine ⟨(i : Int), by omega, ⟨i, Nat.le_refl _, by omega, e⟩, Ev.succ ?_⟩; simp only [accountingref25_find.l0, if_pos (show (i : Int) < (l.length : Int) by omega), if_pos (show (0 : Int) ≤ (i : Int) by omega), if_pos (show (rdC l (i : Int)).f0.toList = m.toList by rw [e])]; exact Ev.const _
    · have e2 : ¬ (rdC l (i : Int)).f0.toList = m.toList := fun h => e (toList_inj.1 h)
      have st : ∀ r, Ev (fun k => accountingref25_find.l0 k l m ((i + 1 : Nat) : Int)) r → Ev (fun k => accountingref25_find.l0 k l m (i : Int)) r := by
        intro r hr; refine Ev.succ ?_; simp only [accountingref25_find.l0, if_pos (show (i : Int) < (l.length : Int) by omega), if_pos (show (0 : Int) ≤ (i : Int) by omega), if_neg e2]; rw [w64 (n := (i : Int) + 1) (by omega) (by omega), show (i : Int) + 1 = ((i + 1 : Nat) : Int) by omega]; exact hr
      rcases ref_find.go hl m n (i + 1) (by omega) with ⟨r, r0, ⟨j, j0, j1, j2⟩, hr⟩ | ⟨hn, hr⟩
      · exact Or.inl ⟨r, r0, ⟨j, by omega, j1, j2⟩, st r hr⟩
      · refine Or.inr ⟨fun j h0 h1 => ?_, st _ hr⟩
        by_cases ej : j = i
        · subst ej; exact e
        · exact hn j (by omega) h1
end Go.Proofs.Ytgjpegmhlnabpaa.M
end
section
namespace Go.Proofs.Ytgjpegmhlnabpaa.M
open Go.RowKit Go.Proofs.YtgjpegmhlnabpaaW.PrintWords Go.Proofs.YtgjpegmhlnabpaaW.PrintLast Dv
set_option linter.unusedVariables false
set_option linter.unusedSimpArgs false
def fracOf (codes : List TC) (m : ByteArray) : Int × Int := match codes.find? (fun c => decide (c.f0 = m)) with | some c => (c.f2.f0, c.f2.f1) | none => (0, 0)
theorem fracOf_at {l : List TC} (h : CodesOk l) {j : Nat} (hj : j < l.length) : fracOf l (rdC l (j : Int)).f0 = ((rdC l (j : Int)).f2.f0, (rdC l (j : Int)).f2.f1) := by
  have e : ∀ i (hi : i < l.length), l[i] = rdC l (i : Int) := fun i hi => by
    show l[i] = l.getD (i : Int).toNat _
    simp [hi]
  have hf : l.find? (fun c => decide (c.f0 = (rdC l (j : Int)).f0)) = some (rdC l (j : Int)) := by
    rw [List.find?_eq_some_iff_getElem]; refine ⟨by simp, j, hj, e j hj, fun i hi => ?_⟩; have hlt := h.lt' (c := (i : Int)) (d := (j : Int)) (by omega) (by omega) (by omega); rw [e i (by omega)]; have : (rdC l (i : Int)).f0 ≠ (rdC l (j : Int)).f0 := fun e2 => by rw [e2] at hlt; exact List.lt_irrefl _ hlt
    simp [this]
  unfold fracOf
  rw [hf]
theorem fracOf_in {l : List TC} (h : CodesOk l) (m : ByteArray) : inI (fracOf l m).1 ∧ inI (fracOf l m).2 := by
  unfold fracOf
  cases hf : l.find? (fun c => decide (c.f0 = m)) with
  | none => constructor <;> (unfold inI; simp)
  | some c =>
    have hm := List.mem_of_find?_eq_some hf; exact (h.ok c hm).2
def known (codes : List TC) (m : ByteArray) : Bool := codes.any (fun c => decide (c.f0 = m))
theorem rdC_get {l : List TC} {j : Nat} (hj : j < l.length) : rdC l (j : Int) = l[j] := by show l.getD (j : Int).toNat _ = l[j]; simp [hj]
theorem known_iff (l : List TC) (m : ByteArray) : known l m = true ↔ ∃ j : Nat, j < l.length ∧ (rdC l (j : Int)).f0 = m := by
  unfold known
  rw [List.any_eq_true]
  constructor
  · rintro ⟨c, hc, h⟩; obtain ⟨j, hj, rfl⟩ := List.mem_iff_getElem.1 hc; exact ⟨j, hj, by rw [rdC_get hj]; simpa using h⟩
  · rintro ⟨j, hj, h⟩; exact ⟨l[j], List.getElem_mem hj, by rw [rdC_get hj] at h; simpa using h⟩
theorem tax_code.F {l : List TC} (h : CodesOk l) (m : ByteArray) : ∃ c, Ev (fun k => tax_code.f k l m) c ∧ c.2.2.1 = (fracOf l m).1 ∧ c.2.2.2.1 = (fracOf l m).2 ∧ c.2.2.2.2 = known l m := by
  by_cases e : ∃ j : Nat, j < l.length ∧ (rdC l (j : Int)).f0 = m
  · obtain ⟨j, hj, rfl⟩ := e; exact ⟨_, tax_code.hit h hj, by rw [fracOf_at h hj], by rw [fracOf_at h hj], ((known_iff l _).2 ⟨j, hj, rfl⟩).symm⟩
  · have hm : ∀ j : Nat, j < l.length → (rdC l (j : Int)).f0 ≠ m := fun j hj e2 => e ⟨j, hj, e2⟩
    have hn : l.find? (fun c => decide (c.f0 = m)) = none := by
      rw [List.find?_eq_none]; intro c hc; obtain ⟨j, hj, rfl⟩ := List.mem_iff_getElem.1 hc; have := hm j hj; have e2 : rdC l (j : Int) = l[j] := by show l.getD (j : Int).toNat _ = l[j]; simp [hj]
      rw [e2] at this
      simpa using this
    exact ⟨_, tax_code.miss h hm, by unfold fracOf; rw [hn], by unfold fracOf; rw [hn], (Bool.eq_false_iff.2 (fun hk => e ((known_iff l m).1 hk))).symm⟩
def partsv (way mode x n d : Int) : Int × Int := if way = 1 then (x, (onv x n d mode).1) else if way = 3 then ((inv x n d mode).1, (inv x n d mode).2.1) else (x, 0)
theorem tax_parts.eq {way mode x n d : Int} (hx : inI x) (hn : inI n) (hd : inI d) : Ev (fun k => tax_parts.f k way mode x n d) (partsv way mode x n d) := by
  unfold tax_parts.f partsv
  by_cases c1 : way = 1
  · simp only [if_pos c1]; exact Ev.bind (tax_On.eq hx hn hd) (Ev.const _)
  · simp only [if_neg c1]
    by_cases c3 : way = 3
    · simp only [if_pos c3]; exact Ev.bind (tax_In.eq hx hn hd) (Ev.const _)
    · simp only [if_neg c3]; exact Ev.const _
def lp (way mode : Int) (codes : List TC) (x : TxLine) : Int × Int := partsv way mode x.f0 (fracOf codes x.f1).1 (fracOf codes x.f1).2
def netv (way mode : Int) (codes : List TC) (x : TxLine) : Int := if x.f1.toList = ([] : List UInt8) then x.f0 else (lp way mode codes x).1
def stepL (way mode : Int) (codes : List TC) (L : List (ByteArray × TxSum)) (x : TxLine) : List (ByteArray × TxSum) :=
  if x.f1.toList = ([] : List UInt8) then L else aput L x.f1 ⟨x.f1, wrap64 (((aget L x.f1).getD txZero).f1 + (lp way mode codes x).1), wrap64 (((aget L x.f1).getD txZero).f2 + (lp way mode codes x).2)⟩
theorem ofL.eq {codes : List TC} (h : CodesOk codes) (way mode : Int) : ∀ (l : List TxLine) (n : List Int) (L : List (ByteArray × TxSum)), (∀ x ∈ l, inI x.f0) → n.length + l.length ≤ 1000000 → Ev (fun k => ofL k way mode codes l n L) (n ++ l.map (netv way mode codes), l.foldl (stepL way mode codes) L)
  | [], n, L, _, _ => by
    simp only [List.map_nil, List.append_nil, List.foldl_nil]; exact Ev.const _
  | x :: r, n, L, hx, hl => by
    have hl2 : n.length + (r.length + 1) ≤ 1000000 := hl; have hx0 := hx x (by simp); have hr : ∀ y ∈ r, inI y.f0 := fun y hy => hx y (by simp [hy]); simp only [ofL, if_pos (show n.length < 17592186044416 by omega), List.map_cons, List.foldl_cons]
    by_cases c : x.f1.toList = ([] : List UInt8)
    · have e1 : netv way mode codes x = x.f0 := by unfold netv; rw [if_pos c]
      have e2 : stepL way mode codes L x = L := by unfold stepL; rw [if_pos c]
      rw [e1, e2]; simp only [if_pos c]; have := ofL.eq h way mode r (n ++ [x.f0]) L hr (by simp; omega); rw [List.append_assoc, List.singleton_append] at this; exact this
    · have e1 : netv way mode codes x = (lp way mode codes x).1 := by unfold netv; rw [if_neg c]
      have e2 : stepL way mode codes L x = aput L x.f1 ⟨x.f1, wrap64 (((aget L x.f1).getD txZero).f1 + (lp way mode codes x).1), wrap64 (((aget L x.f1).getD txZero).f2 + (lp way mode codes x).2)⟩ := by unfold stepL; rw [if_neg c]
      rw [e1, e2]; simp only [if_neg c]; obtain ⟨q, hq, q1, q2, _⟩ := tax_code.F h x.f1; refine Ev.bind hq ?_; have hin := fracOf_in h x.f1; rw [q1, q2]; refine Ev.bind (tax_parts.eq hx0 hin.1 hin.2) ?_; have := ofL.eq h way mode r (n ++ [(lp way mode codes x).1]) (aput L x.f1 ⟨x.f1, wrap64 (((aget L x.f1).getD txZero).f1 + (lp way mode codes x).1), wrap64 (((aget L x.f1).getD txZero).f2 + (lp way mode codes x).2)⟩) hr (by simp; omega); rw [List.append_assoc, List.singleton_append] at this; exact this
section
variable {κ ν : Type} [DecidableEq κ]
theorem aget_aput (k k' : κ) (v : ν) : ∀ L : List (κ × ν), aget (aput L k v) k' = if k = k' then some v else aget L k'
  | [] => by simp [aput, aget]
  | p :: L => by
    unfold aput
    by_cases c : p.1 = k
    · rw [if_pos c]
      unfold aget
      by_cases e : k = k'
      · simp [e]
      · simp [e, c]
    · rw [if_neg c]
      unfold aget
      rw [aget_aput k k' v L]
      by_cases e : p.1 = k'
      · have : ¬ k = k' := fun e2 => c (e.trans e2.symm)
        simp [e, this]
      · simp [e]
theorem aput_keys (k : κ) (v : ν) : ∀ L : List (κ × ν), (aput L k v).map (·.1) = if k ∈ L.map (·.1) then L.map (·.1) else L.map (·.1) ++ [k]
  | [] => by simp [aput]
  | p :: L => by
    unfold aput
    by_cases c : p.1 = k
    · simp [c]
    · have c2 : ¬ k = p.1 := fun e => c e.symm; rw [if_neg c, List.map_cons, aput_keys k v L]
      by_cases e : k ∈ L.map (·.1)
      · simp [e, c2]
      · simp [e, c2]
theorem mem_keys (k : κ) : ∀ L : List (κ × ν), k ∈ L.map (·.1) ↔ (aget L k).isSome = true
  | [] => by simp [aget]
  | p :: L => by
    unfold aget
    by_cases c : p.1 = k
    · simp [c]
    · have c2 : ¬ k = p.1 := fun e => c e.symm; rw [if_neg c, ← mem_keys k L]
      simp [c2]
end
abbrev rdX (l : List TxLine) (i : Int) : TxLine := rd_T49 l i
def askL (codes : List TC) : List TxLine → Int
  | [] => 0
  | x :: r => if x.f0 > 1000000000000 ∨ x.f0 < -1000000000000 then 4 else if x.f1.toList = ([] : List UInt8) then askL codes r else if known codes x.f1 = true then askL codes r else 28
def askv (l : List TxLine) (codes : List TC) (way mode : Int) : Int :=
  if way < 1 ∨ way > 3 ∨ mode < 1 ∨ mode > 5 then 10 else if codesv codes = true then (if (l.length : Int) > 200 then 9 else askL codes l) else 2
theorem tax_ask.go {codes : List TC} (h : CodesOk codes) (l : List TxLine) (hl : l.length ≤ 200) : ∀ n i, i + n = l.length → Ev (fun k => tax_ask.l0 k codes l (l.length : Int) (i : Int)) (askL codes (l.drop i))
  | 0, i, hi => by
    refine Ev.succ ?_; simp only [tax_ask.l0, if_neg (show ¬ (i : Int) < (l.length : Int) by omega)]; rw [List.drop_eq_nil_of_le (by omega)]; exact Ev.const _
  | n + 1, i, hi => by
    refine Ev.succ ?_; simp only [tax_ask.l0, if_pos (show (i : Int) < (l.length : Int) by omega), if_pos (show (0 : Int) ≤ (i : Int) by omega)]; rw [drop_rd (l := l) (j := i) (by omega)]; have st := tax_ask.go h l hl n (i + 1) (by omega); rw [w64 (n := (i : Int) + 1) (by omega) (by omega), show (i : Int) + 1 = ((i + 1 : Nat) : Int) by omega]; rw [show tax_far.f (rdX l (i : Int)).f0 1000000000000 = some _ from tax_far.eq (by omega) (by omega)]; simp only [Option.bind_some, decide_eq_true_eq, askL]
    by_cases c : (rdX l (i : Int)).f0 > 1000000000000 ∨ (rdX l (i : Int)).f0 < -1000000000000
    · simp only [if_pos c]; exact Ev.const _
    · simp only [if_neg c]; obtain ⟨q, hq, _, _, q3⟩ := tax_code.F h (rdX l (i : Int)).f1; refine Ev.bind hq ?_; rw [q3]
      by_cases e : (rdX l (i : Int)).f1.toList = ([] : List UInt8)
      · simp only [if_pos e]
        by_cases g : known codes (rdX l (i : Int)).f1 = true
        · simp only [if_pos g]; exact st
        · simp only [if_neg g]; exact st
      · simp only [if_neg e]
        by_cases g : known codes (rdX l (i : Int)).f1 = true
        · simp only [if_pos g]; exact st
        · simp only [if_neg g]; exact Ev.const _
theorem tax_ask.j0_eq {codes : List TC} (ho : TCok codes) (l : List TxLine) (b : Bool) : Ev (fun k => tax_ask.j0 k l codes b) (if b = true then 10 else if codesv codes = true then (if (l.length : Int) > 200 then 9 else askL codes l) else 2) := by
  refine Ev.succ ?_
  cases b with
  | true => simp only [tax_ask.j0, if_true]; exact Ev.const _
  | false =>
    simp only [tax_ask.j0, Bool.false_eq_true, if_false]; refine Ev.bind (tax_Codes.eq ho) ?_
    by_cases c : codesv codes = true
    · simp only [if_pos c]
      by_cases e : (l.length : Int) > 200
      · simp only [if_pos e]; exact Ev.const _
      · simp only [if_neg e]; exact tax_ask.go (codesOk ho c) l (by omega) l.length 0 (by omega)
    · simp only [if_neg c]; exact Ev.const _
theorem tax_ask.eq {codes : List TC} (ho : TCok codes) (l : List TxLine) (way mode : Int) : Ev (fun k => tax_ask.f k l codes way mode) (askv l codes way mode) := by
  unfold tax_ask.f askv
  by_cases c1 : way < 1
  · simp only [if_pos c1, if_pos (show way < 1 ∨ way > 3 ∨ mode < 1 ∨ mode > 5 from Or.inl c1)]; exact tax_ask.j0_eq ho l true
  simp only [if_neg c1]
  by_cases c2 : way > 3
  · simp only [if_pos c2, if_pos (show way < 1 ∨ way > 3 ∨ mode < 1 ∨ mode > 5 from Or.inr (Or.inl c2))]; exact tax_ask.j0_eq ho l true
  simp only [if_neg c2]
  by_cases c3 : mode < 1
  · simp only [if_pos c3, if_pos (show way < 1 ∨ way > 3 ∨ mode < 1 ∨ mode > 5 from Or.inr (Or.inr (Or.inl c3)))]; exact tax_ask.j0_eq ho l true
  simp only [if_neg c3]
  by_cases c4 : mode > 5
  · simp only [decide_eq_true c4, if_pos (show way < 1 ∨ way > 3 ∨ mode < 1 ∨ mode > 5 from Or.inr (Or.inr (Or.inr c4)))]; exact tax_ask.j0_eq ho l true
  · simp only [decide_eq_false c4, if_neg (show ¬ (way < 1 ∨ way > 3 ∨ mode < 1 ∨ mode > 5) by omega)]; exact tax_ask.j0_eq ho l false
theorem accountingref25_check.go {codes : List TC} (h : CodesOk codes) (l : List TxLine) (hl : l.length ≤ 200) : ∀ n i, i + n = l.length → Ev (fun k => accountingref25_check.l0 k l codes (i : Int)) (askL codes (l.drop i))
  | 0, i, hi => by
    refine Ev.succ ?_; simp only [accountingref25_check.l0, if_neg (show ¬ (i : Int) < (l.length : Int) by omega)]; rw [List.drop_eq_nil_of_le (by omega)]; exact Ev.const _
  | n + 1, i, hi => by
    refine Ev.succ ?_; simp only [accountingref25_check.l0, if_pos (show (i : Int) < (l.length : Int) by omega), if_pos (show (0 : Int) ≤ (i : Int) by omega)]; rw [drop_rd (l := l) (j := i) (by omega)]; have st := accountingref25_check.go h l hl n (i + 1) (by omega); rw [w64 (n := (i : Int) + 1) (by omega) (by omega), show (i : Int) + 1 = ((i + 1 : Nat) : Int) by omega]; rw [show accountingref25_large.f (rdX l (i : Int)).f0 1000000000000 = some _ from accountingref25_large.eq (by omega) (by omega)]; simp only [Option.bind_some, decide_eq_true_eq, askL]
    by_cases c : (rdX l (i : Int)).f0 > 1000000000000 ∨ (rdX l (i : Int)).f0 < -1000000000000
    · simp only [if_pos c]; exact Ev.const _
    · simp only [if_neg c]
      by_cases e : (rdX l (i : Int)).f1.toList = ([] : List UInt8)
      · simp only [if_pos e]; exact st
      · simp only [if_neg e]
        unfold accountingref25_find.f
        rcases ref_find.go h.len (rdX l (i : Int)).f1 codes.length 0 (by omega) with ⟨r, r0, ⟨j, _, j1, j2⟩, hr⟩ | ⟨hn, hr⟩
        · refine Ev.bind hr ?_; simp only [if_neg (show ¬ r < 0 by omega), if_pos ((known_iff codes _).2 ⟨j, j1, j2⟩)]; exact st
        · refine Ev.bind hr ?_
          have hk : ¬ known codes (rdX l (i : Int)).f1 = true := fun hk => by
            obtain ⟨j, j1, j2⟩ := (known_iff codes _).1 hk; exact hn j (by omega) j1 j2
          simp only [if_pos (show (-1 : Int) < 0 by omega), if_neg hk]; exact Ev.const _
theorem accountingref25_check.j0_eq {codes : List TC} (ho : TCok codes) (l : List TxLine) (b : Bool) : Ev (fun k => accountingref25_check.j0 k l codes b) (if b = true then 10 else if codesv codes = true then (if (l.length : Int) > 200 then 9 else askL codes l) else 2) := by
  refine Ev.succ ?_
  cases b with
  | true => simp only [accountingref25_check.j0, if_true]; exact Ev.const _
  | false =>
    simp only [accountingref25_check.j0, Bool.false_eq_true, if_false]; refine Ev.bind (accountingref25_Codes.eq ho) ?_
    by_cases c : codesv codes = true
    · simp only [if_pos c]
      by_cases e : (l.length : Int) > 200
      · simp only [if_pos e]; exact Ev.const _
      · simp only [if_neg e]; exact accountingref25_check.go (codesOk ho c) l (by omega) l.length 0 (by omega)
    · simp only [if_neg c]; exact Ev.const _
theorem accountingref25_check.eq {codes : List TC} (ho : TCok codes) (l : List TxLine) (way mode : Int) : Ev (fun k => accountingref25_check.f k l codes way mode) (askv l codes way mode) := by
  unfold accountingref25_check.f askv
  by_cases c1 : way < 1
  · simp only [if_pos c1, if_pos (show way < 1 ∨ way > 3 ∨ mode < 1 ∨ mode > 5 from Or.inl c1)]; exact accountingref25_check.j0_eq ho l true
  simp only [if_neg c1]
  by_cases c2 : way > 3
  · simp only [if_pos c2, if_pos (show way < 1 ∨ way > 3 ∨ mode < 1 ∨ mode > 5 from Or.inr (Or.inl c2))]; exact accountingref25_check.j0_eq ho l true
  simp only [if_neg c2]
  by_cases c3 : mode < 1
  · simp only [if_pos c3, if_pos (show way < 1 ∨ way > 3 ∨ mode < 1 ∨ mode > 5 from Or.inr (Or.inr (Or.inl c3)))]; exact accountingref25_check.j0_eq ho l true
  simp only [if_neg c3]
  by_cases c4 : mode > 5
  · simp only [decide_eq_true c4, if_pos (show way < 1 ∨ way > 3 ∨ mode < 1 ∨ mode > 5 from Or.inr (Or.inr (Or.inr c4)))]; exact accountingref25_check.j0_eq ho l true
  · simp only [decide_eq_false c4, if_neg (show ¬ (way < 1 ∨ way > 3 ∨ mode < 1 ∨ mode > 5) by omega)]; exact accountingref25_check.j0_eq ho l false
theorem askL_ok {codes : List TC} : ∀ {l : List TxLine}, askL codes l = 0 → ∀ x ∈ l, (-1000000000000 ≤ x.f0 ∧ x.f0 ≤ 1000000000000) ∧ (x.f1.toList ≠ ([] : List UInt8) → known codes x.f1 = true)
  | [], _, x, hx => by cases hx
  | y :: r, h, x, hx => by
    unfold askL at h
    split at h
    · omega
    · rename_i c
      split at h
      · rename_i e
        rcases List.mem_cons.1 hx with rfl | hx
        · exact ⟨by omega, fun k => absurd e k⟩
        · exact askL_ok h x hx
      · split at h
        · rename_i g
          rcases List.mem_cons.1 hx with rfl | hx
          · exact ⟨by omega, fun _ => g⟩
          · exact askL_ok h x hx
        · omega
theorem askv_ok {l : List TxLine} {codes : List TC} {way mode : Int} (ho : TCok codes) (h : askv l codes way mode = 0) : (1 ≤ way ∧ way ≤ 3 ∧ 1 ≤ mode ∧ mode ≤ 5) ∧ CodesOk codes ∧ l.length ≤ 200 ∧ askL codes l = 0 := by
  unfold askv at h
  split at h
  · omega
  · split at h
    · rename_i h1 h2
      split at h
      · omega
      · exact ⟨by omega, codesOk ho h2, by omega, h⟩
    · omega
def has (m : ByteArray) (l : List TxLine) : Bool := l.any (fun x => decide (x.f1 = m))
def addv (f : TxLine → Int) (m : ByteArray) : List TxLine → Int → Int
  | [], a => a
  | x :: r, a => if x.f1 = m then addv f m r (wrap64 (a + f x)) else addv f m r a
theorem addv_none (f : TxLine → Int) (m : ByteArray) : ∀ (l : List TxLine) (a : Int), has m l = false → addv f m l a = a
  | [], a, _ => rfl
  | x :: r, a, h => by
    unfold has at h
    simp only [List.any_cons, Bool.or_eq_false_iff, decide_eq_false_iff_not] at h
    unfold addv
    rw [if_neg h.1]; exact addv_none f m r a h.2
theorem wrap_in (a : Int) : inI (wrap64 a) := by unfold inI wrap64; omega
theorem addv_in (f : TxLine → Int) (m : ByteArray) : ∀ (l : List TxLine) (a : Int), inI a → inI (addv f m l a)
  | [], a, h => h
  | x :: r, a, h => by
    unfold addv
    split
    · exact addv_in f m r _ (wrap_in _)
    · exact addv_in f m r _ h
theorem aget_fold (way mode : Int) (codes : List TC) (m : ByteArray) (hm : m.toList ≠ ([] : List UInt8)) : ∀ (l : List TxLine) (L : List (ByteArray × TxSum)),
    aget (l.foldl (stepL way mode codes) L) m = if has m l = true then some ⟨m, addv (fun x => (lp way mode codes x).1) m l ((aget L m).getD txZero).f1, addv (fun x => (lp way mode codes x).2) m l ((aget L m).getD txZero).f2⟩ else aget L m
  | [], L => by simp [has]
  | x :: r, L => by
    rw [List.foldl_cons, aget_fold way mode codes m hm r]
    by_cases c : x.f1 = m
    · have hx : ¬ x.f1.toList = ([] : List UInt8) := by rw [c]; exact hm
      have e : aget (stepL way mode codes L x) m = some ⟨m, wrap64 (((aget L m).getD txZero).f1 + (lp way mode codes x).1), wrap64 (((aget L m).getD txZero).f2 + (lp way mode codes x).2)⟩ := by
        unfold stepL
        rw [if_neg hx, aget_aput, if_pos c, c]
      have h1 : has m (x :: r) = true := by simp [has, c]
      rw [if_pos h1, e]; simp only [Option.getD_some, addv, if_pos c]
      by_cases h2 : has m r = true
      · rw [if_pos h2]
      · rw [if_neg h2, addv_none _ _ _ _ (Bool.eq_false_iff.2 h2), addv_none _ _ _ _ (Bool.eq_false_iff.2 h2)]
    · have e : aget (stepL way mode codes L x) m = aget L m := by
        unfold stepL
        split
        · rfl
        · rw [aget_aput, if_neg c]
      have h1 : has m (x :: r) = has m r := by simp [has, c]
      rw [h1, e]; simp only [addv, if_neg c]
theorem keys_fold (way mode : Int) (codes : List TC) : ∀ (l : List TxLine) (L : List (ByteArray × TxSum)), (L.map (·.1)).Nodup → (∀ m ∈ L.map (·.1), m.toList ≠ ([] : List UInt8)) → ((l.foldl (stepL way mode codes) L).map (·.1)).Nodup ∧ (∀ m ∈ (l.foldl (stepL way mode codes) L).map (·.1), m.toList ≠ ([] : List UInt8))
  | [], L, h1, h2 => ⟨h1, h2⟩
  | x :: r, L, h1, h2 => by
    rw [List.foldl_cons]; refine keys_fold way mode codes r _ ?_ ?_
    · unfold stepL
      split
      · exact h1
      · rw [aput_keys]
        split
        · exact h1
        · rename_i e
          exact List.nodup_append.2 ⟨h1, by simp, fun a ha b hb => by
            rw [List.mem_singleton] at hb; rintro rfl; exact e (hb ▸ ha)⟩
    · unfold stepL
      split
      · exact h2
      · rename_i c
        rw [aput_keys]
        split
        · exact h2
        · intro m hm
          rcases List.mem_append.1 hm with hm | hm
          · exact h2 m hm
          · rw [List.mem_singleton] at hm; rw [hm]; exact c
theorem keys_len (way mode : Int) (codes : List TC) : ∀ (l : List TxLine) (L : List (ByteArray × TxSum)), (l.foldl (stepL way mode codes) L).length ≤ L.length + l.length
  | [], L => by simp
  | x :: r, L => by
    rw [List.foldl_cons]; have h := keys_len way mode codes r (stepL way mode codes L x)
    have e : (stepL way mode codes L x).length ≤ L.length + 1 := by
      unfold stepL
      split
      · omega
      · have := congrArg List.length (aput_keys x.f1 (⟨x.f1, wrap64 (((aget L x.f1).getD txZero).f1 + (lp way mode codes x).1), wrap64 (((aget L x.f1).getD txZero).f2 + (lp way mode codes x).2)⟩ : TxSum) L); rw [List.length_map] at this; rw [this]
        split <;> simp
    simp only [List.length_cons]
    omega
def occ (codes : List TC) (l : List TxLine) : List TC := codes.filter (fun c => has c.f0 l)
theorem codes_lt {codes : List TC} (h : CodesOk codes) : codes.Pairwise (fun a b => a.f0.toList < b.f0.toList) := by
  rw [List.pairwise_iff_getElem]; intro i j hi hj hij; have := h.lt' (c := (i : Int)) (d := (j : Int)) (by omega) (by omega) (by omega); rw [rdC_get hi, rdC_get hj] at this; exact this
theorem codes_ne {codes : List TC} (h : CodesOk codes) : ∀ c ∈ codes, c.f0.toList ≠ ([] : List UInt8) := by
  intro c hc e; obtain ⟨j, hj, rfl⟩ := List.mem_iff_getElem.1 hc; have := (h.one j hj).1; rw [rdC_get hj] at this
  unfold codev at this
  simp only [Bool.and_eq_true, decide_eq_true_eq] at this; have h0 := (size_nil codes[j].f0).1 e
  omega
theorem srt_sorted {xs : List ByteArray} (h : xs.Pairwise (fun a b => a.toList < b.toList)) : srt xs = xs := by
  unfold srt
  rw [List.mergeSort_of_pairwise]
  · rw [List.map_map]
    conv => rhs; rw [← List.map_id xs]
    congr 1
  · rw [List.pairwise_map]; refine h.imp ?_; intro a b hab; rw [ByteArray.toList_eq, ByteArray.toList_eq] at hab; exact decide_eq_true (List.le_of_lt hab)
theorem has_iff (m : ByteArray) (l : List TxLine) : has m l = true ↔ ∃ x ∈ l, x.f1 = m := by simp [has]
theorem names_eq {codes : List TC} (h : CodesOk codes) {l : List TxLine} (hk : ∀ x ∈ l, x.f1.toList ≠ ([] : List UInt8) → known codes x.f1 = true) (way mode : Int) :
    srt ((l.foldl (stepL way mode codes) []).map (·.1)) = (occ codes l).map (·.f0) := by
  have K := keys_fold way mode codes l [] (by simp) (by simp)
  have hlt : ((occ codes l).map (·.f0)).Pairwise (fun a b => a.toList < b.toList) := by
    rw [List.pairwise_map]; exact (codes_lt h).filter _
  have hnd : ((occ codes l).map (·.f0)).Nodup := hlt.imp (fun hab e => by rw [e] at hab; exact List.lt_irrefl _ hab)
  have hp : ((l.foldl (stepL way mode codes) []).map (·.1)).Perm ((occ codes l).map (·.f0)) := by
    rw [List.perm_ext_iff_of_nodup K.1 hnd]; intro m
    constructor
    · intro hm; have hne := K.2 m hm; rw [mem_keys, aget_fold way mode codes m hne] at hm
      by_cases c : has m l = true
      · obtain ⟨x, hx, rfl⟩ := (has_iff m l).1 c; obtain ⟨j, hj, e⟩ := (known_iff codes _).1 (hk x hx hne); rw [rdC_get hj] at e; refine List.mem_map.2 ⟨codes[j], List.mem_filter.2 ⟨List.getElem_mem hj, ?_⟩, e⟩; rw [e]; exact c
      · rw [if_neg c] at hm
        simp [aget] at hm
    · intro hm; obtain ⟨c, hc, rfl⟩ := List.mem_map.1 hm; obtain ⟨hc1, hc2⟩ := List.mem_filter.1 hc; have hne := codes_ne h c hc1; rw [mem_keys, aget_fold way mode codes c.f0 hne, if_pos hc2]
      rfl
  rw [srt_perm hp, srt_sorted hlt]
def sumL (way mode : Int) (codes : List TC) (L : List (ByteArray × TxSum)) (m : ByteArray) : TxSum :=
  if way = 2 then ⟨((aget L m).getD txZero).f0, ((aget L m).getD txZero).f1, (onv ((aget L m).getD txZero).f1 (fracOf codes m).1 (fracOf codes m).2 mode).1⟩ else (aget L m).getD txZero
theorem ofS.eq {codes : List TC} (h : CodesOk codes) (way mode : Int) (L : List (ByteArray × TxSum)) : ∀ (ms : List ByteArray) (s : List TxSum), s.length + ms.length ≤ 1000000 → (∀ m ∈ ms, inI ((aget L m).getD txZero).f1) → Ev (fun k => ofS k way mode codes L ms s) (s ++ ms.map (sumL way mode codes L))
  | [], s, _, _ => by
    simp only [List.map_nil, List.append_nil]; exact Ev.const _
  | m :: r, s, hl, hi => by
    have hl2 : s.length + (r.length + 1) ≤ 1000000 := hl; have hr : ∀ y ∈ r, inI ((aget L y).getD txZero).f1 := fun y hy => hi y (by simp [hy]); simp only [ofS, if_pos (show s.length < 4398046511104 by omega), List.map_cons]; have st := ofS.eq h way mode L r (s ++ [sumL way mode codes L m]) (by simp; omega) hr; rw [List.append_assoc, List.singleton_append] at st
    by_cases c : way = 2
    · simp only [if_pos c]; obtain ⟨q, hq, q1, q2, _⟩ := tax_code.F h m; refine Ev.bind hq ?_; rw [q1, q2]; have hin := fracOf_in h m; refine Ev.bind (tax_On.eq (hi m (by simp)) hin.1 hin.2) ?_; have e : sumL way mode codes L m = ⟨((aget L m).getD txZero).f0, ((aget L m).getD txZero).f1, (onv ((aget L m).getD txZero).f1 (fracOf codes m).1 (fracOf codes m).2 mode).1⟩ := by unfold sumL; rw [if_pos c]
      rw [e] at st ⊢; exact st
    · simp only [if_neg c]; have e : sumL way mode codes L m = (aget L m).getD txZero := by unfold sumL; rw [if_neg c]
      rw [e] at st ⊢; exact st
def sumC (way mode : Int) (codes : List TC) (l : List TxLine) (c : TC) : TxSum :=
  ⟨c.f0, addv (fun x => (lp way mode codes x).1) c.f0 l 0, if way = 2 then (onv (addv (fun x => (lp way mode codes x).1) c.f0 l 0) (fracOf codes c.f0).1 (fracOf codes c.f0).2 mode).1 else addv (fun x => (lp way mode codes x).2) c.f0 l 0⟩
def ofv (l : List TxLine) (codes : List TC) (way mode : Int) : List Int × List TxSum × Int :=
  if askv l codes way mode = 0 then (l.map (netv way mode codes), (occ codes l).map (sumC way mode codes l), 0) else ([], [], askv l codes way mode)
theorem tax_Of.eq {codes : List TC} (ho : TCok codes) (l : List TxLine) (hl : ∀ x ∈ l, inI x.f0) (way mode : Int) : Ev (fun k => tax_Of.f k l codes way mode) (ofv l codes way mode) := by
  unfold tax_Of.f ofv
  refine Ev.bind (tax_ask.eq ho l way mode) ?_
  by_cases c : askv l codes way mode = 0
  · obtain ⟨hw, h, hn, hL⟩ := askv_ok ho c; have hk : ∀ x ∈ l, x.f1.toList ≠ ([] : List UInt8) → known codes x.f1 = true := fun x hx => (askL_ok hL x hx).2; simp only [if_pos c, if_pos (show l.length ≤ 1000000 by omega)]; have h1 := ofL.eq h way mode l [] [] hl (by simp; omega); rw [List.nil_append] at h1; refine Ev.bind h1 ?_; have kl := keys_len way mode codes l []; simp only [List.length_nil, Nat.zero_add] at kl; simp only [if_pos (show (l.foldl (stepL way mode codes) []).length < 8796093022208 by omega)]; rw [names_eq h hk way mode]
    have hsum : ∀ c ∈ occ codes l, sumL way mode codes (l.foldl (stepL way mode codes) []) c.f0 = sumC way mode codes l c ∧ inI ((aget (l.foldl (stepL way mode codes) []) c.f0).getD txZero).f1 := by
      intro c hc; obtain ⟨hc1, hc2⟩ := List.mem_filter.1 hc; have hne := codes_ne h c hc1; have e := aget_fold way mode codes c.f0 hne l []; rw [if_pos hc2] at e; have z1 : ((aget ([] : List (ByteArray × TxSum)) c.f0).getD txZero).f1 = 0 := rfl; have z2 : ((aget ([] : List (ByteArray × TxSum)) c.f0).getD txZero).f2 = 0 := rfl; rw [z1, z2] at e
      unfold sumL sumC
      rw [e]; simp only [Option.getD_some]; refine ⟨?_, addv_in _ _ _ _ (by unfold inI; omega)⟩
      split <;> rfl
    have ol : (occ codes l).length ≤ codes.length := List.length_filter_le _ _; have hcl := h.len
    have h2 := ofS.eq h way mode (l.foldl (stepL way mode codes) []) ((occ codes l).map (·.f0)) [] (by simp; omega) (fun m hm => by
      obtain ⟨c, hc, rfl⟩ := List.mem_map.1 hm; exact (hsum c hc).2)
    rw [List.nil_append, List.map_map] at h2; have e2 : (occ codes l).map (sumL way mode codes (l.foldl (stepL way mode codes) []) ∘ (·.f0)) = (occ codes l).map (sumC way mode codes l) := List.map_congr_left (fun c hc => (hsum c hc).1); rw [e2] at h2; exact Ev.bind h2 (Ev.const _)
  · simp only [if_neg c]; exact Ev.const _
def onep (way mode : Int) (x : TxLine) (c : TC) : Int × Int := if way = 3 then ((inv x.f0 c.f2.f0 c.f2.f1 mode).1, (inv x.f0 c.f2.f0 c.f2.f1 mode).2.1) else (x.f0, (onv x.f0 c.f2.f0 c.f2.f1 mode).1)
theorem accountingref25_one.eq {way mode : Int} {x : TxLine} {c : TC} (hx : inI x.f0) (hn : inI c.f2.f0) (hd : inI c.f2.f1) : Ev (fun k => accountingref25_one.f k x.f0 x.f1 c.f0 c.f1 c.f2.f0 c.f2.f1 way mode) (onep way mode x c) := by
  unfold accountingref25_one.f onep
  by_cases c3 : way = 3
  · simp only [if_pos c3]; exact Ev.bind (accountingref25_In.eq hx hn hd) (Ev.const _)
  · simp only [if_neg c3]; exact Ev.bind (accountingref25_On.eq hx hn hd) (Ev.const _)
def netI (way mode : Int) (codes : List TC) (i : Nat) (x : TxLine) : Int := if known (codes.take i) x.f1 = true then (lp way mode codes x).1 else x.f0
def endS (way mode : Int) (c : TC) (N T : Int) : TxSum := ⟨c.f0, N, if way = 2 then (onv N c.f2.f0 c.f2.f1 mode).1 else T⟩
theorem ref_l2 {codes : List TC} (h : CodesOk codes) {way mode : Int} (l : List TxLine) (hl : l.length ≤ 200) (hli : ∀ x ∈ l, inI x.f0) (i : Nat) (hi : i < codes.length) (S : List TxSum) (hS : S.length ≤ 1000) (g g' : TxLine → Int) (hg : ∀ x : TxLine, g' x = if x.f1 = (rdC codes (i : Int)).f0 then (onep way mode x (rdC codes (i : Int))).1 else g x) (r : List Int × List TxSum × Int) :
    ∀ (B A : List TxLine) (b : Bool) (N T : Int), l = A ++ B → inI N →
      Ev (fun k => accountingref25_Of.l1 k l codes way mode (l.map g') (if (b || has (rdC codes (i : Int)).f0 B) = true then S ++ [endS way mode (rdC codes (i : Int)) (addv (fun x => (onep way mode x (rdC codes (i : Int))).1) (rdC codes (i : Int)).f0 B N) (addv (fun x => (onep way mode x (rdC codes (i : Int))).2) (rdC codes (i : Int)).f0 B T)] else S) ((i + 1 : Nat) : Int)) r →
      Ev (fun k => accountingref25_Of.l2 k l codes way mode (A.map g' ++ B.map g) S (i : Int) b (A.length : Int) (rdC codes (i : Int)).f0 N T) r
  | [], A, b, N, T, e, hN, st => by
    have el : A = l := by rw [e, List.append_nil]
    have hc := h.ok _ (rdC_mem hi); have hcl := h.len; subst el; refine Ev.succ ?_; simp only [accountingref25_Of.l2, if_neg (show ¬ (A.length : Int) < (A.length : Int) by omega), if_pos (show (0 : Int) ≤ (i : Int) by omega), if_pos (show (i : Int) < (codes.length : Int) by omega), List.map_nil, List.append_nil]; rw [w64 (n := (i : Int) + 1) (by omega) (by omega), show (i : Int) + 1 = ((i + 1 : Nat) : Int) by omega]; have hh : has (rdC codes (i : Int)).f0 [] = false := rfl; rw [hh, Bool.or_false] at st; simp only [addv] at st
    by_cases cw : way = 2
    · have ee : endS way mode (rdC codes (i : Int)) N T = ⟨(rdC codes (i : Int)).f0, N, (onv N (rdC codes (i : Int)).f2.f0 (rdC codes (i : Int)).f2.f1 mode).1⟩ := by unfold endS; rw [if_pos cw]
      rw [ee] at st; simp only [if_pos cw]; refine Ev.bind (accountingref25_On.eq hN hc.2.1 hc.2.2) ?_
      cases b with
      | true => simp only [if_true, if_pos (show S.length < 4398046511104 by omega)] at st ⊢; exact st
      | false => simp only [Bool.false_eq_true, if_false] at st ⊢; exact st
    · have ee : endS way mode (rdC codes (i : Int)) N T = ⟨(rdC codes (i : Int)).f0, N, T⟩ := by unfold endS; rw [if_neg cw]
      rw [ee] at st; simp only [if_neg cw]
      cases b with
      | true => simp only [if_true, if_pos (show S.length < 4398046511104 by omega)] at st ⊢; exact st
      | false => simp only [Bool.false_eq_true, if_false] at st ⊢; exact st
  | x :: B, A, b, N, T, e, hN, st => by
    have hll : l.length = A.length + (B.length + 1) := by rw [e]; simp
    have hc := h.ok _ (rdC_mem hi)
    have hrd : rdX l (A.length : Int) = x := by
      show l.getD (A.length : Int).toNat _ = x; rw [e]; simp
    have hx : inI x.f0 := hli x (by rw [e]; simp); have e2 : l = (A ++ [x]) ++ B := by rw [e]; simp
    have hcl := h.len; refine Ev.succ ?_; simp only [accountingref25_Of.l2, if_pos (show (A.length : Int) < (l.length : Int) by omega), if_pos (show (0 : Int) ≤ (A.length : Int) by omega), if_pos (show (0 : Int) ≤ (i : Int) by omega), if_pos (show (i : Int) < (codes.length : Int) by omega), hrd]; rw [w64 (n := (A.length : Int) + 1) (by omega) (by omega), show (A.length : Int) + 1 = ((A ++ [x]).length : Int) by simp]
    by_cases c : x.f1 = (rdC codes (i : Int)).f0
    · have c2 : x.f1.toList = (rdC codes (i : Int)).f0.toList := by rw [c]
      simp only [if_pos c2]; refine Ev.bind (accountingref25_one.eq hx hc.2.1 hc.2.2) ?_
      have hs : (A.map g' ++ (x :: B).map g).set (A.length : Int).toNat (onep way mode x (rdC codes (i : Int))).1 = (A ++ [x]).map g' ++ B.map g := by
        rw [List.map_cons, set_at _ _ _ _ _ (by simp), List.map_append, List.append_assoc]; simp only [List.map_cons, List.map_nil, List.singleton_append]; rw [hg x, if_pos c]
      rw [hs]; simp only [if_pos (show (A.length : Int) < (((A.map g' ++ (x :: B).map g).length : Nat) : Int) by simp; omega)]; refine ref_l2 h l hl hli i hi S hS g g' hg r B (A ++ [x]) true _ _ e2 (wrap_in _) ?_; have hh : has (rdC codes (i : Int)).f0 (x :: B) = true := by simp [has, c]
      rw [hh, Bool.or_true] at st; simp only [addv, if_pos c] at st; rw [Bool.true_or]; exact st
    · have c2 : ¬ x.f1.toList = (rdC codes (i : Int)).f0.toList := fun k => c (toList_inj.1 k); simp only [if_neg c2]
      have hs : A.map g' ++ (x :: B).map g = (A ++ [x]).map g' ++ B.map g := by
        rw [List.map_append, List.append_assoc]; simp only [List.map_cons, List.map_nil, List.singleton_append]; rw [hg x, if_neg c]
      rw [hs]; refine ref_l2 h l hl hli i hi S hS g g' hg r B (A ++ [x]) b _ _ e2 hN ?_; have hh : has (rdC codes (i : Int)).f0 (x :: B) = has (rdC codes (i : Int)).f0 B := by simp [has, c]
      rw [hh] at st; simp only [addv, if_neg c] at st; exact st
theorem ref_l0 (l : List TxLine) (codes : List TC) (way mode : Int) (hl : l.length ≤ 200) (r : List Int × List TxSum × Int) (st : Ev (fun k => accountingref25_Of.l1 k l codes way mode (l.map (fun x => x.f0)) ([] : List TxSum) 0) r) :
    ∀ (B A : List TxLine), l = A ++ B → Ev (fun k => accountingref25_Of.l0 k l codes way mode (A.map (fun x => x.f0)) (A.length : Int)) r
  | [], A, e => by
    have el : A = l := by rw [e, List.append_nil]
    subst el; refine Ev.succ ?_; simp only [accountingref25_Of.l0, if_neg (show ¬ (A.length : Int) < (A.length : Int) by omega)]; exact st
  | x :: B, A, e => by
    have hll : l.length = A.length + (B.length + 1) := by rw [e]; simp
    have hrd : rdX l (A.length : Int) = x := by
      show l.getD (A.length : Int).toNat _ = x; rw [e]; simp
    have e2 : l = (A ++ [x]) ++ B := by rw [e]; simp
    refine Ev.succ ?_; simp only [accountingref25_Of.l0, if_pos (show (A.length : Int) < (l.length : Int) by omega), if_pos (show (0 : Int) ≤ (A.length : Int) by omega), hrd, List.length_map, if_pos (show A.length < 17592186044416 by omega)]; rw [w64 (n := (A.length : Int) + 1) (by omega) (by omega), show (A.length : Int) + 1 = ((A ++ [x]).length : Int) by simp]; have := ref_l0 l codes way mode hl r st B (A ++ [x]) e2; rw [List.map_append] at this; exact this
theorem addv_congr {f g : TxLine → Int} {m : ByteArray} : ∀ {l : List TxLine} (a : Int), (∀ x ∈ l, x.f1 = m → f x = g x) → addv f m l a = addv g m l a
  | [], a, _ => rfl
  | x :: r, a, h => by
    unfold addv
    by_cases c : x.f1 = m
    · rw [if_pos c, if_pos c, h x (by simp) c]; exact addv_congr _ (fun y hy => h y (by simp [hy]))
    · rw [if_neg c, if_neg c]; exact addv_congr _ (fun y hy => h y (by simp [hy]))
theorem onep_lp {codes : List TC} (h : CodesOk codes) {way mode : Int} (hw : 1 ≤ way ∧ way ≤ 3) {i : Nat} (hi : i < codes.length) {x : TxLine} (hx : x.f1 = (rdC codes (i : Int)).f0) : (onep way mode x (rdC codes (i : Int))).1 = (lp way mode codes x).1 ∧ (way ≠ 2 → (onep way mode x (rdC codes (i : Int))).2 = (lp way mode codes x).2) := by
  unfold onep lp partsv
  rw [hx, fracOf_at h hi]
  by_cases c1 : way = 1
  · subst c1; simp
  · by_cases c3 : way = 3
    · subst c3; simp
    · have : way = 2 := by omega
      subst this; simp
theorem endS_sumC {codes : List TC} (h : CodesOk codes) {way mode : Int} (hw : 1 ≤ way ∧ way ≤ 3) (l : List TxLine) {i : Nat} (hi : i < codes.length) : endS way mode (rdC codes (i : Int)) (addv (fun x => (onep way mode x (rdC codes (i : Int))).1) (rdC codes (i : Int)).f0 l 0) (addv (fun x => (onep way mode x (rdC codes (i : Int))).2) (rdC codes (i : Int)).f0 l 0) = sumC way mode codes l (rdC codes (i : Int)) := by
  have e1 : addv (fun x => (onep way mode x (rdC codes (i : Int))).1) (rdC codes (i : Int)).f0 l 0 = addv (fun x => (lp way mode codes x).1) (rdC codes (i : Int)).f0 l 0 := addv_congr 0 (fun x _ hx => (onep_lp h hw hi hx).1)
  unfold endS sumC
  rw [e1, fracOf_at h hi]
  by_cases c : way = 2
  · simp only [if_pos c]
  · simp only [if_neg c]; rw [addv_congr 0 (fun x _ hx => (onep_lp h hw hi hx).2 c)]
theorem take_one {codes : List TC} {i : Nat} (hi : i < codes.length) : codes.take (i + 1) = codes.take i ++ [rdC codes (i : Int)] := by
  rw [List.take_add_one, List.getElem?_eq_getElem hi, rdC_get hi]
  rfl
theorem netI_next {codes : List TC} (h : CodesOk codes) {way mode : Int} (hw : 1 ≤ way ∧ way ≤ 3) {i : Nat} (hi : i < codes.length) (x : TxLine) : netI way mode codes (i + 1) x = if x.f1 = (rdC codes (i : Int)).f0 then (onep way mode x (rdC codes (i : Int))).1 else netI way mode codes i x := by
  unfold netI
  rw [take_one hi]
  by_cases c : x.f1 = (rdC codes (i : Int)).f0
  · rw [if_pos c, (onep_lp h hw hi c).1]; have : known (codes.take i ++ [rdC codes (i : Int)]) x.f1 = true := by simp [known, c]
    rw [if_pos this]
  · rw [if_neg c]; have c2 : ¬ (rdC codes (i : Int)).f0 = x.f1 := fun e => c e.symm; have : known (codes.take i ++ [rdC codes (i : Int)]) x.f1 = known (codes.take i) x.f1 := by simp [known, c2]
    rw [this]
theorem ref_l1 {codes : List TC} (h : CodesOk codes) {way mode : Int} (hw : 1 ≤ way ∧ way ≤ 3) (l : List TxLine) (hl : l.length ≤ 200) (hli : ∀ x ∈ l, inI x.f0) : ∀ n i, i + n = codes.length → Ev (fun k => accountingref25_Of.l1 k l codes way mode (l.map (netI way mode codes i)) (((codes.take i).filter (fun c => has c.f0 l)).map (sumC way mode codes l)) (i : Int)) (l.map (netI way mode codes codes.length), (occ codes l).map (sumC way mode codes l), 0)
  | 0, i, hi => by
    have ei : i = codes.length := by omega
    subst ei; refine Ev.succ ?_; simp only [accountingref25_Of.l1, if_neg (show ¬ (codes.length : Int) < (codes.length : Int) by omega), List.take_length]; exact Ev.const _
  | n + 1, i, hi => by
    have hlt : i < codes.length := by omega
    have hcl := h.len; refine Ev.succ ?_; simp only [accountingref25_Of.l1, if_pos (show (i : Int) < (codes.length : Int) by omega), if_pos (show (0 : Int) ≤ (i : Int) by omega)]
    have hS : (((codes.take i).filter (fun c => has c.f0 l)).map (sumC way mode codes l)).length ≤ 1000 := by
      rw [List.length_map]; have h1 := List.length_filter_le (fun c : TC => has c.f0 l) (codes.take i); have h2 := List.length_take_le i codes
      omega
    refine ref_l2 h l hl hli i hlt _ hS (netI way mode codes i) (netI way mode codes (i + 1)) (netI_next h hw hlt) _ l [] false 0 0 rfl (by unfold inI; omega) ?_; have st := ref_l1 h (way := way) (mode := mode) hw l hl hli n (i + 1) (by omega); rw [endS_sumC h hw l hlt, Bool.false_or]; rw [take_one hlt, List.filter_append, List.map_append] at st
    by_cases c : has (rdC codes (i : Int)).f0 l = true
    · rw [if_pos c]; rw [show [rdC codes (i : Int)].filter (fun c => has c.f0 l) = [rdC codes (i : Int)] by simp [c]] at st; exact st
    · rw [if_neg c]; rw [show [rdC codes (i : Int)].filter (fun c => has c.f0 l) = [] by simp [c], List.map_nil, List.append_nil] at st; exact st
theorem accountingref25_Of.eq {codes : List TC} (ho : TCok codes) (l : List TxLine) (hli : ∀ x ∈ l, inI x.f0) (way mode : Int) : Ev (fun k => accountingref25_Of.f k l codes way mode) (ofv l codes way mode) := by
  unfold accountingref25_Of.f ofv
  refine Ev.bind (accountingref25_check.eq ho l way mode) ?_
  by_cases c : askv l codes way mode = 0
  · obtain ⟨hw, h, hn, hL⟩ := askv_ok ho c; simp only [if_pos c]; have e0 : l.map (netI way mode codes 0) = l.map (fun x => x.f0) := List.map_congr_left (fun x _ => by unfold netI; simp [known])
    have e1 : l.map (netI way mode codes codes.length) = l.map (netv way mode codes) := List.map_congr_left (fun x hx => by
      unfold netI netv
      rw [List.take_length]
      by_cases g : x.f1.toList = ([] : List UInt8)
      · have hk : ¬ known codes x.f1 = true := by
          intro k; obtain ⟨j, hj, e⟩ := (known_iff codes _).1 k; rw [rdC_get hj] at e; exact codes_ne h codes[j] (List.getElem_mem hj) (by rw [e]; exact g)
        rw [if_neg hk, if_pos g]
      · rw [if_pos ((askL_ok hL x hx).2 g), if_neg g])
    have st := ref_l1 h (way := way) (mode := mode) ⟨by omega, by omega⟩ l hn hli codes.length 0 (by omega); rw [e0, e1] at st; exact ref_l0 l codes way mode hn _ st l [] rfl
  · simp only [if_neg c]; exact Ev.const _
end Go.Proofs.Ytgjpegmhlnabpaa.M
end
section
namespace Go.Proofs.Ytgjpegmhlnabpaa.M
open Go.RowKit Go.Proofs.YtgjpegmhlnabpaaW.PrintWords Go.Proofs.YtgjpegmhlnabpaaW.PrintLast Dv
set_option linter.unusedVariables false
set_option linter.unusedSimpArgs false
theorem sameInts.go (a : List Int) (ha : a.length ≤ 1000) : ∀ n i, i + n = a.length → Ev (fun k => accountingref25_SameInts.l0 k a a (i : Int)) true
  | 0, i, h => by
    refine Ev.succ ?_; simp only [accountingref25_SameInts.l0, if_neg (show ¬ (i : Int) < (a.length : Int) by omega)]; exact Ev.const _
  | n + 1, i, h => by
    refine Ev.succ ?_; simp only [accountingref25_SameInts.l0, if_pos (show (i : Int) < (a.length : Int) by omega), if_pos (show (0 : Int) ≤ (i : Int) by omega), if_true]; rw [w64 (n := (i : Int) + 1) (by omega) (by omega), show (i : Int) + 1 = ((i + 1 : Nat) : Int) by omega]; exact sameInts.go a ha n (i + 1) (by omega)
theorem accountingref25_SameInts.self (a : List Int) (ha : a.length ≤ 1000) : Ev (fun k => accountingref25_SameInts.f k a a) true := by
  unfold accountingref25_SameInts.f
  simp only [if_true]; exact sameInts.go a ha a.length 0 (by omega)
theorem sameSums.go (a : List TxSum) (ha : a.length ≤ 1000) : ∀ n i, i + n = a.length → Ev (fun k => accountingref25_Same.l0 k a a (i : Int)) true
  | 0, i, h => by
    refine Ev.succ ?_; simp only [accountingref25_Same.l0, if_neg (show ¬ (i : Int) < (a.length : Int) by omega)]; exact Ev.const _
  | n + 1, i, h => by
    refine Ev.succ ?_; simp only [accountingref25_Same.l0, if_pos (show (i : Int) < (a.length : Int) by omega), if_pos (show (0 : Int) ≤ (i : Int) by omega), beq_self_eq_true, Bool.not_true, Bool.or_false, Bool.false_eq_true, if_false]; rw [w64 (n := (i : Int) + 1) (by omega) (by omega), show (i : Int) + 1 = ((i + 1 : Nat) : Int) by omega]; exact sameSums.go a ha n (i + 1) (by omega)
theorem accountingref25_Same.self (a : List TxSum) (ha : a.length ≤ 1000) : Ev (fun k => accountingref25_Same.f k a a) true := by
  unfold accountingref25_Same.f
  simp only [if_true]; exact sameSums.go a ha a.length 0 (by omega)
theorem pure_TaxOf : accountinglaw25_TaxOf.Pure := by
  intro l codes way mode hl hc hw hm
  have ho : TCok codes := fun y hy => by
    have h := hc.2 y hy; exact ⟨⟨by have := h.1; omega, by have := h.2.1; omega⟩, wfb h.2.2.1, wfb h.2.2.2⟩
  have hli : ∀ x ∈ l, inI x.f0 := fun x hx => wfb (hl.2 x hx).1; refine Ev.out (g := fun k => accountinglaw25_TaxOf.f k l codes way mode) ?_
  unfold accountinglaw25_TaxOf.f
  obtain ⟨b, hb⟩ : ∃ b, accountinglaw25_large.f l codes = some b := by
    unfold accountinglaw25_large.f
    split
    · exact ⟨_, rfl⟩
    · split <;> exact ⟨_, rfl⟩
  rw [hb]; simp only [Option.bind_some]
  cases b with
  | true => simp only [if_true]; exact Ev.const _
  | false =>
    simp only [Bool.false_eq_true, if_false]
    have hlen : (ofv l codes way mode).1.length ≤ 1000 ∧ (ofv l codes way mode).2.1.length ≤ 1000 := by
      unfold ofv
      by_cases c : askv l codes way mode = 0
      · obtain ⟨_, h, hn, _⟩ := askv_ok ho c; have ol : (occ codes l).length ≤ codes.length := List.length_filter_le _ _; have hcl := h.len; rw [if_pos c]; simp only [List.length_map]
        omega
      · rw [if_neg c]; simp
    refine Ev.bind (tax_Of.eq ho l hli way mode) (Ev.bind (accountingref25_Of.eq ho l hli way mode) (Ev.bind (accountingref25_SameInts.self _ hlen.1) ?_)); simp only [if_true]; refine Ev.bind (accountingref25_Same.self _ hlen.2) ?_; simp only [if_true]; exact Ev.bind accountinglaw25_lives.true (Ev.const _)
end Go.Proofs.Ytgjpegmhlnabpaa.M
namespace Go.Proofs.Ytgjpegmhlnabpaa.Pure
theorem TaxOf : M.accountinglaw25_TaxOf.Pure := M.pure_TaxOf
end Go.Proofs.Ytgjpegmhlnabpaa.Pure
end
section
namespace Go.Proofs.Ytgjpegmhlnabpaa.taxOf
open Go.ChangeShapes Go.WideShapes Go.ChangeAt Go.RowKit Go.Proofs.Ytgjpegmhlnabpaa.M Go.Proofs.YtgjpegmhlnabpaaW.PrintWords Go.Proofs.YtgjpegmhlnabpaaW.PrintLast
open Go.ChangeMaps (open_string shut_string)
set_option linter.unusedVariables false
theorem own : ownKnob Try.prog.godebug = none := by kernel_rfl
theorem laidOut : laidOutB Try.prog = true := by kernel_rfl
set_option maxRecDepth 100000 in
set_option maxHeartbeats 4000000 in
theorem lifted (os : Os) (started : os.Started) (H : Type) (enc : TypeId × Value → H) :
    ReturnsInHanded {} Try.checked os 7 .any (Rows.taxOfSpec.pre6 enc Try.prog Try.f7 Rows.taxOfRow.domain false) (Rows.taxOfSpec.post enc Try.prog Try.f7 false true false false) := by
  refine returnsInHanded_of_change_sized (C := Try.checked) own started (by kernel_rfl) Try.func7
    (ChangeSpec.witness6 (enc := enc) (C := Try.checked) false ⟨#[], #[.slice none 0 0, .slice none 0 0, .int .i64 0, .int .i64 0], []⟩ 8 (by kernel_rfl) (by kernel_rfl) (by kernel_rfl) (by kernel_rfl)) ?_
  intro W base args ds gs before hval0 hW hcnd hsz0 _; have hsz : (DataW.weightsEach Try.prog (Try.f7.params.toList ++ Rows.taxOfSpec.plain.varTypes Try.prog) (ds ++ gs)).all (· ≤ reachBytes) = true := hsz0; have hval : ∀ (j : Nat) t v, Try.f7.params[j]? = some t → args[j]? = some v → Value.okWide Try.prog W .any base t v := hval0; have hW' := hW; obtain ⟨p, q, hA0, hV, rfl, hfz, hnd⟩ := hW; have hA : DataW.TrodAll enc Try.prog W 0 (fun _ => true) true Try.f7.params.toList args.toList ds p := hA0; rw [Try.params7] at hA hval hsz; obtain ⟨v0, vs0, d0, ds0, p0, q0, hargs, rfl, rfl, h0, r0⟩ := trodAll_cons hA; obtain ⟨v1, vs1, d1, ds1, p1, q1, rfl, rfl, rfl, h1, r1⟩ := trodAll_cons r0; obtain ⟨v2, vs2, d2, ds2, p2, q2, rfl, rfl, rfl, h2, r2⟩ := trodAll_cons r1; obtain ⟨v3, vs3, d3, ds3, p3, q3, rfl, rfl, rfl, h3, r3⟩ := trodAll_cons r2; obtain ⟨rfl, rfl, rfl⟩ := trodAll_nil r3; obtain rfl : args = #[v0, v1, v2, v3] := by cases args; simp_all
  obtain ⟨rfl, rfl⟩ := trodVars_none hV; obtain ⟨a0, len0, cap0, rfl⟩ := okWide_slice Try.underlying37 (hval 0 37 v0 rfl rfl); have k0 := h0; have lt0 : ∀ x ∈ p0, x.block < W.heap.size := by obtain ⟨m, hm⟩ := k0; exact DataW.trod_lt m _ _ _ hm
  obtain ⟨x0, K0, g0⟩ : ∃ x_ : List (S49), (Kd.slice 49 k49).K W x_ [.slice a0 len0 cap0] ∧ (x_.length * 24 ≤ 140737488351232 ∧ ∀ y0_ ∈ x_, G49 y0_) := by obtain ⟨f, hf⟩ := h0; exact ((Opens.slice Try.underlying37 opens49 (by kernel_rfl) (b := 24) (by kernel_rfl))).get enc W 0 _ _ f _ _ hf (weights_at hsz (j := 0) (t := 37) rfl rfl)
  obtain ⟨A0, c0, e0, L0, C0⟩ := K0; injection e0 with e0 _
  injection e0 with e0a e0b e0c
  subst e0a e0b e0c; obtain ⟨a1, len1, cap1, rfl⟩ := okWide_slice Try.underlying35 (hval 1 35 v1 rfl rfl); have k1 := h1; have lt1 : ∀ x ∈ p1, x.block < W.heap.size := by obtain ⟨m, hm⟩ := k1; exact DataW.trod_lt m _ _ _ hm
  obtain ⟨x1, K1, g1⟩ : ∃ x_ : List (S59), (Kd.slice 59 k59).K W x_ [.slice a1 len1 cap1] ∧ (x_.length * 48 ≤ 140737488351232 ∧ ∀ y0_ ∈ x_, G59 y0_) := by obtain ⟨f, hf⟩ := h1; exact ((Opens.slice Try.underlying35 opens59 (by kernel_rfl) (b := 48) (by kernel_rfl))).get enc W 0 _ _ f _ _ hf (weights_at hsz (j := 1) (t := 35) rfl rfl)
  obtain ⟨A1, c1, e1, L1, C1⟩ := K1; injection e1 with e1 _
  injection e1 with e1a e1b e1c
  subst e1a e1b e1c; obtain ⟨x2, rfl, rfl, rfl, g2⟩ := open_int Try.underlying3 (hval 2 3 v2 rfl rfl) h2; obtain ⟨x3, rfl, rfl, rfl, g3⟩ := open_int Try.underlying3 (hval 3 3 v3 rfl rfl) h3; clear hA0 hval0 hsz0 hsz; obtain ⟨k, h⟩ := Pure.TaxOf x0 x1 x2 x3 g0 g1 g2 g3; refine (M.accountinglaw25_TaxOf.calls (k := k) (r := true) (w := W) (hr0 := C0) (hc0 := L0) (hr1 := C1) (hc1 := L1) (h := h)).mono fun e W' ⟨he, bel0⟩ => ?_; have bel : Below W.heap.size W W' := by first | exact bel0 | exact bel0.below | (obtain ⟨nd, rfl⟩ := bel0; exact pw_below_drewN (Below.refl _ _) nd)
  subst he; exact ⟨_, rfl, _, _, _, [], _, [], hW', trodAll_mk1 (shut_bool Try.underlying4 _), (trodAll_cons_mk (Below.trod laidOut (by kernel_rfl) (of_decide_eq_true (by kernel_rfl)) k0 bel lt0) (trodAll_cons_mk (Below.trod laidOut (by kernel_rfl) (of_decide_eq_true (by kernel_rfl)) k1 bel lt1) (trodAll_cons_mk (shut_int Try.underlying3 g2) (trodAll_cons_mk (shut_int Try.underlying3 g3) trodAll_mk0)))), rfl, bel.frame _, fun h => by cases h⟩
theorem over : Rows.taxOfRow.holds Try.pinned (OpenSpec.ofChange Rows.taxOfSpec) :=
  OpenClaim.holds_of_wide 7 Try.f7 rfl rfl rfl rfl rfl rfl rfl ⟨rfl, rfl, rfl, rfl, rfl⟩ rfl rfl rfl rfl rfl (by kernel_rfl) Try.func7 (by kernel_rfl)
    (of_decide_eq_true (by kernel_rfl)) (by unfold Func.isWrapper; first | (rw [if_pos (by decide +kernel)]; kernel_rfl) | (rw [if_neg (by decide +kernel)]; exact ⟨rfl, rfl⟩))
    (fun os started H enc _ => lifted os started H enc)
theorem proved : Rows.TaxOfSaid := over
#print axioms proved
end Go.Proofs.Ytgjpegmhlnabpaa.taxOf
namespace Go.Proofs.Ytgjpegmhlnabpaa
theorem taxOf_holds : Rows.TaxOfSaid := taxOf.proved
end Go.Proofs.Ytgjpegmhlnabpaa
end
