/- The law of the products, walked and shown. Part 1 of 1 of what is the claim's own. -/
import Derived.Test.YtoppdlideonjjaaQBD1
import Derived.SizedLaws
import Derived.ChangeArms
import Derived.ChangeShapes
import Derived.DataReads
import Derived.Test.YtoppdlideonjjaaQBD5
import Derived.Test.YtoppdlideonjjaaRows
import Derived.WalkKit
import Derived.ProofKit
import Derived.OpenShut
import Derived.ShutString
import Derived.ChangeOld
import Derived.Below
section
/- What came in as_ data of a type, told as_ a value of a kind: whole numbers, bools, strings, slices, structs, one inside the other. -/
namespace Go.Proofs.YtoppdlideonjjaaW.PrintLast
open Go.RowKit Go.Proofs.YtoppdlideonjjaaW.PrintWords
section
variable {P : Program} {α β : Type}
/-- Data of type t reads as_ values of kind d, of which G is known. -/
structure Opens (P : Program) (d : Kd α) (t : TypeId) (G : α → Prop) : Prop where
  get : ∀ {H : Type} (enc : TypeId × Value → H) (W : World) (base : Nat) (sp : Nat → Bool) (held : Bool) (fuel : Nat) (cs : List Value) (x : DataW H × List MemPlace), DataW.trod enc P W base sp held fuel t cs = some x → (∀ n ∈ DataW.weights P t x.1, n ≤ reachBytes) → ∃ a : α, d.K W a cs ∧ G a
theorem Opens.imp {d : Kd α} {t : TypeId} {G G' : α → Prop} (h : Opens P d t G) (hg : ∀ a, G a → G' a) : Opens P d t G' :=
  ⟨fun enc W base sp held fuel cs x hx hw => let ⟨a, h1, h2⟩ := h.get enc W base sp held fuel cs x hx hw; ⟨a, h1, hg a h2⟩⟩
theorem Opens.int {t : TypeId} {k : IntKind} (ht : P.underlying t = some (.int k)) : Opens P (Kd.int k) t (fun n => (Lit.int k n).wf = true) :=
  ⟨fun enc W base sp held fuel cs x hx hw => by
    obtain ⟨n, rfl, _, h⟩ := DataW.trod_int ht hx
    exact ⟨n, rfl, h⟩⟩
theorem Opens.bool {t : TypeId} (ht : P.underlying t = some .bool) : Opens P Kd.bool t (fun _ => True) :=
  ⟨fun enc W base sp held fuel cs x hx hw => by
    obtain ⟨n, rfl, _⟩ := DataW.trod_bool ht hx
    exact ⟨n, rfl, trivial⟩⟩
theorem Opens.string {t : TypeId} (ht : P.underlying t = some .string) : Opens P Kd.string t (fun s => s.size ≤ 140737488351232) :=
  ⟨fun enc W base sp held fuel cs x hx hw => by
    obtain ⟨s, rfl, rfl, h⟩ := DataW.trod_string ht hx
    have := hw s.data.toList.length (by simp [DataW.weights])
    rw [Array.length_toList] at this
    exact ⟨s, rfl, this⟩⟩
theorem list_of {Q : Nat → α → Prop} : ∀ n : Nat, (∀ i, i < n → ∃ a, Q i a) → ∃ xs : List α, xs.length = n ∧ ∀ i a, xs[i]? = some a → Q i a
  | 0, _ => ⟨[], rfl, fun i a h => by simp at h⟩
  | n + 1, h => by
    obtain ⟨xs, hl, hx⟩ := list_of n (fun i hi => h i (by omega))
    obtain ⟨a, ha⟩ := h n (by omega)
    refine ⟨xs ++ [a], by simp [hl], fun i b hb => ?_⟩
    by_cases hi : i < n
    · rw [List.getElem?_append_left (by omega)] at hb
      exact hx i b hb
    · have hi2 : i < n + 1 := by have := (List.getElem?_eq_some_iff.1 hb).1; simp [hl] at this; exact this
      obtain rfl : i = n := by omega
      rw [List.getElem?_append_right (by omega), hl] at hb
      simp at hb
      subst hb
      exact ha
theorem Opens.slice {d : Kd α} {t e : TypeId} {G : α → Prop} (ht : P.underlying t = some (.slice e)) (h : Opens P d e G) (hc : P.cellsOf e = d.sz) {b : Nat} (hb : P.bytesOf e = b) : Opens P (Kd.slice e d) t (fun xs => xs.length * b ≤ 140737488351232 ∧ ∀ x ∈ xs, G x) :=
  ⟨fun {H} enc W base sp held fuel cs x hx hw => by
    rcases DataW.trod_slice ht hx with ⟨rfl, rfl⟩ | ⟨a, len, cap, elems, rest, n, rfl, rfl, rfl, hba, hl, hm, hlen, hel, _, _⟩
    · exact ⟨[], ⟨none, 0, rfl, Nat.le_refl _, rfl, by simp, fun h => absurd h (Nat.lt_irrefl 0)⟩, by simp, fun _ h => by simp at h⟩
    · simp only [DataW.weights, ht] at hw
      have hw0 := hw _ (List.mem_cons_self ..)
      have each : ∀ i, i < len → ∃ y : α, (∃ c : List Value, c.length = d.sz ∧ d.K W y c ∧ ∀ j u, c[j]? = some u → W.cell? (a.add (i * d.sz + j)) = some u) ∧ G y := by
        intro i hi
        have h1 := hel i hi
        rw [List.getElem?_eq_getElem (by omega)] at h1
        obtain ⟨c, hcs, h2⟩ := Option.bind_eq_some_iff.1 h1
        obtain ⟨_, hcl, hcc⟩ := World.cells?_some hcs
        obtain ⟨y, hk, hg⟩ := h.get enc W base sp held n c _ h2 (fun m hm => hw m (List.mem_cons_of_mem _ (List.mem_append_left _ (by
          have : ∀ (l : List (DataW H)) (z : DataW H), z ∈ l → ∀ m ∈ DataW.weights P e z, m ∈ DataW.weightsAll P e l := by
            intro l z hz m hm
            induction l with
            | nil => simp at hz
            | cons y l ih =>
              simp only [DataW.weightsAll, List.mem_append]
              rcases List.mem_cons.1 hz with rfl | hz
              · exact .inl hm
              · exact .inr (ih hz)
          exact this _ _ (List.mem_map.2 ⟨_, List.getElem_mem (by omega), rfl⟩) m hm))))
        refine ⟨y, ⟨c, by rw [hcl, hc], hk, fun j u hu => ?_⟩, hg⟩
        have hj : j < c.length := (List.getElem?_eq_some_iff.1 hu).1
        rw [hc] at hcc
        have := hcc j (by omega)
        rw [add_add] at this
        rw [this, hu]
      obtain ⟨ys, hyl, hy⟩ := list_of len each
      refine ⟨ys, ⟨some a, cap, by rw [hyl], by omega, rfl, ?_, fun _ => ⟨a, rfl, fun j p hj => (hy j p hj).1⟩⟩, ?_, fun y hy' => ?_⟩
      · unfold maxLen at hm; omega
      · rw [hyl]
        have h2 : (elems.map (·.1)).length + (rest.map (·.1)).length ≥ len := by simp; omega
        have h3 : len * b ≤ ((elems.map (·.1)).length + (rest.map (·.1)).length) * P.bytesOf e := by rw [hb]; exact Nat.mul_le_mul_right _ h2
        exact Nat.le_trans h3 hw0
      · obtain ⟨j, hj⟩ := List.getElem?_of_mem hy'
        exact (hy j y hj).2⟩
theorem Opens.iso {d : Kd α} {t : TypeId} {G : α → Prop} (h : Opens P d t G) (f : β → α) (g : α → β) (hg : ∀ a, f (g a) = a) : Opens P (Kd.iso d f) t (fun b => G (f b)) :=
  ⟨fun enc W base sp held fuel cs x hx hw => let ⟨a, h1, h2⟩ := h.get enc W base sp held fuel cs x hx hw; ⟨g a, by show d.K W (f (g a)) cs; rw [hg]; exact h1, by rw [hg]; exact h2⟩⟩
/-- The fields from offset o on. -/
structure FOpens (P : Program) (d : Kd α) (fs : List Field) (o : Nat) (G : α → Prop) : Prop where
  get : ∀ {H : Type} (enc : TypeId × Value → H) (W : World) (base : Nat) (sp : Nat → Bool) (held : Bool) (n : Nat) (cs : List Value) (xs : List (DataW H × List MemPlace)), o + d.sz = cs.length → xs.length = fs.length →
    (∀ (i : Nat) (f : Field), fs[i]? = some f → DataW.trod enc P W base sp held n f.type ((cs.drop f.offset).take (P.cellsOf f.type)) = xs[i]?) → (∀ m ∈ DataW.weightsEach P (fs.map (·.type)) (xs.map (·.1)), m ≤ reachBytes) → ∃ a : α, d.K W a (cs.drop o) ∧ G a
theorem FOpens.one {d : Kd α} {f : Field} {o : Nat} {G : α → Prop} (h : Opens P d f.type G) (ho : f.offset = o) (hs : P.cellsOf f.type = d.sz) : FOpens P d [f] o G :=
  ⟨fun enc W base sp held n cs xs hl hx ht hw => by
    obtain ⟨x, rfl⟩ := List.length_eq_one_iff.1 hx
    have h1 := ht 0 f rfl
    rw [ho, hs, List.take_of_length_le (by simp; omega)] at h1
    exact h.get enc W base sp held n _ x h1 (fun m hm => hw m (by simpa [DataW.weightsEach] using hm))⟩
theorem FOpens.cons {d : Kd α} {d2 : Kd β} {f : Field} {fs : List Field} {o : Nat} {G : α → Prop} {G2 : β → Prop} (h : Opens P d f.type G) (ho : f.offset = o) (hs : P.cellsOf f.type = d.sz) (hr : FOpens P d2 fs (o + d.sz) G2) : FOpens P (Kd.pair d d2) (f :: fs) o (fun p => G p.1 ∧ G2 p.2) :=
  ⟨fun enc W base sp held n cs xs hl hx ht hw => by
    cases xs with
    | nil => simp at hx
    | cons x xs =>
      have h1 := ht 0 f rfl
      simp only [List.getElem?_cons_zero] at h1
      rw [ho, hs] at h1
      have e : o + (Kd.pair d d2).sz = o + d.sz + d2.sz := by show o + (d.sz + d2.sz) = _; omega
      obtain ⟨a, ha, hga⟩ := h.get enc W base sp held n _ x h1 (fun m hm => hw m (by simp only [List.map_cons, DataW.weightsEach, List.mem_append]; exact .inl hm))
      obtain ⟨b, hb, hgb⟩ := hr.get enc W base sp held n cs xs (by omega) (by simpa using hx) (fun i f' hf => by simpa using ht (i + 1) f' (by simpa using hf)) (fun m hm => hw m (by simp only [List.map_cons, DataW.weightsEach, List.mem_append]; exact .inr hm))
      refine ⟨(a, b), ⟨_, _, ?_, ha, hb⟩, hga, hgb⟩
      rw [← List.drop_drop, List.take_append_drop]⟩
theorem Opens.struct {d : Kd α} {t : TypeId} {fs : Array Field} {G : α → Prop} (ht : P.underlying t = some (.struct fs)) (hs : P.cellsOf t = d.sz) (h : FOpens P d fs.toList 0 G) : Opens P d t G :=
  ⟨fun enc W base sp held fuel cs x hx hw => by
    obtain ⟨xs, n, rfl, rfl, hl, hxl, hi⟩ := DataW.trod_struct ht hx
    simp only [DataW.weights, ht] at hw
    have := h.get enc W base sp held n cs xs (by omega) (by simpa using hxl) (fun i f hf => hi i f (by simpa using hf)) hw
    simpa using this⟩
/-- An argument's weights out of all arguments'. -/
theorem weights_at {H : Type} {ts : List TypeId} {ds : List (DataW H)} (h : (DataW.weightsEach P ts ds).all (· ≤ reachBytes) = true) {j : Nat} {t : TypeId} {d : DataW H} (ht : ts[j]? = some t) (hd : ds[j]? = some d) : ∀ n ∈ DataW.weights P t d, n ≤ reachBytes :=
  fun n hn => by simpa using List.all_eq_true.1 h _ (DataW.weights_mem_each ht hd n hn)
end
end Go.Proofs.YtoppdlideonjjaaW.PrintLast
end
section
-- Written by mprint.py (a program of this session) over the kit's print.
namespace Go.Proofs.Ytoppdlideonjjaa.M
open Go.RowKit Go.Proofs.YtoppdlideonjjaaW.PrintWords Go.Proofs.YtoppdlideonjjaaW.PrintLast Go.Proofs.YtoppdlideonjjaaW.PrintMore
attribute [local go_sem] max2_int min2_int max_two min_two max_three min_three max_four min_four   -- for this text's walks alone
set_option linter.unusedVariables false
set_option linter.unusedSimpArgs false

def G35 (x_ : S35) : Prop := ((Lit.int .i64 x_.f0).wf = true) ∧ ((Lit.int .i64 x_.f1).wf = true)
theorem opens35 : Opens Try.prog k35 35 G35 :=
  Opens.imp (Opens.iso (Opens.struct Try.underlying35 (by kernel_rfl) (FOpens.cons (Opens.int Try.underlying3) rfl (by kernel_rfl) (FOpens.one (Opens.int Try.underlying3) rfl (by kernel_rfl)))) (fun x : S35 => (x.f0, x.f1)) (fun p => (⟨p.1, p.2⟩ : S35)) (fun _ => rfl)) (fun _ h => h)
def G61 (x_ : S61) : Prop := (x_.f0.size ≤ 140737488351232) ∧ (G35 x_.f1)
theorem opens61 : Opens Try.prog k61 61 G61 :=
  Opens.imp (Opens.iso (Opens.struct Try.underlying61 (by kernel_rfl) (FOpens.cons (Opens.string Try.underlying9) rfl (by kernel_rfl) (FOpens.one opens35 rfl (by kernel_rfl)))) (fun x : S61 => (x.f0, x.f1)) (fun p => (⟨p.1, p.2⟩ : S61)) (fun _ => rfl)) (fun _ h => h)
def G24 (x_ : S24) : Prop := (x_.f0.size ≤ 140737488351232) ∧ ((x_.f1.size ≤ 140737488351232) ∧ (((Lit.int .i64 x_.f2).wf = true) ∧ (((Lit.int .i64 x_.f3).wf = true) ∧ (x_.f4.length * 32 ≤ 140737488351232 ∧ ∀ y0_ ∈ x_.f4, G61 y0_))))
theorem opens24 : Opens Try.prog k24 24 G24 :=
  Opens.imp (Opens.iso (Opens.struct Try.underlying24 (by kernel_rfl) (FOpens.cons (Opens.string Try.underlying9) rfl (by kernel_rfl) (FOpens.cons (Opens.string Try.underlying9) rfl (by kernel_rfl) (FOpens.cons (Opens.int Try.underlying3) rfl (by kernel_rfl) (FOpens.cons (Opens.int Try.underlying3) rfl (by kernel_rfl) (FOpens.one (Opens.slice Try.underlying22 opens61 (by kernel_rfl) (b := 32) (by kernel_rfl)) rfl (by kernel_rfl))))))) (fun x : S24 => (x.f0, x.f1, x.f2, x.f3, x.f4)) (fun p => (⟨p.1, p.2.1, p.2.2.1, p.2.2.2.1, p.2.2.2.2⟩ : S24)) (fun _ => rfl)) (fun _ h => h)
def G42 (x_ : S42) : Prop := (G24 x_.f0) ∧ (((Lit.int .i64 x_.f1).wf = true) ∧ (((Lit.int .i64 x_.f2).wf = true) ∧ (x_.f3.size ≤ 140737488351232)))
theorem opens42 : Opens Try.prog k42 42 G42 :=
  Opens.imp (Opens.iso (Opens.struct Try.underlying42 (by kernel_rfl) (FOpens.cons opens24 rfl (by kernel_rfl) (FOpens.cons (Opens.int Try.underlying3) rfl (by kernel_rfl) (FOpens.cons (Opens.int Try.underlying3) rfl (by kernel_rfl) (FOpens.one (Opens.string Try.underlying9) rfl (by kernel_rfl)))))) (fun x : S42 => (x.f0, x.f1, x.f2, x.f3)) (fun p => (⟨p.1, p.2.1, p.2.2.1, p.2.2.2⟩ : S42)) (fun _ => rfl)) (fun _ h => h)
end Go.Proofs.Ytoppdlideonjjaa.M
end
section
-- Written by mprint.py (a program of this session) over the kit's print.
namespace Go.Proofs.Ytoppdlideonjjaa.M
open Go.RowKit Go.Proofs.YtoppdlideonjjaaW.PrintWords Go.Proofs.YtoppdlideonjjaaW.PrintLast Go.Proofs.YtoppdlideonjjaaW.PrintMore
attribute [local go_sem] max2_int min2_int max_two min_two max_three min_three max_four min_four   -- for this text's walks alone
set_option linter.unusedVariables false
set_option linter.unusedSimpArgs false

/-- THE ONE PURE STATEMENT of accountinglaw32_ItemsNil. -/
def accountinglaw32_ItemsNil.Pure : Prop := ∀ (x0 : ByteArray), (x0.size ≤ 140737488351232) → accountinglaw32_ItemsNil.f x0 = some true
end Go.Proofs.Ytoppdlideonjjaa.M
end
section
/- A nil list has no products: the walk shows it. -/
namespace Go.Proofs.Ytoppdlideonjjaa.M
theorem pure_ItemsNil : accountinglaw32_ItemsNil.Pure := fun _ _ => rfl
end Go.Proofs.Ytoppdlideonjjaa.M
namespace Go.Proofs.Ytoppdlideonjjaa.Pure
theorem ItemsNil : M.accountinglaw32_ItemsNil.Pure := M.pure_ItemsNil
end Go.Proofs.Ytoppdlideonjjaa.Pure
end
section
-- Written by mprint.py (a program of this session) over the kit's print.
namespace Go.Proofs.Ytoppdlideonjjaa.itemsNil
open Go.ChangeShapes Go.WideShapes Go.ChangeAt Go.RowKit Go.Proofs.Ytoppdlideonjjaa.M Go.Proofs.YtoppdlideonjjaaW.PrintWords Go.Proofs.YtoppdlideonjjaaW.PrintLast
open Go.ChangeMaps (open_string shut_string)
set_option linter.unusedVariables false
theorem own : ownKnob Try.prog.godebug = none := by kernel_rfl
theorem laidOut : laidOutB Try.prog = true := by kernel_rfl
set_option maxRecDepth 100000 in
set_option maxHeartbeats 4000000 in
theorem lifted (os : Os) (started : os.Started) (H : Type) (enc : TypeId × Value → H) :
    ReturnsInHanded {} Try.checked os 10 .any (Rows.itemsNilSpec.pre6 enc Try.prog Try.f10 Rows.itemsNilRow.domain false) (Rows.itemsNilSpec.post enc Try.prog Try.f10 false true false false) := by
  refine returnsInHanded_of_change_sized (C := Try.checked) own started (by kernel_rfl) Try.func10
    (ChangeSpec.witness6 (enc := enc) (C := Try.checked) false ⟨#[], #[.string ByteArray.empty], []⟩ 8 (by kernel_rfl) (by kernel_rfl) (by kernel_rfl) (by kernel_rfl)) ?_
  intro W base args ds gs before hval0 hW hcnd hsz0 _
  have hsz : (DataW.weightsEach Try.prog (Try.f10.params.toList ++ Rows.itemsNilSpec.plain.varTypes Try.prog) (ds ++ gs)).all (· ≤ reachBytes) = true := hsz0
  have hval : ∀ (j : Nat) t v, Try.f10.params[j]? = some t → args[j]? = some v → Value.okWide Try.prog W .any base t v := hval0
  have hW' := hW
  obtain ⟨p, q, hA0, hV, rfl, hfz, hnd⟩ := hW
  have hA : DataW.TrodAll enc Try.prog W 0 (fun _ => true) true Try.f10.params.toList args.toList ds p := hA0
  rw [Try.params10] at hA hval hsz
  obtain ⟨v0, vs0, d0, ds0, p0, q0, hargs, rfl, rfl, h0, r0⟩ := trodAll_cons hA
  obtain ⟨rfl, rfl, rfl⟩ := trodAll_nil r0
  obtain rfl : args = #[v0] := by cases args; simp_all
  obtain ⟨rfl, rfl⟩ := trodVars_none hV
  obtain ⟨x0, rfl, rfl, rfl, y0⟩ := open_string Try.underlying9 (hval 0 9 v0 rfl rfl) h0
  have g0 : x0.size ≤ 140737488351232 := by
    have z := sized_string hsz (j := 0) (t := 9) rfl rfl
    rw [Array.length_toList] at z
    exact z
  clear hA0 hval0 hsz0 hsz
  have h := Pure.ItemsNil x0 g0
  refine (M.accountinglaw32_ItemsNil.calls (r := true) (w := W)  (h := h)).mono fun e W' ⟨he, bel0⟩ => ?_
  have bel : Below W.heap.size W W' := by first | exact bel0 | exact bel0.below | (obtain ⟨nd, rfl⟩ := bel0; exact pw_below_drewN (Below.refl _ _) nd)
  subst he
  exact ⟨_, rfl, _, _, _, [], _, [], hW', trodAll_mk1 (shut_bool Try.underlying4 _), (trodAll_cons_mk (shut_string Try.underlying9 y0) trodAll_mk0), rfl, bel.frame _, fun h => by cases h⟩
theorem over : Rows.itemsNilRow.holds Try.pinned (OpenSpec.ofChange Rows.itemsNilSpec) :=
  OpenClaim.holds_of_wide 10 Try.f10 rfl rfl rfl rfl rfl rfl rfl ⟨rfl, rfl, rfl, rfl, rfl⟩ rfl rfl rfl rfl rfl (by kernel_rfl) Try.func10 (by kernel_rfl)
    (of_decide_eq_true (by kernel_rfl)) (by unfold Func.isWrapper; first | (rw [if_pos (by decide +kernel)]; kernel_rfl) | (rw [if_neg (by decide +kernel)]; exact ⟨rfl, rfl⟩))
    (fun os started H enc _ => lifted os started H enc)
theorem proved : Rows.ItemsNilSaid := over
#print axioms proved
end Go.Proofs.Ytoppdlideonjjaa.itemsNil
namespace Go.Proofs.Ytoppdlideonjjaa
/-- The row, under a short name, for the claim. -/
theorem itemsNil_holds : Rows.ItemsNilSaid := itemsNil.proved
end Go.Proofs.Ytoppdlideonjjaa
end
