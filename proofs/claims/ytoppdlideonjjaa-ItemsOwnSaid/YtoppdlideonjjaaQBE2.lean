/- What the claims of this seat share, part 2 of 5: what the program's functions compute. -/
import Derived.Test.YtoppdlideonjjaaQBE1
import Derived.Maps.Own
import Derived.MapKept
import Derived.Maps.RangeRun
import Derived.WalkSpells
import Derived.Shelf.SlIter.Nil
import Derived.Shelf.SortM.Plain
import Derived.Shelf.SortM.SortNone
import Derived.Test.YtoppdlideonjjaaProg
section
/- Maps of the call's own, as_ lists of pairs. -/
namespace Go.Proofs.YtoppdlideonjjaaW.PrintLast
open Go.RowKit Go.Proofs.YtoppdlideonjjaaW.PrintWords
set_option linter.unusedSimpArgs false
set_option linter.unusedVariables false
section
variable {P : Program} {κ ν : Type} [DecidableEq κ]
/-- The element at a key. -/
def aget : List (κ × ν) → κ → Option ν
  | [], _ => none
  | p :: r, k => if p.1 = k then some p.2 else aget r k
/-- The list with an element at a key. -/
def aput : List (κ × ν) → κ → ν → List (κ × ν)
  | [], k, v => [(k, v)]
  | p :: r, k, v => if p.1 = k then (k, v) :: r else p :: aput r k v
def hitAt (k : κ) : List κ → List MapEntry → Nat → Option (Nat × Value)
  | k' :: ks, e :: es, i => if k' = k then some (i, e.val) else hitAt k ks es (i + 1)
  | _, _, _ => none
/-- What is asked of a type of keys. -/
structure KeyT (P : Program) (t : TypeId) (ek : κ → Value) : Prop where
  check : ∀ (e : Bool) (k : κ) (w : World), (Instr.checkKey e 10000 t (ek k)).run P w = .ok () w
  find : ∀ (k : κ) (l : List MapEntry) (ks : List κ) (w : World), l.map (·.key) = ks.map ek → (Instr.findKey t (ek k) l).run P w = .ok (hitAt k ks l 0) w
  same : ∀ k, Instr.sameBits 10000 (ek k) (ek k) = true
theorem findNow_hit {d : TypeDesc} {ek : κ → Value} (h : ∀ k k', Instr.sameNow d (ek k) (ek k') = some (decide (k' = k))) (k : κ) : ∀ (l : List MapEntry) (ks : List κ) (i : Nat), l.map (·.key) = ks.map ek → Instr.findNow d (ek k) l i = some (hitAt k ks l i)
  | [], [], i, _ => rfl
  | [], _ :: _, i, e => by simp at e
  | _ :: _, [], i, e => by simp at e
  | x :: l, k' :: ks, i, e => by
    simp only [List.map_cons, List.cons.injEq] at e
    unfold Instr.findNow hitAt
    rw [e.1, h k k']
    by_cases c : k' = k
    · simp [c]
    · simp [c, findNow_hit h k l ks (i + 1) e.2]
theorem KeyT.string {t : TypeId} (ht : P.underlying t = some .string) : KeyT P t Value.string where
  check := fun e k w => MapKept.run_checkKey (d := .string) ht (by simp [MapKept.IsKey]) e 9999
  find := fun k l ks w e => MapKept.run_findKey ht (findNow_hit (fun k k' => by
    simp only [Instr.sameNow, Option.some.injEq]
    by_cases c : k' = k
    · subst c; simp only [decide_true]; exact (MapKept.bytes_beq k' k').2 rfl
    · rw [decide_eq_false c]; rw [Bool.eq_false_iff]; exact fun h => c ((MapKept.bytes_beq k k').1 h).symm) k l ks 0 e)
  same := fun k => by simp only [Instr.sameBits]; exact (MapKept.bytes_beq k k).2 rfl
theorem KeyT.int {t : TypeId} {q : IntKind} (ht : P.underlying t = some (.int q)) : KeyT P t (Value.int q) where
  check := fun e k w => MapKept.run_checkKey (d := .int q) ht (by simp [MapKept.IsKey]) e 9999
  find := fun k l ks w e => MapKept.run_findKey ht (findNow_hit (fun k k' => by
    simp only [Instr.sameNow, if_true, Option.some.injEq]
    by_cases c : k' = k
    · subst c; simp
    · rw [decide_eq_false c]; exact beq_eq_false_iff_ne.2 (fun h => c h.symm)) k l ks 0 e)
  same := fun k => by simp [Instr.sameBits]
/-- Block b is a map that holds these pairs. -/
def MapIs (ek : κ → Value) (ev : ν → Value) (w : World) (b : Nat) (L : List (κ × ν)) : Prop :=
  ∃ (es : Array MapEntry) (clock : Nat), w.heap[b]? = some (.map es clock) ∧ es.toList.map (·.key) = L.map (fun p => ek p.1) ∧ es.toList.map (·.val) = L.map (fun p => ev p.2) ∧ (∀ e ∈ es.toList, e.born < clock) ∧ es.toList.Pairwise (fun x y => x.born ≠ y.born)
variable {ek : κ → Value} {ev : ν → Value} {w w' : World} {b : Nat} {L : List (κ × ν)}
omit [DecidableEq κ] in
theorem MapIs_made (ek : κ → Value) (ev : ν → Value) (w : World) : MapIs ek ev (w.alloc (.map #[] 0)) w.heap.size [] :=
  ⟨#[], 0, heap_alloc_new w _, rfl, rfl, by simp, by simp⟩
omit [DecidableEq κ] in
theorem MapIs.lt (h : MapIs ek ev w b L) : b < w.heap.size := by
  obtain ⟨es, clock, hb, _⟩ := h
  exact (Array.getElem?_eq_some_iff.1 hb).1
omit [DecidableEq κ] in
theorem MapIs.move (h : MapIs ek ev w b L) (e : w'.heap[b]? = w.heap[b]?) : MapIs ek ev w' b L := by
  obtain ⟨es, clock, hb, r⟩ := h
  exact ⟨es, clock, e.trans hb, r⟩
omit [DecidableEq κ] in
theorem MapIs.below (h : MapIs ek ev w b L) (hb : Below w.heap.size w w') : MapIs ek ev w' b L := h.move (hb.block b h.lt)
omit [DecidableEq κ] in
theorem MapIs.alloc (h : MapIs ek ev w b L) (o : Obj) : MapIs ek ev (w.alloc o) b L := h.move (Below.heap_alloc w o b h.lt)
theorem hitAt_get (k : κ) : ∀ (L : List (κ × ν)) (l : List MapEntry) (i : Nat), l.map (·.val) = L.map (fun p => ev p.2) → (hitAt k (L.map (·.1)) l i).map (·.2) = (aget L k).map ev
  | [], l, i, e => by cases l <;> simp [hitAt, aget] at *
  | p :: L, [], i, e => by simp at e
  | p :: L, x :: l, i, e => by
    simp only [List.map_cons, List.cons.injEq] at e
    simp only [List.map_cons, hitAt, aget]
    by_cases c : p.1 = k
    · simp [c, e.1]
    · simp only [if_neg c]
      exact hitAt_get k L l (i + 1) e.2
/-- What a look-up yields. -/
def lookV (ev : ν → Value) (L : List (κ × ν)) (k : κ) (z : Value) (c : Bool) : Value :=
  if c = true then .tuple #[((aget L k).map ev).getD z, .bool (aget L k).isSome] else ((aget L k).map ev).getD z
theorem MapIs.look {mt kt vt : TypeId} (h : MapIs ek ev w b L) (K : KeyT P kt ek) (ht : P.underlying mt = some (.map kt vt)) {z : Value} (hz : (zeroValue vt).run P w = .ok z w) (k : κ) (c : Bool) : (Instr.lookup mt (.map (some b)) (ek k) c).run P w = .ok (lookV ev L k z c) w := by
  obtain ⟨es, clock, hb, hk, hv, _⟩ := h
  have hf := K.find k es.toList (L.map (·.1)) w (by rw [hk, List.map_map]; rfl)
  have hg := hitAt_get (ev := ev) k L es.toList 0 hv
  unfold Instr.lookup lookV
  simp only [Sem.run_bind, run_underlying ht, Result.andThen_ok, MapKept.run_getObj_map hb, K.check, hf, Sem.run_pure]
  cases hh : hitAt k (L.map (·.1)) es.toList 0 with
  | none =>
    rw [hh] at hg
    have : aget L k = none := by cases ha : aget L k <;> simp [ha] at hg ⊢
    cases c <;> simp [this, Sem.run_bind, hz, Result.andThen, MapKept.run_getObj_map hb, K.check, hf, hh]
  | some r =>
    obtain ⟨i, v⟩ := r
    rw [hh] at hg
    cases ha : aget L k with
    | none => simp [ha] at hg
    | some u =>
      simp [ha] at hg
      cases c <;> simp [hg, Sem.run_bind, Result.andThen, MapKept.run_getObj_map hb, K.check, hf, hh]
/-- Where the key is: its place. -/
theorem hitAt_some (k : κ) : ∀ (L : List (κ × ν)) (l : List MapEntry) (i j : Nat) (v : Value), l.map (·.key) = L.map (fun p => ek p.1) → l.map (·.val) = L.map (fun p => ev p.2) → hitAt k (L.map (·.1)) l i = some (j, v) →
    ∃ n e, j = i + n ∧ l[n]? = some e ∧ e.key = ek k ∧ ∀ (f : MapEntry → MapEntry) (u : ν), (f e).key = ek k → (f e).val = ev u → (l.modify n f).map (·.key) = (aput L k u).map (fun p => ek p.1) ∧ (l.modify n f).map (·.val) = (aput L k u).map (fun p => ev p.2)
  | [], l, i, j, v, e1, e2, h => by cases l <;> simp [hitAt] at h
  | p :: L, [], i, j, v, e1, e2, h => by simp at e1
  | p :: L, x :: l, i, j, v, e1, e2, h => by
    simp only [List.map_cons, List.cons.injEq] at e1 e2
    simp only [List.map_cons, hitAt] at h
    by_cases c : p.1 = k
    · rw [if_pos c] at h
      simp only [Option.some.injEq, Prod.mk.injEq] at h
      refine ⟨0, x, by omega, rfl, by rw [e1.1, c], fun f u hk hv => ?_⟩
      simp [aput, c, hk, hv, e1.2, e2.2]
    · rw [if_neg c] at h
      obtain ⟨n, e, h1, h2, h3, h4⟩ := hitAt_some k L l (i + 1) j v e1.2 e2.2 h
      refine ⟨n + 1, e, by omega, by simpa using h2, h3, fun f u hk hv => ?_⟩
      have := h4 f u hk hv
      simp [aput, c, this.1, this.2, e1.1, e2.1]
theorem hitAt_none (k : κ) : ∀ (L : List (κ × ν)) (l : List MapEntry) (i : Nat), l.length = L.length → hitAt k (L.map (·.1)) l i = none → ∀ v, aput L k v = L ++ [(k, v)]
  | [], l, i, e, h, v => rfl
  | p :: L, [], i, e, h, v => by simp at e
  | p :: L, x :: l, i, e, h, v => by
    simp only [List.map_cons, hitAt] at h
    by_cases c : p.1 = k
    · rw [if_pos c] at h; cases h
    · rw [if_neg c] at h
      simp [aput, c, hitAt_none k L l (i + 1) (by simpa using e) h v]
theorem pairwise_modify {l : List MapEntry} (h : l.Pairwise (fun x y => x.born ≠ y.born)) (n : Nat) (f : MapEntry → MapEntry) (hf : ∀ e, (f e).born = e.born) : (l.modify n f).Pairwise (fun x y => x.born ≠ y.born) := by
  have e : (l.modify n f).map (·.born) = l.map (·.born) := by
    apply List.ext_getElem?
    intro i
    simp only [List.getElem?_map, List.getElem?_modify]
    cases l[i]? with
    | none => simp
    | some x => by_cases c : n = i <;> simp [c, hf]
  have h2 : (l.map (·.born)).Pairwise (· ≠ ·) := List.pairwise_map.2 h
  rw [← e] at h2
  exact List.pairwise_map.1 h2
theorem mem_modify {l : List MapEntry} {n : Nat} {f : MapEntry → MapEntry} {x : MapEntry} (hf : ∀ e, (f e).born = e.born) (h : x ∈ l.modify n f) : ∃ y ∈ l, x.born = y.born := by
  obtain ⟨i, hi⟩ := List.getElem?_of_mem h
  rw [List.getElem?_modify] at hi
  cases hl : l[i]? with
  | none => simp [hl] at hi
  | some y =>
    refine ⟨y, List.mem_of_getElem? hl, ?_⟩
    by_cases c : n = i
    · simp [hl, c] at hi; rw [← hi, hf]
    · simp [hl, c] at hi; rw [hi]
theorem grown_set (w : World) (b : Nat) (o : Obj) : w.grownBy { w with heap := w.heap.setIfInBounds b o } (some b) :=
  ⟨rfl, rfl, rfl, by simp, fun i _ hi => by simp [Array.getElem?_setIfInBounds]; intro e; exact absurd (by rw [e]) hi⟩
theorem MapIs.upd {mt kt vt : TypeId} (h : MapIs ek ev w b L) (K : KeyT P kt ek) (ht : P.underlying mt = some (.map kt vt)) (k : κ) (v : ν) : ∃ w', (Instr.mapUpdate mt (.map (some b)) (ek k) (ev v)).run P w = .ok () w' ∧ MapIs ek ev w' b (aput L k v) ∧ w.grownBy w' (some b) ∧ w'.heap.size = w.heap.size := by
  obtain ⟨es, clock, hb, hk, hv, hbn, hpw⟩ := h
  have hlt : b < w.heap.size := (Array.getElem?_eq_some_iff.1 hb).1
  have hlen : es.toList.length = L.length := by have := congrArg List.length hk; simpa using this
  have hf := K.find k es.toList (L.map (·.1)) w (by rw [hk, List.map_map]; rfl)
  have hset : ∀ o : Obj, (w.heap.setIfInBounds b o)[b]? = some o := fun o => by simp [Array.getElem?_setIfInBounds, hlt]
  cases hh : hitAt k (L.map (·.1)) es.toList 0 with
  | none =>
    rw [hh] at hf
    refine ⟨_, ?_, ⟨es.push { key := ek k, val := ev v, born := clock }, clock + 1, hset _, ?_, ?_, ?_, ?_⟩, grown_set w b _, by simp⟩
    · unfold Instr.mapUpdate
      simp only [Sem.run_bind, run_underlying ht, Result.andThen_ok, MapKept.run_getObj_map hb, K.check, hf]
      exact MapKept.run_setObj_map _ hb
    · rw [hitAt_none k L _ 0 hlen hh]; simp [hk]
    · rw [hitAt_none k L _ 0 hlen hh]; simp [hv]
    · intro e he
      simp at he
      rcases he with he | rfl
      · have := hbn e (by simpa using he); omega
      · simp
    · rw [Array.toList_push, List.pairwise_append]
      refine ⟨hpw, by simp, fun x hx y hy => ?_⟩
      simp at hy
      subst hy
      have := hbn x hx
      show x.born ≠ clock
      omega
  | some r =>
    obtain ⟨j, u⟩ := r
    obtain ⟨n, e, hj, hn, hek, hm⟩ := hitAt_some (ev := ev) k L es.toList 0 j u hk hv hh
    obtain rfl : j = n := by omega
    rw [hh] at hf
    have hn' : es[j]? = some e := by simpa using hn
    have hm2 := hm (fun e => { e with key := ek k, val := ev v }) v rfl rfl
    refine ⟨_, ?_, ⟨es.modify j (fun e => { e with key := ek k, val := ev v }), clock, hset _, ?_, ?_, ?_, ?_⟩, grown_set w b _, by simp⟩
    · unfold Instr.mapUpdate
      simp only [Sem.run_bind, run_underlying ht, Result.andThen_ok, MapKept.run_getObj_map hb, K.check, hf, hn', Option.map_some, Option.getD_some, hek, Instr.keyThatStays, K.same, if_true, Sem.run_pure]
      exact MapKept.run_setObj_map _ hb
    · simpa using hm2.1
    · simpa using hm2.2
    · intro x hx
      obtain ⟨y, hy, hb2⟩ := mem_modify (f := fun e => { e with key := ek k, val := ev v }) (n := j) (l := es.toList) (fun _ => rfl) (by simpa using hx)
      rw [hb2]
      exact hbn y hy
    · have := pairwise_modify hpw j (fun e => { e with key := ek k, val := ev v }) (fun _ => rfl)
      simpa using this
/-- A look-up, a store, as_ arms of the walk. -/
theorem lookL_ {ops : Array Oper} {Q : Exit → Act → World → Prop} {rest : List Oper} {o : Oper} {a : Act} (hg : o.guard = none) {m x : Operand} {mt kt vt : TypeId} {c : Bool} (hop : o.op = .lookup mt m x c) (ht : P.underlying mt = some (.map kt vt)) (K : KeyT P kt ek) {z : Value} (hz : ∀ w, (zeroValue vt).run P w = .ok z w) (M : MapIs ek ev w b L) (k : κ) (hm : a.eval m = .map (some b)) (hx : a.eval x = ek k)
    (h : wpList P ops Q rest (a.put o.dst (lookV ev L k z c)) w) : wpList P ops Q (o :: rest) a w := by
  refine wpList_plain hg fun K' hK' => ?_
  unfold Oper.wp
  simp only [execOp, hop, hm, hx, Sem.run_bind, M.look K ht (hz w) k c, Result.andThen_ok, Sem.run_pure]
  exact hK' _ _ h
end
end Go.Proofs.YtoppdlideonjjaaW.PrintLast
end
section
/- Making a map; ranging over a map of the call's own. -/
namespace Go.Proofs.YtoppdlideonjjaaW.PrintLast
open Go.RowKit Go.Proofs.YtoppdlideonjjaaW.PrintWords Go.ChangeMaps
set_option linter.unusedSimpArgs false
set_option linter.unusedVariables false
section
variable {P : Program} {κ ν : Type} [DecidableEq κ] {ek : κ → Value} {ev : ν → Value} {w w' : World} {b r : Nat} {L rest : List (κ × ν)}
/-- The iterator in block r over the map in block b: what it has not handed out. -/
def IterIs (ek : κ → Value) (ev : ν → Value) (w : World) (r b : Nat) (rest : List (κ × ν)) : Prop :=
  ∃ (es : Array MapEntry) (clock since c0 : Nat) (seen : Array Nat), w.heap[b]? = some (.map es clock) ∧ w.heap[r]? = some (.mapIter (some b) since seen c0) ∧ (∀ x ∈ es.toList, x.born < since) ∧ since ≤ c0 ∧ since ≤ clock ∧ (es.toList.map (·.born)).Nodup ∧ (leftOf es seen).toList.map (·.key) = rest.map (fun p => ek p.1) ∧ (leftOf es seen).toList.map (·.val) = rest.map (fun p => ev p.2)
omit [DecidableEq κ] in
theorem IterIs.move (h : IterIs ek ev w r b rest) (e1 : w'.heap[b]? = w.heap[b]?) (e2 : w'.heap[r]? = w.heap[r]?) : IterIs ek ev w' r b rest := by
  obtain ⟨es, clock, since, c0, seen, h1, h2, h⟩ := h
  exact ⟨es, clock, since, c0, seen, e1.trans h1, e2.trans h2, h⟩
omit [DecidableEq κ] in
theorem IterIs.lt (h : IterIs ek ev w r b rest) : b < w.heap.size ∧ r < w.heap.size := by
  obtain ⟨es, clock, since, c0, seen, h1, h2, h⟩ := h
  exact ⟨(Array.getElem?_eq_some_iff.1 h1).1, (Array.getElem?_eq_some_iff.1 h2).1⟩
omit [DecidableEq κ] in
theorem IterIs.below (h : IterIs ek ev w r b rest) (hb : Below w.heap.size w w') : IterIs ek ev w' r b rest := h.move (hb.block b h.lt.1) (hb.block r h.lt.2)
omit [DecidableEq κ] in
theorem IterIs.grown (h : IterIs ek ev w r b rest) {row : Option Nat} (hg : w.grownBy w' row) (h1 : some b ≠ row) (h2 : some r ≠ row) : IterIs ek ev w' r b rest := h.move (hg.block b h.lt.1 h1) (hg.block r h.lt.2 h2)
omit [DecidableEq κ] in
theorem MapIs.grown (h : MapIs ek ev w b L) {row : Option Nat} (hg : w.grownBy w' row) (h1 : some b ≠ row) : MapIs ek ev w' b L := h.move (hg.block b h.lt h1)
theorem makeL_ {ops : Array Oper} {Q : Exit → Act → World → Prop} {more : List Oper} {o : Oper} {a : Act} (hg : o.guard = none) {mt : TypeId} (hop : o.op = .makeMap mt none)
    (h : wpList P ops Q more (a.put o.dst (.map (some w.heap.size))) (w.alloc (.map #[] 0))) : wpList P ops Q (o :: more) a w := by
  refine wpList_plain hg fun K' hK' => ?_
  unfold Oper.wp
  simp only [execOp, hop, Option.map_none, Instr.makeMap, newObj, Sem.run_bind, Sem.run, Result.andThen, Sem.run_pure]
  exact hK' _ _ h
end
end Go.Proofs.YtoppdlideonjjaaW.PrintLast
end
section
/- A nil map looked up; how many pairs a map holds. -/
namespace Go.Proofs.YtoppdlideonjjaaW.PrintLast
open Go.RowKit Go.Proofs.YtoppdlideonjjaaW.PrintWords
set_option linter.unusedSimpArgs false
set_option linter.unusedVariables false
section
variable {P : Program} {κ ν : Type} [DecidableEq κ] {ek : κ → Value} {ev : ν → Value} {w w' : World} {b : Nat} {L : List (κ × ν)}
theorem nil_look {mt kt vt : TypeId} (K : KeyT P kt ek) (ht : P.underlying mt = some (.map kt vt)) {z : Value} (hz : (zeroValue vt).run P w = .ok z w) (k : κ) (c : Bool) : (Instr.lookup mt (.map none) (ek k) c).run P w = .ok (if c = true then .tuple #[z, .bool false] else z) w := by
  have hf := K.find k [] [] w rfl
  unfold Instr.lookup
  simp only [Sem.run_bind, run_underlying ht, Result.andThen_ok, K.check, Sem.run_pure, hf, hitAt, hz]
  try (cases c <;> simp [Sem.run_bind, Result.andThen, K.check, hf, hitAt, hz])
theorem nilL_ {ops : Array Oper} {Q : Exit → Act → World → Prop} {rest : List Oper} {o : Oper} {a : Act} (hg : o.guard = none) {m x : Operand} {mt kt vt : TypeId} {c : Bool} (hop : o.op = .lookup mt m x c) (ht : P.underlying mt = some (.map kt vt)) (K : KeyT P kt ek) {z : Value} (hz : ∀ w, (zeroValue vt).run P w = .ok z w) (k : κ) (hm : a.eval m = .map none) (hx : a.eval x = ek k)
    (h : wpList P ops Q rest (a.put o.dst (if c = true then .tuple #[z, .bool false] else z)) w) : wpList P ops Q (o :: rest) a w := by
  refine wpList_plain hg fun K' hK' => ?_
  unfold Oper.wp
  simp only [execOp, hop, hm, hx, Sem.run_bind, nil_look K ht (hz w) k c, Result.andThen_ok, Sem.run_pure]
  exact hK' _ _ h
omit [DecidableEq κ] in
theorem MapIs.size_ {P : Program} (h : MapIs ek ev w b L) : ∃ (es : Array MapEntry) (clock : Nat), w.heap[b]? = some (.map es clock) ∧ es.size = L.length := by
  obtain ⟨es, clock, hb, hk, _⟩ := h
  refine ⟨es, clock, hb, ?_⟩
  have := congrArg List.length hk
  simpa using this
end
theorem nameWL {P : Program} {ops : Array Oper} {Q : Exit → Act → World → Prop} {l : List Oper} {a : Act} {w1 : World} (h : ∀ W, w1 = W → wpList P ops Q l a W) : wpList P ops Q l a w1 := h w1 rfl
end Go.Proofs.YtoppdlideonjjaaW.PrintLast
end
section
/- Compound assignment to a map's element; keys that are structs. -/
namespace Go.Proofs.YtoppdlideonjjaaW.PrintLast
open Go.RowKit Go.Proofs.YtoppdlideonjjaaW.PrintWords
set_option linter.unusedSimpArgs false
set_option linter.unusedVariables false
section
variable {P : Program} {κ ν : Type} [DecidableEq κ] {ek : κ → Value} {ev : ν → Value} {w w' : World} {b : Nat} {L : List (κ × ν)}
theorem findAsking_hit {t : TypeId} (he : ∀ (k k' : κ) (w : World), (Op.equal t (ek k) (ek k')).run P w = .ok (decide (k' = k)) w) (k : κ) : ∀ (l : List MapEntry) (ks : List κ) (i : Nat) (w : World), l.map (·.key) = ks.map ek → (Instr.findAsking t (ek k) l i).run P w = .ok (hitAt k ks l i) w
  | [], [], i, w, _ => rfl
  | [], _ :: _, i, w, e => by simp at e
  | _ :: _, [], i, w, e => by simp at e
  | x :: l, k' :: ks, i, w, e => by
    simp only [List.map_cons, List.cons.injEq] at e
    unfold Instr.findAsking hitAt
    rw [e.1]
    simp only [Sem.run_bind, he, Result.andThen_ok]
    by_cases c : k' = k
    · simp [c]
    · simp only [decide_eq_false c, Bool.false_eq_true, if_false, if_neg c]
      exact findAsking_hit he k l ks (i + 1) w e.2
theorem KeyT.struct {t : TypeId} {fs : Array Field} (ht : P.underlying t = some (.struct fs)) (hc : ∀ (e : Bool) (k : κ) (w : World), (Instr.checkKey e 10000 t (ek k)).run P w = .ok () w) (he : ∀ (k k' : κ) (w : World), (Op.equal t (ek k) (ek k')).run P w = .ok (decide (k' = k)) w) (hs : ∀ k, Instr.sameBits 10000 (ek k) (ek k) = true) : KeyT P t ek where
  check := hc
  find := fun k l ks w e => by
    have h := findAsking_hit he k l ks 0 w e
    unfold Instr.findKey
    simp only [Sem.run_bind, run_underlying ht, Result.andThen_ok]
    cases l with
    | nil => cases ks <;> simp [Instr.findNow, hitAt] at e ⊢
    | cons x l => simpa [Instr.findNow, Instr.sameNow] using h
  same := hs
omit [DecidableEq κ] in
theorem hitAt_fst [DecidableEq κ] (k : κ) : ∀ (ks : List κ) (l l' : List MapEntry) (i : Nat), l.length = l'.length → (hitAt k ks l i).map (·.1) = (hitAt k ks l' i).map (·.1)
  | [], l, l', i, e => by cases l <;> cases l' <;> simp [hitAt]
  | k' :: ks, [], l', i, e => by cases l' <;> simp [hitAt] at e ⊢
  | k' :: ks, x :: l, [], i, e => by simp at e
  | k' :: ks, x :: l, y :: l', i, e => by
    simp only [hitAt]
    by_cases c : k' = k
    · simp [c]
    · simp only [if_neg c]
      exact hitAt_fst k ks l l' (i + 1) (by simpa using e)
theorem hitAt_val (k : κ) : ∀ (ks : List κ) (l : List MapEntry) (i j : Nat) (v : Value), hitAt k ks l i = some (j, v) → ∃ e, l[j - i]? = some e ∧ e.val = v ∧ i ≤ j
  | [], l, i, j, v, h => by cases l <;> simp [hitAt] at h
  | k' :: ks, [], i, j, v, h => by simp [hitAt] at h
  | k' :: ks, x :: l, i, j, v, h => by
    simp only [hitAt] at h
    by_cases c : k' = k
    · rw [if_pos c] at h
      simp only [Option.some.injEq, Prod.mk.injEq] at h
      obtain ⟨rfl, rfl⟩ := h
      exact ⟨x, by simp, rfl, Nat.le_refl _⟩
    · rw [if_neg c] at h
      obtain ⟨e, h1, h2, h3⟩ := hitAt_val k ks l (i + 1) j v h
      refine ⟨e, ?_, h2, by omega⟩
      rw [show j - i = (j - (i + 1)) + 1 by omega]
      simpa using h1
/-- The entry that was told stands in the map. -/
def EntryIs (ek : κ → Value) (ev : ν → Value) (w : World) (b : Nat) (L : List (κ × ν)) (k : κ) (st : Int) : Prop :=
  ∃ (es : Array MapEntry) (clock : Nat) (j : Nat) (e : MapEntry) (v : Value), w.heap[b]? = some (.map es clock) ∧ es.toList.map (·.key) = L.map (fun p => ek p.1) ∧ es.toList.map (·.val) = L.map (fun p => ev p.2) ∧ (∀ e ∈ es.toList, e.born < clock) ∧ es.toList.Pairwise (fun x y => x.born ≠ y.born) ∧ hitAt k (L.map (·.1)) es.toList 0 = some (j, v) ∧ es[j]? = some e ∧ (e.born : Int) = st
theorem EntryIs.move {k : κ} {st : Int} (h : EntryIs ek ev w b L k st) (e : w'.heap[b]? = w.heap[b]?) : EntryIs ek ev w' b L k st := by
  obtain ⟨es, clock, j, x, v, hb, r⟩ := h
  exact ⟨es, clock, j, x, v, e.trans hb, r⟩
theorem EntryIs.map {k : κ} {st : Int} (h : EntryIs ek ev w b L k st) : MapIs ek ev w b L := by
  obtain ⟨es, clock, j, x, v, hb, hk, hv, hbn, hpw, _⟩ := h
  exact ⟨es, clock, hb, hk, hv, hbn, hpw⟩
theorem hitAt_end (k : κ) (x : MapEntry) : ∀ (ks : List κ) (l : List MapEntry) (i : Nat), l.length = ks.length → hitAt k ks l i = none → hitAt k (ks ++ [k]) (l ++ [x]) i = some (i + l.length, x.val)
  | [], [], i, e, h => by simp [hitAt]
  | [], _ :: _, i, e, h => by simp at e
  | _ :: _, [], i, e, h => by simp at e
  | k' :: ks, y :: l, i, e, h => by
    simp only [List.cons_append, hitAt] at h ⊢
    by_cases c : k' = k
    · rw [if_pos c] at h; cases h
    · rw [if_neg c] at h ⊢
      rw [hitAt_end k x ks l (i + 1) (by simpa using e) h]
      simp; omega
theorem aput_id (k : κ) (v : ν) : ∀ (L : List (κ × ν)), aget L k = some v → aput L k v = L
  | [], h => by simp [aget] at h
  | p :: r, h => by
    unfold aget at h
    unfold aput
    by_cases c : p.1 = k
    · rw [if_pos c] at h
      cases p
      simp_all
    · rw [if_neg c] at h ⊢
      rw [aput_id k v r h]
theorem MapIs.entry {mt kt vt : TypeId} (h : MapIs ek ev w b L) (K : KeyT P kt ek) (ht : P.underlying mt = some (.map kt vt)) {z : ν} (hz : ∀ w, (zeroValue vt).run P w = .ok (ev z) w) (k : κ) : ∃ w' st, (Instr.mapEntry mt (.map (some b)) (ek k)).run P w = .ok (.tuple #[ev ((aget L k).getD z), .int .i64 st]) w' ∧ EntryIs ek ev w' b (aput L k ((aget L k).getD z)) k st ∧ w.grownBy w' (some b) ∧ w'.heap.size = w.heap.size := by
  obtain ⟨es, clock, hb, hk, hv, hbn, hpw⟩ := h
  have hlt : b < w.heap.size := (Array.getElem?_eq_some_iff.1 hb).1
  have hlen : es.toList.length = L.length := by have := congrArg List.length hk; simpa using this
  have hf := K.find k es.toList (L.map (·.1)) w (by rw [hk, List.map_map]; rfl)
  have hg := hitAt_get (ev := ev) k L es.toList 0 hv
  have hset : ∀ o : Obj, (w.heap.setIfInBounds b o)[b]? = some o := fun o => by simp [Array.getElem?_setIfInBounds, hlt]
  cases hh : hitAt k (L.map (·.1)) es.toList 0 with
  | none =>
    rw [hh] at hf hg
    have ha : aget L k = none := by cases ha : aget L k <;> simp [ha] at hg ⊢
    have hput := hitAt_none k L _ 0 hlen hh z
    refine ⟨_, clock, ?_, ⟨es.push { key := ek k, val := ev z, born := clock }, clock + 1, es.toList.length, { key := ek k, val := ev z, born := clock }, ev z, hset _, ?_, ?_, ?_, ?_, ?_, ?_, rfl⟩, grown_set w b _, by simp⟩
    · unfold Instr.mapEntry
      simp only [Sem.run_bind, run_underlying ht, Result.andThen_ok, MapKept.run_getObj_map hb, K.check, hf, hz, MapKept.run_setObj_map _ hb, ha, Option.getD_none]
      rfl
    · rw [ha, Option.getD_none, hput]; simp [hk]
    · rw [ha, Option.getD_none, hput]; simp [hv]
    · intro e he
      simp at he
      rcases he with he | rfl
      · have := hbn e (by simpa using he); omega
      · simp
    · rw [Array.toList_push, List.pairwise_append]
      refine ⟨hpw, by simp, fun x hx y hy => ?_⟩
      simp at hy
      subst hy
      have := hbn x hx
      show x.born ≠ clock
      omega
    · rw [ha, Option.getD_none, hput, Array.toList_push, List.map_append]
      have := hitAt_end k { key := ek k, val := ev z, born := clock } (L.map (·.1)) es.toList 0 (by simpa using hlen) hh
      simpa using this
    · simp
  | some r =>
    obtain ⟨j, u⟩ := r
    obtain ⟨n, e, hj, hn, hek, hm⟩ := hitAt_some (ev := ev) k L es.toList 0 j u hk hv hh
    obtain rfl : j = n := by omega
    rw [hh] at hf hg
    obtain ⟨v0, ha⟩ : ∃ v0, aget L k = some v0 := by
      cases ha : aget L k with
      | none => simp [ha] at hg
      | some v0 => exact ⟨v0, rfl⟩
    have hu : u = ev v0 := by simpa [ha] using hg
    have hn' : es[j]? = some e := by simpa using hn
    have hev : e.val = ev v0 := by
      have h1 := hitAt_val k (L.map (·.1)) es.toList 0 j u hh
      obtain ⟨e2, h2, h3, _⟩ := h1
      rw [Nat.sub_zero] at h2
      rw [h2] at hn
      cases hn
      rw [h3, hu]
    have hm2 := hm (fun e => { e with key := ek k }) v0 rfl hev
    refine ⟨_, e.born, ?_, ⟨es.modify j (fun e => { e with key := ek k }), clock, j, { e with key := ek k }, u, hset _, ?_, ?_, ?_, ?_, ?_, ?_, rfl⟩, grown_set w b _, by simp⟩
    · unfold Instr.mapEntry
      simp only [Sem.run_bind, run_underlying ht, Result.andThen_ok, MapKept.run_getObj_map hb, K.check, hf, hn', Option.map_some, Option.getD_some, hek, Instr.keyThatStays, K.same, if_true, Sem.run_pure, MapKept.run_setObj_map _ hb, ha, hu]
      rfl
    · rw [ha, Option.getD_some]; simpa using hm2.1
    · rw [ha, Option.getD_some]; simpa using hm2.2
    · intro x hx
      obtain ⟨y, hy, hb2⟩ := mem_modify (f := fun e => { e with key := ek k }) (n := j) (l := es.toList) (fun _ => rfl) (by simpa using hx)
      rw [hb2]
      exact hbn y hy
    · have := pairwise_modify hpw j (fun e => { e with key := ek k }) (fun _ => rfl)
      simpa using this
    · rw [ha, Option.getD_some, aput_id k v0 L ha]
      have h1 := hitAt_fst k (L.map (·.1)) es.toList (es.modify j (fun e => { e with key := ek k })).toList 0 (by simp)
      rw [hh] at h1
      cases h2 : hitAt k (L.map (·.1)) (es.modify j (fun e => { e with key := ek k })).toList 0 with
      | none => rw [h2] at h1; cases h1
      | some r =>
        obtain ⟨j2, u2⟩ := r
        rw [h2] at h1
        obtain rfl : j = j2 := Option.some.inj h1
        obtain ⟨e2, h3, h4, _⟩ := hitAt_val k _ _ 0 j u2 h2
        rw [Nat.sub_zero] at h3
        have h5 : (es.modify j (fun e => { e with key := ek k })).toList[j]? = some { e with key := ek k } := by simp [hn']
        rw [h5] at h3
        cases h3
        rw [← h4, hu, ← hev]
    · rw [Array.getElem?_modify, if_pos rfl, hn']
      rfl
theorem pairwise_at {l : List MapEntry} (h : l.Pairwise (fun x y => x.born ≠ y.born)) {i j : Nat} {x y : MapEntry} (hi : l[i]? = some x) (hj : l[j]? = some y) (e : x.born = y.born) : i = j := by
  have hn : (l.map (·.born)).Nodup := List.pairwise_map.2 h
  have h1 : (l.map (·.born))[i]? = some x.born := by simp [hi]
  have h2 : (l.map (·.born))[j]? = some x.born := by simp [hj, e]
  have hil := (List.getElem?_eq_some_iff.1 h1).1
  exact (List.getElem?_inj hil hn).1 (h1.trans h2.symm)
theorem EntryIs.store {mt : TypeId} {k : κ} {st : Int} (h : EntryIs ek ev w b L k st) (u : ν) : ∃ w', (Instr.entryStore mt (.map (some b)) (.int .i64 st) (ev u)).run P w = .ok () w' ∧ MapIs ek ev w' b (aput L k u) ∧ w.grownBy w' (some b) ∧ w'.heap.size = w.heap.size := by
  obtain ⟨es, clock, j, e, v, hb, hk, hv, hbn, hpw, hh, hn', hst⟩ := h
  have hlt : b < w.heap.size := (Array.getElem?_eq_some_iff.1 hb).1
  obtain ⟨n, e2, hj, hn, hek, hm⟩ := hitAt_some (ev := ev) k L es.toList 0 j v hk hv hh
  obtain rfl : j = n := by omega
  have hn2 : es.toList[j]? = some e := by simpa using hn'
  rw [hn2] at hn
  cases hn
  have hset : ∀ o : Obj, (w.heap.setIfInBounds b o)[b]? = some o := fun o => by simp [Array.getElem?_setIfInBounds, hlt]
  have hi : es.findIdx? (fun e => (e.born : Int) == st) = some j := by
    rw [Array.findIdx?_eq_some_iff_getElem]
    have hjl := (Array.getElem?_eq_some_iff.1 hn').1
    have hje := (Array.getElem?_eq_some_iff.1 hn').2
    refine ⟨hjl, by simp [hje, hst], fun i hi => ?_⟩
    have hil : i < es.size := by omega
    have h1 : es.toList[i]? = some es[i] := by simp
    have := fun q => pairwise_at hpw h1 hn2 q
    intro hb2
    have h3 : (es[i].born : Int) = st := by simpa using hb2
    have := this (by omega)
    omega
  have hm2 := hm (fun e => { e with val := ev u }) u hek rfl
  refine ⟨_, ?_, ⟨es.modify j (fun e => { e with val := ev u }), clock, hset _, ?_, ?_, ?_, ?_⟩, grown_set w b _, by simp⟩
  · unfold Instr.entryStore
    simp only [Sem.run_bind, MapKept.run_getObj_map hb, Result.andThen_ok, asInt, asIntOf, Sem.run_pure, hi, MapKept.run_setObj_map _ hb]
  · simpa using hm2.1
  · simpa using hm2.2
  · intro x hx
    obtain ⟨y, hy, hb2⟩ := mem_modify (f := fun e => { e with val := ev u }) (n := j) (l := es.toList) (fun _ => rfl) (by simpa using hx)
    rw [hb2]
    exact hbn y hy
  · have := pairwise_modify hpw j (fun e => { e with val := ev u }) (fun _ => rfl)
    simpa using this
/-! Small words for the steps of a region that draws its order. -/
omit [DecidableEq κ] in
theorem MapIs.heap (h : MapIs ek ev w b L) (e : w'.heap = w.heap) : MapIs ek ev w' b L := h.move (by rw [e])
theorem exec_update {o : Oper} {ρ : Operand → Value} {w1 w2 : World} {mt : TypeId} {m x y : Operand} {mv kv v : Value} (hop : o.op = .mapUpdate mt m x y) (hm : ρ m = mv) (hx : ρ x = kv) (hy : ρ y = v) (h : (Instr.mapUpdate mt mv kv v).run P w1 = .ok () w2) : (execOp ρ o).run P w1 = .ok .skip w2 := by
  simp only [execOp, hop, hm, hx, hy, Sem.run_bind, h, Result.andThen_ok, Sem.run_pure]
theorem cell_heap {w1 w2 : World} (e : w2.heap = w1.heap) {a : Addr} : w2.cell? a = w1.cell? a := by
  unfold World.cell?
  rw [e]
theorem nameW {c : Code} {Q : Exit → Act → World → Prop} {a : Act} {w1 : World} (h : ∀ W, w1 = W → c.wp P Q a W) : c.wp P Q a w1 := h w1 rfl
end
end Go.Proofs.YtoppdlideonjjaaW.PrintLast
end
section
-- Written by mprint.py (a program of this session) over the kit's print.
namespace Go.Proofs.Ytoppdlideonjjaa.M
open Go.RowKit Go.Proofs.YtoppdlideonjjaaW.PrintWords Go.Proofs.YtoppdlideonjjaaW.PrintLast Go.Proofs.YtoppdlideonjjaaW.PrintMore
attribute [local go_sem] max2_int min2_int max_two min_two max_three min_three max_four min_four   -- for this text's walks alone
set_option linter.unusedVariables false
set_option linter.unusedSimpArgs false

/-! ### items_duplicate: function 42 -/
def items_duplicate.f (a0_0 : ByteArray) (a0_1 : ByteArray) (a0_2 : Int) (a0_3 : Int) (l0_4 : List (S61)) : Option (ByteArray × ByteArray × Int × Int × (List (S61))) := (api_Unit_61.f l0_4).bind fun t103 => (some (a0_0, a0_1, a0_2, a0_3, t103))
set_option maxHeartbeats 8000000 in
set_option maxRecDepth 100000 in
theorem items_duplicate.calls (a0_0 : ByteArray) (a0_1 : ByteArray) (a0_2 : Int) (a0_3 : Int) (A0_4 : Option Addr) (c0_4 : Nat) (l0_4 : List (S61)) (r1 : ByteArray) (r2 : ByteArray) (r3 : Int) (r4 : Int) (r5 : List (S61)) (w : World) (hr0_4 : Kd.C k61 w A0_4 l0_4.length l0_4) (hc0_4 : l0_4.length ≤ c0_4) (h : items_duplicate.f a0_0 a0_1 a0_2 a0_3 l0_4 = some (r1, r2, r3, r4, r5)) :
    Calls Try.prog 42 #[.agg #[.string a0_0, .string a0_1, .int .i64 a0_2, .int .i64 a0_3, .slice A0_4 l0_4.length c0_4]] w fun e w' => ∃ v4_ : Value, e = .returned (.agg #[.string r1, .string r2, .int .i64 r3, .int .i64 r4, v4_]) ∧ Kd.R k61 61 w' w.heap.size (fun _ => True) v4_ r5 ∧ Below w.heap.size w w' := by
 have hu24 := Try.underlying24
 have hu22 := Try.underlying22
 have HR0_4 := Aside0.mk hr0_4
 have HC0_4 := Aside0.mk hc0_4
 clear hr0_4 hc0_4
 have HB := Aside0.mk (Below.refl w.heap.size w)
 have H : ((api_Unit_61.f l0_4).bind fun t103 => (some (a0_0, a0_1, a0_2, a0_3, t103))) = some (r1, r2, r3, r4, r5) := h
 clear h
 replace H := Option.bind_eq_some_iff.mp H
 obtain ⟨t103, A20, H⟩ := H
 replace H : (some (a0_0, a0_1, a0_2, a0_3, t103)) = some (r1, r2, r3, r4, r5) := H
 have A2 := Aside0.mk A20
 clear A20
 simp only [Option.some.injEq, Prod.mk.injEq] at H
 obtain ⟨rfl, rfl, rfl, rfl, rfl⟩ := H
 go_enter Try.func42, Try.ntmps42
 go_wp2_with (first | ((with_reducible refine gate_dst (N := 1) rfl ?_); refine box_event ?hg (N := 1) ?hd (cs := #[.string a0_0, .string a0_1, .int .i64 a0_2, .int .i64 a0_3, .slice A0_4 l0_4.length c0_4]) (t := 24) ?hr ?_; (case hd => rfl); (case hg => rfl); (case hr => first | (go_simp; done) | (go_simp; rfl)); intro gb101 hg w3 hbox hb; have n0_ := Aside0.mk (below_step (by repeat (first | (with_reducible first | exact HB.out | apply below_alloc | apply pw_below_drewN | apply below_drew1) | exact HB.out)) hb); have n1_ := Aside0.mk (hbox); have n2_ := Aside0.mk ((by rw [hg]; exact (below_size (by repeat (first | (with_reducible first | exact HB.out | apply below_alloc | apply pw_below_drewN | apply below_drew1) | exact HB.out))) : w.heap.size ≤ gb101)); have n3_ := Aside0.mk ((by rw [hg]; exact (below_size (by repeat (first | (with_reducible first | exact HB.out | apply below_alloc | apply pw_below_drewN | apply below_drew1) | exact HB.out))) : w.heap.size ≤ gb101)); clear HB; have HB := n0_; have BK101 := n1_; have GW101 := n2_; have GE101 := n3_; clear n0_ n1_ n2_ n3_; clear hb hbox hg) | ((with_reducible refine gate_dst (N := 2) rfl ?_); refine box_event ?hg (N := 2) ?hd (cs := #[.string (⟨#[]⟩ : ByteArray), .string (⟨#[]⟩ : ByteArray), .int .i64 0, .int .i64 0, .slice none 0 0]) (t := 24) ?hr ?_; (case hd => rfl); (case hg => rfl); (case hr => first | (go_simp; done) | (go_simp; rfl)); intro gb102 hg w4 hbox hb; have n0_ := Aside0.mk (blk_below (g := gb101) (o := .cells #[.string a0_0, .string a0_1, .int .i64 a0_2, .int .i64 a0_3, .slice A0_4 l0_4.length c0_4] 24 (0, 0)) (by (with_reducible repeat (first | refine blk_drewN ?_ _ | refine blk_drew ?_ | refine blk_alloc ?_ _)); exact BK101.out) hb); have n1_ := Aside0.mk (below_step (by repeat (first | (with_reducible first | exact HB.out | apply below_alloc | apply pw_below_drewN | apply below_drew1 | refine below_set ?_ GE101.out) | exact HB.out)) hb); have n2_ := Aside0.mk (hbox); have n3_ := Aside0.mk ((by rw [hg]; exact (below_size (by repeat (first | (with_reducible first | exact HB.out | apply below_alloc | apply pw_below_drewN | apply below_drew1 | refine below_set ?_ GE101.out) | exact HB.out))) : w.heap.size ≤ gb102)); have n4_ := Aside0.mk ((by rw [hg]; exact (below_size (by repeat (first | (with_reducible first | exact HB.out | apply below_alloc | apply pw_below_drewN | apply below_drew1 | refine below_set ?_ GE101.out) | exact HB.out))) : w.heap.size ≤ gb102)); have n5_ := Aside0.mk ((by rw [hg]; exact Nat.ne_of_lt (blk_lt (g := gb101) (o := .cells #[.string a0_0, .string a0_1, .int .i64 a0_2, .int .i64 a0_3, .slice A0_4 l0_4.length c0_4] 24 (0, 0)) (by (with_reducible repeat (first | refine blk_drewN ?_ _ | refine blk_drew ?_ | refine blk_alloc ?_ _)); exact BK101.out)) : gb101 ≠ gb102)); have n6_ := Aside0.mk ((by rw [hg]; exact Nat.ne_of_gt (blk_lt (g := gb101) (o := .cells #[.string a0_0, .string a0_1, .int .i64 a0_2, .int .i64 a0_3, .slice A0_4 l0_4.length c0_4] 24 (0, 0)) (by (with_reducible repeat (first | refine blk_drewN ?_ _ | refine blk_drew ?_ | refine blk_alloc ?_ _)); exact BK101.out)) : gb102 ≠ gb101)); clear BK101; clear HB; have BK101 := n0_; have HB := n1_; have BK102 := n2_; have GW102 := n3_; have GE102 := n4_; have NB101_102 := n5_; have NB102_101 := n6_; clear n0_ n1_ n2_ n3_ n4_ n5_ n6_; clear hb hbox hg; have hnb5 := NB101_102.out; have hnc5 := NB102_101.out; have hcz6_0 : w4.cell? ⟨gb101, 0, none⟩ = some (.string a0_0) := (blk_cell BK101.out 0).trans rfl; have hcz6_1 : w4.cell? ⟨gb101, 1, none⟩ = some (.string a0_1) := (blk_cell BK101.out 1).trans rfl; have hcz6_2 : w4.cell? ⟨gb101, 2, none⟩ = some (.int .i64 a0_2) := (blk_cell BK101.out 2).trans rfl; have hcz6_3 : w4.cell? ⟨gb101, 3, none⟩ = some (.int .i64 a0_3) := (blk_cell BK101.out 3).trans rfl; have hcz6_4 : w4.cell? ⟨gb101, 4, none⟩ = some (.slice A0_4 l0_4.length c0_4) := (blk_cell BK101.out 4).trans rfl; have hfz6_0 := blk_frozen BK101.out 0; have hfz6_1 := blk_frozen BK101.out 1; have hfz6_2 := blk_frozen BK101.out 2; have hfz6_3 := blk_frozen BK101.out 3; have hfz6_4 := blk_frozen BK101.out 4) | ((with_reducible refine gate_callee (f := 61) rfl ?_); refine goesL_ (some 5) rfl rfl Try.func61 (by kernel_rfl) rfl #[.slice A0_4 l0_4.length c0_4] rfl (by (try simp only [List.map_toArray, List.map_cons, List.map_nil]); first | done | rfl | (simp only [List.length_drop, List.length_take]; rfl)) ?_; (with_reducible refine (api_Unit_61.calls _ _ l0_4 t103 _ ?side1 ?side2 A2.out).mono ?_); (case side1 => repeat (first | exact (Kd.C_below HR0_4.out HB.out) | (with_reducible refine Kd.C_alloc ?_ _) | (with_reducible refine Kd.C_drewN ?_ _) | (with_reducible refine Kd.C_drew ?_))); (case side2 => exact HC0_4.out); rintro e w7 ⟨v104, rfl, ho0, hb⟩; refine ⟨_, rfl, ?_⟩; have n0_ := Aside0.mk (Kd.R_lower ho0 (below_size (by repeat (first | (with_reducible first | exact HB.out | apply below_alloc | apply pw_below_drewN | apply below_drew1 | refine below_set ?_ GE101.out | refine below_set ?_ GE102.out) | exact HB.out)))); have n1_ := Aside0.mk (blk_below (g := gb101) (o := .cells #[.string a0_0, .string a0_1, .int .i64 a0_2, .int .i64 a0_3, .slice A0_4 l0_4.length c0_4] 24 (0, 0)) (by (with_reducible repeat (first | refine blk_drewN ?_ _ | refine blk_drew ?_ | refine blk_alloc ?_ _)); exact BK101.out) hb); have n2_ := Aside0.mk (blk_below (g := gb102) (o := .cells #[.string (⟨#[]⟩ : ByteArray), .string (⟨#[]⟩ : ByteArray), .int .i64 0, .int .i64 0, .slice none 0 0] 24 (0, 0)) (by (with_reducible repeat (first | refine blk_drewN ?_ _ | refine blk_drew ?_ | refine blk_alloc ?_ _)); exact BK102.out) hb); have n3_ := Aside0.mk (below_step (by repeat (first | (with_reducible first | exact HB.out | apply below_alloc | apply pw_below_drewN | apply below_drew1 | refine below_set ?_ GE101.out | refine below_set ?_ GE102.out) | exact HB.out)) hb); clear BK101; clear BK102; clear HB; have HO105 := n0_; have BK101 := n1_; have BK102 := n2_; have HB := n3_; clear n0_ n1_ n2_ n3_; (try clear hb); (try clear hb2); (try clear hk); (try clear hi); (try clear ho0); obtain ⟨Ao8, co8, eo8⟩ := Kd.R_slice HO105.out; subst eo8; have hcz9_0 : w7.cell? ⟨gb101, 0, none⟩ = some (.string a0_0) := (blk_cell BK101.out 0).trans rfl; have hcz9_1 : w7.cell? ⟨gb101, 1, none⟩ = some (.string a0_1) := (blk_cell BK101.out 1).trans rfl; have hcz9_2 : w7.cell? ⟨gb101, 2, none⟩ = some (.int .i64 a0_2) := (blk_cell BK101.out 2).trans rfl; have hcz9_3 : w7.cell? ⟨gb101, 3, none⟩ = some (.int .i64 a0_3) := (blk_cell BK101.out 3).trans rfl; have hcz9_4 : w7.cell? ⟨gb101, 4, none⟩ = some (.slice A0_4 l0_4.length c0_4) := (blk_cell BK101.out 4).trans rfl; have hfz9_0 := blk_frozen BK101.out 0; have hfz9_1 := blk_frozen BK101.out 1; have hfz9_2 := blk_frozen BK101.out 2; have hfz9_3 := blk_frozen BK101.out 3; have hfz9_4 := blk_frozen BK101.out 4; have hcz10_0 : w7.cell? ⟨gb102, 0, none⟩ = some (.string (⟨#[]⟩ : ByteArray)) := (blk_cell BK102.out 0).trans rfl; have hcz10_1 : w7.cell? ⟨gb102, 1, none⟩ = some (.string (⟨#[]⟩ : ByteArray)) := (blk_cell BK102.out 1).trans rfl; have hcz10_2 : w7.cell? ⟨gb102, 2, none⟩ = some (.int .i64 0) := (blk_cell BK102.out 2).trans rfl; have hcz10_3 : w7.cell? ⟨gb102, 3, none⟩ = some (.int .i64 0) := (blk_cell BK102.out 3).trans rfl; have hcz10_4 : w7.cell? ⟨gb102, 4, none⟩ = some (.slice none 0 0) := (blk_cell BK102.out 4).trans rfl; have hfz10_0 := blk_frozen BK102.out 0; have hfz10_1 := blk_frozen BK102.out 1; have hfz10_2 := blk_frozen BK102.out 2; have hfz10_3 := blk_frozen BK102.out 3; have hfz10_4 := blk_frozen BK102.out 4))
 refine bodyPost_ret (results_cell_row rfl _ _ gb102 24 #[.string a0_0, .string a0_1, .int .i64 a0_2, .int .i64 a0_3, .slice Ao8 t103.length co8] (0, 0) _ rfl (by (with_reducible repeat (first | refine blk_drewN ?_ _ | refine blk_drew ?_ | refine blk_alloc ?_ _)); refine blk_put (cs := #[.string a0_0, .string a0_1, .int .i64 a0_2, .int .i64 a0_3, .slice none 0 0]) ?_ 4 _ rfl; (with_reducible repeat (first | refine blk_drewN ?_ _ | refine blk_drew ?_ | refine blk_alloc ?_ _)); refine blk_put (cs := #[.string a0_0, .string a0_1, .int .i64 a0_2, .int .i64 0, .slice none 0 0]) ?_ 3 _ rfl; (with_reducible repeat (first | refine blk_drewN ?_ _ | refine blk_drew ?_ | refine blk_alloc ?_ _)); refine blk_put (cs := #[.string a0_0, .string a0_1, .int .i64 0, .int .i64 0, .slice none 0 0]) ?_ 2 _ rfl; (with_reducible repeat (first | refine blk_drewN ?_ _ | refine blk_drew ?_ | refine blk_alloc ?_ _)); refine blk_put (cs := #[.string a0_0, .string (⟨#[]⟩ : ByteArray), .int .i64 0, .int .i64 0, .slice none 0 0]) ?_ 1 _ rfl; (with_reducible repeat (first | refine blk_drewN ?_ _ | refine blk_drew ?_ | refine blk_alloc ?_ _)); refine blk_put (cs := #[.string (⟨#[]⟩ : ByteArray), .string (⟨#[]⟩ : ByteArray), .int .i64 0, .int .i64 0, .slice none 0 0]) ?_ 0 _ rfl; (with_reducible repeat (first | refine blk_drewN ?_ _ | refine blk_drew ?_ | refine blk_alloc ?_ _)); refine blk_far ?_ NB102_101.out _; (with_reducible repeat (first | refine blk_drewN ?_ _ | refine blk_drew ?_ | refine blk_alloc ?_ _)); exact BK102.out) Try.underlying24 rfl (by kernel_rfl)) rfl ?_
 exact ⟨_, by first | rfl | (simp [errW_none, errW_some] <;> rfl) | (simp [*, errW_none, errW_some] <;> rfl), by (with_reducible repeat (first | apply Kd.R_alloc | apply Kd.R_drewN | apply Kd.R_drew)); exact Kd.R_mono (Kd.R_far (p := ⟨gb102, 4, none⟩) (Kd.R_far (p := ⟨gb102, 3, none⟩) (Kd.R_far (p := ⟨gb102, 2, none⟩) (Kd.R_far (p := ⟨gb102, 1, none⟩) (Kd.R_far (p := ⟨gb102, 0, none⟩) (Kd.R_far (p := ⟨gb101, 4, none⟩) (Kd.R_types (Kd.R_types HO105.out BK101.out (by decide)) BK102.out (by decide)) (fun _ hk => hk.1.2) (.slice Ao8 t103.length co8)) (fun _ hk => hk.2) (.string a0_0)) (fun _ hk => hk.2) (.string a0_1)) (fun _ hk => hk.2) (.int .i64 a0_2)) (fun _ hk => hk.2) (.int .i64 a0_3)) (fun _ hk => hk.2) (.slice Ao8 t103.length co8)) (fun _ hk => trivial), by repeat (first | (with_reducible first | exact HB.out | apply below_alloc | apply pw_below_drewN | apply below_drew1 | refine below_set ?_ GE101.out | refine below_set ?_ GE102.out) | exact HB.out)⟩

end Go.Proofs.Ytoppdlideonjjaa.M
end
section
/- A list of products: the map behind it; put, get, Len. -/
namespace Go.Proofs.Ytoppdlideonjjaa.M
open Go.RowKit Go.Proofs.YtoppdlideonjjaaW.PrintWords Go.Proofs.YtoppdlideonjjaaW.PrintLast Go.Proofs.YtoppdlideonjjaaW.PrintMore
attribute [local go_sem] max2_int min2_int max_two min_two max_three min_three max_four min_four
set_option linter.unusedVariables false
set_option linter.unusedSimpArgs false
abbrev Pr := S24
abbrev kPr : Kd Pr := k24
/-- An entry: the product, and its units' slice. -/
abbrev Ent := Pr × Value
def prV (e : Ent) : Value := .agg #[.string e.1.f0, .string e.1.f1, .int .i64 e.1.f2, .int .i64 e.1.f3, e.2]
structure MapPr (w : World) (base m : Nat) (L : List (ByteArray × Ent)) : Prop where
  lo : base ≤ m
  map : MapIs Value.string prV w m L
  own : ∀ e ∈ L, Kd.R kUn 61 w base (fun _ => True) e.2.2 e.2.1.f4
/-- Block b is a list's; behind it the map of these entries. -/
def KeyedIs (w : World) (base b : Nat) (L : List (ByteArray × Ent)) : Prop :=
  base ≤ b ∧ ((w.heap[b]? = some (.cells #[.map none] 75 (0, 0)) ∧ L = []) ∨ ∃ m, w.heap[b]? = some (.cells #[.map (some m)] 75 (0, 0)) ∧ MapPr w base m L)
theorem unR_step {w w1 : World} {base : Nat} {v : Value} {xs : List Un} (h : Kd.R kUn 61 w base (fun _ => True) v xs) (hm : ∀ k, base ≤ k → k < w.heap.size → w1.heap[k]? = w.heap[k]?) : Kd.R kUn 61 w1 base (fun _ => True) v xs :=
  Kd.R_mono (Kd.R_step (Kd.R_bound h) (fun k hk hl => hm k hk.2.1 hl)) (fun _ _ => trivial)
theorem unR_but {w w1 : World} {base b m : Nat} {v : Value} {xs : List Un} {es : Array MapEntry} {c : Nat} {cells : Array Value} (h : Kd.R kUn 61 w base (fun _ => True) v xs) (hb : w.heap[b]? = some (.cells cells 75 (0, 0))) (hme : w.heap[m]? = some (.map es c)) (hm : ∀ k, k ≠ b → k ≠ m → k < w.heap.size → w1.heap[k]? = w.heap[k]?) : Kd.R kUn 61 w1 base (fun _ => True) v xs :=
  Kd.R_mono (Kd.R_step (Kd.R_bound h) (fun k hk hl => by
    obtain ⟨_, _, _, q, hq, cells', hc⟩ := hk
    refine hm k ?_ ?_ hl
    · rintro rfl
      rw [hc] at hb
      injection hb with hb
      injection hb with _ hb
      rw [hb] at hq
      revert hq
      decide
    · rintro rfl
      rw [hc] at hme
      cases hme)) (fun _ _ => trivial)
theorem unR_far {w w1 : World} {base b : Nat} {v : Value} {xs : List Un} {cells : Array Value} (h : Kd.R kUn 61 w base (fun _ => True) v xs) (hb : w.heap[b]? = some (.cells cells 75 (0, 0))) (hm : ∀ k, k ≠ b → k < w.heap.size → w1.heap[k]? = w.heap[k]?) : Kd.R kUn 61 w1 base (fun _ => True) v xs :=
  Kd.R_mono (Kd.R_step (Kd.R_bound h) (fun k hk hl => by
    obtain ⟨_, _, _, q, hq, cells', hc⟩ := hk
    refine hm k ?_ hl
    rintro rfl
    rw [hc] at hb
    injection hb with hb
    injection hb with _ hb
    rw [hb] at hq
    revert hq
    decide)) (fun _ _ => trivial)
theorem KeyedIs.step {w w1 : World} {base b : Nat} {L : List (ByteArray × Ent)} (h : KeyedIs w base b L) (hm : ∀ k, base ≤ k → k < w.heap.size → w1.heap[k]? = w.heap[k]?) : KeyedIs w1 base b L := by
  obtain ⟨hb, h⟩ := h
  refine ⟨hb, ?_⟩
  rcases h with ⟨h1, h2⟩ | ⟨m, h1, h2⟩
  · exact .inl ⟨(hm b hb (blk_lt h1)).trans h1, h2⟩
  · exact .inr ⟨m, (hm b hb (blk_lt h1)).trans h1, h2.lo, h2.map.move (hm m h2.lo h2.map.lt), fun e he => unR_step (h2.own e he) hm⟩
theorem KeyedIs.below {w w1 : World} {base b : Nat} {L : List (ByteArray × Ent)} (h : KeyedIs w base b L) (hb : Below w.heap.size w w1) : KeyedIs w1 base b L := h.step (fun k _ hk => hb.block k hk)
abbrev zPr : Value := .agg #[.string ⟨#[]⟩, .string ⟨#[]⟩, .int .i64 0, .int .i64 0, .slice none 0 0]
theorem zero_pr (w : World) : (zeroValue 24).run Try.prog w = .ok zPr w := by kernel_rfl
theorem mem_of_aget {κ ν : Type} [DecidableEq κ] : ∀ (L : List (κ × ν)) (k : κ) (u : ν), aget L k = some u → (k, u) ∈ L
  | [], k, u, h => by cases h
  | p :: L, k, u, h => by
    unfold aget at h
    by_cases c : p.1 = k
    · rw [if_pos c] at h
      injection h with h
      rw [← c, ← h]
      exact List.mem_cons_self
    · rw [if_neg c] at h
      exact List.mem_cons_of_mem _ (mem_of_aget L k u h)
theorem aput_none {κ ν : Type} [DecidableEq κ] : ∀ (L : List (κ × ν)) (k : κ) (u : ν), aget L k = none → aput L k u = L ++ [(k, u)]
  | [], k, u, h => rfl
  | p :: L, k, u, h => by
    unfold aget at h
    by_cases c : p.1 = k
    · rw [if_pos c] at h; cases h
    · rw [if_neg c] at h
      simp [aput, c, aput_none L k u h]
abbrev zC : Array Value := #[.string ⟨#[]⟩, .string ⟨#[]⟩, .int .i64 0, .int .i64 0, .slice none 0 0]
set_option maxHeartbeats 4000000 in
set_option maxRecDepth 100000 in
/-- get, of a map that is there. -/
theorem keyed_get.calls (code : ByteArray) (L : List (ByteArray × Ent)) (base b : Nat) (w : World) (HK : KeyedIs w base b L) :
    Calls Try.prog 43 #[.pointer (some ⟨b, 0, none⟩), .string code] w fun e w' => e = .returned (.tuple #[((aget L code).map prV).getD zPr, .bool (aget L code).isSome]) ∧ Below w.heap.size w w' := by
  obtain ⟨hb, HK⟩ := HK
  rcases HK with ⟨h1, rfl⟩ | ⟨m, h1, h2⟩
  · have hc := blk_cell (blk_alloc h1 (.cells #[.string ⟨#[]⟩, .string ⟨#[]⟩, .int .i64 0, .int .i64 0, .slice none 0 0] 24)) 0
    go_enter Try.func43, Try.ntmps43
    go_wp2_with (first
      | (refine nilL_ rfl rfl Try.underlying71 (KeyT.string Try.underlying9) (z := zPr) (fun w => zero_pr w) code (by first | rfl | (go_simp; done) | (go_simp; rfl)) (by first | rfl | (go_simp; done) | (go_simp; rfl)) ?_))
    refine bodyPost_ret (results_ct rfl _ _ w.heap.size 24 zC (0, 0) _ rfl (blk_new w _) Try.underlying24 rfl (by kernel_rfl)) rfl ⟨by first | rfl | (simp [aget]; done) | simp [aget, prV], below_alloc (Below.refl w.heap.size w) _⟩
  · have hc := blk_cell (blk_alloc h1 (.cells #[.string ⟨#[]⟩, .string ⟨#[]⟩, .int .i64 0, .int .i64 0, .slice none 0 0] 24)) 0
    have HM := Aside0.mk (h2.map.alloc (.cells #[.string ⟨#[]⟩, .string ⟨#[]⟩, .int .i64 0, .int .i64 0, .slice none 0 0] 24))
    cases ha : aget L code with
    | none =>
      have hv : lookV prV L code zPr true = .tuple #[zPr, .bool false] := by simp [lookV, ha]
      go_enter Try.func43, Try.ntmps43
      go_wp2_with (first
        | (refine lookL_ rfl rfl Try.underlying71 (KeyT.string Try.underlying9) (z := zPr) (fun w => zero_pr w) HM.out code (by first | rfl | (go_simp; done) | (go_simp; rfl)) (by first | rfl | (go_simp; done) | (go_simp; rfl)) ?_; rw [hv]))
      refine bodyPost_ret (results_ct rfl _ _ w.heap.size 24 zC (0, 0) _ rfl (blk_new w _) Try.underlying24 rfl (by kernel_rfl)) rfl ⟨by first | rfl | (simp [aget]; done) | simp [aget, prV], below_alloc (Below.refl w.heap.size w) _⟩
    | some e =>
      obtain ⟨x, v⟩ := e
      obtain ⟨A4, c4, hv⟩ := Kd.R_slice (h2.own _ (mem_of_aget L code _ ha))
      dsimp only at hv
      subst hv
      have hv : lookV prV L code zPr true = .tuple #[.agg #[.string x.f0, .string x.f1, .int .i64 x.f2, .int .i64 x.f3, .slice A4 x.f4.length c4], .bool true] := by simp [lookV, ha, prV]
      go_enter Try.func43, Try.ntmps43
      go_wp2_with (first
        | (refine lookL_ rfl rfl Try.underlying71 (KeyT.string Try.underlying9) (z := zPr) (fun w => zero_pr w) HM.out code (by first | rfl | (go_simp; done) | (go_simp; rfl)) (by first | rfl | (go_simp; done) | (go_simp; rfl)) ?_; rw [hv]))
      refine bodyPost_ret (results_ct rfl _ _ w.heap.size 24 #[.string x.f0, .string x.f1, .int .i64 x.f2, .int .i64 x.f3, .slice A4 x.f4.length c4] (0, 0) _ rfl (blk_new w _) Try.underlying24 rfl (by kernel_rfl)) rfl ⟨by first | rfl | (simp [aget]; done) | simp [aget, prV], below_alloc (Below.refl w.heap.size w) _⟩
set_option maxHeartbeats 4000000 in
set_option maxRecDepth 100000 in
/-- put. -/
theorem keyed_put.calls (code : ByteArray) (x : Pr) (A4 : Option Addr) (c4 : Nat) (L : List (ByteArray × Ent)) (base b : Nat) (w : World) (HK : KeyedIs w base b L) (hbase : base ≤ w.heap.size) (hv4 : Kd.R kUn 61 w base (fun _ => True) (.slice A4 x.f4.length c4) x.f4) :
    Calls Try.prog 41 #[.pointer (some ⟨b, 0, none⟩), .string code, .agg #[.string x.f0, .string x.f1, .int .i64 x.f2, .int .i64 x.f3, .slice A4 x.f4.length c4]] w fun e w' => e = .returned (.bool (aget L code).isNone) ∧ KeyedIs w' base b (if (aget L code).isSome then L else L ++ [(code, (x, .slice A4 x.f4.length c4))]) ∧ Below base w w' := by
  have hq := fun (w : World) (r : Option Nat) => run_eql_map_nil (P := Try.prog) w 71 9 24 r Try.underlying71
  have hq0 := fun w => hq w none
  have hq1 := fun w m => hq w (some m)
  simp only [Option.isNone_none] at hq0
  simp only [Option.isNone_some] at hq1
  clear hq
  have HK0 := Aside0.mk HK
  have HB2 := Aside0.mk (((Below.refl base w).alloc hbase (.cells #[.string x.f0, .string x.f1, .int .i64 x.f2, .int .i64 x.f3, .slice A4 x.f4.length c4] 24)).alloc (by simp; omega) (.cells #[.string ⟨#[]⟩, .string ⟨#[]⟩, .int .i64 0, .int .i64 0, .slice none 0 0] 24))
  have HV := Aside0.mk hv4
  clear hv4
  obtain ⟨hb, HK⟩ := HK
  rcases HK with ⟨h1, rfl⟩ | ⟨m, h1, h2⟩
  · have hc := blk_cell (blk_alloc h1 (.cells #[.string x.f0, .string x.f1, .int .i64 x.f2, .int .i64 x.f3, .slice A4 x.f4.length c4] 24)) 0
    have hc2 := blk_cell (blk_alloc (blk_alloc h1 (.cells #[.string x.f0, .string x.f1, .int .i64 x.f2, .int .i64 x.f3, .slice A4 x.f4.length c4] 24)) (.cells #[.string ⟨#[]⟩, .string ⟨#[]⟩, .int .i64 0, .int .i64 0, .slice none 0 0] 24)) 0
    have hbw := blk_lt h1
    have hs2 : Aside0 (((w.alloc (.cells #[.string x.f0, .string x.f1, .int .i64 x.f2, .int .i64 x.f3, .slice A4 x.f4.length c4] 24)).alloc (.cells #[.string ⟨#[]⟩, .string ⟨#[]⟩, .int .i64 0, .int .i64 0, .slice none 0 0] 24)).heap.size = w.heap.size + 1 + 1) := ⟨by simp⟩
    go_enter Try.func41, Try.ntmps41
    go_wp2_with (first
      | (refine nilL_ rfl rfl Try.underlying71 (KeyT.string Try.underlying9) (z := zPr) (fun w => zero_pr w) code (by first | rfl | (go_simp; done) | (go_simp; rfl)) (by first | rfl | (go_simp; done) | (go_simp; rfl)) ?_)
      | (refine makeL_ rfl rfl ?_; refine nameWL ?_; intro W3 hW3; have h3 := blk_alloc (blk_alloc (blk_alloc h1 (.cells #[.string x.f0, .string x.f1, .int .i64 x.f2, .int .i64 x.f3, .slice A4 x.f4.length c4] 24)) (.cells #[.string ⟨#[]⟩, .string ⟨#[]⟩, .int .i64 0, .int .i64 0, .slice none 0 0] 24)) (.map #[] 0); have hx3 := blk_alloc (blk_alloc (blk_new w (.cells #[.string x.f0, .string x.f1, .int .i64 x.f2, .int .i64 x.f3, .slice A4 x.f4.length c4] 24)) (.cells #[.string ⟨#[]⟩, .string ⟨#[]⟩, .int .i64 0, .int .i64 0, .slice none 0 0] 24)) (.map #[] 0); have hm3 := MapIs_made (κ := ByteArray) Value.string prV ((w.alloc (.cells #[.string x.f0, .string x.f1, .int .i64 x.f2, .int .i64 x.f3, .slice A4 x.f4.length c4] 24)).alloc (.cells #[.string ⟨#[]⟩, .string ⟨#[]⟩, .int .i64 0, .int .i64 0, .slice none 0 0] 24)); have hB3 := HB2.out.alloc (Nat.le_trans hbase HB2.out.size) (.map #[] 0); have hK3 := below_alloc (below_alloc (below_alloc (Below.refl w.heap.size w) (.cells #[.string x.f0, .string x.f1, .int .i64 x.f2, .int .i64 x.f3, .slice A4 x.f4.length c4] 24)) (.cells #[.string ⟨#[]⟩, .string ⟨#[]⟩, .int .i64 0, .int .i64 0, .slice none 0 0] 24)) (.map #[] 0); rw [hs2.out] at hm3; rw [hW3] at h3 hx3 hm3 hB3 hK3; clear hW3; have hc3 := blk_cell h3 0; have hf3 := blk_frozen h3 0; have h4 := blk_set h3 0 (.map (some (w.heap.size + 1 + 1))); have hx4 := blk_far (p := ⟨b, 0, none⟩) hx3 (by show w.heap.size ≠ b; omega) (.map (some (w.heap.size + 1 + 1))); have hc4 := (blk_cell h4 0).trans rfl; have hx4_0 := (blk_cell hx4 0).trans rfl; have hx4_1 := (blk_cell hx4 1).trans rfl; have hx4_2 := (blk_cell hx4 2).trans rfl; have hx4_3 := (blk_cell hx4 3).trans rfl; have hx4_4 := (blk_cell hx4 4).trans rfl; have HM4 := Aside0.mk (hm3.move (Below.heap_setCell W3 ⟨b, 0, none⟩ (.map (some (w.heap.size + 1 + 1))) (w.heap.size + 1 + 1) (by show w.heap.size + 1 + 1 ≠ b; omega))); have HB4 := Aside0.mk (hB3.setCell (p := ⟨b, 0, none⟩) hb (.map (some (w.heap.size + 1 + 1)))); have H4 := Aside0.mk h4; have HK4 := Aside0.mk (fun k (hne : k ≠ b) (hk : k < w.heap.size) => (Below.heap_setCell W3 ⟨b, 0, none⟩ (.map (some (w.heap.size + 1 + 1))) k hne).trans (hK3.block k hk)); clear hm3 hB3 hx3 hx4 h4 hK3))
    refine nameW ?_
    intro W4 hW4
    simp only [hW4] at hc4 hx4_0 hx4_1 hx4_2 hx4_3 hx4_4
    rw [hW4] at HM4 HB4 H4 HK4
    clear hW4
    refine start_ (n := 7) (S := fun w' => w'.heap = W4.heap) (ds := [6]) #[false, false, false, false, false, false, false] (by kernel_rfl) rfl rfl rfl (fun hHeld => ?_)
    refine pure_ (i := 0) (N := some 28) (v := ?_) (a' := ?_) #[true, false, false, false, false, false, false] rfl rfl (by kernel_rfl) (fun _ _ _ h => h) (Or.inl ⟨by rfl, ?_⟩) ?_ ?_
    rotate_left
    · intro w'; go_simp; with_reducible rfl
    rotate_left
    · simp only [Act.put, List.setIfInBounds_toArray, List.set_cons_zero, List.set_cons_succ, i64_w, i32_w]
      rfl
    refine pure_ (i := 1) (N := some 29) (v := ?_) (a' := ?_) #[true, true, false, false, false, false, false] rfl rfl (by kernel_rfl) (fun _ _ _ h => h) (Or.inl ⟨by rfl, ?_⟩) ?_ ?_
    rotate_left
    · intro w'; go_simp; with_reducible rfl
    rotate_left
    · simp only [Act.put, List.setIfInBounds_toArray, List.set_cons_zero, List.set_cons_succ, i64_w, i32_w]
      rfl
    refine pure_ (i := 2) (N := some 30) (v := ?_) (a' := ?_) #[true, true, true, false, false, false, false] rfl rfl (by kernel_rfl) (fun _ _ _ h => h) (Or.inl ⟨by rfl, ?_⟩) ?_ ?_
    rotate_left
    · intro w'; go_simp; with_reducible rfl
    rotate_left
    · simp only [Act.put, List.setIfInBounds_toArray, List.set_cons_zero, List.set_cons_succ, i64_w, i32_w]
      rfl
    refine take_ (i := 3) (N := some 31) (v := ?_) (a' := ?_) #[true, true, true, true, false, false, false] rfl rfl (by kernel_rfl) (fun _ _ _ h => h) (Or.inl ⟨by rfl, ?_⟩) hHeld ?_ ?_
    rotate_left
    · rintro w' s0; have k0 := (cell_heap s0).trans hc4; have k1 := (cell_heap s0).trans hx4_0; have k2 := (cell_heap s0).trans hx4_1; have k3 := (cell_heap s0).trans hx4_2; have k4 := (cell_heap s0).trans hx4_3; have k5 := (cell_heap s0).trans hx4_4; go_simp; with_reducible rfl
    rotate_left
    · simp only [Act.put, List.setIfInBounds_toArray, List.set_cons_zero, List.set_cons_succ, i64_w, i32_w]
      rfl
    refine pure_ (i := 4) (N := some 32) (v := ?_) (a' := ?_) #[true, true, true, true, true, false, false] rfl rfl (by kernel_rfl) (fun _ _ _ h => h) (Or.inl ⟨by rfl, ?_⟩) ?_ ?_
    rotate_left
    · intro w'; go_simp; with_reducible rfl
    rotate_left
    · simp only [Act.put, List.setIfInBounds_toArray, List.set_cons_zero, List.set_cons_succ, i64_w, i32_w]
      rfl
    refine take_ (i := 5) (N := some 33) (v := ?_) (a' := ?_) #[true, true, true, true, true, true, false] rfl rfl (by kernel_rfl) (fun _ _ _ h => h) (Or.inl ⟨by rfl, ?_⟩) hHeld ?_ ?_
    rotate_left
    · rintro w' s0; have k0 := (cell_heap s0).trans hc4; have k1 := (cell_heap s0).trans hx4_0; have k2 := (cell_heap s0).trans hx4_1; have k3 := (cell_heap s0).trans hx4_2; have k4 := (cell_heap s0).trans hx4_3; have k5 := (cell_heap s0).trans hx4_4; go_simp; with_reducible rfl
    rotate_left
    · simp only [Act.put, List.setIfInBounds_toArray, List.set_cons_zero, List.set_cons_succ, i64_w, i32_w]
      rfl
    refine last_ (i := 6) (N := none) #[true, true, true, true, true, true, true] rfl rfl (by kernel_rfl) (by decide) (fun K hK => ?_)
    obtain ⟨w5, hrun5, hM5, hg5, hz5⟩ := (HM4.out.move (w' := W4.drew) rfl).upd (P := Try.prog) (KeyT.string Try.underlying9) Try.underlying71 code ((x, .slice A4 x.f4.length c4) : Ent)
    refine skip_ (w1 := w5) (by rfl) rfl (exec_update rfl rfl rfl rfl hrun5) ?_
    refine hK.out _ _ ?_
    clear hK K
    refine done_ (by kernel_rfl) ?_
    go_wp2
    go_ret
    have hb5 := blk_grown (w := W4.drew) H4.out hg5 (by intro e; injection e with e; omega)
    refine ⟨rfl, ⟨hb, .inr ⟨_, hb5, ⟨by omega, hM5, fun e he => ?_⟩⟩⟩, (below_drew HB4.out).grown hg5 (Nat.le_trans hbase HB4.out.size) (fun k hk => by injection hk with hk; omega)⟩
    obtain rfl : e = (code, (x, .slice A4 x.f4.length c4)) := by simpa [aput] using he
    exact unR_far HV.out h1 (fun k hne hk => (hg5.block k (Nat.lt_of_lt_of_le hk (by have := hg5.size; have := HM4.out.lt; show w.heap.size ≤ W4.heap.size; omega)) (by intro e; injection e with e; omega)).trans (HK4.out k hne hk))
  · cases ha : aget L code with
    | some e =>
      obtain ⟨y, v⟩ := e
      obtain ⟨A5, c5, hv⟩ := Kd.R_slice (h2.own _ (mem_of_aget L code _ ha))
      dsimp only at hv
      subst hv
      have hv : lookV prV L code zPr true = .tuple #[.agg #[.string y.f0, .string y.f1, .int .i64 y.f2, .int .i64 y.f3, .slice A5 y.f4.length c5], .bool true] := by simp [lookV, ha, prV]
      have hc := blk_cell (blk_alloc h1 (.cells #[.string x.f0, .string x.f1, .int .i64 x.f2, .int .i64 x.f3, .slice A4 x.f4.length c4] 24)) 0
      have HM := Aside0.mk (h2.map.alloc (.cells #[.string x.f0, .string x.f1, .int .i64 x.f2, .int .i64 x.f3, .slice A4 x.f4.length c4] 24))
      go_enter Try.func41, Try.ntmps41
      go_wp2_with (first
        | (refine lookL_ rfl rfl Try.underlying71 (KeyT.string Try.underlying9) (z := zPr) (fun w => zero_pr w) HM.out code (by first | rfl | (go_simp; done) | (go_simp; rfl)) (by first | rfl | (go_simp; done) | (go_simp; rfl)) ?_; rw [hv]))
      go_ret
      exact ⟨rfl, (HK0.out.below (below_alloc (below_alloc (Below.refl _ _) _) _)), ((Below.refl base w).alloc hbase _).alloc (by simp; omega) _⟩
    | none =>
      have hv : lookV prV L code zPr true = .tuple #[zPr, .bool false] := by simp [lookV, ha]
      have hc := blk_cell (blk_alloc h1 (.cells #[.string x.f0, .string x.f1, .int .i64 x.f2, .int .i64 x.f3, .slice A4 x.f4.length c4] 24)) 0
      have HM := Aside0.mk (h2.map.alloc (.cells #[.string x.f0, .string x.f1, .int .i64 x.f2, .int .i64 x.f3, .slice A4 x.f4.length c4] 24))
      have hc2 := blk_cell (blk_alloc (blk_alloc h1 (.cells #[.string x.f0, .string x.f1, .int .i64 x.f2, .int .i64 x.f3, .slice A4 x.f4.length c4] 24)) (.cells #[.string ⟨#[]⟩, .string ⟨#[]⟩, .int .i64 0, .int .i64 0, .slice none 0 0] 24)) 0
      have H1 := Aside0.mk h1
      have H2 := Aside0.mk h2
      clear h1 h2
      go_enter Try.func41, Try.ntmps41
      go_wp2_with (first
        | (refine lookL_ rfl rfl Try.underlying71 (KeyT.string Try.underlying9) (z := zPr) (fun w => zero_pr w) HM.out code (by first | rfl | (go_simp; done) | (go_simp; rfl)) (by first | rfl | (go_simp; done) | (go_simp; rfl)) ?_; rw [hv]))
      refine nameW ?_
      intro W4 hW4
      have hc4 : W4.cell? ⟨b, 0, none⟩ = some (.map (some m)) := by rw [← hW4]; exact hc2
      have h4 : W4.heap[b]? = some (.cells #[.map (some m)] 75 (0, 0)) := by rw [← hW4]; exact blk_alloc (blk_alloc H1.out _) _
      have hx4 : W4.heap[w.heap.size]? = some (.cells #[.string x.f0, .string x.f1, .int .i64 x.f2, .int .i64 x.f3, .slice A4 x.f4.length c4] 24 (0, 0)) := by rw [← hW4]; exact blk_alloc (blk_new w _) _
      have hx4_0 := (blk_cell hx4 0).trans rfl
      have hx4_1 := (blk_cell hx4 1).trans rfl
      have hx4_2 := (blk_cell hx4 2).trans rfl
      have hx4_3 := (blk_cell hx4 3).trans rfl
      have hx4_4 := (blk_cell hx4 4).trans rfl
      have HM4 : Aside0 (MapIs Value.string prV W4 m L) := ⟨by rw [← hW4]; exact (H2.out.map.alloc _).alloc _⟩
      have HB4 : Aside0 (Below base w W4) := ⟨by rw [← hW4]; exact HB2.out⟩
      have HK4 : Aside0 (Below w.heap.size w W4) := ⟨by rw [← hW4]; exact below_alloc (below_alloc (Below.refl _ _) _) _⟩
      have H4 := Aside0.mk h4
      clear hW4 hx4 h4 hc hc2 HM
      refine start_ (n := 7) (S := fun w' => w'.heap = W4.heap) (ds := [6]) #[false, false, false, false, false, false, false] (by kernel_rfl) rfl rfl rfl (fun hHeld => ?_)
      refine pure_ (i := 0) (N := some 28) (v := ?_) (a' := ?_) #[true, false, false, false, false, false, false] rfl rfl (by kernel_rfl) (fun _ _ _ h => h) (Or.inl ⟨by rfl, ?_⟩) ?_ ?_
      rotate_left
      · intro w'; go_simp; with_reducible rfl
      rotate_left
      · simp only [Act.put, List.setIfInBounds_toArray, List.set_cons_zero, List.set_cons_succ, i64_w, i32_w]
        rfl
      refine pure_ (i := 1) (N := some 29) (v := ?_) (a' := ?_) #[true, true, false, false, false, false, false] rfl rfl (by kernel_rfl) (fun _ _ _ h => h) (Or.inl ⟨by rfl, ?_⟩) ?_ ?_
      rotate_left
      · intro w'; go_simp; with_reducible rfl
      rotate_left
      · simp only [Act.put, List.setIfInBounds_toArray, List.set_cons_zero, List.set_cons_succ, i64_w, i32_w]
        rfl
      refine pure_ (i := 2) (N := some 30) (v := ?_) (a' := ?_) #[true, true, true, false, false, false, false] rfl rfl (by kernel_rfl) (fun _ _ _ h => h) (Or.inl ⟨by rfl, ?_⟩) ?_ ?_
      rotate_left
      · intro w'; go_simp; with_reducible rfl
      rotate_left
      · simp only [Act.put, List.setIfInBounds_toArray, List.set_cons_zero, List.set_cons_succ, i64_w, i32_w]
        rfl
      refine take_ (i := 3) (N := some 31) (v := ?_) (a' := ?_) #[true, true, true, true, false, false, false] rfl rfl (by kernel_rfl) (fun _ _ _ h => h) (Or.inl ⟨by rfl, ?_⟩) hHeld ?_ ?_
      rotate_left
      · rintro w' s0; have k0 := (cell_heap s0).trans hc4; have k1 := (cell_heap s0).trans hx4_0; have k2 := (cell_heap s0).trans hx4_1; have k3 := (cell_heap s0).trans hx4_2; have k4 := (cell_heap s0).trans hx4_3; have k5 := (cell_heap s0).trans hx4_4; go_simp; with_reducible rfl
      rotate_left
      · simp only [Act.put, List.setIfInBounds_toArray, List.set_cons_zero, List.set_cons_succ, i64_w, i32_w]
        rfl
      refine pure_ (i := 4) (N := some 32) (v := ?_) (a' := ?_) #[true, true, true, true, true, false, false] rfl rfl (by kernel_rfl) (fun _ _ _ h => h) (Or.inl ⟨by rfl, ?_⟩) ?_ ?_
      rotate_left
      · intro w'; go_simp; with_reducible rfl
      rotate_left
      · simp only [Act.put, List.setIfInBounds_toArray, List.set_cons_zero, List.set_cons_succ, i64_w, i32_w]
        rfl
      refine take_ (i := 5) (N := some 33) (v := ?_) (a' := ?_) #[true, true, true, true, true, true, false] rfl rfl (by kernel_rfl) (fun _ _ _ h => h) (Or.inl ⟨by rfl, ?_⟩) hHeld ?_ ?_
      rotate_left
      · rintro w' s0; have k0 := (cell_heap s0).trans hc4; have k1 := (cell_heap s0).trans hx4_0; have k2 := (cell_heap s0).trans hx4_1; have k3 := (cell_heap s0).trans hx4_2; have k4 := (cell_heap s0).trans hx4_3; have k5 := (cell_heap s0).trans hx4_4; go_simp; with_reducible rfl
      rotate_left
      · simp only [Act.put, List.setIfInBounds_toArray, List.set_cons_zero, List.set_cons_succ, i64_w, i32_w]
        rfl
      refine last_ (i := 6) (N := none) #[true, true, true, true, true, true, true] rfl rfl (by kernel_rfl) (by decide) (fun K hK => ?_)
      obtain ⟨w5, hrun5, hM5, hg5, hz5⟩ := (HM4.out.move (w' := W4.drew) rfl).upd (P := Try.prog) (KeyT.string Try.underlying9) Try.underlying71 code ((x, .slice A4 x.f4.length c4) : Ent)
      refine skip_ (w1 := w5) (by rfl) rfl (exec_update rfl rfl rfl rfl hrun5) ?_
      refine hK.out _ _ ?_
      clear hK K
      refine done_ (by kernel_rfl) ?_
      go_wp2
      go_ret
      have hbm : b ≠ m := by
        intro e
        obtain ⟨es, clock, hme, _⟩ := HM4.out
        rw [← e, H4.out] at hme
        cases hme
      have hb5 := blk_grown (w := W4.drew) H4.out hg5 (by intro e; injection e with e; exact hbm e)
      rw [aput_none L code _ ha] at hM5
      refine ⟨rfl, ⟨hb, .inr ⟨_, hb5, ⟨H2.out.lo, hM5, fun e he => ?_⟩⟩⟩, (below_drew HB4.out).grown hg5 (Nat.le_trans hbase HB4.out.size) (fun k hk => by injection hk with hk; have := H2.out.lo; omega)⟩
      obtain ⟨es, clock, hme, _⟩ := H2.out.map
      have hR : Kd.R kUn 61 w base (fun _ => True) e.2.2 e.2.1.f4 := by
        rcases List.mem_append.1 he with he | he
        · exact H2.out.own e he
        · obtain rfl : e = (code, (x, .slice A4 x.f4.length c4)) := by simpa using he
          exact HV.out
      exact unR_but hR H1.out hme (fun k hne hnm hk => (hg5.block k (Nat.lt_of_lt_of_le hk HK4.out.size) (by intro e; injection e with e; exact hnm e)).trans (HK4.out.block k hk))
end Go.Proofs.Ytoppdlideonjjaa.M
end
section
/-
  DERIVED: THE SHELF's CONTRACTS AT THIS DUMP, IN PLAIN WORDS (tools/lay-plain.mjs out of 'YtoppdlideonjjaaIter.lean', which tools/lay-shelf.mjs wrote): THE SAME DECLARATIONS UNDER THE SAME NAMES: 'import', 'namespace', 'open', 'def', 'theorem' AND NOTHING ELSE: no command of the shelf's: FOR A HAND-IN. Each laying: the table of numbers ('.._ren') and one theorem, a field a fact of the dump's own or the kernel's comparison; each contract: ONE APPLICATION.
-/
namespace Go.Proofs
open Go.Shelf
def Try.laysKeys_ren : Go.Shelf.Ren := ⟨fun | 7 => 63 | 10 => 68 | n => n, fun | 23 => 71 | 26 => 9 | 3 => 24 | 28 => 97 | 0 => 0 | 27 => 96 | 33 => 62 | 4 => 4 | n => n, fun | n => n⟩
theorem Try.laysKeys : Go.Proofs.SlLaysZ.n7 Try.prog Try.laysKeys_ren := {
  mixed := by kernel_rfl
  f7 := ⟨Try.f63.name, by decide, Try.func63.trans (congrArg some (by kernel_rfl))⟩
  f10 := ⟨Try.f68.name, by decide, Try.func68.trans (congrArg some (by kernel_rfl))⟩
  t0 := Try.underlying0
  a0 := Try.isAgg0
  z0 := Try.sizeOf0
  v0 := Try.zeroValue0
  t4 := Try.underlying4
  a4 := Try.isAgg4
  z4 := Try.sizeOf4
  v4 := Try.zeroValue4
  t23 := Try.underlying71
  a23 := Try.isAgg71
  z23 := Try.sizeOf71
  v23 := Try.zeroValue71
  t26 := Try.underlying9
  a26 := Try.isAgg9
  z26 := Try.sizeOf9
  v26 := Try.zeroValue9
  t27 := Try.underlying96
  a27 := Try.isAgg96
  z27 := Try.sizeOf96
  v27 := Try.zeroValue96
  t28 := Try.underlying97
  a28 := Try.isAgg97
  z28 := Try.sizeOf97
  v28 := Try.zeroValue97
  t33 := Try.underlying62
  a33 := Try.isAgg62
  z33 := Try.sizeOf62
  v33 := Try.zeroValue62 }
def Try.laysSorted_ren : Go.Shelf.Ren := ⟨fun | 6 => 62 | 8 => 66 | 9 => 67 | 11 => 69 | 13 => 71 | 12 => 70 | 23 => 81 | 24 => 82 | 14 => 72 | 15 => 73 | 16 => 74 | 17 => 75 | 18 => 76 | 19 => 77 | 20 => 78 | 21 => 79 | 22 => 80 | 25 => 83 | 26 => 84 | 27 => 85 | 28 => 86 | 29 => 87 | 30 => 88 | 31 => 89 | n => n, fun | 26 => 9 | 28 => 97 | 24 => 78 | 0 => 0 | 3 => 3 | 37 => 104 | 48 => 115 | 50 => 84 | 4 => 4 | 40 => 107 | 39 => 106 | 45 => 112 | 5 => 5 | 9 => 9 | 51 => 117 | 55 => 121 | 57 => 123 | 58 => 32 | 33 => 62 | n => n, fun | n => n⟩
theorem Try.laysSorted : Go.Proofs.SlLaysZ.n6 Try.prog Try.laysSorted_ren := {
  mixed := by kernel_rfl
  f6 := ⟨Try.f62.name, by decide, Try.func62.trans (congrArg some (by kernel_rfl))⟩
  f8 := ⟨Try.f66.name, by decide, Try.func66.trans (congrArg some (by kernel_rfl))⟩
  f11 := ⟨Try.f69.name, by decide, Try.func69.trans (congrArg some (by kernel_rfl))⟩
  t0 := Try.underlying0
  a0 := Try.isAgg0
  z0 := Try.sizeOf0
  v0 := Try.zeroValue0
  t24 := Try.underlying78
  a24 := Try.isAgg78
  z24 := Try.sizeOf78
  v24 := Try.zeroValue78
  t26 := Try.underlying9
  a26 := Try.isAgg9
  z26 := Try.sizeOf9
  v26 := Try.zeroValue9
  t28 := Try.underlying97
  a28 := Try.isAgg97
  z28 := Try.sizeOf97
  v28 := Try.zeroValue97
  i26 := by kernel_rfl }
def Try.laysSort_ren : Go.Shelf.Ren := ⟨fun | 6 => 67 | 8 => 71 | 9 => 70 | 19 => 81 | 20 => 82 | 21 => 72 | 22 => 73 | 23 => 74 | 24 => 75 | 25 => 76 | 26 => 77 | 27 => 78 | 28 => 79 | 29 => 80 | 36 => 83 | 31 => 84 | 32 => 85 | 37 => 86 | 38 => 87 | 39 => 88 | 41 => 89 | n => n, fun | 27 => 78 | 29 => 9 | 3 => 3 | 32 => 104 | 26 => 78 | 0 => 0 | 44 => 115 | 46 => 84 | 4 => 4 | 36 => 107 | 35 => 106 | 41 => 112 | 5 => 5 | 9 => 9 | 53 => 117 | 57 => 121 | 63 => 123 | 64 => 32 | n => n, fun | n => n⟩
theorem Try.laysSort : Go.Proofs.SlLaysM.n6 Try.prog Try.laysSort_ren := {
  mixed := by kernel_rfl
  f6 := ⟨Try.f67.name, by decide, Try.func67.trans (congrArg some (by kernel_rfl))⟩
  f8 := Try.func71.trans (congrArg some (by kernel_rfl))
  f9 := ⟨Try.f70.name, by decide, Try.func70.trans (congrArg some (by kernel_rfl))⟩
  f19 := Try.func81.trans (congrArg some (by kernel_rfl))
  f20 := Try.func82.trans (congrArg some (by kernel_rfl))
  f21 := ⟨Try.f72.name, by decide, Try.func72.trans (congrArg some (by kernel_rfl))⟩
  f22 := ⟨Try.f73.name, by decide, Try.func73.trans (congrArg some (by kernel_rfl))⟩
  f23 := ⟨Try.f74.name, by decide, Try.func74.trans (congrArg some (by kernel_rfl))⟩
  f24 := ⟨Try.f75.name, by decide, Try.func75.trans (congrArg some (by kernel_rfl))⟩
  f25 := ⟨Try.f76.name, by decide, Try.func76.trans (congrArg some (by kernel_rfl))⟩
  f26 := ⟨Try.f77.name, by decide, Try.func77.trans (congrArg some (by kernel_rfl))⟩
  f27 := ⟨Try.f78.name, by decide, Try.func78.trans (congrArg some (by kernel_rfl))⟩
  f28 := ⟨Try.f79.name, by decide, Try.func79.trans (congrArg some (by kernel_rfl))⟩
  f29 := ⟨Try.f80.name, by decide, Try.func80.trans (congrArg some (by kernel_rfl))⟩
  f31 := Try.func84.trans (congrArg some (by kernel_rfl))
  f32 := Try.func85.trans (congrArg some (by kernel_rfl))
  f36 := ⟨Try.f83.name, by decide, Try.func83.trans (congrArg some (by kernel_rfl))⟩
  f37 := ⟨Try.f86.name, by decide, Try.func86.trans (congrArg some (by kernel_rfl))⟩
  f38 := ⟨Try.f87.name, by decide, Try.func87.trans (congrArg some (by kernel_rfl))⟩
  f39 := ⟨Try.f88.name, by decide, Try.func88.trans (congrArg some (by kernel_rfl))⟩
  f41 := ⟨Try.f89.name, by decide, Try.func89.trans (congrArg some (by kernel_rfl))⟩
  t0 := Try.underlying0
  a0 := Try.isAgg0
  z0 := Try.sizeOf0
  v0 := Try.zeroValue0
  t3 := Try.underlying3
  a3 := Try.isAgg3
  z3 := Try.sizeOf3
  v3 := Try.zeroValue3
  t4 := Try.underlying4
  a4 := Try.isAgg4
  z4 := Try.sizeOf4
  v4 := Try.zeroValue4
  t5 := Try.underlying5
  a5 := Try.isAgg5
  z5 := Try.sizeOf5
  v5 := Try.zeroValue5
  t9 := Try.underlying9
  a9 := Try.isAgg9
  z9 := Try.sizeOf9
  v9 := Try.zeroValue9
  t26 := Try.underlying78
  a26 := Try.isAgg78
  z26 := Try.sizeOf78
  v26 := Try.zeroValue78
  t27 := Try.underlying78
  a27 := Try.isAgg78
  z27 := Try.sizeOf78
  v27 := Try.zeroValue78
  t29 := Try.underlying9
  a29 := Try.isAgg9
  z29 := Try.sizeOf9
  v29 := Try.zeroValue9
  t32 := Try.underlying104
  a32 := Try.isAgg104
  z32 := Try.sizeOf104
  v32 := Try.zeroValue104
  t35 := Try.underlying106
  a35 := Try.isAgg106
  z35 := Try.sizeOf106
  v35 := Try.zeroValue106
  t36 := Try.underlying107
  a36 := Try.isAgg107
  z36 := Try.sizeOf107
  v36 := Try.zeroValue107
  t41 := Try.underlying112
  a41 := Try.isAgg112
  z41 := Try.sizeOf112
  v41 := Try.zeroValue112
  t44 := Try.underlying115
  a44 := Try.isAgg115
  z44 := Try.sizeOf115
  v44 := Try.zeroValue115
  t46 := Try.underlying84
  a46 := Try.isAgg84
  z46 := Try.sizeOf84
  v46 := Try.zeroValue84
  t53 := Try.underlying117
  a53 := Try.isAgg117
  z53 := Try.sizeOf117
  v53 := Try.zeroValue117
  t57 := Try.underlying121
  a57 := Try.isAgg121
  z57 := Try.sizeOf121
  v57 := Try.zeroValue121
  t63 := Try.underlying123
  a63 := Try.isAgg123
  z63 := Try.sizeOf123
  v63 := Try.zeroValue123
  t64 := Try.underlying32
  a64 := Try.isAgg32
  z64 := Try.sizeOf32
  v64 := Try.zeroValue32 }
end Go.Proofs
end
section
/- slices.Sorted(maps.Keys(m)): the shelf's contracts, in the words of maps as_ lists of pairs. -/
namespace Go.Proofs.Ytoppdlideonjjaa.M
open Go.RowKit Go.Maps Go.Sort Go.Shelf Go.Proofs.YtoppdlideonjjaaW.PrintWords Go.Proofs.YtoppdlideonjjaaW.PrintLast Go.Proofs.YtoppdlideonjjaaW.PrintMore
set_option linter.unusedVariables false
set_option linter.unusedSimpArgs false
theorem sortsK (m : Nat) : AnyZ.SortsIn Try.prog Try.laysSorted_ren Fence.wide m :=
  ⟨fun blk off cap ss W hH hblk hsz => callsIn_wide.2 (AnyM.slices_Sort_string Try.laysSort blk off cap ss W hH hblk hsz),
   fun p cap W => callsIn_wide.2 (AnyM.slices_Sort_string_none Try.laysSort p cap W)⟩

theorem mapsK (mb : Option Nat) (W : World) : CallsIn Fence.wide 5 Try.prog 63 #[.map mb] W fun e w' => e = .returned (.func (.func 68) #[] #[.pointer (some ⟨W.heap.size, 0, none⟩)]) ∧ w' = W.alloc (.cells #[.map mb] 71) :=
  AnyZ.keys_in Try.laysKeys Fence.wide 5 trivial rfl mb W

set_option maxHeartbeats 1000000 in
theorem sortedK {H : Type} (b nn : Nat) (D0 : DataW H) (R : Value → Option (DataW H × List MemPlace)) (w : World) (hown : w.ownsMap Try.prog 9 R b nn D0) (hmax : Maps.size D0 ≤ maxLen) (hbytes : Maps.size D0 * 16 ≤ 140737488355328) :
    CallsIn Fence.wide 5 Try.prog 62 #[.func (.func 68) #[] #[.pointer (some ⟨w.heap.size, 0, none⟩)]] (w.alloc (.cells #[.map (some b)] 71)) fun e w' => ∃ (v : Value) (ss : List (List UInt8)), e = .returned v ∧ ss.Perm (strKeys D0) ∧
      w'.ownsRow (w.alloc (.cells #[.map (some b)] 71)).heap.size 9 1 v ss.length ((ss.mergeSort (fun x y => decide (x ≤ y))).map encStr) ∧ (v = .slice none 0 0 ↔ ss = []) ∧ Below (w.alloc (.cells #[.map (some b)] 71)).heap.size (w.alloc (.cells #[.map (some b)] 71)) w' := by
  have hbl := hown.lt
  have hseq : SeqGives Fence.wide 2 Try.prog 68 #[.pointer (some ⟨w.heap.size, 0, none⟩)] encStr (fun ss => ss.Perm (strKeys D0)) (Maps.size D0) (w.alloc (.cells #[.map (some b)] 71)) :=
    AnyZ.keys_gives (ρ := Try.laysKeys_ren) { Try.laysKeys with } Fence.wide _ trivial rfl (by omega) w.heap.size b nn D0 _ (by simp) (by simp) (by
      obtain ⟨es, clock, hb, Ft, hs, hD⟩ := hown
      exact ⟨es, clock, (Below.heap_alloc _ _ b hbl).trans hb, Ft, hs, hD⟩)
  exact AnyZ.sorted_in Try.laysSorted Fence.wide 5 trivial trivial trivial trivial rfl (by omega) (sortsK _) (enters_of Try.func67 (by kernel_rfl) rfl) 68 #[.pointer (some ⟨w.heap.size, 0, none⟩)] trivial (enters_of Try.func68 (by kernel_rfl) rfl) _ _ hmax hbytes _ hseq

set_option maxHeartbeats 1000000 in
theorem sortedNilK (w : World) :
    CallsIn Fence.wide 5 Try.prog 62 #[.func (.func 68) #[] #[.pointer (some ⟨w.heap.size, 0, none⟩)]] (w.alloc (.cells #[.map none] 71)) fun e w' => ∃ (v : Value) (ss : List (List UInt8)), e = .returned v ∧ ss = [] ∧
      w'.ownsRow (w.alloc (.cells #[.map none] 71)).heap.size 9 1 v ss.length ((ss.mergeSort (fun x y => decide (x ≤ y))).map encStr) ∧ (v = .slice none 0 0 ↔ ss = []) ∧ Below (w.alloc (.cells #[.map none] 71)).heap.size (w.alloc (.cells #[.map none] 71)) w' := by
  have hseq : SeqGives Fence.wide 2 Try.prog 68 #[.pointer (some ⟨w.heap.size, 0, none⟩)] encStr (fun ss : List (List UInt8) => ss = []) 0 (w.alloc (.cells #[.map none] 71)) :=
    AnyZ.keys_gives_nil (ρ := Try.laysKeys_ren) { Try.laysKeys with } Fence.wide _ trivial rfl w.heap.size _ (by simp) (by simp)
  exact AnyZ.sorted_in Try.laysSorted Fence.wide 5 trivial trivial trivial trivial rfl (by omega) (sortsK _) (enters_of Try.func67 (by kernel_rfl) rfl) 68 #[.pointer (some ⟨w.heap.size, 0, none⟩)] trivial (enters_of Try.func68 (by kernel_rfl) rfl) _ 0 (Nat.zero_le _) (by omega) _ hseq
/-- Strings in order of their bytes. -/
def srt (xs : List ByteArray) : List ByteArray := ((xs.map (fun b => b.data.toList)).mergeSort (fun x y => decide (x ≤ y))).map (fun l => ⟨l.toArray⟩)
theorem srt_length (xs : List ByteArray) : (srt xs).length = xs.length := by simp [srt]
theorem encStr_data (b : ByteArray) : encStr b.data.toList = .string b := by simp [encStr]
theorem leBs_trans (a b c : List UInt8) (h : decide (a ≤ b) = true) (k : decide (b ≤ c) = true) : decide (a ≤ c) = true := by
  simp only [decide_eq_true_eq] at h k ⊢
  exact List.le_trans h k
theorem leBs_total (a b : List UInt8) : (decide (a ≤ b) || decide (b ≤ a)) = true := by
  simp only [Bool.or_eq_true, decide_eq_true_eq]
  exact List.le_total a b
theorem mergeSort_perm_eq {xs ys : List (List UInt8)} (h : xs.Perm ys) : xs.mergeSort (fun x y => decide (x ≤ y)) = ys.mergeSort (fun x y => decide (x ≤ y)) := by
  refine List.Perm.eq_of_pairwise (le := fun a b => decide (a ≤ b) = true) (fun a b _ _ h1 h2 => ?_) (List.pairwise_mergeSort leBs_trans leBs_total xs) (List.pairwise_mergeSort leBs_trans leBs_total ys) (((List.mergeSort_perm xs _).trans h).trans (List.mergeSort_perm ys _).symm)
  simp only [decide_eq_true_eq] at h1 h2
  exact List.le_antisymm h1 h2
theorem MapIs.owns {P : Program} {k : TypeId} {ν : Type} {ev : ν → Value} {w : World} {b : Nat} {L : List (ByteArray × ν)} (h : MapIs Value.string ev w b L) (ht : P.underlying k = some .string) (hn : (L.map (·.1)).Nodup) (hs : ∀ e ∈ L, e.1.size ≤ maxLen) (hl : L.length ≤ maxLen) :
    ∃ D : DataW Unit, w.ownsMap P k (fun _ => some (.nil, [])) b L.length D ∧ (strKeys D).Perm (L.map (fun e => e.1.data.toList)) ∧ Maps.size D = L.length := by
  obtain ⟨es, clock, hb, hk, hv, hbn, hpw⟩ := h
  have hlen : es.toList.length = L.length := by have := congrArg List.length hk; simpa using this
  have hkey : ∀ x ∈ es.toList, ∃ e ∈ L, x.key = .string e.1 := by
    intro x hx
    have h1 : x.key ∈ es.toList.map (·.key) := List.mem_map_of_mem hx
    rw [hk] at h1
    obtain ⟨e, he, h2⟩ := List.mem_map.1 h1
    exact ⟨e, he, h2.symm⟩
  have hko : ∀ s : ByteArray, s.size ≤ maxLen → keyOf P k (.string s) = some (.string s.data.toList) := by
    intro s h
    simp [keyOf, ht, mapKey, h]
  have hrd : ∀ x ∈ es.toList, Go.WideElems.rd P k (fun _ => some ((.nil : DataW Unit), [])) x = some ((match x.key with | .string s => Lit.string s.data.toList | _ => .bool false), .nil) := by
    intro x hx
    obtain ⟨e, he, h1⟩ := hkey x hx
    simp [Go.WideElems.rd, h1, hko e.1 (hs e he)]
  have hrg : es.toList.map (Go.WideElems.rg P k (fun _ => some ((.nil : DataW Unit), []))) = L.map (fun e => (Lit.string e.1.data.toList, .nil)) := by
    have h1 : es.toList.map (Go.WideElems.rg P k (fun _ => some ((.nil : DataW Unit), []))) = (es.toList.map (·.key)).map (fun v => ((match v with | .string s => Lit.string s.data.toList | _ => .bool false), (.nil : DataW Unit))) := by
      rw [List.map_map]
      refine List.map_congr_left (fun x hx => ?_)
      simp [Go.WideElems.rg, hrd x hx]
    rw [h1, hk, List.map_map]
    rfl
  have hF : Go.WideElems.Fit P k (fun _ => some ((.nil : DataW Unit), [])) es clock := by
    refine ⟨by have : es.size = L.length := by simpa using hlen
               omega, (MapKept.stamped_iff es clock).2 ⟨hbn, List.pairwise_map.2 hpw, ?_⟩, fun x hx => ⟨_, hrd x hx⟩⟩
    have h1 : (es.toList.map (·.key)).Pairwise (· ≠ ·) := by
      rw [hk]
      refine List.pairwise_map.2 ((List.pairwise_map.1 hn).imp (fun h e => h ?_))
      injection e
    exact List.pairwise_map.1 h1
  refine ⟨_, ⟨es, clock, hb, hF, by have : es.size = L.length := by simpa using hlen
                                    omega, rfl⟩, ?_, ?_⟩
  · rw [hrg]
    have h1 := (Go.WideShapes.sorted_perm (L.map (fun e => (Lit.string e.1.data.toList, (.nil : DataW Unit))))).map (fun p => strOf p.1)
    rw [List.map_map] at h1
    exact h1
  · rw [hrg]
    have h1 := (Go.WideShapes.sorted_perm (L.map (fun e => (Lit.string e.1.data.toList, (.nil : DataW Unit))))).length_eq
    rw [List.length_map] at h1
    exact h1
/-- A row of sorted keys, as_ the print tells it. -/
theorem row_srt {w : World} {base : Nat} {v : Value} {ss : List (List UInt8)} {ks : List ByteArray} (h : w.ownsRow base 9 1 v ss.length ((ss.mergeSort (fun x y => decide (x ≤ y))).map encStr)) (hp : ss.Perm (ks.map (fun b => b.data.toList))) : Kd.R Kd.string 9 w base (fun _ => True) v (srt ks) := by
  have e : (ss.mergeSort (fun x y => decide (x ≤ y))).map encStr = (srt ks).map Value.string := by
    rw [mergeSort_perm_eq hp]
    unfold srt
    rw [List.map_map]
    refine List.map_congr_left (fun l _ => ?_)
    simp [encStr]
  have hl : (srt ks).length = ss.length := by rw [srt_length, hp.length_eq, List.length_map]
  rw [e, ← hl] at h
  refine ⟨fun _ _ => trivial, (srt ks).map Value.string, h, by simp [Kd.string, Kd.scalar], fun j p hj => ?_⟩
  show ((List.map Value.string (srt ks)).drop (j * 1)).take 1 = [Value.string p]
  obtain ⟨hj1, hj2⟩ := List.getElem?_eq_some_iff.1 hj
  rw [Nat.mul_one, List.drop_eq_getElem_cons (by simpa using hj1)]
  simp [hj2]
end Go.Proofs.Ytoppdlideonjjaa.M
end
section
/- A list of products: Len, codes, Get. -/
namespace Go.Proofs.Ytoppdlideonjjaa.M
open Go.RowKit Go.Proofs.YtoppdlideonjjaaW.PrintWords Go.Proofs.YtoppdlideonjjaaW.PrintLast Go.Proofs.YtoppdlideonjjaaW.PrintMore
attribute [local go_sem] max2_int min2_int max_two min_two max_three min_three max_four min_four
set_option linter.unusedVariables false
set_option linter.unusedSimpArgs false
set_option maxHeartbeats 4000000 in
set_option maxRecDepth 100000 in
theorem list_len.calls (L : List (ByteArray × Ent)) (base b : Nat) (w : World) (HK : KeyedIs w base b L) :
    Calls Try.prog 25 #[.pointer (some ⟨b, 0, none⟩)] w fun e w' => e = .returned (.int .i64 (L.length : Int)) ∧ w' = w := by
  obtain ⟨hb, HK⟩ := HK
  rcases HK with ⟨h1, rfl⟩ | ⟨m, h1, h2⟩
  · have hc := blk_cell h1 0
    go_enter Try.func25, Try.ntmps25
    go_wp2
    go_ret
    exact ⟨rfl, rfl⟩
  · have hc := blk_cell h1 0
    obtain ⟨es, clock, hm, hs⟩ := h2.map.size_ (P := Try.prog)
    have hl := run_len_map (P := Try.prog) w 71 3 m es clock (by kernel_rfl) hm
    rw [hs] at hl
    go_enter Try.func25, Try.ntmps25
    go_wp2
    go_ret
    exact ⟨rfl, rfl⟩
set_option maxHeartbeats 4000000 in
set_option maxRecDepth 100000 in
theorem list_len_nil.calls (w : World) : Calls Try.prog 25 #[.pointer none] w fun e w' => e = .returned (.int .i64 0) ∧ w' = w := by
  go_enter Try.func25, Try.ntmps25
  go_wp2
  go_ret
  exact ⟨rfl, rfl⟩
set_option maxHeartbeats 4000000 in
set_option maxRecDepth 100000 in
theorem keyed_codes.calls (L : List (ByteArray × Ent)) (base b : Nat) (w : World) (HK : KeyedIs w base b L) (hn : (L.map (·.1)).Nodup) (hs : ∀ e ∈ L, e.1.size ≤ maxLen) (hl : L.length ≤ 1000000) :
    Calls Try.prog 44 #[.pointer (some ⟨b, 0, none⟩)] w fun e w' => ∃ v, e = .returned v ∧ Kd.R Kd.string 9 w' w.heap.size (fun _ => True) v (srt (L.map (·.1))) ∧ Below w.heap.size w w' := by
  obtain ⟨hb, HK⟩ := HK
  rcases HK with ⟨h1, rfl⟩ | ⟨m, h1, h2⟩
  · have hc := blk_cell h1 0
    go_enter Try.func44, Try.ntmps44
    go_wp2_with (first
      | (go_at_call 63; refine (callsIn_wide.1 (mapsK none w)).mono ?_; rintro e w' ⟨rfl, rfl⟩)
      | (go_at_call 62; refine (callsIn_wide.1 (sortedNilK w)).mono ?_; rintro e w' ⟨v, ss, rfl, hss, hrow, _, hbel⟩))
    go_ret
    refine ⟨_, rfl, Kd.R_lower (row_srt hrow (ks := []) (by rw [hss]; exact List.Perm.refl _)) (by simp), below_then (below_alloc (Below.refl w.heap.size w) _) (by simp) hbel⟩
  · have hc := blk_cell h1 0
    obtain ⟨D, hown, hperm, hsize⟩ := MapIs.owns (P := Try.prog) (k := 9) h2.map Try.underlying9 hn hs (by unfold maxLen; omega)
    go_enter Try.func44, Try.ntmps44
    go_wp2_with (first
      | (go_at_call 63; refine (callsIn_wide.1 (mapsK (some m) w)).mono ?_; rintro e w' ⟨rfl, rfl⟩)
      | (go_at_call 62; refine (callsIn_wide.1 (sortedK m L.length D _ w hown (by rw [hsize]; unfold maxLen; omega) (by rw [hsize]; omega))).mono ?_; rintro e w' ⟨v, ss, rfl, hss, hrow, _, hbel⟩))
    go_ret
    refine ⟨_, rfl, Kd.R_lower (row_srt hrow (ks := L.map (·.1)) (hss.trans (by rw [List.map_map]; exact hperm))) (by simp), below_then (below_alloc (Below.refl w.heap.size w) _) (by simp) hbel⟩
/-- The list holds these products, each under its code. -/
structure ListOf (w : World) (base b : Nat) (ps : List Pr) : Prop where
  ex : ∃ L, KeyedIs w base b L ∧ L.map (fun e => (e.1, e.2.1)) = ps.map (fun p => (p.f0, p))
  nd : (ps.map (·.f0)).Nodup
  sz : ∀ p ∈ ps, p.f0.size ≤ 140737488351232
  len : ps.length ≤ 1000000
theorem ListOf.step {w w1 : World} {base b : Nat} {ps : List Pr} (h : ListOf w base b ps) (hm : ∀ k, base ≤ k → k < w.heap.size → w1.heap[k]? = w.heap[k]?) : ListOf w1 base b ps := by
  obtain ⟨⟨L, h1, h2⟩, h3, h4, h5⟩ := h
  exact ⟨⟨L, h1.step hm, h2⟩, h3, h4, h5⟩
theorem ListOf.below {w w1 : World} {base b : Nat} {ps : List Pr} (h : ListOf w base b ps) (hb : Below w.heap.size w w1) : ListOf w1 base b ps := h.step (fun k _ hk => hb.block k hk)
theorem aget_find : ∀ (L : List (ByteArray × Ent)) (ps : List Pr) (k : ByteArray), L.map (fun e => (e.1, e.2.1)) = ps.map (fun p => (p.f0, p)) → (aget L k).map (·.1) = ps.find? (fun p => decide (p.f0 = k))
  | [], [], k, h => rfl
  | [], p :: ps, k, h => by simp at h
  | e :: L, [], k, h => by simp at h
  | e :: L, p :: ps, k, h => by
    simp only [List.map_cons, List.cons.injEq, Prod.mk.injEq] at h
    obtain ⟨⟨h1, h2⟩, h3⟩ := h
    unfold aget
    rw [List.find?_cons]
    by_cases c : e.1 = k
    · rw [if_pos c, decide_eq_true (by rw [← h1]; exact c)]
      simp [h2]
    · rw [if_neg c, decide_eq_false (by rw [← h1]; exact c)]
      exact aget_find L ps k h3
/-- The product with a code, and whether there is one. -/
def getP (ps : List Pr) (k : ByteArray) : Pr × Bool :=
  match ps.find? (fun p => decide (p.f0 = k)) with
  | some p => (p, true)
  | none => (z24, false)
theorem set5_far (w : World) (g : Nat) (u0 u1 u2 u3 u4 : Value) (k : Nat) (h : k ≠ g) : (((((w.setCell ⟨g, 0, none⟩ u0).setCell ⟨g, 1, none⟩ u1).setCell ⟨g, 2, none⟩ u2).setCell ⟨g, 3, none⟩ u3).setCell ⟨g, 4, none⟩ u4).heap[k]? = w.heap[k]? :=
  (Below.heap_setCell _ ⟨g, 4, none⟩ u4 k h).trans ((Below.heap_setCell _ ⟨g, 3, none⟩ u3 k h).trans ((Below.heap_setCell _ ⟨g, 2, none⟩ u2 k h).trans ((Below.heap_setCell _ ⟨g, 1, none⟩ u1 k h).trans (Below.heap_setCell _ ⟨g, 0, none⟩ u0 k h))))
theorem set5_blk {w : World} {g : Nat} {t : TypeId} {v0 v1 v2 v3 v4 : Value} (u0 u1 u2 u3 u4 : Value) (h : w.heap[g]? = some (.cells #[v0, v1, v2, v3, v4] t (0, 0))) : (((((w.setCell ⟨g, 0, none⟩ u0).setCell ⟨g, 1, none⟩ u1).setCell ⟨g, 2, none⟩ u2).setCell ⟨g, 3, none⟩ u3).setCell ⟨g, 4, none⟩ u4).heap[g]? = some (.cells #[u0, u1, u2, u3, u4] t (0, 0)) :=
  blk_set (blk_set (blk_set (blk_set (blk_set h 0 u0) 1 u1) 2 u2) 3 u3) 4 u4
theorem set5_size (w : World) (g : Nat) (u0 u1 u2 u3 u4 : Value) : (((((w.setCell ⟨g, 0, none⟩ u0).setCell ⟨g, 1, none⟩ u1).setCell ⟨g, 2, none⟩ u2).setCell ⟨g, 3, none⟩ u3).setCell ⟨g, 4, none⟩ u4).heap.size = w.heap.size := by simp [World.setCell]
theorem set5_below {w w1 : World} {B g : Nat} (h : Below B w w1) (hg : B ≤ g) (u0 u1 u2 u3 u4 : Value) : Below B w (((((w1.setCell ⟨g, 0, none⟩ u0).setCell ⟨g, 1, none⟩ u1).setCell ⟨g, 2, none⟩ u2).setCell ⟨g, 3, none⟩ u3).setCell ⟨g, 4, none⟩ u4) :=
  ((((h.setCell (p := ⟨g, 0, none⟩) hg u0).setCell (p := ⟨g, 1, none⟩) hg u1).setCell (p := ⟨g, 2, none⟩) hg u2).setCell (p := ⟨g, 3, none⟩) hg u3).setCell (p := ⟨g, 4, none⟩) hg u4
theorem get_told {w : World} {base b : Nat} {ps : List Pr} {L : List (ByteArray × Ent)} (HK : KeyedIs w base b L) (hL : L.map (fun e => (e.1, e.2.1)) = ps.map (fun p => (p.f0, p))) (code : ByteArray) : ∃ A c, ((aget L code).map prV).getD zPr = .agg #[.string (getP ps code).1.f0, .string (getP ps code).1.f1, .int .i64 (getP ps code).1.f2, .int .i64 (getP ps code).1.f3, .slice A (getP ps code).1.f4.length c] ∧ (aget L code).isSome = (getP ps code).2 ∧ Kd.C kUn w A (getP ps code).1.f4.length (getP ps code).1.f4 ∧ (getP ps code).1.f4.length ≤ c := by
  have hf := aget_find L ps code hL
  unfold getP
  rw [← hf]
  cases ha : aget L code with
  | none => exact ⟨none, 0, rfl, rfl, ⟨rfl, Nat.zero_le _, fun h => absurd h (Nat.lt_irrefl 0)⟩, Nat.le_refl _⟩
  | some e =>
    obtain ⟨hb, HK⟩ := HK
    rcases HK with ⟨_, rfl⟩ | ⟨m, h1, h2⟩
    · cases ha
    · obtain ⟨A, c, he, hc, hC⟩ := Kd.R_reads (h2.own _ (mem_of_aget L code _ ha))
      dsimp only at he hc hC
      exact ⟨A, c, by simp [prV, he], rfl, hC, hc⟩
set_option maxHeartbeats 4000000 in
set_option maxRecDepth 100000 in
theorem list_get.calls (code : ByteArray) (ps : List Pr) (base b : Nat) (q : Pr) (s : Bool) (w : World) (HL : ListOf w base b ps) (hq : getP ps code = (q, s)) (hu : q.f4.length ≤ 1000000) :
    Calls Try.prog 23 #[.pointer (some ⟨b, 0, none⟩), .string code] w fun e w' => ∃ v4, e = .returned (.tuple #[.agg #[.string q.f0, .string q.f1, .int .i64 q.f2, .int .i64 q.f3, v4], .bool s]) ∧ Kd.R kUn 61 w' w.heap.size (fun _ => True) v4 q.f4 ∧ Below w.heap.size w w' := by
  obtain ⟨⟨L, HK, hL⟩, hnd, hsz, hlen⟩ := HL
  obtain ⟨A, c, hg1, hg2, hC, hcc⟩ := get_told HK hL code
  rw [hq] at hg1 hg2 hC hcc
  dsimp only at hg1 hg2 hC hcc
  have HK0 := Aside0.mk HK
  have HC := Aside0.mk hC
  have HCC := Aside0.mk hcc
  have HD : Aside0 (items_duplicate.f q.f0 q.f1 q.f2 q.f3 q.f4 = some (q.f0, q.f1, q.f2, q.f3, q.f4)) := ⟨by simp [items_duplicate.f, api_Unit_61.f, hu]⟩
  clear HK hC hcc hL hq hnd hsz hlen hu
  go_enter Try.func23, Try.ntmps23
  go_wp2_with (first
    | (go_at_call 43; refine (keyed_get.calls code L base b _ (HK0.out.below (below_alloc (Below.refl _ _) _))).mono ?_; rintro e w1 ⟨rfl, hb⟩; rw [hg1, hg2]; have HB := Aside0.mk (below_then (below_alloc (Below.refl w.heap.size w) _) (by simp) hb); have hx := blk_below (blk_new w (.cells #[.string ⟨#[]⟩, .string ⟨#[]⟩, .int .i64 0, .int .i64 0, .slice none 0 0] 24)) hb; have hx1_0 := (blk_cell hx 0).trans rfl; have hf1_0 := blk_frozen hx 0; have hx1_1 := (blk_cell hx 1).trans rfl; have hf1_1 := blk_frozen hx 1; have hx1_2 := (blk_cell hx 2).trans rfl; have hf1_2 := blk_frozen hx 2; have hx1_3 := (blk_cell hx 3).trans rfl; have hf1_3 := blk_frozen hx 3; have hx1_4 := (blk_cell hx 4).trans rfl; have hf1_4 := blk_frozen hx 4; have HX := Aside0.mk hx; clear hb hx)
    | (go_at_call 42; (with_reducible refine (items_duplicate.calls q.f0 q.f1 q.f2 q.f3 A c q.f4 q.f0 q.f1 q.f2 q.f3 q.f4 _ ?side1 HCC.out HD.out).mono ?_); (case side1 => exact Kd.C_below HC.out (set5_below HB.out (Nat.le_refl _) _ _ _ _ _)); rintro e w6 ⟨v4, rfl, hR, hb6⟩; obtain ⟨A6, c6, rfl⟩ := Kd.R_slice hR; have hx6 := blk_below (set5_blk (.string q.f0) (.string q.f1) (.int .i64 q.f2) (.int .i64 q.f3) (.slice A q.f4.length c) HX.out) hb6; have hx6_0 := (blk_cell hx6 0).trans rfl; have hf6_0 := blk_frozen hx6 0; have hx6_1 := (blk_cell hx6 1).trans rfl; have hf6_1 := blk_frozen hx6 1; have hx6_2 := (blk_cell hx6 2).trans rfl; have hf6_2 := blk_frozen hx6 2; have hx6_3 := (blk_cell hx6 3).trans rfl; have hf6_3 := blk_frozen hx6 3; have hx6_4 := (blk_cell hx6 4).trans rfl; have hf6_4 := blk_frozen hx6 4; have HX6 := Aside0.mk hx6; have HB6 := Aside0.mk (below_then (set5_below HB.out (Nat.le_refl _) _ _ _ _ _) (set5_below HB.out (Nat.le_refl _) _ _ _ _ _).size hb6); have HR6 := Aside0.mk hR; clear hR hb6 hx6))
  refine bodyPost_ret (results_ct rfl _ _ w.heap.size 24 #[.string q.f0, .string q.f1, .int .i64 q.f2, .int .i64 q.f3, .slice A6 q.f4.length c6] (0, 0) _ rfl (set5_blk _ _ _ _ _ HX6.out) Try.underlying24 rfl (by kernel_rfl)) rfl ⟨_, rfl, ?_, set5_below HB6.out (Nat.le_refl _) _ _ _ _ _⟩
  have hlt := blk_lt HX.out
  have h1 := Kd.R_step (w1 := ((((w6.setCell ⟨w.heap.size, 0, none⟩ (.string q.f0)).setCell ⟨w.heap.size, 1, none⟩ (.string q.f1)).setCell ⟨w.heap.size, 2, none⟩ (.int .i64 q.f2)).setCell ⟨w.heap.size, 3, none⟩ (.int .i64 q.f3)).setCell ⟨w.heap.size, 4, none⟩ (.slice A6 q.f4.length c6)) (Kd.R_bound HR6.out) (fun k hk hl => set5_far _ _ _ _ _ _ _ k (by have := hk.2.1; rw [set5_size] at this; omega))
  exact Kd.R_mono (Kd.R_lower h1 (by rw [set5_size]; omega)) (fun _ _ => trivial)
set_option maxHeartbeats 4000000 in
set_option maxRecDepth 100000 in
theorem list_get_nil.calls (code : ByteArray) (w : World) :
    Calls Try.prog 23 #[.pointer none, .string code] w fun e w' => e = .returned (.tuple #[zPr, .bool false]) ∧ Below w.heap.size w w' := by
  go_enter Try.func23, Try.ntmps23
  go_wp2
  refine bodyPost_ret (results_ct rfl _ _ w.heap.size 24 zC (0, 0) _ rfl (blk_new w _) Try.underlying24 rfl (by kernel_rfl)) rfl ⟨rfl, below_alloc (Below.refl w.heap.size w) _⟩
end Go.Proofs.Ytoppdlideonjjaa.M
end
section
-- Written by mprint.py (a program of this session) over the kit's print.
namespace Go.Proofs.Ytoppdlideonjjaa.M
open Go.RowKit Go.Proofs.YtoppdlideonjjaaW.PrintWords Go.Proofs.YtoppdlideonjjaaW.PrintLast Go.Proofs.YtoppdlideonjjaaW.PrintMore
attribute [local go_sem] max2_int min2_int max_two min_two max_three min_three max_four min_four   -- for this text's walks alone
set_option linter.unusedVariables false
set_option linter.unusedSimpArgs false

/-! ### words_letter: function 51 -/
def words_letter.f (a0 : Int) : Option (Bool) := if a0 ≥ 97 then (if a0 ≤ 122 then (some true) else (if a0 ≥ 65 then (if a0 ≤ 90 then (some true) else (some (a0 == 95))) else (some (a0 == 95)))) else (if a0 ≥ 65 then (if a0 ≤ 90 then (some true) else (some (a0 == 95))) else (some (a0 == 95)))
set_option maxHeartbeats 8000000 in
set_option maxRecDepth 100000 in
theorem words_letter.calls (a0 : Int) (r : Bool) (w : World) (h : words_letter.f a0 = some r) :
    Calls Try.prog 51 #[.int .u8 a0] w fun e w' => e = .returned (.bool r) ∧ Drawn0 w w' := by
 have H : (if a0 ≥ 97 then (if a0 ≤ 122 then (some true) else (if a0 ≥ 65 then (if a0 ≤ 90 then (some true) else (some (a0 == 95))) else (some (a0 == 95)))) else (if a0 ≥ 65 then (if a0 ≤ 90 then (some true) else (some (a0 == 95))) else (some (a0 == 95)))) = some r := h
 clear h
 by_cases c2 : a0 ≥ 97
 ·rw [if_pos c2] at H
  have c2b0 : decide (97 ≤ a0) = true := decide_eq_true c2
  clear c2
  by_cases c3 : a0 ≤ 122
  ·rw [if_pos c3] at H
   have c3b0 : decide (a0 ≤ 122) = true := decide_eq_true c3
   clear c3
   obtain rfl := Option.some.inj H
   go_enter Try.func51, Try.ntmps51
   go_wp2
   go_ret
   exact ⟨by first | rfl | (simp; done) | (simp [*]; done), by repeat (first | exact Drawn0.refl _ | apply Drawn0.step)⟩
  ·rw [if_neg c3] at H
   have c3b0 : decide (a0 ≤ 122) = false := decide_eq_false c3
   clear c3
   by_cases c4 : a0 ≥ 65
   ·rw [if_pos c4] at H
    have c4b0 : decide (65 ≤ a0) = true := decide_eq_true c4
    clear c4
    by_cases c5 : a0 ≤ 90
    ·rw [if_pos c5] at H
     have c5b0 : decide (a0 ≤ 90) = true := decide_eq_true c5
     clear c5
     obtain rfl := Option.some.inj H
     go_enter Try.func51, Try.ntmps51
     go_wp2
     go_ret
     exact ⟨by first | rfl | (simp; done) | (simp [*]; done), by repeat (first | exact Drawn0.refl _ | apply Drawn0.step)⟩
    ·rw [if_neg c5] at H
     have c5b0 : decide (a0 ≤ 90) = false := decide_eq_false c5
     clear c5
     obtain rfl := Option.some.inj H
     go_enter Try.func51, Try.ntmps51
     go_wp2
     go_ret
     exact ⟨by first | rfl | (simp; done) | (simp [*]; done), by repeat (first | exact Drawn0.refl _ | apply Drawn0.step)⟩
   ·rw [if_neg c4] at H
    have c4b0 : decide (65 ≤ a0) = false := decide_eq_false c4
    clear c4
    obtain rfl := Option.some.inj H
    go_enter Try.func51, Try.ntmps51
    go_wp2
    go_ret
    exact ⟨by first | rfl | (simp; done) | (simp [*]; done), by repeat (first | exact Drawn0.refl _ | apply Drawn0.step)⟩
 ·rw [if_neg c2] at H
  have c2b0 : decide (97 ≤ a0) = false := decide_eq_false c2
  clear c2
  by_cases c6 : a0 ≥ 65
  ·rw [if_pos c6] at H
   have c6b0 : decide (65 ≤ a0) = true := decide_eq_true c6
   clear c6
   by_cases c7 : a0 ≤ 90
   ·rw [if_pos c7] at H
    have c7b0 : decide (a0 ≤ 90) = true := decide_eq_true c7
    clear c7
    obtain rfl := Option.some.inj H
    go_enter Try.func51, Try.ntmps51
    go_wp2
    go_ret
    exact ⟨by first | rfl | (simp; done) | (simp [*]; done), by repeat (first | exact Drawn0.refl _ | apply Drawn0.step)⟩
   ·rw [if_neg c7] at H
    have c7b0 : decide (a0 ≤ 90) = false := decide_eq_false c7
    clear c7
    obtain rfl := Option.some.inj H
    go_enter Try.func51, Try.ntmps51
    go_wp2
    go_ret
    exact ⟨by first | rfl | (simp; done) | (simp [*]; done), by repeat (first | exact Drawn0.refl _ | apply Drawn0.step)⟩
  ·rw [if_neg c6] at H
   have c6b0 : decide (65 ≤ a0) = false := decide_eq_false c6
   clear c6
   obtain rfl := Option.some.inj H
   go_enter Try.func51, Try.ntmps51
   go_wp2
   go_ret
   exact ⟨by first | rfl | (simp; done) | (simp [*]; done), by repeat (first | exact Drawn0.refl _ | apply Drawn0.step)⟩

end Go.Proofs.Ytoppdlideonjjaa.M
end
section
-- Written by mprint.py (a program of this session) over the kit's print.
namespace Go.Proofs.Ytoppdlideonjjaa.M
open Go.RowKit Go.Proofs.YtoppdlideonjjaaW.PrintWords Go.Proofs.YtoppdlideonjjaaW.PrintLast Go.Proofs.YtoppdlideonjjaaW.PrintMore
attribute [local go_sem] max2_int min2_int max_two min_two max_three min_three max_four min_four   -- for this text's walks alone
set_option linter.unusedVariables false
set_option linter.unusedSimpArgs false

/-! ### words_digit: function 52 -/
def words_digit.f (a0 : Int) : Option (Bool) := if a0 ≥ 48 then (some (decide (a0 ≤ 57))) else (some false)
set_option maxHeartbeats 8000000 in
set_option maxRecDepth 100000 in
theorem words_digit.calls (a0 : Int) (r : Bool) (w : World) (h : words_digit.f a0 = some r) :
    Calls Try.prog 52 #[.int .u8 a0] w fun e w' => e = .returned (.bool r) ∧ Drawn0 w w' := by
 have H : (if a0 ≥ 48 then (some (decide (a0 ≤ 57))) else (some false)) = some r := h
 clear h
 by_cases c2 : a0 ≥ 48
 ·rw [if_pos c2] at H
  have c2b0 : decide (48 ≤ a0) = true := decide_eq_true c2
  clear c2
  obtain rfl := Option.some.inj H
  go_enter Try.func52, Try.ntmps52
  go_wp2
  go_ret
  exact ⟨by first | rfl | (simp; done) | (simp [*]; done), by repeat (first | exact Drawn0.refl _ | apply Drawn0.step)⟩
 ·rw [if_neg c2] at H
  have c2b0 : decide (48 ≤ a0) = false := decide_eq_false c2
  clear c2
  obtain rfl := Option.some.inj H
  go_enter Try.func52, Try.ntmps52
  go_wp2
  go_ret
  exact ⟨by first | rfl | (simp; done) | (simp [*]; done), by repeat (first | exact Drawn0.refl _ | apply Drawn0.step)⟩

end Go.Proofs.Ytoppdlideonjjaa.M
end
section
-- Written by mprint.py (a program of this session) over the kit's print.
namespace Go.Proofs.Ytoppdlideonjjaa.M
open Go.RowKit Go.Proofs.YtoppdlideonjjaaW.PrintWords Go.Proofs.YtoppdlideonjjaaW.PrintLast Go.Proofs.YtoppdlideonjjaaW.PrintMore
attribute [local go_sem] max2_int min2_int max_two min_two max_three min_three max_four min_four   -- for this text's walks alone
set_option linter.unusedVariables false
set_option linter.unusedSimpArgs false

/-! ### words_Code_1: function 50 -/
def words_Code_1.f (a0 : Int) : Option (Bool) := (words_letter.f a0).bind fun t101 => (if t101 = true then (some true) else ((words_digit.f a0).bind fun t102 => (some t102)))
set_option maxHeartbeats 8000000 in
set_option maxRecDepth 100000 in
theorem words_Code_1.calls (a0 : Int) (r : Bool) (w : World) (h : words_Code_1.f a0 = some r) :
    Calls Try.prog 50 #[.int .u8 a0] w fun e w' => e = .returned (.bool r) ∧ Drawn0 w w' := by
 have H : ((words_letter.f a0).bind fun t101 => (if t101 = true then (some true) else ((words_digit.f a0).bind fun t102 => (some t102)))) = some r := h
 clear h
 replace H := Option.bind_eq_some_iff.mp H
 obtain ⟨t101, A20, H⟩ := H
 replace H : (if t101 = true then (some true) else ((words_digit.f a0).bind fun t102 => (some t102))) = some r := H
 have A2 := Aside0.mk A20
 clear A20
 by_cases c3 : t101 = true
 ·subst c3
  have H1 : (some true) = some r := by rw [if_pos rfl] at H; exact H
  clear H
  have H := H1
  clear H1
  obtain rfl := Option.some.inj H
  go_enter Try.func50, Try.ntmps50
  go_wp2_with (first | ((with_reducible refine gate_callee (f := 51) rfl ?_); refine goesL_ (some 4) rfl rfl Try.func51 (by kernel_rfl) rfl #[.int .u8 a0] rfl (by (try simp only [List.map_toArray, List.map_cons, List.map_nil]); first | done | rfl | (simp only [List.length_drop, List.length_take]; rfl)) ?_; (with_reducible refine (words_letter.calls a0 true _ A2.out).mono ?_); rintro e w' ⟨rfl, ⟨nd, rfl⟩⟩; refine ⟨_, rfl, ?_⟩))
  go_ret
  exact ⟨by first | rfl | (simp; done) | (simp [*]; done), by repeat (first | exact Drawn0.refl _ | apply Drawn0.step)⟩
 ·replace c3 := Bool.eq_false_iff.mpr c3
  subst c3
  have H1 : ((words_digit.f a0).bind fun t102 => (some t102)) = some r := by rw [if_neg (show ¬ (false = true) by decide)] at H; exact H
  clear H
  have H := H1
  clear H1
  replace H := Option.bind_eq_some_iff.mp H
  obtain ⟨t102, A40, H⟩ := H
  replace H : (some t102) = some r := H
  have A4 := Aside0.mk A40
  clear A40
  obtain rfl := Option.some.inj H
  go_enter Try.func50, Try.ntmps50
  go_wp2_with (first | ((with_reducible refine gate_callee (f := 51) rfl ?_); refine goesL_ (some 4) rfl rfl Try.func51 (by kernel_rfl) rfl #[.int .u8 a0] rfl (by (try simp only [List.map_toArray, List.map_cons, List.map_nil]); first | done | rfl | (simp only [List.length_drop, List.length_take]; rfl)) ?_; (with_reducible refine (words_letter.calls a0 false _ A2.out).mono ?_); rintro e w' ⟨rfl, ⟨nd, rfl⟩⟩; refine ⟨_, rfl, ?_⟩) | (go_at_call 52; (with_reducible refine (words_digit.calls a0 t102 _ A4.out).mono ?_); rintro e w' ⟨rfl, ⟨nd, rfl⟩⟩))
  go_ret
  exact ⟨by first | rfl | (simp; done) | (simp [*]; done), by repeat (first | exact Drawn0.refl _ | apply Drawn0.step)⟩

end Go.Proofs.Ytoppdlideonjjaa.M
end
section
-- Written by mprint.py (a program of this session) over the kit's print.
namespace Go.Proofs.Ytoppdlideonjjaa.M
open Go.RowKit Go.Proofs.YtoppdlideonjjaaW.PrintWords Go.Proofs.YtoppdlideonjjaaW.PrintLast Go.Proofs.YtoppdlideonjjaaW.PrintMore
attribute [local go_sem] max2_int min2_int max_two min_two max_three min_three max_four min_four   -- for this text's walks alone
set_option linter.unusedVariables false
set_option linter.unusedSimpArgs false

/-! ### words_every__words_Code_1: function 49 -/
def words_every__words_Code_1.l0 : Nat → ByteArray → Int → Int → Option (Bool)
  | 0, _, _, _ => none
  | k + 1, x0, x7, x8 => if x8 < x7 then (if 0 ≤ x8 then (if x8 < (x0.size : Int) then ((words_Code_1.f (bt x0 x8)).bind fun t101 => (if t101 = true then (words_every__words_Code_1.l0 k x0 x7 (wrap64 (x8 + 1))) else (some false))) else (none)) else (none)) else (some true)
def words_every__words_Code_1.f (k : Nat) (a0 : ByteArray)  : Option (Bool) := words_every__words_Code_1.l0 k a0 (a0.size : Int) 0
theorem words_every__words_Code_1.mono_l : ∀ k, (∀ y0 y1 y2, LeO (words_every__words_Code_1.l0 k y0 y1 y2) (words_every__words_Code_1.l0 (k + 1) y0 y1 y2))
  | 0 => fun _ _ _ r h => by simp [words_every__words_Code_1.l0] at h
  | k + 1 => by
    have ih0 := words_every__words_Code_1.mono_l k
    · intro y0 y1 y2
      unfold words_every__words_Code_1.l0
      repeat' first
      | (with_reducible exact ih0 _ _ _)
      | (with_reducible exact LeO.refl _)
      | (with_reducible exact LeO.none _)
      | (with_reducible refine LeO.ite ?_ ?_)
      | (with_reducible refine LeO.bind ?_ (fun _ => ?_))
      | exact ih0 _ _ _
      | exact LeO.none _
      | refine LeO.ite ?_ ?_
      | refine LeO.bind ?_ (fun _ => ?_)
theorem words_every__words_Code_1.mono : ∀ a0 k, LeO (words_every__words_Code_1.f k a0) (words_every__words_Code_1.f (k + 1) a0) := by
 intro a0 k
 have ih0 := words_every__words_Code_1.mono_l k
 unfold words_every__words_Code_1.f
 repeat' first
   | (with_reducible exact ih0 _ _ _)
   | (with_reducible exact LeO.refl _)
   | (with_reducible exact LeO.none _)
   | (with_reducible refine LeO.ite ?_ ?_)
   | (with_reducible refine LeO.bind ?_ (fun _ => ?_))
   | exact ih0 _ _ _
   | exact LeO.none _
   | refine LeO.ite ?_ ?_
   | refine LeO.bind ?_ (fun _ => ?_)
set_option maxHeartbeats 8000000 in
set_option maxRecDepth 100000 in
theorem words_every__words_Code_1.calls (k : Nat) (a0 : ByteArray)  (r : Bool) (w : World) (h : words_every__words_Code_1.f k a0 = some r) :
    Calls Try.prog 49 #[.string a0, .func (.func 50) #[] #[]] w fun e w' => e = .returned (.bool r) ∧ Below w.heap.size w w' := by
 have HB := Aside0.mk (Below.refl w.heap.size w)
 have H : (words_every__words_Code_1.l0 k a0 (a0.size : Int) 0) = some r := h
 clear h
 have H' := Aside0.mk H
 clear H
 go_enter Try.func49, Try.ntmps49
 go_wp2
 go_loopg [8] k (fun kq v8 w' => ∃ (x8_1 : Int), v8 = .int .i64 x8_1 ∧ Aside0 (words_every__words_Code_1.l0 kq a0 (a0.size : Int) x8_1 = some r) ∧ Aside0 (kq ≤ k) ∧ Aside0 (Below w.heap.size w w'))
 case atStart => exact ⟨(0), (by first | rfl | (simp; done) | (simp [*]; done)), H', ⟨Nat.le_refl _⟩, ⟨by repeat (first | (with_reducible first | exact HB.out | apply below_alloc | apply pw_below_drewN | apply below_drew1) | exact HB.out)⟩⟩
 case round =>
  clear H'
  try clear p2
  obtain ⟨x8_1, rfl, HA, HK1, HB⟩ := hrel
  cases gk with
  | zero => exact absurd HA.out (by simp [words_every__words_Code_1.l0])
  | succ k1 =>
   have H := HA.out
   clear HA
   simp only [words_every__words_Code_1.l0] at H
   by_cases c3 : x8_1 < (a0.size : Int)
   ·rw [if_pos c3] at H
    have c3b0 : decide (x8_1 < (a0.size : Int)) = true := decide_eq_true c3
    clear c3
    by_cases c4 : 0 ≤ x8_1
    ·rw [if_pos c4] at H
     have c4b0 : decide (0 ≤ x8_1) = true := decide_eq_true c4
     clear c4
     by_cases c5 : x8_1 < (a0.size : Int)
     ·rw [if_pos c5] at H
      have c5b0 : decide (x8_1 < (a0.size : Int)) = true := decide_eq_true c5
      clear c5
      replace H := Option.bind_eq_some_iff.mp H
      obtain ⟨t101, A70, H⟩ := H
      replace H : (if t101 = true then (words_every__words_Code_1.l0 k1 a0 (a0.size : Int) (wrap64 (x8_1 + 1))) else (some false)) = some r := H
      have A7 := Aside0.mk A70
      clear A70
      by_cases c8 : t101 = true
      ·subst c8
       have H1 : (words_every__words_Code_1.l0 k1 a0 (a0.size : Int) (wrap64 (x8_1 + 1))) = some r := by rw [if_pos rfl] at H; exact H
       clear H
       have H := H1
       clear H1
       have H' := Aside0.mk H
       clear H
       have p6 : 0 ≤ (x8_1 : Int) := of_decide_eq_true (by first | (with_reducible assumption) | assumption)
       have q6 : x8_1 < (a0.size : Int) := of_decide_eq_true (by first | (with_reducible assumption) | assumption)
       have hx6 := bt_at a0 x8_1
       replace p6 := eq_true p6
       replace q6 := eq_true q6
       go_wp2_with (first | (go_at_call 50; (with_reducible refine (words_Code_1.calls (bt a0 x8_1) true _ A7.out).mono ?_); rintro e w' ⟨rfl, ⟨nd, rfl⟩⟩))
       go_roundg k1
       case measure => have := HK1.out; omega
       case rel => exact ⟨(wrap64 (x8_1 + 1)), (by first | rfl | (simp; done) | (simp [*]; done)), H', ⟨by have := HK1.out; omega⟩, ⟨by repeat (first | (with_reducible first | exact HB.out | apply below_alloc | apply pw_below_drewN | apply below_drew1) | exact HB.out)⟩⟩
      ·replace c8 := Bool.eq_false_iff.mpr c8
       subst c8
       have H1 : (some false) = some r := by rw [if_neg (show ¬ (false = true) by decide)] at H; exact H
       clear H
       have H := H1
       clear H1
       obtain rfl := Option.some.inj H
       have p6 : 0 ≤ (x8_1 : Int) := of_decide_eq_true (by first | (with_reducible assumption) | assumption)
       have q6 : x8_1 < (a0.size : Int) := of_decide_eq_true (by first | (with_reducible assumption) | assumption)
       have hx6 := bt_at a0 x8_1
       replace p6 := eq_true p6
       replace q6 := eq_true q6
       go_wp2_with (first | (go_at_call 50; (with_reducible refine (words_Code_1.calls (bt a0 x8_1) false _ A7.out).mono ?_); rintro e w' ⟨rfl, ⟨nd, rfl⟩⟩))
       go_ret
       exact ⟨by first | rfl | (simp [errW_none, errW_some] <;> rfl) | (simp [*, errW_none, errW_some] <;> rfl), by repeat (first | (with_reducible first | exact HB.out | apply below_alloc | apply pw_below_drewN | apply below_drew1) | exact HB.out)⟩
     ·rw [if_neg c5] at H
      exact absurd H (by simp)
    ·rw [if_neg c4] at H
     exact absurd H (by simp)
   ·rw [if_neg c3] at H
    have c3b0 : decide (x8_1 < (a0.size : Int)) = false := decide_eq_false c3
    clear c3
    obtain rfl := Option.some.inj H
    go_wp2
    go_ret
    exact ⟨by first | rfl | (simp [errW_none, errW_some] <;> rfl) | (simp [*, errW_none, errW_some] <;> rfl), by repeat (first | (with_reducible first | exact HB.out | apply below_alloc | apply pw_below_drewN | apply below_drew1) | exact HB.out)⟩

end Go.Proofs.Ytoppdlideonjjaa.M
end
section
-- Written by mprint.py (a program of this session) over the kit's print.
namespace Go.Proofs.Ytoppdlideonjjaa.M
open Go.RowKit Go.Proofs.YtoppdlideonjjaaW.PrintWords Go.Proofs.YtoppdlideonjjaaW.PrintLast Go.Proofs.YtoppdlideonjjaaW.PrintMore
attribute [local go_sem] max2_int min2_int max_two min_two max_three min_three max_four min_four   -- for this text's walks alone
set_option linter.unusedVariables false
set_option linter.unusedSimpArgs false

/-! ### words_Code: function 33 -/
def words_Code.f (k : Nat) (a0 : ByteArray) : Option (Bool) := if a0.toList = ([] : List UInt8) then (some false) else (if (a0.size : Int) ≤ 12 then ((words_every__words_Code_1.f k a0).bind fun t102 => (some t102)) else (some false))
theorem words_Code.mono : ∀ a0 k, LeO (words_Code.f k a0) (words_Code.f (k + 1) a0) := by
 intro a0 k
 unfold words_Code.f
 repeat' first
   | (with_reducible exact words_every__words_Code_1.mono _ _)
   | (with_reducible exact LeO.refl _)
   | (with_reducible exact LeO.none _)
   | (with_reducible refine LeO.ite ?_ ?_)
   | (with_reducible refine LeO.bind ?_ (fun _ => ?_))
   | exact words_every__words_Code_1.mono _ _
   | exact LeO.none _
   | refine LeO.ite ?_ ?_
   | refine LeO.bind ?_ (fun _ => ?_)
set_option maxHeartbeats 8000000 in
set_option maxRecDepth 100000 in
theorem words_Code.calls (k : Nat) (a0 : ByteArray) (r : Bool) (w : World) (h : words_Code.f k a0 = some r) :
    Calls Try.prog 33 #[.string a0] w fun e w' => e = .returned (.bool r) ∧ Below w.heap.size w w' := by
 have HB := Aside0.mk (Below.refl w.heap.size w)
 have H : (if a0.toList = ([] : List UInt8) then (some false) else (if (a0.size : Int) ≤ 12 then ((words_every__words_Code_1.f k a0).bind fun t102 => (some t102)) else (some false))) = some r := h
 clear h
 by_cases c2 : a0.toList = ([] : List UInt8)
 ·rw [if_pos c2] at H
  have c2b0 : (a0.toList == ([] : List UInt8)) = true := beq_iff_eq.mpr c2
  have c2b1 : (a0.toList != ([] : List UInt8)) = false := bne_eq_false_iff_eq.mpr c2
  clear c2
  obtain rfl := Option.some.inj H
  go_enter Try.func33, Try.ntmps33
  go_wp2
  go_ret
  exact ⟨by first | rfl | (simp [errW_none, errW_some] <;> rfl) | (simp [*, errW_none, errW_some] <;> rfl), by repeat (first | (with_reducible first | exact HB.out | apply below_alloc | apply pw_below_drewN | apply below_drew1) | exact HB.out)⟩
 ·rw [if_neg c2] at H
  have c2b0 : (a0.toList == ([] : List UInt8)) = false := beq_eq_false_iff_ne.mpr c2
  have c2b1 : (a0.toList != ([] : List UInt8)) = true := bne_iff_ne.mpr c2
  by_cases c3 : (a0.size : Int) ≤ 12
  ·rw [if_pos c3] at H
   have c3b0 : decide ((a0.size : Int) ≤ 12) = true := decide_eq_true c3
   have c3b1 : decide (a0.size ≤ 12) = true := decide_eq_true (by omega)
   clear c3
   replace H := Option.bind_eq_some_iff.mp H
   obtain ⟨t102, A40, H⟩ := H
   replace H : (some t102) = some r := H
   have A4 := Aside0.mk A40
   clear A40
   obtain rfl := Option.some.inj H
   go_enter Try.func33, Try.ntmps33
   go_wp2_with (first | (go_at_call 49; (with_reducible refine (words_every__words_Code_1.calls k a0  t102 _ A4.out).mono ?_); rintro e w5 ⟨rfl, hb⟩; have n0_ := Aside0.mk (below_step (by repeat (first | (with_reducible first | exact HB.out | apply below_alloc | apply pw_below_drewN | apply below_drew1) | exact HB.out)) hb); clear HB; have HB := n0_; clear n0_; (try clear hb); (try clear hb2); (try clear hk); (try clear hi)))
   go_ret
   exact ⟨by first | rfl | (simp [errW_none, errW_some] <;> rfl) | (simp [*, errW_none, errW_some] <;> rfl), by repeat (first | (with_reducible first | exact HB.out | apply below_alloc | apply pw_below_drewN | apply below_drew1) | exact HB.out)⟩
  ·rw [if_neg c3] at H
   have c3b0 : decide ((a0.size : Int) ≤ 12) = false := decide_eq_false c3
   have c3b1 : decide (a0.size ≤ 12) = false := decide_eq_false (by omega)
   clear c3
   obtain rfl := Option.some.inj H
   go_enter Try.func33, Try.ntmps33
   go_wp2
   go_ret
   exact ⟨by first | rfl | (simp [errW_none, errW_some] <;> rfl) | (simp [*, errW_none, errW_some] <;> rfl), by repeat (first | (with_reducible first | exact HB.out | apply below_alloc | apply pw_below_drewN | apply below_drew1) | exact HB.out)⟩

end Go.Proofs.Ytoppdlideonjjaa.M
end
section
-- Written by mprint.py (a program of this session) over the kit's print.
namespace Go.Proofs.Ytoppdlideonjjaa.M
open Go.RowKit Go.Proofs.YtoppdlideonjjaaW.PrintWords Go.Proofs.YtoppdlideonjjaaW.PrintLast Go.Proofs.YtoppdlideonjjaaW.PrintMore
attribute [local go_sem] max2_int min2_int max_two min_two max_three min_three max_four min_four   -- for this text's walks alone
set_option linter.unusedVariables false
set_option linter.unusedSimpArgs false

/-- A state of type 61 at block g of W; what its slices lead to came in by w0. -/
def IsS61 (w0 W : World) (g : Nat) (f0 : ByteArray) (f1 : Int) (f2 : Int) : Prop := W.heap[g]? = some (.cells #[.string f0, .int .i64 f1, .int .i64 f2] 61 (0, 0)) ∧ w0.heap.size ≤ g
theorem IsS61.grown {w0 W : World} {g : Nat} {f0 : ByteArray} {f1 : Int} {f2 : Int} {W1 : World} {row : Option Nat} (h : IsS61 w0 W g f0 f1 f2) (hw : W.grownBy W1 row) (hne : some g ≠ row) : IsS61 w0 W1 g f0 f1 f2 := by
 obtain ⟨hb, hg⟩ := h
 exact ⟨blk_grown hb hw hne, hg⟩
theorem IsS61.own_neN {w0 W : World} {g : Nat} {f0 : ByteArray} {f1 : Int} {f2 : Int} {α : Type} {d : Kd α} {e : Nat} {base : Nat} {ok : Nat → Prop} {v : Value} {xs : List α} (h : IsS61 w0 W g f0 f1 f2) (ho : Kd.N d e W base ok v xs) (ht : e ≠ 61) : some g ≠ v.ownBlock := by
 obtain ⟨hb, hg⟩ := h
 exact Kd.N_ne ho hb ht
theorem IsS61.fresh {w0 W : World} {g : Nat} {f0 : ByteArray} {f1 : Int} {f2 : Int} (h : IsS61 w0 W g f0 f1 f2) : ∀ k, W.heap.size ≤ k → k ≠ g := by
 obtain ⟨hb, hg⟩ := h
 exact Kd.freshB hb
theorem IsS61.kept {w0 W : World} {g : Nat} {f0 : ByteArray} {f1 : Int} {f2 : Int} {W1 : World} {S : Nat → Prop} (h : IsS61 w0 W g f0 f1 f2) (hk : Kept W W1 S) (hne : ¬ S g) : IsS61 w0 W1 g f0 f1 f2 := by
 obtain ⟨hb, hg⟩ := h
 exact ⟨blk_kept hb hk hne, hg⟩
theorem IsS61.below {w0 W : World} {g : Nat} {f0 : ByteArray} {f1 : Int} {f2 : Int} {W1 : World} (h : IsS61 w0 W g f0 f1 f2) (hw : Below W.heap.size W W1) : IsS61 w0 W1 g f0 f1 f2 := h.grown (grown_of_below hw none) (by simp)
theorem IsS61.alloc {w0 W : World} {g : Nat} {f0 : ByteArray} {f1 : Int} {f2 : Int} (h : IsS61 w0 W g f0 f1 f2) (o : Obj) : IsS61 w0 (W.alloc o) g f0 f1 f2 := h.below (below_alloc (Below.refl _ _) o)
theorem IsS61.drewN {w0 W : World} {g : Nat} {f0 : ByteArray} {f1 : Int} {f2 : Int} (h : IsS61 w0 W g f0 f1 f2) (m : Nat) : IsS61 w0 (W.drewN m) g f0 f1 f2 := h
theorem IsS61.drew {w0 W : World} {g : Nat} {f0 : ByteArray} {f1 : Int} {f2 : Int} (h : IsS61 w0 W g f0 f1 f2) : IsS61 w0 W.drew g f0 f1 f2 := h
theorem IsS61.at_ {w0 W : World} {g : Nat} {f0 : ByteArray} {f1 : Int} {f2 : Int} {w' : World} {m : Nat} (hq : W.drewN m = w') (h : IsS61 w0 W g f0 f1 f2) : IsS61 w0 w' g f0 f1 f2 := by subst hq; exact IsS61.drewN h m
theorem IsS61.apart {w0 W : World} {g : Nat} {f0 : ByteArray} {f1 : Int} {f2 : Int} {α : Type} {d : Kd α} {e : Nat} {base : Nat} {ok : Nat → Prop} {v : Value} {xs : List α} (h : IsS61 w0 W g f0 f1 f2) (ho : d.R e W base ok v xs) (ht : ∀ q, q ∈ e :: d.E → q ≠ 61) : d.R e W base (fun k => ok k ∧ k ≠ g) v xs := by
 obtain ⟨hb, hg⟩ := h
 exact Kd.R_types ho hb ht
theorem IsS61.own_ne {w0 W : World} {g : Nat} {f0 : ByteArray} {f1 : Int} {f2 : Int} {α : Type} {d : Kd α} {e : Nat} {base : Nat} {ok : Nat → Prop} {v : Value} {xs : List α} (h : IsS61 w0 W g f0 f1 f2) (ho : d.R e W base ok v xs) (ht : e ≠ 61) : some g ≠ v.ownBlock := by
 obtain ⟨hb, hg⟩ := h
 exact Kd.R_ne ho hb ht
theorem IsS61.apartQ {w0 W : World} {g : Nat} {f0 : ByteArray} {f1 : Int} {f2 : Int} {α : Type} {d : Kd α} {e : Nat} {base : Nat} {ok : Nat → Prop} {v : Value} {xs : List α} (h : IsS61 w0 W g f0 f1 f2) (ho : d.Q e W base ok v xs) (ht : ∀ q, q ∈ e :: d.E → q ≠ 61) : d.Q e W base (fun k => ok k ∧ k ≠ g) v xs := by
 obtain ⟨hb, hg⟩ := h
 exact Kd.Q_types ho hb ht
theorem IsS61.own_neQ {w0 W : World} {g : Nat} {f0 : ByteArray} {f1 : Int} {f2 : Int} {α : Type} {d : Kd α} {e : Nat} {base : Nat} {ok : Nat → Prop} {v : Value} {xs : List α} (h : IsS61 w0 W g f0 f1 f2) (ho : d.Q e W base ok v xs) (ht : e ≠ 61) : some g ≠ v.ownBlock := by
 obtain ⟨hb, hg⟩ := h
 exact Kd.Q_ne ho hb ht
theorem IsS61.apartS {w0 W : World} {g : Nat} {f0 : ByteArray} {f1 : Int} {f2 : Int} {α : Type} {d : Kd α} {e : Nat} {base : Nat} {ok : Nat → Prop} {v : Value} {xs : List α} (h : IsS61 w0 W g f0 f1 f2) (ho : d.S e W base ok v xs) (ht : ∀ q, q ∈ e :: d.E → q ≠ 61) : d.S e W base (fun k => ok k ∧ k ≠ g) v xs := by
 obtain ⟨hb, hg⟩ := h
 exact Kd.S_types ho hb ht
theorem IsS61.own_neS {w0 W : World} {g : Nat} {f0 : ByteArray} {f1 : Int} {f2 : Int} {α : Type} {d : Kd α} {e : Nat} {base : Nat} {ok : Nat → Prop} {v : Value} {xs : List α} (h : IsS61 w0 W g f0 f1 f2) (ho : d.S e W base ok v xs) (ht : e ≠ 61) : some g ≠ v.ownBlock := by
 obtain ⟨hb, hg⟩ := h
 exact Kd.S_ne ho hb ht
theorem IsS61.lt {w0 W : World} {g : Nat} {f0 : ByteArray} {f1 : Int} {f2 : Int} (h : IsS61 w0 W g f0 f1 f2) : g < W.heap.size := by
 obtain ⟨hb, hg⟩ := h
 exact blk_lt hb
theorem IsS61.ge {w0 W : World} {g : Nat} {f0 : ByteArray} {f1 : Int} {f2 : Int} (h : IsS61 w0 W g f0 f1 f2) : w0.heap.size ≤ g := by
 obtain ⟨hb, hg⟩ := h
 exact hg
theorem IsS61.ne_blk {w0 W : World} {g : Nat} {f0 : ByteArray} {f1 : Int} {f2 : Int} {a : Nat} {cs : Array Value} {t : TypeId} {fr : Nat × Nat} (h : IsS61 w0 W g f0 f1 f2) (hb2 : W.heap[a]? = some (.cells cs t fr)) (ht : t ≠ 61) : g ≠ a := by
 obtain ⟨hb, hg⟩ := h
 rintro rfl
 rw [hb] at hb2
 injection hb2 with hb2
 injection hb2 with _ ht2
 exact ht ht2.symm
theorem IsS61.far {w0 W : World} {g : Nat} {f0 : ByteArray} {f1 : Int} {f2 : Int} {p : Addr} (h : IsS61 w0 W g f0 f1 f2) (hne : g ≠ p.block) (u : Value) : IsS61 w0 (W.setCell p u) g f0 f1 f2 := by
 obtain ⟨hb, hg⟩ := h
 exact ⟨blk_far hb hne u, hg⟩
theorem cellS61_0 {W : World} {g : Nat} {f0 : ByteArray} {f1 : Int} {f2 : Int} (h : W.heap[g]? = some (.cells #[.string f0, .int .i64 f1, .int .i64 f2] 61 (0, 0))) : W.cell? ⟨g, 0, none⟩ = some (.string f0) := (blk_cell h 0).trans rfl
theorem IsS61.set_0 {w0 W : World} {g : Nat} {f0 : ByteArray} {f1 : Int} {f2 : Int} (h : IsS61 w0 W g f0 f1 f2) (x : ByteArray) : IsS61 w0 (W.setCell ⟨g, 0, none⟩ (.string x)) g x f1 f2 := by
 obtain ⟨hb, hg⟩ := h
 exact ⟨by simpa using blk_set hb 0 (.string x), hg⟩
theorem cellS61_1 {W : World} {g : Nat} {f0 : ByteArray} {f1 : Int} {f2 : Int} (h : W.heap[g]? = some (.cells #[.string f0, .int .i64 f1, .int .i64 f2] 61 (0, 0))) : W.cell? ⟨g, 1, none⟩ = some (.int .i64 f1) := (blk_cell h 1).trans rfl
theorem IsS61.set_1 {w0 W : World} {g : Nat} {f0 : ByteArray} {f1 : Int} {f2 : Int} (h : IsS61 w0 W g f0 f1 f2) (x : Int) : IsS61 w0 (W.setCell ⟨g, 1, none⟩ (.int .i64 x)) g f0 x f2 := by
 obtain ⟨hb, hg⟩ := h
 exact ⟨by simpa using blk_set hb 1 (.int .i64 x), hg⟩
theorem cellS61_2 {W : World} {g : Nat} {f0 : ByteArray} {f1 : Int} {f2 : Int} (h : W.heap[g]? = some (.cells #[.string f0, .int .i64 f1, .int .i64 f2] 61 (0, 0))) : W.cell? ⟨g, 2, none⟩ = some (.int .i64 f2) := (blk_cell h 2).trans rfl
theorem IsS61.set_2 {w0 W : World} {g : Nat} {f0 : ByteArray} {f1 : Int} {f2 : Int} (h : IsS61 w0 W g f0 f1 f2) (x : Int) : IsS61 w0 (W.setCell ⟨g, 2, none⟩ (.int .i64 x)) g f0 f1 x := by
 obtain ⟨hb, hg⟩ := h
 exact ⟨by simpa using blk_set hb 2 (.int .i64 x), hg⟩
theorem IsS61.new (w0 W : World) (f0 : ByteArray) (f1 : Int) (f2 : Int) (hB : Below w0.heap.size w0 W) : IsS61 w0 (W.alloc (.cells #[.string f0, .int .i64 f1, .int .i64 f2] 61)) W.heap.size f0 f1 f2 := ⟨by simpa using heap_alloc_new W _, hB.size⟩

/-! ### items_unit_1: function 53 -/
def items_unit_1.f (a0_0 : ByteArray) (a0_1 : Int) (a0_2 : Int) (s1_0 : ByteArray) (s1_1 : Int) (s1_2 : Int) : Option (Bool × ByteArray × Int × Int) := some ((a0_0.toList == s1_0.toList), s1_0, s1_1, s1_2)
set_option maxHeartbeats 8000000 in
set_option maxRecDepth 100000 in
theorem items_unit_1.calls (a0_0 : ByteArray) (a0_1 : Int) (a0_2 : Int) (g : Nat) (s1_0 : ByteArray) (s1_1 : Int) (s1_2 : Int) (r1 : Bool) (r2 : ByteArray) (r3 : Int) (r4 : Int) (w0 w : World) (hI : IsS61 w0 w g s1_0 s1_1 s1_2) (hB : Below w0.heap.size w0 w) (h : items_unit_1.f a0_0 a0_1 a0_2 s1_0 s1_1 s1_2 = some (r1, r2, r3, r4)) :
    Calls Try.prog 53 #[.agg #[.string a0_0, .int .i64 a0_1, .int .i64 a0_2], .pointer (some ⟨g, 0, none⟩)] w fun e w' => e = .returned (.bool r1) ∧ IsS61 w0 w' g r2 r3 r4 ∧ Below w0.heap.size w0 w' ∧ KeepBut w w' g none := by
 have hu61 := Try.underlying61
 have hu9 := Try.underlying9
 have HI1 := Aside0.mk hI
 have HK := Aside0.mk (KeepBut.refl w g none)
 have HL := Aside0.mk hB.size
 clear hI
 have HW0 := Aside0.mk hB.size
 have HB := Aside0.mk hB
 clear hB
 have H : (some ((a0_0.toList == s1_0.toList), s1_0, s1_1, s1_2)) = some (r1, r2, r3, r4) := h
 clear h
 simp only [Option.some.injEq, Prod.mk.injEq] at H
 obtain ⟨rfl, rfl, rfl, rfl⟩ := H
 go_enter Try.func53, Try.ntmps53
 go_wp2_with (first | ((with_reducible refine gate_dst (N := 2) rfl ?_); refine box_event ?hg (N := 2) ?hd (cs := #[.string a0_0, .int .i64 a0_1, .int .i64 a0_2]) (t := 61) ?hr ?_; (case hd => rfl); (case hg => rfl); (case hr => first | (go_simp; done) | (go_simp; rfl)); intro gb101 hg w3 hbox hb; have n0_ := Aside0.mk (IsS61.below (by repeat (first | (with_reducible first | exact HI1.out | apply IsS61.alloc | apply IsS61.drewN | apply IsS61.drew | apply IsS61.set_0 | apply IsS61.set_1 | apply IsS61.set_2) | exact HI1.out)) hb); have n1_ := Aside0.mk (KeepBut.trans (by repeat (first | (with_reducible first | exact HK.out | apply KeepBut.set_ | apply keep_drewN | apply keep_drew | apply keep_alloc) | exact HK.out)) (KeepBut.of_below hb g none) (.inl rfl)); have n2_ := Aside0.mk (below_step (by repeat (first | (with_reducible first | exact HB.out | apply below_alloc | apply pw_below_drewN | apply below_drew1 | refine below_set ?_ (IsS61.ge HI1.out)) | exact HB.out)) hb); have n3_ := Aside0.mk (hbox); have n4_ := Aside0.mk ((by rw [hg]; exact (keep_size (w := w) (g := g) (row := none) (by repeat (first | (with_reducible first | exact HK.out | apply KeepBut.set_ | apply keep_drewN | apply keep_drew | apply keep_alloc) | exact HK.out))) : w.heap.size ≤ gb101)); have n5_ := Aside0.mk ((Nat.le_trans HW0.out (by rw [hg]; exact (keep_size (w := w) (g := g) (row := none) (by repeat (first | (with_reducible first | exact HK.out | apply KeepBut.set_ | apply keep_drewN | apply keep_drew | apply keep_alloc) | exact HK.out))) : w.heap.size ≤ gb101) : w0.heap.size ≤ gb101)); have n6_ := Aside0.mk ((by rw [hg]; exact Nat.ne_of_lt (IsS61.lt (show IsS61 w0 _ g s1_0 s1_1 s1_2 from by repeat (first | (with_reducible first | exact HI1.out | apply IsS61.alloc | apply IsS61.drewN | apply IsS61.drew | apply IsS61.set_0 | apply IsS61.set_1 | apply IsS61.set_2) | exact HI1.out))) : g ≠ gb101)); have n7_ := Aside0.mk ((by rw [hg]; exact Nat.ne_of_gt (IsS61.lt (show IsS61 w0 _ g s1_0 s1_1 s1_2 from by repeat (first | (with_reducible first | exact HI1.out | apply IsS61.alloc | apply IsS61.drewN | apply IsS61.drew | apply IsS61.set_0 | apply IsS61.set_1 | apply IsS61.set_2) | exact HI1.out))) : gb101 ≠ g)); clear HI1; clear HK; clear HB; have HI1 := n0_; have HK := n1_; have HB := n2_; have BK101 := n3_; have GW101 := n4_; have GE101 := n5_; have NB1_101 := n6_; have NB101_1 := n7_; clear n0_ n1_ n2_ n3_ n4_ n5_ n6_ n7_; clear hb hbox hg; have hnb4 := NB101_1.out; have hnc4 := NB1_101.out; have hcz5_0 : w3.cell? ⟨gb101, 0, none⟩ = some (.string a0_0) := (blk_cell BK101.out 0).trans rfl; have hcz5_1 : w3.cell? ⟨gb101, 1, none⟩ = some (.int .i64 a0_1) := (blk_cell BK101.out 1).trans rfl; have hcz5_2 : w3.cell? ⟨gb101, 2, none⟩ = some (.int .i64 a0_2) := (blk_cell BK101.out 2).trans rfl; have hfz5_0 := blk_frozen BK101.out 0; have hfz5_1 := blk_frozen BK101.out 1; have hfz5_2 := blk_frozen BK101.out 2; obtain ⟨HGz6, hgz6⟩ := HI1.out; have hcz6_0 := cellS61_0 HGz6; have hcz6_1 := cellS61_1 HGz6; have hcz6_2 := cellS61_2 HGz6; have hfz6_0 := blk_frozen HGz6 0; have hfz6_1 := blk_frozen HGz6 1; have hfz6_2 := blk_frozen HGz6 2; clear HGz6 hgz6))
 go_ret
 exact ⟨by first | rfl | (simp [errW_none, errW_some] <;> rfl) | (simp [*, errW_none, errW_some] <;> rfl), by repeat (first | (with_reducible first | exact HI1.out | apply IsS61.alloc | apply IsS61.drewN | apply IsS61.drew | apply IsS61.set_0 | apply IsS61.set_1 | apply IsS61.set_2 | refine IsS61.far ?_ NB1_101.out _) | exact HI1.out), by repeat (first | (with_reducible first | exact HB.out | apply below_alloc | apply pw_below_drewN | apply below_drew1 | refine below_set ?_ (IsS61.ge HI1.out) | refine below_set ?_ GE101.out) | exact HB.out), by repeat (first | (with_reducible first | exact HK.out | apply KeepBut.set_ | apply keep_drewN | apply keep_drew | apply keep_alloc | refine keep_far ?_ GW101.out _) | exact HK.out)⟩

end Go.Proofs.Ytoppdlideonjjaa.M
end
section
-- Written by mprint.py (a program of this session) over the kit's print.
namespace Go.Proofs.Ytoppdlideonjjaa.M
open Go.RowKit Go.Proofs.YtoppdlideonjjaaW.PrintWords Go.Proofs.YtoppdlideonjjaaW.PrintLast Go.Proofs.YtoppdlideonjjaaW.PrintMore
attribute [local go_sem] max2_int min2_int max_two min_two max_three min_three max_four min_four   -- for this text's walks alone
set_option linter.unusedVariables false
set_option linter.unusedSimpArgs false

/-! ### api_Unit_64__items_unit_1: function 64 -/
def api_Unit_64__items_unit_1.l0 : Nat → List (S61) → Int → Int → ByteArray → Int → Int → Option (Int × ByteArray × Int × Int)
  | 0, _, _, _, _, _, _ => none
  | k + 1, x0, x7, x8, x2000, x2001, x2002 => if x8 < x7 then (if 0 ≤ x8 then (if x8 < (x0.length : Int) then ((items_unit_1.f ((rd_T61 x0 x8).f0) ((rd_T61 x0 x8).f1.f0) ((rd_T61 x0 x8).f1.f1) x2000 x2001 x2002).bind fun bt103 => (if bt103.1 = true then (some (x8, bt103.2.1, bt103.2.2.1, bt103.2.2.2)) else (api_Unit_64__items_unit_1.l0 k x0 x7 (wrap64 (x8 + 1)) bt103.2.1 bt103.2.2.1 bt103.2.2.2))) else (none)) else (none)) else (some ((-1), x2000, x2001, x2002))
def api_Unit_64__items_unit_1.f (k : Nat) (l0 : List (S61)) (s1_0 : ByteArray) (s1_1 : Int) (s1_2 : Int) : Option (Int × ByteArray × Int × Int) := api_Unit_64__items_unit_1.l0 k l0 (l0.length : Int) 0 s1_0 s1_1 s1_2
theorem api_Unit_64__items_unit_1.mono_l : ∀ k, (∀ y0 y1 y2 y3 y4 y5, LeO (api_Unit_64__items_unit_1.l0 k y0 y1 y2 y3 y4 y5) (api_Unit_64__items_unit_1.l0 (k + 1) y0 y1 y2 y3 y4 y5))
  | 0 => fun _ _ _ _ _ _ r h => by simp [api_Unit_64__items_unit_1.l0] at h
  | k + 1 => by
    have ih0 := api_Unit_64__items_unit_1.mono_l k
    · intro y0 y1 y2 y3 y4 y5
      unfold api_Unit_64__items_unit_1.l0
      repeat' first
      | (with_reducible exact ih0 _ _ _ _ _ _)
      | (with_reducible exact LeO.refl _)
      | (with_reducible exact LeO.none _)
      | (with_reducible refine LeO.ite ?_ ?_)
      | (with_reducible refine LeO.bind ?_ (fun _ => ?_))
      | exact ih0 _ _ _ _ _ _
      | exact LeO.none _
      | refine LeO.ite ?_ ?_
      | refine LeO.bind ?_ (fun _ => ?_)
theorem api_Unit_64__items_unit_1.mono : ∀ a0 a1 a2 a3 k, LeO (api_Unit_64__items_unit_1.f k a0 a1 a2 a3) (api_Unit_64__items_unit_1.f (k + 1) a0 a1 a2 a3) := by
 intro a0 a1 a2 a3 k
 have ih0 := api_Unit_64__items_unit_1.mono_l k
 unfold api_Unit_64__items_unit_1.f
 repeat' first
   | (with_reducible exact ih0 _ _ _ _ _ _)
   | (with_reducible exact LeO.refl _)
   | (with_reducible exact LeO.none _)
   | (with_reducible refine LeO.ite ?_ ?_)
   | (with_reducible refine LeO.bind ?_ (fun _ => ?_))
   | exact ih0 _ _ _ _ _ _
   | exact LeO.none _
   | refine LeO.ite ?_ ?_
   | refine LeO.bind ?_ (fun _ => ?_)
set_option maxHeartbeats 8000000 in
set_option maxRecDepth 100000 in
theorem api_Unit_64__items_unit_1.calls (k : Nat) (A0 : Option Addr) (c0 : Nat) (l0 : List (S61)) (g : Nat) (s1_0 : ByteArray) (s1_1 : Int) (s1_2 : Int) (r1 : Int) (r2 : ByteArray) (r3 : Int) (r4 : Int) (w0 w : World) (hI : IsS61 w0 w g s1_0 s1_1 s1_2) (hB : Below w0.heap.size w0 w) (hr0 : ∀ W_, KeepBut w W_ g none → Kd.C k61 W_ A0 l0.length l0) (hc0 : l0.length ≤ c0) (h : api_Unit_64__items_unit_1.f k l0 s1_0 s1_1 s1_2 = some (r1, r2, r3, r4)) :
    Calls Try.prog 64 #[.slice A0 l0.length c0, .func (.func 53) #[] #[.pointer (some ⟨g, 0, none⟩)]] w fun e w' => e = .returned (.int .i64 r1) ∧ IsS61 w0 w' g r2 r3 r4 ∧ Below w0.heap.size w0 w' ∧ KeepBut w w' g none := by
 have hu61 := Try.underlying61
 have HR0 := Aside0.mk hr0
 have HC0 := Aside0.mk hc0
 clear hr0 hc0
 have HI1 := Aside0.mk hI
 have HK := Aside0.mk (KeepBut.refl w g none)
 have HL := Aside0.mk hB.size
 clear hI
 have HW0 := Aside0.mk hB.size
 have HB := Aside0.mk hB
 clear hB
 have H : (api_Unit_64__items_unit_1.l0 k l0 (l0.length : Int) 0 s1_0 s1_1 s1_2) = some (r1, r2, r3, r4) := h
 clear h
 have H' := Aside0.mk H
 clear H
 go_enter Try.func64, Try.ntmps64
 go_wp2
 go_loopg [8] k (fun kq v8 w' => ∃ (x8_1 : Int), v8 = .int .i64 x8_1 ∧ Aside0 (api_Unit_64__items_unit_1.l0 kq l0 (l0.length : Int) x8_1 s1_0 s1_1 s1_2 = some (r1, r2, r3, r4)) ∧ Aside0 (kq ≤ k) ∧ Aside0 (IsS61 w0 w' g s1_0 s1_1 s1_2) ∧ Aside0 (KeepBut w w' g none) ∧ Aside0 (Below w0.heap.size w0 w'))
 case atStart => exact ⟨(0), (by first | rfl | (simp; done) | (simp [*]; done)), H', ⟨Nat.le_refl _⟩, ⟨by repeat (first | (with_reducible first | exact HI1.out | apply IsS61.alloc | apply IsS61.drewN | apply IsS61.drew | apply IsS61.set_0 | apply IsS61.set_1 | apply IsS61.set_2) | exact HI1.out)⟩, ⟨by repeat (first | (with_reducible first | exact HK.out | apply KeepBut.set_ | apply keep_drewN | apply keep_drew | apply keep_alloc) | exact HK.out)⟩, ⟨by repeat (first | (with_reducible first | exact HB.out | apply below_alloc | apply pw_below_drewN | apply below_drew1 | refine below_set ?_ (IsS61.ge HI1.out)) | exact HB.out)⟩⟩
 case round =>
  clear H'
  try clear p2
  obtain ⟨x8_1, rfl, HA, HK1, HI1, HK, HB⟩ := hrel
  cases gk with
  | zero => exact absurd HA.out (by simp [api_Unit_64__items_unit_1.l0])
  | succ k1 =>
   have H := HA.out
   clear HA
   simp only [api_Unit_64__items_unit_1.l0] at H
   by_cases c3 : x8_1 < (l0.length : Int)
   ·rw [if_pos c3] at H
    have c3b0 : decide (x8_1 < (l0.length : Int)) = true := decide_eq_true c3
    clear c3
    by_cases c4 : 0 ≤ x8_1
    ·rw [if_pos c4] at H
     have c4b0 : decide (0 ≤ x8_1) = true := decide_eq_true c4
     clear c4
     by_cases c5 : x8_1 < (l0.length : Int)
     ·rw [if_pos c5] at H
      have c5b0 : decide (x8_1 < (l0.length : Int)) = true := decide_eq_true c5
      clear c5
      replace H := Option.bind_eq_some_iff.mp H
      obtain ⟨⟨t103, t104, t105, t106⟩, A60, H⟩ := H
      replace H : (if t103 = true then (some (x8_1, t104, t105, t106)) else (api_Unit_64__items_unit_1.l0 k1 l0 (l0.length : Int) (wrap64 (x8_1 + 1)) t104 t105 t106)) = some (r1, r2, r3, r4) := H
      have A6 := Aside0.mk A60
      clear A60
      by_cases c7 : t103 = true
      ·subst c7
       have H1 : (some (x8_1, t104, t105, t106)) = some (r1, r2, r3, r4) := by rw [if_pos rfl] at H; exact H
       clear H
       have H := H1
       clear H1
       simp only [Option.some.injEq, Prod.mk.injEq] at H
       obtain ⟨rfl, rfl, rfl, rfl⟩ := H
       have p102 : 0 ≤ (x8_1 : Int) := of_decide_eq_true (by first | (with_reducible assumption) | assumption)
       have q102 : x8_1 < (l0.length : Int) := of_decide_eq_true (by first | (with_reducible assumption) | assumption)
       obtain ⟨ad102, e102, hx102_0, hx102_1, hx102_2⟩ := at_T61 (Kd.C_foot_now HR0.out HK.out) x8_1 p102 q102
       cases e102
       replace p102 := eq_true p102
       replace q102 := eq_true q102
       go_wp2_with (first | (go_at_call 53; (with_reducible refine (items_unit_1.calls ((rd_T61 l0 x8_1).f0) ((rd_T61 l0 x8_1).f1.f0) ((rd_T61 l0 x8_1).f1.f1) g s1_0 s1_1 s1_2 true t104 t105 t106 w0 _ ?side1 ?side2 A6.out).mono ?_); (case side1 => repeat (first | (with_reducible first | exact HI1.out | apply IsS61.alloc | apply IsS61.drewN | apply IsS61.drew | apply IsS61.set_0 | apply IsS61.set_1 | apply IsS61.set_2) | exact HI1.out)); (case side2 => repeat (first | (with_reducible first | exact HB.out | apply below_alloc | apply pw_below_drewN | apply below_drew1 | refine below_set ?_ (IsS61.ge HI1.out)) | exact HB.out)); rintro e w8 ⟨rfl, hi, hb, hk⟩; have n0_ := Aside0.mk (KeepBut.trans (by repeat (first | (with_reducible first | exact HK.out | apply KeepBut.set_ | apply keep_drewN | apply keep_drew | apply keep_alloc) | exact HK.out)) hk (.inl rfl)); have n1_ := Aside0.mk (hb); have n2_ := Aside0.mk (hi); clear HK; clear HB; clear HI1; have HK := n0_; have HB := n1_; have HI1 := n2_; clear n0_ n1_ n2_; (try clear hb); (try clear hb2); (try clear hk); (try clear hi)))
       go_ret
       exact ⟨by first | rfl | (simp [errW_none, errW_some] <;> rfl) | (simp [*, errW_none, errW_some] <;> rfl), by repeat (first | (with_reducible first | exact HI1.out | apply IsS61.alloc | apply IsS61.drewN | apply IsS61.drew | apply IsS61.set_0 | apply IsS61.set_1 | apply IsS61.set_2) | exact HI1.out), by repeat (first | (with_reducible first | exact HB.out | apply below_alloc | apply pw_below_drewN | apply below_drew1 | refine below_set ?_ (IsS61.ge HI1.out)) | exact HB.out), by repeat (first | (with_reducible first | exact HK.out | apply KeepBut.set_ | apply keep_drewN | apply keep_drew | apply keep_alloc) | exact HK.out)⟩
      ·replace c7 := Bool.eq_false_iff.mpr c7
       subst c7
       have H1 : (api_Unit_64__items_unit_1.l0 k1 l0 (l0.length : Int) (wrap64 (x8_1 + 1)) t104 t105 t106) = some (r1, r2, r3, r4) := by rw [if_neg (show ¬ (false = true) by decide)] at H; exact H
       clear H
       have H := H1
       clear H1
       have H' := Aside0.mk H
       clear H
       have p102 : 0 ≤ (x8_1 : Int) := of_decide_eq_true (by first | (with_reducible assumption) | assumption)
       have q102 : x8_1 < (l0.length : Int) := of_decide_eq_true (by first | (with_reducible assumption) | assumption)
       obtain ⟨ad102, e102, hx102_0, hx102_1, hx102_2⟩ := at_T61 (Kd.C_foot_now HR0.out HK.out) x8_1 p102 q102
       cases e102
       replace p102 := eq_true p102
       replace q102 := eq_true q102
       go_wp2_with (first | (go_at_call 53; (with_reducible refine (items_unit_1.calls ((rd_T61 l0 x8_1).f0) ((rd_T61 l0 x8_1).f1.f0) ((rd_T61 l0 x8_1).f1.f1) g s1_0 s1_1 s1_2 false t104 t105 t106 w0 _ ?side1 ?side2 A6.out).mono ?_); (case side1 => repeat (first | (with_reducible first | exact HI1.out | apply IsS61.alloc | apply IsS61.drewN | apply IsS61.drew | apply IsS61.set_0 | apply IsS61.set_1 | apply IsS61.set_2) | exact HI1.out)); (case side2 => repeat (first | (with_reducible first | exact HB.out | apply below_alloc | apply pw_below_drewN | apply below_drew1 | refine below_set ?_ (IsS61.ge HI1.out)) | exact HB.out)); rintro e w9 ⟨rfl, hi, hb, hk⟩; have n0_ := Aside0.mk (KeepBut.trans (by repeat (first | (with_reducible first | exact HK.out | apply KeepBut.set_ | apply keep_drewN | apply keep_drew | apply keep_alloc) | exact HK.out)) hk (.inl rfl)); have n1_ := Aside0.mk (hb); have n2_ := Aside0.mk (hi); clear HK; clear HB; clear HI1; have HK := n0_; have HB := n1_; have HI1 := n2_; clear n0_ n1_ n2_; (try clear hb); (try clear hb2); (try clear hk); (try clear hi)))
       have HQ0_ : s1_0 = t104 := by (have hh := A6.out; simp only [items_unit_1.f, Option.some.injEq, Prod.mk.injEq] at hh; exact hh.2.1)
       have HQ1_ : s1_1 = t105 := by (have hh := A6.out; simp only [items_unit_1.f, Option.some.injEq, Prod.mk.injEq] at hh; exact hh.2.2.1)
       have HQ2_ : s1_2 = t106 := by (have hh := A6.out; simp only [items_unit_1.f, Option.some.injEq, Prod.mk.injEq] at hh; exact hh.2.2.2)
       subst HQ0_
       subst HQ1_
       subst HQ2_
       go_roundg k1
       case measure => have := HK1.out; omega
       case rel => exact ⟨(wrap64 (x8_1 + 1)), (by first | rfl | (simp; done) | (simp [*]; done)), H', ⟨by have := HK1.out; omega⟩, ⟨by repeat (first | (with_reducible first | exact HI1.out | apply IsS61.alloc | apply IsS61.drewN | apply IsS61.drew | apply IsS61.set_0 | apply IsS61.set_1 | apply IsS61.set_2) | exact HI1.out)⟩, ⟨by repeat (first | (with_reducible first | exact HK.out | apply KeepBut.set_ | apply keep_drewN | apply keep_drew | apply keep_alloc) | exact HK.out)⟩, ⟨by repeat (first | (with_reducible first | exact HB.out | apply below_alloc | apply pw_below_drewN | apply below_drew1 | refine below_set ?_ (IsS61.ge HI1.out)) | exact HB.out)⟩⟩
     ·rw [if_neg c5] at H
      exact absurd H (by simp)
    ·rw [if_neg c4] at H
     exact absurd H (by simp)
   ·rw [if_neg c3] at H
    have c3b0 : decide (x8_1 < (l0.length : Int)) = false := decide_eq_false c3
    clear c3
    simp only [Option.some.injEq, Prod.mk.injEq] at H
    obtain ⟨rfl, rfl, rfl, rfl⟩ := H
    go_wp2
    go_ret
    exact ⟨by first | rfl | (simp [errW_none, errW_some] <;> rfl) | (simp [*, errW_none, errW_some] <;> rfl), by repeat (first | (with_reducible first | exact HI1.out | apply IsS61.alloc | apply IsS61.drewN | apply IsS61.drew | apply IsS61.set_0 | apply IsS61.set_1 | apply IsS61.set_2) | exact HI1.out), by repeat (first | (with_reducible first | exact HB.out | apply below_alloc | apply pw_below_drewN | apply below_drew1 | refine below_set ?_ (IsS61.ge HI1.out)) | exact HB.out), by repeat (first | (with_reducible first | exact HK.out | apply KeepBut.set_ | apply keep_drewN | apply keep_drew | apply keep_alloc) | exact HK.out)⟩

theorem api_Unit_64__items_unit_1.keeps : ∀ (k : Nat) (l : List S61) (n x : Int) (s0 : ByteArray) (s1 s2 : Int) (r : Int × ByteArray × Int × Int), api_Unit_64__items_unit_1.l0 k l n x s0 s1 s2 = some r → r.2 = (s0, s1, s2)
  | 0 => fun _ _ _ _ _ _ r h => by simp [api_Unit_64__items_unit_1.l0] at h
  | k + 1 => fun l n x s0 s1 s2 r h => by
    unfold api_Unit_64__items_unit_1.l0 at h
    split at h
    · split at h
      · split at h
        · simp only [items_unit_1.f, Option.bind_some] at h
          split at h
          · simp only [Option.some.injEq] at h
            rw [← h]
          · exact api_Unit_64__items_unit_1.keeps k l n _ s0 s1 s2 r h
        · cases h
      · cases h
    · simp only [Option.some.injEq] at h
      rw [← h]
end Go.Proofs.Ytoppdlideonjjaa.M
end
section
-- Written by mprint.py (a program of this session) over the kit's print.
namespace Go.Proofs.Ytoppdlideonjjaa.M
open Go.RowKit Go.Proofs.YtoppdlideonjjaaW.PrintWords Go.Proofs.YtoppdlideonjjaaW.PrintLast Go.Proofs.YtoppdlideonjjaaW.PrintMore
attribute [local go_sem] max2_int min2_int max_two min_two max_three min_three max_four min_four   -- for this text's walks alone
set_option linter.unusedVariables false
set_option linter.unusedSimpArgs false

/-! ### api_Unit_54__items_unit_1: function 54 -/
def api_Unit_54__items_unit_1.f (k : Nat) (l0 : List (S61)) (s1_0 : ByteArray) (s1_1 : Int) (s1_2 : Int) : Option (Bool × ByteArray × Int × Int) := (api_Unit_64__items_unit_1.f k l0 s1_0 s1_1 s1_2).bind fun bt107 => (some (decide (bt107.1 ≥ 0), bt107.2.1, bt107.2.2.1, bt107.2.2.2))
theorem api_Unit_54__items_unit_1.mono : ∀ a0 a1 a2 a3 k, LeO (api_Unit_54__items_unit_1.f k a0 a1 a2 a3) (api_Unit_54__items_unit_1.f (k + 1) a0 a1 a2 a3) := by
 intro a0 a1 a2 a3 k
 unfold api_Unit_54__items_unit_1.f
 repeat' first
   | (with_reducible exact api_Unit_64__items_unit_1.mono _ _ _ _ _)
   | (with_reducible exact LeO.refl _)
   | (with_reducible exact LeO.none _)
   | (with_reducible refine LeO.ite ?_ ?_)
   | (with_reducible refine LeO.bind ?_ (fun _ => ?_))
   | exact api_Unit_64__items_unit_1.mono _ _ _ _ _
   | exact LeO.none _
   | refine LeO.ite ?_ ?_
   | refine LeO.bind ?_ (fun _ => ?_)
set_option maxHeartbeats 8000000 in
set_option maxRecDepth 100000 in
theorem api_Unit_54__items_unit_1.calls (k : Nat) (A0 : Option Addr) (c0 : Nat) (l0 : List (S61)) (g : Nat) (s1_0 : ByteArray) (s1_1 : Int) (s1_2 : Int) (r1 : Bool) (r2 : ByteArray) (r3 : Int) (r4 : Int) (w0 w : World) (hI : IsS61 w0 w g s1_0 s1_1 s1_2) (hB : Below w0.heap.size w0 w) (hr0 : ∀ W_, KeepBut w W_ g none → Kd.C k61 W_ A0 l0.length l0) (hc0 : l0.length ≤ c0) (h : api_Unit_54__items_unit_1.f k l0 s1_0 s1_1 s1_2 = some (r1, r2, r3, r4)) :
    Calls Try.prog 54 #[.slice A0 l0.length c0, .func (.func 53) #[] #[.pointer (some ⟨g, 0, none⟩)]] w fun e w' => e = .returned (.bool r1) ∧ IsS61 w0 w' g r2 r3 r4 ∧ Below w0.heap.size w0 w' ∧ KeepBut w w' g none := by
 have HR0 := Aside0.mk hr0
 have HC0 := Aside0.mk hc0
 clear hr0 hc0
 have HI1 := Aside0.mk hI
 have HK := Aside0.mk (KeepBut.refl w g none)
 have HL := Aside0.mk hB.size
 clear hI
 have HW0 := Aside0.mk hB.size
 have HB := Aside0.mk hB
 clear hB
 have H : ((api_Unit_64__items_unit_1.f k l0 s1_0 s1_1 s1_2).bind fun bt107 => (some (decide (bt107.1 ≥ 0), bt107.2.1, bt107.2.2.1, bt107.2.2.2))) = some (r1, r2, r3, r4) := h
 clear h
 replace H := Option.bind_eq_some_iff.mp H
 obtain ⟨⟨t107, t108, t109, t110⟩, A30, H⟩ := H
 replace H : (some (decide (t107 ≥ 0), t108, t109, t110)) = some (r1, r2, r3, r4) := H
 have A3 := Aside0.mk A30
 clear A30
 simp only [Option.some.injEq, Prod.mk.injEq] at H
 obtain ⟨rfl, rfl, rfl, rfl⟩ := H
 go_enter Try.func54, Try.ntmps54
 go_wp2_with (first | ((with_reducible refine gate_callee (f := 64) rfl ?_); refine goesL_ (some 7) rfl rfl Try.func64 (by kernel_rfl) rfl #[.slice A0 l0.length c0, .func (.func 53) #[] #[.pointer (some ⟨g, 0, none⟩)]] rfl (by (try simp only [List.map_toArray, List.map_cons, List.map_nil]); first | done | rfl | (simp only [List.length_drop, List.length_take]; rfl)) ?_; (with_reducible refine (api_Unit_64__items_unit_1.calls k _ _ l0 g s1_0 s1_1 s1_2 t107 t108 t109 t110 w0 _ ?side1 ?side2 ?side3 ?side4 A3.out).mono ?_); (case side1 => repeat (first | (with_reducible first | exact HI1.out | apply IsS61.alloc | apply IsS61.drewN | apply IsS61.drew | apply IsS61.set_0 | apply IsS61.set_1 | apply IsS61.set_2) | exact HI1.out)); (case side2 => repeat (first | (with_reducible first | exact HB.out | apply below_alloc | apply pw_below_drewN | apply below_drew1 | refine below_set ?_ (IsS61.ge HI1.out)) | exact HB.out)); (case side3 => exact Kd.C_foot_step HR0.out (by repeat (first | (with_reducible first | exact HK.out | apply KeepBut.set_ | apply keep_drewN | apply keep_drew | apply keep_alloc) | exact HK.out))); (case side4 => exact HC0.out); rintro e w4 ⟨rfl, hi, hb, hk⟩; refine ⟨_, rfl, ?_⟩; have n0_ := Aside0.mk (KeepBut.trans (by repeat (first | (with_reducible first | exact HK.out | apply KeepBut.set_ | apply keep_drewN | apply keep_drew | apply keep_alloc) | exact HK.out)) hk (.inl rfl)); have n1_ := Aside0.mk (hb); have n2_ := Aside0.mk (hi); clear HK; clear HB; clear HI1; have HK := n0_; have HB := n1_; have HI1 := n2_; clear n0_ n1_ n2_; (try clear hb); (try clear hb2); (try clear hk); (try clear hi)))
 go_ret
 exact ⟨by first | rfl | (simp [errW_none, errW_some] <;> rfl) | (simp [*, errW_none, errW_some] <;> rfl), by repeat (first | (with_reducible first | exact HI1.out | apply IsS61.alloc | apply IsS61.drewN | apply IsS61.drew | apply IsS61.set_0 | apply IsS61.set_1 | apply IsS61.set_2) | exact HI1.out), by repeat (first | (with_reducible first | exact HB.out | apply below_alloc | apply pw_below_drewN | apply below_drew1 | refine below_set ?_ (IsS61.ge HI1.out)) | exact HB.out), by repeat (first | (with_reducible first | exact HK.out | apply KeepBut.set_ | apply keep_drewN | apply keep_drew | apply keep_alloc) | exact HK.out)⟩

theorem api_Unit_54__items_unit_1.keeps (k : Nat) (l : List S61) (s0 : ByteArray) (s1 s2 : Int) (r : Bool × ByteArray × Int × Int) (h : api_Unit_54__items_unit_1.f k l s0 s1 s2 = some r) : r.2 = (s0, s1, s2) := by
  unfold api_Unit_54__items_unit_1.f at h
  obtain ⟨q, hq, h⟩ := Option.bind_eq_some_iff.1 h
  have hk := api_Unit_64__items_unit_1.keeps _ _ _ _ _ _ _ _ hq
  simp only [Option.some.injEq] at h
  rw [← h, hk]
end Go.Proofs.Ytoppdlideonjjaa.M
end
section
-- Written by mprint.py (a program of this session) over the kit's print.
namespace Go.Proofs.Ytoppdlideonjjaa.M
open Go.RowKit Go.Proofs.YtoppdlideonjjaaW.PrintWords Go.Proofs.YtoppdlideonjjaaW.PrintLast Go.Proofs.YtoppdlideonjjaaW.PrintMore
attribute [local go_sem] max2_int min2_int max_two min_two max_three min_three max_four min_four   -- for this text's walks alone
set_option linter.unusedVariables false
set_option linter.unusedSimpArgs false

/-! ### frac_size: function 47 -/
def frac_size.f (a0 : Int) : Option (Int) := if a0 < 0 then (some (IntKind.u64.wrap (-(IntKind.u64.wrap (a0))))) else (some (IntKind.u64.wrap (a0)))
set_option maxHeartbeats 8000000 in
set_option maxRecDepth 100000 in
theorem frac_size.calls (a0 : Int) (r : Int) (w : World) (h : frac_size.f a0 = some r) :
    Calls Try.prog 47 #[.int .i64 a0] w fun e w' => e = .returned (.int .u64 r) ∧ Drawn0 w w' := by
 have H : (if a0 < 0 then (some (IntKind.u64.wrap (-(IntKind.u64.wrap (a0))))) else (some (IntKind.u64.wrap (a0)))) = some r := h
 clear h
 by_cases c2 : a0 < 0
 ·rw [if_pos c2] at H
  have c2b0 : decide (a0 < 0) = true := decide_eq_true c2
  clear c2
  obtain rfl := Option.some.inj H
  go_enter Try.func47, Try.ntmps47
  go_wp2
  go_ret
  exact ⟨by first | rfl | (simp; done) | (simp [*]; done), by repeat (first | exact Drawn0.refl _ | apply Drawn0.step)⟩
 ·rw [if_neg c2] at H
  have c2b0 : decide (a0 < 0) = false := decide_eq_false c2
  clear c2
  obtain rfl := Option.some.inj H
  go_enter Try.func47, Try.ntmps47
  go_wp2
  go_ret
  exact ⟨by first | rfl | (simp; done) | (simp [*]; done), by repeat (first | exact Drawn0.refl _ | apply Drawn0.step)⟩

end Go.Proofs.Ytoppdlideonjjaa.M
end
section
-- Written by mprint.py (a program of this session) over the kit's print.
namespace Go.Proofs.Ytoppdlideonjjaa.M
open Go.RowKit Go.Proofs.YtoppdlideonjjaaW.PrintWords Go.Proofs.YtoppdlideonjjaaW.PrintLast Go.Proofs.YtoppdlideonjjaaW.PrintMore
attribute [local go_sem] max2_int min2_int max_two min_two max_three min_three max_four min_four   -- for this text's walks alone
set_option linter.unusedVariables false
set_option linter.unusedSimpArgs false

/-! ### frac_gcd: function 48 -/
def frac_gcd.l0 : Nat → Int → Int → Option (Int)
  | 0, _, _ => none
  | k + 1, x0, x1 => if x1 = 0 then (some x0) else (frac_gcd.l0 k x1 (Int.tmod x0 x1))
def frac_gcd.f (k : Nat) (a0 : Int) (a1 : Int) : Option (Int) := frac_gcd.l0 k a0 a1
theorem frac_gcd.mono_l : ∀ k, (∀ y0 y1, LeO (frac_gcd.l0 k y0 y1) (frac_gcd.l0 (k + 1) y0 y1))
  | 0 => fun _ _ r h => by simp [frac_gcd.l0] at h
  | k + 1 => by
    have ih0 := frac_gcd.mono_l k
    · intro y0 y1
      unfold frac_gcd.l0
      repeat' first
      | (with_reducible exact ih0 _ _)
      | (with_reducible exact LeO.refl _)
      | (with_reducible exact LeO.none _)
      | (with_reducible refine LeO.ite ?_ ?_)
      | (with_reducible refine LeO.bind ?_ (fun _ => ?_))
      | exact ih0 _ _
      | exact LeO.none _
      | refine LeO.ite ?_ ?_
      | refine LeO.bind ?_ (fun _ => ?_)
theorem frac_gcd.mono : ∀ a0 a1 k, LeO (frac_gcd.f k a0 a1) (frac_gcd.f (k + 1) a0 a1) := by
 intro a0 a1 k
 have ih0 := frac_gcd.mono_l k
 unfold frac_gcd.f
 repeat' first
   | (with_reducible exact ih0 _ _)
   | (with_reducible exact LeO.refl _)
   | (with_reducible exact LeO.none _)
   | (with_reducible refine LeO.ite ?_ ?_)
   | (with_reducible refine LeO.bind ?_ (fun _ => ?_))
   | exact ih0 _ _
   | exact LeO.none _
   | refine LeO.ite ?_ ?_
   | refine LeO.bind ?_ (fun _ => ?_)
set_option maxHeartbeats 8000000 in
set_option maxRecDepth 100000 in
theorem frac_gcd.calls (k : Nat) (a0 : Int) (a1 : Int) (r : Int) (w : World) (h : frac_gcd.f k a0 a1 = some r) :
    Calls Try.prog 48 #[.int .u64 a0, .int .u64 a1] w fun e w' => e = .returned (.int .u64 r) ∧ Drawn0 w w' := by
 have H : (frac_gcd.l0 k a0 a1) = some r := h
 clear h
 have H' := Aside0.mk H
 clear H
 go_enter Try.func48, Try.ntmps48
 go_wp2
 repeat (go_quiet (fail); try go_wp2)
 go_loopg [0, 1] k (fun kq v0 v1 w' => ∃ (x0_1 : Int) (x1_1 : Int), v0 = .int .u64 x0_1 ∧ v1 = .int .u64 x1_1 ∧ Aside0 (frac_gcd.l0 kq x0_1 x1_1 = some r) ∧ Aside0 (kq ≤ k) ∧ Drawn0 w w')
 case atStart => exact ⟨(a0), (a1), (by first | rfl | (simp; done) | (simp [*]; done)), (by first | rfl | (simp; done) | (simp [*]; done)), H', ⟨Nat.le_refl _⟩, by repeat (first | exact Drawn0.refl _ | apply Drawn0.step)⟩
 case round =>
  clear H'
  try clear p2
  obtain ⟨x0_1, x1_1, rfl, rfl, HA, HK1, ⟨m1, rfl⟩⟩ := hrel
  cases gk with
  | zero => exact absurd HA.out (by simp [frac_gcd.l0])
  | succ k1 =>
   have H := HA.out
   clear HA
   simp only [frac_gcd.l0] at H
   by_cases c3 : x1_1 = 0
   ·rw [if_pos c3] at H
    have c3b0 : (x1_1 == 0) = true := beq_iff_eq.mpr c3
    have c3b1 : (x1_1 != 0) = false := bne_eq_false_iff_eq.mpr c3
    clear c3
    obtain rfl := Option.some.inj H
    go_wp2
    repeat (go_quiet (fail); try go_wp2)
    go_ret
    exact ⟨by first | rfl | (simp; done) | (simp [*]; done), by repeat (first | exact Drawn0.refl _ | apply Drawn0.step)⟩
   ·rw [if_neg c3] at H
    have c3b0 : (x1_1 == 0) = false := beq_eq_false_iff_ne.mpr c3
    have c3b1 : (x1_1 != 0) = true := bne_iff_ne.mpr c3
    have H' := Aside0.mk H
    clear H
    go_wp2
    repeat (go_quiet (fail); try go_wp2)
    go_roundg k1
    case measure => have := HK1.out; omega
    case rel => exact ⟨(x1_1), (Int.tmod x0_1 x1_1), (by first | rfl | (simp; done) | (simp [*]; done)), (by first | rfl | (simp; done) | (simp [*]; done)), H', ⟨by have := HK1.out; omega⟩, by repeat (first | exact Drawn0.refl _ | apply Drawn0.step)⟩

end Go.Proofs.Ytoppdlideonjjaa.M
end
section
-- Written by mprint.py (a program of this session) over the kit's print.
namespace Go.Proofs.Ytoppdlideonjjaa.M
open Go.RowKit Go.Proofs.YtoppdlideonjjaaW.PrintWords Go.Proofs.YtoppdlideonjjaaW.PrintLast Go.Proofs.YtoppdlideonjjaaW.PrintMore
attribute [local go_sem] max2_int min2_int max_two min_two max_three min_three max_four min_four   -- for this text's walks alone
set_option linter.unusedVariables false
set_option linter.unusedSimpArgs false

/-! ### frac_Right: function 55 -/
def frac_Right.j0 : Nat → Bool → Int → Int → Option (Bool)
  | 0, _, _, _ => none
  | k + 1, x16, x102000, x102001 => if x16 = true then (some false) else ((frac_size.f x102000).bind fun t103 => ((frac_size.f x102001).bind fun t104 => ((frac_gcd.f k t103 t104).bind fun t105 => (some (t105 == 1)))))
def frac_Right.f (k : Nat) (a0_0 : Int) (a0_1 : Int) : Option (Bool) := if a0_1 < 1 then (frac_Right.j0 k true a0_0 a0_1) else (if a0_1 > 1000000 then (frac_Right.j0 k true a0_0 a0_1) else ((frac_size.f a0_0).bind fun t102 => (frac_Right.j0 k (decide (t102 > 1000000)) a0_0 a0_1)))
theorem frac_Right.mono_l : ∀ k, (∀ y0 y1 y2, LeO (frac_Right.j0 k y0 y1 y2) (frac_Right.j0 (k + 1) y0 y1 y2))
  | 0 => fun _ _ _ r h => by simp [frac_Right.j0] at h
  | k + 1 => by
    have ih0 := frac_Right.mono_l k
    · intro y0 y1 y2
      unfold frac_Right.j0
      repeat' first
      | (with_reducible exact ih0 _ _ _)
      | (with_reducible exact frac_gcd.mono _ _ _)
      | (with_reducible exact LeO.refl _)
      | (with_reducible exact LeO.none _)
      | (with_reducible refine LeO.ite ?_ ?_)
      | (with_reducible refine LeO.bind ?_ (fun _ => ?_))
      | exact ih0 _ _ _
      | exact frac_gcd.mono _ _ _
      | exact LeO.none _
      | refine LeO.ite ?_ ?_
      | refine LeO.bind ?_ (fun _ => ?_)
theorem frac_Right.mono : ∀ a0 a1 k, LeO (frac_Right.f k a0 a1) (frac_Right.f (k + 1) a0 a1) := by
 intro a0 a1 k
 have ih0 := frac_Right.mono_l k
 unfold frac_Right.f
 repeat' first
   | (with_reducible exact ih0 _ _ _)
   | (with_reducible exact frac_gcd.mono _ _ _)
   | (with_reducible exact LeO.refl _)
   | (with_reducible exact LeO.none _)
   | (with_reducible refine LeO.ite ?_ ?_)
   | (with_reducible refine LeO.bind ?_ (fun _ => ?_))
   | exact ih0 _ _ _
   | exact frac_gcd.mono _ _ _
   | exact LeO.none _
   | refine LeO.ite ?_ ?_
   | refine LeO.bind ?_ (fun _ => ?_)
set_option maxHeartbeats 8000000 in
set_option maxRecDepth 100000 in
theorem frac_Right.calls (k : Nat) (a0_0 : Int) (a0_1 : Int) (r : Bool) (w : World) (h : frac_Right.f k a0_0 a0_1 = some r) :
    Calls Try.prog 55 #[.agg #[.int .i64 a0_0, .int .i64 a0_1]] w fun e w' => e = .returned (.bool r) ∧ Below w.heap.size w w' := by
 have hu35 := Try.underlying35
 have hu3 := Try.underlying3
 have HB := Aside0.mk (Below.refl w.heap.size w)
 have H : (if a0_1 < 1 then (frac_Right.j0 k true a0_0 a0_1) else (if a0_1 > 1000000 then (frac_Right.j0 k true a0_0 a0_1) else ((frac_size.f a0_0).bind fun t102 => (frac_Right.j0 k (decide (t102 > 1000000)) a0_0 a0_1)))) = some r := h
 clear h
 have HC2 := Aside0.mk H
 clear H
 go_enter Try.func55, Try.ntmps55
 go_upto_region 1 with (first | ((with_reducible refine gate_dst (N := 1) rfl ?_); refine box_event ?hg (N := 1) ?hd (cs := #[.int .i64 a0_0, .int .i64 a0_1]) (t := 35) ?hr ?_; (case hd => rfl); (case hg => rfl); (case hr => first | (go_simp; done) | (go_simp; rfl)); intro gb101 hg w3 hbox hb; have n0_ := Aside0.mk (below_step (by repeat (first | (with_reducible first | exact HB.out | apply below_alloc | apply pw_below_drewN | apply below_drew1) | exact HB.out)) hb); have n1_ := Aside0.mk (hbox); have n2_ := Aside0.mk ((by rw [hg]; exact (below_size (by repeat (first | (with_reducible first | exact HB.out | apply below_alloc | apply pw_below_drewN | apply below_drew1) | exact HB.out))) : w.heap.size ≤ gb101)); have n3_ := Aside0.mk ((by rw [hg]; exact (below_size (by repeat (first | (with_reducible first | exact HB.out | apply below_alloc | apply pw_below_drewN | apply below_drew1) | exact HB.out))) : w.heap.size ≤ gb101)); clear HB; have HB := n0_; have BK101 := n1_; have GW101 := n2_; have GE101 := n3_; clear n0_ n1_ n2_ n3_; clear hb hbox hg))
 repeat (go_quiet (first | ((with_reducible refine gate_dst (N := 1) rfl ?_); refine box_event ?hg (N := 1) ?hd (cs := #[.int .i64 a0_0, .int .i64 a0_1]) (t := 35) ?hr ?_; (case hd => rfl); (case hg => rfl); (case hr => first | (go_simp; done) | (go_simp; rfl)); intro gb101 hg w3 hbox hb; have n0_ := Aside0.mk (below_step (by repeat (first | (with_reducible first | exact HB.out | apply below_alloc | apply pw_below_drewN | apply below_drew1) | exact HB.out)) hb); have n1_ := Aside0.mk (hbox); have n2_ := Aside0.mk ((by rw [hg]; exact (below_size (by repeat (first | (with_reducible first | exact HB.out | apply below_alloc | apply pw_below_drewN | apply below_drew1) | exact HB.out))) : w.heap.size ≤ gb101)); have n3_ := Aside0.mk ((by rw [hg]; exact (below_size (by repeat (first | (with_reducible first | exact HB.out | apply below_alloc | apply pw_below_drewN | apply below_drew1) | exact HB.out))) : w.heap.size ≤ gb101)); clear HB; have HB := n0_; have BK101 := n1_; have GW101 := n2_; have GE101 := n3_; clear n0_ n1_ n2_ n3_; clear hb hbox hg)); go_upto_region 1 with (first | ((with_reducible refine gate_dst (N := 1) rfl ?_); refine box_event ?hg (N := 1) ?hd (cs := #[.int .i64 a0_0, .int .i64 a0_1]) (t := 35) ?hr ?_; (case hd => rfl); (case hg => rfl); (case hr => first | (go_simp; done) | (go_simp; rfl)); intro gb101 hg w3 hbox hb; have n0_ := Aside0.mk (below_step (by repeat (first | (with_reducible first | exact HB.out | apply below_alloc | apply pw_below_drewN | apply below_drew1) | exact HB.out)) hb); have n1_ := Aside0.mk (hbox); have n2_ := Aside0.mk ((by rw [hg]; exact (below_size (by repeat (first | (with_reducible first | exact HB.out | apply below_alloc | apply pw_below_drewN | apply below_drew1) | exact HB.out))) : w.heap.size ≤ gb101)); have n3_ := Aside0.mk ((by rw [hg]; exact (below_size (by repeat (first | (with_reducible first | exact HB.out | apply below_alloc | apply pw_below_drewN | apply below_drew1) | exact HB.out))) : w.heap.size ≤ gb101)); clear HB; have HB := n0_; have BK101 := n1_; have GW101 := n2_; have GE101 := n3_; clear n0_ n1_ n2_ n3_; clear hb hbox hg)))
 (try simp only [Act.put, List.setIfInBounds_toArray, List.set_cons_zero, List.set_cons_succ])
 go_cut [16] (fun v16 wc => ∃ (kq : Nat) (x16_1 : Bool), v16 = .bool x16_1 ∧ Aside0 (frac_Right.j0 kq x16_1 a0_0 a0_1 = some r) ∧ Aside0 (kq ≤ k) ∧ Aside0 (wc.heap[gb101]? = some (.cells #[.int .i64 a0_0, .int .i64 a0_1] 35 (0, 0))) ∧ Aside0 (Below w.heap.size w wc))
 case first =>
  have H := HC2.out
  clear HC2
  by_cases c4 : a0_1 < 1
  ·rw [if_pos c4] at H
   have c4b0 : decide (a0_1 < 1) = true := decide_eq_true c4
   clear c4
   (first | rw [c4b0] | (simp only [i64_w, i32_w]; rw [c4b0]) | skip)
   have H' := Aside0.mk H
   clear H
   have hcz5_0 : w3.cell? ⟨gb101, 0, none⟩ = some (.int .i64 a0_0) := (blk_cell BK101.out 0).trans rfl
   have hcz5_1 : w3.cell? ⟨gb101, 1, none⟩ = some (.int .i64 a0_1) := (blk_cell BK101.out 1).trans rfl
   have hfz5_0 := blk_frozen BK101.out 0
   have hfz5_1 := blk_frozen BK101.out 1
   go_wp2
   repeat (go_quiet (fail); try go_wp2)
   go_meet
   case rel => exact ⟨_, (true), (by first | rfl | (simp; done) | (simp [*]; done)), H', ⟨by first | omega | exact Nat.le_refl _⟩, ⟨by (with_reducible repeat (first | refine blk_drewN ?_ _ | refine blk_drew ?_ | refine blk_alloc ?_ _)); exact BK101.out⟩, ⟨by repeat (first | (with_reducible first | exact HB.out | apply below_alloc | apply pw_below_drewN | apply below_drew1 | refine below_set ?_ GE101.out) | exact HB.out)⟩⟩
  ·rw [if_neg c4] at H
   have c4b0 : decide (a0_1 < 1) = false := decide_eq_false c4
   clear c4
   (first | rw [c4b0] | (simp only [i64_w, i32_w]; rw [c4b0]) | skip)
   by_cases c6 : a0_1 > 1000000
   ·rw [if_pos c6] at H
    have c6b0 : decide (1000000 < a0_1) = true := decide_eq_true c6
    clear c6
    have H' := Aside0.mk H
    clear H
    have hcz7_0 : w3.cell? ⟨gb101, 0, none⟩ = some (.int .i64 a0_0) := (blk_cell BK101.out 0).trans rfl
    have hcz7_1 : w3.cell? ⟨gb101, 1, none⟩ = some (.int .i64 a0_1) := (blk_cell BK101.out 1).trans rfl
    have hfz7_0 := blk_frozen BK101.out 0
    have hfz7_1 := blk_frozen BK101.out 1
    go_wp2
    repeat (go_quiet (fail); try go_wp2)
    go_meet
    case rel => exact ⟨_, (true), (by first | rfl | (simp; done) | (simp [*]; done)), H', ⟨by first | omega | exact Nat.le_refl _⟩, ⟨by (with_reducible repeat (first | refine blk_drewN ?_ _ | refine blk_drew ?_ | refine blk_alloc ?_ _)); exact BK101.out⟩, ⟨by repeat (first | (with_reducible first | exact HB.out | apply below_alloc | apply pw_below_drewN | apply below_drew1 | refine below_set ?_ GE101.out) | exact HB.out)⟩⟩
   ·rw [if_neg c6] at H
    have c6b0 : decide (1000000 < a0_1) = false := decide_eq_false c6
    clear c6
    replace H := Option.bind_eq_some_iff.mp H
    obtain ⟨t102, A80, H⟩ := H
    replace H : (frac_Right.j0 k (decide (t102 > 1000000)) a0_0 a0_1) = some r := H
    have A8 := Aside0.mk A80
    clear A80
    have H' := Aside0.mk H
    clear H
    have hcz9_0 : w3.cell? ⟨gb101, 0, none⟩ = some (.int .i64 a0_0) := (blk_cell BK101.out 0).trans rfl
    have hcz9_1 : w3.cell? ⟨gb101, 1, none⟩ = some (.int .i64 a0_1) := (blk_cell BK101.out 1).trans rfl
    have hfz9_0 := blk_frozen BK101.out 0
    have hfz9_1 := blk_frozen BK101.out 1
    go_wp2_with (first | (go_at_call 47; (with_reducible refine (frac_size.calls a0_0 t102 _ A8.out).mono ?_); rintro e w' ⟨rfl, ⟨nd, rfl⟩⟩; (try first | exact ⟨rfl, _, World.drewN_drewN _ _ _⟩ | exact ⟨rfl, _, Eq.trans (World.drewN_drewN _ _ _) (congrArg (World.drewN _) (Nat.add_assoc _ _ _))⟩)))
    repeat (go_quiet (first | (go_at_call 47; (with_reducible refine (frac_size.calls a0_0 t102 _ A8.out).mono ?_); rintro e w' ⟨rfl, ⟨nd, rfl⟩⟩; (try first | exact ⟨rfl, _, World.drewN_drewN _ _ _⟩ | exact ⟨rfl, _, Eq.trans (World.drewN_drewN _ _ _) (congrArg (World.drewN _) (Nat.add_assoc _ _ _))⟩))); try go_wp2_with (first | (go_at_call 47; (with_reducible refine (frac_size.calls a0_0 t102 _ A8.out).mono ?_); rintro e w' ⟨rfl, ⟨nd, rfl⟩⟩; (try first | exact ⟨rfl, _, World.drewN_drewN _ _ _⟩ | exact ⟨rfl, _, Eq.trans (World.drewN_drewN _ _ _) (congrArg (World.drewN _) (Nat.add_assoc _ _ _))⟩))))
    go_meet
    case rel => exact ⟨_, (decide (t102 > 1000000)), (by first | rfl | (simp; done) | (simp [*]; done)), H', ⟨by first | omega | exact Nat.le_refl _⟩, ⟨by (with_reducible repeat (first | refine blk_drewN ?_ _ | refine blk_drew ?_ | refine blk_alloc ?_ _)); exact BK101.out⟩, ⟨by repeat (first | (with_reducible first | exact HB.out | apply below_alloc | apply pw_below_drewN | apply below_drew1 | refine below_set ?_ GE101.out) | exact HB.out)⟩⟩
 case rest =>
  clear HC2
  try clear p2
  try clear c4
  try clear c4b0
  try clear c5
  try clear c6
  try clear c6b0
  try clear hcz5_0
  try clear hcz5_1
  try clear hcz7_0
  try clear hcz7_1
  try clear hcz9_0
  try clear hcz9_1
  try clear hfz5_0
  try clear hfz5_1
  try clear hfz7_0
  try clear hfz7_1
  try clear hfz9_0
  try clear hfz9_1
  obtain ⟨kq, x16_1, rfl, HA, HJ1, BK101, HB⟩ := hcut
  cases kq with
  | zero => exact absurd HA.out (by simp [frac_Right.j0])
  | succ kj1 =>
   have H := HA.out
   clear HA
   simp only [frac_Right.j0] at H
   by_cases c10 : x16_1 = true
   ·subst c10
    have H1 : (some false) = some r := by rw [if_pos rfl] at H; exact H
    clear H
    have H := H1
    clear H1
    obtain rfl := Option.some.inj H
    go_wp2
    repeat (go_quiet (fail); try go_wp2)
    go_ret
    exact ⟨by first | rfl | (simp [errW_none, errW_some] <;> rfl) | (simp [*, errW_none, errW_some] <;> rfl), by repeat (first | (with_reducible first | exact HB.out | apply below_alloc | apply pw_below_drewN | apply below_drew1 | refine below_set ?_ GE101.out) | exact HB.out)⟩
   ·replace c10 := Bool.eq_false_iff.mpr c10
    subst c10
    have H1 : ((frac_size.f a0_0).bind fun t103 => ((frac_size.f a0_1).bind fun t104 => ((frac_gcd.f kj1 t103 t104).bind fun t105 => (some (t105 == 1))))) = some r := by rw [if_neg (show ¬ (false = true) by decide)] at H; exact H
    clear H
    have H := H1
    clear H1
    replace H := Option.bind_eq_some_iff.mp H
    obtain ⟨t103, A110, H⟩ := H
    replace H : ((frac_size.f a0_1).bind fun t104 => ((frac_gcd.f kj1 t103 t104).bind fun t105 => (some (t105 == 1)))) = some r := H
    have A11 := Aside0.mk A110
    clear A110
    replace H := Option.bind_eq_some_iff.mp H
    obtain ⟨t104, A120, H⟩ := H
    replace H : ((frac_gcd.f kj1 t103 t104).bind fun t105 => (some (t105 == 1))) = some r := H
    have A12 := Aside0.mk A120
    clear A120
    replace H := Option.bind_eq_some_iff.mp H
    obtain ⟨t105, A130, H⟩ := H
    replace H : (some (t105 == 1)) = some r := H
    have A13 := Aside0.mk A130
    clear A130
    obtain rfl := Option.some.inj H
    have hcz14_0 : wc.cell? ⟨gb101, 0, none⟩ = some (.int .i64 a0_0) := (blk_cell BK101.out 0).trans rfl
    have hcz14_1 : wc.cell? ⟨gb101, 1, none⟩ = some (.int .i64 a0_1) := (blk_cell BK101.out 1).trans rfl
    have hfz14_0 := blk_frozen BK101.out 0
    have hfz14_1 := blk_frozen BK101.out 1
    go_wp2_with (first | (go_at_call 47; (with_reducible refine (frac_size.calls a0_0 t103 _ A11.out).mono ?_); rintro e w' ⟨rfl, ⟨nd, rfl⟩⟩; (try first | exact ⟨rfl, _, World.drewN_drewN _ _ _⟩ | exact ⟨rfl, _, Eq.trans (World.drewN_drewN _ _ _) (congrArg (World.drewN _) (Nat.add_assoc _ _ _))⟩)) | (go_at_call 47; (with_reducible refine (frac_size.calls a0_1 t104 _ A12.out).mono ?_); rintro e w' ⟨rfl, ⟨nd, rfl⟩⟩; (try first | exact ⟨rfl, _, World.drewN_drewN _ _ _⟩ | exact ⟨rfl, _, Eq.trans (World.drewN_drewN _ _ _) (congrArg (World.drewN _) (Nat.add_assoc _ _ _))⟩)) | (go_at_call 48; (with_reducible refine (frac_gcd.calls kj1 t103 t104 t105 _ A13.out).mono ?_); rintro e w' ⟨rfl, ⟨nd, rfl⟩⟩; (try first | exact ⟨rfl, _, World.drewN_drewN _ _ _⟩ | exact ⟨rfl, _, Eq.trans (World.drewN_drewN _ _ _) (congrArg (World.drewN _) (Nat.add_assoc _ _ _))⟩)))
    repeat (go_quiet (first | (go_at_call 47; (with_reducible refine (frac_size.calls a0_0 t103 _ A11.out).mono ?_); rintro e w' ⟨rfl, ⟨nd, rfl⟩⟩; (try first | exact ⟨rfl, _, World.drewN_drewN _ _ _⟩ | exact ⟨rfl, _, Eq.trans (World.drewN_drewN _ _ _) (congrArg (World.drewN _) (Nat.add_assoc _ _ _))⟩)) | (go_at_call 47; (with_reducible refine (frac_size.calls a0_1 t104 _ A12.out).mono ?_); rintro e w' ⟨rfl, ⟨nd, rfl⟩⟩; (try first | exact ⟨rfl, _, World.drewN_drewN _ _ _⟩ | exact ⟨rfl, _, Eq.trans (World.drewN_drewN _ _ _) (congrArg (World.drewN _) (Nat.add_assoc _ _ _))⟩)) | (go_at_call 48; (with_reducible refine (frac_gcd.calls kj1 t103 t104 t105 _ A13.out).mono ?_); rintro e w' ⟨rfl, ⟨nd, rfl⟩⟩; (try first | exact ⟨rfl, _, World.drewN_drewN _ _ _⟩ | exact ⟨rfl, _, Eq.trans (World.drewN_drewN _ _ _) (congrArg (World.drewN _) (Nat.add_assoc _ _ _))⟩))); try go_wp2_with (first | (go_at_call 47; (with_reducible refine (frac_size.calls a0_0 t103 _ A11.out).mono ?_); rintro e w' ⟨rfl, ⟨nd, rfl⟩⟩; (try first | exact ⟨rfl, _, World.drewN_drewN _ _ _⟩ | exact ⟨rfl, _, Eq.trans (World.drewN_drewN _ _ _) (congrArg (World.drewN _) (Nat.add_assoc _ _ _))⟩)) | (go_at_call 47; (with_reducible refine (frac_size.calls a0_1 t104 _ A12.out).mono ?_); rintro e w' ⟨rfl, ⟨nd, rfl⟩⟩; (try first | exact ⟨rfl, _, World.drewN_drewN _ _ _⟩ | exact ⟨rfl, _, Eq.trans (World.drewN_drewN _ _ _) (congrArg (World.drewN _) (Nat.add_assoc _ _ _))⟩)) | (go_at_call 48; (with_reducible refine (frac_gcd.calls kj1 t103 t104 t105 _ A13.out).mono ?_); rintro e w' ⟨rfl, ⟨nd, rfl⟩⟩; (try first | exact ⟨rfl, _, World.drewN_drewN _ _ _⟩ | exact ⟨rfl, _, Eq.trans (World.drewN_drewN _ _ _) (congrArg (World.drewN _) (Nat.add_assoc _ _ _))⟩))))
    go_ret
    exact ⟨by first | rfl | (simp [errW_none, errW_some] <;> rfl) | (simp [*, errW_none, errW_some] <;> rfl), by repeat (first | (with_reducible first | exact HB.out | apply below_alloc | apply pw_below_drewN | apply below_drew1 | refine below_set ?_ GE101.out) | exact HB.out)⟩

end Go.Proofs.Ytoppdlideonjjaa.M
end
