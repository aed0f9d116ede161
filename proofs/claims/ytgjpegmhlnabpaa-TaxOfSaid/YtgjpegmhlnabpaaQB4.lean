/- What the claims of this seat share, part 4 of 6: what the program's functions compute. -/
import Derived.Test.YtgjpegmhlnabpaaQB1
import Derived.Maps.Own
import Derived.MapKept
import Derived.Maps.RangeRun
section
namespace Go.Proofs.YtgjpegmhlnabpaaW.PrintLast
open Go.RowKit Go.Proofs.YtgjpegmhlnabpaaW.PrintWords
set_option linter.unusedSimpArgs false
set_option linter.unusedVariables false
section
variable {P : Program} {κ ν : Type} [DecidableEq κ]
def aget : List (κ × ν) → κ → Option ν
  | [], _ => none
  | p :: r, k => if p.1 = k then some p.2 else aget r k
def aput : List (κ × ν) → κ → ν → List (κ × ν)
  | [], k, v => [(k, v)]
  | p :: r, k, v => if p.1 = k then (k, v) :: r else p :: aput r k v
def hitAt (k : κ) : List κ → List MapEntry → Nat → Option (Nat × Value)
  | k' :: ks, e :: es, i => if k' = k then some (i, e.val) else hitAt k ks es (i + 1)
  | _, _, _ => none
structure KeyT (P : Program) (t : TypeId) (ek : κ → Value) : Prop where
  check : ∀ (e : Bool) (k : κ) (w : World), (Instr.checkKey e 10000 t (ek k)).run P w = .ok () w
  find : ∀ (k : κ) (l : List MapEntry) (ks : List κ) (w : World), l.map (·.key) = ks.map ek → (Instr.findKey t (ek k) l).run P w = .ok (hitAt k ks l 0) w
  same : ∀ k, Instr.sameBits 10000 (ek k) (ek k) = true
theorem findNow_hit {d : TypeDesc} {ek : κ → Value} (h : ∀ k k', Instr.sameNow d (ek k) (ek k') = some (decide (k' = k))) (k : κ) : ∀ (l : List MapEntry) (ks : List κ) (i : Nat), l.map (·.key) = ks.map ek → Instr.findNow d (ek k) l i = some (hitAt k ks l i)
  | [], [], i, _ => rfl
  | [], _ :: _, i, e => by simp at e
  | _ :: _, [], i, e => by simp at e
  | x :: l, k' :: ks, i, e => by
    simp only [List.map_cons, List.cons.injEq] at e
    unfold Instr.findNow hitAt
    rw [e.1, h k k']
    by_cases c : k' = k
    · simp [c]
    · simp [c, findNow_hit h k l ks (i + 1) e.2]
theorem KeyT.string {t : TypeId} (ht : P.underlying t = some .string) : KeyT P t Value.string where
  check := fun e k w => MapKept.run_checkKey (d := .string) ht (by simp [MapKept.IsKey]) e 9999
  find := fun k l ks w e => MapKept.run_findKey ht (findNow_hit (fun k k' => by
    simp only [Instr.sameNow, Option.some.injEq]
    by_cases c : k' = k
    · subst c; simp only [decide_true]; exact (MapKept.bytes_beq k' k').2 rfl
    · rw [decide_eq_false c]; rw [Bool.eq_false_iff]; exact fun h => c ((MapKept.bytes_beq k k').1 h).symm) k l ks 0 e)
  same := fun k => by simp only [Instr.sameBits]; exact (MapKept.bytes_beq k k).2 rfl
theorem KeyT.int {t : TypeId} {q : IntKind} (ht : P.underlying t = some (.int q)) : KeyT P t (Value.int q) where
  check := fun e k w => MapKept.run_checkKey (d := .int q) ht (by simp [MapKept.IsKey]) e 9999
  find := fun k l ks w e => MapKept.run_findKey ht (findNow_hit (fun k k' => by
    simp only [Instr.sameNow, if_true, Option.some.injEq]
    by_cases c : k' = k
    · subst c; simp
    · rw [decide_eq_false c]; exact beq_eq_false_iff_ne.2 (fun h => c h.symm)) k l ks 0 e)
  same := fun k => by simp [Instr.sameBits]
def MapIs (ek : κ → Value) (ev : ν → Value) (w : World) (b : Nat) (L : List (κ × ν)) : Prop :=
  ∃ (es : Array MapEntry) (clock : Nat), w.heap[b]? = some (.map es clock) ∧ es.toList.map (·.key) = L.map (fun p => ek p.1) ∧ es.toList.map (·.val) = L.map (fun p => ev p.2) ∧ (∀ e ∈ es.toList, e.born < clock) ∧ es.toList.Pairwise (fun x y => x.born ≠ y.born)
variable {ek : κ → Value} {ev : ν → Value} {w w' : World} {b : Nat} {L : List (κ × ν)}
omit [DecidableEq κ] in
theorem MapIs_made (ek : κ → Value) (ev : ν → Value) (w : World) : MapIs ek ev (w.alloc (.map #[] 0)) w.heap.size [] :=
  ⟨#[], 0, heap_alloc_new w _, rfl, rfl, by simp, by simp⟩
omit [DecidableEq κ] in
theorem MapIs.lt (h : MapIs ek ev w b L) : b < w.heap.size := by
  obtain ⟨es, clock, hb, _⟩ := h
  exact (Array.getElem?_eq_some_iff.1 hb).1
omit [DecidableEq κ] in
theorem MapIs.move (h : MapIs ek ev w b L) (e : w'.heap[b]? = w.heap[b]?) : MapIs ek ev w' b L := by
  obtain ⟨es, clock, hb, r⟩ := h
  exact ⟨es, clock, e.trans hb, r⟩
omit [DecidableEq κ] in
theorem MapIs.below (h : MapIs ek ev w b L) (hb : Below w.heap.size w w') : MapIs ek ev w' b L := h.move (hb.block b h.lt)
omit [DecidableEq κ] in
theorem MapIs.alloc (h : MapIs ek ev w b L) (o : Obj) : MapIs ek ev (w.alloc o) b L := h.move (Below.heap_alloc w o b h.lt)
theorem hitAt_get (k : κ) : ∀ (L : List (κ × ν)) (l : List MapEntry) (i : Nat), l.map (·.val) = L.map (fun p => ev p.2) → (hitAt k (L.map (·.1)) l i).map (·.2) = (aget L k).map ev
  | [], l, i, e => by cases l <;> simp [hitAt, aget] at *
  | p :: L, [], i, e => by simp at e
  | p :: L, x :: l, i, e => by
    simp only [List.map_cons, List.cons.injEq] at e
    simp only [List.map_cons, hitAt, aget]
    by_cases c : p.1 = k
    · simp [c, e.1]
    · simp only [if_neg c]
      exact hitAt_get k L l (i + 1) e.2
def lookV (ev : ν → Value) (L : List (κ × ν)) (k : κ) (z : Value) (c : Bool) : Value :=
  if c = true then .tuple #[((aget L k).map ev).getD z, .bool (aget L k).isSome] else ((aget L k).map ev).getD z
theorem MapIs.look {mt kt vt : TypeId} (h : MapIs ek ev w b L) (K : KeyT P kt ek) (ht : P.underlying mt = some (.map kt vt)) {z : Value} (hz : (zeroValue vt).run P w = .ok z w) (k : κ) (c : Bool) : (Instr.lookup mt (.map (some b)) (ek k) c).run P w = .ok (lookV ev L k z c) w := by
  obtain ⟨es, clock, hb, hk, hv, _⟩ := h
  have hf := K.find k es.toList (L.map (·.1)) w (by rw [hk, List.map_map]; rfl)
  have hg := hitAt_get (ev := ev) k L es.toList 0 hv
  unfold Instr.lookup lookV
  simp only [Sem.run_bind, run_underlying ht, Result.andThen_ok, MapKept.run_getObj_map hb, K.check, hf, Sem.run_pure]
  cases hh : hitAt k (L.map (·.1)) es.toList 0 with
  | none =>
    rw [hh] at hg
    have : aget L k = none := by cases ha : aget L k <;> simp [ha] at hg ⊢
    cases c <;> simp [this, Sem.run_bind, hz, Result.andThen, MapKept.run_getObj_map hb, K.check, hf, hh]
  | some r =>
    obtain ⟨i, v⟩ := r
    rw [hh] at hg
    cases ha : aget L k with
    | none => simp [ha] at hg
    | some u =>
      simp [ha] at hg
      cases c <;> simp [hg, Sem.run_bind, Result.andThen, MapKept.run_getObj_map hb, K.check, hf, hh]
theorem hitAt_some (k : κ) : ∀ (L : List (κ × ν)) (l : List MapEntry) (i j : Nat) (v : Value), l.map (·.key) = L.map (fun p => ek p.1) → l.map (·.val) = L.map (fun p => ev p.2) → hitAt k (L.map (·.1)) l i = some (j, v) →
    ∃ n e, j = i + n ∧ l[n]? = some e ∧ e.key = ek k ∧ ∀ (f : MapEntry → MapEntry) (u : ν), (f e).key = ek k → (f e).val = ev u → (l.modify n f).map (·.key) = (aput L k u).map (fun p => ek p.1) ∧ (l.modify n f).map (·.val) = (aput L k u).map (fun p => ev p.2)
  | [], l, i, j, v, e1, e2, h => by cases l <;> simp [hitAt] at h
  | p :: L, [], i, j, v, e1, e2, h => by simp at e1
  | p :: L, x :: l, i, j, v, e1, e2, h => by
    simp only [List.map_cons, List.cons.injEq] at e1 e2
    simp only [List.map_cons, hitAt] at h
    by_cases c : p.1 = k
    · rw [if_pos c] at h
      simp only [Option.some.injEq, Prod.mk.injEq] at h
      refine ⟨0, x, by omega, rfl, by rw [e1.1, c], fun f u hk hv => ?_⟩
      simp [aput, c, hk, hv, e1.2, e2.2]
    · rw [if_neg c] at h
      obtain ⟨n, e, h1, h2, h3, h4⟩ := hitAt_some k L l (i + 1) j v e1.2 e2.2 h
      refine ⟨n + 1, e, by omega, by simpa using h2, h3, fun f u hk hv => ?_⟩
      have := h4 f u hk hv
      simp [aput, c, this.1, this.2, e1.1, e2.1]
theorem hitAt_none (k : κ) : ∀ (L : List (κ × ν)) (l : List MapEntry) (i : Nat), l.length = L.length → hitAt k (L.map (·.1)) l i = none → ∀ v, aput L k v = L ++ [(k, v)]
  | [], l, i, e, h, v => rfl
  | p :: L, [], i, e, h, v => by simp at e
  | p :: L, x :: l, i, e, h, v => by
    simp only [List.map_cons, hitAt] at h
    by_cases c : p.1 = k
    · rw [if_pos c] at h; cases h
    · rw [if_neg c] at h
      simp [aput, c, hitAt_none k L l (i + 1) (by simpa using e) h v]
theorem pairwise_modify {l : List MapEntry} (h : l.Pairwise (fun x y => x.born ≠ y.born)) (n : Nat) (f : MapEntry → MapEntry) (hf : ∀ e, (f e).born = e.born) : (l.modify n f).Pairwise (fun x y => x.born ≠ y.born) := by
  have e : (l.modify n f).map (·.born) = l.map (·.born) := by
    apply List.ext_getElem?
    intro i
    simp only [List.getElem?_map, List.getElem?_modify]
    cases l[i]? with
    | none => simp
    | some x => by_cases c : n = i <;> simp [c, hf]
  have h2 : (l.map (·.born)).Pairwise (· ≠ ·) := List.pairwise_map.2 h
  rw [← e] at h2
  exact List.pairwise_map.1 h2
theorem mem_modify {l : List MapEntry} {n : Nat} {f : MapEntry → MapEntry} {x : MapEntry} (hf : ∀ e, (f e).born = e.born) (h : x ∈ l.modify n f) : ∃ y ∈ l, x.born = y.born := by
  obtain ⟨i, hi⟩ := List.getElem?_of_mem h
  rw [List.getElem?_modify] at hi
  cases hl : l[i]? with
  | none => simp [hl] at hi
  | some y =>
    refine ⟨y, List.mem_of_getElem? hl, ?_⟩
    by_cases c : n = i
    · simp [hl, c] at hi; rw [← hi, hf]
    · simp [hl, c] at hi; rw [hi]
theorem grown_set (w : World) (b : Nat) (o : Obj) : w.grownBy { w with heap := w.heap.setIfInBounds b o } (some b) :=
  ⟨rfl, rfl, rfl, by simp, fun i _ hi => by simp [Array.getElem?_setIfInBounds]; intro e; exact absurd (by rw [e]) hi⟩
theorem MapIs.upd {mt kt vt : TypeId} (h : MapIs ek ev w b L) (K : KeyT P kt ek) (ht : P.underlying mt = some (.map kt vt)) (k : κ) (v : ν) : ∃ w', (Instr.mapUpdate mt (.map (some b)) (ek k) (ev v)).run P w = .ok () w' ∧ MapIs ek ev w' b (aput L k v) ∧ w.grownBy w' (some b) ∧ w'.heap.size = w.heap.size := by
  obtain ⟨es, clock, hb, hk, hv, hbn, hpw⟩ := h
  have hlt : b < w.heap.size := (Array.getElem?_eq_some_iff.1 hb).1
  have hlen : es.toList.length = L.length := by have := congrArg List.length hk; simpa using this
  have hf := K.find k es.toList (L.map (·.1)) w (by rw [hk, List.map_map]; rfl)
  have hset : ∀ o : Obj, (w.heap.setIfInBounds b o)[b]? = some o := fun o => by simp [Array.getElem?_setIfInBounds, hlt]
  cases hh : hitAt k (L.map (·.1)) es.toList 0 with
  | none =>
    rw [hh] at hf
    refine ⟨_, ?_, ⟨es.push { key := ek k, val := ev v, born := clock }, clock + 1, hset _, ?_, ?_, ?_, ?_⟩, grown_set w b _, by simp⟩
    · unfold Instr.mapUpdate
      simp only [Sem.run_bind, run_underlying ht, Result.andThen_ok, MapKept.run_getObj_map hb, K.check, hf]
      exact MapKept.run_setObj_map _ hb
    · rw [hitAt_none k L _ 0 hlen hh]; simp [hk]
    · rw [hitAt_none k L _ 0 hlen hh]; simp [hv]
    · intro e he
      simp at he
      rcases he with he | rfl
      · have := hbn e (by simpa using he); omega
      · simp
    · rw [Array.toList_push, List.pairwise_append]
      refine ⟨hpw, by simp, fun x hx y hy => ?_⟩
      simp at hy
      subst hy
      have := hbn x hx
      show x.born ≠ clock
      omega
  | some r =>
    obtain ⟨j, u⟩ := r
    obtain ⟨n, e, hj, hn, hek, hm⟩ := hitAt_some (ev := ev) k L es.toList 0 j u hk hv hh
    obtain rfl : j = n := by omega
    rw [hh] at hf
    have hn' : es[j]? = some e := by simpa using hn
    have hm2 := hm (fun e => { e with key := ek k, val := ev v }) v rfl rfl
    refine ⟨_, ?_, ⟨es.modify j (fun e => { e with key := ek k, val := ev v }), clock, hset _, ?_, ?_, ?_, ?_⟩, grown_set w b _, by simp⟩
    · unfold Instr.mapUpdate
      simp only [Sem.run_bind, run_underlying ht, Result.andThen_ok, MapKept.run_getObj_map hb, K.check, hf, hn', Option.map_some, Option.getD_some, hek, Instr.keyThatStays, K.same, if_true, Sem.run_pure]
      exact MapKept.run_setObj_map _ hb
    · simpa using hm2.1
    · simpa using hm2.2
    · intro x hx
      obtain ⟨y, hy, hb2⟩ := mem_modify (f := fun e => { e with key := ek k, val := ev v }) (n := j) (l := es.toList) (fun _ => rfl) (by simpa using hx)
      rw [hb2]
      exact hbn y hy
    · have := pairwise_modify hpw j (fun e => { e with key := ek k, val := ev v }) (fun _ => rfl)
      simpa using this
theorem lookL_ {ops : Array Oper} {Q : Exit → Act → World → Prop} {rest : List Oper} {o : Oper} {a : Act} (hg : o.guard = none) {m x : Operand} {mt kt vt : TypeId} {c : Bool} (hop : o.op = .lookup mt m x c) (ht : P.underlying mt = some (.map kt vt)) (K : KeyT P kt ek) {z : Value} (hz : ∀ w, (zeroValue vt).run P w = .ok z w) (M : MapIs ek ev w b L) (k : κ) (hm : a.eval m = .map (some b)) (hx : a.eval x = ek k)
    (h : wpList P ops Q rest (a.put o.dst (lookV ev L k z c)) w) : wpList P ops Q (o :: rest) a w := by
  refine wpList_plain hg fun K' hK' => ?_
  unfold Oper.wp
  simp only [execOp, hop, hm, hx, Sem.run_bind, M.look K ht (hz w) k c, Result.andThen_ok, Sem.run_pure]
  exact hK' _ _ h
theorem storeL_ {ops : Array Oper} {Q : Exit → Act → World → Prop} {rest : List Oper} {o : Oper} {a : Act} (hg : o.guard = none) {m x v : Operand} {mt kt vt : TypeId} (hop : o.op = .mapUpdate mt m x v) (ht : P.underlying mt = some (.map kt vt)) (K : KeyT P kt ek) (M : MapIs ek ev w b L) (k : κ) (u : ν) (hm : a.eval m = .map (some b)) (hx : a.eval x = ek k) (hv : a.eval v = ev u)
    (h : ∀ w', MapIs ek ev w' b (aput L k u) → w.grownBy w' (some b) → w'.heap.size = w.heap.size → wpList P ops Q rest (a.put o.dst undef) w') : wpList P ops Q (o :: rest) a w := by
  refine wpList_plain hg fun K' hK' => ?_
  obtain ⟨w', hrun, h1, h2, h3⟩ := M.upd K ht k u
  unfold Oper.wp
  simp only [execOp, hop, hm, hx, hv, Sem.run_bind, hrun, Result.andThen_ok, Sem.run_pure]
  exact hK' _ _ (h w' h1 h2 h3)
end
end Go.Proofs.YtgjpegmhlnabpaaW.PrintLast
end
section
namespace Go.Proofs.YtgjpegmhlnabpaaW.PrintLast
open Go.RowKit Go.Proofs.YtgjpegmhlnabpaaW.PrintWords Go.ChangeMaps
set_option linter.unusedSimpArgs false
set_option linter.unusedVariables false
section
variable {P : Program} {κ ν : Type} [DecidableEq κ] {ek : κ → Value} {ev : ν → Value} {w w' : World} {b r : Nat} {L rest : List (κ × ν)}
def IterIs (ek : κ → Value) (ev : ν → Value) (w : World) (r b : Nat) (rest : List (κ × ν)) : Prop :=
  ∃ (es : Array MapEntry) (clock since c0 : Nat) (seen : Array Nat), w.heap[b]? = some (.map es clock) ∧ w.heap[r]? = some (.mapIter (some b) since seen c0) ∧ (∀ x ∈ es.toList, x.born < since) ∧ since ≤ c0 ∧ since ≤ clock ∧ (es.toList.map (·.born)).Nodup ∧ (leftOf es seen).toList.map (·.key) = rest.map (fun p => ek p.1) ∧ (leftOf es seen).toList.map (·.val) = rest.map (fun p => ev p.2)
omit [DecidableEq κ] in
theorem IterIs.move (h : IterIs ek ev w r b rest) (e1 : w'.heap[b]? = w.heap[b]?) (e2 : w'.heap[r]? = w.heap[r]?) : IterIs ek ev w' r b rest := by
  obtain ⟨es, clock, since, c0, seen, h1, h2, h⟩ := h
  exact ⟨es, clock, since, c0, seen, e1.trans h1, e2.trans h2, h⟩
omit [DecidableEq κ] in
theorem IterIs.lt (h : IterIs ek ev w r b rest) : b < w.heap.size ∧ r < w.heap.size := by
  obtain ⟨es, clock, since, c0, seen, h1, h2, h⟩ := h
  exact ⟨(Array.getElem?_eq_some_iff.1 h1).1, (Array.getElem?_eq_some_iff.1 h2).1⟩
omit [DecidableEq κ] in
theorem IterIs.below (h : IterIs ek ev w r b rest) (hb : Below w.heap.size w w') : IterIs ek ev w' r b rest := h.move (hb.block b h.lt.1) (hb.block r h.lt.2)
omit [DecidableEq κ] in
theorem IterIs.grown (h : IterIs ek ev w r b rest) {row : Option Nat} (hg : w.grownBy w' row) (h1 : some b ≠ row) (h2 : some r ≠ row) : IterIs ek ev w' r b rest := h.move (hg.block b h.lt.1 h1) (hg.block r h.lt.2 h2)
omit [DecidableEq κ] in
theorem MapIs.grown (h : MapIs ek ev w b L) {row : Option Nat} (hg : w.grownBy w' row) (h1 : some b ≠ row) : MapIs ek ev w' b L := h.move (hg.block b h.lt h1)
theorem makeL_ {ops : Array Oper} {Q : Exit → Act → World → Prop} {more : List Oper} {o : Oper} {a : Act} (hg : o.guard = none) {mt : TypeId} (hop : o.op = .makeMap mt none)
    (h : wpList P ops Q more (a.put o.dst (.map (some w.heap.size))) (w.alloc (.map #[] 0))) : wpList P ops Q (o :: more) a w := by
  refine wpList_plain hg fun K' hK' => ?_
  unfold Oper.wp
  simp only [execOp, hop, Option.map_none, Instr.makeMap, newObj, Sem.run_bind, Sem.run, Result.andThen, Sem.run_pure]
  exact hK' _ _ h
omit [DecidableEq κ] in
theorem rangeL_ {ops : Array Oper} {Q : Exit → Act → World → Prop} {more : List Oper} {o : Oper} {a : Act} (hg : o.guard = none) {mt kt vt : TypeId} {m : Operand} (hop : o.op = .range mt m) (ht : P.underlying mt = some (.map kt vt)) (M : MapIs ek ev w b L) (hm : a.eval m = .map (some b))
    (h : ∀ w', Below w.heap.size w w' → w'.heap.size = w.heap.size + 1 → IterIs ek ev w' w.heap.size b L → wpList P ops Q more (a.put o.dst (.pointer (some ⟨w.heap.size, 0, none⟩))) w') : wpList P ops Q (o :: more) a w := by
  refine wpList_plain hg fun K' hK' => ?_
  obtain ⟨es, clock, hb, hk, hv, hbn, hpw⟩ := M
  have hr := run_range_map (P := P) w mt kt vt b es clock ht hb
  unfold Oper.wp
  simp only [execOp, hop, hm, Sem.run_bind, hr, Result.andThen_ok, Sem.run_pure]
  refine hK' _ _ (h _ ((Below.refl _ _).alloc (Nat.le_refl _) _) (by simp) ?_)
  have hl : leftOf es #[] = es := by unfold leftOf; rw [Array.filter_eq_self]; intro x hx; simp
  refine ⟨es, clock, clock, clock, #[], ?_, heap_alloc_new w _, hbn, Nat.le_refl _, Nat.le_refl _, List.pairwise_map.2 hpw, ?_, ?_⟩
  · rw [heap_alloc_old w _ (Array.getElem?_eq_some_iff.1 hb).1, hb]
  · rw [hl, hk]
  · rw [hl, hv]
theorem filter_split {α : Type} (f : α → Nat) (x : α) : ∀ (s1 s2 : List α), ((s1 ++ x :: s2).map f).Nodup → (s1 ++ x :: s2).filter (fun y => f y != f x) = s1 ++ s2 := by
  intro s1 s2 hn
  rw [List.map_append, List.map_cons, List.nodup_append] at hn
  obtain ⟨h1, h2, h3⟩ := hn
  rw [List.nodup_cons] at h2
  rw [List.filter_append, List.filter_cons]
  have e1 : s1.filter (fun y => f y != f x) = s1 := by
    rw [List.filter_eq_self]
    intro y hy
    have := h3 (f y) (List.mem_map_of_mem hy) (f x) (by simp)
    simpa using this
  have e2 : s2.filter (fun y => f y != f x) = s2 := by
    rw [List.filter_eq_self]
    intro y hy
    have : f y ≠ f x := fun e => h2.1 (by rw [← e]; exact List.mem_map_of_mem hy)
    simpa using this
  rw [e1, e2]
  simp
theorem left_push (es : Array MapEntry) (seen : Array Nat) (x : Nat) : (leftOf es (seen.push x)).toList = (leftOf es seen).toList.filter (fun y => y.born != x) := by
  unfold leftOf
  rw [Array.toList_filter, Array.toList_filter, List.filter_filter]
  congr 1
  funext y
  rw [contains_push, Bool.not_or, Bool.and_comm]
  rfl
omit [DecidableEq κ] in
theorem split_map {α β γ : Type} {f : α → γ} {g : β → γ} : ∀ (s1 : List α) (x : α) (s2 : List α) (l : List β), (s1 ++ x :: s2).map f = l.map g → ∃ r1 p r2, l = r1 ++ p :: r2 ∧ s1.map f = r1.map g ∧ f x = g p ∧ s2.map f = r2.map g ∧ r1.length = s1.length
  | [], x, s2, [], h => by simp at h
  | [], x, s2, p :: l, h => by
    simp only [List.nil_append, List.map_cons, List.cons.injEq] at h
    exact ⟨[], p, l, rfl, rfl, h.1, h.2, rfl⟩
  | y :: s1, x, s2, [], h => by simp at h
  | y :: s1, x, s2, p :: l, h => by
    simp only [List.cons_append, List.map_cons, List.cons.injEq] at h
    obtain ⟨r1, q, r2, h1, h2, h3, h4, h5⟩ := split_map s1 x s2 l h.2
    exact ⟨p :: r1, q, r2, by rw [h1]; rfl, by simp [h.1, h2], h3, h4, by simp [h5]⟩
omit [DecidableEq κ] in
theorem nextNil_ {ops : Array Oper} {Q : Exit → Act → World → Prop} {more : List Oper} {o : Oper} {a : Act} (hg : o.guard = none) {it : Operand} (hop : o.op = .next it false) (I : IterIs ek ev w r b ([] : List (κ × ν))) (hit : a.eval it = .pointer (some ⟨r, 0, none⟩))
    (h : wpList P ops Q more (a.put o.dst (.tuple #[.bool false])) w) : wpList P ops Q (o :: more) a w := by
  refine wpList_plain hg fun K' hK' => ?_
  obtain ⟨es, clock, since, c0, seen, hb, hr, hold, hsc, hcl, hnd, hk, hv⟩ := I
  have hz : (leftOf es seen).size = 0 := by have := congrArg List.length hk; simpa using this
  rcases run_next_at (P := P) w o.type r b since c0 seen es clock hr hb hold hsc with ⟨_, hrun⟩ | ⟨e, he, _⟩
  · unfold Oper.wp
    simp only [execOp, hop, hit, Sem.run_bind, hrun, Result.andThen_ok, Sem.run_pure]
    exact hK' _ _ h
  · have : (leftOf es seen).toList = [] := List.eq_nil_of_length_eq_zero (by simpa using hz)
    rw [this] at he
    cases he
omit [DecidableEq κ] in
theorem nextMore_ {ops : Array Oper} {Q : Exit → Act → World → Prop} {more : List Oper} {o : Oper} {a : Act} (hg : o.guard = none) {it : Operand} (hop : o.op = .next it false) {q : κ × ν} {qs : List (κ × ν)} (I : IterIs ek ev w r b (q :: qs)) (hit : a.eval it = .pointer (some ⟨r, 0, none⟩))
    (h : ∀ r1 p r2 w', q :: qs = r1 ++ p :: r2 → w.grownBy w' (some r) → w'.heap.size = w.heap.size → IterIs ek ev w' r b (r1 ++ r2) → (Instr.entry (.pointer (some ⟨r, 0, none⟩))).run P w' = .ok (.tuple #[ek p.1, ev p.2]) w' → wpList P ops Q more (a.put o.dst (.tuple #[.bool true, ek p.1, ev p.2])) w') : wpList P ops Q (o :: more) a w := by
  refine wpList_plain hg fun K' hK' => ?_
  obtain ⟨es, clock, since, c0, seen, hb, hr, hold, hsc, hcl, hnd, hk, hv⟩ := I
  rcases run_next_at (P := P) w o.type r b since c0 seen es clock hr hb hold hsc with ⟨hz, _⟩ | ⟨e, he, w1, hw1, hrun⟩
  · have := congrArg List.length hk
    simp [hz] at this
  · obtain ⟨s1, s2, hs⟩ := List.append_of_mem he
    have hk' := hk
    have hv' := hv
    rw [hs] at hk' hv'
    obtain ⟨r1, p, r2, hl, k1, k2, k3, k4⟩ := split_map (g := fun p : κ × ν => ek p.1) s1 e s2 (q :: qs) hk'
    rw [hl, List.map_append, List.map_append, List.map_cons, List.map_cons] at hv'
    obtain ⟨v1, v2⟩ := List.append_inj hv' (by simp [k4])
    rw [List.cons.injEq] at v2
    have hheap : w1.heap = w.heap := by rcases hw1 with rfl | rfl <;> rfl
    have hlt : r < w1.heap.size := by rw [hheap]; exact (Array.getElem?_eq_some_iff.1 hr).1
    have hne : b ≠ r := by rintro rfl; rw [hb] at hr; cases hr
    have h1 : (setBlock w1 r (.mapIter (some b) since (seen.push e.born) clock)).heap[r]? = some (.mapIter (some b) since (seen.push e.born) clock) := by
      show (w1.heap.setIfInBounds r _)[r]? = _
      rw [Array.getElem?_setIfInBounds, if_pos rfl, if_pos hlt]
    have h2 : ∀ k, k ≠ r → (setBlock w1 r (.mapIter (some b) since (seen.push e.born) clock)).heap[k]? = w.heap[k]? := by
      intro k hk
      show (w1.heap.setIfInBounds r _)[k]? = _
      rw [Array.getElem?_setIfInBounds, if_neg (Ne.symm hk), hheap]
    have hnl : ((leftOf es seen).toList.map (·.born)).Nodup := by
      unfold leftOf
      rw [Array.toList_filter]
      exact List.Nodup.sublist (List.Sublist.map _ List.filter_sublist) hnd
    have hleft : (leftOf es (seen.push e.born)).toList = s1 ++ s2 := by
      rw [left_push, hs]
      rw [hs] at hnl
      exact filter_split (fun x : MapEntry => x.born) e s1 s2 hnl
    have he1 := (mem_left he).1
    have hen := run_entry_at (P := P) (setBlock w1 r (.mapIter (some b) since (seen.push e.born) clock)) r b since seen es clock e h1 ((h2 b hne).trans hb) he1 hnd
    rw [k2, v2.1] at hen hrun
    unfold Oper.wp
    simp only [execOp, hop, hit, Sem.run_bind, hrun, Result.andThen_ok, Sem.run_pure]
    refine hK' _ _ (h r1 p r2 _ hl ⟨?_, ?_, ?_, ?_, fun k hk hk2 => h2 k (fun e => hk2 (by rw [e]))⟩ ?_ ⟨es, clock, since, clock, seen.push e.born, (h2 b hne).trans hb, h1, hold, hcl, hcl, hnd, ?_, ?_⟩ hen)
    · rcases hw1 with rfl | rfl <;> rfl
    · rcases hw1 with rfl | rfl <;> rfl
    · rcases hw1 with rfl | rfl <;> rfl
    · show w.heap.size ≤ (w1.heap.setIfInBounds r _).size
      rw [Array.size_setIfInBounds, hheap]
      exact Nat.le_refl _
    · show (w1.heap.setIfInBounds r _).size = _
      rw [Array.size_setIfInBounds, hheap]
    · rw [hleft, List.map_append, List.map_append, k1, k3]
    · rw [hleft, List.map_append, List.map_append, v1, v2.2]
theorem entryL_ {ops : Array Oper} {Q : Exit → Act → World → Prop} {more : List Oper} {o : Oper} {a : Act} (hg : o.guard = none) {it : Operand} (hop : o.op = .entry it) {v : Value} (hit : a.eval it = .pointer (some ⟨r, 0, none⟩)) (hrun : (Instr.entry (.pointer (some ⟨r, 0, none⟩))).run P w = .ok v w)
    (h : wpList P ops Q more (a.put o.dst v) w) : wpList P ops Q (o :: more) a w := by
  refine wpList_plain hg fun K' hK' => ?_
  unfold Oper.wp
  simp only [execOp, hop, hit, Sem.run_bind, hrun, Result.andThen_ok, Sem.run_pure]
  exact hK' _ _ h
end
end Go.Proofs.YtgjpegmhlnabpaaW.PrintLast
end
section
-- Written by mprint.py (a program of this session) over the kit's print.
namespace Go.Proofs.Ytgjpegmhlnabpaa.M
open Go.RowKit Go.Proofs.YtgjpegmhlnabpaaW.PrintWords Go.Proofs.YtgjpegmhlnabpaaW.PrintLast Go.Proofs.YtgjpegmhlnabpaaW.PrintMore
attribute [local go_sem] max2_int min2_int max_two min_two max_three min_three max_four min_four   -- for this text's walks alone
set_option linter.unusedVariables false
set_option linter.unusedSimpArgs false
/-! ### words_letter: function 50 -/
def words_letter.f (a0 : Int) : Option (Bool) := if a0 ≥ 97 then (if a0 ≤ 122 then (some true) else (if a0 ≥ 65 then (if a0 ≤ 90 then (some true) else (some (a0 == 95))) else (some (a0 == 95)))) else (if a0 ≥ 65 then (if a0 ≤ 90 then (some true) else (some (a0 == 95))) else (some (a0 == 95)))
set_option maxHeartbeats 8000000 in
set_option maxRecDepth 100000 in
theorem words_letter.calls (a0 : Int) (r : Bool) (w : World) (h : words_letter.f a0 = some r) :
    Calls Try.prog 50 #[.int .u8 a0] w fun e w' => e = .returned (.bool r) ∧ Drawn0 w w' := by
 have H : (if a0 ≥ 97 then (if a0 ≤ 122 then (some true) else (if a0 ≥ 65 then (if a0 ≤ 90 then (some true) else (some (a0 == 95))) else (some (a0 == 95)))) else (if a0 ≥ 65 then (if a0 ≤ 90 then (some true) else (some (a0 == 95))) else (some (a0 == 95)))) = some r := h
 clear h
 by_cases c2 : a0 ≥ 97
 ·rw [if_pos c2] at H
  have c2b0 : decide (97 ≤ a0) = true := decide_eq_true c2
  clear c2
  by_cases c3 : a0 ≤ 122
  ·rw [if_pos c3] at H
   have c3b0 : decide (a0 ≤ 122) = true := decide_eq_true c3
   clear c3
   obtain rfl := Option.some.inj H
   go_enter Try.func50, Try.ntmps50
   go_wp2
   go_ret
   exact ⟨by first | rfl | (simp; done) | (simp [*]; done), by repeat (first | exact Drawn0.refl _ | apply Drawn0.step)⟩
  ·rw [if_neg c3] at H
   have c3b0 : decide (a0 ≤ 122) = false := decide_eq_false c3
   clear c3
   by_cases c4 : a0 ≥ 65
   ·rw [if_pos c4] at H
    have c4b0 : decide (65 ≤ a0) = true := decide_eq_true c4
    clear c4
    by_cases c5 : a0 ≤ 90
    ·rw [if_pos c5] at H
     have c5b0 : decide (a0 ≤ 90) = true := decide_eq_true c5
     clear c5
     obtain rfl := Option.some.inj H
     go_enter Try.func50, Try.ntmps50
     go_wp2
     go_ret
     exact ⟨by first | rfl | (simp; done) | (simp [*]; done), by repeat (first | exact Drawn0.refl _ | apply Drawn0.step)⟩
    ·rw [if_neg c5] at H
     have c5b0 : decide (a0 ≤ 90) = false := decide_eq_false c5
     clear c5
     obtain rfl := Option.some.inj H
     go_enter Try.func50, Try.ntmps50
     go_wp2
     go_ret
     exact ⟨by first | rfl | (simp; done) | (simp [*]; done), by repeat (first | exact Drawn0.refl _ | apply Drawn0.step)⟩
   ·rw [if_neg c4] at H
    have c4b0 : decide (65 ≤ a0) = false := decide_eq_false c4
    clear c4
    obtain rfl := Option.some.inj H
    go_enter Try.func50, Try.ntmps50
    go_wp2
    go_ret
    exact ⟨by first | rfl | (simp; done) | (simp [*]; done), by repeat (first | exact Drawn0.refl _ | apply Drawn0.step)⟩
 ·rw [if_neg c2] at H
  have c2b0 : decide (97 ≤ a0) = false := decide_eq_false c2
  clear c2
  by_cases c6 : a0 ≥ 65
  ·rw [if_pos c6] at H
   have c6b0 : decide (65 ≤ a0) = true := decide_eq_true c6
   clear c6
   by_cases c7 : a0 ≤ 90
   ·rw [if_pos c7] at H
    have c7b0 : decide (a0 ≤ 90) = true := decide_eq_true c7
    clear c7
    obtain rfl := Option.some.inj H
    go_enter Try.func50, Try.ntmps50
    go_wp2
    go_ret
    exact ⟨by first | rfl | (simp; done) | (simp [*]; done), by repeat (first | exact Drawn0.refl _ | apply Drawn0.step)⟩
   ·rw [if_neg c7] at H
    have c7b0 : decide (a0 ≤ 90) = false := decide_eq_false c7
    clear c7
    obtain rfl := Option.some.inj H
    go_enter Try.func50, Try.ntmps50
    go_wp2
    go_ret
    exact ⟨by first | rfl | (simp; done) | (simp [*]; done), by repeat (first | exact Drawn0.refl _ | apply Drawn0.step)⟩
  ·rw [if_neg c6] at H
   have c6b0 : decide (65 ≤ a0) = false := decide_eq_false c6
   clear c6
   obtain rfl := Option.some.inj H
   go_enter Try.func50, Try.ntmps50
   go_wp2
   go_ret
   exact ⟨by first | rfl | (simp; done) | (simp [*]; done), by repeat (first | exact Drawn0.refl _ | apply Drawn0.step)⟩
end Go.Proofs.Ytgjpegmhlnabpaa.M
end
section
-- Written by mprint.py (a program of this session) over the kit's print.
namespace Go.Proofs.Ytgjpegmhlnabpaa.M
open Go.RowKit Go.Proofs.YtgjpegmhlnabpaaW.PrintWords Go.Proofs.YtgjpegmhlnabpaaW.PrintLast Go.Proofs.YtgjpegmhlnabpaaW.PrintMore
attribute [local go_sem] max2_int min2_int max_two min_two max_three min_three max_four min_four   -- for this text's walks alone
set_option linter.unusedVariables false
set_option linter.unusedSimpArgs false
/-! ### words_digit: function 51 -/
def words_digit.f (a0 : Int) : Option (Bool) := if a0 ≥ 48 then (some (decide (a0 ≤ 57))) else (some false)
set_option maxHeartbeats 8000000 in
set_option maxRecDepth 100000 in
theorem words_digit.calls (a0 : Int) (r : Bool) (w : World) (h : words_digit.f a0 = some r) :
    Calls Try.prog 51 #[.int .u8 a0] w fun e w' => e = .returned (.bool r) ∧ Drawn0 w w' := by
 have H : (if a0 ≥ 48 then (some (decide (a0 ≤ 57))) else (some false)) = some r := h
 clear h
 by_cases c2 : a0 ≥ 48
 ·rw [if_pos c2] at H
  have c2b0 : decide (48 ≤ a0) = true := decide_eq_true c2
  clear c2
  obtain rfl := Option.some.inj H
  go_enter Try.func51, Try.ntmps51
  go_wp2
  go_ret
  exact ⟨by first | rfl | (simp; done) | (simp [*]; done), by repeat (first | exact Drawn0.refl _ | apply Drawn0.step)⟩
 ·rw [if_neg c2] at H
  have c2b0 : decide (48 ≤ a0) = false := decide_eq_false c2
  clear c2
  obtain rfl := Option.some.inj H
  go_enter Try.func51, Try.ntmps51
  go_wp2
  go_ret
  exact ⟨by first | rfl | (simp; done) | (simp [*]; done), by repeat (first | exact Drawn0.refl _ | apply Drawn0.step)⟩
end Go.Proofs.Ytgjpegmhlnabpaa.M
end
section
-- Written by mprint.py (a program of this session) over the kit's print.
namespace Go.Proofs.Ytgjpegmhlnabpaa.M
open Go.RowKit Go.Proofs.YtgjpegmhlnabpaaW.PrintWords Go.Proofs.YtgjpegmhlnabpaaW.PrintLast Go.Proofs.YtgjpegmhlnabpaaW.PrintMore
attribute [local go_sem] max2_int min2_int max_two min_two max_three min_three max_four min_four   -- for this text's walks alone
set_option linter.unusedVariables false
set_option linter.unusedSimpArgs false
/-! ### words_Code_1: function 49 -/
def words_Code_1.f (a0 : Int) : Option (Bool) := (words_letter.f a0).bind fun t101 => (if t101 = true then (some true) else ((words_digit.f a0).bind fun t102 => (some t102)))
set_option maxHeartbeats 8000000 in
set_option maxRecDepth 100000 in
theorem words_Code_1.calls (a0 : Int) (r : Bool) (w : World) (h : words_Code_1.f a0 = some r) :
    Calls Try.prog 49 #[.int .u8 a0] w fun e w' => e = .returned (.bool r) ∧ Drawn0 w w' := by
 have H : ((words_letter.f a0).bind fun t101 => (if t101 = true then (some true) else ((words_digit.f a0).bind fun t102 => (some t102)))) = some r := h
 clear h
 replace H := Option.bind_eq_some_iff.mp H
 obtain ⟨t101, A20, H⟩ := H
 replace H : (if t101 = true then (some true) else ((words_digit.f a0).bind fun t102 => (some t102))) = some r := H
 have A2 := Aside0.mk A20
 clear A20
 by_cases c3 : t101 = true
 ·subst c3
  have H1 : (some true) = some r := by rw [if_pos rfl] at H; exact H
  clear H
  have H := H1
  clear H1
  obtain rfl := Option.some.inj H
  go_enter Try.func49, Try.ntmps49
  go_wp2_with (first | ((with_reducible refine gate_callee (f := 50) rfl ?_); refine goesL_ (some 4) rfl rfl Try.func50 (by kernel_rfl) rfl #[.int .u8 a0] rfl (by (try simp only [List.map_toArray, List.map_cons, List.map_nil]); first | done | rfl | (simp only [List.length_drop, List.length_take]; rfl)) ?_; (with_reducible refine (words_letter.calls a0 true _ A2.out).mono ?_); rintro e w' ⟨rfl, ⟨nd, rfl⟩⟩; refine ⟨_, rfl, ?_⟩))
  go_ret
  exact ⟨by first | rfl | (simp; done) | (simp [*]; done), by repeat (first | exact Drawn0.refl _ | apply Drawn0.step)⟩
 ·replace c3 := Bool.eq_false_iff.mpr c3
  subst c3
  have H1 : ((words_digit.f a0).bind fun t102 => (some t102)) = some r := by rw [if_neg (show ¬ (false = true) by decide)] at H; exact H
  clear H
  have H := H1
  clear H1
  replace H := Option.bind_eq_some_iff.mp H
  obtain ⟨t102, A40, H⟩ := H
  replace H : (some t102) = some r := H
  have A4 := Aside0.mk A40
  clear A40
  obtain rfl := Option.some.inj H
  go_enter Try.func49, Try.ntmps49
  go_wp2_with (first | ((with_reducible refine gate_callee (f := 50) rfl ?_); refine goesL_ (some 4) rfl rfl Try.func50 (by kernel_rfl) rfl #[.int .u8 a0] rfl (by (try simp only [List.map_toArray, List.map_cons, List.map_nil]); first | done | rfl | (simp only [List.length_drop, List.length_take]; rfl)) ?_; (with_reducible refine (words_letter.calls a0 false _ A2.out).mono ?_); rintro e w' ⟨rfl, ⟨nd, rfl⟩⟩; refine ⟨_, rfl, ?_⟩) | (go_at_call 51; (with_reducible refine (words_digit.calls a0 t102 _ A4.out).mono ?_); rintro e w' ⟨rfl, ⟨nd, rfl⟩⟩))
  go_ret
  exact ⟨by first | rfl | (simp; done) | (simp [*]; done), by repeat (first | exact Drawn0.refl _ | apply Drawn0.step)⟩
end Go.Proofs.Ytgjpegmhlnabpaa.M
end
section
-- Written by mprint.py (a program of this session) over the kit's print.
namespace Go.Proofs.Ytgjpegmhlnabpaa.M
open Go.RowKit Go.Proofs.YtgjpegmhlnabpaaW.PrintWords Go.Proofs.YtgjpegmhlnabpaaW.PrintLast Go.Proofs.YtgjpegmhlnabpaaW.PrintMore
attribute [local go_sem] max2_int min2_int max_two min_two max_three min_three max_four min_four   -- for this text's walks alone
set_option linter.unusedVariables false
set_option linter.unusedSimpArgs false
/-! ### words_every__words_Code_1: function 48 -/
def words_every__words_Code_1.l0 : Nat → ByteArray → Int → Int → Option (Bool)
  | 0, _, _, _ => none
  | k + 1, x0, x7, x8 => if x8 < x7 then (if 0 ≤ x8 then (if x8 < (x0.size : Int) then ((words_Code_1.f (bt x0 x8)).bind fun t101 => (if t101 = true then (words_every__words_Code_1.l0 k x0 x7 (wrap64 (x8 + 1))) else (some false))) else (none)) else (none)) else (some true)
def words_every__words_Code_1.f (k : Nat) (a0 : ByteArray)  : Option (Bool) := words_every__words_Code_1.l0 k a0 (a0.size : Int) 0
theorem words_every__words_Code_1.mono_l : ∀ k, (∀ y0 y1 y2, LeO (words_every__words_Code_1.l0 k y0 y1 y2) (words_every__words_Code_1.l0 (k + 1) y0 y1 y2))
  | 0 => fun _ _ _ r h => by simp [words_every__words_Code_1.l0] at h
  | k + 1 => by
    have ih0 := words_every__words_Code_1.mono_l k
    · intro y0 y1 y2
      unfold words_every__words_Code_1.l0
      repeat' first
      | (with_reducible exact ih0 _ _ _)
      | (with_reducible exact LeO.refl _)
      | (with_reducible exact LeO.none _)
      | (with_reducible refine LeO.ite ?_ ?_)
      | (with_reducible refine LeO.bind ?_ (fun _ => ?_))
      | exact ih0 _ _ _
      | exact LeO.none _
      | refine LeO.ite ?_ ?_
      | refine LeO.bind ?_ (fun _ => ?_)
theorem words_every__words_Code_1.mono : ∀ a0 k, LeO (words_every__words_Code_1.f k a0) (words_every__words_Code_1.f (k + 1) a0) := by
 intro a0 k
 have ih0 := words_every__words_Code_1.mono_l k
 unfold words_every__words_Code_1.f
 repeat' first
   | (with_reducible exact ih0 _ _ _)
   | (with_reducible exact LeO.refl _)
   | (with_reducible exact LeO.none _)
   | (with_reducible refine LeO.ite ?_ ?_)
   | (with_reducible refine LeO.bind ?_ (fun _ => ?_))
   | exact ih0 _ _ _
   | exact LeO.none _
   | refine LeO.ite ?_ ?_
   | refine LeO.bind ?_ (fun _ => ?_)
set_option maxHeartbeats 8000000 in
set_option maxRecDepth 100000 in
theorem words_every__words_Code_1.calls (k : Nat) (a0 : ByteArray)  (r : Bool) (w : World) (h : words_every__words_Code_1.f k a0 = some r) :
    Calls Try.prog 48 #[.string a0, .func (.func 49) #[] #[]] w fun e w' => e = .returned (.bool r) ∧ Below w.heap.size w w' := by
 have HB := Aside0.mk (Below.refl w.heap.size w)
 have H : (words_every__words_Code_1.l0 k a0 (a0.size : Int) 0) = some r := h
 clear h
 have H' := Aside0.mk H
 clear H
 go_enter Try.func48, Try.ntmps48
 go_wp2
 go_loopg [8] k (fun kq v8 w' => ∃ (x8_1 : Int), v8 = .int .i64 x8_1 ∧ Aside0 (words_every__words_Code_1.l0 kq a0 (a0.size : Int) x8_1 = some r) ∧ Aside0 (kq ≤ k) ∧ Aside0 (Below w.heap.size w w'))
 case atStart => exact ⟨(0), (by first | rfl | (simp; done) | (simp [*]; done)), H', ⟨Nat.le_refl _⟩, ⟨by repeat (first | (with_reducible first | exact HB.out | apply below_alloc | apply pw_below_drewN | apply below_drew1) | exact HB.out)⟩⟩
 case round =>
  clear H'
  try clear p2
  obtain ⟨x8_1, rfl, HA, HK1, HB⟩ := hrel
  cases gk with
  | zero => exact absurd HA.out (by simp [words_every__words_Code_1.l0])
  | succ k1 =>
   have H := HA.out
   clear HA
   simp only [words_every__words_Code_1.l0] at H
   by_cases c3 : x8_1 < (a0.size : Int)
   ·rw [if_pos c3] at H
    have c3b0 : decide (x8_1 < (a0.size : Int)) = true := decide_eq_true c3
    clear c3
    by_cases c4 : 0 ≤ x8_1
    ·rw [if_pos c4] at H
     have c4b0 : decide (0 ≤ x8_1) = true := decide_eq_true c4
     clear c4
     by_cases c5 : x8_1 < (a0.size : Int)
     ·rw [if_pos c5] at H
      have c5b0 : decide (x8_1 < (a0.size : Int)) = true := decide_eq_true c5
      clear c5
      replace H := Option.bind_eq_some_iff.mp H
      obtain ⟨t101, A70, H⟩ := H
      replace H : (if t101 = true then (words_every__words_Code_1.l0 k1 a0 (a0.size : Int) (wrap64 (x8_1 + 1))) else (some false)) = some r := H
      have A7 := Aside0.mk A70
      clear A70
      by_cases c8 : t101 = true
      ·subst c8
       have H1 : (words_every__words_Code_1.l0 k1 a0 (a0.size : Int) (wrap64 (x8_1 + 1))) = some r := by rw [if_pos rfl] at H; exact H
       clear H
       have H := H1
       clear H1
       have H' := Aside0.mk H
       clear H
       have p6 : 0 ≤ (x8_1 : Int) := of_decide_eq_true (by first | (with_reducible assumption) | assumption)
       have q6 : x8_1 < (a0.size : Int) := of_decide_eq_true (by first | (with_reducible assumption) | assumption)
       have hx6 := bt_at a0 x8_1
       replace p6 := eq_true p6
       replace q6 := eq_true q6
       go_wp2_with (first | (go_at_call 49; (with_reducible refine (words_Code_1.calls (bt a0 x8_1) true _ A7.out).mono ?_); rintro e w' ⟨rfl, ⟨nd, rfl⟩⟩))
       go_roundg k1
       case measure => have := HK1.out; omega
       case rel => exact ⟨(wrap64 (x8_1 + 1)), (by first | rfl | (simp; done) | (simp [*]; done)), H', ⟨by have := HK1.out; omega⟩, ⟨by repeat (first | (with_reducible first | exact HB.out | apply below_alloc | apply pw_below_drewN | apply below_drew1) | exact HB.out)⟩⟩
      ·replace c8 := Bool.eq_false_iff.mpr c8
       subst c8
       have H1 : (some false) = some r := by rw [if_neg (show ¬ (false = true) by decide)] at H; exact H
       clear H
       have H := H1
       clear H1
       obtain rfl := Option.some.inj H
       have p6 : 0 ≤ (x8_1 : Int) := of_decide_eq_true (by first | (with_reducible assumption) | assumption)
       have q6 : x8_1 < (a0.size : Int) := of_decide_eq_true (by first | (with_reducible assumption) | assumption)
       have hx6 := bt_at a0 x8_1
       replace p6 := eq_true p6
       replace q6 := eq_true q6
       go_wp2_with (first | (go_at_call 49; (with_reducible refine (words_Code_1.calls (bt a0 x8_1) false _ A7.out).mono ?_); rintro e w' ⟨rfl, ⟨nd, rfl⟩⟩))
       go_ret
       exact ⟨by first | rfl | (simp [errW_none, errW_some] <;> rfl) | (simp [*, errW_none, errW_some] <;> rfl), by repeat (first | (with_reducible first | exact HB.out | apply below_alloc | apply pw_below_drewN | apply below_drew1) | exact HB.out)⟩
     ·rw [if_neg c5] at H
      exact absurd H (by simp)
    ·rw [if_neg c4] at H
     exact absurd H (by simp)
   ·rw [if_neg c3] at H
    have c3b0 : decide (x8_1 < (a0.size : Int)) = false := decide_eq_false c3
    clear c3
    obtain rfl := Option.some.inj H
    go_wp2
    go_ret
    exact ⟨by first | rfl | (simp [errW_none, errW_some] <;> rfl) | (simp [*, errW_none, errW_some] <;> rfl), by repeat (first | (with_reducible first | exact HB.out | apply below_alloc | apply pw_below_drewN | apply below_drew1) | exact HB.out)⟩
end Go.Proofs.Ytgjpegmhlnabpaa.M
end
section
-- Written by mprint.py (a program of this session) over the kit's print.
namespace Go.Proofs.Ytgjpegmhlnabpaa.M
open Go.RowKit Go.Proofs.YtgjpegmhlnabpaaW.PrintWords Go.Proofs.YtgjpegmhlnabpaaW.PrintLast Go.Proofs.YtgjpegmhlnabpaaW.PrintMore
attribute [local go_sem] max2_int min2_int max_two min_two max_three min_three max_four min_four   -- for this text's walks alone
set_option linter.unusedVariables false
set_option linter.unusedSimpArgs false
/-! ### words_Code: function 27 -/
def words_Code.f (k : Nat) (a0 : ByteArray) : Option (Bool) := if a0.toList = ([] : List UInt8) then (some false) else (if (a0.size : Int) ≤ 12 then ((words_every__words_Code_1.f k a0).bind fun t102 => (some t102)) else (some false))
theorem words_Code.mono : ∀ a0 k, LeO (words_Code.f k a0) (words_Code.f (k + 1) a0) := by
 intro a0 k
 unfold words_Code.f
 repeat' first
   | (with_reducible exact words_every__words_Code_1.mono _ _)
   | (with_reducible exact LeO.refl _)
   | (with_reducible exact LeO.none _)
   | (with_reducible refine LeO.ite ?_ ?_)
   | (with_reducible refine LeO.bind ?_ (fun _ => ?_))
   | exact words_every__words_Code_1.mono _ _
   | exact LeO.none _
   | refine LeO.ite ?_ ?_
   | refine LeO.bind ?_ (fun _ => ?_)
set_option maxHeartbeats 8000000 in
set_option maxRecDepth 100000 in
theorem words_Code.calls (k : Nat) (a0 : ByteArray) (r : Bool) (w : World) (h : words_Code.f k a0 = some r) :
    Calls Try.prog 27 #[.string a0] w fun e w' => e = .returned (.bool r) ∧ Below w.heap.size w w' := by
 have HB := Aside0.mk (Below.refl w.heap.size w)
 have H : (if a0.toList = ([] : List UInt8) then (some false) else (if (a0.size : Int) ≤ 12 then ((words_every__words_Code_1.f k a0).bind fun t102 => (some t102)) else (some false))) = some r := h
 clear h
 by_cases c2 : a0.toList = ([] : List UInt8)
 ·rw [if_pos c2] at H
  have c2b0 : (a0.toList == ([] : List UInt8)) = true := beq_iff_eq.mpr c2
  have c2b1 : (a0.toList != ([] : List UInt8)) = false := bne_eq_false_iff_eq.mpr c2
  clear c2
  obtain rfl := Option.some.inj H
  go_enter Try.func27, Try.ntmps27
  go_wp2
  go_ret
  exact ⟨by first | rfl | (simp [errW_none, errW_some] <;> rfl) | (simp [*, errW_none, errW_some] <;> rfl), by repeat (first | (with_reducible first | exact HB.out | apply below_alloc | apply pw_below_drewN | apply below_drew1) | exact HB.out)⟩
 ·rw [if_neg c2] at H
  have c2b0 : (a0.toList == ([] : List UInt8)) = false := beq_eq_false_iff_ne.mpr c2
  have c2b1 : (a0.toList != ([] : List UInt8)) = true := bne_iff_ne.mpr c2
  by_cases c3 : (a0.size : Int) ≤ 12
  ·rw [if_pos c3] at H
   have c3b0 : decide ((a0.size : Int) ≤ 12) = true := decide_eq_true c3
   have c3b1 : decide (a0.size ≤ 12) = true := decide_eq_true (by omega)
   clear c3
   replace H := Option.bind_eq_some_iff.mp H
   obtain ⟨t102, A40, H⟩ := H
   replace H : (some t102) = some r := H
   have A4 := Aside0.mk A40
   clear A40
   obtain rfl := Option.some.inj H
   go_enter Try.func27, Try.ntmps27
   go_wp2_with (first | (go_at_call 48; (with_reducible refine (words_every__words_Code_1.calls k a0  t102 _ A4.out).mono ?_); rintro e w5 ⟨rfl, hb⟩; have n0_ := Aside0.mk (below_step (by repeat (first | (with_reducible first | exact HB.out | apply below_alloc | apply pw_below_drewN | apply below_drew1) | exact HB.out)) hb); clear HB; have HB := n0_; clear n0_; (try clear hb); (try clear hb2); (try clear hk); (try clear hi)))
   go_ret
   exact ⟨by first | rfl | (simp [errW_none, errW_some] <;> rfl) | (simp [*, errW_none, errW_some] <;> rfl), by repeat (first | (with_reducible first | exact HB.out | apply below_alloc | apply pw_below_drewN | apply below_drew1) | exact HB.out)⟩
  ·rw [if_neg c3] at H
   have c3b0 : decide ((a0.size : Int) ≤ 12) = false := decide_eq_false c3
   have c3b1 : decide (a0.size ≤ 12) = false := decide_eq_false (by omega)
   clear c3
   obtain rfl := Option.some.inj H
   go_enter Try.func27, Try.ntmps27
   go_wp2
   go_ret
   exact ⟨by first | rfl | (simp [errW_none, errW_some] <;> rfl) | (simp [*, errW_none, errW_some] <;> rfl), by repeat (first | (with_reducible first | exact HB.out | apply below_alloc | apply pw_below_drewN | apply below_drew1) | exact HB.out)⟩
end Go.Proofs.Ytgjpegmhlnabpaa.M
end
