/- What the claims of this seat share, part 2 of 9: what the program's functions compute. -/
import Derived.Test.YtjeecehhcajfaaaDoorQBB1
import Derived.Laws.Closers25b
import Derived.Laws.IdiomStrings
import Derived.SizedLaws
import Derived.ChangeArms
import Derived.ChangeShapes
import Derived.DataReads
namespace Go.Proofs.YtjeecehhcajfaaaDoor.M
theorem cbb2_0 {p : Prop} (h : p := by simp only [Act.put, List.setIfInBounds_toArray, List.set_cons_zero, List.set_cons_succ, i64_w, i32_w]; rfl) : p := h
theorem pbb2_0 {p : Prop} (h : p := by rw [← add_field _ _ 1 (by omega)]; exact hc 1 _ rfl) : p := h
theorem pbb2_1 {p : Prop} (h : p := by have hq := hc 0 _ rfl; rwa [Nat.mul_one, Nat.add_zero] at hq) : p := h
theorem pbb2_2 {p : Prop} (h : p := by rw [← add_field _ _ 2 (by omega)]; exact hc 2 _ rfl) : p := h
theorem pbb2_3 {p : Prop} (h : p := by first | rfl | (simp; done) | (simp [*]; done)) : p := h
theorem pbb2_4 {p : Prop} (h : p := by repeat (first | exact Drawn0.refl _ | apply Drawn0.step)) : p := h
theorem pbb2_5 {p : Prop} (h : p := by (try simp only [List.map_toArray, List.map_cons, List.map_nil]); first | done | rfl | (simp only [List.length_drop, List.length_take]; rfl)) : p := h
theorem pbb2_6 {p : Prop} (h : p := by first | (with_reducible assumption) | assumption) : p := h
theorem pbb2_7 {p : Prop} (h : p := by have := HK1.out; omega) : p := h
theorem pbb2_8 {p : Prop} (h : p := by rw [hg]; exact (below_size (by repeat (first | (with_reducible first | exact HB.out | apply below_alloc | apply pw_below_drewN | apply below_drew1) | exact HB.out)))) : p := h
theorem pbb2_9 {p : Prop} (h : p := by repeat (first | (with_reducible first | exact HB.out | apply below_alloc | apply pw_below_drewN | apply below_drew1) | exact HB.out)) : p := h
theorem pbb2_10 {p : Prop} (h : p := by rw [hg]; exact (below_size (by repeat (first | (with_reducible first | exact HB.out | apply below_alloc | apply pw_below_drewN | apply below_drew1 | refine below_set ?_ GE101.out) | exact HB.out)))) : p := h
theorem pbb2_11 {p : Prop} (h : p := by repeat (first | (with_reducible first | exact HB.out | apply below_alloc | apply pw_below_drewN | apply below_drew1 | refine below_set ?_ GE101.out) | exact HB.out)) : p := h
theorem pbb2_12 {p : Prop} (h : p := by (with_reducible repeat (first | refine blk_drewN ?_ _ | refine blk_drew ?_ | refine blk_alloc ?_ _)); exact BK101.out) : p := h
theorem pbb2_13 {p : Prop} (h : p := by repeat (first | (with_reducible first | exact HB.out | apply below_alloc | apply pw_below_drewN | apply below_drew1 | refine below_set ?_ GE101.out | refine below_set ?_ GE102.out) | exact HB.out)) : p := h
theorem pbb2_14 {p : Prop} (h : p := by (with_reducible repeat (first | refine blk_drewN ?_ _ | refine blk_drew ?_ | refine blk_alloc ?_ _)); exact BK102.out) : p := h
theorem pbb2_15 {p : Prop} (h : p := by repeat (first | (with_reducible first | exact HB.out | apply below_alloc | apply pw_below_drewN | apply below_drew1 | refine below_set ?_ GE101.out | refine below_set ?_ GE102.out | refine below_set ?_ GE103.out) | exact HB.out)) : p := h
theorem pbb2_16 {p : Prop} (h : p := by (with_reducible repeat (first | refine blk_drewN ?_ _ | refine blk_drew ?_ | refine blk_alloc ?_ _)); exact BK103.out) : p := h
theorem pbb2_17 {p : Prop} (h : p := by repeat (first | (with_reducible first | exact HB.out | apply below_alloc | apply pw_below_drewN | apply below_drew1 | refine below_set ?_ GE101.out | refine below_set ?_ GE102.out | refine below_set ?_ GE103.out | refine below_set ?_ GE105.out) | exact HB.out)) : p := h
theorem pbb2_18 {p : Prop} (h : p := by first | rfl | (simp [errW_none, errW_some] <;> rfl) | (simp [*, errW_none, errW_some] <;> rfl)) : p := h
end Go.Proofs.YtjeecehhcajfaaaDoor.M
section
namespace Go.Proofs.YtjeecehhcajfaaaDoor.M
open Go.RowKit Go.Proofs.YtjeecehhcajfaaaDoorW.PrintWords
def Ev {α : Type} (g : Nat → Option α) (r : α) : Prop := ∃ k0, ∀ k, k0 ≤ k → g k = some r
theorem Ev.succ {α : Type} {g : Nat → Option α} {r : α} (h : Ev (fun k => g (k + 1)) r) : Ev g r := by
 obtain ⟨k0, hk⟩ := h; refine ⟨k0 + 1, fun k hk1 => ?_⟩; obtain ⟨j, rfl⟩ : ∃ j, k = j + 1 := ⟨k - 1, by omega⟩; exact hk j (by omega)
theorem Ev.of {α : Type} {g : Nat → Option α} {r : α} (h : ∀ k, g k = some r) : Ev g r := ⟨0, fun k _ => h k⟩
theorem Ev.const {α : Type} (r : α) : Ev (fun _ => some r) r := ⟨0, fun _ _ => rfl⟩
theorem Ev.bind {α β : Type} {g : Nat → Option α} {h : Nat → α → Option β} {a : α} {b : β} (hg : Ev g a) (hh : Ev (fun k => h k a) b) : Ev (fun k => (g k).bind (h k)) b := by
 obtain ⟨k0, h0⟩ := hg; obtain ⟨k1, h1⟩ := hh; refine ⟨k0 + k1, fun k hk => ?_⟩; show (g k).bind (h k) = some b; rw [h0 k (by omega)]; exact h1 k (by omega)
theorem Ev.out {α : Type} {g : Nat → Option α} {r : α} (h : Ev g r) : ∃ k, g k = some r := ⟨h.choose, h.choose_spec _ (Nat.le_refl _)⟩
theorem Ev.mono {α : Type} {g : Nat → Option α} {r : α} (h : ∃ k, g k = some r) (m : ∀ k, LeO (g k) (g (k + 1))) : Ev g r := by
 obtain ⟨k0, h0⟩ := h; refine ⟨k0, fun k hk => ?_⟩; obtain ⟨d, rfl⟩ : ∃ d, k = k0 + d := ⟨k - k0, by omega⟩; clear hk
 induction d with
 | zero => exact h0
 | succ d ih => exact m _ _ ih
theorem w64 {n : Int} (h0 : -9223372036854775808 ≤ n) (h1 : n ≤ 9223372036854775807) : wrap64 n = n := by unfold wrap64; omega
theorem u64w2 {n : Int} (h0 : 0 ≤ n) (h1 : n < 18446744073709551616) : IntKind.u64.wrap n = n := by simp [IntKind.wrap, IntKind.bits, IntKind.signed]; omega
theorem rd_at (P : List Int) (u : Int) (T : List Int) (i : Int) (h : i = (P.length : Int)) : rd (P ++ u :: T) i = u := by
 subst h; simp [rd]
theorem set_at (P : List Int) (u v : Int) (T : List Int) (i : Int) (h : i = (P.length : Int)) : (P ++ u :: T).set i.toNat v = P ++ v :: T := by
 subst h; simp
theorem rd_mid (P R S : List Int) (n : Nat) (h : n < R.length) (c : Int) (hc : c = ((P.length + n : Nat) : Int)) : rd (P ++ R ++ S) c = R[n] := by
 subst hc; have e : ((P.length + n : Nat) : Int).toNat = P.length + n := by omega
 unfold rd
 rw [e, List.getD_eq_getElem?_getD, List.append_assoc, List.getElem?_append_right (by omega), List.getElem?_append_left (by omega)]
 simp [show P.length + n - P.length = n by omega, List.getElem?_eq_getElem h]
theorem rd_lt {lt : Int → Int → Prop} (P R S : List Int) (hs : R.Pairwise lt) (c d : Int) (h0 : (P.length : Int) ≤ c) (h1 : c < d) (h2 : d < (P.length : Int) + (R.length : Int)) : lt (rd (P ++ R ++ S) c) (rd (P ++ R ++ S) d) := by
 obtain ⟨n, hn⟩ : ∃ n : Nat, c = ((P.length + n : Nat) : Int) := ⟨(c - P.length).toNat, by omega⟩; obtain ⟨m, hm⟩ : ∃ m : Nat, d = ((P.length + m : Nat) : Int) := ⟨(d - P.length).toNat, by omega⟩; rw [rd_mid P R S n (by omega) c hn, rd_mid P R S m (by omega) d hm]; exact (List.pairwise_iff_getElem.1 hs) n m (by omega) (by omega) (by omega)
theorem rd_mem (P R S : List Int) (c : Int) (h0 : (P.length : Int) ≤ c) (h1 : c < (P.length : Int) + (R.length : Int)) : rd (P ++ R ++ S) c ∈ R := by
 obtain ⟨n, hn⟩ : ∃ n : Nat, c = ((P.length + n : Nat) : Int) := ⟨(c - P.length).toNat, by omega⟩; rw [rd_mid P R S n (by omega) c hn]; exact List.getElem_mem _
theorem mem_rd (P R S : List Int) (y : Int) (h : y ∈ R) : ∃ c : Int, (P.length : Int) ≤ c ∧ c < (P.length : Int) + (R.length : Int) ∧ rd (P ++ R ++ S) c = y := by
 obtain ⟨n, hn, rfl⟩ := List.mem_iff_getElem.1 h; exact ⟨((P.length + n : Nat) : Int), by omega, by omega, rd_mid P R S n hn _ rfl⟩
theorem split_at (R : List Int) (n : Nat) (h : n ≤ R.length) : ∃ A B, R = A ++ B ∧ A.length = n ∧ B.length = R.length - n := ⟨R.take n, R.drop n, (List.take_append_drop n R).symm, by simp; omega, by simp⟩
theorem bsearch {β : Type} (F : Int → Int → Nat → Option β) (G : Int → Nat → Option β) (Q : Int → Prop) (i0 j0 : Int)
  (stepT : ∀ i j r, i0 ≤ i → i < j → j ≤ j0 → Q ((i + j) / 2) → Ev (F ((i + j) / 2 + 1) j) r → Ev (F i j) r)
  (stepF : ∀ i j r, i0 ≤ i → i < j → j ≤ j0 → ¬ Q ((i + j) / 2) → Ev (F i ((i + j) / 2)) r → Ev (F i j) r)
  (stop : ∀ i r, i0 ≤ i → i ≤ j0 → Ev (G i) r → Ev (F i i) r) (mono : ∀ c d, i0 ≤ c → c < d → d < j0 → Q d → Q c) :
  ∀ (N : Nat) (i j : Int), (j - i).toNat ≤ N → i ≤ j → i0 ≤ i → j ≤ j0 → (∀ c, i0 ≤ c → c < i → Q c) → (∀ c, j ≤ c → c < j0 → ¬ Q c) → ∃ t, i ≤ t ∧ t ≤ j ∧ (∀ c, i0 ≤ c → c < t → Q c) ∧ (∀ c, t ≤ c → c < j0 → ¬ Q c) ∧ ∀ r, Ev (G t) r → Ev (F i j) r
 | N, i, j, hN, hij, h0, h1, hq, hn => by
  by_cases h : i < j
  ·obtain ⟨N, rfl⟩ : ∃ M, N = M + 1 := ⟨N - 1, by omega⟩
   by_cases q : Q ((i + j) / 2)
   ·obtain ⟨t, t1, t2, t3, t4, t5⟩ := bsearch F G Q i0 j0 stepT stepF stop mono N ((i + j) / 2 + 1) j (by omega) (by omega) (by omega) h1 (fun c c0 c1 => by
     by_cases e : c = (i + j) / 2
     ·rw [e]; exact q
     ·exact mono c ((i + j) / 2) c0 (by omega) (by omega) q) hn
    exact ⟨t, by omega, t2, t3, t4, fun r hr => stepT i j r h0 h h1 q (t5 r hr)⟩
   ·obtain ⟨t, t1, t2, t3, t4, t5⟩ := bsearch F G Q i0 j0 stepT stepF stop mono N i ((i + j) / 2) (by omega) (by omega) h0 (by omega) hq (fun c c0 c1 => by
     by_cases e : c = (i + j) / 2
     ·rw [e]; exact q
     ·exact fun k => q (mono ((i + j) / 2) c (by omega) (by omega) c1 k))
    exact ⟨t, t1, by omega, t3, t4, fun r hr => stepF i j r h0 h h1 q (t5 r hr)⟩
  ·obtain rfl : i = j := by omega
   exact ⟨i, Int.le_refl _, Int.le_refl _, hq, hn, fun r hr => stop i r h0 h1 hr⟩
end Go.Proofs.YtjeecehhcajfaaaDoor.M
end
section
namespace Go.Proofs.YtjeecehhcajfaaaDoorW.PrintLast
open Go.RowKit Go.Proofs.YtjeecehhcajfaaaDoorW.PrintWords
theorem bnd {α β : Type} {x : Option α} {f : α → Option β} {r : β} (h : x.bind f = some r) : ∃ t, x = some t ∧ f t = some r := Option.bind_eq_some_iff.mp h
theorem bT_ {α : Type} [BEq α] [LawfulBEq α] {a b : α} (h : a = b) : (a == b) = true := beq_iff_eq.mpr h
theorem bF_ {α : Type} [BEq α] [LawfulBEq α] {a b : α} (h : a = b) : (a != b) = false := bne_eq_false_iff_eq.mpr h
theorem nF_ {α : Type} [BEq α] [LawfulBEq α] {a b : α} (h : ¬ a = b) : (a == b) = false := beq_eq_false_iff_ne.mpr h
theorem nT_ {α : Type} [BEq α] [LawfulBEq α] {a b : α} (h : ¬ a = b) : (a != b) = true := bne_iff_ne.mpr h
theorem pv_ {P : Program} {ops : Array Oper} {Q : Exit → Act → World → Prop} {md : Region.Mode} {S : World → Prop} {ds : List Nat} {T : Bool × List (List Nat × List Nat)} {oi : Oper} {fuel : Nat} {l : Array Bool} {a : Act} {w : World} {v : Value} {a' : Act} (i : Nat) (M : Tmp) (l' : Array Bool) (hT : Aside0 (rtab md ops = T)) (h : wpAnyLast P md ops Q S ds fuel l' a' w) (hi : ops[i]? = some oi := by rfl) (hN : oi.dst = some M := by rfl) (h0 : anyT T l.toList l'.toList i = true := by kernel_rfl) (hw : Region.wanted oi (yielded ops a.tmps) = true := by rfl)
    (hy : ∀ w, (execOp a.eval oi).run P w = .ok (.value v) w := by intro w'; go_simp; with_reducible rfl) (ha : a.put (some M) v = a' := by simp only [Act.put, List.setIfInBounds_toArray, List.set_cons_zero, List.set_cons_succ, i64_w, i32_w]; rfl) (hQ : ∀ c a w, Q (.panic c) (a.put oi.dst v) w → Q (.panic c) a w := by exact fun _ _ _ h => h) : wpAnyLast P md ops Q S ds (fuel + 1) l a w :=
  pure_ l' hi hN (any_of hT.out h0) hQ (.inl ⟨hw, hy⟩) ha h
def bq (n k : Nat) : Array Bool := ((List.range n).map fun i => k.testBit i).toArray
theorem cz2 {w : World} {g : Nat} {t : TypeId} {a0 a1 : Value} (h : w.heap[g]? = some (.cells #[a0, a1] t (0, 0))) : w.cell? ⟨g, 0, none⟩ = some a0 ∧ w.cell? ⟨g, 1, none⟩ = some a1 := ⟨(blk_cell h 0).trans rfl, (blk_cell h 1).trans rfl⟩
theorem fz2 {w : World} {g : Nat} {t : TypeId} {cs : Array Value} (h : w.heap[g]? = some (.cells cs t (0, 0))) : w.frozen? ⟨g, 0, none⟩ = false ∧ w.frozen? ⟨g, 1, none⟩ = false := ⟨blk_frozen h 0, blk_frozen h 1⟩
theorem up2 {w w1 : World} {A : Option Addr} {f0 f1 : Addr → Addr} {a0 a1 : Value} (hb : Below w.heap.size w w1) (h : ∃ ad, A = some ad ∧ w.cell? (f0 ad) = some a0 ∧ w.cell? (f1 ad) = some a1) : ∃ ad, A = some ad ∧ w1.cell? (f0 ad) = some a0 ∧ w1.cell? (f1 ad) = some a1 := by
  obtain ⟨ad, e, h0, h1⟩ := h; exact ⟨ad, e, (hb.cell (World.block_lt_of_cell? w _ h0)).trans h0, (hb.cell (World.block_lt_of_cell? w _ h1)).trans h1⟩
theorem cz3 {w : World} {g : Nat} {t : TypeId} {a0 a1 a2 : Value} (h : w.heap[g]? = some (.cells #[a0, a1, a2] t (0, 0))) : w.cell? ⟨g, 0, none⟩ = some a0 ∧ w.cell? ⟨g, 1, none⟩ = some a1 ∧ w.cell? ⟨g, 2, none⟩ = some a2 := ⟨(blk_cell h 0).trans rfl, (blk_cell h 1).trans rfl, (blk_cell h 2).trans rfl⟩
theorem fz3 {w : World} {g : Nat} {t : TypeId} {cs : Array Value} (h : w.heap[g]? = some (.cells cs t (0, 0))) : w.frozen? ⟨g, 0, none⟩ = false ∧ w.frozen? ⟨g, 1, none⟩ = false ∧ w.frozen? ⟨g, 2, none⟩ = false := ⟨blk_frozen h 0, blk_frozen h 1, blk_frozen h 2⟩
theorem cz5 {w : World} {g : Nat} {t : TypeId} {a0 a1 a2 a3 a4 : Value} (h : w.heap[g]? = some (.cells #[a0, a1, a2, a3, a4] t (0, 0))) : w.cell? ⟨g, 0, none⟩ = some a0 ∧ w.cell? ⟨g, 1, none⟩ = some a1 ∧ w.cell? ⟨g, 2, none⟩ = some a2 ∧ w.cell? ⟨g, 3, none⟩ = some a3 ∧ w.cell? ⟨g, 4, none⟩ = some a4 := ⟨(blk_cell h 0).trans rfl, (blk_cell h 1).trans rfl, (blk_cell h 2).trans rfl, (blk_cell h 3).trans rfl, (blk_cell h 4).trans rfl⟩
theorem fz5 {w : World} {g : Nat} {t : TypeId} {cs : Array Value} (h : w.heap[g]? = some (.cells cs t (0, 0))) : w.frozen? ⟨g, 0, none⟩ = false ∧ w.frozen? ⟨g, 1, none⟩ = false ∧ w.frozen? ⟨g, 2, none⟩ = false ∧ w.frozen? ⟨g, 3, none⟩ = false ∧ w.frozen? ⟨g, 4, none⟩ = false := ⟨blk_frozen h 0, blk_frozen h 1, blk_frozen h 2, blk_frozen h 3, blk_frozen h 4⟩
theorem cz7 {w : World} {g : Nat} {t : TypeId} {a0 a1 a2 a3 a4 a5 a6 : Value} (h : w.heap[g]? = some (.cells #[a0, a1, a2, a3, a4, a5, a6] t (0, 0))) : w.cell? ⟨g, 0, none⟩ = some a0 ∧ w.cell? ⟨g, 1, none⟩ = some a1 ∧ w.cell? ⟨g, 2, none⟩ = some a2 ∧ w.cell? ⟨g, 3, none⟩ = some a3 ∧ w.cell? ⟨g, 4, none⟩ = some a4 ∧ w.cell? ⟨g, 5, none⟩ = some a5 ∧ w.cell? ⟨g, 6, none⟩ = some a6 := ⟨(blk_cell h 0).trans rfl, (blk_cell h 1).trans rfl, (blk_cell h 2).trans rfl, (blk_cell h 3).trans rfl, (blk_cell h 4).trans rfl, (blk_cell h 5).trans rfl, (blk_cell h 6).trans rfl⟩
theorem fz7 {w : World} {g : Nat} {t : TypeId} {cs : Array Value} (h : w.heap[g]? = some (.cells cs t (0, 0))) : w.frozen? ⟨g, 0, none⟩ = false ∧ w.frozen? ⟨g, 1, none⟩ = false ∧ w.frozen? ⟨g, 2, none⟩ = false ∧ w.frozen? ⟨g, 3, none⟩ = false ∧ w.frozen? ⟨g, 4, none⟩ = false ∧ w.frozen? ⟨g, 5, none⟩ = false ∧ w.frozen? ⟨g, 6, none⟩ = false := ⟨blk_frozen h 0, blk_frozen h 1, blk_frozen h 2, blk_frozen h 3, blk_frozen h 4, blk_frozen h 5, blk_frozen h 6⟩
theorem cz8 {w : World} {g : Nat} {t : TypeId} {a0 a1 a2 a3 a4 a5 a6 a7 : Value} (h : w.heap[g]? = some (.cells #[a0, a1, a2, a3, a4, a5, a6, a7] t (0, 0))) : w.cell? ⟨g, 0, none⟩ = some a0 ∧ w.cell? ⟨g, 1, none⟩ = some a1 ∧ w.cell? ⟨g, 2, none⟩ = some a2 ∧ w.cell? ⟨g, 3, none⟩ = some a3 ∧ w.cell? ⟨g, 4, none⟩ = some a4 ∧ w.cell? ⟨g, 5, none⟩ = some a5 ∧ w.cell? ⟨g, 6, none⟩ = some a6 ∧ w.cell? ⟨g, 7, none⟩ = some a7 := ⟨(blk_cell h 0).trans rfl, (blk_cell h 1).trans rfl, (blk_cell h 2).trans rfl, (blk_cell h 3).trans rfl, (blk_cell h 4).trans rfl, (blk_cell h 5).trans rfl, (blk_cell h 6).trans rfl, (blk_cell h 7).trans rfl⟩
theorem fz8 {w : World} {g : Nat} {t : TypeId} {cs : Array Value} (h : w.heap[g]? = some (.cells cs t (0, 0))) : w.frozen? ⟨g, 0, none⟩ = false ∧ w.frozen? ⟨g, 1, none⟩ = false ∧ w.frozen? ⟨g, 2, none⟩ = false ∧ w.frozen? ⟨g, 3, none⟩ = false ∧ w.frozen? ⟨g, 4, none⟩ = false ∧ w.frozen? ⟨g, 5, none⟩ = false ∧ w.frozen? ⟨g, 6, none⟩ = false ∧ w.frozen? ⟨g, 7, none⟩ = false := ⟨blk_frozen h 0, blk_frozen h 1, blk_frozen h 2, blk_frozen h 3, blk_frozen h 4, blk_frozen h 5, blk_frozen h 6, blk_frozen h 7⟩
theorem cz9 {w : World} {g : Nat} {t : TypeId} {a0 a1 a2 a3 a4 a5 a6 a7 a8 : Value} (h : w.heap[g]? = some (.cells #[a0, a1, a2, a3, a4, a5, a6, a7, a8] t (0, 0))) : w.cell? ⟨g, 0, none⟩ = some a0 ∧ w.cell? ⟨g, 1, none⟩ = some a1 ∧ w.cell? ⟨g, 2, none⟩ = some a2 ∧ w.cell? ⟨g, 3, none⟩ = some a3 ∧ w.cell? ⟨g, 4, none⟩ = some a4 ∧ w.cell? ⟨g, 5, none⟩ = some a5 ∧ w.cell? ⟨g, 6, none⟩ = some a6 ∧ w.cell? ⟨g, 7, none⟩ = some a7 ∧ w.cell? ⟨g, 8, none⟩ = some a8 := ⟨(blk_cell h 0).trans rfl, (blk_cell h 1).trans rfl, (blk_cell h 2).trans rfl, (blk_cell h 3).trans rfl, (blk_cell h 4).trans rfl, (blk_cell h 5).trans rfl, (blk_cell h 6).trans rfl, (blk_cell h 7).trans rfl, (blk_cell h 8).trans rfl⟩
theorem fz9 {w : World} {g : Nat} {t : TypeId} {cs : Array Value} (h : w.heap[g]? = some (.cells cs t (0, 0))) : w.frozen? ⟨g, 0, none⟩ = false ∧ w.frozen? ⟨g, 1, none⟩ = false ∧ w.frozen? ⟨g, 2, none⟩ = false ∧ w.frozen? ⟨g, 3, none⟩ = false ∧ w.frozen? ⟨g, 4, none⟩ = false ∧ w.frozen? ⟨g, 5, none⟩ = false ∧ w.frozen? ⟨g, 6, none⟩ = false ∧ w.frozen? ⟨g, 7, none⟩ = false ∧ w.frozen? ⟨g, 8, none⟩ = false := ⟨blk_frozen h 0, blk_frozen h 1, blk_frozen h 2, blk_frozen h 3, blk_frozen h 4, blk_frozen h 5, blk_frozen h 6, blk_frozen h 7, blk_frozen h 8⟩
end Go.Proofs.YtjeecehhcajfaaaDoorW.PrintLast
end
section
namespace Go.Proofs.YtjeecehhcajfaaaDoor.M
open Go.RowKit Go.Proofs.YtjeecehhcajfaaaDoorW.PrintWords Go.Proofs.YtjeecehhcajfaaaDoorW.PrintLast Go.Proofs.YtjeecehhcajfaaaDoorW.PrintMore
attribute [local go_sem] max2_int min2_int max_two min_two max_three min_three max_four min_four
set_option linter.unusedVariables false
set_option linter.unusedSimpArgs false
def errW : Option Int → Value
  | none => .nilIface
  | some c => .iface 0 (.int .i64 c)
theorem errW_none : errW none = .nilIface := rfl
theorem errW_some (c : Int) : errW (some c) = .iface 0 (.int .i64 c) := rfl
theorem info3 : (Tryd.prog.info? 3).map (fun i => (i.zero, i.size, i.bytes)) = some (some (.int .i64 0), 1, 8) := by kernel_rfl
theorem info24 : (Tryd.prog.info? 24).map (fun i => (i.zero, i.size, i.bytes)) = some (some (.agg #[(.string ⟨#[]⟩), (.string ⟨#[]⟩), (.int .i64 0), (.int .i64 0), (.string ⟨#[]⟩), (.string ⟨#[]⟩), (.slice none 0 0)]), 7, 104) := by kernel_rfl
theorem info61 : (Tryd.prog.info? 61).map (fun i => (i.zero, i.size, i.bytes)) = some (some (.agg #[(.string ⟨#[]⟩), (.int .i64 0), (.int .i64 0)]), 3, 32) := by kernel_rfl
theorem info101 : (Tryd.prog.info? 101).map (fun i => (i.zero, i.size, i.bytes)) = some (some (.agg #[(.string ⟨#[]⟩), (.string ⟨#[]⟩)]), 2, 32) := by kernel_rfl
structure S101 where
  f0 : ByteArray
  f1 : ByteArray
def z101 : S101 := ⟨(⟨#[]⟩ : ByteArray), (⟨#[]⟩ : ByteArray)⟩
def k101 : Kd S101 := Kd.iso (Kd.pair Kd.string Kd.string) (fun x : S101 => (x.f0, x.f1))
theorem k101_open {w : World} {x : S101} {cs : List Value} (h : k101.K w x cs) : cs = [.string x.f0, .string x.f1] := by
  obtain ⟨_, _, rfl, rfl, rfl⟩ := h; exact rfl
theorem k101_openM {w : World} {base : Nat} {ok : Nat → Prop} {x : S101} {cs : List Value} (h : k101.M w base ok x cs) : cs = [.string x.f0, .string x.f1] := by
  obtain ⟨_, _, rfl, rfl, rfl⟩ := h; exact rfl
theorem k101_mk (w : World) (x : S101)  : k101.K w x [.string x.f0, .string x.f1] := ⟨[.string x.f0], [.string x.f1], rfl, rfl, rfl⟩
theorem k101_mkM (w : World) (base : Nat) (ok : Nat → Prop) (x : S101)  : k101.M w base ok x [.string x.f0, .string x.f1] := ⟨[.string x.f0], [.string x.f1], rfl, rfl, rfl⟩
theorem k101_mkF (W : World) (ok : Nat → Prop) (x : S101) : Kd.FK k101 W ok x [.string x.f0, .string x.f1] := fun W2 _ => k101_mk W2 x
def rd_T101 (xs : List S101) (i : Int) : S101 := xs.getD i.toNat z101
theorem at_T101 {w : World} {A : Option Addr} {n : Nat} {xs : List S101} (h : Kd.C k101 w A n xs) (i : Int) (h0 : 0 ≤ i) (h1 : i < n) : ∃ ad , A = some ad ∧ w.cell? (ad.add (i.toNat * 2)) = some (.string (rd_T101 xs i).f0) ∧ w.cell? ⟨(ad.add (i.toNat * 2)).block, (ad.add (i.toNat * 2)).off + 1, none⟩ = some (.string (rd_T101 xs i).f1) := by
  obtain ⟨ad, c, e, _, hK, hc0⟩ := Kd.C_get h z101 i h0 h1; have hc : ∀ j u, c[j]? = some u → w.cell? (ad.add (i.toNat * 2 + j)) = some u := hc0; obtain rfl := k101_open hK; exact ⟨ad, e, hc 0 _ rfl, pbb2_0⟩
def rd_L3 (xs : List (List S101)) (i : Int) : (List S101) := xs.getD i.toNat ([] : List S101)
theorem at_L3 {w : World} {A : Option Addr} {n : Nat} {xs : List (List S101)} (h : Kd.C (Kd.slice 101 k101) w A n xs) (i : Int) (h0 : 0 ≤ i) (h1 : i < n) : ∃ ad A0 c0, A = some ad ∧ w.cell? (ad.add i.toNat) = some (.slice A0 (rd_L3 xs i).length c0) ∧ (rd_L3 xs i).length ≤ c0 ∧ k101.C w A0 (rd_L3 xs i).length (rd_L3 xs i) := by
  obtain ⟨ad, c, e, _, hK, hc0⟩ := Kd.C_get h ([] : List S101) i h0 h1; have hc : ∀ j u, c[j]? = some u → w.cell? (ad.add (i.toNat * 1 + j)) = some u := hc0; obtain ⟨A0, c0, rfl, l0, g0⟩ := hK; exact ⟨ad, A0, c0, e, pbb2_1, l0, g0⟩
structure S24 where
  f0 : ByteArray
  f1 : ByteArray
  f2 : Int
  f3 : Int
  f4 : ByteArray
  f5 : ByteArray
  f6 : (List S101)
def z24 : S24 := ⟨(⟨#[]⟩ : ByteArray), (⟨#[]⟩ : ByteArray), (0 : Int), (0 : Int), (⟨#[]⟩ : ByteArray), (⟨#[]⟩ : ByteArray), ([] : List S101)⟩
def k24 : Kd S24 := Kd.iso (Kd.pair Kd.string (Kd.pair Kd.string (Kd.pair (Kd.int .i64) (Kd.pair (Kd.int .i64) (Kd.pair Kd.string (Kd.pair Kd.string (Kd.slice 101 k101))))))) (fun x : S24 => (x.f0, x.f1, x.f2, x.f3, x.f4, x.f5, x.f6))
theorem k24_open {w : World} {x : S24} {cs : List Value} (h : k24.K w x cs) : ∃ A6 c6, cs = [.string x.f0, .string x.f1, .int .i64 x.f2, .int .i64 x.f3, .string x.f4, .string x.f5, .slice A6 x.f6.length c6] ∧ x.f6.length ≤ c6 ∧ k101.C w A6 x.f6.length x.f6 := by
  obtain ⟨_, _, rfl, rfl, ⟨_, _, rfl, rfl, ⟨_, _, rfl, rfl, ⟨_, _, rfl, rfl, ⟨_, _, rfl, rfl, ⟨_, _, rfl, rfl, ⟨A6, c6, rfl, l6, g6⟩⟩⟩⟩⟩⟩⟩ := h; exact ⟨A6, c6, rfl, l6, g6⟩
theorem k24_openM {w : World} {base : Nat} {ok : Nat → Prop} {x : S24} {cs : List Value} (h : k24.M w base ok x cs) : ∃ v6, cs = [.string x.f0, .string x.f1, .int .i64 x.f2, .int .i64 x.f3, .string x.f4, .string x.f5, v6] ∧ k101.R 101 w base ok v6 x.f6 := by
  obtain ⟨_, _, rfl, rfl, ⟨_, _, rfl, rfl, ⟨_, _, rfl, rfl, ⟨_, _, rfl, rfl, ⟨_, _, rfl, rfl, ⟨_, _, rfl, rfl, ⟨v6, rfl, g6⟩⟩⟩⟩⟩⟩⟩ := h; exact ⟨v6, rfl, g6⟩
theorem k24_mk (w : World) (x : S24) {A6 : Option Addr} {c6 : Nat} (l6 : x.f6.length ≤ c6) (g6 : k101.C w A6 x.f6.length x.f6) : k24.K w x [.string x.f0, .string x.f1, .int .i64 x.f2, .int .i64 x.f3, .string x.f4, .string x.f5, .slice A6 x.f6.length c6] := ⟨[.string x.f0], [.string x.f1, .int .i64 x.f2, .int .i64 x.f3, .string x.f4, .string x.f5, .slice A6 x.f6.length c6], rfl, rfl, ⟨[.string x.f1], [.int .i64 x.f2, .int .i64 x.f3, .string x.f4, .string x.f5, .slice A6 x.f6.length c6], rfl, rfl, ⟨[.int .i64 x.f2], [.int .i64 x.f3, .string x.f4, .string x.f5, .slice A6 x.f6.length c6], rfl, rfl, ⟨[.int .i64 x.f3], [.string x.f4, .string x.f5, .slice A6 x.f6.length c6], rfl, rfl, ⟨[.string x.f4], [.string x.f5, .slice A6 x.f6.length c6], rfl, rfl, ⟨[.string x.f5], [.slice A6 x.f6.length c6], rfl, rfl, ⟨A6, c6, rfl, l6, g6⟩⟩⟩⟩⟩⟩⟩
theorem k24_mkM (w : World) (base : Nat) (ok : Nat → Prop) (x : S24) {v6 : Value} (g6 : k101.R 101 w base ok v6 x.f6) : k24.M w base ok x [.string x.f0, .string x.f1, .int .i64 x.f2, .int .i64 x.f3, .string x.f4, .string x.f5, v6] := ⟨[.string x.f0], [.string x.f1, .int .i64 x.f2, .int .i64 x.f3, .string x.f4, .string x.f5, v6], rfl, rfl, ⟨[.string x.f1], [.int .i64 x.f2, .int .i64 x.f3, .string x.f4, .string x.f5, v6], rfl, rfl, ⟨[.int .i64 x.f2], [.int .i64 x.f3, .string x.f4, .string x.f5, v6], rfl, rfl, ⟨[.int .i64 x.f3], [.string x.f4, .string x.f5, v6], rfl, rfl, ⟨[.string x.f4], [.string x.f5, v6], rfl, rfl, ⟨[.string x.f5], [v6], rfl, rfl, ⟨v6, rfl, g6⟩⟩⟩⟩⟩⟩⟩
theorem k24_openF {W : World} {ok : Nat → Prop} {x : S24} {cs : List Value} (h : Kd.FK k24 W ok x cs) : ∃ A6 c6, cs = [.string x.f0, .string x.f1, .int .i64 x.f2, .int .i64 x.f3, .string x.f4, .string x.f5, .slice A6 x.f6.length c6] ∧ x.f6.length ≤ c6 ∧ Kd.F k101 W ok A6 x.f6.length x.f6 := by
  obtain ⟨A6, c6, rfl, l6, _⟩ := k24_open (Kd.FK_now h); exact ⟨A6, c6, rfl, l6, (fun W' hW => by obtain ⟨A6_, c6_, he, l6_, g6_⟩ := k24_open (h W' hW); injection (Option.some.inj (show some (Value.slice A6 x.f6.length c6) = some (Value.slice A6_ x.f6.length c6_) from congrArg (fun l => l[6]?) he)) with ha_ _ _; rw [ha_]; exact g6_)⟩
theorem k24_mkF (W : World) (ok : Nat → Prop) (x : S24) {A6 : Option Addr} {c6 : Nat} (l6 : x.f6.length ≤ c6) (g6 : Kd.F k101 W ok A6 x.f6.length x.f6) : Kd.FK k24 W ok x [.string x.f0, .string x.f1, .int .i64 x.f2, .int .i64 x.f3, .string x.f4, .string x.f5, .slice A6 x.f6.length c6] := fun W2 hW => k24_mk W2 x l6 (g6 W2 hW)
def rd_T24 (xs : List S24) (i : Int) : S24 := xs.getD i.toNat z24
theorem at_T24 {w : World} {A : Option Addr} {n : Nat} {xs : List S24} (h : Kd.C k24 w A n xs) (i : Int) (h0 : 0 ≤ i) (h1 : i < n) : ∃ ad A6 c6, A = some ad ∧ w.cell? (ad.add (i.toNat * 7)) = some (.string (rd_T24 xs i).f0) ∧ w.cell? ⟨(ad.add (i.toNat * 7)).block, (ad.add (i.toNat * 7)).off + 1, none⟩ = some (.string (rd_T24 xs i).f1) ∧ w.cell? ⟨(ad.add (i.toNat * 7)).block, (ad.add (i.toNat * 7)).off + 2, none⟩ = some (.int .i64 (rd_T24 xs i).f2) ∧ w.cell? ⟨(ad.add (i.toNat * 7)).block, (ad.add (i.toNat * 7)).off + 3, none⟩ = some (.int .i64 (rd_T24 xs i).f3) ∧ w.cell? ⟨(ad.add (i.toNat * 7)).block, (ad.add (i.toNat * 7)).off + 4, none⟩ = some (.string (rd_T24 xs i).f4) ∧ w.cell? ⟨(ad.add (i.toNat * 7)).block, (ad.add (i.toNat * 7)).off + 5, none⟩ = some (.string (rd_T24 xs i).f5) ∧ w.cell? ⟨(ad.add (i.toNat * 7)).block, (ad.add (i.toNat * 7)).off + 6, none⟩ = some (.slice A6 (rd_T24 xs i).f6.length c6) ∧ (rd_T24 xs i).f6.length ≤ c6 ∧ k101.C w A6 (rd_T24 xs i).f6.length (rd_T24 xs i).f6 := by
  obtain ⟨ad, c, e, _, hK, hc0⟩ := Kd.C_get h z24 i h0 h1; have hc : ∀ j u, c[j]? = some u → w.cell? (ad.add (i.toNat * 7 + j)) = some u := hc0; obtain ⟨A6, c6, rfl, l6, g6⟩ := k24_open hK; exact ⟨ad, A6, c6, e, hc 0 _ rfl, pbb2_0, pbb2_2, by rw [← add_field _ _ 3 (by omega)]; exact hc 3 _ rfl, by rw [← add_field _ _ 4 (by omega)]; exact hc 4 _ rfl, by rw [← add_field _ _ 5 (by omega)]; exact hc 5 _ rfl, by rw [← add_field _ _ 6 (by omega)]; exact hc 6 _ rfl, l6, g6⟩
def rd_L5 (xs : List (List S24)) (i : Int) : (List S24) := xs.getD i.toNat ([] : List S24)
theorem at_L5 {w : World} {A : Option Addr} {n : Nat} {xs : List (List S24)} (h : Kd.C (Kd.slice 24 k24) w A n xs) (i : Int) (h0 : 0 ≤ i) (h1 : i < n) : ∃ ad A0 c0, A = some ad ∧ w.cell? (ad.add i.toNat) = some (.slice A0 (rd_L5 xs i).length c0) ∧ (rd_L5 xs i).length ≤ c0 ∧ k24.C w A0 (rd_L5 xs i).length (rd_L5 xs i) := by
  obtain ⟨ad, c, e, _, hK, hc0⟩ := Kd.C_get h ([] : List S24) i h0 h1; have hc : ∀ j u, c[j]? = some u → w.cell? (ad.add (i.toNat * 1 + j)) = some u := hc0; obtain ⟨A0, c0, rfl, l0, g0⟩ := hK; exact ⟨ad, A0, c0, e, pbb2_1, l0, g0⟩
structure S33 where
  f0 : Int
  f1 : ByteArray
  f2 : Int
  f3 : Int
  f4 : Int
  f5 : ByteArray
  f6 : ByteArray
  f7 : Int
  f8 : (List S24)
def z33 : S33 := ⟨(0 : Int), (⟨#[]⟩ : ByteArray), (0 : Int), (0 : Int), (0 : Int), (⟨#[]⟩ : ByteArray), (⟨#[]⟩ : ByteArray), (0 : Int), ([] : List S24)⟩
def k33 : Kd S33 := Kd.iso (Kd.pair (Kd.int .i64) (Kd.pair Kd.string (Kd.pair (Kd.int .i64) (Kd.pair (Kd.int .i64) (Kd.pair (Kd.int .i64) (Kd.pair Kd.string (Kd.pair Kd.string (Kd.pair (Kd.int .i64) (Kd.slice 24 k24))))))))) (fun x : S33 => (x.f0, x.f1, x.f2, x.f3, x.f4, x.f5, x.f6, x.f7, x.f8))
theorem k33_open {w : World} {x : S33} {cs : List Value} (h : k33.K w x cs) : ∃ A8 c8, cs = [.int .i64 x.f0, .string x.f1, .int .i64 x.f2, .int .i64 x.f3, .int .i64 x.f4, .string x.f5, .string x.f6, .int .i64 x.f7, .slice A8 x.f8.length c8] ∧ x.f8.length ≤ c8 ∧ k24.C w A8 x.f8.length x.f8 := by
  obtain ⟨_, _, rfl, rfl, ⟨_, _, rfl, rfl, ⟨_, _, rfl, rfl, ⟨_, _, rfl, rfl, ⟨_, _, rfl, rfl, ⟨_, _, rfl, rfl, ⟨_, _, rfl, rfl, ⟨_, _, rfl, rfl, ⟨A8, c8, rfl, l8, g8⟩⟩⟩⟩⟩⟩⟩⟩⟩ := h; exact ⟨A8, c8, rfl, l8, g8⟩
theorem k33_openM {w : World} {base : Nat} {ok : Nat → Prop} {x : S33} {cs : List Value} (h : k33.M w base ok x cs) : ∃ v8, cs = [.int .i64 x.f0, .string x.f1, .int .i64 x.f2, .int .i64 x.f3, .int .i64 x.f4, .string x.f5, .string x.f6, .int .i64 x.f7, v8] ∧ k24.R 24 w base ok v8 x.f8 := by
  obtain ⟨_, _, rfl, rfl, ⟨_, _, rfl, rfl, ⟨_, _, rfl, rfl, ⟨_, _, rfl, rfl, ⟨_, _, rfl, rfl, ⟨_, _, rfl, rfl, ⟨_, _, rfl, rfl, ⟨_, _, rfl, rfl, ⟨v8, rfl, g8⟩⟩⟩⟩⟩⟩⟩⟩⟩ := h; exact ⟨v8, rfl, g8⟩
theorem k33_mk (w : World) (x : S33) {A8 : Option Addr} {c8 : Nat} (l8 : x.f8.length ≤ c8) (g8 : k24.C w A8 x.f8.length x.f8) : k33.K w x [.int .i64 x.f0, .string x.f1, .int .i64 x.f2, .int .i64 x.f3, .int .i64 x.f4, .string x.f5, .string x.f6, .int .i64 x.f7, .slice A8 x.f8.length c8] := ⟨[.int .i64 x.f0], [.string x.f1, .int .i64 x.f2, .int .i64 x.f3, .int .i64 x.f4, .string x.f5, .string x.f6, .int .i64 x.f7, .slice A8 x.f8.length c8], rfl, rfl, ⟨[.string x.f1], [.int .i64 x.f2, .int .i64 x.f3, .int .i64 x.f4, .string x.f5, .string x.f6, .int .i64 x.f7, .slice A8 x.f8.length c8], rfl, rfl, ⟨[.int .i64 x.f2], [.int .i64 x.f3, .int .i64 x.f4, .string x.f5, .string x.f6, .int .i64 x.f7, .slice A8 x.f8.length c8], rfl, rfl, ⟨[.int .i64 x.f3], [.int .i64 x.f4, .string x.f5, .string x.f6, .int .i64 x.f7, .slice A8 x.f8.length c8], rfl, rfl, ⟨[.int .i64 x.f4], [.string x.f5, .string x.f6, .int .i64 x.f7, .slice A8 x.f8.length c8], rfl, rfl, ⟨[.string x.f5], [.string x.f6, .int .i64 x.f7, .slice A8 x.f8.length c8], rfl, rfl, ⟨[.string x.f6], [.int .i64 x.f7, .slice A8 x.f8.length c8], rfl, rfl, ⟨[.int .i64 x.f7], [.slice A8 x.f8.length c8], rfl, rfl, ⟨A8, c8, rfl, l8, g8⟩⟩⟩⟩⟩⟩⟩⟩⟩
theorem k33_mkM (w : World) (base : Nat) (ok : Nat → Prop) (x : S33) {v8 : Value} (g8 : k24.R 24 w base ok v8 x.f8) : k33.M w base ok x [.int .i64 x.f0, .string x.f1, .int .i64 x.f2, .int .i64 x.f3, .int .i64 x.f4, .string x.f5, .string x.f6, .int .i64 x.f7, v8] := ⟨[.int .i64 x.f0], [.string x.f1, .int .i64 x.f2, .int .i64 x.f3, .int .i64 x.f4, .string x.f5, .string x.f6, .int .i64 x.f7, v8], rfl, rfl, ⟨[.string x.f1], [.int .i64 x.f2, .int .i64 x.f3, .int .i64 x.f4, .string x.f5, .string x.f6, .int .i64 x.f7, v8], rfl, rfl, ⟨[.int .i64 x.f2], [.int .i64 x.f3, .int .i64 x.f4, .string x.f5, .string x.f6, .int .i64 x.f7, v8], rfl, rfl, ⟨[.int .i64 x.f3], [.int .i64 x.f4, .string x.f5, .string x.f6, .int .i64 x.f7, v8], rfl, rfl, ⟨[.int .i64 x.f4], [.string x.f5, .string x.f6, .int .i64 x.f7, v8], rfl, rfl, ⟨[.string x.f5], [.string x.f6, .int .i64 x.f7, v8], rfl, rfl, ⟨[.string x.f6], [.int .i64 x.f7, v8], rfl, rfl, ⟨[.int .i64 x.f7], [v8], rfl, rfl, ⟨v8, rfl, g8⟩⟩⟩⟩⟩⟩⟩⟩⟩
theorem k33_openF {W : World} {ok : Nat → Prop} {x : S33} {cs : List Value} (h : Kd.FK k33 W ok x cs) : ∃ A8 c8, cs = [.int .i64 x.f0, .string x.f1, .int .i64 x.f2, .int .i64 x.f3, .int .i64 x.f4, .string x.f5, .string x.f6, .int .i64 x.f7, .slice A8 x.f8.length c8] ∧ x.f8.length ≤ c8 ∧ Kd.F k24 W ok A8 x.f8.length x.f8 := by
  obtain ⟨A8, c8, rfl, l8, _⟩ := k33_open (Kd.FK_now h); exact ⟨A8, c8, rfl, l8, (fun W' hW => by obtain ⟨A8_, c8_, he, l8_, g8_⟩ := k33_open (h W' hW); injection (Option.some.inj (show some (Value.slice A8 x.f8.length c8) = some (Value.slice A8_ x.f8.length c8_) from congrArg (fun l => l[8]?) he)) with ha_ _ _; rw [ha_]; exact g8_)⟩
theorem k33_mkF (W : World) (ok : Nat → Prop) (x : S33) {A8 : Option Addr} {c8 : Nat} (l8 : x.f8.length ≤ c8) (g8 : Kd.F k24 W ok A8 x.f8.length x.f8) : Kd.FK k33 W ok x [.int .i64 x.f0, .string x.f1, .int .i64 x.f2, .int .i64 x.f3, .int .i64 x.f4, .string x.f5, .string x.f6, .int .i64 x.f7, .slice A8 x.f8.length c8] := fun W2 hW => k33_mk W2 x l8 (g8 W2 hW)
def rd_T33 (xs : List S33) (i : Int) : S33 := xs.getD i.toNat z33
theorem at_T33 {w : World} {A : Option Addr} {n : Nat} {xs : List S33} (h : Kd.C k33 w A n xs) (i : Int) (h0 : 0 ≤ i) (h1 : i < n) : ∃ ad A8 c8, A = some ad ∧ w.cell? (ad.add (i.toNat * 9)) = some (.int .i64 (rd_T33 xs i).f0) ∧ w.cell? ⟨(ad.add (i.toNat * 9)).block, (ad.add (i.toNat * 9)).off + 1, none⟩ = some (.string (rd_T33 xs i).f1) ∧ w.cell? ⟨(ad.add (i.toNat * 9)).block, (ad.add (i.toNat * 9)).off + 2, none⟩ = some (.int .i64 (rd_T33 xs i).f2) ∧ w.cell? ⟨(ad.add (i.toNat * 9)).block, (ad.add (i.toNat * 9)).off + 3, none⟩ = some (.int .i64 (rd_T33 xs i).f3) ∧ w.cell? ⟨(ad.add (i.toNat * 9)).block, (ad.add (i.toNat * 9)).off + 4, none⟩ = some (.int .i64 (rd_T33 xs i).f4) ∧ w.cell? ⟨(ad.add (i.toNat * 9)).block, (ad.add (i.toNat * 9)).off + 5, none⟩ = some (.string (rd_T33 xs i).f5) ∧ w.cell? ⟨(ad.add (i.toNat * 9)).block, (ad.add (i.toNat * 9)).off + 6, none⟩ = some (.string (rd_T33 xs i).f6) ∧ w.cell? ⟨(ad.add (i.toNat * 9)).block, (ad.add (i.toNat * 9)).off + 7, none⟩ = some (.int .i64 (rd_T33 xs i).f7) ∧ w.cell? ⟨(ad.add (i.toNat * 9)).block, (ad.add (i.toNat * 9)).off + 8, none⟩ = some (.slice A8 (rd_T33 xs i).f8.length c8) ∧ (rd_T33 xs i).f8.length ≤ c8 ∧ k24.C w A8 (rd_T33 xs i).f8.length (rd_T33 xs i).f8 := by
  obtain ⟨ad, c, e, _, hK, hc0⟩ := Kd.C_get h z33 i h0 h1; have hc : ∀ j u, c[j]? = some u → w.cell? (ad.add (i.toNat * 9 + j)) = some u := hc0; obtain ⟨A8, c8, rfl, l8, g8⟩ := k33_open hK; exact ⟨ad, A8, c8, e, hc 0 _ rfl, pbb2_0, pbb2_2, by rw [← add_field _ _ 3 (by omega)]; exact hc 3 _ rfl, by rw [← add_field _ _ 4 (by omega)]; exact hc 4 _ rfl, by rw [← add_field _ _ 5 (by omega)]; exact hc 5 _ rfl, by rw [← add_field _ _ 6 (by omega)]; exact hc 6 _ rfl, by rw [← add_field _ _ 7 (by omega)]; exact hc 7 _ rfl, by rw [← add_field _ _ 8 (by omega)]; exact hc 8 _ rfl, l8, g8⟩
structure S53 where
  f0 : Int
  f1 : Int
  f2 : ByteArray
def z53 : S53 := ⟨(0 : Int), (0 : Int), (⟨#[]⟩ : ByteArray)⟩
def k53 : Kd S53 := Kd.iso (Kd.pair (Kd.int .i64) (Kd.pair (Kd.int .i64) Kd.string)) (fun x : S53 => (x.f0, x.f1, x.f2))
theorem k53_open {w : World} {x : S53} {cs : List Value} (h : k53.K w x cs) : cs = [.int .i64 x.f0, .int .i64 x.f1, .string x.f2] := by
  obtain ⟨_, _, rfl, rfl, ⟨_, _, rfl, rfl, rfl⟩⟩ := h; exact rfl
theorem k53_openM {w : World} {base : Nat} {ok : Nat → Prop} {x : S53} {cs : List Value} (h : k53.M w base ok x cs) : cs = [.int .i64 x.f0, .int .i64 x.f1, .string x.f2] := by
  obtain ⟨_, _, rfl, rfl, ⟨_, _, rfl, rfl, rfl⟩⟩ := h; exact rfl
theorem k53_mk (w : World) (x : S53)  : k53.K w x [.int .i64 x.f0, .int .i64 x.f1, .string x.f2] := ⟨[.int .i64 x.f0], [.int .i64 x.f1, .string x.f2], rfl, rfl, ⟨[.int .i64 x.f1], [.string x.f2], rfl, rfl, rfl⟩⟩
theorem k53_mkM (w : World) (base : Nat) (ok : Nat → Prop) (x : S53)  : k53.M w base ok x [.int .i64 x.f0, .int .i64 x.f1, .string x.f2] := ⟨[.int .i64 x.f0], [.int .i64 x.f1, .string x.f2], rfl, rfl, ⟨[.int .i64 x.f1], [.string x.f2], rfl, rfl, rfl⟩⟩
theorem k53_mkF (W : World) (ok : Nat → Prop) (x : S53) : Kd.FK k53 W ok x [.int .i64 x.f0, .int .i64 x.f1, .string x.f2] := fun W2 _ => k53_mk W2 x
def rd_T53 (xs : List S53) (i : Int) : S53 := xs.getD i.toNat z53
theorem at_T53 {w : World} {A : Option Addr} {n : Nat} {xs : List S53} (h : Kd.C k53 w A n xs) (i : Int) (h0 : 0 ≤ i) (h1 : i < n) : ∃ ad , A = some ad ∧ w.cell? (ad.add (i.toNat * 3)) = some (.int .i64 (rd_T53 xs i).f0) ∧ w.cell? ⟨(ad.add (i.toNat * 3)).block, (ad.add (i.toNat * 3)).off + 1, none⟩ = some (.int .i64 (rd_T53 xs i).f1) ∧ w.cell? ⟨(ad.add (i.toNat * 3)).block, (ad.add (i.toNat * 3)).off + 2, none⟩ = some (.string (rd_T53 xs i).f2) := by
  obtain ⟨ad, c, e, _, hK, hc0⟩ := Kd.C_get h z53 i h0 h1; have hc : ∀ j u, c[j]? = some u → w.cell? (ad.add (i.toNat * 3 + j)) = some u := hc0; obtain rfl := k53_open hK; exact ⟨ad, e, hc 0 _ rfl, pbb2_0, pbb2_2⟩
def rd_L9 (xs : List (List Int)) (i : Int) : (List Int) := xs.getD i.toNat ([] : List Int)
theorem at_L9 {w : World} {A : Option Addr} {n : Nat} {xs : List (List Int)} (h : Kd.C (Kd.slice 3 (Kd.int .i64)) w A n xs) (i : Int) (h0 : 0 ≤ i) (h1 : i < n) : ∃ ad A0 c0, A = some ad ∧ w.cell? (ad.add i.toNat) = some (.slice A0 (rd_L9 xs i).length c0) ∧ (rd_L9 xs i).length ≤ c0 ∧ (Kd.int .i64).C w A0 (rd_L9 xs i).length (rd_L9 xs i) := by
  obtain ⟨ad, c, e, _, hK, hc0⟩ := Kd.C_get h ([] : List Int) i h0 h1; have hc : ∀ j u, c[j]? = some u → w.cell? (ad.add (i.toNat * 1 + j)) = some u := hc0; obtain ⟨A0, c0, rfl, l0, g0⟩ := hK; exact ⟨ad, A0, c0, e, pbb2_1, l0, g0⟩
def rd_L11 (xs : List (List Int)) (i : Int) : (List Int) := xs.getD i.toNat ([] : List Int)
theorem at_L11 {w : World} {A : Option Addr} {n : Nat} {xs : List (List Int)} (h : Kd.C (Kd.slice 0 (Kd.int .i64)) w A n xs) (i : Int) (h0 : 0 ≤ i) (h1 : i < n) : ∃ ad A0 c0, A = some ad ∧ w.cell? (ad.add i.toNat) = some (.slice A0 (rd_L11 xs i).length c0) ∧ (rd_L11 xs i).length ≤ c0 ∧ (Kd.int .i64).C w A0 (rd_L11 xs i).length (rd_L11 xs i) := by
  obtain ⟨ad, c, e, _, hK, hc0⟩ := Kd.C_get h ([] : List Int) i h0 h1; have hc : ∀ j u, c[j]? = some u → w.cell? (ad.add (i.toNat * 1 + j)) = some u := hc0; obtain ⟨A0, c0, rfl, l0, g0⟩ := hK; exact ⟨ad, A0, c0, e, pbb2_1, l0, g0⟩
structure S61 where
  f0 : ByteArray
  f1 : Int
  f2 : Int
def z61 : S61 := ⟨(⟨#[]⟩ : ByteArray), (0 : Int), (0 : Int)⟩
def k61 : Kd S61 := Kd.iso (Kd.pair Kd.string (Kd.pair (Kd.int .i64) (Kd.int .i64))) (fun x : S61 => (x.f0, x.f1, x.f2))
theorem k61_open {w : World} {x : S61} {cs : List Value} (h : k61.K w x cs) : cs = [.string x.f0, .int .i64 x.f1, .int .i64 x.f2] := by
  obtain ⟨_, _, rfl, rfl, ⟨_, _, rfl, rfl, rfl⟩⟩ := h; exact rfl
theorem k61_openM {w : World} {base : Nat} {ok : Nat → Prop} {x : S61} {cs : List Value} (h : k61.M w base ok x cs) : cs = [.string x.f0, .int .i64 x.f1, .int .i64 x.f2] := by
  obtain ⟨_, _, rfl, rfl, ⟨_, _, rfl, rfl, rfl⟩⟩ := h; exact rfl
theorem k61_mk (w : World) (x : S61)  : k61.K w x [.string x.f0, .int .i64 x.f1, .int .i64 x.f2] := ⟨[.string x.f0], [.int .i64 x.f1, .int .i64 x.f2], rfl, rfl, ⟨[.int .i64 x.f1], [.int .i64 x.f2], rfl, rfl, rfl⟩⟩
theorem k61_mkM (w : World) (base : Nat) (ok : Nat → Prop) (x : S61)  : k61.M w base ok x [.string x.f0, .int .i64 x.f1, .int .i64 x.f2] := ⟨[.string x.f0], [.int .i64 x.f1, .int .i64 x.f2], rfl, rfl, ⟨[.int .i64 x.f1], [.int .i64 x.f2], rfl, rfl, rfl⟩⟩
theorem k61_mkF (W : World) (ok : Nat → Prop) (x : S61) : Kd.FK k61 W ok x [.string x.f0, .int .i64 x.f1, .int .i64 x.f2] := fun W2 _ => k61_mk W2 x
def rd_T61 (xs : List S61) (i : Int) : S61 := xs.getD i.toNat z61
theorem at_T61 {w : World} {A : Option Addr} {n : Nat} {xs : List S61} (h : Kd.C k61 w A n xs) (i : Int) (h0 : 0 ≤ i) (h1 : i < n) : ∃ ad , A = some ad ∧ w.cell? (ad.add (i.toNat * 3)) = some (.string (rd_T61 xs i).f0) ∧ w.cell? ⟨(ad.add (i.toNat * 3)).block, (ad.add (i.toNat * 3)).off + 1, none⟩ = some (.int .i64 (rd_T61 xs i).f1) ∧ w.cell? ⟨(ad.add (i.toNat * 3)).block, (ad.add (i.toNat * 3)).off + 2, none⟩ = some (.int .i64 (rd_T61 xs i).f2) := by
  obtain ⟨ad, c, e, _, hK, hc0⟩ := Kd.C_get h z61 i h0 h1; have hc : ∀ j u, c[j]? = some u → w.cell? (ad.add (i.toNat * 3 + j)) = some u := hc0; obtain rfl := k61_open hK; exact ⟨ad, e, hc 0 _ rfl, pbb2_0, pbb2_2⟩
def rd_L13 (xs : List (List S61)) (i : Int) : (List S61) := xs.getD i.toNat ([] : List S61)
theorem at_L13 {w : World} {A : Option Addr} {n : Nat} {xs : List (List S61)} (h : Kd.C (Kd.slice 61 k61) w A n xs) (i : Int) (h0 : 0 ≤ i) (h1 : i < n) : ∃ ad A0 c0, A = some ad ∧ w.cell? (ad.add i.toNat) = some (.slice A0 (rd_L13 xs i).length c0) ∧ (rd_L13 xs i).length ≤ c0 ∧ k61.C w A0 (rd_L13 xs i).length (rd_L13 xs i) := by
  obtain ⟨ad, c, e, _, hK, hc0⟩ := Kd.C_get h ([] : List S61) i h0 h1; have hc : ∀ j u, c[j]? = some u → w.cell? (ad.add (i.toNat * 1 + j)) = some u := hc0; obtain ⟨A0, c0, rfl, l0, g0⟩ := hK; exact ⟨ad, A0, c0, e, pbb2_1, l0, g0⟩
def rd_L14 (xs : List (List ByteArray)) (i : Int) : (List ByteArray) := xs.getD i.toNat ([] : List ByteArray)
theorem at_L14 {w : World} {A : Option Addr} {n : Nat} {xs : List (List ByteArray)} (h : Kd.C (Kd.slice 9 Kd.string) w A n xs) (i : Int) (h0 : 0 ≤ i) (h1 : i < n) : ∃ ad A0 c0, A = some ad ∧ w.cell? (ad.add i.toNat) = some (.slice A0 (rd_L14 xs i).length c0) ∧ (rd_L14 xs i).length ≤ c0 ∧ Kd.string.C w A0 (rd_L14 xs i).length (rd_L14 xs i) := by
  obtain ⟨ad, c, e, _, hK, hc0⟩ := Kd.C_get h ([] : List ByteArray) i h0 h1; have hc : ∀ j u, c[j]? = some u → w.cell? (ad.add (i.toNat * 1 + j)) = some u := hc0; obtain ⟨A0, c0, rfl, l0, g0⟩ := hK; exact ⟨ad, A0, c0, e, pbb2_1, l0, g0⟩
def F64.f (a0 : Int) : Option (Bool) := if a0 ≥ 97 then (if a0 ≤ 122 then (some true) else (if a0 ≥ 65 then (if a0 ≤ 90 then (some true) else (some (a0 == 95))) else (some (a0 == 95)))) else (if a0 ≥ 65 then (if a0 ≤ 90 then (some true) else (some (a0 == 95))) else (some (a0 == 95)))
set_option maxHeartbeats 8000000 in
set_option maxRecDepth 100000 in
theorem F64.calls (a0 : Int) (r : Bool) (w : World) (h : F64.f a0 = some r) :
    Calls Tryd.prog 64 #[.int .u8 a0] w fun e w' => e = .returned (.bool r) ∧ Drawn0 w w' := by
 unfold F64.f at h
 have H := h; clear h
 by_cases c2 : a0 ≥ 97
 ·rw [if_pos c2] at H; have c2b0 : decide (97 ≤ a0) = true := decide_eq_true c2; clear c2
  by_cases c3 : a0 ≤ 122
  ·rw [if_pos c3] at H; have c3b0 := decide_eq_true c3; clear c3; obtain rfl := Option.some.inj H; go_enter Tryd.func64, Tryd.ntmps64
   go_wp2
   go_ret
   exact ⟨pbb2_3, pbb2_4⟩
  ·rw [if_neg c3] at H; have c3b0 := decide_eq_false c3; clear c3
   by_cases c4 : a0 ≥ 65
   ·rw [if_pos c4] at H; have c4b0 : decide (65 ≤ a0) = true := decide_eq_true c4; clear c4
    by_cases c5 : a0 ≤ 90
    ·rw [if_pos c5] at H; have c5b0 := decide_eq_true c5; clear c5; obtain rfl := Option.some.inj H; go_enter Tryd.func64, Tryd.ntmps64
     go_wp2
     go_ret
     exact ⟨pbb2_3, pbb2_4⟩
    ·rw [if_neg c5] at H; have c5b0 := decide_eq_false c5; clear c5; obtain rfl := Option.some.inj H; go_enter Tryd.func64, Tryd.ntmps64
     go_wp2
     go_ret
     exact ⟨pbb2_3, pbb2_4⟩
   ·rw [if_neg c4] at H; have c4b0 : decide (65 ≤ a0) = false := decide_eq_false c4; clear c4; obtain rfl := Option.some.inj H; go_enter Tryd.func64, Tryd.ntmps64
    go_wp2
    go_ret
    exact ⟨pbb2_3, pbb2_4⟩
 ·rw [if_neg c2] at H; have c2b0 : decide (97 ≤ a0) = false := decide_eq_false c2; clear c2
  by_cases c6 : a0 ≥ 65
  ·rw [if_pos c6] at H; have c6b0 : decide (65 ≤ a0) = true := decide_eq_true c6; clear c6
   by_cases c7 : a0 ≤ 90
   ·rw [if_pos c7] at H; have c7b0 := decide_eq_true c7; clear c7; obtain rfl := Option.some.inj H; go_enter Tryd.func64, Tryd.ntmps64
    go_wp2
    go_ret
    exact ⟨pbb2_3, pbb2_4⟩
   ·rw [if_neg c7] at H; have c7b0 := decide_eq_false c7; clear c7; obtain rfl := Option.some.inj H; go_enter Tryd.func64, Tryd.ntmps64
    go_wp2
    go_ret
    exact ⟨pbb2_3, pbb2_4⟩
  ·rw [if_neg c6] at H; have c6b0 : decide (65 ≤ a0) = false := decide_eq_false c6; clear c6; obtain rfl := Option.some.inj H; go_enter Tryd.func64, Tryd.ntmps64
   go_wp2
   go_ret
   exact ⟨pbb2_3, pbb2_4⟩
def F65.f (a0 : Int) : Option (Bool) := if a0 ≥ 48 then (some (decide (a0 ≤ 57))) else (some false)
set_option maxHeartbeats 8000000 in
set_option maxRecDepth 100000 in
theorem F65.calls (a0 : Int) (r : Bool) (w : World) (h : F65.f a0 = some r) :
    Calls Tryd.prog 65 #[.int .u8 a0] w fun e w' => e = .returned (.bool r) ∧ Drawn0 w w' := by
 unfold F65.f at h
 have H := h; clear h
 by_cases c2 : a0 ≥ 48
 ·rw [if_pos c2] at H; have c2b0 : decide (48 ≤ a0) = true := decide_eq_true c2; clear c2; obtain rfl := Option.some.inj H; go_enter Tryd.func65, Tryd.ntmps65
  go_wp2
  go_ret
  exact ⟨pbb2_3, pbb2_4⟩
 ·rw [if_neg c2] at H; have c2b0 : decide (48 ≤ a0) = false := decide_eq_false c2; clear c2; obtain rfl := Option.some.inj H; go_enter Tryd.func65, Tryd.ntmps65
  go_wp2
  go_ret
  exact ⟨pbb2_3, pbb2_4⟩
def F63.f (a0 : Int) : Option (Bool) := (F64.f a0).bind fun t101 => (if t101 = true then (some true) else ((F65.f a0).bind fun t102 => (some t102)))
set_option maxHeartbeats 8000000 in
set_option maxRecDepth 100000 in
theorem F63.calls (a0 : Int) (r : Bool) (w : World) (h : F63.f a0 = some r) :
    Calls Tryd.prog 63 #[.int .u8 a0] w fun e w' => e = .returned (.bool r) ∧ Drawn0 w w' := by
 unfold F63.f at h
 have H := h; clear h; obtain ⟨t101, A20, H⟩ := bnd H; have A2 := Aside0.mk A20; clear A20
 by_cases c3 : t101 = true
 ·subst c3; rw [if_pos rfl] at H; obtain rfl := Option.some.inj H; go_enter Tryd.func63, Tryd.ntmps63
  go_wp2_with (first | ((with_reducible refine gate_callee (f := 64) rfl ?_); refine goesL_ (some 4) rfl rfl Tryd.func64 (by kernel_rfl) rfl #[.int .u8 a0] rfl pbb2_5 ?_; (with_reducible refine (F64.calls a0 true _ A2.out).mono ?_); rintro e w' ⟨rfl, ⟨nd, rfl⟩⟩; refine ⟨_, rfl, ?_⟩))
  go_ret
  exact ⟨pbb2_3, pbb2_4⟩
 ·replace c3 := Bool.eq_false_iff.mpr c3; subst c3; rw [if_neg (show ¬ (false = true) by decide)] at H; obtain ⟨t102, A40, H⟩ := bnd H; have A4 := Aside0.mk A40; clear A40; obtain rfl := Option.some.inj H; go_enter Tryd.func63, Tryd.ntmps63
  go_wp2_with (first | ((with_reducible refine gate_callee (f := 64) rfl ?_); refine goesL_ (some 4) rfl rfl Tryd.func64 (by kernel_rfl) rfl #[.int .u8 a0] rfl pbb2_5 ?_; (with_reducible refine (F64.calls a0 false _ A2.out).mono ?_); rintro e w' ⟨rfl, ⟨nd, rfl⟩⟩; refine ⟨_, rfl, ?_⟩) | (go_at_call 65; (with_reducible refine (F65.calls a0 t102 _ A4.out).mono ?_); rintro e w' ⟨rfl, ⟨nd, rfl⟩⟩))
  go_ret
  exact ⟨pbb2_3, pbb2_4⟩
def F62.l0 : Nat → ByteArray → Int → Int → Option (Bool)
  | 0, _, _, _ => none
  | k + 1, x0, x7, x8 => if x8 < x7 then (if 0 ≤ x8 then (if x8 < (x0.size : Int) then ((F63.f (bt x0 x8)).bind fun t101 => (if t101 = true then (F62.l0 k x0 x7 (wrap64 (x8 + 1))) else (some false))) else (none)) else (none)) else (some true)
def F62.f (k : Nat) (a0 : ByteArray)  : Option (Bool) := F62.l0 k a0 (a0.size : Int) 0
set_option maxHeartbeats 8000000 in
set_option maxRecDepth 100000 in
theorem F62.calls (k : Nat) (a0 : ByteArray)  (r : Bool) (w : World) (h : F62.f k a0 = some r) :
    Calls Tryd.prog 62 #[.string a0, .func (.func 63) #[] #[]] w fun e w' => e = .returned (.bool r) ∧ Drawn0 w w' := by
 unfold F62.f at h
 have H := h; clear h; have H' := Aside0.mk H; clear H; go_enter Tryd.func62, Tryd.ntmps62
 go_wp2
 go_loopg [8] k (fun kq v8 w' => ∃ (x8_1 : Int), v8 = .int .i64 x8_1 ∧ Aside0 (F62.l0 kq a0 (a0.size : Int) x8_1 = some r) ∧ Aside0 (kq ≤ k) ∧ Drawn0 w w')
 case atStart => exact ⟨(0), pbb2_3, H', ⟨Nat.le_refl _⟩, pbb2_4⟩
 case round =>
  clear H'; obtain ⟨x8_1, rfl, HA, HK1, ⟨m1, rfl⟩⟩ := hrel
  cases gk with
  | zero => exact absurd HA.out (by simp [F62.l0])
  | succ k1 =>
   have H := HA.out; clear HA; simp only [F62.l0] at H
   by_cases c3 : x8_1 < (a0.size : Int)
   ·rw [if_pos c3] at H; have c3b0 := decide_eq_true c3; clear c3
    by_cases c4 : 0 ≤ x8_1
    ·rw [if_pos c4] at H; have c4b0 := decide_eq_true c4; clear c4
     by_cases c5 : x8_1 < (a0.size : Int)
     ·rw [if_pos c5] at H; have c5b0 := decide_eq_true c5; clear c5; obtain ⟨t101, A70, H⟩ := bnd H; have A7 := Aside0.mk A70; clear A70
      by_cases c8 : t101 = true
      ·subst c8; rw [if_pos rfl] at H; have H' := Aside0.mk H; clear H; have p6 : 0 ≤ (x8_1 : Int) := of_decide_eq_true pbb2_6; have q6 : x8_1 < (a0.size : Int) := of_decide_eq_true pbb2_6; have hx6 := bt_at a0 x8_1; replace p6 := eq_true p6; replace q6 := eq_true q6
       go_wp2_with (first | (go_at_call 63; (with_reducible refine (F63.calls (bt a0 x8_1) true _ A7.out).mono ?_); rintro e w' ⟨rfl, ⟨nd, rfl⟩⟩))
       go_roundg k1
       case measure => have := HK1.out; omega
       case rel => exact ⟨(wrap64 (x8_1 + 1)), pbb2_3, H', ⟨pbb2_7⟩, pbb2_4⟩
      ·replace c8 := Bool.eq_false_iff.mpr c8; subst c8; rw [if_neg (show ¬ (false = true) by decide)] at H; obtain rfl := Option.some.inj H; have p6 : 0 ≤ (x8_1 : Int) := of_decide_eq_true pbb2_6; have q6 : x8_1 < (a0.size : Int) := of_decide_eq_true pbb2_6; have hx6 := bt_at a0 x8_1; replace p6 := eq_true p6; replace q6 := eq_true q6
       go_wp2_with (first | (go_at_call 63; (with_reducible refine (F63.calls (bt a0 x8_1) false _ A7.out).mono ?_); rintro e w' ⟨rfl, ⟨nd, rfl⟩⟩))
       go_ret
       exact ⟨pbb2_3, pbb2_4⟩
     ·rw [if_neg c5] at H; exact absurd H (by simp)
    ·rw [if_neg c4] at H; exact absurd H (by simp)
   ·rw [if_neg c3] at H; have c3b0 := decide_eq_false c3; clear c3; obtain rfl := Option.some.inj H
    go_wp2
    go_ret
    exact ⟨pbb2_3, pbb2_4⟩
def F33.f (k : Nat) (a0 : ByteArray) : Option (Bool) := if a0.toList = ([] : List UInt8) then (some false) else (if (a0.size : Int) ≤ 12 then ((F62.f k a0).bind fun t102 => (some t102)) else (some false))
set_option maxHeartbeats 8000000 in
set_option maxRecDepth 100000 in
theorem F33.calls (k : Nat) (a0 : ByteArray) (r : Bool) (w : World) (h : F33.f k a0 = some r) :
    Calls Tryd.prog 33 #[.string a0] w fun e w' => e = .returned (.bool r) ∧ Drawn0 w w' := by
 unfold F33.f at h
 have H := h; clear h
 by_cases c2 : a0.toList = ([] : List UInt8)
 ·rw [if_pos c2] at H; have c2b0 := bT_ c2; have c2b1 := bF_ c2; clear c2; obtain rfl := Option.some.inj H; go_enter Tryd.func33, Tryd.ntmps33
  go_wp2
  go_ret
  exact ⟨pbb2_3, pbb2_4⟩
 ·rw [if_neg c2] at H; have c2b0 := nF_ c2; have c2b1 := nT_ c2
  by_cases c3 : (a0.size : Int) ≤ 12
  ·rw [if_pos c3] at H; have c3b0 := decide_eq_true c3; have c3b1 : decide (a0.size ≤ 12) = true := decide_eq_true (by omega); clear c3; obtain ⟨t102, A40, H⟩ := bnd H; have A4 := Aside0.mk A40; clear A40; obtain rfl := Option.some.inj H; go_enter Tryd.func33, Tryd.ntmps33
   go_wp2_with (first | (go_at_call 62; (with_reducible refine (F62.calls k a0  t102 _ A4.out).mono ?_); rintro e w' ⟨rfl, ⟨nd, rfl⟩⟩))
   go_ret
   exact ⟨pbb2_3, pbb2_4⟩
  ·rw [if_neg c3] at H; have c3b0 := decide_eq_false c3; have c3b1 : decide (a0.size ≤ 12) = false := decide_eq_false (by omega); clear c3; obtain rfl := Option.some.inj H; go_enter Tryd.func33, Tryd.ntmps33
   go_wp2
   go_ret
   exact ⟨pbb2_3, pbb2_4⟩
def F67.f (a0 : Int) : Option (Bool) := if a0 ≥ 97 then (if a0 ≤ 122 then (some true) else (if a0 ≥ 65 then (if a0 ≤ 90 then (some true) else (some (a0 == 95))) else (some (a0 == 95)))) else (if a0 ≥ 65 then (if a0 ≤ 90 then (some true) else (some (a0 == 95))) else (some (a0 == 95)))
set_option maxHeartbeats 8000000 in
set_option maxRecDepth 100000 in
theorem F67.calls (a0 : Int) (r : Bool) (w : World) (h : F67.f a0 = some r) :
    Calls Tryd.prog 67 #[.int .u8 a0] w fun e w' => e = .returned (.bool r) ∧ Drawn0 w w' := by
 unfold F67.f at h
 have H := h; clear h
 by_cases c2 : a0 ≥ 97
 ·rw [if_pos c2] at H; have c2b0 : decide (97 ≤ a0) = true := decide_eq_true c2; clear c2
  by_cases c3 : a0 ≤ 122
  ·rw [if_pos c3] at H; have c3b0 := decide_eq_true c3; clear c3; obtain rfl := Option.some.inj H; go_enter Tryd.func67, Tryd.ntmps67
   go_wp2
   go_ret
   exact ⟨pbb2_3, pbb2_4⟩
  ·rw [if_neg c3] at H; have c3b0 := decide_eq_false c3; clear c3
   by_cases c4 : a0 ≥ 65
   ·rw [if_pos c4] at H; have c4b0 : decide (65 ≤ a0) = true := decide_eq_true c4; clear c4
    by_cases c5 : a0 ≤ 90
    ·rw [if_pos c5] at H; have c5b0 := decide_eq_true c5; clear c5; obtain rfl := Option.some.inj H; go_enter Tryd.func67, Tryd.ntmps67
     go_wp2
     go_ret
     exact ⟨pbb2_3, pbb2_4⟩
    ·rw [if_neg c5] at H; have c5b0 := decide_eq_false c5; clear c5; obtain rfl := Option.some.inj H; go_enter Tryd.func67, Tryd.ntmps67
     go_wp2
     go_ret
     exact ⟨pbb2_3, pbb2_4⟩
   ·rw [if_neg c4] at H; have c4b0 : decide (65 ≤ a0) = false := decide_eq_false c4; clear c4; obtain rfl := Option.some.inj H; go_enter Tryd.func67, Tryd.ntmps67
    go_wp2
    go_ret
    exact ⟨pbb2_3, pbb2_4⟩
 ·rw [if_neg c2] at H; have c2b0 : decide (97 ≤ a0) = false := decide_eq_false c2; clear c2
  by_cases c6 : a0 ≥ 65
  ·rw [if_pos c6] at H; have c6b0 : decide (65 ≤ a0) = true := decide_eq_true c6; clear c6
   by_cases c7 : a0 ≤ 90
   ·rw [if_pos c7] at H; have c7b0 := decide_eq_true c7; clear c7; obtain rfl := Option.some.inj H; go_enter Tryd.func67, Tryd.ntmps67
    go_wp2
    go_ret
    exact ⟨pbb2_3, pbb2_4⟩
   ·rw [if_neg c7] at H; have c7b0 := decide_eq_false c7; clear c7; obtain rfl := Option.some.inj H; go_enter Tryd.func67, Tryd.ntmps67
    go_wp2
    go_ret
    exact ⟨pbb2_3, pbb2_4⟩
  ·rw [if_neg c6] at H; have c6b0 : decide (65 ≤ a0) = false := decide_eq_false c6; clear c6; obtain rfl := Option.some.inj H; go_enter Tryd.func67, Tryd.ntmps67
   go_wp2
   go_ret
   exact ⟨pbb2_3, pbb2_4⟩
def F68.f (a0 : Int) : Option (Bool) := if a0 ≥ 48 then (some (decide (a0 ≤ 57))) else (some false)
set_option maxHeartbeats 8000000 in
set_option maxRecDepth 100000 in
theorem F68.calls (a0 : Int) (r : Bool) (w : World) (h : F68.f a0 = some r) :
    Calls Tryd.prog 68 #[.int .u8 a0] w fun e w' => e = .returned (.bool r) ∧ Drawn0 w w' := by
 unfold F68.f at h
 have H := h; clear h
 by_cases c2 : a0 ≥ 48
 ·rw [if_pos c2] at H; have c2b0 : decide (48 ≤ a0) = true := decide_eq_true c2; clear c2; obtain rfl := Option.some.inj H; go_enter Tryd.func68, Tryd.ntmps68
  go_wp2
  go_ret
  exact ⟨pbb2_3, pbb2_4⟩
 ·rw [if_neg c2] at H; have c2b0 : decide (48 ≤ a0) = false := decide_eq_false c2; clear c2; obtain rfl := Option.some.inj H; go_enter Tryd.func68, Tryd.ntmps68
  go_wp2
  go_ret
  exact ⟨pbb2_3, pbb2_4⟩
def F38.l0 : Nat → ByteArray → Int → Option (Bool)
  | 0, _, _ => none
  | k + 1, x0, x3 => if x3 < (x0.size : Int) then (if 0 ≤ x3 then ((F67.f (bt x0 x3)).bind fun t101 => (if t101 = true then (F38.l0 k x0 (wrap64 (x3 + 1))) else ((F68.f (bt x0 x3)).bind fun t102 => (if t102 = true then (F38.l0 k x0 (wrap64 (x3 + 1))) else (some false))))) else (none)) else (if (x0.size : Int) ≥ 1 then (some (decide ((x0.size : Int) ≤ 12))) else (some false))
def F38.f (k : Nat) (a0 : ByteArray) : Option (Bool) := F38.l0 k a0 0
set_option maxHeartbeats 8000000 in
set_option maxRecDepth 100000 in
theorem F38.calls (k : Nat) (a0 : ByteArray) (r : Bool) (w : World) (h : F38.f k a0 = some r) :
    Calls Tryd.prog 38 #[.string a0] w fun e w' => e = .returned (.bool r) ∧ Drawn0 w w' := by
 unfold F38.f at h
 have H := h; clear h; have H' := Aside0.mk H; clear H; go_enter Tryd.func38, Tryd.ntmps38
 go_wp2
 go_loopg [3] k (fun kq v3 w' => ∃ (x3_1 : Int), v3 = .int .i64 x3_1 ∧ Aside0 (F38.l0 kq a0 x3_1 = some r) ∧ Aside0 (kq ≤ k) ∧ Drawn0 w w')
 case atStart => exact ⟨(0), pbb2_3, H', ⟨Nat.le_refl _⟩, pbb2_4⟩
 case round =>
  clear H'; obtain ⟨x3_1, rfl, HA, HK1, ⟨m1, rfl⟩⟩ := hrel
  cases gk with
  | zero => exact absurd HA.out (by simp [F38.l0])
  | succ k1 =>
   have H := HA.out; clear HA; simp only [F38.l0] at H
   by_cases c2 : x3_1 < (a0.size : Int)
   ·rw [if_pos c2] at H; have c2b0 := decide_eq_true c2; clear c2
    by_cases c3 : 0 ≤ x3_1
    ·rw [if_pos c3] at H; have c3b0 := decide_eq_true c3; clear c3; obtain ⟨t101, A50, H⟩ := bnd H; have A5 := Aside0.mk A50; clear A50
     by_cases c6 : t101 = true
     ·subst c6; rw [if_pos rfl] at H; have H' := Aside0.mk H; clear H; have p4 : 0 ≤ (x3_1 : Int) := of_decide_eq_true pbb2_6; have q4 : x3_1 < (a0.size : Int) := of_decide_eq_true pbb2_6; have hx4 := bt_at a0 x3_1; replace p4 := eq_true p4; replace q4 := eq_true q4
      go_wp2_with (first | ((with_reducible refine gate_callee (f := 67) rfl ?_); refine goesL_ (some 13) rfl rfl Tryd.func67 (by kernel_rfl) rfl #[.int .u8 (bt a0 x3_1)] rfl pbb2_5 ?_; (with_reducible refine (F67.calls (bt a0 x3_1) true _ A5.out).mono ?_); rintro e w' ⟨rfl, ⟨nd, rfl⟩⟩; refine ⟨_, rfl, ?_⟩))
      go_roundg k1
      case measure => have := HK1.out; omega
      case rel => exact ⟨(wrap64 (x3_1 + 1)), pbb2_3, H', ⟨pbb2_7⟩, pbb2_4⟩
     ·replace c6 := Bool.eq_false_iff.mpr c6; subst c6; rw [if_neg (show ¬ (false = true) by decide)] at H; obtain ⟨t102, A80, H⟩ := bnd H; have A8 := Aside0.mk A80; clear A80
      by_cases c9 : t102 = true
      ·subst c9; rw [if_pos rfl] at H; have H' := Aside0.mk H; clear H; have p4 : 0 ≤ (x3_1 : Int) := of_decide_eq_true pbb2_6; have q4 : x3_1 < (a0.size : Int) := of_decide_eq_true pbb2_6; have hx4 := bt_at a0 x3_1; replace p4 := eq_true p4; replace q4 := eq_true q4
       go_wp2_with (first | ((with_reducible refine gate_callee (f := 67) rfl ?_); refine goesL_ (some 13) rfl rfl Tryd.func67 (by kernel_rfl) rfl #[.int .u8 (bt a0 x3_1)] rfl pbb2_5 ?_; (with_reducible refine (F67.calls (bt a0 x3_1) false _ A5.out).mono ?_); rintro e w' ⟨rfl, ⟨nd, rfl⟩⟩; refine ⟨_, rfl, ?_⟩; have p7 : 0 ≤ (x3_1 : Int) := of_decide_eq_true pbb2_6; have q7 : x3_1 < (a0.size : Int) := of_decide_eq_true pbb2_6; have hx7 := bt_at a0 x3_1; replace p7 := eq_true p7; replace q7 := eq_true q7) | (go_at_call 68; (with_reducible refine (F68.calls (bt a0 x3_1) true _ A8.out).mono ?_); rintro e w' ⟨rfl, ⟨nd, rfl⟩⟩))
       go_roundg k1
       case measure => have := HK1.out; omega
       case rel => exact ⟨(wrap64 (x3_1 + 1)), pbb2_3, H', ⟨pbb2_7⟩, pbb2_4⟩
      ·replace c9 := Bool.eq_false_iff.mpr c9; subst c9; rw [if_neg (show ¬ (false = true) by decide)] at H; obtain rfl := Option.some.inj H; have p4 : 0 ≤ (x3_1 : Int) := of_decide_eq_true pbb2_6; have q4 : x3_1 < (a0.size : Int) := of_decide_eq_true pbb2_6; have hx4 := bt_at a0 x3_1; replace p4 := eq_true p4; replace q4 := eq_true q4
       go_wp2_with (first | ((with_reducible refine gate_callee (f := 67) rfl ?_); refine goesL_ (some 13) rfl rfl Tryd.func67 (by kernel_rfl) rfl #[.int .u8 (bt a0 x3_1)] rfl pbb2_5 ?_; (with_reducible refine (F67.calls (bt a0 x3_1) false _ A5.out).mono ?_); rintro e w' ⟨rfl, ⟨nd, rfl⟩⟩; refine ⟨_, rfl, ?_⟩; have p7 : 0 ≤ (x3_1 : Int) := of_decide_eq_true pbb2_6; have q7 : x3_1 < (a0.size : Int) := of_decide_eq_true pbb2_6; have hx7 := bt_at a0 x3_1; replace p7 := eq_true p7; replace q7 := eq_true q7) | (go_at_call 68; (with_reducible refine (F68.calls (bt a0 x3_1) false _ A8.out).mono ?_); rintro e w' ⟨rfl, ⟨nd, rfl⟩⟩))
       go_ret
       exact ⟨pbb2_3, pbb2_4⟩
    ·rw [if_neg c3] at H; exact absurd H (by simp)
   ·rw [if_neg c2] at H; have c2b0 := decide_eq_false c2; clear c2
    by_cases c10 : (a0.size : Int) ≥ 1
    ·rw [if_pos c10] at H; have c10b0 : decide (1 ≤ (a0.size : Int)) = true := decide_eq_true c10; have c10b1 : decide (1 ≤ a0.size) = true := decide_eq_true (by omega); clear c10; obtain rfl := Option.some.inj H
     go_wp2
     go_ret
     exact ⟨pbb2_3, pbb2_4⟩
    ·rw [if_neg c10] at H; have c10b0 : decide (1 ≤ (a0.size : Int)) = false := decide_eq_false c10; have c10b1 : decide (1 ≤ a0.size) = false := decide_eq_false (by omega); clear c10; obtain rfl := Option.some.inj H
     go_wp2
     go_ret
     exact ⟨pbb2_3, pbb2_4⟩
end Go.Proofs.YtjeecehhcajfaaaDoor.M
end
section
namespace Go.Proofs.YtjeecehhcajfaaaDoor.M
open Go.RowKit Go.Proofs.YtjeecehhcajfaaaDoorW.PrintWords
set_option linter.unusedVariables false
set_option linter.unusedSimpArgs false
def letv (a : Int) : Bool := decide (97 ≤ a ∧ a ≤ 122) || (decide (65 ≤ a ∧ a ≤ 90) || a == 95)
def digv (a : Int) : Bool := decide (48 ≤ a ∧ a ≤ 57)
theorem F64.eq (a : Int) : F64.f a = some (letv a) := by
 unfold F64.f letv
 by_cases h1 : a ≥ 97 <;> by_cases h2 : a ≤ 122 <;> by_cases h3 : a ≥ 65 <;> by_cases h4 : a ≤ 90 <;> simp [h1, h2, h3, h4]
theorem F65.eq (a : Int) : F65.f a = some (digv a) := by
 unfold F65.f digv
 by_cases h1 : a ≥ 48 <;> by_cases h2 : a ≤ 57 <;> simp [h1, h2]
theorem F67.eq (a : Int) : F67.f a = some (letv a) := by
 unfold F67.f letv
 by_cases h1 : a ≥ 97 <;> by_cases h2 : a ≤ 122 <;> by_cases h3 : a ≥ 65 <;> by_cases h4 : a ≤ 90 <;> simp [h1, h2, h3, h4]
theorem F68.eq (a : Int) : F68.f a = some (digv a) := by
 unfold F68.f digv
 by_cases h1 : a ≥ 48 <;> by_cases h2 : a ≤ 57 <;> simp [h1, h2]
theorem F63.eq (a : Int) : F63.f a = some (letv a || digv a) := by
 unfold F63.f
 rw [F64.eq, F65.eq]
 cases letv a <;> simp
def gall (b : ByteArray) : Nat → Nat → Bool
 | 0, _ => true
 | n + 1, i => (letv (bt b (i : Int)) || digv (bt b (i : Int))) && gall b n (i + 1)
def codev (b : ByteArray) : Bool := gall b b.size 0 && (decide ((b.size : Int) ≥ 1) && decide ((b.size : Int) ≤ 12))
theorem F62.go (b : ByteArray) (hb : b.size ≤ 1000) : ∀ n i, i + n = b.size → Ev (fun k => F62.l0 k b (b.size : Int) (i : Int)) (gall b n i)
 | 0, i, h => by
  refine Ev.succ ?_; simp only [F62.l0, if_neg (show ¬ (i : Int) < (b.size : Int) by omega)]; exact Ev.const _
 | n + 1, i, h => by
  refine Ev.succ ?_; simp only [F62.l0, if_pos (show (i : Int) < (b.size : Int) by omega), if_pos (show (0 : Int) ≤ (i : Int) by omega), F63.eq, Option.bind_some]
  unfold gall
  rw [w64 (n := (i : Int) + 1) (by omega) (by omega), show (i : Int) + 1 = ((i + 1 : Nat) : Int) by omega]
  cases (letv (bt b (i : Int)) || digv (bt b (i : Int))) with
  | false => exact Ev.const _
  | true =>
   simp only [if_true, Bool.true_and]; exact F62.go b hb n (i + 1) (by omega)
theorem size_nil (b : ByteArray) : b.toList = ([] : List UInt8) ↔ b.size = 0 := by
 rw [toList_nil_iff_emptyBytes]
 constructor
 ·rintro rfl; rfl
 ·intro h; exact ByteArray.ext (Array.eq_empty_of_size_eq_zero h)
theorem F33.eq (b : ByteArray) : Ev (fun k => F33.f k b) (codev b) := by
 unfold F33.f codev
 by_cases c : b.toList = ([] : List UInt8)
 ·have := (size_nil b).1 c; simp only [if_pos c, decide_eq_false (show ¬ (b.size : Int) ≥ 1 by omega), Bool.false_and, Bool.and_false]; exact Ev.const _
 ·have h1 : b.size ≠ 0 := fun h => c ((size_nil b).2 h); simp only [if_neg c, decide_eq_true (show (b.size : Int) ≥ 1 by omega), Bool.true_and]
  by_cases e : (b.size : Int) ≤ 12
  ·simp only [if_pos e, decide_eq_true e, Bool.and_true]
   unfold F62.f
   exact Ev.bind (F62.go b (by omega) b.size 0 (by omega)) (Ev.const _)
  ·simp only [if_neg e, decide_eq_false e, Bool.and_false]; exact Ev.const _
theorem F38.go (b : ByteArray) (hb : b.size ≤ 1000000000000000) : ∀ n i, i + n = b.size → Ev (fun k => F38.l0 k b (i : Int)) (gall b n i && (decide ((b.size : Int) ≥ 1) && decide ((b.size : Int) ≤ 12)))
 | 0, i, h => by
  refine Ev.succ ?_; simp only [F38.l0, if_neg (show ¬ (i : Int) < (b.size : Int) by omega), gall, Bool.true_and]
  by_cases c : (b.size : Int) ≥ 1
  ·simp only [if_pos c, decide_eq_true c, Bool.true_and]; exact Ev.const _
  ·simp only [if_neg c, decide_eq_false c, Bool.false_and]; exact Ev.const _
 | n + 1, i, h => by
  refine Ev.succ ?_; simp only [F38.l0, if_pos (show (i : Int) < (b.size : Int) by omega), if_pos (show (0 : Int) ≤ (i : Int) by omega), F67.eq, F68.eq, Option.bind_some]
  unfold gall
  rw [w64 (n := (i : Int) + 1) (by omega) (by omega), show (i : Int) + 1 = ((i + 1 : Nat) : Int) by omega]
  cases letv (bt b (i : Int)) with
  | true =>
   simp only [if_true, Bool.true_or, Bool.true_and]; exact F38.go b hb n (i + 1) (by omega)
  | false =>
   simp only [Bool.false_eq_true, if_false, Bool.false_or]
   cases digv (bt b (i : Int)) with
   | true =>
    simp only [if_true, Bool.true_and]; exact F38.go b hb n (i + 1) (by omega)
   | false => exact Ev.const _
theorem F38.eq (b : ByteArray) (hb : b.size ≤ 1000000000000000) : Ev (fun k => F38.f k b) (codev b) := by
 unfold F38.f codev
 exact F38.go b hb b.size 0 (by omega)
end Go.Proofs.YtjeecehhcajfaaaDoor.M
end
section
namespace Go.Proofs.YtjeecehhcajfaaaDoor.M
open Go.RowKit Go.Proofs.YtjeecehhcajfaaaDoorW.PrintWords Go.Proofs.YtjeecehhcajfaaaDoorW.PrintLast Go.Proofs.YtjeecehhcajfaaaDoorW.PrintMore
attribute [local go_sem] max2_int min2_int max_two min_two max_three min_three max_four min_four
set_option linter.unusedVariables false
set_option linter.unusedSimpArgs false
def F84.f (a0 : Int) : Option (Int) := if a0 < 0 then (some (IntKind.u64.wrap (-(IntKind.u64.wrap (a0))))) else (some (IntKind.u64.wrap (a0)))
set_option maxHeartbeats 8000000 in
set_option maxRecDepth 100000 in
theorem F84.calls (a0 : Int) (r : Int) (w : World) (h : F84.f a0 = some r) :
    Calls Tryd.prog 84 #[.int .i64 a0] w fun e w' => e = .returned (.int .u64 r) ∧ Drawn0 w w' := by
 unfold F84.f at h
 have H := h; clear h
 by_cases c2 : a0 < 0
 ·rw [if_pos c2] at H; have c2b0 := decide_eq_true c2; clear c2; obtain rfl := Option.some.inj H; go_enter Tryd.func84, Tryd.ntmps84
  go_wp2
  go_ret
  exact ⟨pbb2_3, pbb2_4⟩
 ·rw [if_neg c2] at H; have c2b0 := decide_eq_false c2; clear c2; obtain rfl := Option.some.inj H; go_enter Tryd.func84, Tryd.ntmps84
  go_wp2
  go_ret
  exact ⟨pbb2_3, pbb2_4⟩
def digL : Nat → Nat → List UInt8 → List UInt8
 | 0, _, acc => acc
 | k + 1, m, acc => if m / 10 = 0 then UInt8.ofNat (48 + m % 10) :: acc else digL k (m / 10) (UInt8.ofNat (48 + m % 10) :: acc)
def F75.f (n : Int) : Option ByteArray := if 0 ≤ n ∧ n < 9223372036854775808 then some ⟨(digL 19 n.toNat []).toArray⟩ else none
def TailIs (w : World) (b a : Nat) (acc : List UInt8) : Prop := ∃ (arr : Array Value) (t : TypeId), w.heap[b]? = some (.cells arr t (0, 0)) ∧ arr.size = 20 ∧ ∀ j (hj : j < acc.length), arr[a + j]? = some (.int .u8 (acc[j].toNat : Int))
theorem TailIs.set {w : World} {b a : Nat} {acc : List UInt8} (h : TailIs w b (a + 1) acc) (ha : a < 20) (c : UInt8) {v : Value} (hv : v = .int .u8 (c.toNat : Int)) : TailIs (w.setCell ⟨b, a, none⟩ v) b a (c :: acc) := by
 obtain ⟨arr, t, h1, h2, h3⟩ := h; refine ⟨_, t, blk_set h1 a v, by simpa using h2, fun j hj => ?_⟩
 cases j with
 | zero => subst hv; simp [h2, ha]
 | succ j =>
  have := h3 j (by simpa using hj); rw [show a + 1 + j = a + (j + 1) by omega] at this; have hne : a ≠ a + (j + 1) := by omega
  rw [Array.getElem?_setIfInBounds_ne hne, this]
  simp
theorem TailIs.cells {w : World} {b a : Nat} {acc : List UInt8} (h : TailIs w b a acc) (j : Nat) (hj : j < acc.length) : w.cell? ((⟨b, a, none⟩ : Addr).add j) = some (.int .u8 (acc[j].toNat : Int)) := by
 obtain ⟨arr, t, h1, h2, h3⟩ := h; have e : ((⟨b, a, none⟩ : Addr).add j) = ⟨b, a + j, none⟩ := by simp [Addr.add]
 rw [e]; exact (blk_cell h1 (a + j)).trans (h3 j hj)
theorem TailIs.at_ {w : World} {b a : Nat} {acc : List UInt8} (h : TailIs w b a acc) (i : Nat) (hi : i < 20) : (∃ u, w.cell? ⟨b, i, none⟩ = some u) ∧ w.frozen? ⟨b, i, none⟩ = false := by
 obtain ⟨arr, t, h1, h2, h3⟩ := h; exact ⟨⟨arr[i]'(by omega), (blk_cell h1 i).trans (by simp [h2, hi])⟩, blk_frozen h1 i⟩
theorem digit_u8 (m : Nat) : IntKind.u8.wrap (48 + IntKind.u8.wrap ((m : Int) % 10)) = ((UInt8.ofNat (48 + m % 10)).toNat : Int) := by
 have h1 : ∀ x : Int, IntKind.u8.wrap x = x % 256 := fun x => by first | rfl | (simp [IntKind.wrap]; done) | (unfold IntKind.wrap; simp)
 rw [h1, h1]; have : (UInt8.ofNat (48 + m % 10)).toNat = 48 + m % 10 := by simp; omega
 rw [this]
 omega
set_option maxHeartbeats 8000000 in
set_option maxRecDepth 100000 in
theorem F75.calls (n : Int) (r : ByteArray) (w : World) (h : F75.f n = some r) :
  Calls Tryd.prog 75 #[.int .i64 n] w fun e w' => e = .returned (.string r) ∧ Below w.heap.size w w' := by
 unfold F75.f at h
 split at h
 case isFalse => cases h
 rename_i hn
 obtain ⟨m0, rfl⟩ : ∃ m0 : Nat, n = (m0 : Int) := ⟨n.toNat, by omega⟩; have H := Aside0.mk (Option.some.inj h); have HM0 : Aside0 (m0 < 9223372036854775808) := ⟨by omega⟩; have HS : Aside0 (F84.f (m0 : Int) = some (m0 : Int)) := ⟨by unfold F84.f; rw [if_neg (by omega)]; have h1 : ∀ x : Int, IntKind.u64.wrap x = x % 18446744073709551616 := fun x => (by first | rfl | (simp [IntKind.wrap]; done) | (unfold IntKind.wrap; simp)); rw [h1]; congr 1; omega⟩; have hz : decide ((m0 : Int) < 0) = false := decide_eq_false (by omega); clear h hn; rw [Int.toNat_natCast] at H; go_enter Tryd.func75, Tryd.ntmps75
 go_wp2_with (first | (go_at_call 84; (with_reducible refine (F84.calls (m0 : Int) _ _ HS.out).mono ?_); rintro e w' ⟨rfl, ⟨nd, rfl⟩⟩))
 go_loopg [4, 5, 8] 19 (fun kq v4 v5 v8 w' => ∃ (a m i : Nat) (acc : List UInt8), v4 = .int .i64 (a : Int) ∧ v5 = .int .u64 (m : Int) ∧ v8 = .int .i64 (i : Int) ∧ Aside0 (a + i = 20 ∧ i + kq = 19 ∧ acc.length = i ∧ m < 9223372036854775808) ∧ Aside0 ((⟨(digL kq m acc).toArray⟩ : ByteArray) = r) ∧ Aside0 (TailIs w' w.heap.size a acc) ∧ Aside0 (Below w.heap.size w w'))
 case atStart =>
  refine ⟨20, m0, 0, [], rfl, rfl, rfl, ⟨by have := HM0.out; simp; omega⟩, H, ⟨?_⟩, ⟨?_⟩⟩
  ·exact ⟨_, _, blk_drewN (blk_new w _) _, by rfl, fun j hj => by simp at hj⟩
  ·exact pw_below_drewN (below_alloc (Below.refl _ _) _) _
 case round =>
  obtain ⟨a, m, i, acc, rfl, rfl, rfl, HI, HR, HT, HB⟩ := hrel; have q3 : (a : Int) ≤ 20 := by have := HI.out; omega
  have q4 : 0 ≤ (a : Int) := by omega
  cases gk with
  | zero =>
   have hi : i = 19 := by have := HI.out; omega
   subst hi; have hl : 20 - a = acc.length := by have := HI.out; omega
   have hac : a + acc.length = 20 := by have := HI.out; omega
   have hR := HR.out; simp only [digL] at hR; have hcv := fun (w9 : World) (hc : ∀ j (hj : j < acc.length), w9.cell? ((⟨w.heap.size, a, none⟩ : Addr).add j) = some (.int .u8 (acc[j].toNat : Int))) => run_convert_bytes_back (P := Tryd.prog) w9 122 9 5 ⟨w.heap.size, a, none⟩ acc.length acc Tryd.underlying122 Tryd.underlying5 Tryd.underlying9 hc; have hcw := hcv _ HT.out.cells; rw [hR] at hcw; have hne : ¬ (acc.length = 0) := by have := HI.out; omega
   have hne2 : ¬ (20 - a = 0) := by have := HI.out; omega
   have hlt2 : ¬ (20 = a) := by have := HI.out; omega
   clear hcv
   go_wp2
   go_ret
   exact ⟨by first | rfl | (simp; done), HB.out⟩
  | succ k1 =>
   have hI := HI.out; have hib : decide ((i : Int) < 19) = true := decide_eq_true (by omega); have hibn : decide (i < 19) = true := decide_eq_true (by omega); obtain ⟨a1, rfl⟩ : ∃ a1, a = a1 + 1 := ⟨a - 1, by omega⟩; have hw1 : wrap64 (((a1 + 1 : Nat) : Int) - 1) = (a1 : Int) := by unfold wrap64; omega
   have hw2 : wrap64 ((a1 : Int)) = (a1 : Int) := by unfold wrap64; omega
   have hw3 : wrap64 ((i : Int) + 1) = ((i + 1 : Nat) : Int) := by unfold wrap64; omega
   have hw4 : IntKind.u64.wrap ((m : Int) / 10) = (m : Int) / 10 := by have h1 : ∀ x : Int, IntKind.u64.wrap x = x % 18446744073709551616 := fun x => (by first | rfl | (simp [IntKind.wrap]; done) | (unfold IntKind.wrap; simp)); rw [h1]; omega
   have p1 : 0 ≤ (a1 : Int) := by omega
   have q1 : (a1 : Int) < 20 := by omega
   have q2 : (a1 : Int) ≤ 20 := by omega
   obtain ⟨⟨u, hu⟩, hf⟩ := HT.out.at_ a1 (by omega); have hR := HR.out; simp only [digL] at hR; have hc8 : (48 + (m : Int) % 10) = ((UInt8.ofNat (48 + m % 10)).toNat : Int) := by have : (UInt8.ofNat (48 + m % 10)).toNat = 48 + m % 10 := (by simp; omega); rw [this]; omega
   have hTS := HT.out.set (by omega) (UInt8.ofNat (48 + m % 10)) (congrArg (Value.int .u8) hc8); have HBS := Aside0.mk (HB.out.setCell (p := ⟨w.heap.size, a1, none⟩) (Nat.le_refl _) (Value.int .u8 (48 + (m : Int) % 10)))
   by_cases c : m / 10 = 0
   ·rw [if_pos c] at hR; have cb : ((m : Int) / 10 == 0) = true := by rw [beq_iff_eq]; omega
    generalize hacc : UInt8.ofNat (48 + m % 10) :: acc = acc2 at hR hTS; have hl : 20 - a1 = acc2.length := by rw [← hacc]; simp; omega
    have hcv := fun (w9 : World) (hc : ∀ j (hj : j < acc2.length), w9.cell? ((⟨w.heap.size, a1, none⟩ : Addr).add j) = some (.int .u8 (acc2[j].toNat : Int))) => run_convert_bytes_back (P := Tryd.prog) w9 122 9 5 ⟨w.heap.size, a1, none⟩ acc2.length acc2 Tryd.underlying122 Tryd.underlying5 Tryd.underlying9 hc; have hcw := hcv _ hTS.cells; rw [hR] at hcw; have hne : ¬ (acc2.length = 0) := by omega
    have hne2 : ¬ (20 - a1 = 0) := by omega
    have hlt2 : ¬ (20 = a1) := by omega
    clear hcv hc8 hacc
    go_wp2
    go_ret
    exact ⟨by first | rfl | (simp; done), HBS.out⟩
   ·rw [if_neg c] at hR; have cb : ((m : Int) / 10 == 0) = false := by rw [beq_eq_false_iff_ne]; omega
    have HR2 := Aside0.mk hR; have HTS := Aside0.mk hTS; have HI2 : Aside0 (a1 + (i + 1) = 20 ∧ (i + 1) + k1 = 19 ∧ (UInt8.ofNat (48 + m % 10) :: acc).length = i + 1 ∧ m / 10 < 9223372036854775808) := ⟨by simp; omega⟩; clear hR hc8 hTS hI HI HR
    go_wp2
    go_roundg k1
    case measure => omega
    case rel =>
     exact ⟨a1, m / 10, i + 1, _, by first | rfl | (simp; done), by first | rfl | (congr 1; omega), by first | rfl | (rw [← hw3]; rfl) | (simp [*]; done), HI2, HR2, HTS, HBS⟩
def F54.l0 : Nat → List (S101) → Int → Int → ByteArray → ByteArray → ByteArray → ByteArray → ByteArray → Option (ByteArray × ByteArray × ByteArray × ByteArray × ByteArray)
  | 0, _, _, _, _, _, _, _, _ => none
  | k + 1, x16, x17, x18, x104000, x104001, x104002, x104003, x104004 => if x18 < x17 then (if 0 ≤ x18 then (if x18 < (x16.length : Int) then ((F75.f (((rd_T101 x16 x18).f0).size : Int)).bind fun t106 => (if t106.size + 1 ≤ 9223372036854775807 then (if (t106 ++ (⟨#[58]⟩ : ByteArray)).size + ((rd_T101 x16 x18).f0).size ≤ 9223372036854775807 then ((F75.f (((rd_T101 x16 x18).f1).size : Int)).bind fun t107 => (if ((t106 ++ (⟨#[58]⟩ : ByteArray)) ++ ((rd_T101 x16 x18).f0)).size + t107.size ≤ 9223372036854775807 then (if (((t106 ++ (⟨#[58]⟩ : ByteArray)) ++ ((rd_T101 x16 x18).f0)) ++ t107).size + 1 ≤ 9223372036854775807 then (if ((((t106 ++ (⟨#[58]⟩ : ByteArray)) ++ ((rd_T101 x16 x18).f0)) ++ t107) ++ (⟨#[58]⟩ : ByteArray)).size + ((rd_T101 x16 x18).f1).size ≤ 9223372036854775807 then (if x104004.size + (((((t106 ++ (⟨#[58]⟩ : ByteArray)) ++ ((rd_T101 x16 x18).f0)) ++ t107) ++ (⟨#[58]⟩ : ByteArray)) ++ ((rd_T101 x16 x18).f1)).size ≤ 9223372036854775807 then (F54.l0 k x16 x17 (wrap64 (x18 + 1)) x104000 x104001 x104002 x104003 (x104004 ++ (((((t106 ++ (⟨#[58]⟩ : ByteArray)) ++ ((rd_T101 x16 x18).f0)) ++ t107) ++ (⟨#[58]⟩ : ByteArray)) ++ ((rd_T101 x16 x18).f1)))) else (none)) else (none)) else (none)) else (none))) else (none)) else (none))) else (none)) else (none)) else (some (x104000, x104001, x104002, x104003, x104004))
def F54.f (k : Nat) (a0_0 : ByteArray) (a0_1 : ByteArray) (a0_2 : Int) (a0_3 : Int) (a0_4 : ByteArray) (a0_5 : ByteArray) (l0_6 : List (S101)) : Option (ByteArray × ByteArray × ByteArray × ByteArray × ByteArray) := F54.l0 k l0_6 (l0_6.length : Int) 0 a0_0 a0_1 a0_4 a0_5 (⟨#[]⟩ : ByteArray)
theorem F54.mono_l : ∀ k, (∀ y0 y1 y2 y3 y4 y5 y6 y7, LeO (F54.l0 k y0 y1 y2 y3 y4 y5 y6 y7) (F54.l0 (k + 1) y0 y1 y2 y3 y4 y5 y6 y7))
  | 0 => fun _ _ _ _ _ _ _ _ r h => by simp [F54.l0] at h
  | k + 1 => by
    have ih0 := F54.mono_l k
    · intro y0 y1 y2 y3 y4 y5 y6 y7
      unfold F54.l0
      repeat' first
      | (with_reducible exact ih0 _ _ _ _ _ _ _ _)
      | (with_reducible exact LeO.refl _)
      | (with_reducible exact LeO.none _)
      | (with_reducible refine LeO.ite ?_ ?_)
      | (with_reducible refine LeO.bind ?_ (fun _ => ?_))
      | exact ih0 _ _ _ _ _ _ _ _
      | exact LeO.none _
      | refine LeO.ite ?_ ?_
      | refine LeO.bind ?_ (fun _ => ?_)
theorem F54.mono : ∀ a0 a1 a2 a3 a4 a5 a6 k, LeO (F54.f k a0 a1 a2 a3 a4 a5 a6) (F54.f (k + 1) a0 a1 a2 a3 a4 a5 a6) := by
 intro a0 a1 a2 a3 a4 a5 a6 k; have ih0 := F54.mono_l k
 unfold F54.f
 repeat' first
   | (with_reducible exact ih0 _ _ _ _ _ _ _ _)
   | (with_reducible exact LeO.refl _)
   | (with_reducible exact LeO.none _)
   | (with_reducible refine LeO.ite ?_ ?_)
   | (with_reducible refine LeO.bind ?_ (fun _ => ?_))
   | exact ih0 _ _ _ _ _ _ _ _
   | exact LeO.none _
   | refine LeO.ite ?_ ?_
   | refine LeO.bind ?_ (fun _ => ?_)
def F54.T5 : Bool × List (List Nat × List Nat) := (true, [([], []), ([0], [0]), ([], []), ([2], [2]), ([3], [3]), ([4], [4]), ([5], [5]), ([], []), ([7], [7]), ([6, 8], [6, 8]), ([], []), ([10], [10]), ([11], [11]), ([12, 5], [12]), ([9, 13], [9, 13]), ([14], [14]), ([], []), ([16], [16]), ([15, 17], [15, 17]), ([1, 18], [1, 18]), ([0, 1, 2, 3, 4, 5, 6, 7, 8, 9, 10, 11, 12, 13, 14, 15, 16, 17, 18, 19], []), ([20, 19, 13, 0, 1, 2, 3, 4, 5, 6, 7, 8, 9, 10, 11, 12, 13, 14, 15, 16, 17, 18, 19], [19, 20])])
def F54.B5 : List Nat := [0, 1, 0, 4, 12, 28, 60, 0, 128, 508, 0, 1024, 3072, 7228, 16380, 32764, 0, 65536, 262140, 524287, 1048575, 2097151]
theorem F54.tab5 : rtab .any (opsOf Tryd.f54 5) = F54.T5 := by kernel_rfl
theorem F54.bits5 : waitsOk F54.T5.2 F54.B5 = true := by kernel_rfl
set_option maxHeartbeats 8000000 in
set_option maxRecDepth 100000 in
theorem F54.calls (k : Nat) (a0_0 : ByteArray) (a0_1 : ByteArray) (a0_2 : Int) (a0_3 : Int) (a0_4 : ByteArray) (a0_5 : ByteArray) (A0_6 : Option Addr) (c0_6 : Nat) (l0_6 : List (S101)) (r1 : ByteArray) (r2 : ByteArray) (r3 : ByteArray) (r4 : ByteArray) (r5 : ByteArray) (w : World) (hr0_6 : Kd.C k101 w A0_6 l0_6.length l0_6) (hc0_6 : l0_6.length ≤ c0_6) (h : F54.f k a0_0 a0_1 a0_2 a0_3 a0_4 a0_5 l0_6 = some (r1, r2, r3, r4, r5)) :
    Calls Tryd.prog 54 #[.agg #[.string a0_0, .string a0_1, .int .i64 a0_2, .int .i64 a0_3, .string a0_4, .string a0_5, .slice A0_6 l0_6.length c0_6]] w fun e w' => e = .returned (.agg #[.string r1, .string r2, .string r3, .string r4, .string r5]) ∧ Below w.heap.size w w' := by
 have hu24 := Tryd.underlying24; have hu89 := Tryd.underlying89; have hu9 := Tryd.underlying9; have hu22 := Tryd.underlying22; have hu101 := Tryd.underlying101; have HR0_6 := Aside0.mk hr0_6; have HC0_6 := Aside0.mk hc0_6; clear hr0_6 hc0_6; have HB := Aside0.mk (Below.refl w.heap.size w)
 unfold F54.f at h
 have H := h; clear h; have H' := Aside0.mk H; clear H; go_enter Tryd.func54, Tryd.ntmps54
 go_wp2_with (first | ((with_reducible refine gate_dst (N := 1) rfl ?_); refine box_event ?hg (N := 1) ?hd (cs := #[.string a0_0, .string a0_1, .int .i64 a0_2, .int .i64 a0_3, .string a0_4, .string a0_5, .slice A0_6 l0_6.length c0_6]) (t := 24) ?hr ?_; (case hd => rfl); (case hg => rfl); (case hr => first | (go_simp; done) | (go_simp; rfl)); intro gb101 hg w2 hbox hb; have BK101 := Aside0.mk (hbox); have GW101 := Aside0.mk ((pbb2_8 : w.heap.size ≤ gb101)); have GE101 := Aside0.mk ((pbb2_8 : w.heap.size ≤ gb101)); replace HB := Aside0.mk (below_step pbb2_9 hb); clear hb hbox hg) | ((with_reducible refine gate_dst (N := 2) rfl ?_); refine box_event ?hg (N := 2) ?hd (cs := #[.string (⟨#[]⟩ : ByteArray), .string (⟨#[]⟩ : ByteArray), .string (⟨#[]⟩ : ByteArray), .string (⟨#[]⟩ : ByteArray), .string (⟨#[]⟩ : ByteArray)]) (t := 89) ?hr ?_; (case hd => rfl); (case hg => rfl); (case hr => first | (go_simp; done) | (go_simp; rfl)); intro gb102 hg w3 hbox hb; have BK102 := Aside0.mk (hbox); have GW102 := Aside0.mk ((pbb2_10 : w.heap.size ≤ gb102)); have GE102 := Aside0.mk ((pbb2_10 : w.heap.size ≤ gb102)); replace HB := Aside0.mk (below_step pbb2_11 hb); have NB101_102 := Aside0.mk ((by rw [hg]; exact Nat.ne_of_lt (blk_lt (g := gb101) (o := .cells #[.string a0_0, .string a0_1, .int .i64 a0_2, .int .i64 a0_3, .string a0_4, .string a0_5, .slice A0_6 l0_6.length c0_6] 24 (0, 0)) pbb2_12) : gb101 ≠ gb102)); have NB102_101 := Aside0.mk ((by rw [hg]; exact Nat.ne_of_gt (blk_lt (g := gb101) (o := .cells #[.string a0_0, .string a0_1, .int .i64 a0_2, .int .i64 a0_3, .string a0_4, .string a0_5, .slice A0_6 l0_6.length c0_6] 24 (0, 0)) pbb2_12) : gb102 ≠ gb101)); replace BK101 := Aside0.mk (blk_below (g := gb101) (o := .cells #[.string a0_0, .string a0_1, .int .i64 a0_2, .int .i64 a0_3, .string a0_4, .string a0_5, .slice A0_6 l0_6.length c0_6] 24 (0, 0)) pbb2_12 hb); clear hb hbox hg; have hnb4 := NB101_102.out; have hnc4 := NB102_101.out; obtain ⟨hcz5_0, hcz5_1, hcz5_2, hcz5_3, hcz5_4, hcz5_5, hcz5_6⟩ := cz7 BK101.out; obtain ⟨hfz5_0, hfz5_1, hfz5_2, hfz5_3, hfz5_4, hfz5_5, hfz5_6⟩ := fz7 BK101.out) | ((with_reducible refine gate_dst (N := 3) rfl ?_); refine box_event ?hg (N := 3) ?hd (cs := #[.string (⟨#[]⟩ : ByteArray), .string (⟨#[]⟩ : ByteArray), .string (⟨#[]⟩ : ByteArray), .string (⟨#[]⟩ : ByteArray), .string (⟨#[]⟩ : ByteArray)]) (t := 89) ?hr ?_; (case hd => rfl); (case hg => rfl); (case hr => first | (go_simp; done) | (go_simp; rfl)); intro gb103 hg w6 hbox hb; have BK103 := Aside0.mk (hbox); have GW103 := Aside0.mk ((by rw [hg]; exact (below_size pbb2_13) : w.heap.size ≤ gb103)); have GE103 := Aside0.mk ((by rw [hg]; exact (below_size pbb2_13) : w.heap.size ≤ gb103)); replace HB := Aside0.mk (below_step pbb2_13 hb); have NB101_103 := Aside0.mk ((by rw [hg]; exact Nat.ne_of_lt (blk_lt (g := gb101) (o := .cells #[.string a0_0, .string a0_1, .int .i64 a0_2, .int .i64 a0_3, .string a0_4, .string a0_5, .slice A0_6 l0_6.length c0_6] 24 (0, 0)) pbb2_12) : gb101 ≠ gb103)); have NB103_101 := Aside0.mk ((by rw [hg]; exact Nat.ne_of_gt (blk_lt (g := gb101) (o := .cells #[.string a0_0, .string a0_1, .int .i64 a0_2, .int .i64 a0_3, .string a0_4, .string a0_5, .slice A0_6 l0_6.length c0_6] 24 (0, 0)) pbb2_12) : gb103 ≠ gb101)); replace BK101 := Aside0.mk (blk_below (g := gb101) (o := .cells #[.string a0_0, .string a0_1, .int .i64 a0_2, .int .i64 a0_3, .string a0_4, .string a0_5, .slice A0_6 l0_6.length c0_6] 24 (0, 0)) pbb2_12 hb); have NB102_103 := Aside0.mk ((by rw [hg]; exact Nat.ne_of_lt (blk_lt (g := gb102) (o := .cells #[.string (⟨#[]⟩ : ByteArray), .string (⟨#[]⟩ : ByteArray), .string (⟨#[]⟩ : ByteArray), .string (⟨#[]⟩ : ByteArray), .string (⟨#[]⟩ : ByteArray)] 89 (0, 0)) pbb2_14) : gb102 ≠ gb103)); have NB103_102 := Aside0.mk ((by rw [hg]; exact Nat.ne_of_gt (blk_lt (g := gb102) (o := .cells #[.string (⟨#[]⟩ : ByteArray), .string (⟨#[]⟩ : ByteArray), .string (⟨#[]⟩ : ByteArray), .string (⟨#[]⟩ : ByteArray), .string (⟨#[]⟩ : ByteArray)] 89 (0, 0)) pbb2_14) : gb103 ≠ gb102)); replace BK102 := Aside0.mk (blk_below (g := gb102) (o := .cells #[.string (⟨#[]⟩ : ByteArray), .string (⟨#[]⟩ : ByteArray), .string (⟨#[]⟩ : ByteArray), .string (⟨#[]⟩ : ByteArray), .string (⟨#[]⟩ : ByteArray)] 89 (0, 0)) pbb2_14 hb); clear hb hbox hg; have hnb7 := NB103_101.out; have hnc7 := NB101_103.out; have hnb8 := NB103_102.out; have hnc8 := NB102_103.out; obtain ⟨hcz9_0, hcz9_1, hcz9_2, hcz9_3, hcz9_4⟩ := cz5 BK103.out; obtain ⟨hfz9_0, hfz9_1, hfz9_2, hfz9_3, hfz9_4⟩ := fz5 BK103.out; obtain ⟨hcz10_0, hcz10_1, hcz10_2, hcz10_3, hcz10_4, hcz10_5, hcz10_6⟩ := cz7 BK101.out; obtain ⟨hfz10_0, hfz10_1, hfz10_2, hfz10_3, hfz10_4, hfz10_5, hfz10_6⟩ := fz7 BK101.out))
 go_loopg [18] k (fun kq v18 w' => ∃ (x18_1 : Int) (x104004_1 : ByteArray), v18 = .int .i64 x18_1 ∧ Aside0 (F54.l0 kq l0_6 (l0_6.length : Int) x18_1 a0_0 a0_1 a0_4 a0_5 x104004_1 = some (r1, r2, r3, r4, r5)) ∧ Aside0 (kq ≤ k) ∧ Aside0 (w'.heap[gb101]? = some (.cells #[.string a0_0, .string a0_1, .int .i64 a0_2, .int .i64 a0_3, .string a0_4, .string a0_5, (.slice A0_6 l0_6.length c0_6)] 24 (0, 0))) ∧ Aside0 (w'.heap[gb102]? = some (.cells #[.string (⟨#[]⟩ : ByteArray), .string (⟨#[]⟩ : ByteArray), .string (⟨#[]⟩ : ByteArray), .string (⟨#[]⟩ : ByteArray), .string (⟨#[]⟩ : ByteArray)] 89 (0, 0))) ∧ Aside0 (w'.heap[gb103]? = some (.cells #[.string a0_0, .string a0_1, .string a0_4, .string a0_5, .string x104004_1] 89 (0, 0))) ∧ Aside0 (Below w.heap.size w w'))
 case atStart => exact ⟨(0), ((⟨#[]⟩ : ByteArray)), pbb2_3, H', ⟨Nat.le_refl _⟩, ⟨by (with_reducible repeat (first | refine blk_drewN ?_ _ | refine blk_drew ?_ | refine blk_alloc ?_ _ | refine blk_far ?_ NB101_103.out _)); exact BK101.out⟩, ⟨by (with_reducible repeat (first | refine blk_drewN ?_ _ | refine blk_drew ?_ | refine blk_alloc ?_ _ | refine blk_far ?_ NB102_103.out _)); exact BK102.out⟩, ⟨by (with_reducible repeat (first | refine blk_drewN ?_ _ | refine blk_drew ?_ | refine blk_alloc ?_ _)); refine blk_put (cs := #[.string a0_0, .string a0_1, .string a0_4, .string a0_5, .string (⟨#[]⟩ : ByteArray)]) ?_ 4 _ rfl; (with_reducible repeat (first | refine blk_drewN ?_ _ | refine blk_drew ?_ | refine blk_alloc ?_ _)); refine blk_put (cs := #[.string a0_0, .string a0_1, .string a0_4, .string (⟨#[]⟩ : ByteArray), .string (⟨#[]⟩ : ByteArray)]) ?_ 3 _ rfl; (with_reducible repeat (first | refine blk_drewN ?_ _ | refine blk_drew ?_ | refine blk_alloc ?_ _)); refine blk_put (cs := #[.string a0_0, .string a0_1, .string (⟨#[]⟩ : ByteArray), .string (⟨#[]⟩ : ByteArray), .string (⟨#[]⟩ : ByteArray)]) ?_ 2 _ rfl; (with_reducible repeat (first | refine blk_drewN ?_ _ | refine blk_drew ?_ | refine blk_alloc ?_ _)); refine blk_put (cs := #[.string a0_0, .string (⟨#[]⟩ : ByteArray), .string (⟨#[]⟩ : ByteArray), .string (⟨#[]⟩ : ByteArray), .string (⟨#[]⟩ : ByteArray)]) ?_ 1 _ rfl; (with_reducible repeat (first | refine blk_drewN ?_ _ | refine blk_drew ?_ | refine blk_alloc ?_ _)); refine blk_put (cs := #[.string (⟨#[]⟩ : ByteArray), .string (⟨#[]⟩ : ByteArray), .string (⟨#[]⟩ : ByteArray), .string (⟨#[]⟩ : ByteArray), .string (⟨#[]⟩ : ByteArray)]) ?_ 0 _ rfl; (with_reducible repeat (first | refine blk_drewN ?_ _ | refine blk_drew ?_ | refine blk_alloc ?_ _)); exact BK103.out⟩, ⟨pbb2_15⟩⟩
 case round =>
  clear H'; obtain ⟨x18_1, x104004_1, rfl, HA, HK1, BK101, BK102, BK103, HB⟩ := hrel
  cases gk with
  | zero => exact absurd HA.out (by simp [F54.l0])
  | succ k1 =>
   have H := HA.out; clear HA; simp only [F54.l0] at H
   by_cases c11 : x18_1 < (l0_6.length : Int)
   ·rw [if_pos c11] at H; have c11b0 := decide_eq_true c11; clear c11
    by_cases c12 : 0 ≤ x18_1
    ·rw [if_pos c12] at H; have c12b0 := decide_eq_true c12; clear c12
     by_cases c13 : x18_1 < (l0_6.length : Int)
     ·rw [if_pos c13] at H; have c13b0 := decide_eq_true c13; clear c13; obtain ⟨t106, A140, H⟩ := bnd H; have A14 := Aside0.mk A140; clear A140
      by_cases c15 : t106.size + 1 ≤ 9223372036854775807
      ·rw [if_pos c15] at H; have c15b0 := eq_true c15; have c15b1 := decide_eq_true c15; (try have c15b2 : (9223372036854775807 < t106.size + 1) = False := eq_false (Nat.not_lt.2 c15))
       by_cases c16 : (t106 ++ (⟨#[58]⟩ : ByteArray)).size + ((rd_T101 l0_6 x18_1).f0).size ≤ 9223372036854775807
       ·rw [if_pos c16] at H; have c16b0 := eq_true c16; have c16b1 := decide_eq_true c16; (try have c16b2 : (9223372036854775807 < (t106 ++ (⟨#[58]⟩ : ByteArray)).size + ((rd_T101 l0_6 x18_1).f0).size) = False := eq_false (Nat.not_lt.2 c16)); (try (have c16b3 := c16b2; simp only [ByteArray.size_append, show (⟨#[58]⟩ : ByteArray).size = 1 from rfl] at c16b3)); obtain ⟨t107, A170, H⟩ := bnd H; have A17 := Aside0.mk A170; clear A170
        by_cases c18 : ((t106 ++ (⟨#[58]⟩ : ByteArray)) ++ ((rd_T101 l0_6 x18_1).f0)).size + t107.size ≤ 9223372036854775807
        ·rw [if_pos c18] at H; have c18b0 := eq_true c18; have c18b1 := decide_eq_true c18; (try have c18b2 : (9223372036854775807 < ((t106 ++ (⟨#[58]⟩ : ByteArray)) ++ ((rd_T101 l0_6 x18_1).f0)).size + t107.size) = False := eq_false (Nat.not_lt.2 c18)); (try (have c18b3 := c18b2; simp only [ByteArray.size_append, show (⟨#[58]⟩ : ByteArray).size = 1 from rfl] at c18b3))
         by_cases c19 : (((t106 ++ (⟨#[58]⟩ : ByteArray)) ++ ((rd_T101 l0_6 x18_1).f0)) ++ t107).size + 1 ≤ 9223372036854775807
         ·rw [if_pos c19] at H; have c19b0 := eq_true c19; have c19b1 := decide_eq_true c19; (try have c19b2 : (9223372036854775807 < (((t106 ++ (⟨#[58]⟩ : ByteArray)) ++ ((rd_T101 l0_6 x18_1).f0)) ++ t107).size + 1) = False := eq_false (Nat.not_lt.2 c19)); (try (have c19b3 := c19b2; simp only [ByteArray.size_append, show (⟨#[58]⟩ : ByteArray).size = 1 from rfl] at c19b3))
          by_cases c20 : ((((t106 ++ (⟨#[58]⟩ : ByteArray)) ++ ((rd_T101 l0_6 x18_1).f0)) ++ t107) ++ (⟨#[58]⟩ : ByteArray)).size + ((rd_T101 l0_6 x18_1).f1).size ≤ 9223372036854775807
          ·rw [if_pos c20] at H; have c20b0 := eq_true c20; have c20b1 := decide_eq_true c20; (try have c20b2 : (9223372036854775807 < ((((t106 ++ (⟨#[58]⟩ : ByteArray)) ++ ((rd_T101 l0_6 x18_1).f0)) ++ t107) ++ (⟨#[58]⟩ : ByteArray)).size + ((rd_T101 l0_6 x18_1).f1).size) = False := eq_false (Nat.not_lt.2 c20)); (try (have c20b3 := c20b2; simp only [ByteArray.size_append, show (⟨#[58]⟩ : ByteArray).size = 1 from rfl] at c20b3))
           by_cases c21 : x104004_1.size + (((((t106 ++ (⟨#[58]⟩ : ByteArray)) ++ ((rd_T101 l0_6 x18_1).f0)) ++ t107) ++ (⟨#[58]⟩ : ByteArray)) ++ ((rd_T101 l0_6 x18_1).f1)).size ≤ 9223372036854775807
           ·rw [if_pos c21] at H; have c21b0 := eq_true c21; have c21b1 := decide_eq_true c21; (try have c21b2 : (9223372036854775807 < x104004_1.size + (((((t106 ++ (⟨#[58]⟩ : ByteArray)) ++ ((rd_T101 l0_6 x18_1).f0)) ++ t107) ++ (⟨#[58]⟩ : ByteArray)) ++ ((rd_T101 l0_6 x18_1).f1)).size) = False := eq_false (Nat.not_lt.2 c21)); (try (have c21b3 := c21b2; simp only [ByteArray.size_append, show (⟨#[58]⟩ : ByteArray).size = 1 from rfl] at c21b3)); have H' := Aside0.mk H; clear H; have p104 : 0 ≤ (x18_1 : Int) := of_decide_eq_true pbb2_6; have q104 : x18_1 < (l0_6.length : Int) := of_decide_eq_true pbb2_6; obtain ⟨ad104, e104, hx104_0, hx104_1⟩ := up2 HB.out (at_T101 HR0_6.out x18_1 p104 q104)
            cases e104
            replace p104 := eq_true p104; replace q104 := eq_true q104; (try go_wp2_with (first | ((with_reducible refine gate_dst (N := 5) rfl ?_); refine box_event ?hg (N := 5) ?hd (cs := #[.string (⟨#[]⟩ : ByteArray), .string (⟨#[]⟩ : ByteArray)]) (t := 101) ?hr ?_; (case hd => rfl); (case hg => rfl); (case hr => first | (go_simp; done) | (go_simp; rfl)); intro gb105 hg w22 hbox hb; have BK105 := Aside0.mk (hbox); have GW105 := Aside0.mk ((by rw [hg]; exact (below_size pbb2_15) : w.heap.size ≤ gb105)); have GE105 := Aside0.mk ((by rw [hg]; exact (below_size pbb2_15) : w.heap.size ≤ gb105)); replace HB := Aside0.mk (below_step pbb2_15 hb); have NB101_105 := Aside0.mk ((by rw [hg]; exact Nat.ne_of_lt (blk_lt (g := gb101) (o := .cells #[.string a0_0, .string a0_1, .int .i64 a0_2, .int .i64 a0_3, .string a0_4, .string a0_5, .slice (some ad104) l0_6.length c0_6] 24 (0, 0)) pbb2_12) : gb101 ≠ gb105)); have NB105_101 := Aside0.mk ((by rw [hg]; exact Nat.ne_of_gt (blk_lt (g := gb101) (o := .cells #[.string a0_0, .string a0_1, .int .i64 a0_2, .int .i64 a0_3, .string a0_4, .string a0_5, .slice (some ad104) l0_6.length c0_6] 24 (0, 0)) pbb2_12) : gb105 ≠ gb101)); replace BK101 := Aside0.mk (blk_below (g := gb101) (o := .cells #[.string a0_0, .string a0_1, .int .i64 a0_2, .int .i64 a0_3, .string a0_4, .string a0_5, .slice (some ad104) l0_6.length c0_6] 24 (0, 0)) pbb2_12 hb); have NB102_105 := Aside0.mk ((by rw [hg]; exact Nat.ne_of_lt (blk_lt (g := gb102) (o := .cells #[.string (⟨#[]⟩ : ByteArray), .string (⟨#[]⟩ : ByteArray), .string (⟨#[]⟩ : ByteArray), .string (⟨#[]⟩ : ByteArray), .string (⟨#[]⟩ : ByteArray)] 89 (0, 0)) pbb2_14) : gb102 ≠ gb105)); have NB105_102 := Aside0.mk ((by rw [hg]; exact Nat.ne_of_gt (blk_lt (g := gb102) (o := .cells #[.string (⟨#[]⟩ : ByteArray), .string (⟨#[]⟩ : ByteArray), .string (⟨#[]⟩ : ByteArray), .string (⟨#[]⟩ : ByteArray), .string (⟨#[]⟩ : ByteArray)] 89 (0, 0)) pbb2_14) : gb105 ≠ gb102)); replace BK102 := Aside0.mk (blk_below (g := gb102) (o := .cells #[.string (⟨#[]⟩ : ByteArray), .string (⟨#[]⟩ : ByteArray), .string (⟨#[]⟩ : ByteArray), .string (⟨#[]⟩ : ByteArray), .string (⟨#[]⟩ : ByteArray)] 89 (0, 0)) pbb2_14 hb); have NB103_105 := Aside0.mk ((by rw [hg]; exact Nat.ne_of_lt (blk_lt (g := gb103) (o := .cells #[.string a0_0, .string a0_1, .string a0_4, .string a0_5, .string x104004_1] 89 (0, 0)) pbb2_16) : gb103 ≠ gb105)); have NB105_103 := Aside0.mk ((by rw [hg]; exact Nat.ne_of_gt (blk_lt (g := gb103) (o := .cells #[.string a0_0, .string a0_1, .string a0_4, .string a0_5, .string x104004_1] 89 (0, 0)) pbb2_16) : gb105 ≠ gb103)); replace BK103 := Aside0.mk (blk_below (g := gb103) (o := .cells #[.string a0_0, .string a0_1, .string a0_4, .string a0_5, .string x104004_1] 89 (0, 0)) pbb2_16 hb); clear hb hbox hg; have hnb23 := NB105_101.out; have hnc23 := NB101_105.out; have hnb24 := NB105_102.out; have hnc24 := NB102_105.out; have hnb25 := NB105_103.out; have hnc25 := NB103_105.out; obtain ⟨hcz26_0, hcz26_1⟩ := cz2 BK105.out; obtain ⟨hfz26_0, hfz26_1⟩ := fz2 BK105.out))); have n0_ : Aside0 (((w22.setCell ⟨gb105, 0, none⟩ (.string ((rd_T101 l0_6 x18_1).f0))).setCell ⟨gb105, 1, none⟩ (.string ((rd_T101 l0_6 x18_1).f1))).heap[gb101]? = some (.cells #[.string a0_0, .string a0_1, .int .i64 a0_2, .int .i64 a0_3, .string a0_4, .string a0_5, .slice (some ad104) l0_6.length c0_6] 24 (0, 0))) := ⟨by (with_reducible repeat (first | refine blk_drewN ?_ _ | refine blk_drew ?_ | refine blk_alloc ?_ _ | refine blk_far ?_ NB101_105.out _)); exact BK101.out⟩; have n1_ : Aside0 (((w22.setCell ⟨gb105, 0, none⟩ (.string ((rd_T101 l0_6 x18_1).f0))).setCell ⟨gb105, 1, none⟩ (.string ((rd_T101 l0_6 x18_1).f1))).heap[gb102]? = some (.cells #[.string (⟨#[]⟩ : ByteArray), .string (⟨#[]⟩ : ByteArray), .string (⟨#[]⟩ : ByteArray), .string (⟨#[]⟩ : ByteArray), .string (⟨#[]⟩ : ByteArray)] 89 (0, 0))) := ⟨by (with_reducible repeat (first | refine blk_drewN ?_ _ | refine blk_drew ?_ | refine blk_alloc ?_ _ | refine blk_far ?_ NB102_105.out _)); exact BK102.out⟩; have n2_ : Aside0 (((w22.setCell ⟨gb105, 0, none⟩ (.string ((rd_T101 l0_6 x18_1).f0))).setCell ⟨gb105, 1, none⟩ (.string ((rd_T101 l0_6 x18_1).f1))).heap[gb103]? = some (.cells #[.string a0_0, .string a0_1, .string a0_4, .string a0_5, .string x104004_1] 89 (0, 0))) := ⟨by (with_reducible repeat (first | refine blk_drewN ?_ _ | refine blk_drew ?_ | refine blk_alloc ?_ _ | refine blk_far ?_ NB103_105.out _)); exact BK103.out⟩; have n3_ : Aside0 (((w22.setCell ⟨gb105, 0, none⟩ (.string ((rd_T101 l0_6 x18_1).f0))).setCell ⟨gb105, 1, none⟩ (.string ((rd_T101 l0_6 x18_1).f1))).heap[gb105]? = some (.cells #[.string ((rd_T101 l0_6 x18_1).f0), .string ((rd_T101 l0_6 x18_1).f1)] 101 (0, 0))) := ⟨by (with_reducible repeat (first | refine blk_drewN ?_ _ | refine blk_drew ?_ | refine blk_alloc ?_ _)); refine blk_put (cs := #[.string ((rd_T101 l0_6 x18_1).f0), .string (⟨#[]⟩ : ByteArray)]) ?_ 1 _ rfl; (with_reducible repeat (first | refine blk_drewN ?_ _ | refine blk_drew ?_ | refine blk_alloc ?_ _)); refine blk_put (cs := #[.string (⟨#[]⟩ : ByteArray), .string (⟨#[]⟩ : ByteArray)]) ?_ 0 _ rfl; (with_reducible repeat (first | refine blk_drewN ?_ _ | refine blk_drew ?_ | refine blk_alloc ?_ _)); exact BK105.out⟩; have n4_ : Aside0 (Below w.heap.size w ((w22.setCell ⟨gb105, 0, none⟩ (.string ((rd_T101 l0_6 x18_1).f0))).setCell ⟨gb105, 1, none⟩ (.string ((rd_T101 l0_6 x18_1).f1)))) := ⟨pbb2_17⟩; (try clear BK101); (try clear BK102); (try clear BK103); (try clear BK105); (try clear HB); generalize ((w22.setCell ⟨gb105, 0, none⟩ (.string ((rd_T101 l0_6 x18_1).f0))).setCell ⟨gb105, 1, none⟩ (.string ((rd_T101 l0_6 x18_1).f1))) = w27 at n0_ n1_ n2_ n3_ n4_ ⊢; have BK101 := n0_; have BK102 := n1_; have BK103 := n2_; have BK105 := n3_; have HB := n4_; clear n0_ n1_ n2_ n3_ n4_; replace BK101 := Aside0.mk (blk_drew BK101.out); replace BK102 := Aside0.mk (blk_drew BK102.out); replace BK103 := Aside0.mk (blk_drew BK103.out); replace BK105 := Aside0.mk (blk_drew BK105.out); replace HB := Aside0.mk (below_drew1 HB.out); refine start_ (n := 22) (S := fun w' => w'.cell? ⟨gb103, 0, none⟩ = some (.string a0_0) ∧ w'.cell? ⟨gb103, 1, none⟩ = some (.string a0_1) ∧ w'.cell? ⟨gb103, 2, none⟩ = some (.string a0_4) ∧ w'.cell? ⟨gb103, 3, none⟩ = some (.string a0_5) ∧ w'.cell? ⟨gb103, 4, none⟩ = some (.string x104004_1) ∧ w'.cell? ⟨gb105, 0, none⟩ = some (.string ((rd_T101 l0_6 x18_1).f0)) ∧ w'.cell? ⟨gb105, 1, none⟩ = some (.string ((rd_T101 l0_6 x18_1).f1))) (ds := [21]) (bq 22 0) (by kernel_rfl) rfl rfl ⟨(blk_cell BK103.out 0).trans rfl, (blk_cell BK103.out 1).trans rfl, (blk_cell BK103.out 2).trans rfl, (blk_cell BK103.out 3).trans rfl, (blk_cell BK103.out 4).trans rfl, (blk_cell BK105.out 0).trans rfl, (blk_cell BK105.out 1).trans rfl⟩ (fun hHeld => ?_); refine with_tabW F54.tab5 F54.bits5 (fun HT_ HW_ => ?_); generalize w27.drew = w28 at BK101 BK102 BK103 BK105 HB hHeld ⊢; refine pv_ 0 22 (bq 22 1) HT_ ?_; refine pv_ 2 24 (bq 22 5) HT_ ?_; refine pv_ 7 29 (bq 22 133) HT_ ?_; refine pv_ 10 32 (bq 22 1157) HT_ ?_; refine pv_ 16 38 (bq 22 66693) HT_ ?_; refine take_ (i := 1) (N := some 23) (v := ?_) (a' := ?_) (bq 22 66695) rfl rfl (take_ofW HT_.out HW_.out (by kernel_rfl)) (fun _ _ _ h => h) (Or.inl ⟨by rfl, ?_⟩) hHeld ?_ ?_; rotate_left
            ·rintro w' ⟨s0, s1, s2, s3, s4, s5, s6⟩; go_simp; (with_reducible rfl)
            rotate_left
            ·exact cbb2_0
            refine take_ (i := 3) (N := some 25) (v := ?_) (a' := ?_) (bq 22 66703) rfl rfl (take_ofW HT_.out HW_.out (by kernel_rfl)) (fun _ _ _ h => h) (Or.inl ⟨by rfl, ?_⟩) hHeld ?_ ?_; rotate_left
            ·rintro w' ⟨s0, s1, s2, s3, s4, s5, s6⟩; go_simp; (with_reducible rfl)
            rotate_left
            ·exact cbb2_0
            refine pv_ 4 26 (bq 22 66719) HT_ ?_; refine take_ (i := 8) (N := some 30) (v := ?_) (a' := ?_) (bq 22 66975) rfl rfl (take_ofW HT_.out HW_.out (by kernel_rfl)) (fun _ _ _ h => h) (Or.inl ⟨by rfl, ?_⟩) hHeld ?_ ?_; rotate_left
            ·rintro w' ⟨s0, s1, s2, s3, s4, s5, s6⟩; go_simp; (with_reducible rfl)
            rotate_left
            ·exact cbb2_0
            refine take_ (i := 11) (N := some 33) (v := ?_) (a' := ?_) (bq 22 69023) rfl rfl (take_ofW HT_.out HW_.out (by kernel_rfl)) (fun _ _ _ h => h) (Or.inl ⟨by rfl, ?_⟩) hHeld ?_ ?_; rotate_left
            ·rintro w' ⟨s0, s1, s2, s3, s4, s5, s6⟩; go_simp; (with_reducible rfl)
            rotate_left
            ·exact cbb2_0
            refine pv_ 12 34 (bq 22 73119) HT_ ?_; refine take_ (i := 17) (N := some 39) (v := ?_) (a' := ?_) (bq 22 204191) rfl rfl (take_ofW HT_.out HW_.out (by kernel_rfl)) (fun _ _ _ h => h) (Or.inl ⟨by rfl, ?_⟩) hHeld ?_ ?_; rotate_left
            ·rintro w' ⟨s0, s1, s2, s3, s4, s5, s6⟩; go_simp; (with_reducible rfl)
            rotate_left
            ·exact cbb2_0
            refine one_ (i := 5) (N := some 27) (bq 22 204223) rfl rfl (one_of HT_.out (by kernel_rfl)) (by decide) (fun K hK => ?_); refine goes_ Tryd.func75 (by kernel_rfl) rfl #[.int .i64 (((rd_T101 l0_6 x18_1).f0).size : Int)] (by rfl) rfl rfl pbb2_5 ?_; (with_reducible refine (F75.calls (((rd_T101 l0_6 x18_1).f0).size : Int) t106 _ A14.out).mono ?_); rintro e w29 ⟨rfl, hb⟩; refine ⟨_, rfl, ?_⟩; replace BK101 := Aside0.mk (blk_below (g := gb101) (o := .cells #[.string a0_0, .string a0_1, .int .i64 a0_2, .int .i64 a0_3, .string a0_4, .string a0_5, .slice (some ad104) l0_6.length c0_6] 24 (0, 0)) pbb2_12 hb); replace BK102 := Aside0.mk (blk_below (g := gb102) (o := .cells #[.string (⟨#[]⟩ : ByteArray), .string (⟨#[]⟩ : ByteArray), .string (⟨#[]⟩ : ByteArray), .string (⟨#[]⟩ : ByteArray), .string (⟨#[]⟩ : ByteArray)] 89 (0, 0)) pbb2_14 hb); replace BK103 := Aside0.mk (blk_below (g := gb103) (o := .cells #[.string a0_0, .string a0_1, .string a0_4, .string a0_5, .string x104004_1] 89 (0, 0)) pbb2_16 hb); replace BK105 := Aside0.mk (blk_below (g := gb105) (o := .cells #[.string ((rd_T101 l0_6 x18_1).f0), .string ((rd_T101 l0_6 x18_1).f1)] 101 (0, 0)) (by (with_reducible repeat (first | refine blk_drewN ?_ _ | refine blk_drew ?_ | refine blk_alloc ?_ _)); exact BK105.out) hb); replace HB := Aside0.mk (below_step pbb2_17 hb); (try clear hb); (try clear hb2); (try clear hk); (try clear hi); refine hK.out _ _ ⟨(blk_cell BK103.out 0).trans rfl, (blk_cell BK103.out 1).trans rfl, (blk_cell BK103.out 2).trans rfl, (blk_cell BK103.out 3).trans rfl, (blk_cell BK103.out 4).trans rfl, (blk_cell BK105.out 0).trans rfl, (blk_cell BK105.out 1).trans rfl⟩ (fun hHeld => ?_); clear hK K; refine norm_ (a' := ?_) ?_ ?_; rotate_left
            ·show Act.put _ (some 27) _ = _; simp only [Act.put, List.setIfInBounds_toArray, List.set_cons_zero, List.set_cons_succ, i64_w, i32_w]
             rfl
            refine pv_ 6 28 (bq 22 204287) HT_ ?_; refine pv_ 9 31 (bq 22 204799) HT_ ?_; refine one_ (i := 13) (N := some 35) (bq 22 212991) rfl rfl (one_of HT_.out (by kernel_rfl)) (by decide) (fun K hK => ?_); refine goes_ Tryd.func75 (by kernel_rfl) rfl #[.int .i64 (((rd_T101 l0_6 x18_1).f1).size : Int)] (by rfl) rfl rfl pbb2_5 ?_; (with_reducible refine (F75.calls (((rd_T101 l0_6 x18_1).f1).size : Int) t107 _ A17.out).mono ?_); rintro e w30 ⟨rfl, hb⟩; refine ⟨_, rfl, ?_⟩; replace BK101 := Aside0.mk (blk_below (g := gb101) (o := .cells #[.string a0_0, .string a0_1, .int .i64 a0_2, .int .i64 a0_3, .string a0_4, .string a0_5, .slice (some ad104) l0_6.length c0_6] 24 (0, 0)) pbb2_12 hb); replace BK102 := Aside0.mk (blk_below (g := gb102) (o := .cells #[.string (⟨#[]⟩ : ByteArray), .string (⟨#[]⟩ : ByteArray), .string (⟨#[]⟩ : ByteArray), .string (⟨#[]⟩ : ByteArray), .string (⟨#[]⟩ : ByteArray)] 89 (0, 0)) pbb2_14 hb); replace BK103 := Aside0.mk (blk_below (g := gb103) (o := .cells #[.string a0_0, .string a0_1, .string a0_4, .string a0_5, .string x104004_1] 89 (0, 0)) pbb2_16 hb); replace BK105 := Aside0.mk (blk_below (g := gb105) (o := .cells #[.string ((rd_T101 l0_6 x18_1).f0), .string ((rd_T101 l0_6 x18_1).f1)] 101 (0, 0)) (by (with_reducible repeat (first | refine blk_drewN ?_ _ | refine blk_drew ?_ | refine blk_alloc ?_ _)); exact BK105.out) hb); replace HB := Aside0.mk (below_step pbb2_17 hb); (try clear hb); (try clear hb2); (try clear hk); (try clear hi); refine hK.out _ _ ⟨(blk_cell BK103.out 0).trans rfl, (blk_cell BK103.out 1).trans rfl, (blk_cell BK103.out 2).trans rfl, (blk_cell BK103.out 3).trans rfl, (blk_cell BK103.out 4).trans rfl, (blk_cell BK105.out 0).trans rfl, (blk_cell BK105.out 1).trans rfl⟩ (fun hHeld => ?_); clear hK K; refine norm_ (a' := ?_) ?_ ?_; rotate_left
            ·show Act.put _ (some 35) _ = _; simp only [Act.put, List.setIfInBounds_toArray, List.set_cons_zero, List.set_cons_succ, i64_w, i32_w]
             rfl
            refine pv_ 14 36 (bq 22 229375) HT_ ?_; refine pv_ 15 37 (bq 22 262143) HT_ ?_; refine pv_ 18 40 (bq 22 524287) HT_ ?_; refine pv_ 19 41 (bq 22 1048575) HT_ ?_; refine pv_ 20 42 (bq 22 2097151) HT_ ?_; refine last_ (i := 21) (N := none) (bq 22 4194303) rfl rfl (one_of HT_.out (by kernel_rfl)) (by decide) (fun K hK => ?_); have hs31 : w30.cell? ⟨gb103, 4, none⟩ = some (.string x104004_1) := (blk_cell BK103.out 4).trans rfl; have hfs31 := blk_frozen BK103.out 4; have hns31_0 := NB101_103.out; have hns31_1 := NB102_103.out; have hns31_3 := NB105_103.out; have hms31_0 := NB103_101.out; have hms31_1 := NB103_102.out; have hms31_3 := NB103_105.out; refine skip_ (w1 := ?_) (by rfl) rfl ?_ ?_; rotate_left
            ·go_simp
             rfl
            refine hK.out _ _ ?_; clear hK K; refine done_ (done_of HT_.out (by kernel_rfl)) ?_; (try go_wp2)
            go_roundg k1
            case measure => have := HK1.out; omega
            case rel => exact ⟨(wrap64 (x18_1 + 1)), (x104004_1 ++ (((((t106 ++ (⟨#[58]⟩ : ByteArray)) ++ ((rd_T101 l0_6 x18_1).f0)) ++ t107) ++ (⟨#[58]⟩ : ByteArray)) ++ ((rd_T101 l0_6 x18_1).f1))), pbb2_3, H', ⟨pbb2_7⟩, ⟨by (with_reducible repeat (first | refine blk_drewN ?_ _ | refine blk_drew ?_ | refine blk_alloc ?_ _)); refine blk_far ?_ NB101_103.out _; (with_reducible repeat (first | refine blk_drewN ?_ _ | refine blk_drew ?_ | refine blk_alloc ?_ _)); exact BK101.out⟩, ⟨by (with_reducible repeat (first | refine blk_drewN ?_ _ | refine blk_drew ?_ | refine blk_alloc ?_ _)); refine blk_far ?_ NB102_103.out _; (with_reducible repeat (first | refine blk_drewN ?_ _ | refine blk_drew ?_ | refine blk_alloc ?_ _)); exact BK102.out⟩, ⟨by (with_reducible repeat (first | refine blk_drewN ?_ _ | refine blk_drew ?_ | refine blk_alloc ?_ _)); refine blk_put (cs := #[.string a0_0, .string a0_1, .string a0_4, .string a0_5, .string x104004_1]) ?_ 4 _ rfl; (with_reducible repeat (first | refine blk_drewN ?_ _ | refine blk_drew ?_ | refine blk_alloc ?_ _)); exact BK103.out⟩, ⟨pbb2_17⟩⟩
           ·rw [if_neg c21] at H; exact absurd H (by simp)
          ·rw [if_neg c20] at H; exact absurd H (by simp)
         ·rw [if_neg c19] at H; exact absurd H (by simp)
        ·rw [if_neg c18] at H; exact absurd H (by simp)
       ·rw [if_neg c16] at H; exact absurd H (by simp)
      ·rw [if_neg c15] at H; exact absurd H (by simp)
     ·rw [if_neg c13] at H; exact absurd H (by simp)
    ·rw [if_neg c12] at H; exact absurd H (by simp)
   ·rw [if_neg c11] at H; have c11b0 := decide_eq_false c11; clear c11; simp only [Option.some.injEq, Prod.mk.injEq] at H; obtain ⟨rfl, rfl, rfl, rfl, rfl⟩ := H; have hnb32 := NB103_101.out; have hnc32 := NB101_103.out; have hnb33 := NB103_102.out; have hnc33 := NB102_103.out; obtain ⟨hcz34_0, hcz34_1, hcz34_2, hcz34_3, hcz34_4⟩ := cz5 BK103.out; obtain ⟨hfz34_0, hfz34_1, hfz34_2, hfz34_3, hfz34_4⟩ := fz5 BK103.out; have hnb35 := NB102_101.out; have hnc35 := NB101_102.out; obtain ⟨hcz36_0, hcz36_1, hcz36_2, hcz36_3, hcz36_4⟩ := cz5 BK102.out; obtain ⟨hfz36_0, hfz36_1, hfz36_2, hfz36_3, hfz36_4⟩ := fz5 BK102.out
    go_wp2
    refine bodyPost_ret (results_cell_row rfl _ _ gb102 89 #[.string a0_0, .string a0_1, .string a0_4, .string a0_5, .string x104004_1] (0, 0) _ rfl (by (with_reducible repeat (first | refine blk_drewN ?_ _ | refine blk_drew ?_ | refine blk_alloc ?_ _)); refine blk_put (cs := #[.string a0_0, .string a0_1, .string a0_4, .string a0_5, .string (⟨#[]⟩ : ByteArray)]) ?_ 4 _ rfl; (with_reducible repeat (first | refine blk_drewN ?_ _ | refine blk_drew ?_ | refine blk_alloc ?_ _)); refine blk_put (cs := #[.string a0_0, .string a0_1, .string a0_4, .string (⟨#[]⟩ : ByteArray), .string (⟨#[]⟩ : ByteArray)]) ?_ 3 _ rfl; (with_reducible repeat (first | refine blk_drewN ?_ _ | refine blk_drew ?_ | refine blk_alloc ?_ _)); refine blk_put (cs := #[.string a0_0, .string a0_1, .string (⟨#[]⟩ : ByteArray), .string (⟨#[]⟩ : ByteArray), .string (⟨#[]⟩ : ByteArray)]) ?_ 2 _ rfl; (with_reducible repeat (first | refine blk_drewN ?_ _ | refine blk_drew ?_ | refine blk_alloc ?_ _)); refine blk_put (cs := #[.string a0_0, .string (⟨#[]⟩ : ByteArray), .string (⟨#[]⟩ : ByteArray), .string (⟨#[]⟩ : ByteArray), .string (⟨#[]⟩ : ByteArray)]) ?_ 1 _ rfl; (with_reducible repeat (first | refine blk_drewN ?_ _ | refine blk_drew ?_ | refine blk_alloc ?_ _)); refine blk_put (cs := #[.string (⟨#[]⟩ : ByteArray), .string (⟨#[]⟩ : ByteArray), .string (⟨#[]⟩ : ByteArray), .string (⟨#[]⟩ : ByteArray), .string (⟨#[]⟩ : ByteArray)]) ?_ 0 _ rfl; (with_reducible repeat (first | refine blk_drewN ?_ _ | refine blk_drew ?_ | refine blk_alloc ?_ _)); exact BK102.out) Tryd.underlying89 rfl (by kernel_rfl)) rfl ?_; exact ⟨pbb2_18, pbb2_15⟩
end Go.Proofs.YtjeecehhcajfaaaDoor.M
end
section
namespace Go.Proofs.YtjeecehhcajfaaaDoor.M
open Go.RowKit Go.Proofs.YtjeecehhcajfaaaDoorW.PrintWords Go.Proofs.YtjeecehhcajfaaaDoorW.PrintLast Go.Proofs.YtjeecehhcajfaaaDoorW.PrintMore
set_option linter.unusedVariables false
set_option linter.unusedSimpArgs false
def lenT (n : Nat) : ByteArray := ⟨(digL 19 n []).toArray⟩
def colon : ByteArray := ⟨#[58]⟩
def tagT (t : S101) : ByteArray := ((((lenT t.f0.size ++ colon) ++ t.f0) ++ lenT t.f1.size) ++ colon) ++ t.f1
def tagsT (l : List S101) : ByteArray := l.foldl (fun a t => a ++ tagT t) ⟨#[]⟩
abbrev Key := ByteArray × ByteArray × ByteArray × ByteArray × ByteArray
def keyL (x : S24) : Key := (x.f0, x.f1, x.f4, x.f5, tagsT x.f6)
def okTags (l : List S101) : Prop := l.length ≤ 1000 ∧ ∀ t ∈ l, t.f0.size ≤ 1000000000000000 ∧ t.f1.size ≤ 1000000000000000
instance (l : List S101) : Decidable (okTags l) := by unfold okTags; infer_instance
theorem digL_len : ∀ (k m : Nat) (acc : List UInt8), (digL k m acc).length ≤ k + acc.length
 | 0, _, _ => by simp [digL]
 | k + 1, m, acc => by
  unfold digL
  by_cases c : m / 10 = 0
  ·rw [if_pos c]; simp; omega
  ·rw [if_neg c]; have := digL_len k (m / 10) (UInt8.ofNat (48 + m % 10) :: acc); simp only [List.length_cons] at this
   omega
theorem lenT_size (n : Nat) : (lenT n).size ≤ 19 := by
 have := digL_len 19 n []; show (digL 19 n []).toArray.size ≤ 19
 simpa using this
theorem text_len {n : Nat} (h : n ≤ 1000000000000000) : F75.f (n : Int) = some (lenT n) := by
 unfold F75.f
 rw [if_pos (by omega), Int.toNat_natCast]
 rfl
theorem cat_sizes (A B x y : ByteArray) (hA : A.size ≤ 19) (hB : B.size ≤ 19) (hx : x.size ≤ 1000000000000000) (hy : y.size ≤ 1000000000000000) : A.size + 1 ≤ 9223372036854775807 ∧ (A ++ (⟨#[58]⟩ : ByteArray)).size + x.size ≤ 9223372036854775807 ∧ ((A ++ (⟨#[58]⟩ : ByteArray)) ++ x).size + B.size ≤ 9223372036854775807 ∧ (((A ++ (⟨#[58]⟩ : ByteArray)) ++ x) ++ B).size + 1 ≤ 9223372036854775807 ∧ ((((A ++ (⟨#[58]⟩ : ByteArray)) ++ x) ++ B) ++ (⟨#[58]⟩ : ByteArray)).size + y.size ≤ 9223372036854775807 ∧ (((((A ++ (⟨#[58]⟩ : ByteArray)) ++ x) ++ B) ++ (⟨#[58]⟩ : ByteArray)) ++ y).size ≤ 2000000000000100 := by
 have hcs : (⟨#[58]⟩ : ByteArray).size = 1 := rfl; simp only [ByteArray.size_append, hcs]
 omega
theorem acc_sizes (acc T : ByteArray) (i : Nat) (hi : i ≤ 999) (hs : acc.size ≤ i * 2000000000000100) (hT : T.size ≤ 2000000000000100) : acc.size + T.size ≤ 9223372036854775807 ∧ (acc ++ T).size ≤ (i + 1) * 2000000000000100 := by
 rw [ByteArray.size_append]
 omega
theorem keyOf_l0 (l : List S101) (hl : okTags l) (a b c d : ByteArray) : ∀ (n : Nat) (i : Nat) (acc : ByteArray), i + n = l.length → acc.size ≤ i * 2000000000000100 → F54.l0 (n + 1) l (l.length : Int) (i : Int) a b c d acc = some (a, b, c, d, (l.drop i).foldl (fun a t => a ++ tagT t) acc)
 | 0, i, acc, hi, hs => by
  unfold F54.l0
  rw [if_neg (by omega), List.drop_eq_nil_of_le (by omega)]
  rfl
 | n + 1, i, acc, hi, hs => by
  have hlt : i < l.length := by omega
  have hrd : rd_T101 l (i : Int) = l[i] := by simp [rd_T101, hlt]
  have hm := hl.2 l[i] (List.getElem_mem hlt); have hi2 : i ≤ 999 := by have := hl.1; omega
  have hw : wrap64 ((i : Int) + 1) = ((i + 1 : Nat) : Int) := by unfold wrap64; omega
  have g1 : (i : Int) < (l.length : Int) := by omega
  have g0 : 0 ≤ (i : Int) := by omega
  have hin : i + 1 + n = l.length := by omega
  obtain ⟨z1, z2, z3, z4, z5, z6⟩ := cat_sizes (lenT l[i].f0.size) (lenT l[i].f1.size) l[i].f0 l[i].f1 (lenT_size _) (lenT_size _) hm.1 hm.2; obtain ⟨z7, z8⟩ := acc_sizes acc (tagT l[i]) i hi2 hs z6; have ih := keyOf_l0 l hl a b c d n (i + 1) (acc ++ tagT l[i]) hin z8
  unfold F54.l0
  rw [if_pos g1, if_pos g0, if_pos g1, hrd, text_len hm.1, Option.bind_some, if_pos z1, if_pos z2, text_len hm.2, Option.bind_some, if_pos z3, if_pos z4, if_pos z5]; rw [List.drop_eq_getElem_cons hlt, List.foldl_cons]; refine (if_pos z7).trans ?_; rw [hw]; exact ih
theorem keyOf_total (x : S24) (hl : okTags x.f6) : F54.f (x.f6.length + 1) x.f0 x.f1 x.f2 x.f3 x.f4 x.f5 x.f6 = some (keyL x) := by
 unfold F54.f
 have := keyOf_l0 x.f6 hl x.f0 x.f1 x.f4 x.f5 x.f6.length 0 ⟨#[]⟩ (by omega) (by show 0 ≤ _; omega)
 simpa [keyL, tagsT] using this
end Go.Proofs.YtjeecehhcajfaaaDoor.M
end
section
namespace Go.Proofs.YtjeecehhcajfaaaDoorW.PrintLast
open Go.RowKit Go.Proofs.YtjeecehhcajfaaaDoorW.PrintWords
section
variable {P : Program} {α β : Type}
structure Opens (P : Program) (d : Kd α) (t : TypeId) (G : α → Prop) : Prop where
  get : ∀ {H : Type} (enc : TypeId × Value → H) (W : World) (base : Nat) (sp : Nat → Bool) (held : Bool) (fuel : Nat) (cs : List Value) (x : DataW H × List MemPlace), DataW.trod enc P W base sp held fuel t cs = some x → (∀ n ∈ DataW.weights P t x.1, n ≤ reachBytes) → ∃ a : α, d.K W a cs ∧ G a
theorem Opens.imp {d : Kd α} {t : TypeId} {G G' : α → Prop} (h : Opens P d t G) (hg : ∀ a, G a → G' a) : Opens P d t G' :=
  ⟨fun enc W base sp held fuel cs x hx hw => let ⟨a, h1, h2⟩ := h.get enc W base sp held fuel cs x hx hw; ⟨a, h1, hg a h2⟩⟩
theorem Opens.int {t : TypeId} {k : IntKind} (ht : P.underlying t = some (.int k)) : Opens P (Kd.int k) t (fun n => (Lit.int k n).wf = true) :=
  ⟨fun enc W base sp held fuel cs x hx hw => by
    obtain ⟨n, rfl, _, h⟩ := DataW.trod_int ht hx; exact ⟨n, rfl, h⟩⟩
theorem Opens.bool {t : TypeId} (ht : P.underlying t = some .bool) : Opens P Kd.bool t (fun _ => True) :=
  ⟨fun enc W base sp held fuel cs x hx hw => by
    obtain ⟨n, rfl, _⟩ := DataW.trod_bool ht hx; exact ⟨n, rfl, trivial⟩⟩
theorem Opens.string {t : TypeId} (ht : P.underlying t = some .string) : Opens P Kd.string t (fun s => s.size ≤ 140737488351232) :=
  ⟨fun enc W base sp held fuel cs x hx hw => by
    obtain ⟨s, rfl, rfl, h⟩ := DataW.trod_string ht hx; have := hw s.data.toList.length (by simp [DataW.weights]); rw [Array.length_toList] at this; exact ⟨s, rfl, this⟩⟩
theorem list_of {Q : Nat → α → Prop} : ∀ n : Nat, (∀ i, i < n → ∃ a, Q i a) → ∃ xs : List α, xs.length = n ∧ ∀ i a, xs[i]? = some a → Q i a
  | 0, _ => ⟨[], rfl, fun i a h => by simp at h⟩
  | n + 1, h => by
    obtain ⟨xs, hl, hx⟩ := list_of n (fun i hi => h i (by omega)); obtain ⟨a, ha⟩ := h n (by omega); refine ⟨xs ++ [a], by simp [hl], fun i b hb => ?_⟩
    by_cases hi : i < n
    · rw [List.getElem?_append_left (by omega)] at hb; exact hx i b hb
    · have hi2 : i < n + 1 := by have := (List.getElem?_eq_some_iff.1 hb).1; simp [hl] at this; exact this
      obtain rfl : i = n := by omega
      rw [List.getElem?_append_right (by omega), hl] at hb
      simp at hb
      subst hb; exact ha
theorem Opens.slice {d : Kd α} {t e : TypeId} {G : α → Prop} (ht : P.underlying t = some (.slice e)) (h : Opens P d e G) (hc : P.cellsOf e = d.sz) {b : Nat} (hb : P.bytesOf e = b) : Opens P (Kd.slice e d) t (fun xs => xs.length * b ≤ 140737488351232 ∧ ∀ x ∈ xs, G x) :=
  ⟨fun {H} enc W base sp held fuel cs x hx hw => by
    rcases DataW.trod_slice ht hx with ⟨rfl, rfl⟩ | ⟨a, len, cap, elems, rest, n, rfl, rfl, rfl, hba, hl, hm, hlen, hel, _, _⟩
    · exact ⟨[], ⟨none, 0, rfl, Nat.le_refl _, rfl, by simp, fun h => absurd h (Nat.lt_irrefl 0)⟩, by simp, fun _ h => by simp at h⟩
    · simp only [DataW.weights, ht] at hw; have hw0 := hw _ (List.mem_cons_self ..)
      have each : ∀ i, i < len → ∃ y : α, (∃ c : List Value, c.length = d.sz ∧ d.K W y c ∧ ∀ j u, c[j]? = some u → W.cell? (a.add (i * d.sz + j)) = some u) ∧ G y := by
        intro i hi; have h1 := hel i hi; rw [List.getElem?_eq_getElem (by omega)] at h1; obtain ⟨c, hcs, h2⟩ := Option.bind_eq_some_iff.1 h1; obtain ⟨_, hcl, hcc⟩ := World.cells?_some hcs
        obtain ⟨y, hk, hg⟩ := h.get enc W base sp held n c _ h2 (fun m hm => hw m (List.mem_cons_of_mem _ (List.mem_append_left _ (by
          have : ∀ (l : List (DataW H)) (z : DataW H), z ∈ l → ∀ m ∈ DataW.weights P e z, m ∈ DataW.weightsAll P e l := by
            intro l z hz m hm
            induction l with
            | nil => simp at hz
            | cons y l ih =>
              simp only [DataW.weightsAll, List.mem_append]
              rcases List.mem_cons.1 hz with rfl | hz
              · exact .inl hm
              · exact .inr (ih hz)
          exact this _ _ (List.mem_map.2 ⟨_, List.getElem_mem (by omega), rfl⟩) m hm))))
        refine ⟨y, ⟨c, by rw [hcl, hc], hk, fun j u hu => ?_⟩, hg⟩; have hj : j < c.length := (List.getElem?_eq_some_iff.1 hu).1; rw [hc] at hcc; have := hcc j (by omega); rw [add_add] at this; rw [this, hu]
      obtain ⟨ys, hyl, hy⟩ := list_of len each; refine ⟨ys, ⟨some a, cap, by rw [hyl], by omega, rfl, ?_, fun _ => ⟨a, rfl, fun j p hj => (hy j p hj).1⟩⟩, ?_, fun y hy' => ?_⟩
      · unfold maxLen at hm; omega
      · rw [hyl]; have h2 : (elems.map (·.1)).length + (rest.map (·.1)).length ≥ len := by simp; omega
        have h3 : len * b ≤ ((elems.map (·.1)).length + (rest.map (·.1)).length) * P.bytesOf e := by rw [hb]; exact Nat.mul_le_mul_right _ h2
        exact Nat.le_trans h3 hw0
      · obtain ⟨j, hj⟩ := List.getElem?_of_mem hy'; exact (hy j y hj).2⟩
theorem Opens.iso {d : Kd α} {t : TypeId} {G : α → Prop} (h : Opens P d t G) (f : β → α) (g : α → β) (hg : ∀ a, f (g a) = a) : Opens P (Kd.iso d f) t (fun b => G (f b)) :=
  ⟨fun enc W base sp held fuel cs x hx hw => let ⟨a, h1, h2⟩ := h.get enc W base sp held fuel cs x hx hw; ⟨g a, by show d.K W (f (g a)) cs; rw [hg]; exact h1, by rw [hg]; exact h2⟩⟩
structure FOpens (P : Program) (d : Kd α) (fs : List Field) (o : Nat) (G : α → Prop) : Prop where
  get : ∀ {H : Type} (enc : TypeId × Value → H) (W : World) (base : Nat) (sp : Nat → Bool) (held : Bool) (n : Nat) (cs : List Value) (xs : List (DataW H × List MemPlace)), o + d.sz = cs.length → xs.length = fs.length →
    (∀ (i : Nat) (f : Field), fs[i]? = some f → DataW.trod enc P W base sp held n f.type ((cs.drop f.offset).take (P.cellsOf f.type)) = xs[i]?) → (∀ m ∈ DataW.weightsEach P (fs.map (·.type)) (xs.map (·.1)), m ≤ reachBytes) → ∃ a : α, d.K W a (cs.drop o) ∧ G a
theorem FOpens.one {d : Kd α} {f : Field} {o : Nat} {G : α → Prop} (h : Opens P d f.type G) (ho : f.offset = o) (hs : P.cellsOf f.type = d.sz) : FOpens P d [f] o G :=
  ⟨fun enc W base sp held n cs xs hl hx ht hw => by
    obtain ⟨x, rfl⟩ := List.length_eq_one_iff.1 hx; have h1 := ht 0 f rfl; rw [ho, hs, List.take_of_length_le (by simp; omega)] at h1; exact h.get enc W base sp held n _ x h1 (fun m hm => hw m (by simpa [DataW.weightsEach] using hm))⟩
theorem FOpens.cons {d : Kd α} {d2 : Kd β} {f : Field} {fs : List Field} {o : Nat} {G : α → Prop} {G2 : β → Prop} (h : Opens P d f.type G) (ho : f.offset = o) (hs : P.cellsOf f.type = d.sz) (hr : FOpens P d2 fs (o + d.sz) G2) : FOpens P (Kd.pair d d2) (f :: fs) o (fun p => G p.1 ∧ G2 p.2) :=
  ⟨fun enc W base sp held n cs xs hl hx ht hw => by
    cases xs with
    | nil => simp at hx
    | cons x xs =>
      have h1 := ht 0 f rfl; simp only [List.getElem?_cons_zero] at h1; rw [ho, hs] at h1; have e : o + (Kd.pair d d2).sz = o + d.sz + d2.sz := by show o + (d.sz + d2.sz) = _; omega
      obtain ⟨a, ha, hga⟩ := h.get enc W base sp held n _ x h1 (fun m hm => hw m (by simp only [List.map_cons, DataW.weightsEach, List.mem_append]; exact .inl hm)); obtain ⟨b, hb, hgb⟩ := hr.get enc W base sp held n cs xs (by omega) (by simpa using hx) (fun i f' hf => by simpa using ht (i + 1) f' (by simpa using hf)) (fun m hm => hw m (by simp only [List.map_cons, DataW.weightsEach, List.mem_append]; exact .inr hm)); refine ⟨(a, b), ⟨_, _, ?_, ha, hb⟩, hga, hgb⟩; rw [← List.drop_drop, List.take_append_drop]⟩
theorem Opens.struct {d : Kd α} {t : TypeId} {fs : Array Field} {G : α → Prop} (ht : P.underlying t = some (.struct fs)) (hs : P.cellsOf t = d.sz) (h : FOpens P d fs.toList 0 G) : Opens P d t G :=
  ⟨fun enc W base sp held fuel cs x hx hw => by
    obtain ⟨xs, n, rfl, rfl, hl, hxl, hi⟩ := DataW.trod_struct ht hx; simp only [DataW.weights, ht] at hw; have := h.get enc W base sp held n cs xs (by omega) (by simpa using hxl) (fun i f hf => hi i f (by simpa using hf)) hw
    simpa using this⟩
theorem weights_at {H : Type} {ts : List TypeId} {ds : List (DataW H)} (h : (DataW.weightsEach P ts ds).all (· ≤ reachBytes) = true) {j : Nat} {t : TypeId} {d : DataW H} (ht : ts[j]? = some t) (hd : ds[j]? = some d) : ∀ n ∈ DataW.weights P t d, n ≤ reachBytes :=
  fun n hn => by simpa using List.all_eq_true.1 h _ (DataW.weights_mem_each ht hd n hn)
end
end Go.Proofs.YtjeecehhcajfaaaDoorW.PrintLast
end
section
namespace Go.Proofs.YtjeecehhcajfaaaDoor.M
open Go.RowKit Go.Proofs.YtjeecehhcajfaaaDoorW.PrintWords Go.Proofs.YtjeecehhcajfaaaDoorW.PrintLast Go.Proofs.YtjeecehhcajfaaaDoorW.PrintMore
attribute [local go_sem] max2_int min2_int max_two min_two max_three min_three max_four min_four
set_option linter.unusedVariables false
set_option linter.unusedSimpArgs false
def G101 (x_ : S101) : Prop := (x_.f0.size ≤ 140737488351232) ∧ (x_.f1.size ≤ 140737488351232)
theorem opens101 : Opens Tryd.prog k101 101 G101 :=
  Opens.imp (Opens.iso (Opens.struct Tryd.underlying101 (by kernel_rfl) (FOpens.cons (Opens.string Tryd.underlying9) rfl (by kernel_rfl) (FOpens.one (Opens.string Tryd.underlying9) rfl (by kernel_rfl)))) (fun x : S101 => (x.f0, x.f1)) (fun p => (⟨p.1, p.2⟩ : S101)) (fun _ => rfl)) (fun _ h => h)
def G24 (x_ : S24) : Prop := (x_.f0.size ≤ 140737488351232) ∧ ((x_.f1.size ≤ 140737488351232) ∧ (((Lit.int .i64 x_.f2).wf = true) ∧ (((Lit.int .i64 x_.f3).wf = true) ∧ ((x_.f4.size ≤ 140737488351232) ∧ ((x_.f5.size ≤ 140737488351232) ∧ (x_.f6.length * 32 ≤ 140737488351232 ∧ ∀ y0_ ∈ x_.f6, G101 y0_))))))
theorem opens24 : Opens Tryd.prog k24 24 G24 :=
  Opens.imp (Opens.iso (Opens.struct Tryd.underlying24 (by kernel_rfl) (FOpens.cons (Opens.string Tryd.underlying9) rfl (by kernel_rfl) (FOpens.cons (Opens.string Tryd.underlying9) rfl (by kernel_rfl) (FOpens.cons (Opens.int Tryd.underlying3) rfl (by kernel_rfl) (FOpens.cons (Opens.int Tryd.underlying3) rfl (by kernel_rfl) (FOpens.cons (Opens.string Tryd.underlying9) rfl (by kernel_rfl) (FOpens.cons (Opens.string Tryd.underlying9) rfl (by kernel_rfl) (FOpens.one (Opens.slice Tryd.underlying22 opens101 (by kernel_rfl) (b := 32) (by kernel_rfl)) rfl (by kernel_rfl))))))))) (fun x : S24 => (x.f0, x.f1, x.f2, x.f3, x.f4, x.f5, x.f6)) (fun p => (⟨p.1, p.2.1, p.2.2.1, p.2.2.2.1, p.2.2.2.2.1, p.2.2.2.2.2.1, p.2.2.2.2.2.2⟩ : S24)) (fun _ => rfl)) (fun _ h => h)
def G33 (x_ : S33) : Prop := ((Lit.int .i64 x_.f0).wf = true) ∧ ((x_.f1.size ≤ 140737488351232) ∧ (((Lit.int .i64 x_.f2).wf = true) ∧ (((Lit.int .i64 x_.f3).wf = true) ∧ (((Lit.int .i64 x_.f4).wf = true) ∧ ((x_.f5.size ≤ 140737488351232) ∧ ((x_.f6.size ≤ 140737488351232) ∧ (((Lit.int .i64 x_.f7).wf = true) ∧ (x_.f8.length * 104 ≤ 140737488351232 ∧ ∀ y0_ ∈ x_.f8, G24 y0_))))))))
theorem opens33 : Opens Tryd.prog k33 33 G33 :=
  Opens.imp (Opens.iso (Opens.struct Tryd.underlying33 (by kernel_rfl) (FOpens.cons (Opens.int Tryd.underlying3) rfl (by kernel_rfl) (FOpens.cons (Opens.string Tryd.underlying9) rfl (by kernel_rfl) (FOpens.cons (Opens.int Tryd.underlying3) rfl (by kernel_rfl) (FOpens.cons (Opens.int Tryd.underlying3) rfl (by kernel_rfl) (FOpens.cons (Opens.int Tryd.underlying3) rfl (by kernel_rfl) (FOpens.cons (Opens.string Tryd.underlying9) rfl (by kernel_rfl) (FOpens.cons (Opens.string Tryd.underlying9) rfl (by kernel_rfl) (FOpens.cons (Opens.int Tryd.underlying3) rfl (by kernel_rfl) (FOpens.one (Opens.slice Tryd.underlying26 opens24 (by kernel_rfl) (b := 104) (by kernel_rfl)) rfl (by kernel_rfl))))))))))) (fun x : S33 => (x.f0, x.f1, x.f2, x.f3, x.f4, x.f5, x.f6, x.f7, x.f8)) (fun p => (⟨p.1, p.2.1, p.2.2.1, p.2.2.2.1, p.2.2.2.2.1, p.2.2.2.2.2.1, p.2.2.2.2.2.2.1, p.2.2.2.2.2.2.2.1, p.2.2.2.2.2.2.2.2⟩ : S33)) (fun _ => rfl)) (fun _ h => h)
def G53 (x_ : S53) : Prop := ((Lit.int .i64 x_.f0).wf = true) ∧ (((Lit.int .i64 x_.f1).wf = true) ∧ (x_.f2.size ≤ 140737488351232))
theorem opens53 : Opens Tryd.prog k53 53 G53 :=
  Opens.imp (Opens.iso (Opens.struct Tryd.underlying53 (by kernel_rfl) (FOpens.cons (Opens.int Tryd.underlying3) rfl (by kernel_rfl) (FOpens.cons (Opens.int Tryd.underlying3) rfl (by kernel_rfl) (FOpens.one (Opens.string Tryd.underlying9) rfl (by kernel_rfl))))) (fun x : S53 => (x.f0, x.f1, x.f2)) (fun p => (⟨p.1, p.2.1, p.2.2⟩ : S53)) (fun _ => rfl)) (fun _ h => h)
def F12.l0 : Nat → List (S24) → Int → Option (Bool)
  | 0, _, _ => none
  | k + 1, x0, x3 => if x3 < (x0.length : Int) then (if 0 ≤ x3 then (if (((rd_T24 x0 x3).f6).length : Int) > 10 then (some false) else (F12.l0 k x0 (wrap64 (x3 + 1)))) else (none)) else (some true)
def F12.f (k : Nat) (l0 : List (S24)) : Option (Bool) := if (l0.length : Int) > 150 then (some false) else (F12.l0 k l0 0)
set_option maxHeartbeats 8000000 in
set_option maxRecDepth 100000 in
theorem F12.calls (k : Nat) (A0 : Option Addr) (c0 : Nat) (l0 : List (S24)) (r : Bool) (w : World) (hr0 : Kd.C k24 w A0 l0.length l0) (hc0 : l0.length ≤ c0) (h : F12.f k l0 = some r) :
    Calls Tryd.prog 12 #[.slice A0 l0.length c0] w fun e w' => e = .returned (.bool r) ∧ Drawn0 w w' := by
 have hu22 := Tryd.underlying22; have HR0 := Aside0.mk hr0; have HC0 := Aside0.mk hc0; clear hr0 hc0
 unfold F12.f at h
 have H := h; clear h
 by_cases c2 : (l0.length : Int) > 150
 ·rw [if_pos c2] at H; have c2b0 : decide (150 < (l0.length : Int)) = true := decide_eq_true c2; have c2b1 : decide (150 < l0.length) = true := decide_eq_true (by omega); clear c2; obtain rfl := Option.some.inj H; go_enter Tryd.func12, Tryd.ntmps12
  go_wp2
  go_ret
  exact ⟨pbb2_3, pbb2_4⟩
 ·rw [if_neg c2] at H; have c2b0 : decide (150 < (l0.length : Int)) = false := decide_eq_false c2; have c2b1 : decide (150 < l0.length) = false := decide_eq_false (by omega); clear c2; have H' := Aside0.mk H; clear H; go_enter Tryd.func12, Tryd.ntmps12
  go_wp2
  go_loopg [3] k (fun kq v3 w' => ∃ (x3_1 : Int), v3 = .int .i64 x3_1 ∧ Aside0 (F12.l0 kq l0 x3_1 = some r) ∧ Aside0 (kq ≤ k) ∧ Drawn0 w w')
  case atStart => exact ⟨(0), pbb2_3, H', ⟨Nat.le_refl _⟩, pbb2_4⟩
  case round =>
   clear H'; obtain ⟨x3_1, rfl, HA, HK1, ⟨m1, rfl⟩⟩ := hrel
   cases gk with
   | zero => exact absurd HA.out (by simp [F12.l0])
   | succ k1 =>
    have H := HA.out; clear HA; simp only [F12.l0] at H
    by_cases c3 : x3_1 < (l0.length : Int)
    ·rw [if_pos c3] at H; have c3b0 := decide_eq_true c3; clear c3
     by_cases c4 : 0 ≤ x3_1
     ·rw [if_pos c4] at H; have c4b0 := decide_eq_true c4; clear c4
      by_cases c5 : (((rd_T24 l0 x3_1).f6).length : Int) > 10
      ·rw [if_pos c5] at H; have c5b0 : decide (10 < (((rd_T24 l0 x3_1).f6).length : Int)) = true := decide_eq_true c5; have c5b1 : decide (10 < ((rd_T24 l0 x3_1).f6).length) = true := decide_eq_true (by omega); clear c5; obtain rfl := Option.some.inj H; have p101 : 0 ≤ (x3_1 : Int) := of_decide_eq_true pbb2_6; have q101 : x3_1 < (l0.length : Int) := of_decide_eq_true pbb2_6; obtain ⟨ad101, A101_6, c101_6, e101, hx101_0, hx101_1, hx101_2, hx101_3, hx101_4, hx101_5, hx101_6, hl101_6, hi101_6⟩ := at_T24 HR0.out x3_1 p101 q101
       cases e101
       have HR101_6 := Aside0.mk hi101_6; have HC101_6 := Aside0.mk hl101_6; clear hi101_6 hl101_6; replace p101 := eq_true p101; replace q101 := eq_true q101
       go_wp2
       go_ret
       exact ⟨pbb2_3, pbb2_4⟩
      ·rw [if_neg c5] at H; have c5b0 : decide (10 < (((rd_T24 l0 x3_1).f6).length : Int)) = false := decide_eq_false c5; have c5b1 : decide (10 < ((rd_T24 l0 x3_1).f6).length) = false := decide_eq_false (by omega); clear c5; have H' := Aside0.mk H; clear H; have p101 : 0 ≤ (x3_1 : Int) := of_decide_eq_true pbb2_6; have q101 : x3_1 < (l0.length : Int) := of_decide_eq_true pbb2_6; obtain ⟨ad101, A101_6, c101_6, e101, hx101_0, hx101_1, hx101_2, hx101_3, hx101_4, hx101_5, hx101_6, hl101_6, hi101_6⟩ := at_T24 HR0.out x3_1 p101 q101
       cases e101
       have HR101_6 := Aside0.mk hi101_6; have HC101_6 := Aside0.mk hl101_6; clear hi101_6 hl101_6; replace p101 := eq_true p101; replace q101 := eq_true q101
       go_wp2
       go_roundg k1
       case measure => have := HK1.out; omega
       case rel => exact ⟨(wrap64 (x3_1 + 1)), pbb2_3, H', ⟨pbb2_7⟩, pbb2_4⟩
     ·rw [if_neg c4] at H; exact absurd H (by simp)
    ·rw [if_neg c3] at H; have c3b0 := decide_eq_false c3; clear c3; obtain rfl := Option.some.inj H
     go_wp2
     go_ret
     exact ⟨pbb2_3, pbb2_4⟩
theorem eqA95 (d : Nat) (w : World) (x0 y0 : Int) (x1 y1 : ByteArray) (x2 y2 : Int) (x3 y3 : Int) (x4 y4 : Int) (x5 y5 : ByteArray) (x6 y6 : ByteArray) (x7 y7 : Int) :
    (Op.equalIn (d + 2) 95 (.agg #[.int .i64 x0, .string x1, .int .i64 x2, .int .i64 x3, .int .i64 x4, .string x5, .string x6, .int .i64 x7]) (.agg #[.int .i64 y0, .string y1, .int .i64 y2, .int .i64 y3, .int .i64 y4, .string y5, .string y6, .int .i64 y7])).run Tryd.prog w = .ok (x0 == y0 && (x1.toList == y1.toList && (x2 == y2 && (x3 == y3 && (x4 == y4 && (x5.toList == y5.toList && (x6.toList == y6.toList && (x7 == y7)))))))) w := by
  refine eqA_of Tryd.underlying95 (by kernel_rfl) ?_; refine eqf_cons (by rfl) (by go_simp; rfl) (by go_simp; rfl) (by go_simp) ?_; refine eqf_cons (by rfl) (by go_simp; rfl) (by go_simp; rfl) (by go_simp) ?_; refine eqf_cons (by rfl) (by go_simp; rfl) (by go_simp; rfl) (by go_simp) ?_; refine eqf_cons (by rfl) (by go_simp; rfl) (by go_simp; rfl) (by go_simp) ?_; refine eqf_cons (by rfl) (by go_simp; rfl) (by go_simp; rfl) (by go_simp) ?_; refine eqf_cons (by rfl) (by go_simp; rfl) (by go_simp; rfl) (by go_simp) ?_; refine eqf_cons (by rfl) (by go_simp; rfl) (by go_simp; rfl) (by go_simp) ?_; exact eqf_last (by rfl) (by go_simp; rfl) (by go_simp; rfl) (by go_simp)
def F59.f (a0_0 : Int) (a0_1 : ByteArray) (a0_2 : Int) (a0_3 : Int) (a0_4 : Int) (a0_5 : ByteArray) (a0_6 : ByteArray) (a0_7 : Int) (l0_8 : List (S24)) : Option (Int × ByteArray × Int × Int × Int × ByteArray × ByteArray × Int) := some (a0_0, a0_1, a0_2, a0_3, a0_4, a0_5, a0_6, a0_7)
set_option maxHeartbeats 8000000 in
set_option maxRecDepth 100000 in
theorem F59.calls (a0_0 : Int) (a0_1 : ByteArray) (a0_2 : Int) (a0_3 : Int) (a0_4 : Int) (a0_5 : ByteArray) (a0_6 : ByteArray) (a0_7 : Int) (A0_8 : Option Addr) (c0_8 : Nat) (l0_8 : List (S24)) (r1 : Int) (r2 : ByteArray) (r3 : Int) (r4 : Int) (r5 : Int) (r6 : ByteArray) (r7 : ByteArray) (r8 : Int) (w : World) (hr0_8 : Kd.C k24 w A0_8 l0_8.length l0_8) (hc0_8 : l0_8.length ≤ c0_8) (h : F59.f a0_0 a0_1 a0_2 a0_3 a0_4 a0_5 a0_6 a0_7 l0_8 = some (r1, r2, r3, r4, r5, r6, r7, r8)) :
    Calls Tryd.prog 59 #[.agg #[.int .i64 a0_0, .string a0_1, .int .i64 a0_2, .int .i64 a0_3, .int .i64 a0_4, .string a0_5, .string a0_6, .int .i64 a0_7, .slice A0_8 l0_8.length c0_8]] w fun e w' => e = .returned (.agg #[.int .i64 r1, .string r2, .int .i64 r3, .int .i64 r4, .int .i64 r5, .string r6, .string r7, .int .i64 r8]) ∧ Below w.heap.size w w' := by
 have hu33 := Tryd.underlying33; have hu95 := Tryd.underlying95; have hu3 := Tryd.underlying3; have hu9 := Tryd.underlying9; have HR0_8 := Aside0.mk hr0_8; have HC0_8 := Aside0.mk hc0_8; clear hr0_8 hc0_8; have HB := Aside0.mk (Below.refl w.heap.size w)
 unfold F59.f at h
 have H := h; clear h; simp only [Option.some.injEq, Prod.mk.injEq] at H; obtain ⟨rfl, rfl, rfl, rfl, rfl, rfl, rfl, rfl⟩ := H; go_enter Tryd.func59, Tryd.ntmps59
 go_wp2_with (first | ((with_reducible refine gate_dst (N := 1) rfl ?_); refine box_event ?hg (N := 1) ?hd (cs := #[.int .i64 a0_0, .string a0_1, .int .i64 a0_2, .int .i64 a0_3, .int .i64 a0_4, .string a0_5, .string a0_6, .int .i64 a0_7, .slice A0_8 l0_8.length c0_8]) (t := 33) ?hr ?_; (case hd => rfl); (case hg => rfl); (case hr => first | (go_simp; done) | (go_simp; rfl)); intro gb101 hg w2 hbox hb; have BK101 := Aside0.mk (hbox); have GW101 := Aside0.mk ((pbb2_8 : w.heap.size ≤ gb101)); have GE101 := Aside0.mk ((pbb2_8 : w.heap.size ≤ gb101)); replace HB := Aside0.mk (below_step pbb2_9 hb); clear hb hbox hg) | ((with_reducible refine gate_dst (N := 2) rfl ?_); refine box_event ?hg (N := 2) ?hd (cs := #[.int .i64 0, .string (⟨#[]⟩ : ByteArray), .int .i64 0, .int .i64 0, .int .i64 0, .string (⟨#[]⟩ : ByteArray), .string (⟨#[]⟩ : ByteArray), .int .i64 0]) (t := 95) ?hr ?_; (case hd => rfl); (case hg => rfl); (case hr => first | (go_simp; done) | (go_simp; rfl)); intro gb102 hg w3 hbox hb; have BK102 := Aside0.mk (hbox); have GW102 := Aside0.mk ((pbb2_10 : w.heap.size ≤ gb102)); have GE102 := Aside0.mk ((pbb2_10 : w.heap.size ≤ gb102)); replace HB := Aside0.mk (below_step pbb2_11 hb); have NB101_102 := Aside0.mk ((by rw [hg]; exact Nat.ne_of_lt (blk_lt (g := gb101) (o := .cells #[.int .i64 a0_0, .string a0_1, .int .i64 a0_2, .int .i64 a0_3, .int .i64 a0_4, .string a0_5, .string a0_6, .int .i64 a0_7, .slice A0_8 l0_8.length c0_8] 33 (0, 0)) pbb2_12) : gb101 ≠ gb102)); have NB102_101 := Aside0.mk ((by rw [hg]; exact Nat.ne_of_gt (blk_lt (g := gb101) (o := .cells #[.int .i64 a0_0, .string a0_1, .int .i64 a0_2, .int .i64 a0_3, .int .i64 a0_4, .string a0_5, .string a0_6, .int .i64 a0_7, .slice A0_8 l0_8.length c0_8] 33 (0, 0)) pbb2_12) : gb102 ≠ gb101)); replace BK101 := Aside0.mk (blk_below (g := gb101) (o := .cells #[.int .i64 a0_0, .string a0_1, .int .i64 a0_2, .int .i64 a0_3, .int .i64 a0_4, .string a0_5, .string a0_6, .int .i64 a0_7, .slice A0_8 l0_8.length c0_8] 33 (0, 0)) pbb2_12 hb); clear hb hbox hg; have hnb4 := NB101_102.out; have hnc4 := NB102_101.out; obtain ⟨hcz5_0, hcz5_1, hcz5_2, hcz5_3, hcz5_4, hcz5_5, hcz5_6, hcz5_7, hcz5_8⟩ := cz9 BK101.out; obtain ⟨hfz5_0, hfz5_1, hfz5_2, hfz5_3, hfz5_4, hfz5_5, hfz5_6, hfz5_7, hfz5_8⟩ := fz9 BK101.out; obtain ⟨hcz6_0, hcz6_1, hcz6_2, hcz6_3, hcz6_4, hcz6_5, hcz6_6, hcz6_7⟩ := cz8 BK102.out; obtain ⟨hfz6_0, hfz6_1, hfz6_2, hfz6_3, hfz6_4, hfz6_5, hfz6_6, hfz6_7⟩ := fz8 BK102.out))
 refine bodyPost_ret (results_cell_row rfl _ _ gb102 95 #[.int .i64 a0_0, .string a0_1, .int .i64 a0_2, .int .i64 a0_3, .int .i64 a0_4, .string a0_5, .string a0_6, .int .i64 a0_7] (0, 0) _ rfl (by (with_reducible repeat (first | refine blk_drewN ?_ _ | refine blk_drew ?_ | refine blk_alloc ?_ _)); refine blk_put (cs := #[.int .i64 a0_0, .string a0_1, .int .i64 a0_2, .int .i64 a0_3, .int .i64 a0_4, .string a0_5, .string a0_6, .int .i64 0]) ?_ 7 _ rfl; (with_reducible repeat (first | refine blk_drewN ?_ _ | refine blk_drew ?_ | refine blk_alloc ?_ _)); refine blk_put (cs := #[.int .i64 a0_0, .string a0_1, .int .i64 a0_2, .int .i64 a0_3, .int .i64 a0_4, .string a0_5, .string (⟨#[]⟩ : ByteArray), .int .i64 0]) ?_ 6 _ rfl; (with_reducible repeat (first | refine blk_drewN ?_ _ | refine blk_drew ?_ | refine blk_alloc ?_ _)); refine blk_put (cs := #[.int .i64 a0_0, .string a0_1, .int .i64 a0_2, .int .i64 a0_3, .int .i64 a0_4, .string (⟨#[]⟩ : ByteArray), .string (⟨#[]⟩ : ByteArray), .int .i64 0]) ?_ 5 _ rfl; (with_reducible repeat (first | refine blk_drewN ?_ _ | refine blk_drew ?_ | refine blk_alloc ?_ _)); refine blk_put (cs := #[.int .i64 a0_0, .string a0_1, .int .i64 a0_2, .int .i64 a0_3, .int .i64 0, .string (⟨#[]⟩ : ByteArray), .string (⟨#[]⟩ : ByteArray), .int .i64 0]) ?_ 4 _ rfl; (with_reducible repeat (first | refine blk_drewN ?_ _ | refine blk_drew ?_ | refine blk_alloc ?_ _)); refine blk_put (cs := #[.int .i64 a0_0, .string a0_1, .int .i64 a0_2, .int .i64 0, .int .i64 0, .string (⟨#[]⟩ : ByteArray), .string (⟨#[]⟩ : ByteArray), .int .i64 0]) ?_ 3 _ rfl; (with_reducible repeat (first | refine blk_drewN ?_ _ | refine blk_drew ?_ | refine blk_alloc ?_ _)); refine blk_put (cs := #[.int .i64 a0_0, .string a0_1, .int .i64 0, .int .i64 0, .int .i64 0, .string (⟨#[]⟩ : ByteArray), .string (⟨#[]⟩ : ByteArray), .int .i64 0]) ?_ 2 _ rfl; (with_reducible repeat (first | refine blk_drewN ?_ _ | refine blk_drew ?_ | refine blk_alloc ?_ _)); refine blk_put (cs := #[.int .i64 a0_0, .string (⟨#[]⟩ : ByteArray), .int .i64 0, .int .i64 0, .int .i64 0, .string (⟨#[]⟩ : ByteArray), .string (⟨#[]⟩ : ByteArray), .int .i64 0]) ?_ 1 _ rfl; (with_reducible repeat (first | refine blk_drewN ?_ _ | refine blk_drew ?_ | refine blk_alloc ?_ _)); refine blk_put (cs := #[.int .i64 0, .string (⟨#[]⟩ : ByteArray), .int .i64 0, .int .i64 0, .int .i64 0, .string (⟨#[]⟩ : ByteArray), .string (⟨#[]⟩ : ByteArray), .int .i64 0]) ?_ 0 _ rfl; (with_reducible repeat (first | refine blk_drewN ?_ _ | refine blk_drew ?_ | refine blk_alloc ?_ _)); exact BK102.out) Tryd.underlying95 rfl (by kernel_rfl)) rfl ?_; exact ⟨pbb2_18, pbb2_13⟩
theorem eqA89 (d : Nat) (w : World) (x0 y0 : ByteArray) (x1 y1 : ByteArray) (x2 y2 : ByteArray) (x3 y3 : ByteArray) (x4 y4 : ByteArray) :
    (Op.equalIn (d + 2) 89 (.agg #[.string x0, .string x1, .string x2, .string x3, .string x4]) (.agg #[.string y0, .string y1, .string y2, .string y3, .string y4])).run Tryd.prog w = .ok (x0.toList == y0.toList && (x1.toList == y1.toList && (x2.toList == y2.toList && (x3.toList == y3.toList && (x4.toList == y4.toList))))) w := by
  refine eqA_of Tryd.underlying89 (by kernel_rfl) ?_; refine eqf_cons (by rfl) (by go_simp; rfl) (by go_simp; rfl) (by go_simp) ?_; refine eqf_cons (by rfl) (by go_simp; rfl) (by go_simp; rfl) (by go_simp) ?_; refine eqf_cons (by rfl) (by go_simp; rfl) (by go_simp; rfl) (by go_simp) ?_; refine eqf_cons (by rfl) (by go_simp; rfl) (by go_simp; rfl) (by go_simp) ?_; exact eqf_last (by rfl) (by go_simp; rfl) (by go_simp; rfl) (by go_simp)
theorem eqA101 (d : Nat) (w : World) (x0 y0 : ByteArray) (x1 y1 : ByteArray) :
    (Op.equalIn (d + 2) 101 (.agg #[.string x0, .string x1]) (.agg #[.string y0, .string y1])).run Tryd.prog w = .ok (x0.toList == y0.toList && (x1.toList == y1.toList)) w := by
  refine eqA_of Tryd.underlying101 (by kernel_rfl) ?_; refine eqf_cons (by rfl) (by go_simp; rfl) (by go_simp; rfl) (by go_simp) ?_; exact eqf_last (by rfl) (by go_simp; rfl) (by go_simp; rfl) (by go_simp)
end Go.Proofs.YtjeecehhcajfaaaDoor.M
end
section
namespace Go.Proofs.YtjeecehhcajfaaaDoor.M
open Go.RowKit Go.Proofs.YtjeecehhcajfaaaDoorW.PrintWords Go.Proofs.YtjeecehhcajfaaaDoorW.PrintLast Go.Proofs.YtjeecehhcajfaaaDoorW.PrintMore
attribute [local go_sem] max2_int min2_int max_two min_two max_three min_three max_four min_four
set_option linter.unusedVariables false
set_option linter.unusedSimpArgs false
attribute [local go_sem high] eqA101
def F79.f (a0_0 : ByteArray) (a0_1 : ByteArray) (a1_0 : ByteArray) (a1_1 : ByteArray) : Option (Bool) := some (a0_0.toList == a1_0.toList && (a0_1.toList == a1_1.toList))
set_option maxHeartbeats 8000000 in
set_option maxRecDepth 100000 in
theorem F79.calls (a0_0 : ByteArray) (a0_1 : ByteArray) (a1_0 : ByteArray) (a1_1 : ByteArray) (r : Bool) (w : World) (h : F79.f a0_0 a0_1 a1_0 a1_1 = some r) :
    Calls Tryd.prog 79 #[.agg #[.string a0_0, .string a0_1], .agg #[.string a1_0, .string a1_1]] w fun e w' => e = .returned (.bool r) ∧ Below w.heap.size w w' := by
 have hu101 := Tryd.underlying101; have HB := Aside0.mk (Below.refl w.heap.size w)
 unfold F79.f at h
 have H := h; clear h; obtain rfl := Option.some.inj H; go_enter Tryd.func79, Tryd.ntmps79
 go_wp2_with (first | ((with_reducible refine gate_dst (N := 2) rfl ?_); refine box_event ?hg (N := 2) ?hd (cs := #[.string a0_0, .string a0_1]) (t := 101) ?hr ?_; (case hd => rfl); (case hg => rfl); (case hr => first | (go_simp; done) | (go_simp; rfl)); intro gb101 hg w3 hbox hb; have BK101 := Aside0.mk (hbox); have GW101 := Aside0.mk ((pbb2_8 : w.heap.size ≤ gb101)); have GE101 := Aside0.mk ((pbb2_8 : w.heap.size ≤ gb101)); replace HB := Aside0.mk (below_step pbb2_9 hb); clear hb hbox hg) | ((with_reducible refine gate_dst (N := 3) rfl ?_); refine box_event ?hg (N := 3) ?hd (cs := #[.string a1_0, .string a1_1]) (t := 101) ?hr ?_; (case hd => rfl); (case hg => rfl); (case hr => first | (go_simp; done) | (go_simp; rfl)); intro gb102 hg w4 hbox hb; have BK102 := Aside0.mk (hbox); have GW102 := Aside0.mk ((pbb2_10 : w.heap.size ≤ gb102)); have GE102 := Aside0.mk ((pbb2_10 : w.heap.size ≤ gb102)); replace HB := Aside0.mk (below_step pbb2_11 hb); have NB101_102 := Aside0.mk ((by rw [hg]; exact Nat.ne_of_lt (blk_lt (g := gb101) (o := .cells #[.string a0_0, .string a0_1] 101 (0, 0)) pbb2_12) : gb101 ≠ gb102)); have NB102_101 := Aside0.mk ((by rw [hg]; exact Nat.ne_of_gt (blk_lt (g := gb101) (o := .cells #[.string a0_0, .string a0_1] 101 (0, 0)) pbb2_12) : gb102 ≠ gb101)); replace BK101 := Aside0.mk (blk_below (g := gb101) (o := .cells #[.string a0_0, .string a0_1] 101 (0, 0)) pbb2_12 hb); clear hb hbox hg; have hnb5 := NB101_102.out; have hnc5 := NB102_101.out; obtain ⟨hcz6_0, hcz6_1⟩ := cz2 BK101.out; obtain ⟨hfz6_0, hfz6_1⟩ := fz2 BK101.out; obtain ⟨hcz7_0, hcz7_1⟩ := cz2 BK102.out; obtain ⟨hfz7_0, hfz7_1⟩ := fz2 BK102.out))
 go_ret
 exact ⟨pbb2_18, pbb2_13⟩
end Go.Proofs.YtjeecehhcajfaaaDoor.M
end
section
namespace Go.Proofs.YtjeecehhcajfaaaDoor.M
open Go.RowKit Go.Proofs.YtjeecehhcajfaaaDoorW.PrintWords Go.Proofs.YtjeecehhcajfaaaDoorW.PrintLast Go.Proofs.YtjeecehhcajfaaaDoorW.PrintMore
attribute [local go_sem] max2_int min2_int max_two min_two max_three min_three max_four min_four
set_option linter.unusedVariables false
set_option linter.unusedSimpArgs false
def F78.l0 : Nat → List (S101) → List (S101) → Int → Int → Option (Bool)
  | 0, _, _, _, _ => none
  | k + 1, x0, x1, x14, x15 => if x15 < x14 then (if 0 ≤ x15 then (if x15 < (x0.length : Int) then (if x15 < (x1.length : Int) then ((F79.f ((rd_T101 x0 x15).f0) ((rd_T101 x0 x15).f1) ((rd_T101 x1 x15).f0) ((rd_T101 x1 x15).f1)).bind fun t103 => (if t103 = true then (F78.l0 k x0 x1 x14 (wrap64 (x15 + 1))) else (some false))) else (none)) else (none)) else (none)) else (some true)
def F78.f (k : Nat) (l0 : List (S101)) (l1 : List (S101))  : Option (Bool) := if (l0.length : Int) = (l1.length : Int) then (F78.l0 k l0 l1 (l0.length : Int) 0) else (some false)
def F78.T6 : Bool × List (List Nat × List Nat) := (true, [([], []), ([], []), ([], []), ([1, 2], [1, 2]), ([3], [3]), ([], []), ([], []), ([5, 6], [5, 6]), ([7], [7]), ([0, 4, 8], [0, 4, 8]), ([9], [9])])
def F78.B6 : List Nat := [0, 0, 0, 6, 14, 0, 0, 96, 224, 511, 1023]
theorem F78.tab6 : rtab .any (opsOf Tryd.f78 6) = F78.T6 := by kernel_rfl
theorem F78.bits6 : waitsOk F78.T6.2 F78.B6 = true := by kernel_rfl
set_option maxHeartbeats 8000000 in
set_option maxRecDepth 100000 in
theorem F78.calls (k : Nat) (A0 : Option Addr) (c0 : Nat) (l0 : List (S101)) (A1 : Option Addr) (c1 : Nat) (l1 : List (S101))  (r : Bool) (w : World) (hr0 : Kd.C k101 w A0 l0.length l0) (hc0 : l0.length ≤ c0) (hr1 : Kd.C k101 w A1 l1.length l1) (hc1 : l1.length ≤ c1) (h : F78.f k l0 l1 = some r) :
    Calls Tryd.prog 78 #[.slice A0 l0.length c0, .slice A1 l1.length c1, .func (.func 79) #[] #[]] w fun e w' => e = .returned (.bool r) ∧ Below w.heap.size w w' := by
 have hu101 := Tryd.underlying101; have HR0 := Aside0.mk hr0; have HC0 := Aside0.mk hc0; clear hr0 hc0; have HR1 := Aside0.mk hr1; have HC1 := Aside0.mk hc1; clear hr1 hc1; have HB := Aside0.mk (Below.refl w.heap.size w)
 unfold F78.f at h
 have H := h; clear h
 by_cases c4 : (l0.length : Int) = (l1.length : Int)
 ·rw [if_pos c4] at H; have c4b0 := bT_ c4; have c4b1 := bF_ c4; have c4b2 : (l0.length == l1.length) = true := by first | simpa using c4 | (simp at c4 ⊢; omega)
  clear c4; have H' := Aside0.mk H; clear H; go_enter Tryd.func78, Tryd.ntmps78
  go_wp2
  go_loopg [15] k (fun kq v15 w' => ∃ (x15_1 : Int), v15 = .int .i64 x15_1 ∧ Aside0 (F78.l0 kq l0 l1 (l0.length : Int) x15_1 = some r) ∧ Aside0 (kq ≤ k) ∧ Aside0 (Below w.heap.size w w'))
  case atStart => exact ⟨(0), pbb2_3, H', ⟨Nat.le_refl _⟩, ⟨pbb2_9⟩⟩
  case round =>
   clear H'; obtain ⟨x15_1, rfl, HA, HK1, HB⟩ := hrel
   cases gk with
   | zero => exact absurd HA.out (by simp [F78.l0])
   | succ k1 =>
    have H := HA.out; clear HA; simp only [F78.l0] at H
    by_cases c5 : x15_1 < (l0.length : Int)
    ·rw [if_pos c5] at H; have c5b0 := decide_eq_true c5; clear c5
     by_cases c6 : 0 ≤ x15_1
     ·rw [if_pos c6] at H; have c6b0 := decide_eq_true c6; clear c6
      by_cases c7 : x15_1 < (l0.length : Int)
      ·rw [if_pos c7] at H; have c7b0 := decide_eq_true c7; clear c7
       by_cases c8 : x15_1 < (l1.length : Int)
       ·rw [if_pos c8] at H; have c8b0 := decide_eq_true c8; clear c8; obtain ⟨t103, A90, H⟩ := bnd H; have A9 := Aside0.mk A90; clear A90
        by_cases c10 : t103 = true
        ·subst c10; rw [if_pos rfl] at H; have H' := Aside0.mk H; clear H; (try go_wp2); replace HB := Aside0.mk (below_drew1 HB.out); have p101 : 0 ≤ (x15_1 : Int) := of_decide_eq_true pbb2_6; have q101 : x15_1 < (l0.length : Int) := of_decide_eq_true pbb2_6; obtain ⟨ad101, e101, hx101_0, hx101_1⟩ := at_T101 HR0.out x15_1 p101 q101; have hw101_1 := hx101_1; have hw101_0 := hx101_0
         cases e101
         replace hx101_0 := (HB.out.cell (World.block_lt_of_cell? w _ hx101_0)).trans hx101_0; replace hx101_1 := (HB.out.cell (World.block_lt_of_cell? w _ hx101_1)).trans hx101_1; replace p101 := eq_true p101; replace q101 := eq_true q101; have p102 : 0 ≤ (x15_1 : Int) := of_decide_eq_true pbb2_6; have q102 : x15_1 < (l1.length : Int) := of_decide_eq_true pbb2_6; obtain ⟨ad102, e102, hx102_0, hx102_1⟩ := at_T101 HR1.out x15_1 p102 q102; have hw102_1 := hx102_1; have hw102_0 := hx102_0
         cases e102
         replace hx102_0 := (HB.out.cell (World.block_lt_of_cell? w _ hx102_0)).trans hx102_0; replace hx102_1 := (HB.out.cell (World.block_lt_of_cell? w _ hx102_1)).trans hx102_1; replace p102 := eq_true p102; replace q102 := eq_true q102; refine start_ (n := 11) (S := fun w' => w'.cell? (ad101.add ((x15_1).toNat * 2)) = some (.string ((rd_T101 l0 x15_1).f0)) ∧ w'.cell? ⟨(ad101.add ((x15_1).toNat * 2)).block, (ad101.add ((x15_1).toNat * 2)).off + 1, none⟩ = some (.string ((rd_T101 l0 x15_1).f1)) ∧ w'.cell? (ad102.add ((x15_1).toNat * 2)) = some (.string ((rd_T101 l1 x15_1).f0)) ∧ w'.cell? ⟨(ad102.add ((x15_1).toNat * 2)).block, (ad102.add ((x15_1).toNat * 2)).off + 1, none⟩ = some (.string ((rd_T101 l1 x15_1).f1))) (ds := []) (bq 11 0) (by kernel_rfl) rfl rfl ⟨((HB.out.cell (World.block_lt_of_cell? w _ hw101_0)).trans hw101_0), ((HB.out.cell (World.block_lt_of_cell? w _ hw101_1)).trans hw101_1), ((HB.out.cell (World.block_lt_of_cell? w _ hw102_0)).trans hw102_0), ((HB.out.cell (World.block_lt_of_cell? w _ hw102_1)).trans hw102_1)⟩ (fun hHeld => ?_); refine with_tabW F78.tab6 F78.bits6 (fun HT_ HW_ => ?_); generalize wr.drew = w11 at HB hx101_0 hx101_1 hx102_0 hx102_1 hHeld ⊢; refine pv_ 0 18 (bq 11 1) HT_ ?_; refine pv_ 1 19 (bq 11 3) HT_ ?_; refine pv_ 2 20 (bq 11 7) HT_ ?_; refine pv_ 3 21 (bq 11 15) HT_ ?_; refine pv_ 5 23 (bq 11 47) HT_ ?_; refine pv_ 6 24 (bq 11 111) HT_ ?_; refine pv_ 7 25 (bq 11 239) HT_ ?_; refine take_ (i := 4) (N := some 22) (v := ?_) (a' := ?_) (bq 11 255) rfl rfl (take_ofW HT_.out HW_.out (by kernel_rfl)) (fun _ _ _ h => h) (Or.inl ⟨by rfl, ?_⟩) hHeld ?_ ?_; rotate_left
         ·rintro w' ⟨s0, s1, s2, s3⟩; go_simp; (with_reducible rfl)
         rotate_left
         ·exact cbb2_0
         refine take_ (i := 8) (N := some 26) (v := ?_) (a' := ?_) (bq 11 511) rfl rfl (take_ofW HT_.out HW_.out (by kernel_rfl)) (fun _ _ _ h => h) (Or.inl ⟨by rfl, ?_⟩) hHeld ?_ ?_; rotate_left
         ·rintro w' ⟨s0, s1, s2, s3⟩; go_simp; (with_reducible rfl)
         rotate_left
         ·exact cbb2_0
         refine one_ (i := 9) (N := some 27) (bq 11 1023) rfl rfl (one_of HT_.out (by kernel_rfl)) (by decide) (fun K hK => ?_); refine goesF_ Tryd.func79 (by kernel_rfl) rfl #[.agg #[.string ((rd_T101 l0 x15_1).f0), .string ((rd_T101 l0 x15_1).f1)], .agg #[.string ((rd_T101 l1 x15_1).f0), .string ((rd_T101 l1 x15_1).f1)]] (by rfl) rfl rfl (by rfl) pbb2_5 ?_; (with_reducible refine (F79.calls ((rd_T101 l0 x15_1).f0) ((rd_T101 l0 x15_1).f1) ((rd_T101 l1 x15_1).f0) ((rd_T101 l1 x15_1).f1) true _ A9.out).mono ?_); rintro e w12 ⟨rfl, hb⟩; refine ⟨_, rfl, ?_⟩; replace HB := Aside0.mk (below_step pbb2_9 hb); (try clear hb); (try clear hb2); (try clear hk); (try clear hi); refine hK.out _ _ ⟨((HB.out.cell (World.block_lt_of_cell? w _ hw101_0)).trans hw101_0), ((HB.out.cell (World.block_lt_of_cell? w _ hw101_1)).trans hw101_1), ((HB.out.cell (World.block_lt_of_cell? w _ hw102_0)).trans hw102_0), ((HB.out.cell (World.block_lt_of_cell? w _ hw102_1)).trans hw102_1)⟩ (fun hHeld => ?_); clear hK K; refine norm_ (a' := ?_) ?_ ?_; rotate_left
         ·show Act.put _ (some 27) _ = _; simp only [Act.put, List.setIfInBounds_toArray, List.set_cons_zero, List.set_cons_succ, i64_w, i32_w]
          rfl
         refine pv_ 10 28 (bq 11 2047) HT_ ?_; refine done_ (done_of HT_.out (by kernel_rfl)) ?_; (try go_wp2)
         go_roundg k1
         case measure => have := HK1.out; omega
         case rel => exact ⟨(wrap64 (x15_1 + 1)), pbb2_3, H', ⟨pbb2_7⟩, ⟨pbb2_9⟩⟩
        ·replace c10 := Bool.eq_false_iff.mpr c10; subst c10; rw [if_neg (show ¬ (false = true) by decide)] at H; obtain rfl := Option.some.inj H; (try go_wp2); replace HB := Aside0.mk (below_drew1 HB.out); have p101 : 0 ≤ (x15_1 : Int) := of_decide_eq_true pbb2_6; have q101 : x15_1 < (l0.length : Int) := of_decide_eq_true pbb2_6; obtain ⟨ad101, e101, hx101_0, hx101_1⟩ := at_T101 HR0.out x15_1 p101 q101; have hw101_1 := hx101_1; have hw101_0 := hx101_0
         cases e101
         replace hx101_0 := (HB.out.cell (World.block_lt_of_cell? w _ hx101_0)).trans hx101_0; replace hx101_1 := (HB.out.cell (World.block_lt_of_cell? w _ hx101_1)).trans hx101_1; replace p101 := eq_true p101; replace q101 := eq_true q101; have p102 : 0 ≤ (x15_1 : Int) := of_decide_eq_true pbb2_6; have q102 : x15_1 < (l1.length : Int) := of_decide_eq_true pbb2_6; obtain ⟨ad102, e102, hx102_0, hx102_1⟩ := at_T101 HR1.out x15_1 p102 q102; have hw102_1 := hx102_1; have hw102_0 := hx102_0
         cases e102
         replace hx102_0 := (HB.out.cell (World.block_lt_of_cell? w _ hx102_0)).trans hx102_0; replace hx102_1 := (HB.out.cell (World.block_lt_of_cell? w _ hx102_1)).trans hx102_1; replace p102 := eq_true p102; replace q102 := eq_true q102; refine start_ (n := 11) (S := fun w' => w'.cell? (ad101.add ((x15_1).toNat * 2)) = some (.string ((rd_T101 l0 x15_1).f0)) ∧ w'.cell? ⟨(ad101.add ((x15_1).toNat * 2)).block, (ad101.add ((x15_1).toNat * 2)).off + 1, none⟩ = some (.string ((rd_T101 l0 x15_1).f1)) ∧ w'.cell? (ad102.add ((x15_1).toNat * 2)) = some (.string ((rd_T101 l1 x15_1).f0)) ∧ w'.cell? ⟨(ad102.add ((x15_1).toNat * 2)).block, (ad102.add ((x15_1).toNat * 2)).off + 1, none⟩ = some (.string ((rd_T101 l1 x15_1).f1))) (ds := []) (bq 11 0) (by kernel_rfl) rfl rfl ⟨((HB.out.cell (World.block_lt_of_cell? w _ hw101_0)).trans hw101_0), ((HB.out.cell (World.block_lt_of_cell? w _ hw101_1)).trans hw101_1), ((HB.out.cell (World.block_lt_of_cell? w _ hw102_0)).trans hw102_0), ((HB.out.cell (World.block_lt_of_cell? w _ hw102_1)).trans hw102_1)⟩ (fun hHeld => ?_); refine with_tabW F78.tab6 F78.bits6 (fun HT_ HW_ => ?_); generalize wr.drew = w13 at HB hx101_0 hx101_1 hx102_0 hx102_1 hHeld ⊢; refine pv_ 0 18 (bq 11 1) HT_ ?_; refine pv_ 1 19 (bq 11 3) HT_ ?_; refine pv_ 2 20 (bq 11 7) HT_ ?_; refine pv_ 3 21 (bq 11 15) HT_ ?_; refine pv_ 5 23 (bq 11 47) HT_ ?_; refine pv_ 6 24 (bq 11 111) HT_ ?_; refine pv_ 7 25 (bq 11 239) HT_ ?_; refine take_ (i := 4) (N := some 22) (v := ?_) (a' := ?_) (bq 11 255) rfl rfl (take_ofW HT_.out HW_.out (by kernel_rfl)) (fun _ _ _ h => h) (Or.inl ⟨by rfl, ?_⟩) hHeld ?_ ?_; rotate_left
         ·rintro w' ⟨s0, s1, s2, s3⟩; go_simp; (with_reducible rfl)
         rotate_left
         ·exact cbb2_0
         refine take_ (i := 8) (N := some 26) (v := ?_) (a' := ?_) (bq 11 511) rfl rfl (take_ofW HT_.out HW_.out (by kernel_rfl)) (fun _ _ _ h => h) (Or.inl ⟨by rfl, ?_⟩) hHeld ?_ ?_; rotate_left
         ·rintro w' ⟨s0, s1, s2, s3⟩; go_simp; (with_reducible rfl)
         rotate_left
         ·exact cbb2_0
         refine one_ (i := 9) (N := some 27) (bq 11 1023) rfl rfl (one_of HT_.out (by kernel_rfl)) (by decide) (fun K hK => ?_); refine goesF_ Tryd.func79 (by kernel_rfl) rfl #[.agg #[.string ((rd_T101 l0 x15_1).f0), .string ((rd_T101 l0 x15_1).f1)], .agg #[.string ((rd_T101 l1 x15_1).f0), .string ((rd_T101 l1 x15_1).f1)]] (by rfl) rfl rfl (by rfl) pbb2_5 ?_; (with_reducible refine (F79.calls ((rd_T101 l0 x15_1).f0) ((rd_T101 l0 x15_1).f1) ((rd_T101 l1 x15_1).f0) ((rd_T101 l1 x15_1).f1) false _ A9.out).mono ?_); rintro e w14 ⟨rfl, hb⟩; refine ⟨_, rfl, ?_⟩; replace HB := Aside0.mk (below_step pbb2_9 hb); (try clear hb); (try clear hb2); (try clear hk); (try clear hi); refine hK.out _ _ ⟨((HB.out.cell (World.block_lt_of_cell? w _ hw101_0)).trans hw101_0), ((HB.out.cell (World.block_lt_of_cell? w _ hw101_1)).trans hw101_1), ((HB.out.cell (World.block_lt_of_cell? w _ hw102_0)).trans hw102_0), ((HB.out.cell (World.block_lt_of_cell? w _ hw102_1)).trans hw102_1)⟩ (fun hHeld => ?_); clear hK K; refine norm_ (a' := ?_) ?_ ?_; rotate_left
         ·show Act.put _ (some 27) _ = _; simp only [Act.put, List.setIfInBounds_toArray, List.set_cons_zero, List.set_cons_succ, i64_w, i32_w]
          rfl
         refine pv_ 10 28 (bq 11 2047) HT_ ?_; refine done_ (done_of HT_.out (by kernel_rfl)) ?_; (try go_wp2)
         go_ret
         exact ⟨pbb2_18, pbb2_9⟩
       ·rw [if_neg c8] at H; exact absurd H (by simp)
      ·rw [if_neg c7] at H; exact absurd H (by simp)
     ·rw [if_neg c6] at H; exact absurd H (by simp)
    ·rw [if_neg c5] at H; have c5b0 := decide_eq_false c5; clear c5; obtain rfl := Option.some.inj H
     go_wp2
     go_ret
     exact ⟨pbb2_18, pbb2_9⟩
 ·rw [if_neg c4] at H; have c4b0 := nF_ c4; have c4b1 := nT_ c4; have c4b2 : (l0.length == l1.length) = false := by first | simpa using c4 | (simp at c4 ⊢; omega)
  obtain rfl := Option.some.inj H; go_enter Tryd.func78, Tryd.ntmps78
  go_wp2
  go_ret
  exact ⟨pbb2_18, pbb2_9⟩
end Go.Proofs.YtjeecehhcajfaaaDoor.M
end
