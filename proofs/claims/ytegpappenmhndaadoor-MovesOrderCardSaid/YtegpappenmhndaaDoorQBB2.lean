/- What the claims of this seat share, part 2 of 8: what the program's functions compute. -/
import Derived.Test.YtegpappenmhndaaDoorQBB1
import Derived.Laws.Closers25b
import Derived.Maps.Own
import Derived.MapKept
import Derived.Deep.RegionHeld3
import Derived.Maps.RangeRun
namespace Go.Proofs.YtegpappenmhndaaDoor.M
theorem cbb2_0 {p : Prop} (h : p := by simp only [Act.put, List.setIfInBounds_toArray, List.set_cons_zero, List.set_cons_succ, i64_w, i32_w]; rfl) : p := h
theorem pbb2_0 {p : Prop} (h : p := by first | rfl | (simp; done) | (simp [*]; done)) : p := h
theorem pbb2_1 {p : Prop} (h : p := by repeat (first | exact Drawn0.refl _ | apply Drawn0.step)) : p := h
theorem pbb2_2 {p : Prop} (h : p := by (try simp only [List.map_toArray, List.map_cons, List.map_nil]); first | done | rfl | (simp only [List.length_drop, List.length_take]; rfl)) : p := h
theorem pbb2_3 {p : Prop} (h : p := by repeat (first | (with_reducible first | exact HB.out | apply below_alloc | apply pw_below_drewN | apply below_drew1) | exact HB.out)) : p := h
theorem pbb2_4 {p : Prop} (h : p := by first | (with_reducible assumption) | assumption) : p := h
theorem pbb2_5 {p : Prop} (h : p := by first | rfl | (simp [errW_none, errW_some] <;> rfl) | (simp [*, errW_none, errW_some] <;> rfl)) : p := h
theorem pbb2_6 {p : Prop} (h : p := by rw [hg]; exact (below_size (by repeat (first | (with_reducible first | exact HB.out | apply below_alloc | apply pw_below_drewN | apply below_drew1) | exact HB.out)))) : p := h
theorem pbb2_7 {p : Prop} (h : p := by rw [← hq_]; exact (by (with_reducible repeat (first | refine blk_drewN ?_ _ | refine blk_drew ?_ | refine blk_alloc ?_ _)); exact BK101.out)) : p := h
theorem pbb2_8 {p : Prop} (h : p := by rw [← hq_]; exact (by repeat (first | (with_reducible first | exact HB.out | apply below_alloc | apply pw_below_drewN | apply below_drew1 | refine below_set ?_ GE101.out) | exact HB.out))) : p := h
theorem pbb2_9 {p : Prop} (h : p := by repeat (first | (with_reducible first | exact HB.out | apply below_alloc | apply pw_below_drewN | apply below_drew1 | refine below_set ?_ GE101.out) | exact HB.out)) : p := h
theorem pbb2_10 {p : Prop} (h : p := by (with_reducible repeat (first | refine blk_drewN ?_ _ | refine blk_drew ?_ | refine blk_alloc ?_ _)); exact BK101.out) : p := h
theorem pbb2_11 {p : Prop} (h : p := by repeat (first | exact (Kd.C_below HR1.out HB.out) | (with_reducible refine Kd.C_alloc ?_ _) | (with_reducible refine Kd.C_drewN ?_ _) | (with_reducible refine Kd.C_drew ?_))) : p := h
end Go.Proofs.YtegpappenmhndaaDoor.M
section
namespace Go.Proofs.YtegpappenmhndaaDoor.M
open Go.RowKit Go.Proofs.YtegpappenmhndaaDoorW.PrintWords Go.Proofs.YtegpappenmhndaaDoorW.PrintLast Go.Proofs.YtegpappenmhndaaDoorW.PrintMore
attribute [local go_sem] max2_int min2_int max_two min_two max_three min_three max_four min_four
set_option linter.unusedVariables false
set_option linter.unusedSimpArgs false
def errW : Option Int → Value
  | none => .nilIface
  | some c => .iface 0 (.int .i64 c)
theorem errW_none : errW none = .nilIface := rfl
theorem errW_some (c : Int) : errW (some c) = .iface 0 (.int .i64 c) := rfl
theorem info3 : (Tryd.prog.info? 3).map (fun i => (i.zero, i.size, i.bytes)) = some (some (.int .i64 0), 1, 8) := by kernel_rfl
theorem info23 : (Tryd.prog.info? 23).map (fun i => (i.zero, i.size, i.bytes)) = some (some (.agg #[(.int .i64 0), (.int .i64 0), (.string ⟨#[]⟩), (.int .i64 0), (.int .i64 0), (.int .i64 0), (.string ⟨#[]⟩), (.int .i64 0)]), 8, 80) := by kernel_rfl
structure S23 where
  f0 : Int
  f1 : Int
  f2 : ByteArray
  f3 : Int
  f4 : Int
  f5 : Int
  f6 : ByteArray
  f7 : Int
def z23 : S23 := ⟨(0 : Int), (0 : Int), (⟨#[]⟩ : ByteArray), (0 : Int), (0 : Int), (0 : Int), (⟨#[]⟩ : ByteArray), (0 : Int)⟩
def k23 : Kd S23 := Kd.iso (Kd.pair (Kd.int .i64) (Kd.pair (Kd.int .i64) (Kd.pair Kd.string (Kd.pair (Kd.int .i64) (Kd.pair (Kd.int .i64) (Kd.pair (Kd.int .i64) (Kd.pair Kd.string (Kd.int .i64)))))))) (fun x : S23 => (x.f0, x.f1, x.f2, x.f3, x.f4, x.f5, x.f6, x.f7))
theorem k23_open {w : World} {x : S23} {cs : List Value} (h : k23.K w x cs) : cs = [.int .i64 x.f0, .int .i64 x.f1, .string x.f2, .int .i64 x.f3, .int .i64 x.f4, .int .i64 x.f5, .string x.f6, .int .i64 x.f7] := by
  obtain ⟨_, _, rfl, rfl, ⟨_, _, rfl, rfl, ⟨_, _, rfl, rfl, ⟨_, _, rfl, rfl, ⟨_, _, rfl, rfl, ⟨_, _, rfl, rfl, ⟨_, _, rfl, rfl, rfl⟩⟩⟩⟩⟩⟩⟩ := h; exact rfl
theorem k23_openM {w : World} {base : Nat} {ok : Nat → Prop} {x : S23} {cs : List Value} (h : k23.M w base ok x cs) : cs = [.int .i64 x.f0, .int .i64 x.f1, .string x.f2, .int .i64 x.f3, .int .i64 x.f4, .int .i64 x.f5, .string x.f6, .int .i64 x.f7] := by
  obtain ⟨_, _, rfl, rfl, ⟨_, _, rfl, rfl, ⟨_, _, rfl, rfl, ⟨_, _, rfl, rfl, ⟨_, _, rfl, rfl, ⟨_, _, rfl, rfl, ⟨_, _, rfl, rfl, rfl⟩⟩⟩⟩⟩⟩⟩ := h; exact rfl
theorem k23_mk (w : World) (x : S23)  : k23.K w x [.int .i64 x.f0, .int .i64 x.f1, .string x.f2, .int .i64 x.f3, .int .i64 x.f4, .int .i64 x.f5, .string x.f6, .int .i64 x.f7] := ⟨[.int .i64 x.f0], [.int .i64 x.f1, .string x.f2, .int .i64 x.f3, .int .i64 x.f4, .int .i64 x.f5, .string x.f6, .int .i64 x.f7], rfl, rfl, ⟨[.int .i64 x.f1], [.string x.f2, .int .i64 x.f3, .int .i64 x.f4, .int .i64 x.f5, .string x.f6, .int .i64 x.f7], rfl, rfl, ⟨[.string x.f2], [.int .i64 x.f3, .int .i64 x.f4, .int .i64 x.f5, .string x.f6, .int .i64 x.f7], rfl, rfl, ⟨[.int .i64 x.f3], [.int .i64 x.f4, .int .i64 x.f5, .string x.f6, .int .i64 x.f7], rfl, rfl, ⟨[.int .i64 x.f4], [.int .i64 x.f5, .string x.f6, .int .i64 x.f7], rfl, rfl, ⟨[.int .i64 x.f5], [.string x.f6, .int .i64 x.f7], rfl, rfl, ⟨[.string x.f6], [.int .i64 x.f7], rfl, rfl, rfl⟩⟩⟩⟩⟩⟩⟩
theorem k23_mkM (w : World) (base : Nat) (ok : Nat → Prop) (x : S23)  : k23.M w base ok x [.int .i64 x.f0, .int .i64 x.f1, .string x.f2, .int .i64 x.f3, .int .i64 x.f4, .int .i64 x.f5, .string x.f6, .int .i64 x.f7] := ⟨[.int .i64 x.f0], [.int .i64 x.f1, .string x.f2, .int .i64 x.f3, .int .i64 x.f4, .int .i64 x.f5, .string x.f6, .int .i64 x.f7], rfl, rfl, ⟨[.int .i64 x.f1], [.string x.f2, .int .i64 x.f3, .int .i64 x.f4, .int .i64 x.f5, .string x.f6, .int .i64 x.f7], rfl, rfl, ⟨[.string x.f2], [.int .i64 x.f3, .int .i64 x.f4, .int .i64 x.f5, .string x.f6, .int .i64 x.f7], rfl, rfl, ⟨[.int .i64 x.f3], [.int .i64 x.f4, .int .i64 x.f5, .string x.f6, .int .i64 x.f7], rfl, rfl, ⟨[.int .i64 x.f4], [.int .i64 x.f5, .string x.f6, .int .i64 x.f7], rfl, rfl, ⟨[.int .i64 x.f5], [.string x.f6, .int .i64 x.f7], rfl, rfl, ⟨[.string x.f6], [.int .i64 x.f7], rfl, rfl, rfl⟩⟩⟩⟩⟩⟩⟩
def rd_T23 (xs : List S23) (i : Int) : S23 := xs.getD i.toNat z23
theorem at_T23 {w : World} {A : Option Addr} {n : Nat} {xs : List S23} (h : Kd.C k23 w A n xs) (i : Int) (h0 : 0 ≤ i) (h1 : i < n) : ∃ ad , A = some ad ∧ w.cell? (ad.add (i.toNat * 8)) = some (.int .i64 (rd_T23 xs i).f0) ∧ w.cell? ⟨(ad.add (i.toNat * 8)).block, (ad.add (i.toNat * 8)).off + 1, none⟩ = some (.int .i64 (rd_T23 xs i).f1) ∧ w.cell? ⟨(ad.add (i.toNat * 8)).block, (ad.add (i.toNat * 8)).off + 2, none⟩ = some (.string (rd_T23 xs i).f2) ∧ w.cell? ⟨(ad.add (i.toNat * 8)).block, (ad.add (i.toNat * 8)).off + 3, none⟩ = some (.int .i64 (rd_T23 xs i).f3) ∧ w.cell? ⟨(ad.add (i.toNat * 8)).block, (ad.add (i.toNat * 8)).off + 4, none⟩ = some (.int .i64 (rd_T23 xs i).f4) ∧ w.cell? ⟨(ad.add (i.toNat * 8)).block, (ad.add (i.toNat * 8)).off + 5, none⟩ = some (.int .i64 (rd_T23 xs i).f5) ∧ w.cell? ⟨(ad.add (i.toNat * 8)).block, (ad.add (i.toNat * 8)).off + 6, none⟩ = some (.string (rd_T23 xs i).f6) ∧ w.cell? ⟨(ad.add (i.toNat * 8)).block, (ad.add (i.toNat * 8)).off + 7, none⟩ = some (.int .i64 (rd_T23 xs i).f7) := by
  obtain ⟨ad, c, e, _, hK, hc0⟩ := Kd.C_get h z23 i h0 h1; have hc : ∀ j u, c[j]? = some u → w.cell? (ad.add (i.toNat * 8 + j)) = some u := hc0; obtain rfl := k23_open hK; exact ⟨ad, e, hc 0 _ rfl, by rw [← add_field _ _ 1 (by omega)]; exact hc 1 _ rfl, by rw [← add_field _ _ 2 (by omega)]; exact hc 2 _ rfl, by rw [← add_field _ _ 3 (by omega)]; exact hc 3 _ rfl, by rw [← add_field _ _ 4 (by omega)]; exact hc 4 _ rfl, by rw [← add_field _ _ 5 (by omega)]; exact hc 5 _ rfl, by rw [← add_field _ _ 6 (by omega)]; exact hc 6 _ rfl, by rw [← add_field _ _ 7 (by omega)]; exact hc 7 _ rfl⟩
def rd_L3 (xs : List (List S23)) (i : Int) : (List S23) := xs.getD i.toNat ([] : List S23)
theorem at_L3 {w : World} {A : Option Addr} {n : Nat} {xs : List (List S23)} (h : Kd.C (Kd.slice 23 k23) w A n xs) (i : Int) (h0 : 0 ≤ i) (h1 : i < n) : ∃ ad A0 c0, A = some ad ∧ w.cell? (ad.add i.toNat) = some (.slice A0 (rd_L3 xs i).length c0) ∧ (rd_L3 xs i).length ≤ c0 ∧ k23.C w A0 (rd_L3 xs i).length (rd_L3 xs i) := by
  obtain ⟨ad, c, e, _, hK, hc0⟩ := Kd.C_get h ([] : List S23) i h0 h1; have hc : ∀ j u, c[j]? = some u → w.cell? (ad.add (i.toNat * 1 + j)) = some u := hc0; obtain ⟨A0, c0, rfl, l0, g0⟩ := hK; exact ⟨ad, A0, c0, e, by have hq := hc 0 _ rfl; rwa [Nat.mul_one, Nat.add_zero] at hq, l0, g0⟩
def rd_L4 (xs : List (List Int)) (i : Int) : (List Int) := xs.getD i.toNat ([] : List Int)
theorem at_L4 {w : World} {A : Option Addr} {n : Nat} {xs : List (List Int)} (h : Kd.C (Kd.slice 3 (Kd.int .i64)) w A n xs) (i : Int) (h0 : 0 ≤ i) (h1 : i < n) : ∃ ad A0 c0, A = some ad ∧ w.cell? (ad.add i.toNat) = some (.slice A0 (rd_L4 xs i).length c0) ∧ (rd_L4 xs i).length ≤ c0 ∧ (Kd.int .i64).C w A0 (rd_L4 xs i).length (rd_L4 xs i) := by
  obtain ⟨ad, c, e, _, hK, hc0⟩ := Kd.C_get h ([] : List Int) i h0 h1; have hc : ∀ j u, c[j]? = some u → w.cell? (ad.add (i.toNat * 1 + j)) = some u := hc0; obtain ⟨A0, c0, rfl, l0, g0⟩ := hK; exact ⟨ad, A0, c0, e, by have hq := hc 0 _ rfl; rwa [Nat.mul_one, Nat.add_zero] at hq, l0, g0⟩
structure S44 where
  f0 : (List Int)
  f1 : Int
  f2 : Bool
  f3 : Int
def z44 : S44 := ⟨([] : List Int), (0 : Int), false, (0 : Int)⟩
def k44 : Kd S44 := Kd.iso (Kd.pair (Kd.slice 3 (Kd.int .i64)) (Kd.pair (Kd.int .i64) (Kd.pair Kd.bool (Kd.int .i64)))) (fun x : S44 => (x.f0, x.f1, x.f2, x.f3))
theorem k44_open {w : World} {x : S44} {cs : List Value} (h : k44.K w x cs) : ∃ A0 c0, cs = [.slice A0 x.f0.length c0, .int .i64 x.f1, .bool x.f2, .int .i64 x.f3] ∧ x.f0.length ≤ c0 ∧ (Kd.int .i64).C w A0 x.f0.length x.f0 := by
  obtain ⟨_, _, rfl, ⟨A0, c0, rfl, l0, g0⟩, ⟨_, _, rfl, rfl, ⟨_, _, rfl, rfl, rfl⟩⟩⟩ := h; exact ⟨A0, c0, rfl, l0, g0⟩
theorem k44_openM {w : World} {base : Nat} {ok : Nat → Prop} {x : S44} {cs : List Value} (h : k44.M w base ok x cs) : ∃ v0, cs = [v0, .int .i64 x.f1, .bool x.f2, .int .i64 x.f3] ∧ (Kd.int .i64).R 3 w base ok v0 x.f0 := by
  obtain ⟨_, _, rfl, ⟨v0, rfl, g0⟩, ⟨_, _, rfl, rfl, ⟨_, _, rfl, rfl, rfl⟩⟩⟩ := h; exact ⟨v0, rfl, g0⟩
theorem k44_mk (w : World) (x : S44) {A0 : Option Addr} {c0 : Nat} (l0 : x.f0.length ≤ c0) (g0 : (Kd.int .i64).C w A0 x.f0.length x.f0) : k44.K w x [.slice A0 x.f0.length c0, .int .i64 x.f1, .bool x.f2, .int .i64 x.f3] := ⟨[.slice A0 x.f0.length c0], [.int .i64 x.f1, .bool x.f2, .int .i64 x.f3], rfl, ⟨A0, c0, rfl, l0, g0⟩, ⟨[.int .i64 x.f1], [.bool x.f2, .int .i64 x.f3], rfl, rfl, ⟨[.bool x.f2], [.int .i64 x.f3], rfl, rfl, rfl⟩⟩⟩
theorem k44_mkM (w : World) (base : Nat) (ok : Nat → Prop) (x : S44) {v0 : Value} (g0 : (Kd.int .i64).R 3 w base ok v0 x.f0) : k44.M w base ok x [v0, .int .i64 x.f1, .bool x.f2, .int .i64 x.f3] := ⟨[v0], [.int .i64 x.f1, .bool x.f2, .int .i64 x.f3], rfl, ⟨v0, rfl, g0⟩, ⟨[.int .i64 x.f1], [.bool x.f2, .int .i64 x.f3], rfl, rfl, ⟨[.bool x.f2], [.int .i64 x.f3], rfl, rfl, rfl⟩⟩⟩
def rd_T44 (xs : List S44) (i : Int) : S44 := xs.getD i.toNat z44
theorem at_T44 {w : World} {A : Option Addr} {n : Nat} {xs : List S44} (h : Kd.C k44 w A n xs) (i : Int) (h0 : 0 ≤ i) (h1 : i < n) : ∃ ad A0 c0, A = some ad ∧ w.cell? (ad.add (i.toNat * 4)) = some (.slice A0 (rd_T44 xs i).f0.length c0) ∧ w.cell? ⟨(ad.add (i.toNat * 4)).block, (ad.add (i.toNat * 4)).off + 1, none⟩ = some (.int .i64 (rd_T44 xs i).f1) ∧ w.cell? ⟨(ad.add (i.toNat * 4)).block, (ad.add (i.toNat * 4)).off + 2, none⟩ = some (.bool (rd_T44 xs i).f2) ∧ w.cell? ⟨(ad.add (i.toNat * 4)).block, (ad.add (i.toNat * 4)).off + 3, none⟩ = some (.int .i64 (rd_T44 xs i).f3) ∧ (rd_T44 xs i).f0.length ≤ c0 ∧ (Kd.int .i64).C w A0 (rd_T44 xs i).f0.length (rd_T44 xs i).f0 := by
  obtain ⟨ad, c, e, _, hK, hc0⟩ := Kd.C_get h z44 i h0 h1; have hc : ∀ j u, c[j]? = some u → w.cell? (ad.add (i.toNat * 4 + j)) = some u := hc0; obtain ⟨A0, c0, rfl, l0, g0⟩ := k44_open hK; exact ⟨ad, A0, c0, e, hc 0 _ rfl, by rw [← add_field _ _ 1 (by omega)]; exact hc 1 _ rfl, by rw [← add_field _ _ 2 (by omega)]; exact hc 2 _ rfl, by rw [← add_field _ _ 3 (by omega)]; exact hc 3 _ rfl, l0, g0⟩
def rd_L8 (xs : List (List Int)) (i : Int) : (List Int) := xs.getD i.toNat ([] : List Int)
theorem at_L8 {w : World} {A : Option Addr} {n : Nat} {xs : List (List Int)} (h : Kd.C (Kd.slice 0 (Kd.int .i64)) w A n xs) (i : Int) (h0 : 0 ≤ i) (h1 : i < n) : ∃ ad A0 c0, A = some ad ∧ w.cell? (ad.add i.toNat) = some (.slice A0 (rd_L8 xs i).length c0) ∧ (rd_L8 xs i).length ≤ c0 ∧ (Kd.int .i64).C w A0 (rd_L8 xs i).length (rd_L8 xs i) := by
  obtain ⟨ad, c, e, _, hK, hc0⟩ := Kd.C_get h ([] : List Int) i h0 h1; have hc : ∀ j u, c[j]? = some u → w.cell? (ad.add (i.toNat * 1 + j)) = some u := hc0; obtain ⟨A0, c0, rfl, l0, g0⟩ := hK; exact ⟨ad, A0, c0, e, by have hq := hc 0 _ rfl; rwa [Nat.mul_one, Nat.add_zero] at hq, l0, g0⟩
structure S94 where
  f0 : Int
  f1 : Int
def z94 : S94 := ⟨(0 : Int), (0 : Int)⟩
def k94 : Kd S94 := Kd.iso (Kd.pair (Kd.int .u64) (Kd.int .u64)) (fun x : S94 => (x.f0, x.f1))
theorem k94_open {w : World} {x : S94} {cs : List Value} (h : k94.K w x cs) : cs = [.int .u64 x.f0, .int .u64 x.f1] := by
  obtain ⟨_, _, rfl, rfl, rfl⟩ := h; exact rfl
theorem k94_openM {w : World} {base : Nat} {ok : Nat → Prop} {x : S94} {cs : List Value} (h : k94.M w base ok x cs) : cs = [.int .u64 x.f0, .int .u64 x.f1] := by
  obtain ⟨_, _, rfl, rfl, rfl⟩ := h; exact rfl
theorem k94_mk (w : World) (x : S94)  : k94.K w x [.int .u64 x.f0, .int .u64 x.f1] := ⟨[.int .u64 x.f0], [.int .u64 x.f1], rfl, rfl, rfl⟩
theorem k94_mkM (w : World) (base : Nat) (ok : Nat → Prop) (x : S94)  : k94.M w base ok x [.int .u64 x.f0, .int .u64 x.f1] := ⟨[.int .u64 x.f0], [.int .u64 x.f1], rfl, rfl, rfl⟩
def rd_T94 (xs : List S94) (i : Int) : S94 := xs.getD i.toNat z94
theorem at_T94 {w : World} {A : Option Addr} {n : Nat} {xs : List S94} (h : Kd.C k94 w A n xs) (i : Int) (h0 : 0 ≤ i) (h1 : i < n) : ∃ ad , A = some ad ∧ w.cell? (ad.add (i.toNat * 2)) = some (.int .u64 (rd_T94 xs i).f0) ∧ w.cell? ⟨(ad.add (i.toNat * 2)).block, (ad.add (i.toNat * 2)).off + 1, none⟩ = some (.int .u64 (rd_T94 xs i).f1) := by
  obtain ⟨ad, c, e, _, hK, hc0⟩ := Kd.C_get h z94 i h0 h1; have hc : ∀ j u, c[j]? = some u → w.cell? (ad.add (i.toNat * 2 + j)) = some u := hc0; obtain rfl := k94_open hK; exact ⟨ad, e, hc 0 _ rfl, by rw [← add_field _ _ 1 (by omega)]; exact hc 1 _ rfl⟩
def F50.f (a0 : Int) : Option (Bool) := if a0 ≥ 97 then (if a0 ≤ 122 then (some true) else (if a0 ≥ 65 then (if a0 ≤ 90 then (some true) else (some (a0 == 95))) else (some (a0 == 95)))) else (if a0 ≥ 65 then (if a0 ≤ 90 then (some true) else (some (a0 == 95))) else (some (a0 == 95)))
set_option maxHeartbeats 8000000 in
set_option maxRecDepth 100000 in
theorem F50.calls (a0 : Int) (r : Bool) (w : World) (h : F50.f a0 = some r) :
    Calls Tryd.prog 50 #[.int .u8 a0] w fun e w' => e = .returned (.bool r) ∧ Drawn0 w w' := by
 unfold F50.f at h
 have H := h; clear h
 by_cases c2 : a0 ≥ 97
 ·rw [if_pos c2] at H; have c2b0 : decide (97 ≤ a0) = true := decide_eq_true c2; clear c2
  by_cases c3 : a0 ≤ 122
  ·rw [if_pos c3] at H; have c3b0 := decide_eq_true c3; clear c3; obtain rfl := Option.some.inj H; go_enter Tryd.func50, Tryd.ntmps50
   go_wp2
   go_ret
   exact ⟨pbb2_0, pbb2_1⟩
  ·rw [if_neg c3] at H; have c3b0 := decide_eq_false c3; clear c3
   by_cases c4 : a0 ≥ 65
   ·rw [if_pos c4] at H; have c4b0 : decide (65 ≤ a0) = true := decide_eq_true c4; clear c4
    by_cases c5 : a0 ≤ 90
    ·rw [if_pos c5] at H; have c5b0 := decide_eq_true c5; clear c5; obtain rfl := Option.some.inj H; go_enter Tryd.func50, Tryd.ntmps50
     go_wp2
     go_ret
     exact ⟨pbb2_0, pbb2_1⟩
    ·rw [if_neg c5] at H; have c5b0 := decide_eq_false c5; clear c5; obtain rfl := Option.some.inj H; go_enter Tryd.func50, Tryd.ntmps50
     go_wp2
     go_ret
     exact ⟨pbb2_0, pbb2_1⟩
   ·rw [if_neg c4] at H; have c4b0 : decide (65 ≤ a0) = false := decide_eq_false c4; clear c4; obtain rfl := Option.some.inj H; go_enter Tryd.func50, Tryd.ntmps50
    go_wp2
    go_ret
    exact ⟨pbb2_0, pbb2_1⟩
 ·rw [if_neg c2] at H; have c2b0 : decide (97 ≤ a0) = false := decide_eq_false c2; clear c2
  by_cases c6 : a0 ≥ 65
  ·rw [if_pos c6] at H; have c6b0 : decide (65 ≤ a0) = true := decide_eq_true c6; clear c6
   by_cases c7 : a0 ≤ 90
   ·rw [if_pos c7] at H; have c7b0 := decide_eq_true c7; clear c7; obtain rfl := Option.some.inj H; go_enter Tryd.func50, Tryd.ntmps50
    go_wp2
    go_ret
    exact ⟨pbb2_0, pbb2_1⟩
   ·rw [if_neg c7] at H; have c7b0 := decide_eq_false c7; clear c7; obtain rfl := Option.some.inj H; go_enter Tryd.func50, Tryd.ntmps50
    go_wp2
    go_ret
    exact ⟨pbb2_0, pbb2_1⟩
  ·rw [if_neg c6] at H; have c6b0 : decide (65 ≤ a0) = false := decide_eq_false c6; clear c6; obtain rfl := Option.some.inj H; go_enter Tryd.func50, Tryd.ntmps50
   go_wp2
   go_ret
   exact ⟨pbb2_0, pbb2_1⟩
def F51.f (a0 : Int) : Option (Bool) := if a0 ≥ 48 then (some (decide (a0 ≤ 57))) else (some false)
set_option maxHeartbeats 8000000 in
set_option maxRecDepth 100000 in
theorem F51.calls (a0 : Int) (r : Bool) (w : World) (h : F51.f a0 = some r) :
    Calls Tryd.prog 51 #[.int .u8 a0] w fun e w' => e = .returned (.bool r) ∧ Drawn0 w w' := by
 unfold F51.f at h
 have H := h; clear h
 by_cases c2 : a0 ≥ 48
 ·rw [if_pos c2] at H; have c2b0 : decide (48 ≤ a0) = true := decide_eq_true c2; clear c2; obtain rfl := Option.some.inj H; go_enter Tryd.func51, Tryd.ntmps51
  go_wp2
  go_ret
  exact ⟨pbb2_0, pbb2_1⟩
 ·rw [if_neg c2] at H; have c2b0 : decide (48 ≤ a0) = false := decide_eq_false c2; clear c2; obtain rfl := Option.some.inj H; go_enter Tryd.func51, Tryd.ntmps51
  go_wp2
  go_ret
  exact ⟨pbb2_0, pbb2_1⟩
def F49.f (a0 : Int) : Option (Bool) := (F50.f a0).bind fun t101 => (if t101 = true then (some true) else ((F51.f a0).bind fun t102 => (some t102)))
set_option maxHeartbeats 8000000 in
set_option maxRecDepth 100000 in
theorem F49.calls (a0 : Int) (r : Bool) (w : World) (h : F49.f a0 = some r) :
    Calls Tryd.prog 49 #[.int .u8 a0] w fun e w' => e = .returned (.bool r) ∧ Drawn0 w w' := by
 unfold F49.f at h
 have H := h; clear h; obtain ⟨t101, A20, H⟩ := bnd H; have A2 := Aside0.mk A20; clear A20
 by_cases c3 : t101 = true
 ·subst c3; rw [if_pos rfl] at H; obtain rfl := Option.some.inj H; go_enter Tryd.func49, Tryd.ntmps49
  go_wp2_with (first | ((with_reducible refine gate_callee (f := 50) rfl ?_); refine goesL_ (some 4) rfl rfl Tryd.func50 (by kernel_rfl) rfl #[.int .u8 a0] rfl pbb2_2 ?_; (with_reducible refine (F50.calls a0 true _ A2.out).mono ?_); rintro e w' ⟨rfl, ⟨nd, rfl⟩⟩; refine ⟨_, rfl, ?_⟩))
  go_ret
  exact ⟨pbb2_0, pbb2_1⟩
 ·replace c3 := Bool.eq_false_iff.mpr c3; subst c3; rw [if_neg (show ¬ (false = true) by decide)] at H; obtain ⟨t102, A40, H⟩ := bnd H; have A4 := Aside0.mk A40; clear A40; obtain rfl := Option.some.inj H; go_enter Tryd.func49, Tryd.ntmps49
  go_wp2_with (first | ((with_reducible refine gate_callee (f := 50) rfl ?_); refine goesL_ (some 4) rfl rfl Tryd.func50 (by kernel_rfl) rfl #[.int .u8 a0] rfl pbb2_2 ?_; (with_reducible refine (F50.calls a0 false _ A2.out).mono ?_); rintro e w' ⟨rfl, ⟨nd, rfl⟩⟩; refine ⟨_, rfl, ?_⟩) | (go_at_call 51; (with_reducible refine (F51.calls a0 t102 _ A4.out).mono ?_); rintro e w' ⟨rfl, ⟨nd, rfl⟩⟩))
  go_ret
  exact ⟨pbb2_0, pbb2_1⟩
def F48.l0 : Nat → ByteArray → Int → Int → Option (Bool)
  | 0, _, _, _ => none
  | k + 1, x0, x7, x8 => if x8 < x7 then (if 0 ≤ x8 then (if x8 < (x0.size : Int) then ((F49.f (bt x0 x8)).bind fun t101 => (if t101 = true then (F48.l0 k x0 x7 (wrap64 (x8 + 1))) else (some false))) else (none)) else (none)) else (some true)
def F48.f (k : Nat) (a0 : ByteArray)  : Option (Bool) := F48.l0 k a0 (a0.size : Int) 0
theorem F48.mono_l : ∀ k, (∀ y0 y1 y2, LeO (F48.l0 k y0 y1 y2) (F48.l0 (k + 1) y0 y1 y2))
  | 0 => fun _ _ _ r h => by simp [F48.l0] at h
  | k + 1 => by
    have ih0 := F48.mono_l k
    · intro y0 y1 y2
      unfold F48.l0
      repeat' first
      | (with_reducible exact ih0 _ _ _)
      | (with_reducible exact LeO.refl _)
      | (with_reducible exact LeO.none _)
      | (with_reducible refine LeO.ite ?_ ?_)
      | (with_reducible refine LeO.bind ?_ (fun _ => ?_))
      | exact ih0 _ _ _
      | exact LeO.none _
      | refine LeO.ite ?_ ?_
      | refine LeO.bind ?_ (fun _ => ?_)
theorem F48.mono : ∀ a0 k, LeO (F48.f k a0) (F48.f (k + 1) a0) := by
 intro a0 k; have ih0 := F48.mono_l k
 unfold F48.f
 repeat' first
   | (with_reducible exact ih0 _ _ _)
   | (with_reducible exact LeO.refl _)
   | (with_reducible exact LeO.none _)
   | (with_reducible refine LeO.ite ?_ ?_)
   | (with_reducible refine LeO.bind ?_ (fun _ => ?_))
   | exact ih0 _ _ _
   | exact LeO.none _
   | refine LeO.ite ?_ ?_
   | refine LeO.bind ?_ (fun _ => ?_)
set_option maxHeartbeats 8000000 in
set_option maxRecDepth 100000 in
theorem F48.calls (k : Nat) (a0 : ByteArray)  (r : Bool) (w : World) (h : F48.f k a0 = some r) :
    Calls Tryd.prog 48 #[.string a0, .func (.func 49) #[] #[]] w fun e w' => e = .returned (.bool r) ∧ Below w.heap.size w w' := by
 have HB := Aside0.mk (Below.refl w.heap.size w)
 unfold F48.f at h
 have H := h; clear h; have H' := Aside0.mk H; clear H; go_enter Tryd.func48, Tryd.ntmps48
 go_wp2
 go_loopg [8] k (fun kq v8 w' => ∃ (x8_1 : Int), v8 = .int .i64 x8_1 ∧ Aside0 (F48.l0 kq a0 (a0.size : Int) x8_1 = some r) ∧ Aside0 (kq ≤ k) ∧ Aside0 (Below w.heap.size w w'))
 case atStart => exact ⟨(0), pbb2_0, H', ⟨Nat.le_refl _⟩, ⟨pbb2_3⟩⟩
 case round =>
  clear H'; obtain ⟨x8_1, rfl, HA, HK1, HB⟩ := hrel
  cases gk with
  | zero => exact absurd HA.out (by simp [F48.l0])
  | succ k1 =>
   have H := HA.out; clear HA; simp only [F48.l0] at H
   by_cases c3 : x8_1 < (a0.size : Int)
   ·rw [if_pos c3] at H; have c3b0 := decide_eq_true c3; clear c3
    by_cases c4 : 0 ≤ x8_1
    ·rw [if_pos c4] at H; have c4b0 := decide_eq_true c4; clear c4
     by_cases c5 : x8_1 < (a0.size : Int)
     ·rw [if_pos c5] at H; have c5b0 := decide_eq_true c5; clear c5; obtain ⟨t101, A70, H⟩ := bnd H; have A7 := Aside0.mk A70; clear A70
      by_cases c8 : t101 = true
      ·subst c8; rw [if_pos rfl] at H; have H' := Aside0.mk H; clear H; have p6 : 0 ≤ (x8_1 : Int) := of_decide_eq_true pbb2_4; have q6 : x8_1 < (a0.size : Int) := of_decide_eq_true pbb2_4; have hx6 := bt_at a0 x8_1; replace p6 := eq_true p6; replace q6 := eq_true q6
       go_wp2_with (first | (go_at_call 49; (with_reducible refine (F49.calls (bt a0 x8_1) true _ A7.out).mono ?_); rintro e w' ⟨rfl, ⟨nd, rfl⟩⟩))
       go_roundg k1
       case measure => have := HK1.out; omega
       case rel => exact ⟨(wrap64 (x8_1 + 1)), pbb2_0, H', ⟨by have := HK1.out; omega⟩, ⟨pbb2_3⟩⟩
      ·replace c8 := Bool.eq_false_iff.mpr c8; subst c8; rw [if_neg (show ¬ (false = true) by decide)] at H; obtain rfl := Option.some.inj H; have p6 : 0 ≤ (x8_1 : Int) := of_decide_eq_true pbb2_4; have q6 : x8_1 < (a0.size : Int) := of_decide_eq_true pbb2_4; have hx6 := bt_at a0 x8_1; replace p6 := eq_true p6; replace q6 := eq_true q6
       go_wp2_with (first | (go_at_call 49; (with_reducible refine (F49.calls (bt a0 x8_1) false _ A7.out).mono ?_); rintro e w' ⟨rfl, ⟨nd, rfl⟩⟩))
       go_ret
       exact ⟨pbb2_5, pbb2_3⟩
     ·rw [if_neg c5] at H; exact absurd H (by simp)
    ·rw [if_neg c4] at H; exact absurd H (by simp)
   ·rw [if_neg c3] at H; have c3b0 := decide_eq_false c3; clear c3; obtain rfl := Option.some.inj H
    go_wp2
    go_ret
    exact ⟨pbb2_5, pbb2_3⟩
def F26.f (k : Nat) (a0 : ByteArray) : Option (Bool) := if a0.toList = ([] : List UInt8) then (some false) else (if (a0.size : Int) ≤ 12 then ((F48.f k a0).bind fun t102 => (some t102)) else (some false))
theorem F26.mono : ∀ a0 k, LeO (F26.f k a0) (F26.f (k + 1) a0) := by
 intro a0 k
 unfold F26.f
 repeat' first
   | (with_reducible exact F48.mono _ _)
   | (with_reducible exact LeO.refl _)
   | (with_reducible exact LeO.none _)
   | (with_reducible refine LeO.ite ?_ ?_)
   | (with_reducible refine LeO.bind ?_ (fun _ => ?_))
   | exact F48.mono _ _
   | exact LeO.none _
   | refine LeO.ite ?_ ?_
   | refine LeO.bind ?_ (fun _ => ?_)
set_option maxHeartbeats 8000000 in
set_option maxRecDepth 100000 in
theorem F26.calls (k : Nat) (a0 : ByteArray) (r : Bool) (w : World) (h : F26.f k a0 = some r) :
    Calls Tryd.prog 26 #[.string a0] w fun e w' => e = .returned (.bool r) ∧ Below w.heap.size w w' := by
 have HB := Aside0.mk (Below.refl w.heap.size w)
 unfold F26.f at h
 have H := h; clear h
 by_cases c2 : a0.toList = ([] : List UInt8)
 ·rw [if_pos c2] at H; have c2b0 := bT_ c2; have c2b1 := bF_ c2; clear c2; obtain rfl := Option.some.inj H; go_enter Tryd.func26, Tryd.ntmps26
  go_wp2
  go_ret
  exact ⟨pbb2_5, pbb2_3⟩
 ·rw [if_neg c2] at H; have c2b0 := nF_ c2; have c2b1 := nT_ c2
  by_cases c3 : (a0.size : Int) ≤ 12
  ·rw [if_pos c3] at H; have c3b0 := decide_eq_true c3; have c3b1 : decide (a0.size ≤ 12) = true := decide_eq_true (by omega); clear c3; obtain ⟨t102, A40, H⟩ := bnd H; have A4 := Aside0.mk A40; clear A40; obtain rfl := Option.some.inj H; go_enter Tryd.func26, Tryd.ntmps26
   go_wp2_with (first | (go_at_call 48; (with_reducible refine (F48.calls k a0  t102 _ A4.out).mono ?_); rintro e w5 ⟨rfl, hb⟩; replace HB := Aside0.mk (below_step pbb2_3 hb); (try clear hb); (try clear hb2); (try clear hk); (try clear hi)))
   go_ret
   exact ⟨pbb2_5, pbb2_3⟩
  ·rw [if_neg c3] at H; have c3b0 := decide_eq_false c3; have c3b1 : decide (a0.size ≤ 12) = false := decide_eq_false (by omega); clear c3; obtain rfl := Option.some.inj H; go_enter Tryd.func26, Tryd.ntmps26
   go_wp2
   go_ret
   exact ⟨pbb2_5, pbb2_3⟩
def F52.f (a0 : Int) : Option (Bool) := if a0 ≥ 97 then (if a0 ≤ 122 then (some true) else (if a0 ≥ 65 then (if a0 ≤ 90 then (some true) else (some (a0 == 95))) else (some (a0 == 95)))) else (if a0 ≥ 65 then (if a0 ≤ 90 then (some true) else (some (a0 == 95))) else (some (a0 == 95)))
set_option maxHeartbeats 8000000 in
set_option maxRecDepth 100000 in
theorem F52.calls (a0 : Int) (r : Bool) (w : World) (h : F52.f a0 = some r) :
    Calls Tryd.prog 52 #[.int .u8 a0] w fun e w' => e = .returned (.bool r) ∧ Drawn0 w w' := by
 unfold F52.f at h
 have H := h; clear h
 by_cases c2 : a0 ≥ 97
 ·rw [if_pos c2] at H; have c2b0 : decide (97 ≤ a0) = true := decide_eq_true c2; clear c2
  by_cases c3 : a0 ≤ 122
  ·rw [if_pos c3] at H; have c3b0 := decide_eq_true c3; clear c3; obtain rfl := Option.some.inj H; go_enter Tryd.func52, Tryd.ntmps52
   go_wp2
   go_ret
   exact ⟨pbb2_0, pbb2_1⟩
  ·rw [if_neg c3] at H; have c3b0 := decide_eq_false c3; clear c3
   by_cases c4 : a0 ≥ 65
   ·rw [if_pos c4] at H; have c4b0 : decide (65 ≤ a0) = true := decide_eq_true c4; clear c4
    by_cases c5 : a0 ≤ 90
    ·rw [if_pos c5] at H; have c5b0 := decide_eq_true c5; clear c5; obtain rfl := Option.some.inj H; go_enter Tryd.func52, Tryd.ntmps52
     go_wp2
     go_ret
     exact ⟨pbb2_0, pbb2_1⟩
    ·rw [if_neg c5] at H; have c5b0 := decide_eq_false c5; clear c5; obtain rfl := Option.some.inj H; go_enter Tryd.func52, Tryd.ntmps52
     go_wp2
     go_ret
     exact ⟨pbb2_0, pbb2_1⟩
   ·rw [if_neg c4] at H; have c4b0 : decide (65 ≤ a0) = false := decide_eq_false c4; clear c4; obtain rfl := Option.some.inj H; go_enter Tryd.func52, Tryd.ntmps52
    go_wp2
    go_ret
    exact ⟨pbb2_0, pbb2_1⟩
 ·rw [if_neg c2] at H; have c2b0 : decide (97 ≤ a0) = false := decide_eq_false c2; clear c2
  by_cases c6 : a0 ≥ 65
  ·rw [if_pos c6] at H; have c6b0 : decide (65 ≤ a0) = true := decide_eq_true c6; clear c6
   by_cases c7 : a0 ≤ 90
   ·rw [if_pos c7] at H; have c7b0 := decide_eq_true c7; clear c7; obtain rfl := Option.some.inj H; go_enter Tryd.func52, Tryd.ntmps52
    go_wp2
    go_ret
    exact ⟨pbb2_0, pbb2_1⟩
   ·rw [if_neg c7] at H; have c7b0 := decide_eq_false c7; clear c7; obtain rfl := Option.some.inj H; go_enter Tryd.func52, Tryd.ntmps52
    go_wp2
    go_ret
    exact ⟨pbb2_0, pbb2_1⟩
  ·rw [if_neg c6] at H; have c6b0 : decide (65 ≤ a0) = false := decide_eq_false c6; clear c6; obtain rfl := Option.some.inj H; go_enter Tryd.func52, Tryd.ntmps52
   go_wp2
   go_ret
   exact ⟨pbb2_0, pbb2_1⟩
def F53.f (a0 : Int) : Option (Bool) := if a0 ≥ 48 then (some (decide (a0 ≤ 57))) else (some false)
set_option maxHeartbeats 8000000 in
set_option maxRecDepth 100000 in
theorem F53.calls (a0 : Int) (r : Bool) (w : World) (h : F53.f a0 = some r) :
    Calls Tryd.prog 53 #[.int .u8 a0] w fun e w' => e = .returned (.bool r) ∧ Drawn0 w w' := by
 unfold F53.f at h
 have H := h; clear h
 by_cases c2 : a0 ≥ 48
 ·rw [if_pos c2] at H; have c2b0 : decide (48 ≤ a0) = true := decide_eq_true c2; clear c2; obtain rfl := Option.some.inj H; go_enter Tryd.func53, Tryd.ntmps53
  go_wp2
  go_ret
  exact ⟨pbb2_0, pbb2_1⟩
 ·rw [if_neg c2] at H; have c2b0 : decide (48 ≤ a0) = false := decide_eq_false c2; clear c2; obtain rfl := Option.some.inj H; go_enter Tryd.func53, Tryd.ntmps53
  go_wp2
  go_ret
  exact ⟨pbb2_0, pbb2_1⟩
def F33.l0 : Nat → ByteArray → Int → Option (Bool)
  | 0, _, _ => none
  | k + 1, x0, x3 => if x3 < (x0.size : Int) then (if 0 ≤ x3 then ((F52.f (bt x0 x3)).bind fun t101 => (if t101 = true then (F33.l0 k x0 (wrap64 (x3 + 1))) else ((F53.f (bt x0 x3)).bind fun t102 => (if t102 = true then (F33.l0 k x0 (wrap64 (x3 + 1))) else (some false))))) else (none)) else (if (x0.size : Int) ≥ 1 then (some (decide ((x0.size : Int) ≤ 12))) else (some false))
def F33.f (k : Nat) (a0 : ByteArray) : Option (Bool) := F33.l0 k a0 0
set_option maxHeartbeats 8000000 in
set_option maxRecDepth 100000 in
theorem F33.calls (k : Nat) (a0 : ByteArray) (r : Bool) (w : World) (h : F33.f k a0 = some r) :
    Calls Tryd.prog 33 #[.string a0] w fun e w' => e = .returned (.bool r) ∧ Drawn0 w w' := by
 unfold F33.f at h
 have H := h; clear h; have H' := Aside0.mk H; clear H; go_enter Tryd.func33, Tryd.ntmps33
 go_wp2
 go_loopg [3] k (fun kq v3 w' => ∃ (x3_1 : Int), v3 = .int .i64 x3_1 ∧ Aside0 (F33.l0 kq a0 x3_1 = some r) ∧ Aside0 (kq ≤ k) ∧ Drawn0 w w')
 case atStart => exact ⟨(0), pbb2_0, H', ⟨Nat.le_refl _⟩, pbb2_1⟩
 case round =>
  clear H'; obtain ⟨x3_1, rfl, HA, HK1, ⟨m1, rfl⟩⟩ := hrel
  cases gk with
  | zero => exact absurd HA.out (by simp [F33.l0])
  | succ k1 =>
   have H := HA.out; clear HA; simp only [F33.l0] at H
   by_cases c2 : x3_1 < (a0.size : Int)
   ·rw [if_pos c2] at H; have c2b0 := decide_eq_true c2; clear c2
    by_cases c3 : 0 ≤ x3_1
    ·rw [if_pos c3] at H; have c3b0 := decide_eq_true c3; clear c3; obtain ⟨t101, A50, H⟩ := bnd H; have A5 := Aside0.mk A50; clear A50
     by_cases c6 : t101 = true
     ·subst c6; rw [if_pos rfl] at H; have H' := Aside0.mk H; clear H; have p4 : 0 ≤ (x3_1 : Int) := of_decide_eq_true pbb2_4; have q4 : x3_1 < (a0.size : Int) := of_decide_eq_true pbb2_4; have hx4 := bt_at a0 x3_1; replace p4 := eq_true p4; replace q4 := eq_true q4
      go_wp2_with (first | ((with_reducible refine gate_callee (f := 52) rfl ?_); refine goesL_ (some 13) rfl rfl Tryd.func52 (by kernel_rfl) rfl #[.int .u8 (bt a0 x3_1)] rfl pbb2_2 ?_; (with_reducible refine (F52.calls (bt a0 x3_1) true _ A5.out).mono ?_); rintro e w' ⟨rfl, ⟨nd, rfl⟩⟩; refine ⟨_, rfl, ?_⟩))
      go_roundg k1
      case measure => have := HK1.out; omega
      case rel => exact ⟨(wrap64 (x3_1 + 1)), pbb2_0, H', ⟨by have := HK1.out; omega⟩, pbb2_1⟩
     ·replace c6 := Bool.eq_false_iff.mpr c6; subst c6; rw [if_neg (show ¬ (false = true) by decide)] at H; obtain ⟨t102, A80, H⟩ := bnd H; have A8 := Aside0.mk A80; clear A80
      by_cases c9 : t102 = true
      ·subst c9; rw [if_pos rfl] at H; have H' := Aside0.mk H; clear H; have p4 : 0 ≤ (x3_1 : Int) := of_decide_eq_true pbb2_4; have q4 : x3_1 < (a0.size : Int) := of_decide_eq_true pbb2_4; have hx4 := bt_at a0 x3_1; replace p4 := eq_true p4; replace q4 := eq_true q4
       go_wp2_with (first | ((with_reducible refine gate_callee (f := 52) rfl ?_); refine goesL_ (some 13) rfl rfl Tryd.func52 (by kernel_rfl) rfl #[.int .u8 (bt a0 x3_1)] rfl pbb2_2 ?_; (with_reducible refine (F52.calls (bt a0 x3_1) false _ A5.out).mono ?_); rintro e w' ⟨rfl, ⟨nd, rfl⟩⟩; refine ⟨_, rfl, ?_⟩; have p7 : 0 ≤ (x3_1 : Int) := of_decide_eq_true pbb2_4; have q7 : x3_1 < (a0.size : Int) := of_decide_eq_true pbb2_4; have hx7 := bt_at a0 x3_1; replace p7 := eq_true p7; replace q7 := eq_true q7) | (go_at_call 53; (with_reducible refine (F53.calls (bt a0 x3_1) true _ A8.out).mono ?_); rintro e w' ⟨rfl, ⟨nd, rfl⟩⟩))
       go_roundg k1
       case measure => have := HK1.out; omega
       case rel => exact ⟨(wrap64 (x3_1 + 1)), pbb2_0, H', ⟨by have := HK1.out; omega⟩, pbb2_1⟩
      ·replace c9 := Bool.eq_false_iff.mpr c9; subst c9; rw [if_neg (show ¬ (false = true) by decide)] at H; obtain rfl := Option.some.inj H; have p4 : 0 ≤ (x3_1 : Int) := of_decide_eq_true pbb2_4; have q4 : x3_1 < (a0.size : Int) := of_decide_eq_true pbb2_4; have hx4 := bt_at a0 x3_1; replace p4 := eq_true p4; replace q4 := eq_true q4
       go_wp2_with (first | ((with_reducible refine gate_callee (f := 52) rfl ?_); refine goesL_ (some 13) rfl rfl Tryd.func52 (by kernel_rfl) rfl #[.int .u8 (bt a0 x3_1)] rfl pbb2_2 ?_; (with_reducible refine (F52.calls (bt a0 x3_1) false _ A5.out).mono ?_); rintro e w' ⟨rfl, ⟨nd, rfl⟩⟩; refine ⟨_, rfl, ?_⟩; have p7 : 0 ≤ (x3_1 : Int) := of_decide_eq_true pbb2_4; have q7 : x3_1 < (a0.size : Int) := of_decide_eq_true pbb2_4; have hx7 := bt_at a0 x3_1; replace p7 := eq_true p7; replace q7 := eq_true q7) | (go_at_call 53; (with_reducible refine (F53.calls (bt a0 x3_1) false _ A8.out).mono ?_); rintro e w' ⟨rfl, ⟨nd, rfl⟩⟩))
       go_ret
       exact ⟨pbb2_0, pbb2_1⟩
    ·rw [if_neg c3] at H; exact absurd H (by simp)
   ·rw [if_neg c2] at H; have c2b0 := decide_eq_false c2; clear c2
    by_cases c10 : (a0.size : Int) ≥ 1
    ·rw [if_pos c10] at H; have c10b0 : decide (1 ≤ (a0.size : Int)) = true := decide_eq_true c10; have c10b1 : decide (1 ≤ a0.size) = true := decide_eq_true (by omega); clear c10; obtain rfl := Option.some.inj H
     go_wp2
     go_ret
     exact ⟨pbb2_0, pbb2_1⟩
    ·rw [if_neg c10] at H; have c10b0 : decide (1 ≤ (a0.size : Int)) = false := decide_eq_false c10; have c10b1 : decide (1 ≤ a0.size) = false := decide_eq_false (by omega); clear c10; obtain rfl := Option.some.inj H
     go_wp2
     go_ret
     exact ⟨pbb2_0, pbb2_1⟩
end Go.Proofs.YtegpappenmhndaaDoor.M
end
section
namespace Go.Proofs.YtegpappenmhndaaDoor.M
open Go.RowKit Go.Proofs.YtegpappenmhndaaDoorW.PrintWords
set_option linter.unusedVariables false
set_option linter.unusedSimpArgs false
def letv (a : Int) : Bool := decide (97 ≤ a ∧ a ≤ 122) || (decide (65 ≤ a ∧ a ≤ 90) || a == 95)
def digv (a : Int) : Bool := decide (48 ≤ a ∧ a ≤ 57)
theorem F50.eq (a : Int) : F50.f a = some (letv a) := by
 unfold F50.f letv
 by_cases h1 : a ≥ 97 <;> by_cases h2 : a ≤ 122 <;> by_cases h3 : a ≥ 65 <;> by_cases h4 : a ≤ 90 <;> simp [h1, h2, h3, h4]
theorem F51.eq (a : Int) : F51.f a = some (digv a) := by
 unfold F51.f digv
 by_cases h1 : a ≥ 48 <;> by_cases h2 : a ≤ 57 <;> simp [h1, h2]
theorem F52.eq (a : Int) : F52.f a = some (letv a) := by
 unfold F52.f letv
 by_cases h1 : a ≥ 97 <;> by_cases h2 : a ≤ 122 <;> by_cases h3 : a ≥ 65 <;> by_cases h4 : a ≤ 90 <;> simp [h1, h2, h3, h4]
theorem F53.eq (a : Int) : F53.f a = some (digv a) := by
 unfold F53.f digv
 by_cases h1 : a ≥ 48 <;> by_cases h2 : a ≤ 57 <;> simp [h1, h2]
theorem F49.eq (a : Int) : F49.f a = some (letv a || digv a) := by
 unfold F49.f
 rw [F50.eq, F51.eq]
 cases letv a <;> simp
def gall (b : ByteArray) : Nat → Nat → Bool
 | 0, _ => true
 | n + 1, i => (letv (bt b (i : Int)) || digv (bt b (i : Int))) && gall b n (i + 1)
def codev (b : ByteArray) : Bool := gall b b.size 0 && (decide ((b.size : Int) ≥ 1) && decide ((b.size : Int) ≤ 12))
theorem F48.go (b : ByteArray) (hb : b.size ≤ 1000) : ∀ n i, i + n = b.size → Ev (fun k => F48.l0 k b (b.size : Int) (i : Int)) (gall b n i)
 | 0, i, h => by
  refine Ev.succ ?_; simp only [F48.l0, if_neg (show ¬ (i : Int) < (b.size : Int) by omega)]; exact Ev.const _
 | n + 1, i, h => by
  refine Ev.succ ?_; simp only [F48.l0, if_pos (show (i : Int) < (b.size : Int) by omega), if_pos (show (0 : Int) ≤ (i : Int) by omega), F49.eq, Option.bind_some]
  unfold gall
  rw [w64 (n := (i : Int) + 1) (by omega) (by omega), show (i : Int) + 1 = ((i + 1 : Nat) : Int) by omega]
  cases (letv (bt b (i : Int)) || digv (bt b (i : Int))) with
  | false => exact Ev.const _
  | true =>
   simp only [if_true, Bool.true_and]; exact F48.go b hb n (i + 1) (by omega)
theorem size_nil (b : ByteArray) : b.toList = ([] : List UInt8) ↔ b.size = 0 := by
 rw [toList_nil_iff_emptyBytes]
 constructor
 ·rintro rfl; rfl
 ·intro h; exact ByteArray.ext (Array.eq_empty_of_size_eq_zero h)
theorem F26.eq (b : ByteArray) : Ev (fun k => F26.f k b) (codev b) := by
 unfold F26.f codev
 by_cases c : b.toList = ([] : List UInt8)
 ·have := (size_nil b).1 c; simp only [if_pos c, decide_eq_false (show ¬ (b.size : Int) ≥ 1 by omega), Bool.false_and, Bool.and_false]; exact Ev.const _
 ·have h1 : b.size ≠ 0 := fun h => c ((size_nil b).2 h); simp only [if_neg c, decide_eq_true (show (b.size : Int) ≥ 1 by omega), Bool.true_and]
  by_cases e : (b.size : Int) ≤ 12
  ·simp only [if_pos e, decide_eq_true e, Bool.and_true]
   unfold F48.f
   exact Ev.bind (F48.go b (by omega) b.size 0 (by omega)) (Ev.const _)
  ·simp only [if_neg e, decide_eq_false e, Bool.and_false]; exact Ev.const _
theorem F33.go (b : ByteArray) (hb : b.size ≤ 1000000000000000) : ∀ n i, i + n = b.size → Ev (fun k => F33.l0 k b (i : Int)) (gall b n i && (decide ((b.size : Int) ≥ 1) && decide ((b.size : Int) ≤ 12)))
 | 0, i, h => by
  refine Ev.succ ?_; simp only [F33.l0, if_neg (show ¬ (i : Int) < (b.size : Int) by omega), gall, Bool.true_and]
  by_cases c : (b.size : Int) ≥ 1
  ·simp only [if_pos c, decide_eq_true c, Bool.true_and]; exact Ev.const _
  ·simp only [if_neg c, decide_eq_false c, Bool.false_and]; exact Ev.const _
 | n + 1, i, h => by
  refine Ev.succ ?_; simp only [F33.l0, if_pos (show (i : Int) < (b.size : Int) by omega), if_pos (show (0 : Int) ≤ (i : Int) by omega), F52.eq, F53.eq, Option.bind_some]
  unfold gall
  rw [w64 (n := (i : Int) + 1) (by omega) (by omega), show (i : Int) + 1 = ((i + 1 : Nat) : Int) by omega]
  cases letv (bt b (i : Int)) with
  | true =>
   simp only [if_true, Bool.true_or, Bool.true_and]; exact F33.go b hb n (i + 1) (by omega)
  | false =>
   simp only [Bool.false_eq_true, if_false, Bool.false_or]
   cases digv (bt b (i : Int)) with
   | true =>
    simp only [if_true, Bool.true_and]; exact F33.go b hb n (i + 1) (by omega)
   | false => exact Ev.const _
theorem F33.eq (b : ByteArray) (hb : b.size ≤ 1000000000000000) : Ev (fun k => F33.f k b) (codev b) := by
 unfold F33.f codev
 exact F33.go b hb b.size 0 (by omega)
end Go.Proofs.YtegpappenmhndaaDoor.M
end
section
namespace Go.Proofs.YtegpappenmhndaaDoorW.PrintLast
open Go.RowKit Go.Proofs.YtegpappenmhndaaDoorW.PrintWords
set_option linter.unusedSimpArgs false
set_option linter.unusedVariables false
section
variable {P : Program} {κ ν : Type} [DecidableEq κ]
def aget : List (κ × ν) → κ → Option ν
  | [], _ => none
  | p :: r, k => if p.1 = k then some p.2 else aget r k
def aput : List (κ × ν) → κ → ν → List (κ × ν)
  | [], k, v => [(k, v)]
  | p :: r, k, v => if p.1 = k then (k, v) :: r else p :: aput r k v
def hitAt (k : κ) : List κ → List MapEntry → Nat → Option (Nat × Value)
  | k' :: ks, e :: es, i => if k' = k then some (i, e.val) else hitAt k ks es (i + 1)
  | _, _, _ => none
structure KeyT (P : Program) (t : TypeId) (ek : κ → Value) : Prop where
  check : ∀ (e : Bool) (k : κ) (w : World), (Instr.checkKey e 10000 t (ek k)).run P w = .ok () w
  find : ∀ (k : κ) (l : List MapEntry) (ks : List κ) (w : World), l.map (·.key) = ks.map ek → (Instr.findKey t (ek k) l).run P w = .ok (hitAt k ks l 0) w
  same : ∀ k, Instr.sameBits 10000 (ek k) (ek k) = true
theorem findNow_hit {d : TypeDesc} {ek : κ → Value} (h : ∀ k k', Instr.sameNow d (ek k) (ek k') = some (decide (k' = k))) (k : κ) : ∀ (l : List MapEntry) (ks : List κ) (i : Nat), l.map (·.key) = ks.map ek → Instr.findNow d (ek k) l i = some (hitAt k ks l i)
  | [], [], i, _ => rfl
  | [], _ :: _, i, e => by simp at e
  | _ :: _, [], i, e => by simp at e
  | x :: l, k' :: ks, i, e => by
    simp only [List.map_cons, List.cons.injEq] at e
    unfold Instr.findNow hitAt
    rw [e.1, h k k']
    by_cases c : k' = k
    · simp [c]
    · simp [c, findNow_hit h k l ks (i + 1) e.2]
theorem KeyT.string {t : TypeId} (ht : P.underlying t = some .string) : KeyT P t Value.string where
  check := fun e k w => MapKept.run_checkKey (d := .string) ht (by simp [MapKept.IsKey]) e 9999
  find := fun k l ks w e => MapKept.run_findKey ht (findNow_hit (fun k k' => by
    simp only [Instr.sameNow, Option.some.injEq]
    by_cases c : k' = k
    · subst c; simp only [decide_true]; exact (MapKept.bytes_beq k' k').2 rfl
    · rw [decide_eq_false c]; rw [Bool.eq_false_iff]; exact fun h => c ((MapKept.bytes_beq k k').1 h).symm) k l ks 0 e)
  same := fun k => by simp only [Instr.sameBits]; exact (MapKept.bytes_beq k k).2 rfl
theorem KeyT.int {t : TypeId} {q : IntKind} (ht : P.underlying t = some (.int q)) : KeyT P t (Value.int q) where
  check := fun e k w => MapKept.run_checkKey (d := .int q) ht (by simp [MapKept.IsKey]) e 9999
  find := fun k l ks w e => MapKept.run_findKey ht (findNow_hit (fun k k' => by
    simp only [Instr.sameNow, if_true, Option.some.injEq]
    by_cases c : k' = k
    · subst c; simp
    · rw [decide_eq_false c]; exact beq_eq_false_iff_ne.2 (fun h => c h.symm)) k l ks 0 e)
  same := fun k => by simp [Instr.sameBits]
def MapIs (ek : κ → Value) (ev : ν → Value) (w : World) (b : Nat) (L : List (κ × ν)) : Prop :=
  ∃ (es : Array MapEntry) (clock : Nat), w.heap[b]? = some (.map es clock) ∧ es.toList.map (·.key) = L.map (fun p => ek p.1) ∧ es.toList.map (·.val) = L.map (fun p => ev p.2) ∧ (∀ e ∈ es.toList, e.born < clock) ∧ es.toList.Pairwise (fun x y => x.born ≠ y.born)
variable {ek : κ → Value} {ev : ν → Value} {w w' : World} {b : Nat} {L : List (κ × ν)}
omit [DecidableEq κ] in
theorem MapIs_made (ek : κ → Value) (ev : ν → Value) (w : World) : MapIs ek ev (w.alloc (.map #[] 0)) w.heap.size [] :=
  ⟨#[], 0, heap_alloc_new w _, rfl, rfl, by simp, by simp⟩
omit [DecidableEq κ] in
theorem MapIs.lt (h : MapIs ek ev w b L) : b < w.heap.size := by
  obtain ⟨es, clock, hb, _⟩ := h; exact (Array.getElem?_eq_some_iff.1 hb).1
omit [DecidableEq κ] in
theorem MapIs.move (h : MapIs ek ev w b L) (e : w'.heap[b]? = w.heap[b]?) : MapIs ek ev w' b L := by
  obtain ⟨es, clock, hb, r⟩ := h; exact ⟨es, clock, e.trans hb, r⟩
omit [DecidableEq κ] in
theorem MapIs.below (h : MapIs ek ev w b L) (hb : Below w.heap.size w w') : MapIs ek ev w' b L := h.move (hb.block b h.lt)
omit [DecidableEq κ] in
theorem MapIs.alloc (h : MapIs ek ev w b L) (o : Obj) : MapIs ek ev (w.alloc o) b L := h.move (Below.heap_alloc w o b h.lt)
theorem hitAt_get (k : κ) : ∀ (L : List (κ × ν)) (l : List MapEntry) (i : Nat), l.map (·.val) = L.map (fun p => ev p.2) → (hitAt k (L.map (·.1)) l i).map (·.2) = (aget L k).map ev
  | [], l, i, e => by cases l <;> simp [hitAt, aget] at *
  | p :: L, [], i, e => by simp at e
  | p :: L, x :: l, i, e => by
    simp only [List.map_cons, List.cons.injEq] at e; simp only [List.map_cons, hitAt, aget]
    by_cases c : p.1 = k
    · simp [c, e.1]
    · simp only [if_neg c]; exact hitAt_get k L l (i + 1) e.2
def lookV (ev : ν → Value) (L : List (κ × ν)) (k : κ) (z : Value) (c : Bool) : Value :=
  if c = true then .tuple #[((aget L k).map ev).getD z, .bool (aget L k).isSome] else ((aget L k).map ev).getD z
theorem MapIs.look {mt kt vt : TypeId} (h : MapIs ek ev w b L) (K : KeyT P kt ek) (ht : P.underlying mt = some (.map kt vt)) {z : Value} (hz : (zeroValue vt).run P w = .ok z w) (k : κ) (c : Bool) : (Instr.lookup mt (.map (some b)) (ek k) c).run P w = .ok (lookV ev L k z c) w := by
  obtain ⟨es, clock, hb, hk, hv, _⟩ := h; have hf := K.find k es.toList (L.map (·.1)) w (by rw [hk, List.map_map]; rfl); have hg := hitAt_get (ev := ev) k L es.toList 0 hv
  unfold Instr.lookup lookV
  simp only [Sem.run_bind, run_underlying ht, Result.andThen_ok, MapKept.run_getObj_map hb, K.check, hf, Sem.run_pure]
  cases hh : hitAt k (L.map (·.1)) es.toList 0 with
  | none =>
    rw [hh] at hg; have : aget L k = none := by cases ha : aget L k <;> simp [ha] at hg ⊢
    cases c <;> simp [this, Sem.run_bind, hz, Result.andThen, MapKept.run_getObj_map hb, K.check, hf, hh]
  | some r =>
    obtain ⟨i, v⟩ := r; rw [hh] at hg
    cases ha : aget L k with
    | none => simp [ha] at hg
    | some u =>
      simp [ha] at hg
      cases c <;> simp [hg, Sem.run_bind, Result.andThen, MapKept.run_getObj_map hb, K.check, hf, hh]
theorem hitAt_some (k : κ) : ∀ (L : List (κ × ν)) (l : List MapEntry) (i j : Nat) (v : Value), l.map (·.key) = L.map (fun p => ek p.1) → l.map (·.val) = L.map (fun p => ev p.2) → hitAt k (L.map (·.1)) l i = some (j, v) →
    ∃ n e, j = i + n ∧ l[n]? = some e ∧ e.key = ek k ∧ ∀ (f : MapEntry → MapEntry) (u : ν), (f e).key = ek k → (f e).val = ev u → (l.modify n f).map (·.key) = (aput L k u).map (fun p => ek p.1) ∧ (l.modify n f).map (·.val) = (aput L k u).map (fun p => ev p.2)
  | [], l, i, j, v, e1, e2, h => by cases l <;> simp [hitAt] at h
  | p :: L, [], i, j, v, e1, e2, h => by simp at e1
  | p :: L, x :: l, i, j, v, e1, e2, h => by
    simp only [List.map_cons, List.cons.injEq] at e1 e2; simp only [List.map_cons, hitAt] at h
    by_cases c : p.1 = k
    · rw [if_pos c] at h; simp only [Option.some.injEq, Prod.mk.injEq] at h; refine ⟨0, x, by omega, rfl, by rw [e1.1, c], fun f u hk hv => ?_⟩
      simp [aput, c, hk, hv, e1.2, e2.2]
    · rw [if_neg c] at h; obtain ⟨n, e, h1, h2, h3, h4⟩ := hitAt_some k L l (i + 1) j v e1.2 e2.2 h; refine ⟨n + 1, e, by omega, by simpa using h2, h3, fun f u hk hv => ?_⟩; have := h4 f u hk hv
      simp [aput, c, this.1, this.2, e1.1, e2.1]
theorem hitAt_none (k : κ) : ∀ (L : List (κ × ν)) (l : List MapEntry) (i : Nat), l.length = L.length → hitAt k (L.map (·.1)) l i = none → ∀ v, aput L k v = L ++ [(k, v)]
  | [], l, i, e, h, v => rfl
  | p :: L, [], i, e, h, v => by simp at e
  | p :: L, x :: l, i, e, h, v => by
    simp only [List.map_cons, hitAt] at h
    by_cases c : p.1 = k
    · rw [if_pos c] at h; cases h
    · rw [if_neg c] at h
      simp [aput, c, hitAt_none k L l (i + 1) (by simpa using e) h v]
theorem pairwise_modify {l : List MapEntry} (h : l.Pairwise (fun x y => x.born ≠ y.born)) (n : Nat) (f : MapEntry → MapEntry) (hf : ∀ e, (f e).born = e.born) : (l.modify n f).Pairwise (fun x y => x.born ≠ y.born) := by
  have e : (l.modify n f).map (·.born) = l.map (·.born) := by
    apply List.ext_getElem?; intro i; simp only [List.getElem?_map, List.getElem?_modify]
    cases l[i]? with
    | none => simp
    | some x => by_cases c : n = i <;> simp [c, hf]
  have h2 : (l.map (·.born)).Pairwise (· ≠ ·) := List.pairwise_map.2 h; rw [← e] at h2; exact List.pairwise_map.1 h2
theorem mem_modify {l : List MapEntry} {n : Nat} {f : MapEntry → MapEntry} {x : MapEntry} (hf : ∀ e, (f e).born = e.born) (h : x ∈ l.modify n f) : ∃ y ∈ l, x.born = y.born := by
  obtain ⟨i, hi⟩ := List.getElem?_of_mem h; rw [List.getElem?_modify] at hi
  cases hl : l[i]? with
  | none => simp [hl] at hi
  | some y =>
    refine ⟨y, List.mem_of_getElem? hl, ?_⟩
    by_cases c : n = i
    · simp [hl, c] at hi; rw [← hi, hf]
    · simp [hl, c] at hi; rw [hi]
theorem grown_set (w : World) (b : Nat) (o : Obj) : w.grownBy { w with heap := w.heap.setIfInBounds b o } (some b) :=
  ⟨rfl, rfl, rfl, by simp, fun i _ hi => by simp [Array.getElem?_setIfInBounds]; intro e; exact absurd (by rw [e]) hi⟩
theorem MapIs.upd {mt kt vt : TypeId} (h : MapIs ek ev w b L) (K : KeyT P kt ek) (ht : P.underlying mt = some (.map kt vt)) (k : κ) (v : ν) : ∃ w', (Instr.mapUpdate mt (.map (some b)) (ek k) (ev v)).run P w = .ok () w' ∧ MapIs ek ev w' b (aput L k v) ∧ w.grownBy w' (some b) ∧ w'.heap.size = w.heap.size := by
  obtain ⟨es, clock, hb, hk, hv, hbn, hpw⟩ := h; have hlt : b < w.heap.size := (Array.getElem?_eq_some_iff.1 hb).1; have hlen : es.toList.length = L.length := by have := congrArg List.length hk; simpa using this
  have hf := K.find k es.toList (L.map (·.1)) w (by rw [hk, List.map_map]; rfl); have hset : ∀ o : Obj, (w.heap.setIfInBounds b o)[b]? = some o := fun o => by simp [Array.getElem?_setIfInBounds, hlt]
  cases hh : hitAt k (L.map (·.1)) es.toList 0 with
  | none =>
    rw [hh] at hf; refine ⟨_, ?_, ⟨es.push { key := ek k, val := ev v, born := clock }, clock + 1, hset _, ?_, ?_, ?_, ?_⟩, grown_set w b _, by simp⟩
    · unfold Instr.mapUpdate
      simp only [Sem.run_bind, run_underlying ht, Result.andThen_ok, MapKept.run_getObj_map hb, K.check, hf]; exact MapKept.run_setObj_map _ hb
    · rw [hitAt_none k L _ 0 hlen hh]; simp [hk]
    · rw [hitAt_none k L _ 0 hlen hh]; simp [hv]
    · intro e he
      simp at he
      rcases he with he | rfl
      · have := hbn e (by simpa using he); omega
      · simp
    · rw [Array.toList_push, List.pairwise_append]; refine ⟨hpw, by simp, fun x hx y hy => ?_⟩
      simp at hy
      subst hy; have := hbn x hx; show x.born ≠ clock
      omega
  | some r =>
    obtain ⟨j, u⟩ := r; obtain ⟨n, e, hj, hn, hek, hm⟩ := hitAt_some (ev := ev) k L es.toList 0 j u hk hv hh; obtain rfl : j = n := by omega
    rw [hh] at hf; have hn' : es[j]? = some e := by simpa using hn
    have hm2 := hm (fun e => { e with key := ek k, val := ev v }) v rfl rfl; refine ⟨_, ?_, ⟨es.modify j (fun e => { e with key := ek k, val := ev v }), clock, hset _, ?_, ?_, ?_, ?_⟩, grown_set w b _, by simp⟩
    · unfold Instr.mapUpdate
      simp only [Sem.run_bind, run_underlying ht, Result.andThen_ok, MapKept.run_getObj_map hb, K.check, hf, hn', Option.map_some, Option.getD_some, hek, Instr.keyThatStays, K.same, if_true, Sem.run_pure]; exact MapKept.run_setObj_map _ hb
    · simpa using hm2.1
    · simpa using hm2.2
    · intro x hx; obtain ⟨y, hy, hb2⟩ := mem_modify (f := fun e => { e with key := ek k, val := ev v }) (n := j) (l := es.toList) (fun _ => rfl) (by simpa using hx); rw [hb2]; exact hbn y hy
    · have := pairwise_modify hpw j (fun e => { e with key := ek k, val := ev v }) (fun _ => rfl)
      simpa using this
theorem lookL_ {ops : Array Oper} {Q : Exit → Act → World → Prop} {rest : List Oper} {o : Oper} {a : Act} (hg : o.guard = none) {m x : Operand} {mt kt vt : TypeId} {c : Bool} (hop : o.op = .lookup mt m x c) (ht : P.underlying mt = some (.map kt vt)) (K : KeyT P kt ek) {z : Value} (hz : ∀ w, (zeroValue vt).run P w = .ok z w) (M : MapIs ek ev w b L) (k : κ) (hm : a.eval m = .map (some b)) (hx : a.eval x = ek k)
    (h : wpList P ops Q rest (a.put o.dst (lookV ev L k z c)) w) : wpList P ops Q (o :: rest) a w := by
  refine wpList_plain hg fun K' hK' => ?_
  unfold Oper.wp
  simp only [execOp, hop, hm, hx, Sem.run_bind, M.look K ht (hz w) k c, Result.andThen_ok, Sem.run_pure]; exact hK' _ _ h
theorem storeL_ {ops : Array Oper} {Q : Exit → Act → World → Prop} {rest : List Oper} {o : Oper} {a : Act} (hg : o.guard = none) {m x v : Operand} {mt kt vt : TypeId} (hop : o.op = .mapUpdate mt m x v) (ht : P.underlying mt = some (.map kt vt)) (K : KeyT P kt ek) (M : MapIs ek ev w b L) (k : κ) (u : ν) (hm : a.eval m = .map (some b)) (hx : a.eval x = ek k) (hv : a.eval v = ev u)
    (h : ∀ w', MapIs ek ev w' b (aput L k u) → w.grownBy w' (some b) → w'.heap.size = w.heap.size → wpList P ops Q rest (a.put o.dst undef) w') : wpList P ops Q (o :: rest) a w := by
  refine wpList_plain hg fun K' hK' => ?_; obtain ⟨w', hrun, h1, h2, h3⟩ := M.upd K ht k u
  unfold Oper.wp
  simp only [execOp, hop, hm, hx, hv, Sem.run_bind, hrun, Result.andThen_ok, Sem.run_pure]; exact hK' _ _ (h w' h1 h2 h3)
end
end Go.Proofs.YtegpappenmhndaaDoorW.PrintLast
end
section
namespace Go.Proofs.YtegpappenmhndaaDoorW.PrintLast
open Go.RowKit Go.Proofs.YtegpappenmhndaaDoorW.PrintWords
set_option linter.unusedSimpArgs false
set_option linter.unusedVariables false
section
variable {P : Program} {κ ν : Type} [DecidableEq κ] {ek : κ → Value} {ev : ν → Value} {w w' : World} {b : Nat} {L : List (κ × ν)}
theorem findAsking_hit {t : TypeId} (he : ∀ (k k' : κ) (w : World), (Op.equal t (ek k) (ek k')).run P w = .ok (decide (k' = k)) w) (k : κ) : ∀ (l : List MapEntry) (ks : List κ) (i : Nat) (w : World), l.map (·.key) = ks.map ek → (Instr.findAsking t (ek k) l i).run P w = .ok (hitAt k ks l i) w
  | [], [], i, w, _ => rfl
  | [], _ :: _, i, w, e => by simp at e
  | _ :: _, [], i, w, e => by simp at e
  | x :: l, k' :: ks, i, w, e => by
    simp only [List.map_cons, List.cons.injEq] at e
    unfold Instr.findAsking hitAt
    rw [e.1]; simp only [Sem.run_bind, he, Result.andThen_ok]
    by_cases c : k' = k
    · simp [c]
    · simp only [decide_eq_false c, Bool.false_eq_true, if_false, if_neg c]; exact findAsking_hit he k l ks (i + 1) w e.2
theorem KeyT.struct {t : TypeId} {fs : Array Field} (ht : P.underlying t = some (.struct fs)) (hc : ∀ (e : Bool) (k : κ) (w : World), (Instr.checkKey e 10000 t (ek k)).run P w = .ok () w) (he : ∀ (k k' : κ) (w : World), (Op.equal t (ek k) (ek k')).run P w = .ok (decide (k' = k)) w) (hs : ∀ k, Instr.sameBits 10000 (ek k) (ek k) = true) : KeyT P t ek where
  check := hc
  find := fun k l ks w e => by
    have h := findAsking_hit he k l ks 0 w e
    unfold Instr.findKey
    simp only [Sem.run_bind, run_underlying ht, Result.andThen_ok]
    cases l with
    | nil => cases ks <;> simp [Instr.findNow, hitAt] at e ⊢
    | cons x l => simpa [Instr.findNow, Instr.sameNow] using h
  same := hs
omit [DecidableEq κ] in
theorem hitAt_fst [DecidableEq κ] (k : κ) : ∀ (ks : List κ) (l l' : List MapEntry) (i : Nat), l.length = l'.length → (hitAt k ks l i).map (·.1) = (hitAt k ks l' i).map (·.1)
  | [], l, l', i, e => by cases l <;> cases l' <;> simp [hitAt]
  | k' :: ks, [], l', i, e => by cases l' <;> simp [hitAt] at e ⊢
  | k' :: ks, x :: l, [], i, e => by simp at e
  | k' :: ks, x :: l, y :: l', i, e => by
    simp only [hitAt]
    by_cases c : k' = k
    · simp [c]
    · simp only [if_neg c]; exact hitAt_fst k ks l l' (i + 1) (by simpa using e)
theorem hitAt_val (k : κ) : ∀ (ks : List κ) (l : List MapEntry) (i j : Nat) (v : Value), hitAt k ks l i = some (j, v) → ∃ e, l[j - i]? = some e ∧ e.val = v ∧ i ≤ j
  | [], l, i, j, v, h => by cases l <;> simp [hitAt] at h
  | k' :: ks, [], i, j, v, h => by simp [hitAt] at h
  | k' :: ks, x :: l, i, j, v, h => by
    simp only [hitAt] at h
    by_cases c : k' = k
    · rw [if_pos c] at h; simp only [Option.some.injEq, Prod.mk.injEq] at h; obtain ⟨rfl, rfl⟩ := h; exact ⟨x, by simp, rfl, Nat.le_refl _⟩
    · rw [if_neg c] at h; obtain ⟨e, h1, h2, h3⟩ := hitAt_val k ks l (i + 1) j v h; refine ⟨e, ?_, h2, by omega⟩; rw [show j - i = (j - (i + 1)) + 1 by omega]
      simpa using h1
def EntryIs (ek : κ → Value) (ev : ν → Value) (w : World) (b : Nat) (L : List (κ × ν)) (k : κ) (st : Int) : Prop :=
  ∃ (es : Array MapEntry) (clock : Nat) (j : Nat) (e : MapEntry) (v : Value), w.heap[b]? = some (.map es clock) ∧ es.toList.map (·.key) = L.map (fun p => ek p.1) ∧ es.toList.map (·.val) = L.map (fun p => ev p.2) ∧ (∀ e ∈ es.toList, e.born < clock) ∧ es.toList.Pairwise (fun x y => x.born ≠ y.born) ∧ hitAt k (L.map (·.1)) es.toList 0 = some (j, v) ∧ es[j]? = some e ∧ (e.born : Int) = st
theorem EntryIs.move {k : κ} {st : Int} (h : EntryIs ek ev w b L k st) (e : w'.heap[b]? = w.heap[b]?) : EntryIs ek ev w' b L k st := by
  obtain ⟨es, clock, j, x, v, hb, r⟩ := h; exact ⟨es, clock, j, x, v, e.trans hb, r⟩
theorem EntryIs.map {k : κ} {st : Int} (h : EntryIs ek ev w b L k st) : MapIs ek ev w b L := by
  obtain ⟨es, clock, j, x, v, hb, hk, hv, hbn, hpw, _⟩ := h; exact ⟨es, clock, hb, hk, hv, hbn, hpw⟩
theorem hitAt_end (k : κ) (x : MapEntry) : ∀ (ks : List κ) (l : List MapEntry) (i : Nat), l.length = ks.length → hitAt k ks l i = none → hitAt k (ks ++ [k]) (l ++ [x]) i = some (i + l.length, x.val)
  | [], [], i, e, h => by simp [hitAt]
  | [], _ :: _, i, e, h => by simp at e
  | _ :: _, [], i, e, h => by simp at e
  | k' :: ks, y :: l, i, e, h => by
    simp only [List.cons_append, hitAt] at h ⊢
    by_cases c : k' = k
    · rw [if_pos c] at h; cases h
    · rw [if_neg c] at h ⊢; rw [hitAt_end k x ks l (i + 1) (by simpa using e) h]
      simp; omega
theorem aput_id (k : κ) (v : ν) : ∀ (L : List (κ × ν)), aget L k = some v → aput L k v = L
  | [], h => by simp [aget] at h
  | p :: r, h => by
    unfold aget at h
    unfold aput
    by_cases c : p.1 = k
    · rw [if_pos c] at h
      cases p
      simp_all
    · rw [if_neg c] at h ⊢; rw [aput_id k v r h]
theorem aput_aput (k : κ) (v u : ν) : ∀ (L : List (κ × ν)), aput (aput L k v) k u = aput L k u
  | [] => by simp [aput]
  | p :: r => by
    unfold aput
    by_cases c : p.1 = k
    · simp [c, aput]
    · simp only [if_neg c, aput, aput_aput k v u r]
theorem MapIs.entry {mt kt vt : TypeId} (h : MapIs ek ev w b L) (K : KeyT P kt ek) (ht : P.underlying mt = some (.map kt vt)) {z : ν} (hz : ∀ w, (zeroValue vt).run P w = .ok (ev z) w) (k : κ) : ∃ w' st, (Instr.mapEntry mt (.map (some b)) (ek k)).run P w = .ok (.tuple #[ev ((aget L k).getD z), .int .i64 st]) w' ∧ EntryIs ek ev w' b (aput L k ((aget L k).getD z)) k st ∧ w.grownBy w' (some b) ∧ w'.heap.size = w.heap.size := by
  obtain ⟨es, clock, hb, hk, hv, hbn, hpw⟩ := h; have hlt : b < w.heap.size := (Array.getElem?_eq_some_iff.1 hb).1; have hlen : es.toList.length = L.length := by have := congrArg List.length hk; simpa using this
  have hf := K.find k es.toList (L.map (·.1)) w (by rw [hk, List.map_map]; rfl); have hg := hitAt_get (ev := ev) k L es.toList 0 hv; have hset : ∀ o : Obj, (w.heap.setIfInBounds b o)[b]? = some o := fun o => by simp [Array.getElem?_setIfInBounds, hlt]
  cases hh : hitAt k (L.map (·.1)) es.toList 0 with
  | none =>
    rw [hh] at hf hg; have ha : aget L k = none := by cases ha : aget L k <;> simp [ha] at hg ⊢
    have hput := hitAt_none k L _ 0 hlen hh z; refine ⟨_, clock, ?_, ⟨es.push { key := ek k, val := ev z, born := clock }, clock + 1, es.toList.length, { key := ek k, val := ev z, born := clock }, ev z, hset _, ?_, ?_, ?_, ?_, ?_, ?_, rfl⟩, grown_set w b _, by simp⟩
    · unfold Instr.mapEntry
      simp only [Sem.run_bind, run_underlying ht, Result.andThen_ok, MapKept.run_getObj_map hb, K.check, hf, hz, MapKept.run_setObj_map _ hb, ha, Option.getD_none]
      rfl
    · rw [ha, Option.getD_none, hput]; simp [hk]
    · rw [ha, Option.getD_none, hput]; simp [hv]
    · intro e he
      simp at he
      rcases he with he | rfl
      · have := hbn e (by simpa using he); omega
      · simp
    · rw [Array.toList_push, List.pairwise_append]; refine ⟨hpw, by simp, fun x hx y hy => ?_⟩
      simp at hy
      subst hy; have := hbn x hx; show x.born ≠ clock
      omega
    · rw [ha, Option.getD_none, hput, Array.toList_push, List.map_append]; have := hitAt_end k { key := ek k, val := ev z, born := clock } (L.map (·.1)) es.toList 0 (by simpa using hlen) hh
      simpa using this
    · simp
  | some r =>
    obtain ⟨j, u⟩ := r; obtain ⟨n, e, hj, hn, hek, hm⟩ := hitAt_some (ev := ev) k L es.toList 0 j u hk hv hh; obtain rfl : j = n := by omega
    rw [hh] at hf hg
    obtain ⟨v0, ha⟩ : ∃ v0, aget L k = some v0 := by
      cases ha : aget L k with
      | none => simp [ha] at hg
      | some v0 => exact ⟨v0, rfl⟩
    have hu : u = ev v0 := by simpa [ha] using hg
    have hn' : es[j]? = some e := by simpa using hn
    have hev : e.val = ev v0 := by
      have h1 := hitAt_val k (L.map (·.1)) es.toList 0 j u hh; obtain ⟨e2, h2, h3, _⟩ := h1; rw [Nat.sub_zero] at h2; rw [h2] at hn
      cases hn
      rw [h3, hu]
    have hm2 := hm (fun e => { e with key := ek k }) v0 rfl hev; refine ⟨_, e.born, ?_, ⟨es.modify j (fun e => { e with key := ek k }), clock, j, { e with key := ek k }, u, hset _, ?_, ?_, ?_, ?_, ?_, ?_, rfl⟩, grown_set w b _, by simp⟩
    · unfold Instr.mapEntry
      simp only [Sem.run_bind, run_underlying ht, Result.andThen_ok, MapKept.run_getObj_map hb, K.check, hf, hn', Option.map_some, Option.getD_some, hek, Instr.keyThatStays, K.same, if_true, Sem.run_pure, MapKept.run_setObj_map _ hb, ha, hu]
      rfl
    · rw [ha, Option.getD_some]; simpa using hm2.1
    · rw [ha, Option.getD_some]; simpa using hm2.2
    · intro x hx; obtain ⟨y, hy, hb2⟩ := mem_modify (f := fun e => { e with key := ek k }) (n := j) (l := es.toList) (fun _ => rfl) (by simpa using hx); rw [hb2]; exact hbn y hy
    · have := pairwise_modify hpw j (fun e => { e with key := ek k }) (fun _ => rfl)
      simpa using this
    · rw [ha, Option.getD_some, aput_id k v0 L ha]; have h1 := hitAt_fst k (L.map (·.1)) es.toList (es.modify j (fun e => { e with key := ek k })).toList 0 (by simp); rw [hh] at h1
      cases h2 : hitAt k (L.map (·.1)) (es.modify j (fun e => { e with key := ek k })).toList 0 with
      | none => rw [h2] at h1; cases h1
      | some r =>
        obtain ⟨j2, u2⟩ := r; rw [h2] at h1; obtain rfl : j = j2 := Option.some.inj h1; obtain ⟨e2, h3, h4, _⟩ := hitAt_val k _ _ 0 j u2 h2; rw [Nat.sub_zero] at h3; have h5 : (es.modify j (fun e => { e with key := ek k })).toList[j]? = some { e with key := ek k } := by simp [hn']
        rw [h5] at h3
        cases h3
        rw [← h4, hu, ← hev]
    · rw [Array.getElem?_modify, if_pos rfl, hn']
      rfl
theorem pairwise_at {l : List MapEntry} (h : l.Pairwise (fun x y => x.born ≠ y.born)) {i j : Nat} {x y : MapEntry} (hi : l[i]? = some x) (hj : l[j]? = some y) (e : x.born = y.born) : i = j := by
  have hn : (l.map (·.born)).Nodup := List.pairwise_map.2 h; have h1 : (l.map (·.born))[i]? = some x.born := by simp [hi]
  have h2 : (l.map (·.born))[j]? = some x.born := by simp [hj, e]
  have hil := (List.getElem?_eq_some_iff.1 h1).1; exact (List.getElem?_inj hil hn).1 (h1.trans h2.symm)
theorem EntryIs.store {mt : TypeId} {k : κ} {st : Int} (h : EntryIs ek ev w b L k st) (u : ν) : ∃ w', (Instr.entryStore mt (.map (some b)) (.int .i64 st) (ev u)).run P w = .ok () w' ∧ MapIs ek ev w' b (aput L k u) ∧ w.grownBy w' (some b) ∧ w'.heap.size = w.heap.size := by
  obtain ⟨es, clock, j, e, v, hb, hk, hv, hbn, hpw, hh, hn', hst⟩ := h; have hlt : b < w.heap.size := (Array.getElem?_eq_some_iff.1 hb).1; obtain ⟨n, e2, hj, hn, hek, hm⟩ := hitAt_some (ev := ev) k L es.toList 0 j v hk hv hh; obtain rfl : j = n := by omega
  have hn2 : es.toList[j]? = some e := by simpa using hn'
  rw [hn2] at hn
  cases hn
  have hset : ∀ o : Obj, (w.heap.setIfInBounds b o)[b]? = some o := fun o => by simp [Array.getElem?_setIfInBounds, hlt]
  have hi : es.findIdx? (fun e => (e.born : Int) == st) = some j := by
    rw [Array.findIdx?_eq_some_iff_getElem]; have hjl := (Array.getElem?_eq_some_iff.1 hn').1; have hje := (Array.getElem?_eq_some_iff.1 hn').2; refine ⟨hjl, by simp [hje, hst], fun i hi => ?_⟩; have hil : i < es.size := by omega
    have h1 : es.toList[i]? = some es[i] := by simp
    have := fun q => pairwise_at hpw h1 hn2 q; intro hb2; have h3 : (es[i].born : Int) = st := by simpa using hb2
    have := this (by omega)
    omega
  have hm2 := hm (fun e => { e with val := ev u }) u hek rfl; refine ⟨_, ?_, ⟨es.modify j (fun e => { e with val := ev u }), clock, hset _, ?_, ?_, ?_, ?_⟩, grown_set w b _, by simp⟩
  · unfold Instr.entryStore
    simp only [Sem.run_bind, MapKept.run_getObj_map hb, Result.andThen_ok, asInt, asIntOf, Sem.run_pure, hi, MapKept.run_setObj_map _ hb]
  · simpa using hm2.1
  · simpa using hm2.2
  · intro x hx; obtain ⟨y, hy, hb2⟩ := mem_modify (f := fun e => { e with val := ev u }) (n := j) (l := es.toList) (fun _ => rfl) (by simpa using hx); rw [hb2]; exact hbn y hy
  · have := pairwise_modify hpw j (fun e => { e with val := ev u }) (fun _ => rfl)
    simpa using this
theorem aget_aput_same (k : κ) (v : ν) : ∀ L : List (κ × ν), aget (aput L k v) k = some v
  | [] => by simp [aput, aget]
  | p :: L => by
    unfold aput
    by_cases c : p.1 = k
    · simp [c, aget]
    · simp [c, aget, aget_aput_same k v L]
theorem lookV_get {k : κ} {d q : ν} (h : (aget L k).getD d = q) : lookV ev L k (ev d) false = ev q := by
  subst h
  unfold lookV
  cases aget L k <;> rfl
omit [DecidableEq κ] in
theorem MapIs.alloc2 (h : MapIs ek ev w b L) (o1 o2 : Obj) (n : Nat) : MapIs ek ev (((w.alloc o1).alloc o2).drewN n) b L := (h.alloc o1).alloc o2
omit [DecidableEq κ] in
theorem MapIs.heap (h : MapIs ek ev w b L) (e : w'.heap = w.heap) : MapIs ek ev w' b L := h.move (by rw [e])
theorem exec_look {o : Oper} {ρ : Operand → Value} {w1 : World} {mt : TypeId} {m x : Operand} {c : Bool} {mv kv u v : Value} (hop : o.op = .lookup mt m x c) (hm : ρ m = mv) (hx : ρ x = kv) (h : (Instr.lookup mt mv kv c).run P w1 = .ok u w1) (e : u = v) : (execOp ρ o).run P w1 = .ok (.value v) w1 := by
  simp only [execOp, hop, hm, hx, Sem.run_bind, h, Result.andThen_ok, Sem.run_pure, e]
theorem exec_entry {o : Oper} {ρ : Operand → Value} {w1 w2 : World} {mt : TypeId} {m x : Operand} {mv kv v : Value} (hop : o.op = .mapEntry mt m x) (hm : ρ m = mv) (hx : ρ x = kv) (h : (Instr.mapEntry mt mv kv).run P w1 = .ok v w2) : (execOp ρ o).run P w1 = .ok (.value v) w2 := by
  simp only [execOp, hop, hm, hx, Sem.run_bind, h, Result.andThen_ok, Sem.run_pure]
theorem exec_estore {o : Oper} {ρ : Operand → Value} {w1 w2 : World} {mt : TypeId} {m st x : Operand} {mv sv v : Value} (hop : o.op = .entryStore mt m st x) (hm : ρ m = mv) (hs : ρ st = sv) (hx : ρ x = v) (h : (Instr.entryStore mt mv sv v).run P w1 = .ok () w2) : (execOp ρ o).run P w1 = .ok .skip w2 := by
  simp only [execOp, hop, hm, hs, hx, Sem.run_bind, h, Result.andThen_ok, Sem.run_pure]
theorem cell_heap {w1 w2 : World} (e : w2.heap = w1.heap) {a : Addr} : w2.cell? a = w1.cell? a := by
  unfold World.cell?
  rw [e]
theorem gcell {w1 w2 : World} {row : Option Nat} (h : w1.grownBy w2 row) {a : Addr} {v : Value} (hc : w1.cell? a = some v) (hne : some a.block ≠ row) : w2.cell? a = some v :=
  (h.cell_far a (World.block_lt_of_cell? w1 a hc) hne).trans hc
theorem nameW {c : Code} {Q : Exit → Act → World → Prop} {a : Act} {w1 : World} (h : ∀ W, w1 = W → c.wp P Q a W) : c.wp P Q a w1 := h w1 rfl
end
end Go.Proofs.YtegpappenmhndaaDoorW.PrintLast
end
section
namespace Go.Proofs.YtegpappenmhndaaDoor.M
open Go.RowKit Go.Proofs.YtegpappenmhndaaDoorW.PrintWords Go.Proofs.YtegpappenmhndaaDoorW.PrintLast Go.Proofs.YtegpappenmhndaaDoorW.PrintMore
attribute [local go_sem] max2_int min2_int max_two min_two max_three min_three max_four min_four
set_option linter.unusedVariables false
set_option linter.unusedSimpArgs false
def F55.f (a0 : Int) : Option (Int) := if a0 = 3 then (some 2) else (some 1)
set_option maxHeartbeats 8000000 in
set_option maxRecDepth 100000 in
theorem F55.calls (a0 : Int) (r : Int) (w : World) (h : F55.f a0 = some r) :
    Calls Tryd.prog 55 #[.int .i64 a0] w fun e w' => e = .returned (.int .i64 r) ∧ Drawn0 w w' := by
 unfold F55.f at h
 have H := h; clear h
 by_cases c2 : a0 = 3
 ·rw [if_pos c2] at H; have c2b0 := bT_ c2; have c2b1 := bF_ c2; clear c2; obtain rfl := Option.some.inj H; go_enter Tryd.func55, Tryd.ntmps55
  go_wp2
  go_ret
  exact ⟨pbb2_0, pbb2_1⟩
 ·rw [if_neg c2] at H; have c2b0 := nF_ c2; have c2b1 := nT_ c2; obtain rfl := Option.some.inj H; go_enter Tryd.func55, Tryd.ntmps55
  go_wp2
  go_ret
  exact ⟨pbb2_0, pbb2_1⟩
def F31.f (a0 : Int) : Option (Bool) := if a0 = 3 then (some true) else (if a0 = 4 then (some true) else (some (a0 == 5)))
set_option maxHeartbeats 8000000 in
set_option maxRecDepth 100000 in
theorem F31.calls (a0 : Int) (r : Bool) (w : World) (h : F31.f a0 = some r) :
    Calls Tryd.prog 31 #[.int .i64 a0] w fun e w' => e = .returned (.bool r) ∧ Drawn0 w w' := by
 unfold F31.f at h
 have H := h; clear h
 by_cases c2 : a0 = 3
 ·rw [if_pos c2] at H; have c2b0 := bT_ c2; have c2b1 := bF_ c2; clear c2; obtain rfl := Option.some.inj H; go_enter Tryd.func31, Tryd.ntmps31
  go_wp2
  go_ret
  exact ⟨pbb2_0, pbb2_1⟩
 ·rw [if_neg c2] at H; have c2b0 := nF_ c2; have c2b1 := nT_ c2
  by_cases c3 : a0 = 4
  ·rw [if_pos c3] at H; have c3b0 := bT_ c3; have c3b1 := bF_ c3; clear c3; obtain rfl := Option.some.inj H; go_enter Tryd.func31, Tryd.ntmps31
   go_wp2
   go_ret
   exact ⟨pbb2_0, pbb2_1⟩
  ·rw [if_neg c3] at H; have c3b0 := nF_ c3; have c3b1 := nT_ c3; obtain rfl := Option.some.inj H; go_enter Tryd.func31, Tryd.ntmps31
   go_wp2
   go_ret
   exact ⟨pbb2_0, pbb2_1⟩
abbrev Mv := S23
def rtEnc (p : Int × Int) : Value := .agg #[.int .i64 p.1, .int .i64 p.2]
abbrev Rmap := List ((Int × Int) × Int)
theorem rt_check2 (n : Nat) (e : Bool) (p : Int × Int) (w : World) : (Instr.checkKey e (n + 2) 72 (rtEnc p)).run Tryd.prog w = .ok () w := by
 have hu := Tryd.underlying72; have hi := Tryd.underlying3; have hin : ∀ (a : Int) (w : World), (Instr.checkKey e (n + 1) 3 (.int .i64 a)).run Tryd.prog w = .ok () w := fun a w => MapKept.run_checkKey hi (by simp [MapKept.IsKey]) e n
 unfold rtEnc
 rw [Instr.checkKey]; have p0 : ∀ w, (part 3 #[.int .i64 p.1, .int .i64 p.2] 0).run Tryd.prog w = .ok (.int .i64 p.1) w := fun w => by go_simp
 have p1 : ∀ w, (part 3 #[.int .i64 p.1, .int .i64 p.2] 1).run Tryd.prog w = .ok (.int .i64 p.2) w := fun w => by go_simp
 simp only [Sem.run_bind, run_underlying hu, Result.andThen_ok]; rw [← Array.forIn_toList]; simp only [List.forIn_cons, List.forIn_nil]; rw [if_pos (by decide), if_pos (by decide)]; simp only [Sem.run_bind, p0, p1, hin, Result.andThen_ok, Sem.run_pure]
theorem rt_check (e : Bool) (p : Int × Int) (w : World) : (Instr.checkKey e 10000 72 (rtEnc p)).run Tryd.prog w = .ok () w := rt_check2 9998 e p w
theorem rt_eq (d : Nat) (w : World) (x0 y0 x1 y1 : Int) : (Op.equalIn (d + 2) 72 (.agg #[.int .i64 x0, .int .i64 x1]) (.agg #[.int .i64 y0, .int .i64 y1])).run Tryd.prog w = .ok (x0 == y0 && (x1 == y1)) w := by
 refine eqA_of Tryd.underlying72 (by kernel_rfl) ?_; refine eqf_cons (by rfl) (by go_simp; rfl) (by go_simp; rfl) (by go_simp) ?_; exact eqf_last (by rfl) (by go_simp; rfl) (by go_simp; rfl) (by go_simp)
theorem rt_equal (p q : Int × Int) (w : World) : (Op.equal 72 (rtEnc p) (rtEnc q)).run Tryd.prog w = .ok (decide (q = p)) w := by
 refine (rt_eq (Op.maxDepth - 2) w p.1 q.1 p.2 q.2).trans ?_
 congr 1
 obtain ⟨p1, p2⟩ := p; obtain ⟨q1, q2⟩ := q; rw [Bool.eq_iff_iff]; simp only [Bool.and_eq_true, beq_iff_eq, decide_eq_true_eq, Prod.mk.injEq]; exact ⟨fun h => ⟨h.1.symm, h.2.symm⟩, fun h => ⟨h.1.symm, h.2.symm⟩⟩
theorem rt_key : KeyT Tryd.prog 72 rtEnc := KeyT.struct Tryd.underlying72 rt_check rt_equal (fun k => by simp [rtEnc, Instr.sameBits])
theorem zero_int (w : World) : (zeroValue 3).run Tryd.prog w = .ok (.int .i64 0) w := by kernel_rfl
theorem two_below (w : World) (o1 o2 : Obj) (n : Nat) : Below w.heap.size w (((w.alloc o1).alloc o2).drewN n) := pw_below_drewN (below_alloc (below_alloc (Below.refl _ _) _) _) n
def F37.f (l0 : List Mv) (m : Mv) (L : Rmap) : Option (Int × Rmap) :=
 if m.f7 > (l0.length : Int) then some (28, L) else if m.f7 < 1 then none else
  if (rd_T23 l0 (m.f7 - 1)).f2.toList = m.f2.toList then
   (F55.f m.f3).bind fun t => if (rd_T23 l0 (m.f7 - 1)).f3 = t then
    (if m.f1 < (rd_T23 l0 (m.f7 - 1)).f1 then some (17, L) else
     if wrap64 (((aget L (m.f3, m.f7)).getD 0) + m.f4) > (rd_T23 l0 (m.f7 - 1)).f4 then some (21, aput L (m.f3, m.f7) (wrap64 (((aget L (m.f3, m.f7)).getD 0) + m.f4)))
     else some (0, aput L (m.f3, m.f7) (wrap64 (((aget L (m.f3, m.f7)).getD 0) + m.f4))))
    else some (28, L)
  else some (28, L)
set_option maxHeartbeats 4000000 in
set_option maxRecDepth 100000 in
theorem F37.calls (A0 : Option Addr) (c0 : Nat) (l0 : List Mv) (m : Mv) (b : Nat) (L : Rmap) (r : Int) (L' : Rmap) (w : World) (hr0 : Kd.C k23 w A0 l0.length l0) (hc0 : l0.length ≤ c0) (hm : MapIs rtEnc (Value.int .i64) w b L) (h : F37.f l0 m L = some (r, L')) :
  Calls Tryd.prog 37 #[.slice A0 l0.length c0, .agg #[.int .i64 m.f0, .int .i64 m.f1, .string m.f2, .int .i64 m.f3, .int .i64 m.f4, .int .i64 m.f5, .string m.f6, .int .i64 m.f7], .map (some b)] w fun e w' => e = .returned (.int .i64 r) ∧ MapIs rtEnc (Value.int .i64) w' b L' ∧ w.grownBy w' (some b) := by
 have HM := Aside0.mk hm; clear hm
 unfold F37.f at h
 by_cases c1 : m.f7 > (l0.length : Int)
 ·rw [if_pos c1] at h; obtain ⟨rfl, rfl⟩ := Prod.mk.inj (Option.some.inj h); clear h hr0 hc0; have c1b : decide ((l0.length : Int) < m.f7) = true := decide_eq_true c1; go_enter Tryd.func37, Tryd.ntmps37
  go_wp2
  go_ret
  exact ⟨rfl, HM.out.alloc _, World.grownBy_alloc _ _ _⟩
 rw [if_neg c1] at h
 by_cases c2 : m.f7 < 1
 ·rw [if_pos c2] at h; cases h
 rw [if_neg c2] at h; have c1b : decide ((l0.length : Int) < m.f7) = false := decide_eq_false c1; have j0 : 0 ≤ m.f7 - 1 := by omega
 have j1 : m.f7 - 1 < (l0.length : Int) := by omega
 have j2 : m.f7 - 1 ≤ 9223372036854775806 := by have := hr0.2.1; omega
 obtain ⟨j, hj⟩ : ∃ j, m.f7 - 1 = j := ⟨_, rfl⟩; rw [hj] at h j0 j1 j2; obtain ⟨x, hx⟩ : ∃ v, rd_T23 l0 j = v := ⟨_, rfl⟩; obtain ⟨ad, e1, hx0, hx1, hx2, hx3, hx4, hx5, hx6, hx7⟩ := at_T23 hr0 j j0 j1
 cases e1
 rw [hx] at h hx0 hx1 hx2 hx3 hx4 hx5 hx6 hx7; have HB := Aside0.mk ((Below.refl w.heap.size w).alloc (Nat.le_refl _) (.cells #[.int .i64 m.f0, .int .i64 m.f1, .string m.f2, .int .i64 m.f3, .int .i64 m.f4, .int .i64 m.f5, .string m.f6, .int .i64 m.f7] 23)); replace hx0 := (HB.out.cell (World.block_lt_of_cell? w _ hx0)).trans hx0; replace hx1 := (HB.out.cell (World.block_lt_of_cell? w _ hx1)).trans hx1; replace hx2 := (HB.out.cell (World.block_lt_of_cell? w _ hx2)).trans hx2; replace hx3 := (HB.out.cell (World.block_lt_of_cell? w _ hx3)).trans hx3; replace hx4 := (HB.out.cell (World.block_lt_of_cell? w _ hx4)).trans hx4; replace hx5 := (HB.out.cell (World.block_lt_of_cell? w _ hx5)).trans hx5; replace hx6 := (HB.out.cell (World.block_lt_of_cell? w _ hx6)).trans hx6; replace hx7 := (HB.out.cell (World.block_lt_of_cell? w _ hx7)).trans hx7
 by_cases c3 : x.f2.toList = m.f2.toList
 ·rw [if_pos c3] at h; have c3b : (x.f2.toList == m.f2.toList) = true := beq_iff_eq.mpr c3; obtain ⟨t, ht, h⟩ := Option.bind_eq_some_iff.mp h; have HT := Aside0.mk ht; clear ht hr0 hc0
  by_cases c4 : x.f3 = t
  ·rw [if_pos c4] at h; have c4b : (x.f3 == t) = true := beq_iff_eq.mpr c4; clear c4
   by_cases c5 : m.f1 < x.f1
   ·rw [if_pos c5] at h; obtain ⟨rfl, rfl⟩ := Prod.mk.inj (Option.some.inj h); clear h; have c5b : decide (m.f1 < x.f1) = true := decide_eq_true c5; go_enter Tryd.func37, Tryd.ntmps37
    go_wp2
    repeat (go_quiet (first | (go_at_call 55; (with_reducible refine (F55.calls m.f3 t _ HT.out).mono ?_); rintro e w' ⟨rfl, ⟨nd, rfl⟩⟩; (try first | exact ⟨rfl, _, World.drewN_drewN _ _ _⟩ | exact ⟨rfl, _, Eq.trans (World.drewN_drewN _ _ _) (congrArg (World.drewN _) (Nat.add_assoc _ _ _))⟩))); try go_wp2)
    go_ret
    exact ⟨rfl, HM.out.alloc2 _ _ _, grown_of_below (two_below _ _ _ _) _⟩
   ·rw [if_neg c5] at h; have c5b : decide (m.f1 < x.f1) = false := decide_eq_false c5; clear c5; obtain ⟨q0, hq0⟩ : ∃ q, (aget L (m.f3, m.f7)).getD 0 = q := ⟨_, rfl⟩; rw [hq0] at h; have HQ := Aside0.mk hq0; have H := Aside0.mk h; clear h hq0; go_enter Tryd.func37, Tryd.ntmps37
    go_wp2
    repeat (go_quiet (first | (go_at_call 55; (with_reducible refine (F55.calls m.f3 t _ HT.out).mono ?_); rintro e w' ⟨rfl, ⟨nd, rfl⟩⟩; (try first | exact ⟨rfl, _, World.drewN_drewN _ _ _⟩ | exact ⟨rfl, _, Eq.trans (World.drewN_drewN _ _ _) (congrArg (World.drewN _) (Nat.add_assoc _ _ _))⟩))); try go_wp2)
    refine nameW ?_; intro W hW; have HBW : Aside0 (Below w.heap.size w W) := ⟨by rw [← hW]; exact below_alloc (two_below _ _ _ _) _⟩; have HMW : Aside0 (MapIs rtEnc (Value.int .i64) W b L) := ⟨by rw [← hW]; exact (HM.out.alloc2 _ _ _).alloc _⟩; have hk0 : W.cell? ⟨w.heap.size + 1 + 1, 0, none⟩ = some (.int .i64 m.f3) := by rw [← hW]; simp [go_sem]
    have hk1 : W.cell? ⟨w.heap.size + 1 + 1, 1, none⟩ = some (.int .i64 m.f7) := by rw [← hW]; simp [go_sem]
    have hm4 : W.cell? ⟨w.heap.size, 4, none⟩ = some (.int .i64 m.f4) := by rw [← hW]; simp [go_sem]
    have hx4 : W.cell? ⟨w.heap.size + 1, 4, none⟩ = some (.int .i64 x.f4) := by rw [← hW]; simp [go_sem]
    have hblt := HM.out.lt; have hkne : some (w.heap.size + 1 + 1) ≠ some b := by intro e; injection e with e; omega
    have hmne : some w.heap.size ≠ some b := by intro e; injection e with e; omega
    have hxne : some (w.heap.size + 1) ≠ some b := by intro e; injection e with e; omega
    clear hW; refine start_ (n := 9) (S := fun w' => W.grownBy w' (some b) ∧ ∃ L1, MapIs rtEnc (Value.int .i64) w' b L1 ∧ (aget L1 (m.f3, m.f7)).getD 0 = q0 ∧ ∀ v, aput L1 (m.f3, m.f7) v = aput L (m.f3, m.f7) v) (ds := [8]) (bq 9 0) (by kernel_rfl) rfl rfl ⟨grown_of_below (below_drew (Below.refl W.heap.size W)) (some b), L, HMW.out, HQ.out, fun _ => rfl⟩ (fun hHeld => ?_); refine pure_ (i := 0) (N := some 43) (v := ?_) (a' := ?_) (bq 9 1) rfl rfl (by kernel_rfl) (fun _ _ _ h => h) (Or.inl ⟨by rfl, ?_⟩) ?_ ?_; rotate_left
    ·intro w'; go_simp; with_reducible rfl
    rotate_left
    ·exact cbb2_0
    refine take_ (i := 1) (N := some 44) (v := ?_) (a' := ?_) (bq 9 3) rfl rfl (by kernel_rfl) (fun _ _ _ h => h) (Or.inl ⟨by rfl, ?_⟩) hHeld ?_ ?_; rotate_left
    ·rintro w' ⟨s0, L1, s1, s2, s3⟩; have k0 := (gcell s0 hk0 hkne); have k1 := (gcell s0 hk1 hkne); have k2 := (gcell s0 hm4 hmne); go_simp; with_reducible rfl
    rotate_left
    ·exact cbb2_0
    refine take_ (i := 2) (N := some 45) (v := .int .i64 q0) (a' := ?_) (bq 9 7) rfl rfl (by kernel_rfl) (fun _ _ _ h => h) (Or.inl ⟨by rfl, ?_⟩) hHeld ?_ ?_
    ·(rintro w' ⟨s0, L1, s1, s2, s3⟩; exact exec_look rfl rfl rfl (s1.look rt_key Tryd.underlying54 (zero_int w') (m.f3, m.f7) false) (lookV_get (ev := Value.int .i64) s2))
    rotate_left
    ·exact cbb2_0
    refine pure_ (i := 3) (N := some 46) (v := ?_) (a' := ?_) (bq 9 15) rfl rfl (by kernel_rfl) (fun _ _ _ h => h) (Or.inl ⟨by rfl, ?_⟩) ?_ ?_; rotate_left
    ·intro w'; go_simp; with_reducible rfl
    rotate_left
    ·exact cbb2_0
    refine take_ (i := 4) (N := some 47) (v := ?_) (a' := ?_) (bq 9 31) rfl rfl (by kernel_rfl) (fun _ _ _ h => h) (Or.inl ⟨by rfl, ?_⟩) hHeld ?_ ?_; rotate_left
    ·rintro w' ⟨s0, L1, s1, s2, s3⟩; have k0 := (gcell s0 hk0 hkne); have k1 := (gcell s0 hk1 hkne); have k2 := (gcell s0 hm4 hmne); go_simp; with_reducible rfl
    rotate_left
    ·exact cbb2_0
    refine pure_ (i := 5) (N := some 48) (v := ?_) (a' := ?_) (bq 9 63) rfl rfl (by kernel_rfl) (fun _ _ _ h => h) (Or.inl ⟨by rfl, ?_⟩) ?_ ?_; rotate_left
    ·intro w'; go_simp; with_reducible rfl
    rotate_left
    ·exact cbb2_0
    refine one_ (i := 6) (N := some 49) (bq 9 127) rfl rfl (by kernel_rfl) (by decide) (fun K hK => ?_); obtain ⟨s0, L1, s1, s2, s3⟩ := hHeld; obtain ⟨w2, st, hrun, hE, hg2, hz2⟩ := s1.entry rt_key Tryd.underlying54 (z := (0 : Int)) (fun w => zero_int w) (m.f3, m.f7); rw [s2] at hrun hE; refine value_ (w1 := w2) (v := .tuple #[.int .i64 q0, .int .i64 st]) (by rfl) rfl (exec_entry rfl rfl rfl hrun) ?_; refine hK.out _ _ ⟨s0.trans hg2, _, hE.map, by simp [aget_aput_same], fun v => (aput_aput _ _ _ _).trans (s3 v)⟩ (fun hHeld2 => ?_); clear hK K; refine norm_ (a' := ?_) ?_ ?_; rotate_left
    ·show Act.put _ (some 49) _ = _; simp only [Act.put, List.setIfInBounds_toArray, List.set_cons_zero, List.set_cons_succ, i64_w, i32_w]
     rfl
    refine pure_ (i := 7) (N := some 50) (v := ?_) (a' := ?_) (bq 9 255) rfl rfl (by kernel_rfl) (fun _ _ _ h => h) (Or.inl ⟨by rfl, ?_⟩) ?_ ?_; rotate_left
    ·intro w'; go_simp; with_reducible rfl
    rotate_left
    ·exact cbb2_0
    refine last_ (i := 8) (N := none) (bq 9 511) rfl rfl (by kernel_rfl) (by decide) (fun K hK => ?_); obtain ⟨w3, hrun3, hM3, hg3, hz3⟩ := hE.store (P := Tryd.prog) (mt := 54) (wrap64 (q0 + m.f4)); refine skip_ (w1 := w3) (by rfl) rfl (exec_estore rfl rfl rfl rfl hrun3) ?_; refine hK.out _ _ ?_; clear hK K; refine done_ (by kernel_rfl) ?_; have hk0' := gcell (s0.trans (hg2.trans hg3)) hk0 hkne; have hk1' := gcell (s0.trans (hg2.trans hg3)) hk1 hkne; have hx4' := gcell (s0.trans (hg2.trans hg3)) hx4 hxne; rw [aput_aput, s3] at hM3; have HM3 := Aside0.mk hM3; have HG3 := Aside0.mk (((grown_of_below HBW.out (some b)).trans (s0.trans (hg2.trans hg3)) : w.grownBy w3 (some b))); clear hE hrun hrun3 s0 s1 s2 s3 hg2 hg3 hz2 hz3 hHeld2 hk0 hk1 hm4 hx4
    go_wp2
    refine start_ (n := 6) (S := fun w' => w'.heap = w3.heap) (ds := []) (bq 6 0) (by kernel_rfl) rfl rfl rfl (fun hHeld => ?_); refine pure_ (i := 0) (N := some 51) (v := ?_) (a' := ?_) (bq 6 1) rfl rfl (by kernel_rfl) (fun _ _ _ h => h) (Or.inl ⟨by rfl, ?_⟩) ?_ ?_; rotate_left
    ·intro w'; go_simp; with_reducible rfl
    rotate_left
    ·exact cbb2_0
    refine take_ (i := 1) (N := some 52) (v := ?_) (a' := ?_) (bq 6 3) rfl rfl (by kernel_rfl) (fun _ _ _ h => h) (Or.inl ⟨by rfl, ?_⟩) hHeld ?_ ?_; rotate_left
    ·rintro w' s0; have k0 := (cell_heap s0).trans hk0'; have k1 := (cell_heap s0).trans hk1'; have k2 := (cell_heap s0).trans hx4'; go_simp; with_reducible rfl
    rotate_left
    ·exact cbb2_0
    refine take_ (i := 2) (N := some 53) (v := .int .i64 (wrap64 (q0 + m.f4))) (a' := ?_) (bq 6 7) rfl rfl (by kernel_rfl) (fun _ _ _ h => h) (Or.inl ⟨by rfl, ?_⟩) hHeld ?_ ?_
    ·(rintro w' s0; exact exec_look rfl rfl rfl ((hM3.move (by rw [s0])).look rt_key Tryd.underlying54 (zero_int w') (m.f3, m.f7) false) (lookV_get (ev := Value.int .i64) (q := wrap64 (q0 + m.f4)) (by rw [aget_aput_same]; rfl)))
    rotate_left
    ·exact cbb2_0
    refine pure_ (i := 3) (N := some 54) (v := ?_) (a' := ?_) (bq 6 15) rfl rfl (by kernel_rfl) (fun _ _ _ h => h) (Or.inl ⟨by rfl, ?_⟩) ?_ ?_; rotate_left
    ·intro w'; go_simp; with_reducible rfl
    rotate_left
    ·exact cbb2_0
    refine take_ (i := 4) (N := some 55) (v := ?_) (a' := ?_) (bq 6 31) rfl rfl (by kernel_rfl) (fun _ _ _ h => h) (Or.inl ⟨by rfl, ?_⟩) hHeld ?_ ?_; rotate_left
    ·rintro w' s0; have k0 := (cell_heap s0).trans hk0'; have k1 := (cell_heap s0).trans hk1'; have k2 := (cell_heap s0).trans hx4'; go_simp; with_reducible rfl
    rotate_left
    ·exact cbb2_0
    refine pure_ (i := 5) (N := some 56) (v := ?_) (a' := ?_) (bq 6 63) rfl rfl (by kernel_rfl) (fun _ _ _ h => h) (Or.inl ⟨by rfl, ?_⟩) ?_ ?_; rotate_left
    ·intro w'; go_simp; with_reducible rfl
    rotate_left
    ·exact cbb2_0
    refine done_ (by kernel_rfl) ?_; have H1 := H.out
    by_cases c6 : wrap64 (q0 + m.f4) > x.f4
    ·rw [if_pos c6] at H1; obtain ⟨rfl, rfl⟩ := Prod.mk.inj (Option.some.inj H1); have c6b : decide (x.f4 < wrap64 (q0 + m.f4)) = true := decide_eq_true c6
     go_wp2
     go_ret
     exact ⟨rfl, HM3.out.heap rfl, HG3.out.trans (grown_of_below (below_drew (Below.refl _ _)) _)⟩
    ·rw [if_neg c6] at H1; obtain ⟨rfl, rfl⟩ := Prod.mk.inj (Option.some.inj H1); have c6b : decide (x.f4 < wrap64 (q0 + m.f4)) = false := decide_eq_false c6
     go_wp2
     go_ret
     exact ⟨rfl, HM3.out.heap rfl, HG3.out.trans (grown_of_below (below_drew (Below.refl _ _)) _)⟩
  ·rw [if_neg c4] at h; have c4b : (x.f3 == t) = false := beq_eq_false_iff_ne.mpr c4; obtain ⟨rfl, rfl⟩ := Prod.mk.inj (Option.some.inj h); clear h; go_enter Tryd.func37, Tryd.ntmps37
   go_wp2
   repeat (go_quiet (first | (go_at_call 55; (with_reducible refine (F55.calls m.f3 t _ HT.out).mono ?_); rintro e w' ⟨rfl, ⟨nd, rfl⟩⟩; (try first | exact ⟨rfl, _, World.drewN_drewN _ _ _⟩ | exact ⟨rfl, _, Eq.trans (World.drewN_drewN _ _ _) (congrArg (World.drewN _) (Nat.add_assoc _ _ _))⟩))); try go_wp2)
   go_ret
   exact ⟨rfl, HM.out.alloc2 _ _ _, grown_of_below (two_below _ _ _ _) _⟩
 ·rw [if_neg c3] at h; obtain ⟨rfl, rfl⟩ := Prod.mk.inj (Option.some.inj h); clear h hr0 hc0; have c3b : (x.f2.toList == m.f2.toList) = false := beq_eq_false_iff_ne.mpr c3; go_enter Tryd.func37, Tryd.ntmps37
  go_wp2
  repeat (go_quiet (fail); try go_wp2)
  go_ret
  exact ⟨rfl, HM.out.alloc2 _ _ _, grown_of_below (two_below _ _ _ _) _⟩
end Go.Proofs.YtegpappenmhndaaDoor.M
end
section
namespace Go.Proofs.YtegpappenmhndaaDoorW.PrintLast
open Go.RowKit Go.Proofs.YtegpappenmhndaaDoorW.PrintWords Go.ChangeMaps
set_option linter.unusedSimpArgs false
set_option linter.unusedVariables false
section
variable {P : Program} {κ ν : Type} [DecidableEq κ] {ek : κ → Value} {ev : ν → Value} {w w' : World} {b r : Nat} {L rest : List (κ × ν)}
def IterIs (ek : κ → Value) (ev : ν → Value) (w : World) (r b : Nat) (rest : List (κ × ν)) : Prop :=
  ∃ (es : Array MapEntry) (clock since c0 : Nat) (seen : Array Nat), w.heap[b]? = some (.map es clock) ∧ w.heap[r]? = some (.mapIter (some b) since seen c0) ∧ (∀ x ∈ es.toList, x.born < since) ∧ since ≤ c0 ∧ since ≤ clock ∧ (es.toList.map (·.born)).Nodup ∧ (leftOf es seen).toList.map (·.key) = rest.map (fun p => ek p.1) ∧ (leftOf es seen).toList.map (·.val) = rest.map (fun p => ev p.2)
omit [DecidableEq κ] in
theorem IterIs.move (h : IterIs ek ev w r b rest) (e1 : w'.heap[b]? = w.heap[b]?) (e2 : w'.heap[r]? = w.heap[r]?) : IterIs ek ev w' r b rest := by
  obtain ⟨es, clock, since, c0, seen, h1, h2, h⟩ := h; exact ⟨es, clock, since, c0, seen, e1.trans h1, e2.trans h2, h⟩
omit [DecidableEq κ] in
theorem IterIs.lt (h : IterIs ek ev w r b rest) : b < w.heap.size ∧ r < w.heap.size := by
  obtain ⟨es, clock, since, c0, seen, h1, h2, h⟩ := h; exact ⟨(Array.getElem?_eq_some_iff.1 h1).1, (Array.getElem?_eq_some_iff.1 h2).1⟩
omit [DecidableEq κ] in
theorem IterIs.below (h : IterIs ek ev w r b rest) (hb : Below w.heap.size w w') : IterIs ek ev w' r b rest := h.move (hb.block b h.lt.1) (hb.block r h.lt.2)
omit [DecidableEq κ] in
theorem IterIs.grown (h : IterIs ek ev w r b rest) {row : Option Nat} (hg : w.grownBy w' row) (h1 : some b ≠ row) (h2 : some r ≠ row) : IterIs ek ev w' r b rest := h.move (hg.block b h.lt.1 h1) (hg.block r h.lt.2 h2)
omit [DecidableEq κ] in
theorem MapIs.grown (h : MapIs ek ev w b L) {row : Option Nat} (hg : w.grownBy w' row) (h1 : some b ≠ row) : MapIs ek ev w' b L := h.move (hg.block b h.lt h1)
theorem makeL_ {ops : Array Oper} {Q : Exit → Act → World → Prop} {more : List Oper} {o : Oper} {a : Act} (hg : o.guard = none) {mt : TypeId} (hop : o.op = .makeMap mt none)
    (h : wpList P ops Q more (a.put o.dst (.map (some w.heap.size))) (w.alloc (.map #[] 0))) : wpList P ops Q (o :: more) a w := by
  refine wpList_plain hg fun K' hK' => ?_
  unfold Oper.wp
  simp only [execOp, hop, Option.map_none, Instr.makeMap, newObj, Sem.run_bind, Sem.run, Result.andThen, Sem.run_pure]; exact hK' _ _ h
omit [DecidableEq κ] in
end
end Go.Proofs.YtegpappenmhndaaDoorW.PrintLast
end
section
namespace Go.Proofs.YtegpappenmhndaaDoor.M
open Go.RowKit Go.Proofs.YtegpappenmhndaaDoorW.PrintWords Go.Proofs.YtegpappenmhndaaDoorW.PrintLast Go.Proofs.YtegpappenmhndaaDoorW.PrintMore
attribute [local go_sem] max2_int min2_int max_two min_two max_three min_three max_four min_four
set_option linter.unusedVariables false
set_option linter.unusedSimpArgs false
def F73.f (a0 : Int) : Option (Bool) := if (Int.tmod a0 4) = 0 then (if (Int.tmod a0 100) = 0 then (some ((Int.tmod a0 400) == 0)) else (some true)) else (some ((Int.tmod a0 400) == 0))
set_option maxHeartbeats 8000000 in
set_option maxRecDepth 100000 in
theorem F73.calls (a0 : Int) (r : Bool) (w : World) (h : F73.f a0 = some r) :
    Calls Tryd.prog 73 #[.int .i64 a0] w fun e w' => e = .returned (.bool r) ∧ Drawn0 w w' := by
 unfold F73.f at h
 have H := h; clear h
 by_cases c2 : (Int.tmod a0 4) = 0
 ·rw [if_pos c2] at H; have c2b0 := bT_ c2; have c2b1 := bF_ c2; clear c2
  by_cases c3 : (Int.tmod a0 100) = 0
  ·rw [if_pos c3] at H; have c3b0 := bT_ c3; have c3b1 := bF_ c3; clear c3; obtain rfl := Option.some.inj H; go_enter Tryd.func73, Tryd.ntmps73
   go_wp2
   go_ret
   exact ⟨pbb2_0, pbb2_1⟩
  ·rw [if_neg c3] at H; have c3b0 := nF_ c3; have c3b1 := nT_ c3; obtain rfl := Option.some.inj H; go_enter Tryd.func73, Tryd.ntmps73
   go_wp2
   go_ret
   exact ⟨pbb2_0, pbb2_1⟩
 ·rw [if_neg c2] at H; have c2b0 := nF_ c2; have c2b1 := nT_ c2; obtain rfl := Option.some.inj H; go_enter Tryd.func73, Tryd.ntmps73
  go_wp2
  go_ret
  exact ⟨pbb2_0, pbb2_1⟩
def F63.f (a0 a1 : Int) (l2 : List Int) : Option Int :=
 if l2.length = 0 then none else if a1 < 1 then some 0 else if a1 > 12 then some 0 else if a1 = 2 then (F73.f a0).bind fun b => if b = true then some 29 else some (rd months (a1 - 1)) else some (rd months (a1 - 1))
theorem rd_months (W : World) (h : Tab W) (j : Int) (h0 : 0 ≤ j) (h1 : j ≤ 11) : W.cell? ⟨0, j.toNat, none⟩ = some (.int .i64 (rd months j)) := by
 rw [h.cell]; have hl : j.toNat < months.length := by show j.toNat < 12; omega
 rw [List.getElem?_eq_getElem hl]; show some _ = some _
 unfold rd
 rw [List.getD_eq_getElem?_getD, List.getElem?_eq_getElem hl]
 rfl
set_option maxHeartbeats 4000000 in
set_option maxRecDepth 100000 in
theorem F63.calls (a0 a1 : Int) (A2 : Option Addr) (c2 : Nat) (l2 : List Int) (r : Int) (w : World) (hr2 : Kd.C kTab w A2 l2.length l2) (hc2 : l2.length ≤ c2) (h : F63.f a0 a1 l2 = some r) :
  Calls Tryd.prog 63 #[.int .i64 a0, .int .i64 a1] w fun e w' => e = .returned (.int .i64 r) ∧ Drawn0 w w' := by
 unfold F63.f at h
 by_cases z : l2.length = 0
 ·rw [if_pos z] at h; cases h
 rw [if_neg z] at h; have HT := Aside0.mk (Tab_of hr2 (by omega)); clear hr2 hc2 z
 by_cases c1 : a1 < 1
 ·rw [if_pos c1] at h; obtain rfl := Option.some.inj h; clear h; go_enter Tryd.func63, Tryd.ntmps63
  go_wp2
  go_ret
  exact ⟨rfl, ⟨0, rfl⟩⟩
 rw [if_neg c1] at h
 by_cases c2 : a1 > 12
 ·rw [if_pos c2] at h; obtain rfl := Option.some.inj h; clear h; go_enter Tryd.func63, Tryd.ntmps63
  go_wp2
  go_ret
  exact ⟨rfl, ⟨0, rfl⟩⟩
 rw [if_neg c2] at h; have b0 : 1 ≤ a1 := by omega
 have b1 : a1 ≤ 12 := by omega
 obtain ⟨j, hj⟩ : ∃ j, a1 - 1 = j := ⟨_, rfl⟩; rw [hj] at h; have j0 : 0 ≤ j := by omega
 have j1 : j ≤ 11 := by omega
 have hm := rd_months w HT.out j j0 j1; have hm2 : ∀ n, (w.drewN n).cell? ⟨0, j.toNat, none⟩ = some (.int .i64 (rd months j)) := fun n => rd_months (w.drewN n) HT.out j j0 j1
 by_cases c3 : a1 = 2
 ·have c3b : (a1 == 2) = true := beq_iff_eq.mpr c3; obtain rfl : j = 1 := by omega
  have hm3 : ∀ n, (w.drewN n).cell? ⟨0, 1, none⟩ = some (.int .i64 (rd months 1)) := hm2; clear hm hm2; rw [if_pos c3] at h; obtain ⟨b, hb, h⟩ := Option.bind_eq_some_iff.mp h; have HB := Aside0.mk hb; clear hb
  cases b with
  | true =>
   obtain rfl := Option.some.inj h; clear h; go_enter Tryd.func63, Tryd.ntmps63
   go_wp2_with (go_at_call 73; (with_reducible refine (F73.calls a0 true _ HB.out).mono ?_); rintro e w' ⟨rfl, ⟨n, rfl⟩⟩)
   go_ret
   exact ⟨rfl, ⟨_, rfl⟩⟩
  | false =>
   obtain rfl := Option.some.inj h; clear h; go_enter Tryd.func63, Tryd.ntmps63
   go_wp2_with (go_at_call 73; (with_reducible refine (F73.calls a0 false _ HB.out).mono ?_); rintro e w' ⟨rfl, ⟨n, rfl⟩⟩)
   go_ret
   exact ⟨rfl, ⟨_, rfl⟩⟩
 ·have c3b : (a1 == 2) = false := beq_eq_false_iff_ne.mpr c3; rw [if_neg c3] at h; obtain rfl := Option.some.inj h; clear h; go_enter Tryd.func63, Tryd.ntmps63
  go_wp2
  go_ret
  exact ⟨rfl, ⟨0, rfl⟩⟩
def F61.f (a0 : Int) : Option (Bool) := if a0 ≥ 0 then (some (decide (a0 ≤ 109572))) else (some false)
set_option maxHeartbeats 8000000 in
set_option maxRecDepth 100000 in
theorem F61.calls (a0 : Int) (r : Bool) (w : World) (h : F61.f a0 = some r) :
    Calls Tryd.prog 61 #[.int .i64 a0] w fun e w' => e = .returned (.bool r) ∧ Drawn0 w w' := by
 unfold F61.f at h
 have H := h; clear h
 by_cases c2 : a0 ≥ 0
 ·rw [if_pos c2] at H; have c2b0 : decide (0 ≤ a0) = true := decide_eq_true c2; clear c2; obtain rfl := Option.some.inj H; go_enter Tryd.func61, Tryd.ntmps61
  go_wp2
  go_ret
  exact ⟨pbb2_0, pbb2_1⟩
 ·rw [if_neg c2] at H; have c2b0 : decide (0 ≤ a0) = false := decide_eq_false c2; clear c2; obtain rfl := Option.some.inj H; go_enter Tryd.func61, Tryd.ntmps61
  go_wp2
  go_ret
  exact ⟨pbb2_0, pbb2_1⟩
def F62.f (a0 : Int) : Option (Int) := some (wrap64 ((wrap64 (365 * (wrap64 (a0 - 1900)))) + (wrap64 ((wrap64 ((wrap64 ((wrap64 ((wrap64 ((wrap64 (Int.tdiv (wrap64 (a0 - 1)) 4)) - (wrap64 (Int.tdiv (wrap64 (a0 - 1)) 100)))) + (wrap64 (Int.tdiv (wrap64 (a0 - 1)) 400)))) - 474)) + 18)) - 4))))
set_option maxHeartbeats 8000000 in
set_option maxRecDepth 100000 in
theorem F62.calls (a0 : Int) (r : Int) (w : World) (h : F62.f a0 = some r) :
    Calls Tryd.prog 62 #[.int .i64 a0] w fun e w' => e = .returned (.int .i64 r) ∧ Drawn0 w w' := by
 unfold F62.f at h
 have H := h; clear h; obtain rfl := Option.some.inj H; go_enter Tryd.func62, Tryd.ntmps62
 go_wp2
 go_ret
 exact ⟨pbb2_0, pbb2_1⟩
mutual
def F47.j1 : Nat → Int → List Int → Int → Int → Int → Option (Int × Int × Int × Int)
  | 0, _, _, _, _, _ => none
  | k + 1, x0, x777, x102000, x102001, x102002 => (F62.f x102000).bind fun t104 => (F47.l1 k (wrap64 (x0 - t104)) x777 x102000 1 x102002)
def F47.l1 : Nat → Int → List Int → Int → Int → Int → Option (Int × Int × Int × Int)
  | 0, _, _, _, _, _ => none
  | k + 1, x0, x777, x102000, x102001, x102002 => (F63.f x102000 x102001 x777).bind fun t105 => (if x0 ≥ t105 then ((F63.f x102000 x102001 x777).bind fun t106 => (F47.l1 k (wrap64 (x0 - t106)) x777 x102000 (wrap64 (x102001 + 1)) x102002)) else (some (x102000, x102001, wrap64 (x0 + 1), 0)))
def F47.l0 : Nat → Int → List Int → Int → Int → Int → Option (Int × Int × Int × Int)
  | 0, _, _, _, _, _ => none
  | k + 1, x0, x777, x102000, x102001, x102002 => if x102000 < 2199 then ((F62.f (wrap64 (x102000 + 1))).bind fun t103 => (if t103 ≤ x0 then (F47.l0 k x0 x777 (wrap64 (x102000 + 1)) x102001 x102002) else (F47.j1 k x0 x777 x102000 x102001 x102002))) else (F47.j1 k x0 x777 x102000 x102001 x102002)
end
def F47.f (k : Nat) (a0 : Int) (l1 : List Int) : Option (Int × Int × Int × Int) := (F61.f a0).bind fun t102 => (if t102 = true then (F47.l0 k a0 l1 (wrap64 (1900 + (wrap64 (Int.tdiv a0 366)))) 0 0) else (some (0, 0, 0, 11)))
theorem F47.mono_l : ∀ k, (∀ y0 y1 y2 y3 y4, LeO (F47.j1 k y0 y1 y2 y3 y4) (F47.j1 (k + 1) y0 y1 y2 y3 y4)) ∧ (∀ y0 y1 y2 y3 y4, LeO (F47.l1 k y0 y1 y2 y3 y4) (F47.l1 (k + 1) y0 y1 y2 y3 y4)) ∧ (∀ y0 y1 y2 y3 y4, LeO (F47.l0 k y0 y1 y2 y3 y4) (F47.l0 (k + 1) y0 y1 y2 y3 y4))
  | 0 => ⟨fun _ _ _ _ _ r h => by simp [F47.j1] at h, fun _ _ _ _ _ r h => by simp [F47.l1] at h, fun _ _ _ _ _ r h => by simp [F47.l0] at h⟩
  | k + 1 => by
    obtain ⟨ih0, ih1, ih2⟩ := F47.mono_l k; refine ⟨?_, ?_, ?_⟩
    · intro y0 y1 y2 y3 y4
      unfold F47.j1
      repeat' first
      | (with_reducible exact ih0 _ _ _ _ _)
      | (with_reducible exact ih1 _ _ _ _ _)
      | (with_reducible exact ih2 _ _ _ _ _)
      | (with_reducible exact LeO.refl _)
      | (with_reducible exact LeO.none _)
      | (with_reducible refine LeO.ite ?_ ?_)
      | (with_reducible refine LeO.bind ?_ (fun _ => ?_))
      | exact ih0 _ _ _ _ _
      | exact ih1 _ _ _ _ _
      | exact ih2 _ _ _ _ _
      | exact LeO.none _
      | refine LeO.ite ?_ ?_
      | refine LeO.bind ?_ (fun _ => ?_)
    · intro y0 y1 y2 y3 y4
      unfold F47.l1
      repeat' first
      | (with_reducible exact ih0 _ _ _ _ _)
      | (with_reducible exact ih1 _ _ _ _ _)
      | (with_reducible exact ih2 _ _ _ _ _)
      | (with_reducible exact LeO.refl _)
      | (with_reducible exact LeO.none _)
      | (with_reducible refine LeO.ite ?_ ?_)
      | (with_reducible refine LeO.bind ?_ (fun _ => ?_))
      | exact ih0 _ _ _ _ _
      | exact ih1 _ _ _ _ _
      | exact ih2 _ _ _ _ _
      | exact LeO.none _
      | refine LeO.ite ?_ ?_
      | refine LeO.bind ?_ (fun _ => ?_)
    · intro y0 y1 y2 y3 y4
      unfold F47.l0
      repeat' first
      | (with_reducible exact ih0 _ _ _ _ _)
      | (with_reducible exact ih1 _ _ _ _ _)
      | (with_reducible exact ih2 _ _ _ _ _)
      | (with_reducible exact LeO.refl _)
      | (with_reducible exact LeO.none _)
      | (with_reducible refine LeO.ite ?_ ?_)
      | (with_reducible refine LeO.bind ?_ (fun _ => ?_))
      | exact ih0 _ _ _ _ _
      | exact ih1 _ _ _ _ _
      | exact ih2 _ _ _ _ _
      | exact LeO.none _
      | refine LeO.ite ?_ ?_
      | refine LeO.bind ?_ (fun _ => ?_)
theorem F47.mono : ∀ a0 a1 k, LeO (F47.f k a0 a1) (F47.f (k + 1) a0 a1) := by
 intro a0 a1 k; obtain ⟨ih0, ih1, ih2⟩ := F47.mono_l k
 unfold F47.f
 repeat' first
   | (with_reducible exact ih0 _ _ _ _ _)
   | (with_reducible exact ih1 _ _ _ _ _)
   | (with_reducible exact ih2 _ _ _ _ _)
   | (with_reducible exact LeO.refl _)
   | (with_reducible exact LeO.none _)
   | (with_reducible refine LeO.ite ?_ ?_)
   | (with_reducible refine LeO.bind ?_ (fun _ => ?_))
   | exact ih0 _ _ _ _ _
   | exact ih1 _ _ _ _ _
   | exact ih2 _ _ _ _ _
   | exact LeO.none _
   | refine LeO.ite ?_ ?_
   | refine LeO.bind ?_ (fun _ => ?_)
set_option maxHeartbeats 8000000 in
set_option maxRecDepth 100000 in
theorem F47.calls (k : Nat) (a0 : Int) (A1 : Option Addr) (c1 : Nat) (l1 : List Int) (r1 : Int) (r2 : Int) (r3 : Int) (r4 : Int) (w : World) (hr1 : Kd.C kTab w A1 l1.length l1) (hc1 : l1.length ≤ c1) (h : F47.f k a0 l1 = some (r1, r2, r3, r4)) :
    Calls Tryd.prog 47 #[.int .i64 a0] w fun e w' => e = .returned (.tuple #[.agg #[.int .i64 r1, .int .i64 r2, .int .i64 r3], .int .i64 r4]) ∧ Below w.heap.size w w' := by
 have hu65 := Tryd.underlying65; have hu3 := Tryd.underlying3; have HR1 := Aside0.mk hr1; have HC1 := Aside0.mk hc1; clear hr1 hc1; have HB := Aside0.mk (Below.refl w.heap.size w)
 unfold F47.f at h
 have H := h; clear h; obtain ⟨t102, A30, H⟩ := bnd H; have A3 := Aside0.mk A30; clear A30
 by_cases c4 : t102 = true
 ·subst c4; rw [if_pos rfl] at H; have HC5 := Aside0.mk H; clear H; go_enter Tryd.func47, Tryd.ntmps47
  go_upto_block 0 with (first | ((with_reducible refine gate_dst (N := 2) rfl ?_); refine box_event ?hg (N := 2) ?hd (cs := #[.int .i64 0, .int .i64 0, .int .i64 0]) (t := 65) ?hr ?_; (case hd => rfl); (case hg => rfl); (case hr => first | (go_simp; done) | (go_simp; rfl)); intro gb101 hg w6 hbox hb; have BK101 := Aside0.mk (hbox); have GW101 := Aside0.mk ((pbb2_6 : w.heap.size ≤ gb101)); have GE101 := Aside0.mk ((pbb2_6 : w.heap.size ≤ gb101)); replace HB := Aside0.mk (below_step pbb2_3 hb); clear hb hbox hg) | ((with_reducible refine gate_callee (f := 61) rfl ?_); refine goesL_ (some 5) rfl rfl Tryd.func61 (by kernel_rfl) rfl #[.int .i64 a0] rfl pbb2_2 ?_; (with_reducible refine (F61.calls a0 true _ A3.out).mono ?_); rintro e w' ⟨rfl, ⟨nd, rfl⟩⟩; refine ⟨_, rfl, ?_⟩; (try (rw [drewN_self w6]; generalize hq_ : World.drewN w6 _ = w6; have n0_ : Aside0 (w6.heap[gb101]? = some (.cells #[.int .i64 0, .int .i64 0, .int .i64 0] 65 (0, 0))) := ⟨pbb2_7⟩; have n1_ : Aside0 (Below w.heap.size w w6) := ⟨pbb2_8⟩; clear BK101 HB hq_; have BK101 := n0_; have HB := n1_; clear n0_ n1_)); (try have hczr7_0 : w6.cell? ⟨gb101, 0, none⟩ = some (.int .i64 0) := (blk_cell BK101.out 0).trans rfl); (try have hczr7_1 : w6.cell? ⟨gb101, 1, none⟩ = some (.int .i64 0) := (blk_cell BK101.out 1).trans rfl); (try have hczr7_2 : w6.cell? ⟨gb101, 2, none⟩ = some (.int .i64 0) := (blk_cell BK101.out 2).trans rfl); (try have hfzr7_0 := blk_frozen BK101.out 0); (try have hfzr7_1 := blk_frozen BK101.out 1); (try have hfzr7_2 := blk_frozen BK101.out 2); obtain ⟨hcz8_0, hcz8_1, hcz8_2⟩ := cz3 BK101.out; obtain ⟨hfz8_0, hfz8_1, hfz8_2⟩ := fz3 BK101.out))
  (try simp only [Act.put, List.setIfInBounds_toArray, List.set_cons_zero, List.set_cons_succ])
  go_cut [] (fun wc => ∃ (kq : Nat) (x102000_4 : Int), Aside0 (F47.j1 kq a0 l1 x102000_4 0 0 = some (r1, r2, r3, r4)) ∧ Aside0 (kq ≤ k) ∧ Aside0 (wc.heap[gb101]? = some (.cells #[.int .i64 x102000_4, .int .i64 0, .int .i64 0] 65 (0, 0))) ∧ Aside0 (Below w.heap.size w wc))
  case first =>
   have H := HC5.out; clear HC5; have H' := Aside0.mk H; clear H
   go_wp2
   go_loopg [] k (fun kq w' => ∃ (x102000_1 : Int), Aside0 (F47.l0 kq a0 l1 x102000_1 0 0 = some (r1, r2, r3, r4)) ∧ Aside0 (kq ≤ k) ∧ Aside0 (w'.heap[gb101]? = some (.cells #[.int .i64 x102000_1, .int .i64 0, .int .i64 0] 65 (0, 0))) ∧ Aside0 (Below w.heap.size w w'))
   case atStart => exact ⟨(wrap64 (1900 + (wrap64 (Int.tdiv a0 366)))), H', ⟨Nat.le_refl _⟩, ⟨by (with_reducible repeat (first | refine blk_drewN ?_ _ | refine blk_drew ?_ | refine blk_alloc ?_ _)); refine blk_put (cs := #[.int .i64 0, .int .i64 0, .int .i64 0]) ?_ 0 _ rfl; (with_reducible repeat (first | refine blk_drewN ?_ _ | refine blk_drew ?_ | refine blk_alloc ?_ _)); exact BK101.out⟩, ⟨pbb2_9⟩⟩
   case round =>
    clear H'; obtain ⟨x102000_1, HA, HK1, BK101, HB⟩ := hrel
    cases gk with
    | zero => exact absurd HA.out (by simp [F47.l0])
    | succ k1 =>
     have H := HA.out; clear HA; simp only [F47.l0] at H
     by_cases c9 : x102000_1 < 2199
     ·rw [if_pos c9] at H; have c9b0 := decide_eq_true c9; clear c9; (first | rw [c9b0] | (simp only [i64_w, i32_w]; rw [c9b0]) | skip); obtain ⟨t103, A100, H⟩ := bnd H; have A10 := Aside0.mk A100; clear A100
      by_cases c11 : t103 ≤ a0
      ·rw [if_pos c11] at H; have c11b0 := decide_eq_true c11; clear c11; have H' := Aside0.mk H; clear H; obtain ⟨hcz12_0, hcz12_1, hcz12_2⟩ := cz3 BK101.out; obtain ⟨hfz12_0, hfz12_1, hfz12_2⟩ := fz3 BK101.out
       go_wp2_with (first | (go_at_call 62; (with_reducible refine (F62.calls (wrap64 (x102000_1 + 1)) t103 _ A10.out).mono ?_); rintro e w' ⟨rfl, ⟨nd, rfl⟩⟩; (try (rw [drewN_self wr]; generalize hq_ : World.drewN wr _ = wr; have n0_ : Aside0 (wr.heap[gb101]? = some (.cells #[.int .i64 x102000_1, .int .i64 0, .int .i64 0] 65 (0, 0))) := ⟨pbb2_7⟩; have n1_ : Aside0 (Below w.heap.size w wr) := ⟨pbb2_8⟩; clear BK101 HB hq_; have BK101 := n0_; have HB := n1_; clear n0_ n1_)); (try have hczr13_0 : wr.cell? ⟨gb101, 0, none⟩ = some (.int .i64 x102000_1) := (blk_cell BK101.out 0).trans rfl); (try have hczr13_1 : wr.cell? ⟨gb101, 1, none⟩ = some (.int .i64 0) := (blk_cell BK101.out 1).trans rfl); (try have hczr13_2 : wr.cell? ⟨gb101, 2, none⟩ = some (.int .i64 0) := (blk_cell BK101.out 2).trans rfl); (try have hfzr13_0 := blk_frozen BK101.out 0); (try have hfzr13_1 := blk_frozen BK101.out 1); (try have hfzr13_2 := blk_frozen BK101.out 2)))
       go_roundg k1
       case measure => have := HK1.out; omega
       case rel => exact ⟨(wrap64 (x102000_1 + 1)), H', ⟨by have := HK1.out; omega⟩, ⟨by (with_reducible repeat (first | refine blk_drewN ?_ _ | refine blk_drew ?_ | refine blk_alloc ?_ _)); refine blk_put (cs := #[.int .i64 x102000_1, .int .i64 0, .int .i64 0]) ?_ 0 _ rfl; (with_reducible repeat (first | refine blk_drewN ?_ _ | refine blk_drew ?_ | refine blk_alloc ?_ _)); exact BK101.out⟩, ⟨pbb2_9⟩⟩
      ·rw [if_neg c11] at H; have c11b0 := decide_eq_false c11; clear c11; have H' := Aside0.mk H; clear H; obtain ⟨hcz14_0, hcz14_1, hcz14_2⟩ := cz3 BK101.out; obtain ⟨hfz14_0, hfz14_1, hfz14_2⟩ := fz3 BK101.out
       go_wp2_with (first | (go_at_call 62; (with_reducible refine (F62.calls (wrap64 (x102000_1 + 1)) t103 _ A10.out).mono ?_); rintro e w' ⟨rfl, ⟨nd, rfl⟩⟩))
       go_meet
       case rel => exact ⟨_, (x102000_1), H', ⟨by have := HK1.out; first | omega | exact Nat.le_refl _⟩, ⟨pbb2_10⟩, ⟨pbb2_9⟩⟩
     ·rw [if_neg c9] at H; have c9b0 := decide_eq_false c9; clear c9; (first | rw [c9b0] | (simp only [i64_w, i32_w]; rw [c9b0]) | skip); have H' := Aside0.mk H; clear H; obtain ⟨hcz15_0, hcz15_1, hcz15_2⟩ := cz3 BK101.out; obtain ⟨hfz15_0, hfz15_1, hfz15_2⟩ := fz3 BK101.out
      go_wp2
      go_meet
      case rel => exact ⟨_, (x102000_1), H', ⟨by have := HK1.out; first | omega | exact Nat.le_refl _⟩, ⟨pbb2_10⟩, ⟨pbb2_9⟩⟩
  case rest =>
   clear HC5; obtain ⟨kq, x102000_4, HA, HJ4, BK101, HB⟩ := hcut
   cases kq with
   | zero => exact absurd HA.out (by simp [F47.j1])
   | succ kj4 =>
    have H := HA.out; clear HA; simp only [F47.j1] at H; obtain ⟨t104, A160, H⟩ := bnd H; have A16 := Aside0.mk A160; clear A160; have H' := Aside0.mk H; clear H; obtain ⟨hcz17_0, hcz17_1, hcz17_2⟩ := cz3 BK101.out; obtain ⟨hfz17_0, hfz17_1, hfz17_2⟩ := fz3 BK101.out
    go_wp2_with (first | ((with_reducible refine gate_callee (f := 62) rfl ?_); refine goesL_ (some 30) rfl rfl Tryd.func62 (by kernel_rfl) rfl #[.int .i64 x102000_4] rfl pbb2_2 ?_; (with_reducible refine (F62.calls x102000_4 t104 _ A16.out).mono ?_); rintro e w' ⟨rfl, ⟨nd, rfl⟩⟩; refine ⟨_, rfl, ?_⟩; (try (rw [drewN_self wc]; generalize hq_ : World.drewN wc _ = wc; have n0_ : Aside0 (wc.heap[gb101]? = some (.cells #[.int .i64 x102000_4, .int .i64 0, .int .i64 0] 65 (0, 0))) := ⟨pbb2_7⟩; have n1_ : Aside0 (Below w.heap.size w wc) := ⟨pbb2_8⟩; clear BK101 HB hq_; have BK101 := n0_; have HB := n1_; clear n0_ n1_)); (try have hczr18_0 : wc.cell? ⟨gb101, 0, none⟩ = some (.int .i64 x102000_4) := (blk_cell BK101.out 0).trans rfl); (try have hczr18_1 : wc.cell? ⟨gb101, 1, none⟩ = some (.int .i64 0) := (blk_cell BK101.out 1).trans rfl); (try have hczr18_2 : wc.cell? ⟨gb101, 2, none⟩ = some (.int .i64 0) := (blk_cell BK101.out 2).trans rfl); (try have hfzr18_0 := blk_frozen BK101.out 0); (try have hfzr18_1 := blk_frozen BK101.out 1); (try have hfzr18_2 := blk_frozen BK101.out 2)))
    (try simp only [Act.put, List.setIfInBounds_toArray, List.set_cons_zero, List.set_cons_succ])
    go_loopg [0] kj4 (fun kq v0 w' => ∃ (x0_2 : Int) (x102001_2 : Int), v0 = .int .i64 x0_2 ∧ Aside0 (F47.l1 kq x0_2 l1 x102000_4 x102001_2 0 = some (r1, r2, r3, r4)) ∧ Aside0 (kq ≤ kj4) ∧ Aside0 (w'.heap[gb101]? = some (.cells #[.int .i64 x102000_4, .int .i64 x102001_2, .int .i64 0] 65 (0, 0))) ∧ Aside0 (Below w.heap.size w w'))
    case atStart => exact ⟨(wrap64 (a0 - t104)), (1), pbb2_0, H', ⟨Nat.le_refl _⟩, ⟨by (with_reducible repeat (first | refine blk_drewN ?_ _ | refine blk_drew ?_ | refine blk_alloc ?_ _)); refine blk_put (cs := #[.int .i64 x102000_4, .int .i64 0, .int .i64 0]) ?_ 1 _ rfl; (with_reducible repeat (first | refine blk_drewN ?_ _ | refine blk_drew ?_ | refine blk_alloc ?_ _)); exact BK101.out⟩, ⟨pbb2_9⟩⟩
    case round =>
     clear H'; obtain ⟨x0_2, x102001_2, rfl, HA, HK2, BK101, HB⟩ := hrel
     cases gk with
     | zero => exact absurd HA.out (by simp [F47.l1])
     | succ k2 =>
      have H := HA.out; clear HA; simp only [F47.l1] at H; obtain ⟨t105, A190, H⟩ := bnd H; have A19 := Aside0.mk A190; clear A190
      by_cases c20 : x0_2 ≥ t105
      ·rw [if_pos c20] at H; have c20b0 : decide (t105 ≤ x0_2) = true := decide_eq_true c20; clear c20; obtain ⟨t106, A210, H⟩ := bnd H; have A21 := Aside0.mk A210; clear A210; have H' := Aside0.mk H; clear H; obtain ⟨hcz22_0, hcz22_1, hcz22_2⟩ := cz3 BK101.out; obtain ⟨hfz22_0, hfz22_1, hfz22_2⟩ := fz3 BK101.out
       go_wp2_with (first | ((with_reducible refine gate_callee (f := 63) rfl ?_); refine goesL_ (some 38) rfl rfl Tryd.func63 (by kernel_rfl) rfl #[.int .i64 x102000_4, .int .i64 x102001_2] rfl pbb2_2 ?_; (with_reducible refine (F63.calls x102000_4 x102001_2 A1 c1 l1 t105 _ pbb2_11 HC1.out A19.out).mono ?_); rintro e w' ⟨rfl, ⟨nd, rfl⟩⟩; refine ⟨_, rfl, ?_⟩; (try (rw [drewN_self wr]; generalize hq_ : World.drewN wr _ = wr; have n0_ : Aside0 (wr.heap[gb101]? = some (.cells #[.int .i64 x102000_4, .int .i64 x102001_2, .int .i64 0] 65 (0, 0))) := ⟨pbb2_7⟩; have n1_ : Aside0 (Below w.heap.size w wr) := ⟨pbb2_8⟩; clear BK101 HB hq_; have BK101 := n0_; have HB := n1_; clear n0_ n1_)); (try have hczr23_0 : wr.cell? ⟨gb101, 0, none⟩ = some (.int .i64 x102000_4) := (blk_cell BK101.out 0).trans rfl); (try have hczr23_1 : wr.cell? ⟨gb101, 1, none⟩ = some (.int .i64 x102001_2) := (blk_cell BK101.out 1).trans rfl); (try have hczr23_2 : wr.cell? ⟨gb101, 2, none⟩ = some (.int .i64 0) := (blk_cell BK101.out 2).trans rfl); (try have hfzr23_0 := blk_frozen BK101.out 0); (try have hfzr23_1 := blk_frozen BK101.out 1); (try have hfzr23_2 := blk_frozen BK101.out 2)) | ((with_reducible refine gate_callee (f := 63) rfl ?_); refine goesL_ (some 45) rfl rfl Tryd.func63 (by kernel_rfl) rfl #[.int .i64 x102000_4, .int .i64 x102001_2] rfl pbb2_2 ?_; (with_reducible refine (F63.calls x102000_4 x102001_2 A1 c1 l1 t106 _ pbb2_11 HC1.out A21.out).mono ?_); rintro e w' ⟨rfl, ⟨nd, rfl⟩⟩; refine ⟨_, rfl, ?_⟩; (try (rw [drewN_self wr]; generalize hq_ : World.drewN wr _ = wr; have n0_ : Aside0 (wr.heap[gb101]? = some (.cells #[.int .i64 x102000_4, .int .i64 x102001_2, .int .i64 0] 65 (0, 0))) := ⟨pbb2_7⟩; have n1_ : Aside0 (Below w.heap.size w wr) := ⟨pbb2_8⟩; clear BK101 HB hq_; have BK101 := n0_; have HB := n1_; clear n0_ n1_)); (try have hczr24_0 : wr.cell? ⟨gb101, 0, none⟩ = some (.int .i64 x102000_4) := (blk_cell BK101.out 0).trans rfl); (try have hczr24_1 : wr.cell? ⟨gb101, 1, none⟩ = some (.int .i64 x102001_2) := (blk_cell BK101.out 1).trans rfl); (try have hczr24_2 : wr.cell? ⟨gb101, 2, none⟩ = some (.int .i64 0) := (blk_cell BK101.out 2).trans rfl); (try have hfzr24_0 := blk_frozen BK101.out 0); (try have hfzr24_1 := blk_frozen BK101.out 1); (try have hfzr24_2 := blk_frozen BK101.out 2)))
       go_roundg k2
       case measure => have := HJ4.out; have := HK2.out; omega
       case rel => exact ⟨(wrap64 (x0_2 - t106)), (wrap64 (x102001_2 + 1)), pbb2_0, H', ⟨by have := HJ4.out; have := HK2.out; omega⟩, ⟨by (with_reducible repeat (first | refine blk_drewN ?_ _ | refine blk_drew ?_ | refine blk_alloc ?_ _)); refine blk_put (cs := #[.int .i64 x102000_4, .int .i64 x102001_2, .int .i64 0]) ?_ 1 _ rfl; (with_reducible repeat (first | refine blk_drewN ?_ _ | refine blk_drew ?_ | refine blk_alloc ?_ _)); exact BK101.out⟩, ⟨pbb2_9⟩⟩
      ·rw [if_neg c20] at H; have c20b0 : decide (t105 ≤ x0_2) = false := decide_eq_false c20; clear c20; simp only [Option.some.injEq, Prod.mk.injEq] at H; obtain ⟨rfl, rfl, rfl, rfl⟩ := H; obtain ⟨hcz25_0, hcz25_1, hcz25_2⟩ := cz3 BK101.out; obtain ⟨hfz25_0, hfz25_1, hfz25_2⟩ := fz3 BK101.out
       go_wp2_with (first | ((with_reducible refine gate_callee (f := 63) rfl ?_); refine goesL_ (some 38) rfl rfl Tryd.func63 (by kernel_rfl) rfl #[.int .i64 x102000_4, .int .i64 x102001_2] rfl pbb2_2 ?_; (with_reducible refine (F63.calls x102000_4 x102001_2 A1 c1 l1 t105 _ pbb2_11 HC1.out A19.out).mono ?_); rintro e w' ⟨rfl, ⟨nd, rfl⟩⟩; refine ⟨_, rfl, ?_⟩; (try (rw [drewN_self wr]; generalize hq_ : World.drewN wr _ = wr; have n0_ : Aside0 (wr.heap[gb101]? = some (.cells #[.int .i64 x102000_4, .int .i64 x102001_2, .int .i64 0] 65 (0, 0))) := ⟨pbb2_7⟩; have n1_ : Aside0 (Below w.heap.size w wr) := ⟨pbb2_8⟩; clear BK101 HB hq_; have BK101 := n0_; have HB := n1_; clear n0_ n1_)); (try have hczr26_0 : wr.cell? ⟨gb101, 0, none⟩ = some (.int .i64 x102000_4) := (blk_cell BK101.out 0).trans rfl); (try have hczr26_1 : wr.cell? ⟨gb101, 1, none⟩ = some (.int .i64 x102001_2) := (blk_cell BK101.out 1).trans rfl); (try have hczr26_2 : wr.cell? ⟨gb101, 2, none⟩ = some (.int .i64 0) := (blk_cell BK101.out 2).trans rfl); (try have hfzr26_0 := blk_frozen BK101.out 0); (try have hfzr26_1 := blk_frozen BK101.out 1); (try have hfzr26_2 := blk_frozen BK101.out 2)))
       refine bodyPost_ret (results_ct rfl _ _ gb101 65 #[.int .i64 x102000_4, .int .i64 x102001_2, .int .i64 (wrap64 (x0_2 + 1))] (0, 0) _ rfl (by (with_reducible repeat (first | refine blk_drewN ?_ _ | refine blk_drew ?_ | refine blk_alloc ?_ _)); refine blk_put (cs := #[.int .i64 x102000_4, .int .i64 x102001_2, .int .i64 (wrap64 (x0_2 + 1))]) ?_ 2 _ rfl; (with_reducible repeat (first | refine blk_drewN ?_ _ | refine blk_drew ?_ | refine blk_alloc ?_ _)); refine blk_put (cs := #[.int .i64 x102000_4, .int .i64 x102001_2, .int .i64 (wrap64 (x0_2 + 1))]) ?_ 1 _ rfl; (with_reducible repeat (first | refine blk_drewN ?_ _ | refine blk_drew ?_ | refine blk_alloc ?_ _)); refine blk_put (cs := #[.int .i64 x102000_4, .int .i64 x102001_2, .int .i64 (wrap64 (x0_2 + 1))]) ?_ 0 _ rfl; (with_reducible repeat (first | refine blk_drewN ?_ _ | refine blk_drew ?_ | refine blk_alloc ?_ _)); refine blk_put (cs := #[.int .i64 x102000_4, .int .i64 x102001_2, .int .i64 0]) ?_ 2 _ rfl; (with_reducible repeat (first | refine blk_drewN ?_ _ | refine blk_drew ?_ | refine blk_alloc ?_ _)); exact BK101.out) Tryd.underlying65 rfl (by kernel_rfl)) rfl ?_; exact ⟨pbb2_5, pbb2_9⟩
 ·replace c4 := Bool.eq_false_iff.mpr c4; subst c4; rw [if_neg (show ¬ (false = true) by decide)] at H; simp only [Option.some.injEq, Prod.mk.injEq] at H; obtain ⟨rfl, rfl, rfl, rfl⟩ := H; go_enter Tryd.func47, Tryd.ntmps47
  go_wp2_with (first | ((with_reducible refine gate_dst (N := 2) rfl ?_); refine box_event ?hg (N := 2) ?hd (cs := #[.int .i64 0, .int .i64 0, .int .i64 0]) (t := 65) ?hr ?_; (case hd => rfl); (case hg => rfl); (case hr => first | (go_simp; done) | (go_simp; rfl)); intro gb101 hg w27 hbox hb; have BK101 := Aside0.mk (hbox); have GW101 := Aside0.mk ((pbb2_6 : w.heap.size ≤ gb101)); have GE101 := Aside0.mk ((pbb2_6 : w.heap.size ≤ gb101)); replace HB := Aside0.mk (below_step pbb2_3 hb); clear hb hbox hg) | ((with_reducible refine gate_callee (f := 61) rfl ?_); refine goesL_ (some 5) rfl rfl Tryd.func61 (by kernel_rfl) rfl #[.int .i64 a0] rfl pbb2_2 ?_; (with_reducible refine (F61.calls a0 false _ A3.out).mono ?_); rintro e w' ⟨rfl, ⟨nd, rfl⟩⟩; refine ⟨_, rfl, ?_⟩; (try (rw [drewN_self w27]; generalize hq_ : World.drewN w27 _ = w27; have n0_ : Aside0 (w27.heap[gb101]? = some (.cells #[.int .i64 0, .int .i64 0, .int .i64 0] 65 (0, 0))) := ⟨pbb2_7⟩; have n1_ : Aside0 (Below w.heap.size w w27) := ⟨pbb2_8⟩; clear BK101 HB hq_; have BK101 := n0_; have HB := n1_; clear n0_ n1_)); (try have hczr28_0 : w27.cell? ⟨gb101, 0, none⟩ = some (.int .i64 0) := (blk_cell BK101.out 0).trans rfl); (try have hczr28_1 : w27.cell? ⟨gb101, 1, none⟩ = some (.int .i64 0) := (blk_cell BK101.out 1).trans rfl); (try have hczr28_2 : w27.cell? ⟨gb101, 2, none⟩ = some (.int .i64 0) := (blk_cell BK101.out 2).trans rfl); (try have hfzr28_0 := blk_frozen BK101.out 0); (try have hfzr28_1 := blk_frozen BK101.out 1); (try have hfzr28_2 := blk_frozen BK101.out 2); obtain ⟨hcz29_0, hcz29_1, hcz29_2⟩ := cz3 BK101.out; obtain ⟨hfz29_0, hfz29_1, hfz29_2⟩ := fz3 BK101.out))
  refine bodyPost_ret (results_ct rfl _ _ gb101 65 #[.int .i64 0, .int .i64 0, .int .i64 0] (0, 0) _ rfl (by (with_reducible repeat (first | refine blk_drewN ?_ _ | refine blk_drew ?_ | refine blk_alloc ?_ _)); refine blk_put (cs := #[.int .i64 0, .int .i64 0, .int .i64 0]) ?_ 2 _ rfl; (with_reducible repeat (first | refine blk_drewN ?_ _ | refine blk_drew ?_ | refine blk_alloc ?_ _)); refine blk_put (cs := #[.int .i64 0, .int .i64 0, .int .i64 0]) ?_ 1 _ rfl; (with_reducible repeat (first | refine blk_drewN ?_ _ | refine blk_drew ?_ | refine blk_alloc ?_ _)); refine blk_put (cs := #[.int .i64 0, .int .i64 0, .int .i64 0]) ?_ 0 _ rfl; (with_reducible repeat (first | refine blk_drewN ?_ _ | refine blk_drew ?_ | refine blk_alloc ?_ _)); exact BK101.out) Tryd.underlying65 rfl (by kernel_rfl)) rfl ?_; exact ⟨pbb2_5, pbb2_9⟩
def F25.f (k : Nat) (a0 : Int) (l1 : List Int) : Option (Bool) := (F47.f k a0 l1).bind fun bt101 => (some (bt101.2.2.2 == 0))
theorem F25.mono : ∀ a0 a1 k, LeO (F25.f k a0 a1) (F25.f (k + 1) a0 a1) := by
 intro a0 a1 k
 unfold F25.f
 repeat' first
   | (with_reducible exact F47.mono _ _ _)
   | (with_reducible exact LeO.refl _)
   | (with_reducible exact LeO.none _)
   | (with_reducible refine LeO.ite ?_ ?_)
   | (with_reducible refine LeO.bind ?_ (fun _ => ?_))
   | exact F47.mono _ _ _
   | exact LeO.none _
   | refine LeO.ite ?_ ?_
   | refine LeO.bind ?_ (fun _ => ?_)
set_option maxHeartbeats 8000000 in
set_option maxRecDepth 100000 in
theorem F25.calls (k : Nat) (a0 : Int) (A1 : Option Addr) (c1 : Nat) (l1 : List Int) (r : Bool) (w : World) (hr1 : Kd.C kTab w A1 l1.length l1) (hc1 : l1.length ≤ c1) (h : F25.f k a0 l1 = some r) :
    Calls Tryd.prog 25 #[.int .i64 a0] w fun e w' => e = .returned (.bool r) ∧ Below w.heap.size w w' := by
 have hu65 := Tryd.underlying65; have HR1 := Aside0.mk hr1; have HC1 := Aside0.mk hc1; clear hr1 hc1; have HB := Aside0.mk (Below.refl w.heap.size w)
 unfold F25.f at h
 have H := h; clear h; obtain ⟨⟨t101, t102, t103, t104⟩, A30, H⟩ := bnd H; (try dsimp only at H); have A3 := Aside0.mk A30; clear A30; obtain rfl := Option.some.inj H; go_enter Tryd.func25, Tryd.ntmps25
 go_wp2_with (first | ((with_reducible refine gate_callee (f := 47) rfl ?_); refine goesL_ (some 7) rfl rfl Tryd.func47 (by kernel_rfl) rfl #[.int .i64 a0] rfl pbb2_2 ?_; (with_reducible refine (F47.calls k a0 A1 c1 l1 t101 t102 t103 t104 _ (by repeat (first | exact HR1.out | (with_reducible refine Kd.C_alloc ?_ _) | (with_reducible refine Kd.C_drewN ?_ _) | (with_reducible refine Kd.C_drew ?_))) HC1.out A3.out).mono ?_); rintro e w4 ⟨rfl, hb⟩; refine ⟨_, rfl, ?_⟩; replace HB := Aside0.mk (below_step pbb2_3 hb); (try clear hb); (try clear hb2); (try clear hk); (try clear hi)) | ((with_reducible refine gate_dst (N := 3) rfl ?_); refine box_event ?hg (N := 3) ?hd (cs := #[.int .i64 0, .int .i64 0, .int .i64 0]) (t := 65) ?hr ?_; (case hd => rfl); (case hg => rfl); (case hr => first | (go_simp; done) | (go_simp; rfl)); intro gb105 hg w5 hbox hb; have BK105 := Aside0.mk (hbox); have GW105 := Aside0.mk ((pbb2_6 : w.heap.size ≤ gb105)); have GE105 := Aside0.mk ((pbb2_6 : w.heap.size ≤ gb105)); replace HB := Aside0.mk (below_step pbb2_3 hb); clear hb hbox hg; obtain ⟨hcz6_0, hcz6_1, hcz6_2⟩ := cz3 BK105.out; obtain ⟨hfz6_0, hfz6_1, hfz6_2⟩ := fz3 BK105.out))
 go_ret
 exact ⟨pbb2_5, by repeat (first | (with_reducible first | exact HB.out | apply below_alloc | apply pw_below_drewN | apply below_drew1 | refine below_set ?_ GE105.out) | exact HB.out)⟩
def F27.f (a0 : Int) (a1 : Int) (a2 : Int) : Option (Bool) := if a0 ≥ a1 then (some (decide (a0 ≤ a2))) else (some false)
set_option maxHeartbeats 8000000 in
set_option maxRecDepth 100000 in
theorem F27.calls (a0 : Int) (a1 : Int) (a2 : Int) (r : Bool) (w : World) (h : F27.f a0 a1 a2 = some r) :
    Calls Tryd.prog 27 #[.int .i64 a0, .int .i64 a1, .int .i64 a2] w fun e w' => e = .returned (.bool r) ∧ Drawn0 w w' := by
 unfold F27.f at h
 have H := h; clear h
 by_cases c4 : a0 ≥ a1
 ·rw [if_pos c4] at H; have c4b0 : decide (a1 ≤ a0) = true := decide_eq_true c4; clear c4; obtain rfl := Option.some.inj H; go_enter Tryd.func27, Tryd.ntmps27
  go_wp2
  go_ret
  exact ⟨pbb2_0, pbb2_1⟩
 ·rw [if_neg c4] at H; have c4b0 : decide (a1 ≤ a0) = false := decide_eq_false c4; clear c4; obtain rfl := Option.some.inj H; go_enter Tryd.func27, Tryd.ntmps27
  go_wp2
  go_ret
  exact ⟨pbb2_0, pbb2_1⟩
def F28.f (a0_0 : Int) (a0_1 : Int) (a0_2 : ByteArray) (a0_3 : Int) (a0_4 : Int) (a0_5 : Int) (a0_6 : ByteArray) (a0_7 : Int) : Option (Bool) := if a0_3 = 5 then (some (a0_4 == 0)) else (if a0_3 = 6 then (some (a0_4 == 0)) else ((F27.f a0_4 1 1000000000).bind fun t102 => (some t102)))
set_option maxHeartbeats 8000000 in
set_option maxRecDepth 100000 in
theorem F28.calls (a0_0 : Int) (a0_1 : Int) (a0_2 : ByteArray) (a0_3 : Int) (a0_4 : Int) (a0_5 : Int) (a0_6 : ByteArray) (a0_7 : Int) (r : Bool) (w : World) (h : F28.f a0_0 a0_1 a0_2 a0_3 a0_4 a0_5 a0_6 a0_7 = some r) :
    Calls Tryd.prog 28 #[.agg #[.int .i64 a0_0, .int .i64 a0_1, .string a0_2, .int .i64 a0_3, .int .i64 a0_4, .int .i64 a0_5, .string a0_6, .int .i64 a0_7]] w fun e w' => e = .returned (.bool r) ∧ Below w.heap.size w w' := by
 have hu23 := Tryd.underlying23; have hu3 := Tryd.underlying3; have HB := Aside0.mk (Below.refl w.heap.size w)
 unfold F28.f at h
 have H := h; clear h
 by_cases c2 : a0_3 = 5
 ·rw [if_pos c2] at H; have c2b0 := bT_ c2; have c2b1 := bF_ c2; clear c2; obtain rfl := Option.some.inj H; go_enter Tryd.func28, Tryd.ntmps28
  go_wp2_with (first | ((with_reducible refine gate_dst (N := 1) rfl ?_); refine box_event ?hg (N := 1) ?hd (cs := #[.int .i64 a0_0, .int .i64 a0_1, .string a0_2, .int .i64 a0_3, .int .i64 a0_4, .int .i64 a0_5, .string a0_6, .int .i64 a0_7]) (t := 23) ?hr ?_; (case hd => rfl); (case hg => rfl); (case hr => first | (go_simp; done) | (go_simp; rfl)); intro gb101 hg w3 hbox hb; have BK101 := Aside0.mk (hbox); have GW101 := Aside0.mk ((pbb2_6 : w.heap.size ≤ gb101)); have GE101 := Aside0.mk ((pbb2_6 : w.heap.size ≤ gb101)); replace HB := Aside0.mk (below_step pbb2_3 hb); clear hb hbox hg; obtain ⟨hcz4_0, hcz4_1, hcz4_2, hcz4_3, hcz4_4, hcz4_5, hcz4_6, hcz4_7⟩ := cz8 BK101.out; obtain ⟨hfz4_0, hfz4_1, hfz4_2, hfz4_3, hfz4_4, hfz4_5, hfz4_6, hfz4_7⟩ := fz8 BK101.out))
  go_ret
  exact ⟨pbb2_5, pbb2_9⟩
 ·rw [if_neg c2] at H; have c2b0 := nF_ c2; have c2b1 := nT_ c2
  by_cases c5 : a0_3 = 6
  ·rw [if_pos c5] at H; have c5b0 := bT_ c5; have c5b1 := bF_ c5; clear c5; obtain rfl := Option.some.inj H; go_enter Tryd.func28, Tryd.ntmps28
   go_wp2_with (first | ((with_reducible refine gate_dst (N := 1) rfl ?_); refine box_event ?hg (N := 1) ?hd (cs := #[.int .i64 a0_0, .int .i64 a0_1, .string a0_2, .int .i64 a0_3, .int .i64 a0_4, .int .i64 a0_5, .string a0_6, .int .i64 a0_7]) (t := 23) ?hr ?_; (case hd => rfl); (case hg => rfl); (case hr => first | (go_simp; done) | (go_simp; rfl)); intro gb101 hg w6 hbox hb; have BK101 := Aside0.mk (hbox); have GW101 := Aside0.mk ((pbb2_6 : w.heap.size ≤ gb101)); have GE101 := Aside0.mk ((pbb2_6 : w.heap.size ≤ gb101)); replace HB := Aside0.mk (below_step pbb2_3 hb); clear hb hbox hg; obtain ⟨hcz7_0, hcz7_1, hcz7_2, hcz7_3, hcz7_4, hcz7_5, hcz7_6, hcz7_7⟩ := cz8 BK101.out; obtain ⟨hfz7_0, hfz7_1, hfz7_2, hfz7_3, hfz7_4, hfz7_5, hfz7_6, hfz7_7⟩ := fz8 BK101.out))
   go_ret
   exact ⟨pbb2_5, pbb2_9⟩
  ·rw [if_neg c5] at H; have c5b0 := nF_ c5; have c5b1 := nT_ c5; obtain ⟨t102, A80, H⟩ := bnd H; have A8 := Aside0.mk A80; clear A80; obtain rfl := Option.some.inj H; go_enter Tryd.func28, Tryd.ntmps28
   go_wp2_with (first | ((with_reducible refine gate_dst (N := 1) rfl ?_); refine box_event ?hg (N := 1) ?hd (cs := #[.int .i64 a0_0, .int .i64 a0_1, .string a0_2, .int .i64 a0_3, .int .i64 a0_4, .int .i64 a0_5, .string a0_6, .int .i64 a0_7]) (t := 23) ?hr ?_; (case hd => rfl); (case hg => rfl); (case hr => first | (go_simp; done) | (go_simp; rfl)); intro gb101 hg w9 hbox hb; have BK101 := Aside0.mk (hbox); have GW101 := Aside0.mk ((pbb2_6 : w.heap.size ≤ gb101)); have GE101 := Aside0.mk ((pbb2_6 : w.heap.size ≤ gb101)); replace HB := Aside0.mk (below_step pbb2_3 hb); clear hb hbox hg; obtain ⟨hcz10_0, hcz10_1, hcz10_2, hcz10_3, hcz10_4, hcz10_5, hcz10_6, hcz10_7⟩ := cz8 BK101.out; obtain ⟨hfz10_0, hfz10_1, hfz10_2, hfz10_3, hfz10_4, hfz10_5, hfz10_6, hfz10_7⟩ := fz8 BK101.out) | ((with_reducible refine gate_callee (f := 27) rfl ?_); refine goesL_ (some 16) rfl rfl Tryd.func27 (by kernel_rfl) rfl #[.int .i64 a0_4, .int .i64 1, .int .i64 1000000000] rfl pbb2_2 ?_; (with_reducible refine (F27.calls a0_4 1 1000000000 t102 _ A8.out).mono ?_); rintro e w' ⟨rfl, ⟨nd, rfl⟩⟩; refine ⟨_, rfl, ?_⟩))
   go_ret
   exact ⟨pbb2_5, pbb2_9⟩
def F29.j0 : Nat → Int → Bool → Int → Int → ByteArray → Int → Int → Int → ByteArray → Int → Option (Bool)
  | 0, _, _, _, _, _, _, _, _, _, _ => none
  | k + 1, x4, x5, x102000, x102001, x102002, x102003, x102004, x102005, x102006, x102007 => if x5 = true then (some (x102005 == 0)) else (if x4 = 5 then ((F27.f x102005 1 1000000000000).bind fun t102 => (some t102)) else ((F27.f x102005 0 1000000000000).bind fun t103 => (some t103)))
def F29.f (k : Nat) (a0_0 : Int) (a0_1 : Int) (a0_2 : ByteArray) (a0_3 : Int) (a0_4 : Int) (a0_5 : Int) (a0_6 : ByteArray) (a0_7 : Int) : Option (Bool) := if a0_3 = 2 then (F29.j0 k a0_3 (a0_3 == 2) a0_0 a0_1 a0_2 a0_3 a0_4 a0_5 a0_6 a0_7) else (F29.j0 k a0_3 (a0_3 == 3) a0_0 a0_1 a0_2 a0_3 a0_4 a0_5 a0_6 a0_7)
theorem F29.mono_l : ∀ k, (∀ y0 y1 y2 y3 y4 y5 y6 y7 y8 y9, LeO (F29.j0 k y0 y1 y2 y3 y4 y5 y6 y7 y8 y9) (F29.j0 (k + 1) y0 y1 y2 y3 y4 y5 y6 y7 y8 y9))
  | 0 => fun _ _ _ _ _ _ _ _ _ _ r h => by simp [F29.j0] at h
  | k + 1 => by
    have ih0 := F29.mono_l k
    · intro y0 y1 y2 y3 y4 y5 y6 y7 y8 y9
      unfold F29.j0
      repeat' first
      | (with_reducible exact ih0 _ _ _ _ _ _ _ _ _ _)
      | (with_reducible exact LeO.refl _)
      | (with_reducible exact LeO.none _)
      | (with_reducible refine LeO.ite ?_ ?_)
      | (with_reducible refine LeO.bind ?_ (fun _ => ?_))
      | exact ih0 _ _ _ _ _ _ _ _ _ _
      | exact LeO.none _
      | refine LeO.ite ?_ ?_
      | refine LeO.bind ?_ (fun _ => ?_)
theorem F29.mono : ∀ a0 a1 a2 a3 a4 a5 a6 a7 k, LeO (F29.f k a0 a1 a2 a3 a4 a5 a6 a7) (F29.f (k + 1) a0 a1 a2 a3 a4 a5 a6 a7) := by
 intro a0 a1 a2 a3 a4 a5 a6 a7 k; have ih0 := F29.mono_l k
 unfold F29.f
 repeat' first
   | (with_reducible exact ih0 _ _ _ _ _ _ _ _ _ _)
   | (with_reducible exact LeO.refl _)
   | (with_reducible exact LeO.none _)
   | (with_reducible refine LeO.ite ?_ ?_)
   | (with_reducible refine LeO.bind ?_ (fun _ => ?_))
   | exact ih0 _ _ _ _ _ _ _ _ _ _
   | exact LeO.none _
   | refine LeO.ite ?_ ?_
   | refine LeO.bind ?_ (fun _ => ?_)
set_option maxHeartbeats 8000000 in
set_option maxRecDepth 100000 in
theorem F29.calls (k : Nat) (a0_0 : Int) (a0_1 : Int) (a0_2 : ByteArray) (a0_3 : Int) (a0_4 : Int) (a0_5 : Int) (a0_6 : ByteArray) (a0_7 : Int) (r : Bool) (w : World) (h : F29.f k a0_0 a0_1 a0_2 a0_3 a0_4 a0_5 a0_6 a0_7 = some r) :
    Calls Tryd.prog 29 #[.agg #[.int .i64 a0_0, .int .i64 a0_1, .string a0_2, .int .i64 a0_3, .int .i64 a0_4, .int .i64 a0_5, .string a0_6, .int .i64 a0_7]] w fun e w' => e = .returned (.bool r) ∧ Below w.heap.size w w' := by
 have hu23 := Tryd.underlying23; have hu3 := Tryd.underlying3; have HB := Aside0.mk (Below.refl w.heap.size w)
 unfold F29.f at h
 have H := h; clear h; have HC2 := Aside0.mk H; clear H; go_enter Tryd.func29, Tryd.ntmps29
 go_upto_if 5 with (first | ((with_reducible refine gate_dst (N := 1) rfl ?_); refine box_event ?hg (N := 1) ?hd (cs := #[.int .i64 a0_0, .int .i64 a0_1, .string a0_2, .int .i64 a0_3, .int .i64 a0_4, .int .i64 a0_5, .string a0_6, .int .i64 a0_7]) (t := 23) ?hr ?_; (case hd => rfl); (case hg => rfl); (case hr => first | (go_simp; done) | (go_simp; rfl)); intro gb101 hg w3 hbox hb; have BK101 := Aside0.mk (hbox); have GW101 := Aside0.mk ((pbb2_6 : w.heap.size ≤ gb101)); have GE101 := Aside0.mk ((pbb2_6 : w.heap.size ≤ gb101)); replace HB := Aside0.mk (below_step pbb2_3 hb); clear hb hbox hg; obtain ⟨hcz4_0, hcz4_1, hcz4_2, hcz4_3, hcz4_4, hcz4_5, hcz4_6, hcz4_7⟩ := cz8 BK101.out; obtain ⟨hfz4_0, hfz4_1, hfz4_2, hfz4_3, hfz4_4, hfz4_5, hfz4_6, hfz4_7⟩ := fz8 BK101.out))
 (try simp only [Act.put, List.setIfInBounds_toArray, List.set_cons_zero, List.set_cons_succ])
 go_cut [5] (fun v5 wc => ∃ (kq : Nat) (x5_1 : Bool), v5 = .bool x5_1 ∧ Aside0 (F29.j0 kq a0_3 x5_1 a0_0 a0_1 a0_2 a0_3 a0_4 a0_5 a0_6 a0_7 = some r) ∧ Aside0 (kq ≤ k) ∧ Aside0 (wc.heap[gb101]? = some (.cells #[.int .i64 a0_0, .int .i64 a0_1, .string a0_2, .int .i64 a0_3, .int .i64 a0_4, .int .i64 a0_5, .string a0_6, .int .i64 a0_7] 23 (0, 0))) ∧ Aside0 (Below w.heap.size w wc))
 case first =>
  have H := HC2.out; clear HC2
  by_cases c5 : a0_3 = 2
  ·rw [if_pos c5] at H; have c5b0 := bT_ c5; have c5b1 := bF_ c5; clear c5; (first | rw [c5b0] | (simp only [i64_w, i32_w]; rw [c5b0]) | skip); have H' := Aside0.mk H; clear H
   go_wp2
   go_meet
   case rel => exact ⟨_, ((a0_3 == 2)), pbb2_0, H', ⟨by first | omega | exact Nat.le_refl _⟩, ⟨pbb2_10⟩, ⟨pbb2_9⟩⟩
  ·rw [if_neg c5] at H; have c5b0 := nF_ c5; have c5b1 := nT_ c5; (first | rw [c5b0] | (simp only [i64_w, i32_w]; rw [c5b0]) | skip); have H' := Aside0.mk H; clear H
   go_wp2
   go_meet
   case rel => exact ⟨_, ((a0_3 == 3)), pbb2_0, H', ⟨by first | omega | exact Nat.le_refl _⟩, ⟨pbb2_10⟩, ⟨pbb2_9⟩⟩
 case rest =>
  clear HC2; obtain ⟨kq, x5_1, rfl, HA, HJ1, BK101, HB⟩ := hcut
  cases kq with
  | zero => exact absurd HA.out (by simp [F29.j0])
  | succ kj1 =>
   have H := HA.out; clear HA; simp only [F29.j0] at H
   by_cases c6 : x5_1 = true
   ·subst c6; rw [if_pos rfl] at H; obtain rfl := Option.some.inj H; obtain ⟨hcz7_0, hcz7_1, hcz7_2, hcz7_3, hcz7_4, hcz7_5, hcz7_6, hcz7_7⟩ := cz8 BK101.out; obtain ⟨hfz7_0, hfz7_1, hfz7_2, hfz7_3, hfz7_4, hfz7_5, hfz7_6, hfz7_7⟩ := fz8 BK101.out
    go_wp2
    go_ret
    exact ⟨pbb2_5, pbb2_9⟩
   ·replace c6 := Bool.eq_false_iff.mpr c6; subst c6; rw [if_neg (show ¬ (false = true) by decide)] at H
    by_cases c8 : a0_3 = 5
    ·rw [if_pos c8] at H; have c8b0 := bT_ c8; have c8b1 := bF_ c8; clear c8; obtain ⟨t102, A90, H⟩ := bnd H; have A9 := Aside0.mk A90; clear A90; obtain rfl := Option.some.inj H; obtain ⟨hcz10_0, hcz10_1, hcz10_2, hcz10_3, hcz10_4, hcz10_5, hcz10_6, hcz10_7⟩ := cz8 BK101.out; obtain ⟨hfz10_0, hfz10_1, hfz10_2, hfz10_3, hfz10_4, hfz10_5, hfz10_6, hfz10_7⟩ := fz8 BK101.out
     go_wp2_with (first | ((with_reducible refine gate_callee (f := 27) rfl ?_); refine goesL_ (some 15) rfl rfl Tryd.func27 (by kernel_rfl) rfl #[.int .i64 a0_5, .int .i64 1, .int .i64 1000000000000] rfl pbb2_2 ?_; (with_reducible refine (F27.calls a0_5 1 1000000000000 t102 _ A9.out).mono ?_); rintro e w' ⟨rfl, ⟨nd, rfl⟩⟩; refine ⟨_, rfl, ?_⟩))
     go_ret
     exact ⟨pbb2_5, pbb2_9⟩
    ·rw [if_neg c8] at H; have c8b0 := nF_ c8; have c8b1 := nT_ c8; obtain ⟨t103, A110, H⟩ := bnd H; have A11 := Aside0.mk A110; clear A110; obtain rfl := Option.some.inj H; obtain ⟨hcz12_0, hcz12_1, hcz12_2, hcz12_3, hcz12_4, hcz12_5, hcz12_6, hcz12_7⟩ := cz8 BK101.out; obtain ⟨hfz12_0, hfz12_1, hfz12_2, hfz12_3, hfz12_4, hfz12_5, hfz12_6, hfz12_7⟩ := fz8 BK101.out
     go_wp2_with (first | ((with_reducible refine gate_callee (f := 27) rfl ?_); refine goesL_ (some 18) rfl rfl Tryd.func27 (by kernel_rfl) rfl #[.int .i64 a0_5, .int .i64 0, .int .i64 1000000000000] rfl pbb2_2 ?_; (with_reducible refine (F27.calls a0_5 0 1000000000000 t103 _ A11.out).mono ?_); rintro e w' ⟨rfl, ⟨nd, rfl⟩⟩; refine ⟨_, rfl, ?_⟩))
     go_ret
     exact ⟨pbb2_5, pbb2_9⟩
def F30.f (k : Nat) (a0_0 : Int) (a0_1 : Int) (a0_2 : ByteArray) (a0_3 : Int) (a0_4 : Int) (a0_5 : Int) (a0_6 : ByteArray) (a0_7 : Int) : Option (Bool) := if a0_6.toList = ([] : List UInt8) then (some true) else ((F26.f k a0_6).bind fun t102 => (if t102 = true then (if a0_3 = 1 then (some true) else (some (a0_3 == 2))) else (some false)))
theorem F30.mono : ∀ a0 a1 a2 a3 a4 a5 a6 a7 k, LeO (F30.f k a0 a1 a2 a3 a4 a5 a6 a7) (F30.f (k + 1) a0 a1 a2 a3 a4 a5 a6 a7) := by
 intro a0 a1 a2 a3 a4 a5 a6 a7 k
 unfold F30.f
 repeat' first
   | (with_reducible exact F26.mono _ _)
   | (with_reducible exact LeO.refl _)
   | (with_reducible exact LeO.none _)
   | (with_reducible refine LeO.ite ?_ ?_)
   | (with_reducible refine LeO.bind ?_ (fun _ => ?_))
   | exact F26.mono _ _
   | exact LeO.none _
   | refine LeO.ite ?_ ?_
   | refine LeO.bind ?_ (fun _ => ?_)
set_option maxHeartbeats 8000000 in
set_option maxRecDepth 100000 in
theorem F30.calls (k : Nat) (a0_0 : Int) (a0_1 : Int) (a0_2 : ByteArray) (a0_3 : Int) (a0_4 : Int) (a0_5 : Int) (a0_6 : ByteArray) (a0_7 : Int) (r : Bool) (w : World) (h : F30.f k a0_0 a0_1 a0_2 a0_3 a0_4 a0_5 a0_6 a0_7 = some r) :
    Calls Tryd.prog 30 #[.agg #[.int .i64 a0_0, .int .i64 a0_1, .string a0_2, .int .i64 a0_3, .int .i64 a0_4, .int .i64 a0_5, .string a0_6, .int .i64 a0_7]] w fun e w' => e = .returned (.bool r) ∧ Below w.heap.size w w' := by
 have hu23 := Tryd.underlying23; have hu9 := Tryd.underlying9; have hu3 := Tryd.underlying3; have HB := Aside0.mk (Below.refl w.heap.size w)
 unfold F30.f at h
 have H := h; clear h
 by_cases c2 : a0_6.toList = ([] : List UInt8)
 ·rw [if_pos c2] at H; have c2b0 := bT_ c2; have c2b1 := bF_ c2; clear c2; obtain rfl := Option.some.inj H; go_enter Tryd.func30, Tryd.ntmps30
  go_wp2_with (first | ((with_reducible refine gate_dst (N := 1) rfl ?_); refine box_event ?hg (N := 1) ?hd (cs := #[.int .i64 a0_0, .int .i64 a0_1, .string a0_2, .int .i64 a0_3, .int .i64 a0_4, .int .i64 a0_5, .string a0_6, .int .i64 a0_7]) (t := 23) ?hr ?_; (case hd => rfl); (case hg => rfl); (case hr => first | (go_simp; done) | (go_simp; rfl)); intro gb101 hg w3 hbox hb; have BK101 := Aside0.mk (hbox); have GW101 := Aside0.mk ((pbb2_6 : w.heap.size ≤ gb101)); have GE101 := Aside0.mk ((pbb2_6 : w.heap.size ≤ gb101)); replace HB := Aside0.mk (below_step pbb2_3 hb); clear hb hbox hg; obtain ⟨hcz4_0, hcz4_1, hcz4_2, hcz4_3, hcz4_4, hcz4_5, hcz4_6, hcz4_7⟩ := cz8 BK101.out; obtain ⟨hfz4_0, hfz4_1, hfz4_2, hfz4_3, hfz4_4, hfz4_5, hfz4_6, hfz4_7⟩ := fz8 BK101.out))
  go_ret
  exact ⟨pbb2_5, pbb2_9⟩
 ·rw [if_neg c2] at H; have c2b0 := nF_ c2; have c2b1 := nT_ c2; obtain ⟨t102, A50, H⟩ := bnd H; have A5 := Aside0.mk A50; clear A50
  by_cases c6 : t102 = true
  ·subst c6; rw [if_pos rfl] at H
   by_cases c7 : a0_3 = 1
   ·rw [if_pos c7] at H; have c7b0 := bT_ c7; have c7b1 := bF_ c7; clear c7; obtain rfl := Option.some.inj H; go_enter Tryd.func30, Tryd.ntmps30
    go_wp2_with (first | ((with_reducible refine gate_dst (N := 1) rfl ?_); refine box_event ?hg (N := 1) ?hd (cs := #[.int .i64 a0_0, .int .i64 a0_1, .string a0_2, .int .i64 a0_3, .int .i64 a0_4, .int .i64 a0_5, .string a0_6, .int .i64 a0_7]) (t := 23) ?hr ?_; (case hd => rfl); (case hg => rfl); (case hr => first | (go_simp; done) | (go_simp; rfl)); intro gb101 hg w8 hbox hb; have BK101 := Aside0.mk (hbox); have GW101 := Aside0.mk ((pbb2_6 : w.heap.size ≤ gb101)); have GE101 := Aside0.mk ((pbb2_6 : w.heap.size ≤ gb101)); replace HB := Aside0.mk (below_step pbb2_3 hb); clear hb hbox hg; obtain ⟨hcz9_0, hcz9_1, hcz9_2, hcz9_3, hcz9_4, hcz9_5, hcz9_6, hcz9_7⟩ := cz8 BK101.out; obtain ⟨hfz9_0, hfz9_1, hfz9_2, hfz9_3, hfz9_4, hfz9_5, hfz9_6, hfz9_7⟩ := fz8 BK101.out) | (go_at_call 26; (with_reducible refine (F26.calls k a0_6 true _ A5.out).mono ?_); rintro e w10 ⟨rfl, hb⟩; replace BK101 := Aside0.mk (blk_below (g := gb101) (o := .cells #[.int .i64 a0_0, .int .i64 a0_1, .string a0_2, .int .i64 a0_3, .int .i64 a0_4, .int .i64 a0_5, .string a0_6, .int .i64 a0_7] 23 (0, 0)) pbb2_10 hb); replace HB := Aside0.mk (below_step pbb2_9 hb); (try clear hb); (try clear hb2); (try clear hk); (try clear hi); obtain ⟨hcz11_0, hcz11_1, hcz11_2, hcz11_3, hcz11_4, hcz11_5, hcz11_6, hcz11_7⟩ := cz8 BK101.out; obtain ⟨hfz11_0, hfz11_1, hfz11_2, hfz11_3, hfz11_4, hfz11_5, hfz11_6, hfz11_7⟩ := fz8 BK101.out))
    go_ret
    exact ⟨pbb2_5, pbb2_9⟩
   ·rw [if_neg c7] at H; have c7b0 := nF_ c7; have c7b1 := nT_ c7; obtain rfl := Option.some.inj H; go_enter Tryd.func30, Tryd.ntmps30
    go_wp2_with (first | ((with_reducible refine gate_dst (N := 1) rfl ?_); refine box_event ?hg (N := 1) ?hd (cs := #[.int .i64 a0_0, .int .i64 a0_1, .string a0_2, .int .i64 a0_3, .int .i64 a0_4, .int .i64 a0_5, .string a0_6, .int .i64 a0_7]) (t := 23) ?hr ?_; (case hd => rfl); (case hg => rfl); (case hr => first | (go_simp; done) | (go_simp; rfl)); intro gb101 hg w12 hbox hb; have BK101 := Aside0.mk (hbox); have GW101 := Aside0.mk ((pbb2_6 : w.heap.size ≤ gb101)); have GE101 := Aside0.mk ((pbb2_6 : w.heap.size ≤ gb101)); replace HB := Aside0.mk (below_step pbb2_3 hb); clear hb hbox hg; obtain ⟨hcz13_0, hcz13_1, hcz13_2, hcz13_3, hcz13_4, hcz13_5, hcz13_6, hcz13_7⟩ := cz8 BK101.out; obtain ⟨hfz13_0, hfz13_1, hfz13_2, hfz13_3, hfz13_4, hfz13_5, hfz13_6, hfz13_7⟩ := fz8 BK101.out) | (go_at_call 26; (with_reducible refine (F26.calls k a0_6 true _ A5.out).mono ?_); rintro e w14 ⟨rfl, hb⟩; replace BK101 := Aside0.mk (blk_below (g := gb101) (o := .cells #[.int .i64 a0_0, .int .i64 a0_1, .string a0_2, .int .i64 a0_3, .int .i64 a0_4, .int .i64 a0_5, .string a0_6, .int .i64 a0_7] 23 (0, 0)) pbb2_10 hb); replace HB := Aside0.mk (below_step pbb2_9 hb); (try clear hb); (try clear hb2); (try clear hk); (try clear hi); obtain ⟨hcz15_0, hcz15_1, hcz15_2, hcz15_3, hcz15_4, hcz15_5, hcz15_6, hcz15_7⟩ := cz8 BK101.out; obtain ⟨hfz15_0, hfz15_1, hfz15_2, hfz15_3, hfz15_4, hfz15_5, hfz15_6, hfz15_7⟩ := fz8 BK101.out))
    go_ret
    exact ⟨pbb2_5, pbb2_9⟩
  ·replace c6 := Bool.eq_false_iff.mpr c6; subst c6; rw [if_neg (show ¬ (false = true) by decide)] at H; obtain rfl := Option.some.inj H; go_enter Tryd.func30, Tryd.ntmps30
   go_wp2_with (first | ((with_reducible refine gate_dst (N := 1) rfl ?_); refine box_event ?hg (N := 1) ?hd (cs := #[.int .i64 a0_0, .int .i64 a0_1, .string a0_2, .int .i64 a0_3, .int .i64 a0_4, .int .i64 a0_5, .string a0_6, .int .i64 a0_7]) (t := 23) ?hr ?_; (case hd => rfl); (case hg => rfl); (case hr => first | (go_simp; done) | (go_simp; rfl)); intro gb101 hg w16 hbox hb; have BK101 := Aside0.mk (hbox); have GW101 := Aside0.mk ((pbb2_6 : w.heap.size ≤ gb101)); have GE101 := Aside0.mk ((pbb2_6 : w.heap.size ≤ gb101)); replace HB := Aside0.mk (below_step pbb2_3 hb); clear hb hbox hg; obtain ⟨hcz17_0, hcz17_1, hcz17_2, hcz17_3, hcz17_4, hcz17_5, hcz17_6, hcz17_7⟩ := cz8 BK101.out; obtain ⟨hfz17_0, hfz17_1, hfz17_2, hfz17_3, hfz17_4, hfz17_5, hfz17_6, hfz17_7⟩ := fz8 BK101.out) | (go_at_call 26; (with_reducible refine (F26.calls k a0_6 false _ A5.out).mono ?_); rintro e w18 ⟨rfl, hb⟩; replace BK101 := Aside0.mk (blk_below (g := gb101) (o := .cells #[.int .i64 a0_0, .int .i64 a0_1, .string a0_2, .int .i64 a0_3, .int .i64 a0_4, .int .i64 a0_5, .string a0_6, .int .i64 a0_7] 23 (0, 0)) pbb2_10 hb); replace HB := Aside0.mk (below_step pbb2_9 hb); (try clear hb); (try clear hb2); (try clear hk); (try clear hi)))
   go_ret
   exact ⟨pbb2_5, pbb2_9⟩
end Go.Proofs.YtegpappenmhndaaDoor.M
end
