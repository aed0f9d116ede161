/- What the claims of this seat share, part 5 of 9: what the program's functions compute. -/
import Derived.Test.YtjeecehhcajfaaaDoorQBB2
import Derived.Test.YtjeecehhcajfaaaDoorQBB4
import Derived.Deep.RegionHeld3
import Derived.Deep.QuietTactic
import Derived.BigQuiet
import Derived.Shelf.Sort.Plain
import Derived.Test.YtjeecehhcajfaaaDoorProg
import Derived.Shelf.Slices.In.SortNone
import Derived.Test.YtjeecehhcajfaaaDoorQBB1
import Derived.Laws.RangeAny
import Derived.Lib.OthersKept
namespace Go.Proofs.YtjeecehhcajfaaaDoor.M
theorem pbb5_0 {p : Prop} (h : p := by exact Kd.C_below HCC.out (below_alloc (Below.refl _ _) _)) : p := h
theorem pbb5_1 {p : Prop} (h : p := by have := hb5.size; simp at this; omega) : p := h
theorem pbb5_2 {p : Prop} (h : p := by intro e; injection e with e; omega) : p := h
theorem pbb5_3 {p : Prop} (h : p := by show b2 ≠ wr.heap.size; omega) : p := h
theorem pbb5_4 {p : Prop} (h : p := by first | (go_simp; done) | (go_simp; rfl)) : p := h
theorem pbb5_5 {p : Prop} (h : p := by simp only [List.length_nil]; rw [htl]; omega) : p := h
end Go.Proofs.YtjeecehhcajfaaaDoor.M
section
namespace Go.Proofs.YtjeecehhcajfaaaDoor.M
open Go.RowKit Go.Proofs.YtjeecehhcajfaaaDoorW.PrintWords Go.Proofs.YtjeecehhcajfaaaDoorW.PrintLast Go.Proofs.YtjeecehhcajfaaaDoorW.PrintMore
attribute [local go_sem] max2_int min2_int max_two min_two max_three min_three max_four min_four
set_option linter.unusedVariables false
set_option linter.unusedSimpArgs false
theorem bytes_inj {a b : ByteArray} : a.toList = b.toList ↔ a = b := by
 rw [ByteArray.toList_eq, ByteArray.toList_eq]
 constructor
 ·intro h; exact ByteArray.ext (Array.toList_inj.1 h)
 ·rintro rfl; rfl
def keyV (k : Key) : Value := .agg #[.string k.1, .string k.2.1, .string k.2.2.1, .string k.2.2.2.1, .string k.2.2.2.2]
theorem key_check2 (n : Nat) (e : Bool) (p : Key) (w : World) : (Instr.checkKey e (n + 2) 89 (keyV p)).run Tryd.prog w = .ok () w := by
 have hu := Tryd.underlying89; have hi := Tryd.underlying9; have hin : ∀ (a : ByteArray) (w : World), (Instr.checkKey e (n + 1) 9 (.string a)).run Tryd.prog w = .ok () w := fun a w => MapKept.run_checkKey hi (by simp [MapKept.IsKey]) e n
 unfold keyV
 rw [Instr.checkKey]; have p0 : ∀ w, (part 9 #[.string p.1, .string p.2.1, .string p.2.2.1, .string p.2.2.2.1, .string p.2.2.2.2] 0).run Tryd.prog w = .ok (.string p.1) w := fun w => by go_simp
 have p1 : ∀ w, (part 9 #[.string p.1, .string p.2.1, .string p.2.2.1, .string p.2.2.2.1, .string p.2.2.2.2] 1).run Tryd.prog w = .ok (.string p.2.1) w := fun w => by go_simp
 have p2 : ∀ w, (part 9 #[.string p.1, .string p.2.1, .string p.2.2.1, .string p.2.2.2.1, .string p.2.2.2.2] 2).run Tryd.prog w = .ok (.string p.2.2.1) w := fun w => by go_simp
 have p3 : ∀ w, (part 9 #[.string p.1, .string p.2.1, .string p.2.2.1, .string p.2.2.2.1, .string p.2.2.2.2] 3).run Tryd.prog w = .ok (.string p.2.2.2.1) w := fun w => by go_simp
 have p4 : ∀ w, (part 9 #[.string p.1, .string p.2.1, .string p.2.2.1, .string p.2.2.2.1, .string p.2.2.2.2] 4).run Tryd.prog w = .ok (.string p.2.2.2.2) w := fun w => by go_simp
 simp only [Sem.run_bind, run_underlying hu, Result.andThen_ok]; rw [← Array.forIn_toList]; simp only [List.forIn_cons, List.forIn_nil]; rw [if_pos (by decide), if_pos (by decide), if_pos (by decide), if_pos (by decide), if_pos (by decide)]; simp only [Sem.run_bind, p0, p1, p2, p3, p4, hin, Result.andThen_ok, Sem.run_pure]
theorem key_equal (p q : Key) (w : World) : (Op.equal 89 (keyV p) (keyV q)).run Tryd.prog w = .ok (decide (q = p)) w := by
 refine (eqA89 (Op.maxDepth - 2) w p.1 q.1 p.2.1 q.2.1 p.2.2.1 q.2.2.1 p.2.2.2.1 q.2.2.2.1 p.2.2.2.2 q.2.2.2.2).trans ?_
 congr 1
 obtain ⟨p1, p2, p3, p4, p5⟩ := p; obtain ⟨q1, q2, q3, q4, q5⟩ := q
 have hb : ∀ x y : ByteArray, (x.toList == y.toList) = decide (y = x) := by
  intro x y
  by_cases c : y = x
  ·subst c; simp
  ·rw [decide_eq_false c]; refine beq_eq_false_iff_ne.2 (fun e => c ?_); exact (bytes_inj.1 e).symm
 simp only [hb]; rw [Bool.eq_iff_iff]; simp only [Bool.and_eq_true, decide_eq_true_eq, Prod.mk.injEq]
theorem key_key : KeyT Tryd.prog 89 keyV := KeyT.struct Tryd.underlying89 (fun e p w => key_check2 9998 e p w) key_equal (fun k => by simp only [keyV, Instr.sameBits]; simp [Instr.sameBits, (MapKept.bytes_beq _ _).2 rfl])
theorem zero_ptr2 (w : World) : (zeroValue 75).run Tryd.prog w = .ok (.pointer none) w := by kernel_rfl
theorem info89s : (Tryd.prog.info? 89).map (fun i => (i.zero, i.size, i.bytes)) = some (some (.agg #[.string ⟨#[]⟩, .string ⟨#[]⟩, .string ⟨#[]⟩, .string ⟨#[]⟩, .string ⟨#[]⟩]), 5, 80) := by kernel_rfl
def kKey : Kd Key := Kd.pair Kd.string (Kd.pair Kd.string (Kd.pair Kd.string (Kd.pair Kd.string Kd.string)))
theorem kKey_mk (w : World) (base : Nat) (ok : Nat → Prop) (k : Key) : kKey.M w base ok k [.string k.1, .string k.2.1, .string k.2.2.1, .string k.2.2.2.1, .string k.2.2.2.2] := ⟨[_], _, rfl, rfl, [_], _, rfl, rfl, [_], _, rfl, rfl, [_], _, rfl, rfl, rfl⟩
theorem kKey_flat {w w' : World} {base base' : Nat} {ok ok' : Nat → Prop} {k : Key} {cs : List Value} (h : kKey.M w base ok k cs) : kKey.M w' base' ok' k cs := h
theorem kKey_move {w w1 : World} {base : Nat} {ok : Nat → Prop} {v : Value} {xs : List Key} (h : Kd.R kKey 89 w base ok v xs) (hm : ∀ k, v.ownBlock = some k → w1.heap[k]? = w.heap[k]?) : Kd.R kKey 89 w1 base ok v xs := by
 obtain ⟨h0, inner, ho, hr⟩ := h; exact ⟨h0, inner, own_move ho hm, hr.imp_ (fun _ _ hp => kKey_flat hp)⟩
theorem kKey_own {w : World} {base : Nat} {ok : Nat → Prop} {v : Value} {xs : List Key} (h : Kd.R kKey 89 w base ok v xs) : ∃ inner, w.ownsRow base 89 5 v xs.length inner := by
 obtain ⟨h0, inner, ho, hr⟩ := h; exact ⟨inner, ho⟩
set_option maxHeartbeats 16000000 in
set_option maxRecDepth 100000 in
theorem columns_key.calls (A0 : Option Addr) (c0 : Nat) (l0 : List Ln) (w : World) (hr0 : Kd.C k24 w A0 l0.length l0) (hc0 : l0.length ≤ c0) (hl : l0.length ≤ 1000000) (hok : ∀ x ∈ l0, okTags x.f6) :
  Calls Tryd.prog 53 #[.slice A0 l0.length c0, .func (.func 54) #[] #[]] w fun e w' => ∃ b vk, e = .returned (.tuple #[.map (some b), vk]) ∧ ColsIs keyV w' w.heap.size b (colsOf keyL l0) ∧ Below w.heap.size w w' := by
 have HR0 := Aside0.mk hr0; have HC0 := Aside0.mk hc0; have HL := Aside0.mk hl; have HOk := Aside0.mk hok; clear hr0 hc0 hl hok; go_enter Tryd.func53, Tryd.ntmps53
 go_wp2_with (first
  | (refine makeL_ rfl rfl ?_))
 have HCo := Aside0.mk (ColsIs_made (κ := Key) keyV w w.heap.size); have HB := Aside0.mk (below_alloc (Below.refl w.heap.size w) (.map #[] 0))
 go_loopg [7, 14] l0.length (fun kq v7 v14 w' => ∃ (j : Nat), v14 = .int .i64 (j : Int) ∧ Aside0 (j + kq = l0.length) ∧ Aside0 (ColsIs keyV w' w.heap.size w.heap.size (colsOf keyL (l0.take j))) ∧ Aside0 (Kd.R kKey 89 w' w.heap.size (fun _ => True) v7 ((colsOf keyL (l0.take j)).map (·.1))) ∧ Aside0 (Below w.heap.size w w'))
 case atStart => exact ⟨0, rfl, ⟨by omega⟩, HCo, ⟨Kd.R_nil _ _ _ _ _⟩, HB⟩
 case round =>
  clear HCo HB; obtain ⟨j, rfl, HJ, HCo, HK, HB⟩ := hrel
  cases gk with
  | zero =>
   have hj : j = l0.length := by have := HJ.out; omega
   subst hj; have hjb : decide ((l0.length : Int) < (l0.length : Int)) = false := decide_eq_false (by omega); have HCo1 := HCo.out; rw [List.take_length] at HCo1; clear HCo HK
   go_wp2
   go_ret2
   exact ⟨_, _, rfl, HCo1, HB.out⟩
  | succ k1 =>
   have hj : j < l0.length := by have := HJ.out; omega
   have hjb : decide ((j : Int) < (l0.length : Int)) = true := decide_eq_true (by omega); have p1 : 0 ≤ (j : Int) := by omega
   have qj : (j : Int) < (l0.length : Int) := by omega
   obtain ⟨ad, A6, c6, e1, hx0, hx1, hx2, hx3, hx4, hx5, hx6, hc6, hC6⟩ := at_T24 (Kd.C_below HR0.out HB.out) (j : Int) p1 qj
   cases e1
   have hrd : rd_T24 l0 (j : Int) = l0[j] := by simp [rd_T24, hj]
   have HT : Aside0 (l0.take j ++ [l0[j]] = l0.take (j + 1)) := ⟨by simp⟩; have hkt := keyOf_total l0[j] (HOk.out _ (List.getElem_mem hj)); rw [hrd] at hx0 hx1 hx2 hx3 hx4 hx5 hx6 hc6 hC6; obtain ⟨x, hx⟩ : ∃ x, l0[j] = x := ⟨_, rfl⟩; rw [hx] at HT hkt hx0 hx1 hx2 hx3 hx4 hx5 hx6 hc6 hC6
   unfold keyL at hkt
   have hkl : keyL x = (x.f0, x.f1, x.f4, x.f5, tagsT x.f6) := rfl; clear hx hrd; obtain ⟨T, hT⟩ : ∃ T, tagsT x.f6 = T := ⟨_, rfl⟩; rw [hT] at hkt hkl; have HKT := Aside0.mk hkt; clear hkt hT; replace p1 := eq_true p1; replace qj := eq_true qj; simp only [Int.toNat_natCast] at hx0 hx1 hx2 hx3 hx4 hx5 hx6; have HC6 := Aside0.mk hc6; have HCC := Aside0.mk hC6; clear hc6 hC6; obtain ⟨M, fp, hM⟩ := HCo.out; have hlL := colsOf_len keyL (l0.take j); have HW : Aside0 (wrap64 ((j : Int) + 1) = ((j + 1 : Nat) : Int)) := ⟨by have := HL.out; unfold wrap64; omega⟩; have HT2 : Aside0 (colsOf keyL (l0.take (j + 1)) = colPut (colNew (colsOf keyL (l0.take j)) (x.f0, x.f1, x.f4, x.f5, T)) (x.f0, x.f1, x.f4, x.f5, T) x.f2 x.f3) := ⟨by rw [← HT.out, colsOf_snoc]; unfold colStep; rw [hkl]⟩; have HN : Aside0 ((l0.take j).length ≤ 1000000) := ⟨by have := HL.out; simp; omega⟩; obtain ⟨Lc, hLc⟩ : ∃ Lc, colsOf keyL (l0.take j) = Lc := ⟨_, rfl⟩; rw [hLc] at hM hlL HT2 HK; have hcnt : Lc.length ≤ 1000000 := by rw [← hLc]; exact Nat.le_trans (colsOf_count keyL _) HN.out
   have HCnt := Aside0.mk hcnt; clear HCo hLc HT hcnt hkl
   cases hany : Lc.any (fun q => decide (q.1 = (x.f0, x.f1, x.f4, x.f5, T))) with
   | true =>
    have hnp := colNew_pos hany; obtain ⟨i0, p0, am0, bm0, hag0, _⟩ := hM.present hany; have hlv : lookV ptrV M (x.f0, x.f1, x.f4, x.f5, T) (.pointer none) false = .pointer (some ⟨p0, 0, none⟩) := by simp [lookV, hag0, ptrV]
    go_wp2_with (first
     | (go_at_call 54; (with_reducible refine (F54.calls (x.f6.length + 1) x.f0 x.f1 x.f2 x.f3 x.f4 x.f5 A6 c6 x.f6 _ _ _ _ _ _ pbb5_0 HC6.out HKT.out).mono ?_); rintro e w5 ⟨rfl, hb5⟩; have hX5 := blk_below (blk_new wr (.cells #[.string x.f0, .string x.f1, .int .i64 x.f2, .int .i64 x.f3, .string x.f4, .string x.f5, .slice A6 x.f6.length c6] 24)) hb5; have HX6 := Aside0.mk (blk_alloc hX5 (.cells #[.string x.f0, .string x.f1, .string x.f4, .string x.f5, .string T] 89)); have HY6 := Aside0.mk (blk_new w5 (.cells #[.string x.f0, .string x.f1, .string x.f4, .string x.f5, .string T] 89)); have hb5s : wr.heap.size < w5.heap.size := pbb5_1; have hbb := below_then (below_alloc (Below.refl wr.heap.size wr) _) (by simp) hb5; have HB5 := Aside0.mk (below_then HB.out HB.out.size hbb); have HB6 := Aside0.mk (HB5.out.alloc HB5.out.size (.cells #[.string x.f0, .string x.f1, .string x.f4, .string x.f5, .string T] 89)); have HK6 := Aside0.mk (Kd.R_alloc (Kd.R_below HK.out hbb) (.cells #[.string x.f0, .string x.f1, .string x.f4, .string x.f5, .string T] 89)); have HM6 := Aside0.mk ((hM.below hbb).below (below_alloc (Below.refl _ _) (.cells #[.string x.f0, .string x.f1, .string x.f4, .string x.f5, .string T] 89))); clear hb5 hX5 hbb hx0 hx1 hx2 hx3 hx4 hx5 hx6)
     | (refine lookL_ (ev := ptrV) rfl rfl Tryd.underlying84 key_key zero_ptr2 HM6.out.1 (x.f0, x.f1, x.f4, x.f5, T) rfl rfl ?_; (try rw [hlv])))
    refine nameW ?_; intro W hW; have HMd : Aside0 (ColsM keyV M fp W.drew w.heap.size w.heap.size Lc) := ⟨by rw [← hW]; exact HM6.out.below (below_drew (Below.refl _ _))⟩; have HBd : Aside0 (Below w.heap.size w W.drew) := ⟨by rw [← hW]; exact below_drew HB6.out⟩; have HKd : Aside0 (Kd.R kKey 89 W.drew w.heap.size (fun _ => True) _ (Lc.map (·.1))) := ⟨by rw [← hW]; exact Kd.R_drew HK6.out⟩; have HXd : Aside0 (W.drew.heap[wr.heap.size]? = some (.cells #[.string x.f0, .string x.f1, .int .i64 x.f2, .int .i64 x.f3, .string x.f4, .string x.f5, .slice A6 x.f6.length c6] 24 (0, 0))) := ⟨by rw [← hW]; exact HX6.out⟩; have HYd : Aside0 (W.drew.heap[w5.heap.size]? = some (.cells #[.string x.f0, .string x.f1, .string x.f4, .string x.f5, .string T] 89 (0, 0))) := ⟨by rw [← hW]; exact HY6.out⟩; clear hW HM6 HB6 HK6 HX6 HY6; obtain ⟨i, p, am, bm, hag, hi, hL, hpb, hfp, va, vb, hp, hA, hB⟩ := HMd.out.present hany
    have hlen : am.length ≤ 1000000 ∧ bm.length ≤ 1000000 := by
     have h1 := hlL _ (List.mem_of_getElem? hL); have := HN.out; exact ⟨Nat.le_trans h1.1 this, Nat.le_trans h1.2 this⟩
    have hlv8 : lookV ptrV M (x.f0, x.f1, x.f4, x.f5, T) (.pointer none) false = .pointer (some ⟨p, 0, none⟩) := by simp [lookV, hag, ptrV]
    have hne9 := ne_cols hA hB; refine start_ (n := 5) (S := fun w' => w'.heap[w5.heap.size]? = some (.cells #[.string x.f0, .string x.f1, .string x.f4, .string x.f5, .string T] 89 (0, 0)) ∧ w'.heap[wr.heap.size]? = some (.cells #[.string x.f0, .string x.f1, .int .i64 x.f2, .int .i64 x.f3, .string x.f4, .string x.f5, .slice A6 x.f6.length c6] 24 (0, 0)) ∧ MapIs keyV ptrV w' w.heap.size M) (ds := [4]) (bq 5 0) (by kernel_rfl) rfl rfl ⟨HYd.out, HXd.out, HMd.out.1⟩ (fun hHeld => ?_); refine pure_ (i := 0) (N := some 33) (v := ?_) (a' := ?_) (bq 5 1) rfl rfl (by kernel_rfl) (fun _ _ _ h => h) (Or.inl ⟨by rfl, ?_⟩) ?_ ?_; rotate_left
    ·intro w'; go_simp; with_reducible rfl
    rotate_left
    ·exact cbb2_0
    refine take_ (i := 1) (N := some 34) (v := ?_) (a' := ?_) (bq 5 3) rfl rfl (by kernel_rfl) (fun _ _ _ h => h) (Or.inl ⟨by rfl, ?_⟩) hHeld ?_ ?_; rotate_left
    ·rintro w' ⟨s0, s1, s2⟩; have k0 := (blk_cell s0 0).trans rfl; have k1 := (blk_cell s0 1).trans rfl; have k2 := (blk_cell s0 2).trans rfl; have k3 := (blk_cell s0 3).trans rfl; have k4 := (blk_cell s0 4).trans rfl; go_simp; with_reducible rfl
    rotate_left
    ·exact cbb2_0
    refine take_ (i := 2) (N := some 35) (v := .pointer (some ⟨p, 0, none⟩)) (a' := ?_) (bq 5 7) rfl rfl (by kernel_rfl) (fun _ _ _ h => h) (Or.inl ⟨by rfl, ?_⟩) hHeld ?_ ?_
    ·rintro w' ⟨s0, s1, s2⟩; exact exec_look rfl rfl rfl (s2.look key_key Tryd.underlying84 (zero_ptr2 w') (x.f0, x.f1, x.f4, x.f5, T) false) hlv8
    rotate_left
    ·exact cbb2_0
    refine take_ (i := 3) (N := some 36) (v := ?_) (a' := ?_) (bq 5 15) rfl rfl (by kernel_rfl) (fun _ _ _ h => h) (Or.inl ⟨by rfl, ?_⟩) hHeld ?_ ?_; rotate_left
    ·rintro w' ⟨s0, s1, s2⟩; have k0 := (blk_cell s1 0).trans rfl; have k1 := (blk_cell s1 1).trans rfl; have k2 := (blk_cell s1 2).trans rfl; have k3 := (blk_cell s1 3).trans rfl; have k4 := (blk_cell s1 4).trans rfl; have k5 := (blk_cell s1 5).trans rfl; have k6 := (blk_cell s1 6).trans rfl; go_simp; with_reducible rfl
    rotate_left
    ·exact cbb2_0
    refine last_ (i := 4) (N := some 37) (bq 5 31) rfl rfl (by kernel_rfl) (by decide) (fun K hK => ?_); refine goes_ Tryd.func72 (by kernel_rfl) rfl #[.pointer (some ⟨p, 0, none⟩), .agg #[.string x.f0, .string x.f1, .int .i64 x.f2, .int .i64 x.f3, .string x.f4, .string x.f5, .slice A6 x.f6.length c6]] (by rfl) rfl rfl (by (try simp only [List.map_toArray, List.map_cons, List.map_nil]); first | done | rfl) ?_; (with_reducible refine (column_add.calls p x A6 c6 am bm va vb w.heap.size W.drew hp (kInt_ok hA (fun k hk => .inl hk.symm)) (kInt_ok hB (fun k hk => .inl hk.symm)) hne9 hpb HBd.out.size hlen).mono ?_); rintro e w9 ⟨rfl, va2, vb2, hp2, hA2, hB2, hne2, hb2, hkeep⟩; have HC9 := Aside0.mk (ColsM.put_ (x := x.f2) (y := x.f3) HMd.out hi hL ⟨hpb, hfp⟩ hA hB hp hp2 hA2 hB2 hne2 hkeep); obtain ⟨inn9, ho9⟩ := kKey_own HKd.out; have HK9 := Aside0.mk (kKey_move HKd.out (own_col ho9 (by decide) hp hA hB hkeep)); have HB9 := Aside0.mk (HBd.out.trans hb2); clear hp2 hA2 hB2 hne2 hb2 hkeep; refine ⟨_, rfl, ?_⟩; refine hK.out _ _ ?_; clear hK K; refine done_ (by kernel_rfl) ?_
    go_wp2
    go_roundg k1
    case measure => omega
    case rel =>
     refine ⟨j + 1, ?_, ⟨by have := HJ.out; omega⟩, ⟨?_⟩, ⟨?_⟩, HB9⟩
     ·have := HW.out; first | rfl | (rw [← this]; rfl) | (simp [*]; done)
     ·rw [HT2.out, hnp]; exact HC9.out
     ·rw [HT2.out, hnp, colPut_keys]; exact HK9.out
   | false =>
    have hag := hM.absent hany; have hlv : lookV ptrV M (x.f0, x.f1, x.f4, x.f5, T) (.pointer none) false = .pointer none := by simp [lookV, hag]
    have hmlt := hM.1.lt; have hklt := Kd.R_lt HK.out
    go_wp2_with (first
     | (go_at_call 54; (with_reducible refine (F54.calls (x.f6.length + 1) x.f0 x.f1 x.f2 x.f3 x.f4 x.f5 A6 c6 x.f6 _ _ _ _ _ _ pbb5_0 HC6.out HKT.out).mono ?_); rintro e w5 ⟨rfl, hb5⟩; have hX5 := blk_below (blk_new wr (.cells #[.string x.f0, .string x.f1, .int .i64 x.f2, .int .i64 x.f3, .string x.f4, .string x.f5, .slice A6 x.f6.length c6] 24)) hb5; have HX6 := Aside0.mk (blk_alloc hX5 (.cells #[.string x.f0, .string x.f1, .string x.f4, .string x.f5, .string T] 89)); have HY6 := Aside0.mk (blk_new w5 (.cells #[.string x.f0, .string x.f1, .string x.f4, .string x.f5, .string T] 89)); have hb5s : wr.heap.size < w5.heap.size := pbb5_1; have hbb := below_then (below_alloc (Below.refl wr.heap.size wr) _) (by simp) hb5; have HB5 := Aside0.mk (below_then HB.out HB.out.size hbb); have HB6 := Aside0.mk (HB5.out.alloc HB5.out.size (.cells #[.string x.f0, .string x.f1, .string x.f4, .string x.f5, .string T] 89)); have HK6 := Aside0.mk (Kd.R_alloc (Kd.R_below HK.out hbb) (.cells #[.string x.f0, .string x.f1, .string x.f4, .string x.f5, .string T] 89)); have HM6 := Aside0.mk ((hM.below hbb).below (below_alloc (Below.refl _ _) (.cells #[.string x.f0, .string x.f1, .string x.f4, .string x.f5, .string T] 89))); clear hb5 hX5 hbb hx0 hx1 hx2 hx3 hx4 hx5 hx6)
     | (refine lookL_ (ev := ptrV) rfl rfl Tryd.underlying84 key_key zero_ptr2 HM6.out.1 (x.f0, x.f1, x.f4, x.f5, T) rfl rfl ?_; (try rw [hlv]))
     | (refine storeL_ (ev := ptrV) (L := M) rfl rfl Tryd.underlying84 key_key (HM6.out.1.alloc _) (x.f0, x.f1, x.f4, x.f5, T) (w5.heap.size + 1) rfl rfl rfl ?_; intro w7 hM7 hg7 hs7; have e6 : (w5.alloc (.cells #[.string x.f0, .string x.f1, .string x.f4, .string x.f5, .string T] 89)).heap.size = w5.heap.size + 1 := (by simp); rw [← e6] at hM7; have HC7 := Aside0.mk (HM6.out.new_ hany HB6.out.size hM7 hg7); have hK6 := Kd.R_alloc HK6.out (.cells #[.slice none 0 0, .slice none 0 0] 104); obtain ⟨inn6, ho6⟩ := kKey_own hK6; have HK7 := Aside0.mk (kKey_move hK6 (own_map ho6 (HM6.out.1.alloc _) hg7)); have hB6 := HB6.out.alloc HB6.out.size (.cells #[.slice none 0 0, .slice none 0 0] 104); have HB7 := Aside0.mk (pw_below_grown hB6 (some w.heap.size) hB6.size hg7 (fun k hk => by injection hk with hk; omega)); have hX7 := blk_grown (blk_alloc HX6.out (.cells #[.slice none 0 0, .slice none 0 0] 104)) hg7 pbb5_2; have hY7 := blk_grown (blk_alloc HY6.out (.cells #[.slice none 0 0, .slice none 0 0] 104)) hg7 (by intro e; injection e with e; have := HB5.out.size; have := hb5s; omega); have hy0 := (blk_cell hY7 0).trans rfl; have hy1 := (blk_cell hY7 1).trans rfl; have hy2 := (blk_cell hY7 2).trans rfl; have hy3 := (blk_cell hY7 3).trans rfl; have hy4 := (blk_cell hY7 4).trans rfl; clear hM7 hg7 hs7 hK6 hB6)
     | ((with_reducible refine gate_builtin (b := .append) (xs := #[.tmp 29, .tmp 31]) rfl ?_); at_builtin; refine Kd.R_append kKey (w0 := w) (W := w7) w.heap.size rfl (.tmp 29) (.tmp 31) 85 89 (.agg #[.string ⟨#[]⟩, .string ⟨#[]⟩, .string ⟨#[]⟩, .string ⟨#[]⟩, .string ⟨#[]⟩]) 80 rfl Tryd.underlying85 info89s rfl (by decide) (by omega) _ (Lc.map (·.1)) (x.f0, x.f1, x.f4, x.f5, T) [.string x.f0, .string x.f1, .string x.f4, .string x.f5, .string T] (fun _ => True) (fun _ => False) rfl rfl ?aP (fun _ hk => hk.elim) (fun _ _ => trivial) ?aO HB7.out HB7.out.size ?aL ?_; (case aP => exact kKey_mk _ _ _ (x.f0, x.f1, x.f4, x.f5, T)); (case aO => exact HK7.out); (case aL => have := HCnt.out; simp only [List.length_map]; omega); intro v8 w8 ho hb hg hat; have HK8 := Aside0.mk ho; have HB8 := Aside0.mk hb; obtain ⟨inn7, ho7⟩ := kKey_own HK7.out; have HX8 := Aside0.mk (blk_grown hX7 hg (own_ne ho7 hX7 (by decide))); have HY8 := Aside0.mk (blk_grown hY7 hg (by intro e; have := hklt _ e.symm; omega)); have HC8 := Aside0.mk (HC7.out.other hg (fun g hg2 => by obtain ⟨cs, hc⟩ := Kd.R_typed HK7.out g hg2; exact ⟨cs, 89, hc, by decide, by decide⟩)); clear ho hb hg hat hX7 hY7))
    refine nameW ?_; intro W hW; obtain ⟨M8, fp8, hM8⟩ := HC8.out; have HMd : Aside0 (ColsM keyV M8 fp8 W.drew w.heap.size w.heap.size (colNew Lc (x.f0, x.f1, x.f4, x.f5, T))) := ⟨by rw [← hW]; exact hM8.below (below_drew (Below.refl _ _))⟩; have HBd : Aside0 (Below w.heap.size w W.drew) := ⟨by rw [← hW]; exact below_drew HB8.out⟩; have HKd : Aside0 (Kd.R kKey 89 W.drew w.heap.size (fun _ => True) _ (Lc.map (·.1) ++ [(x.f0, x.f1, x.f4, x.f5, T)])) := ⟨by rw [← hW]; exact Kd.R_drew HK8.out⟩; have HXd : Aside0 (W.drew.heap[wr.heap.size]? = some (.cells #[.string x.f0, .string x.f1, .int .i64 x.f2, .int .i64 x.f3, .string x.f4, .string x.f5, .slice A6 x.f6.length c6] 24 (0, 0))) := ⟨by rw [← hW]; exact HX8.out⟩; have HYd : Aside0 (W.drew.heap[w5.heap.size]? = some (.cells #[.string x.f0, .string x.f1, .string x.f4, .string x.f5, .string T] 89 (0, 0))) := ⟨by rw [← hW]; exact HY8.out⟩; clear hW hM8 HB8 HK8 HX8 HY8 HC8; obtain ⟨i, p, am, bm, hag8, hi, hL, hpb, hfp, va, vb, hp, hA, hB⟩ := HMd.out.present (colNew_any Lc (x.f0, x.f1, x.f4, x.f5, T))
    have hlen : am.length ≤ 1000000 ∧ bm.length ≤ 1000000 := by
     have h1 := colNew_len hlL (x.f0, x.f1, x.f4, x.f5, T) _ (List.mem_of_getElem? hL); have := HN.out; exact ⟨Nat.le_trans h1.1 this, Nat.le_trans h1.2 this⟩
    have hlv8 : lookV ptrV M8 (x.f0, x.f1, x.f4, x.f5, T) (.pointer none) false = .pointer (some ⟨p, 0, none⟩) := by simp [lookV, hag8, ptrV]
    have hne9 := ne_cols hA hB; refine start_ (n := 5) (S := fun w' => w'.heap[w5.heap.size]? = some (.cells #[.string x.f0, .string x.f1, .string x.f4, .string x.f5, .string T] 89 (0, 0)) ∧ w'.heap[wr.heap.size]? = some (.cells #[.string x.f0, .string x.f1, .int .i64 x.f2, .int .i64 x.f3, .string x.f4, .string x.f5, .slice A6 x.f6.length c6] 24 (0, 0)) ∧ MapIs keyV ptrV w' w.heap.size M8) (ds := [4]) (bq 5 0) (by kernel_rfl) rfl rfl ⟨HYd.out, HXd.out, HMd.out.1⟩ (fun hHeld => ?_); refine pure_ (i := 0) (N := some 33) (v := ?_) (a' := ?_) (bq 5 1) rfl rfl (by kernel_rfl) (fun _ _ _ h => h) (Or.inl ⟨by rfl, ?_⟩) ?_ ?_; rotate_left
    ·intro w'; go_simp; with_reducible rfl
    rotate_left
    ·exact cbb2_0
    refine take_ (i := 1) (N := some 34) (v := ?_) (a' := ?_) (bq 5 3) rfl rfl (by kernel_rfl) (fun _ _ _ h => h) (Or.inl ⟨by rfl, ?_⟩) hHeld ?_ ?_; rotate_left
    ·rintro w' ⟨s0, s1, s2⟩; have k0 := (blk_cell s0 0).trans rfl; have k1 := (blk_cell s0 1).trans rfl; have k2 := (blk_cell s0 2).trans rfl; have k3 := (blk_cell s0 3).trans rfl; have k4 := (blk_cell s0 4).trans rfl; go_simp; with_reducible rfl
    rotate_left
    ·exact cbb2_0
    refine take_ (i := 2) (N := some 35) (v := .pointer (some ⟨p, 0, none⟩)) (a' := ?_) (bq 5 7) rfl rfl (by kernel_rfl) (fun _ _ _ h => h) (Or.inl ⟨by rfl, ?_⟩) hHeld ?_ ?_
    ·rintro w' ⟨s0, s1, s2⟩; exact exec_look rfl rfl rfl (s2.look key_key Tryd.underlying84 (zero_ptr2 w') (x.f0, x.f1, x.f4, x.f5, T) false) hlv8
    rotate_left
    ·exact cbb2_0
    refine take_ (i := 3) (N := some 36) (v := ?_) (a' := ?_) (bq 5 15) rfl rfl (by kernel_rfl) (fun _ _ _ h => h) (Or.inl ⟨by rfl, ?_⟩) hHeld ?_ ?_; rotate_left
    ·rintro w' ⟨s0, s1, s2⟩; have k0 := (blk_cell s1 0).trans rfl; have k1 := (blk_cell s1 1).trans rfl; have k2 := (blk_cell s1 2).trans rfl; have k3 := (blk_cell s1 3).trans rfl; have k4 := (blk_cell s1 4).trans rfl; have k5 := (blk_cell s1 5).trans rfl; have k6 := (blk_cell s1 6).trans rfl; go_simp; with_reducible rfl
    rotate_left
    ·exact cbb2_0
    refine last_ (i := 4) (N := some 37) (bq 5 31) rfl rfl (by kernel_rfl) (by decide) (fun K hK => ?_); refine goes_ Tryd.func72 (by kernel_rfl) rfl #[.pointer (some ⟨p, 0, none⟩), .agg #[.string x.f0, .string x.f1, .int .i64 x.f2, .int .i64 x.f3, .string x.f4, .string x.f5, .slice A6 x.f6.length c6]] (by rfl) rfl rfl (by (try simp only [List.map_toArray, List.map_cons, List.map_nil]); first | done | rfl) ?_; (with_reducible refine (column_add.calls p x A6 c6 am bm va vb w.heap.size W.drew hp (kInt_ok hA (fun k hk => .inl hk.symm)) (kInt_ok hB (fun k hk => .inl hk.symm)) hne9 hpb HBd.out.size hlen).mono ?_); rintro e w9 ⟨rfl, va2, vb2, hp2, hA2, hB2, hne2, hb2, hkeep⟩; have HC9 := Aside0.mk (ColsM.put_ (x := x.f2) (y := x.f3) HMd.out hi hL ⟨hpb, hfp⟩ hA hB hp hp2 hA2 hB2 hne2 hkeep); obtain ⟨inn9, ho9⟩ := kKey_own HKd.out; have HK9 := Aside0.mk (kKey_move HKd.out (own_col ho9 (by decide) hp hA hB hkeep)); have HB9 := Aside0.mk (HBd.out.trans hb2); clear hp2 hA2 hB2 hne2 hb2 hkeep; refine ⟨_, rfl, ?_⟩; refine hK.out _ _ ?_; clear hK K; refine done_ (by kernel_rfl) ?_
    go_wp2
    go_roundg k1
    case measure => omega
    case rel =>
     refine ⟨j + 1, ?_, ⟨by have := HJ.out; omega⟩, ⟨?_⟩, ⟨?_⟩, HB9⟩
     ·have := HW.out; first | rfl | (rw [← this]; rfl) | (simp [*]; done)
     ·rw [HT2.out]; exact HC9.out
     ·have hcn : colNew Lc (x.f0, x.f1, x.f4, x.f5, T) = Lc ++ [((x.f0, x.f1, x.f4, x.f5, T), [], [])] := by unfold colNew; rw [if_neg (by simp [hany])]
      have := HK9.out; rw [HT2.out, colPut_keys, hcn]; simpa using this
def mergeL (all : List (Col Key)) : List Ln → List (Key × Bool) → List Ln → Option (List Ln × Int)
 | [], _, out => some (out, 0)
 | x :: r, seen, out => if (aget seen (keyL x)).getD false = true then mergeL all r seen out else
   match all.find? (fun q => decide (q.1 = keyL x)) with
   | none => none
   | some q => (bothf 1000000000000 q.2.1 q.2.2).bind fun t => if t.2.2 = 0 then (if t.1 = 0 ∧ t.2.1 = 0 then mergeL all r (aput seen (keyL x) true) out else mergeL all r (aput seen (keyL x) true) (out ++ [⟨x.f0, x.f1, t.1, t.2.1, x.f4, x.f5, x.f6⟩])) else some ([], t.2.2)
def F25.f (l : List Ln) : Option (List Ln × Int) := if l.length ≤ 1000000 ∧ ∀ x ∈ l, okTags x.f6 then mergeL (colsOf keyL l) l [] [] else none
theorem zero_bool (w : World) : (zeroValue 4).run Tryd.prog w = .ok (.bool false) w := by kernel_rfl
theorem ColsM.map2 {κ : Type} [DecidableEq κ] {ek : κ → Value} {M : List (κ × Nat)} {fp : Nat → Nat} {w w' : World} {base b b2 : Nat} {L : List (Col κ)} {κ' ν' : Type} {ek' : κ' → Value} {ev' : ν' → Value} {S : List (κ' × ν')} (h : ColsM ek M fp w base b L) (hS : MapIs ek' ev' w b2 S) (hne : b ≠ b2) (hg : w.grownBy w' (some b2)) : ColsM ek M fp w' base b L := by
 obtain ⟨es, clock, hb2, _⟩ := hS; refine h.move (fun g o hgo hc => (hg.block g (blk_lt hgo) ?_).trans hgo); intro e; injection e with e
 rcases hc with ⟨cs, t, rfl, _⟩ | rfl
 ·subst e; rw [hgo] at hb2; cases hb2
 ·exact hne e
theorem ColsM.set24 {κ : Type} [DecidableEq κ] {ek : κ → Value} {M : List (κ × Nat)} {fp : Nat → Nat} {w : World} {base b : Nat} {L : List (Col κ)} (h : ColsM ek M fp w base b L) {g t : Nat} {cs : Array Value} (hX : w.heap[g]? = some (.cells cs t (0, 0))) (ht : t ≠ 104 ∧ t ≠ 3) (j : Nat) (u : Value) : ColsM ek M fp (w.setCell ⟨g, j, none⟩ u) base b L := by
 refine h.move (fun k o hko hc => (Below.heap_setCell w ⟨g, j, none⟩ u k ?_).trans hko); rintro rfl
 rcases hc with ⟨cs', t', rfl, h2⟩ | rfl
 ·rw [hX] at hko; injection hko with hko
  injection hko with _ h3
  rcases h2 with h2 | h2
  ·exact ht.1 (h3.trans h2)
  ·exact ht.2 (h3.trans h2)
 ·obtain ⟨es, clock, hb2, _⟩ := h.1; rw [hX] at hb2; cases hb2
theorem ColsM.find {κ : Type} [DecidableEq κ] {ek : κ → Value} {M : List (κ × Nat)} {fp : Nat → Nat} {w : World} {base b : Nat} {L : List (Col κ)} (h : ColsM ek M fp w base b L) {k : κ} {q : Col κ} (hq : L.find? (fun q => decide (q.1 = k)) = some q) : ∃ p va vb, aget M k = some p ∧ w.heap[p]? = some (.cells #[va, vb] 104 (0, 0)) ∧ (∃ ok1, Kd.R (Kd.int .i64) 3 w base ok1 va q.2.1) ∧ ∃ ok2, Kd.R (Kd.int .i64) 3 w base ok2 vb q.2.2 := by
 have hk : q.1 = k := by simpa using List.find?_some hq
 obtain ⟨j, hj⟩ := List.getElem?_of_mem (List.mem_of_find?_eq_some hq); have hany : L.any (fun z => decide (z.1 = k)) = true := by rw [any_key]; exact List.mem_map.2 ⟨q, List.mem_of_find?_eq_some hq, hk⟩
 obtain ⟨i, p, am, bm, hag, hi, hL, hpb, hfp, va, vb, hp, hA, hB⟩ := h.present hany; have h1 : (L.map (·.1))[j]? = some k := by rw [List.getElem?_map, hj]; simp [hk]
 have h2 : (L.map (·.1))[i]? = some k := by rw [List.getElem?_map, hL]; rfl
 have hjl := (List.getElem?_eq_some_iff.1 h1).1; have hij := (List.getElem?_inj hjl h.2.2.1).1 (h1.trans h2.symm); subst hij; rw [hj] at hL; obtain ⟨q1, q2, q3⟩ := q; simp only [Option.some.injEq, Prod.mk.injEq] at hL; obtain ⟨_, rfl, rfl⟩ := hL; exact ⟨p, va, vb, hag, hp, ⟨_, hA⟩, _, hB⟩
def KeepC (N : Nat) (w w' : World) : Prop := ∀ k cs t fr, k < N → w.heap[k]? = some (.cells cs t fr) → w'.heap[k]? = some (.cells cs t fr)
theorem KeepC.below {w w' : World} (hb : Below w.heap.size w w') : KeepC w.heap.size w w' := fun k cs t fr hk h => (hb.block k hk).trans h
theorem KeepC.map2 {N : Nat} {w w1 w' : World} (h : KeepC N w w1) {b2 : Nat} {κ' ν' : Type} {ek' : κ' → Value} {ev' : ν' → Value} {S : List (κ' × ν')} (hS : MapIs ek' ev' w1 b2 S) (hg : w1.grownBy w' (some b2)) : KeepC N w w' := by
 intro k cs t fr hk hc; have h1 := h k cs t fr hk hc; refine (hg.block k (blk_lt h1) ?_).trans h1; intro e; injection e with e
 subst e; obtain ⟨es, clock, hb2, _⟩ := hS; rw [h1] at hb2; cases hb2
theorem KeepC.grown {N : Nat} {w w1 w' : World} (h : KeepC N w w1) {row : Option Nat} (hg : w1.grownBy w' row) (hr : ∀ k, row = some k → N ≤ k) : KeepC N w w' := by
 intro k cs t fr hk hc; have h1 := h k cs t fr hk hc; exact (hg.block k (blk_lt h1) (fun e => by have := hr k e.symm; omega)).trans h1
theorem KeepC.set_ {N : Nat} {w w1 : World} (h : KeepC N w w1) {g : Nat} (hg : N ≤ g) (j : Nat) (u : Value) : KeepC N w (w1.setCell ⟨g, j, none⟩ u) := by
 intro k cs t fr hk hc; exact (Below.heap_setCell w1 ⟨g, j, none⟩ u k (by show k ≠ g; omega)).trans (h k cs t fr hk hc)
theorem KeepC.S_ {α : Type} {d : Kd α} {e base : Nat} {ok : Nat → Prop} {w w' : World} {v : Value} {xs : List α} (h : Kd.S d e w base ok v xs) (hk : KeepC w.heap.size w w') : Kd.S d e w' base (fun k => k < w.heap.size) v xs := by
 refine Kd.S_mono (Kd.S_move (Kd.S_bound h) (fun k ho => ?_)) (fun k ho => ho.2.2.1); obtain ⟨_, _, hlt, q, hq, cells, hc⟩ := ho; exact (hk k cells q _ hlt hc).trans hc.symm
theorem KeepC.cell {w w' : World} (h : KeepC w.heap.size w w') {a : Addr} {u : Value} (hc : w.cell? a = some u) : w'.cell? a = some u := by
 have hlt := World.block_lt_of_cell? w _ hc
 unfold World.cell? at hc ⊢
 cases hh : w.heap[a.block]? with
 | none => rw [hh] at hc; simp at hc
 | some o =>
  rw [hh] at hc
  cases o with
  | cells cs t fr => rw [h _ cs t fr hlt hh]; exact hc
  | _ => simp at hc
theorem KeepC.C_ {α : Type} {d : Kd α} {R' : α → List Value → Prop} {w w' : World} {A : Option Addr} {n : Nat} {xs : List α} (hC : d.C w A n xs) (h : KeepC w.heap.size w w') (hR : ∀ p c, d.K w p c → R' p c) : ReadsRow R' d.sz w' A n xs :=
 ⟨hC.1, hC.2.1, fun hn => by
  obtain ⟨ad, e, hc⟩ := hC.2.2 hn; refine ⟨ad, e, fun j p hj => ?_⟩; obtain ⟨c, hs, hr, hcell⟩ := hc j p hj; exact ⟨c, hs, hR _ _ hr, fun i u hu => h.cell (hcell i u hu)⟩⟩
theorem kTag_move {w w1 : World} {base : Nat} {ok : Nat → Prop} {v : Value} {xs : List S101} (h : Kd.R k101 101 w base ok v xs) (hm : ∀ k, v.ownBlock = some k → w1.heap[k]? = w.heap[k]?) : Kd.R k101 101 w1 base ok v xs := by
 obtain ⟨h0, inner, ho, hr⟩ := h; exact ⟨h0, inner, own_move ho hm, hr⟩
theorem tag_flat (w : World) (base : Nat) (ok : Nat → Prop) (x : S101) (cs : List Value) (h : k101.K w x cs) : k101.M w base ok x cs := h
set_option maxHeartbeats 32000000 in
set_option maxRecDepth 100000 in
theorem F25.calls (A0 : Option Addr) (c0 : Nat) (l0 : List Ln) (r1 : List Ln) (r2 : Int) (w : World) (hr0 : Kd.C k24 w A0 l0.length l0) (hc0 : l0.length ≤ c0) (h : F25.f l0 = some (r1, r2)) :
  Calls Tryd.prog 25 #[.slice A0 l0.length c0] w fun e w' => ∃ v0_ : Value, e = .returned (.tuple #[v0_, .int .i64 r2]) ∧ Kd.S k24 24 w' w.heap.size (fun _ => True) v0_ r1 ∧ Below w.heap.size w w' := by
 have HR0 := Aside0.mk hr0; have HC0 := Aside0.mk hc0
 unfold F25.f at h
 split at h
 case isFalse => cases h
 rename_i hl
 have HL := Aside0.mk hl.1; have HOk := Aside0.mk hl.2; have H := Aside0.mk h; clear hr0 hc0 h hl; go_enter Tryd.func25, Tryd.ntmps25
 go_wp2_with (first
  | (go_at_call 53; (with_reducible refine (columns_key.calls A0 c0 l0 w HR0.out HC0.out HL.out HOk.out).mono ?_); rintro e w1 ⟨b, vk, rfl, hco, hb⟩; have HCo := Aside0.mk hco; have HB := Aside0.mk hb; clear hco hb)
  | (refine makeL_ rfl rfl ?_))
 obtain ⟨Lc, hLc⟩ : ∃ Lc, colsOf keyL l0 = Lc := ⟨_, rfl⟩; rw [hLc] at H HCo; have HCo2 : Aside0 (ColsIs keyV (w1.alloc (.map #[] 0)) w.heap.size b Lc) := ⟨HCo.out.below (below_alloc (Below.refl _ _) _)⟩; have HSn : Aside0 (MapIs keyV Value.bool (w1.alloc (.map #[] 0)) w1.heap.size ([] : List (Key × Bool))) := ⟨MapIs_made keyV Value.bool w1⟩; have HB2 : Aside0 (Below w.heap.size w (w1.alloc (.map #[] 0))) := ⟨below_alloc HB.out _⟩; have hbb2 : b < w1.heap.size := by obtain ⟨M, fp, hM⟩ := HCo.out; exact hM.1.lt
 have hwb2 : w.heap.size ≤ w1.heap.size := HB.out.size; obtain ⟨b2, hb2⟩ : ∃ b2, w1.heap.size = b2 := ⟨_, rfl⟩; rw [hb2] at HSn hbb2 hwb2; simp only [hb2]; clear HCo HB hLc
 go_loopg [2, 21] l0.length (fun kq v2 v21 w' => ∃ (j : Nat) (Sn : List (Key × Bool)) (out : List Ln), v21 = .int .i64 (j : Int) ∧ Aside0 (j + kq = l0.length) ∧ Aside0 (mergeL Lc (l0.drop j) Sn out = some (r1, r2)) ∧ Aside0 (out.length ≤ j) ∧ Aside0 (ColsIs keyV w' w.heap.size b Lc) ∧ Aside0 (MapIs keyV Value.bool w' b2 Sn) ∧ Aside0 (Kd.S k24 24 w' w.heap.size (fun _ => True) v2 out) ∧ Aside0 (Below w.heap.size w w'))
 case atStart => exact ⟨0, [], [], rfl, ⟨by omega⟩, H, ⟨by simp⟩, HCo2, HSn, ⟨Kd.S_nil _ _ _ _ _⟩, HB2⟩
 case round =>
  clear HCo2 HB2 HSn H; obtain ⟨j, Sn, out, rfl, HJ, H, HOl, HCo, HSn, HO, HB⟩ := hrel
  cases gk with
  | zero =>
   have hj : j = l0.length := by have := HJ.out; omega
   subst hj; have hjb : decide ((l0.length : Int) < (l0.length : Int)) = false := decide_eq_false (by omega); have h1 := H.out; rw [List.drop_length] at h1; simp only [mergeL, Option.some.injEq, Prod.mk.injEq] at h1; obtain ⟨rfl, rfl⟩ := h1; clear H
   go_wp2
   go_ret2
   exact ⟨_, rfl, HO.out, HB.out⟩
  | succ k1 =>
   have hj : j < l0.length := by have := HJ.out; omega
   have hjb : decide ((j : Int) < (l0.length : Int)) = true := decide_eq_true (by omega); have p1 : 0 ≤ (j : Int) := by omega
   have qj : (j : Int) < (l0.length : Int) := by omega
   obtain ⟨ad, A6, c6, e1, hx0, hx1, hx2, hx3, hx4, hx5, hx6, hc6, hC6⟩ := at_T24 (Kd.C_below HR0.out HB.out) (j : Int) p1 qj
   cases e1
   have hrd : rd_T24 l0 (j : Int) = l0[j] := by simp [rd_T24, hj]
   have hkt := keyOf_total l0[j] (HOk.out _ (List.getElem_mem hj)); have hokx := (HOk.out _ (List.getElem_mem hj)).1; have h1 := H.out; rw [List.drop_eq_getElem_cons hj] at h1; rw [hrd] at hx0 hx1 hx2 hx3 hx4 hx5 hx6 hc6 hC6; obtain ⟨x, hx⟩ : ∃ x, l0[j] = x := ⟨_, rfl⟩; rw [hx] at h1 hkt hokx hx0 hx1 hx2 hx3 hx4 hx5 hx6 hc6 hC6; have hkl : keyL x = (x.f0, x.f1, x.f4, x.f5, tagsT x.f6) := rfl; clear hx hrd H; obtain ⟨T, hT⟩ : ∃ T, tagsT x.f6 = T := ⟨_, rfl⟩; simp only [mergeL] at h1; rw [hkl] at h1 hkt; rw [hT] at hkt h1; have HKT := Aside0.mk hkt; have HOX := Aside0.mk hokx; clear hkt hT hkl hokx; replace p1 := eq_true p1; replace qj := eq_true qj; simp only [Int.toNat_natCast] at hx0 hx1 hx2 hx3 hx4 hx5 hx6; have HC6 := Aside0.mk hc6; have HCC := Aside0.mk hC6; clear hc6 hC6; have HW : Aside0 (wrap64 ((j : Int) + 1) = ((j + 1 : Nat) : Int)) := ⟨by have := HL.out; unfold wrap64; omega⟩; obtain ⟨M, fp, hM⟩ := HCo.out; have hb2lt := HSn.out.lt
   by_cases cs : (aget Sn (x.f0, x.f1, x.f4, x.f5, T)).getD false = true
   ·rw [if_pos cs] at h1; have H2 := Aside0.mk h1; have hls : lookV Value.bool Sn (x.f0, x.f1, x.f4, x.f5, T) (.bool false) false = .bool true := lookV_get (ev := Value.bool) cs; clear h1
    go_wp2_with (first
     | (go_at_call 54; (with_reducible refine (F54.calls (x.f6.length + 1) x.f0 x.f1 x.f2 x.f3 x.f4 x.f5 A6 c6 x.f6 _ _ _ _ _ _ pbb5_0 HC6.out HKT.out).mono ?_); rintro e w5 ⟨rfl, hb5⟩; have hX5 := blk_below (blk_new wr (.cells #[.string x.f0, .string x.f1, .int .i64 x.f2, .int .i64 x.f3, .string x.f4, .string x.f5, .slice A6 x.f6.length c6] 24)) hb5; have HX6 := Aside0.mk (blk_alloc hX5 (.cells #[.string x.f0, .string x.f1, .string x.f4, .string x.f5, .string T] 89)); have HY6 := Aside0.mk (blk_new w5 (.cells #[.string x.f0, .string x.f1, .string x.f4, .string x.f5, .string T] 89)); have hb5s : wr.heap.size < w5.heap.size := pbb5_1; have hbb := below_then (below_alloc (Below.refl wr.heap.size wr) _) (by simp) hb5; have HBW := Aside0.mk (below_then hbb hbb.size (below_alloc (Below.refl w5.heap.size w5) (.cells #[.string x.f0, .string x.f1, .string x.f4, .string x.f5, .string T] 89))); have HB6 := Aside0.mk (below_then HB.out HB.out.size HBW.out); have HM6 := Aside0.mk (hM.below HBW.out); have HS6 := Aside0.mk (HSn.out.below HBW.out); clear hb5 hX5 hbb hx0 hx1 hx2 hx3 hx4 hx5 hx6)
     | (refine lookL_ (ev := Value.bool) rfl rfl Tryd.underlying91 key_key zero_bool HS6.out (x.f0, x.f1, x.f4, x.f5, T) rfl rfl ?_; (try rw [hls])))
    go_roundg k1
    case measure => omega
    case rel =>
     refine ⟨j + 1, Sn, out, ?_, ⟨by have := HJ.out; omega⟩, H2, ⟨by have := HOl.out; omega⟩, ⟨⟨M, fp, HM6.out⟩⟩, HS6, ⟨?_⟩, HB6⟩
     ·have := HW.out; first | rfl | (rw [← this]; rfl) | (simp [*]; done)
     ·exact Kd.S_below HO.out HBW.out
   ·rw [if_neg cs] at h1; have csf : (aget Sn (x.f0, x.f1, x.f4, x.f5, T)).getD false = false := by simpa using cs
    have hls : lookV Value.bool Sn (x.f0, x.f1, x.f4, x.f5, T) (.bool false) false = .bool false := lookV_get (ev := Value.bool) csf
    cases hfd : Lc.find? (fun q => decide (q.1 = (x.f0, x.f1, x.f4, x.f5, T))) with
    | none => rw [hfd] at h1; cases h1
    | some q =>
     rw [hfd] at h1; simp only at h1; obtain ⟨⟨s1, s2, er⟩, hbo, h1⟩ := Option.bind_eq_some_iff.mp h1; have HBo := Aside0.mk hbo; simp only at h1; obtain ⟨p, _, _, hag, _⟩ := hM.find hfd; have hlv : lookV ptrV M (x.f0, x.f1, x.f4, x.f5, T) (.pointer none) false = .pointer (some ⟨p, 0, none⟩) := by simp [lookV, hag, ptrV]
     have HFd := Aside0.mk hfd; have HAg := Aside0.mk hag; clear hbo hfd
     by_cases z : er = 0
     ·subst z; rw [if_pos rfl] at h1
      by_cases zz : s1 = 0 ∧ s2 = 0
      ·rw [if_pos zz] at h1; obtain ⟨rfl, rfl⟩ := zz; have H2 := Aside0.mk h1; clear h1
       go_wp2_with (first
        | (go_at_call 54; (with_reducible refine (F54.calls (x.f6.length + 1) x.f0 x.f1 x.f2 x.f3 x.f4 x.f5 A6 c6 x.f6 _ _ _ _ _ _ pbb5_0 HC6.out HKT.out).mono ?_); rintro e w5 ⟨rfl, hb5⟩; have hX5 := blk_below (blk_new wr (.cells #[.string x.f0, .string x.f1, .int .i64 x.f2, .int .i64 x.f3, .string x.f4, .string x.f5, .slice A6 x.f6.length c6] 24)) hb5; have HX6 := Aside0.mk (blk_alloc hX5 (.cells #[.string x.f0, .string x.f1, .string x.f4, .string x.f5, .string T] 89)); have HY6 := Aside0.mk (blk_new w5 (.cells #[.string x.f0, .string x.f1, .string x.f4, .string x.f5, .string T] 89)); have hb5s : wr.heap.size < w5.heap.size := pbb5_1; have hbb := below_then (below_alloc (Below.refl wr.heap.size wr) _) (by simp) hb5; have HBW := Aside0.mk (below_then hbb hbb.size (below_alloc (Below.refl w5.heap.size w5) (.cells #[.string x.f0, .string x.f1, .string x.f4, .string x.f5, .string T] 89))); have HB6 := Aside0.mk (below_then HB.out HB.out.size HBW.out); have HM6 := Aside0.mk (hM.below HBW.out); have HS6 := Aside0.mk (HSn.out.below HBW.out); clear hb5 hX5 hbb hx0 hx1 hx2 hx3 hx4 hx5 hx6)
        | (refine lookL_ (ev := ptrV) rfl rfl Tryd.underlying84 key_key zero_ptr2 HM7.out.1 (x.f0, x.f1, x.f4, x.f5, T) rfl rfl ?_; (try rw [hlv]))
        | (refine lookL_ (ev := Value.bool) rfl rfl Tryd.underlying91 key_key zero_bool HS6.out (x.f0, x.f1, x.f4, x.f5, T) rfl rfl ?_; (try rw [hls]))
        | (refine storeL_ (ev := Value.bool) (L := Sn) rfl rfl Tryd.underlying91 key_key HS6.out (x.f0, x.f1, x.f4, x.f5, T) true rfl rfl rfl ?_; intro w7 hS7 hg7 hs7; have HM7 := Aside0.mk (HM6.out.map2 HS6.out (by omega) hg7); have HS7 := Aside0.mk hS7; have HB7 := Aside0.mk (pw_below_grown HB6.out (some b2) HB6.out.size hg7 (fun k hk => by injection hk with hk; omega)); have hs7w : wr.heap.size ≤ w7.heap.size := (by rw [hs7]; exact HBW.out.size); have HKp := Aside0.mk ((KeepC.below HBW.out).map2 HS6.out hg7); have hX7 := blk_grown HX6.out hg7 pbb5_2; have HX7 := Aside0.mk hX7; have hY7 := blk_grown HY6.out hg7 pbb5_2; have hy0 := (blk_cell hY7 0).trans rfl; have hy1 := (blk_cell hY7 1).trans rfl; have hy2 := (blk_cell hY7 2).trans rfl; have hy3 := (blk_cell hY7 3).trans rfl; have hy4 := (blk_cell hY7 4).trans rfl; clear hS7 hg7 hX7 hY7)
        | (obtain ⟨p2, va, vb, hag2, hp, ⟨ok1, hA⟩, ok2, hB⟩ := HM7.out.find HFd.out; have hpp : p = p2 := Option.some.inj (HAg.out.symm.trans hag2); subst hpp; go_at_call 48; (with_reducible refine (column_both.calls p 1000000000000 q.2.1 q.2.2 va vb w.heap.size ok1 ok2 _ 0 0 0 hp hA hB HBo.out).mono ?_); rintro e w9 ⟨rfl, ⟨m2, rfl⟩⟩))
       go_roundg k1
       case measure => omega
       case rel =>
        refine ⟨j + 1, _, out, ?_, ⟨by have := HJ.out; omega⟩, H2, ⟨by have := HOl.out; omega⟩, ⟨⟨M, fp, HM7.out.below (pw_below_drewN (Below.refl _ _) _)⟩⟩, ⟨HS7.out.move rfl⟩, ⟨?_⟩, ⟨pw_below_drewN HB7.out _⟩⟩
        ·have := HW.out; first | rfl | (rw [← this]; rfl) | (simp [*]; done)
        ·exact Kd.S_mono (Kd.S_drewN (KeepC.S_ HO.out HKp.out) _) (fun _ _ => trivial)
      ·rw [if_neg zz] at h1; have H2 := Aside0.mk h1; clear h1
       have zs : (s1 == 0) = false ∨ (s1 = 0 ∧ (s2 == 0) = false) := by
        by_cases z1 : s1 = 0
        ·exact .inr ⟨z1, beq_eq_false_iff_ne.2 (fun e => zz ⟨z1, e⟩)⟩
        ·exact .inl (beq_eq_false_iff_ne.2 z1)
       clear zz
       rcases zs with z1 | ⟨rfl, z2⟩
       ·have z1c : (s1 != 0) = true := by simp [bne, z1]
        go_wp2_with (first
         | (go_at_call 54; (with_reducible refine (F54.calls (x.f6.length + 1) x.f0 x.f1 x.f2 x.f3 x.f4 x.f5 A6 c6 x.f6 _ _ _ _ _ _ pbb5_0 HC6.out HKT.out).mono ?_); rintro e w5 ⟨rfl, hb5⟩; have hX5 := blk_below (blk_new wr (.cells #[.string x.f0, .string x.f1, .int .i64 x.f2, .int .i64 x.f3, .string x.f4, .string x.f5, .slice A6 x.f6.length c6] 24)) hb5; have HX6 := Aside0.mk (blk_alloc hX5 (.cells #[.string x.f0, .string x.f1, .string x.f4, .string x.f5, .string T] 89)); have HY6 := Aside0.mk (blk_new w5 (.cells #[.string x.f0, .string x.f1, .string x.f4, .string x.f5, .string T] 89)); have hb5s : wr.heap.size < w5.heap.size := pbb5_1; have hbb := below_then (below_alloc (Below.refl wr.heap.size wr) _) (by simp) hb5; have HBW := Aside0.mk (below_then hbb hbb.size (below_alloc (Below.refl w5.heap.size w5) (.cells #[.string x.f0, .string x.f1, .string x.f4, .string x.f5, .string T] 89))); have HB6 := Aside0.mk (below_then HB.out HB.out.size HBW.out); have HM6 := Aside0.mk (hM.below HBW.out); have HS6 := Aside0.mk (HSn.out.below HBW.out); clear hb5 hX5 hbb hx0 hx1 hx2 hx3 hx4 hx5 hx6)
         | (refine lookL_ (ev := ptrV) rfl rfl Tryd.underlying84 key_key zero_ptr2 HM7.out.1 (x.f0, x.f1, x.f4, x.f5, T) rfl rfl ?_; (try rw [hlv]))
         | (refine lookL_ (ev := Value.bool) rfl rfl Tryd.underlying91 key_key zero_bool HS6.out (x.f0, x.f1, x.f4, x.f5, T) rfl rfl ?_; (try rw [hls]))
         | (refine storeL_ (ev := Value.bool) (L := Sn) rfl rfl Tryd.underlying91 key_key HS6.out (x.f0, x.f1, x.f4, x.f5, T) true rfl rfl rfl ?_; intro w7 hS7 hg7 hs7; have HM7 := Aside0.mk (HM6.out.map2 HS6.out (by omega) hg7); have HS7 := Aside0.mk hS7; have HB7 := Aside0.mk (pw_below_grown HB6.out (some b2) HB6.out.size hg7 (fun k hk => by injection hk with hk; omega)); have hs7w : wr.heap.size ≤ w7.heap.size := (by rw [hs7]; exact HBW.out.size); have HKp := Aside0.mk ((KeepC.below HBW.out).map2 HS6.out hg7); have hX7 := blk_grown HX6.out hg7 pbb5_2; have HX7 := Aside0.mk hX7; have hY7 := blk_grown HY6.out hg7 pbb5_2; have hy0 := (blk_cell hY7 0).trans rfl; have hy1 := (blk_cell hY7 1).trans rfl; have hy2 := (blk_cell hY7 2).trans rfl; have hy3 := (blk_cell hY7 3).trans rfl; have hy4 := (blk_cell hY7 4).trans rfl; clear hS7 hg7 hX7 hY7)
         | (obtain ⟨p2, va, vb, hag2, hp, ⟨ok1, hA⟩, ok2, hB⟩ := HM7.out.find HFd.out; have hpp : p = p2 := Option.some.inj (HAg.out.symm.trans hag2); subst hpp; go_at_call 48; (with_reducible refine (column_both.calls p 1000000000000 q.2.1 q.2.2 va vb w.heap.size ok1 ok2 _ s1 s2 0 hp hA hB HBo.out).mono ?_); rintro e w9 ⟨rfl, ⟨m2, rfl⟩⟩; have hX8 := blk_drewN HX7.out m2; have hc8 := (blk_cell hX8 2).trans rfl; have hf8 := blk_frozen hX8 2; have hX9 := blk_set hX8 2 (.int .i64 s1); have hc9 := (blk_cell hX9 3).trans rfl; have hf9 := blk_frozen hX9 3; have hX10 := blk_set hX9 3 (.int .i64 s2); have hc10_6 := (blk_cell hX10 6).trans rfl; have HX10 := Aside0.mk hX10; have HM10 := Aside0.mk (((HM7.out.below (pw_below_drewN (Below.refl _ _) m2)).set24 hX8 (by decide) 2 (.int .i64 s1)).set24 hX9 (by decide) 3 (.int .i64 s2)); have HB10 := Aside0.mk (((pw_below_drewN HB7.out m2).setCell (p := ⟨wr.heap.size, 2, none⟩) HB.out.size (.int .i64 s1)).setCell (p := ⟨wr.heap.size, 3, none⟩) HB.out.size (.int .i64 s2)); have HK10 := Aside0.mk (((show KeepC wr.heap.size wr (w7.drewN m2) from HKp.out).set_ (Nat.le_refl _) 2 (.int .i64 s1)).set_ (Nat.le_refl _) 3 (.int .i64 s2)); have HS10 := Aside0.mk (((show MapIs keyV Value.bool (w7.drewN m2) b2 _ from HS7.out.move rfl).move (Below.heap_setCell (w7.drewN m2) ⟨wr.heap.size, 2, none⟩ (.int .i64 s1) b2 pbb5_3)).move (Below.heap_setCell _ ⟨wr.heap.size, 3, none⟩ (.int .i64 s2) b2 pbb5_3)); clear hX8 hX9 hX10)
         | ((with_reducible refine gate_builtin (b := .append) (xs := #[.const (.slice none 0 0), .tmp 54]) rfl ?_); at_builtin; refine Kd.R_append_rows k101 (w0 := w) (Rr := k101.K wr) w.heap.size rfl (.const (.slice none 0 0)) (.tmp 54) 22 101 (.agg #[(.string ⟨#[]⟩), (.string ⟨#[]⟩)]) 32 rfl Tryd.underlying22 info101 rfl (by decide) (by omega) (.slice none 0 0) [] x.f6 A6 x.f6.length c6 (fun k => wr.heap.size ≤ k) (fun _ => False) rfl rfl ?aO ?aR (fun y cs hy => tag_flat _ _ _ _ _ hy) (fun _ hk => hk.elim) ?aF ?aB ?aS ?aL ?_; (case aO => exact Kd.R_nil _ _ _ _ _); (case aR => exact KeepC.C_ HCC.out HK10.out (fun _ _ h => h)); (case aF => exact fun k hk => Nat.le_trans hs7w (by simpa [World.setCell, World.drewN] using hk)); (case aB => exact HB10.out); (case aS => exact HB10.out.size); (case aL => have := HOX.out; simp only [List.length_nil]; omega); intro v11 w11 ho hb hg hat; rw [List.nil_append] at ho; obtain ⟨A11, c11, rfl⟩ := Kd.R_slice ho; have hX11 := blk_grown HX10.out hg (fun e => by simp [Value.ownBlock] at e); have hc11 := (blk_cell hX11 6).trans rfl; have hf11 := blk_frozen hX11 6; have hX12 := blk_set hX11 6 (.slice A11 x.f6.length c11); have hr0 := (blk_cell hX12 0).trans rfl; have hr1 := (blk_cell hX12 1).trans rfl; have hr2 := (blk_cell hX12 2).trans rfl; have hr3 := (blk_cell hX12 3).trans rfl; have hr4 := (blk_cell hX12 4).trans rfl; have hr5 := (blk_cell hX12 5).trans rfl; have hr6 := (blk_cell hX12 6).trans rfl; have HM12 := Aside0.mk ((HM10.out.other hg (fun g e => by simp [Value.ownBlock] at e)).set24 hX11 (by decide) 6 (.slice A11 x.f6.length c11)); have HB12 := Aside0.mk (hb.setCell (p := ⟨wr.heap.size, 6, none⟩) HB.out.size (.slice A11 x.f6.length c11)); have HK12 := Aside0.mk ((HK10.out.grown hg (fun g e => by simp [Value.ownBlock] at e)).set_ (Nat.le_refl _) 6 (.slice A11 x.f6.length c11)); have HS12 := Aside0.mk ((HS10.out.move (hg.block b2 HS10.out.lt (fun e => by simp [Value.ownBlock] at e))).move (Below.heap_setCell w11 ⟨wr.heap.size, 6, none⟩ (.slice A11 x.f6.length c11) b2 pbb5_3)); have HT12 := Aside0.mk (kTag_move ho (w1 := w11.setCell ⟨wr.heap.size, 6, none⟩ (.slice A11 x.f6.length c11)) (fun k hk => Below.heap_setCell w11 ⟨wr.heap.size, 6, none⟩ (.slice A11 x.f6.length c11) k (by obtain ⟨cc, hcc⟩ := Kd.R_typed ho k hk; show k ≠ wr.heap.size; rintro rfl; rw [hX11] at hcc; injection hcc with hcc; injection hcc with _ h3; exact absurd h3 (by decide)))); have HTy := Aside0.mk (Kd.S_typed (KeepC.S_ HO.out HK12.out)); clear ho hb hg hat hX11 hX12)
         | ((with_reducible refine gate_builtin (b := .append) (xs := #[.tmp 57, .tmp 59]) rfl ?_); at_builtin; refine Kd.S_append k24 (w0 := w) w.heap.size rfl (.tmp 57) (.tmp 59) 26 24 (.agg #[(.string ⟨#[]⟩), (.string ⟨#[]⟩), (.int .i64 0), (.int .i64 0), (.string ⟨#[]⟩), (.string ⟨#[]⟩), (.slice none 0 0)]) 104 rfl Tryd.underlying26 info24 rfl (by decide) (by omega) _ out (⟨x.f0, x.f1, s1, s2, x.f4, x.f5, x.f6⟩ : S24) [.string x.f0, .string x.f1, .int .i64 s1, .int .i64 s2, .string x.f4, .string x.f5, .slice A11 x.f6.length c11] (fun _ => True) (fun k => wr.heap.size ≤ k) rfl ?hx ?aP ?aK (fun _ _ => trivial) ?aO ?aB ?aS ?aL ?_; (case hx => rw [show (w11.setCell ⟨wr.heap.size, 6, none⟩ (.slice A11 x.f6.length c11)).heap.size = w11.heap.size from by simp [World.setCell]]; rfl); (case aB => exact HB12.out); (case aS => exact HB12.out.size); (case aP => exact k24_mkM _ _ _ (⟨x.f0, x.f1, s1, s2, x.f4, x.f5, x.f6⟩ : S24) HT12.out); (case aK => exact fun k hk => ⟨trivial, fun e => by have := Kd.S_lt HO.out k e.symm; omega⟩); (case aO => exact Kd.S_mono (KeepC.S_ HO.out HK12.out) (fun k hk => ⟨trivial, by omega⟩)); (case aL => have := HOl.out; have := HL.out; have := HJ.out; omega); intro v13 w13 ho hb hg hat; have HO13 := Aside0.mk ho; have HB13 := Aside0.mk hb; have HM13 := Aside0.mk (HM12.out.other hg (fun g e => by obtain ⟨cc, hcc⟩ := HTy.out g e; exact ⟨cc, 24, hcc, by decide, by decide⟩)); have HS13 := Aside0.mk (HS12.out.move (hg.block b2 HS12.out.lt (fun e => by obtain ⟨cc, hcc⟩ := HTy.out b2 e.symm; obtain ⟨es, clk, hmb, _⟩ := HS12.out; rw [hmb] at hcc; cases hcc))); clear ho hb hg hat))
        go_roundg k1
        case measure => omega
        case rel =>
         refine ⟨j + 1, _, _, ?_, ⟨by have := HJ.out; omega⟩, H2, ⟨by have := HOl.out; simp; omega⟩, ⟨⟨M, fp, HM13.out⟩⟩, HS13, HO13, HB13⟩; have := HW.out; first | rfl | (rw [← this]; rfl) | (simp [*]; done)
       ·have z2c : (s2 != 0) = true := by simp [bne, z2]
        go_wp2_with (first
         | (go_at_call 54; (with_reducible refine (F54.calls (x.f6.length + 1) x.f0 x.f1 x.f2 x.f3 x.f4 x.f5 A6 c6 x.f6 _ _ _ _ _ _ pbb5_0 HC6.out HKT.out).mono ?_); rintro e w5 ⟨rfl, hb5⟩; have hX5 := blk_below (blk_new wr (.cells #[.string x.f0, .string x.f1, .int .i64 x.f2, .int .i64 x.f3, .string x.f4, .string x.f5, .slice A6 x.f6.length c6] 24)) hb5; have HX6 := Aside0.mk (blk_alloc hX5 (.cells #[.string x.f0, .string x.f1, .string x.f4, .string x.f5, .string T] 89)); have HY6 := Aside0.mk (blk_new w5 (.cells #[.string x.f0, .string x.f1, .string x.f4, .string x.f5, .string T] 89)); have hb5s : wr.heap.size < w5.heap.size := pbb5_1; have hbb := below_then (below_alloc (Below.refl wr.heap.size wr) _) (by simp) hb5; have HBW := Aside0.mk (below_then hbb hbb.size (below_alloc (Below.refl w5.heap.size w5) (.cells #[.string x.f0, .string x.f1, .string x.f4, .string x.f5, .string T] 89))); have HB6 := Aside0.mk (below_then HB.out HB.out.size HBW.out); have HM6 := Aside0.mk (hM.below HBW.out); have HS6 := Aside0.mk (HSn.out.below HBW.out); clear hb5 hX5 hbb hx0 hx1 hx2 hx3 hx4 hx5 hx6)
         | (refine lookL_ (ev := ptrV) rfl rfl Tryd.underlying84 key_key zero_ptr2 HM7.out.1 (x.f0, x.f1, x.f4, x.f5, T) rfl rfl ?_; (try rw [hlv]))
         | (refine lookL_ (ev := Value.bool) rfl rfl Tryd.underlying91 key_key zero_bool HS6.out (x.f0, x.f1, x.f4, x.f5, T) rfl rfl ?_; (try rw [hls]))
         | (refine storeL_ (ev := Value.bool) (L := Sn) rfl rfl Tryd.underlying91 key_key HS6.out (x.f0, x.f1, x.f4, x.f5, T) true rfl rfl rfl ?_; intro w7 hS7 hg7 hs7; have HM7 := Aside0.mk (HM6.out.map2 HS6.out (by omega) hg7); have HS7 := Aside0.mk hS7; have HB7 := Aside0.mk (pw_below_grown HB6.out (some b2) HB6.out.size hg7 (fun k hk => by injection hk with hk; omega)); have hs7w : wr.heap.size ≤ w7.heap.size := (by rw [hs7]; exact HBW.out.size); have HKp := Aside0.mk ((KeepC.below HBW.out).map2 HS6.out hg7); have hX7 := blk_grown HX6.out hg7 pbb5_2; have HX7 := Aside0.mk hX7; have hY7 := blk_grown HY6.out hg7 pbb5_2; have hy0 := (blk_cell hY7 0).trans rfl; have hy1 := (blk_cell hY7 1).trans rfl; have hy2 := (blk_cell hY7 2).trans rfl; have hy3 := (blk_cell hY7 3).trans rfl; have hy4 := (blk_cell hY7 4).trans rfl; clear hS7 hg7 hX7 hY7)
         | (obtain ⟨p2, va, vb, hag2, hp, ⟨ok1, hA⟩, ok2, hB⟩ := HM7.out.find HFd.out; have hpp : p = p2 := Option.some.inj (HAg.out.symm.trans hag2); subst hpp; go_at_call 48; (with_reducible refine (column_both.calls p 1000000000000 q.2.1 q.2.2 va vb w.heap.size ok1 ok2 _ 0 s2 0 hp hA hB HBo.out).mono ?_); rintro e w9 ⟨rfl, ⟨m2, rfl⟩⟩; have hX8 := blk_drewN HX7.out m2; have hc8 := (blk_cell hX8 2).trans rfl; have hf8 := blk_frozen hX8 2; have hX9 := blk_set hX8 2 (.int .i64 0); have hc9 := (blk_cell hX9 3).trans rfl; have hf9 := blk_frozen hX9 3; have hX10 := blk_set hX9 3 (.int .i64 s2); have hc10_6 := (blk_cell hX10 6).trans rfl; have HX10 := Aside0.mk hX10; have HM10 := Aside0.mk (((HM7.out.below (pw_below_drewN (Below.refl _ _) m2)).set24 hX8 (by decide) 2 (.int .i64 0)).set24 hX9 (by decide) 3 (.int .i64 s2)); have HB10 := Aside0.mk (((pw_below_drewN HB7.out m2).setCell (p := ⟨wr.heap.size, 2, none⟩) HB.out.size (.int .i64 0)).setCell (p := ⟨wr.heap.size, 3, none⟩) HB.out.size (.int .i64 s2)); have HK10 := Aside0.mk (((show KeepC wr.heap.size wr (w7.drewN m2) from HKp.out).set_ (Nat.le_refl _) 2 (.int .i64 0)).set_ (Nat.le_refl _) 3 (.int .i64 s2)); have HS10 := Aside0.mk (((show MapIs keyV Value.bool (w7.drewN m2) b2 _ from HS7.out.move rfl).move (Below.heap_setCell (w7.drewN m2) ⟨wr.heap.size, 2, none⟩ (.int .i64 0) b2 pbb5_3)).move (Below.heap_setCell _ ⟨wr.heap.size, 3, none⟩ (.int .i64 s2) b2 pbb5_3)); clear hX8 hX9 hX10)
         | ((with_reducible refine gate_builtin (b := .append) (xs := #[.const (.slice none 0 0), .tmp 54]) rfl ?_); at_builtin; refine Kd.R_append_rows k101 (w0 := w) (Rr := k101.K wr) w.heap.size rfl (.const (.slice none 0 0)) (.tmp 54) 22 101 (.agg #[(.string ⟨#[]⟩), (.string ⟨#[]⟩)]) 32 rfl Tryd.underlying22 info101 rfl (by decide) (by omega) (.slice none 0 0) [] x.f6 A6 x.f6.length c6 (fun k => wr.heap.size ≤ k) (fun _ => False) rfl rfl ?aO ?aR (fun y cs hy => tag_flat _ _ _ _ _ hy) (fun _ hk => hk.elim) ?aF ?aB ?aS ?aL ?_; (case aO => exact Kd.R_nil _ _ _ _ _); (case aR => exact KeepC.C_ HCC.out HK10.out (fun _ _ h => h)); (case aF => exact fun k hk => Nat.le_trans hs7w (by simpa [World.setCell, World.drewN] using hk)); (case aB => exact HB10.out); (case aS => exact HB10.out.size); (case aL => have := HOX.out; simp only [List.length_nil]; omega); intro v11 w11 ho hb hg hat; rw [List.nil_append] at ho; obtain ⟨A11, c11, rfl⟩ := Kd.R_slice ho; have hX11 := blk_grown HX10.out hg (fun e => by simp [Value.ownBlock] at e); have hc11 := (blk_cell hX11 6).trans rfl; have hf11 := blk_frozen hX11 6; have hX12 := blk_set hX11 6 (.slice A11 x.f6.length c11); have hr0 := (blk_cell hX12 0).trans rfl; have hr1 := (blk_cell hX12 1).trans rfl; have hr2 := (blk_cell hX12 2).trans rfl; have hr3 := (blk_cell hX12 3).trans rfl; have hr4 := (blk_cell hX12 4).trans rfl; have hr5 := (blk_cell hX12 5).trans rfl; have hr6 := (blk_cell hX12 6).trans rfl; have HM12 := Aside0.mk ((HM10.out.other hg (fun g e => by simp [Value.ownBlock] at e)).set24 hX11 (by decide) 6 (.slice A11 x.f6.length c11)); have HB12 := Aside0.mk (hb.setCell (p := ⟨wr.heap.size, 6, none⟩) HB.out.size (.slice A11 x.f6.length c11)); have HK12 := Aside0.mk ((HK10.out.grown hg (fun g e => by simp [Value.ownBlock] at e)).set_ (Nat.le_refl _) 6 (.slice A11 x.f6.length c11)); have HS12 := Aside0.mk ((HS10.out.move (hg.block b2 HS10.out.lt (fun e => by simp [Value.ownBlock] at e))).move (Below.heap_setCell w11 ⟨wr.heap.size, 6, none⟩ (.slice A11 x.f6.length c11) b2 pbb5_3)); have HT12 := Aside0.mk (kTag_move ho (w1 := w11.setCell ⟨wr.heap.size, 6, none⟩ (.slice A11 x.f6.length c11)) (fun k hk => Below.heap_setCell w11 ⟨wr.heap.size, 6, none⟩ (.slice A11 x.f6.length c11) k (by obtain ⟨cc, hcc⟩ := Kd.R_typed ho k hk; show k ≠ wr.heap.size; rintro rfl; rw [hX11] at hcc; injection hcc with hcc; injection hcc with _ h3; exact absurd h3 (by decide)))); have HTy := Aside0.mk (Kd.S_typed (KeepC.S_ HO.out HK12.out)); clear ho hb hg hat hX11 hX12)
         | ((with_reducible refine gate_builtin (b := .append) (xs := #[.tmp 57, .tmp 59]) rfl ?_); at_builtin; refine Kd.S_append k24 (w0 := w) w.heap.size rfl (.tmp 57) (.tmp 59) 26 24 (.agg #[(.string ⟨#[]⟩), (.string ⟨#[]⟩), (.int .i64 0), (.int .i64 0), (.string ⟨#[]⟩), (.string ⟨#[]⟩), (.slice none 0 0)]) 104 rfl Tryd.underlying26 info24 rfl (by decide) (by omega) _ out (⟨x.f0, x.f1, 0, s2, x.f4, x.f5, x.f6⟩ : S24) [.string x.f0, .string x.f1, .int .i64 0, .int .i64 s2, .string x.f4, .string x.f5, .slice A11 x.f6.length c11] (fun _ => True) (fun k => wr.heap.size ≤ k) rfl ?hx ?aP ?aK (fun _ _ => trivial) ?aO ?aB ?aS ?aL ?_; (case hx => rw [show (w11.setCell ⟨wr.heap.size, 6, none⟩ (.slice A11 x.f6.length c11)).heap.size = w11.heap.size from by simp [World.setCell]]; rfl); (case aB => exact HB12.out); (case aS => exact HB12.out.size); (case aP => exact k24_mkM _ _ _ (⟨x.f0, x.f1, 0, s2, x.f4, x.f5, x.f6⟩ : S24) HT12.out); (case aK => exact fun k hk => ⟨trivial, fun e => by have := Kd.S_lt HO.out k e.symm; omega⟩); (case aO => exact Kd.S_mono (KeepC.S_ HO.out HK12.out) (fun k hk => ⟨trivial, by omega⟩)); (case aL => have := HOl.out; have := HL.out; have := HJ.out; omega); intro v13 w13 ho hb hg hat; have HO13 := Aside0.mk ho; have HB13 := Aside0.mk hb; have HM13 := Aside0.mk (HM12.out.other hg (fun g e => by obtain ⟨cc, hcc⟩ := HTy.out g e; exact ⟨cc, 24, hcc, by decide, by decide⟩)); have HS13 := Aside0.mk (HS12.out.move (hg.block b2 HS12.out.lt (fun e => by obtain ⟨cc, hcc⟩ := HTy.out b2 e.symm; obtain ⟨es, clk, hmb, _⟩ := HS12.out; rw [hmb] at hcc; cases hcc))); clear ho hb hg hat))
        go_roundg k1
        case measure => omega
        case rel =>
         refine ⟨j + 1, _, _, ?_, ⟨by have := HJ.out; omega⟩, H2, ⟨by have := HOl.out; simp; omega⟩, ⟨⟨M, fp, HM13.out⟩⟩, HS13, HO13, HB13⟩; have := HW.out; first | rfl | (rw [← this]; rfl) | (simp [*]; done)
     ·rw [if_neg z] at h1; simp only [Option.some.injEq, Prod.mk.injEq] at h1; obtain ⟨rfl, rfl⟩ := h1; have zb : (er == 0) = false := beq_eq_false_iff_ne.2 z; have zc : (er != 0) = true := by simp [z]
      go_wp2_with (first
       | (go_at_call 54; (with_reducible refine (F54.calls (x.f6.length + 1) x.f0 x.f1 x.f2 x.f3 x.f4 x.f5 A6 c6 x.f6 _ _ _ _ _ _ pbb5_0 HC6.out HKT.out).mono ?_); rintro e w5 ⟨rfl, hb5⟩; have hX5 := blk_below (blk_new wr (.cells #[.string x.f0, .string x.f1, .int .i64 x.f2, .int .i64 x.f3, .string x.f4, .string x.f5, .slice A6 x.f6.length c6] 24)) hb5; have HX6 := Aside0.mk (blk_alloc hX5 (.cells #[.string x.f0, .string x.f1, .string x.f4, .string x.f5, .string T] 89)); have HY6 := Aside0.mk (blk_new w5 (.cells #[.string x.f0, .string x.f1, .string x.f4, .string x.f5, .string T] 89)); have hb5s : wr.heap.size < w5.heap.size := pbb5_1; have hbb := below_then (below_alloc (Below.refl wr.heap.size wr) _) (by simp) hb5; have HBW := Aside0.mk (below_then hbb hbb.size (below_alloc (Below.refl w5.heap.size w5) (.cells #[.string x.f0, .string x.f1, .string x.f4, .string x.f5, .string T] 89))); have HB6 := Aside0.mk (below_then HB.out HB.out.size HBW.out); have HM6 := Aside0.mk (hM.below HBW.out); have HS6 := Aside0.mk (HSn.out.below HBW.out); clear hb5 hX5 hbb hx0 hx1 hx2 hx3 hx4 hx5 hx6)
       | (refine lookL_ (ev := ptrV) rfl rfl Tryd.underlying84 key_key zero_ptr2 HM7.out.1 (x.f0, x.f1, x.f4, x.f5, T) rfl rfl ?_; (try rw [hlv]))
       | (refine lookL_ (ev := Value.bool) rfl rfl Tryd.underlying91 key_key zero_bool HS6.out (x.f0, x.f1, x.f4, x.f5, T) rfl rfl ?_; (try rw [hls]))
       | (refine storeL_ (ev := Value.bool) (L := Sn) rfl rfl Tryd.underlying91 key_key HS6.out (x.f0, x.f1, x.f4, x.f5, T) true rfl rfl rfl ?_; intro w7 hS7 hg7 hs7; have HM7 := Aside0.mk (HM6.out.map2 HS6.out (by omega) hg7); have HS7 := Aside0.mk hS7; have HB7 := Aside0.mk (pw_below_grown HB6.out (some b2) HB6.out.size hg7 (fun k hk => by injection hk with hk; omega)); have hs7w : wr.heap.size ≤ w7.heap.size := (by rw [hs7]; exact HBW.out.size); have HKp := Aside0.mk ((KeepC.below HBW.out).map2 HS6.out hg7); have hX7 := blk_grown HX6.out hg7 pbb5_2; have HX7 := Aside0.mk hX7; have hY7 := blk_grown HY6.out hg7 pbb5_2; have hy0 := (blk_cell hY7 0).trans rfl; have hy1 := (blk_cell hY7 1).trans rfl; have hy2 := (blk_cell hY7 2).trans rfl; have hy3 := (blk_cell hY7 3).trans rfl; have hy4 := (blk_cell hY7 4).trans rfl; clear hS7 hg7 hX7 hY7)
       | (obtain ⟨p2, va, vb, hag2, hp, ⟨ok1, hA⟩, ok2, hB⟩ := HM7.out.find HFd.out; have hpp : p = p2 := Option.some.inj (HAg.out.symm.trans hag2); subst hpp; go_at_call 48; (with_reducible refine (column_both.calls p 1000000000000 q.2.1 q.2.2 va vb w.heap.size ok1 ok2 _ s1 s2 er hp hA hB HBo.out).mono ?_); rintro e w9 ⟨rfl, ⟨m2, rfl⟩⟩))
      go_ret2
      exact ⟨_, rfl, Kd.S_nil _ _ _ _ _, pw_below_drewN HB7.out _⟩
def F46.f (a0_0 : ByteArray) (a0_1 : ByteArray) (a0_2 : Int) (a0_3 : Int) (a0_4 : ByteArray) (a0_5 : ByteArray) (l0_6 : List (S101)) : Option (ByteArray) := some a0_1
set_option maxHeartbeats 8000000 in
set_option maxRecDepth 100000 in
theorem F46.calls (a0_0 : ByteArray) (a0_1 : ByteArray) (a0_2 : Int) (a0_3 : Int) (a0_4 : ByteArray) (a0_5 : ByteArray) (A0_6 : Option Addr) (c0_6 : Nat) (l0_6 : List (S101)) (r : ByteArray) (w : World) (hr0_6 : Kd.C k101 w A0_6 l0_6.length l0_6) (hc0_6 : l0_6.length ≤ c0_6) (h : F46.f a0_0 a0_1 a0_2 a0_3 a0_4 a0_5 l0_6 = some r) :
    Calls Tryd.prog 46 #[.agg #[.string a0_0, .string a0_1, .int .i64 a0_2, .int .i64 a0_3, .string a0_4, .string a0_5, .slice A0_6 l0_6.length c0_6]] w fun e w' => e = .returned (.string r) ∧ Below w.heap.size w w' := by
 have hu24 := Tryd.underlying24; have hu9 := Tryd.underlying9; have HR0_6 := Aside0.mk hr0_6; have HC0_6 := Aside0.mk hc0_6; clear hr0_6 hc0_6; have HB := Aside0.mk (Below.refl w.heap.size w)
 unfold F46.f at h
 have H := h; clear h; obtain rfl := Option.some.inj H; go_enter Tryd.func46, Tryd.ntmps46
 go_wp2_with (first | ((with_reducible refine gate_dst (N := 1) rfl ?_); refine box_event ?hg (N := 1) ?hd (cs := #[.string a0_0, .string a0_1, .int .i64 a0_2, .int .i64 a0_3, .string a0_4, .string a0_5, .slice A0_6 l0_6.length c0_6]) (t := 24) ?hr ?_; (case hd => rfl); (case hg => rfl); (case hr => first | (go_simp; done) | (go_simp; rfl)); intro gb101 hg w2 hbox hb; have BK101 := Aside0.mk (hbox); have GW101 := Aside0.mk ((pbb2_8 : w.heap.size ≤ gb101)); have GE101 := Aside0.mk ((pbb2_8 : w.heap.size ≤ gb101)); replace HB := Aside0.mk (below_step pbb2_9 hb); clear hb hbox hg; obtain ⟨hcz3_0, hcz3_1, hcz3_2, hcz3_3, hcz3_4, hcz3_5, hcz3_6⟩ := cz7 BK101.out; obtain ⟨hfz3_0, hfz3_1, hfz3_2, hfz3_3, hfz3_4, hfz3_5, hfz3_6⟩ := fz7 BK101.out))
 go_ret
 exact ⟨pbb2_18, pbb2_11⟩
def curKey (x : Ln) : ByteArray := x.f1
theorem str_key : KeyT Tryd.prog 9 Value.string := KeyT.string Tryd.underlying9
theorem zero_ptr (w : World) : (zeroValue 75).run Tryd.prog w = .ok (.pointer none) w := by kernel_rfl
theorem info9s : (Tryd.prog.info? 9).map (fun i => (i.zero, i.size, i.bytes)) = some (some (.string ⟨#[]⟩), 1, 16) := by kernel_rfl
theorem kStr_move {w w1 : World} {base : Nat} {ok : Nat → Prop} {v : Value} {xs : List ByteArray} (h : Kd.R Kd.string 9 w base ok v xs) (hm : ∀ k, v.ownBlock = some k → w1.heap[k]? = w.heap[k]?) : Kd.R Kd.string 9 w1 base ok v xs := by
 obtain ⟨h0, inner, ho, hr⟩ := h; exact ⟨h0, inner, own_move ho hm, hr⟩
set_option maxHeartbeats 16000000 in
set_option maxRecDepth 100000 in
theorem columns_str.calls (A0 : Option Addr) (c0 : Nat) (l0 : List Ln) (w : World) (hr0 : Kd.C k24 w A0 l0.length l0) (hc0 : l0.length ≤ c0) (hl : l0.length ≤ 1000000) :
  Calls Tryd.prog 45 #[.slice A0 l0.length c0, .func (.func 46) #[] #[]] w fun e w' => ∃ b vk, e = .returned (.tuple #[.map (some b), vk]) ∧ ColsIs Value.string w' w.heap.size b (colsOf curKey l0) ∧ Kd.R Kd.string 9 w' w.heap.size (fun _ => True) vk ((colsOf curKey l0).map (·.1)) ∧ Below w.heap.size w w' := by
 have HR0 := Aside0.mk hr0; have HC0 := Aside0.mk hc0; have HL := Aside0.mk hl; clear hr0 hc0 hl; go_enter Tryd.func45, Tryd.ntmps45
 go_wp2_with (first
  | (refine makeL_ rfl rfl ?_))
 have HCo := Aside0.mk (ColsIs_made (κ := ByteArray) Value.string w w.heap.size); have HB := Aside0.mk (below_alloc (Below.refl w.heap.size w) (.map #[] 0))
 go_loopg [7, 14] l0.length (fun kq v7 v14 w' => ∃ (j : Nat), v14 = .int .i64 (j : Int) ∧ Aside0 (j + kq = l0.length) ∧ Aside0 (ColsIs Value.string w' w.heap.size w.heap.size (colsOf curKey (l0.take j))) ∧ Aside0 (Kd.R Kd.string 9 w' w.heap.size (fun _ => True) v7 ((colsOf curKey (l0.take j)).map (·.1))) ∧ Aside0 (Below w.heap.size w w'))
 case atStart => exact ⟨0, rfl, ⟨by omega⟩, HCo, ⟨Kd.R_nil _ _ _ _ _⟩, HB⟩
 case round =>
  clear HCo HB; obtain ⟨j, rfl, HJ, HCo, HK, HB⟩ := hrel
  cases gk with
  | zero =>
   have hj : j = l0.length := by have := HJ.out; omega
   subst hj; have hjb : decide ((l0.length : Int) < (l0.length : Int)) = false := decide_eq_false (by omega); have HCo1 := HCo.out; have HK1 := HK.out; rw [List.take_length] at HCo1 HK1; clear HCo HK
   go_wp2
   go_ret2
   exact ⟨_, _, rfl, HCo1, HK1, HB.out⟩
  | succ k1 =>
   have hj : j < l0.length := by have := HJ.out; omega
   have hjb : decide ((j : Int) < (l0.length : Int)) = true := decide_eq_true (by omega); have p1 : 0 ≤ (j : Int) := by omega
   have qj : (j : Int) < (l0.length : Int) := by omega
   obtain ⟨ad, A6, c6, e1, hx0, hx1, hx2, hx3, hx4, hx5, hx6, hc6, hC6⟩ := at_T24 (Kd.C_below HR0.out HB.out) (j : Int) p1 qj
   cases e1
   have hrd : rd_T24 l0 (j : Int) = l0[j] := by simp [rd_T24, hj]
   have HT : Aside0 (l0.take j ++ [l0[j]] = l0.take (j + 1)) := ⟨by simp⟩; rw [hrd] at hx0 hx1 hx2 hx3 hx4 hx5 hx6 hc6 hC6; obtain ⟨x, hx⟩ : ∃ x, l0[j] = x := ⟨_, rfl⟩; rw [hx] at HT hx0 hx1 hx2 hx3 hx4 hx5 hx6 hc6 hC6; clear hx hrd; replace p1 := eq_true p1; replace qj := eq_true qj; simp only [Int.toNat_natCast] at hx0 hx1 hx2 hx3 hx4 hx5 hx6; have HC6 := Aside0.mk hc6; have HCC := Aside0.mk hC6; clear hc6 hC6; obtain ⟨M, fp, hM⟩ := HCo.out; have hlL := colsOf_len curKey (l0.take j); have HW : Aside0 (wrap64 ((j : Int) + 1) = ((j + 1 : Nat) : Int)) := ⟨by have := HL.out; unfold wrap64; omega⟩; have HT2 : Aside0 (colsOf curKey (l0.take (j + 1)) = colPut (colNew (colsOf curKey (l0.take j)) x.f1) x.f1 x.f2 x.f3) := ⟨by rw [← HT.out, colsOf_snoc]; rfl⟩; have HN : Aside0 ((l0.take j).length ≤ 1000000) := ⟨by have := HL.out; simp; omega⟩; obtain ⟨Lc, hLc⟩ : ∃ Lc, colsOf curKey (l0.take j) = Lc := ⟨_, rfl⟩; rw [hLc] at hM hlL HT2 HK; have hcnt : Lc.length ≤ 1000000 := by rw [← hLc]; exact Nat.le_trans (colsOf_count curKey _) HN.out
   have HCnt := Aside0.mk hcnt; clear HCo hLc HT hcnt
   cases hany : Lc.any (fun q => decide (q.1 = x.f1)) with
   | true =>
    have hnp := colNew_pos hany; obtain ⟨i, p, am, bm, hag, hi, hL, _⟩ := hM.present hany
    have hlen : am.length ≤ 1000000 ∧ bm.length ≤ 1000000 := by
     have h1 := hlL _ (List.mem_of_getElem? hL); have := HN.out; exact ⟨Nat.le_trans h1.1 this, Nat.le_trans h1.2 this⟩
    have hlv : lookV ptrV M x.f1 (.pointer none) false = .pointer (some ⟨p, 0, none⟩) := by simp [lookV, hag, ptrV]
    go_wp2_with (first
     | (go_at_call 46; (with_reducible refine (F46.calls x.f0 x.f1 x.f2 x.f3 x.f4 x.f5 A6 c6 x.f6 _ _ pbb5_0 HC6.out rfl).mono ?_); rintro e w5 ⟨rfl, hb5⟩; have hX5 := blk_below (blk_new wr (.cells #[.string x.f0, .string x.f1, .int .i64 x.f2, .int .i64 x.f3, .string x.f4, .string x.f5, .slice A6 x.f6.length c6] 24)) hb5; have hq0 := (blk_cell hX5 0).trans rfl; have hq1 := (blk_cell hX5 1).trans rfl; have hq2 := (blk_cell hX5 2).trans rfl; have hq3 := (blk_cell hX5 3).trans rfl; have hq4 := (blk_cell hX5 4).trans rfl; have hq5 := (blk_cell hX5 5).trans rfl; have hq6 := (blk_cell hX5 6).trans rfl; have HX5 := Aside0.mk hX5; have hbb := below_then (below_alloc (Below.refl wr.heap.size wr) _) (by simp) hb5; have HB5 := Aside0.mk (below_then HB.out HB.out.size hbb); have HK5 := Aside0.mk (Kd.R_below HK.out hbb); have HM5 := Aside0.mk (hM.below hbb); clear hb5 hX5 hbb hx0 hx1 hx2 hx3 hx4 hx5 hx6)
     | (refine lookL_ (ev := ptrV) rfl rfl Tryd.underlying68 str_key zero_ptr HM5.out.1 x.f1 rfl rfl ?_; (try rw [hlv]))
     | (obtain ⟨hpb, hfp, va, vb, hp, hA, hB⟩ := HM5.out.2.2.2 i _ p am bm hi hL; (go_at_call 72; (with_reducible refine (column_add.calls p x A6 c6 am bm va vb w.heap.size w5 hp (kInt_ok hA (fun k hk => .inl hk.symm)) (kInt_ok hB (fun k hk => .inl hk.symm)) (ne_cols hA hB) hpb HB5.out.size hlen).mono ?_); rintro e w9 ⟨rfl, va2, vb2, hp2, hA2, hB2, hne2, hb2, hkeep⟩; have HC9 := Aside0.mk (ColsM.put_ (x := x.f2) (y := x.f3) HM5.out hi hL ⟨hpb, hfp⟩ hA hB hp hp2 hA2 hB2 hne2 hkeep); have HK9 := Aside0.mk (kStr_move HK5.out (own_col (Kd.own_of_R HK5.out) (by decide) hp hA hB hkeep)); have HB9 := Aside0.mk (HB5.out.trans hb2); clear hp2 hA2 hB2 hne2 hb2 hkeep)))
    go_roundg k1
    case measure => omega
    case rel =>
     refine ⟨j + 1, ?_, ⟨by have := HJ.out; omega⟩, ⟨?_⟩, ⟨?_⟩, HB9⟩
     ·have := HW.out; first | rfl | (rw [← this]; rfl) | (simp [*]; done)
     ·rw [HT2.out, hnp]; exact HC9.out
     ·rw [HT2.out, hnp, colPut_keys]; exact HK9.out
   | false =>
    have hag := hM.absent hany; have hlv : lookV ptrV M x.f1 (.pointer none) false = .pointer none := by simp [lookV, hag]
    go_wp2_with (first
     | (go_at_call 46; (with_reducible refine (F46.calls x.f0 x.f1 x.f2 x.f3 x.f4 x.f5 A6 c6 x.f6 _ _ pbb5_0 HC6.out rfl).mono ?_); rintro e w5 ⟨rfl, hb5⟩; have hX5 := blk_below (blk_new wr (.cells #[.string x.f0, .string x.f1, .int .i64 x.f2, .int .i64 x.f3, .string x.f4, .string x.f5, .slice A6 x.f6.length c6] 24)) hb5; have hq0 := (blk_cell hX5 0).trans rfl; have hq1 := (blk_cell hX5 1).trans rfl; have hq2 := (blk_cell hX5 2).trans rfl; have hq3 := (blk_cell hX5 3).trans rfl; have hq4 := (blk_cell hX5 4).trans rfl; have hq5 := (blk_cell hX5 5).trans rfl; have hq6 := (blk_cell hX5 6).trans rfl; have HX5 := Aside0.mk hX5; have hbb := below_then (below_alloc (Below.refl wr.heap.size wr) _) (by simp) hb5; have HB5 := Aside0.mk (below_then HB.out HB.out.size hbb); have HK5 := Aside0.mk (Kd.R_below HK.out hbb); have HM5 := Aside0.mk (hM.below hbb); clear hb5 hX5 hbb hx0 hx1 hx2 hx3 hx4 hx5 hx6)
     | (refine lookL_ (ev := ptrV) rfl rfl Tryd.underlying68 str_key zero_ptr hM8.1 x.f1 rfl rfl ?_; (try rw [hlv8]))
     | (refine lookL_ (ev := ptrV) rfl rfl Tryd.underlying68 str_key zero_ptr HM5.out.1 x.f1 rfl rfl ?_; (try rw [hlv]))
     | (refine storeL_ (ev := ptrV) (L := M) rfl rfl Tryd.underlying68 str_key (HM5.out.1.alloc _) x.f1 w5.heap.size rfl rfl rfl ?_; intro w7 hM7 hg7 hs7; have HC7 := Aside0.mk (HM5.out.new_ hany HB5.out.size hM7 hg7); have hK6 := Kd.R_alloc HK5.out (.cells #[.slice none 0 0, .slice none 0 0] 104); have HK7 := Aside0.mk (kStr_move hK6 (own_map (Kd.own_of_R hK6) (HM5.out.1.alloc _) hg7)); have hB6 := HB5.out.alloc HB5.out.size (.cells #[.slice none 0 0, .slice none 0 0] 104); have HB7 := Aside0.mk (pw_below_grown hB6 (some w.heap.size) hB6.size hg7 (fun k hk => by injection hk with hk; omega)); have hX7 := (hg7.block wr.heap.size (by simp; have := blk_lt HX5.out; omega) (by intro e; injection e with e; have := hM.1.lt; omega)).trans (blk_alloc HX5.out _); clear hM7 hg7 hs7 hK6 hB6)
     | ((with_reducible refine gate_builtin (b := .append) (xs := #[.tmp 29, .tmp 31]) rfl ?_); at_builtin; refine Kd.R_append Kd.string (w0 := w) (W := w7) w.heap.size rfl (.tmp 29) (.tmp 31) 69 9 (.string ⟨#[]⟩) 16 rfl Tryd.underlying69 info9s rfl (by decide) (by omega) _ (Lc.map (·.1)) x.f1 [.string x.f1] (fun _ => True) (fun _ => False) rfl rfl ?aP (fun _ hk => hk.elim) (fun _ _ => trivial) ?aO HB7.out HB7.out.size ?aL ?_; (case aP => exact rfl); (case aO => exact HK7.out); (case aL => have := HCnt.out; simp only [List.length_map]; omega); intro v8 w8 ho hb hg hat; have HK8 := Aside0.mk ho; have HB8 := Aside0.mk hb; have hX8 := blk_grown hX7 hg (own_ne (Kd.own_of_R HK7.out) hX7 (by decide)); have hr0 := (blk_cell hX8 0).trans rfl; have hr1 := (blk_cell hX8 1).trans rfl; have hr2 := (blk_cell hX8 2).trans rfl; have hr3 := (blk_cell hX8 3).trans rfl; have hr4 := (blk_cell hX8 4).trans rfl; have hr5 := (blk_cell hX8 5).trans rfl; have hr6 := (blk_cell hX8 6).trans rfl; obtain ⟨M8, fp8, hM8⟩ := HC7.out.other hg (fun g hg2 => by obtain ⟨cs, hc⟩ := Kd.R_typed HK7.out g hg2; exact ⟨cs, 9, hc, by decide, by decide⟩); obtain ⟨i, p, am, bm, hag8, hi, hL, hpb, hfp, va, vb, hp, hA, hB⟩ := hM8.present (colNew_any Lc x.f1); have hlen : am.length ≤ 1000000 ∧ bm.length ≤ 1000000 := (by have h1 := colNew_len hlL x.f1 _ (List.mem_of_getElem? hL); have := HN.out; exact ⟨Nat.le_trans h1.1 this, Nat.le_trans h1.2 this⟩); have hlv8 : lookV ptrV M8 x.f1 (.pointer none) false = .pointer (some ⟨p, 0, none⟩) := (by simp [lookV, hag8, ptrV]); clear ho hb hg hat hX7)
     | (go_at_call 72; (with_reducible refine (column_add.calls p x A6 c6 am bm va vb w.heap.size w8 hp (kInt_ok hA (fun k hk => .inl hk.symm)) (kInt_ok hB (fun k hk => .inl hk.symm)) (ne_cols hA hB) hpb HB8.out.size hlen).mono ?_); rintro e w9 ⟨rfl, va2, vb2, hp2, hA2, hB2, hne2, hb2, hkeep⟩; have HC9 := Aside0.mk (ColsM.put_ (x := x.f2) (y := x.f3) hM8 hi hL ⟨hpb, hfp⟩ hA hB hp hp2 hA2 hB2 hne2 hkeep); have HK9 := Aside0.mk (kStr_move HK8.out (own_col (Kd.own_of_R HK8.out) (by decide) hp hA hB hkeep)); have HB9 := Aside0.mk (HB8.out.trans hb2); clear hp2 hA2 hB2 hne2 hb2 hkeep))
    go_roundg k1
    case measure => omega
    case rel =>
     refine ⟨j + 1, ?_, ⟨by have := HJ.out; omega⟩, ⟨?_⟩, ⟨?_⟩, HB9⟩
     ·have := HW.out; first | rfl | (rw [← this]; rfl) | (simp [*]; done)
     ·rw [HT2.out]; exact HC9.out
     ·have hcn : colNew Lc x.f1 = Lc ++ [(x.f1, [], [])] := by unfold colNew; rw [if_neg (by simp [hany])]
      have := HK9.out; rw [HT2.out, colPut_keys, hcn]; simpa using this
def balL : List (Col ByteArray) → Option Bool
 | [] => some true
 | q :: r => (bothf 0 q.2.1 q.2.2).bind fun t => if t.2.2 = 0 then balL r else some false
def F23.f (l : List Ln) : Option Bool := if l.length ≤ 1000000 then balL (colsOf curKey l) else none
theorem mem_any {L : List (Col ByteArray)} {q : Col ByteArray} (h : q ∈ L) : L.any (fun z => decide (z.1 = q.1)) = true := by
 rw [any_key]; exact List.mem_map.2 ⟨q, h, rfl⟩
theorem ColsM.nth {M : List (ByteArray × Nat)} {fp : Nat → Nat} {w : World} {base b : Nat} {L : List (Col ByteArray)} (h : ColsM Value.string M fp w base b L) {j : Nat} {q : Col ByteArray} (hj : L[j]? = some q) : ∃ p va vb, aget M q.1 = some p ∧ w.heap[p]? = some (.cells #[va, vb] 104 (0, 0)) ∧ (∃ ok1, Kd.R (Kd.int .i64) 3 w base ok1 va q.2.1) ∧ ∃ ok2, Kd.R (Kd.int .i64) 3 w base ok2 vb q.2.2 := by
 obtain ⟨q1, q2, q3⟩ := q; obtain ⟨i, p, am, bm, hag, hi, hL, hpb, hfp, va, vb, hp, hA, hB⟩ := h.present (mem_any (List.mem_of_getElem? hj)); have h1 : (L.map (·.1))[j]? = some q1 := by rw [List.getElem?_map, hj]; rfl
 have h2 : (L.map (·.1))[i]? = some q1 := by rw [List.getElem?_map, hL]; rfl
 have hjl := (List.getElem?_eq_some_iff.1 h1).1; have hij := (List.getElem?_inj hjl h.2.2.1).1 (h1.trans h2.symm); subst hij; rw [hj] at hL; simp only [Option.some.injEq, Prod.mk.injEq] at hL; obtain ⟨_, rfl, rfl⟩ := hL; exact ⟨p, va, vb, hag, hp, ⟨_, hA⟩, _, hB⟩
set_option maxHeartbeats 16000000 in
set_option maxRecDepth 100000 in
theorem F23.calls (A0 : Option Addr) (c0 : Nat) (l0 : List Ln) (r : Bool) (w : World) (hr0 : Kd.C k24 w A0 l0.length l0) (hc0 : l0.length ≤ c0) (h : F23.f l0 = some r) :
  Calls Tryd.prog 23 #[.slice A0 l0.length c0] w fun e w' => e = .returned (.bool r) ∧ Below w.heap.size w w' := by
 have HR0 := Aside0.mk hr0; have HC0 := Aside0.mk hc0
 unfold F23.f at h
 split at h
 case isFalse => cases h
 rename_i hl
 have HL := Aside0.mk hl; have H := Aside0.mk h; have hcn := colsOf_count curKey l0; clear hr0 hc0 h hl; go_enter Tryd.func23, Tryd.ntmps23
 go_wp2_with (first
  | (go_at_call 45; (with_reducible refine (columns_str.calls A0 c0 l0 w HR0.out HC0.out HL.out).mono ?_); rintro e w5 ⟨b, vk, rfl, hco, hk, hb⟩; have HCo := Aside0.mk hco; have HK := Aside0.mk hk; have HB := Aside0.mk hb; obtain ⟨A9, c9, rfl⟩ := Kd.R_slice hk; clear hco hk hb))
 obtain ⟨L, hL⟩ : ∃ L, colsOf curKey l0 = L := ⟨_, rfl⟩; rw [hL] at H HCo HK hcn; obtain ⟨ks, hks⟩ : ∃ ks, L.map (·.1) = ks := ⟨_, rfl⟩; rw [hks] at HK; simp only [hL, hks]; have hkl : ks.length = L.length := by rw [← hks]; simp
 have hKC := (Kd.R_reads' HK.out).2.2; have HKC := Aside0.mk hKC; have HLL : Aside0 (L.length ≤ 1000000) := ⟨Nat.le_trans hcn HL.out⟩; clear hKC hcn HK
 go_loopg [17] ks.length (fun kq v17 w' => ∃ (j : Nat), v17 = .int .i64 (j : Int) ∧ Aside0 (j + kq = ks.length) ∧ Aside0 (balL (L.drop j) = some r) ∧ ∃ m, w' = w5.drewN m)
 case atStart => exact ⟨0, rfl, ⟨by omega⟩, H, 0, rfl⟩
 case round =>
  clear H; obtain ⟨j, rfl, HJ, H, m, rfl⟩ := hrel
  cases gk with
  | zero =>
   have hj : j = ks.length := by have := HJ.out; omega
   subst hj; have hjb : decide ((ks.length : Int) < (ks.length : Int)) = false := decide_eq_false (by omega); have h1 := H.out; rw [List.drop_eq_nil_of_le (by omega)] at h1; obtain rfl := Option.some.inj h1; clear H h1
   go_wp2
   go_ret
   exact ⟨rfl, by repeat (first | exact HB.out | apply pw_below_drewN | apply below_drew)⟩
  | succ k1 =>
   have hj : j < ks.length := by have := HJ.out; omega
   have hjL : j < L.length := by omega
   have hjb : decide ((j : Int) < (ks.length : Int)) = true := decide_eq_true (by omega); have p1 : 0 ≤ (j : Int) := by omega
   have qj : (j : Int) < (ks.length : Int) := by omega
   obtain ⟨ad, e1, hx⟩ := Kd.at_string (Kd.C_drewN HKC.out m) (j : Int) p1 qj
   cases e1
   have hrd : rdOf ByteArray.empty ks (j : Int) = L[j].1 := by
    subst hks
    simp [rdOf, hjL]
   rw [hrd] at hx; obtain ⟨M, fp, hM⟩ := HCo.out; have hM2 := hM.below (pw_below_drewN (Below.refl w5.heap.size w5) m); obtain ⟨p, va, vb, hag, hp, ⟨ok1, hA⟩, ok2, hB⟩ := hM2.nth (j := j) (q := L[j]) (by simp [hjL]); have h1 := H.out; rw [List.drop_eq_getElem_cons hjL] at h1; obtain ⟨q, hq⟩ : ∃ q, L[j] = q := ⟨_, rfl⟩; rw [hq] at h1 hA hB hag hx; clear hq hrd H; simp only [balL] at h1; obtain ⟨⟨s1, s2, er⟩, hbo, h1⟩ := Option.bind_eq_some_iff.mp h1; have HBo := Aside0.mk hbo; simp only at h1; have hlv : lookV ptrV M q.1 (.pointer none) false = .pointer (some ⟨p, 0, none⟩) := by simp [lookV, hag, ptrV]
   have HW : Aside0 (wrap64 ((j : Int) + 1) = ((j + 1 : Nat) : Int)) := ⟨by have := HLL.out; unfold wrap64; omega⟩; replace p1 := eq_true p1; replace qj := eq_true qj; simp only [Int.toNat_natCast] at hx; clear hbo
   by_cases z : er = 0
   ·subst z; rw [if_pos rfl] at h1; have H2 := Aside0.mk h1; clear h1
    go_wp2_with (first
     | (refine lookL_ (ev := ptrV) rfl rfl Tryd.underlying68 str_key zero_ptr (hM.1.move rfl) q.1 rfl rfl ?_; (try rw [hlv]))
     | (go_at_call 48; (with_reducible refine (column_both.calls p 0 q.2.1 q.2.2 va vb w.heap.size ok1 ok2 _ s1 s2 0 hp hA hB HBo.out).mono ?_); rintro e w9 ⟨rfl, ⟨m2, rfl⟩⟩))
    go_roundg k1
    case measure => omega
    case rel =>
     refine ⟨j + 1, ?_, ⟨by have := HJ.out; omega⟩, H2, _, rfl⟩; have := HW.out; first | rfl | (rw [← this]; rfl) | (simp [*]; done)
   ·rw [if_neg z] at h1; obtain rfl := Option.some.inj h1; have zb : (er == 0) = false := beq_eq_false_iff_ne.2 z; have zc : (er != 0) = true := by simp [z]
    clear h1
    go_wp2_with (first
     | (refine lookL_ (ev := ptrV) rfl rfl Tryd.underlying68 str_key zero_ptr (hM.1.move rfl) q.1 rfl rfl ?_; (try rw [hlv]))
     | (go_at_call 48; (with_reducible refine (column_both.calls p 0 q.2.1 q.2.2 va vb w.heap.size ok1 ok2 _ s1 s2 er hp hA hB HBo.out).mono ?_); rintro e w9 ⟨rfl, ⟨m2, rfl⟩⟩))
    go_ret
    exact ⟨rfl, by repeat (first | exact HB.out | apply pw_below_drewN | apply below_drew)⟩
def cpos (c : ByteArray) : List ByteArray → Nat
 | [] => 0
 | a :: r => if Op.bytesLess a.toList c.toList = true then cpos c r + 1 else 0
theorem cpos_le (c : ByteArray) : ∀ o, cpos c o ≤ o.length
 | [] => Nat.le_refl _
 | a :: r => by
  unfold cpos
  have := cpos_le c r
  split
  ·simp; omega
  ·simp
theorem cpos_lt (c : ByteArray) : ∀ (o : List ByteArray) (i : Nat) (h : i < o.length), i < cpos c o → Op.bytesLess o[i].toList c.toList = true
 | [], i, h, _ => by simp at h
 | a :: r, i, h, hc => by
  unfold cpos at hc
  split at hc
  ·rename_i ha
   cases i with
   | zero => exact ha
   | succ i => exact cpos_lt c r i (by simpa using h) (by omega)
  ·omega
theorem cpos_at (c : ByteArray) : ∀ (o : List ByteArray) (h : cpos c o < o.length), Op.bytesLess (o[cpos c o]'h).toList c.toList = false
 | [], h => by simp [cpos] at h
 | a :: r, h => by
  by_cases ha : Op.bytesLess a.toList c.toList = true
  ·have he : cpos c (a :: r) = cpos c r + 1 := by simp [cpos, ha]
   have h2 : cpos c r < r.length := by rw [he] at h; simpa using h
   have := cpos_at c r h2
   simpa [he] using this
  ·have he : cpos c (a :: r) = 0 := by simp [cpos, ha]
   simp only [he]
   simpa using ha
theorem bytes_injC {a b : ByteArray} : a.toList = b.toList ↔ a = b := by
 rw [ByteArray.toList_eq, ByteArray.toList_eq]
 constructor
 ·intro h; exact ByteArray.ext (Array.toList_inj.1 h)
 ·rintro rfl; rfl
def insC (o : List ByteArray) (c : ByteArray) : List ByteArray := if o[cpos c o]? = some c then o else o.take (cpos c o) ++ c :: o.drop (cpos c o)
theorem insC_length (o : List ByteArray) (c : ByteArray) : (insC o c).length ≤ o.length + 1 := by
 unfold insC
 split
 ·omega
 ·rw [List.length_append, List.length_cons, List.length_take, List.length_drop]; omega
def F49.f (l : List Ln) : Option (List ByteArray) := if l.length ≤ 1000000 then some (l.foldl (fun o x => insC o x.f1) []) else none
theorem str_flat (w : World) (base : Nat) (ok : Nat → Prop) (x : ByteArray) (cs : List Value) (h : Kd.string.K w x cs) : Kd.string.M w base ok x cs := h
theorem reads_belowS {w w' : World} {A : Option Addr} {n : Nat} {xs : List ByteArray} (h : Kd.C Kd.string w A n xs) (hb : Below w.heap.size w w') : ReadsRow (Kd.string.K w) Kd.string.sz w' A n xs := by
 obtain ⟨h1, h2, h3⟩ := h; refine ⟨h1, h2, fun hp => ?_⟩; obtain ⟨ad, e, hc⟩ := h3 hp; refine ⟨ad, e, fun j p hj => ?_⟩; obtain ⟨c, hcl, hk, hcc⟩ := hc j p hj; exact ⟨c, hcl, hk, fun i u hu => (hb.cell (World.block_lt_of_cell? w _ (hcc i u hu))).trans (hcc i u hu)⟩
theorem reads_boxS {w : World} {b : Nat} {m : ByteArray} (h : w.heap[b]? = some (.cells #[.string m] 9 (0, 0))) : ReadsRow (Kd.string.K w) Kd.string.sz w (some ⟨b, 0, none⟩) 1 [m] := by
 refine ⟨rfl, by omega, fun _ => ⟨_, rfl, fun j p hj => ?_⟩⟩; have hj0 : j = 0 := by have := (List.getElem?_eq_some_iff.1 hj).1; simpa using this
 subst hj0; obtain rfl : m = p := by simpa using hj
 refine ⟨[.string m], rfl, rfl, fun i u hu => ?_⟩; rw [Addr.add_lit]; refine (blk_cell h _).trans ?_; have hz : (0 : Nat) + (0 * Kd.string.sz + i) = i := by omega
 first
  | (simpa using hu)
  | (rw [hz]; simpa using hu)
theorem nameA {P : Program} {md : Region.Mode} {ops : Array Oper} {Q : Exit → Act → World → Prop} {S : World → Prop} {ds : List Nat} {fuel : Nat} {l : Array Bool} {a : Act} {w : World} (h : ∀ a0, a = a0 → wpAnyLast P md ops Q S ds fuel l a0 w) : wpAnyLast P md ops Q S ds fuel l a w := h a rfl
set_option maxHeartbeats 16000000 in
set_option maxRecDepth 100000 in
theorem F49.calls (A0 : Option Addr) (c0 : Nat) (l0 : List Ln) (r : List ByteArray) (w : World) (hr0 : Kd.C k24 w A0 l0.length l0) (hc0 : l0.length ≤ c0) (h : F49.f l0 = some r) :
  Calls Tryd.prog 49 #[.slice A0 l0.length c0] w fun e w' => ∃ v0_ : Value, e = .returned v0_ ∧ Kd.R Kd.string 9 w' w.heap.size (fun _ => True) v0_ r ∧ Below w.heap.size w w' := by
 have HR0 := Aside0.mk hr0; have HC0 := Aside0.mk hc0; clear hr0 hc0
 unfold F49.f at h
 by_cases cN : l0.length ≤ 1000000
 rotate_left
 ·rw [if_neg cN] at h; cases h
 rw [if_pos cN] at h; have HL := Aside0.mk (Option.some.inj h); have HN := Aside0.mk cN; clear h cN; have HB := Aside0.mk (Below.refl w.heap.size w); go_enter Tryd.func49, Tryd.ntmps49
 go_wp2
 go_loopg [3, 4] l0.length (fun kq v3 v4 w' => ∃ (j : Nat) (o : List ByteArray), v4 = .int .i64 (j : Int) ∧ Aside0 (j + kq = l0.length) ∧ Aside0 ((l0.drop j).foldl (fun o x => insC o x.f1) o = r) ∧ Aside0 (o.length ≤ j) ∧ Aside0 (Kd.R Kd.string 9 w' w.heap.size (fun _ => True) v3 o) ∧ Aside0 (Below w.heap.size w w'))
 case atStart => exact ⟨0, [], rfl, ⟨by omega⟩, HL, ⟨Nat.le_refl _⟩, ⟨Kd.R_nil _ _ _ _ _⟩, HB⟩
 case round =>
  clear HL HB; obtain ⟨j, o, rfl, HJ, H, HO1, HO, HB⟩ := hrel
  cases gk with
  | zero =>
   have hj0 : l0.drop j = [] := List.drop_eq_nil_of_le (by have := HJ.out; omega); have H1 := H.out; rw [hj0] at H1; simp only [List.foldl_nil] at H1; subst H1; have hjb : decide ((j : Int) < (l0.length : Int)) = false := decide_eq_false (by have := HJ.out; omega); have hjn : ¬ j < l0.length := by have := HJ.out; omega
   have hjd : decide (j < l0.length) = false := decide_eq_false hjn; clear hj0
   go_wp2
   go_ret
   exact ⟨u3, rfl, HO.out, HB.out⟩
  | succ k1 =>
   have hj : j < l0.length := by have := HJ.out; omega
   have hjb : decide ((j : Int) < (l0.length : Int)) = true := decide_eq_true (by omega); have hjd : decide (j < l0.length) = true := decide_eq_true hj; have hj2 : (j : Int) + 1 ≤ 1000001 := by have := HN.out; omega
   have p1 : 0 ≤ (j : Int) := by omega
   have qj : (j : Int) < (l0.length : Int) := by omega
   obtain ⟨ad0, A6, c6, e1, hx0, hx1, hx2, hx3, hx4, hx5, hx6, hc6, hC6⟩ := at_T24 HR0.out (j : Int) p1 qj
   cases e1
   have hrd : rd_T24 l0 (j : Int) = l0[j] := by simp [rd_T24, hj]
   have H1 := H.out; clear H hx0 hx2 hx3 hx4 hx5 hx6 hc6 hC6; rw [List.drop_eq_getElem_cons hj] at H1; simp only [List.foldl_cons] at H1; rw [hrd] at hx1; obtain ⟨m, hm⟩ : ∃ m, l0[j].f1 = m := ⟨_, rfl⟩; rw [hm] at H1 hx1; clear hm hrd hj; replace p1 := eq_true p1; replace qj := eq_true qj; simp only [Int.toNat_natCast] at hx1; have HX1 := Aside0.mk hx1; have H' := Aside0.mk H1; clear H1 hx1; obtain ⟨A2, c2, rfl, hcc, hC⟩ := Kd.R_reads HO.out; have HCC := Aside0.mk hcc; have HOn : Aside0 (o.length ≤ 1000000) := ⟨by have := HO1.out; have := HN.out; have := HJ.out; omega⟩; have HCo := Aside0.mk hC; clear hcc hC; obtain ⟨pos, hpos⟩ : ∃ q, cpos m o = q := ⟨_, rfl⟩; have HP := Aside0.mk hpos; have HPL : Aside0 (pos ≤ o.length) := ⟨by rw [← hpos]; exact cpos_le _ _⟩; clear hpos
   go_upto_block 2 with (fail)
   go_cut [5] (fun v5 wc => v5 = .int .i64 (pos : Int) ∧ Aside0 (Kd.R Kd.string 9 wc w.heap.size (fun _ => True) (.slice A2 o.length c2) o) ∧ Aside0 (Below w.heap.size w wc))
   case first =>
    go_wp2
    go_loopg [5] o.length (fun kq v5 w' => ∃ i : Nat, v5 = .int .i64 (i : Int) ∧ Aside0 (i + kq = o.length ∧ i ≤ pos) ∧ Aside0 (Kd.R Kd.string 9 w' w.heap.size (fun _ => True) (.slice A2 o.length c2) o) ∧ Aside0 (Below w.heap.size w w'))
    case atStart => exact ⟨0, rfl, ⟨by omega, by omega⟩, HO, HB⟩
    case round =>
     clear HCo HB HO; obtain ⟨i, rfl, HI, HO, HB⟩ := hrel; have hi1 := (HB.out.cell (World.block_lt_of_cell? w _ HX1.out)).trans HX1.out
     by_cases ci : i < pos
     ·have hil : i < o.length := by have := HPL.out; omega
      have hlb : decide ((i : Int) < (o.length : Int)) = true := decide_eq_true (by omega); have hld : decide (i < o.length) = true := decide_eq_true hil; have q0 : 0 ≤ (i : Int) := by omega
      have q1 : (i : Int) < (o.length : Int) := by omega
      have q2 : (i : Int) + 1 ≤ 1000001 := by have := HOn.out; omega
      obtain ⟨ay, ey, hy⟩ := Kd.at_string (Kd.R_reads' HO.out).2.2 (i : Int) q0 q1
      cases ey
      have hrd : rdOf ByteArray.empty o (i : Int) = o[i] := by simp [rdOf, hil]
      have hless := cpos_lt m o i hil (by rw [HP.out]; exact ci); rw [hrd] at hy; simp only [Int.toNat_natCast] at hy; obtain ⟨y, hyy⟩ : ∃ y, o[i] = y := ⟨_, rfl⟩; rw [hyy] at hy hless; clear hyy hrd; replace q0 := eq_true q0; replace q1 := eq_true q1
      cases gk with
      | zero => exact absurd HI.out.1 (by omega)
      | succ k2 =>
       have HI2 : Aside0 (i + 1 + k2 = o.length ∧ i + 1 ≤ pos) := ⟨by have := HI.out; omega⟩
       go_wp2
       repeat (go_quiet (fail); try go_wp2)
       go_roundg k2
       case measure => omega
       case rel => exact ⟨i + 1, by go_num, HI2, ⟨Kd.R_drewN HO.out _⟩, ⟨pw_below_drewN HB.out _⟩⟩
     ·have hip : i = pos := by have := HI.out; omega
      subst hip
      by_cases cl : i < o.length
      ·have hlb : decide ((i : Int) < (o.length : Int)) = true := decide_eq_true (by omega); have hld : decide (i < o.length) = true := decide_eq_true cl; have q0 : 0 ≤ (i : Int) := by omega
       have q1 : (i : Int) < (o.length : Int) := by omega
       obtain ⟨ay, ey, hy⟩ := Kd.at_string (Kd.R_reads' HO.out).2.2 (i : Int) q0 q1
       cases ey
       have hrd : rdOf ByteArray.empty o (i : Int) = o[i] := by simp [rdOf, cl]
       have hless : Op.bytesLess o[i].toList m.toList = false := by
        have h9 := cpos_at m o (by rw [HP.out]; exact cl); simp only [HP.out] at h9; exact h9
       rw [hrd] at hy; simp only [Int.toNat_natCast] at hy; obtain ⟨y, hyy⟩ : ∃ y, o[i] = y := ⟨_, rfl⟩; rw [hyy] at hy hless; clear hyy hrd; replace q0 := eq_true q0; replace q1 := eq_true q1
       go_wp2
       repeat (go_quiet (fail); try go_wp2)
       go_meet
       case rel => exact ⟨rfl, ⟨Kd.R_drewN HO.out _⟩, ⟨pw_below_drewN HB.out _⟩⟩
      ·have hlb : decide ((i : Int) < (o.length : Int)) = false := decide_eq_false (by omega); have hld : decide (i < o.length) = false := decide_eq_false cl
       go_wp2
       repeat (go_quiet (fail); try go_wp2)
       go_meet
       case rel => exact ⟨rfl, ⟨Kd.R_drewN HO.out _⟩, ⟨pw_below_drewN HB.out _⟩⟩
   case rest =>
    clear HCo HB HO; obtain ⟨rfl, HO, HB⟩ := hcut; have hi1 := (HB.out.cell (World.block_lt_of_cell? w _ HX1.out)).trans HX1.out; have hno : (o.length : Int) ≤ 1000000 := by have := HOn.out; omega
    by_cases cs : o[pos]? = some m
    ·obtain ⟨hpl, hpe⟩ := List.getElem?_eq_some_iff.1 cs; have hins : insC o m = o := by unfold insC; rw [HP.out, if_pos cs]
     have he1 : ((pos : Int) == (o.length : Int)) = false := beq_eq_false_iff_ne.2 (by omega); have he2 : (pos == o.length) = false := beq_eq_false_iff_ne.2 (by omega); have he3 : decide (pos = o.length) = false := decide_eq_false (by omega); have q0 : 0 ≤ (pos : Int) := by omega
     have q1 : (pos : Int) < (o.length : Int) := by omega
     obtain ⟨ay, ey, hy⟩ := Kd.at_string (Kd.R_reads' HO.out).2.2 (pos : Int) q0 q1
     cases ey
     have hrd : rdOf ByteArray.empty o (pos : Int) = m := by simp [rdOf, hpl, hpe]
     rw [hrd] at hy; simp only [Int.toNat_natCast] at hy; replace q0 := eq_true q0; replace q1 := eq_true q1; clear hrd hpe cs
     go_wp2
     repeat (go_quiet (fail); try go_wp2)
     go_roundg k1
     case measure => omega
     case rel => exact ⟨j + 1, o, by go_num, ⟨by have := HJ.out; omega⟩, ⟨by have h9 := H'.out; rw [hins] at h9; exact h9⟩, ⟨by have := HO1.out; omega⟩, ⟨Kd.R_drewN HO.out _⟩, ⟨pw_below_drewN HB.out _⟩⟩
    ·have hins : insC o m = o.take pos ++ m :: o.drop pos := by unfold insC; rw [HP.out, if_neg cs]
     have Hcs := Aside0.mk cs; have HIns := Aside0.mk hins; clear hins
     have two : (pos = o.length ∧ True) ∨ (pos < o.length ∧ True) := by
      rcases Nat.lt_or_ge pos o.length with h | h
      ·exact .inr ⟨h, trivial⟩
      ·exact .inl ⟨Nat.le_antisymm HPL.out h, trivial⟩
     rcases two with ⟨ce, _⟩ | ⟨ce, _⟩
     ·have he1 : ((pos : Int) == (o.length : Int)) = true := beq_iff_eq.2 (by omega); have he2 : (pos == o.length) = true := beq_iff_eq.2 (by omega); have he3 : decide (pos = o.length) = true := decide_eq_true (by omega); clear cs ce
      go_wp2
      repeat (go_quiet (fail); try go_wp2)
      refine nameW ?_; intro W hW; have HBW : Aside0 (Below w.heap.size w W) := ⟨by rw [← hW]; exact pw_below_drewN HB.out _⟩; have HOW : Aside0 (Kd.R Kd.string 9 W w.heap.size (fun _ => True) (.slice A2 o.length c2) o) := ⟨by rw [← hW]; exact Kd.R_drewN HO.out _⟩; have HCoW : Aside0 (Kd.C Kd.string W A2 o.length o) := ⟨(Kd.R_reads' HOW.out).2.2⟩; have hj1 := (HBW.out.cell (World.block_lt_of_cell? w _ HX1.out)).trans HX1.out; clear hW; have hn1 : pos ≤ o.length := HPL.out; have hn2 : pos ≤ c2 := Nat.le_trans HPL.out HCC.out; have htl : (o.take pos).length = pos := by rw [List.length_take]; omega
      have hdl : (o.drop pos).length = o.length - pos := List.length_drop; have HCt := Aside0.mk (Kd.C_take HCoW.out hn1); have HCd := Aside0.mk (Kd.C_drop (m := pos) (c := c2) HCoW.out hn1 HCC.out); refine start_ (n := 17) (S := fun w' => Below W.heap.size W w') (ds := []) (bq 17 0) (by kernel_rfl) rfl rfl (below_drew (Below.refl W.heap.size W)) (fun hHeld => ?_); refine pure_ (i := 1) (N := some 47) (v := ?_) (a' := ?_) (bq 17 2) rfl rfl (by kernel_rfl) (fun _ _ _ h => h) (Or.inl ⟨by rfl, ?_⟩) ?_ ?_; rotate_left
      ·intro w'; go_simp; with_reducible rfl
      rotate_left
      ·exact cbb2_0
      refine pure_ (i := 2) (N := some 48) (v := ?_) (a' := ?_) (bq 17 6) rfl rfl (by kernel_rfl) (fun _ _ _ h => h) (Or.inl ⟨by rfl, ?_⟩) ?_ ?_; rotate_left
      ·intro w'; go_simp; with_reducible rfl
      rotate_left
      ·exact cbb2_0
      refine pure_ (i := 3) (N := some 49) (v := ?_) (a' := ?_) (bq 17 14) rfl rfl (by kernel_rfl) (fun _ _ _ h => h) (Or.inl ⟨by rfl, ?_⟩) ?_ ?_; rotate_left
      ·intro w'; go_simp; with_reducible rfl
      rotate_left
      ·exact cbb2_0
      refine pure_ (i := 5) (N := some 51) (v := ?_) (a' := ?_) (bq 17 46) rfl rfl (by kernel_rfl) (fun _ _ _ h => h) (Or.inl ⟨by rfl, ?_⟩) ?_ ?_; rotate_left
      ·intro w'; go_simp; with_reducible rfl
      rotate_left
      ·exact cbb2_0
      refine pure_ (i := 6) (N := some 52) (v := ?_) (a' := ?_) (bq 17 110) rfl rfl (by kernel_rfl) (fun _ _ _ h => h) (Or.inl ⟨by rfl, ?_⟩) ?_ ?_; rotate_left
      ·intro w'; go_simp; with_reducible rfl
      rotate_left
      ·exact cbb2_0
      refine pure_ (i := 7) (N := some 53) (v := ?_) (a' := ?_) (bq 17 238) rfl rfl (by kernel_rfl) (fun _ _ _ h => h) (Or.inl ⟨by rfl, ?_⟩) ?_ ?_; rotate_left
      ·intro w'; go_simp; with_reducible rfl
      rotate_left
      ·exact cbb2_0
      refine pure_ (i := 8) (N := some 54) (v := ?_) (a' := ?_) (bq 17 494) rfl rfl (by kernel_rfl) (fun _ _ _ h => h) (Or.inl ⟨by rfl, ?_⟩) ?_ ?_; rotate_left
      ·intro w'; go_simp; with_reducible rfl
      rotate_left
      ·exact cbb2_0
      refine take_ (i := 9) (N := some 55) (v := ?_) (a' := ?_) (bq 17 1006) rfl rfl (by kernel_rfl) (fun _ _ _ h => h) (Or.inl ⟨by rfl, ?_⟩) hHeld ?_ ?_; rotate_left
      ·rintro w' s0; have k1 := (s0.cell (World.block_lt_of_cell? W _ hj1)).trans hj1; go_simp; with_reducible rfl
      rotate_left
      ·exact cbb2_0
      refine pure_ (i := 12) (N := some 58) (v := ?_) (a' := ?_) (bq 17 5102) rfl rfl (by kernel_rfl) (fun _ _ _ h => h) (Or.inl ⟨by rfl, ?_⟩) ?_ ?_; rotate_left
      ·intro w'; go_simp; with_reducible rfl
      rotate_left
      ·exact cbb2_0
      refine pure_ (i := 13) (N := some 59) (v := ?_) (a' := ?_) (bq 17 13294) rfl rfl (by kernel_rfl) (fun _ _ _ h => h) (Or.inl ⟨by rfl, ?_⟩) ?_ ?_; rotate_left
      ·intro w'; go_simp; with_reducible rfl
      rotate_left
      ·exact cbb2_0
      refine pure_ (i := 14) (N := some 60) (v := ?_) (a' := ?_) (bq 17 29678) rfl rfl (by kernel_rfl) (fun _ _ _ h => h) (Or.inl ⟨by rfl, ?_⟩) ?_ ?_; rotate_left
      ·intro w'; go_simp; with_reducible rfl
      rotate_left
      ·exact cbb2_0
      have HS := Aside0.mk hHeld; generalize W.drew = w0 at hHeld HS ⊢; refine nameA ?_; intro a0 ha0; refine join_ (σ := Value × Value × Nat) 3 (bq 17 30719) (fun (s : Value × Value × Nat) => [(46, s.1), (50, s.2.1), (56, .slice (some ⟨s.2.2, 0, none⟩) 1 1)]) (fun (s : Value × Value × Nat) w' => Kd.string.R 9 w' W.heap.size (fun k => k ≠ s.2.2) s.2.1 (o.take pos) ∧ w'.heap[s.2.2]? = some (.cells #[.string m] 9 (0, 0)) ∧ W.heap.size ≤ s.2.2 ∧ Below W.heap.size W w') ?_ ?_; rotate_left
      ·intro hj; rw [← ha0]; refine two_ (i := 0) (j := 10) (Ni := some 46) (Nj := some 56) (bq 17 29679) (bq 17 30702) rfl rfl rfl rfl (by kernel_rfl) (by decide) (by decide) (fun K hK => ?_) (fun K hK => ?_)
       ·-- the literal first
        refine Kd.R_lit_step Kd.string (w0 := W) W.heap.size 9 (by rfl) (N := 46) rfl (xs := []) (inner := []) (okp := fun _ => False) (ok := (fun _ => True)) pbb5_4 ⟨rfl, fun j q hq => by simp at hq⟩ (fun _ hk => hk.elim) trivial HS.out HS.out.size (by simp) ?_; intro v60 w60 ho hb hg hat; refine hK.out _ _ hb (fun _ => ?_); clear hK K; have H60 := Aside0.mk ho; have HS := Aside0.mk hb; clear ho hb hg hat; refine norm_ (a' := ?_) ?_ ?_; rotate_left
        ·show Act.put _ (some 46) _ = _; simp only [Act.put, List.setIfInBounds_toArray, List.set_cons_zero, List.set_cons_succ, i64_w, i32_w]
         rfl
        refine two_ (i := 4) (j := 10) (Ni := some 50) (Nj := some 56) (bq 17 29695) (bq 17 30703) rfl rfl rfl rfl (by kernel_rfl) (by decide) (by decide) (fun K hK => ?_) (fun K hK => ?_)
        ·refine Kd.R_append_rows_step Kd.string (w0 := W) (Rr := Kd.string.K W) W.heap.size (by rfl) (.tmp 46) (.tmp 49) 69 9 (.string ⟨#[]⟩) 16 rfl Tryd.underlying69 info9s rfl (by decide) (by omega) v60 [] (o.take pos) A2 (o.take pos).length c2 (fun _ => True) (fun _ => False) rfl (by rw [htl]; rfl) H60.out ?hR (fun y cs hy => str_flat _ _ _ _ _ (Kd.string.K_below HS.out hy)) (fun _ hk => hk.elim) (fun _ _ => trivial) HS.out HS.out.size pbb5_5 ?_
         case hR => exact reads_belowS HCt.out HS.out
         intro v64 w64 ho hb hg hat; refine hK.out _ _ hb (fun _ => ?_); clear hK K; have H64 := Aside0.mk ho; have HS := Aside0.mk hb; clear ho hb hg hat; refine norm_ (a' := ?_) ?_ ?_; rotate_left
         ·show Act.put _ (some 50) _ = _; simp only [Act.put, List.setIfInBounds_toArray, List.set_cons_zero, List.set_cons_succ, i64_w, i32_w]
          rfl
         refine one_ (i := 10) (N := some 56) (bq 17 30719) rfl rfl (by kernel_rfl) (by decide) (fun K hK => ?_); refine value_ (w1 := w64.alloc (.cells #[.string m] 9)) (v := .slice (some ⟨w64.heap.size, 0, none⟩) 1 1) (by rfl) rfl pbb5_4 ?_; refine hK.out _ _ (HS.out.alloc HS.out.size _) (fun _ => ?_); clear hK K; have HS9 := Aside0.mk (HS.out.alloc HS.out.size (.cells #[.string m] 9)); refine norm_ (a' := putAll a0 ((fun (s : Value × Value × Nat) => [(46, s.1), (50, s.2.1), (56, .slice (some ⟨s.2.2, 0, none⟩) 1 1)]) (v60, v64, w64.heap.size))) (by rw [← ha0]; rfl) (hj (v60, v64, w64.heap.size) _ ⟨?_, blk_new w64 _, HS.out.size, HS9.out⟩); exact Kd.R_alloc (Kd.R_mono (ok' := fun k => k ≠ w64.heap.size) (Kd.R_bound H64.out) (fun k hk e => by have := hk.2.2.1; omega)) _
        ·refine value_ (w1 := w60.alloc (.cells #[.string m] 9)) (v := .slice (some ⟨w60.heap.size, 0, none⟩) 1 1) (by rfl) rfl pbb5_4 ?_; refine hK.out _ _ (HS.out.alloc HS.out.size _) (fun _ => ?_); clear hK K; have HB9 := Aside0.mk (blk_new w60 (.cells #[.string m] 9)); have HS9 := Aside0.mk (HS.out.alloc HS.out.size (.cells #[.string m] 9)); have H60' := Aside0.mk (Kd.R_alloc (Kd.R_mono (ok' := fun k => k ≠ w60.heap.size) (Kd.R_bound H60.out) (fun k hk e => by have := hk.2.2.1; omega)) (.cells #[.string m] 9)); have HL9 := Aside0.mk HS.out.size; obtain ⟨b9, hb9⟩ : ∃ b, w60.heap.size = b := ⟨_, rfl⟩; generalize w60.alloc (.cells #[.string m] 9) = w69 at HB9 HS9 H60' ⊢; rw [hb9] at HB9 H60' HL9 ⊢; clear HS hb9 H60; have HS := HS9; clear HS9; refine norm_ (a' := ?_) ?_ ?_; rotate_left
         ·show Act.put _ (some 56) _ = _; simp only [Act.put, List.setIfInBounds_toArray, List.set_cons_zero, List.set_cons_succ, i64_w, i32_w]
          rfl
         refine one_ (i := 4) (N := some 50) (bq 17 30719) rfl rfl (by kernel_rfl) (by decide) (fun K hK => ?_); refine Kd.R_append_rows_step Kd.string (w0 := W) (Rr := Kd.string.K W) W.heap.size (by rfl) (.tmp 46) (.tmp 49) 69 9 (.string ⟨#[]⟩) 16 rfl Tryd.underlying69 info9s rfl (by decide) (by omega) v60 [] (o.take pos) A2 (o.take pos).length c2 (fun k => k ≠ b9) (fun _ => False) rfl (by rw [htl]; rfl) H60'.out ?hR (fun y cs hy => str_flat _ _ _ _ _ (Kd.string.K_below HS.out hy)) (fun _ hk => hk.elim) (fun k hk e => by have := blk_lt HB9.out; omega) HS.out HS.out.size pbb5_5 ?_
         case hR => exact reads_belowS HCt.out HS.out
         intro v64 w64 ho hb hg hat; refine hK.out _ _ hb (fun _ => ?_); clear hK K; rw [List.nil_append] at ho; refine norm_ (a' := putAll a0 ((fun (s : Value × Value × Nat) => [(46, s.1), (50, s.2.1), (56, .slice (some ⟨s.2.2, 0, none⟩) 1 1)]) (v60, v64, b9))) (by rw [← ha0]; rfl) (hj (v60, v64, b9) _ ⟨ho, ?_, HL9.out, hb⟩); exact blk_grown HB9.out hg (fun e => H60'.out.1 _ e.symm rfl)
       ·-- the element first
        refine value_ (w1 := w0.alloc (.cells #[.string m] 9)) (v := .slice (some ⟨w0.heap.size, 0, none⟩) 1 1) (by rfl) rfl pbb5_4 ?_; refine hK.out _ _ (HS.out.alloc HS.out.size _) (fun _ => ?_); clear hK K; have HB9 := Aside0.mk (blk_new w0 (.cells #[.string m] 9)); have HS9 := Aside0.mk (HS.out.alloc HS.out.size (.cells #[.string m] 9)); have HL9 := Aside0.mk HS.out.size; obtain ⟨b9, hb9⟩ : ∃ b, w0.heap.size = b := ⟨_, rfl⟩; generalize w0.alloc (.cells #[.string m] 9) = w69 at HB9 HS9 ⊢; rw [hb9] at HB9 HL9 ⊢; clear HS hb9; have HS := HS9; clear HS9; refine norm_ (a' := ?_) ?_ ?_; rotate_left
        ·show Act.put _ (some 56) _ = _; simp only [Act.put, List.setIfInBounds_toArray, List.set_cons_zero, List.set_cons_succ, i64_w, i32_w]
         rfl
        refine one_ (i := 0) (N := some 46) (bq 17 30703) rfl rfl (by kernel_rfl) (by decide) (fun K hK => ?_); refine Kd.R_lit_step Kd.string (w0 := W) W.heap.size 9 (by rfl) (N := 46) rfl (xs := []) (inner := []) (okp := fun _ => False) (ok := (fun k => k ≠ b9)) pbb5_4 ⟨rfl, fun j q hq => by simp at hq⟩ (fun _ hk => hk.elim) (by have := blk_lt HB9.out; intro e; rw [e] at this; exact absurd this (Nat.lt_irrefl _)) HS.out HS.out.size (by simp) ?_; intro v60 w60 ho hb hg hat; refine hK.out _ _ hb (fun _ => ?_); clear hK K; have H60 := Aside0.mk ho; have HB9' := Aside0.mk (blk_grown HB9.out hg (by simp)); have HS' := Aside0.mk hb; clear ho hb hg hat HB9 HS; have HB9 := HB9'; have HS := HS'; clear HB9' HS'; refine norm_ (a' := ?_) ?_ ?_; rotate_left
        ·show Act.put _ (some 46) _ = _; simp only [Act.put, List.setIfInBounds_toArray, List.set_cons_zero, List.set_cons_succ, i64_w, i32_w]
         rfl
        refine one_ (i := 4) (N := some 50) (bq 17 30719) rfl rfl (by kernel_rfl) (by decide) (fun K hK => ?_); refine Kd.R_append_rows_step Kd.string (w0 := W) (Rr := Kd.string.K W) W.heap.size (by rfl) (.tmp 46) (.tmp 49) 69 9 (.string ⟨#[]⟩) 16 rfl Tryd.underlying69 info9s rfl (by decide) (by omega) v60 [] (o.take pos) A2 (o.take pos).length c2 (fun k => k ≠ b9) (fun _ => False) rfl (by rw [htl]; rfl) H60.out ?hR (fun y cs hy => str_flat _ _ _ _ _ (Kd.string.K_below HS.out hy)) (fun _ hk => hk.elim) (fun k hk e => by have := blk_lt HB9.out; omega) HS.out HS.out.size pbb5_5 ?_
        case hR => exact reads_belowS HCt.out HS.out
        intro v64 w64 ho hb hg hat; refine hK.out _ _ hb (fun _ => ?_); clear hK K; rw [List.nil_append] at ho; refine norm_ (a' := putAll a0 ((fun (s : Value × Value × Nat) => [(46, s.1), (50, s.2.1), (56, .slice (some ⟨s.2.2, 0, none⟩) 1 1)]) (v60, v64, b9))) (by rw [← ha0]; rfl) (hj (v60, v64, b9) _ ⟨ho, ?_, HL9.out, hb⟩); exact blk_grown HB9.out hg (fun e => H60.out.1 _ e.symm rfl)
      rintro ⟨v60, v64, b9⟩ w9 ⟨hr9, hb9, hl9, hs9⟩
      dsimp only at hr9 hb9 hl9
      have HR9 := Aside0.mk hr9; have HB9 := Aside0.mk hb9; have HS := Aside0.mk hs9; clear hr9 hb9 hl9 hs9; rw [← ha0]; clear ha0; refine norm_ (a' := ?_) ?_ ?_; rotate_left
      ·simp only [putAll, Act.put, List.setIfInBounds_toArray, List.set_cons_zero, List.set_cons_succ]
       rfl
      refine one_ (i := 11) (N := some 57) (bq 17 32767) rfl rfl (by kernel_rfl) (by decide) (fun K hK => ?_); refine Kd.R_append_rows_step Kd.string (w0 := W) (Rr := Kd.string.K w9) W.heap.size (by rfl) (.tmp 50) (.tmp 56) 69 9 (.string ⟨#[]⟩) 16 rfl Tryd.underlying69 info9s rfl (by decide) (by omega) v64 (o.take pos) [m] (some ⟨b9, 0, none⟩) 1 1 (fun k => k ≠ b9) (fun _ => False) rfl rfl HR9.out (reads_boxS HB9.out) (fun y cs hy => str_flat _ _ _ _ _ hy) (fun _ hk => hk.elim) (fun k hk e => by have := blk_lt HB9.out; omega) HS.out HS.out.size (by rw [htl]; omega) ?_; intro v70 w70 ho hb hg hat; refine hK.out _ _ hb (fun _ => ?_); clear hK K; have HLT : Aside0 (b9 < w70.heap.size) := ⟨Nat.lt_of_lt_of_le (blk_lt HB9.out) hg.size⟩; have HR9' := Aside0.mk ho; have HS9 := Aside0.mk hb; clear ho hb hg hat HS; refine norm_ (a' := ?_) ?_ ?_; rotate_left
      ·show Act.put _ (some 57) _ = _; simp only [Act.put, List.setIfInBounds_toArray, List.set_cons_zero, List.set_cons_succ, i64_w, i32_w]
       rfl
      refine one_ (i := 15) (N := some 61) (bq 17 65535) rfl rfl (by kernel_rfl) (by decide) (fun K hK => ?_); refine Kd.R_append_rows_step Kd.string (w0 := W) (Rr := Kd.string.K W) W.heap.size (by rfl) (.tmp 57) (.tmp 60) 69 9 (.string ⟨#[]⟩) 16 rfl Tryd.underlying69 info9s rfl (by decide) (by omega) v70 (o.take pos ++ [m]) (o.drop pos) _ (o.drop pos).length (c2 - pos) (fun k => k ≠ b9) (fun _ => False) rfl (by rw [hdl]; rfl) HR9'.out ?hR (fun y cs hy => str_flat _ _ _ _ _ (Kd.string.K_below HS9.out hy)) (fun _ hk => hk.elim) ?hF HS9.out HS9.out.size (by simp only [List.length_append, List.length_singleton]; rw [htl, hdl]; omega) ?_
      case hR => first | exact reads_belowS HCd.out HS9.out | (have h9 := reads_belowS HCd.out HS9.out; simpa [show Kd.string.sz = 1 from rfl] using h9)
      case hF => exact fun k hk e => by have := HLT.out; omega
      intro v74 w74 ho hb hg hat; refine hK.out _ _ hb (fun _ => ?_); clear hK K; rw [List.append_assoc, List.singleton_append] at ho; have HR14 := Aside0.mk (Kd.R_mono (ok' := fun _ => True) ho (fun _ _ => trivial)); have HS14 := Aside0.mk hb; clear ho hb hg hat HR9' HS9; refine norm_ (a' := ?_) ?_ ?_; rotate_left
      ·show Act.put _ (some 61) _ = _; simp only [Act.put, List.setIfInBounds_toArray, List.set_cons_zero, List.set_cons_succ, i64_w, i32_w]
       rfl
      refine pure_ (i := 16) (N := some 3) (v := ?_) (a' := ?_) (bq 17 131071) rfl rfl (by kernel_rfl) (fun _ _ _ h => h) (Or.inl ⟨by rfl, ?_⟩) ?_ ?_; rotate_left
      ·intro w'; go_simp; with_reducible rfl
      rotate_left
      ·exact cbb2_0
      refine done_ (by kernel_rfl) ?_; go_simp
      repeat go_step
      all_goals
       go_roundg k1
       case measure => omega
       case rel => exact ⟨j + 1, insC o m, by go_num, ⟨by have := HJ.out; omega⟩, H', ⟨by have := insC_length o m; have := HO1.out; omega⟩, ⟨Kd.R_lower (by rw [HIns.out]; exact HR14.out) HBW.out.size⟩, ⟨below_then HBW.out HBW.out.size HS14.out⟩⟩
     ·have he1 : ((pos : Int) == (o.length : Int)) = false := beq_eq_false_iff_ne.2 (by omega); have he2 : (pos == o.length) = false := beq_eq_false_iff_ne.2 (by omega); have he3 : decide (pos = o.length) = false := decide_eq_false (by omega); have q0 : 0 ≤ (pos : Int) := by omega
      have q1 : (pos : Int) < (o.length : Int) := by omega
      obtain ⟨ay, ey, hy⟩ := Kd.at_string (Kd.R_reads' HO.out).2.2 (pos : Int) q0 q1
      cases ey
      have hrd : rdOf ByteArray.empty o (pos : Int) = o[pos] := by simp [rdOf, ce]
      have hne : ¬ o[pos] = m := fun e => cs (by rw [List.getElem?_eq_getElem ce, e]); rw [hrd] at hy; simp only [Int.toNat_natCast] at hy; obtain ⟨y, hyy⟩ : ∃ y, o[pos] = y := ⟨_, rfl⟩; rw [hyy] at hy hne; have hse : (y.toList == m.toList) = false := beq_eq_false_iff_ne.2 (fun e => hne (bytes_injC.1 e)); replace q0 := eq_true q0; replace q1 := eq_true q1; clear hrd cs ce hyy hne
      go_wp2
      repeat (go_quiet (fail); try go_wp2)
      refine nameW ?_; intro W hW; have HBW : Aside0 (Below w.heap.size w W) := ⟨by rw [← hW]; exact pw_below_drewN HB.out _⟩; have HOW : Aside0 (Kd.R Kd.string 9 W w.heap.size (fun _ => True) (.slice (some ay) o.length c2) o) := ⟨by rw [← hW]; exact Kd.R_drewN HO.out _⟩; have HCoW : Aside0 (Kd.C Kd.string W (some ay) o.length o) := ⟨(Kd.R_reads' HOW.out).2.2⟩; have hj1 := (HBW.out.cell (World.block_lt_of_cell? w _ HX1.out)).trans HX1.out; clear hW; have hn1 : pos ≤ o.length := HPL.out; have hn2 : pos ≤ c2 := Nat.le_trans HPL.out HCC.out; have htl : (o.take pos).length = pos := by rw [List.length_take]; omega
      have hdl : (o.drop pos).length = o.length - pos := List.length_drop; have HCt := Aside0.mk (Kd.C_take HCoW.out hn1); have HCd := Aside0.mk (Kd.C_drop (m := pos) (c := c2) HCoW.out hn1 HCC.out); refine start_ (n := 17) (S := fun w' => Below W.heap.size W w') (ds := []) (bq 17 0) (by kernel_rfl) rfl rfl (below_drew (Below.refl W.heap.size W)) (fun hHeld => ?_); refine pure_ (i := 1) (N := some 47) (v := ?_) (a' := ?_) (bq 17 2) rfl rfl (by kernel_rfl) (fun _ _ _ h => h) (Or.inl ⟨by rfl, ?_⟩) ?_ ?_; rotate_left
      ·intro w'; go_simp; with_reducible rfl
      rotate_left
      ·exact cbb2_0
      refine pure_ (i := 2) (N := some 48) (v := ?_) (a' := ?_) (bq 17 6) rfl rfl (by kernel_rfl) (fun _ _ _ h => h) (Or.inl ⟨by rfl, ?_⟩) ?_ ?_; rotate_left
      ·intro w'; go_simp; with_reducible rfl
      rotate_left
      ·exact cbb2_0
      refine pure_ (i := 3) (N := some 49) (v := ?_) (a' := ?_) (bq 17 14) rfl rfl (by kernel_rfl) (fun _ _ _ h => h) (Or.inl ⟨by rfl, ?_⟩) ?_ ?_; rotate_left
      ·intro w'; go_simp; with_reducible rfl
      rotate_left
      ·exact cbb2_0
      refine pure_ (i := 5) (N := some 51) (v := ?_) (a' := ?_) (bq 17 46) rfl rfl (by kernel_rfl) (fun _ _ _ h => h) (Or.inl ⟨by rfl, ?_⟩) ?_ ?_; rotate_left
      ·intro w'; go_simp; with_reducible rfl
      rotate_left
      ·exact cbb2_0
      refine pure_ (i := 6) (N := some 52) (v := ?_) (a' := ?_) (bq 17 110) rfl rfl (by kernel_rfl) (fun _ _ _ h => h) (Or.inl ⟨by rfl, ?_⟩) ?_ ?_; rotate_left
      ·intro w'; go_simp; with_reducible rfl
      rotate_left
      ·exact cbb2_0
      refine pure_ (i := 7) (N := some 53) (v := ?_) (a' := ?_) (bq 17 238) rfl rfl (by kernel_rfl) (fun _ _ _ h => h) (Or.inl ⟨by rfl, ?_⟩) ?_ ?_; rotate_left
      ·intro w'; go_simp; with_reducible rfl
      rotate_left
      ·exact cbb2_0
      refine pure_ (i := 8) (N := some 54) (v := ?_) (a' := ?_) (bq 17 494) rfl rfl (by kernel_rfl) (fun _ _ _ h => h) (Or.inl ⟨by rfl, ?_⟩) ?_ ?_; rotate_left
      ·intro w'; go_simp; with_reducible rfl
      rotate_left
      ·exact cbb2_0
      refine take_ (i := 9) (N := some 55) (v := ?_) (a' := ?_) (bq 17 1006) rfl rfl (by kernel_rfl) (fun _ _ _ h => h) (Or.inl ⟨by rfl, ?_⟩) hHeld ?_ ?_; rotate_left
      ·rintro w' s0; have k1 := (s0.cell (World.block_lt_of_cell? W _ hj1)).trans hj1; go_simp; with_reducible rfl
      rotate_left
      ·exact cbb2_0
      refine pure_ (i := 12) (N := some 58) (v := ?_) (a' := ?_) (bq 17 5102) rfl rfl (by kernel_rfl) (fun _ _ _ h => h) (Or.inl ⟨by rfl, ?_⟩) ?_ ?_; rotate_left
      ·intro w'; go_simp; with_reducible rfl
      rotate_left
      ·exact cbb2_0
      refine pure_ (i := 13) (N := some 59) (v := ?_) (a' := ?_) (bq 17 13294) rfl rfl (by kernel_rfl) (fun _ _ _ h => h) (Or.inl ⟨by rfl, ?_⟩) ?_ ?_; rotate_left
      ·intro w'; go_simp; with_reducible rfl
      rotate_left
      ·exact cbb2_0
      refine pure_ (i := 14) (N := some 60) (v := ?_) (a' := ?_) (bq 17 29678) rfl rfl (by kernel_rfl) (fun _ _ _ h => h) (Or.inl ⟨by rfl, ?_⟩) ?_ ?_; rotate_left
      ·intro w'; go_simp; with_reducible rfl
      rotate_left
      ·exact cbb2_0
      have HS := Aside0.mk hHeld; generalize W.drew = w0 at hHeld HS ⊢; refine nameA ?_; intro a0 ha0; refine join_ (σ := Value × Value × Nat) 3 (bq 17 30719) (fun (s : Value × Value × Nat) => [(46, s.1), (50, s.2.1), (56, .slice (some ⟨s.2.2, 0, none⟩) 1 1)]) (fun (s : Value × Value × Nat) w' => Kd.string.R 9 w' W.heap.size (fun k => k ≠ s.2.2) s.2.1 (o.take pos) ∧ w'.heap[s.2.2]? = some (.cells #[.string m] 9 (0, 0)) ∧ W.heap.size ≤ s.2.2 ∧ Below W.heap.size W w') ?_ ?_; rotate_left
      ·intro hj; rw [← ha0]; refine two_ (i := 0) (j := 10) (Ni := some 46) (Nj := some 56) (bq 17 29679) (bq 17 30702) rfl rfl rfl rfl (by kernel_rfl) (by decide) (by decide) (fun K hK => ?_) (fun K hK => ?_)
       ·-- the literal first
        refine Kd.R_lit_step Kd.string (w0 := W) W.heap.size 9 (by rfl) (N := 46) rfl (xs := []) (inner := []) (okp := fun _ => False) (ok := (fun _ => True)) pbb5_4 ⟨rfl, fun j q hq => by simp at hq⟩ (fun _ hk => hk.elim) trivial HS.out HS.out.size (by simp) ?_; intro v60 w60 ho hb hg hat; refine hK.out _ _ hb (fun _ => ?_); clear hK K; have H60 := Aside0.mk ho; have HS := Aside0.mk hb; clear ho hb hg hat; refine norm_ (a' := ?_) ?_ ?_; rotate_left
        ·show Act.put _ (some 46) _ = _; simp only [Act.put, List.setIfInBounds_toArray, List.set_cons_zero, List.set_cons_succ, i64_w, i32_w]
         rfl
        refine two_ (i := 4) (j := 10) (Ni := some 50) (Nj := some 56) (bq 17 29695) (bq 17 30703) rfl rfl rfl rfl (by kernel_rfl) (by decide) (by decide) (fun K hK => ?_) (fun K hK => ?_)
        ·refine Kd.R_append_rows_step Kd.string (w0 := W) (Rr := Kd.string.K W) W.heap.size (by rfl) (.tmp 46) (.tmp 49) 69 9 (.string ⟨#[]⟩) 16 rfl Tryd.underlying69 info9s rfl (by decide) (by omega) v60 [] (o.take pos) (some ay) (o.take pos).length c2 (fun _ => True) (fun _ => False) rfl (by rw [htl]; rfl) H60.out ?hR (fun y cs hy => str_flat _ _ _ _ _ (Kd.string.K_below HS.out hy)) (fun _ hk => hk.elim) (fun _ _ => trivial) HS.out HS.out.size pbb5_5 ?_
         case hR => exact reads_belowS HCt.out HS.out
         intro v64 w64 ho hb hg hat; refine hK.out _ _ hb (fun _ => ?_); clear hK K; have H64 := Aside0.mk ho; have HS := Aside0.mk hb; clear ho hb hg hat; refine norm_ (a' := ?_) ?_ ?_; rotate_left
         ·show Act.put _ (some 50) _ = _; simp only [Act.put, List.setIfInBounds_toArray, List.set_cons_zero, List.set_cons_succ, i64_w, i32_w]
          rfl
         refine one_ (i := 10) (N := some 56) (bq 17 30719) rfl rfl (by kernel_rfl) (by decide) (fun K hK => ?_); refine value_ (w1 := w64.alloc (.cells #[.string m] 9)) (v := .slice (some ⟨w64.heap.size, 0, none⟩) 1 1) (by rfl) rfl pbb5_4 ?_; refine hK.out _ _ (HS.out.alloc HS.out.size _) (fun _ => ?_); clear hK K; have HS9 := Aside0.mk (HS.out.alloc HS.out.size (.cells #[.string m] 9)); refine norm_ (a' := putAll a0 ((fun (s : Value × Value × Nat) => [(46, s.1), (50, s.2.1), (56, .slice (some ⟨s.2.2, 0, none⟩) 1 1)]) (v60, v64, w64.heap.size))) (by rw [← ha0]; rfl) (hj (v60, v64, w64.heap.size) _ ⟨?_, blk_new w64 _, HS.out.size, HS9.out⟩); exact Kd.R_alloc (Kd.R_mono (ok' := fun k => k ≠ w64.heap.size) (Kd.R_bound H64.out) (fun k hk e => by have := hk.2.2.1; omega)) _
        ·refine value_ (w1 := w60.alloc (.cells #[.string m] 9)) (v := .slice (some ⟨w60.heap.size, 0, none⟩) 1 1) (by rfl) rfl pbb5_4 ?_; refine hK.out _ _ (HS.out.alloc HS.out.size _) (fun _ => ?_); clear hK K; have HB9 := Aside0.mk (blk_new w60 (.cells #[.string m] 9)); have HS9 := Aside0.mk (HS.out.alloc HS.out.size (.cells #[.string m] 9)); have H60' := Aside0.mk (Kd.R_alloc (Kd.R_mono (ok' := fun k => k ≠ w60.heap.size) (Kd.R_bound H60.out) (fun k hk e => by have := hk.2.2.1; omega)) (.cells #[.string m] 9)); have HL9 := Aside0.mk HS.out.size; obtain ⟨b9, hb9⟩ : ∃ b, w60.heap.size = b := ⟨_, rfl⟩; generalize w60.alloc (.cells #[.string m] 9) = w69 at HB9 HS9 H60' ⊢; rw [hb9] at HB9 H60' HL9 ⊢; clear HS hb9 H60; have HS := HS9; clear HS9; refine norm_ (a' := ?_) ?_ ?_; rotate_left
         ·show Act.put _ (some 56) _ = _; simp only [Act.put, List.setIfInBounds_toArray, List.set_cons_zero, List.set_cons_succ, i64_w, i32_w]
          rfl
         refine one_ (i := 4) (N := some 50) (bq 17 30719) rfl rfl (by kernel_rfl) (by decide) (fun K hK => ?_); refine Kd.R_append_rows_step Kd.string (w0 := W) (Rr := Kd.string.K W) W.heap.size (by rfl) (.tmp 46) (.tmp 49) 69 9 (.string ⟨#[]⟩) 16 rfl Tryd.underlying69 info9s rfl (by decide) (by omega) v60 [] (o.take pos) (some ay) (o.take pos).length c2 (fun k => k ≠ b9) (fun _ => False) rfl (by rw [htl]; rfl) H60'.out ?hR (fun y cs hy => str_flat _ _ _ _ _ (Kd.string.K_below HS.out hy)) (fun _ hk => hk.elim) (fun k hk e => by have := blk_lt HB9.out; omega) HS.out HS.out.size pbb5_5 ?_
         case hR => exact reads_belowS HCt.out HS.out
         intro v64 w64 ho hb hg hat; refine hK.out _ _ hb (fun _ => ?_); clear hK K; rw [List.nil_append] at ho; refine norm_ (a' := putAll a0 ((fun (s : Value × Value × Nat) => [(46, s.1), (50, s.2.1), (56, .slice (some ⟨s.2.2, 0, none⟩) 1 1)]) (v60, v64, b9))) (by rw [← ha0]; rfl) (hj (v60, v64, b9) _ ⟨ho, ?_, HL9.out, hb⟩); exact blk_grown HB9.out hg (fun e => H60'.out.1 _ e.symm rfl)
       ·-- the element first
        refine value_ (w1 := w0.alloc (.cells #[.string m] 9)) (v := .slice (some ⟨w0.heap.size, 0, none⟩) 1 1) (by rfl) rfl pbb5_4 ?_; refine hK.out _ _ (HS.out.alloc HS.out.size _) (fun _ => ?_); clear hK K; have HB9 := Aside0.mk (blk_new w0 (.cells #[.string m] 9)); have HS9 := Aside0.mk (HS.out.alloc HS.out.size (.cells #[.string m] 9)); have HL9 := Aside0.mk HS.out.size; obtain ⟨b9, hb9⟩ : ∃ b, w0.heap.size = b := ⟨_, rfl⟩; generalize w0.alloc (.cells #[.string m] 9) = w69 at HB9 HS9 ⊢; rw [hb9] at HB9 HL9 ⊢; clear HS hb9; have HS := HS9; clear HS9; refine norm_ (a' := ?_) ?_ ?_; rotate_left
        ·show Act.put _ (some 56) _ = _; simp only [Act.put, List.setIfInBounds_toArray, List.set_cons_zero, List.set_cons_succ, i64_w, i32_w]
         rfl
        refine one_ (i := 0) (N := some 46) (bq 17 30703) rfl rfl (by kernel_rfl) (by decide) (fun K hK => ?_); refine Kd.R_lit_step Kd.string (w0 := W) W.heap.size 9 (by rfl) (N := 46) rfl (xs := []) (inner := []) (okp := fun _ => False) (ok := (fun k => k ≠ b9)) pbb5_4 ⟨rfl, fun j q hq => by simp at hq⟩ (fun _ hk => hk.elim) (by have := blk_lt HB9.out; intro e; rw [e] at this; exact absurd this (Nat.lt_irrefl _)) HS.out HS.out.size (by simp) ?_; intro v60 w60 ho hb hg hat; refine hK.out _ _ hb (fun _ => ?_); clear hK K; have H60 := Aside0.mk ho; have HB9' := Aside0.mk (blk_grown HB9.out hg (by simp)); have HS' := Aside0.mk hb; clear ho hb hg hat HB9 HS; have HB9 := HB9'; have HS := HS'; clear HB9' HS'; refine norm_ (a' := ?_) ?_ ?_; rotate_left
        ·show Act.put _ (some 46) _ = _; simp only [Act.put, List.setIfInBounds_toArray, List.set_cons_zero, List.set_cons_succ, i64_w, i32_w]
         rfl
        refine one_ (i := 4) (N := some 50) (bq 17 30719) rfl rfl (by kernel_rfl) (by decide) (fun K hK => ?_); refine Kd.R_append_rows_step Kd.string (w0 := W) (Rr := Kd.string.K W) W.heap.size (by rfl) (.tmp 46) (.tmp 49) 69 9 (.string ⟨#[]⟩) 16 rfl Tryd.underlying69 info9s rfl (by decide) (by omega) v60 [] (o.take pos) (some ay) (o.take pos).length c2 (fun k => k ≠ b9) (fun _ => False) rfl (by rw [htl]; rfl) H60.out ?hR (fun y cs hy => str_flat _ _ _ _ _ (Kd.string.K_below HS.out hy)) (fun _ hk => hk.elim) (fun k hk e => by have := blk_lt HB9.out; omega) HS.out HS.out.size pbb5_5 ?_
        case hR => exact reads_belowS HCt.out HS.out
        intro v64 w64 ho hb hg hat; refine hK.out _ _ hb (fun _ => ?_); clear hK K; rw [List.nil_append] at ho; refine norm_ (a' := putAll a0 ((fun (s : Value × Value × Nat) => [(46, s.1), (50, s.2.1), (56, .slice (some ⟨s.2.2, 0, none⟩) 1 1)]) (v60, v64, b9))) (by rw [← ha0]; rfl) (hj (v60, v64, b9) _ ⟨ho, ?_, HL9.out, hb⟩); exact blk_grown HB9.out hg (fun e => H60.out.1 _ e.symm rfl)
      rintro ⟨v60, v64, b9⟩ w9 ⟨hr9, hb9, hl9, hs9⟩
      dsimp only at hr9 hb9 hl9
      have HR9 := Aside0.mk hr9; have HB9 := Aside0.mk hb9; have HS := Aside0.mk hs9; clear hr9 hb9 hl9 hs9; rw [← ha0]; clear ha0; refine norm_ (a' := ?_) ?_ ?_; rotate_left
      ·simp only [putAll, Act.put, List.setIfInBounds_toArray, List.set_cons_zero, List.set_cons_succ]
       rfl
      refine one_ (i := 11) (N := some 57) (bq 17 32767) rfl rfl (by kernel_rfl) (by decide) (fun K hK => ?_); refine Kd.R_append_rows_step Kd.string (w0 := W) (Rr := Kd.string.K w9) W.heap.size (by rfl) (.tmp 50) (.tmp 56) 69 9 (.string ⟨#[]⟩) 16 rfl Tryd.underlying69 info9s rfl (by decide) (by omega) v64 (o.take pos) [m] (some ⟨b9, 0, none⟩) 1 1 (fun k => k ≠ b9) (fun _ => False) rfl rfl HR9.out (reads_boxS HB9.out) (fun y cs hy => str_flat _ _ _ _ _ hy) (fun _ hk => hk.elim) (fun k hk e => by have := blk_lt HB9.out; omega) HS.out HS.out.size (by rw [htl]; omega) ?_; intro v70 w70 ho hb hg hat; refine hK.out _ _ hb (fun _ => ?_); clear hK K; have HLT : Aside0 (b9 < w70.heap.size) := ⟨Nat.lt_of_lt_of_le (blk_lt HB9.out) hg.size⟩; have HR9' := Aside0.mk ho; have HS9 := Aside0.mk hb; clear ho hb hg hat HS; refine norm_ (a' := ?_) ?_ ?_; rotate_left
      ·show Act.put _ (some 57) _ = _; simp only [Act.put, List.setIfInBounds_toArray, List.set_cons_zero, List.set_cons_succ, i64_w, i32_w]
       rfl
      refine one_ (i := 15) (N := some 61) (bq 17 65535) rfl rfl (by kernel_rfl) (by decide) (fun K hK => ?_); refine Kd.R_append_rows_step Kd.string (w0 := W) (Rr := Kd.string.K W) W.heap.size (by rfl) (.tmp 57) (.tmp 60) 69 9 (.string ⟨#[]⟩) 16 rfl Tryd.underlying69 info9s rfl (by decide) (by omega) v70 (o.take pos ++ [m]) (o.drop pos) _ (o.drop pos).length (c2 - pos) (fun k => k ≠ b9) (fun _ => False) rfl (by rw [hdl]; rfl) HR9'.out ?hR (fun y cs hy => str_flat _ _ _ _ _ (Kd.string.K_below HS9.out hy)) (fun _ hk => hk.elim) ?hF HS9.out HS9.out.size (by simp only [List.length_append, List.length_singleton]; rw [htl, hdl]; omega) ?_
      case hR => first | exact reads_belowS HCd.out HS9.out | (have h9 := reads_belowS HCd.out HS9.out; simpa [show Kd.string.sz = 1 from rfl] using h9)
      case hF => exact fun k hk e => by have := HLT.out; omega
      intro v74 w74 ho hb hg hat; refine hK.out _ _ hb (fun _ => ?_); clear hK K; rw [List.append_assoc, List.singleton_append] at ho; have HR14 := Aside0.mk (Kd.R_mono (ok' := fun _ => True) ho (fun _ _ => trivial)); have HS14 := Aside0.mk hb; clear ho hb hg hat HR9' HS9; refine norm_ (a' := ?_) ?_ ?_; rotate_left
      ·show Act.put _ (some 61) _ = _; simp only [Act.put, List.setIfInBounds_toArray, List.set_cons_zero, List.set_cons_succ, i64_w, i32_w]
       rfl
      refine pure_ (i := 16) (N := some 3) (v := ?_) (a' := ?_) (bq 17 131071) rfl rfl (by kernel_rfl) (fun _ _ _ h => h) (Or.inl ⟨by rfl, ?_⟩) ?_ ?_; rotate_left
      ·intro w'; go_simp; with_reducible rfl
      rotate_left
      ·exact cbb2_0
      refine done_ (by kernel_rfl) ?_; go_simp
      repeat go_step
      all_goals
       go_roundg k1
       case measure => omega
       case rel => exact ⟨j + 1, insC o m, by go_num, ⟨by have := HJ.out; omega⟩, H', ⟨by have := insC_length o m; have := HO1.out; omega⟩, ⟨Kd.R_lower (by rw [HIns.out]; exact HR14.out) HBW.out.size⟩, ⟨below_then HBW.out HBW.out.size HS14.out⟩⟩
end Go.Proofs.YtjeecehhcajfaaaDoor.M
end
section
namespace Go.Proofs
open Go.Shelf
def Tryd.laysnx190_ren : Go.Shelf.Ren := ⟨fun | 190 => 73 | 125 => 82 | 258 => 81 | 128 => 97 | 129 => 98 | 302 => 88 | 303 => 89 | 304 => 90 | 305 => 91 | 306 => 92 | 307 => 93 | 308 => 94 | 309 => 95 | 310 => 96 | 333 => 100 | 329 => 101 | 330 => 102 | 334 => 103 | 335 => 104 | 336 => 105 | 344 => 106 | n => n, fun | 31 => 69 | 9 => 9 | 3 => 3 | 46 => 106 | 0 => 0 | 51 => 134 | 53 => 117 | 4 => 4 | 183 => 127 | 182 => 126 | 131 => 82 | 5 => 5 | 218 => 137 | 222 => 141 | 228 => 143 | 229 => 36 | n => n, fun | n => n⟩
theorem Tryd.laysnx190 : Go.Proofs.Lays.n190 Tryd.prog Tryd.laysnx190_ren := {
 mixed := by kernel_rfl
 f125 := Tryd.func82.trans (congrArg some (by kernel_rfl))
 f128 := Tryd.func97.trans (congrArg some (by kernel_rfl))
 f129 := Tryd.func98.trans (congrArg some (by kernel_rfl))
 f190 := Tryd.func73.trans (congrArg some (by kernel_rfl))
 f258 := Tryd.func81.trans (congrArg some (by kernel_rfl))
 f302 := Tryd.func88.trans (congrArg some (by kernel_rfl))
 f303 := Tryd.func89.trans (congrArg some (by kernel_rfl))
 f304 := Tryd.func90.trans (congrArg some (by kernel_rfl))
 f305 := Tryd.func91.trans (congrArg some (by kernel_rfl))
 f306 := Tryd.func92.trans (congrArg some (by kernel_rfl))
 f307 := Tryd.func93.trans (congrArg some (by kernel_rfl))
 f308 := Tryd.func94.trans (congrArg some (by kernel_rfl))
 f309 := Tryd.func95.trans (congrArg some (by kernel_rfl))
 f310 := Tryd.func96.trans (congrArg some (by kernel_rfl))
 f329 := Tryd.func101.trans (congrArg some (by kernel_rfl))
 f330 := Tryd.func102.trans (congrArg some (by kernel_rfl))
 f333 := Tryd.func100.trans (congrArg some (by kernel_rfl))
 f334 := Tryd.func103.trans (congrArg some (by kernel_rfl))
 f335 := Tryd.func104.trans (congrArg some (by kernel_rfl))
 f336 := Tryd.func105.trans (congrArg some (by kernel_rfl))
 f344 := Tryd.func106.trans (congrArg some (by kernel_rfl))
 t0 := Tryd.underlying0
 a0 := Tryd.isAgg0
 z0 := Tryd.sizeOf0
 v0 := Tryd.zeroValue0
 t3 := Tryd.underlying3
 a3 := Tryd.isAgg3
 z3 := Tryd.sizeOf3
 v3 := Tryd.zeroValue3
 t4 := Tryd.underlying4
 a4 := Tryd.isAgg4
 z4 := Tryd.sizeOf4
 v4 := Tryd.zeroValue4
 t5 := Tryd.underlying5
 a5 := Tryd.isAgg5
 z5 := Tryd.sizeOf5
 v5 := Tryd.zeroValue5
 t9 := Tryd.underlying9
 a9 := Tryd.isAgg9
 z9 := Tryd.sizeOf9
 v9 := Tryd.zeroValue9
 t31 := Tryd.underlying69
 a31 := Tryd.isAgg69
 z31 := Tryd.sizeOf69
 v31 := Tryd.zeroValue69
 t46 := Tryd.underlying106
 a46 := Tryd.isAgg106
 z46 := Tryd.sizeOf106
 v46 := Tryd.zeroValue106
 t51 := Tryd.underlying134
 a51 := Tryd.isAgg134
 z51 := Tryd.sizeOf134
 v51 := Tryd.zeroValue134
 t53 := Tryd.underlying117
 a53 := Tryd.isAgg117
 z53 := Tryd.sizeOf117
 v53 := Tryd.zeroValue117
 t131 := Tryd.underlying82
 a131 := Tryd.isAgg82
 z131 := Tryd.sizeOf82
 v131 := Tryd.zeroValue82
 t182 := Tryd.underlying126
 a182 := Tryd.isAgg126
 z182 := Tryd.sizeOf126
 v182 := Tryd.zeroValue126
 t183 := Tryd.underlying127
 a183 := Tryd.isAgg127
 z183 := Tryd.sizeOf127
 v183 := Tryd.zeroValue127
 t218 := Tryd.underlying137
 a218 := Tryd.isAgg137
 z218 := Tryd.sizeOf137
 v218 := Tryd.zeroValue137
 t222 := Tryd.underlying141
 a222 := Tryd.isAgg141
 z222 := Tryd.sizeOf141
 v222 := Tryd.zeroValue141
 t228 := Tryd.underlying143
 a228 := Tryd.isAgg143
 z228 := Tryd.sizeOf143
 v228 := Tryd.zeroValue143
 t229 := Tryd.underlying36
 a229 := Tryd.isAgg36
 z229 := Tryd.sizeOf36
 v229 := Tryd.zeroValue36 }
end Go.Proofs
end
section
namespace Go.Proofs.YtjeecehhcajfaaaDoor.M
open Go.RowKit Go.Sort Go.Proofs.YtjeecehhcajfaaaDoorW.PrintWords Go.Proofs.YtjeecehhcajfaaaDoorW.PrintLast Go.Proofs.YtjeecehhcajfaaaDoorW.PrintMore
set_option linter.unusedVariables false
set_option linter.unusedSimpArgs false
def srt (xs : List ByteArray) : List ByteArray := ((xs.map (fun b => b.data.toList)).mergeSort (fun x y => decide (x ≤ y))).map (fun l => ⟨l.toArray⟩)
theorem srt_length (xs : List ByteArray) : (srt xs).length = xs.length := by simp [srt]
theorem encStr_data (b : ByteArray) : encStr b.data.toList = .string b := by simp [encStr]
theorem block_putRow {w : World} {g : Nat} {c : Array Value} {e : TypeId} {fr : Nat × Nat} (h : w.heap[g]? = some (.cells c e fr)) (n off : Nat) (d : Array (List UInt8)) (os : Array Obj) :
  (grow (putRow encStr (Go.Sort.ahead w n) g off d) os).heap[g]? = some (.cells (putCells encStr off d c) e fr) := by
 have hlt : g < w.heap.size := (Array.getElem?_eq_some_iff.1 h).1
 unfold grow putRow mapBlock
 simp only [Go.Sort.heap_ahead]; rw [Array.getElem?_append_left (by simpa using hlt), Array.getElem?_modify]
 simp [h, onCells]
theorem other_putRow {w : World} {g : Nat} (n off : Nat) (d : Array (List UInt8)) (os : Array Obj) (k : Nat) (hk : k < w.heap.size) (hne : k ≠ g) :
  (grow (putRow encStr (Go.Sort.ahead w n) g off d) os).heap[k]? = w.heap[k]? := by
 unfold grow putRow mapBlock
 simp only [Go.Sort.heap_ahead]; rw [Array.getElem?_append_left (by simpa using hk), Array.getElem?_modify]
 simp [Ne.symm hne]
set_option maxHeartbeats 1000000 in
theorem slices_Sort_str.calls {v : Value} {xs : List ByteArray} {base : Nat} {ok : Nat → Prop} {w : World} (hR : Kd.R Kd.string 9 w base ok v xs) (hl : xs.length < 4611686018427387904) :
  Calls Tryd.prog 73 #[v] w fun e w' => e = .returned (.tuple #[]) ∧ Kd.R Kd.string 9 w' base ok v (srt xs) ∧ w.grownBy w' v.ownBlock := by
 obtain ⟨h0, inner, ho, hr⟩ := hR
 have hin : inner = xs.map Value.string := by
  apply List.ext_getElem?; intro j
  rcases Nat.lt_or_ge j xs.length with hj | hj
  ·have h1 := hr.2 j xs[j] (by simp [hj]); have h2 : (inner.drop (j * 1)).take 1 = [Value.string xs[j]] := h1; have h3 := congrArg (fun l => l[0]?) h2
   simp [List.getElem?_take, List.getElem?_drop] at h3
   rw [h3]
   simp [hj]
  ·have h1 : inner.length = xs.length * 1 := hr.1; rw [List.getElem?_eq_none (by omega), List.getElem?_eq_none (by simpa using hj)]
 subst hin
 rcases ho.2 with ⟨rfl, hz⟩ | ⟨g, cap, cur, rfl, hg, hh, hn, hcap, hsz, htk⟩
 ·have hx : xs = [] := List.eq_nil_of_length_eq_zero hz; subst hx; refine (Any.slices_Sort_string_none Tryd.laysnx190 none 0 w).mono ?_; rintro e w' ⟨rfl, rfl⟩; exact ⟨rfl, by rw [show srt [] = [] by simp [srt]]; exact Kd.R_nil _ _ _ _ _, ⟨rfl, rfl, rfl, Nat.le_refl _, fun _ _ _ => rfl⟩⟩
 ·have hlt : g < w.heap.size := (Array.getElem?_eq_some_iff.1 hh).1
  have hcur : ∀ j, j < xs.length → cur[j]? = (xs[j]?).map Value.string := by
   intro j hj; have h1 := congrArg (fun l => l[j]?) htk; simp only [List.getElem?_map] at h1; rw [List.getElem?_take, if_pos (by show j < xs.length * 1; omega)] at h1
   simpa using h1
  have hsz1 : cur.size = cap := by have : cur.size = cap * 1 := hsz; omega
  have hH : Holds encStr w g 0 (xs.map (fun b => b.data.toList)).toArray := by
   intro j hj; have hj2 : j < xs.length := by simpa using hj
   rw [Nat.zero_add]; refine ⟨(blk_cell hh j).trans ?_, blk_frozen hh j⟩; rw [hcur j hj2]
   simp [hj2, encStr_data, getElem!_pos, encStr]
  have C := Any.slices_Sort_string Tryd.laysnx190 g 0 cap (xs.map (fun b => b.data.toList)) w hH hlt (by simpa using hl); rw [List.length_map] at C; refine C.mono ?_; rintro e w' ⟨rfl, n, os, rfl⟩; refine ⟨rfl, ⟨h0, (srt xs).map Value.string, ⟨?_, .inr ⟨g, cap, _, ?_, hg, block_putRow hh _ _ _ _, ?_, hcap, ?_, ?_⟩⟩, ?_⟩, ⟨rfl, rfl, rfl, by simp, fun k hk hne => other_putRow _ _ _ _ k hk (fun e => hne (by rw [e]; rfl))⟩⟩
  ·show ((srt xs).map Value.string).length = (srt xs).length * 1
   simp
  ·rw [srt_length]
  ·rw [srt_length]; exact hn
  ·show (putCells encStr 0 _ cur).size = cap * 1
   simp [putCells, hsz1]
  ·rw [srt_length]; apply List.ext_getElem?; intro j; have hl1 : ((xs.map (fun b => b.data.toList)).mergeSort (fun x y => decide (x ≤ y))).length = xs.length := by simp
   rcases Nat.lt_or_ge j xs.length with hj | hj
   ·rw [List.getElem?_take, if_pos (by show j < xs.length * 1; omega)]; have hjc : j < cur.size := by omega
    simp [putCells, srt, hj, hjc, hl1, getElem!_pos, encStr]
   ·rw [List.getElem?_take, if_neg (by show ¬ j < xs.length * 1; omega), List.getElem?_eq_none (by simp [srt_length, hj])]
  ·refine ⟨by show ((srt xs).map Value.string).length = (srt xs).length * 1; simp, fun j p hp => ?_⟩; show (((srt xs).map Value.string).drop (j * 1)).take 1 = [Value.string p]; rw [Nat.mul_one]; have hj : j < (srt xs).length := (List.getElem?_eq_some_iff.1 hp).1; have he : (srt xs)[j] = p := (List.getElem?_eq_some_iff.1 hp).2; rw [List.drop_eq_getElem_cons (by simpa using hj)]
   simp [he]
end Go.Proofs.YtjeecehhcajfaaaDoor.M
end
section
namespace Go.Proofs.YtjeecehhcajfaaaDoorW.PrintLast
open Go.RowKit Go.Proofs.YtjeecehhcajfaaaDoorW.PrintWords
theorem bytesLess_or : ∀ a b : List UInt8, (Op.bytesLess a b || a == b) = !(Op.bytesLess b a)
  | [], [] => by simp [Op.bytesLess]
  | [], _ :: _ => by simp [Op.bytesLess]
  | _ :: _, [] => by simp [Op.bytesLess]
  | a :: x, b :: y => by
    have ih := bytesLess_or x y; simp only [Op.bytesLess]
    by_cases h1 : a < b
    · have h2 : ¬ b < a := by rw [UInt8.lt_iff_toNat_lt] at *; omega
      have h3 : ¬ b = a := by rintro rfl; exact h2 h1
      simp [h1, h2, h3]
    · by_cases h2 : b < a
      · have h3 : ¬ a = b := by rintro rfl; exact h1 h2
        simp [h1, h2, h3]
      · have h3 : a = b := by apply UInt8.toNat_inj.1; rw [UInt8.lt_iff_toNat_lt] at *; omega
        subst h3
        simpa [h1] using ih
end Go.Proofs.YtjeecehhcajfaaaDoorW.PrintLast
end
section
namespace Go.Proofs.YtjeecehhcajfaaaDoor.M
open Go.RowKit Go.Proofs.YtjeecehhcajfaaaDoorW.PrintWords Go.Proofs.YtjeecehhcajfaaaDoorW.PrintLast Go.Proofs.YtjeecehhcajfaaaDoorW.PrintMore
set_option linter.unusedVariables false
set_option linter.unusedSimpArgs false
theorem less_trans : ∀ {a b c : List UInt8}, Op.bytesLess a b = true → Op.bytesLess b c = true → Op.bytesLess a c = true
 | _, [], _, h, _ => by simp [Op.bytesLess] at h
 | _, _ :: _, [], _, h => by simp [Op.bytesLess] at h
 | [], _ :: _, _ :: _, _, _ => by simp [Op.bytesLess]
 | x :: a, y :: b, z :: c, h1, h2 => by
  simp only [Op.bytesLess, Bool.or_eq_true, Bool.and_eq_true, decide_eq_true_eq, beq_iff_eq] at h1 h2 ⊢
  rcases h1 with h1 | ⟨rfl, h1⟩
  ·rcases h2 with h2 | ⟨rfl, h2⟩
   ·exact .inl (by rw [UInt8.lt_iff_toNat_lt] at *; omega)
   ·exact .inl h1
  ·rcases h2 with h2 | ⟨rfl, h2⟩
   ·exact .inl h2
   ·exact .inr ⟨rfl, less_trans h1 h2⟩
theorem less_irrefl : ∀ a : List UInt8, Op.bytesLess a a = false
 | [] => rfl
 | x :: a => by
  have h : ¬ x < x := by rw [UInt8.lt_iff_toNat_lt]; omega
  simp [Op.bytesLess, h, less_irrefl a]
theorem less_of_not {a b : ByteArray} (h : Op.bytesLess a.toList b.toList = false) (hne : ¬ a = b) : Op.bytesLess b.toList a.toList = true := by
 have h1 := bytesLess_or b.toList a.toList; rw [h, Bool.not_false, Bool.or_eq_true] at h1
 rcases h1 with h1 | h1
 ·exact h1
 ·exact absurd (bytes_injC.1 (by simpa using h1)).symm hne
abbrev SortedC (o : List ByteArray) : Prop := o.Pairwise (fun a b => Op.bytesLess a.toList b.toList = true)
theorem insC_sorted {o : List ByteArray} (h : SortedC o) (c : ByteArray) : SortedC (insC o c) := by
 unfold insC
 by_cases e : o[cpos c o]? = some c
 ·rw [if_pos e]; exact h
 ·rw [if_neg e]
  have h1 : ∀ a ∈ o.take (cpos c o), Op.bytesLess a.toList c.toList = true := by
   intro a ha; obtain ⟨i, hi, rfl⟩ := List.getElem_of_mem ha; rw [List.length_take] at hi; rw [List.getElem_take]; exact cpos_lt c o i (by omega) (by omega)
  have h2 : ∀ y ∈ o.drop (cpos c o), Op.bytesLess c.toList y.toList = true := by
   intro y hy; obtain ⟨i, hi, rfl⟩ := List.getElem_of_mem hy; rw [List.length_drop] at hi; rw [List.getElem_drop]; have hp : cpos c o < o.length := by omega
   have hg : Op.bytesLess c.toList (o[cpos c o]'hp).toList = true := less_of_not (cpos_at c o hp) (fun e2 => e (by rw [List.getElem?_eq_getElem hp, e2]))
   rcases Nat.eq_zero_or_pos i with rfl | hi0
   ·exact hg
   ·exact less_trans hg (List.pairwise_iff_getElem.1 h (cpos c o) (cpos c o + i) hp (by omega) (by omega))
  unfold SortedC
  rw [List.pairwise_append]; refine ⟨h.sublist (List.take_sublist _ _), List.pairwise_cons.2 ⟨h2, h.sublist (List.drop_sublist _ _)⟩, fun a ha b hb => ?_⟩
  rcases List.mem_cons.1 hb with rfl | hb
  ·exact h1 a ha
  ·exact less_trans (h1 a ha) (h2 b hb)
theorem insC_mem {o : List ByteArray} {c x : ByteArray} : x ∈ insC o c ↔ x = c ∨ x ∈ o := by
 unfold insC
 by_cases e : o[cpos c o]? = some c
 ·rw [if_pos e]; exact ⟨fun h => .inr h, fun h => h.elim (fun h => h ▸ List.mem_of_getElem? e) id⟩
 ·rw [if_neg e, List.mem_append, List.mem_cons]
  constructor
  ·rintro (h | h | h)
   ·exact .inr (List.mem_of_mem_take h)
   ·exact .inl h
   ·exact .inr (List.mem_of_mem_drop h)
  ·rintro (h | h)
   ·exact .inr (.inl h)
   ·rw [← List.take_append_drop (cpos c o) o, List.mem_append] at h; exact h.elim .inl (fun h => .inr (.inr h))
theorem insC_perm {o : List ByteArray} {c : ByteArray} (h : c ∉ o) : (insC o c).Perm (c :: o) := by
 unfold insC
 rw [if_neg (fun e => h (List.mem_of_getElem? e))]; refine List.perm_middle.trans ?_; rw [List.take_append_drop]
def isortC (l : List ByteArray) : List ByteArray := l.foldl insC []
theorem foldC_sorted : ∀ (l o : List ByteArray), SortedC o → SortedC (l.foldl insC o)
 | [], _, h => h
 | c :: l, o, h => foldC_sorted l _ (insC_sorted h c)
theorem foldC_mem : ∀ (l o : List ByteArray) (x : ByteArray), x ∈ l.foldl insC o ↔ x ∈ o ∨ x ∈ l
 | [], o, x => by simp
 | c :: l, o, x => by
  rw [List.foldl_cons, foldC_mem l _ x, insC_mem, List.mem_cons]
  constructor
  ·rintro ((h | h) | h)
   ·exact .inr (.inl h)
   ·exact .inl h
   ·exact .inr (.inr h)
  ·rintro (h | h | h)
   ·exact .inl (.inr h)
   ·exact .inl (.inl h)
   ·exact .inr h
theorem foldC_perm : ∀ (l o : List ByteArray), l.Nodup → (∀ x ∈ l, x ∉ o) → (l.foldl insC o).Perm (l ++ o)
 | [], o, _, _ => List.Perm.refl _
 | c :: l, o, hn, hd => by
  rw [List.nodup_cons] at hn; refine (foldC_perm l (insC o c) hn.2 ?_).trans ?_
  ·intro x hx hm
   rcases insC_mem.1 hm with rfl | hm
   ·exact hn.1 hx
   ·exact hd x (List.mem_cons_of_mem _ hx) hm
  ·refine (List.Perm.append_left l (insC_perm (hd c List.mem_cons_self))).trans ?_; exact List.perm_middle
theorem sortedC_ext : ∀ {a b : List ByteArray}, SortedC a → SortedC b → (∀ x, x ∈ a ↔ x ∈ b) → a = b
 | [], [], _, _, _ => rfl
 | [], y :: b, _, _, h => by have := (h y).2 List.mem_cons_self; simp at this
 | x :: a, [], _, _, h => by have := (h x).1 List.mem_cons_self; simp at this
 | x :: a, y :: b, ha, hb, h => by
  have ha' := List.pairwise_cons.1 ha; have hb' := List.pairwise_cons.1 hb
  have hxy : x = y := by
   rcases List.mem_cons.1 ((h x).1 List.mem_cons_self) with e | h1
   ·exact e
   ·rcases List.mem_cons.1 ((h y).2 List.mem_cons_self) with e | h2
    ·exact e.symm
    ·have h3 := less_trans (hb'.1 x h1) (ha'.1 y h2); rw [less_irrefl] at h3; cases h3
  subst hxy
  have : a = b := sortedC_ext ha'.2 hb'.2 (fun z => by
   have hz := h z; rw [List.mem_cons, List.mem_cons] at hz
   constructor
   ·intro hza
    rcases hz.1 (.inr hza) with rfl | h4
    ·have h5 := ha'.1 _ hza; rw [less_irrefl] at h5; cases h5
    ·exact h4
   ·intro hzb
    rcases hz.2 (.inr hzb) with rfl | h4
    ·have h5 := hb'.1 _ hzb; rw [less_irrefl] at h5; cases h5
    ·exact h4)
  rw [this]
theorem bl_ltC : ∀ x y : List UInt8, Op.bytesLess x y = decide (x < y)
 | _, [] => by simp [Op.bytesLess]
 | [], _ :: _ => by simp [Op.bytesLess]
 | a :: x, b :: y => by
  rw [Op.bytesLess, bl_ltC x y]
  by_cases h : a < b
  ·simp [h, List.cons_lt_cons_iff]
  ·by_cases e : a = b
   ·subst e; simp [List.cons_lt_cons_iff]
   ·simp [h, e, List.cons_lt_cons_iff]
theorem srt_perm (xs : List ByteArray) : (srt xs).Perm xs := by
 unfold srt
 have h1 := (List.mergeSort_perm (xs.map (fun b => b.data.toList)) (fun x y => decide (x ≤ y))).map (fun l : List UInt8 => (⟨l.toArray⟩ : ByteArray)); rw [List.map_map] at h1
 have h2 : xs.map ((fun l : List UInt8 => (⟨l.toArray⟩ : ByteArray)) ∘ fun b => b.data.toList) = xs := by
  have : ((fun l : List UInt8 => (⟨l.toArray⟩ : ByteArray)) ∘ fun b : ByteArray => b.data.toList) = id := by funext b; rfl
  rw [this, List.map_id]
 rwa [h2] at h1
theorem toListC (b : ByteArray) : b.toList = b.data.toList := by rw [ByteArray.toList_eq]
theorem srt_sorted {xs : List ByteArray} (hn : xs.Nodup) : SortedC (srt xs) := by
 have hs : ((xs.map (fun b => b.data.toList)).mergeSort (fun x y => decide (x ≤ y))).Pairwise (fun a b => decide (a ≤ b) = true) := by
  refine List.pairwise_mergeSort ?_ ?_ _
  ·intro a b c h1 h2; simp only [decide_eq_true_eq] at *; exact List.le_trans h1 h2
  ·intro a b; simp only [Bool.or_eq_true, decide_eq_true_eq]; exact List.le_total a b
 have hnd : (srt xs).Nodup := (srt_perm xs).nodup_iff.2 hn
 have hle : (srt xs).Pairwise (fun a b => a.data.toList ≤ b.data.toList) := by
  unfold srt
  rw [List.pairwise_map]; exact hs.imp (fun h => by simpa using h)
 refine (hle.and hnd).imp ?_; rintro a b ⟨h1, h2⟩
 have h3 : Op.bytesLess b.toList a.toList = false := by
  rw [toListC, toListC, bl_ltC]; exact decide_eq_false (List.not_lt.2 h1)
 exact less_of_not h3 (fun e => h2 e.symm)
theorem srt_isort {xs : List ByteArray} (hn : xs.Nodup) : srt xs = isortC xs := by
 refine sortedC_ext (srt_sorted hn) (foldC_sorted xs [] List.Pairwise.nil) (fun x => ?_); rw [(srt_perm xs).mem_iff]
 unfold isortC
 rw [foldC_mem]
 simp
end Go.Proofs.YtjeecehhcajfaaaDoor.M
end
section
namespace Go.Proofs.YtjeecehhcajfaaaDoor.M
open Go.RowKit Go.Proofs.YtjeecehhcajfaaaDoorW.PrintWords Go.Proofs.YtjeecehhcajfaaaDoorW.PrintLast Go.Proofs.YtjeecehhcajfaaaDoorW.PrintMore
attribute [local go_sem] max2_int min2_int max_two min_two max_three min_three max_four min_four
set_option linter.unusedVariables false
set_option linter.unusedSimpArgs false
def sumsL (cols : List (Col ByteArray)) : List ByteArray → List S61 → Option (List S61 × Int)
 | [], out => some (out, 0)
 | c :: r, out => match cols.find? (fun q => decide (q.1 = c)) with
  | none => none
  | some q => (bothf 1000000000000000 q.2.1 q.2.2).bind fun t => if t.2.2 = 0 then sumsL cols r (out ++ [⟨c, t.1, t.2.1⟩]) else some ([], t.2.2)
def F18.f (l : List Ln) : Option (List S61 × Int) := if l.length ≤ 1000000 then sumsL (colsOf curKey l) (isortC ((colsOf curKey l).map (·.1))) [] else none
set_option maxHeartbeats 4000000 in
set_option maxRecDepth 100000 in
theorem F47.calls {v : Value} {xs : List ByteArray} {base : Nat} {w : World} (hR : Kd.R Kd.string 9 w base (fun _ => True) v xs) (hl : xs.length < 4611686018427387904) :
  Calls Tryd.prog 47 #[v] w fun e w' => e = .returned (.tuple #[]) ∧ Kd.R Kd.string 9 w' base (fun _ => True) v (srt xs) ∧ w.grownBy w' v.ownBlock := by
 have HR := Aside0.mk hR; have HL := Aside0.mk hl; clear hR hl; go_enter Tryd.func47, Tryd.ntmps47
 go_wp2_with (first
  | (go_at_call 73; refine (slices_Sort_str.calls HR.out HL.out).mono ?_; rintro e w' ⟨rfl, hk, hg⟩))
 first | go_end0 | ((try simp only [Exit.inBlock, Exit.then]); refine bodyPost_ret (results_none rfl _ _ _) rfl ?_)
 exact ⟨rfl, hk, hg⟩
set_option maxHeartbeats 32000000 in
set_option maxRecDepth 100000 in
theorem F18.calls (A0 : Option Addr) (c0 : Nat) (l0 : List Ln) (r1 : List S61) (r2 : Int) (w : World) (hr0 : Kd.C k24 w A0 l0.length l0) (hc0 : l0.length ≤ c0) (h : F18.f l0 = some (r1, r2)) :
  Calls Tryd.prog 18 #[.slice A0 l0.length c0] w fun e w' => ∃ v0_ : Value, e = .returned (.tuple #[v0_, .int .i64 r2]) ∧ Kd.R k61 61 w' w.heap.size (fun _ => True) v0_ r1 ∧ Below w.heap.size w w' := by
 have HR0 := Aside0.mk hr0; have HC0 := Aside0.mk hc0
 unfold F18.f at h
 split at h
 case isFalse => cases h
 rename_i hl
 rw [← srt_isort (colsOf_nodup curKey l0)] at h; have HL := Aside0.mk hl; have H := Aside0.mk h; have hcn := colsOf_count curKey l0; obtain ⟨L, hL⟩ : ∃ L, colsOf curKey l0 = L := ⟨_, rfl⟩; rw [hL] at H hcn; obtain ⟨ks, hks⟩ : ∃ ks, srt (L.map (·.1)) = ks := ⟨_, rfl⟩; rw [hks] at H; have hkl : ks.length = L.length := by rw [← hks, srt_length]; simp
 have HLL : Aside0 (ks.length ≤ 1000000) := ⟨by rw [hkl]; exact Nat.le_trans hcn HL.out⟩; have hkl2 : (L.map (·.1)).length = ks.length := by rw [hkl]; simp
 have HKL := Aside0.mk hkl2; clear hr0 hc0 h hl; go_enter Tryd.func18, Tryd.ntmps18
 go_wp2_with (first
  | (go_at_call 45; (with_reducible refine (columns_str.calls A0 c0 l0 w HR0.out HC0.out HL.out).mono ?_); rintro e w5 ⟨b, vk, rfl, hco, hk, hb⟩; rw [hL] at hco hk; have HCo := Aside0.mk hco; have HK := Aside0.mk hk; have HB := Aside0.mk hb; clear hco hk hb)
  | (go_at_call 47; refine (F47.calls HK.out (by rw [HKL.out]; have := HLL.out; omega)).mono ?_; rintro e w6 ⟨rfl, hk, hg⟩; have HCo6 := Aside0.mk (HCo.out.other hg (fun g e => by obtain ⟨cs, hc⟩ := Kd.R_typed HK.out g e; exact ⟨cs, 9, hc, by decide, by decide⟩)); have HB6 := Aside0.mk (pw_below_grown HB.out _ HB.out.size hg (fun g e => Kd.R_base HK.out g e)); rw [hks] at hk; have HK6 := Aside0.mk hk; obtain ⟨A9, c9, rfl⟩ := Kd.R_slice hk; clear hk hg))
 have HO0 := Aside0.mk (Kd.R_nil k61 61 w6 w.heap.size (fun _ => True))
 go_loopg [2, 20] ks.length (fun kq v2 v20 w' => ∃ (j : Nat) (out : List S61), v20 = .int .i64 (j : Int) ∧ Aside0 (j + kq = ks.length) ∧ Aside0 (sumsL L (ks.drop j) out = some (r1, r2)) ∧ Aside0 (out.length ≤ j) ∧ Aside0 (ColsIs Value.string w' w.heap.size b L) ∧ Aside0 (Kd.R Kd.string 9 w' w.heap.size (fun _ => True) (.slice A9 ks.length c9) ks) ∧ Aside0 (Kd.R k61 61 w' w.heap.size (fun _ => True) v2 out) ∧ Aside0 (Below w.heap.size w w'))
 case atStart => exact ⟨0, [], rfl, ⟨by omega⟩, H, ⟨by simp⟩, HCo6, HK6, HO0, HB6⟩
 case round =>
  clear H HCo6 HK6 HO0 HB6; obtain ⟨j, out, rfl, HJ, H, HOl, HCo, HK, HO, HB⟩ := hrel
  cases gk with
  | zero =>
   have hj : j = ks.length := by have := HJ.out; omega
   subst hj; have hjb : decide ((ks.length : Int) < (ks.length : Int)) = false := decide_eq_false (by omega); have h1 := H.out; rw [List.drop_length] at h1; simp only [sumsL, Option.some.injEq, Prod.mk.injEq] at h1; obtain ⟨rfl, rfl⟩ := h1; clear H
   go_wp2
   go_ret2
   exact ⟨_, rfl, HO.out, HB.out⟩
  | succ k1 =>
   have hj : j < ks.length := by have := HJ.out; omega
   have hjb : decide ((j : Int) < (ks.length : Int)) = true := decide_eq_true (by omega); have p1 : 0 ≤ (j : Int) := by omega
   have qj : (j : Int) < (ks.length : Int) := by omega
   obtain ⟨ad, e1, hx⟩ := Kd.at_string (Kd.R_reads' HK.out).2.2 (j : Int) p1 qj
   cases e1
   have hrd : rdOf ByteArray.empty ks (j : Int) = ks[j] := by simp [rdOf, hj]
   rw [hrd] at hx; have h1 := H.out; rw [List.drop_eq_getElem_cons hj] at h1; obtain ⟨c, hc⟩ : ∃ c, ks[j] = c := ⟨_, rfl⟩; rw [hc] at h1 hx; clear hc hrd H; simp only [sumsL] at h1; obtain ⟨M, fp, hM⟩ := HCo.out
   cases hfd : L.find? (fun q => decide (q.1 = c)) with
   | none => rw [hfd] at h1; cases h1
   | some q =>
    rw [hfd] at h1; simp only at h1; obtain ⟨⟨s1, s2, er⟩, hbo, h1⟩ := Option.bind_eq_some_iff.mp h1; have HBo := Aside0.mk hbo; simp only at h1; obtain ⟨p, va, vb, hag, hp, ⟨ok1, hA⟩, ok2, hB⟩ := hM.find hfd; have hlv : lookV ptrV M c (.pointer none) false = .pointer (some ⟨p, 0, none⟩) := by simp [lookV, hag, ptrV]
    have HW : Aside0 (wrap64 ((j : Int) + 1) = ((j + 1 : Nat) : Int)) := ⟨by have := HLL.out; unfold wrap64; omega⟩; replace p1 := eq_true p1; replace qj := eq_true qj; simp only [Int.toNat_natCast] at hx; clear hbo hfd
    by_cases z : er = 0
    ·subst z; rw [if_pos rfl] at h1; have H2 := Aside0.mk h1; clear h1
     go_wp2_with (first
      | (refine lookL_ (ev := ptrV) rfl rfl Tryd.underlying68 str_key zero_ptr hM.1 c rfl rfl ?_; (try rw [hlv]))
      | (go_at_call 48; (with_reducible refine (column_both.calls p 1000000000000000 q.2.1 q.2.2 va vb w.heap.size ok1 ok2 _ s1 s2 0 hp hA hB HBo.out).mono ?_); rintro e w9 ⟨rfl, ⟨m2, rfl⟩⟩)
      | ((with_reducible refine gate_builtin (b := .append) (xs := #[.tmp 35, .tmp 40]) rfl ?_); at_builtin; refine Kd.R_append k61 (w0 := w) w.heap.size rfl (.tmp 35) (.tmp 40) 39 61 (.agg #[(.string ⟨#[]⟩), (.int .i64 0), (.int .i64 0)]) 32 rfl Tryd.underlying39 info61 rfl (by decide) (by omega) _ out (⟨c, s1, s2⟩ : S61) [.string c, .int .i64 s1, .int .i64 s2] (fun _ => True) (fun _ => False) rfl rfl ?aP (fun _ hk => hk.elim) (fun _ _ => trivial) ?aO ?aB ?aS ?aL ?_; (case aP => exact k61_mkM _ _ _ (⟨c, s1, s2⟩ : S61)); (case aO => exact Kd.R_drewN HO.out _); (case aB => exact pw_below_drewN HB.out _); (case aS => exact (pw_below_drewN HB.out m2).size); (case aL => have := HOl.out; have := HLL.out; have := HJ.out; omega); intro v8 w8 ho hb hg hat; have HO8 := Aside0.mk ho; have HB8 := Aside0.mk hb; have hTy := Kd.R_typed (Kd.R_drewN HO.out m2); have HM8 := Aside0.mk ((hM.below (pw_below_drewN (Below.refl _ _) m2)).other hg (fun g e => by obtain ⟨cs, hc⟩ := hTy g e; exact ⟨cs, 61, hc, by decide, by decide⟩)); have HK8 := Aside0.mk (kStr_move (Kd.R_drewN HK.out m2) (fun k hk => hg.block k (Kd.R_lt (Kd.R_drewN HK.out m2) k hk) (fun e => by obtain ⟨cs, hc⟩ := hTy k e.symm; obtain ⟨cs', hc'⟩ := Kd.R_typed (Kd.R_drewN HK.out m2) k hk; rw [hc] at hc'; injection hc' with hc'; injection hc' with _ h3; exact absurd h3 (by decide)))); clear ho hb hg hat hTy))
     go_roundg k1
     case measure => omega
     case rel =>
      refine ⟨j + 1, _, ?_, ⟨by have := HJ.out; omega⟩, H2, ⟨by have := HOl.out; simp; omega⟩, ⟨⟨M, fp, HM8.out⟩⟩, HK8, HO8, HB8⟩; have := HW.out; first | rfl | (rw [← this]; rfl) | (simp [*]; done)
    ·rw [if_neg z] at h1; simp only [Option.some.injEq, Prod.mk.injEq] at h1; obtain ⟨rfl, rfl⟩ := h1; have zb : (er == 0) = false := beq_eq_false_iff_ne.2 z; have zc : (er != 0) = true := by simp [z]
     go_wp2_with (first
      | (refine lookL_ (ev := ptrV) rfl rfl Tryd.underlying68 str_key zero_ptr hM.1 c rfl rfl ?_; (try rw [hlv]))
      | (go_at_call 48; (with_reducible refine (column_both.calls p 1000000000000000 q.2.1 q.2.2 va vb w.heap.size ok1 ok2 _ s1 s2 er hp hA hB HBo.out).mono ?_); rintro e w9 ⟨rfl, ⟨m2, rfl⟩⟩))
     go_ret2
     exact ⟨_, rfl, Kd.R_nil _ _ _ _ _, pw_below_drewN HB.out _⟩
def capital (b : UInt8) : Bool := decide (65 ≤ (b.toNat : Int)) && decide ((b.toNat : Int) ≤ 90)
def F35.f (s : ByteArray) : Option Bool := some (s.data.toList.all capital && decide (wrap64 (s.size : Int) = 3))
theorem code_no {s : ByteArray} {pos : Nat} (h : pos < s.size) (hc : capital (s[pos]'h) = false) {r : Bool} (hf : F35.f s = some r) : r = false := by
 unfold F35.f at hf
 have h1 : s.data.toList.all capital = false := by
  rw [List.all_eq_false]; exact ⟨s[pos]'h, by simp [ByteArray.getElem_eq_getElem_data], by rw [hc]; simp⟩
 rw [h1] at hf
 simpa using hf.symm
theorem below_iter (w : World) (s : ByteArray) (pos : Nat) : Below w.heap.size w (w.iter s pos) := below_alloc (Below.refl _ _) _
set_option maxHeartbeats 8000000 in
set_option maxRecDepth 100000 in
theorem F35.calls (s : ByteArray) (r : Bool) (w : World) (h : F35.f s = some r) :
  Calls Tryd.prog 35 #[.string s] w fun e w' => e = .returned (.bool r) ∧ Below w.heap.size w w' := by
 have HF := Aside0.mk h; clear h; go_enter Tryd.func35, Tryd.ntmps35
 go_wp2
 go_loopw [3] (fun n w' => ∃ (pos : Nat), w' = w.iter s pos ∧ n = .int .i64 (wrap64 (pos : Int)) ∧ Aside0 (pos ≤ s.size ∧ (s.data.toList.take pos).all capital = true)) (fun _ w' => s.size - w'.iterPos w.heap.size)
 case atStart => exact ⟨0, rfl, by first | rfl | (congr 1; done) | (simp [wrap64]; done), ⟨Nat.zero_le _, by simp⟩⟩
 case round =>
  obtain ⟨pos, rfl, rfl, HP⟩ := hrel
  by_cases hp : pos < s.size
  ·by_cases ha : (s[pos]'hp).toNat < 128
   ·have hnx : ∀ ty, (Instr.next (.pointer (some ⟨w.heap.size, 0, none⟩)) true ty).run Tryd.prog (w.iter s pos) = _ := fun ty => run_next_ascii w s pos ty hp ha
    by_cases c1 : ((s[pos]'hp).toNat : Int) < 65
    ·have hno := code_no hp (by simp [capital]; intro; omega) HF.out; subst hno; have c1b : decide (((s[pos]'hp).toNat : Int) < 65) = true := decide_eq_true c1; have c1n : decide ((s[pos]'hp).toNat < 65) = true := decide_eq_true (by omega)
     go_wp2
     go_ret
     exact ⟨rfl, below_iter _ _ _⟩
    ·have c1b : decide (((s[pos]'hp).toNat : Int) < 65) = false := decide_eq_false c1; have c1n : decide ((s[pos]'hp).toNat < 65) = false := decide_eq_false (by omega)
     by_cases c2 : (90 : Int) < ((s[pos]'hp).toNat : Int)
     ·have hno := code_no hp (by simp [capital]; intro; omega) HF.out; subst hno; have c2b : decide ((90 : Int) < ((s[pos]'hp).toNat : Int)) = true := decide_eq_true c2; have c2n : decide (90 < (s[pos]'hp).toNat) = true := decide_eq_true (by omega)
      go_wp2
      go_ret
      exact ⟨rfl, below_iter _ _ _⟩
     ·have c2b : decide ((90 : Int) < ((s[pos]'hp).toNat : Int)) = false := decide_eq_false c2; have c2n : decide (90 < (s[pos]'hp).toNat) = false := decide_eq_false (by omega)
      have HP2 : Aside0 (pos + 1 ≤ s.size ∧ (s.data.toList.take (pos + 1)).all capital = true) := ⟨by
       refine ⟨hp, ?_⟩; rw [List.take_succ_eq_append_getElem (by simpa using hp), List.all_append, HP.out.2]; simp only [List.all_cons, List.all_nil, Bool.and_true, Bool.true_and]; show capital (s[pos]'hp) = true
       simp [capital]; omega⟩
      have HW : Aside0 (wrap64 (wrap64 (pos : Int) + 1) = wrap64 ((pos + 1 : Nat) : Int)) := ⟨by unfold wrap64; omega⟩; clear HP
      go_wp2
      go_roundw
      case rel => exact ⟨pos + 1, rfl, by first | rfl | (congr 1; exact HW.out) | (simp [HW.out]; done), HP2⟩
      case measure => simp; omega
   ·have hnx : ∀ ty, (Instr.next (.pointer (some ⟨w.heap.size, 0, none⟩)) true ty).run Tryd.prog (w.iter s pos) = _ := fun ty => run_next_any w s pos ty hp; have hno := code_no hp (by simp [capital]; intro; omega) HF.out; subst hno; have hd := (decode_high s pos hp (by omega)).1; generalize (Utf8.decode s pos) = D at hnx hd; obtain ⟨D1, D2⟩ := D; have hd2 : 128 ≤ D1 := hd; have c1b : decide ((D1 : Int) < 65) = false := decide_eq_false (by omega); have c1n : decide (D1 < 65) = false := decide_eq_false (by omega); have c2b : decide ((90 : Int) < (D1 : Int)) = true := decide_eq_true (by omega); have c2n : decide (90 < D1) = true := decide_eq_true (by omega)
    go_wp2
    go_ret
    exact ⟨rfl, below_iter _ _ _⟩
  ·have hnx : ∀ ty, (Instr.next (.pointer (some ⟨w.heap.size, 0, none⟩)) true ty).run Tryd.prog (w.iter s pos) = _ := fun ty => run_next_end w s pos ty hp; have hps : pos = s.size := by have := HP.out.1; omega
   subst hps; have h1 := HF.out
   unfold F35.f at h1
   have h2 : s.data.toList.all capital = true := by
    have := HP.out.2
    rwa [List.take_of_length_le (by simp)] at this
   rw [h2, Bool.true_and] at h1; have h3 := Option.some.inj h1; clear h1 h2 HP
   go_wp2
   go_ret
   exact ⟨by first | (subst h3; rfl) | (subst h3; simp; done), below_iter _ _ _⟩
def F34.f (k : Nat) (a0 : ByteArray) : Option (Bool) := if a0.toList = ([] : List UInt8) then (some true) else ((F33.f k a0).bind fun t101 => (some t101))
set_option maxHeartbeats 8000000 in
set_option maxRecDepth 100000 in
theorem F34.calls (k : Nat) (a0 : ByteArray) (r : Bool) (w : World) (h : F34.f k a0 = some r) :
    Calls Tryd.prog 34 #[.string a0] w fun e w' => e = .returned (.bool r) ∧ Drawn0 w w' := by
 unfold F34.f at h
 have H := h; clear h
 by_cases c2 : a0.toList = ([] : List UInt8)
 ·rw [if_pos c2] at H; have c2b0 := bT_ c2; have c2b1 := bF_ c2; clear c2; obtain rfl := Option.some.inj H; go_enter Tryd.func34, Tryd.ntmps34
  go_wp2
  go_ret
  exact ⟨pbb2_3, pbb2_4⟩
 ·rw [if_neg c2] at H; have c2b0 := nF_ c2; have c2b1 := nT_ c2; obtain ⟨t101, A30, H⟩ := bnd H; have A3 := Aside0.mk A30; clear A30; obtain rfl := Option.some.inj H; go_enter Tryd.func34, Tryd.ntmps34
  go_wp2_with (first | (go_at_call 33; (with_reducible refine (F33.calls k a0 t101 _ A3.out).mono ?_); rintro e w' ⟨rfl, ⟨nd, rfl⟩⟩))
  go_ret
  exact ⟨pbb2_3, pbb2_4⟩
def F66.f (k : Nat) (a0_0 : ByteArray) (a0_1 : ByteArray) : Option (Bool) := (F33.f k a0_0).bind fun t102 => (if t102 = true then ((F33.f k a0_1).bind fun t103 => (some t103)) else (some false))
set_option maxHeartbeats 8000000 in
set_option maxRecDepth 100000 in
theorem F66.calls (k : Nat) (a0_0 : ByteArray) (a0_1 : ByteArray) (r : Bool) (w : World) (h : F66.f k a0_0 a0_1 = some r) :
    Calls Tryd.prog 66 #[.agg #[.string a0_0, .string a0_1]] w fun e w' => e = .returned (.bool r) ∧ Below w.heap.size w w' := by
 have hu101 := Tryd.underlying101; have hu9 := Tryd.underlying9; have HB := Aside0.mk (Below.refl w.heap.size w)
 unfold F66.f at h
 have H := h; clear h; obtain ⟨t102, A20, H⟩ := bnd H; have A2 := Aside0.mk A20; clear A20
 by_cases c3 : t102 = true
 ·subst c3; rw [if_pos rfl] at H; obtain ⟨t103, A40, H⟩ := bnd H; have A4 := Aside0.mk A40; clear A40; obtain rfl := Option.some.inj H; go_enter Tryd.func66, Tryd.ntmps66
  go_wp2_with (first | ((with_reducible refine gate_dst (N := 1) rfl ?_); refine box_event ?hg (N := 1) ?hd (cs := #[.string a0_0, .string a0_1]) (t := 101) ?hr ?_; (case hd => rfl); (case hg => rfl); (case hr => first | (go_simp; done) | (go_simp; rfl)); intro gb101 hg w5 hbox hb; have BK101 := Aside0.mk (hbox); have GW101 := Aside0.mk ((pbb2_8 : w.heap.size ≤ gb101)); have GE101 := Aside0.mk ((pbb2_8 : w.heap.size ≤ gb101)); replace HB := Aside0.mk (below_step pbb2_9 hb); clear hb hbox hg; obtain ⟨hcz6_0, hcz6_1⟩ := cz2 BK101.out; obtain ⟨hfz6_0, hfz6_1⟩ := fz2 BK101.out) | ((with_reducible refine gate_callee (f := 33) rfl ?_); refine goesL_ (some 5) rfl rfl Tryd.func33 (by kernel_rfl) rfl #[.string a0_0] rfl pbb2_5 ?_; (with_reducible refine (F33.calls k a0_0 true _ A2.out).mono ?_); rintro e w' ⟨rfl, ⟨nd, rfl⟩⟩; refine ⟨_, rfl, ?_⟩) | (go_at_call 33; (with_reducible refine (F33.calls k a0_1 t103 _ A4.out).mono ?_); rintro e w' ⟨rfl, ⟨nd, rfl⟩⟩))
  go_ret
  exact ⟨pbb2_18, pbb2_11⟩
 ·replace c3 := Bool.eq_false_iff.mpr c3; subst c3; rw [if_neg (show ¬ (false = true) by decide)] at H; obtain rfl := Option.some.inj H; go_enter Tryd.func66, Tryd.ntmps66
  go_wp2_with (first | ((with_reducible refine gate_dst (N := 1) rfl ?_); refine box_event ?hg (N := 1) ?hd (cs := #[.string a0_0, .string a0_1]) (t := 101) ?hr ?_; (case hd => rfl); (case hg => rfl); (case hr => first | (go_simp; done) | (go_simp; rfl)); intro gb101 hg w7 hbox hb; have BK101 := Aside0.mk (hbox); have GW101 := Aside0.mk ((pbb2_8 : w.heap.size ≤ gb101)); have GE101 := Aside0.mk ((pbb2_8 : w.heap.size ≤ gb101)); replace HB := Aside0.mk (below_step pbb2_9 hb); clear hb hbox hg; obtain ⟨hcz8_0, hcz8_1⟩ := cz2 BK101.out; obtain ⟨hfz8_0, hfz8_1⟩ := fz2 BK101.out) | ((with_reducible refine gate_callee (f := 33) rfl ?_); refine goesL_ (some 5) rfl rfl Tryd.func33 (by kernel_rfl) rfl #[.string a0_0] rfl pbb2_5 ?_; (with_reducible refine (F33.calls k a0_0 false _ A2.out).mono ?_); rintro e w' ⟨rfl, ⟨nd, rfl⟩⟩; refine ⟨_, rfl, ?_⟩))
  go_ret
  exact ⟨pbb2_18, pbb2_11⟩
end Go.Proofs.YtjeecehhcajfaaaDoor.M
end
