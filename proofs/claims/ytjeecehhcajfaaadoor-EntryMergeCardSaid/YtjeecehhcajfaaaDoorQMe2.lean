/- The law of the entries, walked and shown. Part 2 of 2 of what is the claim's own. -/
import Derived.Test.YtjeecehhcajfaaaDoorQBB2
import Derived.Test.YtjeecehhcajfaaaDoorQBB5
import Derived.Test.YtjeecehhcajfaaaDoorQMe1
import Derived.Test.YtjeecehhcajfaaaDoorQBB4
import Derived.Test.YtjeecehhcajfaaaDoorQBB9
import Derived.Test.YtjeecehhcajfaaaDoorRows
import Derived.Test.YtjeecehhcajfaaaDoorQBB1
import Derived.ProofKit
import Derived.LaidMore
import Derived.OpenShut
import Derived.Stop.Joined
import Derived.WalkKit
import Derived.ShutString
import Derived.ChangeOld
import Derived.Below
import Derived.SizedLaws
import Derived.Test.YtjeecehhcajfaaaDoorCards
import Derived.Test.YtjeecehhcajfaaaDoorTie
import Derived.SevenTiedAt
namespace Go.Proofs.YtjeecehhcajfaaaDoor.M
theorem pme2_0 {p : Prop} (h : p := by repeat (first | exact (Kd.C_below HR0.out HB.out) | (with_reducible refine Kd.C_alloc ?_ _) | (with_reducible refine Kd.C_drewN ?_ _) | (with_reducible refine Kd.C_drew ?_))) : p := h
theorem pme2_1 {p : Prop} (h : p := by (with_reducible repeat (first | apply Kd.R_alloc | apply Kd.R_drewN | apply Kd.R_drew)); exact HO_3.out) : p := h
end Go.Proofs.YtjeecehhcajfaaaDoor.M
section
namespace Go.Proofs.YtjeecehhcajfaaaDoor.M
open Go.RowKit Go.Proofs.YtjeecehhcajfaaaDoorW.PrintWords Go.Proofs.YtjeecehhcajfaaaDoorW.PrintLast Go.Proofs.YtjeecehhcajfaaaDoorW.PrintMore
attribute [local go_sem] max2_int min2_int max_two min_two max_three min_three max_four min_four
set_option linter.unusedVariables false
set_option linter.unusedSimpArgs false
def F24.l0 : Nat → List (S24) → List ByteArray → Int → Option (Bool)
  | 0, _, _, _ => none
  | k + 1, x0, x3, x4 => if x4 < (x3.length : Int) then (if 0 ≤ x4 then ((F50.f k x0 (rdOf ByteArray.empty x3 x4)).bind fun bt105 => (if bt105.2.2 = true then (if bt105.1 = 0 then (if bt105.2.1 = 0 then (F24.l0 k x0 x3 (wrap64 (x4 + 1))) else (some false)) else (some false)) else (some false))) else (none)) else (some true)
def F24.f (k : Nat) (l0 : List (S24)) : Option (Bool) := (F49.f l0).bind fun t101 => (F24.l0 k l0 t101 0)
set_option maxHeartbeats 8000000 in
set_option maxRecDepth 100000 in
theorem F24.calls (k : Nat) (A0 : Option Addr) (c0 : Nat) (l0 : List (S24)) (r : Bool) (w : World) (hr0 : Kd.C k24 w A0 l0.length l0) (hc0 : l0.length ≤ c0) (h : F24.f k l0 = some r) :
    Calls Tryd.prog 24 #[.slice A0 l0.length c0] w fun e w' => e = .returned (.bool r) ∧ Below w.heap.size w w' := by
 have hu9 := Tryd.underlying9; have HR0 := Aside0.mk hr0; have HC0 := Aside0.mk hc0; clear hr0 hc0; have HB := Aside0.mk (Below.refl w.heap.size w)
 unfold F24.f at h
 have H := h; clear h; obtain ⟨t101, A20, H⟩ := bnd H; have A2 := Aside0.mk A20; clear A20; have H' := Aside0.mk H; clear H; go_enter Tryd.func24, Tryd.ntmps24
 go_wp2_with (first | ((with_reducible refine gate_callee (f := 49) rfl ?_); refine goesL_ (some 9) rfl rfl Tryd.func49 (by kernel_rfl) rfl #[.slice A0 l0.length c0] rfl pbb2_5 ?_; (with_reducible refine (F49.calls _ _ l0 t101 _ pme1_12 HC0.out A2.out).mono ?_); rintro e w3 ⟨v102, rfl, ho0, hb⟩; refine ⟨_, rfl, ?_⟩; have HO103 := Aside0.mk (Kd.R_lower ho0 (below_size pbb2_9)); replace HB := Aside0.mk (below_step pbb2_9 hb); (try clear hb); (try clear hb2); (try clear hk); (try clear hi); (try clear ho0)))
 (try simp only [Act.put, List.setIfInBounds_toArray, List.set_cons_zero, List.set_cons_succ])
 go_loopg [4] k (fun kq v4 w' => ∃ (x4_1 : Int), v4 = .int .i64 x4_1 ∧ Aside0 (F24.l0 kq l0 t101 x4_1 = some r) ∧ Aside0 (kq ≤ k) ∧ Aside0 (Kd.R Kd.string 9 w' w.heap.size (fun _ => True) v102 t101) ∧ Aside0 (Below w.heap.size w w'))
 case atStart => exact ⟨(0), pbb2_3, H', ⟨Nat.le_refl _⟩, ⟨by (with_reducible repeat (first | apply Kd.R_alloc | apply Kd.R_drewN | apply Kd.R_drew)); exact HO103.out⟩, ⟨pbb2_9⟩⟩
 case round =>
  clear H'; (try clear c2); (try clear p2); obtain ⟨x4_1, rfl, HA, HK1, HO_3, HB⟩ := hrel
  cases gk with
  | zero => exact absurd HA.out (by simp [F24.l0])
  | succ k1 =>
   have H := HA.out; clear HA; simp only [F24.l0] at H
   by_cases c4 : x4_1 < (t101.length : Int)
   ·rw [if_pos c4] at H; have c4b0 := decide_eq_true c4; clear c4
    by_cases c5 : 0 ≤ x4_1
    ·rw [if_pos c5] at H; have c5b0 := decide_eq_true c5; clear c5; obtain ⟨⟨t105, t106, t107⟩, A60, H⟩ := bnd H; (try dsimp only at H); have A6 := Aside0.mk A60; clear A60
     by_cases c7 : t107 = true
     ·subst c7; rw [if_pos rfl] at H
      by_cases c8 : t105 = 0
      ·rw [if_pos c8] at H; have c8b0 := bT_ c8; have c8b1 := bF_ c8; clear c8
       by_cases c9 : t106 = 0
       ·rw [if_pos c9] at H; have c9b0 := bT_ c9; have c9b1 := bF_ c9; clear c9; have H' := Aside0.mk H; clear H; obtain ⟨Ao10, co10, eo10⟩ := Kd.R_slice HO_3.out; subst eo10; have p104 : 0 ≤ (x4_1 : Int) := of_decide_eq_true pbb2_6; have q104 : x4_1 < (t101.length : Int) := of_decide_eq_true pbb2_6; obtain ⟨ad104, e104, hx104_0⟩ := Kd.at_string (Kd.R_reads' HO_3.out).2.2 x4_1 p104 q104
        cases e104
        replace p104 := eq_true p104; replace q104 := eq_true q104
        go_wp2_with (first | ((with_reducible refine gate_callee (f := 50) rfl ?_); refine goesL_ (some 22) rfl rfl Tryd.func50 (by kernel_rfl) rfl #[.slice A0 l0.length c0, .string (rdOf ByteArray.empty t101 x4_1)] rfl pbb2_5 ?_; (with_reducible refine (F50.calls k1 _ _ l0 (rdOf ByteArray.empty t101 x4_1) t105 t106 true _ pme2_0 HC0.out A6.out).mono ?_); rintro e w11 ⟨rfl, hb⟩; refine ⟨_, rfl, ?_⟩; replace HO_3 := Aside0.mk (Kd.R_below pme2_1 hb); replace HB := Aside0.mk (below_step pbb2_9 hb); (try clear hb); (try clear hb2); (try clear hk); (try clear hi)))
        go_roundg k1
        case measure => have := HK1.out; omega
        case rel => exact ⟨(wrap64 (x4_1 + 1)), pbb2_3, H', ⟨pbb2_7⟩, ⟨pme2_1⟩, ⟨pbb2_9⟩⟩
       ·rw [if_neg c9] at H; have c9b0 := nF_ c9; have c9b1 := nT_ c9; obtain rfl := Option.some.inj H; obtain ⟨Ao12, co12, eo12⟩ := Kd.R_slice HO_3.out; subst eo12; have p104 : 0 ≤ (x4_1 : Int) := of_decide_eq_true pbb2_6; have q104 : x4_1 < (t101.length : Int) := of_decide_eq_true pbb2_6; obtain ⟨ad104, e104, hx104_0⟩ := Kd.at_string (Kd.R_reads' HO_3.out).2.2 x4_1 p104 q104
        cases e104
        replace p104 := eq_true p104; replace q104 := eq_true q104
        go_wp2_with (first | ((with_reducible refine gate_callee (f := 50) rfl ?_); refine goesL_ (some 22) rfl rfl Tryd.func50 (by kernel_rfl) rfl #[.slice A0 l0.length c0, .string (rdOf ByteArray.empty t101 x4_1)] rfl pbb2_5 ?_; (with_reducible refine (F50.calls k1 _ _ l0 (rdOf ByteArray.empty t101 x4_1) t105 t106 true _ pme2_0 HC0.out A6.out).mono ?_); rintro e w13 ⟨rfl, hb⟩; refine ⟨_, rfl, ?_⟩; replace HO_3 := Aside0.mk (Kd.R_below pme2_1 hb); replace HB := Aside0.mk (below_step pbb2_9 hb); (try clear hb); (try clear hb2); (try clear hk); (try clear hi)))
        go_ret
        exact ⟨pbb2_18, pbb2_9⟩
      ·rw [if_neg c8] at H; have c8b0 := nF_ c8; have c8b1 := nT_ c8; obtain rfl := Option.some.inj H; obtain ⟨Ao14, co14, eo14⟩ := Kd.R_slice HO_3.out; subst eo14; have p104 : 0 ≤ (x4_1 : Int) := of_decide_eq_true pbb2_6; have q104 : x4_1 < (t101.length : Int) := of_decide_eq_true pbb2_6; obtain ⟨ad104, e104, hx104_0⟩ := Kd.at_string (Kd.R_reads' HO_3.out).2.2 x4_1 p104 q104
       cases e104
       replace p104 := eq_true p104; replace q104 := eq_true q104
       go_wp2_with (first | ((with_reducible refine gate_callee (f := 50) rfl ?_); refine goesL_ (some 22) rfl rfl Tryd.func50 (by kernel_rfl) rfl #[.slice A0 l0.length c0, .string (rdOf ByteArray.empty t101 x4_1)] rfl pbb2_5 ?_; (with_reducible refine (F50.calls k1 _ _ l0 (rdOf ByteArray.empty t101 x4_1) t105 t106 true _ pme2_0 HC0.out A6.out).mono ?_); rintro e w15 ⟨rfl, hb⟩; refine ⟨_, rfl, ?_⟩; replace HO_3 := Aside0.mk (Kd.R_below pme2_1 hb); replace HB := Aside0.mk (below_step pbb2_9 hb); (try clear hb); (try clear hb2); (try clear hk); (try clear hi)))
       go_ret
       exact ⟨pbb2_18, pbb2_9⟩
     ·replace c7 := Bool.eq_false_iff.mpr c7; subst c7; rw [if_neg (show ¬ (false = true) by decide)] at H; obtain rfl := Option.some.inj H; obtain ⟨Ao16, co16, eo16⟩ := Kd.R_slice HO_3.out; subst eo16; have p104 : 0 ≤ (x4_1 : Int) := of_decide_eq_true pbb2_6; have q104 : x4_1 < (t101.length : Int) := of_decide_eq_true pbb2_6; obtain ⟨ad104, e104, hx104_0⟩ := Kd.at_string (Kd.R_reads' HO_3.out).2.2 x4_1 p104 q104
      cases e104
      replace p104 := eq_true p104; replace q104 := eq_true q104
      go_wp2_with (first | ((with_reducible refine gate_callee (f := 50) rfl ?_); refine goesL_ (some 22) rfl rfl Tryd.func50 (by kernel_rfl) rfl #[.slice A0 l0.length c0, .string (rdOf ByteArray.empty t101 x4_1)] rfl pbb2_5 ?_; (with_reducible refine (F50.calls k1 _ _ l0 (rdOf ByteArray.empty t101 x4_1) t105 t106 false _ pme2_0 HC0.out A6.out).mono ?_); rintro e w17 ⟨rfl, hb⟩; refine ⟨_, rfl, ?_⟩; replace HO_3 := Aside0.mk (Kd.R_below pme2_1 hb); replace HB := Aside0.mk (below_step pbb2_9 hb); (try clear hb); (try clear hb2); (try clear hk); (try clear hi)))
      go_ret
      exact ⟨pbb2_18, pbb2_9⟩
    ·rw [if_neg c5] at H; exact absurd H (by simp)
   ·rw [if_neg c4] at H; have c4b0 := decide_eq_false c4; clear c4; obtain rfl := Option.some.inj H; obtain ⟨Ao18, co18, eo18⟩ := Kd.R_slice HO_3.out; subst eo18
    go_wp2
    go_ret
    exact ⟨pbb2_18, pbb2_9⟩
end Go.Proofs.YtjeecehhcajfaaaDoor.M
end
section
namespace Go.Proofs.YtjeecehhcajfaaaDoor.M
open Go.RowKit Go.Proofs.YtjeecehhcajfaaaDoorW.PrintWords Go.Proofs.YtjeecehhcajfaaaDoorW.PrintLast
set_option linter.unusedVariables false
set_option linter.unusedSimpArgs false
section
variable {κ : Type} [DecidableEq κ]
def amtsOf (key : Li → κ) (l : List Li) (k : κ) : List Int := (l.filter (fun x => decide (key x = k))).map (·.f2)
def basesOf (key : Li → κ) (l : List Li) (k : κ) : List Int := (l.filter (fun x => decide (key x = k))).map (·.f3)
theorem amts_snoc (key : Li → κ) (p : List Li) (x : Li) (k : κ) : amtsOf key (p ++ [x]) k = amtsOf key p k ++ (if key x = k then [x.f2] else []) := by
 unfold amtsOf
 rw [List.filter_append, List.map_append]
 by_cases c : key x = k <;> simp [c]
theorem bases_snoc (key : Li → κ) (p : List Li) (x : Li) (k : κ) : basesOf key (p ++ [x]) k = basesOf key p k ++ (if key x = k then [x.f3] else []) := by
 unfold basesOf
 rw [List.filter_append, List.map_append]
 by_cases c : key x = k <;> simp [c]
def colInv (key : Li → κ) (pre : List Li) (L : List (Col κ)) : Prop := (∀ q ∈ L, q.2.1 = amtsOf key pre q.1 ∧ q.2.2 = basesOf key pre q.1) ∧ ∀ k, k ∈ L.map (·.1) ↔ ∃ x ∈ pre, key x = k
theorem colInv_step (key : Li → κ) (pre : List Li) (L : List (Col κ)) (x : Li) (h : colInv key pre L) : colInv key (pre ++ [x]) (colStep key L x) := by
 have hn : ∀ q ∈ colNew L (key x), q.2.1 = amtsOf key pre q.1 ∧ q.2.2 = basesOf key pre q.1 := by
  intro q hq
  unfold colNew at hq
  by_cases c : L.any (fun q => decide (q.1 = key x)) = true
  ·rw [if_pos c] at hq; exact h.1 q hq
  ·rw [if_neg c] at hq
   rcases List.mem_append.1 hq with h3 | h3
   ·exact h.1 q h3
   ·simp only [List.mem_singleton] at h3; subst h3; have hno : ∀ y ∈ pre, ¬ key y = key x := fun y hy e => c ((any_key L _).2 ((h.2 _).2 ⟨y, hy, e⟩))
    have hf : pre.filter (fun y => decide (key y = key x)) = [] := by
     rw [List.filter_eq_nil_iff]; intro y hy
     simpa using hno y hy
    simp [amtsOf, basesOf, hf]
 constructor
 ·intro q hq
  unfold colStep colPut at hq
  obtain ⟨q0, hq0, rfl⟩ := List.mem_map.1 hq; obtain ⟨h1, h2⟩ := hn q0 hq0
  by_cases c : q0.1 = key x
  ·rw [if_pos c]; simp only [amtsOf, basesOf, List.filter_append, List.map_append]; rw [h1, h2]
   simp [amtsOf, basesOf, c]
  ·rw [if_neg c]; have c2 : ¬ key x = q0.1 := fun e => c e.symm; simp only [amtsOf, basesOf, List.filter_append, List.map_append]; rw [h1, h2]
   simp [amtsOf, basesOf, c2]
 ·intro k
  unfold colStep
  rw [colPut_keys]
  have hk : k ∈ (colNew L (key x)).map (·.1) ↔ k ∈ L.map (·.1) ∨ k = key x := by
   unfold colNew
   by_cases c : L.any (fun q => decide (q.1 = key x)) = true
   ·rw [if_pos c]; exact ⟨.inl, fun hh => hh.elim id (fun e => e ▸ (any_key L _).1 c)⟩
   ·rw [if_neg c]; simp
  rw [hk, h.2 k]
  constructor
  ·rintro (⟨y, hy, e⟩ | e)
   ·exact ⟨y, List.mem_append_left _ hy, e⟩
   ·exact ⟨x, by simp, e.symm⟩
  ·rintro ⟨y, hy, e⟩
   rcases List.mem_append.1 hy with hy | hy
   ·exact .inl ⟨y, hy, e⟩
   ·simp only [List.mem_singleton] at hy; subst hy; exact .inr e.symm
theorem colInv_fold (key : Li → κ) : ∀ (l pre : List Li) (L : List (Col κ)), colInv key pre L → colInv key (pre ++ l) (l.foldl (colStep key) L)
 | [], pre, L, h => by simpa using h
 | x :: l, pre, L, h => by
  have := colInv_fold key l (pre ++ [x]) _ (colInv_step key pre L x h)
  simpa using this
theorem colsOf_inv (key : Li → κ) (l : List Li) : colInv key l (colsOf key l) := by
 have := colInv_fold key l [] [] ⟨by simp, by simp⟩
 simpa [colsOf] using this
end
def sumE (lim : Int) (l : List Int) : Int × Int := if -lim ≤ l.sum ∧ l.sum ≤ lim then (l.sum, 0) else (0, 4)
theorem F51.eq (lim : Int) (h0 : 0 ≤ lim) (h1 : lim ≤ 9223372036854775807) (l : List Int) (hl : l.length ≤ 1000000) (hx : ∀ x ∈ l, inW x) : F51.f lim l = some (sumE lim l) := by
 unfold F51.f
 rw [F74.eq l hl hx, Option.bind_some]
 unfold sumv sumE F36.f
 rw [w64 (n := -lim) (by omega) (by omega)]
 by_cases c : inW l.sum
 ·simp only [if_pos c, if_true]
  by_cases c1 : -lim ≤ l.sum
  ·by_cases c2 : l.sum ≤ lim
   ·simp [c1, c2]
   ·simp [c1, c2]
  ·have c1' : ¬ l.sum ≥ -lim := c1
   simp [c1, c1']
 ·have : ¬ (-lim ≤ l.sum ∧ l.sum ≤ lim) := fun h => c (by unfold inW; omega)
  simp [c, this]
theorem bothf.eq (lim : Int) (h0 : 0 ≤ lim) (h1 : lim ≤ 9223372036854775807) (A B : List Int) (ha : A.length ≤ 1000000) (hb : B.length ≤ 1000000) (hxa : ∀ x ∈ A, inW x) (hxb : ∀ x ∈ B, inW x) : bothf lim A B = some (if (-lim ≤ A.sum ∧ A.sum ≤ lim) ∧ (-lim ≤ B.sum ∧ B.sum ≤ lim) then (A.sum, B.sum, 0) else (0, 0, 4)) := by
 unfold bothf
 rw [F51.eq lim h0 h1 A ha hxa, Option.bind_some, F51.eq lim h0 h1 B hb hxb]
 unfold sumE
 by_cases c1 : -lim ≤ A.sum ∧ A.sum ≤ lim
 ·by_cases c2 : -lim ≤ B.sum ∧ B.sum ≤ lim
  ·simp [c1, c2]
  ·simp [c1, c2]
 ·simp [c1]
def okA (l : List Li) : Prop := l.length ≤ 1000000 ∧ ∀ x ∈ l, inW x.f2 ∧ inW x.f3
theorem amts_in {κ : Type} [DecidableEq κ] (key : Li → κ) {l : List Li} (h : okA l) (k : κ) : (amtsOf key l k).length ≤ 1000000 ∧ (basesOf key l k).length ≤ 1000000 ∧ (∀ x ∈ amtsOf key l k, inW x) ∧ ∀ x ∈ basesOf key l k, inW x := by
 have hf : (l.filter (fun x => decide (key x = k))).length ≤ l.length := List.length_filter_le _ _; refine ⟨by unfold amtsOf; rw [List.length_map]; have := h.1; omega, by unfold basesOf; rw [List.length_map]; have := h.1; omega, fun y hy => ?_, fun y hy => ?_⟩
 ·obtain ⟨x, hx, rfl⟩ := List.mem_map.1 hy; exact (h.2 x ((List.mem_filter.1 hx).1)).1
 ·obtain ⟨x, hx, rfl⟩ := List.mem_map.1 hy; exact (h.2 x ((List.mem_filter.1 hx).1)).2
def bal1 (l : List Li) (c : ByteArray) : Bool := decide ((amtsOf curKey l c).sum = 0 ∧ (basesOf curKey l c).sum = 0)
def balv (l : List Li) : Bool := l.all (fun x => bal1 l x.f1)
theorem balL_eq (l : List Li) (h : okA l) : ∀ L : List (Col ByteArray), (∀ q ∈ L, q.2.1 = amtsOf curKey l q.1 ∧ q.2.2 = basesOf curKey l q.1) → balL L = some (L.all (fun q => bal1 l q.1))
 | [], _ => rfl
 | q :: L, hq => by
  obtain ⟨h1, h2⟩ := hq q List.mem_cons_self; obtain ⟨b1, b2, b3, b4⟩ := amts_in curKey h q.1; have ih := balL_eq l h L (fun z hz => hq z (List.mem_cons_of_mem _ hz)); simp only [balL, h1, h2, bothf.eq 0 (by omega) (by omega) _ _ b1 b2 b3 b4, Option.bind_some, List.all_cons]
  unfold bal1
  by_cases c : (amtsOf curKey l q.1).sum = 0 ∧ (basesOf curKey l q.1).sum = 0
  ·obtain ⟨c1, c2⟩ := c; have e : (if (-0 ≤ (amtsOf curKey l q.1).sum ∧ (amtsOf curKey l q.1).sum ≤ 0) ∧ (-0 ≤ (basesOf curKey l q.1).sum ∧ (basesOf curKey l q.1).sum ≤ 0) then ((amtsOf curKey l q.1).sum, (basesOf curKey l q.1).sum, (0 : Int)) else (0, 0, 4)) = ((amtsOf curKey l q.1).sum, (basesOf curKey l q.1).sum, 0) := if_pos (by omega); rw [e]; simp only [if_true, c1, c2, and_self, decide_true, Bool.true_and]; exact ih
  ·have e : (if (-0 ≤ (amtsOf curKey l q.1).sum ∧ (amtsOf curKey l q.1).sum ≤ 0) ∧ (-0 ≤ (basesOf curKey l q.1).sum ∧ (basesOf curKey l q.1).sum ≤ 0) then ((amtsOf curKey l q.1).sum, (basesOf curKey l q.1).sum, (0 : Int)) else (0, 0, 4)) = (0, 0, 4) := if_neg (by omega); rw [e, decide_eq_false c]
   rfl
theorem all_keys (l : List Li) (p : ByteArray → Bool) (L : List (Col ByteArray)) (h : ∀ k, k ∈ L.map (·.1) ↔ ∃ x ∈ l, curKey x = k) : L.all (fun q => p q.1) = l.all (fun x => p x.f1) := by
 rw [Bool.eq_iff_iff, List.all_eq_true, List.all_eq_true]
 constructor
 ·intro hq x hx; obtain ⟨q, hq2, e⟩ := List.mem_map.1 ((h x.f1).2 ⟨x, hx, rfl⟩); rw [← e]; exact hq q hq2
 ·intro hx q hq; obtain ⟨x, hx2, e⟩ := (h q.1).1 (List.mem_map.2 ⟨q, hq, rfl⟩); rw [← e]; exact hx x hx2
theorem F23.eq (l : List Li) (h : okA l) : F23.f l = some (balv l) := by
 unfold F23.f balv
 rw [if_pos h.1]; have hi := colsOf_inv curKey l; rw [balL_eq l h _ hi.1, all_keys l (bal1 l) _ hi.2]
theorem refSums.go (l : List Li) (h : okA l) (c : ByteArray) : ∀ (n i : Nat) (A B : List Int), i + n = l.length → A = amtsOf curKey (l.take i) c → B = basesOf curKey (l.take i) c → Ev (fun k => F50.l0 k l c A B (i : Int)) ((sumv (amtsOf curKey l c)).1, (sumv (basesOf curKey l c)).1, (sumv (amtsOf curKey l c)).2 && (sumv (basesOf curKey l c)).2)
 | 0, i, A, B, hi, hA, hB => by
  have ht : l.take i = l := List.take_of_length_le (by omega); rw [ht] at hA hB; obtain ⟨b1, b2, b3, b4⟩ := amts_in curKey h c; refine Ev.succ ?_; simp only [F50.l0, if_neg (show ¬ (i : Int) < (l.length : Int) by omega)]; rw [hA, hB]; refine Ev.bind (refSum.eq _ b1 b3) (Ev.bind (refSum.eq _ b2 b4) ?_)
  cases hh : (sumv (amtsOf curKey l c)).2 with
  | true => simp only [if_true, Bool.true_and]; exact Ev.const _
  | false => simp only [Bool.false_eq_true, if_false, Bool.false_and]; exact Ev.const _
 | n + 1, i, A, B, hi, hA, hB => by
  have hlt : i < l.length := by omega
  have hll := h.1; have hrd : rd_T24 l (i : Int) = l[i] := by simp [rd_T24, hlt]
  have hAl : A.length ≤ i := by
   rw [hA]; unfold amtsOf; rw [List.length_map]; refine Nat.le_trans (List.length_filter_le _ _) ?_; rw [List.length_take]; omega
  have hBl : B.length ≤ i := by
   rw [hB]; unfold basesOf; rw [List.length_map]; refine Nat.le_trans (List.length_filter_le _ _) ?_; rw [List.length_take]; omega
  refine Ev.succ ?_; simp only [F50.l0, if_pos (show (i : Int) < (l.length : Int) by omega), if_pos (show (0 : Int) ≤ (i : Int) by omega), hrd, byt_inj, w64s (show i ≤ 1000000000 by omega)]
  by_cases e : l[i].f1 = c
  ·simp only [if_pos e, if_pos (show A.length < 17592186044416 by omega), if_pos (show B.length < 17592186044416 by omega)]; refine refSums.go l h c n (i + 1) _ _ (by omega) ?_ ?_
   ·rw [hA, List.take_succ_eq_append_getElem hlt, amts_snoc, if_pos (show curKey l[i] = c from e)]
   ·rw [hB, List.take_succ_eq_append_getElem hlt, bases_snoc, if_pos (show curKey l[i] = c from e)]
  ·simp only [if_neg e]; refine refSums.go l h c n (i + 1) _ _ (by omega) ?_ ?_
   ·rw [hA, List.take_succ_eq_append_getElem hlt, amts_snoc, if_neg (show ¬ curKey l[i] = c from e), List.append_nil]
   ·rw [hB, List.take_succ_eq_append_getElem hlt, bases_snoc, if_neg (show ¬ curKey l[i] = c from e), List.append_nil]
theorem refSums.eq (l : List Li) (h : okA l) (c : ByteArray) : Ev (fun k => F50.f k l c) ((sumv (amtsOf curKey l c)).1, (sumv (basesOf curKey l c)).1, (sumv (amtsOf curKey l c)).2 && (sumv (basesOf curKey l c)).2) := by
 unfold F50.f
 exact refSums.go l h c l.length 0 [] [] (by omega) (by simp [amtsOf]) (by simp [basesOf])
def cursOf (l : List Li) : List ByteArray := l.foldl (fun o x => insC o x.f1) []
theorem cursOf_fold (l : List Li) : cursOf l = isortC (l.map (·.f1)) := by
 unfold cursOf isortC
 rw [List.foldl_map]
theorem cursOf_mem (l : List Li) (c : ByteArray) : c ∈ cursOf l ↔ ∃ x ∈ l, x.f1 = c := by
 rw [cursOf_fold]
 unfold isortC
 rw [foldC_mem]
 simp
theorem cursOf_keys (l : List Li) : isortC ((colsOf curKey l).map (·.1)) = cursOf l := by
 rw [cursOf_fold]; refine sortedC_ext (foldC_sorted _ [] List.Pairwise.nil) (foldC_sorted _ [] List.Pairwise.nil) (fun x => ?_)
 unfold isortC
 rw [foldC_mem, foldC_mem, (colsOf_inv curKey l).2 x]
 simp [curKey]
theorem cursOf_len (l : List Li) : (cursOf l).length ≤ l.length := by
 have : ∀ (m : List Li) (o : List ByteArray), (m.foldl (fun o x => insC o x.f1) o).length ≤ o.length + m.length := by
  intro m
  induction m with
  | nil => intro o; simp
  | cons x m ih =>
   intro o; have h1 := ih (insC o x.f1); have h2 := insC_length o x.f1; simp only [List.foldl_cons, List.length_cons]
   omega
 have h := this l []
 simpa [cursOf] using h
theorem refBal.go (l : List Li) (h : okA l) (C : List ByteArray) (hC : C.length ≤ 1000000) : ∀ (n i : Nat), i + n = C.length → Ev (fun k => F24.l0 k l C (i : Int)) ((C.drop i).all (bal1 l))
 | 0, i, hi => by
  refine Ev.succ ?_; simp only [F24.l0, if_neg (show ¬ (i : Int) < (C.length : Int) by omega)]; rw [List.drop_eq_nil_of_le (by omega)]; exact Ev.const _
 | n + 1, i, hi => by
  have hlt : i < C.length := by omega
  have hrd : rdOf ByteArray.empty C (i : Int) = C[i] := by simp [rdOf, hlt]
  have ih := refBal.go l h C hC n (i + 1) (by omega); refine Ev.succ ?_; simp only [F24.l0, if_pos (show (i : Int) < (C.length : Int) by omega), if_pos (show (0 : Int) ≤ (i : Int) by omega), hrd, w64s (show i ≤ 1000000000 by omega)]; refine Ev.bind (refSums.eq l h C[i]) ?_; rw [List.drop_eq_getElem_cons hlt, List.all_cons]
  unfold bal1 sumv
  by_cases c1 : (amtsOf curKey l C[i]).sum = 0
  ·by_cases c2 : (basesOf curKey l C[i]).sum = 0
   ·have e1 : inW (amtsOf curKey l C[i]).sum := by rw [c1]; unfold inW; omega
    have e2 : inW (basesOf curKey l C[i]).sum := by rw [c2]; unfold inW; omega
    have e1' : inW 0 := by unfold inW; omega
    simp only [c1, c2, if_pos e1', Bool.and_self, if_true, and_self, decide_true, Bool.true_and]; exact ih
   ·have e1' : inW 0 := by unfold inW; omega
    by_cases e2 : inW (basesOf curKey l C[i]).sum
    ·simp only [c1, if_pos e1', if_pos e2, Bool.and_self, if_true, if_neg c2, c2, and_false, decide_false, Bool.false_and]; exact Ev.const _
    ·simp only [c1, if_pos e1', if_neg e2, Bool.and_false, Bool.false_eq_true, if_false, c2, and_false, decide_false, Bool.false_and]; exact Ev.const _
  ·by_cases e1 : inW (amtsOf curKey l C[i]).sum
   ·by_cases e2 : inW (basesOf curKey l C[i]).sum
    ·simp only [if_pos e1, if_pos e2, Bool.and_self, if_true, if_neg c1, c1, false_and, decide_false, Bool.false_and]; exact Ev.const _
    ·simp only [if_pos e1, if_neg e2, Bool.and_false, Bool.false_eq_true, if_false, c1, false_and, decide_false, Bool.false_and]; exact Ev.const _
   ·simp only [if_neg e1, Bool.false_and, Bool.false_eq_true, if_false, c1, false_and, decide_false]; exact Ev.const _
theorem refBal.eq (l : List Li) (h : okA l) : Ev (fun k => F24.f k l) (balv l) := by
 unfold F24.f F49.f
 simp only [if_pos h.1, Option.bind_some]; have h1 := refBal.go l h (cursOf l) (Nat.le_trans (cursOf_len l) h.1) (cursOf l).length 0 (by omega)
 have h2 : ((cursOf l).drop 0).all (bal1 l) = balv l := by
  rw [List.drop_zero]
  unfold balv
  rw [Bool.eq_iff_iff, List.all_eq_true, List.all_eq_true]
  constructor
  ·exact fun hc x hx => hc _ ((cursOf_mem l _).2 ⟨x, hx, rfl⟩)
  ·intro hx c hc; obtain ⟨x, hx2, rfl⟩ := (cursOf_mem l c).1 hc; exact hx x hx2
 rw [h2] at h1; exact h1
theorem lit_inW {x : Int} (h : (Lit.int .i64 x).wf = true) : inW x := by
 unfold inW
 simp [Lit.wf, IntKind.min, IntKind.max, IntKind.bits, IntKind.signed] at h
 omega
theorem G24_okA2 {l : List Li} (h : ∀ z ∈ l, G24 z) (hl : l.length ≤ 150) : okA l := by
 refine ⟨by omega, fun z hz => ?_⟩; obtain ⟨_, _, h2, h3, _⟩ := h z hz; exact ⟨lit_inW h2, lit_inW h3⟩
abbrev Sm := S61
def fitS (a : Int) : Prop := -1000000000000000 ≤ a ∧ a ≤ 1000000000000000
instance (x : Int) : Decidable (fitS x) := by unfold fitS; infer_instance
def sumsV (l : List Li) : List ByteArray → List Sm → List Sm × Int
 | [], out => (out, 0)
 | c :: r, out => if fitS (amtsOf curKey l c).sum ∧ fitS (basesOf curKey l c).sum then sumsV l r (out ++ [⟨c, (amtsOf curKey l c).sum, (basesOf curKey l c).sum⟩]) else ([], 4)
def sumsv (l : List Li) : List Sm × Int := sumsV l (cursOf l) []
theorem find_col {κ : Type} [DecidableEq κ] {key : Li → κ} {l : List Li} {k : κ} (h : ∃ x ∈ l, key x = k) : ∃ q, (colsOf key l).find? (fun q => decide (q.1 = k)) = some q ∧ q.2.1 = amtsOf key l k ∧ q.2.2 = basesOf key l k := by
 have hi := colsOf_inv key l
 cases hf : (colsOf key l).find? (fun q => decide (q.1 = k)) with
 | none =>
  obtain ⟨q, hq, e⟩ := List.mem_map.1 ((hi.2 k).2 h); have := List.find?_eq_none.1 hf q hq
  simp [e] at this
 | some q =>
  have hk : q.1 = k := by simpa using List.find?_some hf
  have := hi.1 q (List.mem_of_find?_eq_some hf); rw [hk] at this; exact ⟨q, rfl, this.1, this.2⟩
theorem sumsL_eq (l : List Li) (h : okA l) : ∀ (C : List ByteArray) (out : List Sm), (∀ c ∈ C, ∃ x ∈ l, curKey x = c) → sumsL (colsOf curKey l) C out = some (sumsV l C out)
 | [], out, _ => rfl
 | c :: C, out, hC => by
  obtain ⟨q, hq, h1, h2⟩ := find_col (hC c List.mem_cons_self); obtain ⟨b1, b2, b3, b4⟩ := amts_in curKey h c; have ih := fun o => sumsL_eq l h C o (fun d hd => hC d (List.mem_cons_of_mem _ hd)); simp only [sumsL, hq, h1, h2, bothf.eq 1000000000000000 (by omega) (by omega) _ _ b1 b2 b3 b4, Option.bind_some, sumsV]
  by_cases e : fitS (amtsOf curKey l c).sum ∧ fitS (basesOf curKey l c).sum
  ·have e2 := e
   unfold fitS at e2
   simp only [if_pos e, if_pos e2, if_true]; exact ih _
  ·have e2 := e
   unfold fitS at e2
   simp only [if_neg e, if_neg e2]
   rfl
theorem F18.eq (l : List Li) (h : okA l) : F18.f l = some (sumsv l) := by
 unfold F18.f sumsv
 rw [if_pos h.1, cursOf_keys]; exact sumsL_eq l h _ _ (fun c hc => (cursOf_mem l c).1 hc)
end Go.Proofs.YtjeecehhcajfaaaDoor.M
end
section
namespace Go.Proofs.YtjeecehhcajfaaaDoor.M
open Go.RowKit Go.Proofs.YtjeecehhcajfaaaDoorW.PrintWords Go.Proofs.YtjeecehhcajfaaaDoorW.PrintLast
set_option linter.unusedVariables false
set_option linter.unusedSimpArgs false
set_option linter.unusedSectionVars false
def fitL (a : Int) : Prop := -1000000000000 ≤ a ∧ a ≤ 1000000000000
instance (x : Int) : Decidable (fitL x) := by unfold fitL; infer_instance
def asum (l : List Li) (x : Li) : Int := (amtsOf keyL l (keyL x)).sum
def bsum (l : List Li) (x : Li) : Int := (basesOf keyL l (keyL x)).sum
def mline (l : List Li) (x : Li) : Li := ⟨x.f0, x.f1, asum l x, bsum l x, x.f4, x.f5, x.f6⟩
def mv (l : List Li) : List Li → List Li → List Li → List Li × Int
 | [], _, out => (out, 0)
 | x :: r, pre, out => if (pre.any fun y => decide (keyL y = keyL x)) = true then mv l r (pre ++ [x]) out else
   if fitL (asum l x) ∧ fitL (bsum l x) then (if asum l x = 0 ∧ bsum l x = 0 then mv l r (pre ++ [x]) out else mv l r (pre ++ [x]) (out ++ [mline l x])) else ([], 4)
def mergev (l : List Li) : List Li × Int := mv l l [] []
theorem aget_aput {κ ν : Type} [DecidableEq κ] (k : κ) (v : ν) (k' : κ) : ∀ L : List (κ × ν), aget (aput L k v) k' = if k = k' then some v else aget L k'
 | [] => by simp [aput, aget]
 | p :: r => by
  have ih := aget_aput k v k' r
  by_cases c : p.1 = k
  ·subst c; simp only [aput, if_true, aget]
   by_cases c2 : p.1 = k' <;> simp [c2]
  ·simp only [aput, if_neg c, aget, ih]
   by_cases c2 : p.1 = k'
   ·rw [if_pos c2, if_pos c2, if_neg (fun e => c (by rw [c2, e]))]
   ·rw [if_neg c2, if_neg c2]
theorem mergeL_eq (l : List Li) (h : okA l) : ∀ (r pre : List Li) (seen : List (Key × Bool)) (out : List Li), (∀ x ∈ r, x ∈ l) → (∀ k, (aget seen k).getD false = true ↔ ∃ y ∈ pre, keyL y = k) → mergeL (colsOf keyL l) r seen out = some (mv l r pre out)
 | [], _, _, _, _, _ => rfl
 | x :: r, pre, seen, out, hr, hs => by
  have hx : x ∈ l := hr x List.mem_cons_self; have hr2 : ∀ y ∈ r, y ∈ l := fun y hy => hr y (List.mem_cons_of_mem _ hy)
  have hany : (pre.any fun y => decide (keyL y = keyL x)) = true ↔ (aget seen (keyL x)).getD false = true := by
   rw [hs, List.any_eq_true]; simp only [decide_eq_true_eq]
  simp only [mergeL, mv]
  by_cases c : (aget seen (keyL x)).getD false = true
  ·rw [if_pos c, if_pos (hany.2 c)]; refine mergeL_eq l h r _ _ _ hr2 (fun k => ?_); rw [hs k]
   constructor
   ·rintro ⟨y, hy, e⟩; exact ⟨y, List.mem_append_left _ hy, e⟩
   ·rintro ⟨y, hy, e⟩
    rcases List.mem_append.1 hy with hy | hy
    ·exact ⟨y, hy, e⟩
    ·rw [List.mem_singleton] at hy; subst hy; obtain ⟨z, hz, e2⟩ := (hs _).1 c; exact ⟨z, hz, e2.trans e⟩
  ·rw [if_neg c, if_neg (fun hh => c (hany.1 hh))]; obtain ⟨q, hq, h1, h2⟩ := find_col (key := keyL) (l := l) (k := keyL x) ⟨x, hx, rfl⟩; obtain ⟨b1, b2, b3, b4⟩ := amts_in keyL h (keyL x)
   have hs2 : ∀ k, (aget (aput seen (keyL x) true) k).getD false = true ↔ ∃ y ∈ pre ++ [x], keyL y = k := by
    intro k; rw [aget_aput]
    by_cases e : keyL x = k
    ·rw [if_pos e]; exact ⟨fun _ => ⟨x, by simp, e⟩, fun _ => rfl⟩
    ·rw [if_neg e, hs k]
     constructor
     ·rintro ⟨y, hy, e1⟩; exact ⟨y, List.mem_append_left _ hy, e1⟩
     ·rintro ⟨y, hy, e1⟩
      rcases List.mem_append.1 hy with hy | hy
      ·exact ⟨y, hy, e1⟩
      ·rw [List.mem_singleton] at hy; subst hy; exact absurd e1 e
   simp only [hq, h1, h2, bothf.eq 1000000000000 (by omega) (by omega) _ _ b1 b2 b3 b4, Option.bind_some]; have ih := fun o => mergeL_eq l h r _ _ o hr2 hs2
   by_cases e : fitL (asum l x) ∧ fitL (bsum l x)
   ·have e2 := e
    unfold fitL asum bsum at e2
    simp only [if_pos e, if_pos e2, if_true]
    by_cases z : asum l x = 0 ∧ bsum l x = 0
    ·have z2 := z
     unfold asum bsum at z2
     rw [if_pos z, if_pos z2]; exact ih _
    ·have z2 := z
     unfold asum bsum at z2
     rw [if_neg z, if_neg z2]; exact ih _
   ·have e2 := e
    unfold fitL asum bsum at e2
    simp only [if_neg e, if_neg e2]
    rfl
theorem F25.eq (l : List Li) (h : okA l) (ht : ∀ x ∈ l, okTags x.f6) : F25.f l = some (mergev l) := by
 unfold F25.f mergev
 rw [if_pos ⟨h.1, ht⟩]; exact mergeL_eq l h l [] [] [] (fun _ hx => hx) (fun k => by simp [aget])
theorem mv_mem (l : List Li) (T : Li → Prop) (hm : ∀ x, T x → T (mline l x)) : ∀ (r pre out : List Li), (∀ x ∈ r, T x) → (∀ x ∈ out, T x) → (∀ x ∈ (mv l r pre out).1, T x)
 | [], _, out, _, ho => ho
 | x :: r, pre, out, hr, ho => by
  have hr2 : ∀ y ∈ r, T y := fun y hy => hr y (List.mem_cons_of_mem _ hy); simp only [mv]
  split
  ·exact mv_mem l T hm r _ _ hr2 ho
  ·split
   ·split
    ·exact mv_mem l T hm r _ _ hr2 ho
    ·refine mv_mem l T hm r _ _ hr2 (fun y hy => ?_)
     rcases List.mem_append.1 hy with hy | hy
     ·exact ho y hy
     ·rw [List.mem_singleton.1 hy]; exact hm x (hr x List.mem_cons_self)
   ·intro y hy; simp at hy
theorem mv_len (l : List Li) : ∀ (r pre out : List Li), (mv l r pre out).1.length ≤ out.length + r.length
 | [], _, out => by simp [mv]
 | x :: r, pre, out => by
  have ih := fun p o => mv_len l r p o; simp only [mv]
  split
  ·have := ih (pre ++ [x]) out; simp only [List.length_cons]; omega
  ·split
   ·split
    ·have := ih (pre ++ [x]) out; simp only [List.length_cons]; omega
    ·have := ih (pre ++ [x]) (out ++ [mline l x]); simp only [List.length_append, List.length_cons, List.length_nil] at this ⊢
     omega
   ·simp
theorem merge_ok {l : List Li} (h : okA l) (hl : ∀ x ∈ l, okL x) : (mergev l).1.length ≤ l.length ∧ ∀ x ∈ (mergev l).1, okL x :=
 ⟨by have := mv_len l l [] []; simpa [mergev] using this, mv_mem l okL (fun x hx => hx) l [] [] hl (by simp)⟩
theorem withinL.eq (a : Int) : F41.f a 1000000000000 = some (decide (fitL a)) := by
 unfold F41.f
 rw [w64 (n := -1000000000000) (by omega) (by omega)]
 by_cases c : a ≥ -1000000000000
 ·rw [if_pos c]
  by_cases c2 : a ≤ 1000000000000
  ·rw [decide_eq_true c2, decide_eq_true (show fitL a from ⟨c, c2⟩)]
  ·rw [decide_eq_false c2, decide_eq_false (show ¬ fitL a from fun hh => c2 hh.2)]
 ·rw [if_neg c, decide_eq_false (show ¬ fitL a from fun hh => c hh.1)]
theorem alike_key (x y : Li) (hx : okL x) (hy : okTags y.f6) : Ev (fun k => F55.f k x.f0 x.f1 x.f2 x.f3 x.f4 x.f5 x.f6 y.f0 y.f1 y.f2 y.f3 y.f4 y.f5 y.f6) (decide (keyL x = keyL y)) := by
 have e : alikev x y = decide (keyL x = keyL y) := by
  rw [Bool.eq_iff_iff, decide_eq_true_eq]; exact (keyL_eq hx.2.2.2.2 hy).symm
 rw [← e]; exact alike.eq x y hx
section
variable (l : List Li) (h : okA l) (hl : ∀ x ∈ l, okL x)
include h hl
theorem refM.l1 (out : List Li) (i : Nat) (hi : i < l.length) (R : List Li × Int)
  (hy : ((l.take i).any fun y => decide (keyL y = keyL l[i])) = false → Ev (fun k => F26.l2 k l out (i : Int) [] [] (i : Int)) R)
  (hn : ((l.take i).any fun y => decide (keyL y = keyL l[i])) = true → Ev (fun k => F26.l0 k l out ((i + 1 : Nat) : Int)) R) :
  ∀ (n j : Nat) (b : Bool), j + n = i → b = !((l.take j).any fun y => decide (keyL y = keyL l[i])) → Ev (fun k => F26.l1 k l out (i : Int) b (j : Int)) R
 | 0, j, b, hj, hb => by
  have e : j = i := by omega
  subst e; have hll := h.1; refine Ev.succ ?_; simp only [F26.l1, if_neg (show ¬ (j : Int) < (j : Int) by omega), w64s (show j ≤ 1000000000 by omega)]
  cases ha : ((l.take j).any fun y => decide (keyL y = keyL l[j])) with
  | false =>
   rw [ha] at hb; subst hb; simp only [Bool.not_false, if_true]; exact hy ha
  | true =>
   rw [ha] at hb; subst hb; simp only [Bool.not_true, Bool.false_eq_true, if_false]; exact hn ha
 | n + 1, j, b, hj, hb => by
  have hll := h.1; have hlt : j < l.length := by omega
  have hrd : rd_T24 l (j : Int) = l[j] := by simp [rd_T24, hlt]
  have hri : rd_T24 l (i : Int) = l[i] := by simp [rd_T24, hi]
  have hst : ((l.take (j + 1)).any fun y => decide (keyL y = keyL l[i])) = (((l.take j).any fun y => decide (keyL y = keyL l[i])) || decide (keyL l[j] = keyL l[i])) := by
   rw [List.take_succ_eq_append_getElem hlt, List.any_append]; simp
  refine Ev.succ ?_; simp only [F26.l1, if_pos (show (j : Int) < (i : Int) by omega), w64s (show j ≤ 1000000000 by omega), if_pos (show (0 : Int) ≤ (j : Int) by omega), if_pos (show (0 : Int) ≤ (i : Int) by omega), if_pos (show (j : Int) < (l.length : Int) by omega), if_pos (show (i : Int) < (l.length : Int) by omega), hrd, hri]
  cases hb2 : b with
  | true =>
   simp only [if_true]; refine Ev.bind (alike_key l[j] l[i] (hl _ (List.getElem_mem hlt)) (hl _ (List.getElem_mem hi)).2.2.2.2) ?_; refine refM.l1 out i hi R hy hn n (j + 1) _ (by omega) ?_; have : ((l.take j).any fun y => decide (keyL y = keyL l[i])) = false := by rw [hb2] at hb; simpa using hb.symm
   rw [hst, this, Bool.false_or]
  | false =>
   simp only [Bool.false_eq_true, if_false]; refine refM.l1 out i hi R hy hn n (j + 1) _ (by omega) ?_; have : ((l.take j).any fun y => decide (keyL y = keyL l[i])) = true := by rw [hb2] at hb; simpa using hb.symm
   rw [hst, this, Bool.true_or]; rfl
theorem refM.l2 (out : List Li) (i : Nat) (hi : i < l.length) (R : List Li × Int)
  (hy : fitL (asum l l[i]) ∧ fitL (bsum l l[i]) → Ev (fun k => F26.j3 k l out (i : Int) (asum l l[i]) (bsum l l[i]) false) R)
  (hn : ¬ (fitL (asum l l[i]) ∧ fitL (bsum l l[i])) → R = ([], 4)) :
  ∀ (n j : Nat) (A B : List Int), j + n = l.length → A = amtsOf keyL (l.take j) (keyL l[i]) → B = basesOf keyL (l.take j) (keyL l[i]) → Ev (fun k => F26.l2 k l out (i : Int) A B (j : Int)) R
 | 0, j, A, B, hj, hA, hB => by
  have ht : l.take j = l := List.take_of_length_le (by omega); rw [ht] at hA hB; obtain ⟨b1, b2, b3, b4⟩ := amts_in keyL h (keyL l[i]); refine Ev.succ ?_; simp only [F26.l2, if_neg (show ¬ (j : Int) < (l.length : Int) by omega)]; rw [hA, hB]; refine Ev.bind (refSum.eq _ b1 b3) (Ev.bind (refSum.eq _ b2 b4) ?_)
  have four : ∀ u v : Int, Ev (fun k => F26.j3 k l out (i : Int) u v true) ([], 4) := fun u v => by
   refine Ev.succ ?_; simp only [F26.j3, if_true]; exact Ev.const _
  unfold sumv
  by_cases e1 : inW (amtsOf keyL l (keyL l[i])).sum
  ·by_cases e2 : inW (basesOf keyL l (keyL l[i])).sum
   ·simp only [if_pos e1, if_pos e2, if_true, withinL.eq, Option.bind_some]
    by_cases f1 : fitL (amtsOf keyL l (keyL l[i])).sum
    ·by_cases f2 : fitL (basesOf keyL l (keyL l[i])).sum
     ·simp only [f1, f2, decide_true, if_true, Bool.not_true]; exact hy ⟨f1, f2⟩
     ·simp only [f1, f2, decide_true, decide_false, if_true, Bool.not_false]; rw [hn (fun hh => f2 hh.2)]; exact four _ _
    ·simp only [f1, decide_false, Bool.false_eq_true, if_false]; rw [hn (fun hh => f1 hh.1)]; exact four _ _
   ·simp only [if_pos e1, if_neg e2, if_true, Bool.false_eq_true, if_false]; rw [hn (fun hh => e2 (by have := hh.2; unfold fitL bsum at this; unfold inW; omega))]; exact four _ _
  ·simp only [if_neg e1, Bool.false_eq_true, if_false]; rw [hn (fun hh => e1 (by have := hh.1; unfold fitL asum at this; unfold inW; omega))]; exact four _ _
 | n + 1, j, A, B, hj, hA, hB => by
  have hll := h.1; have hlt : j < l.length := by omega
  have hrd : rd_T24 l (j : Int) = l[j] := by simp [rd_T24, hlt]
  have hri : rd_T24 l (i : Int) = l[i] := by simp [rd_T24, hi]
  have hAl : A.length ≤ j := by
   rw [hA]; unfold amtsOf; rw [List.length_map]; refine Nat.le_trans (List.length_filter_le _ _) ?_; rw [List.length_take]; omega
  have hBl : B.length ≤ j := by
   rw [hB]; unfold basesOf; rw [List.length_map]; refine Nat.le_trans (List.length_filter_le _ _) ?_; rw [List.length_take]; omega
  refine Ev.succ ?_; simp only [F26.l2, if_pos (show (0 : Int) ≤ (j : Int) by omega), if_pos (show (0 : Int) ≤ (i : Int) by omega), if_pos (show (j : Int) < (l.length : Int) by omega), if_pos (show (i : Int) < (l.length : Int) by omega), hrd, hri, w64s (show j ≤ 1000000000 by omega)]; refine Ev.bind (alike_key l[j] l[i] (hl _ (List.getElem_mem hlt)) (hl _ (List.getElem_mem hi)).2.2.2.2) ?_
  by_cases e : keyL l[j] = keyL l[i]
  ·simp only [decide_eq_true e, if_true, if_pos (show A.length < 17592186044416 by omega), if_pos (show B.length < 17592186044416 by omega)]; refine refM.l2 out i hi R hy hn n (j + 1) _ _ (by omega) ?_ ?_
   ·rw [hA, List.take_succ_eq_append_getElem hlt, amts_snoc, if_pos e]
   ·rw [hB, List.take_succ_eq_append_getElem hlt, bases_snoc, if_pos e]
  ·simp only [decide_eq_false e, Bool.false_eq_true, if_false]; refine refM.l2 out i hi R hy hn n (j + 1) _ _ (by omega) ?_ ?_
   ·rw [hA, List.take_succ_eq_append_getElem hlt, amts_snoc, if_neg e, List.append_nil]
   ·rw [hB, List.take_succ_eq_append_getElem hlt, bases_snoc, if_neg e, List.append_nil]
theorem refM.l0 : ∀ (n i : Nat) (out : List Li), i + n = l.length → out.length ≤ i → Ev (fun k => F26.l0 k l out (i : Int)) (mv l (l.drop i) (l.take i) out)
 | 0, i, out, hi, ho => by
  refine Ev.succ ?_; simp only [F26.l0, if_neg (show ¬ (i : Int) < (l.length : Int) by omega)]; rw [List.drop_eq_nil_of_le (by omega)]; exact Ev.const _
 | n + 1, i, out, hi, ho => by
  have hll := h.1; have hlt : i < l.length := by omega
  have hri : rd_T24 l (i : Int) = l[i] := by simp [rd_T24, hlt]
  have htk : l.take (i + 1) = l.take i ++ [l[i]] := List.take_succ_eq_append_getElem hlt; have ih := fun o ho => refM.l0 n (i + 1) o (by omega) ho; rw [htk] at ih; rw [List.drop_eq_getElem_cons hlt]; simp only [mv]; refine Ev.succ ?_; simp only [F26.l0, if_pos (show (i : Int) < (l.length : Int) by omega)]; refine refM.l1 l h hl out i hlt _ (fun hno => ?_) (fun hyes => ?_) i 0 true (by omega) (by simp)
  ·simp only [hno, Bool.false_eq_true, if_false]
   have hnil : ∀ y ∈ l.take i, ¬ keyL y = keyL l[i] := by
    intro y hy; have := List.any_eq_false.1 hno y hy
    simpa using this
   have hf : (l.take i).filter (fun y => decide (keyL y = keyL l[i])) = [] := by
    rw [List.filter_eq_nil_iff]; intro y hy
    simpa using hnil y hy
   refine refM.l2 l h hl out i hlt _ (fun hfit => ?_) (fun hnf => if_neg hnf) (n + 1) i [] [] (by omega) (by unfold amtsOf; rw [hf]; rfl) (by unfold basesOf; rw [hf]; rfl); rw [if_pos hfit]; have htg : (l[i].f6).length < 4398046511104 := by have := (hl _ (List.getElem_mem hlt)).2.2.2.2.1; omega
   refine Ev.succ ?_; simp only [F26.j3, Bool.false_eq_true, if_false, if_pos (show (0 : Int) ≤ (i : Int) by omega), if_pos (show (i : Int) < (l.length : Int) by omega), hri, Option.bind_some, List.length_nil, Nat.zero_add, if_pos htg, List.nil_append, w64s (show i ≤ 1000000000 by omega), if_pos (show out.length < 1353245080339 by omega)]
   by_cases z1 : asum l l[i] = 0
   ·by_cases z2 : bsum l l[i] = 0
    ·simp only [if_pos z1, if_pos z2, if_pos (And.intro z1 z2)]; exact ih _ (by omega)
    ·simp only [if_pos z1, if_neg z2, if_neg (show ¬ (asum l l[i] = 0 ∧ bsum l l[i] = 0) from fun hh => z2 hh.2)]; exact ih _ (by simp; omega)
   ·simp only [if_neg z1, if_neg (show ¬ (asum l l[i] = 0 ∧ bsum l l[i] = 0) from fun hh => z1 hh.1)]; exact ih _ (by simp; omega)
  ·simp only [hyes, if_true]; exact ih _ (by omega)
theorem refMerge.eq : Ev (fun k => F26.f k l) (mergev l) := by
 unfold F26.f mergev
 exact refM.l0 l h hl l.length 0 [] (by omega) (by simp)
end
end Go.Proofs.YtjeecehhcajfaaaDoor.M
end
section
namespace Go.Proofs.YtjeecehhcajfaaaDoor.M
open Go.RowKit Go.Proofs.YtjeecehhcajfaaaDoorW.PrintWords Go.Proofs.YtjeecehhcajfaaaDoorW.PrintLast
set_option linter.unusedVariables false
set_option linter.unusedSimpArgs false
theorem pure_EntryMerge : F6.Pure := by
 intro x hx; refine Ev.out (g := fun k => F6.f k x months) ?_
 unfold F6.f
 obtain ⟨b, hb, hb2⟩ := F12.ok x; refine Ev.bind hb ?_
 cases b with
 | false =>
  simp only [Bool.false_eq_true, if_false]; exact Ev.bind F13.true (Ev.const _)
 | true =>
  simp only [if_true]; obtain ⟨n1, t1⟩ := hb2 rfl; have hA := G24_okA2 hx.2 n1; have hL : ∀ z ∈ x, okL z := fun z hz => G24_ok (hx.2 z hz) (t1 z hz); obtain ⟨o1, o2⟩ := merge_ok hA hL; refine Ev.bind (Ev.of (fun _ => F25.eq x hA (fun z hz => (hL z hz).2.2.2.2))) (Ev.bind (refMerge.eq x hA hL) ?_); refine Ev.bind (refSameLines.eq (mergev x).1 (mergev x).1 (by have := hA.1; omega) o2) ?_; simp only [sameLsv_eq.2 rfl, if_true]; exact Ev.bind F13.true (Ev.const _)
end Go.Proofs.YtjeecehhcajfaaaDoor.M
namespace Go.Proofs.YtjeecehhcajfaaaDoor.Pure
theorem EntryMerge : M.F6.Pure := M.pure_EntryMerge
end Go.Proofs.YtjeecehhcajfaaaDoor.Pure
end
section
namespace Go.Proofs.YtjeecehhcajfaaaDoor.M
open Go.ChangeShapes Go.WideShapes Go.ChangeAt Go.RowKit Go.Proofs.YtjeecehhcajfaaaDoorW.PrintWords Go.Proofs.YtjeecehhcajfaaaDoorW.PrintLast
abbrev laidL : List (String × DataW Unit) := [("accounting/days.lengths", Rows.laid_accounting_days_lengths)]
theorem gLen : Tryd.prog.globalNamed "accounting/days.lengths" = some 0 := by kernel_rfl
theorem tLen : (Tryd.prog.globals[0]?).map (·.type) = some 136 := by kernel_rfl
theorem cLen : Tryd.prog.cellsOf 136 = 12 := by kernel_rfl
theorem cInt : Tryd.prog.cellsOf 3 = 1 := by kernel_rfl
set_option maxRecDepth 100000 in
theorem tab_of_laid {W : World} (h : laidMetH Tryd.prog laidL W) : Tab W := by
 rw [MakeChecks.laidMetH_plain _ _ _ (by kernel_rfl)] at h; obtain ⟨ps, ⟨g0, t0, cs0, f0, p0, q0, hg0, ht0, hv0, hd0, _⟩, _⟩ := h; obtain rfl := Option.some.inj (gLen.symm.trans hg0); obtain rfl := Option.some.inj (tLen.symm.trans ht0); obtain ⟨xs, m1, rfl, hx1, hlen, hn3, hel⟩ := DataW.trod_array Tryd.underlying136 hd0
 have hxs : xs.map (·.1) = months.map (fun n => (DataW.lit (.int .i64 n) : DataW Unit)) := by
  have e := congrArg (fun y : DataW Unit × List MemPlace => y.1) hx1
  unfold Rows.laid_accounting_days_lengths at e
  injection e with e
  exact e.symm
 have each : ∀ i, i < 12 → cs0.toList[i]? = (months[i]?).map (Value.int .i64) := by
  intro i hi; have h1 := hel i hi; rw [cInt, Nat.mul_one] at h1; obtain ⟨x, hx⟩ : ∃ x, xs[i]? = some x := ⟨xs[i], List.getElem?_eq_getElem (by omega)⟩; rw [hx] at h1; obtain ⟨n, e1, e2, _⟩ := DataW.trod_int Tryd.underlying3 h1; have e3 := congrArg (fun l => l[i]?) hxs; simp only [List.getElem?_map, hx, Option.map_some, e2] at e3; have e4 := congrArg (fun l => l[0]?) e1; simp only [List.getElem?_take, List.getElem?_drop, Nat.add_zero, Nat.zero_lt_one, if_true, List.getElem?_cons_zero] at e4; rw [e4]
  cases hm : months[i]? with
  | none => rw [hm] at e3; cases e3
  | some m =>
   rw [hm] at e3; simp only [Option.map_some, Option.some.injEq, DataW.lit.injEq, Lit.int.injEq, true_and] at e3; rw [e3]
   rfl
 have hcs : cs0 = (months.map (Value.int .i64)).toArray := by
  rw [← Array.toList_inj]; apply List.ext_getElem?; intro i
  by_cases hi : i < 12
  ·rw [each i hi, List.getElem?_map]
  ·rw [List.getElem?_eq_none (by rw [hlen, cLen]; omega), List.getElem?_eq_none (by simp [months]; omega)]
 have hv := hv0; simp only [World.var?, gLen, Option.bind_some] at hv
 split at hv
 ·rename_i cs t fr hb
  obtain rfl := Option.some.inj hv; exact ⟨t, fr, by rw [hb, hcs]⟩
 ·cases hv
theorem door_met (os : Os) (args : Array Value) : laidMetH Tryd.prog laidL ((World.doorLaid Tryd.prog 400 os).forCall (fun _ _ => 0) ⟨#[], args, []⟩).memory :=
 laidMetH_of_parts3 (fuel := 8) (laidMet_of_run' 8 (by kernel_rfl) (by kernel_rfl)) (by kernel_rfl) (by kernel_rfl)
end Go.Proofs.YtjeecehhcajfaaaDoor.M
end
section
namespace Go.Proofs.YtjeecehhcajfaaaDoor.entryMerge
open Go.ChangeShapes Go.WideShapes Go.ChangeAt Go.RowKit Go.Proofs.YtjeecehhcajfaaaDoor.M Go.Proofs.YtjeecehhcajfaaaDoorW.PrintWords Go.Proofs.YtjeecehhcajfaaaDoorW.PrintLast
open Go.ChangeMaps (open_string shut_string)
set_option linter.unusedVariables false
theorem own : ownKnob Tryd.prog.godebug = none := by kernel_rfl
theorem laidOut : laidOutB Tryd.prog = true := by kernel_rfl
set_option maxRecDepth 100000 in
set_option maxHeartbeats 4000000 in
theorem lifted (os : Os) (started : os.Started) (H : Type) (enc : TypeId × Value → H) :
  ReturnsInHanded {} Tryd.checked os 6 .any (fun w args => (Rows.entryMergeSpec.pre enc Tryd.prog Tryd.f6 Rows.entryMergeRow.domain false w args ∧ laidMetH Tryd.prog Rows.entryMergeRow.laid w) ∧ sizedMet enc Tryd.prog Tryd.f6 (OpenSpec.ofChange Rows.entryMergeSpec) false w args) (Rows.entryMergeSpec.post enc Tryd.prog Tryd.f6 false true false false) := by
 refine returnsInHanded_of_change_and (C := Tryd.checked) (X := fun w _ => laidMetH Tryd.prog Rows.entryMergeRow.laid w) (fun _ _ _ hh h => h.of_heap hh) own started (by kernel_rfl) Tryd.func6
  (ChangeSpec.witness_shaped (enc := enc) (C := Tryd.checked) (os := os) (X := fun w _ => laidMetH Tryd.prog Rows.entryMergeRow.laid w) false (World.doorLaid Tryd.prog 400 os) #[.slice none 0 0] 8 rfl (World.shaped_of_RefB (by kernel_rfl) (by kernel_rfl)) (by kernel_rfl) (by kernel_rfl) (by kernel_rfl) (door_met os _)) ?_
 intro W base args ds gs before hval0 hW hcnd hsz0 hL _; have hsz : (DataW.weightsEach Tryd.prog (Tryd.f6.params.toList ++ Rows.entryMergeSpec.plain.varTypes Tryd.prog) (ds ++ gs)).all (· ≤ reachBytes) = true := hsz0; have hval : ∀ (j : Nat) t v, Tryd.f6.params[j]? = some t → args[j]? = some v → Value.okWide Tryd.prog W .any base t v := hval0; have hW' := hW; obtain ⟨p, q, hA0, hV, rfl, hfz, hnd⟩ := hW; have hA : DataW.TrodAll enc Tryd.prog W 0 (fun _ => true) true Tryd.f6.params.toList args.toList ds p := hA0; rw [Tryd.params6] at hA hval hsz; obtain ⟨v0, vs0, d0, ds0, p0, q0, hargs, rfl, rfl, h0, r0⟩ := trodAll_cons hA; obtain ⟨rfl, rfl, rfl⟩ := trodAll_nil r0; obtain rfl : args = #[v0] := by cases args; simp_all
 obtain ⟨rfl, rfl⟩ := trodVars_none hV; obtain ⟨a0, len0, cap0, rfl⟩ := okWide_slice Tryd.underlying26 (hval 0 26 v0 rfl rfl); have k0 := h0; have lt0 : ∀ x ∈ p0, x.block < W.heap.size := by obtain ⟨m, hm⟩ := k0; exact DataW.trod_lt m _ _ _ hm
 obtain ⟨x0, K0, g0⟩ : ∃ x_ : List (S24), (Kd.slice 24 k24).K W x_ [.slice a0 len0 cap0] ∧ (x_.length * 104 ≤ 140737488351232 ∧ ∀ y0_ ∈ x_, G24 y0_) := by obtain ⟨f, hf⟩ := h0; exact ((Opens.slice Tryd.underlying26 opens24 (by kernel_rfl) (b := 104) (by kernel_rfl))).get enc W 0 _ _ f _ _ hf (weights_at hsz (j := 0) (t := 26) rfl rfl)
 obtain ⟨A0, c0, e0, L0, C0⟩ := K0; injection e0 with e0 _
 injection e0 with e0a e0b e0c
 subst e0a e0b e0c; clear hA0 hval0 hsz0 hsz; obtain ⟨k, h⟩ := Pure.EntryMerge x0 g0; refine (M.F6.calls (k := k) (r := true) (w := W) (hr0 := C0) (hc0 := L0) (hr1 := kTab_of (tab_of_laid hL)) (hc1 := Nat.le_refl _) (h := h)).mono fun e W' ⟨he, bel0⟩ => ?_; have bel : Below W.heap.size W W' := by first | exact bel0 | exact bel0.below | (obtain ⟨nd, rfl⟩ := bel0; exact pw_below_drewN (Below.refl _ _) nd)
 subst he; exact ⟨_, rfl, _, _, _, [], _, [], hW', trodAll_mk1 (shut_bool Tryd.underlying4 _), (trodAll_cons_mk (Below.trod laidOut (by kernel_rfl) (of_decide_eq_true (by kernel_rfl)) k0 bel lt0) trodAll_mk0), rfl, bel.frame _, fun h => by cases h⟩
theorem over : Rows.entryMergeRow.holds Tryd.pinned (OpenSpec.ofChange Rows.entryMergeSpec) :=
 OpenClaim.holds_of_wide 6 Tryd.f6 rfl rfl rfl rfl rfl rfl rfl ⟨rfl, rfl, rfl, rfl, rfl⟩ rfl rfl rfl rfl rfl (by kernel_rfl) Tryd.func6 (by kernel_rfl)
  (of_decide_eq_true (by kernel_rfl)) (by unfold Func.isWrapper; first | (rw [if_pos (by decide +kernel)]; kernel_rfl) | (rw [if_neg (by decide +kernel)]; exact ⟨rfl, rfl⟩))
  (fun os started H enc _ => lifted os started H enc)
theorem proved : Rows.EntryMergeCardSaid :=
 Claim7.holds_tied_plain_at .later [] [.data] true (true, "be3c0a6bf7d168cfecf7312c4a458ffdf88559f71113c4694bf92cbd7a7be984") false
  over (fun _ h => by cases h) (by kernel_rfl) (fun _ h => by cases h) entryMerge_row_tie rfl ⟨rfl, rfl⟩ (by kernel_rfl) rfl
  (fun f fn hf hfn => by
   obtain rfl : f = 6 := Option.some.inj ((show Tryd.prog.funcNamed "accounting/accountinglaw12.EntryMerge" = some 6 by kernel_rfl).symm.trans hf) |>.symm; obtain rfl : fn = Tryd.f6 := (Option.some.inj (Tryd.func6.symm.trans hfn)).symm
   exact ⟨by kernel_rfl, fun j t ht => by
    rw [Tryd.params6] at ht; have hm : t ∈ [26] := by simpa using Array.mem_of_getElem? ht
    have hall : ([26].all fun u => !Tryd.prog.wantsStandIn u) = true := by kernel_rfl
    exact (show Tryd.prog.wantsStandIn t = false by simpa using List.all_eq_true.1 hall t hm)⟩)
  (by kernel_rfl)
#print axioms proved
end Go.Proofs.YtjeecehhcajfaaaDoor.entryMerge
namespace Go.Proofs.YtjeecehhcajfaaaDoor
theorem entryMerge_holds : Rows.EntryMergeCardSaid := entryMerge.proved
end Go.Proofs.YtjeecehhcajfaaaDoor
end
