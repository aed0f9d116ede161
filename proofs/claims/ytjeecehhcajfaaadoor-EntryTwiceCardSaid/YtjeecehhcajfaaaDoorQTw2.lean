/- The law of the entries, walked and shown. Part 2 of 2 of what is the claim's own. -/
import Derived.Test.YtjeecehhcajfaaaDoorQBB2
import Derived.Test.YtjeecehhcajfaaaDoorQBB6
import Derived.Test.YtjeecehhcajfaaaDoorQTw1
import Derived.Test.YtjeecehhcajfaaaDoorQBB9
import Derived.Test.YtjeecehhcajfaaaDoorQBB7
import Derived.Test.YtjeecehhcajfaaaDoorQBB5
import Derived.Test.YtjeecehhcajfaaaDoorRows
import Derived.Test.YtjeecehhcajfaaaDoorQBB1
import Derived.ProofKit
import Derived.LaidMore
import Derived.OpenShut
import Derived.Stop.Joined
import Derived.WalkKit
import Derived.ShutString
import Derived.ChangeOld
import Derived.Below
import Derived.SizedLaws
import Derived.Test.YtjeecehhcajfaaaDoorCards
import Derived.Test.YtjeecehhcajfaaaDoorTie
import Derived.SevenTiedAt
namespace Go.Proofs.YtjeecehhcajfaaaDoor.M
theorem ptw2_0 {p : Prop} (h : p := by first | exact Kd.R_nil _ _ _ _ _ | exact Kd.N_nil _ _ _ _ _ | exact Kd.V_nil _ _ _ _ _ | exact Kd.Q_nil _ _ _ _ _ | exact Kd.S_nil _ _ _ _ _) : p := h
theorem ptw2_1 {p : Prop} (h : p := by (with_reducible repeat (first | apply Kd.R_alloc | apply Kd.R_drewN | apply Kd.R_drew)); exact HO_4.out) : p := h
theorem ptw2_2 {p : Prop} (h : p := by (with_reducible repeat (first | apply Kd.R_alloc | apply Kd.R_drewN | apply Kd.R_drew)); exact HO_5.out) : p := h
theorem ptw2_3 {p : Prop} (h : p := by repeat (first | exact (Kd.R_reads' HO_4.out).2.2 | (with_reducible refine Kd.C_alloc ?_ _) | (with_reducible refine Kd.C_drewN ?_ _) | (with_reducible refine Kd.C_drew ?_))) : p := h
end Go.Proofs.YtjeecehhcajfaaaDoor.M
section
namespace Go.Proofs.YtjeecehhcajfaaaDoor.M
open Go.RowKit Go.Proofs.YtjeecehhcajfaaaDoorW.PrintWords Go.Proofs.YtjeecehhcajfaaaDoorW.PrintLast
set_option linter.unusedVariables false
set_option linter.unusedSimpArgs false
def dayv (n : Int) : Bool := decide (0 ≤ n ∧ n ≤ 109572)
def bef (y : Int) : Int := 365 * (y - 1900) + ((y - 1) / 4 - (y - 1) / 100 + (y - 1) / 400 - 460)
def lpv (y : Int) : Bool := (decide (y % 4 = 0) && !decide (y % 100 = 0)) || decide (y % 400 = 0)
theorem F86.eq {y : Int} (h0 : 1900 ≤ y) (h1 : y ≤ 2200) : F86.f y = some (bef y) := by
 unfold F86.f bef
 rw [w64 (n := y - 1) (by omega) (by omega), w64 (n := y - 1900) (by omega) (by omega), w64 (n := 365 * (y - 1900)) (by omega) (by omega)]; rw [Int.tdiv_eq_ediv_of_nonneg (by omega), Int.tdiv_eq_ediv_of_nonneg (by omega), Int.tdiv_eq_ediv_of_nonneg (by omega)]; rw [w64 (n := (y - 1) / 4) (by omega) (by omega), w64 (n := (y - 1) / 100) (by omega) (by omega), w64 (n := (y - 1) / 400) (by omega) (by omega)]; rw [w64 (n := (y - 1) / 4 - (y - 1) / 100) (by omega) (by omega)]; rw [w64 (n := (y - 1) / 4 - (y - 1) / 100 + (y - 1) / 400) (by omega) (by omega)]; rw [w64 (n := (y - 1) / 4 - (y - 1) / 100 + (y - 1) / 400 - 474) (by omega) (by omega)]; rw [w64 (n := (y - 1) / 4 - (y - 1) / 100 + (y - 1) / 400 - 474 + 18) (by omega) (by omega)]; rw [w64 (n := (y - 1) / 4 - (y - 1) / 100 + (y - 1) / 400 - 474 + 18 - 4) (by omega) (by omega)]; rw [w64 (by omega) (by omega)]
 congr 1
 omega
theorem F99.eq {y : Int} (h0 : 1900 ≤ y) : F99.f y = some (lpv y) := by
 unfold F99.f lpv
 rw [Int.tmod_eq_emod_of_nonneg (by omega), Int.tmod_eq_emod_of_nonneg (by omega), Int.tmod_eq_emod_of_nonneg (by omega)]
 by_cases a : y % 4 = 0 <;> by_cases b : y % 100 = 0 <;> by_cases c : y % 400 = 0 <;> simp [a, b, c] <;> omega
def ml (lp : Bool) (m : Int) : Int := if m = 2 then (if lp = true then 29 else 28) else rd months (m - 1)
theorem F87.eq {y m : Int} (h0 : 1900 ≤ y) (h1 : 1 ≤ m) (h2 : m ≤ 12) : F87.f y m months = some (ml (lpv y) m) := by
 unfold F87.f ml
 rw [if_neg (by decide), if_neg (by omega), if_neg (by omega), F99.eq h0]
 by_cases e : m = 2
 ·rw [if_pos e, if_pos e, Option.bind_some]
  cases lpv y with
  | true => rfl
  | false => subst e; rfl
 ·rw [if_neg e, if_neg e]
def tl (lp : Bool) : Nat → Int
 | 0 => 0
 | j + 1 => ml lp (12 - (j : Int)) + tl lp j
theorem tl_12 (lp : Bool) : tl lp 12 = if lp = true then 366 else 365 := by cases lp <;> rfl
theorem ml_range (lp : Bool) : ∀ j : Nat, j < 12 → 28 ≤ ml lp (12 - (j : Int)) ∧ ml lp (12 - (j : Int)) ≤ 31 := by
 intro j hj; have : ∀ lp : Bool, ∀ j : Fin 12, 28 ≤ ml lp (12 - ((j.val : Nat) : Int)) ∧ ml lp (12 - ((j.val : Nat) : Int)) ≤ 31 := by decide
 exact this lp ⟨j, hj⟩
theorem F77.go1 {y : Int} (h0 : 1900 ≤ y) (d : Int) : ∀ (j : Nat) (n : Int), j ≤ 12 → 0 ≤ n → n < tl (lpv y) j → n ≤ 1000 → ∃ a b, Ev (fun k => F77.l1 k n months y (13 - (j : Int)) d) (y, a, b, 0)
 | 0, n, _, hn, h, _ => by simp [tl] at h; omega
 | j + 1, n, hj, hn, h, hn2 => by
  have hr := ml_range (lpv y) j (by omega); have e : (13 : Int) - ((j + 1 : Nat) : Int) = 12 - (j : Int) := by omega
  have hL : F87.f y (13 - ((j + 1 : Nat) : Int)) months = some (ml (lpv y) (12 - (j : Int))) := by
   rw [e]; exact F87.eq h0 (by omega) (by omega)
  by_cases c : n ≥ ml (lpv y) (12 - (j : Int))
  ·obtain ⟨a, b, ih⟩ := F77.go1 h0 d j (n - ml (lpv y) (12 - (j : Int))) (by omega) (by omega) (by simp only [tl] at h; omega) (by omega); refine ⟨a, b, Ev.succ ?_⟩; simp only [F77.l1, hL, Option.bind_some, if_pos c]; rw [w64 (n := n - _) (by omega) (by omega), w64 (n := 13 - ((j + 1 : Nat) : Int) + 1) (by omega) (by omega), show (13 : Int) - ((j + 1 : Nat) : Int) + 1 = 13 - (j : Int) by omega]; exact ih
  ·refine ⟨13 - ((j + 1 : Nat) : Int), wrap64 (n + 1), Ev.succ ?_⟩; simp only [F77.l1, hL, Option.bind_some, if_neg c]; exact Ev.const _
theorem bef_next (y : Int) : bef (y + 1) - bef y = if lpv y = true then 366 else 365 := by
 unfold bef lpv
 by_cases a : y % 4 = 0 <;> by_cases b : y % 100 = 0 <;> by_cases c : y % 400 = 0 <;> simp [a, b, c] <;> omega
theorem F77.end_ {n y : Int} (d : Int) (h0 : 1900 ≤ y) (h1 : y ≤ 2199) (hb : bef y ≤ n) (hn : n < bef (y + 1)) (hn2 : n ≤ 109572) : ∃ a b, Ev (fun k => F77.j1 k n months y 0 d) (y, a, b, 0) := by
 have hd := bef_next y; have hbb : -1000 ≤ bef y ∧ bef y ≤ 110000 := by unfold bef; omega
 obtain ⟨a, b, ih⟩ := F77.go1 h0 d 12 (n - bef y) (by omega) (by omega) (by rw [tl_12]; omega) (by split at hd <;> omega); refine ⟨a, b, Ev.succ ?_⟩; simp only [F77.j1, F86.eq h0 (by omega : y ≤ 2200), Option.bind_some]; rw [w64 (n := n - _) (by omega) (by omega)]; exact ih
theorem F77.go0 {n : Int} (d : Int) (hn2 : n ≤ 109572) : ∀ (j : Nat) (y : Int), y + j = 2199 → 1900 ≤ y → bef y ≤ n → ∃ y' a b, Ev (fun k => F77.l0 k n months y 0 d) (y', a, b, 0)
 | 0, y, hy, h0, hb => by
  obtain rfl : y = 2199 := by omega
  obtain ⟨a, b, ih⟩ := F77.end_ (n := n) d (y := 2199) (by omega) (by omega) hb (by rw [show bef (2199 + 1) = 109573 by decide]; omega) hn2; refine ⟨2199, a, b, Ev.succ ?_⟩; simp only [F77.l0, if_neg (show ¬ (2199 : Int) < 2199 by omega)]; exact ih
 | j + 1, y, hy, h0, hb => by
  by_cases c : bef (y + 1) ≤ n
  ·obtain ⟨y', a, b, ih⟩ := F77.go0 d hn2 j (y + 1) (by omega) (by omega) c; refine ⟨y', a, b, Ev.succ ?_⟩; simp only [F77.l0, if_pos (show y < 2199 by omega), w64 (n := y + 1) (by omega) (by omega), F86.eq (y := y + 1) (by omega) (by omega), Option.bind_some, if_pos c]; exact ih
  ·obtain ⟨a, b, ih⟩ := F77.end_ (n := n) d (y := y) h0 (by omega) hb (by omega) hn2; refine ⟨y, a, b, Ev.succ ?_⟩; simp only [F77.l0, if_pos (show y < 2199 by omega), w64 (n := y + 1) (by omega) (by omega), F86.eq (y := y + 1) (by omega) (by omega), Option.bind_some, if_neg c]; exact ih
theorem F85.eq (n : Int) : F85.f n = some (dayv n) := by
 unfold F85.f dayv
 by_cases a : n ≥ 0 <;> by_cases b : n ≤ 109572 <;> simp [a, b] <;> omega
theorem F77.ok (n : Int) : ∃ y a b, Ev (fun k => F77.f k n months) (y, a, b, if dayv n = true then 0 else 11) := by
 unfold F77.f
 simp only [F85.eq, Option.bind_some]
 by_cases c : dayv n = true
 ·simp only [if_pos c]; have hc : 0 ≤ n ∧ n ≤ 109572 := of_decide_eq_true c; have hy : bef (1900 + n / 366) ≤ n := by unfold bef; omega
  rw [Int.tdiv_eq_ediv_of_nonneg hc.1, w64 (n := n / 366) (by omega) (by omega), w64 (n := 1900 + n / 366) (by omega) (by omega)]; exact F77.go0 0 hc.2 (2199 - (1900 + n / 366)).toNat _ (by omega) (by omega) hy
 ·simp only [if_neg c]; exact ⟨0, 0, 0, Ev.const _⟩
end Go.Proofs.YtjeecehhcajfaaaDoor.M
end
section
namespace Go.Proofs.YtjeecehhcajfaaaDoor.M
open Go.RowKit Go.Proofs.YtjeecehhcajfaaaDoorW.PrintWords Go.Proofs.YtjeecehhcajfaaaDoorW.PrintLast Go.Proofs.YtjeecehhcajfaaaDoorW.PrintMore
attribute [local go_sem] max2_int min2_int max_two min_two max_three min_three max_four min_four
set_option linter.unusedVariables false
set_option linter.unusedSimpArgs false
def F58.f (a0 : Int) : Option (Bool) := if a0 ≥ 0 then (some (decide (a0 ≤ 109572))) else (some false)
set_option maxHeartbeats 8000000 in
set_option maxRecDepth 100000 in
theorem F58.calls (a0 : Int) (r : Bool) (w : World) (h : F58.f a0 = some r) :
    Calls Tryd.prog 58 #[.int .i64 a0] w fun e w' => e = .returned (.bool r) ∧ Drawn0 w w' := by
 unfold F58.f at h
 have H := h; clear h
 by_cases c2 : a0 ≥ 0
 ·rw [if_pos c2] at H; have c2b0 : decide (0 ≤ a0) = true := decide_eq_true c2; clear c2; obtain rfl := Option.some.inj H; go_enter Tryd.func58, Tryd.ntmps58
  go_wp2
  go_ret
  exact ⟨pbb2_3, pbb2_4⟩
 ·rw [if_neg c2] at H; have c2b0 : decide (0 ≤ a0) = false := decide_eq_false c2; clear c2; obtain rfl := Option.some.inj H; go_enter Tryd.func58, Tryd.ntmps58
  go_wp2
  go_ret
  exact ⟨pbb2_3, pbb2_4⟩
def F71.l0 : Nat → ByteArray → Int → Option (Bool)
  | 0, _, _ => none
  | k + 1, x0, x3 => if x3 < (x0.size : Int) then (if 0 ≤ x3 then (if (bt x0 x3) < 32 then (some false) else (if (bt x0 x3) > 126 then (some false) else (F71.l0 k x0 (wrap64 (x3 + 1))))) else (none)) else (some (decide ((x0.size : Int) ≤ 60)))
def F71.f (k : Nat) (a0 : ByteArray) : Option (Bool) := F71.l0 k a0 0
set_option maxHeartbeats 8000000 in
set_option maxRecDepth 100000 in
theorem F71.calls (k : Nat) (a0 : ByteArray) (r : Bool) (w : World) (h : F71.f k a0 = some r) :
    Calls Tryd.prog 71 #[.string a0] w fun e w' => e = .returned (.bool r) ∧ Drawn0 w w' := by
 unfold F71.f at h
 have H := h; clear h; have H' := Aside0.mk H; clear H; go_enter Tryd.func71, Tryd.ntmps71
 go_wp2
 go_loopg [3] k (fun kq v3 w' => ∃ (x3_1 : Int), v3 = .int .i64 x3_1 ∧ Aside0 (F71.l0 kq a0 x3_1 = some r) ∧ Aside0 (kq ≤ k) ∧ Drawn0 w w')
 case atStart => exact ⟨(0), pbb2_3, H', ⟨Nat.le_refl _⟩, pbb2_4⟩
 case round =>
  clear H'; obtain ⟨x3_1, rfl, HA, HK1, ⟨m1, rfl⟩⟩ := hrel
  cases gk with
  | zero => exact absurd HA.out (by simp [F71.l0])
  | succ k1 =>
   have H := HA.out; clear HA; simp only [F71.l0] at H
   by_cases c2 : x3_1 < (a0.size : Int)
   ·rw [if_pos c2] at H; have c2b0 := decide_eq_true c2; clear c2
    by_cases c3 : 0 ≤ x3_1
    ·rw [if_pos c3] at H; have c3b0 := decide_eq_true c3; clear c3
     by_cases c5 : (bt a0 x3_1) < 32
     ·rw [if_pos c5] at H; have c5b0 := decide_eq_true c5; clear c5; obtain rfl := Option.some.inj H; have p4 : 0 ≤ (x3_1 : Int) := of_decide_eq_true pbb2_6; have q4 : x3_1 < (a0.size : Int) := of_decide_eq_true pbb2_6; have hx4 := bt_at a0 x3_1; replace p4 := eq_true p4; replace q4 := eq_true q4
      go_wp2
      go_ret
      exact ⟨pbb2_3, pbb2_4⟩
     ·rw [if_neg c5] at H; have c5b0 := decide_eq_false c5; clear c5
      by_cases c7 : (bt a0 x3_1) > 126
      ·rw [if_pos c7] at H; have c7b0 : decide (126 < (bt a0 x3_1)) = true := decide_eq_true c7; clear c7; obtain rfl := Option.some.inj H; have p4 : 0 ≤ (x3_1 : Int) := of_decide_eq_true pbb2_6; have q4 : x3_1 < (a0.size : Int) := of_decide_eq_true pbb2_6; have hx4 := bt_at a0 x3_1; replace p4 := eq_true p4; replace q4 := eq_true q4; have p6 : 0 ≤ (x3_1 : Int) := of_decide_eq_true pbb2_6; have q6 : x3_1 < (a0.size : Int) := of_decide_eq_true pbb2_6; have hx6 := bt_at a0 x3_1; replace p6 := eq_true p6; replace q6 := eq_true q6
       go_wp2
       go_ret
       exact ⟨pbb2_3, pbb2_4⟩
      ·rw [if_neg c7] at H; have c7b0 : decide (126 < (bt a0 x3_1)) = false := decide_eq_false c7; clear c7; have H' := Aside0.mk H; clear H; have p4 : 0 ≤ (x3_1 : Int) := of_decide_eq_true pbb2_6; have q4 : x3_1 < (a0.size : Int) := of_decide_eq_true pbb2_6; have hx4 := bt_at a0 x3_1; replace p4 := eq_true p4; replace q4 := eq_true q4; have p6 : 0 ≤ (x3_1 : Int) := of_decide_eq_true pbb2_6; have q6 : x3_1 < (a0.size : Int) := of_decide_eq_true pbb2_6; have hx6 := bt_at a0 x3_1; replace p6 := eq_true p6; replace q6 := eq_true q6
       go_wp2
       go_roundg k1
       case measure => have := HK1.out; omega
       case rel => exact ⟨(wrap64 (x3_1 + 1)), pbb2_3, H', ⟨pbb2_7⟩, pbb2_4⟩
    ·rw [if_neg c3] at H; exact absurd H (by simp)
   ·rw [if_neg c2] at H; have c2b0 := decide_eq_false c2; clear c2; obtain rfl := Option.some.inj H
    go_wp2
    go_ret
    exact ⟨pbb2_3, pbb2_4⟩
mutual
def F44.j0 : Nat → Bool → Int → ByteArray → Int → Int → Int → ByteArray → ByteArray → Int → List (S24) → Option (Int)
  | 0, _, _, _, _, _, _, _, _, _, _ => none
  | k + 1, x3, x102000, x102001, x102002, x102003, x102004, x102005, x102006, x102007, x102008 => if x3 = true then (some 3) else ((F38.f k x102001).bind fun t102 => (if t102 = true then ((F38.f k x102006).bind fun t103 => (F44.j1 k (!t103) x102000 x102001 x102002 x102003 x102004 x102005 x102006 x102007 x102008)) else (F44.j1 k true x102000 x102001 x102002 x102003 x102004 x102005 x102006 x102007 x102008)))
def F44.j1 : Nat → Bool → Int → ByteArray → Int → Int → Int → ByteArray → ByteArray → Int → List (S24) → Option (Int)
  | 0, _, _, _, _, _, _, _, _, _, _ => none
  | k + 1, x22, x102000, x102001, x102002, x102003, x102004, x102005, x102006, x102007, x102008 => if x22 = true then (some 7) else ((F58.f x102002).bind fun t104 => (if t104 = true then ((F58.f x102003).bind fun t105 => (F44.j2 k (!t105) x102000 x102001 x102002 x102003 x102004 x102005 x102006 x102007 x102008)) else (F44.j2 k true x102000 x102001 x102002 x102003 x102004 x102005 x102006 x102007 x102008)))
def F44.j2 : Nat → Bool → Int → ByteArray → Int → Int → Int → ByteArray → ByteArray → Int → List (S24) → Option (Int)
  | 0, _, _, _, _, _, _, _, _, _, _ => none
  | k + 1, x33, x102000, x102001, x102002, x102003, x102004, x102005, x102006, x102007, x102008 => if x33 = true then (some 11) else (if x102004 < 1 then (F44.j3 k true x102000 x102001 x102002 x102003 x102004 x102005 x102006 x102007 x102008) else (F44.j3 k (decide (x102004 > 7)) x102000 x102001 x102002 x102003 x102004 x102005 x102006 x102007 x102008))
def F44.j3 : Nat → Bool → Int → ByteArray → Int → Int → Int → ByteArray → ByteArray → Int → List (S24) → Option (Int)
  | 0, _, _, _, _, _, _, _, _, _, _ => none
  | k + 1, x44, x102000, x102001, x102002, x102003, x102004, x102005, x102006, x102007, x102008 => if x44 = true then (some 10) else ((F71.f k x102005).bind fun t106 => (if t106 = true then (if (x102008.length : Int) < 2 then (some 2) else (if (x102008.length : Int) > 100 then (some 9) else (some 0))) else (some 5)))
end
def F44.f (k : Nat) (a0_0 : Int) (a0_1 : ByteArray) (a0_2 : Int) (a0_3 : Int) (a0_4 : Int) (a0_5 : ByteArray) (a0_6 : ByteArray) (a0_7 : Int) (l0_8 : List (S24)) : Option (Int) := if a0_0 < 0 then (F44.j0 k true a0_0 a0_1 a0_2 a0_3 a0_4 a0_5 a0_6 a0_7 l0_8) else (if a0_0 > 4000 then (F44.j0 k true a0_0 a0_1 a0_2 a0_3 a0_4 a0_5 a0_6 a0_7 l0_8) else (if a0_7 < 0 then (F44.j0 k true a0_0 a0_1 a0_2 a0_3 a0_4 a0_5 a0_6 a0_7 l0_8) else (F44.j0 k (decide (a0_7 > 4000)) a0_0 a0_1 a0_2 a0_3 a0_4 a0_5 a0_6 a0_7 l0_8)))
set_option maxHeartbeats 8000000 in
set_option maxRecDepth 100000 in
theorem F44.calls (k : Nat) (a0_0 : Int) (a0_1 : ByteArray) (a0_2 : Int) (a0_3 : Int) (a0_4 : Int) (a0_5 : ByteArray) (a0_6 : ByteArray) (a0_7 : Int) (A0_8 : Option Addr) (c0_8 : Nat) (l0_8 : List (S24)) (r : Int) (w : World) (hr0_8 : Kd.C k24 w A0_8 l0_8.length l0_8) (hc0_8 : l0_8.length ≤ c0_8) (h : F44.f k a0_0 a0_1 a0_2 a0_3 a0_4 a0_5 a0_6 a0_7 l0_8 = some r) :
    Calls Tryd.prog 44 #[.agg #[.int .i64 a0_0, .string a0_1, .int .i64 a0_2, .int .i64 a0_3, .int .i64 a0_4, .string a0_5, .string a0_6, .int .i64 a0_7, .slice A0_8 l0_8.length c0_8]] w fun e w' => e = .returned (.int .i64 r) ∧ Below w.heap.size w w' := by
 have hu33 := Tryd.underlying33; have hu3 := Tryd.underlying3; have hu9 := Tryd.underlying9; have hu26 := Tryd.underlying26; have HR0_8 := Aside0.mk hr0_8; have HC0_8 := Aside0.mk hc0_8; clear hr0_8 hc0_8; have HB := Aside0.mk (Below.refl w.heap.size w)
 unfold F44.f at h
 have H := h; clear h; have HC2 := Aside0.mk H; clear H; go_enter Tryd.func44, Tryd.ntmps44
 go_upto_region 1 with (first | ((with_reducible refine gate_dst (N := 1) rfl ?_); refine box_event ?hg (N := 1) ?hd (cs := #[.int .i64 a0_0, .string a0_1, .int .i64 a0_2, .int .i64 a0_3, .int .i64 a0_4, .string a0_5, .string a0_6, .int .i64 a0_7, .slice A0_8 l0_8.length c0_8]) (t := 33) ?hr ?_; (case hd => rfl); (case hg => rfl); (case hr => first | (go_simp; done) | (go_simp; rfl)); intro gb101 hg w3 hbox hb; have BK101 := Aside0.mk (hbox); have GW101 := Aside0.mk ((pbb2_8 : w.heap.size ≤ gb101)); have GE101 := Aside0.mk ((pbb2_8 : w.heap.size ≤ gb101)); replace HB := Aside0.mk (below_step pbb2_9 hb); clear hb hbox hg))
 (try simp only [Act.put, List.setIfInBounds_toArray, List.set_cons_zero, List.set_cons_succ])
 go_cut [3] (fun v3 wc => ∃ (kq : Nat) (x3_1 : Bool), v3 = .bool x3_1 ∧ Aside0 (F44.j0 kq x3_1 a0_0 a0_1 a0_2 a0_3 a0_4 a0_5 a0_6 a0_7 l0_8 = some r) ∧ Aside0 (kq ≤ k) ∧ Aside0 (wc.heap[gb101]? = some (.cells #[.int .i64 a0_0, .string a0_1, .int .i64 a0_2, .int .i64 a0_3, .int .i64 a0_4, .string a0_5, .string a0_6, .int .i64 a0_7, (.slice A0_8 l0_8.length c0_8)] 33 (0, 0))) ∧ Aside0 (Below w.heap.size w wc))
 case first =>
  have H := HC2.out; clear HC2
  by_cases c4 : a0_0 < 0
  ·rw [if_pos c4] at H; have c4b0 := decide_eq_true c4; clear c4; (first | rw [c4b0] | (simp only [i64_w, i32_w]; rw [c4b0]) | skip); have H' := Aside0.mk H; clear H; obtain ⟨hcz5_0, hcz5_1, hcz5_2, hcz5_3, hcz5_4, hcz5_5, hcz5_6, hcz5_7, hcz5_8⟩ := cz9 BK101.out; obtain ⟨hfz5_0, hfz5_1, hfz5_2, hfz5_3, hfz5_4, hfz5_5, hfz5_6, hfz5_7, hfz5_8⟩ := fz9 BK101.out
   go_wp2
   go_meet
   case rel => exact ⟨_, (true), pbb2_3, H', ⟨pbb6_2⟩, ⟨pbb2_12⟩, ⟨pbb2_11⟩⟩
  ·rw [if_neg c4] at H; have c4b0 := decide_eq_false c4; clear c4; (first | rw [c4b0] | (simp only [i64_w, i32_w]; rw [c4b0]) | skip)
   by_cases c6 : a0_0 > 4000
   ·rw [if_pos c6] at H; have c6b0 : decide (4000 < a0_0) = true := decide_eq_true c6; clear c6; have H' := Aside0.mk H; clear H; obtain ⟨hcz7_0, hcz7_1, hcz7_2, hcz7_3, hcz7_4, hcz7_5, hcz7_6, hcz7_7, hcz7_8⟩ := cz9 BK101.out; obtain ⟨hfz7_0, hfz7_1, hfz7_2, hfz7_3, hfz7_4, hfz7_5, hfz7_6, hfz7_7, hfz7_8⟩ := fz9 BK101.out
    go_wp2
    go_meet
    case rel => exact ⟨_, (true), pbb2_3, H', ⟨pbb6_2⟩, ⟨pbb2_12⟩, ⟨pbb2_11⟩⟩
   ·rw [if_neg c6] at H; have c6b0 : decide (4000 < a0_0) = false := decide_eq_false c6; clear c6
    by_cases c8 : a0_7 < 0
    ·rw [if_pos c8] at H; have c8b0 := decide_eq_true c8; clear c8; have H' := Aside0.mk H; clear H; obtain ⟨hcz9_0, hcz9_1, hcz9_2, hcz9_3, hcz9_4, hcz9_5, hcz9_6, hcz9_7, hcz9_8⟩ := cz9 BK101.out; obtain ⟨hfz9_0, hfz9_1, hfz9_2, hfz9_3, hfz9_4, hfz9_5, hfz9_6, hfz9_7, hfz9_8⟩ := fz9 BK101.out
     go_wp2
     go_meet
     case rel => exact ⟨_, (true), pbb2_3, H', ⟨pbb6_2⟩, ⟨pbb2_12⟩, ⟨pbb2_11⟩⟩
    ·rw [if_neg c8] at H; have c8b0 := decide_eq_false c8; clear c8; have H' := Aside0.mk H; clear H; obtain ⟨hcz10_0, hcz10_1, hcz10_2, hcz10_3, hcz10_4, hcz10_5, hcz10_6, hcz10_7, hcz10_8⟩ := cz9 BK101.out; obtain ⟨hfz10_0, hfz10_1, hfz10_2, hfz10_3, hfz10_4, hfz10_5, hfz10_6, hfz10_7, hfz10_8⟩ := fz9 BK101.out
     go_wp2
     go_meet
     case rel => exact ⟨_, (decide (a0_7 > 4000)), pbb2_3, H', ⟨pbb6_2⟩, ⟨pbb2_12⟩, ⟨pbb2_11⟩⟩
 case rest =>
  clear HC2; obtain ⟨kq, x3_1, rfl, HA, HJ1, BK101, HB⟩ := hcut
  cases kq with
  | zero => exact absurd HA.out (by simp [F44.j0])
  | succ kj1 =>
   have H := HA.out; clear HA; simp only [F44.j0] at H
   by_cases c11 : x3_1 = true
   ·subst c11; rw [if_pos rfl] at H; obtain rfl := Option.some.inj H
    go_wp2
    go_ret
    exact ⟨pbb2_18, pbb2_11⟩
   ·replace c11 := Bool.eq_false_iff.mpr c11; subst c11; rw [if_neg (show ¬ (false = true) by decide)] at H; have HC12 := Aside0.mk H; clear H
    go_upto_region 3 with (fail)
    go_cut [22] (fun v22 wc => ∃ (kq : Nat) (x22_11 : Bool), v22 = .bool x22_11 ∧ Aside0 (F44.j1 kq x22_11 a0_0 a0_1 a0_2 a0_3 a0_4 a0_5 a0_6 a0_7 l0_8 = some r) ∧ Aside0 (kq ≤ kj1) ∧ Aside0 (wc.heap[gb101]? = some (.cells #[.int .i64 a0_0, .string a0_1, .int .i64 a0_2, .int .i64 a0_3, .int .i64 a0_4, .string a0_5, .string a0_6, .int .i64 a0_7, (.slice A0_8 l0_8.length c0_8)] 33 (0, 0))) ∧ Aside0 (Below w.heap.size w wc))
    case first =>
     have H := HC12.out; clear HC12; obtain ⟨t102, A130, H⟩ := bnd H; have A13 := Aside0.mk A130; clear A130
     by_cases c14 : t102 = true
     ·subst c14; rw [if_pos rfl] at H; obtain ⟨t103, A150, H⟩ := bnd H; have A15 := Aside0.mk A150; clear A150; have H' := Aside0.mk H; clear H; obtain ⟨hcz16_0, hcz16_1, hcz16_2, hcz16_3, hcz16_4, hcz16_5, hcz16_6, hcz16_7, hcz16_8⟩ := cz9 BK101.out; obtain ⟨hfz16_0, hfz16_1, hfz16_2, hfz16_3, hfz16_4, hfz16_5, hfz16_6, hfz16_7, hfz16_8⟩ := fz9 BK101.out
      go_wp2_with (first | ((with_reducible refine gate_callee (f := 38) rfl ?_); refine goesL_ (some 25) rfl rfl Tryd.func38 (by kernel_rfl) rfl #[.string a0_1] rfl pbb2_5 ?_; (with_reducible refine (F38.calls kj1 a0_1 true _ A13.out).mono ?_); rintro e w' ⟨rfl, ⟨nd, rfl⟩⟩; refine ⟨_, rfl, ?_⟩) | (go_at_call 38; (with_reducible refine (F38.calls kj1 a0_6 t103 _ A15.out).mono ?_); rintro e w' ⟨rfl, ⟨nd, rfl⟩⟩))
      go_meet
      case rel => exact ⟨_, (!t103), pbb2_3, H', ⟨by have := HJ1.out; first | omega | exact Nat.le_refl _⟩, ⟨pbb2_12⟩, ⟨pbb2_11⟩⟩
     ·replace c14 := Bool.eq_false_iff.mpr c14; subst c14; rw [if_neg (show ¬ (false = true) by decide)] at H; have H' := Aside0.mk H; clear H; obtain ⟨hcz17_0, hcz17_1, hcz17_2, hcz17_3, hcz17_4, hcz17_5, hcz17_6, hcz17_7, hcz17_8⟩ := cz9 BK101.out; obtain ⟨hfz17_0, hfz17_1, hfz17_2, hfz17_3, hfz17_4, hfz17_5, hfz17_6, hfz17_7, hfz17_8⟩ := fz9 BK101.out
      go_wp2_with (first | ((with_reducible refine gate_callee (f := 38) rfl ?_); refine goesL_ (some 25) rfl rfl Tryd.func38 (by kernel_rfl) rfl #[.string a0_1] rfl pbb2_5 ?_; (with_reducible refine (F38.calls kj1 a0_1 false _ A13.out).mono ?_); rintro e w' ⟨rfl, ⟨nd, rfl⟩⟩; refine ⟨_, rfl, ?_⟩))
      go_meet
      case rel => exact ⟨_, (true), pbb2_3, H', ⟨by have := HJ1.out; first | omega | exact Nat.le_refl _⟩, ⟨pbb2_12⟩, ⟨pbb2_11⟩⟩
    case rest =>
     clear HC12; obtain ⟨kq, x22_11, rfl, HA, HJ11, BK101, HB⟩ := hcut
     cases kq with
     | zero => exact absurd HA.out (by simp [F44.j1])
     | succ kj11 =>
      have H := HA.out; clear HA; simp only [F44.j1] at H
      by_cases c18 : x22_11 = true
      ·subst c18; rw [if_pos rfl] at H; obtain rfl := Option.some.inj H
       go_wp2
       go_ret
       exact ⟨pbb2_18, pbb2_11⟩
      ·replace c18 := Bool.eq_false_iff.mpr c18; subst c18; rw [if_neg (show ¬ (false = true) by decide)] at H; have HC19 := Aside0.mk H; clear H
       go_upto_region 5 with (fail)
       go_cut [33] (fun v33 wc => ∃ (kq : Nat) (x33_18 : Bool), v33 = .bool x33_18 ∧ Aside0 (F44.j2 kq x33_18 a0_0 a0_1 a0_2 a0_3 a0_4 a0_5 a0_6 a0_7 l0_8 = some r) ∧ Aside0 (kq ≤ kj11) ∧ Aside0 (wc.heap[gb101]? = some (.cells #[.int .i64 a0_0, .string a0_1, .int .i64 a0_2, .int .i64 a0_3, .int .i64 a0_4, .string a0_5, .string a0_6, .int .i64 a0_7, (.slice A0_8 l0_8.length c0_8)] 33 (0, 0))) ∧ Aside0 (Below w.heap.size w wc))
       case first =>
        have H := HC19.out; clear HC19; obtain ⟨t104, A200, H⟩ := bnd H; have A20 := Aside0.mk A200; clear A200
        by_cases c21 : t104 = true
        ·subst c21; rw [if_pos rfl] at H; obtain ⟨t105, A220, H⟩ := bnd H; have A22 := Aside0.mk A220; clear A220; have H' := Aside0.mk H; clear H; obtain ⟨hcz23_0, hcz23_1, hcz23_2, hcz23_3, hcz23_4, hcz23_5, hcz23_6, hcz23_7, hcz23_8⟩ := cz9 BK101.out; obtain ⟨hfz23_0, hfz23_1, hfz23_2, hfz23_3, hfz23_4, hfz23_5, hfz23_6, hfz23_7, hfz23_8⟩ := fz9 BK101.out
         go_wp2_with (first | ((with_reducible refine gate_callee (f := 58) rfl ?_); refine goesL_ (some 36) rfl rfl Tryd.func58 (by kernel_rfl) rfl #[.int .i64 a0_2] rfl pbb2_5 ?_; (with_reducible refine (F58.calls a0_2 true _ A20.out).mono ?_); rintro e w' ⟨rfl, ⟨nd, rfl⟩⟩; refine ⟨_, rfl, ?_⟩) | (go_at_call 58; (with_reducible refine (F58.calls a0_3 t105 _ A22.out).mono ?_); rintro e w' ⟨rfl, ⟨nd, rfl⟩⟩))
         go_meet
         case rel => exact ⟨_, (!t105), pbb2_3, H', ⟨by have := HJ1.out; have := HJ11.out; first | omega | exact Nat.le_refl _⟩, ⟨pbb2_12⟩, ⟨pbb2_11⟩⟩
        ·replace c21 := Bool.eq_false_iff.mpr c21; subst c21; rw [if_neg (show ¬ (false = true) by decide)] at H; have H' := Aside0.mk H; clear H; obtain ⟨hcz24_0, hcz24_1, hcz24_2, hcz24_3, hcz24_4, hcz24_5, hcz24_6, hcz24_7, hcz24_8⟩ := cz9 BK101.out; obtain ⟨hfz24_0, hfz24_1, hfz24_2, hfz24_3, hfz24_4, hfz24_5, hfz24_6, hfz24_7, hfz24_8⟩ := fz9 BK101.out
         go_wp2_with (first | ((with_reducible refine gate_callee (f := 58) rfl ?_); refine goesL_ (some 36) rfl rfl Tryd.func58 (by kernel_rfl) rfl #[.int .i64 a0_2] rfl pbb2_5 ?_; (with_reducible refine (F58.calls a0_2 false _ A20.out).mono ?_); rintro e w' ⟨rfl, ⟨nd, rfl⟩⟩; refine ⟨_, rfl, ?_⟩))
         go_meet
         case rel => exact ⟨_, (true), pbb2_3, H', ⟨by have := HJ1.out; have := HJ11.out; first | omega | exact Nat.le_refl _⟩, ⟨pbb2_12⟩, ⟨pbb2_11⟩⟩
       case rest =>
        clear HC19; obtain ⟨kq, x33_18, rfl, HA, HJ18, BK101, HB⟩ := hcut
        cases kq with
        | zero => exact absurd HA.out (by simp [F44.j2])
        | succ kj18 =>
         have H := HA.out; clear HA; simp only [F44.j2] at H
         by_cases c25 : x33_18 = true
         ·subst c25; rw [if_pos rfl] at H; obtain rfl := Option.some.inj H
          go_wp2
          go_ret
          exact ⟨pbb2_18, pbb2_11⟩
         ·replace c25 := Bool.eq_false_iff.mpr c25; subst c25; rw [if_neg (show ¬ (false = true) by decide)] at H; have HC26 := Aside0.mk H; clear H
          go_upto_region 7 with (fail)
          go_cut [44] (fun v44 wc => ∃ (kq : Nat) (x44_25 : Bool), v44 = .bool x44_25 ∧ Aside0 (F44.j3 kq x44_25 a0_0 a0_1 a0_2 a0_3 a0_4 a0_5 a0_6 a0_7 l0_8 = some r) ∧ Aside0 (kq ≤ kj18) ∧ Aside0 (wc.heap[gb101]? = some (.cells #[.int .i64 a0_0, .string a0_1, .int .i64 a0_2, .int .i64 a0_3, .int .i64 a0_4, .string a0_5, .string a0_6, .int .i64 a0_7, (.slice A0_8 l0_8.length c0_8)] 33 (0, 0))) ∧ Aside0 (Below w.heap.size w wc))
          case first =>
           have H := HC26.out; clear HC26
           by_cases c27 : a0_4 < 1
           ·rw [if_pos c27] at H; have c27b0 := decide_eq_true c27; clear c27; (first | rw [c27b0] | (simp only [i64_w, i32_w]; rw [c27b0]) | skip); have H' := Aside0.mk H; clear H; obtain ⟨hcz28_0, hcz28_1, hcz28_2, hcz28_3, hcz28_4, hcz28_5, hcz28_6, hcz28_7, hcz28_8⟩ := cz9 BK101.out; obtain ⟨hfz28_0, hfz28_1, hfz28_2, hfz28_3, hfz28_4, hfz28_5, hfz28_6, hfz28_7, hfz28_8⟩ := fz9 BK101.out
            go_wp2
            go_meet
            case rel => exact ⟨_, (true), pbb2_3, H', ⟨by have := HJ1.out; have := HJ11.out; have := HJ18.out; first | omega | exact Nat.le_refl _⟩, ⟨pbb2_12⟩, ⟨pbb2_11⟩⟩
           ·rw [if_neg c27] at H; have c27b0 := decide_eq_false c27; clear c27; (first | rw [c27b0] | (simp only [i64_w, i32_w]; rw [c27b0]) | skip); have H' := Aside0.mk H; clear H; obtain ⟨hcz29_0, hcz29_1, hcz29_2, hcz29_3, hcz29_4, hcz29_5, hcz29_6, hcz29_7, hcz29_8⟩ := cz9 BK101.out; obtain ⟨hfz29_0, hfz29_1, hfz29_2, hfz29_3, hfz29_4, hfz29_5, hfz29_6, hfz29_7, hfz29_8⟩ := fz9 BK101.out
            go_wp2
            go_meet
            case rel => exact ⟨_, (decide (a0_4 > 7)), pbb2_3, H', ⟨by have := HJ1.out; have := HJ11.out; have := HJ18.out; first | omega | exact Nat.le_refl _⟩, ⟨pbb2_12⟩, ⟨pbb2_11⟩⟩
          case rest =>
           clear HC26; obtain ⟨kq, x44_25, rfl, HA, HJ25, BK101, HB⟩ := hcut
           cases kq with
           | zero => exact absurd HA.out (by simp [F44.j3])
           | succ kj25 =>
            have H := HA.out; clear HA; simp only [F44.j3] at H
            by_cases c30 : x44_25 = true
            ·subst c30; rw [if_pos rfl] at H; obtain rfl := Option.some.inj H
             go_wp2
             go_ret
             exact ⟨pbb2_18, pbb2_11⟩
            ·replace c30 := Bool.eq_false_iff.mpr c30; subst c30; rw [if_neg (show ¬ (false = true) by decide)] at H; obtain ⟨t106, A310, H⟩ := bnd H; have A31 := Aside0.mk A310; clear A310
             by_cases c32 : t106 = true
             ·subst c32; rw [if_pos rfl] at H
              by_cases c33 : (l0_8.length : Int) < 2
              ·rw [if_pos c33] at H; have c33b0 := decide_eq_true c33; have c33b1 : decide (l0_8.length < 2) = true := decide_eq_true (by omega); clear c33; obtain rfl := Option.some.inj H; obtain ⟨hcz34_0, hcz34_1, hcz34_2, hcz34_3, hcz34_4, hcz34_5, hcz34_6, hcz34_7, hcz34_8⟩ := cz9 BK101.out; obtain ⟨hfz34_0, hfz34_1, hfz34_2, hfz34_3, hfz34_4, hfz34_5, hfz34_6, hfz34_7, hfz34_8⟩ := fz9 BK101.out
               go_wp2_with (first | ((with_reducible refine gate_callee (f := 71) rfl ?_); refine goesL_ (some 56) rfl rfl Tryd.func71 (by kernel_rfl) rfl #[.string a0_5] rfl pbb2_5 ?_; (with_reducible refine (F71.calls kj25 a0_5 true _ A31.out).mono ?_); rintro e w' ⟨rfl, ⟨nd, rfl⟩⟩; refine ⟨_, rfl, ?_⟩))
               go_ret
               exact ⟨pbb2_18, pbb2_11⟩
              ·rw [if_neg c33] at H; have c33b0 := decide_eq_false c33; have c33b1 : decide (l0_8.length < 2) = false := decide_eq_false (by omega); clear c33
               by_cases c35 : (l0_8.length : Int) > 100
               ·rw [if_pos c35] at H; have c35b0 : decide (100 < (l0_8.length : Int)) = true := decide_eq_true c35; have c35b1 : decide (100 < l0_8.length) = true := decide_eq_true (by omega); clear c35; obtain rfl := Option.some.inj H; obtain ⟨hcz36_0, hcz36_1, hcz36_2, hcz36_3, hcz36_4, hcz36_5, hcz36_6, hcz36_7, hcz36_8⟩ := cz9 BK101.out; obtain ⟨hfz36_0, hfz36_1, hfz36_2, hfz36_3, hfz36_4, hfz36_5, hfz36_6, hfz36_7, hfz36_8⟩ := fz9 BK101.out
                go_wp2_with (first | ((with_reducible refine gate_callee (f := 71) rfl ?_); refine goesL_ (some 56) rfl rfl Tryd.func71 (by kernel_rfl) rfl #[.string a0_5] rfl pbb2_5 ?_; (with_reducible refine (F71.calls kj25 a0_5 true _ A31.out).mono ?_); rintro e w' ⟨rfl, ⟨nd, rfl⟩⟩; refine ⟨_, rfl, ?_⟩))
                go_ret
                exact ⟨pbb2_18, pbb2_11⟩
               ·rw [if_neg c35] at H; have c35b0 : decide (100 < (l0_8.length : Int)) = false := decide_eq_false c35; have c35b1 : decide (100 < l0_8.length) = false := decide_eq_false (by omega); clear c35; obtain rfl := Option.some.inj H; obtain ⟨hcz37_0, hcz37_1, hcz37_2, hcz37_3, hcz37_4, hcz37_5, hcz37_6, hcz37_7, hcz37_8⟩ := cz9 BK101.out; obtain ⟨hfz37_0, hfz37_1, hfz37_2, hfz37_3, hfz37_4, hfz37_5, hfz37_6, hfz37_7, hfz37_8⟩ := fz9 BK101.out
                go_wp2_with (first | ((with_reducible refine gate_callee (f := 71) rfl ?_); refine goesL_ (some 56) rfl rfl Tryd.func71 (by kernel_rfl) rfl #[.string a0_5] rfl pbb2_5 ?_; (with_reducible refine (F71.calls kj25 a0_5 true _ A31.out).mono ?_); rintro e w' ⟨rfl, ⟨nd, rfl⟩⟩; refine ⟨_, rfl, ?_⟩))
                go_ret
                exact ⟨pbb2_18, pbb2_11⟩
             ·replace c32 := Bool.eq_false_iff.mpr c32; subst c32; rw [if_neg (show ¬ (false = true) by decide)] at H; obtain rfl := Option.some.inj H; obtain ⟨hcz38_0, hcz38_1, hcz38_2, hcz38_3, hcz38_4, hcz38_5, hcz38_6, hcz38_7, hcz38_8⟩ := cz9 BK101.out; obtain ⟨hfz38_0, hfz38_1, hfz38_2, hfz38_3, hfz38_4, hfz38_5, hfz38_6, hfz38_7, hfz38_8⟩ := fz9 BK101.out
              go_wp2_with (first | ((with_reducible refine gate_callee (f := 71) rfl ?_); refine goesL_ (some 56) rfl rfl Tryd.func71 (by kernel_rfl) rfl #[.string a0_5] rfl pbb2_5 ?_; (with_reducible refine (F71.calls kj25 a0_5 false _ A31.out).mono ?_); rintro e w' ⟨rfl, ⟨nd, rfl⟩⟩; refine ⟨_, rfl, ?_⟩))
              go_ret
              exact ⟨pbb2_18, pbb2_11⟩
def F17.l0 : Nat → Int → Int → ByteArray → Int → Int → Int → ByteArray → ByteArray → Int → List (S24) → Option (Int × Int)
  | 0, _, _, _, _, _, _, _, _, _, _ => none
  | k + 1, x5, x102000, x102001, x102002, x102003, x102004, x102005, x102006, x102007, x102008 => if x5 < (x102008.length : Int) then (if 0 ≤ x5 then ((F15.f k ((rd_T24 x102008 x5).f0) ((rd_T24 x102008 x5).f1) ((rd_T24 x102008 x5).f2) ((rd_T24 x102008 x5).f3) ((rd_T24 x102008 x5).f4) ((rd_T24 x102008 x5).f5) ((rd_T24 x102008 x5).f6)).bind fun t104 => (if t104 = 0 then (F17.l0 k (wrap64 (x5 + 1)) x102000 x102001 x102002 x102003 x102004 x102005 x102006 x102007 x102008) else (some (x5, t104)))) else (none)) else ((F24.f k x102008).bind fun t105 => (if t105 = true then (some ((-1), 0)) else (some ((-1), 15))))
def F17.f (k : Nat) (a0_0 : Int) (a0_1 : ByteArray) (a0_2 : Int) (a0_3 : Int) (a0_4 : Int) (a0_5 : ByteArray) (a0_6 : ByteArray) (a0_7 : Int) (l0_8 : List (S24)) : Option (Int × Int) := (F44.f k a0_0 a0_1 a0_2 a0_3 a0_4 a0_5 a0_6 a0_7 l0_8).bind fun t102 => (if t102 = 0 then (F17.l0 k 0 a0_0 a0_1 a0_2 a0_3 a0_4 a0_5 a0_6 a0_7 l0_8) else (some ((-1), t102)))
set_option maxHeartbeats 8000000 in
set_option maxRecDepth 100000 in
theorem F17.calls (k : Nat) (a0_0 : Int) (a0_1 : ByteArray) (a0_2 : Int) (a0_3 : Int) (a0_4 : Int) (a0_5 : ByteArray) (a0_6 : ByteArray) (a0_7 : Int) (A0_8 : Option Addr) (c0_8 : Nat) (l0_8 : List (S24)) (r1 : Int) (r2 : Int) (w : World) (hr0_8 : Kd.C k24 w A0_8 l0_8.length l0_8) (hc0_8 : l0_8.length ≤ c0_8) (h : F17.f k a0_0 a0_1 a0_2 a0_3 a0_4 a0_5 a0_6 a0_7 l0_8 = some (r1, r2)) :
    Calls Tryd.prog 17 #[.agg #[.int .i64 a0_0, .string a0_1, .int .i64 a0_2, .int .i64 a0_3, .int .i64 a0_4, .string a0_5, .string a0_6, .int .i64 a0_7, .slice A0_8 l0_8.length c0_8]] w fun e w' => e = .returned (.tuple #[.int .i64 r1, .int .i64 r2]) ∧ Below w.heap.size w w' := by
 have hu33 := Tryd.underlying33; have hu26 := Tryd.underlying26; have hu24 := Tryd.underlying24; have HR0_8 := Aside0.mk hr0_8; have HC0_8 := Aside0.mk hc0_8; clear hr0_8 hc0_8; have HB := Aside0.mk (Below.refl w.heap.size w)
 unfold F17.f at h
 have H := h; clear h; obtain ⟨t102, A20, H⟩ := bnd H; have A2 := Aside0.mk A20; clear A20
 by_cases c3 : t102 = 0
 ·rw [if_pos c3] at H; have c3b0 := bT_ c3; have c3b1 := bF_ c3; clear c3; have H' := Aside0.mk H; clear H; go_enter Tryd.func17, Tryd.ntmps17
  go_wp2_with (first | ((with_reducible refine gate_dst (N := 1) rfl ?_); refine box_event ?hg (N := 1) ?hd (cs := #[.int .i64 a0_0, .string a0_1, .int .i64 a0_2, .int .i64 a0_3, .int .i64 a0_4, .string a0_5, .string a0_6, .int .i64 a0_7, .slice A0_8 l0_8.length c0_8]) (t := 33) ?hr ?_; (case hd => rfl); (case hg => rfl); (case hr => first | (go_simp; done) | (go_simp; rfl)); intro gb101 hg w4 hbox hb; have BK101 := Aside0.mk (hbox); have GW101 := Aside0.mk ((pbb2_8 : w.heap.size ≤ gb101)); have GE101 := Aside0.mk ((pbb2_8 : w.heap.size ≤ gb101)); replace HB := Aside0.mk (below_step pbb2_9 hb); clear hb hbox hg; obtain ⟨hcz5_0, hcz5_1, hcz5_2, hcz5_3, hcz5_4, hcz5_5, hcz5_6, hcz5_7, hcz5_8⟩ := cz9 BK101.out; obtain ⟨hfz5_0, hfz5_1, hfz5_2, hfz5_3, hfz5_4, hfz5_5, hfz5_6, hfz5_7, hfz5_8⟩ := fz9 BK101.out) | ((with_reducible refine gate_callee (f := 44) rfl ?_); refine goesL_ (some 8) rfl rfl Tryd.func44 (by kernel_rfl) rfl #[.agg #[.int .i64 a0_0, .string a0_1, .int .i64 a0_2, .int .i64 a0_3, .int .i64 a0_4, .string a0_5, .string a0_6, .int .i64 a0_7, .slice A0_8 l0_8.length c0_8]] rfl pbb2_5 ?_; (with_reducible refine (F44.calls k a0_0 a0_1 a0_2 a0_3 a0_4 a0_5 a0_6 a0_7 _ _ l0_8 t102 _ pbb6_6 (by exact HC0_8.out) A2.out).mono ?_); rintro e w6 ⟨rfl, hb⟩; refine ⟨_, rfl, ?_⟩; replace BK101 := Aside0.mk (blk_below (g := gb101) (o := .cells #[.int .i64 a0_0, .string a0_1, .int .i64 a0_2, .int .i64 a0_3, .int .i64 a0_4, .string a0_5, .string a0_6, .int .i64 a0_7, .slice A0_8 l0_8.length c0_8] 33 (0, 0)) pbb2_12 hb); replace HB := Aside0.mk (below_step pbb2_11 hb); (try clear hb); (try clear hb2); (try clear hk); (try clear hi)))
  (try simp only [Act.put, List.setIfInBounds_toArray, List.set_cons_zero, List.set_cons_succ])
  go_loopg [5] k (fun kq v5 w' => ∃ (x5_1 : Int), v5 = .int .i64 x5_1 ∧ Aside0 (F17.l0 kq x5_1 a0_0 a0_1 a0_2 a0_3 a0_4 a0_5 a0_6 a0_7 l0_8 = some (r1, r2)) ∧ Aside0 (kq ≤ k) ∧ Aside0 (w'.heap[gb101]? = some (.cells #[.int .i64 a0_0, .string a0_1, .int .i64 a0_2, .int .i64 a0_3, .int .i64 a0_4, .string a0_5, .string a0_6, .int .i64 a0_7, (.slice A0_8 l0_8.length c0_8)] 33 (0, 0))) ∧ Aside0 (Below w.heap.size w w'))
  case atStart => exact ⟨(0), pbb2_3, H', ⟨Nat.le_refl _⟩, ⟨pbb2_12⟩, ⟨pbb2_11⟩⟩
  case round =>
   clear H'; obtain ⟨x5_1, rfl, HA, HK1, BK101, HB⟩ := hrel
   cases gk with
   | zero => exact absurd HA.out (by simp [F17.l0])
   | succ k1 =>
    have H := HA.out; clear HA; simp only [F17.l0] at H
    by_cases c7 : x5_1 < (l0_8.length : Int)
    ·rw [if_pos c7] at H; have c7b0 := decide_eq_true c7; clear c7
     by_cases c8 : 0 ≤ x5_1
     ·rw [if_pos c8] at H; have c8b0 := decide_eq_true c8; clear c8; obtain ⟨t104, A90, H⟩ := bnd H; have A9 := Aside0.mk A90; clear A90
      by_cases c10 : t104 = 0
      ·rw [if_pos c10] at H; have c10b0 := bT_ c10; have c10b1 := bF_ c10; clear c10; have H' := Aside0.mk H; clear H; obtain ⟨hcz11_0, hcz11_1, hcz11_2, hcz11_3, hcz11_4, hcz11_5, hcz11_6, hcz11_7, hcz11_8⟩ := cz9 BK101.out; obtain ⟨hfz11_0, hfz11_1, hfz11_2, hfz11_3, hfz11_4, hfz11_5, hfz11_6, hfz11_7, hfz11_8⟩ := fz9 BK101.out; have p103 : 0 ≤ (x5_1 : Int) := of_decide_eq_true pbb2_6; have q103 : x5_1 < (l0_8.length : Int) := of_decide_eq_true pbb2_6; obtain ⟨ad103, A103_6, c103_6, e103, hx103_0, hx103_1, hx103_2, hx103_3, hx103_4, hx103_5, hx103_6, hl103_6, hi103_6⟩ := at_T24 HR0_8.out x5_1 p103 q103
       cases e103
       replace hx103_0 := (HB.out.cell (World.block_lt_of_cell? w _ hx103_0)).trans hx103_0; replace hx103_1 := (HB.out.cell (World.block_lt_of_cell? w _ hx103_1)).trans hx103_1; replace hx103_2 := (HB.out.cell (World.block_lt_of_cell? w _ hx103_2)).trans hx103_2; replace hx103_3 := (HB.out.cell (World.block_lt_of_cell? w _ hx103_3)).trans hx103_3; replace hx103_4 := (HB.out.cell (World.block_lt_of_cell? w _ hx103_4)).trans hx103_4; replace hx103_5 := (HB.out.cell (World.block_lt_of_cell? w _ hx103_5)).trans hx103_5; replace hx103_6 := (HB.out.cell (World.block_lt_of_cell? w _ hx103_6)).trans hx103_6; have HR103_6 := Aside0.mk hi103_6; have HC103_6 := Aside0.mk hl103_6; clear hi103_6 hl103_6; replace p103 := eq_true p103; replace q103 := eq_true q103
       go_wp2_with (first | ((with_reducible refine gate_callee (f := 15) rfl ?_); refine goesL_ (some 24) rfl rfl Tryd.func15 (by kernel_rfl) rfl #[.agg #[.string ((rd_T24 l0_8 x5_1).f0), .string ((rd_T24 l0_8 x5_1).f1), .int .i64 ((rd_T24 l0_8 x5_1).f2), .int .i64 ((rd_T24 l0_8 x5_1).f3), .string ((rd_T24 l0_8 x5_1).f4), .string ((rd_T24 l0_8 x5_1).f5), .slice A103_6 ((rd_T24 l0_8 x5_1).f6).length c103_6]] rfl pbb2_5 ?_; (with_reducible refine (F15.calls k1 ((rd_T24 l0_8 x5_1).f0) ((rd_T24 l0_8 x5_1).f1) ((rd_T24 l0_8 x5_1).f2) ((rd_T24 l0_8 x5_1).f3) ((rd_T24 l0_8 x5_1).f4) ((rd_T24 l0_8 x5_1).f5) _ _ ((rd_T24 l0_8 x5_1).f6) t104 _ (by repeat (first | exact (Kd.C_below HR103_6.out HB.out) | (with_reducible refine Kd.C_alloc ?_ _) | (with_reducible refine Kd.C_drewN ?_ _) | (with_reducible refine Kd.C_drew ?_))) (by exact HC103_6.out) A9.out).mono ?_); rintro e w12 ⟨rfl, hb⟩; refine ⟨_, rfl, ?_⟩; replace BK101 := Aside0.mk (blk_below (g := gb101) (o := .cells #[.int .i64 a0_0, .string a0_1, .int .i64 a0_2, .int .i64 a0_3, .int .i64 a0_4, .string a0_5, .string a0_6, .int .i64 a0_7, .slice (some ad103) l0_8.length c0_8] 33 (0, 0)) pbb2_12 hb); replace HB := Aside0.mk (below_step pbb2_11 hb); (try clear hb); (try clear hb2); (try clear hk); (try clear hi)))
       go_roundg k1
       case measure => have := HK1.out; omega
       case rel => exact ⟨(wrap64 (x5_1 + 1)), pbb2_3, H', ⟨pbb2_7⟩, ⟨pbb2_12⟩, ⟨pbb2_11⟩⟩
      ·rw [if_neg c10] at H; have c10b0 := nF_ c10; have c10b1 := nT_ c10; simp only [Option.some.injEq, Prod.mk.injEq] at H; obtain ⟨rfl, rfl⟩ := H; obtain ⟨hcz13_0, hcz13_1, hcz13_2, hcz13_3, hcz13_4, hcz13_5, hcz13_6, hcz13_7, hcz13_8⟩ := cz9 BK101.out; obtain ⟨hfz13_0, hfz13_1, hfz13_2, hfz13_3, hfz13_4, hfz13_5, hfz13_6, hfz13_7, hfz13_8⟩ := fz9 BK101.out; have p103 : 0 ≤ (x5_1 : Int) := of_decide_eq_true pbb2_6; have q103 : x5_1 < (l0_8.length : Int) := of_decide_eq_true pbb2_6; obtain ⟨ad103, A103_6, c103_6, e103, hx103_0, hx103_1, hx103_2, hx103_3, hx103_4, hx103_5, hx103_6, hl103_6, hi103_6⟩ := at_T24 HR0_8.out x5_1 p103 q103
       cases e103
       replace hx103_0 := (HB.out.cell (World.block_lt_of_cell? w _ hx103_0)).trans hx103_0; replace hx103_1 := (HB.out.cell (World.block_lt_of_cell? w _ hx103_1)).trans hx103_1; replace hx103_2 := (HB.out.cell (World.block_lt_of_cell? w _ hx103_2)).trans hx103_2; replace hx103_3 := (HB.out.cell (World.block_lt_of_cell? w _ hx103_3)).trans hx103_3; replace hx103_4 := (HB.out.cell (World.block_lt_of_cell? w _ hx103_4)).trans hx103_4; replace hx103_5 := (HB.out.cell (World.block_lt_of_cell? w _ hx103_5)).trans hx103_5; replace hx103_6 := (HB.out.cell (World.block_lt_of_cell? w _ hx103_6)).trans hx103_6; have HR103_6 := Aside0.mk hi103_6; have HC103_6 := Aside0.mk hl103_6; clear hi103_6 hl103_6; replace p103 := eq_true p103; replace q103 := eq_true q103
       go_wp2_with (first | ((with_reducible refine gate_callee (f := 15) rfl ?_); refine goesL_ (some 24) rfl rfl Tryd.func15 (by kernel_rfl) rfl #[.agg #[.string ((rd_T24 l0_8 x5_1).f0), .string ((rd_T24 l0_8 x5_1).f1), .int .i64 ((rd_T24 l0_8 x5_1).f2), .int .i64 ((rd_T24 l0_8 x5_1).f3), .string ((rd_T24 l0_8 x5_1).f4), .string ((rd_T24 l0_8 x5_1).f5), .slice A103_6 ((rd_T24 l0_8 x5_1).f6).length c103_6]] rfl pbb2_5 ?_; (with_reducible refine (F15.calls k1 ((rd_T24 l0_8 x5_1).f0) ((rd_T24 l0_8 x5_1).f1) ((rd_T24 l0_8 x5_1).f2) ((rd_T24 l0_8 x5_1).f3) ((rd_T24 l0_8 x5_1).f4) ((rd_T24 l0_8 x5_1).f5) _ _ ((rd_T24 l0_8 x5_1).f6) t104 _ (by repeat (first | exact (Kd.C_below HR103_6.out HB.out) | (with_reducible refine Kd.C_alloc ?_ _) | (with_reducible refine Kd.C_drewN ?_ _) | (with_reducible refine Kd.C_drew ?_))) (by exact HC103_6.out) A9.out).mono ?_); rintro e w14 ⟨rfl, hb⟩; refine ⟨_, rfl, ?_⟩; replace BK101 := Aside0.mk (blk_below (g := gb101) (o := .cells #[.int .i64 a0_0, .string a0_1, .int .i64 a0_2, .int .i64 a0_3, .int .i64 a0_4, .string a0_5, .string a0_6, .int .i64 a0_7, .slice (some ad103) l0_8.length c0_8] 33 (0, 0)) pbb2_12 hb); replace HB := Aside0.mk (below_step pbb2_11 hb); (try clear hb); (try clear hb2); (try clear hk); (try clear hi)))
       go_ret2
       exact ⟨pbb2_18, pbb2_11⟩
     ·rw [if_neg c8] at H; exact absurd H (by simp)
    ·rw [if_neg c7] at H; have c7b0 := decide_eq_false c7; clear c7; obtain ⟨t105, A150, H⟩ := bnd H; have A15 := Aside0.mk A150; clear A150
     by_cases c16 : t105 = true
     ·subst c16; rw [if_pos rfl] at H; simp only [Option.some.injEq, Prod.mk.injEq] at H; obtain ⟨rfl, rfl⟩ := H; obtain ⟨hcz17_0, hcz17_1, hcz17_2, hcz17_3, hcz17_4, hcz17_5, hcz17_6, hcz17_7, hcz17_8⟩ := cz9 BK101.out; obtain ⟨hfz17_0, hfz17_1, hfz17_2, hfz17_3, hfz17_4, hfz17_5, hfz17_6, hfz17_7, hfz17_8⟩ := fz9 BK101.out
      go_wp2_with (first | ((with_reducible refine gate_callee (f := 24) rfl ?_); refine goesL_ (some 31) rfl rfl Tryd.func24 (by kernel_rfl) rfl #[.slice A0_8 l0_8.length c0_8] rfl pbb2_5 ?_; (with_reducible refine (F24.calls k1 _ _ l0_8 true _ pbb6_6 (by exact HC0_8.out) A15.out).mono ?_); rintro e w18 ⟨rfl, hb⟩; refine ⟨_, rfl, ?_⟩; replace BK101 := Aside0.mk (blk_below (g := gb101) (o := .cells #[.int .i64 a0_0, .string a0_1, .int .i64 a0_2, .int .i64 a0_3, .int .i64 a0_4, .string a0_5, .string a0_6, .int .i64 a0_7, .slice A0_8 l0_8.length c0_8] 33 (0, 0)) pbb2_12 hb); replace HB := Aside0.mk (below_step pbb2_11 hb); (try clear hb); (try clear hb2); (try clear hk); (try clear hi)))
      go_ret2
      exact ⟨pbb2_18, pbb2_11⟩
     ·replace c16 := Bool.eq_false_iff.mpr c16; subst c16; rw [if_neg (show ¬ (false = true) by decide)] at H; simp only [Option.some.injEq, Prod.mk.injEq] at H; obtain ⟨rfl, rfl⟩ := H; obtain ⟨hcz19_0, hcz19_1, hcz19_2, hcz19_3, hcz19_4, hcz19_5, hcz19_6, hcz19_7, hcz19_8⟩ := cz9 BK101.out; obtain ⟨hfz19_0, hfz19_1, hfz19_2, hfz19_3, hfz19_4, hfz19_5, hfz19_6, hfz19_7, hfz19_8⟩ := fz9 BK101.out
      go_wp2_with (first | ((with_reducible refine gate_callee (f := 24) rfl ?_); refine goesL_ (some 31) rfl rfl Tryd.func24 (by kernel_rfl) rfl #[.slice A0_8 l0_8.length c0_8] rfl pbb2_5 ?_; (with_reducible refine (F24.calls k1 _ _ l0_8 false _ pbb6_6 (by exact HC0_8.out) A15.out).mono ?_); rintro e w20 ⟨rfl, hb⟩; refine ⟨_, rfl, ?_⟩; replace BK101 := Aside0.mk (blk_below (g := gb101) (o := .cells #[.int .i64 a0_0, .string a0_1, .int .i64 a0_2, .int .i64 a0_3, .int .i64 a0_4, .string a0_5, .string a0_6, .int .i64 a0_7, .slice A0_8 l0_8.length c0_8] 33 (0, 0)) pbb2_12 hb); replace HB := Aside0.mk (below_step pbb2_11 hb); (try clear hb); (try clear hb2); (try clear hk); (try clear hi)))
      go_ret2
      exact ⟨pbb2_18, pbb2_11⟩
 ·rw [if_neg c3] at H; have c3b0 := nF_ c3; have c3b1 := nT_ c3; simp only [Option.some.injEq, Prod.mk.injEq] at H; obtain ⟨rfl, rfl⟩ := H; go_enter Tryd.func17, Tryd.ntmps17
  go_wp2_with (first | ((with_reducible refine gate_dst (N := 1) rfl ?_); refine box_event ?hg (N := 1) ?hd (cs := #[.int .i64 a0_0, .string a0_1, .int .i64 a0_2, .int .i64 a0_3, .int .i64 a0_4, .string a0_5, .string a0_6, .int .i64 a0_7, .slice A0_8 l0_8.length c0_8]) (t := 33) ?hr ?_; (case hd => rfl); (case hg => rfl); (case hr => first | (go_simp; done) | (go_simp; rfl)); intro gb101 hg w21 hbox hb; have BK101 := Aside0.mk (hbox); have GW101 := Aside0.mk ((pbb2_8 : w.heap.size ≤ gb101)); have GE101 := Aside0.mk ((pbb2_8 : w.heap.size ≤ gb101)); replace HB := Aside0.mk (below_step pbb2_9 hb); clear hb hbox hg; obtain ⟨hcz22_0, hcz22_1, hcz22_2, hcz22_3, hcz22_4, hcz22_5, hcz22_6, hcz22_7, hcz22_8⟩ := cz9 BK101.out; obtain ⟨hfz22_0, hfz22_1, hfz22_2, hfz22_3, hfz22_4, hfz22_5, hfz22_6, hfz22_7, hfz22_8⟩ := fz9 BK101.out) | ((with_reducible refine gate_callee (f := 44) rfl ?_); refine goesL_ (some 8) rfl rfl Tryd.func44 (by kernel_rfl) rfl #[.agg #[.int .i64 a0_0, .string a0_1, .int .i64 a0_2, .int .i64 a0_3, .int .i64 a0_4, .string a0_5, .string a0_6, .int .i64 a0_7, .slice A0_8 l0_8.length c0_8]] rfl pbb2_5 ?_; (with_reducible refine (F44.calls k a0_0 a0_1 a0_2 a0_3 a0_4 a0_5 a0_6 a0_7 _ _ l0_8 t102 _ pbb6_6 (by exact HC0_8.out) A2.out).mono ?_); rintro e w23 ⟨rfl, hb⟩; refine ⟨_, rfl, ?_⟩; replace BK101 := Aside0.mk (blk_below (g := gb101) (o := .cells #[.int .i64 a0_0, .string a0_1, .int .i64 a0_2, .int .i64 a0_3, .int .i64 a0_4, .string a0_5, .string a0_6, .int .i64 a0_7, .slice A0_8 l0_8.length c0_8] 33 (0, 0)) pbb2_12 hb); replace HB := Aside0.mk (below_step pbb2_11 hb); (try clear hb); (try clear hb2); (try clear hk); (try clear hi)))
  go_ret2
  exact ⟨pbb2_18, pbb2_11⟩
end Go.Proofs.YtjeecehhcajfaaaDoor.M
end
section
namespace Go.Proofs.YtjeecehhcajfaaaDoor.M
open Go.RowKit Go.Proofs.YtjeecehhcajfaaaDoorW.PrintWords Go.Proofs.YtjeecehhcajfaaaDoorW.PrintLast
set_option linter.unusedVariables false
set_option linter.unusedSimpArgs false
def prn (a : Int) : Bool := decide (32 ≤ a) && decide (a ≤ 126)
def plv (b : ByteArray) : Nat → Nat → Bool
 | 0, _ => true
 | n + 1, i => prn (bt b (i : Int)) && plv b n (i + 1)
def plainv (b : ByteArray) : Bool := plv b b.size 0 && decide ((b.size : Int) ≤ 60)
theorem printable.eq (a : Int) : F80.f a = some (prn a) := by
 unfold F80.f prn
 by_cases c : a ≥ 32
 ·simp [c]
 ·have c2 : ¬ 32 ≤ a := c
  simp [c2]
theorem every.go (b : ByteArray) (hb : b.size ≤ 1000) : ∀ n i, i + n = b.size → Ev (fun k => F62b.l0 k b (b.size : Int) (i : Int)) (plv b n i)
 | 0, i, h => by
  refine Ev.succ ?_; simp only [F62b.l0, if_neg (show ¬ (i : Int) < (b.size : Int) by omega), plv]; exact Ev.const _
 | n + 1, i, h => by
  have ih := every.go b hb n (i + 1) (by omega); refine Ev.succ ?_; simp only [F62b.l0, if_pos (show (i : Int) < (b.size : Int) by omega), if_pos (show (0 : Int) ≤ (i : Int) by omega), printable.eq, Option.bind_some, plv, w64s (show i ≤ 1000000000 by omega)]
  cases prn (bt b (i : Int)) with
  | true => simp only [if_true, Bool.true_and]; exact ih
  | false => simp only [Bool.false_eq_true, if_false, Bool.false_and]; exact Ev.const _
theorem F70.eq (b : ByteArray) : Ev (fun k => F70.f k b) (plainv b) := by
 unfold F70.f plainv
 by_cases c : (b.size : Int) ≤ 60
 ·simp only [if_pos c, decide_eq_true c, Bool.and_true]
  unfold F62b.f
  exact Ev.bind (every.go b (by omega) b.size 0 (by omega)) (Ev.const _)
 ·simp only [if_neg c, decide_eq_false c, Bool.and_false]; exact Ev.const _
theorem refPlain.go (b : ByteArray) (hb : b.size ≤ 1000000000000000) : ∀ n i, i + n = b.size → Ev (fun k => F71.l0 k b (i : Int)) (plv b n i && decide ((b.size : Int) ≤ 60))
 | 0, i, h => by
  refine Ev.succ ?_; simp only [F71.l0, if_neg (show ¬ (i : Int) < (b.size : Int) by omega), plv, Bool.true_and]; exact Ev.const _
 | n + 1, i, h => by
  have ih := refPlain.go b hb n (i + 1) (by omega); refine Ev.succ ?_; simp only [F71.l0, if_pos (show (i : Int) < (b.size : Int) by omega), if_pos (show (0 : Int) ≤ (i : Int) by omega), plv]; rw [w64 (n := (i : Int) + 1) (by omega) (by omega), show (i : Int) + 1 = ((i + 1 : Nat) : Int) by omega]
  unfold prn
  by_cases c1 : bt b (i : Int) < 32
  ·simp only [if_pos c1, decide_eq_false (show ¬ 32 ≤ bt b (i : Int) by omega), Bool.false_and]; exact Ev.const _
  ·simp only [if_neg c1, decide_eq_true (show 32 ≤ bt b (i : Int) by omega), Bool.true_and]
   by_cases c2 : bt b (i : Int) > 126
   ·simp only [if_pos c2, decide_eq_false (show ¬ bt b (i : Int) ≤ 126 by omega), Bool.false_and]; exact Ev.const _
   ·simp only [if_neg c2, decide_eq_true (show bt b (i : Int) ≤ 126 by omega), Bool.true_and]; exact ih
theorem refPlain.eq (b : ByteArray) (hb : b.size ≤ 1000000000000000) : Ev (fun k => F71.f k b) (plainv b) := by
 unfold F71.f plainv
 exact refPlain.go b hb b.size 0 (by omega)
theorem isDay.eq (n : Int) : Ev (fun k => F57.f k n months) (dayv n) := by
 obtain ⟨y, a, b, h⟩ := F77.ok n
 unfold F57.f
 refine Ev.bind h ?_
 cases dayv n with
 | true => simp only [if_true]; exact Ev.const _
 | false => simp only [Bool.false_eq_true, if_false]; exact Ev.const _
theorem refDay.eq (n : Int) : F58.f n = some (dayv n) := by
 unfold F58.f dayv
 by_cases c : n ≥ 0
 ·rw [if_pos c]
  by_cases c2 : n ≤ 109572
  ·rw [decide_eq_true c2, decide_eq_true ⟨c, c2⟩]
  ·rw [decide_eq_false c2, decide_eq_false (fun h => c2 h.2)]
 ·rw [if_neg c, decide_eq_false (fun h => c h.1)]
def okH (x : En) : Prop := x.f1.size ≤ 1000000000000000 ∧ x.f5.size ≤ 1000000000000000 ∧ x.f6.size ≤ 1000000000000000
def hd3 (x : En) (b : Bool) : Int := if b = true then 10 else if plainv x.f5 = true then (if (x.f8.length : Int) < 2 then 2 else if (x.f8.length : Int) > 100 then 9 else 0) else 5
def hd2 (x : En) (b : Bool) : Int := if b = true then 11 else hd3 x (decide (x.f4 < 1) || decide (x.f4 > 7))
def hd1 (x : En) (b : Bool) : Int := if b = true then 7 else hd2 x (!(dayv x.f2 && dayv x.f3))
def hd0 (x : En) (b : Bool) : Int := if b = true then 3 else hd1 x (!(codev x.f1 && codev x.f6))
def headv (x : En) : Int := hd0 x (decide (x.f0 < 0) || (decide (x.f0 > 4000) || (decide (x.f7 < 0) || decide (x.f7 > 4000))))
theorem head.j3 (x : En) (b : Bool) : Ev (fun k => F43.j3 k b x.f0 x.f1 x.f2 x.f3 x.f4 x.f5 x.f6 x.f7 x.f8) (hd3 x b) := by
 refine Ev.succ ?_; simp only [F43.j3]
 unfold hd3
 cases b with
 | true => simp only [if_true]; exact Ev.const _
 | false =>
  simp only [Bool.false_eq_true, if_false]; refine Ev.bind (F70.eq x.f5) ?_
  cases plainv x.f5 with
  | true =>
   simp only [if_true]
   by_cases c1 : (x.f8.length : Int) < 2
   ·simp only [if_pos c1]; exact Ev.const _
   ·by_cases c2 : (x.f8.length : Int) > 100
    ·simp only [if_neg c1, if_pos c2]; exact Ev.const _
    ·simp only [if_neg c1, if_neg c2]; exact Ev.const _
  | false => simp only [Bool.false_eq_true, if_false]; exact Ev.const _
theorem head.j2 (x : En) (b : Bool) : Ev (fun k => F43.j2 k b x.f0 x.f1 x.f2 x.f3 x.f4 x.f5 x.f6 x.f7 x.f8) (hd2 x b) := by
 refine Ev.succ ?_; simp only [F43.j2]
 unfold hd2
 cases b with
 | true => simp only [if_true]; exact Ev.const _
 | false =>
  simp only [Bool.false_eq_true, if_false]
  by_cases c : x.f4 < 1
  ·simp only [if_pos c, decide_eq_true c, Bool.true_or]; exact head.j3 x true
  ·simp only [if_neg c, decide_eq_false c, Bool.false_or]; exact head.j3 x _
theorem head.j1 (x : En) (b : Bool) : Ev (fun k => F43.j1 k b months x.f0 x.f1 x.f2 x.f3 x.f4 x.f5 x.f6 x.f7 x.f8) (hd1 x b) := by
 refine Ev.succ ?_; simp only [F43.j1]
 unfold hd1
 cases b with
 | true => simp only [if_true]; exact Ev.const _
 | false =>
  simp only [Bool.false_eq_true, if_false]; refine Ev.bind (isDay.eq x.f2) ?_
  cases dayv x.f2 with
  | false => simp only [Bool.false_eq_true, if_false, Bool.false_and, Bool.not_false]; exact head.j2 x true
  | true =>
   simp only [if_true, Bool.true_and]; exact Ev.bind (isDay.eq x.f3) (head.j2 x _)
theorem head.j0 (x : En) (hx : okH x) (b : Bool) : Ev (fun k => F43.j0 k b months x.f0 x.f1 x.f2 x.f3 x.f4 x.f5 x.f6 x.f7 x.f8) (hd0 x b) := by
 refine Ev.succ ?_; simp only [F43.j0]
 unfold hd0
 cases b with
 | true => simp only [if_true]; exact Ev.const _
 | false =>
  simp only [Bool.false_eq_true, if_false]; refine Ev.bind (F33.eq x.f1) ?_
  cases codev x.f1 with
  | false => simp only [Bool.false_eq_true, if_false, Bool.false_and, Bool.not_false]; exact head.j1 x true
  | true =>
   simp only [if_true, Bool.true_and]; exact Ev.bind (F33.eq x.f6) (head.j1 x _)
theorem F43.eq (x : En) (hx : okH x) : Ev (fun k => F43.f k x.f0 x.f1 x.f2 x.f3 x.f4 x.f5 x.f6 x.f7 x.f8 months) (headv x) := by
 unfold F43.f headv
 by_cases c1 : x.f0 < 0
 ·simp only [if_pos c1, decide_eq_true c1, Bool.true_or]; exact head.j0 x hx true
 by_cases c2 : x.f0 > 4000
 ·simp only [if_neg c1, if_pos c2, decide_eq_false c1, decide_eq_true c2, Bool.false_or, Bool.true_or]; exact head.j0 x hx true
 by_cases c3 : x.f7 < 0
 ·simp only [if_neg c1, if_neg c2, if_pos c3, decide_eq_false c1, decide_eq_false c2, decide_eq_true c3, Bool.false_or, Bool.true_or]; exact head.j0 x hx true
 simp only [if_neg c1, if_neg c2, if_neg c3, decide_eq_false c1, decide_eq_false c2, decide_eq_false c3, Bool.false_or]; exact head.j0 x hx _
theorem rhead.j3 (x : En) (hx : okH x) (b : Bool) : Ev (fun k => F44.j3 k b x.f0 x.f1 x.f2 x.f3 x.f4 x.f5 x.f6 x.f7 x.f8) (hd3 x b) := by
 refine Ev.succ ?_; simp only [F44.j3]
 unfold hd3
 cases b with
 | true => simp only [if_true]; exact Ev.const _
 | false =>
  simp only [Bool.false_eq_true, if_false]; refine Ev.bind (refPlain.eq x.f5 hx.2.1) ?_
  cases plainv x.f5 with
  | true =>
   simp only [if_true]
   by_cases c1 : (x.f8.length : Int) < 2
   ·simp only [if_pos c1]; exact Ev.const _
   ·by_cases c2 : (x.f8.length : Int) > 100
    ·simp only [if_neg c1, if_pos c2]; exact Ev.const _
    ·simp only [if_neg c1, if_neg c2]; exact Ev.const _
  | false => simp only [Bool.false_eq_true, if_false]; exact Ev.const _
theorem rhead.j2 (x : En) (hx : okH x) (b : Bool) : Ev (fun k => F44.j2 k b x.f0 x.f1 x.f2 x.f3 x.f4 x.f5 x.f6 x.f7 x.f8) (hd2 x b) := by
 refine Ev.succ ?_; simp only [F44.j2]
 unfold hd2
 cases b with
 | true => simp only [if_true]; exact Ev.const _
 | false =>
  simp only [Bool.false_eq_true, if_false]
  by_cases c : x.f4 < 1
  ·simp only [if_pos c, decide_eq_true c, Bool.true_or]; exact rhead.j3 x hx true
  ·simp only [if_neg c, decide_eq_false c, Bool.false_or]; exact rhead.j3 x hx _
theorem rhead.j1 (x : En) (hx : okH x) (b : Bool) : Ev (fun k => F44.j1 k b x.f0 x.f1 x.f2 x.f3 x.f4 x.f5 x.f6 x.f7 x.f8) (hd1 x b) := by
 refine Ev.succ ?_; simp only [F44.j1]
 unfold hd1
 cases b with
 | true => simp only [if_true]; exact Ev.const _
 | false =>
  simp only [Bool.false_eq_true, if_false]; simp only [refDay.eq, Option.bind_some]
  cases dayv x.f2 with
  | false => simp only [Bool.false_eq_true, if_false, Bool.false_and, Bool.not_false]; exact rhead.j2 x hx true
  | true =>
   simp only [if_true, Bool.true_and]; exact rhead.j2 x hx _
theorem rhead.j0 (x : En) (hx : okH x) (b : Bool) : Ev (fun k => F44.j0 k b x.f0 x.f1 x.f2 x.f3 x.f4 x.f5 x.f6 x.f7 x.f8) (hd0 x b) := by
 refine Ev.succ ?_; simp only [F44.j0]
 unfold hd0
 cases b with
 | true => simp only [if_true]; exact Ev.const _
 | false =>
  simp only [Bool.false_eq_true, if_false]; refine Ev.bind (F38.eq x.f1 hx.1) ?_
  cases codev x.f1 with
  | false => simp only [Bool.false_eq_true, if_false, Bool.false_and, Bool.not_false]; exact rhead.j1 x hx true
  | true =>
   simp only [if_true, Bool.true_and]; exact Ev.bind (F38.eq x.f6 hx.2.2) (rhead.j1 x hx _)
theorem F44.eq (x : En) (hx : okH x) : Ev (fun k => F44.f k x.f0 x.f1 x.f2 x.f3 x.f4 x.f5 x.f6 x.f7 x.f8) (headv x) := by
 unfold F44.f headv
 by_cases c1 : x.f0 < 0
 ·simp only [if_pos c1, decide_eq_true c1, Bool.true_or]; exact rhead.j0 x hx true
 by_cases c2 : x.f0 > 4000
 ·simp only [if_neg c1, if_pos c2, decide_eq_false c1, decide_eq_true c2, Bool.false_or, Bool.true_or]; exact rhead.j0 x hx true
 by_cases c3 : x.f7 < 0
 ·simp only [if_neg c1, if_neg c2, if_pos c3, decide_eq_false c1, decide_eq_false c2, decide_eq_true c3, Bool.false_or, Bool.true_or]; exact rhead.j0 x hx true
 simp only [if_neg c1, if_neg c2, if_neg c3, decide_eq_false c1, decide_eq_false c2, decide_eq_false c3, Bool.false_or]; exact rhead.j0 x hx _
def chk (l : List Li) (bal : Bool) : Nat → Nat → Int × Int
 | 0, _ => if bal = true then (-1, 0) else (-1, 15)
 | n + 1, i => if linev (rd_T24 l (i : Int)) = 0 then chk l bal n (i + 1) else ((i : Int), linev (rd_T24 l (i : Int)))
def checkv (x : En) : Int × Int := if headv x = 0 then chk x.f8 (balv x.f8) x.f8.length 0 else (-1, headv x)
theorem check.go (l : List Li) (h : okA l) (hl : ∀ z ∈ l, okL z) (a0 : Int) (a1 : ByteArray) (a2 a3 a4 : Int) (a5 a6 : ByteArray) (a7 : Int) : ∀ n i, i + n = l.length → Ev (fun k => F16.l0 k l (l.length : Int) (i : Int) a0 a1 a2 a3 a4 a5 a6 a7 l) (chk l (balv l) n i)
 | 0, i, hi => by
  refine Ev.succ ?_; simp only [F16.l0, if_neg (show ¬ (i : Int) < (l.length : Int) by omega), F23.eq l h, Option.bind_some, chk]
  cases balv l with
  | true => simp only [if_true]; exact Ev.const _
  | false => simp only [Bool.false_eq_true, if_false]; exact Ev.const _
 | n + 1, i, hi => by
  have ih := check.go l h hl a0 a1 a2 a3 a4 a5 a6 a7 n (i + 1) (by omega); have hn := h.1; refine Ev.succ ?_; simp only [F16.l0, if_pos (show (i : Int) < (l.length : Int) by omega), if_pos (show (0 : Int) ≤ (i : Int) by omega), chk, w64s (show i ≤ 1000000000 by omega)]; refine Ev.bind (F14.eq _ (hl _ (rd24_mem (by omega)))) ?_
  by_cases c : linev (rd_T24 l (i : Int)) = 0
  ·simp only [if_pos c]; exact ih
  ·simp only [if_neg c]; exact Ev.const _
theorem F16.eq (x : En) (hx : okH x) (h : okA x.f8) (hl : ∀ z ∈ x.f8, okL z) : Ev (fun k => F16.f k x.f0 x.f1 x.f2 x.f3 x.f4 x.f5 x.f6 x.f7 x.f8 months) (checkv x) := by
 unfold F16.f checkv
 refine Ev.bind (F43.eq x hx) ?_
 by_cases c : headv x = 0
 ·simp only [if_pos c]; exact check.go x.f8 h hl _ _ _ _ _ _ _ _ x.f8.length 0 (by omega)
 ·simp only [if_neg c]; exact Ev.const _
theorem refCheck.go (l : List Li) (h : okA l) (hl : ∀ z ∈ l, okL z) (a0 : Int) (a1 : ByteArray) (a2 a3 a4 : Int) (a5 a6 : ByteArray) (a7 : Int) : ∀ n i, i + n = l.length → Ev (fun k => F17.l0 k (i : Int) a0 a1 a2 a3 a4 a5 a6 a7 l) (chk l (balv l) n i)
 | 0, i, hi => by
  refine Ev.succ ?_; simp only [F17.l0, if_neg (show ¬ (i : Int) < (l.length : Int) by omega), chk]; refine Ev.bind (refBal.eq l h) ?_
  cases balv l with
  | true => simp only [if_true]; exact Ev.const _
  | false => simp only [Bool.false_eq_true, if_false]; exact Ev.const _
 | n + 1, i, hi => by
  have ih := refCheck.go l h hl a0 a1 a2 a3 a4 a5 a6 a7 n (i + 1) (by omega); have hn := h.1; refine Ev.succ ?_; simp only [F17.l0, if_pos (show (i : Int) < (l.length : Int) by omega), if_pos (show (0 : Int) ≤ (i : Int) by omega), chk, w64s (show i ≤ 1000000000 by omega)]; refine Ev.bind (F15.eq _ (hl _ (rd24_mem (by omega)))) ?_
  by_cases c : linev (rd_T24 l (i : Int)) = 0
  ·simp only [if_pos c]; exact ih
  ·simp only [if_neg c]; exact Ev.const _
theorem refCheck.eq (x : En) (hx : okH x) (h : okA x.f8) (hl : ∀ z ∈ x.f8, okL z) : Ev (fun k => F17.f k x.f0 x.f1 x.f2 x.f3 x.f4 x.f5 x.f6 x.f7 x.f8) (checkv x) := by
 unfold F17.f checkv
 refine Ev.bind (F44.eq x hx) ?_
 by_cases c : headv x = 0
 ·simp only [if_pos c]; exact refCheck.go x.f8 h hl _ _ _ _ _ _ _ _ x.f8.length 0 (by omega)
 ·simp only [if_neg c]; exact Ev.const _
theorem G33_ok {x : En} (h : G33 x) : okH x := by
 obtain ⟨_, h1, _, _, _, h5, h6, _, _⟩ := h; exact ⟨by omega, by omega, by omega⟩
theorem lit_in {x : Int} (h : (Lit.int .i64 x).wf = true) : inW x := by
 unfold inW
 simp [Lit.wf, IntKind.min, IntKind.max, IntKind.bits, IntKind.signed] at h
 omega
theorem G24_okA {l : List Li} (h : ∀ z ∈ l, G24 z) (hl : l.length ≤ 150) : okA l := by
 refine ⟨by omega, fun z hz => ?_⟩; obtain ⟨_, _, h2, h3, _⟩ := h z hz; exact ⟨lit_in h2, lit_in h3⟩
end Go.Proofs.YtjeecehhcajfaaaDoor.M
end
section
namespace Go.Proofs.YtjeecehhcajfaaaDoor.M
open Go.RowKit Go.Proofs.YtjeecehhcajfaaaDoorW.PrintWords Go.Proofs.YtjeecehhcajfaaaDoorW.PrintLast
set_option linter.unusedVariables false
set_option linter.unusedSimpArgs false
set_option linter.unusedSectionVars false
abbrev R10 := Int × ByteArray × Int × Int × Int × ByteArray × ByteArray × Int × (List Li) × Int
def negL (x : Li) : Li := ⟨x.f0, x.f1, wrap64 (-x.f2), wrap64 (-x.f3), x.f4, x.f5, x.f6⟩
def tupR (x : En) (r : List Li) (a b : Int) (c : ByteArray) : R10 := (0, x.f1, a, b, 5, x.f5, c, x.f0, r, 0)
def errR (e : Int) : R10 := (0, ⟨#[]⟩, 0, 0, 0, ⟨#[]⟩, ⟨#[]⟩, 0, [], e)
section
variable (x : En) (hn : x.f8.length ≤ 150) (hl : ∀ z ∈ x.f8, okL z) (a b : Int) (c : ByteArray)
include hn hl
theorem rev.l0 : ∀ (n i : Nat) (out : List Li), i + n = x.f8.length → out.length = i → Ev (fun k => F28.l0 k x.f8 (x.f8.length : Int) (i : Int) 0 x.f1 a b 5 x.f5 c x.f0 out) (tupR x (out ++ (x.f8.drop i).map negL) a b c)
 | 0, i, out, hi, ho => by
  refine Ev.succ ?_; simp only [F28.l0, if_neg (show ¬ (i : Int) < (x.f8.length : Int) by omega)]; rw [List.drop_eq_nil_of_le (by omega), List.map_nil, List.append_nil]; exact Ev.const _
 | n + 1, i, out, hi, ho => by
  have hlt : i < x.f8.length := by omega
  have hrd : rd_T24 x.f8 (i : Int) = x.f8[i] := by simp [rd_T24, hlt]
  have htg : (x.f8[i].f6).length < 4398046511104 := by have := (hl _ (List.getElem_mem hlt)).2.2.2.2.1; omega
  have ih := rev.l0 n (i + 1) (out ++ [negL x.f8[i]]) (by omega) (by simp; omega); rw [List.append_assoc] at ih; rw [List.drop_eq_getElem_cons hlt, List.map_cons]; refine Ev.succ ?_; simp only [F28.l0, if_pos (show (i : Int) < (x.f8.length : Int) by omega), if_pos (show (0 : Int) ≤ (i : Int) by omega), hrd, List.length_nil, Nat.zero_add, if_pos htg, if_pos (show out.length < 1353245080339 by omega), w64s (show i ≤ 1000000000 by omega), List.nil_append]; exact ih
def revJ (d : Bool) : R10 := if d = true then errR 11 else if codev c = true then tupR x (x.f8.map negL) a b c else errR 7
theorem rev.j0 (d : Bool) : Ev (fun k => F28.j0 k a b c d x.f0 x.f1 x.f2 x.f3 x.f4 x.f5 x.f6 x.f7 x.f8 0 (⟨#[]⟩ : ByteArray) 0 0 0 (⟨#[]⟩ : ByteArray) (⟨#[]⟩ : ByteArray) 0) (revJ x a b c d) := by
 refine Ev.succ ?_; simp only [F28.j0]
 unfold revJ
 cases d with
 | true => simp only [if_true]; exact Ev.const _
 | false =>
  simp only [Bool.false_eq_true, if_false]; refine Ev.bind (F33.eq c) ?_
  cases codev c with
  | true => simp only [if_true]; exact rev.l0 x hn hl a b c x.f8.length 0 [] (by omega) rfl
  | false => simp only [Bool.false_eq_true, if_false]; exact Ev.const _
def revv : R10 := if (checkv x).2 = 0 then (if x.f0 = 0 then errR 28 else revJ x a b c (!(dayv a && dayv b))) else errR (checkv x).2
theorem entryRev.eq (hx : okH x) (h : okA x.f8) : Ev (fun k => F28.f k x.f0 x.f1 x.f2 x.f3 x.f4 x.f5 x.f6 x.f7 x.f8 a b c months) (revv x a b c) := by
 unfold F28.f revv
 refine Ev.bind (F16.eq x hx h hl) ?_
 by_cases e : (checkv x).2 = 0
 ·simp only [if_pos e]
  by_cases z : x.f0 = 0
  ·simp only [if_pos z]; exact Ev.const _
  ·simp only [if_neg z]; refine Ev.bind (isDay.eq a) ?_
   cases dayv a with
   | true =>
    simp only [if_true, Bool.true_and]; exact Ev.bind (isDay.eq b) (rev.j0 x hn hl a b c _)
   | false => simp only [Bool.false_eq_true, if_false, Bool.false_and, Bool.not_false]; exact rev.j0 x hn hl a b c true
 ·simp only [if_neg e]; exact Ev.const _
theorem rev_ok : (revv x a b c).2.2.2.2.2.2.2.2.1.length ≤ 1000000 ∧ ∀ z ∈ (revv x a b c).2.2.2.2.2.2.2.2.1, okL z := by
 have h1 : ∀ e, (errR e).2.2.2.2.2.2.2.2.1.length ≤ 1000000 ∧ ∀ z ∈ (errR e).2.2.2.2.2.2.2.2.1, okL z := fun e => ⟨by simp [errR], fun z hz => by simp [errR] at hz⟩
 unfold revv revJ
 split
 ·split
  ·exact h1 _
  ·split
   ·exact h1 _
   ·split
    ·refine ⟨by simp [tupR]; omega, fun z hz => ?_⟩; simp only [tupR] at hz; obtain ⟨y, hy, rfl⟩ := List.mem_map.1 hz; exact hl y hy
    ·exact h1 _
 ·exact h1 _
end
end Go.Proofs.YtjeecehhcajfaaaDoor.M
end
section
namespace Go.Proofs.YtjeecehhcajfaaaDoor.M
open Go.RowKit Go.Proofs.YtjeecehhcajfaaaDoorW.PrintWords Go.Proofs.YtjeecehhcajfaaaDoorW.PrintLast
set_option linter.unusedVariables false
set_option linter.unusedSimpArgs false
theorem lit_inW {x : Int} (h : (Lit.int .i64 x).wf = true) : inW x := by
 unfold inW
 simp [Lit.wf, IntKind.min, IntKind.max, IntKind.bits, IntKind.signed] at h
 omega
theorem G24_okA2 {l : List Li} (h : ∀ z ∈ l, G24 z) (hl : l.length ≤ 150) : okA l := by
 refine ⟨by omega, fun z hz => ?_⟩; obtain ⟨_, _, h2, h3, _⟩ := h z hz; exact ⟨lit_inW h2, lit_inW h3⟩
abbrev Sm := S61
def fitS (a : Int) : Prop := -1000000000000000 ≤ a ∧ a ≤ 1000000000000000
instance (x : Int) : Decidable (fitS x) := by unfold fitS; infer_instance
def sumsV (l : List Li) : List ByteArray → List Sm → List Sm × Int
 | [], out => (out, 0)
 | c :: r, out => if fitS (amtsOf curKey l c).sum ∧ fitS (basesOf curKey l c).sum then sumsV l r (out ++ [⟨c, (amtsOf curKey l c).sum, (basesOf curKey l c).sum⟩]) else ([], 4)
def sumsv (l : List Li) : List Sm × Int := sumsV l (cursOf l) []
theorem find_col {κ : Type} [DecidableEq κ] {key : Li → κ} {l : List Li} {k : κ} (h : ∃ x ∈ l, key x = k) : ∃ q, (colsOf key l).find? (fun q => decide (q.1 = k)) = some q ∧ q.2.1 = amtsOf key l k ∧ q.2.2 = basesOf key l k := by
 have hi := colsOf_inv key l
 cases hf : (colsOf key l).find? (fun q => decide (q.1 = k)) with
 | none =>
  obtain ⟨q, hq, e⟩ := List.mem_map.1 ((hi.2 k).2 h); have := List.find?_eq_none.1 hf q hq
  simp [e] at this
 | some q =>
  have hk : q.1 = k := by simpa using List.find?_some hf
  have := hi.1 q (List.mem_of_find?_eq_some hf); rw [hk] at this; exact ⟨q, rfl, this.1, this.2⟩
theorem sumsL_eq (l : List Li) (h : okA l) : ∀ (C : List ByteArray) (out : List Sm), (∀ c ∈ C, ∃ x ∈ l, curKey x = c) → sumsL (colsOf curKey l) C out = some (sumsV l C out)
 | [], out, _ => rfl
 | c :: C, out, hC => by
  obtain ⟨q, hq, h1, h2⟩ := find_col (hC c List.mem_cons_self); obtain ⟨b1, b2, b3, b4⟩ := amts_in curKey h c; have ih := fun o => sumsL_eq l h C o (fun d hd => hC d (List.mem_cons_of_mem _ hd)); simp only [sumsL, hq, h1, h2, bothf.eq 1000000000000000 (by omega) (by omega) _ _ b1 b2 b3 b4, Option.bind_some, sumsV]
  by_cases e : fitS (amtsOf curKey l c).sum ∧ fitS (basesOf curKey l c).sum
  ·have e2 := e
   unfold fitS at e2
   simp only [if_pos e, if_pos e2, if_true]; exact ih _
  ·have e2 := e
   unfold fitS at e2
   simp only [if_neg e, if_neg e2]
   rfl
theorem F18.eq (l : List Li) (h : okA l) : F18.f l = some (sumsv l) := by
 unfold F18.f sumsv
 rw [if_pos h.1, cursOf_keys]; exact sumsL_eq l h _ _ (fun c hc => (cursOf_mem l c).1 hc)
end Go.Proofs.YtjeecehhcajfaaaDoor.M
end
section
namespace Go.Proofs.YtjeecehhcajfaaaDoor.M
open Go.RowKit Go.Proofs.YtjeecehhcajfaaaDoorW.PrintWords Go.Proofs.YtjeecehhcajfaaaDoorW.PrintLast Go.Proofs.YtjeecehhcajfaaaDoorW.PrintMore
attribute [local go_sem] max2_int min2_int max_two min_two max_three min_three max_four min_four
set_option linter.unusedVariables false
set_option linter.unusedSimpArgs false
def F19.l0 : Nat → List (S24) → List (S61) → List ByteArray → Int → Option ((List (S61)) × Int)
  | 0, _, _, _, _ => none
  | k + 1, x0, x4, x5, x6 => if x6 < (x5.length : Int) then (if 0 ≤ x6 then ((F50.f k x0 (rdOf ByteArray.empty x5 x6)).bind fun bt105 => (if bt105.2.2 = true then ((F41.f bt105.1 1000000000000000).bind fun t108 => (if t108 = true then ((F41.f bt105.2.1 1000000000000000).bind fun t109 => (if t109 = true then (if x4.length < 4398046511104 then (F19.l0 k x0 (x4 ++ [(⟨rdOf ByteArray.empty x5 x6, bt105.1, bt105.2.1⟩ : S61)]) x5 (wrap64 (x6 + 1))) else (none)) else (some (([] : List (S61)), 4)))) else (some (([] : List (S61)), 4)))) else (some (([] : List (S61)), 4)))) else (none)) else (some (x4, 0))
def F19.f (k : Nat) (l0 : List (S24)) : Option ((List (S61)) × Int) := (F49.f l0).bind fun t101 => (F19.l0 k l0 ([] : List (S61)) t101 0)
set_option maxHeartbeats 8000000 in
set_option maxRecDepth 100000 in
theorem F19.calls (k : Nat) (A0 : Option Addr) (c0 : Nat) (l0 : List (S24)) (r1 : List (S61)) (r2 : Int) (w : World) (hr0 : Kd.C k24 w A0 l0.length l0) (hc0 : l0.length ≤ c0) (h : F19.f k l0 = some (r1, r2)) :
    Calls Tryd.prog 19 #[.slice A0 l0.length c0] w fun e w' => ∃ v0_ : Value, e = .returned (.tuple #[v0_, .int .i64 r2]) ∧ Kd.R k61 61 w' w.heap.size (fun _ => True) v0_ r1 ∧ Below w.heap.size w w' := by
 have hu9 := Tryd.underlying9; have hu61 := Tryd.underlying61; have HR0 := Aside0.mk hr0; have HC0 := Aside0.mk hc0; clear hr0 hc0; have HB := Aside0.mk (Below.refl w.heap.size w)
 unfold F19.f at h
 have H := h; clear h; obtain ⟨t101, A20, H⟩ := bnd H; have A2 := Aside0.mk A20; clear A20; have H' := Aside0.mk H; clear H; go_enter Tryd.func19, Tryd.ntmps19
 go_wp2_with (first | ((with_reducible refine gate_callee (f := 49) rfl ?_); refine goesL_ (some 11) rfl rfl Tryd.func49 (by kernel_rfl) rfl #[.slice A0 l0.length c0] rfl pbb2_5 ?_; (with_reducible refine (F49.calls _ _ l0 t101 _ (by repeat (first | exact HR0.out | (with_reducible refine Kd.C_alloc ?_ _) | (with_reducible refine Kd.C_drewN ?_ _) | (with_reducible refine Kd.C_drew ?_))) HC0.out A2.out).mono ?_); rintro e w3 ⟨v102, rfl, ho0, hb⟩; refine ⟨_, rfl, ?_⟩; have HO103 := Aside0.mk (Kd.R_lower ho0 (below_size pbb2_9)); replace HB := Aside0.mk (below_step pbb2_9 hb); (try clear hb); (try clear hb2); (try clear hk); (try clear hi); (try clear ho0)))
 (try simp only [Act.put, List.setIfInBounds_toArray, List.set_cons_zero, List.set_cons_succ])
 go_loopg [4, 6] k (fun kq v4 v6 w' => ∃ (x4_1 : List (S61)) (x6_1 : Int), v6 = .int .i64 x6_1 ∧ Aside0 (F19.l0 kq l0 x4_1 t101 x6_1 = some (r1, r2)) ∧ Aside0 (kq ≤ k) ∧ Aside0 (Kd.R k61 61 w' w.heap.size (fun _ => True) v4 x4_1) ∧ Aside0 (Kd.R Kd.string 9 w' w.heap.size (fun _ => True) v102 t101) ∧ Aside0 (Below w.heap.size w w'))
 case atStart => exact ⟨(([] : List (S61))), (0), pbb2_3, H', ⟨Nat.le_refl _⟩, ⟨ptw2_0⟩, ⟨by (with_reducible repeat (first | apply Kd.R_alloc | apply Kd.R_drewN | apply Kd.R_drew)); exact HO103.out⟩, ⟨pbb2_9⟩⟩
 case round =>
  clear H'; obtain ⟨x4_1, x6_1, rfl, HA, HK1, HO_4, HO_5, HB⟩ := hrel
  cases gk with
  | zero => exact absurd HA.out (by simp [F19.l0])
  | succ k1 =>
   have H := HA.out; clear HA; simp only [F19.l0] at H
   by_cases c4 : x6_1 < (t101.length : Int)
   ·rw [if_pos c4] at H; have c4b0 := decide_eq_true c4; clear c4
    by_cases c5 : 0 ≤ x6_1
    ·rw [if_pos c5] at H; have c5b0 := decide_eq_true c5; clear c5; obtain ⟨⟨t105, t106, t107⟩, A60, H⟩ := bnd H; (try dsimp only at H); have A6 := Aside0.mk A60; clear A60
     by_cases c7 : t107 = true
     ·subst c7; rw [if_pos rfl] at H; obtain ⟨t108, A80, H⟩ := bnd H; have A8 := Aside0.mk A80; clear A80
      by_cases c9 : t108 = true
      ·subst c9; rw [if_pos rfl] at H; obtain ⟨t109, A100, H⟩ := bnd H; have A10 := Aside0.mk A100; clear A100
       by_cases c11 : t109 = true
       ·subst c11; rw [if_pos rfl] at H
        by_cases c12 : x4_1.length < 4398046511104
        ·rw [if_pos c12] at H; have LMc12 := Aside0.mk c12; clear c12; obtain ⟨y111, hy111⟩ : ∃ y_ : List (S61), y_ = (x4_1 ++ [(⟨rdOf ByteArray.empty t101 x6_1, t105, t106⟩ : S61)]) := ⟨_, rfl⟩; replace H : (F19.l0 k1 l0 y111 t101 (wrap64 (x6_1 + 1))) = some (r1, r2) := by first | (rw [hy111]; with_reducible exact H) | (have H2_ := (Option.bind_some _ _).symm.trans H; rw [hy111]; with_reducible exact H2_) | (have H2_ := (Option.bind_some _ _).symm.trans H; with_reducible exact H2_) | with_reducible exact H | (rw [hy111]; exact H) | exact H
         have Ny111 := Aside0.mk hy111; clear hy111; have H' := Aside0.mk H; clear H; obtain ⟨Ao13, co13, eo13⟩ := Kd.R_slice HO_5.out; subst eo13; have p104 : 0 ≤ (x6_1 : Int) := of_decide_eq_true pbb2_6; have q104 : x6_1 < (t101.length : Int) := of_decide_eq_true pbb2_6; obtain ⟨ad104, e104, hx104_0⟩ := Kd.at_string (Kd.R_reads' HO_5.out).2.2 x6_1 p104 q104
         cases e104
         replace p104 := eq_true p104; replace q104 := eq_true q104
         go_wp2_with (first | ((with_reducible refine gate_callee (f := 50) rfl ?_); refine goesL_ (some 24) rfl rfl Tryd.func50 (by kernel_rfl) rfl #[.slice A0 l0.length c0, .string (rdOf ByteArray.empty t101 x6_1)] rfl pbb2_5 ?_; (with_reducible refine (F50.calls k1 _ _ l0 (rdOf ByteArray.empty t101 x6_1) t105 t106 true _ ptw1_0 HC0.out A6.out).mono ?_); rintro e w14 ⟨rfl, hb⟩; refine ⟨_, rfl, ?_⟩; replace HO_4 := Aside0.mk (Kd.R_below ptw2_1 hb); replace HO_5 := Aside0.mk (Kd.R_below ptw2_2 hb); replace HB := Aside0.mk (below_step pbb2_9 hb); (try clear hb); (try clear hb2); (try clear hk); (try clear hi)) | (go_at_call 41; (with_reducible refine (F41.calls t105 1000000000000000 true _ A8.out).mono ?_); rintro e w' ⟨rfl, ⟨nd, rfl⟩⟩) | (go_at_call 41; (with_reducible refine (F41.calls t106 1000000000000000 true _ A10.out).mono ?_); rintro e w' ⟨rfl, ⟨nd, rfl⟩⟩; have p110 : 0 ≤ (x6_1 : Int) := of_decide_eq_true pbb2_6; have q110 : x6_1 < (t101.length : Int) := of_decide_eq_true pbb2_6; obtain ⟨ad110, e110, hx110_0⟩ := Kd.at_string (Kd.R_reads' HO_5.out).2.2 x6_1 p110 q110; obtain rfl : ad104 = ad110 := (by injection e110); replace p110 := eq_true p110; replace q110 := eq_true q110) | ((with_reducible refine gate_builtin (b := .append) (xs := #[.tmp 40, .tmp 48]) rfl ?_); at_builtin; refine Kd.R_append k61 (w0 := w) w.heap.size rfl (.tmp 40) (.tmp 48) 39 61 (.agg #[(.string ⟨#[]⟩), (.int .i64 0), (.int .i64 0)]) 32 rfl Tryd.underlying39 info61 rfl (by decide) (by omega) u4 x4_1 (⟨rdOf ByteArray.empty t101 x6_1, t105, t106⟩ : S61) [.string (rdOf ByteArray.empty t101 x6_1), .int .i64 t105, .int .i64 t106] (fun _ => True) (fun _ => False) rfl rfl ?aP (fun _ hk => hk.elim) ?aF ?aO ?aB ?aS ?aL ?_; (case aP => exact k61_mkM _ _ _ (⟨rdOf ByteArray.empty t101 x6_1, t105, t106⟩ : S61)); (case aB => exact pbb2_9); (case aF => exact (fun _ _ => trivial)); (case aO => exact ptw2_1); (case aS => exact (below_size pbb2_9)); (case aL => have := LMc12.out; omega); intro v112 w15 ho hb hg hat; rw [← Ny111.out] at ho; replace HO_5 := Aside0.mk (Kd.R_over' ptw2_2 (Kd.R_typed ptw2_1) (by decide) hg); replace HB := Aside0.mk (hb); have HO113 := Aside0.mk (ho); clear HO_4; clear ho hb hg hat))
         go_roundg k1
         case measure => have := HK1.out; omega
         case rel => exact ⟨(y111), (wrap64 (x6_1 + 1)), pbb2_3, H', ⟨pbb2_7⟩, ⟨by (with_reducible repeat (first | apply Kd.R_alloc | apply Kd.R_drewN | apply Kd.R_drew)); exact HO113.out⟩, ⟨ptw2_2⟩, ⟨pbb2_9⟩⟩
        ·rw [if_neg c12] at H; exact absurd H (by simp)
       ·replace c11 := Bool.eq_false_iff.mpr c11; subst c11; rw [if_neg (show ¬ (false = true) by decide)] at H; simp only [Option.some.injEq, Prod.mk.injEq] at H; obtain ⟨rfl, rfl⟩ := H; obtain ⟨Ao16, co16, eo16⟩ := Kd.R_slice HO_5.out; subst eo16; have p104 : 0 ≤ (x6_1 : Int) := of_decide_eq_true pbb2_6; have q104 : x6_1 < (t101.length : Int) := of_decide_eq_true pbb2_6; obtain ⟨ad104, e104, hx104_0⟩ := Kd.at_string (Kd.R_reads' HO_5.out).2.2 x6_1 p104 q104
        cases e104
        replace p104 := eq_true p104; replace q104 := eq_true q104
        go_wp2_with (first | ((with_reducible refine gate_callee (f := 50) rfl ?_); refine goesL_ (some 24) rfl rfl Tryd.func50 (by kernel_rfl) rfl #[.slice A0 l0.length c0, .string (rdOf ByteArray.empty t101 x6_1)] rfl pbb2_5 ?_; (with_reducible refine (F50.calls k1 _ _ l0 (rdOf ByteArray.empty t101 x6_1) t105 t106 true _ ptw1_0 HC0.out A6.out).mono ?_); rintro e w17 ⟨rfl, hb⟩; refine ⟨_, rfl, ?_⟩; replace HO_4 := Aside0.mk (Kd.R_below ptw2_1 hb); replace HO_5 := Aside0.mk (Kd.R_below ptw2_2 hb); replace HB := Aside0.mk (below_step pbb2_9 hb); (try clear hb); (try clear hb2); (try clear hk); (try clear hi)) | (go_at_call 41; (with_reducible refine (F41.calls t105 1000000000000000 true _ A8.out).mono ?_); rintro e w' ⟨rfl, ⟨nd, rfl⟩⟩) | (go_at_call 41; (with_reducible refine (F41.calls t106 1000000000000000 false _ A10.out).mono ?_); rintro e w' ⟨rfl, ⟨nd, rfl⟩⟩))
        go_ret2
        exact ⟨_, pbb2_18, ptw2_0, pbb2_9⟩
      ·replace c9 := Bool.eq_false_iff.mpr c9; subst c9; rw [if_neg (show ¬ (false = true) by decide)] at H; simp only [Option.some.injEq, Prod.mk.injEq] at H; obtain ⟨rfl, rfl⟩ := H; obtain ⟨Ao18, co18, eo18⟩ := Kd.R_slice HO_5.out; subst eo18; have p104 : 0 ≤ (x6_1 : Int) := of_decide_eq_true pbb2_6; have q104 : x6_1 < (t101.length : Int) := of_decide_eq_true pbb2_6; obtain ⟨ad104, e104, hx104_0⟩ := Kd.at_string (Kd.R_reads' HO_5.out).2.2 x6_1 p104 q104
       cases e104
       replace p104 := eq_true p104; replace q104 := eq_true q104
       go_wp2_with (first | ((with_reducible refine gate_callee (f := 50) rfl ?_); refine goesL_ (some 24) rfl rfl Tryd.func50 (by kernel_rfl) rfl #[.slice A0 l0.length c0, .string (rdOf ByteArray.empty t101 x6_1)] rfl pbb2_5 ?_; (with_reducible refine (F50.calls k1 _ _ l0 (rdOf ByteArray.empty t101 x6_1) t105 t106 true _ ptw1_0 HC0.out A6.out).mono ?_); rintro e w19 ⟨rfl, hb⟩; refine ⟨_, rfl, ?_⟩; replace HO_4 := Aside0.mk (Kd.R_below ptw2_1 hb); replace HO_5 := Aside0.mk (Kd.R_below ptw2_2 hb); replace HB := Aside0.mk (below_step pbb2_9 hb); (try clear hb); (try clear hb2); (try clear hk); (try clear hi)) | (go_at_call 41; (with_reducible refine (F41.calls t105 1000000000000000 false _ A8.out).mono ?_); rintro e w' ⟨rfl, ⟨nd, rfl⟩⟩))
       go_ret2
       exact ⟨_, pbb2_18, ptw2_0, pbb2_9⟩
     ·replace c7 := Bool.eq_false_iff.mpr c7; subst c7; rw [if_neg (show ¬ (false = true) by decide)] at H; simp only [Option.some.injEq, Prod.mk.injEq] at H; obtain ⟨rfl, rfl⟩ := H; obtain ⟨Ao20, co20, eo20⟩ := Kd.R_slice HO_5.out; subst eo20; have p104 : 0 ≤ (x6_1 : Int) := of_decide_eq_true pbb2_6; have q104 : x6_1 < (t101.length : Int) := of_decide_eq_true pbb2_6; obtain ⟨ad104, e104, hx104_0⟩ := Kd.at_string (Kd.R_reads' HO_5.out).2.2 x6_1 p104 q104
      cases e104
      replace p104 := eq_true p104; replace q104 := eq_true q104
      go_wp2_with (first | ((with_reducible refine gate_callee (f := 50) rfl ?_); refine goesL_ (some 24) rfl rfl Tryd.func50 (by kernel_rfl) rfl #[.slice A0 l0.length c0, .string (rdOf ByteArray.empty t101 x6_1)] rfl pbb2_5 ?_; (with_reducible refine (F50.calls k1 _ _ l0 (rdOf ByteArray.empty t101 x6_1) t105 t106 false _ ptw1_0 HC0.out A6.out).mono ?_); rintro e w21 ⟨rfl, hb⟩; refine ⟨_, rfl, ?_⟩; replace HO_4 := Aside0.mk (Kd.R_below ptw2_1 hb); replace HO_5 := Aside0.mk (Kd.R_below ptw2_2 hb); replace HB := Aside0.mk (below_step pbb2_9 hb); (try clear hb); (try clear hb2); (try clear hk); (try clear hi)))
      go_ret2
      exact ⟨_, pbb2_18, ptw2_0, pbb2_9⟩
    ·rw [if_neg c5] at H; exact absurd H (by simp)
   ·rw [if_neg c4] at H; have c4b0 := decide_eq_false c4; clear c4; simp only [Option.some.injEq, Prod.mk.injEq] at H; obtain ⟨rfl, rfl⟩ := H; obtain ⟨Ao22, co22, eo22⟩ := Kd.R_slice HO_5.out; subst eo22
    go_wp2
    go_ret2
    exact ⟨_, pbb2_18, ptw2_1, pbb2_9⟩
def F21.l0 : Nat → List (S24) → List Int → Int → Option (Int × Int)
  | 0, _, _, _ => none
  | k + 1, x0, x4, x5 => if x5 < (x0.length : Int) then (if 0 ≤ x5 then (if x4.length < 17592186044416 then (F21.l0 k x0 (x4 ++ [mx ((rd_T24 x0 x5).f3) 0]) (wrap64 (x5 + 1))) else (none)) else (none)) else ((F52.f k x4).bind fun bt105 => (if bt105.2 = true then (if bt105.1 > 1000000000000000 then (some (0, 4)) else (some (bt105.1, 0))) else (some (0, 4))))
def F21.f (k : Nat) (l0 : List (S24)) : Option (Int × Int) := F21.l0 k l0 ([] : List Int) 0
set_option maxHeartbeats 8000000 in
set_option maxRecDepth 100000 in
theorem F21.calls (k : Nat) (A0 : Option Addr) (c0 : Nat) (l0 : List (S24)) (r1 : Int) (r2 : Int) (w : World) (hr0 : Kd.C k24 w A0 l0.length l0) (hc0 : l0.length ≤ c0) (h : F21.f k l0 = some (r1, r2)) :
    Calls Tryd.prog 21 #[.slice A0 l0.length c0] w fun e w' => e = .returned (.tuple #[.int .i64 r1, .int .i64 r2]) ∧ Below w.heap.size w w' := by
 have hu3 := Tryd.underlying3; have HR0 := Aside0.mk hr0; have HC0 := Aside0.mk hc0; clear hr0 hc0; have HB := Aside0.mk (Below.refl w.heap.size w)
 unfold F21.f at h
 have H := h; clear h; have H' := Aside0.mk H; clear H; go_enter Tryd.func21, Tryd.ntmps21
 go_wp2
 go_loopg [4, 5] k (fun kq v4 v5 w' => ∃ (x4_1 : List Int) (x5_1 : Int), v5 = .int .i64 x5_1 ∧ Aside0 (F21.l0 kq l0 x4_1 x5_1 = some (r1, r2)) ∧ Aside0 (kq ≤ k) ∧ Aside0 (Kd.R (Kd.int .i64) 3 w' w.heap.size (fun _ => True) v4 x4_1) ∧ Aside0 (Below w.heap.size w w'))
 case atStart => exact ⟨(([] : List Int)), (0), pbb2_3, H', ⟨Nat.le_refl _⟩, ⟨ptw2_0⟩, ⟨pbb2_9⟩⟩
 case round =>
  clear H'; obtain ⟨x4_1, x5_1, rfl, HA, HK1, HO_4, HB⟩ := hrel
  cases gk with
  | zero => exact absurd HA.out (by simp [F21.l0])
  | succ k1 =>
   have H := HA.out; clear HA; simp only [F21.l0] at H
   by_cases c2 : x5_1 < (l0.length : Int)
   ·rw [if_pos c2] at H; have c2b0 := decide_eq_true c2; clear c2
    by_cases c3 : 0 ≤ x5_1
    ·rw [if_pos c3] at H; have c3b0 := decide_eq_true c3; clear c3; obtain ⟨ji4, hji4⟩ : ∃ j_ : Int, (mx ((rd_T24 l0 x5_1).f3) 0) = j_ := ⟨_, rfl⟩; (first | rw [hji4] at H | simp only [hji4] at H); have hji4_ : (if ((rd_T24 l0 x5_1).f3) < 0 then 0 else ((rd_T24 l0 x5_1).f3)) = ji4 := hji4
     by_cases c5 : x4_1.length < 17592186044416
     ·rw [if_pos c5] at H; have LMc5 := Aside0.mk c5; clear c5; obtain ⟨y102, hy102⟩ : ∃ y_ : List Int, y_ = (x4_1 ++ [ji4]) := ⟨_, rfl⟩; replace H : (F21.l0 k1 l0 y102 (wrap64 (x5_1 + 1))) = some (r1, r2) := by first | (rw [hy102]; with_reducible exact H) | (have H2_ := (Option.bind_some _ _).symm.trans H; rw [hy102]; with_reducible exact H2_) | (have H2_ := (Option.bind_some _ _).symm.trans H; with_reducible exact H2_) | with_reducible exact H | (rw [hy102]; exact H) | exact H
      have Ny102 := Aside0.mk hy102; clear hy102; have H' := Aside0.mk H; clear H; have p101 : 0 ≤ (x5_1 : Int) := of_decide_eq_true pbb2_6; have q101 : x5_1 < (l0.length : Int) := of_decide_eq_true pbb2_6; obtain ⟨ad101, A101_6, c101_6, e101, hx101_0, hx101_1, hx101_2, hx101_3, hx101_4, hx101_5, hx101_6, hl101_6, hi101_6⟩ := at_T24 HR0.out x5_1 p101 q101
      cases e101
      replace hx101_0 := (HB.out.cell (World.block_lt_of_cell? w _ hx101_0)).trans hx101_0; replace hx101_1 := (HB.out.cell (World.block_lt_of_cell? w _ hx101_1)).trans hx101_1; replace hx101_2 := (HB.out.cell (World.block_lt_of_cell? w _ hx101_2)).trans hx101_2; replace hx101_3 := (HB.out.cell (World.block_lt_of_cell? w _ hx101_3)).trans hx101_3; replace hx101_4 := (HB.out.cell (World.block_lt_of_cell? w _ hx101_4)).trans hx101_4; replace hx101_5 := (HB.out.cell (World.block_lt_of_cell? w _ hx101_5)).trans hx101_5; replace hx101_6 := (HB.out.cell (World.block_lt_of_cell? w _ hx101_6)).trans hx101_6; have HR101_6 := Aside0.mk hi101_6; have HC101_6 := Aside0.mk hl101_6; clear hi101_6 hl101_6; replace p101 := eq_true p101; replace q101 := eq_true q101
      go_wp2_with (first | ((with_reducible refine gate_builtin (b := .append) (xs := #[.tmp 14, .tmp 21]) rfl ?_); at_builtin; refine Kd.R_append (Kd.int .i64) (w0 := w) w.heap.size rfl (.tmp 14) (.tmp 21) 80 3 (.int .i64 0) 8 rfl Tryd.underlying80 info3 rfl (by decide) (by omega) u4 x4_1 ji4 [.int .i64 ji4] (fun _ => True) (fun _ => False) rfl rfl ?aP (fun _ hk => hk.elim) ?aF ?aO ?aB ?aS ?aL ?_; (case aP => exact rfl); (case aB => exact pbb2_9); (case aF => exact (fun _ _ => trivial)); (case aO => exact ptw2_1); (case aS => exact (below_size pbb2_9)); (case aL => have := LMc5.out; omega); intro v103 w6 ho hb hg hat; rw [← Ny102.out] at ho; replace HB := Aside0.mk (hb); have HO104 := Aside0.mk (ho); clear HO_4; clear ho hb hg hat))
      go_roundg k1
      case measure => have := HK1.out; omega
      case rel => exact ⟨(y102), (wrap64 (x5_1 + 1)), pbb2_3, H', ⟨pbb2_7⟩, ⟨by (with_reducible repeat (first | apply Kd.R_alloc | apply Kd.R_drewN | apply Kd.R_drew)); exact HO104.out⟩, ⟨pbb2_9⟩⟩
     ·rw [if_neg c5] at H; exact absurd H (by simp)
    ·rw [if_neg c3] at H; exact absurd H (by simp)
   ·rw [if_neg c2] at H; have c2b0 := decide_eq_false c2; clear c2; obtain ⟨⟨t105, t106⟩, A70, H⟩ := bnd H; (try dsimp only at H); have A7 := Aside0.mk A70; clear A70
    by_cases c8 : t106 = true
    ·subst c8; rw [if_pos rfl] at H
     by_cases c9 : t105 > 1000000000000000
     ·rw [if_pos c9] at H; have c9b0 : decide (1000000000000000 < t105) = true := decide_eq_true c9; clear c9; simp only [Option.some.injEq, Prod.mk.injEq] at H; obtain ⟨rfl, rfl⟩ := H; obtain ⟨Ao10, co10, eo10⟩ := Kd.R_slice HO_4.out; subst eo10
      go_wp2_with (first | ((with_reducible refine gate_callee (f := 52) rfl ?_); refine goesL_ (some 25) rfl rfl Tryd.func52 (by kernel_rfl) rfl #[.slice Ao10 x4_1.length co10] rfl pbb2_5 ?_; (with_reducible refine (F52.calls k1 _ _ x4_1 t105 true _ ptw2_3 (by exact (Kd.R_reads' HO_4.out).2.1) A7.out).mono ?_); rintro e w' ⟨rfl, ⟨nd, rfl⟩⟩; refine ⟨_, rfl, ?_⟩))
      go_ret2
      exact ⟨pbb2_18, pbb2_9⟩
     ·rw [if_neg c9] at H; have c9b0 : decide (1000000000000000 < t105) = false := decide_eq_false c9; clear c9; simp only [Option.some.injEq, Prod.mk.injEq] at H; obtain ⟨rfl, rfl⟩ := H; obtain ⟨Ao11, co11, eo11⟩ := Kd.R_slice HO_4.out; subst eo11
      go_wp2_with (first | ((with_reducible refine gate_callee (f := 52) rfl ?_); refine goesL_ (some 25) rfl rfl Tryd.func52 (by kernel_rfl) rfl #[.slice Ao11 x4_1.length co11] rfl pbb2_5 ?_; (with_reducible refine (F52.calls k1 _ _ x4_1 t105 true _ ptw2_3 (by exact (Kd.R_reads' HO_4.out).2.1) A7.out).mono ?_); rintro e w' ⟨rfl, ⟨nd, rfl⟩⟩; refine ⟨_, rfl, ?_⟩))
      go_ret2
      exact ⟨pbb2_18, pbb2_9⟩
    ·replace c8 := Bool.eq_false_iff.mpr c8; subst c8; rw [if_neg (show ¬ (false = true) by decide)] at H; simp only [Option.some.injEq, Prod.mk.injEq] at H; obtain ⟨rfl, rfl⟩ := H; obtain ⟨Ao12, co12, eo12⟩ := Kd.R_slice HO_4.out; subst eo12
     go_wp2_with (first | ((with_reducible refine gate_callee (f := 52) rfl ?_); refine goesL_ (some 25) rfl rfl Tryd.func52 (by kernel_rfl) rfl #[.slice Ao12 x4_1.length co12] rfl pbb2_5 ?_; (with_reducible refine (F52.calls k1 _ _ x4_1 t105 false _ ptw2_3 (by exact (Kd.R_reads' HO_4.out).2.1) A7.out).mono ?_); rintro e w' ⟨rfl, ⟨nd, rfl⟩⟩; refine ⟨_, rfl, ?_⟩))
     go_ret2
     exact ⟨pbb2_18, pbb2_9⟩
end Go.Proofs.YtjeecehhcajfaaaDoor.M
end
section
namespace Go.Proofs.YtjeecehhcajfaaaDoor.M
open Go.RowKit Go.Proofs.YtjeecehhcajfaaaDoorW.PrintWords Go.Proofs.YtjeecehhcajfaaaDoorW.PrintLast
set_option linter.unusedVariables false
set_option linter.unusedSimpArgs false
theorem withinS.eq (a : Int) : F41.f a 1000000000000000 = some (decide (fitS a)) := by
 unfold F41.f
 rw [w64 (n := -1000000000000000) (by omega) (by omega)]
 by_cases c : a ≥ -1000000000000000
 ·rw [if_pos c]
  by_cases c2 : a ≤ 1000000000000000
  ·rw [decide_eq_true c2, decide_eq_true (show fitS a from ⟨c, c2⟩)]
  ·rw [decide_eq_false c2, decide_eq_false (show ¬ fitS a from fun hh => c2 hh.2)]
 ·rw [if_neg c, decide_eq_false (show ¬ fitS a from fun hh => c hh.1)]
theorem refSumsL.go (l : List Li) (h : okA l) (C : List ByteArray) (hC : C.length ≤ 1000000) : ∀ (n i : Nat) (out : List Sm), i + n = C.length → out.length ≤ i → Ev (fun k => F19.l0 k l out C (i : Int)) (sumsV l (C.drop i) out)
 | 0, i, out, hi, ho => by
  refine Ev.succ ?_; simp only [F19.l0, if_neg (show ¬ (i : Int) < (C.length : Int) by omega)]; rw [List.drop_eq_nil_of_le (by omega)]; exact Ev.const _
 | n + 1, i, out, hi, ho => by
  have hlt : i < C.length := by omega
  have hrd : rdOf ByteArray.empty C (i : Int) = C[i] := by simp [rdOf, hlt]
  refine Ev.succ ?_; simp only [F19.l0, if_pos (show (i : Int) < (C.length : Int) by omega), if_pos (show (0 : Int) ≤ (i : Int) by omega), hrd, w64s (show i ≤ 1000000000 by omega)]; refine Ev.bind (refSums.eq l h C[i]) ?_; rw [List.drop_eq_getElem_cons hlt]; simp only [sumsV]
  unfold sumv
  by_cases e1 : inW (amtsOf curKey l C[i]).sum
  ·by_cases e2 : inW (basesOf curKey l C[i]).sum
   ·simp only [if_pos e1, if_pos e2, Bool.and_self, if_true, withinS.eq, Option.bind_some]
    by_cases f1 : fitS (amtsOf curKey l C[i]).sum
    ·by_cases f2 : fitS (basesOf curKey l C[i]).sum
     ·simp only [f1, f2, decide_true, if_true, and_self, if_pos (show out.length < 4398046511104 by omega)]; exact refSumsL.go l h C hC n (i + 1) _ (by omega) (by simp; omega)
     ·simp only [f1, f2, decide_true, decide_false, if_true, Bool.false_eq_true, if_false, and_false]; exact Ev.const _
    ·simp only [f1, decide_false, Bool.false_eq_true, if_false, false_and]; exact Ev.const _
   ·have f2 : ¬ fitS (basesOf curKey l C[i]).sum := fun hh => e2 (by unfold fitS at hh; unfold inW; omega); simp only [if_pos e1, if_neg e2, Bool.and_false, Bool.false_eq_true, if_false, f2, and_false]; exact Ev.const _
  ·have f1 : ¬ fitS (amtsOf curKey l C[i]).sum := fun hh => e1 (by unfold fitS at hh; unfold inW; omega); simp only [if_neg e1, Bool.false_and, Bool.false_eq_true, if_false, f1, false_and]; exact Ev.const _
theorem refSumsL.eq (l : List Li) (h : okA l) : Ev (fun k => F19.f k l) (sumsv l) := by
 unfold F19.f F49.f sumsv
 simp only [if_pos h.1, Option.bind_some]; exact refSumsL.go l h (cursOf l) (Nat.le_trans (cursOf_len l) h.1) (cursOf l).length 0 [] (by omega) (by simp)
def posOf (l : List Li) : List Int := (l.filter (fun x => decide (x.f3 > 0))).map (·.f3)
def maxOf (l : List Li) : List Int := l.map (fun x => mx x.f3 0)
theorem pos_max : ∀ l : List Li, (posOf l).sum = (maxOf l).sum
 | [] => rfl
 | x :: l => by
  have ih := pos_max l
  unfold posOf maxOf at ih ⊢
  rw [List.filter_cons, List.map_cons, List.sum_cons]
  by_cases c : x.f3 > 0
  ·rw [if_pos (decide_eq_true c), List.map_cons, List.sum_cons, ih]; have : mx x.f3 0 = x.f3 := by unfold mx; omega
   rw [this]
  ·rw [if_neg (by simpa using c), ih]; have : mx x.f3 0 = 0 := by unfold mx; omega
   rw [this]; omega
theorem max_nonneg : ∀ l : List Li, 0 ≤ (maxOf l).sum
 | [] => by simp [maxOf]
 | x :: l => by
  have ih := max_nonneg l
  unfold maxOf at ih ⊢
  rw [List.map_cons, List.sum_cons]; have : 0 ≤ mx x.f3 0 := by unfold mx; omega
  omega
def volv (l : List Li) : Int × Int := if (maxOf l).sum ≤ 1000000000000000 then ((maxOf l).sum, 0) else (0, 4)
theorem pos_snoc (p : List Li) (x : Li) : posOf (p ++ [x]) = posOf p ++ (if x.f3 > 0 then [x.f3] else []) := by
 unfold posOf
 rw [List.filter_append, List.map_append]
 by_cases c : x.f3 > 0 <;> simp [c]
theorem vol.go (l : List Li) (h : okA l) : ∀ (n i : Nat), i + n = l.length → Ev (fun k => F20.l0 k (posOf (l.take i)) l (l.length : Int) (i : Int)) (volv l)
 | 0, i, hi => by
  have ht : l.take i = l := List.take_of_length_le (by omega)
  have hp : (posOf l).length ≤ 1000000 := by
   unfold posOf; rw [List.length_map]
   exact Nat.le_trans (List.length_filter_le _ _) h.1
  have hin : ∀ y ∈ posOf l, inW y := by
   intro y hy; obtain ⟨x, hx, rfl⟩ := List.mem_map.1 hy; exact (h.2 x (List.mem_filter.1 hx).1).2
  refine Ev.succ ?_; simp only [F20.l0, if_neg (show ¬ (i : Int) < (l.length : Int) by omega), ht, F51.eq 1000000000000000 (by omega) (by omega) _ hp hin, Option.bind_some]
  unfold sumE volv
  have hm := max_nonneg l; rw [pos_max]
  by_cases c : (maxOf l).sum ≤ 1000000000000000
  ·rw [if_pos ⟨by omega, c⟩, if_pos c]; exact Ev.const _
  ·rw [if_neg (fun hh => c hh.2), if_neg c]; exact Ev.const _
 | n + 1, i, hi => by
  have hlt : i < l.length := by omega
  have hn := h.1; have hrd : rd_T24 l (i : Int) = l[i] := by simp [rd_T24, hlt]
  have ih := vol.go l h n (i + 1) (by omega)
  have hp : (posOf (l.take i)).length ≤ i := by
   unfold posOf; rw [List.length_map]
   refine Nat.le_trans (List.length_filter_le _ _) ?_; rw [List.length_take]; omega
  rw [List.take_succ_eq_append_getElem hlt, pos_snoc] at ih; refine Ev.succ ?_; simp only [F20.l0, if_pos (show (i : Int) < (l.length : Int) by omega), if_pos (show (0 : Int) ≤ (i : Int) by omega), hrd, w64s (show i ≤ 1000000000 by omega)]
  by_cases c : l[i].f3 > 0
  ·simp only [if_pos c, if_pos (show (posOf (l.take i)).length < 17592186044416 by omega)] at ih ⊢; exact ih
  ·simp only [if_neg c, List.append_nil] at ih ⊢; exact ih
theorem vol.eq (l : List Li) (h : okA l) : Ev (fun k => F20.f k l) (volv l) := by
 unfold F20.f
 have := vol.go l h l.length 0 (by omega)
 simpa [posOf] using this
theorem refVol.go (l : List Li) (h : okA l) : ∀ (n i : Nat), i + n = l.length → Ev (fun k => F21.l0 k l (maxOf (l.take i)) (i : Int)) (volv l)
 | 0, i, hi => by
  have ht : l.take i = l := List.take_of_length_le (by omega); have hp : (maxOf l).length ≤ 1000000 := by unfold maxOf; rw [List.length_map]; exact h.1
  have hin : ∀ y ∈ maxOf l, inW y := by
   intro y hy; obtain ⟨x, hx, rfl⟩ := List.mem_map.1 hy; have := (h.2 x hx).2
   unfold inW mx at *
   omega
  refine Ev.succ ?_; simp only [F21.l0, if_neg (show ¬ (i : Int) < (l.length : Int) by omega), ht]; refine Ev.bind (refSum.eq _ hp hin) ?_
  unfold sumv volv
  have hm := max_nonneg l
  by_cases e : inW (maxOf l).sum
  ·simp only [if_pos e, if_true]
   by_cases c : (maxOf l).sum ≤ 1000000000000000
   ·simp only [if_neg (show ¬ (maxOf l).sum > 1000000000000000 by omega), if_pos c]; exact Ev.const _
   ·simp only [if_pos (show (maxOf l).sum > 1000000000000000 by omega), if_neg c]; exact Ev.const _
  ·have c : ¬ (maxOf l).sum ≤ 1000000000000000 := fun hh => e (by unfold inW; omega); simp only [if_neg e, Bool.false_eq_true, if_false, if_neg c]; exact Ev.const _
 | n + 1, i, hi => by
  have hlt : i < l.length := by omega
  have hn := h.1; have hrd : rd_T24 l (i : Int) = l[i] := by simp [rd_T24, hlt]
  have ih := refVol.go l h n (i + 1) (by omega); have hp : (maxOf (l.take i)).length ≤ i := by unfold maxOf; rw [List.length_map, List.length_take]; omega
  rw [List.take_succ_eq_append_getElem hlt] at ih; have e : maxOf (l.take i ++ [l[i]]) = maxOf (l.take i) ++ [mx l[i].f3 0] := by unfold maxOf; rw [List.map_append]; rfl
  rw [e] at ih; refine Ev.succ ?_; simp only [F21.l0, if_pos (show (i : Int) < (l.length : Int) by omega), if_pos (show (0 : Int) ≤ (i : Int) by omega), hrd, if_pos (show (maxOf (l.take i)).length < 17592186044416 by omega), w64s (show i ≤ 1000000000 by omega)]; exact ih
theorem refVol.eq (l : List Li) (h : okA l) : Ev (fun k => F21.f k l) (volv l) := by
 unfold F21.f
 have := refVol.go l h l.length 0 (by omega)
 simpa [maxOf] using this
end Go.Proofs.YtjeecehhcajfaaaDoor.M
end
section
namespace Go.Proofs.YtjeecehhcajfaaaDoor.M
open Go.RowKit Go.Proofs.YtjeecehhcajfaaaDoorW.PrintWords Go.Proofs.YtjeecehhcajfaaaDoorW.PrintLast
set_option linter.unusedVariables false
set_option linter.unusedSimpArgs false
set_option linter.unusedSectionVars false
def fitT (x : Li) : Prop := -1000000000000 ≤ x.f2 ∧ x.f2 ≤ 1000000000000 ∧ -1000000000000 ≤ x.f3 ∧ x.f3 ≤ 1000000000000
theorem linev_fit {x : Li} (h : linev x = 0) : fitT x := by
 unfold linev at h
 by_cases c1 : codev x.f0 = true ∧ optv x.f4 = true ∧ optv x.f5 = true
 ·by_cases c2 : moneyv x.f1 = true
  ·by_cases c3 : withv x.f2 = true ∧ withv x.f3 = true
   ·obtain ⟨h1, h2⟩ := c3
    unfold withv at h1 h2
    simp only [Bool.and_eq_true, decide_eq_true_eq] at h1 h2
    unfold fitT
    omega
   ·rw [if_pos c1, if_pos c2, if_neg c3] at h; cases h
  ·rw [if_pos c1, if_neg c2] at h; cases h
 ·rw [if_neg c1] at h; cases h
theorem neg2 {x : Li} (h : fitT x) : (negL x).f2 = -x.f2 := by
 unfold fitT at h
 show wrap64 (-x.f2) = -x.f2; exact w64 (by omega) (by omega)
theorem neg3 {x : Li} (h : fitT x) : (negL x).f3 = -x.f3 := by
 unfold fitT at h
 show wrap64 (-x.f3) = -x.f3; exact w64 (by omega) (by omega)
theorem fitT_neg {x : Li} (h : fitT x) : fitT (negL x) := by
 have h2 := neg2 h; have h3 := neg3 h
 unfold fitT at *
 rw [h2, h3]
 omega
theorem neg_neg {x : Li} (h : fitT x) : negL (negL x) = x := by
 have h2 := neg2 h; have h3 := neg3 h; have e2 := neg2 (fitT_neg h); have e3 := neg3 (fitT_neg h); rw [h2, Int.neg_neg] at e2; rw [h3, Int.neg_neg] at e3
 cases x
 unfold negL at e2 e3 ⊢
 simp only at e2 e3 ⊢; rw [e2, e3]
theorem withv_neg {a : Int} (h : -1000000000000 ≤ a ∧ a ≤ 1000000000000) : withv (-a) = withv a := by
 unfold withv
 rw [Bool.eq_iff_iff]; simp only [Bool.and_eq_true, decide_eq_true_eq]
 omega
theorem linev_neg {x : Li} (h : linev x = 0) : linev (negL x) = 0 := by
 have hf := linev_fit h; have h2 := neg2 hf; have h3 := neg3 hf; have e1 := withv_neg (a := x.f2) (by unfold fitT at hf; omega); have e2 := withv_neg (a := x.f3) (by unfold fitT at hf; omega); rw [← h]
 unfold linev
 rw [h2, h3, e1, e2]; show (if codev x.f0 = true ∧ optv x.f4 = true ∧ optv x.f5 = true then (if moneyv x.f1 = true then (if withv x.f2 = true ∧ withv x.f3 = true then (if -x.f2 = 0 ∧ -x.f3 = 0 then 2 else if rightv x.f6 = true then 0 else 14) else 4) else 13) else 7 : Int) = _; have e3 : (-x.f2 = 0 ∧ -x.f3 = 0) = (x.f2 = 0 ∧ x.f3 = 0) := propext (by omega); simp only [e3]
theorem sum_neg : ∀ l : List Int, (l.map (fun a => -a)).sum = -l.sum
 | [] => rfl
 | x :: l => by rw [List.map_cons, List.sum_cons, List.sum_cons, sum_neg l]; omega
section
variable (l : List Li) (hf : ∀ x ∈ l, fitT x)
include hf
theorem amts_neg (c : ByteArray) : (amtsOf curKey (l.map negL) c).sum = -(amtsOf curKey l c).sum := by
 rw [← sum_neg]
 unfold amtsOf
 rw [List.filter_map, List.map_map, List.map_map]; have : (fun x : Li => decide (curKey x = c)) ∘ negL = fun x => decide (curKey x = c) := rfl; rw [this]
 congr 1
 refine List.map_congr_left (fun x hx => ?_); exact neg2 (hf x (List.mem_filter.1 hx).1)
theorem bases_neg (c : ByteArray) : (basesOf curKey (l.map negL) c).sum = -(basesOf curKey l c).sum := by
 rw [← sum_neg]
 unfold basesOf
 rw [List.filter_map, List.map_map, List.map_map]; have : (fun x : Li => decide (curKey x = c)) ∘ negL = fun x => decide (curKey x = c) := rfl; rw [this]
 congr 1
 refine List.map_congr_left (fun x hx => ?_); exact neg3 (hf x (List.mem_filter.1 hx).1)
theorem amts_cat (c : ByteArray) : (amtsOf curKey (l ++ l.map negL) c).sum = 0 := by
 have h : amtsOf curKey (l ++ l.map negL) c = amtsOf curKey l c ++ amtsOf curKey (l.map negL) c := by unfold amtsOf; rw [List.filter_append, List.map_append]
 rw [h, List.sum_append, amts_neg l hf]; omega
theorem bases_cat (c : ByteArray) : (basesOf curKey (l ++ l.map negL) c).sum = 0 := by
 have h : basesOf curKey (l ++ l.map negL) c = basesOf curKey l c ++ basesOf curKey (l.map negL) c := by unfold basesOf; rw [List.filter_append, List.map_append]
 rw [h, List.sum_append, bases_neg l hf]; omega
theorem sums_cat : ∀ (C : List ByteArray) (out : List Sm), zeros out = true → ∃ s, sumsV (l ++ l.map negL) C out = (s, 0) ∧ zeros s = true ∧ s.length ≤ out.length + C.length
 | [], out, h => ⟨out, rfl, h, by simp⟩
 | c :: C, out, h => by
  simp only [sumsV, amts_cat l hf, bases_cat l hf]; rw [if_pos ⟨by unfold fitS; omega, by unfold fitS; omega⟩]; obtain ⟨s, h1, h2, h3⟩ := sums_cat C (out ++ [⟨c, 0, 0⟩]) (by unfold zeros at h ⊢; rw [List.all_append, h]; rfl); refine ⟨s, h1, h2, ?_⟩; simp only [List.length_append, List.length_cons, List.length_nil] at h3 ⊢
  omega
theorem bal_neg : balv (l.map negL) = balv l := by
 unfold balv
 rw [List.all_map]
 congr 1
 funext x
 show bal1 (l.map negL) x.f1 = bal1 l x.f1
 unfold bal1
 rw [amts_neg l hf, bases_neg l hf]; have e3 : (-(amtsOf curKey l x.f1).sum = 0 ∧ -(basesOf curKey l x.f1).sum = 0) = ((amtsOf curKey l x.f1).sum = 0 ∧ (basesOf curKey l x.f1).sum = 0) := propext (by omega); simp only [e3]
end
theorem chk_all {l : List Li} {b : Bool} : ∀ (n i : Nat), i + n = l.length → (chk l b n i).2 = 0 → b = true ∧ ∀ j, i ≤ j → j < l.length → linev (rd_T24 l (j : Int)) = 0
 | 0, i, hi, h => by
  unfold chk at h
  cases b with
  | false => cases h
  | true => exact ⟨rfl, fun j h1 h2 => by omega⟩
 | n + 1, i, hi, h => by
  unfold chk at h
  by_cases c : linev (rd_T24 l (i : Int)) = 0
  ·rw [if_pos c] at h; obtain ⟨h1, h2⟩ := chk_all n (i + 1) (by omega) h; refine ⟨h1, fun j h3 h4 => ?_⟩
   by_cases e : j = i
   ·rw [e]; exact c
   ·exact h2 j (by omega) h4
  ·rw [if_neg c] at h; exact absurd h c
theorem chk_ok {l : List Li} : ∀ (n i : Nat), i + n = l.length → (∀ j, i ≤ j → j < l.length → linev (rd_T24 l (j : Int)) = 0) → chk l true n i = (-1, 0)
 | 0, i, hi, h => rfl
 | n + 1, i, hi, h => by
  unfold chk
  rw [if_pos (h i (Nat.le_refl _) (by omega))]; exact chk_ok n (i + 1) (by omega) (fun j h1 h2 => h j (by omega) h2)
theorem checkv_ok {x : En} (h : (checkv x).2 = 0) : headv x = 0 ∧ balv x.f8 = true ∧ ∀ z ∈ x.f8, linev z = 0 := by
 unfold checkv at h
 by_cases c : headv x = 0
 ·rw [if_pos c] at h; obtain ⟨h1, h2⟩ := chk_all _ 0 (by omega) h; refine ⟨c, h1, fun z hz => ?_⟩; obtain ⟨j, hj, rfl⟩ := List.getElem_of_mem hz; have := h2 j (by omega) hj
  simpa [rd_T24, hj] using this
 ·rw [if_neg c] at h; exact absurd h c
theorem headv_ok {x : En} (h : headv x = 0) : 0 ≤ x.f0 ∧ x.f0 ≤ 4000 ∧ codev x.f1 = true ∧ plainv x.f5 = true ∧ ¬ (x.f8.length : Int) < 2 ∧ ¬ (x.f8.length : Int) > 100 := by
 unfold headv hd0 at h
 split at h
 ·cases h
 ·rename_i c0
  unfold hd1 at h
  split at h
  ·cases h
  ·rename_i c1
   unfold hd2 at h
   split at h
   ·cases h
   ·rename_i c2
    unfold hd3 at h
    split at h
    ·cases h
    ·split at h
     ·rename_i c4
      split at h
      ·cases h
      ·split at h
       ·cases h
       ·rename_i c5 c6
        simp only [Bool.or_eq_true, decide_eq_true_eq, not_or] at c0; simp only [Bool.not_eq_true', Bool.and_eq_false_iff, not_or, Bool.not_eq_false] at c1; exact ⟨by omega, by omega, c1.1, c4, c5, c6⟩
     ·cases h
theorem pure_EntryTwice : F10.Pure := by
 intro x y hx hy; have hlx : ∀ z ∈ x.f8, G24 z := hx.2.2.2.2.2.2.2.2.2; refine Ev.out (g := fun k => F10.f k x.f0 x.f1 x.f2 x.f3 x.f4 x.f5 x.f6 x.f7 x.f8 y.f0 y.f1 y.f2 months) ?_
 unfold F10.f
 obtain ⟨b, hb, hb2⟩ := F12.ok x.f8; refine Ev.bind hb ?_
 cases b with
 | false =>
  simp only [Bool.false_eq_true, if_false]; exact F13.true
 | true =>
  simp only [if_true]; obtain ⟨n1, t1⟩ := hb2 rfl; have ha : ∀ z ∈ x.f8, okL z := fun z hz => G24_ok (hlx z hz) (t1 z hz); have hA := G24_okA hlx n1; have hc : y.f2.size ≤ 1000000000000000 := by have := hy.2.2; omega
  refine Ev.bind (entryRev.eq x n1 ha y.f0 y.f1 y.f2 (G33_ok hx) hA) ?_
  have herr : ∀ e : Int, e ≠ 0 → Ev (fun k => if (errR e).2.2.2.2.2.2.2.2.2 = 0 then (if x.f8.length ≤ 1000 ∧ (errR e).2.2.2.2.2.2.2.2.1.length ≤ 1000 then (F18.f (x.f8 ++ (errR e).2.2.2.2.2.2.2.2.1)).bind fun s => if s.2 = 0 ∧ zeros s.1 = true ∧ s.1.length ≤ 1000000 then (F28.f k 1 (errR e).2.1 (errR e).2.2.1 (errR e).2.2.2.1 (errR e).2.2.2.2.1 (errR e).2.2.2.2.2.1 (errR e).2.2.2.2.2.2.1 (errR e).2.2.2.2.2.2.2.1 (errR e).2.2.2.2.2.2.2.2.1 y.f0 y.f1 y.f2 months).bind fun z => if z.2.2.2.2.2.2.2.2.2 = 0 ∧ z.2.2.2.2.2.2.2.1 = 1 then (F27.f k z.2.2.2.2.2.2.2.2.1 x.f8).bind fun u => if u = true then F13.f k months else none else none else none else none) else F13.f k months) true := fun e he => by
   simp only [show (errR e).2.2.2.2.2.2.2.2.2 = e from rfl, if_neg he]; exact F13.true
  by_cases e0 : (checkv x).2 = 0
  case neg =>
   have : revv x y.f0 y.f1 y.f2 = errR (checkv x).2 := by unfold revv; rw [if_neg e0]
   rw [this]; exact herr _ e0
  by_cases e1 : x.f0 = 0
  ·have : revv x y.f0 y.f1 y.f2 = errR 28 := by unfold revv; rw [if_pos e0, if_pos e1]
   rw [this]; exact herr _ (by decide)
  cases hd : (!(dayv y.f0 && dayv y.f1)) with
  | true =>
   have : revv x y.f0 y.f1 y.f2 = errR 11 := by unfold revv; rw [if_pos e0, if_neg e1, hd]; rfl
   rw [this]; exact herr _ (by decide)
  | false =>
   cases hcv : codev y.f2 with
   | false =>
    have : revv x y.f0 y.f1 y.f2 = errR 7 := by unfold revv revJ; rw [if_pos e0, if_neg e1, hd, hcv]; rfl
    rw [this]; exact herr _ (by decide)
   | true =>
    have hR : revv x y.f0 y.f1 y.f2 = tupR x (x.f8.map negL) y.f0 y.f1 y.f2 := by unfold revv revJ; rw [if_pos e0, if_neg e1, hd, hcv]; rfl
    rw [hR]; obtain ⟨g1, g2, g3⟩ := checkv_ok e0; have hf : ∀ z ∈ x.f8, fitT z := fun z hz => linev_fit (g3 z hz); obtain ⟨k1, k2, k3, k4, k5, k6⟩ := headv_ok g1
    unfold tupR
    simp only [if_true]; have hlen : x.f8.length ≤ 1000 ∧ (x.f8.map negL).length ≤ 1000 := ⟨by omega, by rw [List.length_map]; omega⟩; simp only [if_pos hlen]
    have hcat : okA (x.f8 ++ x.f8.map negL) := ⟨by rw [List.length_append, List.length_map]; omega, fun z hz => by
     rcases List.mem_append.1 hz with hz | hz
     ·exact hA.2 z hz
     ·obtain ⟨z0, hz0, rfl⟩ := List.mem_map.1 hz; have := fitT_neg (hf z0 hz0)
      unfold fitT at this
      exact ⟨by unfold inW; omega, by unfold inW; omega⟩⟩
    refine Ev.bind (Ev.of (fun _ => F18.eq _ hcat)) ?_; obtain ⟨s, s1, s2, s3⟩ := sums_cat x.f8 hf (cursOf (x.f8 ++ x.f8.map negL)) [] rfl; have s4 := cursOf_len (x.f8 ++ x.f8.map negL)
    unfold sumsv
    rw [s1]; simp only [List.length_nil, List.length_append, List.length_map] at s3 s4; simp only [s2, show s.length ≤ 1000000 by omega, and_self, if_true]; have n1' : (x.f8.map negL).length ≤ 150 := by rw [List.length_map]; exact n1
    have ha' : ∀ z ∈ x.f8.map negL, okL z := fun z hz => by obtain ⟨z0, hz0, rfl⟩ := List.mem_map.1 hz; exact ha z0 hz0
    have hA' : okA (x.f8.map negL) := ⟨by omega, fun z hz => hcat.2 z (List.mem_append_right _ hz)⟩; have hX := G33_ok hx; refine Ev.bind (entryRev.eq (⟨1, x.f1, y.f0, y.f1, 5, x.f5, y.f2, x.f0, x.f8.map negL⟩ : En) n1' ha' y.f0 y.f1 y.f2 ⟨hX.1, hX.2.1, hc⟩ hA') ?_; have hdd : dayv y.f0 = true ∧ dayv y.f1 = true := by simpa using hd
    have hH : headv (⟨1, x.f1, y.f0, y.f1, 5, x.f5, y.f2, x.f0, x.f8.map negL⟩ : En) = 0 := by
     unfold headv hd0 hd1 hd2 hd3
     simp only [hdd.1, hdd.2, k3, k4, hcv, List.length_map, decide_eq_false (show ¬ (1 : Int) < 0 by omega), decide_eq_false (show ¬ (1 : Int) > 4000 by omega), decide_eq_false (show ¬ x.f0 < 0 by omega), decide_eq_false (show ¬ x.f0 > 4000 by omega), decide_eq_false (show ¬ (5 : Int) < 1 by omega), decide_eq_false (show ¬ (5 : Int) > 7 by omega), Bool.or_self, Bool.and_self, Bool.not_true, Bool.false_eq_true, if_false, if_true, if_neg k5, if_neg k6]
    have hC : checkv (⟨1, x.f1, y.f0, y.f1, 5, x.f5, y.f2, x.f0, x.f8.map negL⟩ : En) = (-1, 0) := by
     unfold checkv
     rw [if_pos hH]; show chk (x.f8.map negL) (balv (x.f8.map negL)) (x.f8.map negL).length 0 = _; rw [bal_neg x.f8 hf, g2]; refine chk_ok _ 0 (by omega) (fun j h1 h2 => ?_); rw [List.length_map] at h2; have : rd_T24 (x.f8.map negL) (j : Int) = negL x.f8[j] := by simp [rd_T24, h2]
     rw [this]; exact linev_neg (g3 _ (List.getElem_mem h2))
    have hRR : revv (⟨1, x.f1, y.f0, y.f1, 5, x.f5, y.f2, x.f0, x.f8.map negL⟩ : En) y.f0 y.f1 y.f2 = (0, x.f1, y.f0, y.f1, 5, x.f5, y.f2, 1, x.f8, 0) := by
     unfold revv revJ
     rw [hC, hd, hcv]; simp only [if_true, Bool.false_eq_true, if_false, if_neg (show ¬ (1 : Int) = 0 by omega)]
     unfold tupR
     simp only [List.map_map]
     have : x.f8.map (negL ∘ negL) = x.f8 := by
      conv => rhs; rw [← List.map_id x.f8]
      exact List.map_congr_left (fun z hz => neg_neg (hf z hz))
     rw [this]
    rw [hRR]; simp only [and_self, if_true]; refine Ev.bind (refSameLines.eq x.f8 x.f8 (by omega) ha) ?_; simp only [sameLsv_eq.2 rfl, if_true]; exact F13.true
end Go.Proofs.YtjeecehhcajfaaaDoor.M
namespace Go.Proofs.YtjeecehhcajfaaaDoor.Pure
theorem EntryTwice : M.F10.Pure := M.pure_EntryTwice
end Go.Proofs.YtjeecehhcajfaaaDoor.Pure
end
section
namespace Go.Proofs.YtjeecehhcajfaaaDoor.M
open Go.ChangeShapes Go.WideShapes Go.ChangeAt Go.RowKit Go.Proofs.YtjeecehhcajfaaaDoorW.PrintWords Go.Proofs.YtjeecehhcajfaaaDoorW.PrintLast
abbrev laidL : List (String × DataW Unit) := [("accounting/days.lengths", Rows.laid_accounting_days_lengths)]
theorem gLen : Tryd.prog.globalNamed "accounting/days.lengths" = some 0 := by kernel_rfl
theorem tLen : (Tryd.prog.globals[0]?).map (·.type) = some 136 := by kernel_rfl
theorem cLen : Tryd.prog.cellsOf 136 = 12 := by kernel_rfl
theorem cInt : Tryd.prog.cellsOf 3 = 1 := by kernel_rfl
set_option maxRecDepth 100000 in
theorem tab_of_laid {W : World} (h : laidMetH Tryd.prog laidL W) : Tab W := by
 rw [MakeChecks.laidMetH_plain _ _ _ (by kernel_rfl)] at h; obtain ⟨ps, ⟨g0, t0, cs0, f0, p0, q0, hg0, ht0, hv0, hd0, _⟩, _⟩ := h; obtain rfl := Option.some.inj (gLen.symm.trans hg0); obtain rfl := Option.some.inj (tLen.symm.trans ht0); obtain ⟨xs, m1, rfl, hx1, hlen, hn3, hel⟩ := DataW.trod_array Tryd.underlying136 hd0
 have hxs : xs.map (·.1) = months.map (fun n => (DataW.lit (.int .i64 n) : DataW Unit)) := by
  have e := congrArg (fun y : DataW Unit × List MemPlace => y.1) hx1
  unfold Rows.laid_accounting_days_lengths at e
  injection e with e
  exact e.symm
 have each : ∀ i, i < 12 → cs0.toList[i]? = (months[i]?).map (Value.int .i64) := by
  intro i hi; have h1 := hel i hi; rw [cInt, Nat.mul_one] at h1; obtain ⟨x, hx⟩ : ∃ x, xs[i]? = some x := ⟨xs[i], List.getElem?_eq_getElem (by omega)⟩; rw [hx] at h1; obtain ⟨n, e1, e2, _⟩ := DataW.trod_int Tryd.underlying3 h1; have e3 := congrArg (fun l => l[i]?) hxs; simp only [List.getElem?_map, hx, Option.map_some, e2] at e3; have e4 := congrArg (fun l => l[0]?) e1; simp only [List.getElem?_take, List.getElem?_drop, Nat.add_zero, Nat.zero_lt_one, if_true, List.getElem?_cons_zero] at e4; rw [e4]
  cases hm : months[i]? with
  | none => rw [hm] at e3; cases e3
  | some m =>
   rw [hm] at e3; simp only [Option.map_some, Option.some.injEq, DataW.lit.injEq, Lit.int.injEq, true_and] at e3; rw [e3]
   rfl
 have hcs : cs0 = (months.map (Value.int .i64)).toArray := by
  rw [← Array.toList_inj]; apply List.ext_getElem?; intro i
  by_cases hi : i < 12
  ·rw [each i hi, List.getElem?_map]
  ·rw [List.getElem?_eq_none (by rw [hlen, cLen]; omega), List.getElem?_eq_none (by simp [months]; omega)]
 have hv := hv0; simp only [World.var?, gLen, Option.bind_some] at hv
 split at hv
 ·rename_i cs t fr hb
  obtain rfl := Option.some.inj hv; exact ⟨t, fr, by rw [hb, hcs]⟩
 ·cases hv
theorem door_met (os : Os) (args : Array Value) : laidMetH Tryd.prog laidL ((World.doorLaid Tryd.prog 400 os).forCall (fun _ _ => 0) ⟨#[], args, []⟩).memory :=
 laidMetH_of_parts3 (fuel := 8) (laidMet_of_run' 8 (by kernel_rfl) (by kernel_rfl)) (by kernel_rfl) (by kernel_rfl)
end Go.Proofs.YtjeecehhcajfaaaDoor.M
end
section
namespace Go.Proofs.YtjeecehhcajfaaaDoor.entryTwice
open Go.ChangeShapes Go.WideShapes Go.ChangeAt Go.RowKit Go.Proofs.YtjeecehhcajfaaaDoor.M Go.Proofs.YtjeecehhcajfaaaDoorW.PrintWords Go.Proofs.YtjeecehhcajfaaaDoorW.PrintLast
open Go.ChangeMaps (open_string shut_string)
set_option linter.unusedVariables false
theorem own : ownKnob Tryd.prog.godebug = none := by kernel_rfl
theorem laidOut : laidOutB Tryd.prog = true := by kernel_rfl
set_option maxRecDepth 100000 in
set_option maxHeartbeats 4000000 in
theorem lifted (os : Os) (started : os.Started) (H : Type) (enc : TypeId × Value → H) :
  ReturnsInHanded {} Tryd.checked os 10 .any (fun w args => (Rows.entryTwiceSpec.pre enc Tryd.prog Tryd.f10 Rows.entryTwiceRow.domain false w args ∧ laidMetH Tryd.prog Rows.entryTwiceRow.laid w) ∧ sizedMet enc Tryd.prog Tryd.f10 (OpenSpec.ofChange Rows.entryTwiceSpec) false w args) (Rows.entryTwiceSpec.post enc Tryd.prog Tryd.f10 false true false false) := by
 refine returnsInHanded_of_change_and (C := Tryd.checked) (X := fun w _ => laidMetH Tryd.prog Rows.entryTwiceRow.laid w) (fun _ _ _ hh h => h.of_heap hh) own started (by kernel_rfl) Tryd.func10
  (ChangeSpec.witness_shaped (enc := enc) (C := Tryd.checked) (os := os) (X := fun w _ => laidMetH Tryd.prog Rows.entryTwiceRow.laid w) false (World.doorLaid Tryd.prog 400 os) #[.agg #[.int .i64 0, .string ByteArray.empty, .int .i64 0, .int .i64 0, .int .i64 0, .string ByteArray.empty, .string ByteArray.empty, .int .i64 0, .slice none 0 0], .agg #[.int .i64 0, .int .i64 0, .string ByteArray.empty]] 8 rfl (World.shaped_of_RefB (by kernel_rfl) (by kernel_rfl)) (by kernel_rfl) (by kernel_rfl) (by kernel_rfl) (door_met os _)) ?_
 intro W base args ds gs before hval0 hW hcnd hsz0 hL _; have hsz : (DataW.weightsEach Tryd.prog (Tryd.f10.params.toList ++ Rows.entryTwiceSpec.plain.varTypes Tryd.prog) (ds ++ gs)).all (· ≤ reachBytes) = true := hsz0; have hval : ∀ (j : Nat) t v, Tryd.f10.params[j]? = some t → args[j]? = some v → Value.okWide Tryd.prog W .any base t v := hval0; have hW' := hW; obtain ⟨p, q, hA0, hV, rfl, hfz, hnd⟩ := hW; have hA : DataW.TrodAll enc Tryd.prog W 0 (fun _ => true) true Tryd.f10.params.toList args.toList ds p := hA0; rw [Tryd.params10] at hA hval hsz; obtain ⟨v0, vs0, d0, ds0, p0, q0, hargs, rfl, rfl, h0, r0⟩ := trodAll_cons hA; obtain ⟨v1, vs1, d1, ds1, p1, q1, rfl, rfl, rfl, h1, r1⟩ := trodAll_cons r0; obtain ⟨rfl, rfl, rfl⟩ := trodAll_nil r1; obtain rfl : args = #[v0, v1] := by cases args; simp_all
 obtain ⟨rfl, rfl⟩ := trodVars_none hV; obtain ⟨cs0, rfl⟩ : ∃ cs, v0 = .agg cs := by have z := (hval 0 33 v0 rfl rfl); simp only [Value.okWide, Tryd.underlying33] at z; obtain ⟨cs, e, _⟩ := z; exact ⟨cs, e⟩
 have k0 := h0; have lt0 : ∀ x ∈ p0, x.block < W.heap.size := by obtain ⟨m, hm⟩ := k0; exact DataW.trod_lt m _ _ _ hm
 obtain ⟨x0, K0, g0⟩ : ∃ x_ : S33, k33.K W x_ cs0.toList ∧ (G33 x_) := by obtain ⟨f, hf⟩ := h0; exact (opens33).get enc W 0 _ _ f _ _ hf (weights_at hsz (j := 0) (t := 33) rfl rfl)
 obtain ⟨A0_8, c0_8, e0, L0_8, C0_8⟩ := k33_open K0; obtain rfl : cs0 = #[.int .i64 x0.f0, .string x0.f1, .int .i64 x0.f2, .int .i64 x0.f3, .int .i64 x0.f4, .string x0.f5, .string x0.f6, .int .i64 x0.f7, .slice A0_8 x0.f8.length c0_8] := by rw [← Array.toList_inj]; exact e0
 obtain ⟨cs1, rfl⟩ : ∃ cs, v1 = .agg cs := by have z := (hval 1 53 v1 rfl rfl); simp only [Value.okWide, Tryd.underlying53] at z; obtain ⟨cs, e, _⟩ := z; exact ⟨cs, e⟩
 have k1 := h1; have lt1 : ∀ x ∈ p1, x.block < W.heap.size := by obtain ⟨m, hm⟩ := k1; exact DataW.trod_lt m _ _ _ hm
 obtain ⟨x1, K1, g1⟩ : ∃ x_ : S53, k53.K W x_ cs1.toList ∧ (G53 x_) := by obtain ⟨f, hf⟩ := h1; exact (opens53).get enc W 0 _ _ f _ _ hf (weights_at hsz (j := 1) (t := 53) rfl rfl)
 obtain e1 := k53_open K1; obtain rfl : cs1 = #[.int .i64 x1.f0, .int .i64 x1.f1, .string x1.f2] := by rw [← Array.toList_inj]; exact e1
 clear hA0 hval0 hsz0 hsz; obtain ⟨k, h⟩ := Pure.EntryTwice x0 x1 g0 g1; refine (M.F10.calls (k := k) (r := true) (w := W) (hr0_8 := C0_8) (hc0_8 := L0_8) (hr2 := kTab_of (tab_of_laid hL)) (hc2 := Nat.le_refl _) (h := h)).mono fun e W' ⟨he, bel0⟩ => ?_; have bel : Below W.heap.size W W' := by first | exact bel0 | exact bel0.below | (obtain ⟨nd, rfl⟩ := bel0; exact pw_below_drewN (Below.refl _ _) nd)
 subst he; exact ⟨_, rfl, _, _, _, [], _, [], hW', trodAll_mk1 (shut_bool Tryd.underlying4 _), (trodAll_cons_mk (Below.trod laidOut (by kernel_rfl) (of_decide_eq_true (by kernel_rfl)) k0 bel lt0) (trodAll_cons_mk (Below.trod laidOut (by kernel_rfl) (of_decide_eq_true (by kernel_rfl)) k1 bel lt1) trodAll_mk0)), rfl, bel.frame _, fun h => by cases h⟩
theorem over : Rows.entryTwiceRow.holds Tryd.pinned (OpenSpec.ofChange Rows.entryTwiceSpec) :=
 OpenClaim.holds_of_wide 10 Tryd.f10 rfl rfl rfl rfl rfl rfl rfl ⟨rfl, rfl, rfl, rfl, rfl⟩ rfl rfl rfl rfl rfl (by kernel_rfl) Tryd.func10 (by kernel_rfl)
  (of_decide_eq_true (by kernel_rfl)) (by unfold Func.isWrapper; first | (rw [if_pos (by decide +kernel)]; kernel_rfl) | (rw [if_neg (by decide +kernel)]; exact ⟨rfl, rfl⟩))
  (fun os started H enc _ => lifted os started H enc)
theorem proved : Rows.EntryTwiceCardSaid :=
 Claim7.holds_tied_plain_at .later [] [.data] true (true, "be3c0a6bf7d168cfecf7312c4a458ffdf88559f71113c4694bf92cbd7a7be984") false
  over (fun _ h => by cases h) (by kernel_rfl) (fun _ h => by cases h) entryTwice_row_tie rfl ⟨rfl, rfl⟩ (by kernel_rfl) rfl
  (fun f fn hf hfn => by
   obtain rfl : f = 10 := Option.some.inj ((show Tryd.prog.funcNamed "accounting/accountinglaw12.EntryTwice" = some 10 by kernel_rfl).symm.trans hf) |>.symm; obtain rfl : fn = Tryd.f10 := (Option.some.inj (Tryd.func10.symm.trans hfn)).symm
   exact ⟨by kernel_rfl, fun j t ht => by
    rw [Tryd.params10] at ht; have hm : t ∈ [33, 53] := by simpa using Array.mem_of_getElem? ht
    have hall : ([33, 53].all fun u => !Tryd.prog.wantsStandIn u) = true := by kernel_rfl
    exact (show Tryd.prog.wantsStandIn t = false by simpa using List.all_eq_true.1 hall t hm)⟩)
  (by kernel_rfl)
#print axioms proved
end Go.Proofs.YtjeecehhcajfaaaDoor.entryTwice
namespace Go.Proofs.YtjeecehhcajfaaaDoor
theorem entryTwice_holds : Rows.EntryTwiceCardSaid := entryTwice.proved
end Go.Proofs.YtjeecehhcajfaaaDoor
end
