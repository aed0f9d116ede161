/- What the claims of this seat share, part 9 of 9: what the program's functions compute. -/
import Derived.Test.YtadognlkefhoiaaQB2
import Derived.Test.YtadognlkefhoiaaQB8
import Derived.Test.YtadognlkefhoiaaQB4
section
-- Written by mprint.py (a program of this session) over the kit's print.
namespace Go.Proofs.Ytadognlkefhoiaa.M
open Go.RowKit Go.Proofs.YtadognlkefhoiaaW.PrintWords Go.Proofs.YtadognlkefhoiaaW.PrintLast Go.Proofs.YtadognlkefhoiaaW.PrintMore
attribute [local go_sem] max2_int min2_int max_two min_two max_three min_three max_four min_four   -- for this text's walks alone
set_option linter.unusedVariables false
set_option linter.unusedSimpArgs false

/-! ### accountinglaw30_lives: function 9 -/
def accountinglaw30_lives.f (k : Nat)  : Option (Bool) := (deprec_Schedule.f k 1 1000 0 3 0 0 ([] : List Int)).bind fun bt101 => ((deprec_Schedule.f k 2 1000 100 4 2 5 ([] : List Int)).bind fun bt105 => ((deprec_Schedule.f k 3 600 0 3 0 0 ([] : List Int)).bind fun bt109 => ((deprec_Schedule.f k 4 110 10 3 0 0 (([1, 0, 3] : List Int))).bind fun bt116 => ((deprec_After.f k 3 600 0 3 0 0 ([] : List Int) 2).bind fun bt120 => (if bt101.2 = 0 then ((accountingref08_Same.f k bt101.1 (([333, 334, 333] : List Int))).bind fun t125 => (if t125 = true then (if bt105.2 = 0 then ((accountingref08_Same.f k bt105.1 (([400, 240, 144, 116] : List Int))).bind fun t129 => (if t129 = true then (if bt109.2 = 0 then ((accountingref08_Same.f k bt109.1 (([300, 200, 100] : List Int))).bind fun t133 => (if t133 = true then (if bt116.2 = 0 then ((accountingref08_Same.f k bt116.1 (([25, 0, 75] : List Int))).bind fun t137 => (if t137 = true then (if bt120.2 = 0 then (if bt120.1 = 100 then ((deprec_Check.f k 9 0 0 0 0 0 ([] : List Int)).bind fun t138 => (some (t138 == 10))) else (none)) else (none)) else (none))) else (none)) else (none))) else (none)) else (none))) else (none)) else (none))) else (none))))))
theorem accountinglaw30_lives.mono : ∀ k, LeO (accountinglaw30_lives.f k ) (accountinglaw30_lives.f (k + 1) ) := by
 intro  k
 unfold accountinglaw30_lives.f
 repeat' first
   | (with_reducible exact accountingref08_Same.mono _ _ _)
   | (with_reducible exact deprec_After.mono _ _ _ _ _ _ _ _ _)
   | (with_reducible exact deprec_Check.mono _ _ _ _ _ _ _ _)
   | (with_reducible exact deprec_Schedule.mono _ _ _ _ _ _ _ _)
   | (with_reducible exact LeO.refl _)
   | (with_reducible exact LeO.none _)
   | (with_reducible refine LeO.ite ?_ ?_)
   | (with_reducible refine LeO.bind ?_ (fun _ => ?_))
   | exact accountingref08_Same.mono _ _ _
   | exact deprec_After.mono _ _ _ _ _ _ _ _ _
   | exact deprec_Check.mono _ _ _ _ _ _ _ _
   | exact deprec_Schedule.mono _ _ _ _ _ _ _ _
   | exact LeO.none _
   | refine LeO.ite ?_ ?_
   | refine LeO.bind ?_ (fun _ => ?_)
set_option maxHeartbeats 8000000 in
set_option maxRecDepth 100000 in
theorem accountinglaw30_lives.calls (k : Nat)  (r : Bool) (w : World) (h : accountinglaw30_lives.f k  = some r) :
    Calls Try.prog 9 #[] w fun e w' => e = .returned (.bool r) ∧ Below w.heap.size w w' := by
 have hu26 := Try.underlying26
 have hu23 := Try.underlying23
 have HB := Aside0.mk (Below.refl w.heap.size w)
 have H : ((deprec_Schedule.f k 1 1000 0 3 0 0 ([] : List Int)).bind fun bt101 => ((deprec_Schedule.f k 2 1000 100 4 2 5 ([] : List Int)).bind fun bt105 => ((deprec_Schedule.f k 3 600 0 3 0 0 ([] : List Int)).bind fun bt109 => ((deprec_Schedule.f k 4 110 10 3 0 0 (([1, 0, 3] : List Int))).bind fun bt116 => ((deprec_After.f k 3 600 0 3 0 0 ([] : List Int) 2).bind fun bt120 => (if bt101.2 = 0 then ((accountingref08_Same.f k bt101.1 (([333, 334, 333] : List Int))).bind fun t125 => (if t125 = true then (if bt105.2 = 0 then ((accountingref08_Same.f k bt105.1 (([400, 240, 144, 116] : List Int))).bind fun t129 => (if t129 = true then (if bt109.2 = 0 then ((accountingref08_Same.f k bt109.1 (([300, 200, 100] : List Int))).bind fun t133 => (if t133 = true then (if bt116.2 = 0 then ((accountingref08_Same.f k bt116.1 (([25, 0, 75] : List Int))).bind fun t137 => (if t137 = true then (if bt120.2 = 0 then (if bt120.1 = 100 then ((deprec_Check.f k 9 0 0 0 0 0 ([] : List Int)).bind fun t138 => (some (t138 == 10))) else (none)) else (none)) else (none))) else (none)) else (none))) else (none)) else (none))) else (none)) else (none))) else (none))))))) = some r := h
 clear h
 replace H := Option.bind_eq_some_iff.mp H
 obtain ⟨⟨t101, t104⟩, A10, H⟩ := H
 replace H : ((deprec_Schedule.f k 2 1000 100 4 2 5 ([] : List Int)).bind fun bt105 => ((deprec_Schedule.f k 3 600 0 3 0 0 ([] : List Int)).bind fun bt109 => ((deprec_Schedule.f k 4 110 10 3 0 0 (([1, 0, 3] : List Int))).bind fun bt116 => ((deprec_After.f k 3 600 0 3 0 0 ([] : List Int) 2).bind fun bt120 => (if t104 = 0 then ((accountingref08_Same.f k t101 (([333, 334, 333] : List Int))).bind fun t125 => (if t125 = true then (if bt105.2 = 0 then ((accountingref08_Same.f k bt105.1 (([400, 240, 144, 116] : List Int))).bind fun t129 => (if t129 = true then (if bt109.2 = 0 then ((accountingref08_Same.f k bt109.1 (([300, 200, 100] : List Int))).bind fun t133 => (if t133 = true then (if bt116.2 = 0 then ((accountingref08_Same.f k bt116.1 (([25, 0, 75] : List Int))).bind fun t137 => (if t137 = true then (if bt120.2 = 0 then (if bt120.1 = 100 then ((deprec_Check.f k 9 0 0 0 0 0 ([] : List Int)).bind fun t138 => (some (t138 == 10))) else (none)) else (none)) else (none))) else (none)) else (none))) else (none)) else (none))) else (none)) else (none))) else (none)))))) = some r := H
 have A1 := Aside0.mk A10
 clear A10
 replace H := Option.bind_eq_some_iff.mp H
 obtain ⟨⟨t105, t108⟩, A20, H⟩ := H
 replace H : ((deprec_Schedule.f k 3 600 0 3 0 0 ([] : List Int)).bind fun bt109 => ((deprec_Schedule.f k 4 110 10 3 0 0 (([1, 0, 3] : List Int))).bind fun bt116 => ((deprec_After.f k 3 600 0 3 0 0 ([] : List Int) 2).bind fun bt120 => (if t104 = 0 then ((accountingref08_Same.f k t101 (([333, 334, 333] : List Int))).bind fun t125 => (if t125 = true then (if t108 = 0 then ((accountingref08_Same.f k t105 (([400, 240, 144, 116] : List Int))).bind fun t129 => (if t129 = true then (if bt109.2 = 0 then ((accountingref08_Same.f k bt109.1 (([300, 200, 100] : List Int))).bind fun t133 => (if t133 = true then (if bt116.2 = 0 then ((accountingref08_Same.f k bt116.1 (([25, 0, 75] : List Int))).bind fun t137 => (if t137 = true then (if bt120.2 = 0 then (if bt120.1 = 100 then ((deprec_Check.f k 9 0 0 0 0 0 ([] : List Int)).bind fun t138 => (some (t138 == 10))) else (none)) else (none)) else (none))) else (none)) else (none))) else (none)) else (none))) else (none)) else (none))) else (none))))) = some r := H
 have A2 := Aside0.mk A20
 clear A20
 replace H := Option.bind_eq_some_iff.mp H
 obtain ⟨⟨t109, t112⟩, A30, H⟩ := H
 replace H : ((deprec_Schedule.f k 4 110 10 3 0 0 (([1, 0, 3] : List Int))).bind fun bt116 => ((deprec_After.f k 3 600 0 3 0 0 ([] : List Int) 2).bind fun bt120 => (if t104 = 0 then ((accountingref08_Same.f k t101 (([333, 334, 333] : List Int))).bind fun t125 => (if t125 = true then (if t108 = 0 then ((accountingref08_Same.f k t105 (([400, 240, 144, 116] : List Int))).bind fun t129 => (if t129 = true then (if t112 = 0 then ((accountingref08_Same.f k t109 (([300, 200, 100] : List Int))).bind fun t133 => (if t133 = true then (if bt116.2 = 0 then ((accountingref08_Same.f k bt116.1 (([25, 0, 75] : List Int))).bind fun t137 => (if t137 = true then (if bt120.2 = 0 then (if bt120.1 = 100 then ((deprec_Check.f k 9 0 0 0 0 0 ([] : List Int)).bind fun t138 => (some (t138 == 10))) else (none)) else (none)) else (none))) else (none)) else (none))) else (none)) else (none))) else (none)) else (none))) else (none)))) = some r := H
 have A3 := Aside0.mk A30
 clear A30
 obtain ⟨y113, hy113⟩ : ∃ y_ : List Int, y_ = (([1, 0, 3] : List Int)) := ⟨_, rfl⟩
 replace H : ((deprec_Schedule.f k 4 110 10 3 0 0 y113).bind fun bt116 => ((deprec_After.f k 3 600 0 3 0 0 ([] : List Int) 2).bind fun bt120 => (if t104 = 0 then ((accountingref08_Same.f k t101 (([333, 334, 333] : List Int))).bind fun t125 => (if t125 = true then (if t108 = 0 then ((accountingref08_Same.f k t105 (([400, 240, 144, 116] : List Int))).bind fun t129 => (if t129 = true then (if t112 = 0 then ((accountingref08_Same.f k t109 (([300, 200, 100] : List Int))).bind fun t133 => (if t133 = true then (if bt116.2 = 0 then ((accountingref08_Same.f k bt116.1 (([25, 0, 75] : List Int))).bind fun t137 => (if t137 = true then (if bt120.2 = 0 then (if bt120.1 = 100 then ((deprec_Check.f k 9 0 0 0 0 0 ([] : List Int)).bind fun t138 => (some (t138 == 10))) else (none)) else (none)) else (none))) else (none)) else (none))) else (none)) else (none))) else (none)) else (none))) else (none)))) = some r := by first | (rw [hy113]; with_reducible exact H) | (have H2_ := (Option.bind_some _ _).symm.trans H; rw [hy113]; with_reducible exact H2_) | (have H2_ := (Option.bind_some _ _).symm.trans H; with_reducible exact H2_) | with_reducible exact H | (rw [hy113]; exact H) | exact H
 have Ny113 := Aside0.mk hy113
 clear hy113
 replace H := Option.bind_eq_some_iff.mp H
 obtain ⟨⟨t116, t119⟩, A40, H⟩ := H
 replace H : ((deprec_After.f k 3 600 0 3 0 0 ([] : List Int) 2).bind fun bt120 => (if t104 = 0 then ((accountingref08_Same.f k t101 (([333, 334, 333] : List Int))).bind fun t125 => (if t125 = true then (if t108 = 0 then ((accountingref08_Same.f k t105 (([400, 240, 144, 116] : List Int))).bind fun t129 => (if t129 = true then (if t112 = 0 then ((accountingref08_Same.f k t109 (([300, 200, 100] : List Int))).bind fun t133 => (if t133 = true then (if t119 = 0 then ((accountingref08_Same.f k t116 (([25, 0, 75] : List Int))).bind fun t137 => (if t137 = true then (if bt120.2 = 0 then (if bt120.1 = 100 then ((deprec_Check.f k 9 0 0 0 0 0 ([] : List Int)).bind fun t138 => (some (t138 == 10))) else (none)) else (none)) else (none))) else (none)) else (none))) else (none)) else (none))) else (none)) else (none))) else (none))) = some r := H
 have A4 := Aside0.mk A40
 clear A40
 replace H := Option.bind_eq_some_iff.mp H
 obtain ⟨⟨t120, t121⟩, A50, H⟩ := H
 replace H : (if t104 = 0 then ((accountingref08_Same.f k t101 (([333, 334, 333] : List Int))).bind fun t125 => (if t125 = true then (if t108 = 0 then ((accountingref08_Same.f k t105 (([400, 240, 144, 116] : List Int))).bind fun t129 => (if t129 = true then (if t112 = 0 then ((accountingref08_Same.f k t109 (([300, 200, 100] : List Int))).bind fun t133 => (if t133 = true then (if t119 = 0 then ((accountingref08_Same.f k t116 (([25, 0, 75] : List Int))).bind fun t137 => (if t137 = true then (if t121 = 0 then (if t120 = 100 then ((deprec_Check.f k 9 0 0 0 0 0 ([] : List Int)).bind fun t138 => (some (t138 == 10))) else (none)) else (none)) else (none))) else (none)) else (none))) else (none)) else (none))) else (none)) else (none))) else (none)) = some r := H
 have A5 := Aside0.mk A50
 clear A50
 by_cases c6 : t104 = 0
 ·rw [if_pos c6] at H
  have c6b0 : (t104 == 0) = true := beq_iff_eq.mpr c6
  have c6b1 : (t104 != 0) = false := bne_eq_false_iff_eq.mpr c6
  clear c6
  obtain ⟨y122, hy122⟩ : ∃ y_ : List Int, y_ = (([333, 334, 333] : List Int)) := ⟨_, rfl⟩
  replace H : ((accountingref08_Same.f k t101 y122).bind fun t125 => (if t125 = true then (if t108 = 0 then ((accountingref08_Same.f k t105 (([400, 240, 144, 116] : List Int))).bind fun t129 => (if t129 = true then (if t112 = 0 then ((accountingref08_Same.f k t109 (([300, 200, 100] : List Int))).bind fun t133 => (if t133 = true then (if t119 = 0 then ((accountingref08_Same.f k t116 (([25, 0, 75] : List Int))).bind fun t137 => (if t137 = true then (if t121 = 0 then (if t120 = 100 then ((deprec_Check.f k 9 0 0 0 0 0 ([] : List Int)).bind fun t138 => (some (t138 == 10))) else (none)) else (none)) else (none))) else (none)) else (none))) else (none)) else (none))) else (none)) else (none))) = some r := by first | (rw [hy122]; with_reducible exact H) | (have H2_ := (Option.bind_some _ _).symm.trans H; rw [hy122]; with_reducible exact H2_) | (have H2_ := (Option.bind_some _ _).symm.trans H; with_reducible exact H2_) | with_reducible exact H | (rw [hy122]; exact H) | exact H
  have Ny122 := Aside0.mk hy122
  clear hy122
  replace H := Option.bind_eq_some_iff.mp H
  obtain ⟨t125, A70, H⟩ := H
  replace H : (if t125 = true then (if t108 = 0 then ((accountingref08_Same.f k t105 (([400, 240, 144, 116] : List Int))).bind fun t129 => (if t129 = true then (if t112 = 0 then ((accountingref08_Same.f k t109 (([300, 200, 100] : List Int))).bind fun t133 => (if t133 = true then (if t119 = 0 then ((accountingref08_Same.f k t116 (([25, 0, 75] : List Int))).bind fun t137 => (if t137 = true then (if t121 = 0 then (if t120 = 100 then ((deprec_Check.f k 9 0 0 0 0 0 ([] : List Int)).bind fun t138 => (some (t138 == 10))) else (none)) else (none)) else (none))) else (none)) else (none))) else (none)) else (none))) else (none)) else (none)) = some r := H
  have A7 := Aside0.mk A70
  clear A70
  by_cases c8 : t125 = true
  ·subst c8
   have H1 : (if t108 = 0 then ((accountingref08_Same.f k t105 (([400, 240, 144, 116] : List Int))).bind fun t129 => (if t129 = true then (if t112 = 0 then ((accountingref08_Same.f k t109 (([300, 200, 100] : List Int))).bind fun t133 => (if t133 = true then (if t119 = 0 then ((accountingref08_Same.f k t116 (([25, 0, 75] : List Int))).bind fun t137 => (if t137 = true then (if t121 = 0 then (if t120 = 100 then ((deprec_Check.f k 9 0 0 0 0 0 ([] : List Int)).bind fun t138 => (some (t138 == 10))) else (none)) else (none)) else (none))) else (none)) else (none))) else (none)) else (none))) else (none)) = some r := by rw [if_pos rfl] at H; exact H
   clear H
   have H := H1
   clear H1
   by_cases c9 : t108 = 0
   ·rw [if_pos c9] at H
    have c9b0 : (t108 == 0) = true := beq_iff_eq.mpr c9
    have c9b1 : (t108 != 0) = false := bne_eq_false_iff_eq.mpr c9
    clear c9
    obtain ⟨y126, hy126⟩ : ∃ y_ : List Int, y_ = (([400, 240, 144, 116] : List Int)) := ⟨_, rfl⟩
    replace H : ((accountingref08_Same.f k t105 y126).bind fun t129 => (if t129 = true then (if t112 = 0 then ((accountingref08_Same.f k t109 (([300, 200, 100] : List Int))).bind fun t133 => (if t133 = true then (if t119 = 0 then ((accountingref08_Same.f k t116 (([25, 0, 75] : List Int))).bind fun t137 => (if t137 = true then (if t121 = 0 then (if t120 = 100 then ((deprec_Check.f k 9 0 0 0 0 0 ([] : List Int)).bind fun t138 => (some (t138 == 10))) else (none)) else (none)) else (none))) else (none)) else (none))) else (none)) else (none))) = some r := by first | (rw [hy126]; with_reducible exact H) | (have H2_ := (Option.bind_some _ _).symm.trans H; rw [hy126]; with_reducible exact H2_) | (have H2_ := (Option.bind_some _ _).symm.trans H; with_reducible exact H2_) | with_reducible exact H | (rw [hy126]; exact H) | exact H
    have Ny126 := Aside0.mk hy126
    clear hy126
    replace H := Option.bind_eq_some_iff.mp H
    obtain ⟨t129, A100, H⟩ := H
    replace H : (if t129 = true then (if t112 = 0 then ((accountingref08_Same.f k t109 (([300, 200, 100] : List Int))).bind fun t133 => (if t133 = true then (if t119 = 0 then ((accountingref08_Same.f k t116 (([25, 0, 75] : List Int))).bind fun t137 => (if t137 = true then (if t121 = 0 then (if t120 = 100 then ((deprec_Check.f k 9 0 0 0 0 0 ([] : List Int)).bind fun t138 => (some (t138 == 10))) else (none)) else (none)) else (none))) else (none)) else (none))) else (none)) else (none)) = some r := H
    have A10 := Aside0.mk A100
    clear A100
    by_cases c11 : t129 = true
    ·subst c11
     have H1 : (if t112 = 0 then ((accountingref08_Same.f k t109 (([300, 200, 100] : List Int))).bind fun t133 => (if t133 = true then (if t119 = 0 then ((accountingref08_Same.f k t116 (([25, 0, 75] : List Int))).bind fun t137 => (if t137 = true then (if t121 = 0 then (if t120 = 100 then ((deprec_Check.f k 9 0 0 0 0 0 ([] : List Int)).bind fun t138 => (some (t138 == 10))) else (none)) else (none)) else (none))) else (none)) else (none))) else (none)) = some r := by rw [if_pos rfl] at H; exact H
     clear H
     have H := H1
     clear H1
     by_cases c12 : t112 = 0
     ·rw [if_pos c12] at H
      have c12b0 : (t112 == 0) = true := beq_iff_eq.mpr c12
      have c12b1 : (t112 != 0) = false := bne_eq_false_iff_eq.mpr c12
      clear c12
      obtain ⟨y130, hy130⟩ : ∃ y_ : List Int, y_ = (([300, 200, 100] : List Int)) := ⟨_, rfl⟩
      replace H : ((accountingref08_Same.f k t109 y130).bind fun t133 => (if t133 = true then (if t119 = 0 then ((accountingref08_Same.f k t116 (([25, 0, 75] : List Int))).bind fun t137 => (if t137 = true then (if t121 = 0 then (if t120 = 100 then ((deprec_Check.f k 9 0 0 0 0 0 ([] : List Int)).bind fun t138 => (some (t138 == 10))) else (none)) else (none)) else (none))) else (none)) else (none))) = some r := by first | (rw [hy130]; with_reducible exact H) | (have H2_ := (Option.bind_some _ _).symm.trans H; rw [hy130]; with_reducible exact H2_) | (have H2_ := (Option.bind_some _ _).symm.trans H; with_reducible exact H2_) | with_reducible exact H | (rw [hy130]; exact H) | exact H
      have Ny130 := Aside0.mk hy130
      clear hy130
      replace H := Option.bind_eq_some_iff.mp H
      obtain ⟨t133, A130, H⟩ := H
      replace H : (if t133 = true then (if t119 = 0 then ((accountingref08_Same.f k t116 (([25, 0, 75] : List Int))).bind fun t137 => (if t137 = true then (if t121 = 0 then (if t120 = 100 then ((deprec_Check.f k 9 0 0 0 0 0 ([] : List Int)).bind fun t138 => (some (t138 == 10))) else (none)) else (none)) else (none))) else (none)) else (none)) = some r := H
      have A13 := Aside0.mk A130
      clear A130
      by_cases c14 : t133 = true
      ·subst c14
       have H1 : (if t119 = 0 then ((accountingref08_Same.f k t116 (([25, 0, 75] : List Int))).bind fun t137 => (if t137 = true then (if t121 = 0 then (if t120 = 100 then ((deprec_Check.f k 9 0 0 0 0 0 ([] : List Int)).bind fun t138 => (some (t138 == 10))) else (none)) else (none)) else (none))) else (none)) = some r := by rw [if_pos rfl] at H; exact H
       clear H
       have H := H1
       clear H1
       by_cases c15 : t119 = 0
       ·rw [if_pos c15] at H
        have c15b0 : (t119 == 0) = true := beq_iff_eq.mpr c15
        have c15b1 : (t119 != 0) = false := bne_eq_false_iff_eq.mpr c15
        clear c15
        obtain ⟨y134, hy134⟩ : ∃ y_ : List Int, y_ = (([25, 0, 75] : List Int)) := ⟨_, rfl⟩
        replace H : ((accountingref08_Same.f k t116 y134).bind fun t137 => (if t137 = true then (if t121 = 0 then (if t120 = 100 then ((deprec_Check.f k 9 0 0 0 0 0 ([] : List Int)).bind fun t138 => (some (t138 == 10))) else (none)) else (none)) else (none))) = some r := by first | (rw [hy134]; with_reducible exact H) | (have H2_ := (Option.bind_some _ _).symm.trans H; rw [hy134]; with_reducible exact H2_) | (have H2_ := (Option.bind_some _ _).symm.trans H; with_reducible exact H2_) | with_reducible exact H | (rw [hy134]; exact H) | exact H
        have Ny134 := Aside0.mk hy134
        clear hy134
        replace H := Option.bind_eq_some_iff.mp H
        obtain ⟨t137, A160, H⟩ := H
        replace H : (if t137 = true then (if t121 = 0 then (if t120 = 100 then ((deprec_Check.f k 9 0 0 0 0 0 ([] : List Int)).bind fun t138 => (some (t138 == 10))) else (none)) else (none)) else (none)) = some r := H
        have A16 := Aside0.mk A160
        clear A160
        by_cases c17 : t137 = true
        ·subst c17
         have H1 : (if t121 = 0 then (if t120 = 100 then ((deprec_Check.f k 9 0 0 0 0 0 ([] : List Int)).bind fun t138 => (some (t138 == 10))) else (none)) else (none)) = some r := by rw [if_pos rfl] at H; exact H
         clear H
         have H := H1
         clear H1
         by_cases c18 : t121 = 0
         ·rw [if_pos c18] at H
          have c18b0 : (t121 == 0) = true := beq_iff_eq.mpr c18
          have c18b1 : (t121 != 0) = false := bne_eq_false_iff_eq.mpr c18
          clear c18
          by_cases c19 : t120 = 100
          ·rw [if_pos c19] at H
           have c19b0 : (t120 == 100) = true := beq_iff_eq.mpr c19
           have c19b1 : (t120 != 100) = false := bne_eq_false_iff_eq.mpr c19
           clear c19
           replace H := Option.bind_eq_some_iff.mp H
           obtain ⟨t138, A200, H⟩ := H
           replace H : (some (t138 == 10)) = some r := H
           have A20 := Aside0.mk A200
           clear A200
           obtain rfl := Option.some.inj H
           go_enter Try.func9, Try.ntmps9
           go_wp2_with (first | ((with_reducible refine gate_callee (f := 12) rfl ?_); refine goesL_ (some 13) rfl rfl Try.func12 (by kernel_rfl) rfl #[.agg #[.int .i64 1, .int .i64 1000, .int .i64 0, .int .i64 3, .int .i64 0, .int .i64 0, .slice none 0 0]] rfl (by (try simp only [List.map_toArray, List.map_cons, List.map_nil]); first | done | rfl | (simp only [List.length_drop, List.length_take]; rfl)) ?_; (refine (deprec_Schedule.calls k 1 1000 0 3 0 0 _ _ ([] : List Int) t101 t104 _ ?side1 ?side2 A1.out).mono ?_); (case side1 => exact Kd.C_nil _ _); (case side2 => exact Nat.le_refl _); rintro e w21 ⟨v102, rfl, ho0, hb⟩; refine ⟨_, rfl, ?_⟩; have n0_ := Aside0.mk (Kd.R_lower ho0 (below_size (by repeat (first | (with_reducible first | exact HB.out | apply below_alloc | apply pw_below_drewN | apply below_drew1) | exact HB.out)))); have n1_ := Aside0.mk (below_step (by repeat (first | (with_reducible first | exact HB.out | apply below_alloc | apply pw_below_drewN | apply below_drew1) | exact HB.out)) hb); clear HB; have HO103 := n0_; have HB := n1_; clear n0_ n1_; (try clear hb); (try clear hb2); (try clear hk); (try clear hi); (try clear ho0)) | ((with_reducible refine gate_callee (f := 12) rfl ?_); refine goesL_ (some 19) rfl rfl Try.func12 (by kernel_rfl) rfl #[.agg #[.int .i64 2, .int .i64 1000, .int .i64 100, .int .i64 4, .int .i64 2, .int .i64 5, .slice none 0 0]] rfl (by (try simp only [List.map_toArray, List.map_cons, List.map_nil]); first | done | rfl | (simp only [List.length_drop, List.length_take]; rfl)) ?_; (refine (deprec_Schedule.calls k 2 1000 100 4 2 5 _ _ ([] : List Int) t105 t108 _ ?side1 ?side2 A2.out).mono ?_); (case side1 => exact Kd.C_nil _ _); (case side2 => exact Nat.le_refl _); rintro e w22 ⟨v106, rfl, ho0, hb⟩; refine ⟨_, rfl, ?_⟩; have n0_ := Aside0.mk (Kd.R_elder' (by (with_reducible repeat (first | apply Kd.R_alloc | apply Kd.R_drewN | apply Kd.R_drew)); exact HO103.out) (Kd.R_base ho0) hb); have n1_ := Aside0.mk (Kd.R_lower (Kd.R_new' ho0 (Kd.R_lt (by (with_reducible repeat (first | apply Kd.R_alloc | apply Kd.R_drewN | apply Kd.R_drew)); exact HO103.out))) (below_size (by repeat (first | (with_reducible first | exact HB.out | apply below_alloc | apply pw_below_drewN | apply below_drew1) | exact HB.out)))); have n2_ := Aside0.mk (below_step (by repeat (first | (with_reducible first | exact HB.out | apply below_alloc | apply pw_below_drewN | apply below_drew1) | exact HB.out)) hb); clear HO103; clear HB; have HO103 := n0_; have HO107 := n1_; have HB := n2_; clear n0_ n1_ n2_; (try clear hb); (try clear hb2); (try clear hk); (try clear hi); (try clear ho0)) | ((with_reducible refine gate_callee (f := 12) rfl ?_); refine goesL_ (some 24) rfl rfl Try.func12 (by kernel_rfl) rfl #[.agg #[.int .i64 3, .int .i64 600, .int .i64 0, .int .i64 3, .int .i64 0, .int .i64 0, .slice none 0 0]] rfl (by (try simp only [List.map_toArray, List.map_cons, List.map_nil]); first | done | rfl | (simp only [List.length_drop, List.length_take]; rfl)) ?_; (refine (deprec_Schedule.calls k 3 600 0 3 0 0 _ _ ([] : List Int) t109 t112 _ ?side1 ?side2 A3.out).mono ?_); (case side1 => exact Kd.C_nil _ _); (case side2 => exact Nat.le_refl _); rintro e w23 ⟨v110, rfl, ho0, hb⟩; refine ⟨_, rfl, ?_⟩; have n0_ := Aside0.mk (Kd.R_elder' (by (with_reducible repeat (first | apply Kd.R_alloc | apply Kd.R_drewN | apply Kd.R_drew)); exact HO103.out) (Kd.R_base ho0) hb); have n1_ := Aside0.mk (Kd.R_elder' (by (with_reducible repeat (first | apply Kd.R_alloc | apply Kd.R_drewN | apply Kd.R_drew)); exact HO107.out) (Kd.R_base ho0) hb); have n2_ := Aside0.mk (Kd.R_lower (Kd.R_new' (Kd.R_new' ho0 (Kd.R_lt (by (with_reducible repeat (first | apply Kd.R_alloc | apply Kd.R_drewN | apply Kd.R_drew)); exact HO103.out))) (Kd.R_lt (by (with_reducible repeat (first | apply Kd.R_alloc | apply Kd.R_drewN | apply Kd.R_drew)); exact HO107.out))) (below_size (by repeat (first | (with_reducible first | exact HB.out | apply below_alloc | apply pw_below_drewN | apply below_drew1) | exact HB.out)))); have n3_ := Aside0.mk (below_step (by repeat (first | (with_reducible first | exact HB.out | apply below_alloc | apply pw_below_drewN | apply below_drew1) | exact HB.out)) hb); clear HO103; clear HO107; clear HB; have HO103 := n0_; have HO107 := n1_; have HO111 := n2_; have HB := n3_; clear n0_ n1_ n2_ n3_; (try clear hb); (try clear hb2); (try clear hk); (try clear hi); (try clear ho0)) | ((with_reducible refine gate_dst (N := 28) rfl ?_); (try (refine gate_guard (by rfl) ?_; dsimp only)); refine Kd.R_lit (Kd.int .i64) _ 3 ?hg (N := 28) ?hd (xs := ([1, 0, 3] : List Int)) (inner := [.int .i64 1, .int .i64 0, .int .i64 3]) (ok := fun _ => True) (okp := fun _ => True) ?hr ?hp (fun _ hk => hk) trivial (Below.refl _ _) (Nat.le_refl _) (by simp) ?_; (case hd => rfl); (case hg => rfl); (case hr => first | (go_simp; done) | (go_simp; rfl)); (case hp => exact (Reps.one (show Kd.M (Kd.int .i64) _ _ _ 1 [.int .i64 1] from rfl) (Reps.one (show Kd.M (Kd.int .i64) _ _ _ 0 [.int .i64 0] from rfl) (Reps.one (show Kd.M (Kd.int .i64) _ _ _ 3 [.int .i64 3] from rfl) (Reps.none _ _))))); intro v114 w24 ho25 hb hg_ hnew_; clear hg_ hnew_; (first | rw [← Ny113.out] at ho25 | (simp only [Int.reduceToNat] at ho25; rw [← Ny113.out] at ho25)); have n0_ := Aside0.mk (Kd.R_elder' (by (with_reducible repeat (first | apply Kd.R_alloc | apply Kd.R_drewN | apply Kd.R_drew)); exact HO103.out) (Kd.R_base ho25) hb); have n1_ := Aside0.mk (Kd.R_elder' (by (with_reducible repeat (first | apply Kd.R_alloc | apply Kd.R_drewN | apply Kd.R_drew)); exact HO107.out) (Kd.R_base ho25) hb); have n2_ := Aside0.mk (Kd.R_elder' (by (with_reducible repeat (first | apply Kd.R_alloc | apply Kd.R_drewN | apply Kd.R_drew)); exact HO111.out) (Kd.R_base ho25) hb); have n3_ := Aside0.mk (Kd.R_lower (Kd.R_new' (Kd.R_new' (Kd.R_new' ho25 (Kd.R_lt (by (with_reducible repeat (first | apply Kd.R_alloc | apply Kd.R_drewN | apply Kd.R_drew)); exact HO103.out))) (Kd.R_lt (by (with_reducible repeat (first | apply Kd.R_alloc | apply Kd.R_drewN | apply Kd.R_drew)); exact HO107.out))) (Kd.R_lt (by (with_reducible repeat (first | apply Kd.R_alloc | apply Kd.R_drewN | apply Kd.R_drew)); exact HO111.out))) (below_size (by repeat (first | (with_reducible first | exact HB.out | apply below_alloc | apply pw_below_drewN | apply below_drew1) | exact HB.out)))); have n4_ := Aside0.mk (below_step (by repeat (first | (with_reducible first | exact HB.out | apply below_alloc | apply pw_below_drewN | apply below_drew1) | exact HB.out)) hb); clear HO103; clear HO107; clear HO111; clear HB; have HO103 := n0_; have HO107 := n1_; have HO111 := n2_; have HO115 := n3_; have HB := n4_; clear n0_ n1_ n2_ n3_ n4_; clear hb ho25; obtain ⟨Ao26, co26, eo26⟩ := Kd.R_slice HO115.out; subst eo26) | ((with_reducible refine gate_callee (f := 12) rfl ?_); refine goesL_ (some 30) rfl rfl Try.func12 (by kernel_rfl) rfl #[.agg #[.int .i64 4, .int .i64 110, .int .i64 10, .int .i64 3, .int .i64 0, .int .i64 0, .slice Ao26 y113.length co26]] rfl (by (try simp only [List.map_toArray, List.map_cons, List.map_nil]); first | done | rfl | (simp only [List.length_drop, List.length_take]; rfl)) ?_; (with_reducible refine (deprec_Schedule.calls k 4 110 10 3 0 0 _ _ y113 t116 t119 _ ?side1 ?side2 A4.out).mono ?_); (case side1 => repeat (first | exact (Kd.R_reads' HO115.out).2.2 | (with_reducible refine Kd.C_alloc ?_ _) | (with_reducible refine Kd.C_drewN ?_ _) | (with_reducible refine Kd.C_drew ?_))); (case side2 => exact (Kd.R_reads' HO115.out).2.1); rintro e w27 ⟨v117, rfl, ho0, hb⟩; refine ⟨_, rfl, ?_⟩; have n0_ := Aside0.mk (Kd.R_elder' (by (with_reducible repeat (first | apply Kd.R_alloc | apply Kd.R_drewN | apply Kd.R_drew)); exact HO103.out) (Kd.R_base ho0) hb); have n1_ := Aside0.mk (Kd.R_elder' (by (with_reducible repeat (first | apply Kd.R_alloc | apply Kd.R_drewN | apply Kd.R_drew)); exact HO107.out) (Kd.R_base ho0) hb); have n2_ := Aside0.mk (Kd.R_elder' (by (with_reducible repeat (first | apply Kd.R_alloc | apply Kd.R_drewN | apply Kd.R_drew)); exact HO111.out) (Kd.R_base ho0) hb); have n3_ := Aside0.mk (Kd.R_elder' (by (with_reducible repeat (first | apply Kd.R_alloc | apply Kd.R_drewN | apply Kd.R_drew)); exact HO115.out) (Kd.R_base ho0) hb); have n4_ := Aside0.mk (Kd.R_lower (Kd.R_new' (Kd.R_new' (Kd.R_new' (Kd.R_new' ho0 (Kd.R_lt (by (with_reducible repeat (first | apply Kd.R_alloc | apply Kd.R_drewN | apply Kd.R_drew)); exact HO103.out))) (Kd.R_lt (by (with_reducible repeat (first | apply Kd.R_alloc | apply Kd.R_drewN | apply Kd.R_drew)); exact HO107.out))) (Kd.R_lt (by (with_reducible repeat (first | apply Kd.R_alloc | apply Kd.R_drewN | apply Kd.R_drew)); exact HO111.out))) (Kd.R_lt (by (with_reducible repeat (first | apply Kd.R_alloc | apply Kd.R_drewN | apply Kd.R_drew)); exact HO115.out))) (below_size (by repeat (first | (with_reducible first | exact HB.out | apply below_alloc | apply pw_below_drewN | apply below_drew1) | exact HB.out)))); have n5_ := Aside0.mk (below_step (by repeat (first | (with_reducible first | exact HB.out | apply below_alloc | apply pw_below_drewN | apply below_drew1) | exact HB.out)) hb); clear HO103; clear HO107; clear HO111; clear HO115; clear HB; have HO103 := n0_; have HO107 := n1_; have HO111 := n2_; have HO115 := n3_; have HO118 := n4_; have HB := n5_; clear n0_ n1_ n2_ n3_ n4_ n5_; (try clear hb); (try clear hb2); (try clear hk); (try clear hi); (try clear ho0)) | ((with_reducible refine gate_callee (f := 15) rfl ?_); refine goesL_ (some 35) rfl rfl Try.func15 (by kernel_rfl) rfl #[.agg #[.int .i64 3, .int .i64 600, .int .i64 0, .int .i64 3, .int .i64 0, .int .i64 0, .slice none 0 0], .int .i64 2] rfl (by (try simp only [List.map_toArray, List.map_cons, List.map_nil]); first | done | rfl | (simp only [List.length_drop, List.length_take]; rfl)) ?_; (refine (deprec_After.calls k 3 600 0 3 0 0 _ _ ([] : List Int) 2 t120 t121 _ ?side1 ?side2 A5.out).mono ?_); (case side1 => exact Kd.C_nil _ _); (case side2 => exact Nat.le_refl _); rintro e w28 ⟨rfl, hb⟩; refine ⟨_, rfl, ?_⟩; have n0_ := Aside0.mk (Kd.R_below (by (with_reducible repeat (first | apply Kd.R_alloc | apply Kd.R_drewN | apply Kd.R_drew)); exact HO103.out) hb); have n1_ := Aside0.mk (Kd.R_below (by (with_reducible repeat (first | apply Kd.R_alloc | apply Kd.R_drewN | apply Kd.R_drew)); exact HO107.out) hb); have n2_ := Aside0.mk (Kd.R_below (by (with_reducible repeat (first | apply Kd.R_alloc | apply Kd.R_drewN | apply Kd.R_drew)); exact HO111.out) hb); have n3_ := Aside0.mk (Kd.R_below (by (with_reducible repeat (first | apply Kd.R_alloc | apply Kd.R_drewN | apply Kd.R_drew)); exact HO115.out) hb); have n4_ := Aside0.mk (Kd.R_below (by (with_reducible repeat (first | apply Kd.R_alloc | apply Kd.R_drewN | apply Kd.R_drew)); exact HO118.out) hb); have n5_ := Aside0.mk (below_step (by repeat (first | (with_reducible first | exact HB.out | apply below_alloc | apply pw_below_drewN | apply below_drew1) | exact HB.out)) hb); clear HO103; clear HO107; clear HO111; clear HO115; clear HO118; clear HB; have HO103 := n0_; have HO107 := n1_; have HO111 := n2_; have HO115 := n3_; have HO118 := n4_; have HB := n5_; clear n0_ n1_ n2_ n3_ n4_ n5_; (try clear hb); (try clear hb2); (try clear hk); (try clear hi)) | ((with_reducible refine gate_dst (N := 42) rfl ?_); (try (refine gate_guard (by rfl) ?_; dsimp only)); refine Kd.R_lit (Kd.int .i64) _ 3 ?hg (N := 42) ?hd (xs := ([333, 334, 333] : List Int)) (inner := [.int .i64 333, .int .i64 334, .int .i64 333]) (ok := fun _ => True) (okp := fun _ => True) ?hr ?hp (fun _ hk => hk) trivial (Below.refl _ _) (Nat.le_refl _) (by simp) ?_; (case hd => rfl); (case hg => rfl); (case hr => first | (go_simp; done) | (go_simp; rfl)); (case hp => exact (Reps.one (show Kd.M (Kd.int .i64) _ _ _ 333 [.int .i64 333] from rfl) (Reps.one (show Kd.M (Kd.int .i64) _ _ _ 334 [.int .i64 334] from rfl) (Reps.one (show Kd.M (Kd.int .i64) _ _ _ 333 [.int .i64 333] from rfl) (Reps.none _ _))))); intro v123 w29 ho30 hb hg_ hnew_; clear hg_ hnew_; (first | rw [← Ny122.out] at ho30 | (simp only [Int.reduceToNat] at ho30; rw [← Ny122.out] at ho30)); have n0_ := Aside0.mk (Kd.R_elder' (by (with_reducible repeat (first | apply Kd.R_alloc | apply Kd.R_drewN | apply Kd.R_drew)); exact HO103.out) (Kd.R_base ho30) hb); have n1_ := Aside0.mk (Kd.R_elder' (by (with_reducible repeat (first | apply Kd.R_alloc | apply Kd.R_drewN | apply Kd.R_drew)); exact HO107.out) (Kd.R_base ho30) hb); have n2_ := Aside0.mk (Kd.R_elder' (by (with_reducible repeat (first | apply Kd.R_alloc | apply Kd.R_drewN | apply Kd.R_drew)); exact HO111.out) (Kd.R_base ho30) hb); have n3_ := Aside0.mk (Kd.R_elder' (by (with_reducible repeat (first | apply Kd.R_alloc | apply Kd.R_drewN | apply Kd.R_drew)); exact HO115.out) (Kd.R_base ho30) hb); have n4_ := Aside0.mk (Kd.R_elder' (by (with_reducible repeat (first | apply Kd.R_alloc | apply Kd.R_drewN | apply Kd.R_drew)); exact HO118.out) (Kd.R_base ho30) hb); have n5_ := Aside0.mk (Kd.R_lower (Kd.R_new' (Kd.R_new' (Kd.R_new' (Kd.R_new' (Kd.R_new' ho30 (Kd.R_lt (by (with_reducible repeat (first | apply Kd.R_alloc | apply Kd.R_drewN | apply Kd.R_drew)); exact HO103.out))) (Kd.R_lt (by (with_reducible repeat (first | apply Kd.R_alloc | apply Kd.R_drewN | apply Kd.R_drew)); exact HO107.out))) (Kd.R_lt (by (with_reducible repeat (first | apply Kd.R_alloc | apply Kd.R_drewN | apply Kd.R_drew)); exact HO111.out))) (Kd.R_lt (by (with_reducible repeat (first | apply Kd.R_alloc | apply Kd.R_drewN | apply Kd.R_drew)); exact HO115.out))) (Kd.R_lt (by (with_reducible repeat (first | apply Kd.R_alloc | apply Kd.R_drewN | apply Kd.R_drew)); exact HO118.out))) (below_size (by repeat (first | (with_reducible first | exact HB.out | apply below_alloc | apply pw_below_drewN | apply below_drew1) | exact HB.out)))); have n6_ := Aside0.mk (below_step (by repeat (first | (with_reducible first | exact HB.out | apply below_alloc | apply pw_below_drewN | apply below_drew1) | exact HB.out)) hb); clear HO103; clear HO107; clear HO111; clear HO115; clear HO118; clear HB; have HO103 := n0_; have HO107 := n1_; have HO111 := n2_; have HO115 := n3_; have HO118 := n4_; have HO124 := n5_; have HB := n6_; clear n0_ n1_ n2_ n3_ n4_ n5_ n6_; clear hb ho30; obtain ⟨Ao31, co31, eo31⟩ := Kd.R_slice HO103.out; subst eo31; obtain ⟨Ao32, co32, eo32⟩ := Kd.R_slice HO124.out; subst eo32) | (go_at_call 14; (with_reducible refine (accountingref08_Same.calls k _ _ t101 _ _ y122 true _ ?side1 ?side2 ?side3 ?side4 A7.out).mono ?_); (case side1 => repeat (first | exact (Kd.R_reads' HO103.out).2.2 | (with_reducible refine Kd.C_alloc ?_ _) | (with_reducible refine Kd.C_drewN ?_ _) | (with_reducible refine Kd.C_drew ?_))); (case side2 => exact (Kd.R_reads' HO103.out).2.1); (case side3 => repeat (first | exact (Kd.R_reads' HO124.out).2.2 | (with_reducible refine Kd.C_alloc ?_ _) | (with_reducible refine Kd.C_drewN ?_ _) | (with_reducible refine Kd.C_drew ?_))); (case side4 => exact (Kd.R_reads' HO124.out).2.1); rintro e w' ⟨rfl, ⟨nd, rfl⟩⟩) | ((with_reducible refine gate_dst (N := 51) rfl ?_); (try (refine gate_guard (by rfl) ?_; dsimp only)); refine Kd.R_lit (Kd.int .i64) _ 3 ?hg (N := 51) ?hd (xs := ([400, 240, 144, 116] : List Int)) (inner := [.int .i64 400, .int .i64 240, .int .i64 144, .int .i64 116]) (ok := fun _ => True) (okp := fun _ => True) ?hr ?hp (fun _ hk => hk) trivial (Below.refl _ _) (Nat.le_refl _) (by simp) ?_; (case hd => rfl); (case hg => rfl); (case hr => first | (go_simp; done) | (go_simp; rfl)); (case hp => exact (Reps.one (show Kd.M (Kd.int .i64) _ _ _ 400 [.int .i64 400] from rfl) (Reps.one (show Kd.M (Kd.int .i64) _ _ _ 240 [.int .i64 240] from rfl) (Reps.one (show Kd.M (Kd.int .i64) _ _ _ 144 [.int .i64 144] from rfl) (Reps.one (show Kd.M (Kd.int .i64) _ _ _ 116 [.int .i64 116] from rfl) (Reps.none _ _)))))); intro v127 w33 ho34 hb hg_ hnew_; clear hg_ hnew_; (first | rw [← Ny126.out] at ho34 | (simp only [Int.reduceToNat] at ho34; rw [← Ny126.out] at ho34)); have n0_ := Aside0.mk (Kd.R_elder' (by (with_reducible repeat (first | apply Kd.R_alloc | apply Kd.R_drewN | apply Kd.R_drew)); exact HO103.out) (Kd.R_base ho34) hb); have n1_ := Aside0.mk (Kd.R_elder' (by (with_reducible repeat (first | apply Kd.R_alloc | apply Kd.R_drewN | apply Kd.R_drew)); exact HO107.out) (Kd.R_base ho34) hb); have n2_ := Aside0.mk (Kd.R_elder' (by (with_reducible repeat (first | apply Kd.R_alloc | apply Kd.R_drewN | apply Kd.R_drew)); exact HO111.out) (Kd.R_base ho34) hb); have n3_ := Aside0.mk (Kd.R_elder' (by (with_reducible repeat (first | apply Kd.R_alloc | apply Kd.R_drewN | apply Kd.R_drew)); exact HO115.out) (Kd.R_base ho34) hb); have n4_ := Aside0.mk (Kd.R_elder' (by (with_reducible repeat (first | apply Kd.R_alloc | apply Kd.R_drewN | apply Kd.R_drew)); exact HO118.out) (Kd.R_base ho34) hb); have n5_ := Aside0.mk (Kd.R_elder' (by (with_reducible repeat (first | apply Kd.R_alloc | apply Kd.R_drewN | apply Kd.R_drew)); exact HO124.out) (Kd.R_base ho34) hb); have n6_ := Aside0.mk (Kd.R_lower (Kd.R_new' (Kd.R_new' (Kd.R_new' (Kd.R_new' (Kd.R_new' (Kd.R_new' ho34 (Kd.R_lt (by (with_reducible repeat (first | apply Kd.R_alloc | apply Kd.R_drewN | apply Kd.R_drew)); exact HO103.out))) (Kd.R_lt (by (with_reducible repeat (first | apply Kd.R_alloc | apply Kd.R_drewN | apply Kd.R_drew)); exact HO107.out))) (Kd.R_lt (by (with_reducible repeat (first | apply Kd.R_alloc | apply Kd.R_drewN | apply Kd.R_drew)); exact HO111.out))) (Kd.R_lt (by (with_reducible repeat (first | apply Kd.R_alloc | apply Kd.R_drewN | apply Kd.R_drew)); exact HO115.out))) (Kd.R_lt (by (with_reducible repeat (first | apply Kd.R_alloc | apply Kd.R_drewN | apply Kd.R_drew)); exact HO118.out))) (Kd.R_lt (by (with_reducible repeat (first | apply Kd.R_alloc | apply Kd.R_drewN | apply Kd.R_drew)); exact HO124.out))) (below_size (by repeat (first | (with_reducible first | exact HB.out | apply below_alloc | apply pw_below_drewN | apply below_drew1) | exact HB.out)))); have n7_ := Aside0.mk (below_step (by repeat (first | (with_reducible first | exact HB.out | apply below_alloc | apply pw_below_drewN | apply below_drew1) | exact HB.out)) hb); clear HO103; clear HO107; clear HO111; clear HO115; clear HO118; clear HO124; clear HB; have HO103 := n0_; have HO107 := n1_; have HO111 := n2_; have HO115 := n3_; have HO118 := n4_; have HO124 := n5_; have HO128 := n6_; have HB := n7_; clear n0_ n1_ n2_ n3_ n4_ n5_ n6_ n7_; clear hb ho34; obtain ⟨Ao35, co35, eo35⟩ := Kd.R_slice HO107.out; subst eo35; obtain ⟨Ao36, co36, eo36⟩ := Kd.R_slice HO128.out; subst eo36) | (go_at_call 14; (with_reducible refine (accountingref08_Same.calls k _ _ t105 _ _ y126 true _ ?side1 ?side2 ?side3 ?side4 A10.out).mono ?_); (case side1 => repeat (first | exact (Kd.R_reads' HO107.out).2.2 | (with_reducible refine Kd.C_alloc ?_ _) | (with_reducible refine Kd.C_drewN ?_ _) | (with_reducible refine Kd.C_drew ?_))); (case side2 => exact (Kd.R_reads' HO107.out).2.1); (case side3 => repeat (first | exact (Kd.R_reads' HO128.out).2.2 | (with_reducible refine Kd.C_alloc ?_ _) | (with_reducible refine Kd.C_drewN ?_ _) | (with_reducible refine Kd.C_drew ?_))); (case side4 => exact (Kd.R_reads' HO128.out).2.1); rintro e w' ⟨rfl, ⟨nd, rfl⟩⟩) | ((with_reducible refine gate_dst (N := 60) rfl ?_); (try (refine gate_guard (by rfl) ?_; dsimp only)); refine Kd.R_lit (Kd.int .i64) _ 3 ?hg (N := 60) ?hd (xs := ([300, 200, 100] : List Int)) (inner := [.int .i64 300, .int .i64 200, .int .i64 100]) (ok := fun _ => True) (okp := fun _ => True) ?hr ?hp (fun _ hk => hk) trivial (Below.refl _ _) (Nat.le_refl _) (by simp) ?_; (case hd => rfl); (case hg => rfl); (case hr => first | (go_simp; done) | (go_simp; rfl)); (case hp => exact (Reps.one (show Kd.M (Kd.int .i64) _ _ _ 300 [.int .i64 300] from rfl) (Reps.one (show Kd.M (Kd.int .i64) _ _ _ 200 [.int .i64 200] from rfl) (Reps.one (show Kd.M (Kd.int .i64) _ _ _ 100 [.int .i64 100] from rfl) (Reps.none _ _))))); intro v131 w37 ho38 hb hg_ hnew_; clear hg_ hnew_; (first | rw [← Ny130.out] at ho38 | (simp only [Int.reduceToNat] at ho38; rw [← Ny130.out] at ho38)); have n0_ := Aside0.mk (Kd.R_elder' (by (with_reducible repeat (first | apply Kd.R_alloc | apply Kd.R_drewN | apply Kd.R_drew)); exact HO103.out) (Kd.R_base ho38) hb); have n1_ := Aside0.mk (Kd.R_elder' (by (with_reducible repeat (first | apply Kd.R_alloc | apply Kd.R_drewN | apply Kd.R_drew)); exact HO107.out) (Kd.R_base ho38) hb); have n2_ := Aside0.mk (Kd.R_elder' (by (with_reducible repeat (first | apply Kd.R_alloc | apply Kd.R_drewN | apply Kd.R_drew)); exact HO111.out) (Kd.R_base ho38) hb); have n3_ := Aside0.mk (Kd.R_elder' (by (with_reducible repeat (first | apply Kd.R_alloc | apply Kd.R_drewN | apply Kd.R_drew)); exact HO115.out) (Kd.R_base ho38) hb); have n4_ := Aside0.mk (Kd.R_elder' (by (with_reducible repeat (first | apply Kd.R_alloc | apply Kd.R_drewN | apply Kd.R_drew)); exact HO118.out) (Kd.R_base ho38) hb); have n5_ := Aside0.mk (Kd.R_elder' (by (with_reducible repeat (first | apply Kd.R_alloc | apply Kd.R_drewN | apply Kd.R_drew)); exact HO124.out) (Kd.R_base ho38) hb); have n6_ := Aside0.mk (Kd.R_elder' (by (with_reducible repeat (first | apply Kd.R_alloc | apply Kd.R_drewN | apply Kd.R_drew)); exact HO128.out) (Kd.R_base ho38) hb); have n7_ := Aside0.mk (Kd.R_lower (Kd.R_new' (Kd.R_new' (Kd.R_new' (Kd.R_new' (Kd.R_new' (Kd.R_new' (Kd.R_new' ho38 (Kd.R_lt (by (with_reducible repeat (first | apply Kd.R_alloc | apply Kd.R_drewN | apply Kd.R_drew)); exact HO103.out))) (Kd.R_lt (by (with_reducible repeat (first | apply Kd.R_alloc | apply Kd.R_drewN | apply Kd.R_drew)); exact HO107.out))) (Kd.R_lt (by (with_reducible repeat (first | apply Kd.R_alloc | apply Kd.R_drewN | apply Kd.R_drew)); exact HO111.out))) (Kd.R_lt (by (with_reducible repeat (first | apply Kd.R_alloc | apply Kd.R_drewN | apply Kd.R_drew)); exact HO115.out))) (Kd.R_lt (by (with_reducible repeat (first | apply Kd.R_alloc | apply Kd.R_drewN | apply Kd.R_drew)); exact HO118.out))) (Kd.R_lt (by (with_reducible repeat (first | apply Kd.R_alloc | apply Kd.R_drewN | apply Kd.R_drew)); exact HO124.out))) (Kd.R_lt (by (with_reducible repeat (first | apply Kd.R_alloc | apply Kd.R_drewN | apply Kd.R_drew)); exact HO128.out))) (below_size (by repeat (first | (with_reducible first | exact HB.out | apply below_alloc | apply pw_below_drewN | apply below_drew1) | exact HB.out)))); have n8_ := Aside0.mk (below_step (by repeat (first | (with_reducible first | exact HB.out | apply below_alloc | apply pw_below_drewN | apply below_drew1) | exact HB.out)) hb); clear HO103; clear HO107; clear HO111; clear HO115; clear HO118; clear HO124; clear HO128; clear HB; have HO103 := n0_; have HO107 := n1_; have HO111 := n2_; have HO115 := n3_; have HO118 := n4_; have HO124 := n5_; have HO128 := n6_; have HO132 := n7_; have HB := n8_; clear n0_ n1_ n2_ n3_ n4_ n5_ n6_ n7_ n8_; clear hb ho38; obtain ⟨Ao39, co39, eo39⟩ := Kd.R_slice HO111.out; subst eo39; obtain ⟨Ao40, co40, eo40⟩ := Kd.R_slice HO132.out; subst eo40) | (go_at_call 14; (with_reducible refine (accountingref08_Same.calls k _ _ t109 _ _ y130 true _ ?side1 ?side2 ?side3 ?side4 A13.out).mono ?_); (case side1 => repeat (first | exact (Kd.R_reads' HO111.out).2.2 | (with_reducible refine Kd.C_alloc ?_ _) | (with_reducible refine Kd.C_drewN ?_ _) | (with_reducible refine Kd.C_drew ?_))); (case side2 => exact (Kd.R_reads' HO111.out).2.1); (case side3 => repeat (first | exact (Kd.R_reads' HO132.out).2.2 | (with_reducible refine Kd.C_alloc ?_ _) | (with_reducible refine Kd.C_drewN ?_ _) | (with_reducible refine Kd.C_drew ?_))); (case side4 => exact (Kd.R_reads' HO132.out).2.1); rintro e w' ⟨rfl, ⟨nd, rfl⟩⟩) | ((with_reducible refine gate_dst (N := 69) rfl ?_); (try (refine gate_guard (by rfl) ?_; dsimp only)); refine Kd.R_lit (Kd.int .i64) _ 3 ?hg (N := 69) ?hd (xs := ([25, 0, 75] : List Int)) (inner := [.int .i64 25, .int .i64 0, .int .i64 75]) (ok := fun _ => True) (okp := fun _ => True) ?hr ?hp (fun _ hk => hk) trivial (Below.refl _ _) (Nat.le_refl _) (by simp) ?_; (case hd => rfl); (case hg => rfl); (case hr => first | (go_simp; done) | (go_simp; rfl)); (case hp => exact (Reps.one (show Kd.M (Kd.int .i64) _ _ _ 25 [.int .i64 25] from rfl) (Reps.one (show Kd.M (Kd.int .i64) _ _ _ 0 [.int .i64 0] from rfl) (Reps.one (show Kd.M (Kd.int .i64) _ _ _ 75 [.int .i64 75] from rfl) (Reps.none _ _))))); intro v135 w41 ho42 hb hg_ hnew_; clear hg_ hnew_; (first | rw [← Ny134.out] at ho42 | (simp only [Int.reduceToNat] at ho42; rw [← Ny134.out] at ho42)); have n0_ := Aside0.mk (Kd.R_elder' (by (with_reducible repeat (first | apply Kd.R_alloc | apply Kd.R_drewN | apply Kd.R_drew)); exact HO103.out) (Kd.R_base ho42) hb); have n1_ := Aside0.mk (Kd.R_elder' (by (with_reducible repeat (first | apply Kd.R_alloc | apply Kd.R_drewN | apply Kd.R_drew)); exact HO107.out) (Kd.R_base ho42) hb); have n2_ := Aside0.mk (Kd.R_elder' (by (with_reducible repeat (first | apply Kd.R_alloc | apply Kd.R_drewN | apply Kd.R_drew)); exact HO111.out) (Kd.R_base ho42) hb); have n3_ := Aside0.mk (Kd.R_elder' (by (with_reducible repeat (first | apply Kd.R_alloc | apply Kd.R_drewN | apply Kd.R_drew)); exact HO115.out) (Kd.R_base ho42) hb); have n4_ := Aside0.mk (Kd.R_elder' (by (with_reducible repeat (first | apply Kd.R_alloc | apply Kd.R_drewN | apply Kd.R_drew)); exact HO118.out) (Kd.R_base ho42) hb); have n5_ := Aside0.mk (Kd.R_elder' (by (with_reducible repeat (first | apply Kd.R_alloc | apply Kd.R_drewN | apply Kd.R_drew)); exact HO124.out) (Kd.R_base ho42) hb); have n6_ := Aside0.mk (Kd.R_elder' (by (with_reducible repeat (first | apply Kd.R_alloc | apply Kd.R_drewN | apply Kd.R_drew)); exact HO128.out) (Kd.R_base ho42) hb); have n7_ := Aside0.mk (Kd.R_elder' (by (with_reducible repeat (first | apply Kd.R_alloc | apply Kd.R_drewN | apply Kd.R_drew)); exact HO132.out) (Kd.R_base ho42) hb); have n8_ := Aside0.mk (Kd.R_lower (Kd.R_new' (Kd.R_new' (Kd.R_new' (Kd.R_new' (Kd.R_new' (Kd.R_new' (Kd.R_new' (Kd.R_new' ho42 (Kd.R_lt (by (with_reducible repeat (first | apply Kd.R_alloc | apply Kd.R_drewN | apply Kd.R_drew)); exact HO103.out))) (Kd.R_lt (by (with_reducible repeat (first | apply Kd.R_alloc | apply Kd.R_drewN | apply Kd.R_drew)); exact HO107.out))) (Kd.R_lt (by (with_reducible repeat (first | apply Kd.R_alloc | apply Kd.R_drewN | apply Kd.R_drew)); exact HO111.out))) (Kd.R_lt (by (with_reducible repeat (first | apply Kd.R_alloc | apply Kd.R_drewN | apply Kd.R_drew)); exact HO115.out))) (Kd.R_lt (by (with_reducible repeat (first | apply Kd.R_alloc | apply Kd.R_drewN | apply Kd.R_drew)); exact HO118.out))) (Kd.R_lt (by (with_reducible repeat (first | apply Kd.R_alloc | apply Kd.R_drewN | apply Kd.R_drew)); exact HO124.out))) (Kd.R_lt (by (with_reducible repeat (first | apply Kd.R_alloc | apply Kd.R_drewN | apply Kd.R_drew)); exact HO128.out))) (Kd.R_lt (by (with_reducible repeat (first | apply Kd.R_alloc | apply Kd.R_drewN | apply Kd.R_drew)); exact HO132.out))) (below_size (by repeat (first | (with_reducible first | exact HB.out | apply below_alloc | apply pw_below_drewN | apply below_drew1) | exact HB.out)))); have n9_ := Aside0.mk (below_step (by repeat (first | (with_reducible first | exact HB.out | apply below_alloc | apply pw_below_drewN | apply below_drew1) | exact HB.out)) hb); clear HO103; clear HO107; clear HO111; clear HO115; clear HO118; clear HO124; clear HO128; clear HO132; clear HB; have HO103 := n0_; have HO107 := n1_; have HO111 := n2_; have HO115 := n3_; have HO118 := n4_; have HO124 := n5_; have HO128 := n6_; have HO132 := n7_; have HO136 := n8_; have HB := n9_; clear n0_ n1_ n2_ n3_ n4_ n5_ n6_ n7_ n8_ n9_; clear hb ho42; obtain ⟨Ao43, co43, eo43⟩ := Kd.R_slice HO118.out; subst eo43; obtain ⟨Ao44, co44, eo44⟩ := Kd.R_slice HO136.out; subst eo44) | (go_at_call 14; (with_reducible refine (accountingref08_Same.calls k _ _ t116 _ _ y134 true _ ?side1 ?side2 ?side3 ?side4 A16.out).mono ?_); (case side1 => repeat (first | exact (Kd.R_reads' HO118.out).2.2 | (with_reducible refine Kd.C_alloc ?_ _) | (with_reducible refine Kd.C_drewN ?_ _) | (with_reducible refine Kd.C_drew ?_))); (case side2 => exact (Kd.R_reads' HO118.out).2.1); (case side3 => repeat (first | exact (Kd.R_reads' HO136.out).2.2 | (with_reducible refine Kd.C_alloc ?_ _) | (with_reducible refine Kd.C_drewN ?_ _) | (with_reducible refine Kd.C_drew ?_))); (case side4 => exact (Kd.R_reads' HO136.out).2.1); rintro e w' ⟨rfl, ⟨nd, rfl⟩⟩) | (go_at_call 10; (refine (deprec_Check.calls k 9 0 0 0 0 0 _ _ ([] : List Int) t138 _ ?side1 ?side2 A20.out).mono ?_); (case side1 => exact Kd.C_nil _ _); (case side2 => exact Nat.le_refl _); rintro e w45 ⟨rfl, hb⟩; have n0_ := Aside0.mk (Kd.R_below (by (with_reducible repeat (first | apply Kd.R_alloc | apply Kd.R_drewN | apply Kd.R_drew)); exact HO103.out) hb); have n1_ := Aside0.mk (Kd.R_below (by (with_reducible repeat (first | apply Kd.R_alloc | apply Kd.R_drewN | apply Kd.R_drew)); exact HO107.out) hb); have n2_ := Aside0.mk (Kd.R_below (by (with_reducible repeat (first | apply Kd.R_alloc | apply Kd.R_drewN | apply Kd.R_drew)); exact HO111.out) hb); have n3_ := Aside0.mk (Kd.R_below (by (with_reducible repeat (first | apply Kd.R_alloc | apply Kd.R_drewN | apply Kd.R_drew)); exact HO115.out) hb); have n4_ := Aside0.mk (Kd.R_below (by (with_reducible repeat (first | apply Kd.R_alloc | apply Kd.R_drewN | apply Kd.R_drew)); exact HO118.out) hb); have n5_ := Aside0.mk (Kd.R_below (by (with_reducible repeat (first | apply Kd.R_alloc | apply Kd.R_drewN | apply Kd.R_drew)); exact HO124.out) hb); have n6_ := Aside0.mk (Kd.R_below (by (with_reducible repeat (first | apply Kd.R_alloc | apply Kd.R_drewN | apply Kd.R_drew)); exact HO128.out) hb); have n7_ := Aside0.mk (Kd.R_below (by (with_reducible repeat (first | apply Kd.R_alloc | apply Kd.R_drewN | apply Kd.R_drew)); exact HO132.out) hb); have n8_ := Aside0.mk (Kd.R_below (by (with_reducible repeat (first | apply Kd.R_alloc | apply Kd.R_drewN | apply Kd.R_drew)); exact HO136.out) hb); have n9_ := Aside0.mk (below_step (by repeat (first | (with_reducible first | exact HB.out | apply below_alloc | apply pw_below_drewN | apply below_drew1) | exact HB.out)) hb); clear HO103; clear HO107; clear HO111; clear HO115; clear HO118; clear HO124; clear HO128; clear HO132; clear HO136; clear HB; have HO103 := n0_; have HO107 := n1_; have HO111 := n2_; have HO115 := n3_; have HO118 := n4_; have HO124 := n5_; have HO128 := n6_; have HO132 := n7_; have HO136 := n8_; have HB := n9_; clear n0_ n1_ n2_ n3_ n4_ n5_ n6_ n7_ n8_ n9_; (try clear hb); (try clear hb2); (try clear hk); (try clear hi)))
           go_ret
           exact ⟨by first | rfl | (simp [errW_none, errW_some] <;> rfl) | (simp [*, errW_none, errW_some] <;> rfl), by repeat (first | (with_reducible first | exact HB.out | apply below_alloc | apply pw_below_drewN | apply below_drew1) | exact HB.out)⟩
          ·rw [if_neg c19] at H
           exact absurd H (by simp)
         ·rw [if_neg c18] at H
          exact absurd H (by simp)
        ·replace c17 := Bool.eq_false_iff.mpr c17
         subst c17
         have H1 : (none) = some r := by rw [if_neg (show ¬ (false = true) by decide)] at H; exact H
         clear H
         have H := H1
         clear H1
         exact absurd H (by simp)
       ·rw [if_neg c15] at H
        exact absurd H (by simp)
      ·replace c14 := Bool.eq_false_iff.mpr c14
       subst c14
       have H1 : (none) = some r := by rw [if_neg (show ¬ (false = true) by decide)] at H; exact H
       clear H
       have H := H1
       clear H1
       exact absurd H (by simp)
     ·rw [if_neg c12] at H
      exact absurd H (by simp)
    ·replace c11 := Bool.eq_false_iff.mpr c11
     subst c11
     have H1 : (none) = some r := by rw [if_neg (show ¬ (false = true) by decide)] at H; exact H
     clear H
     have H := H1
     clear H1
     exact absurd H (by simp)
   ·rw [if_neg c9] at H
    exact absurd H (by simp)
  ·replace c8 := Bool.eq_false_iff.mpr c8
   subst c8
   have H1 : (none) = some r := by rw [if_neg (show ¬ (false = true) by decide)] at H; exact H
   clear H
   have H := H1
   clear H1
   exact absurd H (by simp)
 ·rw [if_neg c6] at H
  exact absurd H (by simp)

end Go.Proofs.Ytadognlkefhoiaa.M
end
section
/- The amounts of a schedule: none is negative, they add up; the book value after some periods. -/
namespace Go.Proofs.Ytadognlkefhoiaa.M
open Go.RowKit Go.Proofs.YtadognlkefhoiaaW.PrintWords Go.Proofs.YtadognlkefhoiaaW.PrintLast Go.Proofs.YtadognlkefhoiaaW.PrintMore Dv
set_option linter.unusedVariables false
set_option linter.unusedSimpArgs false
theorem accountinglaw30_lives.true : Ev (fun k => accountinglaw30_lives.f k) true :=
  Ev.mono ⟨60, by decide +kernel⟩ accountinglaw30_lives.mono
/-- Two neighbours' difference: the quotient, or one more. -/
theorem evr_step {a k n : Int} (ha : 0 ≤ a) (hn : 0 < n) : a / n ≤ evr a (k + 1) n - evr a k n ∧ evr a (k + 1) n - evr a k n ≤ a / n + 1 ∧ (a % n = 0 → evr a (k + 1) n - evr a k n = a / n) := by
  have h1 := evr_near (a := a) (k := k + 1) hn
  have h2 := evr_near (a := a) (k := k) hn
  have hq := Int.emod_add_mul_ediv a n
  have r0 := Int.emod_nonneg a (show n ≠ 0 by omega)
  have r1 := Int.emod_lt_of_pos a hn
  have e1 : a * (k + 1) = a * k + a := by rw [Int.mul_add, Int.mul_one]
  have e2 : n * (evr a (k + 1) n - evr a k n) = n * evr a (k + 1) n - n * evr a k n := Int.mul_sub _ _ _
  have z : ∀ x, a % n = 0 → evr a x n = a / n * x := by
    intro x h0
    have e : a * x = a / n * x * n := by
      have : a = n * (a / n) := by omega
      calc a * x = n * (a / n) * x := by rw [← this]
        _ = a / n * x * n := by rw [Int.mul_assoc, Int.mul_comm]
    unfold evr
    rw [e, Int.mul_ediv_cancel _ (show n ≠ 0 by omega), Int.mul_emod_left, if_neg (by omega)]
    omega
  by_cases h0 : a % n = 0
  · have := z (k + 1) h0
    have := z k h0
    have e3 : a / n * (k + 1) = a / n * k + a / n := by rw [Int.mul_add, Int.mul_one]
    omega
  · generalize hd : evr a (k + 1) n - evr a k n = d at *
    generalize hQ : a / n = q at *
    refine ⟨?_, ?_, fun h => absurd h h0⟩
    · apply Int.le_of_not_gt
      intro h
      have := Int.mul_le_mul_of_nonneg_left (show d ≤ q - 1 by omega) (show 0 ≤ n by omega)
      rw [Int.mul_sub, Int.mul_one] at this
      omega
    · apply Int.le_of_not_gt
      intro h
      have := Int.mul_le_mul_of_nonneg_left (show q + 2 ≤ d by omega) (show 0 ≤ n by omega)
      rw [Int.mul_add] at this
      omega
theorem amtsS_mem {a n : Int} : ∀ (d j : Nat), ∀ x ∈ amts (valS a n) d j (), ∃ k : Int, x = evr a (k + 1) n - evr a k n
  | 0, j, x, h => by simp [amts] at h
  | d + 1, j, x, h => by
    simp only [amts, List.mem_cons] at h
    rcases h with rfl | h
    · exact ⟨j, by simp only [valS]; rw [show (j : Int) + 1 - 1 = j by omega]⟩
    · exact amtsS_mem d (j + 1) x h
theorem amtsS_sum {a n : Int} : ∀ (d j : Nat), (amts (valS a n) d j ()).sum = evr a ((j + d : Nat) : Int) n - evr a j n
  | 0, j => by simp [amts]
  | d + 1, j => by
    have ih := amtsS_sum (a := a) (n := n) d (j + 1)
    have e1 : ((j + 1 + d : Nat) : Int) = ((j + (d + 1) : Nat) : Int) := by omega
    have e2 : ((j + 1 : Nat) : Int) = (j : Int) + 1 := by omega
    have e3 : (j : Int) + 1 - 1 = j := by omega
    rw [e1, e2] at ih
    have u : (valS a n () ((j : Int) + 1)).2 = () := rfl
    simp only [amts, List.sum_cons, u, ih, valS, e3]
    omega
theorem amtsD {s n N D : Int} (hs : 0 ≤ s) (hN : 0 ≤ N) (hD : 0 < D) : ∀ (d j : Nat) (b : Int), (j : Int) + d = n → s ≤ b → (∀ x ∈ amts (valD s n N D) d j b, 0 ≤ x) ∧ (0 < d → (amts (valD s n N D) d j b).sum = b - s)
  | 0, j, b, hj, hb => ⟨fun x h => by simp [amts] at h, fun h => absurd h (by omega)⟩
  | d + 1, j, b, hj, hb => by
    have vb := valD_bounds (s := s) (n := n) (N := N) (D := D) (b := b) (x := (j : Int) + 1) hb (by omega) hN hD
    have e7 : (valD s n N D b ((j : Int) + 1)).2 = b - (valD s n N D b ((j : Int) + 1)).1 := rfl
    have ih := amtsD (s := s) (n := n) (N := N) (D := D) hs hN hD d (j + 1) (b - (valD s n N D b ((j : Int) + 1)).1) (by omega) (by omega)
    refine ⟨fun x h => ?_, fun _ => ?_⟩
    · simp only [amts, List.mem_cons, e7] at h
      rcases h with rfl | h
      · exact vb.1
      · exact ih.1 x h
    · simp only [amts, List.sum_cons, e7]
      cases d with
      | zero =>
        have g : ¬ n - ((j : Int) + 1) + 1 > 1 := by omega
        simp only [amts, List.sum_nil, valD, if_neg g]
        omega
      | succ d =>
        have := ih.2 (by omega)
        omega
theorem amtv_length {m c s n N D : Int} {l : List Int} (K : Okp m c s n N D l) : ((amtv m c s n N D l).length : Int) = n := by
  obtain ⟨h1, h2, h3, h4, h5, h6⟩ := K
  unfold amtv
  by_cases m1 : m = 1
  · rw [if_pos m1, amts_length]; omega
  · rw [if_neg m1]
    by_cases m2 : m = 2
    · rw [if_pos m2, amts_length]; omega
    · rw [if_neg m2]
      by_cases m3 : m = 3
      · rw [if_pos m3, shr_length, dg_length]; omega
      · rw [if_neg m3, shr_length]
        exact (usedv_fit h4.2 (h6 (by omega))).1
theorem shr_nonneg {a : Int} {l : List Int} (ha : 0 ≤ a) (h : shErr a l = 0) : ∀ x ∈ shr a l, 0 ≤ x := by
  have F := shErr_le h
  unfold shr
  rw [if_neg (show ¬ a < 0 by omega)] at F ⊢
  exact fun x hx => (pos_bounds F x hx).1
theorem amtv_sums {m c s n N D : Int} {l : List Int} (K : Okp m c s n N D l) : (∀ x ∈ amtv m c s n N D l, 0 ≤ x) ∧ (amtv m c s n N D l).sum = c - s := by
  obtain ⟨h1, h2, h3, h4, h5, h6⟩ := K
  unfold amtv
  by_cases m1 : m = 1
  · rw [if_pos m1]
    refine ⟨fun x hx => ?_, ?_⟩
    · obtain ⟨k, rfl⟩ := amtsS_mem _ _ x hx
      have := (evr_step (a := c - s) (k := k) (n := n) (by omega) (by omega)).1
      have q0 : 0 ≤ (c - s) / n := Int.ediv_nonneg (by omega) (by omega)
      omega
    · rw [amtsS_sum]
      have e : ((0 + n.toNat : Nat) : Int) = n := by omega
      rw [e, evr_full (by omega)]
      have := evr_zero (c - s) n (by omega)
      simp only [Int.natCast_zero] at *
      omega
  · rw [if_neg m1]
    by_cases m2 : m = 2
    · rw [if_pos m2]
      have F := h5 m2
      have hB := rightv_bounds F.1
      have := amtsD (s := s) (n := n) (N := N) (D := D) h3.1 (by omega) (by omega) n.toNat 0 c (by omega) h3.2
      exact ⟨this.1, this.2 (by omega)⟩
    · rw [if_neg m2]
      by_cases m3 : m = 3
      · rw [if_pos m3]
        have z := sh_dg h3.1 h3.2 h2.2 h4.1 h4.2
        exact ⟨shr_nonneg (by omega) z, shr_sum z⟩
      · rw [if_neg m3]
        have z := sh_used h3.1 h3.2 h2.2 h4.2 (h6 (by omega))
        exact ⟨shr_nonneg (by omega) z, shr_sum z⟩
theorem amtv_le {m c s n N D : Int} {l : List Int} (K : Okp m c s n N D l) : ∀ x ∈ amtv m c s n N D l, 0 ≤ x ∧ x ≤ 1000000000000 := by
  intro x hx
  have h := amtv_sums K
  have := le_sum h.1 x hx
  have := K.c1
  have := K.s1
  exact ⟨h.1 x hx, by omega⟩
/-- The book value after some periods. -/
noncomputable def aftv (m c s n N D : Int) (l : List Int) (i : Int) : Int × Int :=
  if chkv m c s n N D l = 0 then (if i < 0 ∨ i > n then (0, 3) else (c - ((amtv m c s n N D l).take i.toNat).sum, 0)) else (0, chkv m c s n N D l)
theorem deprec_After.go : ∀ (B A : List Int) (b n i : Int), i = (A.length : Int) → n = ((A ++ B).length : Int) → n ≤ 1000 → (∀ x ∈ B, 0 ≤ x ∧ x ≤ 1000000000000) → b ≤ 1000000000000 → -1000000000000 * i ≤ b → Ev (fun k => deprec_After.l0 k b (A ++ B) n i) (b - B.sum, 0)
  | [], A, b, n, i, hi, hn, hs, hB, h0, h1 => by
    refine Ev.succ ?_
    have g : ¬ i < n := by simp at hn; omega
    simp only [deprec_After.l0, if_neg g]
    simpa using Ev.const (b, (0 : Int))
  | y :: B, A, b, n, i, hi, hn, hs, hB, h0, h1 => by
    have hn' : n = (A.length : Int) + (B.length : Int) + 1 := by rw [hn]; simp; omega
    have g0 : i < n := by omega
    have g1 : 0 ≤ i := by omega
    have g2 : i < ((A ++ y :: B).length : Int) := by omega
    have r := rd_at A y B i hi
    have hy := hB y (by simp)
    have e : wrap64 (i + 1) = i + 1 := w64 (by omega) (by omega)
    have e2 : wrap64 (b - y) = b - y := w64 (by omega) (by omega)
    refine Ev.succ ?_
    simp only [deprec_After.l0, if_pos g0, if_pos g1, if_pos g2, r, e, e2]
    have ih := deprec_After.go B (A ++ [y]) (b - y) n (i + 1) (by simp; omega) (by simpa using hn) hs (fun z hz => hB z (by simp [hz])) (by omega) (by omega)
    rw [List.sum_cons, show b - (y + B.sum) = b - y - B.sum by omega]
    simpa using ih
theorem deprec_After.eq {m c s n N D i : Int} {l : List Int} (hN : inI N) (hD : inI D) (hl : l.length < 1000000) : Ev (fun k => deprec_After.f k m c s n N D l i) (aftv m c s n N D l i) := by
  unfold deprec_After.f aftv
  refine Ev.bind (deprec_Schedule.eq hN hD hl) ?_
  unfold schv
  by_cases h : chkv m c s n N D l = 0
  · have K := chkv_ok h
    have hn := K.n1
    have hc := K.c1
    have hlen := amtv_length K
    simp only [if_pos h, if_true]
    have J : ∀ b, b = decide (i < 0 ∨ i > n) → Ev (fun k => deprec_After.j0 k i (amtv m c s n N D l) b m c s n N D l) (if i < 0 ∨ i > n then (0, 3) else (c - ((amtv m c s n N D l).take i.toNat).sum, 0)) := by
      intro b hb
      subst hb
      refine Ev.succ ?_
      by_cases g : i < 0 ∨ i > n
      · simp only [deprec_After.j0, decide_eq_true g, if_true, if_pos g]
        exact Ev.const _
      · have g1 : 0 ≤ i := by omega
        have g2 : i ≤ ((amtv m c s n N D l).length : Int) := by omega
        simp only [deprec_After.j0, decide_eq_false g, Bool.false_eq_true, if_false, if_neg g, if_pos g1, if_pos g2, Option.bind_some]
        have := deprec_After.go ((amtv m c s n N D l).take i.toNat) [] c _ 0 rfl rfl (by simp; omega) (fun x hx => amtv_le K x (List.mem_of_mem_take hx)) (by omega) (by omega)
        simpa using this
    by_cases g : i < 0
    · simp only [if_pos g]; exact J _ (by simp [g])
    · simp only [if_neg g]; exact J _ (by simp [g])
  · simp only [if_neg h]
    exact Ev.const _
/-- What is known of a plan that came in. -/
theorem plan_in {x : S26} (h : G26 x) : inI x.f4.f0 ∧ inI x.f4.f1 ∧ (x.f5.length * 8 ≤ 140737488351232) :=
  ⟨wfb h.2.2.2.2.1.1, wfb h.2.2.2.2.1.2, h.2.2.2.2.2.1⟩
end Go.Proofs.Ytadognlkefhoiaa.M
end
