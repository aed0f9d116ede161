/- The law of the products, walked and shown. Part 3 of 3 of what is the claim's own. -/
import Derived.Test.YtoppdlideonjjaaQIv2
import Derived.Test.YtoppdlideonjjaaQBB4
import Derived.Test.YtoppdlideonjjaaQBB7
import Derived.Test.YtoppdlideonjjaaRows
import Derived.WalkKit
import Derived.ProofKit
import Derived.OpenShut
import Derived.ShutString
import Derived.ChangeOld
import Derived.Below
import Derived.SizedLaws
section
namespace Go.Proofs.Ytoppdlideonjjaa.M
open Go.RowKit Go.Proofs.YtoppdlideonjjaaW.PrintWords Go.Proofs.YtoppdlideonjjaaW.PrintLast Go.Proofs.YtoppdlideonjjaaW.PrintMore
attribute [local go_sem] max2_int min2_int max_two min_two max_three min_three max_four min_four
set_option linter.unusedVariables false
set_option linter.unusedSimpArgs false
/-- THE ONE PURE STATEMENT of accountinglaw32_ItemsInverse. -/
def accountinglaw32_ItemsInverse.Pure : Prop := ∀ (x0 : S24) (x1 : Int) (x2 : Int), (G24 x0) → ((Lit.int .i64 x1).wf = true) → ((Lit.int .i64 x2).wf = true) → ∃ k, accountinglaw32_ItemsInverse.f k x0.f0 x0.f1 x0.f2 x0.f3 x0.f4 x1 x2 = some true
end Go.Proofs.Ytoppdlideonjjaa.M
end
section
/- The quantity that From returns times the unit's factor is the number of base units. -/
namespace Go.Proofs.Ytoppdlideonjjaa.M
open Go.RowKit Go.Proofs.YtoppdlideonjjaaW.PrintWords Go.Proofs.YtoppdlideonjjaaW.PrintLast Dv
set_option linter.unusedVariables false
set_option linter.unusedSimpArgs false
theorem mul_ev {a b c d : Int} (ha : inI a) (hb : inI b) (hc : inI c) (hd : inI d) (h1 : rightv a b = true) (h2 : rightv c d = true) : Ev (fun k => frac_Mul.f k a b c d) (makev (wrap64 (a * c)) (wrap64 (b * d))) := by
  unfold frac_Mul.f
  refine Ev.bind (a := makev (wrap64 (a * c)) (wrap64 (b * d))) ?_ (Ev.const _)
  unfold frac_join__frac_Mul_1.f
  refine Ev.bind (frac_Right.eq ha hb) ?_; simp only [h1, if_true]; refine Ev.bind (frac_Right.eq hc hd) ?_; simp only [h2, Bool.not_true]; refine Ev.succ ?_; simp only [frac_join__frac_Mul_1.j0, Bool.false_eq_true, if_false, frac_Mul_1.f, Option.bind_some]; exact Ev.bind (frac_Make.eq (inI_wrap _) (inI_wrap _)) (Ev.const _)
theorem find_self {p : Pd} (hp : GoodP p) : ∀ (l : List Uu), l.Pairwise (fun u v => u.f0.toList ≠ v.f0.toList) → ∀ u ∈ l, findU l u.f0 = some u
  | [], h, u, hu => by simp at hu
  | v :: r, h, u, hu => by
    obtain ⟨h1, h2⟩ := List.pairwise_cons.1 h
    unfold findU
    rw [List.find?_cons]
    rcases List.mem_cons.1 hu with rfl | hu
    · rw [beq_self_eq_true]
    · rw [beq_eq_false_iff_ne.mpr (h1 u hu)]; exact find_self hp r h2 u hu
theorem makev_err {n d : Int} (h : (makev n d).2.2 ≠ 0) : (makev n d).1 = 0 ∧ (makev n d).2.1 = 0 := by
  unfold makev at h ⊢
  split
  · exact ⟨rfl, rfl⟩
  · rename_i c
    rw [if_neg c] at h
    split
    · exact ⟨rfl, rfl⟩
    · rename_i d
      rw [if_neg d] at h; exact absurd rfl h
theorem fromv_err {p : Pd} {n : Int} {s : ByteArray} (h : (fromv p n s).2.2 ≠ 0) : (fromv p n s).1 = 0 ∧ (fromv p n s).2.1 = 0 := by
  unfold fromv at h ⊢
  split
  · rename_i c
    rw [if_pos c] at h; exact makev_err h
  · exact ⟨rfl, rfl⟩
theorem inverse_eq {p : Pd} {n : Int} {u : Uu} (hu : u ∈ p.f4) (h : (fromv p n u.f0).2.2 = 0) : rightv (fromv p n u.f0).1 (fromv p n u.f0).2.1 = true ∧ rightv u.f1.f0 u.f1.f1 = true ∧ makev (wrap64 ((fromv p n u.f0).1 * u.f1.f0)) (wrap64 ((fromv p n u.f0).2.1 * u.f1.f1)) = makev n 1 := by
  unfold fromv at h ⊢
  by_cases c : (convv p n u.f0).2.2 = 0
  · have hb := convv_ok c; have hp := chkv_zero hb.1; have hx := hp.us u hu
    have hf : facv p u.f0 = some (u.f1.f0, u.f1.f1) := by
      unfold facv
      rw [if_neg (fun e => e.elim (codev_ne hx.1) hx.2.1), find_self hp p.f4 hp.pw u hu]
      rfl
    have hq := hb.2.1; rw [hf] at hq; simp only [Option.some.injEq, Prod.mk.injEq] at hq; rw [if_pos c] at h ⊢; rw [← hq.1, ← hq.2] at h hb ⊢
    have hw : wrap64 (n * u.f1.f1) = n * u.f1.f1 := by
      have h4 : ab (n * u.f1.f1) ≤ 1000000000 * 1000000 := by
        rw [ab_mul_pos n _ (by omega)]; exact Int.mul_le_mul (by unfold ab; split <;> omega) (by omega) (by omega) (by omega)
      unfold ab at h4
      exact w64 (by split at h4 <;> omega) (by split at h4 <;> omega)
    rw [hw] at h ⊢; obtain ⟨x, y, e, hm⟩ : ∃ x y e, makev (n * u.f1.f1) u.f1.f0 = (x, y, e) := ⟨_, _, _, rfl⟩; rw [hm] at h ⊢
    dsimp only at h ⊢
    subst h; obtain ⟨m1, m2, m3, m4, m5⟩ := mk_red (by omega) hm
    have w1 : wrap64 (x * u.f1.f0) = x * u.f1.f0 := by
      have h4 : ab (x * u.f1.f0) ≤ 1000000 * 1000000 := by
        rw [ab_mul_pos x _ (by omega)]; exact Int.mul_le_mul (by omega) (by omega) (by omega) (by omega)
      unfold ab at h4
      exact w64 (by split at h4 <;> omega) (by split at h4 <;> omega)
    have w2 : wrap64 (y * u.f1.f1) = y * u.f1.f1 := by
      have h4 : y * u.f1.f1 ≤ 1000000 * 1000000 := Int.mul_le_mul (by omega) (by omega) (by omega) (by omega); have h5 : 0 ≤ y * u.f1.f1 := Int.mul_nonneg (by omega) (by omega); exact w64 (by omega) (by omega)
    refine ⟨m5, hx.2.2.1, ?_⟩; rw [w1, w2, m1, show n * u.f1.f1 * y = n * (y * u.f1.f1) by rw [Int.mul_assoc, Int.mul_comm u.f1.f1 y], mk_scale n _ (Int.mul_pos (by omega) (by omega))]; have := mk_scale n 1 (by decide); rw [Int.mul_one] at this; rw [this]
  · rw [if_neg c] at h; exact absurd h c
theorem pure_ItemsInverse : accountinglaw32_ItemsInverse.Pure := by
  intro p n i hp hn hi; have f := fine_of hp; have hnI := inI_wf hn; refine Ev.out (g := fun k => accountinglaw32_ItemsInverse.f k p.f0 p.f1 p.f2 p.f3 p.f4 n i) ?_
  unfold accountinglaw32_ItemsInverse.f
  have ht : Ev (fun k => accountinglaw32_ItemsInverse.j0 k n i true p.f0 p.f1 p.f2 p.f3 p.f4) true := Ev.succ (by simp only [accountinglaw32_ItemsInverse.j0, if_true]; exact lives_ev); obtain ⟨lg, hlg, _⟩ := large_ev p f.s0 f.s1; refine Ev.bind hlg ?_
  cases lg with
  | true => simp only [if_true]; exact ht
  | false =>
    simp only [Bool.false_eq_true, if_false]
    by_cases c1 : i < 0
    · simp only [if_pos c1]; exact ht
    simp only [if_neg c1]
    by_cases c2 : i ≥ (p.f4.length : Int)
    · simp only [decide_eq_true c2]; exact ht
    simp only [decide_eq_false c2]; refine Ev.succ ?_; simp only [accountinglaw32_ItemsInverse.j0, Bool.false_eq_true, if_false, if_pos (show 0 ≤ i by omega), if_pos (show i < (p.f4.length : Int) by omega)]; obtain ⟨j, rfl⟩ := Int.eq_ofNat_of_zero_le (show 0 ≤ i by omega); have hj : j < p.f4.length := by omega
    simp only [show rd_T61 p.f4 (j : Int) = p.f4[j] from rdU_at p.f4 j hj]; have hu := List.getElem_mem hj; refine Ev.bind (items_From.eq p f.len f.gs n _) ?_
    by_cases c : (fromv p n p.f4[j].f0).2.2 = 0
    · simp only [if_pos c]; obtain ⟨r1, r2, r3⟩ := inverse_eq hu c; have b1 := rightv_bounds r1; have b2 := rightv_bounds r2; refine Ev.bind (mul_ev (by unfold inI; omega) (by unfold inI; omega) (by unfold inI; omega) (by unfold inI; omega) r1 r2) (Ev.bind (frac_Make.eq hnI (by unfold inI; omega)) ?_); rw [r3]; simp only [if_true, beq_self_eq_true, Bool.and_self]; exact lives_ev
    · simp only [if_neg c]; obtain ⟨e1, e2⟩ := fromv_err c; simp only [e1, e2, beq_self_eq_true, Bool.and_self, if_true]; exact lives_ev
end Go.Proofs.Ytoppdlideonjjaa.M
namespace Go.Proofs.Ytoppdlideonjjaa.Pure
theorem ItemsInverse : M.accountinglaw32_ItemsInverse.Pure := M.pure_ItemsInverse
end Go.Proofs.Ytoppdlideonjjaa.Pure
end
section
namespace Go.Proofs.Ytoppdlideonjjaa.itemsInverse
open Go.ChangeShapes Go.WideShapes Go.ChangeAt Go.RowKit Go.Proofs.Ytoppdlideonjjaa.M Go.Proofs.YtoppdlideonjjaaW.PrintWords Go.Proofs.YtoppdlideonjjaaW.PrintLast
open Go.ChangeMaps (open_string shut_string)
set_option linter.unusedVariables false
theorem own : ownKnob Try.prog.godebug = none := by kernel_rfl
theorem laidOut : laidOutB Try.prog = true := by kernel_rfl
set_option maxRecDepth 100000 in
set_option maxHeartbeats 4000000 in
theorem lifted (os : Os) (started : os.Started) (H : Type) (enc : TypeId × Value → H) :
    ReturnsInHanded {} Try.checked os 11 .any (Rows.itemsInverseSpec.pre6 enc Try.prog Try.f11 Rows.itemsInverseRow.domain false) (Rows.itemsInverseSpec.post enc Try.prog Try.f11 false true false false) := by
  refine returnsInHanded_of_change_sized (C := Try.checked) own started (by kernel_rfl) Try.func11
    (ChangeSpec.witness6 (enc := enc) (C := Try.checked) false ⟨#[], #[.agg #[.string ByteArray.empty, .string ByteArray.empty, .int .i64 0, .int .i64 0, .slice none 0 0], .int .i64 0, .int .i64 0], []⟩ 8 (by kernel_rfl) (by kernel_rfl) (by kernel_rfl) (by kernel_rfl)) ?_
  intro W base args ds gs before hval0 hW hcnd hsz0 _; have hsz : (DataW.weightsEach Try.prog (Try.f11.params.toList ++ Rows.itemsInverseSpec.plain.varTypes Try.prog) (ds ++ gs)).all (· ≤ reachBytes) = true := hsz0; have hval : ∀ (j : Nat) t v, Try.f11.params[j]? = some t → args[j]? = some v → Value.okWide Try.prog W .any base t v := hval0; have hW' := hW; obtain ⟨p, q, hA0, hV, rfl, hfz, hnd⟩ := hW; have hA : DataW.TrodAll enc Try.prog W 0 (fun _ => true) true Try.f11.params.toList args.toList ds p := hA0; rw [Try.params11] at hA hval hsz; obtain ⟨v0, vs0, d0, ds0, p0, q0, hargs, rfl, rfl, h0, r0⟩ := trodAll_cons hA; obtain ⟨v1, vs1, d1, ds1, p1, q1, rfl, rfl, rfl, h1, r1⟩ := trodAll_cons r0; obtain ⟨v2, vs2, d2, ds2, p2, q2, rfl, rfl, rfl, h2, r2⟩ := trodAll_cons r1; obtain ⟨rfl, rfl, rfl⟩ := trodAll_nil r2; obtain rfl : args = #[v0, v1, v2] := by cases args; simp_all
  obtain ⟨rfl, rfl⟩ := trodVars_none hV; obtain ⟨cs0, rfl⟩ : ∃ cs, v0 = .agg cs := by have z := (hval 0 24 v0 rfl rfl); simp only [Value.okWide, Try.underlying24] at z; obtain ⟨cs, e, _⟩ := z; exact ⟨cs, e⟩
  have k0 := h0; have lt0 : ∀ x ∈ p0, x.block < W.heap.size := by obtain ⟨m, hm⟩ := k0; exact DataW.trod_lt m _ _ _ hm
  obtain ⟨x0, K0, g0⟩ : ∃ x_ : S24, k24.K W x_ cs0.toList ∧ (G24 x_) := by obtain ⟨f, hf⟩ := h0; exact (opens24).get enc W 0 _ _ f _ _ hf (weights_at hsz (j := 0) (t := 24) rfl rfl)
  obtain ⟨A0_4, c0_4, e0, L0_4, C0_4⟩ := k24_open K0; obtain rfl : cs0 = #[.string x0.f0, .string x0.f1, .int .i64 x0.f2, .int .i64 x0.f3, .slice A0_4 x0.f4.length c0_4] := by rw [← Array.toList_inj]; exact e0
  obtain ⟨x1, rfl, rfl, rfl, g1⟩ := open_int Try.underlying3 (hval 1 3 v1 rfl rfl) h1; obtain ⟨x2, rfl, rfl, rfl, g2⟩ := open_int Try.underlying3 (hval 2 3 v2 rfl rfl) h2; clear hA0 hval0 hsz0 hsz; obtain ⟨k, h⟩ := Pure.ItemsInverse x0 x1 x2 g0 g1 g2; refine (M.accountinglaw32_ItemsInverse.calls (k := k) (r := true) (w := W) (hr0_4 := C0_4) (hc0_4 := L0_4) (h := h)).mono fun e W' ⟨he, bel0⟩ => ?_; have bel : Below W.heap.size W W' := by first | exact bel0 | exact bel0.below | (obtain ⟨nd, rfl⟩ := bel0; exact pw_below_drewN (Below.refl _ _) nd)
  subst he; exact ⟨_, rfl, _, _, _, [], _, [], hW', trodAll_mk1 (shut_bool Try.underlying4 _), (trodAll_cons_mk (Below.trod laidOut (by kernel_rfl) (of_decide_eq_true (by kernel_rfl)) k0 bel lt0) (trodAll_cons_mk (shut_int Try.underlying3 g1) (trodAll_cons_mk (shut_int Try.underlying3 g2) trodAll_mk0))), rfl, bel.frame _, fun h => by cases h⟩
theorem over : Rows.itemsInverseRow.holds Try.pinned (OpenSpec.ofChange Rows.itemsInverseSpec) :=
  OpenClaim.holds_of_wide 11 Try.f11 rfl rfl rfl rfl rfl rfl rfl ⟨rfl, rfl, rfl, rfl, rfl⟩ rfl rfl rfl rfl rfl (by kernel_rfl) Try.func11 (by kernel_rfl)
    (of_decide_eq_true (by kernel_rfl)) (by unfold Func.isWrapper; first | (rw [if_pos (by decide +kernel)]; kernel_rfl) | (rw [if_neg (by decide +kernel)]; exact ⟨rfl, rfl⟩))
    (fun os started H enc _ => lifted os started H enc)
theorem proved : Rows.ItemsInverseSaid := over
#print axioms proved
end Go.Proofs.Ytoppdlideonjjaa.itemsInverse
namespace Go.Proofs.Ytoppdlideonjjaa
/-- The row, under a short name, for the claim. -/
theorem itemsInverse_holds : Rows.ItemsInverseSaid := itemsInverse.proved
end Go.Proofs.Ytoppdlideonjjaa
end
