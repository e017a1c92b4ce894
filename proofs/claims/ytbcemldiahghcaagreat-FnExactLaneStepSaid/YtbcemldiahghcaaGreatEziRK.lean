/- FnExactLaneStep: whatever the input, true. -/
import Derived.Test.YtbcemldiahghcaaGreatK36
import Derived.Test.YtbcemldiahghcaaGreatK38
import Derived.Test.YtbcemldiahghcaaGreatK37
set_option linter.unusedVariables false
set_option linter.unusedSimpArgs false
namespace Go.Proofs.YtbcemldiahghcaaGreat
open Go.ChangeShapes Go.WideShapes Go.ChangeAt Go.RowKit
set_option maxHeartbeats 1600000 in
set_option maxRecDepth 100000 in
theorem FnExactLaneStep_lifted (os : Os) (started : os.Started) (H : Type) (enc : TypeId × Value → H) :
    ReturnsInHanded {} Tryz.checked os 4 .any (Rows.fnExactLaneStepSpec.pre6 enc Tryz.prog Tryz.f4 Rows.fnExactLaneStepRow.domain false) (Rows.fnExactLaneStepSpec.post enc Tryz.prog Tryz.f4 false true false false) := by
  refine returnsInHanded_of_change (C := Tryz.checked) own_k started (by kernel_rfl) Tryz.func4
    (ChangeSpec.witness6 (enc := enc) (C := Tryz.checked) false ⟨#[], #[.agg #[.slice none 0 0], .agg #[.int .i64 0, .int .i64 0, .int .i64 0, .int .i64 0, .slice none 0 0], .slice none 0 0], []⟩ 8 (by kernel_rfl) (by kernel_rfl) (by kernel_rfl) (by kernel_rfl)) ?_
  intro W base args ds gs before hval0 hW _ _
  have hval : ∀ (j : Nat) t v, Tryz.f4.params[j]? = some t → args[j]? = some v → Value.okWide Tryz.prog W .any base t v := hval0
  have hW' := hW
  obtain ⟨p, q, hA0, hV, rfl, _, _⟩ := hW
  have hA : DataW.TrodAll enc Tryz.prog W 0 (fun _ => true) true Tryz.f4.params.toList args.toList ds p := hA0
  rw [Tryz.params4] at hA hval
  obtain ⟨v0, v1, v2, d0, d1, d2, p0, p1, p2, rfl, rfl, rfl, h0, h1, h2⟩ := trodAll_three hA
  obtain ⟨rfl, rfl⟩ := trodVars_none hV
  obtain ⟨cs0, rfl, -⟩ := okWide_struct Tryz.underlying39 (hval 0 39 v0 rfl rfl)
  obtain ⟨cs1, rfl, -⟩ := okWide_struct Tryz.underlying44 (hval 1 44 v1 rfl rfl)
  obtain ⟨a2, len2, cap2, rfl⟩ := okWide_slice Tryz.underlying45 (hval 2 45 v2 rfl rfl)
  clear hA0 hval0
  simp only [List.append_nil, List.append_assoc] at hW'
  have hlt : ∀ x ∈ p0 ++ (p1 ++ p2), x.block < W.heap.size := fun x hx => hW'.lt x (by simpa using hx)
  obtain ⟨fu0, t0⟩ := id h0
  obtain ⟨a, va, e0, ha⟩ := open_app _ _ _ t0
  obtain rfl : cs0 = #[va] := by simpa [Value.cells, ← Array.toList_inj] using e0
  obtain ⟨fu1, t1⟩ := id h1
  obtain ⟨l, vl, e1, hl⟩ := open_lane _ _ _ t1
  obtain rfl : cs1 = #[.int .i64 l.proc, .int .i64 l.base.x, .int .i64 l.base.y, .int .i64 l.base.c, vl] := by simpa [Value.cells, ← Array.toList_inj] using e1
  obtain ⟨fu2, t2⟩ := id h2
  obtain ⟨A, c, came, e2, hcm⟩ := open_evs t2
  obtain ⟨rfl, rfl, rfl⟩ : a2 = A ∧ len2 = came.length ∧ cap2 = c := by simpa [Value.cells] using e2
  refine (FnExactLaneStep_any a va l vl came _ W ha hl hcm).mono fun e9 W' ⟨he9, hnx⟩ => ?_
  subst he9
  have harg0 := Below.trod laidOut_k (by kernel_rfl) (of_decide_eq_true (by kernel_rfl)) h0 hnx (fun x hx => hlt x (by simp [hx]))
  have harg1 := Below.trod laidOut_k (by kernel_rfl) (of_decide_eq_true (by kernel_rfl)) h1 hnx (fun x hx => hlt x (by simp [hx]))
  have harg2 := Below.trod laidOut_k (by kernel_rfl) (of_decide_eq_true (by kernel_rfl)) h2 hnx (fun x hx => hlt x (by simp [hx]))
  refine ⟨.bool true, rfl, _, _, _, [], p0 ++ (p1 ++ p2), [], hW', ?_, trodAll_mk3 harg0 harg1 harg2, rfl, hnx.frame _, fun h => by cases h⟩
  exact trodAll_mk1 (shut_bool Tryz.underlying4 _)
theorem fnExactLaneStep_holds : Rows.FnExactLaneStepSaid :=
  OpenClaim.holds_of_wide 4 Tryz.f4 rfl rfl rfl rfl rfl rfl rfl ⟨rfl, rfl, rfl, rfl, rfl⟩ rfl rfl rfl rfl rfl (by kernel_rfl) Tryz.func4 (by kernel_rfl)
    (of_decide_eq_true (by kernel_rfl)) (by unfold Func.isWrapper; first | (rw [if_pos (by decide +kernel)]; kernel_rfl) | (rw [if_neg (by decide +kernel)]; exact ⟨rfl, rfl⟩))
    (fun os started H enc _ => FnExactLaneStep_lifted os started H enc)
#print axioms fnExactLaneStep_holds
end Go.Proofs.YtbcemldiahghcaaGreat
