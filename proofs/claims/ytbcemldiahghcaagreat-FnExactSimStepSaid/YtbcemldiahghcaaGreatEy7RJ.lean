/- FnExactSimStep: whatever the input, true. -/
import Derived.Test.YtbcemldiahghcaaGreatJ34
import Derived.Test.YtbcemldiahghcaaGreatJ33
import Derived.Test.YtbcemldiahghcaaGreatJ32
set_option linter.unusedVariables false
set_option linter.unusedSimpArgs false
namespace Go.Proofs.YtbcemldiahghcaaGreat
open Go.ChangeShapes Go.WideShapes Go.ChangeAt Go.RowKit
set_option maxHeartbeats 1600000 in
set_option maxRecDepth 100000 in
theorem FnExactSimStep_lifted (os : Os) (started : os.Started) (H : Type) (enc : TypeId × Value → H) :
    ReturnsInHanded {} Tryz.checked os 5 .any (Rows.fnExactSimStepSpec.pre6 enc Tryz.prog Tryz.f5 Rows.fnExactSimStepRow.domain false) (Rows.fnExactSimStepSpec.post enc Tryz.prog Tryz.f5 false true false false) := by
  refine returnsInHanded_of_change (C := Tryz.checked) own_k started (by kernel_rfl) Tryz.func5
    (ChangeSpec.witness6 (enc := enc) (C := Tryz.checked) false ⟨#[], #[.slice none 0 0, .agg #[.slice none 0 0, .slice none 0 0, .slice none 0 0]], []⟩ 8 (by kernel_rfl) (by kernel_rfl) (by kernel_rfl) (by kernel_rfl)) ?_
  intro W base args ds gs before hval0 hW _ _
  have hval : ∀ (j : Nat) t v, Tryz.f5.params[j]? = some t → args[j]? = some v → Value.okWide Tryz.prog W .any base t v := hval0
  have hW' := hW
  obtain ⟨p, q, hA0, hV, rfl, _, _⟩ := hW
  have hA : DataW.TrodAll enc Tryz.prog W 0 (fun _ => true) true Tryz.f5.params.toList args.toList ds p := hA0
  rw [Tryz.params5] at hA hval
  obtain ⟨v0, v1, d0, d1, p0, p1, rfl, rfl, rfl, h0, h1⟩ := trodAll_two hA
  obtain ⟨rfl, rfl⟩ := trodVars_none hV
  obtain ⟨a0, len0, cap0, rfl⟩ := okWide_slice Tryz.underlying22 (hval 0 22 v0 rfl rfl)
  obtain ⟨cs1, rfl, -⟩ := okWide_struct Tryz.underlying71 (hval 1 71 v1 rfl rfl)
  clear hA0 hval0
  simp only [List.append_nil, List.append_assoc] at hW'
  have hlt : ∀ x ∈ p0 ++ p1, x.block < W.heap.size := fun x hx => hW'.lt x (by simpa using hx)
  obtain ⟨fu0, t0⟩ := id h0
  obtain ⟨A, c, apps, e0, ha⟩ := open_apps t0
  obtain ⟨rfl, rfl, rfl⟩ : a0 = A ∧ len0 = apps.length ∧ cap0 = c := by simpa [Value.cells] using e0
  obtain ⟨fu1, t1⟩ := id h1
  obtain ⟨s, vs, vq, vo, e1, hs⟩ := open_sim _ _ _ t1
  obtain rfl : cs1 = #[vs, vq, vo] := by simpa [Value.cells, ← Array.toList_inj] using e1
  refine (FnExactSimStep_any _ apps vs vq vo s W ha hs).mono fun e9 W' ⟨he9, hnx⟩ => ?_
  subst he9
  have harg0 := Below.trod laidOut_k (by kernel_rfl) (of_decide_eq_true (by kernel_rfl)) h0 hnx (fun x hx => hlt x (by simp [hx]))
  have harg1 := Below.trod laidOut_k (by kernel_rfl) (of_decide_eq_true (by kernel_rfl)) h1 hnx (fun x hx => hlt x (by simp [hx]))
  refine ⟨.bool true, rfl, _, _, _, [], p0 ++ p1, [], hW', ?_, trodAll_mk2 harg0 harg1, rfl, hnx.frame _, fun h => by cases h⟩
  exact trodAll_mk1 (shut_bool Tryz.underlying4 _)
theorem fnExactSimStep_holds : Rows.FnExactSimStepSaid :=
  OpenClaim.holds_of_wide 5 Tryz.f5 rfl rfl rfl rfl rfl rfl rfl ⟨rfl, rfl, rfl, rfl, rfl⟩ rfl rfl rfl rfl rfl (by kernel_rfl) Tryz.func5 (by kernel_rfl)
    (of_decide_eq_true (by kernel_rfl)) (by unfold Func.isWrapper; first | (rw [if_pos (by decide +kernel)]; kernel_rfl) | (rw [if_neg (by decide +kernel)]; exact ⟨rfl, rfl⟩))
    (fun os started H enc _ => FnExactSimStep_lifted os started H enc)
#print axioms fnExactSimStep_holds
end Go.Proofs.YtbcemldiahghcaaGreat
