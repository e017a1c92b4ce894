/- Small tests of the reference, and whether an op is in form. -/
import Derived.Test.YtmnccekljombmaaEq
set_option linter.unusedVariables false
set_option linter.unusedSimpArgs false
namespace Go.Proofs.Ytmnccekljombmaa
open Go.RowKit
set_option maxHeartbeats 400000 in
theorem l6In_c (a l h : Int) (w : World) : Calls Try.prog 69 #[.int .i64 a, .int .i64 l, .int .i64 h] w fun e w' => e = .returned (.bool (inn a l h)) ∧ w' = w := by
  by_cases h1 : l ≤ a <;> by_cases h2 : a ≤ h
  all_goals
    go_enter Try.func69, Try.ntmps69
    go_wp2
    go_ret
    exact ⟨by simp [inn, h1, h2], rfl⟩
set_option maxHeartbeats 400000 in
theorem l1Num_c (a : Int) (w : World) : Calls Try.prog 85 #[.int .i64 a] w fun e w' => e = .returned (.bool (inn a 0 999)) ∧ w' = w := by
  go_enter Try.func85, Try.ntmps85
  go_wp2_with (go_at_call 69; refine (l6In_c _ _ _ _).mono ?_; rintro e w' ⟨rfl, rfl⟩)
  go_ret
  exact ⟨rfl, rfl⟩
set_option maxHeartbeats 400000 in
theorem l1Proc_c (a : Int) (w : World) : Calls Try.prog 86 #[.int .i64 a] w fun e w' => e = .returned (.bool (inn a 0 3)) ∧ w' = w := by
  go_enter Try.func86, Try.ntmps86
  go_wp2_with (go_at_call 69; refine (l6In_c _ _ _ _).mono ?_; rintro e w' ⟨rfl, rfl⟩)
  go_ret
  exact ⟨rfl, rfl⟩
set_option maxHeartbeats 400000 in
theorem l1Reg_c (a : Int) (w : World) : Calls Try.prog 120 #[.int .i64 a] w fun e w' => e = .returned (.bool (inn a 0 1)) ∧ w' = w := by
  go_enter Try.func120, Try.ntmps120
  go_wp2_with (go_at_call 69; refine (l6In_c _ _ _ _).mono ?_; rintro e w' ⟨rfl, rfl⟩)
  go_ret
  exact ⟨rfl, rfl⟩
def OpD.val (o : OpD) : Value := .agg #[.int .i64 o.d, .int .i64 o.a, .int .i64 o.b, .int .i64 o.c, .int .i64 o.e]
set_option maxHeartbeats 2000000 in
theorem l1OpOk_c (d a b c e : Int) (w : World) : Calls Try.prog 100 #[.agg #[.int .i64 d, .int .i64 a, .int .i64 b, .int .i64 c, .int .i64 e]] w fun r w' => r = .returned (.bool (opOk ⟨d, a, b, c, e⟩)) ∧ Below w.heap.size w w' := by
  by_cases k : d = 1 ∨ d = 2 ∨ d = 3 ∨ d = 4 ∨ d = 5 ∨ d = 6 ∨ d = 7
  · rcases k with rfl | rfl | rfl | rfl | rfl | rfl | rfl
    all_goals
      go_enter Try.func100, Try.ntmps100
      go_wp2_with (first | (go_at_call 120; refine (l1Reg_c _ _).mono ?_; rintro e w' ⟨rfl, rfl⟩) | (go_at_call 85; refine (l1Num_c _ _).mono ?_; rintro e w' ⟨rfl, rfl⟩) | (go_at_call 86; refine (l1Proc_c _ _).mono ?_; rintro e w' ⟨rfl, rfl⟩) | (go_at_call 69; refine (l6In_c _ _ _ _).mono ?_; rintro e w' ⟨rfl, rfl⟩))
      all_goals
        go_ret
        exact ⟨by simp [opOk, *], balloc (Below.refl _ _) _⟩
  · have k1 : (d == 1) = false := by simp; omega
    have k2 : (d == 2) = false := by simp; omega
    have k3 : (d == 3) = false := by simp; omega
    have k4 : (d == 4) = false := by simp; omega
    have k5 : (d == 5) = false := by simp; omega
    have k6 : (d == 6) = false := by simp; omega
    have k7 : (d == 7) = false := by simp; omega
    have hf : opOk ⟨d, a, b, c, e⟩ = false := by simp only [opOk]; rw [if_neg (by omega), if_neg (by omega), if_neg (by omega), if_neg (by omega), if_neg (by omega)]
    clear k
    go_enter Try.func100, Try.ntmps100
    go_wp2_with (first | (go_at_call 120; refine (l1Reg_c _ _).mono ?_; rintro e w' ⟨rfl, rfl⟩) | (go_at_call 85; refine (l1Num_c _ _).mono ?_; rintro e w' ⟨rfl, rfl⟩) | (go_at_call 86; refine (l1Proc_c _ _).mono ?_; rintro e w' ⟨rfl, rfl⟩) | (go_at_call 69; refine (l6In_c _ _ _ _).mono ?_; rintro e w' ⟨rfl, rfl⟩))
    all_goals
      go_ret
      exact ⟨by simp [hf], balloc (Below.refl _ _) _⟩
end Go.Proofs.Ytmnccekljombmaa
