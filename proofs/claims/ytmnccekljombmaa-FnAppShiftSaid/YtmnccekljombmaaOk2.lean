/- Whether states, events and ops are in form: by the reference, and by the program. -/
import Derived.Test.YtmnccekljombmaaSc
set_option linter.unusedVariables false
set_option linter.unusedSimpArgs false
set_option maxRecDepth 100000
namespace Go.Proofs.Ytmnccekljombmaa
open Go.RowKit
set_option maxHeartbeats 400000 in
theorem within_c (a l h : Int) (w : World) : Calls Try.prog 98 #[.int .i64 a, .int .i64 l, .int .i64 h] w fun e w' => e = .returned (.bool (inn a l h)) ∧ w' = w := by
  by_cases h1 : l ≤ a <;> by_cases h2 : a ≤ h
  all_goals
    go_enter Try.func98, Try.ntmps98
    go_wp2
    go_ret
    exact ⟨by simp [inn, h1, h2], rfl⟩
set_option maxHeartbeats 400000 in
theorem isRegister_c (a : Int) (w : World) : Calls Try.prog 131 #[.int .i64 a] w fun e w' => e = .returned (.bool (inn a 0 1)) ∧ w' = w := by
  go_enter Try.func131, Try.ntmps131
  go_wp2_with (first | (go_at_call 98; refine (within_c _ _ _ _).mono ?_; rintro e w' ⟨rfl, rfl⟩))
  go_ret
  exact ⟨rfl, rfl⟩
set_option maxHeartbeats 400000 in
theorem isProc_c (a : Int) (w : World) : Calls Try.prog 99 #[.int .i64 a] w fun e w' => e = .returned (.bool (inn a 0 3)) ∧ w' = w := by
  go_enter Try.func99, Try.ntmps99
  go_wp2_with (first | (go_at_call 98; refine (within_c _ _ _ _).mono ?_; rintro e w' ⟨rfl, rfl⟩))
  go_ret
  exact ⟨rfl, rfl⟩
set_option maxHeartbeats 400000 in
theorem isKind_c (a : Int) (w : World) : Calls Try.prog 113 #[.int .i64 a] w fun e w' => e = .returned (.bool (inn a 0 3)) ∧ w' = w := by
  go_enter Try.func113, Try.ntmps113
  go_wp2_with (first | (go_at_call 98; refine (within_c _ _ _ _).mono ?_; rintro e w' ⟨rfl, rfl⟩))
  go_ret
  exact ⟨rfl, rfl⟩
set_option maxHeartbeats 400000 in
theorem isNum_c (a : Int) (w : World) : Calls Try.prog 97 #[.int .i64 a] w fun e w' => e = .returned (.bool (inn a 0 999)) ∧ w' = w := by
  go_enter Try.func97, Try.ntmps97
  go_wp2_with (first | (go_at_call 98; refine (within_c _ _ _ _).mono ?_; rintro e w' ⟨rfl, rfl⟩))
  go_ret
  exact ⟨rfl, rfl⟩
set_option maxHeartbeats 1000000 in
theorem l1StateOk_c (x y c : Int) (w : World) : Calls Try.prog 51 #[.agg #[.int .i64 x, .int .i64 y, .int .i64 c]] w fun r w' => r = .returned (.bool (stOk ⟨x, y, c⟩)) ∧ Below w.heap.size w w' := by
  go_enter Try.func51, Try.ntmps51
  go_wp2_with (first | (go_at_call 85; refine (l1Num_c _ _).mono ?_; rintro e w' ⟨rfl, rfl⟩) | (go_at_call 69; refine (l6In_c _ _ _ _).mono ?_; rintro e w' ⟨rfl, rfl⟩))
  all_goals
    go_ret
    exact ⟨by simp [stOk, *], balloc (Below.refl _ _) _⟩
set_option maxHeartbeats 1000000 in
theorem stateOk_c (x y c : Int) (w : World) : Calls Try.prog 66 #[.agg #[.int .i64 x, .int .i64 y, .int .i64 c]] w fun r w' => r = .returned (.bool (stOk ⟨x, y, c⟩)) ∧ Below w.heap.size w w' := by
  go_enter Try.func66, Try.ntmps66
  go_wp2_with (first | (go_at_call 97; refine (isNum_c _ _).mono ?_; rintro e w' ⟨rfl, rfl⟩) | (go_at_call 98; refine (within_c _ _ _ _).mono ?_; rintro e w' ⟨rfl, rfl⟩))
  all_goals
    go_ret
    exact ⟨by simp [stOk, *], balloc (Below.refl _ _) _⟩
set_option maxHeartbeats 2000000 in
theorem l1EventOk_c (a b c d e f g : Int) (w : World) : Calls Try.prog 52 #[.agg #[.int .i64 a, .int .i64 b, .int .i64 c, .int .i64 d, .int .i64 e, .int .i64 f, .int .i64 g]] w fun r w' => r = .returned (.bool (evOk ⟨a, b, c, d, e, f, g⟩)) ∧ Below w.heap.size w w' := by
  go_enter Try.func52, Try.ntmps52
  go_wp2_with (first | (go_at_call 85; refine (l1Num_c _ _).mono ?_; rintro e w' ⟨rfl, rfl⟩) | (go_at_call 86; refine (l1Proc_c _ _).mono ?_; rintro e w' ⟨rfl, rfl⟩) | (go_at_call 69; refine (l6In_c _ _ _ _).mono ?_; rintro e w' ⟨rfl, rfl⟩))
  all_goals
    go_ret
    exact ⟨by simp [evOk, *], balloc (Below.refl _ _) _⟩
set_option maxHeartbeats 2000000 in
theorem eventOk_c (a b c d e f g : Int) (w : World) : Calls Try.prog 90 #[.agg #[.int .i64 a, .int .i64 b, .int .i64 c, .int .i64 d, .int .i64 e, .int .i64 f, .int .i64 g]] w fun r w' => r = .returned (.bool (evOk ⟨a, b, c, d, e, f, g⟩)) ∧ Below w.heap.size w w' := by
  go_enter Try.func90, Try.ntmps90
  go_wp2_with (first | (go_at_call 97; refine (isNum_c _ _).mono ?_; rintro e w' ⟨rfl, rfl⟩) | (go_at_call 99; refine (isProc_c _ _).mono ?_; rintro e w' ⟨rfl, rfl⟩) | (go_at_call 113; refine (isKind_c _ _).mono ?_; rintro e w' ⟨rfl, rfl⟩) | (go_at_call 98; refine (within_c _ _ _ _).mono ?_; rintro e w' ⟨rfl, rfl⟩))
  all_goals
    go_ret
    exact ⟨by simp [evOk, *], balloc (Below.refl _ _) _⟩
set_option maxHeartbeats 2000000 in
theorem opOk_c (d a b c e : Int) (w : World) : Calls Try.prog 126 #[.agg #[.int .i64 d, .int .i64 a, .int .i64 b, .int .i64 c, .int .i64 e]] w fun r w' => r = .returned (.bool (opOk ⟨d, a, b, c, e⟩)) ∧ Below w.heap.size w w' := by
  by_cases k : d = 1 ∨ d = 2 ∨ d = 3 ∨ d = 4 ∨ d = 5 ∨ d = 6 ∨ d = 7
  · rcases k with rfl | rfl | rfl | rfl | rfl | rfl | rfl
    all_goals
      go_enter Try.func126, Try.ntmps126
      go_wp2_with (first | (go_at_call 131; refine (isRegister_c _ _).mono ?_; rintro e w' ⟨rfl, rfl⟩) | (go_at_call 97; refine (isNum_c _ _).mono ?_; rintro e w' ⟨rfl, rfl⟩) | (go_at_call 99; refine (isProc_c _ _).mono ?_; rintro e w' ⟨rfl, rfl⟩) | (go_at_call 113; refine (isKind_c _ _).mono ?_; rintro e w' ⟨rfl, rfl⟩) | (go_at_call 98; refine (within_c _ _ _ _).mono ?_; rintro e w' ⟨rfl, rfl⟩))
      all_goals
        go_ret
        exact ⟨by simp [opOk, *], balloc (Below.refl _ _) _⟩
  · have k1 : (d == 1) = false := by simp; omega
    have k2 : (d == 2) = false := by simp; omega
    have k3 : (d == 3) = false := by simp; omega
    have k4 : (d == 4) = false := by simp; omega
    have k5 : (d == 5) = false := by simp; omega
    have k6 : (d == 6) = false := by simp; omega
    have k7 : (d == 7) = false := by simp; omega
    have hf : opOk ⟨d, a, b, c, e⟩ = false := by simp only [opOk]; rw [if_neg (by omega), if_neg (by omega), if_neg (by omega), if_neg (by omega), if_neg (by omega)]
    clear k
    go_enter Try.func126, Try.ntmps126
    go_wp2_with (first | (go_at_call 131; refine (isRegister_c _ _).mono ?_; rintro e w' ⟨rfl, rfl⟩) | (go_at_call 97; refine (isNum_c _ _).mono ?_; rintro e w' ⟨rfl, rfl⟩) | (go_at_call 99; refine (isProc_c _ _).mono ?_; rintro e w' ⟨rfl, rfl⟩) | (go_at_call 113; refine (isKind_c _ _).mono ?_; rintro e w' ⟨rfl, rfl⟩) | (go_at_call 98; refine (within_c _ _ _ _).mono ?_; rintro e w' ⟨rfl, rfl⟩))
    all_goals
      go_ret
      exact ⟨by simp [hf], balloc (Below.refl _ _) _⟩
end Go.Proofs.Ytmnccekljombmaa
