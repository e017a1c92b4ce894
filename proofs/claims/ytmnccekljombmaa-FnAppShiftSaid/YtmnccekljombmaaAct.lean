/- What an op stands for: the values that actionOf hands back. -/
import Derived.Test.YtmnccekljombmaaDo2
import Derived.RegionTactic
set_option linter.unusedVariables false
set_option linter.unusedSimpArgs false
set_option maxRecDepth 100000
namespace Go.Proofs.Ytmnccekljombmaa
open Go.RowKit
theorem bdrew {B : Nat} {w W : World} (h : Below B w W) : Below B w W.drew := ⟨h.os, h.tape, h.output, h.size, h.block⟩
theorem meth_raise (n : Nat) (x : Value) (w : World) : (method (n + 1) 130 x "loop.example/slackwater/impl.do").run Try.prog w = .ok (148, x) w := by kernel_rfl
theorem meth_join (n : Nat) (x : Value) (w : World) : (method (n + 1) 132 x "loop.example/slackwater/impl.do").run Try.prog w = .ok (149, x) w := by kernel_rfl
theorem meth_take (n : Nat) (x : Value) (w : World) : (method (n + 1) 134 x "loop.example/slackwater/impl.do").run Try.prog w = .ok (150, x) w := by kernel_rfl
theorem meth_leap (n : Nat) (x : Value) (w : World) : (method (n + 1) 136 x "loop.example/slackwater/impl.do").run Try.prog w = .ok (151, x) w := by kernel_rfl
theorem meth_send (n : Nat) (x : Value) (w : World) : (method (n + 1) 138 x "loop.example/slackwater/impl.do").run Try.prog w = .ok (152, x) w := by kernel_rfl
theorem meth_let (n : Nat) (x : Value) (w : World) : (method (n + 1) 139 x "loop.example/slackwater/impl.do").run Try.prog w = .ok (153, x) w := by kernel_rfl
set_option maxHeartbeats 2000000 in
theorem actionOf_1 (a b c e : Int) (w : World) :
    Calls Try.prog 56 #[.agg #[.int .i64 1, .int .i64 a, .int .i64 b, .int .i64 c, .int .i64 e]] w fun q w' => q = .returned (.iface 130 (.agg #[.int .i64 a, .int .i64 b, .bool true])) ∧ Below w.heap.size w w' := by
  go_enter Try.func56, Try.ntmps56
  go_wp2_with fail
  go_region
  all_goals go_wp2_with fail
  all_goals go_ret
  all_goals exact ⟨rfl, by repeat (first | exact Below.refl _ _ | refine bdrew ?_ | refine balloc ?_ _)⟩
set_option maxHeartbeats 2000000 in
theorem actionOf_2 (a b c e : Int) (w : World) :
    Calls Try.prog 56 #[.agg #[.int .i64 2, .int .i64 a, .int .i64 b, .int .i64 c, .int .i64 e]] w fun q w' => q = .returned (.iface 132 (.agg #[.int .i64 a, .int .i64 b])) ∧ Below w.heap.size w w' := by
  go_enter Try.func56, Try.ntmps56
  go_wp2_with fail
  all_goals go_ret
  all_goals exact ⟨rfl, by repeat (first | exact Below.refl _ _ | refine bdrew ?_ | refine balloc ?_ _)⟩
set_option maxHeartbeats 2000000 in
theorem actionOf_3 (a b c e : Int) (w : World) :
    Calls Try.prog 56 #[.agg #[.int .i64 3, .int .i64 a, .int .i64 b, .int .i64 c, .int .i64 e]] w fun q w' => q = .returned (.iface 130 (.agg #[.int .i64 a, .int .i64 b, .bool false])) ∧ Below w.heap.size w w' := by
  go_enter Try.func56, Try.ntmps56
  go_wp2_with fail
  go_region
  all_goals go_wp2_with fail
  all_goals go_ret
  all_goals exact ⟨rfl, by repeat (first | exact Below.refl _ _ | refine bdrew ?_ | refine balloc ?_ _)⟩
set_option maxHeartbeats 2000000 in
theorem actionOf_4 (a b c e : Int) (w : World) :
    Calls Try.prog 56 #[.agg #[.int .i64 4, .int .i64 a, .int .i64 b, .int .i64 c, .int .i64 e]] w fun q w' => q = .returned (.iface 134 (.agg #[.int .i64 a])) ∧ Below w.heap.size w w' := by
  go_enter Try.func56, Try.ntmps56
  go_wp2_with fail
  all_goals go_ret
  all_goals exact ⟨rfl, by repeat (first | exact Below.refl _ _ | refine bdrew ?_ | refine balloc ?_ _)⟩
set_option maxHeartbeats 2000000 in
theorem actionOf_5 (a b c e : Int) (w : World) :
    Calls Try.prog 56 #[.agg #[.int .i64 5, .int .i64 a, .int .i64 b, .int .i64 c, .int .i64 e]] w fun q w' => q = .returned (.iface 136 (.agg #[.int .i64 a, .int .i64 b, .int .i64 c])) ∧ Below w.heap.size w w' := by
  go_enter Try.func56, Try.ntmps56
  go_wp2_with fail
  all_goals go_ret
  all_goals exact ⟨rfl, by repeat (first | exact Below.refl _ _ | refine bdrew ?_ | refine balloc ?_ _)⟩
set_option maxHeartbeats 2000000 in
theorem actionOf_6 (a b c e : Int) (w : World) :
    Calls Try.prog 56 #[.agg #[.int .i64 6, .int .i64 a, .int .i64 b, .int .i64 c, .int .i64 e]] w fun q w' => q = .returned (.iface 138 (.agg #[.int .i64 a, .int .i64 b, .int .i64 c, .int .i64 e])) ∧ Below w.heap.size w w' := by
  go_enter Try.func56, Try.ntmps56
  go_wp2_with fail
  all_goals go_ret
  all_goals exact ⟨rfl, by repeat (first | exact Below.refl _ _ | refine bdrew ?_ | refine balloc ?_ _)⟩
set_option maxHeartbeats 2000000 in
theorem actionOf_7 (a b c e : Int) (w : World) :
    Calls Try.prog 56 #[.agg #[.int .i64 7, .int .i64 a, .int .i64 b, .int .i64 c, .int .i64 e]] w fun q w' => q = .returned (.iface 139 (.agg #[.int .i64 a])) ∧ Below w.heap.size w w' := by
  go_enter Try.func56, Try.ntmps56
  go_wp2_with fail
  all_goals go_ret
  all_goals exact ⟨rfl, by repeat (first | exact Below.refl _ _ | refine bdrew ?_ | refine balloc ?_ _)⟩
end Go.Proofs.Ytmnccekljombmaa
