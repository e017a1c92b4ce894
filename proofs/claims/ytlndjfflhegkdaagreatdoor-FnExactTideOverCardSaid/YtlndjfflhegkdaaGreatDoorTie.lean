/-
  DERIVED. GIVEN WITH THE SEED: THE PROGRAM's TIES (one call each: nine closed facts by the kernel) AND EACH ROW's TIE, after the 31st guide's Derived/Test/Toyas{Tie, Card}.lean. No idea stands in it: it is a product of the set-up. Laid BY PROGRAM, IN A SANDBOX (cutbox-door.mjs). By AI agents, Wed Nov 11 2026. No macro, syntax, notation, axiom, sorry.
-/
import Derived.Test.YtlndjfflhegkdaaGreatDoorRows
import Derived.LaidByTextLater
import Derived.SevenTiedAt
import Derived.LaidSub
import Derived.LaidOnce
namespace Go.Proofs.YtlndjfflhegkdaaGreatDoor
open Go
set_option maxRecDepth 100000
theorem seatTie1 : Tryz.prog.laidByTextLater [("loop.example/slackwater/impl.errTideTime", Rows.laid_loop_example_slackwater_impl_errTideTime), ("loop.example/slackwater/impl.errTideApps", Rows.laid_loop_example_slackwater_impl_errTideApps), ("loop.example/slackwater/impl.errTideNodes", Rows.laid_loop_example_slackwater_impl_errTideNodes), ("loop.example/slackwater/impl.errTideRadio", Rows.laid_loop_example_slackwater_impl_errTideRadio), ("loop.example/slackwater/impl.errTideHub", Rows.laid_loop_example_slackwater_impl_errTideHub), ("loop.example/slackwater/impl.errTideSink", Rows.laid_loop_example_slackwater_impl_errTideSink)] [.sentinel, .sentinel, .sentinel, .sentinel, .sentinel, .sentinel] true :=
  Program.laidByTextLater_by_one 123 8 2 (by kernel_rfl) (by kernel_rfl) (by kernel_rfl) (by kernel_rfl) (by kernel_rfl) (by kernel_rfl) (fun _ _ => by kernel_rfl)
theorem noOwnUnsafe : Tryz.pinned.checked.prog.headLifts.contains "ownunsafe" = false := by kernel_rfl
theorem tie : Tryz.prog.laidByTextLater [("loop.example/slackwater/impl.errTideTime", Rows.laid_loop_example_slackwater_impl_errTideTime), ("loop.example/slackwater/impl.errTideApps", Rows.laid_loop_example_slackwater_impl_errTideApps), ("loop.example/slackwater/impl.errTideNodes", Rows.laid_loop_example_slackwater_impl_errTideNodes), ("loop.example/slackwater/impl.errTideRadio", Rows.laid_loop_example_slackwater_impl_errTideRadio), ("loop.example/slackwater/impl.errTideHub", Rows.laid_loop_example_slackwater_impl_errTideHub), ("loop.example/slackwater/impl.errTideSink", Rows.laid_loop_example_slackwater_impl_errTideSink)] [.sentinel, .sentinel, .sentinel, .sentinel, .sentinel, .sentinel] true :=
  Program.laidByTextLater.sub seatTie1 ["loop.example/slackwater/impl.errTideTime", "loop.example/slackwater/impl.errTideApps", "loop.example/slackwater/impl.errTideNodes", "loop.example/slackwater/impl.errTideRadio", "loop.example/slackwater/impl.errTideHub", "loop.example/slackwater/impl.errTideSink"] (by kernel_rfl) (by kernel_rfl)
theorem fnExactTideOver_row_tie : Rows.fnExactTideOverRow.laidByTextAt .later Tryz.pinned [.sentinel, .sentinel, .sentinel, .sentinel, .sentinel, .sentinel] true :=
  OpenClaim.laidByTextAt_later rfl rfl tie noOwnUnsafe
theorem fnExactTideOverUpto_row_tie : Rows.fnExactTideOverUptoRow.laidByTextAt .later Tryz.pinned [.sentinel, .sentinel, .sentinel, .sentinel, .sentinel, .sentinel] true :=
  OpenClaim.laidByTextAt_later rfl rfl tie noOwnUnsafe
end Go.Proofs.YtlndjfflhegkdaaGreatDoor
