/-
  NARROWER THAN 'FOR EVERY INPUT', by the rows' own cells (each row's printed sentence says how): FnExactTideOver: ifaces, laid.
  DERIVED. THE GIVEN ROWS OF THIS SEAT. 1 by the template 'for every input the law returns true; each argument reads behind the call as it read before'; 0 by the template 'total and deterministic' (their statements: YtlndjfflhegkdaaGreatDoorTotals.lean).
  GIVEN WITH THE SEED: the statements are not yours to turn. If you find one false, say at which input.
  Laid BY PROGRAM, IN A SANDBOX (cutbox-rows.mjs): the forced cells as the released guide's own fill.sh prints them over the translation b9711e66aa15ec17… (all of the seat's roots in one cut). By AI agents, Wed Nov 11 2026. No macro, syntax, notation, axiom, sorry.
-/
import Derived.Test.YtlndjfflhegkdaaGreatDoorChecked
import GoSem.Claim
import GoSem.ClaimJoined
import GoSem.ClaimMapViews
import Derived.JoinedTies
import Derived.KernelRfl
namespace Go.Proofs.YtlndjfflhegkdaaGreatDoor
/- THE CELL 'sum', in the pinned program and in every row, IS THE sha256 OF THE DUMP (.gsa) THAT YtlndjfflhegkdaaGreatDoorProg.lean LOADS. Nothing in Lean hashes anything: it is a label: what it is worth is what the hold of that sum in a sandbox is worth. -/
noncomputable def Tryz.pinned : Pinned := { name := "ytlndjfflhegkdaagreatdoor", sum := "b9711e66aa15ec17fe70665122976676f4ea91b07b445c047a74a34c09c42c8f", checked := Tryz.checked }
namespace Rows
def none {H : Type} : Left H := { results := [], args := [] }

/- WHAT THE LISTED PACKAGE-LEVEL VARIABLES READ AS WHEN THE CALL BEGINS. Each datum BY PROGRAM (the guide's laid-datum.mjs) off the statement by which the dump's own 'gosem.cut.vars' lays the variable. In a bare row this is a premise. The card (YtlndjfflhegkdaaGreatDoorCards.lean) ties it to the program's text. -/
def laid_loop_example_slackwater_impl_errTideTime {H : Type} : DataW H := .iface "*errors.errorString" (.ptr (.agg [.lit (.string [116, 104, 101, 32, 116, 105, 109, 101, 32, 111, 102, 32, 97, 32, 119, 111, 114, 108, 100])]))
def laid_loop_example_slackwater_impl_errTideApps {H : Type} : DataW H := .iface "*errors.errorString" (.ptr (.agg [.lit (.string [116, 104, 101, 32, 112, 114, 111, 103, 114, 97, 109, 115, 32, 111, 102, 32, 97, 32, 119, 111, 114, 108, 100])]))
def laid_loop_example_slackwater_impl_errTideNodes {H : Type} : DataW H := .iface "*errors.errorString" (.ptr (.agg [.lit (.string [116, 104, 101, 32, 110, 111, 100, 101, 115, 32, 111, 102, 32, 97, 32, 119, 111, 114, 108, 100])]))
def laid_loop_example_slackwater_impl_errTideRadio {H : Type} : DataW H := .iface "*errors.errorString" (.ptr (.agg [.lit (.string [116, 104, 101, 32, 119, 111, 114, 100, 115, 32, 117, 110, 100, 101, 114, 32, 119, 97, 121, 32, 105, 110, 32, 97, 32, 119, 111, 114, 108, 100])]))
def laid_loop_example_slackwater_impl_errTideHub {H : Type} : DataW H := .iface "*errors.errorString" (.ptr (.agg [.lit (.string [119, 104, 97, 116, 32, 116, 104, 101, 32, 110, 111, 100, 101, 32, 48, 32, 107, 110, 111, 119, 115, 32, 105, 110, 32, 97, 32, 119, 111, 114, 108, 100])]))
def laid_loop_example_slackwater_impl_errTideSink {H : Type} : DataW H := .iface "*errors.errorString" (.ptr (.agg [.lit (.string [119, 104, 97, 116, 32, 119, 97, 115, 32, 108, 101, 116, 32, 111, 117, 116, 32, 105, 110, 32, 97, 32, 119, 111, 114, 108, 100])]))

/-- 'laws.FnExactTideOver': WHATEVER THE INPUT: true; the input reads as it did. -/
def fnExactTideOverSpec : ChangeSpec := { name := "fnExactTideOver", vars := ["loop.example/slackwater/impl.errTideTime", "loop.example/slackwater/impl.errTideApps", "loop.example/slackwater/impl.errTideNodes", "loop.example/slackwater/impl.errTideRadio", "loop.example/slackwater/impl.errTideHub", "loop.example/slackwater/impl.errTideSink"], fn := fun _ => fun
  | [d, g1, g2, g3, g4, g5, g6] => { results := [.lit (.bool true)], args := [d], vars := [g1, g2, g3, g4, g5, g6] }
  | _ => none }
def fnExactTideOverRow : OpenClaim := { program := "ytlndjfflhegkdaagreatdoor", sum := "b9711e66aa15ec17fe70665122976676f4ea91b07b445c047a74a34c09c42c8f", func := "loop.example/slackwater/laws.FnExactTideOver", spec := "fnExactTideOver", unfollowed := true, recurses := true, named := ["loop.example/slackwater/impl.errTideTime", "loop.example/slackwater/impl.errTideApps", "loop.example/slackwater/impl.errTideNodes", "loop.example/slackwater/impl.errTideRadio", "loop.example/slackwater/impl.errTideHub", "loop.example/slackwater/impl.errTideSink"], ifaces := true, plainKeys := false, apart := false, laid := [("loop.example/slackwater/impl.errTideTime", laid_loop_example_slackwater_impl_errTideTime), ("loop.example/slackwater/impl.errTideApps", laid_loop_example_slackwater_impl_errTideApps), ("loop.example/slackwater/impl.errTideNodes", laid_loop_example_slackwater_impl_errTideNodes), ("loop.example/slackwater/impl.errTideRadio", laid_loop_example_slackwater_impl_errTideRadio), ("loop.example/slackwater/impl.errTideHub", laid_loop_example_slackwater_impl_errTideHub), ("loop.example/slackwater/impl.errTideSink", laid_loop_example_slackwater_impl_errTideSink)] }
def FnExactTideOverSaid : Prop := fnExactTideOverRow.holds Tryz.pinned (OpenSpec.ofChange fnExactTideOverSpec)

/-- ITS FALSE NEIGHBOUR: 'it returns false'. Refute it at one input. -/
def fnExactTideOverWrong : ChangeSpec := { name := "fnExactTideOver", vars := ["loop.example/slackwater/impl.errTideTime", "loop.example/slackwater/impl.errTideApps", "loop.example/slackwater/impl.errTideNodes", "loop.example/slackwater/impl.errTideRadio", "loop.example/slackwater/impl.errTideHub", "loop.example/slackwater/impl.errTideSink"], fn := fun _ => fun
  | [d, g1, g2, g3, g4, g5, g6] => { results := [.lit (.bool false)], args := [d], vars := [g1, g2, g3, g4, g5, g6] }
  | _ => none }
def FnExactTideOverWrongFalsely : Prop := fnExactTideOverRow.holds Tryz.pinned (OpenSpec.ofChange fnExactTideOverWrong)

/- THE SECOND FORM. 'bulk': how many values and letters a reading holds, each counted each time it is reached (what is shared counts as often as it is met; a slice's spare places count too). A statement '..UptoSaid' is the law's where the arguments, and the package variables that the reading takes, are together of bulk at most 1048576: NARROWER than '..Said'. Prove '..Said' where nothing that the law and all that it calls make is longer than what came in: it says more and counts as full. Else prove '..UptoSaid'. A law counts once. -/
mutual
def uptoBulk {H : Type} : DataW H → Nat
  | .lit (.string bytes) => bytes.length + 1
  | .lit _ => 1
  | .nil => 1
  | .ptr d => uptoBulk d + 1
  | .slice elems spare => uptoBulkAll elems + uptoBulkAll spare + 1
  | .agg parts => uptoBulkAll parts + 1
  | .iface _ d => uptoBulk d + 1
  | .map entries => uptoBulkEntries entries + 1
  | .held _ => 1
def uptoBulkAll {H : Type} : List (DataW H) → Nat
  | [] => 0
  | d :: r => uptoBulk d + uptoBulkAll r
def uptoBulkEntries {H : Type} : List (Lit × DataW H) → Nat
  | [] => 0
  | x :: r => uptoBulkEntry x + uptoBulkEntries r
def uptoBulkEntry {H : Type} : Lit × DataW H → Nat
  | (.string bytes, d) => bytes.length + uptoBulk d + 1
  | (_, d) => uptoBulk d + 1
 end
def uptoSmall : (H : Type) → List (DataW H) → Bool := fun _ ds => decide (uptoBulkAll ds ≤ 1048576)
def OpenSpec.upto (s : _root_.Go.ChangeSpec) : _root_.Go.OpenSpec := { _root_.Go.OpenSpec.ofChange s with cond := some uptoSmall }

/-- 'laws.FnExactTideOver', WHERE WHAT IT READS IS OF BULK AT MOST 1048576: true; the input reads as it did. -/
def fnExactTideOverUptoRow : OpenClaim := { program := "ytlndjfflhegkdaagreatdoor", sum := "b9711e66aa15ec17fe70665122976676f4ea91b07b445c047a74a34c09c42c8f", func := "loop.example/slackwater/laws.FnExactTideOver", spec := "fnExactTideOver", unfollowed := true, recurses := true, named := ["loop.example/slackwater/impl.errTideTime", "loop.example/slackwater/impl.errTideApps", "loop.example/slackwater/impl.errTideNodes", "loop.example/slackwater/impl.errTideRadio", "loop.example/slackwater/impl.errTideHub", "loop.example/slackwater/impl.errTideSink"], ifaces := true, plainKeys := false, apart := false, laid := [("loop.example/slackwater/impl.errTideTime", laid_loop_example_slackwater_impl_errTideTime), ("loop.example/slackwater/impl.errTideApps", laid_loop_example_slackwater_impl_errTideApps), ("loop.example/slackwater/impl.errTideNodes", laid_loop_example_slackwater_impl_errTideNodes), ("loop.example/slackwater/impl.errTideRadio", laid_loop_example_slackwater_impl_errTideRadio), ("loop.example/slackwater/impl.errTideHub", laid_loop_example_slackwater_impl_errTideHub), ("loop.example/slackwater/impl.errTideSink", laid_loop_example_slackwater_impl_errTideSink)], narrowed := true }
def FnExactTideOverUptoSaid : Prop := fnExactTideOverUptoRow.holds Tryz.pinned (OpenSpec.upto fnExactTideOverSpec)

end Rows
end Go.Proofs.YtlndjfflhegkdaaGreatDoor
