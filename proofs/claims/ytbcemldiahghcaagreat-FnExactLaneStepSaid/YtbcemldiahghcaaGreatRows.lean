/-
  No cell of these rows narrows 'for every input' (looked for: loops, veiled, ifaces, maps, wideKeys, modest, calm, conditions, laid).
  DERIVED. THE GIVEN ROWS OF THIS SEAT. 3 by the template 'for every input the law returns true; each argument reads behind the call as it read before'; 0 by the template 'total and deterministic' (their statements: YtbcemldiahghcaaGreatTotals.lean).
  GIVEN WITH THE SEED: the statements are not yours to turn. If you find one false, say at which input.
  Laid BY PROGRAM, IN A SANDBOX (cutbox-rows.mjs): the forced cells as the released guide's own fill.sh prints them over the translation d40e685f4425f7a7… (all of the seat's roots in one cut). By AI agents, Wed Nov 11 2026. No macro, syntax, notation, axiom, sorry.
-/
import Derived.Test.YtbcemldiahghcaaGreatChecked
import GoSem.Claim
import GoSem.ClaimJoined
import GoSem.ClaimMapViews
import Derived.JoinedTies
import Derived.KernelRfl
namespace Go.Proofs.YtbcemldiahghcaaGreat
/- THE CELL 'sum', in the pinned program and in every row, IS THE sha256 OF THE DUMP (.gsa) THAT YtbcemldiahghcaaGreatProg.lean LOADS. Nothing in Lean hashes anything: it is a label: what it is worth is what the hold of that sum in a sandbox is worth. -/
noncomputable def Tryz.pinned : Pinned := { name := "ytbcemldiahghcaagreat", sum := "d40e685f4425f7a7d518957a0f19864be9d36f1a25872dba36eb4273dac6711a", checked := Tryz.checked }
namespace Rows
def none {H : Type} : Left H := { results := [], args := [] }

/-- 'laws.FnExactSimRun': WHATEVER THE INPUT: true; the input reads as it did. -/
def fnExactSimRunSpec : ChangeSpec := { name := "fnExactSimRun", fn := fun _ => fun
  | [d1, d2] => { results := [.lit (.bool true)], args := [d1, d2] }
  | _ => none }
def fnExactSimRunRow : OpenClaim := { program := "ytbcemldiahghcaagreat", sum := "d40e685f4425f7a7d518957a0f19864be9d36f1a25872dba36eb4273dac6711a", func := "loop.example/slackwater/laws.FnExactSimRun", spec := "fnExactSimRun", unfollowed := true, recurses := true, plainKeys := false, apart := false }
def FnExactSimRunSaid : Prop := fnExactSimRunRow.holds Tryz.pinned (OpenSpec.ofChange fnExactSimRunSpec)

/-- ITS FALSE NEIGHBOUR: 'it returns false'. Refute it at one input. -/
def fnExactSimRunWrong : ChangeSpec := { name := "fnExactSimRun", fn := fun _ => fun
  | [d1, d2] => { results := [.lit (.bool false)], args := [d1, d2] }
  | _ => none }
def FnExactSimRunWrongFalsely : Prop := fnExactSimRunRow.holds Tryz.pinned (OpenSpec.ofChange fnExactSimRunWrong)

/-- 'laws.FnExactLaneStep': WHATEVER THE INPUT: true; the input reads as it did. -/
def fnExactLaneStepSpec : ChangeSpec := { name := "fnExactLaneStep", fn := fun _ => fun
  | [d1, d2, d3] => { results := [.lit (.bool true)], args := [d1, d2, d3] }
  | _ => none }
def fnExactLaneStepRow : OpenClaim := { program := "ytbcemldiahghcaagreat", sum := "d40e685f4425f7a7d518957a0f19864be9d36f1a25872dba36eb4273dac6711a", func := "loop.example/slackwater/laws.FnExactLaneStep", spec := "fnExactLaneStep", unfollowed := true, recurses := true, plainKeys := false, apart := false }
def FnExactLaneStepSaid : Prop := fnExactLaneStepRow.holds Tryz.pinned (OpenSpec.ofChange fnExactLaneStepSpec)

/-- ITS FALSE NEIGHBOUR: 'it returns false'. Refute it at one input. -/
def fnExactLaneStepWrong : ChangeSpec := { name := "fnExactLaneStep", fn := fun _ => fun
  | [d1, d2, d3] => { results := [.lit (.bool false)], args := [d1, d2, d3] }
  | _ => none }
def FnExactLaneStepWrongFalsely : Prop := fnExactLaneStepRow.holds Tryz.pinned (OpenSpec.ofChange fnExactLaneStepWrong)

/-- 'laws.FnExactSimStep': WHATEVER THE INPUT: true; the input reads as it did. -/
def fnExactSimStepSpec : ChangeSpec := { name := "fnExactSimStep", fn := fun _ => fun
  | [d1, d2] => { results := [.lit (.bool true)], args := [d1, d2] }
  | _ => none }
def fnExactSimStepRow : OpenClaim := { program := "ytbcemldiahghcaagreat", sum := "d40e685f4425f7a7d518957a0f19864be9d36f1a25872dba36eb4273dac6711a", func := "loop.example/slackwater/laws.FnExactSimStep", spec := "fnExactSimStep", unfollowed := true, recurses := true, plainKeys := false, apart := false }
def FnExactSimStepSaid : Prop := fnExactSimStepRow.holds Tryz.pinned (OpenSpec.ofChange fnExactSimStepSpec)

/-- ITS FALSE NEIGHBOUR: 'it returns false'. Refute it at one input. -/
def fnExactSimStepWrong : ChangeSpec := { name := "fnExactSimStep", fn := fun _ => fun
  | [d1, d2] => { results := [.lit (.bool false)], args := [d1, d2] }
  | _ => none }
def FnExactSimStepWrongFalsely : Prop := fnExactSimStepRow.holds Tryz.pinned (OpenSpec.ofChange fnExactSimStepWrong)

/- THE SECOND FORM. 'bulk': how many values and letters a reading holds, each counted each time it is reached (what is shared counts as often as it is met; a slice's spare places count too). A statement '..UptoSaid' is the law's where the arguments, and the package variables that the reading takes, are together of bulk at most 1048576: NARROWER than '..Said'. Prove '..Said' where nothing that the law and all that it calls make is longer than what came in: it says more and counts as full. Else prove '..UptoSaid'. A law counts once. -/
mutual
def uptoBulk {H : Type} : DataW H → Nat
  | .lit (.string bytes) => bytes.length + 1
  | .lit _ => 1
  | .nil => 1
  | .ptr d => uptoBulk d + 1
  | .slice elems spare => uptoBulkAll elems + uptoBulkAll spare + 1
  | .agg parts => uptoBulkAll parts + 1
  | .iface _ d => uptoBulk d + 1
  | .map entries => uptoBulkEntries entries + 1
  | .held _ => 1
def uptoBulkAll {H : Type} : List (DataW H) → Nat
  | [] => 0
  | d :: r => uptoBulk d + uptoBulkAll r
def uptoBulkEntries {H : Type} : List (Lit × DataW H) → Nat
  | [] => 0
  | x :: r => uptoBulkEntry x + uptoBulkEntries r
def uptoBulkEntry {H : Type} : Lit × DataW H → Nat
  | (.string bytes, d) => bytes.length + uptoBulk d + 1
  | (_, d) => uptoBulk d + 1
 end
def uptoSmall : (H : Type) → List (DataW H) → Bool := fun _ ds => decide (uptoBulkAll ds ≤ 1048576)
def OpenSpec.upto (s : _root_.Go.ChangeSpec) : _root_.Go.OpenSpec := { _root_.Go.OpenSpec.ofChange s with cond := some uptoSmall }

/-- 'laws.FnExactSimRun', WHERE WHAT IT READS IS OF BULK AT MOST 1048576: true; the input reads as it did. -/
def fnExactSimRunUptoRow : OpenClaim := { program := "ytbcemldiahghcaagreat", sum := "d40e685f4425f7a7d518957a0f19864be9d36f1a25872dba36eb4273dac6711a", func := "loop.example/slackwater/laws.FnExactSimRun", spec := "fnExactSimRun", unfollowed := true, recurses := true, plainKeys := false, apart := false, narrowed := true }
def FnExactSimRunUptoSaid : Prop := fnExactSimRunUptoRow.holds Tryz.pinned (OpenSpec.upto fnExactSimRunSpec)

/-- 'laws.FnExactLaneStep', WHERE WHAT IT READS IS OF BULK AT MOST 1048576: true; the input reads as it did. -/
def fnExactLaneStepUptoRow : OpenClaim := { program := "ytbcemldiahghcaagreat", sum := "d40e685f4425f7a7d518957a0f19864be9d36f1a25872dba36eb4273dac6711a", func := "loop.example/slackwater/laws.FnExactLaneStep", spec := "fnExactLaneStep", unfollowed := true, recurses := true, plainKeys := false, apart := false, narrowed := true }
def FnExactLaneStepUptoSaid : Prop := fnExactLaneStepUptoRow.holds Tryz.pinned (OpenSpec.upto fnExactLaneStepSpec)

/-- 'laws.FnExactSimStep', WHERE WHAT IT READS IS OF BULK AT MOST 1048576: true; the input reads as it did. -/
def fnExactSimStepUptoRow : OpenClaim := { program := "ytbcemldiahghcaagreat", sum := "d40e685f4425f7a7d518957a0f19864be9d36f1a25872dba36eb4273dac6711a", func := "loop.example/slackwater/laws.FnExactSimStep", spec := "fnExactSimStep", unfollowed := true, recurses := true, plainKeys := false, apart := false, narrowed := true }
def FnExactSimStepUptoSaid : Prop := fnExactSimStepUptoRow.holds Tryz.pinned (OpenSpec.upto fnExactSimStepSpec)

end Rows
end Go.Proofs.YtbcemldiahghcaaGreat
