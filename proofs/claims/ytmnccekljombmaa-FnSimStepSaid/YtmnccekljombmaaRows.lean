/-
  No cell of these rows narrows 'for every input' (looked for: loops, veiled, ifaces, maps, wideKeys, modest, calm, conditions, laid).
  DERIVED. THE GIVEN ROWS OF THIS SEAT. 12 by the template 'for every input the law returns true; each argument reads behind the call as it read before'; 0 by the template 'total and deterministic' (their statements: YtmnccekljombmaaTotals.lean).
  GIVEN WITH THE SEED: the statements are not yours to turn. If you find one false, say at which input.
  Laid BY PROGRAM, IN A SANDBOX (cutbox-rows.mjs): the forced cells as the released guide's own fill.sh prints them over the translation 77ae9017a34aadaf… (all of the seat's roots in one cut). By AI agents, Wed Nov 11 2026. No macro, syntax, notation, axiom, sorry.
-/
import Derived.Test.YtmnccekljombmaaChecked
import GoSem.Claim
import GoSem.ClaimJoined
import GoSem.ClaimMapViews
import Derived.JoinedTies
import Derived.KernelRfl
namespace Go.Proofs.Ytmnccekljombmaa
/- THE CELL 'sum', in the pinned program and in every row, IS THE sha256 OF THE DUMP (.gsa) THAT YtmnccekljombmaaProg.lean LOADS. Nothing in Lean hashes anything: it is a label: what it is worth is what the hold of that sum in a sandbox is worth. -/
noncomputable def Try.pinned : Pinned := { name := "ytmnccekljombmaa", sum := "77ae9017a34aadaf414472703b8b7bc5d1a57bd9aef21f27677622790b30c542", checked := Try.checked }
namespace Rows
def none {H : Type} : Left H := { results := [], args := [] }

/-- 'laws.FnAppKind': WHATEVER THE INPUT: true; the input reads as it did. -/
def fnAppKindSpec : ChangeSpec := { name := "fnAppKind", fn := fun _ => fun
  | [d] => { results := [.lit (.bool true)], args := [d] }
  | _ => none }
def fnAppKindRow : OpenClaim := { program := "ytmnccekljombmaa", sum := "77ae9017a34aadaf414472703b8b7bc5d1a57bd9aef21f27677622790b30c542", func := "loop.example/slackwater/laws.FnAppKind", spec := "fnAppKind", unfollowed := true, recurses := true, plainKeys := false, apart := false }
def FnAppKindSaid : Prop := fnAppKindRow.holds Try.pinned (OpenSpec.ofChange fnAppKindSpec)

/-- ITS FALSE NEIGHBOUR: 'it returns false'. Refute it at one input. -/
def fnAppKindWrong : ChangeSpec := { name := "fnAppKind", fn := fun _ => fun
  | [d] => { results := [.lit (.bool false)], args := [d] }
  | _ => none }
def FnAppKindWrongFalsely : Prop := fnAppKindRow.holds Try.pinned (OpenSpec.ofChange fnAppKindWrong)

/-- 'laws.FnAppMost': WHATEVER THE INPUT: true; the input reads as it did. -/
def fnAppMostSpec : ChangeSpec := { name := "fnAppMost", fn := fun _ => fun
  | [d] => { results := [.lit (.bool true)], args := [d] }
  | _ => none }
def fnAppMostRow : OpenClaim := { program := "ytmnccekljombmaa", sum := "77ae9017a34aadaf414472703b8b7bc5d1a57bd9aef21f27677622790b30c542", func := "loop.example/slackwater/laws.FnAppMost", spec := "fnAppMost", unfollowed := true, recurses := true, plainKeys := false, apart := false }
def FnAppMostSaid : Prop := fnAppMostRow.holds Try.pinned (OpenSpec.ofChange fnAppMostSpec)

/-- ITS FALSE NEIGHBOUR: 'it returns false'. Refute it at one input. -/
def fnAppMostWrong : ChangeSpec := { name := "fnAppMost", fn := fun _ => fun
  | [d] => { results := [.lit (.bool false)], args := [d] }
  | _ => none }
def FnAppMostWrongFalsely : Prop := fnAppMostRow.holds Try.pinned (OpenSpec.ofChange fnAppMostWrong)

/-- 'laws.FnAppRun': WHATEVER THE INPUT: true; the input reads as it did. -/
def fnAppRunSpec : ChangeSpec := { name := "fnAppRun", fn := fun _ => fun
  | [d] => { results := [.lit (.bool true)], args := [d] }
  | _ => none }
def fnAppRunRow : OpenClaim := { program := "ytmnccekljombmaa", sum := "77ae9017a34aadaf414472703b8b7bc5d1a57bd9aef21f27677622790b30c542", func := "loop.example/slackwater/laws.FnAppRun", spec := "fnAppRun", unfollowed := true, recurses := true, plainKeys := false, apart := false }
def FnAppRunSaid : Prop := fnAppRunRow.holds Try.pinned (OpenSpec.ofChange fnAppRunSpec)

/-- ITS FALSE NEIGHBOUR: 'it returns false'. Refute it at one input. -/
def fnAppRunWrong : ChangeSpec := { name := "fnAppRun", fn := fun _ => fun
  | [d] => { results := [.lit (.bool false)], args := [d] }
  | _ => none }
def FnAppRunWrongFalsely : Prop := fnAppRunRow.holds Try.pinned (OpenSpec.ofChange fnAppRunWrong)

/-- 'laws.FnAppShift': WHATEVER THE INPUT: true; the input reads as it did. -/
def fnAppShiftSpec : ChangeSpec := { name := "fnAppShift", fn := fun _ => fun
  | [d] => { results := [.lit (.bool true)], args := [d] }
  | _ => none }
def fnAppShiftRow : OpenClaim := { program := "ytmnccekljombmaa", sum := "77ae9017a34aadaf414472703b8b7bc5d1a57bd9aef21f27677622790b30c542", func := "loop.example/slackwater/laws.FnAppShift", spec := "fnAppShift", unfollowed := true, recurses := true, plainKeys := false, apart := false }
def FnAppShiftSaid : Prop := fnAppShiftRow.holds Try.pinned (OpenSpec.ofChange fnAppShiftSpec)

/-- ITS FALSE NEIGHBOUR: 'it returns false'. Refute it at one input. -/
def fnAppShiftWrong : ChangeSpec := { name := "fnAppShift", fn := fun _ => fun
  | [d] => { results := [.lit (.bool false)], args := [d] }
  | _ => none }
def FnAppShiftWrongFalsely : Prop := fnAppShiftRow.holds Try.pinned (OpenSpec.ofChange fnAppShiftWrong)

/-- 'laws.FnExactAppRun': WHATEVER THE INPUT: true; the input reads as it did. -/
def fnExactAppRunSpec : ChangeSpec := { name := "fnExactAppRun", fn := fun _ => fun
  | [d1, d2, d3] => { results := [.lit (.bool true)], args := [d1, d2, d3] }
  | _ => none }
def fnExactAppRunRow : OpenClaim := { program := "ytmnccekljombmaa", sum := "77ae9017a34aadaf414472703b8b7bc5d1a57bd9aef21f27677622790b30c542", func := "loop.example/slackwater/laws.FnExactAppRun", spec := "fnExactAppRun", unfollowed := true, recurses := true, plainKeys := false, apart := false }
def FnExactAppRunSaid : Prop := fnExactAppRunRow.holds Try.pinned (OpenSpec.ofChange fnExactAppRunSpec)

/-- ITS FALSE NEIGHBOUR: 'it returns false'. Refute it at one input. -/
def fnExactAppRunWrong : ChangeSpec := { name := "fnExactAppRun", fn := fun _ => fun
  | [d1, d2, d3] => { results := [.lit (.bool false)], args := [d1, d2, d3] }
  | _ => none }
def FnExactAppRunWrongFalsely : Prop := fnExactAppRunRow.holds Try.pinned (OpenSpec.ofChange fnExactAppRunWrong)

/-- 'laws.FnSimFirst': WHATEVER THE INPUT: true; the input reads as it did. -/
def fnSimFirstSpec : ChangeSpec := { name := "fnSimFirst", fn := fun _ => fun
  | [d] => { results := [.lit (.bool true)], args := [d] }
  | _ => none }
def fnSimFirstRow : OpenClaim := { program := "ytmnccekljombmaa", sum := "77ae9017a34aadaf414472703b8b7bc5d1a57bd9aef21f27677622790b30c542", func := "loop.example/slackwater/laws.FnSimFirst", spec := "fnSimFirst", unfollowed := true, recurses := true, plainKeys := false, apart := false }
def FnSimFirstSaid : Prop := fnSimFirstRow.holds Try.pinned (OpenSpec.ofChange fnSimFirstSpec)

/-- ITS FALSE NEIGHBOUR: 'it returns false'. Refute it at one input. -/
def fnSimFirstWrong : ChangeSpec := { name := "fnSimFirst", fn := fun _ => fun
  | [d] => { results := [.lit (.bool false)], args := [d] }
  | _ => none }
def FnSimFirstWrongFalsely : Prop := fnSimFirstRow.holds Try.pinned (OpenSpec.ofChange fnSimFirstWrong)

/-- 'laws.FnSimEnd': WHATEVER THE INPUT: true; the input reads as it did. -/
def fnSimEndSpec : ChangeSpec := { name := "fnSimEnd", fn := fun _ => fun
  | [d] => { results := [.lit (.bool true)], args := [d] }
  | _ => none }
def fnSimEndRow : OpenClaim := { program := "ytmnccekljombmaa", sum := "77ae9017a34aadaf414472703b8b7bc5d1a57bd9aef21f27677622790b30c542", func := "loop.example/slackwater/laws.FnSimEnd", spec := "fnSimEnd", unfollowed := true, recurses := true, plainKeys := false, apart := false }
def FnSimEndSaid : Prop := fnSimEndRow.holds Try.pinned (OpenSpec.ofChange fnSimEndSpec)

/-- ITS FALSE NEIGHBOUR: 'it returns false'. Refute it at one input. -/
def fnSimEndWrong : ChangeSpec := { name := "fnSimEnd", fn := fun _ => fun
  | [d] => { results := [.lit (.bool false)], args := [d] }
  | _ => none }
def FnSimEndWrongFalsely : Prop := fnSimEndRow.holds Try.pinned (OpenSpec.ofChange fnSimEndWrong)

/-- 'laws.FnSimOuts': WHATEVER THE INPUT: true; the input reads as it did. -/
def fnSimOutsSpec : ChangeSpec := { name := "fnSimOuts", fn := fun _ => fun
  | [d] => { results := [.lit (.bool true)], args := [d] }
  | _ => none }
def fnSimOutsRow : OpenClaim := { program := "ytmnccekljombmaa", sum := "77ae9017a34aadaf414472703b8b7bc5d1a57bd9aef21f27677622790b30c542", func := "loop.example/slackwater/laws.FnSimOuts", spec := "fnSimOuts", unfollowed := true, recurses := true, plainKeys := false, apart := false }
def FnSimOutsSaid : Prop := fnSimOutsRow.holds Try.pinned (OpenSpec.ofChange fnSimOutsSpec)

/-- ITS FALSE NEIGHBOUR: 'it returns false'. Refute it at one input. -/
def fnSimOutsWrong : ChangeSpec := { name := "fnSimOuts", fn := fun _ => fun
  | [d] => { results := [.lit (.bool false)], args := [d] }
  | _ => none }
def FnSimOutsWrongFalsely : Prop := fnSimOutsRow.holds Try.pinned (OpenSpec.ofChange fnSimOutsWrong)

/-- 'laws.FnSimTimes': WHATEVER THE INPUT: true; the input reads as it did. -/
def fnSimTimesSpec : ChangeSpec := { name := "fnSimTimes", fn := fun _ => fun
  | [d] => { results := [.lit (.bool true)], args := [d] }
  | _ => none }
def fnSimTimesRow : OpenClaim := { program := "ytmnccekljombmaa", sum := "77ae9017a34aadaf414472703b8b7bc5d1a57bd9aef21f27677622790b30c542", func := "loop.example/slackwater/laws.FnSimTimes", spec := "fnSimTimes", unfollowed := true, recurses := true, plainKeys := false, apart := false }
def FnSimTimesSaid : Prop := fnSimTimesRow.holds Try.pinned (OpenSpec.ofChange fnSimTimesSpec)

/-- ITS FALSE NEIGHBOUR: 'it returns false'. Refute it at one input. -/
def fnSimTimesWrong : ChangeSpec := { name := "fnSimTimes", fn := fun _ => fun
  | [d] => { results := [.lit (.bool false)], args := [d] }
  | _ => none }
def FnSimTimesWrongFalsely : Prop := fnSimTimesRow.holds Try.pinned (OpenSpec.ofChange fnSimTimesWrong)

/-- 'laws.FnSimCount': WHATEVER THE INPUT: true; the input reads as it did. -/
def fnSimCountSpec : ChangeSpec := { name := "fnSimCount", fn := fun _ => fun
  | [d] => { results := [.lit (.bool true)], args := [d] }
  | _ => none }
def fnSimCountRow : OpenClaim := { program := "ytmnccekljombmaa", sum := "77ae9017a34aadaf414472703b8b7bc5d1a57bd9aef21f27677622790b30c542", func := "loop.example/slackwater/laws.FnSimCount", spec := "fnSimCount", unfollowed := true, recurses := true, plainKeys := false, apart := false }
def FnSimCountSaid : Prop := fnSimCountRow.holds Try.pinned (OpenSpec.ofChange fnSimCountSpec)

/-- ITS FALSE NEIGHBOUR: 'it returns false'. Refute it at one input. -/
def fnSimCountWrong : ChangeSpec := { name := "fnSimCount", fn := fun _ => fun
  | [d] => { results := [.lit (.bool false)], args := [d] }
  | _ => none }
def FnSimCountWrongFalsely : Prop := fnSimCountRow.holds Try.pinned (OpenSpec.ofChange fnSimCountWrong)

/-- 'laws.FnSimRun': WHATEVER THE INPUT: true; the input reads as it did. -/
def fnSimRunSpec : ChangeSpec := { name := "fnSimRun", fn := fun _ => fun
  | [d1, d2] => { results := [.lit (.bool true)], args := [d1, d2] }
  | _ => none }
def fnSimRunRow : OpenClaim := { program := "ytmnccekljombmaa", sum := "77ae9017a34aadaf414472703b8b7bc5d1a57bd9aef21f27677622790b30c542", func := "loop.example/slackwater/laws.FnSimRun", spec := "fnSimRun", unfollowed := true, recurses := true, plainKeys := false, apart := false }
def FnSimRunSaid : Prop := fnSimRunRow.holds Try.pinned (OpenSpec.ofChange fnSimRunSpec)

/-- ITS FALSE NEIGHBOUR: 'it returns false'. Refute it at one input. -/
def fnSimRunWrong : ChangeSpec := { name := "fnSimRun", fn := fun _ => fun
  | [d1, d2] => { results := [.lit (.bool false)], args := [d1, d2] }
  | _ => none }
def FnSimRunWrongFalsely : Prop := fnSimRunRow.holds Try.pinned (OpenSpec.ofChange fnSimRunWrong)

/-- 'laws.FnSimStep': WHATEVER THE INPUT: true; the input reads as it did. -/
def fnSimStepSpec : ChangeSpec := { name := "fnSimStep", fn := fun _ => fun
  | [d] => { results := [.lit (.bool true)], args := [d] }
  | _ => none }
def fnSimStepRow : OpenClaim := { program := "ytmnccekljombmaa", sum := "77ae9017a34aadaf414472703b8b7bc5d1a57bd9aef21f27677622790b30c542", func := "loop.example/slackwater/laws.FnSimStep", spec := "fnSimStep", unfollowed := true, recurses := true, plainKeys := false, apart := false }
def FnSimStepSaid : Prop := fnSimStepRow.holds Try.pinned (OpenSpec.ofChange fnSimStepSpec)

/-- ITS FALSE NEIGHBOUR: 'it returns false'. Refute it at one input. -/
def fnSimStepWrong : ChangeSpec := { name := "fnSimStep", fn := fun _ => fun
  | [d] => { results := [.lit (.bool false)], args := [d] }
  | _ => none }
def FnSimStepWrongFalsely : Prop := fnSimStepRow.holds Try.pinned (OpenSpec.ofChange fnSimStepWrong)

/- THE SECOND FORM. 'bulk': how many values and letters a reading holds, each counted each time it is reached (what is shared counts as often as it is met; a slice's spare places count too). A statement '..UptoSaid' is the law's where the arguments, and the package variables that the reading takes, are together of bulk at most 1048576: NARROWER than '..Said'. Prove '..Said' where nothing that the law and all that it calls make is longer than what came in: it says more and counts as full. Else prove '..UptoSaid'. A law counts once. -/
mutual
def uptoBulk {H : Type} : DataW H → Nat
  | .lit (.string bytes) => bytes.length + 1
  | .lit _ => 1
  | .nil => 1
  | .ptr d => uptoBulk d + 1
  | .slice elems spare => uptoBulkAll elems + uptoBulkAll spare + 1
  | .agg parts => uptoBulkAll parts + 1
  | .iface _ d => uptoBulk d + 1
  | .map entries => uptoBulkEntries entries + 1
  | .held _ => 1
def uptoBulkAll {H : Type} : List (DataW H) → Nat
  | [] => 0
  | d :: r => uptoBulk d + uptoBulkAll r
def uptoBulkEntries {H : Type} : List (Lit × DataW H) → Nat
  | [] => 0
  | x :: r => uptoBulkEntry x + uptoBulkEntries r
def uptoBulkEntry {H : Type} : Lit × DataW H → Nat
  | (.string bytes, d) => bytes.length + uptoBulk d + 1
  | (_, d) => uptoBulk d + 1
 end
def uptoSmall : (H : Type) → List (DataW H) → Bool := fun _ ds => decide (uptoBulkAll ds ≤ 1048576)
def OpenSpec.upto (s : _root_.Go.ChangeSpec) : _root_.Go.OpenSpec := { _root_.Go.OpenSpec.ofChange s with cond := some uptoSmall }

/-- 'laws.FnAppKind', WHERE WHAT IT READS IS OF BULK AT MOST 1048576: true; the input reads as it did. -/
def fnAppKindUptoRow : OpenClaim := { program := "ytmnccekljombmaa", sum := "77ae9017a34aadaf414472703b8b7bc5d1a57bd9aef21f27677622790b30c542", func := "loop.example/slackwater/laws.FnAppKind", spec := "fnAppKind", unfollowed := true, recurses := true, plainKeys := false, apart := false, narrowed := true }
def FnAppKindUptoSaid : Prop := fnAppKindUptoRow.holds Try.pinned (OpenSpec.upto fnAppKindSpec)

/-- 'laws.FnAppMost', WHERE WHAT IT READS IS OF BULK AT MOST 1048576: true; the input reads as it did. -/
def fnAppMostUptoRow : OpenClaim := { program := "ytmnccekljombmaa", sum := "77ae9017a34aadaf414472703b8b7bc5d1a57bd9aef21f27677622790b30c542", func := "loop.example/slackwater/laws.FnAppMost", spec := "fnAppMost", unfollowed := true, recurses := true, plainKeys := false, apart := false, narrowed := true }
def FnAppMostUptoSaid : Prop := fnAppMostUptoRow.holds Try.pinned (OpenSpec.upto fnAppMostSpec)

/-- 'laws.FnAppRun', WHERE WHAT IT READS IS OF BULK AT MOST 1048576: true; the input reads as it did. -/
def fnAppRunUptoRow : OpenClaim := { program := "ytmnccekljombmaa", sum := "77ae9017a34aadaf414472703b8b7bc5d1a57bd9aef21f27677622790b30c542", func := "loop.example/slackwater/laws.FnAppRun", spec := "fnAppRun", unfollowed := true, recurses := true, plainKeys := false, apart := false, narrowed := true }
def FnAppRunUptoSaid : Prop := fnAppRunUptoRow.holds Try.pinned (OpenSpec.upto fnAppRunSpec)

/-- 'laws.FnAppShift', WHERE WHAT IT READS IS OF BULK AT MOST 1048576: true; the input reads as it did. -/
def fnAppShiftUptoRow : OpenClaim := { program := "ytmnccekljombmaa", sum := "77ae9017a34aadaf414472703b8b7bc5d1a57bd9aef21f27677622790b30c542", func := "loop.example/slackwater/laws.FnAppShift", spec := "fnAppShift", unfollowed := true, recurses := true, plainKeys := false, apart := false, narrowed := true }
def FnAppShiftUptoSaid : Prop := fnAppShiftUptoRow.holds Try.pinned (OpenSpec.upto fnAppShiftSpec)

/-- 'laws.FnExactAppRun', WHERE WHAT IT READS IS OF BULK AT MOST 1048576: true; the input reads as it did. -/
def fnExactAppRunUptoRow : OpenClaim := { program := "ytmnccekljombmaa", sum := "77ae9017a34aadaf414472703b8b7bc5d1a57bd9aef21f27677622790b30c542", func := "loop.example/slackwater/laws.FnExactAppRun", spec := "fnExactAppRun", unfollowed := true, recurses := true, plainKeys := false, apart := false, narrowed := true }
def FnExactAppRunUptoSaid : Prop := fnExactAppRunUptoRow.holds Try.pinned (OpenSpec.upto fnExactAppRunSpec)

/-- 'laws.FnSimFirst', WHERE WHAT IT READS IS OF BULK AT MOST 1048576: true; the input reads as it did. -/
def fnSimFirstUptoRow : OpenClaim := { program := "ytmnccekljombmaa", sum := "77ae9017a34aadaf414472703b8b7bc5d1a57bd9aef21f27677622790b30c542", func := "loop.example/slackwater/laws.FnSimFirst", spec := "fnSimFirst", unfollowed := true, recurses := true, plainKeys := false, apart := false, narrowed := true }
def FnSimFirstUptoSaid : Prop := fnSimFirstUptoRow.holds Try.pinned (OpenSpec.upto fnSimFirstSpec)

/-- 'laws.FnSimEnd', WHERE WHAT IT READS IS OF BULK AT MOST 1048576: true; the input reads as it did. -/
def fnSimEndUptoRow : OpenClaim := { program := "ytmnccekljombmaa", sum := "77ae9017a34aadaf414472703b8b7bc5d1a57bd9aef21f27677622790b30c542", func := "loop.example/slackwater/laws.FnSimEnd", spec := "fnSimEnd", unfollowed := true, recurses := true, plainKeys := false, apart := false, narrowed := true }
def FnSimEndUptoSaid : Prop := fnSimEndUptoRow.holds Try.pinned (OpenSpec.upto fnSimEndSpec)

/-- 'laws.FnSimOuts', WHERE WHAT IT READS IS OF BULK AT MOST 1048576: true; the input reads as it did. -/
def fnSimOutsUptoRow : OpenClaim := { program := "ytmnccekljombmaa", sum := "77ae9017a34aadaf414472703b8b7bc5d1a57bd9aef21f27677622790b30c542", func := "loop.example/slackwater/laws.FnSimOuts", spec := "fnSimOuts", unfollowed := true, recurses := true, plainKeys := false, apart := false, narrowed := true }
def FnSimOutsUptoSaid : Prop := fnSimOutsUptoRow.holds Try.pinned (OpenSpec.upto fnSimOutsSpec)

/-- 'laws.FnSimTimes', WHERE WHAT IT READS IS OF BULK AT MOST 1048576: true; the input reads as it did. -/
def fnSimTimesUptoRow : OpenClaim := { program := "ytmnccekljombmaa", sum := "77ae9017a34aadaf414472703b8b7bc5d1a57bd9aef21f27677622790b30c542", func := "loop.example/slackwater/laws.FnSimTimes", spec := "fnSimTimes", unfollowed := true, recurses := true, plainKeys := false, apart := false, narrowed := true }
def FnSimTimesUptoSaid : Prop := fnSimTimesUptoRow.holds Try.pinned (OpenSpec.upto fnSimTimesSpec)

/-- 'laws.FnSimCount', WHERE WHAT IT READS IS OF BULK AT MOST 1048576: true; the input reads as it did. -/
def fnSimCountUptoRow : OpenClaim := { program := "ytmnccekljombmaa", sum := "77ae9017a34aadaf414472703b8b7bc5d1a57bd9aef21f27677622790b30c542", func := "loop.example/slackwater/laws.FnSimCount", spec := "fnSimCount", unfollowed := true, recurses := true, plainKeys := false, apart := false, narrowed := true }
def FnSimCountUptoSaid : Prop := fnSimCountUptoRow.holds Try.pinned (OpenSpec.upto fnSimCountSpec)

/-- 'laws.FnSimRun', WHERE WHAT IT READS IS OF BULK AT MOST 1048576: true; the input reads as it did. -/
def fnSimRunUptoRow : OpenClaim := { program := "ytmnccekljombmaa", sum := "77ae9017a34aadaf414472703b8b7bc5d1a57bd9aef21f27677622790b30c542", func := "loop.example/slackwater/laws.FnSimRun", spec := "fnSimRun", unfollowed := true, recurses := true, plainKeys := false, apart := false, narrowed := true }
def FnSimRunUptoSaid : Prop := fnSimRunUptoRow.holds Try.pinned (OpenSpec.upto fnSimRunSpec)

/-- 'laws.FnSimStep', WHERE WHAT IT READS IS OF BULK AT MOST 1048576: true; the input reads as it did. -/
def fnSimStepUptoRow : OpenClaim := { program := "ytmnccekljombmaa", sum := "77ae9017a34aadaf414472703b8b7bc5d1a57bd9aef21f27677622790b30c542", func := "loop.example/slackwater/laws.FnSimStep", spec := "fnSimStep", unfollowed := true, recurses := true, plainKeys := false, apart := false, narrowed := true }
def FnSimStepUptoSaid : Prop := fnSimStepUptoRow.holds Try.pinned (OpenSpec.upto fnSimStepSpec)

end Rows
end Go.Proofs.Ytmnccekljombmaa
