/- FnExactTideOver: whatever the input, true: the card, tied to the program's text. -/
import Derived.Test.YtlndjfflhegkdaaGreatDoorCards
import Derived.Test.YtlndjfflhegkdaaGreatDoorTie
import Derived.Test.YtlndjfflhegkdaaGreatDoorQ52
set_option linter.unusedVariables false
set_option linter.unusedSimpArgs false
set_option linter.unusedSectionVars false
set_option maxHeartbeats 4000000
set_option maxRecDepth 100000
namespace Go.Proofs.YtlndjfflhegkdaaGreatDoor
open Go.RowKit
section
open Go.ChangeShapes Go.WideShapes Go.ChangeAt Go.RowKit
theorem fnExactTideOver_holds:Rows.FnExactTideOverCardSaid:=
 Claim7.holds_tied_plain_at .later [] [.sentinel,.sentinel,.sentinel,.sentinel,.sentinel,.sentinel] true Rows.fnExactTideOverCard.stood.harness false
  pN (fun _ h=>by cases h) gY (fun _ h=>by cases h) fnExactTideOver_row_tie rfl ⟨rfl,rfl⟩ gY rfl
  (fun f fn hf hfn=>by
   obtain rfl:f=3:=Option.some.inj ((show Tryz.prog.funcNamed "loop.example/slackwater/laws.FnExactTideOver" =some 3 by kernel_rfl).symm.trans hf) |>.symm;obtain rfl:fn=Tryz.f3:=(Option.some.inj (Tryz.func3.symm.trans hfn)).symm;exact⟨gY,fun j t ht=>by
    rw[Tryz.params3] at ht;have hm:t∈[29]:=by simpa using Array.mem_of_getElem? ht
    have a:([29].all fun u=>!Tryz.prog.wantsStandIn u)=true:=gY;exact(show Tryz.prog.wantsStandIn t=false by simpa using List.all_eq_true.1 a t hm)⟩)
  gY
#print axioms fnExactTideOver_holds
end
end Go.Proofs.YtlndjfflhegkdaaGreatDoor
