/- Texts joined: Spc6, Spc7, Spc8. -/
import Derived.Test.YtlinephiindncaaJ11
import Derived.Test.YtlinephiindncaaJ10
import Derived.Test.YtlinephiindncaaJ04
namespace Go.Proofs.Ytlinephiindncaa
set_option linter.unusedVariables false
set_option linter.unusedSimpArgs false
set_option maxRecDepth 100000
open Go.RowKit
def BlkAt (g : Nat) (o : Obj) (w : World) : Prop := w.heap[g]? = some o
def firsts : List EvD := [appFirst 0, appFirst 1, appFirst 2, appFirst 3]
theorem firsts_snoc {k : Nat} (h : k < 4) : firsts.take k ++ [appFirst (k : Int)] = firsts.take (k + 1) := by
  match k, h with
  | 0, _ => rfl
  | 1, _ => rfl
  | 2, _ => rfl
  | 3, _ => rfl
theorem firsts_len {k : Nat} (h : k ≤ 4) : (firsts.take k).length = k := by simp [firsts]; omega
end Go.Proofs.Ytlinephiindncaa

namespace Go.Proofs.Ytlinephiindncaa
set_option linter.unusedVariables false
set_option linter.unusedSimpArgs false
set_option maxRecDepth 100000
open Go.RowKit
def copyN (s : SimD) : List (Nat × Held) := [(0, rowH tSt 30 []), (4, rowH tEv 40 []), (8, rowH tOut 77 []), (3, rowH tSt 30 s.states), (7, rowH tEv 40 s.queue), (11, rowH tOut 77 s.outs)]
end Go.Proofs.Ytlinephiindncaa

namespace Go.Proofs.Ytlinephiindncaa
set_option linter.unusedVariables false
set_option linter.unusedSimpArgs false
set_option maxRecDepth 100000
open Go.RowKit
def sortN (l : List OutD) (x : OutD) (m : Nat) : List (Nat × Held) := [(0, rowH tOut 77 []), (9, fun v w F => ∃ g, v = .slice (some ⟨g, 0, none⟩) 1 1 ∧ F g ∧ w.heap[g]? = some (.cells (OutD.cells x).toArray 77 (0, 0))), (4, rowH tOut 77 (l.take m)), (10, rowH tOut 77 (l.take m ++ [x])), (14, rowH tOut 77 (l.take m ++ [x] ++ l.drop m))]
end Go.Proofs.Ytlinephiindncaa
