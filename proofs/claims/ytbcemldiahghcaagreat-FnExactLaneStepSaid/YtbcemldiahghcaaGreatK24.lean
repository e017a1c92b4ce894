/- Texts joined: Draw3, Draw4, Draw5. -/
import Derived.Test.YtbcemldiahghcaaGreatK08
import Derived.Test.YtbcemldiahghcaaGreatK09
import Derived.Test.YtbcemldiahghcaaGreatK06
import Derived.OwnWalk
import Derived.Deep.DeepCutAuto
import Derived.Test.YtbcemldiahghcaaGreatK23
namespace Go.Proofs.YtbcemldiahghcaaGreat
set_option linter.unusedVariables false
set_option linter.unusedSimpArgs false
set_option maxRecDepth 100000
open Go.RowKit

def RuleBig (r : RuleD) : Prop := r.ops.length ≤ 6
def AppBig (a : AppD) : Prop := a.rules.length = 3 ∧ ∀ r ∈ a.rules, RuleBig r
end Go.Proofs.YtbcemldiahghcaaGreat

namespace Go.Proofs.YtbcemldiahghcaaGreat
set_option linter.unusedVariables false
set_option linter.unusedSimpArgs false
set_option maxRecDepth 100000
open Go.RowKit
end Go.Proofs.YtbcemldiahghcaaGreat

namespace Go.Proofs.YtbcemldiahghcaaGreat
set_option linter.unusedVariables false
set_option linter.unusedSimpArgs false
set_option maxRecDepth 100000
open Go.RowKit
theorem cells3 {w : World} {s : Nat} {t : TypeId} {a b c : Value} (h : w.heap[s]? = some (.cells #[a, b, c] t (0, 0))) :
    w.cell? ⟨s, 0, none⟩ = some a ∧ w.cell? ⟨s, 1, none⟩ = some b ∧ w.cell? ⟨s, 2, none⟩ = some c ∧ ∀ i, w.frozen? ⟨s, i, none⟩ = false :=
  ⟨blk_cell h 0, blk_cell h 1, blk_cell h 2, blk_frozen h⟩
theorem store3 {w1 : World} {s : Nat} {t : TypeId} {z0 z1 z2 : Value} (hb : w1.heap[s]? = some (.cells #[z0, z1, z2] t (0, 0))) (a b c : Value) :
    (((w1.setCell ⟨s, 0, none⟩ a).setCell ⟨s, 1, none⟩ b).setCell ⟨s, 2, none⟩ c).heap[s]? = some (.cells #[a, b, c] t (0, 0)) :=
  blk_set (blk_set (blk_set hb 0 _) 1 _) 2 _
def stAgg (s : StD) : Value := .agg #[.int .i64 s.x, .int .i64 s.y, .int .i64 s.c]
def DrawnRun (w : World) (q : Ending) (w' : World) : Prop :=
  ∃ (v : Value) (a : AppD) (s : StD) (e : EvD), q = .returned (.tuple #[.agg #[v], stAgg s, evAgg e]) ∧ Rd tRule w' (fun k => w.heap.size ≤ k) v a.rules ∧ a.rules.length ≤ 4 ∧ (0 ≤ s.c ∧ s.c ≤ 12) ∧ Below w.heap.size w w'
end Go.Proofs.YtbcemldiahghcaaGreat
