/- Texts joined: Spc10, Imp11, Imp12. -/
import Derived.Test.YtbcemldiahghcaaGreatK26
import Derived.Test.YtbcemldiahghcaaGreatK08
import Derived.Test.YtbcemldiahghcaaGreatK14
import Derived.Test.YtbcemldiahghcaaGreatK17
import Derived.Test.YtbcemldiahghcaaGreatK07
import Derived.Lib.AppendZeros
namespace Go.Proofs.YtbcemldiahghcaaGreat
set_option linter.unusedVariables false
set_option linter.unusedSimpArgs false
set_option maxRecDepth 100000
open Go.RowKit
def stAgg3 (s : StD) : Value := .agg #[.int .i64 s.x, .int .i64 s.y, .int .i64 s.c]
/-- What the call of AppRun, and what hangs on it, hold. -/
def runN (t : TypeId) (xs : StD) (sends : List EvD) (outs : List OutD) : List HeldD :=
  [(12, [], fun _ v w F => ∃ sv ov, v = .tuple #[stAgg3 xs, sv, ov] ∧ Ow tEv 80 w F sv sends ∧ Ow tOut 128 w F ov outs),
   (17, [], fun _ v w F => ∃ g, v = .pointer (some ⟨g, 0, none⟩) ∧ F g ∧ w.heap[g]? = some (.cells #[.int .i64 0, .int .i64 0, .int .i64 0] t (0, 0))),
   (18, [17], fun ds _ w F => ∃ g, ds = [.pointer (some ⟨g, 0, none⟩)] ∧ F g ∧ w.heap[g]? = some (.cells #[.int .i64 xs.x, .int .i64 xs.y, .int .i64 xs.c] t (0, 0)))]
def tup3 (X v : Value) : Prop := ∃ b c, v = .tuple #[X, b, c]
def runP (X : Value) : List Known := [(12, [], fun _ v => tup3 X v), (13, [12], fun ds v => ds = [v] ∧ tup3 X v), (14, [13], fun _ v => v = X), (15, [13], fun ds v => ∀ a b c, ds = [.tuple #[a, b, c]] → v = b), (16, [13], fun ds v => ∀ a b c, ds = [.tuple #[a, b, c]] → v = c), (19, [15], fun ds v => ds = [v]), (20, [16], fun ds v => ds = [v])]
end Go.Proofs.YtbcemldiahghcaaGreat

namespace Go.Proofs.YtbcemldiahghcaaGreat
set_option linter.unusedVariables false
set_option linter.unusedSimpArgs false
set_option maxRecDepth 100000
open Go.RowKit
end Go.Proofs.YtbcemldiahghcaaGreat

namespace Go.Proofs.YtbcemldiahghcaaGreat
set_option linter.unusedVariables false
set_option linter.unusedSimpArgs false
set_option maxRecDepth 100000
open Go.RowKit
end Go.Proofs.YtbcemldiahghcaaGreat
