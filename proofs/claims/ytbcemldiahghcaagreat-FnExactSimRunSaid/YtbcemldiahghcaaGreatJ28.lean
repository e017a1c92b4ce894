/- Texts joined: Draw3, Draw4, Draw5. -/
import Derived.Test.YtbcemldiahghcaaGreatJ03
import Derived.Test.YtbcemldiahghcaaGreatJ11
import Derived.Test.YtbcemldiahghcaaGreatJ06
import Derived.Test.YtbcemldiahghcaaGreatJ10
import Derived.OwnWalk
import Derived.Deep.DeepCutAuto
import Derived.Test.YtbcemldiahghcaaGreatJ27
namespace Go.Proofs.YtbcemldiahghcaaGreat
set_option linter.unusedVariables false
set_option linter.unusedSimpArgs false
set_option maxRecDepth 100000
open Go.RowKit

theorem chf_cells {w w' : World} (h : Ch (fun _ => False) w w') : (∀ b o, b < w.heap.size → w'.cell? ⟨b, o, none⟩ = w.cell? ⟨b, o, none⟩) ∧ (∀ b o, b < w.heap.size → w'.frozen? ⟨b, o, none⟩ = w.frozen? ⟨b, o, none⟩) :=
  ⟨fun b o hb => h.cells.1 b o hb (fun hf => hf), fun b o hb => h.cells.2 b o hb (fun hf => hf)⟩
theorem info_op : (Tryz.prog.info? 150).map (fun i => (i.zero, i.size, i.bytes)) = some (some (.agg #[.int .i64 0, .int .i64 0, .int .i64 0, .int .i64 0, .int .i64 0]), 5, 40) := by kernel_rfl
theorem info_rule : (Tryz.prog.info? 120).map (fun i => (i.zero, i.size, i.bytes)) = some (some (.agg #[.int .i64 0, .slice none 0 0]), 2, 32) := by kernel_rfl
theorem info_app : (Tryz.prog.info? 57).map (fun i => (i.zero, i.size, i.bytes)) = some (some (.agg #[.slice none 0 0]), 1, 24) := by kernel_rfl
def RuleBig (r : RuleD) : Prop := r.ops.length ≤ 6
def AppBig (a : AppD) : Prop := a.rules.length = 3 ∧ ∀ r ∈ a.rules, RuleBig r
end Go.Proofs.YtbcemldiahghcaaGreat

namespace Go.Proofs.YtbcemldiahghcaaGreat
set_option linter.unusedVariables false
set_option linter.unusedSimpArgs false
set_option maxRecDepth 100000
open Go.RowKit
theorem dec_eq_t {a b : Int} (h : a = b) : (a == b) = true := by simp [h]
theorem dec_eq_f {a b : Int} (h : a ≠ b) : (a == b) = false := by simp [h]
theorem put_cells {w3 w11 : World} {b p : Nat} {cur : Array Value} {t : TypeId} {vp u : Value} (h3 : w3.heap[b]? = some (.cells cur t (0, 0))) (h11 : w11.heap[b]? = some (.cells cur t (0, 0))) (hc : w3.cell? ⟨b, p, none⟩ = some vp) :
    (∀ o, o ≠ p → (w11.setCell ⟨b, p, none⟩ u).cell? ⟨b, o, none⟩ = w3.cell? ⟨b, o, none⟩) ∧ (w11.setCell ⟨b, p, none⟩ u).cell? ⟨b, p, none⟩ = some u := by
  have hs := blk_set h11 p u
  rw [blk_cell h3] at hc
  have hp : p < cur.size := (Array.getElem?_eq_some_iff.1 hc).1
  refine ⟨fun o ho => ?_, ?_⟩
  · rw [blk_cell hs, blk_cell h3, Array.getElem?_setIfInBounds_ne (Ne.symm ho)]
  · rw [blk_cell hs, Array.getElem?_setIfInBounds_self_of_lt hp]
/-- What a store into a block of one's own leaves. -/
theorem own_put {w w3 w11 : World} {g b : Nat} {S : Nat → Prop} (hC : Ch (fun k => k = g) w w3) (hS : Ch S w3 w11) (hSw : ∀ k, S k → k = g ∨ w.heap.size ≤ k) (hb : w.heap.size ≤ b) (p : Nat) (u : Value) : Ch (fun k => k = g) w (w11.setCell ⟨b, p, none⟩ u) :=
  Ch.setCell (S := fun k => k = g) (p := ⟨b, p, none⟩) (hC.then hS hSw) (Or.inr hb) u
theorem rd_two {W : World} {K : Nat} {t : TypeId} {fr : Nat × Nat} (y z : OpD) (h : W.heap[K]? = some (.cells #[.int .i64 y.d, .int .i64 y.a, .int .i64 y.b, .int .i64 y.c, .int .i64 y.e, .int .i64 z.d, .int .i64 z.a, .int .i64 z.b, .int .i64 z.c, .int .i64 z.e] t fr)) :
    Rd tOp W (fun k => k = K) (.slice (some ⟨K, 0, none⟩) 2 2) [y, z] := by
  refine ⟨_, 2, rfl, Nat.le_refl _, by simp, fun _ => ⟨K, 0, rfl, rfl, blk_lt h, fun j x hj => ?_⟩⟩
  have hz : tOp.sz = 5 := rfl
  match j with
  | 0 =>
    obtain rfl : y = x := by simpa using hj
    refine ⟨_, rfl, fun i u hi => ?_⟩
    have hi5 : i < 5 := (List.getElem?_eq_some_iff.1 hi).1
    rw [blk_cell h, hz]
    rcases (show i = 0 ∨ i = 1 ∨ i = 2 ∨ i = 3 ∨ i = 4 by omega) with rfl | rfl | rfl | rfl | rfl <;> exact hi
  | 1 =>
    obtain rfl : z = x := by simpa using hj
    refine ⟨_, rfl, fun i u hi => ?_⟩
    have hi5 : i < 5 := (List.getElem?_eq_some_iff.1 hi).1
    rw [blk_cell h, hz]
    rcases (show i = 0 ∨ i = 1 ∨ i = 2 ∨ i = 3 ∨ i = 4 by omega) with rfl | rfl | rfl | rfl | rfl <;> exact hi
  | j + 2 => simp at hj
end Go.Proofs.YtbcemldiahghcaaGreat

namespace Go.Proofs.YtbcemldiahghcaaGreat
set_option linter.unusedVariables false
set_option linter.unusedSimpArgs false
set_option maxRecDepth 100000
open Go.RowKit
theorem cells3 {w : World} {s : Nat} {t : TypeId} {a b c : Value} (h : w.heap[s]? = some (.cells #[a, b, c] t (0, 0))) :
    w.cell? ⟨s, 0, none⟩ = some a ∧ w.cell? ⟨s, 1, none⟩ = some b ∧ w.cell? ⟨s, 2, none⟩ = some c ∧ ∀ i, w.frozen? ⟨s, i, none⟩ = false :=
  ⟨blk_cell h 0, blk_cell h 1, blk_cell h 2, blk_frozen h⟩
theorem store3 {w1 : World} {s : Nat} {t : TypeId} {z0 z1 z2 : Value} (hb : w1.heap[s]? = some (.cells #[z0, z1, z2] t (0, 0))) (a b c : Value) :
    (((w1.setCell ⟨s, 0, none⟩ a).setCell ⟨s, 1, none⟩ b).setCell ⟨s, 2, none⟩ c).heap[s]? = some (.cells #[a, b, c] t (0, 0)) :=
  blk_set (blk_set (blk_set hb 0 _) 1 _) 2 _
def stAgg (s : StD) : Value := .agg #[.int .i64 s.x, .int .i64 s.y, .int .i64 s.c]
def DrawnRun (w : World) (q : Ending) (w' : World) : Prop :=
  ∃ (v : Value) (a : AppD) (s : StD) (e : EvD), q = .returned (.tuple #[.agg #[v], stAgg s, evAgg e]) ∧ Rd tRule w' (fun k => w.heap.size ≤ k) v a.rules ∧ a.rules.length ≤ 4 ∧ (0 ≤ s.c ∧ s.c ≤ 12) ∧ Below w.heap.size w w'
end Go.Proofs.YtbcemldiahghcaaGreat
