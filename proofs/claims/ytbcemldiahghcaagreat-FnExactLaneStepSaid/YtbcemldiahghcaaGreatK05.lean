/- Texts joined: Draw1, Draw2, Spc1. -/
import Derived.Test.YtbcemldiahghcaaGreatK04
import Derived.Test.YtbcemldiahghcaaGreatK01
namespace Go.Proofs.YtbcemldiahghcaaGreat
set_option linter.unusedVariables false
set_option linter.unusedSimpArgs false
set_option maxRecDepth 100000
open Go.RowKit

theorem Rd.take {α : Type} {d : Ty α} {w : World} {F : Nat → Prop} {A : Option Addr} {n c : Nat} {xs : List α} (h : Rd d w F (.slice A n c) xs) (k : Nat) (hk : k ≤ xs.length) : Rd d w F (.slice A k c) (xs.take k) := by
  obtain ⟨A', c', he, h1, h2, h3⟩ := h
  injection he with hA hn hc
  subst hA hc
  have hl : (xs.take k).length = k := by simp; omega
  refine ⟨A, c, by rw [hl], by omega, by omega, fun hp => ?_⟩
  obtain ⟨b, o, rfl, hF, hlt, hc⟩ := h3 (by omega)
  refine ⟨b, o, rfl, hF, hlt, fun j x hj => hc j x ?_⟩
  rw [List.getElem?_take] at hj
  split at hj
  · exact hj
  · cases hj
theorem cells5 {w : World} {s : Nat} {t : TypeId} {a b c d e : Value} (h : w.heap[s]? = some (.cells #[a, b, c, d, e] t (0, 0))) :
    w.cell? ⟨s, 0, none⟩ = some a ∧ w.cell? ⟨s, 1, none⟩ = some b ∧ w.cell? ⟨s, 2, none⟩ = some c ∧ w.cell? ⟨s, 3, none⟩ = some d ∧ w.cell? ⟨s, 4, none⟩ = some e ∧ ∀ i, w.frozen? ⟨s, i, none⟩ = false :=
  ⟨blk_cell h 0, blk_cell h 1, blk_cell h 2, blk_cell h 3, blk_cell h 4, blk_frozen h⟩
def opAgg (o : OpD) : Value := .agg #[.int .i64 o.d, .int .i64 o.a, .int .i64 o.b, .int .i64 o.c, .int .i64 o.e]
end Go.Proofs.YtbcemldiahghcaaGreat

namespace Go.Proofs.YtbcemldiahghcaaGreat
set_option linter.unusedVariables false
set_option linter.unusedSimpArgs false
set_option maxRecDepth 100000
open Go.RowKit

theorem below_heap {B k : Nat} {w w' : World} {o : Obj} (h : Below B w w') (hk : k < B) (ho : w.heap[k]? = some o) : w'.heap[k]? = some o := (h.block k hk).trans ho
def evAgg (e : EvD) : Value := .agg #[.int .i64 e.time, .int .i64 e.to, .int .i64 e.from_, .int .i64 e.count, .int .i64 e.n, .int .i64 e.kind, .int .i64 e.arg]
theorem cells7 {w : World} {s : Nat} {t : TypeId} {a b c d e f g : Value} (h : w.heap[s]? = some (.cells #[a, b, c, d, e, f, g] t (0, 0))) :
    (w.cell? ⟨s, 0, none⟩ = some a ∧ w.cell? ⟨s, 1, none⟩ = some b ∧ w.cell? ⟨s, 2, none⟩ = some c ∧ w.cell? ⟨s, 3, none⟩ = some d ∧ w.cell? ⟨s, 4, none⟩ = some e ∧ w.cell? ⟨s, 5, none⟩ = some f ∧ w.cell? ⟨s, 6, none⟩ = some g) ∧ ∀ i, w.frozen? ⟨s, i, none⟩ = false :=
  ⟨⟨blk_cell h 0, blk_cell h 1, blk_cell h 2, blk_cell h 3, blk_cell h 4, blk_cell h 5, blk_cell h 6⟩, blk_frozen h⟩
end Go.Proofs.YtbcemldiahghcaaGreat

namespace Go.Proofs.YtbcemldiahghcaaGreat
set_option linter.unusedVariables false
set_option linter.unusedSimpArgs false
set_option maxRecDepth 100000
open Go.RowKit
def outAgg (o : OutD) : Value := .agg #[.int .i64 o.time, .int .i64 o.proc, .int .i64 o.count, .int .i64 o.n, .int .i64 o.value]
set_option maxHeartbeats 2000000 in
theorem EventLess_c (a b : EvD) (w : World) : Calls Tryz.prog 98 #[evAgg a, evAgg b] w fun q w' => q = .returned (.bool (evLess a b)) ∧ Below w.heap.size w w' := by
  unfold evAgg
  by_cases h0 : a.time = b.time
  · have g0 : (a.time != b.time) = false := by simp [h0]
    by_cases h1 : a.to = b.to
    · have g1 : (a.to != b.to) = false := by simp [h1]
      by_cases h2 : a.from_ = b.from_
      · have g2 : (a.from_ != b.from_) = false := by simp [h2]
        by_cases h3 : a.count = b.count
        · have g3 : (a.count != b.count) = false := by simp [h3]
          by_cases h4 : a.n = b.n
          · have g4 : (a.n != b.n) = false := by simp [h4]
            by_cases h5 : a.kind = b.kind
            · have g5 : (a.kind != b.kind) = false := by simp [h5]
              have HE := hid (show evLess a b = decide (a.arg < b.arg) by simp [evLess, EvD.key, lexLt, h0, h1, h2, h3, h4, h5]; intro e; omega)
              clear h0 h1 h2 h3 h4 h5
              go_enter Tryz.func98, Tryz.ntmps98
              go_wp2_with fail
              go_ret
              exact ⟨by rw [HE.out]; rfl, by repeat (first | exact Below.refl _ _ | refine balloc ?_ _)⟩
            · have g5 : (a.kind != b.kind) = true := by simp [h5]
              have HE := hid (show evLess a b = decide (a.kind < b.kind) by simp [evLess, EvD.key, lexLt, h0, h1, h2, h3, h4, h5])
              clear h0 h1 h2 h3 h4 h5
              go_enter Tryz.func98, Tryz.ntmps98
              go_wp2_with fail
              go_ret
              exact ⟨by rw [HE.out]; rfl, by repeat (first | exact Below.refl _ _ | refine balloc ?_ _)⟩
          · have g4 : (a.n != b.n) = true := by simp [h4]
            have HE := hid (show evLess a b = decide (a.n < b.n) by simp [evLess, EvD.key, lexLt, h0, h1, h2, h3, h4])
            clear h0 h1 h2 h3 h4
            go_enter Tryz.func98, Tryz.ntmps98
            go_wp2_with fail
            go_ret
            exact ⟨by rw [HE.out]; rfl, by repeat (first | exact Below.refl _ _ | refine balloc ?_ _)⟩
        · have g3 : (a.count != b.count) = true := by simp [h3]
          have HE := hid (show evLess a b = decide (a.count < b.count) by simp [evLess, EvD.key, lexLt, h0, h1, h2, h3])
          clear h0 h1 h2 h3
          go_enter Tryz.func98, Tryz.ntmps98
          go_wp2_with fail
          go_ret
          exact ⟨by rw [HE.out]; rfl, by repeat (first | exact Below.refl _ _ | refine balloc ?_ _)⟩
      · have g2 : (a.from_ != b.from_) = true := by simp [h2]
        have HE := hid (show evLess a b = decide (a.from_ < b.from_) by simp [evLess, EvD.key, lexLt, h0, h1, h2])
        clear h0 h1 h2
        go_enter Tryz.func98, Tryz.ntmps98
        go_wp2_with fail
        go_ret
        exact ⟨by rw [HE.out]; rfl, by repeat (first | exact Below.refl _ _ | refine balloc ?_ _)⟩
    · have g1 : (a.to != b.to) = true := by simp [h1]
      have HE := hid (show evLess a b = decide (a.to < b.to) by simp [evLess, EvD.key, lexLt, h0, h1])
      clear h0 h1
      go_enter Tryz.func98, Tryz.ntmps98
      go_wp2_with fail
      go_ret
      exact ⟨by rw [HE.out]; rfl, by repeat (first | exact Below.refl _ _ | refine balloc ?_ _)⟩
  · have g0 : (a.time != b.time) = true := by simp [h0]
    have HE := hid (show evLess a b = decide (a.time < b.time) by simp [evLess, EvD.key, lexLt, h0])
    clear h0
    go_enter Tryz.func98, Tryz.ntmps98
    go_wp2_with fail
    go_ret
    exact ⟨by rw [HE.out]; rfl, by repeat (first | exact Below.refl _ _ | refine balloc ?_ _)⟩
set_option maxHeartbeats 2000000 in
theorem OutLess_c (a b : OutD) (w : World) : Calls Tryz.prog 101 #[outAgg a, outAgg b] w fun q w' => q = .returned (.bool (outLess a b)) ∧ Below w.heap.size w w' := by
  unfold outAgg
  by_cases h0 : a.time = b.time
  · have g0 : (a.time != b.time) = false := by simp [h0]
    by_cases h1 : a.proc = b.proc
    · have g1 : (a.proc != b.proc) = false := by simp [h1]
      by_cases h2 : a.count = b.count
      · have g2 : (a.count != b.count) = false := by simp [h2]
        by_cases h3 : a.n = b.n
        · have g3 : (a.n != b.n) = false := by simp [h3]
          have HE := hid (show outLess a b = decide (a.value < b.value) by simp [outLess, OutD.key, lexLt, h0, h1, h2, h3]; intro e; omega)
          clear h0 h1 h2 h3
          go_enter Tryz.func101, Tryz.ntmps101
          go_wp2_with fail
          go_ret
          exact ⟨by rw [HE.out]; rfl, by repeat (first | exact Below.refl _ _ | refine balloc ?_ _)⟩
        · have g3 : (a.n != b.n) = true := by simp [h3]
          have HE := hid (show outLess a b = decide (a.n < b.n) by simp [outLess, OutD.key, lexLt, h0, h1, h2, h3])
          clear h0 h1 h2 h3
          go_enter Tryz.func101, Tryz.ntmps101
          go_wp2_with fail
          go_ret
          exact ⟨by rw [HE.out]; rfl, by repeat (first | exact Below.refl _ _ | refine balloc ?_ _)⟩
      · have g2 : (a.count != b.count) = true := by simp [h2]
        have HE := hid (show outLess a b = decide (a.count < b.count) by simp [outLess, OutD.key, lexLt, h0, h1, h2])
        clear h0 h1 h2
        go_enter Tryz.func101, Tryz.ntmps101
        go_wp2_with fail
        go_ret
        exact ⟨by rw [HE.out]; rfl, by repeat (first | exact Below.refl _ _ | refine balloc ?_ _)⟩
    · have g1 : (a.proc != b.proc) = true := by simp [h1]
      have HE := hid (show outLess a b = decide (a.proc < b.proc) by simp [outLess, OutD.key, lexLt, h0, h1])
      clear h0 h1
      go_enter Tryz.func101, Tryz.ntmps101
      go_wp2_with fail
      go_ret
      exact ⟨by rw [HE.out]; rfl, by repeat (first | exact Below.refl _ _ | refine balloc ?_ _)⟩
  · have g0 : (a.time != b.time) = true := by simp [h0]
    have HE := hid (show outLess a b = decide (a.time < b.time) by simp [outLess, OutD.key, lexLt, h0])
    clear h0
    go_enter Tryz.func101, Tryz.ntmps101
    go_wp2_with fail
    go_ret
    exact ⟨by rw [HE.out]; rfl, by repeat (first | exact Below.refl _ _ | refine balloc ?_ _)⟩
end Go.Proofs.YtbcemldiahghcaaGreat
