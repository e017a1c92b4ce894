/- What AppRun checks, and what it does where that panics. -/
import Derived.Test.YtmnccekljombmaaAct
import Derived.Test.YtmnccekljombmaaDraw5
import Derived.Defers
import Derived.Recover
import Derived.Laws.Pointers
set_option linter.unusedVariables false
set_option linter.unusedSimpArgs false
set_option maxRecDepth 100000
namespace Go.Proofs.Ytmnccekljombmaa
open Go.RowKit
def Checked (a : AppD) (s : StD) (e : EvD) (w : World) (q : Ending) (w' : World) : Prop :=
  (((appOk a && stOk s && evOk e) = true ∧ q = .returned (.tuple #[])) ∨ ((appOk a && stOk s && evOk e) = false ∧ ∃ k : Int, q = .panicked [{ v := .iface 128 (.agg #[.int .i64 k]), recovered := false }])) ∧ Below w.heap.size w w'
set_option maxHeartbeats 2000000 in
theorem checkRun_c (v : Value) (a : AppD) (s : StD) (e : EvD) (F : Nat → Prop) (w : World) (h : Rd tRule w F v a.rules) :
    Calls Try.prog 55 #[.agg #[v], .agg #[.int .i64 s.x, .int .i64 s.y, .int .i64 s.c], .agg #[.int .i64 e.time, .int .i64 e.to, .int .i64 e.from_, .int .i64 e.count, .int .i64 e.n, .int .i64 e.kind, .int .i64 e.arg]] w (Checked a s e w) := by
  obtain ⟨A, cp, rfl, -⟩ := id h
  go_enter Try.func55, Try.ntmps55
  go_wp2_with fail
  refine (appOk_c _ a _ _ (h.below (by repeat (first | exact Below.refl _ _ | refine balloc ?_ _)))).mono ?_
  rintro q w1 ⟨rfl, hb1⟩
  have B1 : w1.heap[w.heap.size + 1]? = some (.cells #[.int .i64 s.x, .int .i64 s.y, .int .i64 s.c] 27 (0, 0)) := (hb1.block (w.heap.size + 1) (by simp)).trans ((heap_old (by simp)).trans (heap_at (by simp)))
  have B2 : w1.heap[w.heap.size + 1 + 1]? = some (.cells #[.int .i64 e.time, .int .i64 e.to, .int .i64 e.from_, .int .i64 e.count, .int .i64 e.n, .int .i64 e.kind, .int .i64 e.arg] 29 (0, 0)) := (hb1.block (w.heap.size + 1 + 1) (by simp)).trans (heap_at (by simp))
  have B3 : Below w.heap.size w w1 := bthen' (by repeat (first | exact Below.refl _ _ | refine balloc ?_ _)) hb1
  clear hb1 h
  apply_assumption
  obtain ⟨a0, a1, a2, af⟩ := cells3 B1
  cases q1 : appOk a with
  | false =>
    go_wp2_with fail
    exact ⟨rfl, Or.inr ⟨by simp [q1], 1, rfl⟩, B3⟩
  | true =>
    go_wp2_with fail
    refine (stateOk_c s.x s.y s.c _).mono ?_
    rintro q w2 ⟨rfl, hb2⟩
    have B4 := (hb2.block (w.heap.size + 1 + 1) (blk_lt B2)).trans B2
    have B5 := bthen' B3 hb2
    clear B1 B2 B3 a0 a1 a2 af hb2
    apply_assumption
    obtain ⟨⟨b0, b1, b2, b3, b4, b5, b6⟩, bf⟩ := cells7 B4
    rw [show stOk ⟨s.x, s.y, s.c⟩ = stOk s from rfl]
    cases q2 : stOk s with
    | false =>
      go_wp2_with fail
      exact ⟨rfl, Or.inr ⟨by simp [q1, q2], 2, rfl⟩, B5⟩
    | true =>
      go_wp2_with fail
      refine (eventOk_c e.time e.to e.from_ e.count e.n e.kind e.arg _).mono ?_
      rintro q w3 ⟨rfl, hb3⟩
      have B6 := bthen' B5 hb3
      clear hb3 B4 b0 b1 b2 b3 b4 b5 b6 bf
      apply_assumption
      rw [show evOk ⟨e.time, e.to, e.from_, e.count, e.n, e.kind, e.arg⟩ = evOk e from rfl]
      cases q3 : evOk e with
      | false =>
        go_wp2_with fail
        exact ⟨rfl, Or.inr ⟨by simp [q1, q2, q3], 3, rfl⟩, B6⟩
      | true =>
        go_wp2_with fail
        go_end0
        exact ⟨Or.inl ⟨by simp [q1, q2, q3], rfl⟩, B6⟩
def wiped (w : World) (p q r : Nat) : World := ((((w.setCell ⟨p, 0, none⟩ (.int .i64 0)).setCell ⟨p, 1, none⟩ (.int .i64 0)).setCell ⟨p, 2, none⟩ (.int .i64 0)).setCell ⟨q, 0, none⟩ (.slice none 0 0)).setCell ⟨r, 0, none⟩ (.slice none 0 0)
theorem catch_panicking (p q r : Nat) (x y z v1 v2 : Value) (u : TypeId) (pv : Value) (older : List PanicEntry) (w : World) (hp : w.heap[p]? = some (.cells #[x, y, z] 27 (0, 0))) (hq : w.heap[q]? = some (.cells #[v1] 32 (0, 0))) (hr : w.heap[r]? = some (.cells #[v2] 33 (0, 0)))
    (hpq : p ≠ q) (hpr : p ≠ r) (hqr : q ≠ r) :
    CallsD Try.prog 54 #[.pointer (some ⟨p, 0, none⟩), .pointer (some ⟨q, 0, none⟩), .pointer (some ⟨r, 0, none⟩)] (.panicking ({ v := .iface u pv, recovered := false } :: older)) w fun e u' w' =>
      e = .returned (.tuple #[]) ∧ u' = .panicking ({ v := .iface u pv, recovered := true } :: older) ∧ w' = wiped w p q r := by
  refine callsD_of_wpS Try.func54 rfl fun c₀ cs hu => ?_
  apply wpS_seq
  apply wpS_region
  simp [wpOpsS, go_sem, recoverD, hu, Try.ntmps54, Exit.thenS]
  refine wpS_cond (t := true) (by simp [Act.eval, Array.replicate]) ?_
  simp only [if_true]
  refine wpS_of_wp ?_
  obtain ⟨p0, p1, p2, pf⟩ := cells3 hp
  have q0 := blk_cell hq 0
  have qf := blk_frozen hq 0
  have r0 := blk_cell hr 0
  have rf := blk_frozen hr 0
  simp at q0 r0
  have e1 : ¬ p = q := hpq
  have e2 : ¬ q = p := fun h => hpq h.symm
  have e3 : ¬ p = r := hpr
  have e4 : ¬ r = p := fun h => hpr h.symm
  have e5 : ¬ q = r := hqr
  have e6 : ¬ r = q := fun h => hqr h.symm
  go_wp2_with fail
  simp [bodyPostS, results, Try.results54, wiped]

theorem catch_idle (p q r : Value) (w : World) :
    CallsD Try.prog 54 #[p, q, r] .returning w fun e u' w' => e = .returned (.tuple #[]) ∧ u' = .returning ∧ w' = w := by
  refine callsD_of_wpS Try.func54 rfl fun c₀ cs hu => ?_
  apply wpS_seq
  apply wpS_region
  simp [wpOpsS, go_sem, recoverD, hu, Try.ntmps54, Exit.thenS]
  refine wpS_cond (t := false) (by simp [Act.eval, Array.replicate]) ?_
  simp only [Bool.false_eq_true, if_false]
  refine wpS_of_wp (wp_skip ?_)
  cases c₀
  simp_all [bodyPostS, results, Try.results54]
end Go.Proofs.Ytmnccekljombmaa
