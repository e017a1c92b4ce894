/- Texts joined: Rec, AppI, Spc6. -/
import Derived.Test.YtbcemldiahghcaaGreatK23
import Derived.Test.YtbcemldiahghcaaGreatK24
import Derived.Defers
import Derived.Recover
import Derived.Laws.Pointers
import Derived.Deep.DeepCutAuto
import Derived.Test.YtbcemldiahghcaaGreatK09
import Derived.Test.YtbcemldiahghcaaGreatK10
namespace Go.Proofs.YtbcemldiahghcaaGreat
set_option linter.unusedVariables false
set_option linter.unusedSimpArgs false
set_option maxRecDepth 100000
open Go.RowKit
def Checked (a : AppD) (s : StD) (e : EvD) (w : World) (q : Ending) (w' : World) : Prop :=
  (((appOk a && stOk s && evOk e) = true ∧ q = .returned (.tuple #[])) ∨ ((appOk a && stOk s && evOk e) = false ∧ ∃ k : Int, q = .panicked [{ v := .iface 206 (.agg #[.int .i64 k]), recovered := false }])) ∧ Below w.heap.size w w'
set_option maxHeartbeats 2000000 in
theorem checkRun_c (v : Value) (a : AppD) (s : StD) (e : EvD) (F : Nat → Prop) (w : World) (h : Rd tRule w F v a.rules) :
    Calls Tryz.prog 129 #[.agg #[v], .agg #[.int .i64 s.x, .int .i64 s.y, .int .i64 s.c], .agg #[.int .i64 e.time, .int .i64 e.to, .int .i64 e.from_, .int .i64 e.count, .int .i64 e.n, .int .i64 e.kind, .int .i64 e.arg]] w (Checked a s e w) := by
  obtain ⟨A, cp, rfl, -⟩ := id h
  go_enter Tryz.func129, Tryz.ntmps129
  go_wp2_with fail
  refine (appOk_c _ a _ _ (h.below (by repeat (first | exact Below.refl _ _ | refine balloc ?_ _)))).mono ?_
  rintro q w1 ⟨rfl, hb1⟩
  have B1 : w1.heap[w.heap.size + 1]? = some (.cells #[.int .i64 s.x, .int .i64 s.y, .int .i64 s.c] 49 (0, 0)) := (hb1.block (w.heap.size + 1) (by simp)).trans ((heap_old (by simp)).trans (heap_at (by simp)))
  have B2 : w1.heap[w.heap.size + 1 + 1]? = some (.cells #[.int .i64 e.time, .int .i64 e.to, .int .i64 e.from_, .int .i64 e.count, .int .i64 e.n, .int .i64 e.kind, .int .i64 e.arg] 80 (0, 0)) := (hb1.block (w.heap.size + 1 + 1) (by simp)).trans (heap_at (by simp))
  have B3 : Below w.heap.size w w1 := bthen' (by repeat (first | exact Below.refl _ _ | refine balloc ?_ _)) hb1
  clear hb1 h
  apply_assumption
  obtain ⟨a0, a1, a2, af⟩ := cells3 B1
  cases q1 : appOk a with
  | false =>
    go_wp2_with fail
    exact ⟨rfl, Or.inr ⟨by simp [q1], 1, rfl⟩, B3⟩
  | true =>
    go_wp2_with fail
    refine (stateOk_c s.x s.y s.c _).mono ?_
    rintro q w2 ⟨rfl, hb2⟩
    have B4 := (hb2.block (w.heap.size + 1 + 1) (blk_lt B2)).trans B2
    have B5 := bthen' B3 hb2
    clear B1 B2 B3 a0 a1 a2 af hb2
    apply_assumption
    obtain ⟨⟨b0, b1, b2, b3, b4, b5, b6⟩, bf⟩ := cells7 B4
    rw [show stOk ⟨s.x, s.y, s.c⟩ = stOk s from rfl]
    cases q2 : stOk s with
    | false =>
      go_wp2_with fail
      exact ⟨rfl, Or.inr ⟨by simp [q1, q2], 2, rfl⟩, B5⟩
    | true =>
      go_wp2_with fail
      refine (eventOk_c e.time e.to e.from_ e.count e.n e.kind e.arg _).mono ?_
      rintro q w3 ⟨rfl, hb3⟩
      have B6 := bthen' B5 hb3
      clear hb3 B4 b0 b1 b2 b3 b4 b5 b6 bf
      apply_assumption
      rw [show evOk ⟨e.time, e.to, e.from_, e.count, e.n, e.kind, e.arg⟩ = evOk e from rfl]
      cases q3 : evOk e with
      | false =>
        go_wp2_with fail
        exact ⟨rfl, Or.inr ⟨by simp [q1, q2, q3], 3, rfl⟩, B6⟩
      | true =>
        go_wp2_with fail
        go_end0
        exact ⟨Or.inl ⟨by simp [q1, q2, q3], rfl⟩, B6⟩
def wiped (w : World) (p q r : Nat) : World := ((((w.setCell ⟨p, 0, none⟩ (.int .i64 0)).setCell ⟨p, 1, none⟩ (.int .i64 0)).setCell ⟨p, 2, none⟩ (.int .i64 0)).setCell ⟨q, 0, none⟩ (.slice none 0 0)).setCell ⟨r, 0, none⟩ (.slice none 0 0)
theorem catch_panicking (p q r : Nat) (x y z v1 v2 : Value) (u : TypeId) (pv : Value) (older : List PanicEntry) (w : World) (hp : w.heap[p]? = some (.cells #[x, y, z] 49 (0, 0))) (hq : w.heap[q]? = some (.cells #[v1] 25 (0, 0))) (hr : w.heap[r]? = some (.cells #[v2] 26 (0, 0)))
    (hpq : p ≠ q) (hpr : p ≠ r) (hqr : q ≠ r) :
    CallsD Tryz.prog 128 #[.pointer (some ⟨p, 0, none⟩), .pointer (some ⟨q, 0, none⟩), .pointer (some ⟨r, 0, none⟩)] (.panicking ({ v := .iface u pv, recovered := false } :: older)) w fun e u' w' =>
      e = .returned (.tuple #[]) ∧ u' = .panicking ({ v := .iface u pv, recovered := true } :: older) ∧ w' = wiped w p q r := by
  refine callsD_of_wpS Tryz.func128 rfl fun c₀ cs hu => ?_
  apply wpS_seq
  apply wpS_region
  simp [wpOpsS, go_sem, recoverD, hu, Tryz.ntmps128, Exit.thenS]
  refine wpS_cond (t := true) (by simp [Act.eval, Array.replicate]) ?_
  simp only [if_true]
  refine wpS_of_wp ?_
  obtain ⟨p0, p1, p2, pf⟩ := cells3 hp
  have q0 := blk_cell hq 0
  have qf := blk_frozen hq 0
  have r0 := blk_cell hr 0
  have rf := blk_frozen hr 0
  simp at q0 r0
  have e1 : ¬ p = q := hpq
  have e2 : ¬ q = p := fun h => hpq h.symm
  have e3 : ¬ p = r := hpr
  have e4 : ¬ r = p := fun h => hpr h.symm
  have e5 : ¬ q = r := hqr
  have e6 : ¬ r = q := fun h => hqr h.symm
  go_wp2_with fail
  simp [bodyPostS, results, Tryz.results128, wiped]

theorem catch_idle (p q r : Value) (w : World) :
    CallsD Tryz.prog 128 #[p, q, r] .returning w fun e u' w' => e = .returned (.tuple #[]) ∧ u' = .returning ∧ w' = w := by
  refine callsD_of_wpS Tryz.func128 rfl fun c₀ cs hu => ?_
  apply wpS_seq
  apply wpS_region
  simp [wpOpsS, go_sem, recoverD, hu, Tryz.ntmps128, Exit.thenS]
  refine wpS_cond (t := false) (by simp [Act.eval, Array.replicate]) ?_
  simp only [Bool.false_eq_true, if_false]
  refine wpS_of_wp (wp_skip ?_)
  cases c₀
  simp_all [bodyPostS, results, Tryz.results128]
end Go.Proofs.YtbcemldiahghcaaGreat

namespace Go.Proofs.YtbcemldiahghcaaGreat
set_option linter.unusedVariables false
set_option linter.unusedSimpArgs false
set_option maxRecDepth 100000
open Go.RowKit
def resW (w : World) (p q r : Nat) (x y z sv ov : Value) : World := ((((w.setCell ⟨p, 0, none⟩ x).setCell ⟨p, 1, none⟩ y).setCell ⟨p, 2, none⟩ z).setCell ⟨q, 0, none⟩ sv).setCell ⟨r, 0, none⟩ ov
theorem resW_heap {w : World} {p q r : Nat} {x y z sv ov : Value} (k : Nat) (h1 : k ≠ p) (h2 : k ≠ q) (h3 : k ≠ r) : (resW w p q r x y z sv ov).heap[k]? = w.heap[k]? :=
  (Below.heap_setCell _ ⟨r, 0, none⟩ ov k h3).trans ((Below.heap_setCell _ ⟨q, 0, none⟩ sv k h2).trans ((Below.heap_setCell _ ⟨p, 2, none⟩ z k h1).trans ((Below.heap_setCell _ ⟨p, 1, none⟩ y k h1).trans (Below.heap_setCell _ ⟨p, 0, none⟩ x k h1))))
theorem resW_cells {w : World} {p q r : Nat} {x y z v1 v2 x' y' z' sv ov : Value} (hp : w.heap[p]? = some (.cells #[x, y, z] 49 (0, 0))) (hq : w.heap[q]? = some (.cells #[v1] 25 (0, 0))) (hr : w.heap[r]? = some (.cells #[v2] 26 (0, 0)))
    (hpq : p ≠ q) (hpr : p ≠ r) (hqr : q ≠ r) :
    (resW w p q r x' y' z' sv ov).cell? ⟨p, 0, none⟩ = some x' ∧ (resW w p q r x' y' z' sv ov).cell? ⟨p, 1, none⟩ = some y' ∧ (resW w p q r x' y' z' sv ov).cell? ⟨p, 2, none⟩ = some z' ∧ (resW w p q r x' y' z' sv ov).cell? ⟨q, 0, none⟩ = some sv ∧ (resW w p q r x' y' z' sv ov).cell? ⟨r, 0, none⟩ = some ov := by
  have hp3 := store3 hp x' y' z'
  have hp4 := (Below.heap_setCell _ ⟨r, 0, none⟩ ov p hpr).trans ((Below.heap_setCell _ ⟨q, 0, none⟩ sv p hpq).trans hp3)
  have hq3 := (Below.heap_setCell _ ⟨p, 2, none⟩ z' q (Ne.symm hpq)).trans ((Below.heap_setCell _ ⟨p, 1, none⟩ y' q (Ne.symm hpq)).trans ((Below.heap_setCell _ ⟨p, 0, none⟩ x' q (Ne.symm hpq)).trans hq))
  have hq4 := blk_set hq3 0 sv
  have hq5 := (Below.heap_setCell _ ⟨r, 0, none⟩ ov q hqr).trans hq4
  have hr3 := (Below.heap_setCell _ ⟨q, 0, none⟩ sv r (Ne.symm hqr)).trans ((Below.heap_setCell _ ⟨p, 2, none⟩ z' r (Ne.symm hpr)).trans ((Below.heap_setCell _ ⟨p, 1, none⟩ y' r (Ne.symm hpr)).trans ((Below.heap_setCell _ ⟨p, 0, none⟩ x' r (Ne.symm hpr)).trans hr)))
  have hr4 := blk_set hr3 0 ov
  exact ⟨blk_cell hp4 0, blk_cell hp4 1, blk_cell hp4 2, blk_cell hq5 0, blk_cell hr4 0⟩
theorem resW_below {w w1 : World} {p q r : Nat} {x y z sv ov : Value} (h : Below w.heap.size w w1) (hp : w.heap.size ≤ p) (hq : w.heap.size ≤ q) (hr : w.heap.size ≤ r) : Below w.heap.size w (resW w1 p q r x y z sv ov) :=
  ((((h.setCell (p := ⟨p, 0, none⟩) hp _).setCell (p := ⟨p, 1, none⟩) hp _).setCell (p := ⟨p, 2, none⟩) hp _).setCell (p := ⟨q, 0, none⟩) hq _).setCell (p := ⟨r, 0, none⟩) hr _
theorem wiped_cells {w : World} {p q r : Nat} {x y z v1 v2 : Value} (hp : w.heap[p]? = some (.cells #[x, y, z] 49 (0, 0))) (hq : w.heap[q]? = some (.cells #[v1] 25 (0, 0))) (hr : w.heap[r]? = some (.cells #[v2] 26 (0, 0)))
    (hpq : p ≠ q) (hpr : p ≠ r) (hqr : q ≠ r) :
    (wiped w p q r).cell? ⟨p, 0, none⟩ = some (.int .i64 0) ∧ (wiped w p q r).cell? ⟨p, 1, none⟩ = some (.int .i64 0) ∧ (wiped w p q r).cell? ⟨p, 2, none⟩ = some (.int .i64 0) ∧ (wiped w p q r).cell? ⟨q, 0, none⟩ = some (.slice none 0 0) ∧ (wiped w p q r).cell? ⟨r, 0, none⟩ = some (.slice none 0 0) := by
  have hp3 := store3 hp (.int .i64 0) (.int .i64 0) (.int .i64 0)
  have hp4 := (Below.heap_setCell _ ⟨r, 0, none⟩ (.slice none 0 0) p hpr).trans ((Below.heap_setCell _ ⟨q, 0, none⟩ (.slice none 0 0) p hpq).trans hp3)
  have hq3 := (Below.heap_setCell _ ⟨p, 2, none⟩ (.int .i64 0) q (Ne.symm hpq)).trans ((Below.heap_setCell _ ⟨p, 1, none⟩ (.int .i64 0) q (Ne.symm hpq)).trans ((Below.heap_setCell _ ⟨p, 0, none⟩ (.int .i64 0) q (Ne.symm hpq)).trans hq))
  have hq4 := blk_set hq3 0 (.slice none 0 0)
  have hq5 := (Below.heap_setCell _ ⟨r, 0, none⟩ (.slice none 0 0) q hqr).trans hq4
  have hr3 := (Below.heap_setCell _ ⟨q, 0, none⟩ (.slice none 0 0) r (Ne.symm hqr)).trans ((Below.heap_setCell _ ⟨p, 2, none⟩ (.int .i64 0) r (Ne.symm hpr)).trans ((Below.heap_setCell _ ⟨p, 1, none⟩ (.int .i64 0) r (Ne.symm hpr)).trans ((Below.heap_setCell _ ⟨p, 0, none⟩ (.int .i64 0) r (Ne.symm hpr)).trans hr)))
  have hr4 := blk_set hr3 0 (.slice none 0 0)
  exact ⟨blk_cell hp4 0, blk_cell hp4 1, blk_cell hp4 2, blk_cell hq5 0, blk_cell hr4 0⟩
theorem wiped_below {w w1 : World} {p q r : Nat} (h : Below w.heap.size w w1) (hp : w.heap.size ≤ p) (hq : w.heap.size ≤ q) (hr : w.heap.size ≤ r) : Below w.heap.size w (wiped w1 p q r) :=
  ((((h.setCell (p := ⟨p, 0, none⟩) hp _).setCell (p := ⟨p, 1, none⟩) hp _).setCell (p := ⟨p, 2, none⟩) hp _).setCell (p := ⟨q, 0, none⟩) hq _).setCell (p := ⟨r, 0, none⟩) hr _
set_option maxHeartbeats 4000000 in
theorem AppRun_c (v : Value) (a : AppD) (s : StD) (e : EvD) (F : Nat → Prop) (w : World) (h : Rd tRule w F v a.rules) :
    Calls Tryz.prog 82 #[.agg #[v], .agg #[.int .i64 s.x, .int .i64 s.y, .int .i64 s.c], .agg #[.int .i64 e.time, .int .i64 e.to, .int .i64 e.from_, .int .i64 e.count, .int .i64 e.n, .int .i64 e.kind, .int .i64 e.arg]] w (RunPost a s e w) := by
  obtain ⟨A, cp, rfl, -, hlen, -⟩ := id h
  have h := h.bound
  have hmf : ∀ (fn : Fn) (first cap : Array Value) (w : World), (Instr.makeFunc fn first cap).run Tryz.prog w = .ok (.func fn first cap) w := fun _ _ _ _ => rfl
  go_enter_defers Tryz.func82, Tryz.ntmps82
  go_wp2_with fail
  refine (checkRun_c _ a s e _ _ (h.below (by repeat (first | exact Below.refl _ _ | refine balloc ?_ _)))).mono ?_
  rintro q w1 ⟨hq, hb1⟩
  have Z0 : w1.heap[w.heap.size]? = some (.cells #[.slice A a.rules.length cp] 57 (0, 0)) := (hb1.block _ (by simp only [World.size_alloc]; try omega)).trans ((heap_old (by simp only [World.size_alloc]; try omega)).trans ((heap_old (by simp only [World.size_alloc]; try omega)).trans ((heap_old (by simp only [World.size_alloc]; try omega)).trans ((heap_old (by simp only [World.size_alloc]; try omega)).trans ((heap_old (by simp only [World.size_alloc]; try omega)).trans (heap_at rfl))))))
  have Z1 : w1.heap[w.heap.size + 1]? = some (.cells #[.int .i64 s.x, .int .i64 s.y, .int .i64 s.c] 49 (0, 0)) := (hb1.block _ (by simp only [World.size_alloc]; try omega)).trans ((heap_old (by simp only [World.size_alloc]; try omega)).trans ((heap_old (by simp only [World.size_alloc]; try omega)).trans ((heap_old (by simp only [World.size_alloc]; try omega)).trans ((heap_old (by simp only [World.size_alloc]; try omega)).trans (heap_at (by simp only [World.size_alloc]; try omega))))))
  have Z2 : w1.heap[w.heap.size + 1 + 1]? = some (.cells #[.int .i64 e.time, .int .i64 e.to, .int .i64 e.from_, .int .i64 e.count, .int .i64 e.n, .int .i64 e.kind, .int .i64 e.arg] 80 (0, 0)) := (hb1.block _ (by simp only [World.size_alloc]; try omega)).trans ((heap_old (by simp only [World.size_alloc]; try omega)).trans ((heap_old (by simp only [World.size_alloc]; try omega)).trans ((heap_old (by simp only [World.size_alloc]; try omega)).trans (heap_at (by simp only [World.size_alloc]; try omega)))))
  have Z3 : w1.heap[w.heap.size + 1 + 1 + 1]? = some (.cells #[.int .i64 0, .int .i64 0, .int .i64 0] 49 (0, 0)) := (hb1.block _ (by simp only [World.size_alloc]; try omega)).trans ((heap_old (by simp only [World.size_alloc]; try omega)).trans ((heap_old (by simp only [World.size_alloc]; try omega)).trans (heap_at (by simp only [World.size_alloc]; try omega))))
  have Z4 : w1.heap[w.heap.size + 1 + 1 + 1 + 1]? = some (.cells #[.slice none 0 0] 25 (0, 0)) := (hb1.block _ (by simp only [World.size_alloc]; try omega)).trans ((heap_old (by simp only [World.size_alloc]; try omega)).trans (heap_at (by simp only [World.size_alloc]; try omega)))
  have Z5 : w1.heap[w.heap.size + 1 + 1 + 1 + 1 + 1]? = some (.cells #[.slice none 0 0] 26 (0, 0)) := (hb1.block _ (by simp only [World.size_alloc]; try omega)).trans (heap_at (by simp only [World.size_alloc]; try omega))
  have hB : Below w.heap.size w w1 := bthen' (by repeat (first | exact Below.refl _ _ | refine balloc ?_ _)) hb1
  have hz := hb1.size
  simp only [World.size_alloc] at hz
  clear hb1
  rcases hq with ⟨hok, rfl⟩ | ⟨hok, k, rfl⟩
  · apply_assumption
    have hc12 : 0 ≤ s.c ∧ s.c ≤ 12 := by simp [stOk, inn] at hok; omega
    obtain ⟨a0, a1, a2, af⟩ := cells3 Z1
    obtain ⟨p0, p1, p2, pf⟩ := cells3 Z3
    have q0 := blk_cell Z4 0
    have qf := blk_frozen Z4 0
    have r0 := blk_cell Z5 0
    have rf := blk_frozen Z5 0
    simp at q0 r0
    obtain ⟨⟨b0, b1, b2, b3, b4, b5, b6⟩, bf⟩ := cells7 Z2
    have d0 := blk_cell Z0 0
    simp at d0
    have n0 : ¬ w.heap.size = w1.heap.size := by omega
    have z0 : w.heap.size < w1.heap.size := by omega
    have n1 : ¬ w.heap.size + 1 = w1.heap.size := by omega
    have z1 : w.heap.size + 1 < w1.heap.size := by omega
    have n2 : ¬ w.heap.size + 1 + 1 = w1.heap.size := by omega
    have z2 : w.heap.size + 1 + 1 < w1.heap.size := by omega
    have n3 : ¬ w.heap.size + 1 + 1 + 1 = w1.heap.size := by omega
    have z3 : w.heap.size + 1 + 1 + 1 < w1.heap.size := by omega
    have n4 : ¬ w.heap.size + 1 + 1 + 1 + 1 = w1.heap.size := by omega
    have z4 : w.heap.size + 1 + 1 + 1 + 1 < w1.heap.size := by omega
    have n5 : ¬ w.heap.size + 1 + 1 + 1 + 1 + 1 = w1.heap.size := by omega
    have z5 : w.heap.size + 1 + 1 + 1 + 1 + 1 < w1.heap.size := by omega
    by_cases q4 : s.c = 12
    · have q5 : (s.c == 12) = true := by simp [q4]
      clear q4
      go_wp2_with fail
      refine leaves_cons (f := 128) (args := #[.pointer (some ⟨w.heap.size + 1 + 1 + 1, 0, none⟩), .pointer (some ⟨w.heap.size + 1 + 1 + 1 + 1, 0, none⟩), .pointer (some ⟨w.heap.size + 1 + 1 + 1 + 1 + 1, 0, none⟩)]) (by simp) (by simp [go_sem]) ?_
      refine (catch_idle _ _ _ _).mono ?_
      rintro e' u' w'' ⟨rfl, rfl, rfl⟩
      obtain ⟨c0, c1, c2, c3, c4⟩ := resW_cells (x' := .int .i64 s.x) (y' := .int .i64 s.y) (z' := .int .i64 s.c) (sv := .slice none 0 0) (ov := .slice none 0 0) Z3 Z4 Z5 (by omega) (by omega) (by omega)
      have hBw := resW_below (x := .int .i64 s.x) (y := .int .i64 s.y) (z := .int .i64 s.c) (sv := .slice none 0 0) (ov := .slice none 0 0) hB (p := w.heap.size + 1 + 1 + 1) (q := w.heap.size + 1 + 1 + 1 + 1) (r := w.heap.size + 1 + 1 + 1 + 1 + 1) (by omega) (by omega) (by omega)
      have hf : appRun a s e = (s, [], []) := by unfold appRun; rw [hok, if_pos rfl, if_pos (by simpa using q5)]
      have HP : RunPost a s e w (.returned (.tuple #[.agg #[.int .i64 s.x, .int .i64 s.y, .int .i64 s.c], .slice none 0 0, .slice none 0 0])) (resW w1 (w.heap.size + 1 + 1 + 1) (w.heap.size + 1 + 1 + 1 + 1) (w.heap.size + 1 + 1 + 1 + 1 + 1) (.int .i64 s.x) (.int .i64 s.y) (.int .i64 s.c) (.slice none 0 0) (.slice none 0 0)) :=
        ⟨_, _, by rw [hf], by rw [hf]; exact Ow.nil _ _ _ _, by rw [hf]; exact Ow.nil _ _ _ _, hBw⟩
      have HP := hid HP
      unfold resW at c0 c1 c2 c3 c4 HP
      simp [Leaves, settle, results, Tryz.results82, go_sem, c0, c1, c2, c3, c4]
      exact HP.out
    · have q5 : (s.c == 12) = false := by simp [q4]
      have hf : appRun a s e = (let r := doRules e s.c a.rules ⟨s.x, s.y, [], []⟩; (⟨r.x, r.y, s.c + 1⟩, r.sends, r.outs)) := by
        unfold appRun; rw [hok, if_pos rfl, if_neg q4]
      have HF := hid hf; clear hf
      have q1 : appOk a = true := by simp at hok; exact hok.1.1
      have q2 : stOk s = true := by simp at hok; exact hok.1.2
      have q3 : evOk e = true := by simp at hok; exact hok.2
      have hrun0 := stOk_run (s := s) q2
      have hrl := appOk_len q1
      have HA := hid q1
      have HE := hid q3
      have hlt : s.c < 12 := by omega
      clear q1 q2 q3 q4 hok
      go_wp2_with fail
      go_loopw [34] (fun i wr => ∃ (k : Nat) (r : RunD) (sv ov : Value), i = .int .i64 k ∧ k ≤ a.rules.length ∧ DoAt wr w1.heap.size w1.heap.size s.c e r sv ov ∧ Hid (doRules e s.c (a.rules.take k) ⟨s.x, s.y, [], []⟩ = r) ∧ RunOk r ∧ r.sends.length ≤ 20 * k ∧ r.outs.length ≤ 20 * k ∧ Below w1.heap.size w1 wr) (fun i _ => a.rules.length - (intOf i).toNat)
      case atStart => exact ⟨0, ⟨s.x, s.y, [], []⟩, _, _, rfl, Nat.zero_le _, ⟨heap_at rfl, Nat.le_refl _, Ow.nil _ _ _ _, Ow.nil _ _ _ _⟩, rfl, hrun0, by simp, by simp, balloc (Below.refl _ _) _⟩
      case round =>
        obtain ⟨k, r, sv, ov, rfl, hk, hR, hD, hO, hns, hno, hb⟩ := hrel
        obtain ⟨wo, rfl⟩ : ∃ x, x = wr := ⟨_, rfl⟩
        have x5 : wo.cell? ⟨w.heap.size + 1 + 1, 5, none⟩ = some (.int .i64 e.kind) := (hb.cell (p := ⟨w.heap.size + 1 + 1, 5, none⟩) z2).trans b5
        have hzr := blk_lt hR.blk
        have m2 : ¬ w.heap.size + 1 + 1 = wo.heap.size := by omega
        have y2 : w.heap.size + 1 + 1 < wo.heap.size := by omega
        by_cases hkl : k < a.rules.length
        · have hrd : Rd tRule wo (fun k => F k ∧ k < w.heap.size) (.slice A a.rules.length cp) a.rules := (h.below hB).keep (fun b hF _ => hb.block b (by have := hF.2; omega))
          obtain ⟨b1', o1, A2, c2, hA1, hbb1, k0, k1, hop⟩ := rule_at hrd k hkl
          subst hA1
          have hops := appOk_rule HA.out hkl
          have hol := opsOk_len hops
          have HO := hid hops; clear hops
          have m3 : ¬ b1' = wo.heap.size := by omega
          by_cases hke : a.rules[k].kind = e.kind
          · have hkb : (a.rules[k].kind != e.kind) = false := by simp [hke]
            have hds := hid (doRules_snoc e s.c a.rules ⟨s.x, s.y, [], []⟩ hkl)
            have HK := hid hke; clear hke
            go_wp2_with fail
            go_loopw [12] (fun q w2 => ∃ (j : Nat) (r' : RunD) (sv ov : Value), q = .int .i64 j ∧ j ≤ a.rules[k].ops.length + 8 ∧ DoAt w2 w1.heap.size w1.heap.size s.c e r' sv ov ∧ Hid (doOps e s.c a.rules[k].ops.length a.rules[k].ops r = doOps e s.c a.rules[k].ops.length (a.rules[k].ops.drop j) r') ∧ RunOk r' ∧ r'.sends.length ≤ 20 * k + j ∧ r'.outs.length ≤ 20 * k + j ∧ Below w1.heap.size w1 w2 ∧ w2.heap[wo.heap.size]? = some (.cells #[.int .i64 a.rules[k].kind, .slice A2 a.rules[k].ops.length c2] 120 (0, 0))) (fun q _ => a.rules[k].ops.length + 20 - (intOf q).toNat)
            case atStart => exact ⟨0, r, sv, ov, rfl, by omega, hR.below (balloc (Below.refl _ _) _), rfl, hO, by omega, by omega, bthen hb (balloc (Below.refl _ _) _) (by omega), heap_at rfl⟩
            case round =>
              obtain ⟨j, r', sv', ov', rfl, hj, hR', hD', hO', hns', hno', hb', hV⟩ := hrel
              obtain ⟨w2, rfl⟩ : ∃ x, x = wr := ⟨_, rfl⟩
              have v0 := blk_cell hV 0
              have v1 := blk_cell hV 1
              simp at v0 v1
              by_cases hjl : j < a.rules[k].ops.length
              · have hop2 : Rd tOp w2 (fun k => F k ∧ k < w.heap.size) (.slice A2 a.rules[k].ops.length c2) a.rules[k].ops := hop.keep (fun b hF hlt2 => by rw [hb'.block b (by have := hF.2; omega), hb.block b (by have := hF.2; omega)])
                obtain ⟨b4', o4, rfl, hb40, t0, t1, t2, t3, t4⟩ := op_at hop2 j hjl
                have hBle : w1.heap.size < w2.heap.size := blk_lt hR'.blk
                have hoo := opsOk_op HO.out hjl
                obtain ⟨hs1, hs2⟩ := doOp_skip (e := e) (c := s.c) (r := r') hoo
                have HSt := hid (doOps_step e s.c a.rules[k].ops.length r' hjl (Nat.le_refl _))
                obtain ⟨hl1, hl2⟩ := doOp_len e s.c a.rules[k].ops[j] r'
                have hok1 := doOp_ok (e := e) (c := s.c) (o := a.rules[k].ops[j]) hO'
                generalize a.rules[k].ops[j] = op at *
                generalize hsk : (doOp e s.c op r').2 = sk at *
                have HSK := hid hsk; clear hsk
                obtain ⟨od, oa, ob, oc, oe⟩ := op
                simp only at t0 t1 t2 t3 t4
                have hod : od = 1 ∨ od = 2 ∨ od = 3 ∨ od = 4 ∨ od = 5 ∨ od = 6 ∨ od = 7 := by
                  refine Decidable.byContradiction fun hn => ?_
                  have hf : opOk ⟨od, oa, ob, oc, oe⟩ = false := by simp only [opOk]; rw [if_neg (by omega), if_neg (by omega), if_neg (by omega), if_neg (by omega), if_neg (by omega)]
                  rw [hf] at hoo; cases hoo
                rcases hod with rfl | rfl | rfl | rfl | rfl | rfl | rfl
                · have hq : (oa = 0 ∨ oa = 1) ∧ (0 ≤ ob ∧ ob ≤ 999) := by simp [opOk, inn] at hoo; omega
                  have ha := hq.1
                  have hb0 := hq.2
                  have hme := meth_raise
                  go_wp2_with (first | (go_at_call 130; refine (actionOf_1 oa ob oc oe _).mono ?_; rintro q w3 ⟨rfl, hb3⟩; have hR3 := hR'.below hb3; have hsz3 := hb3.size; have hV3 := (hb3.block _ (blk_lt hV)).trans hV) | (go_at_call 178; refine (raise1_c _ _ s.c e r' sv' ov' oa ob oc oe _ hR3 (by omega) hO' HE.out (by omega) (by omega) ha hb0).mono ?_; rintro q w4 ⟨hq4, ⟨sv2, ov2, hR2⟩, hb4⟩; rw [HSK.out] at hq4; subst hq4))
                  have hV4 := hb4.heap hV3 (fun hk => by { rcases hk with hk | hk | hk; omega; exact hR3.sends.type_ne hV3 (by decide) hk; exact hR3.outs.type_ne hV3 (by decide) hk })
                  have hB4 := hb4.below (B := w1.heap.size) (fun k hk => by { rcases hk with hk | hk | hk; omega; exact hR3.sends.inF hk; exact hR3.outs.inF hk }) (by omega)
                  go_roundw
                  case rel => exact ⟨j + sk.toNat + 1, _, sv2, ov2, by rw [show ((j + sk.toNat + 1 : Nat) : Int) = (j : Int) + sk + 1 by omega], by omega, hR2, hid (hD'.out.trans HSt.out), hok1, by omega, by omega, (bthen hb' hb3 (by omega)).trans hB4, hV4⟩
                  case measure => simp [intOf]; omega
                · have hq : (oa = 0 ∨ oa = 1) ∧ (ob = 0 ∨ ob = 1) := by simp [opOk, inn] at hoo; omega
                  have ha := hq.1
                  have hb0 := hq.2
                  have hme := meth_join
                  go_wp2_with (first | (go_at_call 130; refine (actionOf_2 oa ob oc oe _).mono ?_; rintro q w3 ⟨rfl, hb3⟩; have hR3 := hR'.below hb3; have hsz3 := hb3.size; have hV3 := (hb3.block _ (blk_lt hV)).trans hV) | (go_at_call 179; refine (join_c _ _ s.c e r' sv' ov' oa ob oc oe _ hR3 (by omega) hO' HE.out (by omega) (by omega) ha hb0).mono ?_; rintro q w4 ⟨hq4, ⟨sv2, ov2, hR2⟩, hb4⟩; rw [HSK.out] at hq4; subst hq4))
                  have hV4 := hb4.heap hV3 (fun hk => by { rcases hk with hk | hk | hk; omega; exact hR3.sends.type_ne hV3 (by decide) hk; exact hR3.outs.type_ne hV3 (by decide) hk })
                  have hB4 := hb4.below (B := w1.heap.size) (fun k hk => by { rcases hk with hk | hk | hk; omega; exact hR3.sends.inF hk; exact hR3.outs.inF hk }) (by omega)
                  go_roundw
                  case rel => exact ⟨j + sk.toNat + 1, _, sv2, ov2, by rw [show ((j + sk.toNat + 1 : Nat) : Int) = (j : Int) + sk + 1 by omega], by omega, hR2, hid (hD'.out.trans HSt.out), hok1, by omega, by omega, (bthen hb' hb3 (by omega)).trans hB4, hV4⟩
                  case measure => simp [intOf]; omega
                · have hq : (oa = 0 ∨ oa = 1) ∧ (0 ≤ ob ∧ ob ≤ 999) := by simp [opOk, inn] at hoo; omega
                  have ha := hq.1
                  have hb0 := hq.2
                  have hme := meth_raise
                  go_wp2_with (first | (go_at_call 130; refine (actionOf_3 oa ob oc oe _).mono ?_; rintro q w3 ⟨rfl, hb3⟩; have hR3 := hR'.below hb3; have hsz3 := hb3.size; have hV3 := (hb3.block _ (blk_lt hV)).trans hV) | (go_at_call 178; refine (raise3_c _ _ s.c e r' sv' ov' oa ob oc oe _ hR3 (by omega) hO' HE.out (by omega) (by omega) ha hb0).mono ?_; rintro q w4 ⟨hq4, ⟨sv2, ov2, hR2⟩, hb4⟩; rw [HSK.out] at hq4; subst hq4))
                  have hV4 := hb4.heap hV3 (fun hk => by { rcases hk with hk | hk | hk; omega; exact hR3.sends.type_ne hV3 (by decide) hk; exact hR3.outs.type_ne hV3 (by decide) hk })
                  have hB4 := hb4.below (B := w1.heap.size) (fun k hk => by { rcases hk with hk | hk | hk; omega; exact hR3.sends.inF hk; exact hR3.outs.inF hk }) (by omega)
                  go_roundw
                  case rel => exact ⟨j + sk.toNat + 1, _, sv2, ov2, by rw [show ((j + sk.toNat + 1 : Nat) : Int) = (j : Int) + sk + 1 by omega], by omega, hR2, hid (hD'.out.trans HSt.out), hok1, by omega, by omega, (bthen hb' hb3 (by omega)).trans hB4, hV4⟩
                  case measure => simp [intOf]; omega
                · have ha : oa = 0 ∨ oa = 1 := by simp [opOk, inn] at hoo; omega
                  have hme := meth_take
                  go_wp2_with (first | (go_at_call 130; refine (actionOf_4 oa ob oc oe _).mono ?_; rintro q w3 ⟨rfl, hb3⟩; have hR3 := hR'.below hb3; have hsz3 := hb3.size; have hV3 := (hb3.block _ (blk_lt hV)).trans hV) | (go_at_call 180; refine (take_c _ _ s.c e r' sv' ov' oa ob oc oe _ hR3 (by omega) hO' HE.out (by omega) (by omega) ha).mono ?_; rintro q w4 ⟨hq4, ⟨sv2, ov2, hR2⟩, hb4⟩; rw [HSK.out] at hq4; subst hq4))
                  have hV4 := hb4.heap hV3 (fun hk => by { rcases hk with hk | hk | hk; omega; exact hR3.sends.type_ne hV3 (by decide) hk; exact hR3.outs.type_ne hV3 (by decide) hk })
                  have hB4 := hb4.below (B := w1.heap.size) (fun k hk => by { rcases hk with hk | hk | hk; omega; exact hR3.sends.inF hk; exact hR3.outs.inF hk }) (by omega)
                  go_roundw
                  case rel => exact ⟨j + sk.toNat + 1, _, sv2, ov2, by rw [show ((j + sk.toNat + 1 : Nat) : Int) = (j : Int) + sk + 1 by omega], by omega, hR2, hid (hD'.out.trans HSt.out), hok1, by omega, by omega, (bthen hb' hb3 (by omega)).trans hB4, hV4⟩
                  case measure => simp [intOf]; omega
                · have ha : oa = 0 ∨ oa = 1 := by simp [opOk, inn] at hoo; omega
                  have hme := meth_leap
                  go_wp2_with (first | (go_at_call 130; refine (actionOf_5 oa ob oc oe _).mono ?_; rintro q w3 ⟨rfl, hb3⟩; have hR3 := hR'.below hb3; have hsz3 := hb3.size; have hV3 := (hb3.block _ (blk_lt hV)).trans hV) | (go_at_call 181; refine (leap_c _ _ s.c e r' sv' ov' oa ob oc oe _ hR3 (by omega) hO' HE.out (by omega) (by omega) ha).mono ?_; rintro q w4 ⟨hq4, ⟨sv2, ov2, hR2⟩, hb4⟩; rw [HSK.out] at hq4; subst hq4))
                  have hV4 := hb4.heap hV3 (fun hk => by { rcases hk with hk | hk | hk; omega; exact hR3.sends.type_ne hV3 (by decide) hk; exact hR3.outs.type_ne hV3 (by decide) hk })
                  have hB4 := hb4.below (B := w1.heap.size) (fun k hk => by { rcases hk with hk | hk | hk; omega; exact hR3.sends.inF hk; exact hR3.outs.inF hk }) (by omega)
                  go_roundw
                  case rel => exact ⟨j + sk.toNat + 1, _, sv2, ov2, by rw [show ((j + sk.toNat + 1 : Nat) : Int) = (j : Int) + sk + 1 by omega], by omega, hR2, hid (hD'.out.trans HSt.out), hok1, by omega, by omega, (bthen hb' hb3 (by omega)).trans hB4, hV4⟩
                  case measure => simp [intOf]; omega
                · have hq : (1 ≤ oc ∧ oc ≤ 40) ∧ (oe = 0 ∨ oe = 1) := by simp [opOk, inn] at hoo; omega
                  have hcc := hq.1
                  have hee := hq.2
                  have hme := meth_send
                  go_wp2_with (first | (go_at_call 130; refine (actionOf_6 oa ob oc oe _).mono ?_; rintro q w3 ⟨rfl, hb3⟩; have hR3 := hR'.below hb3; have hsz3 := hb3.size; have hV3 := (hb3.block _ (blk_lt hV)).trans hV) | (go_at_call 182; refine (send_c _ _ s.c e r' sv' ov' oa ob oc oe _ hR3 (by omega) hO' HE.out (by omega) (by omega) hcc hee).mono ?_; rintro q w4 ⟨hq4, ⟨sv2, ov2, hR2⟩, hb4⟩; rw [HSK.out] at hq4; subst hq4))
                  have hV4 := hb4.heap hV3 (fun hk => by { rcases hk with hk | hk | hk; omega; exact hR3.sends.type_ne hV3 (by decide) hk; exact hR3.outs.type_ne hV3 (by decide) hk })
                  have hB4 := hb4.below (B := w1.heap.size) (fun k hk => by { rcases hk with hk | hk | hk; omega; exact hR3.sends.inF hk; exact hR3.outs.inF hk }) (by omega)
                  go_roundw
                  case rel => exact ⟨j + sk.toNat + 1, _, sv2, ov2, by rw [show ((j + sk.toNat + 1 : Nat) : Int) = (j : Int) + sk + 1 by omega], by omega, hR2, hid (hD'.out.trans HSt.out), hok1, by omega, by omega, (bthen hb' hb3 (by omega)).trans hB4, hV4⟩
                  case measure => simp [intOf]; omega
                · have ha : oa = 0 ∨ oa = 1 := by simp [opOk, inn] at hoo; omega
                  have hme := meth_let
                  go_wp2_with (first | (go_at_call 130; refine (actionOf_7 oa ob oc oe _).mono ?_; rintro q w3 ⟨rfl, hb3⟩; have hR3 := hR'.below hb3; have hsz3 := hb3.size; have hV3 := (hb3.block _ (blk_lt hV)).trans hV) | (go_at_call 183; refine (let_c _ _ s.c e r' sv' ov' oa ob oc oe _ hR3 (by omega) hO' HE.out (by omega) (by omega) ha).mono ?_; rintro q w4 ⟨hq4, ⟨sv2, ov2, hR2⟩, hb4⟩; rw [HSK.out] at hq4; subst hq4))
                  have hV4 := hb4.heap hV3 (fun hk => by { rcases hk with hk | hk | hk; omega; exact hR3.sends.type_ne hV3 (by decide) hk; exact hR3.outs.type_ne hV3 (by decide) hk })
                  have hB4 := hb4.below (B := w1.heap.size) (fun k hk => by { rcases hk with hk | hk | hk; omega; exact hR3.sends.inF hk; exact hR3.outs.inF hk }) (by omega)
                  go_roundw
                  case rel => exact ⟨j + sk.toNat + 1, _, sv2, ov2, by rw [show ((j + sk.toNat + 1 : Nat) : Int) = (j : Int) + sk + 1 by omega], by omega, hR2, hid (hD'.out.trans HSt.out), hok1, by omega, by omega, (bthen hb' hb3 (by omega)).trans hB4, hV4⟩
                  case measure => simp [intOf]; omega
              · have hend := doOps_end e s.c a.rules[k].ops.length r' (Nat.le_of_not_lt hjl)
                have HD2 := hid (show doRules e s.c (a.rules.take (k + 1)) ⟨s.x, s.y, [], []⟩ = r' by rw [hds.out, if_pos HK.out, hD.out, hD'.out, hend])
                clear hend
                go_wp2_with fail
                go_roundw
                case rel => exact ⟨k + 1, r', sv', ov', by go_num, by omega, hR', HD2, hO', by omega, by omega, hb'⟩
                case measure => simp [intOf]; omega
          · have hkb : (a.rules[k].kind != e.kind) = true := by simp [hke]
            have HD2 := hid (show doRules e s.c (a.rules.take (k + 1)) ⟨s.x, s.y, [], []⟩ = r by rw [doRules_snoc e s.c a.rules ⟨s.x, s.y, [], []⟩ hkl, if_neg hke]; exact hD.out)
            clear hke
            go_wp2_with fail
            go_roundw
            case rel => exact ⟨k + 1, r, sv, ov, by go_num, by omega, hR.below (balloc (Below.refl _ _) _), HD2, hO, by omega, by omega, bthen hb (balloc (Below.refl _ _) _) (by omega)⟩
            case measure => simp [intOf]; omega
        · have hkk : k = a.rules.length := by omega
          have hD2 := hD.out
          rw [hkk, List.take_length] at hD2
          have HD2 := hid hD2; clear hD2 hD hkk
          obtain ⟨A5, c5', rfl, hl5⟩ := hR.sends.shape
          obtain ⟨A6, c6', rfl, hl6⟩ := hR.outs.shape
          have Z3b := (hb.block _ z3).trans Z3
          have Z4b := (hb.block _ z4).trans Z4
          have Z5b := (hb.block _ z5).trans Z5
          have x0 : wo.cell? ⟨w1.heap.size, 0, none⟩ = some (.int .i64 r.x) := blk_cell hR.blk 0
          have x1 : wo.cell? ⟨w1.heap.size, 1, none⟩ = some (.int .i64 r.y) := blk_cell hR.blk 1
          have x10 : wo.cell? ⟨w1.heap.size, 10, none⟩ = some (.slice A5 r.sends.length c5') := blk_cell hR.blk 10
          have x11 : wo.cell? ⟨w1.heap.size, 11, none⟩ = some (.slice A6 r.outs.length c6') := blk_cell hR.blk 11
          have xs2 : wo.cell? ⟨w.heap.size + 1, 2, none⟩ = some (.int .i64 s.c) := (hb.cell (p := ⟨w.heap.size + 1, 2, none⟩) z1).trans a2
          have m31 : ¬ (w.heap.size + 1 + 1 + 1 ≤ w.heap.size + 1 ∧ w.heap.size + 1 < w1.heap.size) := by omega
          have m32 : ¬ (w.heap.size + 1 + 1 + 1 ≤ w1.heap.size ∧ w1.heap.size < w1.heap.size) := by omega
          have m33 : w.heap.size + 1 < wo.heap.size := by omega
          have hVS : ∀ k, w.heap.size + 1 + 1 + 1 ≤ k ∧ k < w1.heap.size → k < w1.heap.size := fun k hk => hk.2
          have hWc : IntKind.i64.wrap (s.c + 1) = s.c + 1 := IntWalk.i64_in _ (by omega)
          go_wp2_with fail
          refine region_plan_np (fun w' => Ch (fun k => w.heap.size + 1 + 1 + 1 ≤ k ∧ k < w1.heap.size) wo w') [(0, true), (1, true), (2, true), (3, true), (4, true), (5, true), (6, true), (7, true), (8, true), (9, true), (10, true), (11, true), (12, true), (13, true), (14, false), (15, false), (16, false)] (by kernel_rfl) (by kernel_rfl) ?_
          have HS := (Ch.refl (fun k => w.heap.size + 1 + 1 + 1 ≤ k ∧ k < w1.heap.size) wo).drew
          have Z3d : wo.drew.heap[w.heap.size + 1 + 1 + 1]? = _ := Z3b
          have Z4d : wo.drew.heap[w.heap.size + 1 + 1 + 1 + 1]? = _ := Z4b
          have Z5d : wo.drew.heap[w.heap.size + 1 + 1 + 1 + 1 + 1]? = _ := Z5b
          have hRd : DoAt wo.drew w1.heap.size w1.heap.size s.c e r _ _ := hR.below (bdrewN (Below.refl _ _) 1)
          have hbd : Below w1.heap.size w1 wo.drew := bdrewN hb 1
          generalize wo.drew = wd at HS Z3d Z4d Z5d hRd hbd ⊢
          iterate 14 (first | (refine seq_take (v := ?_) (by rfl) HS (by rfl) ?_ ?_; rotate_left; (focus (intro wS hS; obtain ⟨kc, kf⟩ := hS.cells; go_simp; (try (with_reducible rfl)); done)); (intro K hK; go_simp; refine hK _ ?_; clear hK K)) | (refine seq_skip (by rfl) HS (by rfl) ?_; (intro K hK; go_simp; refine hK _ ?_; clear hK K)))
          refine seq_do (by rfl) (by rfl) (fun K hK => ?_)
          obtain ⟨y0, y1, y2, yf⟩ := cells3 Z3d
          go_simp
          have HS := ((HS.setCell (p := ⟨w.heap.size + 1 + 1 + 1, 0, none⟩) (Or.inl (by simp only; omega)) (.int .i64 r.x)).setCell (p := ⟨w.heap.size + 1 + 1 + 1, 1, none⟩) (Or.inl (by simp only; omega)) (.int .i64 r.y)).setCell (p := ⟨w.heap.size + 1 + 1 + 1, 2, none⟩) (Or.inl (by simp only; omega)) (.int .i64 (s.c + 1))
          refine hK _ _ (Or.inr HS) ?_; clear hK K
          refine seq_do (by rfl) (by rfl) (fun K hK => ?_)
          have Z4c := (Below.heap_setCell _ ⟨w.heap.size + 1 + 1 + 1, 2, none⟩ (.int .i64 (s.c + 1)) (w.heap.size + 1 + 1 + 1 + 1) (by simp only; omega)).trans ((Below.heap_setCell _ ⟨w.heap.size + 1 + 1 + 1, 1, none⟩ (.int .i64 r.y) (w.heap.size + 1 + 1 + 1 + 1) (by simp only; omega)).trans ((Below.heap_setCell _ ⟨w.heap.size + 1 + 1 + 1, 0, none⟩ (.int .i64 r.x) (w.heap.size + 1 + 1 + 1 + 1) (by simp only; omega)).trans Z4d))
          have y0 := blk_cell Z4c 0
          have yf := blk_frozen Z4c 0
          simp at y0
          go_simp
          have HS := HS.setCell (p := ⟨w.heap.size + 1 + 1 + 1 + 1, 0, none⟩) (Or.inl (by simp only; omega)) (.slice A5 r.sends.length c5')
          refine hK _ _ (Or.inr HS) ?_; clear hK K
          refine seq_do (by rfl) (by rfl) (fun K hK => ?_)
          have Z5c := (Below.heap_setCell _ ⟨w.heap.size + 1 + 1 + 1 + 1, 0, none⟩ (.slice A5 r.sends.length c5') (w.heap.size + 1 + 1 + 1 + 1 + 1) (by simp only; omega)).trans ((Below.heap_setCell _ ⟨w.heap.size + 1 + 1 + 1, 2, none⟩ (.int .i64 (s.c + 1)) (w.heap.size + 1 + 1 + 1 + 1 + 1) (by simp only; omega)).trans ((Below.heap_setCell _ ⟨w.heap.size + 1 + 1 + 1, 1, none⟩ (.int .i64 r.y) (w.heap.size + 1 + 1 + 1 + 1 + 1) (by simp only; omega)).trans ((Below.heap_setCell _ ⟨w.heap.size + 1 + 1 + 1, 0, none⟩ (.int .i64 r.x) (w.heap.size + 1 + 1 + 1 + 1 + 1) (by simp only; omega)).trans Z5d)))
          have y0 := blk_cell Z5c 0
          have yf := blk_frozen Z5c 0
          simp at y0
          go_simp
          refine hK _ _ (Or.inl (by kernel_rfl)) ?_; clear hK K
          simp only [wpSeq, noPanic]
          go_wp2_with fail
          refine leaves_cons (f := 128) (args := #[.pointer (some ⟨w.heap.size + 1 + 1 + 1, 0, none⟩), .pointer (some ⟨w.heap.size + 1 + 1 + 1 + 1, 0, none⟩), .pointer (some ⟨w.heap.size + 1 + 1 + 1 + 1 + 1, 0, none⟩)]) (by simp) (by simp [go_sem]) ?_
          refine (catch_idle _ _ _ _).mono ?_
          rintro e' u' w'' ⟨rfl, rfl, rfl⟩
          obtain ⟨c0, c1, c2, c3, c4⟩ := resW_cells (w := wd) (x' := .int .i64 r.x) (y' := .int .i64 r.y) (z' := .int .i64 (s.c + 1)) (sv := .slice A5 r.sends.length c5') (ov := .slice A6 r.outs.length c6') Z3d Z4d Z5d (by omega) (by omega) (by omega)
          have hBo := bthen (B := w.heap.size) hB hbd (by omega)
          have hBw := resW_below (x := .int .i64 r.x) (y := .int .i64 r.y) (z := .int .i64 (s.c + 1)) (sv := .slice A5 r.sends.length c5') (ov := .slice A6 r.outs.length c6') hBo (p := w.heap.size + 1 + 1 + 1) (q := w.heap.size + 1 + 1 + 1 + 1) (r := w.heap.size + 1 + 1 + 1 + 1 + 1) (by omega) (by omega) (by omega)
          have hf := HF.out
          rw [HD2.out] at hf
          have hrow : ∀ k, w1.heap.size ≤ k → (resW wd (w.heap.size + 1 + 1 + 1) (w.heap.size + 1 + 1 + 1 + 1) (w.heap.size + 1 + 1 + 1 + 1 + 1) (.int .i64 r.x) (.int .i64 r.y) (.int .i64 (s.c + 1)) (.slice A5 r.sends.length c5') (.slice A6 r.outs.length c6')).heap[k]? = wd.heap[k]? := fun k hk => resW_heap k (by omega) (by omega) (by omega)
          have HP : RunPost a s e w (.returned (.tuple #[.agg #[.int .i64 r.x, .int .i64 r.y, .int .i64 (s.c + 1)], .slice A5 r.sends.length c5', .slice A6 r.outs.length c6'])) (resW wd (w.heap.size + 1 + 1 + 1) (w.heap.size + 1 + 1 + 1 + 1) (w.heap.size + 1 + 1 + 1 + 1 + 1) (.int .i64 r.x) (.int .i64 r.y) (.int .i64 (s.c + 1)) (.slice A5 r.sends.length c5') (.slice A6 r.outs.length c6')) :=
            ⟨_, _, by rw [hf], by rw [hf]; exact (hRd.sends.move (fun k hk => hrow k hk)).mono (fun k hk => by omega), by rw [hf]; exact (hRd.outs.move (fun k hk => hrow k hk)).mono (fun k hk => by omega), hBw⟩
          have HP := hid HP
          unfold resW at c0 c1 c2 c3 c4 HP
          clear hf hrow
          simp [Leaves, settle, results, Tryz.results82, go_sem, c0, c1, c2, c3, c4]
          exact HP.out
  · simp only
    refine leaves_cons (f := 128) (args := #[.pointer (some ⟨w.heap.size + 1 + 1 + 1, 0, none⟩), .pointer (some ⟨w.heap.size + 1 + 1 + 1 + 1, 0, none⟩), .pointer (some ⟨w.heap.size + 1 + 1 + 1 + 1 + 1, 0, none⟩)]) (by simp) (by simp [go_sem]) ?_
    refine (catch_panicking _ _ _ _ _ _ _ _ _ _ [] _ Z3 Z4 Z5 (by omega) (by omega) (by omega)).mono ?_
    rintro e' u' w'' ⟨rfl, rfl, rfl⟩
    obtain ⟨c0, c1, c2, c3, c4⟩ := wiped_cells Z3 Z4 Z5 (by omega) (by omega) (by omega)
    have hBw := wiped_below hB (p := w.heap.size + 1 + 1 + 1) (q := w.heap.size + 1 + 1 + 1 + 1) (r := w.heap.size + 1 + 1 + 1 + 1 + 1) (by omega) (by omega) (by omega)
    have hf : appRun a s e = (st0, [], []) := by unfold appRun; rw [hok]; rfl
    have HP : RunPost a s e w (.returned (.tuple #[.agg #[.int .i64 0, .int .i64 0, .int .i64 0], .slice none 0 0, .slice none 0 0])) (wiped w1 (w.heap.size + 1 + 1 + 1) (w.heap.size + 1 + 1 + 1 + 1) (w.heap.size + 1 + 1 + 1 + 1 + 1)) :=
      ⟨_, _, by rw [hf]; rfl, by rw [hf]; exact Ow.nil _ _ _ _, by rw [hf]; exact Ow.nil _ _ _ _, hBw⟩
    have HP := hid HP
    simp [Leaves, settle, results, Tryz.results82, go_sem, c0, c1, c2, c3, c4]
    exact HP.out
end Go.Proofs.YtbcemldiahghcaaGreat

namespace Go.Proofs.YtbcemldiahghcaaGreat
set_option linter.unusedVariables false
set_option linter.unusedSimpArgs false
set_option maxRecDepth 100000
open Go.RowKit
def BlkAt (g : Nat) (o : Obj) (w : World) : Prop := w.heap[g]? = some o
def firsts : List EvD := [appFirst 0, appFirst 1, appFirst 2, appFirst 3]
end Go.Proofs.YtbcemldiahghcaaGreat
