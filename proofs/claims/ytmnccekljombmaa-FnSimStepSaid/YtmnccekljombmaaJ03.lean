/- Texts joined: Draw1, Draw2, Heap. -/
import Derived.Test.YtmnccekljombmaaJ02
namespace Go.Proofs.Ytmnccekljombmaa
set_option linter.unusedVariables false
set_option linter.unusedSimpArgs false
set_option maxRecDepth 100000
open Go.RowKit

theorem chg_cells {w w' : World} {g : Nat} (h : Ch (fun k => k = g) w w') : (∀ b o, b < w.heap.size → ¬ b = g → w'.cell? ⟨b, o, none⟩ = w.cell? ⟨b, o, none⟩) ∧ (∀ b o, b < w.heap.size → ¬ b = g → w'.frozen? ⟨b, o, none⟩ = w.frozen? ⟨b, o, none⟩) :=
  h.cells
theorem Rd.take {α : Type} {d : Ty α} {w : World} {F : Nat → Prop} {A : Option Addr} {n c : Nat} {xs : List α} (h : Rd d w F (.slice A n c) xs) (k : Nat) (hk : k ≤ xs.length) : Rd d w F (.slice A k c) (xs.take k) := by
  obtain ⟨A', c', he, h1, h2, h3⟩ := h
  injection he with hA hn hc
  subst hA hc
  have hl : (xs.take k).length = k := by simp; omega
  refine ⟨A, c, by rw [hl], by omega, by omega, fun hp => ?_⟩
  obtain ⟨b, o, rfl, hF, hlt, hc⟩ := h3 (by omega)
  refine ⟨b, o, rfl, hF, hlt, fun j x hj => hc j x ?_⟩
  rw [List.getElem?_take] at hj
  split at hj
  · exact hj
  · cases hj
theorem l6Open_c (A : Option Addr) (c : Nat) (xs : List Int) (w : World) (h : Rd (tInt .u8) w (fun k => k < w.heap.size) (.slice A xs.length c) xs) (hb : ∀ x ∈ xs, 0 ≤ x ∧ x ≤ 255) :
    Calls Try.prog 47 #[.slice A xs.length c] w fun q w' => q = .returned (.pointer (some ⟨w.heap.size, 0, none⟩)) ∧ Rdr w' w.heap.size w.heap.size 0 ∧ Below w.heap.size w w' := by
  have hle : xs.length ≤ c := by obtain ⟨A', c', he, h1, _⟩ := h; injection he with _ _ hc; subst hc; exact h1
  by_cases hl : 2000 < xs.length
  · have hd : decide ((2000 : Int) < (xs.length : Int)) = true := decide_eq_true (by omega)
    have ht := h.take 2000 (by omega)
    obtain ⟨b, o, rfl, hF, hlt, hc⟩ := byte_at h 0 (by omega)
    have hc2 : 2000 ≤ c := by omega
    go_enter Try.func47, Try.ntmps47
    go_wp2
    go_ret
    have hc3 := Rd.move (w' := w.alloc (.cells #[.slice (some ⟨b, o, none⟩) 2000 c, .int .i64 0] 123)) (fun k hk => (balloc (Below.refl w.heap.size w) _).block k hk) ht
    refine ⟨rfl, ⟨some ⟨b, o, none⟩, c, xs.take 2000, 0, ?_, Nat.le_refl _, ?_, fun x hx => hb x (List.mem_of_mem_take hx), by simp; omega, Int.le_refl _, Int.le_refl _⟩, balloc (Below.refl _ _) _⟩
    · rw [show (xs.take 2000).length = 2000 by simp; omega]; exact heap_at (by simp)
    · rw [show (xs.take 2000).length = 2000 by simp; omega]; exact hc3
  · have hd : decide ((2000 : Int) < (xs.length : Int)) = false := decide_eq_false (by omega)
    go_enter Try.func47, Try.ntmps47
    go_wp2
    go_ret
    have hc3 := Rd.move (w' := w.alloc (.cells #[.slice A xs.length c, .int .i64 0] 123)) (fun k hk => (balloc (Below.refl w.heap.size w) _).block k hk) h
    exact ⟨rfl, ⟨_, c, xs, 0, heap_at (by simp), Nat.le_refl _, hc3, hb, by omega, Int.le_refl _, Int.le_refl _⟩, balloc (Below.refl _ _) _⟩
theorem cells5 {w : World} {s : Nat} {t : TypeId} {a b c d e : Value} (h : w.heap[s]? = some (.cells #[a, b, c, d, e] t (0, 0))) :
    w.cell? ⟨s, 0, none⟩ = some a ∧ w.cell? ⟨s, 1, none⟩ = some b ∧ w.cell? ⟨s, 2, none⟩ = some c ∧ w.cell? ⟨s, 3, none⟩ = some d ∧ w.cell? ⟨s, 4, none⟩ = some e ∧ ∀ i, w.frozen? ⟨s, i, none⟩ = false :=
  ⟨blk_cell h 0, blk_cell h 1, blk_cell h 2, blk_cell h 3, blk_cell h 4, blk_frozen h⟩
def opAgg (o : OpD) : Value := .agg #[.int .i64 o.d, .int .i64 o.a, .int .i64 o.b, .int .i64 o.c, .int .i64 o.e]
theorem store5 {w1 : World} {s : Nat} {t : TypeId} {z0 z1 z2 z3 z4 : Value} (hb : w1.heap[s]? = some (.cells #[z0, z1, z2, z3, z4] t (0, 0))) (a b c d e : Int) :
    (((((w1.setCell ⟨s, 0, none⟩ (.int .i64 a)).setCell ⟨s, 1, none⟩ (.int .i64 b)).setCell ⟨s, 2, none⟩ (.int .i64 c)).setCell ⟨s, 3, none⟩ (.int .i64 d)).setCell ⟨s, 4, none⟩ (.int .i64 e)).heap[s]? = some (.cells #[.int .i64 a, .int .i64 b, .int .i64 c, .int .i64 d, .int .i64 e] t (0, 0)) :=
  blk_set (blk_set (blk_set (blk_set (blk_set hb 0 _) 1 _) 2 _) 3 _) 4 _
theorem op_fin {Q : Ending → World → Prop} {w1 : World} {s : Nat} {t : TypeId} {z0 z1 z2 z3 z4 : Value} {a b c d e : Int} {act : Act} (hd : act.defers = []) (h2 : act.tmps.getD 2 undef = .pointer (some ⟨s, 0, none⟩))
    (hb : w1.heap[s]? = some (.cells #[z0, z1, z2, z3, z4] t (0, 0)))
    (hQ : Q (.returned (opAgg ⟨a, b, c, d, e⟩)) (((((w1.setCell ⟨s, 0, none⟩ (.int .i64 a)).setCell ⟨s, 1, none⟩ (.int .i64 b)).setCell ⟨s, 2, none⟩ (.int .i64 c)).setCell ⟨s, 3, none⟩ (.int .i64 d)).setCell ⟨s, 4, none⟩ (.int .i64 e))) :
    bodyPost Try.prog Try.f111 Q Exit.ret act (((((w1.setCell ⟨s, 0, none⟩ (.int .i64 a)).setCell ⟨s, 1, none⟩ (.int .i64 b)).setCell ⟨s, 2, none⟩ (.int .i64 c)).setCell ⟨s, 3, none⟩ (.int .i64 d)).setCell ⟨s, 4, none⟩ (.int .i64 e)) := by
  obtain ⟨q0, q1, q2, q3, q4, qf⟩ := cells5 (store5 hb a b c d e)
  have h2' : act.tmps[2]?.getD undef = .pointer (some ⟨s, 0, none⟩) := by simpa using h2
  exact bodyPost_ret (v := opAgg ⟨a, b, c, d, e⟩) (by simp [results, Try.results111, go_sem, h2', q0, q1, q2, q3, q4, opAgg]) hd hQ
theorem rdr_fin {w1 : World} {g s B : Nat} {m1 m2 : Int} {a b c d e : Value} (h : Rdr w1 g B m1) (hs : g < s) (hm : m1 ≤ m2) : Rdr (((((w1.setCell ⟨s, 0, none⟩ a).setCell ⟨s, 1, none⟩ b).setCell ⟨s, 2, none⟩ c).setCell ⟨s, 3, none⟩ d).setCell ⟨s, 4, none⟩ e) g B m2 := by
  have hC : Ch (fun k => g < k) w1 (((((w1.setCell ⟨s, 0, none⟩ a).setCell ⟨s, 1, none⟩ b).setCell ⟨s, 2, none⟩ c).setCell ⟨s, 3, none⟩ d).setCell ⟨s, 4, none⟩ e) := by repeat (first | exact Ch.refl _ _ | refine Ch.setCell ?_ (Or.inl (show g < s from hs)) _)
  exact Rdr.move (h.ch hC (fun k hk hk' => absurd hk (Nat.not_le.2 hk'))) rfl (fun _ _ => rfl) hm
set_option maxHeartbeats 4000000 in
theorem l71Op_c (g B : Nat) (m : Int) (w : World) (h : Rdr w g B m) (hm : m ≤ 900000) :
    Calls Try.prog 111 #[.pointer (some ⟨g, 0, none⟩)] w fun q w' => ∃ o : OpD, q = .returned (opAgg o) ∧ Rdr w' g B (m + 5) ∧ Ch (fun k => k = g) w w' := by
  have hgl := h.lt
  have hgn : ¬ w.heap.size = g := by omega
  go_enter Try.func111, Try.ntmps111
  go_wp2_with (go_at_call 49; refine (pick_c g B _ _ _ (Rdr.ch (S := fun k => g < k) (by with_reducible assumption) (by repeat (first | (with_reducible exact Ch.refl _ _) | (with_reducible refine Ch.drew ?_) | (with_reducible refine Ch.alloc ?_ _) | with_reducible refine Ch.setCell ?_ (Or.inl (by omega)) _)) (fun k hk hk' => absurd hk (Nat.not_le.2 hk'))) (by omega) (by omega)).mono ?_; rintro e w1 ⟨x, rfl, hx1, hr, hch⟩; obtain ⟨kc, kf⟩ := chg_cells hch; have zz := hch.size; (try simp only [World.size_alloc, World.size_drew, World.size_setCell] at zz); have hb1 := hch.heap (k := w.heap.size) (by first | (with_reducible assumption) | exact heap_at rfl) (fun hk => hgn hk); obtain ⟨p0, p1, p2, p3, p4, p5⟩ := cells5 hb1; have hA := Ch.trans (S := fun k => k = g) (w := w) (by repeat (first | (with_reducible assumption) | (with_reducible exact Ch.refl _ _) | (with_reducible refine Ch.drew ?_) | (with_reducible refine Ch.alloc ?_ _) | with_reducible refine Ch.setCell ?_ (Or.inr (by simp only; omega)) _)) hch)
  all_goals refine op_fin rfl rfl (by assumption) ⟨_, rfl, ?_, ?_⟩
  all_goals first | (with_reducible exact rdr_fin (by with_reducible assumption) (by omega) (by omega)) | (focus (repeat (first | (with_reducible assumption) | (with_reducible exact Ch.refl _ _) | (with_reducible refine Ch.drew ?_) | (with_reducible refine Ch.alloc ?_ _) | with_reducible refine Ch.setCell ?_ (Or.inr (by simp only; omega)) _)); done)
end Go.Proofs.Ytmnccekljombmaa

namespace Go.Proofs.Ytmnccekljombmaa
set_option linter.unusedVariables false
set_option linter.unusedSimpArgs false
set_option maxRecDepth 100000
open Go.RowKit

theorem pick_ne (g B : Nat) (m n : Int) (w : World) (h : Rdr w g B m) (hm : m ≤ 1000000) (hn : 1 ≤ n ∧ n ≤ 1000000) (h20 : n ≠ 20) :
    Calls Try.prog 49 #[.pointer (some ⟨g, 0, none⟩), .int .i64 n] w (PickPost w g B m n) := pick_c g B m n w h hm hn
theorem below_heap {B k : Nat} {w w' : World} {o : Obj} (h : Below B w w') (hk : k < B) (ho : w.heap[k]? = some o) : w'.heap[k]? = some o := (h.block k hk).trans ho
def evAgg (e : EvD) : Value := .agg #[.int .i64 e.time, .int .i64 e.to, .int .i64 e.from_, .int .i64 e.count, .int .i64 e.n, .int .i64 e.kind, .int .i64 e.arg]
theorem cells7 {w : World} {s : Nat} {t : TypeId} {a b c d e f g : Value} (h : w.heap[s]? = some (.cells #[a, b, c, d, e, f, g] t (0, 0))) :
    (w.cell? ⟨s, 0, none⟩ = some a ∧ w.cell? ⟨s, 1, none⟩ = some b ∧ w.cell? ⟨s, 2, none⟩ = some c ∧ w.cell? ⟨s, 3, none⟩ = some d ∧ w.cell? ⟨s, 4, none⟩ = some e ∧ w.cell? ⟨s, 5, none⟩ = some f ∧ w.cell? ⟨s, 6, none⟩ = some g) ∧ ∀ i, w.frozen? ⟨s, i, none⟩ = false :=
  ⟨⟨blk_cell h 0, blk_cell h 1, blk_cell h 2, blk_cell h 3, blk_cell h 4, blk_cell h 5, blk_cell h 6⟩, blk_frozen h⟩
theorem store7 {w1 : World} {s : Nat} {t : TypeId} {z0 z1 z2 z3 z4 z5 z6 : Value} (hb : w1.heap[s]? = some (.cells #[z0, z1, z2, z3, z4, z5, z6] t (0, 0))) (a b c d e f u : Int) :
    (((((((w1.setCell ⟨s, 0, none⟩ (.int .i64 a)).setCell ⟨s, 1, none⟩ (.int .i64 b)).setCell ⟨s, 2, none⟩ (.int .i64 c)).setCell ⟨s, 3, none⟩ (.int .i64 d)).setCell ⟨s, 4, none⟩ (.int .i64 e)).setCell ⟨s, 5, none⟩ (.int .i64 f)).setCell ⟨s, 6, none⟩ (.int .i64 u)).heap[s]? = some (.cells #[.int .i64 a, .int .i64 b, .int .i64 c, .int .i64 d, .int .i64 e, .int .i64 f, .int .i64 u] t (0, 0)) := by
  have h0 := blk_set hb 0 (.int .i64 a)
  simp only [List.setIfInBounds_toArray, List.set_cons_zero, List.set_cons_succ] at h0
  have h1 := blk_set h0 1 (.int .i64 b)
  simp only [List.setIfInBounds_toArray, List.set_cons_zero, List.set_cons_succ] at h1
  have h2 := blk_set h1 2 (.int .i64 c)
  simp only [List.setIfInBounds_toArray, List.set_cons_zero, List.set_cons_succ] at h2
  have h3 := blk_set h2 3 (.int .i64 d)
  simp only [List.setIfInBounds_toArray, List.set_cons_zero, List.set_cons_succ] at h3
  have h4 := blk_set h3 4 (.int .i64 e)
  simp only [List.setIfInBounds_toArray, List.set_cons_zero, List.set_cons_succ] at h4
  have h5 := blk_set h4 5 (.int .i64 f)
  simp only [List.setIfInBounds_toArray, List.set_cons_zero, List.set_cons_succ] at h5
  have h6 := blk_set h5 6 (.int .i64 u)
  simp only [List.setIfInBounds_toArray, List.set_cons_zero, List.set_cons_succ] at h6
  exact h6
set_option maxHeartbeats 1000000 in
theorem ev_fin {B g : Nat} {m m1 : Int} {w w1 : World} {s : Nat} {t : TypeId} {z0 z1 z2 z3 z4 z5 z6 : Value} {a b c d e f u : Int} {act : Act} (hd : act.defers = []) (h2 : act.tmps.getD 2 undef = .pointer (some ⟨s, 0, none⟩))
    (hb : w1.heap[s]? = some (.cells #[z0, z1, z2, z3, z4, z5, z6] t (0, 0))) (hR : Rdr w1 g B m1) (hm : m1 ≤ m + 9) (hC : Ch (fun k => k = g) w w1) (hs : w.heap.size ≤ s) (hg : g < s) :
    bodyPost Try.prog Try.f50 (fun q w' => ∃ o : EvD, q = .returned (evAgg o) ∧ Rdr w' g B (m + 9) ∧ Ch (fun k => k = g) w w') Exit.ret act (((((((w1.setCell ⟨s, 0, none⟩ (.int .i64 a)).setCell ⟨s, 1, none⟩ (.int .i64 b)).setCell ⟨s, 2, none⟩ (.int .i64 c)).setCell ⟨s, 3, none⟩ (.int .i64 d)).setCell ⟨s, 4, none⟩ (.int .i64 e)).setCell ⟨s, 5, none⟩ (.int .i64 f)).setCell ⟨s, 6, none⟩ (.int .i64 u)) := by
  obtain ⟨⟨q0, q1, q2, q3, q4, q5, q6⟩, qf⟩ := cells7 (store7 hb a b c d e f u)
  have h2' : act.tmps[2]?.getD undef = .pointer (some ⟨s, 0, none⟩) := by simpa using h2
  have hC2 : Ch (fun k => g < k) w1 (((((((w1.setCell ⟨s, 0, none⟩ (.int .i64 a)).setCell ⟨s, 1, none⟩ (.int .i64 b)).setCell ⟨s, 2, none⟩ (.int .i64 c)).setCell ⟨s, 3, none⟩ (.int .i64 d)).setCell ⟨s, 4, none⟩ (.int .i64 e)).setCell ⟨s, 5, none⟩ (.int .i64 f)).setCell ⟨s, 6, none⟩ (.int .i64 u)) := by repeat (first | (with_reducible exact Ch.refl _ _) | with_reducible refine Ch.setCell ?_ (Or.inl (show g < s from hg)) _)
  refine bodyPost_ret (v := evAgg ⟨a, b, c, d, e, f, u⟩) (by simp [results, Try.results50, go_sem, h2', q0, q1, q2, q3, q4, q5, q6, evAgg]) hd ⟨_, rfl, ?_, ?_⟩
  · exact Rdr.move (hR.ch hC2 (fun k hk hk' => absurd hk (Nat.not_le.2 hk'))) rfl (fun _ _ => rfl) hm
  · repeat (first | (with_reducible exact hC) | with_reducible refine Ch.setCell ?_ (Or.inr (show w.heap.size ≤ s from hs)) _)
set_option maxHeartbeats 4000000 in
theorem l72Event_c (g B : Nat) (m : Int) (w : World) (h : Rdr w g B m) (hm : m ≤ 900000) :
    Calls Try.prog 50 #[.pointer (some ⟨g, 0, none⟩)] w fun q w' => ∃ o : EvD, q = .returned (evAgg o) ∧ Rdr w' g B (m + 9) ∧ Ch (fun k => k = g) w w' := by
  have hgl := h.lt
  have hgn : ¬ w.heap.size = g := by omega
  go_enter Try.func50, Try.ntmps50
  go_wp2_with (go_at_call 49; refine (pick_ne g B _ _ _ (Rdr.ch (S := fun k => g < k) (by with_reducible assumption) (by repeat (first | (with_reducible exact Ch.refl _ _) | (with_reducible refine Ch.drew ?_) | (with_reducible refine Ch.alloc ?_ _) | with_reducible refine Ch.setCell ?_ (Or.inl (by omega)) _)) (fun k hk hk' => absurd hk (Nat.not_le.2 hk'))) (by omega) (by omega) (by decide)).mono ?_; rintro e w1 ⟨x, rfl, hx1, hr, hch⟩; have zz := hch.size; (try simp only [World.size_alloc, World.size_drew, World.size_setCell] at zz); have hb1 := hch.heap (k := w.heap.size) (by first | (with_reducible assumption) | exact heap_at rfl) (fun hk => hgn hk); have hz := (show w.heap.size < w1.heap.size by omega); have hA := Ch.trans (S := fun k => k = g) (w := w) (by repeat (first | (with_reducible assumption) | (with_reducible exact Ch.refl _ _) | (with_reducible refine Ch.drew ?_) | (with_reducible refine Ch.alloc ?_ _) | with_reducible refine Ch.setCell ?_ (Or.inr (by simp only; omega)) _)) hch)
  focus (refine (pick_c g B _ _ _ (Rdr.ch (S := fun k => g < k) (by with_reducible assumption) (by repeat (first | (with_reducible exact Ch.refl _ _) | (with_reducible refine Ch.drew ?_) | (with_reducible refine Ch.alloc ?_ _) | with_reducible refine Ch.setCell ?_ (Or.inl (by omega)) _)) (fun k hk hk' => absurd hk (Nat.not_le.2 hk'))) (by omega) (by omega)).mono ?_; rintro e w2 ⟨d, rfl, hd, hr2, hch⟩; have hs1 := (show ¬ w1.heap.size = g by omega); have hs1' := (show ¬ w.heap.size = w1.heap.size by omega); have hs1'' := (show ¬ w1.heap.size = w.heap.size by omega); have zz := hch.size; (try simp only [World.size_alloc, World.size_drew, World.size_setCell] at zz); have hz2 := (show w.heap.size < w2.heap.size by omega); have hz3 := (show w1.heap.size < w2.heap.size by omega); have hb3 := hch.heap (k := w.heap.size) (below_heap (balloc (Below.refl w1.heap.size w1) _) hz hb1) (fun hk => hgn hk); have hb4 := hch.heap (k := w1.heap.size) (heap_at rfl) (fun hk => hs1 hk); have hA2 := Ch.trans (S := fun k => k = g) (w := w) (by repeat (first | (with_reducible assumption) | (with_reducible exact Ch.refl _ _) | (with_reducible refine Ch.drew ?_) | (with_reducible refine Ch.alloc ?_ _) | with_reducible refine Ch.setCell ?_ (Or.inr (by simp only; omega)) _)) hch; clear hr hb1 hA; obtain ⟨⟨p0, p1, p2, p3, p4, p5, p6⟩, pf⟩ := cells7 hb3; obtain ⟨⟨q0, q1, q2, q3, q4, q5, q6⟩, qf⟩ := cells7 hb4)
  apply_assumption
  rcases (show d = 0 ∨ d = 1 ∨ d = 2 ∨ 3 ≤ d by omega) with rfl | rfl | rfl | hd3
  · go_wp2_with (go_at_call 49;refine (pick_c g B _ _ _ (Rdr.ch (S := fun k => g < k) (by with_reducible assumption) (by repeat (first | (with_reducible exact Ch.refl _ _) | (with_reducible refine Ch.drew ?_) | (with_reducible refine Ch.alloc ?_ _) | with_reducible refine Ch.setCell ?_ (Or.inl (by omega)) _)) (fun k hk hk' => absurd hk (Nat.not_le.2 hk'))) (by omega) (by omega)).mono ?_; rintro e w3 ⟨x, rfl, hx, hr3, hch⟩; have hs2 := (show ¬ w2.heap.size = g by omega); have hs2' := (show ¬ w2.heap.size = w.heap.size by omega); have hs2'' := (show ¬ w2.heap.size = w1.heap.size by omega); have zz := hch.size; (try simp only [World.size_alloc, World.size_drew, World.size_setCell] at zz); have hz4 := (show w.heap.size < w3.heap.size by omega); have hz5 := (show w1.heap.size < w3.heap.size by omega); have hz6 := (show w2.heap.size < w3.heap.size by omega); have hx' := (show x < 3 by omega); have hb5 := hch.heap (k := w.heap.size) (below_heap (balloc (Below.refl w2.heap.size w2) _) hz2 hb3) (fun hk => hgn hk); have hb6 := hch.heap (k := w1.heap.size) (below_heap (balloc (Below.refl w2.heap.size w2) _) hz3 hb4) (fun hk => hs1 hk); have hb7 := hch.heap (k := w2.heap.size) (heap_at rfl) (fun hk => hs2 hk); have hA3 := Ch.trans (S := fun k => k = g) (w := w) (by repeat (first | (with_reducible assumption) | (with_reducible exact Ch.refl _ _) | (with_reducible refine Ch.drew ?_) | (with_reducible refine Ch.alloc ?_ _) | with_reducible refine Ch.setCell ?_ (Or.inr (by simp only; omega)) _)) hch; clear hr2 hb3 hb4 hA2; obtain ⟨v, hv⟩ := (show ∃ v, w3.cell? ⟨w2.heap.size, x, none⟩ = some (.int .i64 v) by (rcases (show x = 0 ∨ x = 1 ∨ x = 2 by omega) with rfl | rfl | rfl <;> exact ⟨_, blk_cell hb7 _⟩)); have hb8 := blk_set hb6 0 (.int .i64 v); have hb9 := (Below.heap_setCell w3 ⟨w1.heap.size, 0, none⟩ (.int .i64 v) w.heap.size (by (simp only; omega))).trans hb5; obtain ⟨⟨p0, p1, p2, p3, p4, p5, p6⟩, pf⟩ := cells7 hb6; obtain ⟨⟨q0, q1, q2, q3, q4, q5, q6⟩, qf⟩ := cells7 hb8; obtain ⟨⟨r0, r1, r2, r3, r4, r5, r6⟩, rf⟩ := cells7 hb9)
    exact ev_fin rfl rfl hb9 (Rdr.ch (S := fun k => g < k) hr3 (Ch.setCell (p := ⟨w1.heap.size, 0, none⟩) (Ch.refl _ _) (Or.inl (by simp only; omega)) _) (fun k hk hk' => absurd hk (Nat.not_le.2 hk'))) (by omega) (Ch.setCell (p := ⟨w1.heap.size, 0, none⟩) hA3 (Or.inr (by simp only; omega)) _) (Nat.le_refl _) hgl
  · go_wp2_with (go_at_call 49;refine (pick_c g B _ _ _ (Rdr.ch (S := fun k => g < k) (by with_reducible assumption) (by repeat (first | (with_reducible exact Ch.refl _ _) | (with_reducible refine Ch.drew ?_) | (with_reducible refine Ch.alloc ?_ _) | with_reducible refine Ch.setCell ?_ (Or.inl (by omega)) _)) (fun k hk hk' => absurd hk (Nat.not_le.2 hk'))) (by omega) (by omega)).mono ?_; rintro e w3 ⟨x, rfl, hx, hr3, hch⟩; have hs2 := (show ¬ w2.heap.size = g by omega); have hs2' := (show ¬ w2.heap.size = w.heap.size by omega); have hs2'' := (show ¬ w2.heap.size = w1.heap.size by omega); have zz := hch.size; (try simp only [World.size_alloc, World.size_drew, World.size_setCell] at zz); have hz4 := (show w.heap.size < w3.heap.size by omega); have hz5 := (show w1.heap.size < w3.heap.size by omega); have hz6 := (show w2.heap.size < w3.heap.size by omega); have hx' := (show x < 2 by omega); have hb5 := hch.heap (k := w.heap.size) (below_heap (balloc (Below.refl w2.heap.size w2) _) hz2 hb3) (fun hk => hgn hk); have hb6 := hch.heap (k := w1.heap.size) (below_heap (balloc (Below.refl w2.heap.size w2) _) hz3 hb4) (fun hk => hs1 hk); have hb7 := hch.heap (k := w2.heap.size) (heap_at rfl) (fun hk => hs2 hk); have hA3 := Ch.trans (S := fun k => k = g) (w := w) (by repeat (first | (with_reducible assumption) | (with_reducible exact Ch.refl _ _) | (with_reducible refine Ch.drew ?_) | (with_reducible refine Ch.alloc ?_ _) | with_reducible refine Ch.setCell ?_ (Or.inr (by simp only; omega)) _)) hch; clear hr2 hb3 hb4 hA2; obtain ⟨v, hv⟩ := (show ∃ v, w3.cell? ⟨w2.heap.size, x, none⟩ = some (.int .i64 v) by (rcases (show x = 0 ∨ x = 1 by omega) with rfl | rfl <;> exact ⟨_, blk_cell hb7 _⟩)); have hb8 := blk_set hb6 1 (.int .i64 v); have hb9 := (Below.heap_setCell w3 ⟨w1.heap.size, 1, none⟩ (.int .i64 v) w.heap.size (by (simp only; omega))).trans hb5; obtain ⟨⟨p0, p1, p2, p3, p4, p5, p6⟩, pf⟩ := cells7 hb6; obtain ⟨⟨q0, q1, q2, q3, q4, q5, q6⟩, qf⟩ := cells7 hb8; obtain ⟨⟨r0, r1, r2, r3, r4, r5, r6⟩, rf⟩ := cells7 hb9)
    exact ev_fin rfl rfl hb9 (Rdr.ch (S := fun k => g < k) hr3 (Ch.setCell (p := ⟨w1.heap.size, 1, none⟩) (Ch.refl _ _) (Or.inl (by simp only; omega)) _) (fun k hk hk' => absurd hk (Nat.not_le.2 hk'))) (by omega) (Ch.setCell (p := ⟨w1.heap.size, 1, none⟩) hA3 (Or.inr (by simp only; omega)) _) (Nat.le_refl _) hgl
  · go_wp2_with (go_at_call 49;refine (pick_c g B _ _ _ (Rdr.ch (S := fun k => g < k) (by with_reducible assumption) (by repeat (first | (with_reducible exact Ch.refl _ _) | (with_reducible refine Ch.drew ?_) | (with_reducible refine Ch.alloc ?_ _) | with_reducible refine Ch.setCell ?_ (Or.inl (by omega)) _)) (fun k hk hk' => absurd hk (Nat.not_le.2 hk'))) (by omega) (by omega)).mono ?_; rintro e w3 ⟨x, rfl, hx, hr3, hch⟩; have hs2 := (show ¬ w2.heap.size = g by omega); have hs2' := (show ¬ w2.heap.size = w.heap.size by omega); have hs2'' := (show ¬ w2.heap.size = w1.heap.size by omega); have zz := hch.size; (try simp only [World.size_alloc, World.size_drew, World.size_setCell] at zz); have hz4 := (show w.heap.size < w3.heap.size by omega); have hz5 := (show w1.heap.size < w3.heap.size by omega); have hz6 := (show w2.heap.size < w3.heap.size by omega); have hx' := (show x < 3 by omega); have hb5 := hch.heap (k := w.heap.size) (below_heap (balloc (Below.refl w2.heap.size w2) _) hz2 hb3) (fun hk => hgn hk); have hb6 := hch.heap (k := w1.heap.size) (below_heap (balloc (Below.refl w2.heap.size w2) _) hz3 hb4) (fun hk => hs1 hk); have hb7 := hch.heap (k := w2.heap.size) (heap_at rfl) (fun hk => hs2 hk); have hA3 := Ch.trans (S := fun k => k = g) (w := w) (by repeat (first | (with_reducible assumption) | (with_reducible exact Ch.refl _ _) | (with_reducible refine Ch.drew ?_) | (with_reducible refine Ch.alloc ?_ _) | with_reducible refine Ch.setCell ?_ (Or.inr (by simp only; omega)) _)) hch; clear hr2 hb3 hb4 hA2; obtain ⟨v, hv⟩ := (show ∃ v, w3.cell? ⟨w2.heap.size, x, none⟩ = some (.int .i64 v) by (rcases (show x = 0 ∨ x = 1 ∨ x = 2 by omega) with rfl | rfl | rfl <;> exact ⟨_, blk_cell hb7 _⟩)); have hb8 := blk_set hb6 6 (.int .i64 v); have hb9 := (Below.heap_setCell w3 ⟨w1.heap.size, 6, none⟩ (.int .i64 v) w.heap.size (by (simp only; omega))).trans hb5; obtain ⟨⟨p0, p1, p2, p3, p4, p5, p6⟩, pf⟩ := cells7 hb6; obtain ⟨⟨q0, q1, q2, q3, q4, q5, q6⟩, qf⟩ := cells7 hb8; obtain ⟨⟨r0, r1, r2, r3, r4, r5, r6⟩, rf⟩ := cells7 hb9)
    exact ev_fin rfl rfl hb9 (Rdr.ch (S := fun k => g < k) hr3 (Ch.setCell (p := ⟨w1.heap.size, 6, none⟩) (Ch.refl _ _) (Or.inl (by simp only; omega)) _) (fun k hk hk' => absurd hk (Nat.not_le.2 hk'))) (by omega) (Ch.setCell (p := ⟨w1.heap.size, 6, none⟩) hA3 (Or.inr (by simp only; omega)) _) (Nat.le_refl _) hgl
  · have hd0 : (((d : Nat) : Int) == 0) = false := by simp; omega
    have hd1 : (((d : Nat) : Int) == 1) = false := by simp; omega
    have hd2 : (((d : Nat) : Int) == 2) = false := by simp; omega
    go_wp2_with fail
    exact ev_fin rfl rfl hb3 hr2 (by omega) hA2 (Nat.le_refl _) hgl
end Go.Proofs.Ytmnccekljombmaa

namespace Go.Proofs.Ytmnccekljombmaa
set_option linter.unusedVariables false
set_option linter.unusedSectionVars false
/-- A strict order in which two that are not told apart are the same. -/
structure StrictOrd {α : Type} (lt : α → α → Bool) : Prop where
  asymm : ∀ a b, lt a b = true → lt b a = false
  trans : ∀ a b c, lt a b = true → lt b c = true → lt a c = true
  total : ∀ a b, lt a b = false → lt b a = false → a = b
section
variable {α : Type} [Inhabited α] {lt : α → α → Bool}
theorem StrictOrd.le_trans (O : StrictOrd lt) {a b c : α} (h1 : lt b a = false) (h2 : lt c b = false) : lt c a = false := by
  cases h3 : lt a b with
  | true =>
    cases h4 : lt c a with
    | true => have := O.trans c a b h4 h3; rw [this] at h2; cases h2
    | false => rfl
  | false =>
    have := O.total a b h3 h1
    subst this
    exact h2
theorem StrictOrd.irrefl (O : StrictOrd lt) (a : α) : lt a a = false := by
  cases h : lt a a with
  | true => have := O.asymm a a h; rw [h] at this; cases this
  | false => rfl
/-- The thing at a place. -/
def nth (l : List α) (i : Nat) : α := l.getD i default
theorem nth_eq {l : List α} {i : Nat} (h : i < l.length) : nth l i = l[i] := by simp [nth, List.getD, h]
/-- Two things change places. -/
def swp (l : List α) (i j : Nat) : List α := (l.set i (nth l j)).set j (nth l i)
theorem swp_len (l : List α) (i j : Nat) : (swp l i j).length = l.length := by simp [swp]
theorem nth_set (l : List α) (i : Nat) (x : α) (k : Nat) (hi : i < l.length) : nth (l.set i x) k = if k = i then x else nth l k := by
  unfold nth List.getD
  by_cases h : k = i
  · subst h; simp [hi]
  · rw [List.getElem?_set_ne (Ne.symm h), if_neg h]
theorem nth_swp (l : List α) (i j k : Nat) (hi : i < l.length) (hj : j < l.length) : nth (swp l i j) k = if k = j then nth l i else if k = i then nth l j else nth l k := by
  unfold swp
  rw [nth_set _ _ _ _ (by simpa using hj), nth_set _ _ _ _ hi]
theorem swp_perm (l : List α) (i j : Nat) (hi : i < l.length) (hj : j < l.length) : (swp l i j).Perm l := by
  unfold swp
  rw [nth_eq hi, nth_eq hj]
  exact List.set_set_perm hi hj
variable (lt)
def hup : Nat → List α → Nat → List α
  | 0, l, _ => l
  | n + 1, l, k => if k = 0 then l else if lt (nth l k) (nth l ((k - 1) / 2)) = true then hup n (swp l k ((k - 1) / 2)) ((k - 1) / 2) else l
def hpush (l : List α) (x : α) : List α := hup lt l.length (l ++ [x]) l.length
/-- The lesser child of a place. -/
def child (l : List α) (k : Nat) : Nat := if 2 * k + 1 + 1 < l.length ∧ lt (nth l (2 * k + 1 + 1)) (nth l (2 * k + 1)) = true then 2 * k + 1 + 1 else 2 * k + 1
def hdown : Nat → List α → Nat → List α
  | 0, l, _ => l
  | n + 1, l, k => if l.length ≤ 2 * k + 1 then l else if lt (nth l (child lt l k)) (nth l k) = true then hdown n (swp l k (child lt l k)) (child lt l k) else l
/-- What is left when the least thing is taken. -/
def hrest (l : List α) : List α := hdown lt l.length ((l.set 0 (nth l (l.length - 1))).take (l.length - 1)) 0
def hdrain : Nat → List α → List α
  | 0, _ => []
  | n + 1, l => if l.length = 0 then [] else nth l 0 :: hdrain n (hrest lt l)
variable {lt}
def IsHeap (lt : α → α → Bool) (l : List α) : Prop := ∀ i, 0 < i → i < l.length → lt (nth l i) (nth l ((i - 1) / 2)) = false
theorem hup_fuel : ∀ (n m : Nat) (l : List α) (k : Nat), k ≤ n → k ≤ m → hup lt n l k = hup lt m l k
  | 0, 0, _, _, _, _ => rfl
  | 0, m + 1, l, k, h, _ => by obtain rfl : k = 0 := by omega
                               simp [hup]
  | n + 1, 0, l, k, _, h => by obtain rfl : k = 0 := by omega
                               simp [hup]
  | n + 1, m + 1, l, k, h1, h2 => by
    simp only [hup]
    split
    · rfl
    · split
      · exact hup_fuel n m _ _ (by omega) (by omega)
      · rfl
theorem hup_perm : ∀ (n : Nat) (l : List α) (k : Nat), k < l.length → (hup lt n l k).Perm l
  | 0, l, k, _ => List.Perm.refl _
  | n + 1, l, k, h => by
    simp only [hup]
    split
    · exact List.Perm.refl _
    · split
      · exact (hup_perm n _ _ (by rw [swp_len]; omega)).trans (swp_perm l _ _ h (by omega))
      · exact List.Perm.refl _
theorem hup_heap (O : StrictOrd lt) : ∀ (n : Nat) (l : List α) (k : Nat), k ≤ n → k < l.length →
    (∀ i, 0 < i → i < l.length → i ≠ k → lt (nth l i) (nth l ((i - 1) / 2)) = false) → (∀ c, c < l.length → 0 < c → (c - 1) / 2 = k → 0 < k → lt (nth l c) (nth l ((k - 1) / 2)) = false) → IsHeap lt (hup lt n l k)
  | 0, l, k, hn, hk, h1, h2 => by
    obtain rfl : k = 0 := by omega
    exact fun i h0 hi => h1 i h0 hi (by omega)
  | n + 1, l, k, hn, hk, h1, h2 => by
    simp only [hup]
    split
    · rename_i h0; subst h0; exact fun i h0 hi => h1 i h0 hi (by omega)
    · rename_i hk0
      split
      · rename_i hlt
        have hp : (k - 1) / 2 < l.length := by omega
        have hpk : (k - 1) / 2 < k := by omega
        refine hup_heap O n _ _ (by omega) (by rw [swp_len]; omega) (fun i hi0 hi hne => ?_) (fun c hc hc0 hcp hp0 => ?_)
        · rw [swp_len] at hi
          rw [nth_swp l _ _ _ hk hp, nth_swp l _ _ _ hk hp]
          by_cases e1 : i = k
          · subst e1
            rw [if_neg hne, if_pos rfl, if_pos rfl]
            exact O.asymm _ _ hlt
          · rw [if_neg hne, if_neg e1]
            by_cases e2 : (i - 1) / 2 = (k - 1) / 2
            · rw [if_pos e2]
              have h3 := h1 i hi0 hi e1
              rw [e2] at h3
              exact O.le_trans (O.asymm _ _ hlt) h3
            · rw [if_neg e2]
              by_cases e3 : (i - 1) / 2 = k
              · rw [if_pos e3]; exact h2 i hi hi0 e3 (by omega)
              · rw [if_neg e3]; exact h1 i hi0 hi e1
        · rw [swp_len] at hc
          rw [nth_swp l _ _ _ hk hp, nth_swp l _ _ _ hk hp, if_neg (by omega : ¬ c = (k - 1) / 2), if_neg (by omega : ¬ ((k - 1) / 2 - 1) / 2 = (k - 1) / 2), if_neg (by omega : ¬ ((k - 1) / 2 - 1) / 2 = k)]
          have h4 := h1 ((k - 1) / 2) hp0 hp (by omega)
          by_cases e1 : c = k
          · rw [if_pos e1]; exact h4
          · rw [if_neg e1]
            have h3 := h1 c hc0 hc e1
            rw [hcp] at h3
            exact O.le_trans h4 h3
      · rename_i hlt
        intro i h0 hi
        by_cases e : i = k
        · subst e; simpa using hlt
        · exact h1 i h0 hi e
theorem nth_append (l : List α) (x : α) (i : Nat) (h : i < l.length) : nth (l ++ [x]) i = nth l i := by
  unfold nth List.getD; rw [List.getElem?_append_left h]
theorem hpush_perm (l : List α) (x : α) : (hpush lt l x).Perm (l ++ [x]) := hup_perm _ _ _ (by simp)
theorem hpush_heap (O : StrictOrd lt) {l : List α} (h : IsHeap lt l) (x : α) : IsHeap lt (hpush lt l x) := by
  refine hup_heap O _ _ _ (Nat.le_refl _) (by simp) (fun i hi0 hi hne => ?_) (fun c hc hc0 hcp _ => ?_)
  · simp only [List.length_append, List.length_singleton] at hi
    rw [nth_append _ _ _ (by omega), nth_append _ _ _ (by omega)]
    exact h i hi0 (by omega)
  · simp only [List.length_append, List.length_singleton] at hc; omega
theorem child_lt {l : List α} {k : Nat} (h : ¬ l.length ≤ 2 * k + 1) : child lt l k < l.length := by unfold child; split <;> omega
theorem child_par (l : List α) (k : Nat) : 0 < child lt l k ∧ (child lt l k - 1) / 2 = k ∧ k < child lt l k := by unfold child; split <;> omega
theorem child_le (O : StrictOrd lt) {l : List α} {k c : Nat} (hc : c < l.length) (h0 : 0 < c) (hp : (c - 1) / 2 = k) : lt (nth l c) (nth l (child lt l k)) = false := by
  have hcc : c = 2 * k + 1 ∨ c = 2 * k + 1 + 1 := by omega
  unfold child
  split
  · rename_i h
    rcases hcc with rfl | rfl
    · exact O.asymm _ _ h.2
    · exact O.irrefl _
  · rename_i h
    rcases hcc with rfl | rfl
    · exact O.irrefl _
    · cases h2 : lt (nth l (2 * k + 1 + 1)) (nth l (2 * k + 1)) with
      | true => exact absurd ⟨hc, h2⟩ h
      | false => rfl
theorem hdown_perm : ∀ (n : Nat) (l : List α) (k : Nat), k < l.length → (hdown lt n l k).Perm l
  | 0, l, k, _ => List.Perm.refl _
  | n + 1, l, k, h => by
    simp only [hdown]
    split
    · exact List.Perm.refl _
    · rename_i hk
      split
      · exact (hdown_perm n _ _ (by rw [swp_len]; exact child_lt hk)).trans (swp_perm l _ _ h (child_lt hk))
      · exact List.Perm.refl _
theorem hdown_nil (n k : Nat) : hdown lt n ([] : List α) k = [] := by cases n <;> simp [hdown]
theorem hdown_fuel : ∀ (n m : Nat) (l : List α) (k : Nat), l.length ≤ k + n → l.length ≤ k + m → hdown lt n l k = hdown lt m l k
  | 0, 0, _, _, _, _ => rfl
  | 0, m + 1, l, k, h, _ => by
    simp only [hdown]; rw [if_pos (by omega)]
  | n + 1, 0, l, k, _, h => by
    simp only [hdown]; rw [if_pos (by omega)]
  | n + 1, m + 1, l, k, h1, h2 => by
    simp only [hdown]
    split
    · rfl
    · split
      · have := (child_par (lt := lt) l k).2.2
        exact hdown_fuel n m _ _ (by rw [swp_len]; omega) (by rw [swp_len]; omega)
      · rfl
theorem hdown_heap (O : StrictOrd lt) : ∀ (n : Nat) (l : List α) (k : Nat), l.length ≤ k + n → k < l.length →
    (∀ i, 0 < i → i < l.length → (i - 1) / 2 ≠ k → lt (nth l i) (nth l ((i - 1) / 2)) = false) → (∀ c, c < l.length → 0 < c → (c - 1) / 2 = k → 0 < k → lt (nth l c) (nth l ((k - 1) / 2)) = false) → IsHeap lt (hdown lt n l k)
  | 0, l, k, hn, hk, h1, h2 => by omega
  | n + 1, l, k, hn, hk, h1, h2 => by
    simp only [hdown]
    split
    · rename_i hle
      exact fun i h0 hi => h1 i h0 hi (by omega)
    · rename_i hle
      obtain ⟨hc0, hcp, hck⟩ := child_par (lt := lt) l k
      have hcl := child_lt (lt := lt) hle
      split
      · rename_i hlt
        have hmin := fun (c : Nat) (hc : c < l.length) (h0 : 0 < c) (hp : (c - 1) / 2 = k) => child_le O (lt := lt) hc h0 hp
        generalize child lt l k = d at *
        refine hdown_heap O n _ _ (by rw [swp_len]; omega) (by rw [swp_len]; omega) (fun i hi0 hi hne => ?_) (fun c hc hc0' hcp' hd0 => ?_)
        · rw [swp_len] at hi
          rw [nth_swp l _ _ _ hk hcl, nth_swp l _ _ _ hk hcl]
          by_cases e1 : i = d
          · subst e1
            rw [if_pos rfl, hcp, if_neg (by omega), if_pos rfl]
            exact O.asymm _ _ hlt
          · rw [if_neg e1]
            by_cases e2 : i = k
            · subst e2
              rw [if_pos rfl, if_neg hne, if_neg (by omega)]
              exact h2 d hcl hc0 hcp (by omega)
            · rw [if_neg e2, if_neg hne]
              by_cases e3 : (i - 1) / 2 = k
              · rw [if_pos e3]; exact hmin i hi hi0 e3
              · rw [if_neg e3]; exact h1 i hi0 hi e3
        · rw [swp_len] at hc
          rw [nth_swp l _ _ _ hk hcl, nth_swp l _ _ _ hk hcl, if_neg (by omega : ¬ c = d), if_neg (by omega : ¬ c = k), hcp, if_neg (by omega), if_pos rfl]
          have h3 := h1 c hc0' hc (by omega)
          rw [hcp'] at h3
          exact h3
      · rename_i hlt
        intro i h0 hi
        by_cases e : (i - 1) / 2 = k
        · rw [e]
          have h3 := child_le O (lt := lt) hi h0 e
          have h4 : lt (nth l (child lt l k)) (nth l k) = false := by simpa using hlt
          exact O.le_trans h4 h3
        · exact h1 i h0 hi e
theorem heap_min (O : StrictOrd lt) {l : List α} (h : IsHeap lt l) : ∀ (i : Nat), i < l.length → lt (nth l i) (nth l 0) = false := by
  intro i
  induction i using Nat.strongRecOn with
  | _ i ih =>
    intro hi
    by_cases h0 : i = 0
    · subst h0; exact O.irrefl _
    · exact O.le_trans (ih ((i - 1) / 2) (by omega) (by omega)) (h i (by omega) hi)
theorem nth_take (l : List α) (n i : Nat) (h : i < n) : nth (l.take n) i = nth l i := by
  unfold nth List.getD; rw [List.getElem?_take, if_pos h]
theorem hrest_len (l : List α) (h : 0 < l.length) : (hrest lt l).length = l.length - 1 := by
  unfold hrest
  by_cases h1 : l.length = 1
  · have : (l.set 0 (nth l (l.length - 1))).take (l.length - 1) = [] := by simp [h1]
    rw [this, hdown_nil]; simp [h1]
  · rw [(hdown_perm _ _ _ (by simp; omega)).length_eq]; simp
theorem hrest_perm (l : List α) (h : 0 < l.length) : (nth l 0 :: hrest lt l).Perm l := by
  unfold hrest
  have key : (nth l 0 :: (l.set 0 (nth l (l.length - 1))).take (l.length - 1)).Perm l := by
    have h1 := swp_perm l 0 (l.length - 1) h (by omega)
    have h2 : swp l 0 (l.length - 1) = (l.set 0 (nth l (l.length - 1))).take (l.length - 1) ++ [nth l 0] := by
      refine List.ext_getElem? fun i => ?_
      by_cases hi : i < l.length - 1
      · rw [List.getElem?_append_left (by simp; omega), List.getElem?_take, if_pos hi]
        unfold swp
        rw [List.getElem?_set_ne (by omega)]
      · by_cases hi2 : i = l.length - 1
        · subst hi2
          rw [List.getElem?_append_right (by simp)]
          unfold swp
          rw [List.getElem?_set_self (by simp; omega)]
          simp
        · rw [List.getElem?_eq_none (by rw [swp_len]; omega), List.getElem?_eq_none (by simp; omega)]
    rw [h2] at h1
    exact List.perm_append_singleton .. |>.symm.trans h1
  refine List.Perm.trans ?_ key
  refine List.Perm.cons _ ?_
  by_cases h1 : l.length = 1
  · have : (l.set 0 (nth l (l.length - 1))).take (l.length - 1) = [] := by simp [h1]
    rw [this, hdown_nil]
  · exact hdown_perm _ _ _ (by simp; omega)
theorem hrest_heap (O : StrictOrd lt) {l : List α} (hh : IsHeap lt l) (h : 0 < l.length) : IsHeap lt (hrest lt l) := by
  by_cases h1 : l.length = 1
  · intro i h0 hi
    rw [hrest_len l h] at hi; omega
  · unfold hrest
    refine hdown_heap O _ _ _ (by simp) (by simp; omega) (fun i hi0 hi hne => ?_) (fun c _ _ _ h0 => by omega)
    simp only [List.length_take, List.length_set] at hi
    rw [nth_take _ _ _ (by omega), nth_take _ _ _ (by omega), nth_set _ _ _ _ h, nth_set _ _ _ _ h, if_neg (by omega), if_neg hne]
    exact hh i hi0 (by omega)
theorem hdrain_perm : ∀ (n : Nat) (l : List α), l.length ≤ n → (hdrain lt n l).Perm l
  | 0, l, h => by obtain rfl : l = [] := List.length_eq_zero_iff.1 (by omega)
                  exact List.Perm.refl _
  | n + 1, l, h => by
    simp only [hdrain]
    split
    · rename_i h0; obtain rfl : l = [] := List.length_eq_zero_iff.1 h0; exact List.Perm.refl _
    · rename_i h0
      exact ((hdrain_perm n _ (by rw [hrest_len _ (by omega)]; omega)).cons _).trans (hrest_perm l (by omega))
theorem hdrain_sorted (O : StrictOrd lt) : ∀ (n : Nat) (l : List α), l.length ≤ n → IsHeap lt l → (hdrain lt n l).Pairwise (fun a b => lt b a = false)
  | 0, l, h, _ => List.Pairwise.nil
  | n + 1, l, h, hh => by
    simp only [hdrain]
    split
    · exact List.Pairwise.nil
    · rename_i h0
      refine List.pairwise_cons.2 ⟨fun b hb => ?_, hdrain_sorted O n _ (by rw [hrest_len _ (by omega)]; omega) (hrest_heap O hh (by omega))⟩
      have hb2 : b ∈ l := (hrest_perm (lt := lt) l (by omega)).mem_iff.1 (List.mem_cons_of_mem _ ((hdrain_perm n _ (by rw [hrest_len _ (by omega)]; omega)).mem_iff.1 hb))
      obtain ⟨i, hi, rfl⟩ := List.getElem_of_mem hb2
      rw [← nth_eq hi]
      exact heap_min O hh i hi
/-- Two rows in order of the same things are the same. -/
theorem sorted_eq (O : StrictOrd lt) {l m : List α} (h1 : l.Pairwise (fun a b => lt b a = false)) (h2 : m.Pairwise (fun a b => lt b a = false)) (hp : l.Perm m) : l = m :=
  hp.eq_of_pairwise (fun a b _ _ ha hb => O.total a b hb ha) h1 h2
/-- All that was put in, one by one. -/
def heapOf (lt : α → α → Bool) (l : List α) : List α := l.foldl (hpush lt) []
theorem heapOf_ok (O : StrictOrd lt) (l : List α) : IsHeap lt (heapOf lt l) ∧ (heapOf lt l).Perm l := by
  unfold heapOf
  have key : ∀ (l m : List α), IsHeap lt m → IsHeap lt (l.foldl (hpush lt) m) ∧ (l.foldl (hpush lt) m).Perm (m ++ l) := by
    intro l
    induction l with
    | nil => intro m hm; exact ⟨hm, by simp⟩
    | cons x l ih =>
      intro m hm
      obtain ⟨h1, h2⟩ := ih (hpush lt m x) (hpush_heap O hm x)
      refine ⟨h1, h2.trans ?_⟩
      have := (hpush_perm (lt := lt) m x).append_right l
      simpa using this
  obtain ⟨h1, h2⟩ := key l [] (fun i _ hi => by simp at hi)
  exact ⟨h1, by simpa using h2⟩
end
end Go.Proofs.Ytmnccekljombmaa
