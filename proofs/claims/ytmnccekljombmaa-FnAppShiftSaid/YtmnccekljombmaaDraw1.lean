/- What the small draws give: a reader of a code, one instruction, one event. -/
import Derived.Test.YtmnccekljombmaaRdr
set_option linter.unusedVariables false
set_option linter.unusedSimpArgs false
set_option maxRecDepth 100000
namespace Go.Proofs.Ytmnccekljombmaa
open Go.RowKit

theorem chg_cells {w w' : World} {g : Nat} (h : Ch (fun k => k = g) w w') : (∀ b o, b < w.heap.size → ¬ b = g → w'.cell? ⟨b, o, none⟩ = w.cell? ⟨b, o, none⟩) ∧ (∀ b o, b < w.heap.size → ¬ b = g → w'.frozen? ⟨b, o, none⟩ = w.frozen? ⟨b, o, none⟩) :=
  h.cells
theorem Rd.take {α : Type} {d : Ty α} {w : World} {F : Nat → Prop} {A : Option Addr} {n c : Nat} {xs : List α} (h : Rd d w F (.slice A n c) xs) (k : Nat) (hk : k ≤ xs.length) : Rd d w F (.slice A k c) (xs.take k) := by
  obtain ⟨A', c', he, h1, h2, h3⟩ := h
  injection he with hA hn hc
  subst hA hc
  have hl : (xs.take k).length = k := by simp; omega
  refine ⟨A, c, by rw [hl], by omega, by omega, fun hp => ?_⟩
  obtain ⟨b, o, rfl, hF, hlt, hc⟩ := h3 (by omega)
  refine ⟨b, o, rfl, hF, hlt, fun j x hj => hc j x ?_⟩
  rw [List.getElem?_take] at hj
  split at hj
  · exact hj
  · cases hj
theorem l6Open_c (A : Option Addr) (c : Nat) (xs : List Int) (w : World) (h : Rd (tInt .u8) w (fun k => k < w.heap.size) (.slice A xs.length c) xs) (hb : ∀ x ∈ xs, 0 ≤ x ∧ x ≤ 255) :
    Calls Try.prog 47 #[.slice A xs.length c] w fun q w' => q = .returned (.pointer (some ⟨w.heap.size, 0, none⟩)) ∧ Rdr w' w.heap.size w.heap.size 0 ∧ Below w.heap.size w w' := by
  have hle : xs.length ≤ c := by obtain ⟨A', c', he, h1, _⟩ := h; injection he with _ _ hc; subst hc; exact h1
  by_cases hl : 2000 < xs.length
  · have hd : decide ((2000 : Int) < (xs.length : Int)) = true := decide_eq_true (by omega)
    have ht := h.take 2000 (by omega)
    obtain ⟨b, o, rfl, hF, hlt, hc⟩ := byte_at h 0 (by omega)
    have hc2 : 2000 ≤ c := by omega
    go_enter Try.func47, Try.ntmps47
    go_wp2
    go_ret
    have hc3 := Rd.move (w' := w.alloc (.cells #[.slice (some ⟨b, o, none⟩) 2000 c, .int .i64 0] 123)) (fun k hk => (balloc (Below.refl w.heap.size w) _).block k hk) ht
    refine ⟨rfl, ⟨some ⟨b, o, none⟩, c, xs.take 2000, 0, ?_, Nat.le_refl _, ?_, fun x hx => hb x (List.mem_of_mem_take hx), by simp; omega, Int.le_refl _, Int.le_refl _⟩, balloc (Below.refl _ _) _⟩
    · rw [show (xs.take 2000).length = 2000 by simp; omega]; exact heap_at (by simp)
    · rw [show (xs.take 2000).length = 2000 by simp; omega]; exact hc3
  · have hd : decide ((2000 : Int) < (xs.length : Int)) = false := decide_eq_false (by omega)
    go_enter Try.func47, Try.ntmps47
    go_wp2
    go_ret
    have hc3 := Rd.move (w' := w.alloc (.cells #[.slice A xs.length c, .int .i64 0] 123)) (fun k hk => (balloc (Below.refl w.heap.size w) _).block k hk) h
    exact ⟨rfl, ⟨_, c, xs, 0, heap_at (by simp), Nat.le_refl _, hc3, hb, by omega, Int.le_refl _, Int.le_refl _⟩, balloc (Below.refl _ _) _⟩
theorem cells5 {w : World} {s : Nat} {t : TypeId} {a b c d e : Value} (h : w.heap[s]? = some (.cells #[a, b, c, d, e] t (0, 0))) :
    w.cell? ⟨s, 0, none⟩ = some a ∧ w.cell? ⟨s, 1, none⟩ = some b ∧ w.cell? ⟨s, 2, none⟩ = some c ∧ w.cell? ⟨s, 3, none⟩ = some d ∧ w.cell? ⟨s, 4, none⟩ = some e ∧ ∀ i, w.frozen? ⟨s, i, none⟩ = false :=
  ⟨blk_cell h 0, blk_cell h 1, blk_cell h 2, blk_cell h 3, blk_cell h 4, blk_frozen h⟩
def opAgg (o : OpD) : Value := .agg #[.int .i64 o.d, .int .i64 o.a, .int .i64 o.b, .int .i64 o.c, .int .i64 o.e]
theorem store5 {w1 : World} {s : Nat} {t : TypeId} {z0 z1 z2 z3 z4 : Value} (hb : w1.heap[s]? = some (.cells #[z0, z1, z2, z3, z4] t (0, 0))) (a b c d e : Int) :
    (((((w1.setCell ⟨s, 0, none⟩ (.int .i64 a)).setCell ⟨s, 1, none⟩ (.int .i64 b)).setCell ⟨s, 2, none⟩ (.int .i64 c)).setCell ⟨s, 3, none⟩ (.int .i64 d)).setCell ⟨s, 4, none⟩ (.int .i64 e)).heap[s]? = some (.cells #[.int .i64 a, .int .i64 b, .int .i64 c, .int .i64 d, .int .i64 e] t (0, 0)) :=
  blk_set (blk_set (blk_set (blk_set (blk_set hb 0 _) 1 _) 2 _) 3 _) 4 _
theorem op_fin {Q : Ending → World → Prop} {w1 : World} {s : Nat} {t : TypeId} {z0 z1 z2 z3 z4 : Value} {a b c d e : Int} {act : Act} (hd : act.defers = []) (h2 : act.tmps.getD 2 undef = .pointer (some ⟨s, 0, none⟩))
    (hb : w1.heap[s]? = some (.cells #[z0, z1, z2, z3, z4] t (0, 0)))
    (hQ : Q (.returned (opAgg ⟨a, b, c, d, e⟩)) (((((w1.setCell ⟨s, 0, none⟩ (.int .i64 a)).setCell ⟨s, 1, none⟩ (.int .i64 b)).setCell ⟨s, 2, none⟩ (.int .i64 c)).setCell ⟨s, 3, none⟩ (.int .i64 d)).setCell ⟨s, 4, none⟩ (.int .i64 e))) :
    bodyPost Try.prog Try.f111 Q Exit.ret act (((((w1.setCell ⟨s, 0, none⟩ (.int .i64 a)).setCell ⟨s, 1, none⟩ (.int .i64 b)).setCell ⟨s, 2, none⟩ (.int .i64 c)).setCell ⟨s, 3, none⟩ (.int .i64 d)).setCell ⟨s, 4, none⟩ (.int .i64 e)) := by
  obtain ⟨q0, q1, q2, q3, q4, qf⟩ := cells5 (store5 hb a b c d e)
  have h2' : act.tmps[2]?.getD undef = .pointer (some ⟨s, 0, none⟩) := by simpa using h2
  exact bodyPost_ret (v := opAgg ⟨a, b, c, d, e⟩) (by simp [results, Try.results111, go_sem, h2', q0, q1, q2, q3, q4, opAgg]) hd hQ
theorem rdr_fin {w1 : World} {g s B : Nat} {m1 m2 : Int} {a b c d e : Value} (h : Rdr w1 g B m1) (hs : g < s) (hm : m1 ≤ m2) : Rdr (((((w1.setCell ⟨s, 0, none⟩ a).setCell ⟨s, 1, none⟩ b).setCell ⟨s, 2, none⟩ c).setCell ⟨s, 3, none⟩ d).setCell ⟨s, 4, none⟩ e) g B m2 := by
  have hC : Ch (fun k => g < k) w1 (((((w1.setCell ⟨s, 0, none⟩ a).setCell ⟨s, 1, none⟩ b).setCell ⟨s, 2, none⟩ c).setCell ⟨s, 3, none⟩ d).setCell ⟨s, 4, none⟩ e) := by repeat (first | exact Ch.refl _ _ | refine Ch.setCell ?_ (Or.inl (show g < s from hs)) _)
  exact Rdr.move (h.ch hC (fun k hk hk' => absurd hk (Nat.not_le.2 hk'))) rfl (fun _ _ => rfl) hm
set_option maxHeartbeats 4000000 in
theorem l71Op_c (g B : Nat) (m : Int) (w : World) (h : Rdr w g B m) (hm : m ≤ 900000) :
    Calls Try.prog 111 #[.pointer (some ⟨g, 0, none⟩)] w fun q w' => ∃ o : OpD, q = .returned (opAgg o) ∧ Rdr w' g B (m + 5) ∧ Ch (fun k => k = g) w w' := by
  have hgl := h.lt
  have hgn : ¬ w.heap.size = g := by omega
  go_enter Try.func111, Try.ntmps111
  go_wp2_with (go_at_call 49; refine (pick_c g B _ _ _ (Rdr.ch (S := fun k => g < k) (by with_reducible assumption) (by repeat (first | (with_reducible exact Ch.refl _ _) | (with_reducible refine Ch.drew ?_) | (with_reducible refine Ch.alloc ?_ _) | with_reducible refine Ch.setCell ?_ (Or.inl (by omega)) _)) (fun k hk hk' => absurd hk (Nat.not_le.2 hk'))) (by omega) (by omega)).mono ?_; rintro e w1 ⟨x, rfl, hx1, hr, hch⟩; obtain ⟨kc, kf⟩ := chg_cells hch; have zz := hch.size; (try simp only [World.size_alloc, World.size_drew, World.size_setCell] at zz); have hb1 := hch.heap (k := w.heap.size) (by first | (with_reducible assumption) | exact heap_at rfl) (fun hk => hgn hk); obtain ⟨p0, p1, p2, p3, p4, p5⟩ := cells5 hb1; have hA := Ch.trans (S := fun k => k = g) (w := w) (by repeat (first | (with_reducible assumption) | (with_reducible exact Ch.refl _ _) | (with_reducible refine Ch.drew ?_) | (with_reducible refine Ch.alloc ?_ _) | with_reducible refine Ch.setCell ?_ (Or.inr (by simp only; omega)) _)) hch)
  all_goals refine op_fin rfl rfl (by assumption) ⟨_, rfl, ?_, ?_⟩
  all_goals first | (with_reducible exact rdr_fin (by with_reducible assumption) (by omega) (by omega)) | (focus (repeat (first | (with_reducible assumption) | (with_reducible exact Ch.refl _ _) | (with_reducible refine Ch.drew ?_) | (with_reducible refine Ch.alloc ?_ _) | with_reducible refine Ch.setCell ?_ (Or.inr (by simp only; omega)) _)); done)
end Go.Proofs.Ytmnccekljombmaa
