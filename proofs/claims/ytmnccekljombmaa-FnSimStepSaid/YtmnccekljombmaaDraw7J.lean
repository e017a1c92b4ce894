/- What a drawn thing that is let out is. -/
import Derived.Test.YtmnccekljombmaaJ03
import Derived.Test.YtmnccekljombmaaJ12
set_option linter.unusedVariables false
set_option linter.unusedSimpArgs false
set_option maxRecDepth 100000
namespace Go.Proofs.Ytmnccekljombmaa
open Go.RowKit
theorem out_fin {Q : Ending → World → Prop} {w1 : World} {s : Nat} {t : TypeId} {z0 z1 z2 z3 z4 : Value} {a b c d e : Int} {act : Act} (hd : act.defers = []) (h2 : act.tmps.getD 2 undef = .pointer (some ⟨s, 0, none⟩))
    (hb : w1.heap[s]? = some (.cells #[z0, z1, z2, z3, z4] t (0, 0)))
    (hQ : Q (.returned (outAgg ⟨a, b, c, d, e⟩)) (((((w1.setCell ⟨s, 0, none⟩ (.int .i64 a)).setCell ⟨s, 1, none⟩ (.int .i64 b)).setCell ⟨s, 2, none⟩ (.int .i64 c)).setCell ⟨s, 3, none⟩ (.int .i64 d)).setCell ⟨s, 4, none⟩ (.int .i64 e))) :
    bodyPost Try.prog Try.f108 Q Exit.ret act (((((w1.setCell ⟨s, 0, none⟩ (.int .i64 a)).setCell ⟨s, 1, none⟩ (.int .i64 b)).setCell ⟨s, 2, none⟩ (.int .i64 c)).setCell ⟨s, 3, none⟩ (.int .i64 d)).setCell ⟨s, 4, none⟩ (.int .i64 e)) := by
  obtain ⟨q0, q1, q2, q3, q4, qf⟩ := cells5 (store5 hb a b c d e)
  have h2' : act.tmps[2]?.getD undef = .pointer (some ⟨s, 0, none⟩) := by simpa using h2
  exact bodyPost_ret (v := outAgg ⟨a, b, c, d, e⟩) (by simp [results, Try.results108, go_sem, h2', q0, q1, q2, q3, q4, outAgg]) hd hQ
set_option maxHeartbeats 4000000 in
theorem l72Out_c (g B : Nat) (m : Int) (w : World) (h : Rdr w g B m) (hm : m ≤ 900000) :
    Calls Try.prog 108 #[.pointer (some ⟨g, 0, none⟩)] w fun q w' => ∃ o : OutD, q = .returned (outAgg o) ∧ Rdr w' g B (m + 5) ∧ Ch (fun k => k = g) w w' := by
  have hgl := h.lt
  have hgn : ¬ w.heap.size = g := by omega
  go_enter Try.func108, Try.ntmps108
  go_wp2_with (go_at_call 49; refine (pick_c g B _ _ _ (Rdr.ch (S := fun k => g < k) (by with_reducible assumption) (by repeat (first | (with_reducible exact Ch.refl _ _) | (with_reducible refine Ch.drew ?_) | (with_reducible refine Ch.alloc ?_ _) | with_reducible refine Ch.setCell ?_ (Or.inl (by omega)) _)) (fun k hk hk' => absurd hk (Nat.not_le.2 hk'))) (by omega) (by omega)).mono ?_; rintro e w1 ⟨x, rfl, hx1, hr, hch⟩; obtain ⟨kc, kf⟩ := chg_cells hch; have zz := hch.size; (try simp only [World.size_alloc, World.size_drew, World.size_setCell] at zz); have hb1 := hch.heap (k := w.heap.size) (by first | (with_reducible assumption) | exact heap_at rfl) (fun hk => hgn hk); obtain ⟨p0, p1, p2, p3, p4, p5⟩ := cells5 hb1; have hA := Ch.trans (S := fun k => k = g) (w := w) (by repeat (first | (with_reducible assumption) | (with_reducible exact Ch.refl _ _) | (with_reducible refine Ch.drew ?_) | (with_reducible refine Ch.alloc ?_ _) | with_reducible refine Ch.setCell ?_ (Or.inr (by simp only; omega)) _)) hch)
  all_goals refine out_fin rfl rfl (by assumption) ⟨_, rfl, ?_, ?_⟩
  all_goals first | (with_reducible exact rdr_fin (by with_reducible assumption) (by omega) (by omega)) | (focus (repeat (first | (with_reducible assumption) | (with_reducible exact Ch.refl _ _) | (with_reducible refine Ch.drew ?_) | (with_reducible refine Ch.alloc ?_ _) | with_reducible refine Ch.setCell ?_ (Or.inr (by simp only; omega)) _)); done)
end Go.Proofs.Ytmnccekljombmaa
