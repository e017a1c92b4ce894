/- A process that has done all it may does no more. -/
import Derived.Test.YtmnccekljombmaaAppI
import Derived.Test.YtmnccekljombmaaLt2
import Derived.Test.YtmnccekljombmaaRow
set_option linter.unusedVariables false
set_option maxRecDepth 100000
namespace Go.Proofs.Ytmnccekljombmaa
open Go.ChangeShapes Go.WideShapes Go.ChangeAt Go.RowKit
theorem appRun_most (a : AppD) (s : StD) (e : EvD) (h : s.c = 12) : ∃ t : StD, appRun a s e = (t, [], []) ∧ (t = s ∨ t = st0) := by
  unfold appRun
  split
  · exact ⟨s, by simp, Or.inl rfl⟩
  · exact ⟨st0, rfl, Or.inr rfl⟩
set_option maxHeartbeats 4000000 in
theorem FnAppMost_any (A : Option Addr) (c : Nat) (bs : List Int) (w : World) (h : Rd (tInt .u8) w (fun k => k < w.heap.size) (.slice A bs.length c) bs) (hb : ∀ x ∈ bs, 0 ≤ x ∧ x ≤ 255) :
    Calls Try.prog 4 #[.slice A bs.length c] w fun e w' => e = .returned (.bool true) ∧ Below w.heap.size w w' := by
  by_cases hl : 1048576 < bs.length
  · have hd : decide ((1048576 : Int) < (bs.length : Int)) = true := decide_eq_true (by omega)
    go_enter Try.func4, Try.ntmps4
    go_wp2_with fail
    go_ret
    exact ⟨rfl, Below.refl _ _⟩
  · have hd : decide ((1048576 : Int) < (bs.length : Int)) = false := decide_eq_false (by omega)
    go_enter Try.func4, Try.ntmps4
    go_wp2_with fail
    refine (DrawAppRun_c A c bs _ h hb).mono ?_
    rintro q w1 ⟨v, a, s, e, rfl, hR, hr4, hc12, hB⟩
    obtain ⟨A1, c1, rfl, -⟩ := id hR
    unfold stAgg evAgg
    obtain ⟨t, hf, ht⟩ := appRun_most a ⟨s.x, s.y, 12⟩ e rfl
    have HF := hid hf; clear hf
    apply_assumption
    go_wp2_with fail
    refine (specAppRun_c _ a ⟨s.x, s.y, 12⟩ e _ _ (hR.below (by repeat (first | exact Below.refl _ _ | refine balloc ?_ _)))).mono ?_
    rintro q w2 ⟨sv, ov, hq, hS, hO, hB2⟩
    rw [HF.out] at hq hS hO
    subst hq
    have Z3 : w2.heap[w1.heap.size]? = some (.cells #[.slice A1 a.rules.length c1] 25 (0, 0)) := (hB2.block _ (by simp only [World.size_alloc]; omega)).trans ((heap_old (by simp only [World.size_alloc]; omega)).trans ((heap_old (by simp only [World.size_alloc]; omega)).trans (heap_at rfl)))
    have Z4 : w2.heap[w1.heap.size + 1]? = some (.cells #[.int .i64 s.x, .int .i64 s.y, .int .i64 12] 27 (0, 0)) := (hB2.block _ (by simp only [World.size_alloc]; omega)).trans ((heap_old (by simp only [World.size_alloc]; omega)).trans (heap_at (by simp only [World.size_alloc])))
    have Z5 : w2.heap[w1.heap.size + 1 + 1]? = some (.cells #[.int .i64 e.time, .int .i64 e.to, .int .i64 e.from_, .int .i64 e.count, .int .i64 e.n, .int .i64 e.kind, .int .i64 e.arg] 29 (0, 0)) := (hB2.block _ (by simp only [World.size_alloc]; omega)).trans (heap_at (by simp only [World.size_alloc]))
    have hBa : Below w1.heap.size w1 w2 := bthen' (by repeat (first | exact Below.refl _ _ | refine balloc ?_ _)) hB2
    have hz2 := blk_lt Z5
    have hR2 := hR.below hBa
    obtain ⟨As, cs, rfl, -⟩ := hS.shape
    obtain ⟨Ao, co, rfl, -⟩ := hO.shape
    clear hB2 hR
    have hzA := blk_cell Z3 0
    simp at hzA
    obtain ⟨y0, y1, y2, -⟩ := cells3 Z4
    obtain ⟨⟨b0, b1, b2, b3, b4, b5, b6⟩, -⟩ := cells7 Z5
    have n3 : ¬ w1.heap.size = w2.heap.size := by omega
    have n4 : ¬ w1.heap.size + 1 = w2.heap.size := by omega
    have n5 : ¬ w1.heap.size + 1 + 1 = w2.heap.size := by omega
    have z3 : w1.heap.size < w2.heap.size := by omega
    have z4 : w1.heap.size + 1 < w2.heap.size := by omega
    apply_assumption
    go_wp2_with fail
    refine (AppRun_c _ a ⟨s.x, s.y, 12⟩ e _ _ (hR2.below (by repeat (first | exact Below.refl _ _ | refine balloc ?_ _)))).mono ?_
    rintro q w3 ⟨sv2, ov2, hq, hS2, hO2, hB3⟩
    rw [HF.out] at hq hS2 hO2
    subst hq
    obtain ⟨As2, cs2, rfl, -⟩ := hS2.shape
    obtain ⟨Ao2, co2, rfl, -⟩ := hO2.shape
    have Z4b := (hB3.block _ (by simp only [World.size_alloc]; omega)).trans ((heap_old z4).trans Z4)
    have Z6 : w3.heap[w2.heap.size]? = some (.cells #[.int .i64 t.x, .int .i64 t.y, .int .i64 t.c] 27 (0, 0)) := (hB3.block _ (by simp only [World.size_alloc]; omega)).trans (heap_at rfl)
    have hBb : Below w2.heap.size w2 w3 := bthen' (by repeat (first | exact Below.refl _ _ | refine balloc ?_ _)) hB3
    have hz3 := blk_lt Z6
    have hSb := hS.below hBb
    have hOb := hO.below hBb
    obtain ⟨y0, y1, y2, -⟩ := cells3 Z4b
    obtain ⟨x0, x1, x2, -⟩ := cells3 Z6
    have n6 : ¬ w2.heap.size = w3.heap.size := by omega
    have n7 : ¬ w1.heap.size + 1 = w3.heap.size := by omega
    have z7 : w1.heap.size + 1 < w3.heap.size := by omega
    apply_assumption
    go_wp2_with fail
    refine (ltEvents_c _ _ [] [] (fun _ => True) _ (((hS2.rd).below (balloc (Below.refl _ _) _)).mono (fun _ _ => trivial)) (((hSb.rd).below (balloc (Below.refl _ _) _)).mono (fun _ _ => trivial))).mono ?_
    rintro q w4 ⟨rfl, n1, rfl⟩
    apply_assumption
    go_wp2_with fail
    refine (ltOuts_c _ _ [] [] (fun _ => True) _ (Rd.move (w := w3.alloc _) (w' := (w3.alloc _).drewN n1) (fun _ _ => rfl) (((hO2.rd).below (balloc (Below.refl _ _) _)).mono (fun _ _ => trivial))) (Rd.move (w := w3.alloc _) (w' := (w3.alloc _).drewN n1) (fun _ _ => rfl) (((hOb.rd).below (balloc (Below.refl _ _) _)).mono (fun _ _ => trivial)))).mono ?_
    rintro q w4 ⟨rfl, n2, rfl⟩
    apply_assumption
    have hBall : Below w.heap.size w w3 := bthen' (bthen' hB hBa) hBb
    rcases ht with rfl | rfl
    · go_wp2_with fail
      go_ret
      exact ⟨rfl, bdrewN (balloc hBall _) _⟩
    · unfold st0 at x0 x1 x2 ⊢
      go_wp2_with fail
      go_ret
      exact ⟨rfl, bdrewN (balloc hBall _) _⟩
end Go.Proofs.Ytmnccekljombmaa
