/- FnAppRun: whatever a process does stays within its bounds. -/
import Derived.Test.YtmnccekljombmaaAppI
import Derived.Test.YtmnccekljombmaaLt2
import Derived.Test.YtmnccekljombmaaRow
import Derived.Test.YtmnccekljombmaaPure2
set_option linter.unusedVariables false
set_option linter.unusedSimpArgs false
set_option maxRecDepth 100000
namespace Go.Proofs.Ytmnccekljombmaa
open Go.RowKit
set_option maxHeartbeats 8000000 in
theorem FnAppRun_any (A : Option Addr) (c : Nat) (bs : List Int) (w : World) (h : Rd (tInt .u8) w (fun k => k < w.heap.size) (.slice A bs.length c) bs) (hb : ∀ x ∈ bs, 0 ≤ x ∧ x ≤ 255) :
    Calls Try.prog 5 #[.slice A bs.length c] w fun e w' => e = .returned (.bool true) ∧ Below w.heap.size w w' := by
  by_cases hl : 1048576 < bs.length
  · have hd : decide ((1048576 : Int) < (bs.length : Int)) = true := decide_eq_true (by omega)
    go_enter Try.func5, Try.ntmps5
    go_wp2_with fail
    go_ret
    exact ⟨rfl, Below.refl _ _⟩
  · have hd : decide ((1048576 : Int) < (bs.length : Int)) = false := decide_eq_false (by omega)
    go_enter Try.func5, Try.ntmps5
    go_wp2_with fail
    refine (DrawAppRun_c A c bs _ h hb).mono ?_
    rintro q w1 ⟨v, a, s, e, rfl, hR, hr4, hc12, hB⟩
    obtain ⟨A1, c1, rfl, -⟩ := id hR
    unfold stAgg evAgg
    have HG := appRun_good a s e
    obtain ⟨⟨t, sd, ou⟩, hf⟩ : ∃ r, appRun a s e = r := ⟨_, rfl⟩
    rw [hf] at HG
    simp only at HG
    have HG := hid HG
    have HF := hid hf; clear hf
    clear hl hd h hb
    apply_assumption
    go_wp2_with fail
    refine (specAppRun_c _ a s e _ _ (hR.below (by repeat (first | exact Below.refl _ _ | refine balloc ?_ _)))).mono ?_
    rintro q w2 ⟨sv, ov, hq, hS, hO, hB2⟩
    rw [HF.out] at hq hS hO
    subst hq
    have Z3 : w2.heap[w1.heap.size]? = some (.cells #[.slice A1 a.rules.length c1] 25 (0, 0)) := (hB2.block _ (by simp only [World.size_alloc]; omega)).trans ((heap_old (by simp only [World.size_alloc]; omega)).trans ((heap_old (by simp only [World.size_alloc]; omega)).trans (heap_at rfl)))
    have Z4 : w2.heap[w1.heap.size + 1]? = some (.cells #[.int .i64 s.x, .int .i64 s.y, .int .i64 s.c] 27 (0, 0)) := (hB2.block _ (by simp only [World.size_alloc]; omega)).trans ((heap_old (by simp only [World.size_alloc]; omega)).trans (heap_at (by simp only [World.size_alloc])))
    have Z5 : w2.heap[w1.heap.size + 1 + 1]? = some (.cells #[.int .i64 e.time, .int .i64 e.to, .int .i64 e.from_, .int .i64 e.count, .int .i64 e.n, .int .i64 e.kind, .int .i64 e.arg] 29 (0, 0)) := (hB2.block _ (by simp only [World.size_alloc]; omega)).trans (heap_at (by simp only [World.size_alloc]))
    have hBa : Below w1.heap.size w1 w2 := bthen' (by repeat (first | exact Below.refl _ _ | refine balloc ?_ _)) hB2
    have hz2 := blk_lt Z5
    have hR2 := hR.below hBa
    obtain ⟨As, cs, rfl, -⟩ := hS.shape
    obtain ⟨Ao, co, rfl, -⟩ := hO.shape
    simp only at hS hO ⊢
    clear hB2 hR
    have hzA := blk_cell Z3 0
    simp at hzA
    obtain ⟨y0, y1, y2, -⟩ := cells3 Z4
    obtain ⟨⟨b0, b1, b2, b3, b4, b5, b6⟩, -⟩ := cells7 Z5
    have n3 : ¬ w1.heap.size = w2.heap.size := by omega
    have n4 : ¬ w1.heap.size + 1 = w2.heap.size := by omega
    have n5 : ¬ w1.heap.size + 1 + 1 = w2.heap.size := by omega
    have z3 : w1.heap.size < w2.heap.size := by omega
    have z4 : w1.heap.size + 1 < w2.heap.size := by omega
    apply_assumption
    go_wp2_with fail
    refine (AppRun_c _ a s e _ _ (hR2.below (by repeat (first | exact Below.refl _ _ | refine balloc ?_ _)))).mono ?_
    rintro q w3 ⟨sv2, ov2, hq, hS2, hO2, hB3⟩
    rw [HF.out] at hq hS2 hO2
    subst hq
    obtain ⟨As2, cs2, rfl, -⟩ := hS2.shape
    obtain ⟨Ao2, co2, rfl, -⟩ := hO2.shape
    simp only at hS2 hO2 ⊢
    have Z3b := (hB3.block _ (by simp only [World.size_alloc]; omega)).trans ((heap_old z3).trans Z3)
    have Z4b := (hB3.block _ (by simp only [World.size_alloc]; omega)).trans ((heap_old z4).trans Z4)
    have Z5b := (hB3.block _ (by simp only [World.size_alloc]; omega)).trans ((heap_old hz2).trans Z5)
    have Z6 : w3.heap[w2.heap.size]? = some (.cells #[.int .i64 t.x, .int .i64 t.y, .int .i64 t.c] 27 (0, 0)) := (hB3.block _ (by simp only [World.size_alloc]; omega)).trans (heap_at rfl)
    have hBb : Below w2.heap.size w2 w3 := bthen' (by repeat (first | exact Below.refl _ _ | refine balloc ?_ _)) hB3
    have hz3 := blk_lt Z6
    have hSb := hS.below hBb
    have hOb := hO.below hBb
    have hR3 := hR2.below hBb
    clear hB3 hS hO hzA y0 y1 y2 b0 b1 b2 b3 b4 b5 b6 n3 n4 n5
    have hzA := blk_cell Z3b 0
    simp at hzA
    obtain ⟨y0, y1, y2, -⟩ := cells3 Z4b
    obtain ⟨⟨b0, b1, b2, b3, b4, b5, b6⟩, -⟩ := cells7 Z5b
    obtain ⟨x0, x1, x2, -⟩ := cells3 Z6
    have m2 : ¬ w1.heap.size = w3.heap.size := by omega
    have m3 : ¬ w1.heap.size + 1 = w3.heap.size := by omega
    have m4 : ¬ w1.heap.size + 1 + 1 = w3.heap.size := by omega
    have m5 : ¬ w2.heap.size = w3.heap.size := by omega
    have k2 : w1.heap.size < w3.heap.size := by omega
    have k3 : w1.heap.size + 1 < w3.heap.size := by omega
    have k4 : w1.heap.size + 1 + 1 < w3.heap.size := by omega
    apply_assumption
    go_wp2_with fail
    have hBall : Below w.heap.size w w3 := bthen' (bthen' hB hBa) hBb
    refine (ltEvents_c _ _ sd sd (fun _ => True) _ (((hS2.rd).below (balloc (Below.refl _ _) _)).mono (fun _ _ => trivial)) (((hSb.rd).below (balloc (Below.refl _ _) _)).mono (fun _ _ => trivial))).mono ?_
    rintro q w4 ⟨rfl, n1, rfl⟩
    have heq1 : decide (sd = sd) = true := decide_eq_true rfl
    apply_assumption
    go_wp2_with fail
    refine (ltOuts_c _ _ ou ou (fun _ => True) _ (Rd.move (w := w3.alloc _) (w' := (w3.alloc _).drewN n1) (fun _ _ => rfl) (((hO2.rd).below (balloc (Below.refl _ _) _)).mono (fun _ _ => trivial))) (Rd.move (w := w3.alloc _) (w' := (w3.alloc _).drewN n1) (fun _ _ => rfl) (((hOb.rd).below (balloc (Below.refl _ _) _)).mono (fun _ _ => trivial)))).mono ?_
    rintro q w4 ⟨rfl, n2, rfl⟩
    have heq2 : decide (ou = ou) = true := decide_eq_true rfl
    apply_assumption
    go_wp2_with fail
    have hSW : Rd tEv (w3.alloc (.cells #[.int .i64 t.x, .int .i64 t.y, .int .i64 t.c] 27 (0, 0))) (fun _ => True) (.slice As2 sd.length cs2) sd := ((hS2.rd).below (balloc (Below.refl _ _) _)).mono (fun _ _ => trivial)
    have hOW : Rd tOut (w3.alloc (.cells #[.int .i64 t.x, .int .i64 t.y, .int .i64 t.c] 27 (0, 0))) (fun _ => True) (.slice Ao2 ou.length co2) ou := ((hO2.rd).below (balloc (Below.refl _ _) _)).mono (fun _ _ => trivial)
    have hls : sd.length ≤ 2 := HG.out.2.2.1
    have hlo : ou.length ≤ 2 := HG.out.2.2.2.1
    go_loopw [12] (fun i wr => ∃ k n : Nat, i = .int .i64 k ∧ k ≤ sd.length ∧ wr = ((w3.alloc (.cells #[.int .i64 t.x, .int .i64 t.y, .int .i64 t.c] 27 (0, 0)))).drewN n) (fun i _ => sd.length - (intOf i).toNat)
    case atStart => exact ⟨0, _, rfl, Nat.zero_le _, rfl⟩
    case round =>
      obtain ⟨k, n, rfl, hk, rfl⟩ := hrel
      by_cases hkl : k < sd.length
      · obtain ⟨b', o', rfl, hbl, q0, q1, q2, q3, q4, q5, q6⟩ := ev_at hSW k hkl
        have hg := HG.out.1 sd[k] (List.getElem_mem _)
        have g1 : decide (sd[k].time ≤ e.time) = false := decide_eq_false (by omega)
        have g2 : (sd[k].from_ != e.to) = false := by simp [hg.2.1]
        have g3 : (sd[k].count != s.c) = false := by simp [hg.2.2.1]
        have g4 : decide (40 < sd[k].time) = false := decide_eq_false (by omega)
        have g5 : (k : Int) < sd.length := by omega
        clear hg
        go_wp2_with fail
        go_quiet (fail)
        go_wp2_with fail
        go_roundw
        case rel => exact ⟨k + 1, _, by go_num, by omega, rfl⟩
        case measure => simp [intOf]; omega
      · go_wp2_with fail
        go_loopw [13] (fun i wr => ∃ k n : Nat, i = .int .i64 k ∧ k ≤ ou.length ∧ wr = ((w3.alloc (.cells #[.int .i64 t.x, .int .i64 t.y, .int .i64 t.c] 27 (0, 0)))).drewN n) (fun i _ => ou.length - (intOf i).toNat)
        case atStart => exact ⟨0, _, rfl, Nat.zero_le _, rfl⟩
        case round =>
          obtain ⟨k', n', rfl, hk', rfl⟩ := hrel
          by_cases hkl' : k' < ou.length
          · obtain ⟨b', o', rfl, hbl, q0, q1, q2, q3, q4⟩ := out_at hOW k' hkl'
            have hg := HG.out.2.1 ou[k'] (List.getElem_mem _)
            have g1 : (ou[k'].time != e.time) = false := by simp [hg.1]
            have g2 : (ou[k'].proc != e.to) = false := by simp [hg.2.1]
            have g3 : decide (ou[k'].value < 0) = false := decide_eq_false (by omega)
            have g4 : decide (999 < ou[k'].value) = false := decide_eq_false (by omega)
            have g5 : (k' : Int) < ou.length := by omega
            clear hg
            go_wp2_with fail
            go_quiet (fail)
            go_wp2_with fail
            go_roundw
            case rel => exact ⟨k' + 1, _, by go_num, by omega, rfl⟩
            case measure => simp [intOf]; omega
          · have hx0 : 0 ≤ t.x := HG.out.2.2.2.2.1
            have hx1 : t.x ≤ 999 := HG.out.2.2.2.2.2.1
            have hy0 : 0 ≤ t.y := HG.out.2.2.2.2.2.2.1
            have hy1 : t.y ≤ 999 := HG.out.2.2.2.2.2.2.2.1
            have f1 : decide ((sd.length : Int) ≤ 2) = true := decide_eq_true (by omega)
            have f2 : decide ((ou.length : Int) ≤ 2) = true := decide_eq_true (by omega)
            have f3 : decide (0 ≤ t.x) = true := decide_eq_true hx0
            have f4 : decide (t.x ≤ 999) = true := decide_eq_true hx1
            have f5 : decide (0 ≤ t.y) = true := decide_eq_true hy0
            have f6 : decide (t.y ≤ 999) = true := decide_eq_true hy1
            have hc0 := hc12.1
            have hc1 := hc12.2
            rcases HG.out.2.2.2.2.2.2.2.2 with hc | ⟨hc, rfl, rfl⟩ | hc
            · have f7 : (t.c == s.c + 1) = true := by simp [hc]
              clear hc
              go_wp2_with fail
              go_ret
              exact ⟨rfl, bdrewN (balloc hBall _) _⟩
            · have f7 : (t.c == s.c + 1) = false := by rw [hc]; simp; omega
              have f8 : (t.c == s.c) = true := by simp [hc]
              clear hc
              go_wp2_with fail
              go_ret
              exact ⟨rfl, bdrewN (balloc hBall _) _⟩
            · obtain ⟨rfl, rfl, rfl⟩ : t = st0 ∧ sd = [] ∧ ou = [] := by
                have := congrArg Prod.fst hc
                have := congrArg (fun r => r.2.1) hc
                have := congrArg (fun r => r.2.2) hc
                exact ⟨by assumption, by assumption, by assumption⟩
              clear hc
              unfold st0 at *
              have f7 : ((0 : Int) == s.c + 1) = false := by simp; omega
              by_cases h0 : s.c = 0
              · have f8 : ((0 : Int) == s.c) = true := by simp [h0]
                clear h0
                go_wp2_with fail
                go_ret
                exact ⟨rfl, bdrewN (balloc hBall _) _⟩
              · have f8 : ((0 : Int) == s.c) = false := by simp; omega
                clear h0
                go_wp2_with fail
                go_ret
                exact ⟨rfl, bdrewN (balloc hBall _) _⟩
end Go.Proofs.Ytmnccekljombmaa
