/- FnAppShift: when an event comes does not matter for what is done, but for the times. -/
import Derived.Test.YtmnccekljombmaaAppI
import Derived.Test.YtmnccekljombmaaLt2
import Derived.Test.YtmnccekljombmaaRow
import Derived.Test.YtmnccekljombmaaPure2
import Derived.Test.YtmnccekljombmaaPure3
import Derived.Deep.DeepCutAuto
set_option linter.unusedVariables false
set_option linter.unusedSimpArgs false
set_option maxRecDepth 100000
namespace Go.Proofs.Ytmnccekljombmaa
open Go.RowKit
set_option maxHeartbeats 8000000 in
theorem FnAppShift_any (A : Option Addr) (c : Nat) (bs : List Int) (w : World) (h : Rd (tInt .u8) w (fun k => k < w.heap.size) (.slice A bs.length c) bs) (hb : ∀ x ∈ bs, 0 ≤ x ∧ x ≤ 255) :
    Calls Try.prog 6 #[.slice A bs.length c] w fun e w' => e = .returned (.bool true) ∧ Below w.heap.size w w' := by
  by_cases hl : 1048576 < bs.length
  · have hd : decide ((1048576 : Int) < (bs.length : Int)) = true := decide_eq_true (by omega)
    go_enter Try.func6, Try.ntmps6
    go_wp2_with fail
    go_ret
    exact ⟨rfl, Below.refl _ _⟩
  · have hd : decide ((1048576 : Int) < (bs.length : Int)) = false := decide_eq_false (by omega)
    go_enter Try.func6, Try.ntmps6
    go_wp2_with fail
    refine (DrawAppRun_c A c bs _ h hb).mono ?_
    rintro q w1 ⟨v, a, s, e, rfl, hR, hr4, hc12, hB⟩
    obtain ⟨A1, c1, rfl, -⟩ := id hR
    unfold stAgg evAgg
    have HG := appRun_good a s e
    obtain ⟨⟨t, sd, ou⟩, hf⟩ : ∃ r, appRun a s e = r := ⟨_, rfl⟩
    rw [hf] at HG
    simp only at HG
    have HG := hid HG
    have HF := hid hf; clear hf
    clear hl hd h hb
    apply_assumption
    go_wp2_with fail
    refine (specAppRun_c _ a s e _ _ (hR.below (by repeat (first | exact Below.refl _ _ | refine balloc ?_ _)))).mono ?_
    rintro q w2 ⟨sv, ov, hq, hS, hO, hB2⟩
    rw [HF.out] at hq hS hO
    subst hq
    have Z3 : w2.heap[w1.heap.size]? = some (.cells #[.slice A1 a.rules.length c1] 25 (0, 0)) := (hB2.block _ (by simp only [World.size_alloc]; omega)).trans ((heap_old (by simp only [World.size_alloc]; omega)).trans ((heap_old (by simp only [World.size_alloc]; omega)).trans (heap_at rfl)))
    have Z4 : w2.heap[w1.heap.size + 1]? = some (.cells #[.int .i64 s.x, .int .i64 s.y, .int .i64 s.c] 27 (0, 0)) := (hB2.block _ (by simp only [World.size_alloc]; omega)).trans ((heap_old (by simp only [World.size_alloc]; omega)).trans (heap_at (by simp only [World.size_alloc])))
    have Z5 : w2.heap[w1.heap.size + 1 + 1]? = some (.cells #[.int .i64 e.time, .int .i64 e.to, .int .i64 e.from_, .int .i64 e.count, .int .i64 e.n, .int .i64 e.kind, .int .i64 e.arg] 29 (0, 0)) := (hB2.block _ (by simp only [World.size_alloc]; omega)).trans (heap_at (by simp only [World.size_alloc]))
    have hBa : Below w1.heap.size w1 w2 := bthen' (by repeat (first | exact Below.refl _ _ | refine balloc ?_ _)) hB2
    have hz2 := blk_lt Z5
    have hR2 := hR.below hBa
    obtain ⟨As, cs, rfl, -⟩ := hS.shape
    obtain ⟨Ao, co, rfl, -⟩ := hO.shape
    simp only at hS hO ⊢
    clear hB2 hR
    have hzA := blk_cell Z3 0
    simp at hzA
    obtain ⟨y0, y1, y2, -⟩ := cells3 Z4
    obtain ⟨⟨b0, b1, b2, b3, b4, b5, b6⟩, -⟩ := cells7 Z5
    have n3 : ¬ w1.heap.size = w2.heap.size := by omega
    have n4 : ¬ w1.heap.size + 1 = w2.heap.size := by omega
    have n5 : ¬ w1.heap.size + 1 + 1 = w2.heap.size := by omega
    have z3 : w1.heap.size < w2.heap.size := by omega
    have z4 : w1.heap.size + 1 < w2.heap.size := by omega
    apply_assumption
    go_wp2_with fail
    refine (AppRun_c _ a s e _ _ (hR2.below (by repeat (first | exact Below.refl _ _ | refine balloc ?_ _)))).mono ?_
    rintro q w3 ⟨sv2, ov2, hq, hS2, hO2, hB3⟩
    rw [HF.out] at hq hS2 hO2
    subst hq
    obtain ⟨As2, cs2, rfl, -⟩ := hS2.shape
    obtain ⟨Ao2, co2, rfl, -⟩ := hO2.shape
    simp only at hS2 hO2 ⊢
    have Z3b := (hB3.block _ (by simp only [World.size_alloc]; omega)).trans ((heap_old z3).trans Z3)
    have Z4b := (hB3.block _ (by simp only [World.size_alloc]; omega)).trans ((heap_old z4).trans Z4)
    have Z5b := (hB3.block _ (by simp only [World.size_alloc]; omega)).trans ((heap_old hz2).trans Z5)
    have Z6 : w3.heap[w2.heap.size]? = some (.cells #[.int .i64 t.x, .int .i64 t.y, .int .i64 t.c] 27 (0, 0)) := (hB3.block _ (by simp only [World.size_alloc]; omega)).trans (heap_at rfl)
    have hBb : Below w2.heap.size w2 w3 := bthen' (by repeat (first | exact Below.refl _ _ | refine balloc ?_ _)) hB3
    have hz3 := blk_lt Z6
    have hSb := hS.below hBb
    have hOb := hO.below hBb
    have hR3 := hR2.below hBb
    clear hB3 hS hO hzA y0 y1 y2 b0 b1 b2 b3 b4 b5 b6 n3 n4 n5
    have hzA := blk_cell Z3b 0
    simp at hzA
    obtain ⟨y0, y1, y2, -⟩ := cells3 Z4b
    obtain ⟨⟨b0, b1, b2, b3, b4, b5, b6⟩, -⟩ := cells7 Z5b
    obtain ⟨x0, x1, x2, -⟩ := cells3 Z6
    have m2 : ¬ w1.heap.size = w3.heap.size := by omega
    have m3 : ¬ w1.heap.size + 1 = w3.heap.size := by omega
    have m4 : ¬ w1.heap.size + 1 + 1 = w3.heap.size := by omega
    have m5 : ¬ w2.heap.size = w3.heap.size := by omega
    have k2 : w1.heap.size < w3.heap.size := by omega
    have k3 : w1.heap.size + 1 < w3.heap.size := by omega
    have k4 : w1.heap.size + 1 + 1 < w3.heap.size := by omega
    apply_assumption
    have hBall : Below w.heap.size w w3 := bthen' (bthen' hB hBa) hBb
    have Z3c := (heap_old (o := (.cells #[.int .i64 t.x, .int .i64 t.y, .int .i64 t.c] 27 (0, 0))) k2).trans Z3b
    have Z4c := (heap_old (o := (.cells #[.int .i64 t.x, .int .i64 t.y, .int .i64 t.c] 27 (0, 0))) k3).trans Z4b
    have Z5c := (heap_old (o := (.cells #[.int .i64 t.x, .int .i64 t.y, .int .i64 t.c] 27 (0, 0))) k4).trans Z5b
    have Z6c := (heap_old (o := (.cells #[.int .i64 t.x, .int .i64 t.y, .int .i64 t.c] 27 (0, 0))) hz3).trans Z6
    have Z9c : (w3.alloc (.cells #[.int .i64 t.x, .int .i64 t.y, .int .i64 t.c] 27 (0, 0))).heap[w3.heap.size]? = some (.cells #[.int .i64 t.x, .int .i64 t.y, .int .i64 t.c] 27 (0, 0)) := heap_at rfl
    have hBw : Below w3.heap.size w3 (w3.alloc (.cells #[.int .i64 t.x, .int .i64 t.y, .int .i64 t.c] 27 (0, 0))) := balloc (Below.refl _ _) _
    have hS2 := hS2.below hBw
    have hO2 := hO2.below hBw
    have hSb := hSb.below hBw
    have hOb := hOb.below hBw
    have hR3 := hR3.below hBw
    have hBW := bthen' hBall hBw
    have hzW : w3.heap.size < (w3.alloc (.cells #[.int .i64 t.x, .int .i64 t.y, .int .i64 t.c] 27 (0, 0))).heap.size := by simp
    clear hBw hBall hzA y0 y1 y2 b0 b1 b2 b3 b4 b5 b6 x0 x1 x2 m2 m3 m4 m5
    go_upto_region 6 with fail
    generalize hWW : w3.alloc (.cells #[.int .i64 t.x, .int .i64 t.y, .int .i64 t.c] 27 (0, 0)) = W at *
    clear hWW
    have hzA := blk_cell Z3c 0
    simp at hzA
    obtain ⟨y0, y1, y2, -⟩ := cells3 Z4c
    obtain ⟨⟨b0, b1, b2, b3, b4, b5, b6⟩, -⟩ := cells7 Z5c
    obtain ⟨x0, x1, x2, -⟩ := cells3 Z6c
    obtain ⟨u0, u1, u2, -⟩ := cells3 Z9c
    have heq1 : decide (sd = sd) = true := decide_eq_true rfl
    have heq2 : decide (ou = ou) = true := decide_eq_true rfl
    by_cases ht0 : t = st0
    · subst ht0
      unfold st0 at *
      go_wp2_with fail
      refine (ltEvents_c _ _ sd sd (fun _ => True) _ (Rd.move (w := W) (w' := W) (fun _ _ => rfl) (hS2.rd.mono (fun _ _ => trivial))) (Rd.move (w := W) (w' := W) (fun _ _ => rfl) (hSb.rd.mono (fun _ _ => trivial)))).mono ?_
      rintro q w4 ⟨rfl, n1, rfl⟩
      apply_assumption
      go_wp2_with fail
      refine (ltOuts_c _ _ ou ou (fun _ => True) _ (Rd.move (w := W) (w' := W.drewN n1) (fun _ _ => rfl) (hO2.rd.mono (fun _ _ => trivial))) (Rd.move (w := W) (w' := W.drewN n1) (fun _ _ => rfl) (hOb.rd.mono (fun _ _ => trivial)))).mono ?_
      rintro q w4 ⟨rfl, n2, rfl⟩
      apply_assumption
      go_wp2_with fail
      refine (ltEvents_c _ _ sd sd (fun _ => True) _ (Rd.move (w := W) (w' := (W.drewN (n1 + n2))) (fun _ _ => rfl) (hS2.rd.mono (fun _ _ => trivial))) (Rd.move (w := W) (w' := (W.drewN (n1 + n2))) (fun _ _ => rfl) (hSb.rd.mono (fun _ _ => trivial)))).mono ?_
      rintro q w4 ⟨rfl, n3, rfl⟩
      apply_assumption
      go_wp2_with fail
      refine (ltOuts_c _ _ ou ou (fun _ => True) _ (Rd.move (w := W) (w' := (W.drewN (n1 + n2 + n3))) (fun _ _ => rfl) (hO2.rd.mono (fun _ _ => trivial))) (Rd.move (w := W) (w' := (W.drewN (n1 + n2 + n3))) (fun _ _ => rfl) (hOb.rd.mono (fun _ _ => trivial)))).mono ?_
      rintro q w4 ⟨rfl, n4, rfl⟩
      apply_assumption
      go_wp2_with fail
      go_ret
      exact ⟨rfl, bdrewN hBW _⟩
    · have hne : (t.x == 0 && (t.y == 0 && t.c == 0)) = false := by
        obtain ⟨tx, ty, tc⟩ := t
        simp [st0] at ht0 ⊢
        intro h1 h2; exact ht0 h1 h2
      have hval := appRun_valid (a := a) (s := s) (e := e) (by rw [HF.out]; exact ht0)
      have hev : 0 ≤ e.time ∧ e.time ≤ 40 := by simp [evOk, inn] at hval; omega
      have hshift := appRun_shift a s e { e with time := e.time + ((e.time + 40) / 2 - e.time) } ((e.time + 40) / 2 - e.time) rfl (by omega) (by simp only; omega) hval
      rw [HF.out] at hshift
      rw [show e.time + ((e.time + 40) / 2 - e.time) = (e.time + 40) / 2 by omega] at hshift
      obtain ⟨⟨t2, mo, lo⟩, hf2⟩ : ∃ r, appRun a s { e with time := (e.time + 40) / 2 } = r := ⟨_, rfl⟩
      rw [hf2] at hshift
      simp only at hshift
      obtain ⟨rfl, hlo, hmo⟩ := hshift
      have HF2 := hid hf2; clear hf2
      have HLO := hid hlo; clear hlo
      have HMO := hid hmo; clear hmo
      have hev0 := hev.1
      have hev1 := hev.2
      clear hval hev ht0
      go_cut [62] (fun c wc => c = .bool false ∧ ∃ n, wc = W.drewN n)
      case first =>
        go_wp2_with fail
        refine (ltEvents_c _ _ sd sd (fun _ => True) _ (Rd.move (w := W) (w' := W) (fun _ _ => rfl) (hS2.rd.mono (fun _ _ => trivial))) (Rd.move (w := W) (w' := W) (fun _ _ => rfl) (hSb.rd.mono (fun _ _ => trivial)))).mono ?_
        rintro q w4 ⟨rfl, n1, rfl⟩
        apply_assumption
        go_wp2_with fail
        refine (ltOuts_c _ _ ou ou (fun _ => True) _ (Rd.move (w := W) (w' := W.drewN n1) (fun _ _ => rfl) (hO2.rd.mono (fun _ _ => trivial))) (Rd.move (w := W) (w' := W.drewN n1) (fun _ _ => rfl) (hOb.rd.mono (fun _ _ => trivial)))).mono ?_
        rintro q w4 ⟨rfl, n2, rfl⟩
        apply_assumption
        go_wp2_with fail
        all_goals (go_meet; first | exact ⟨rfl, _, rfl⟩ | (exfalso; revert hne; simp [*]; done))
      case rest =>
        obtain ⟨rfl, nw, rfl⟩ := hcut
        have Z3c : (W.drewN nw).heap[w1.heap.size]? = _ := Z3c
        have Z4c : (W.drewN nw).heap[w1.heap.size + 1]? = _ := Z4c
        have Z5c : (W.drewN nw).heap[w1.heap.size + 1 + 1]? = _ := Z5c
        have Z9c : (W.drewN nw).heap[w3.heap.size]? = _ := Z9c
        have hS2 := hS2.drewN nw
        have hR3 : Rd tRule (W.drewN nw) _ _ _ := Rd.move (w := W) (fun _ _ => rfl) hR3
        have hBW : Below w.heap.size w (W.drewN nw) := bdrewN hBW nw
        have hzW : w3.heap.size < (W.drewN nw).heap.size := hzW
        clear hne hO2 hSb hOb Z6c hzA y0 y1 y2 b0 b1 b2 b3 b4 b5 b6 x0 x1 x2 u0 u1 u2
        generalize hV : W.drewN nw = V at *
        clear hV
        have hzA := blk_cell Z3c 0
        simp at hzA
        obtain ⟨y0, y1, y2, -⟩ := cells3 Z4c
        obtain ⟨⟨b0, b1, b2, b3, b4, b5, b6⟩, -⟩ := cells7 Z5c
        obtain ⟨u0, u1, u2, -⟩ := cells3 Z9c
        have o1 : ¬ w1.heap.size = V.heap.size := by omega
        have o2 : ¬ w1.heap.size + 1 = V.heap.size := by omega
        have o3 : ¬ w1.heap.size + 1 + 1 = V.heap.size := by omega
        have o4 : ¬ w2.heap.size = V.heap.size := by omega
        have o5 : ¬ w3.heap.size = V.heap.size := by omega
        have p1 : w1.heap.size < V.heap.size := by omega
        have p2 : w1.heap.size + 1 < V.heap.size := by omega
        have p3 : w1.heap.size + 1 + 1 < V.heap.size := by omega
        have p4 : w2.heap.size < V.heap.size := by omega
        go_wp2_with fail
        refine (AppRun_c _ a s ⟨(e.time + 40) / 2, e.to, e.from_, e.count, e.n, e.kind, e.arg⟩ (fun k => w.heap.size ≤ k) _ ?_).mono ?_
        · exact hR3.below (by repeat (first | (with_reducible exact Below.refl _ _) | (with_reducible refine balloc ?_ _) | (with_reducible refine bdrewN ?_ _)))
        rintro q w5 ⟨sv3, ov3, hq, hS3, hO3, hB5⟩
        rw [HF2.out] at hq hS3 hO3
        subst hq
        obtain ⟨As3, cs3, rfl, -⟩ := hS3.shape
        obtain ⟨Ao3, co3, rfl, -⟩ := hO3.shape
        simp only at hS3 hO3 ⊢
        have HB : Below V.heap.size V w5 := bthen' (by repeat (first | exact Below.refl _ _ | refine balloc ?_ _ | refine bdrewN ?_ _)) hB5
        have Z12 : w5.heap[V.heap.size]? = some (.cells #[.int .i64 ((e.time + 40) / 2), .int .i64 e.to, .int .i64 e.from_, .int .i64 e.count, .int .i64 e.n, .int .i64 e.kind, .int .i64 e.arg] 29 (0, 0)) := (hB5.block _ (by simp)).trans (heap_at rfl)
        have Z5e := (HB.block _ (blk_lt Z5c)).trans Z5c
        have Z9e := (HB.block _ (blk_lt Z9c)).trans Z9c
        have hS2e := hS2.below HB
        have hz5 := blk_lt Z12
        clear hzA y0 y1 y2 b0 b1 b2 b3 b4 b5 b6 u0 u1 u2 hB5
        obtain ⟨⟨b0, b1, b2, b3, b4, b5, b6⟩, -⟩ := cells7 Z5e
        obtain ⟨⟨d0, d1, d2, d3, d4, d5, d6⟩, -⟩ := cells7 Z12
        obtain ⟨u0, u1, u2, -⟩ := cells3 Z9e
        have o6 : ¬ w1.heap.size + 1 + 1 = w5.heap.size := by omega
        have o7 : ¬ w3.heap.size = w5.heap.size := by omega
        have o8 : ¬ V.heap.size = w5.heap.size := by omega
        have p6 : w1.heap.size + 1 + 1 < w5.heap.size := by omega
        have p7 : w3.heap.size < w5.heap.size := by omega
        have hBf : Below w.heap.size w w5 := bthen' hBW HB
        have hSX : Rd tEv (w5.alloc (.cells #[.int .i64 t2.x, .int .i64 t2.y, .int .i64 t2.c] 27 (0, 0))) (fun _ => True) (.slice As2 sd.length cs2) sd := ((hS2e.rd).below (balloc (Below.refl _ _) _)).mono (fun _ _ => trivial)
        have hMX : Rd tEv (w5.alloc (.cells #[.int .i64 t2.x, .int .i64 t2.y, .int .i64 t2.c] 27 (0, 0))) (fun _ => True) (.slice As3 mo.length cs3) mo := ((hS3.rd).below (balloc (Below.refl _ _) _)).mono (fun _ _ => trivial)
        have hls : sd.length ≤ 2 := HG.out.2.2.1
        have hml := shift_len HMO.out
        have hmlle : mo.length ≤ 2 := by
          have := List.length_filter_le (fun q : EvD => decide (q.time + ((e.time + 40) / 2 - e.time) ≤ 40)) sd; omega
        have HML := hid hml; clear hml
        apply_assumption
        go_wp2_with fail
        go_loopw [16, 17] (fun n i wr => ∃ k j : Nat, i = .int .i64 k ∧ k ≤ sd.length ∧ n = .int .i64 (((sd.take k).filter (fun q => decide (q.time + ((e.time + 40) / 2 - e.time) ≤ 40))).length : Nat) ∧ wr = ((w5.alloc (.cells #[.int .i64 t2.x, .int .i64 t2.y, .int .i64 t2.c] 27 (0, 0)))).drewN j) (fun _ i _ => sd.length - (intOf i).toNat)
        case atStart => exact ⟨0, 0, rfl, Nat.zero_le _, rfl, rfl⟩
        case round =>
          obtain ⟨k, j, rfl, hk, rfl, rfl⟩ := hrel
          by_cases hkl : k < sd.length
          · obtain ⟨b', o', rfl, hbl, q0, q1, q2, q3, q4, q5, q6⟩ := ev_at hSX k hkl
            have hg := HG.out.1 sd[k] (List.getElem_mem _)
            have hg0 := hg.1
            have hg1 := hg.2.2.2
            clear hg
            have hst := filter_step (fun q : EvD => decide (q.time + ((e.time + 40) / 2 - e.time) ≤ 40)) sd k hkl
            have g7 : (k : Int) < sd.length := by omega
            by_cases hfit : sd[k].time + ((e.time + 40) / 2 - e.time) ≤ 40
            · obtain ⟨hn, r1, r2, r3, r4⟩ := shift_get HMO.out k hkl hfit
              rw [if_pos (decide_eq_true hfit)] at hst
              generalize ((sd.take k).filter (fun q => decide (q.time + ((e.time + 40) / 2 - e.time) ≤ 40))).length = n' at *
              obtain ⟨b2, o2, rfl, hbl2, s0, s1, s2, s3, s4, s5, s6⟩ := ev_at hMX n' hn
              have f1 : decide (sd[k].time + (e.time + 40) / 2 - e.time ≤ 40) = true := decide_eq_true (by omega)
              have g1 : decide ((mo.length : Int) ≤ (n' : Int)) = false := decide_eq_false (by omega)
              have g2 : (mo[n'].time != sd[k].time + (e.time + 40) / 2 - e.time) = false := by rw [r1, bne_eq_false_iff_eq]; omega
              have g3 : (mo[n'].to != sd[k].to) = false := by rw [r2]; simp
              have g4 : (mo[n'].kind != sd[k].kind) = false := by rw [r3]; simp
              have g5 : (mo[n'].arg != sd[k].arg) = false := by rw [r4]; simp
              have g6 : (n' : Int) < mo.length := by omega
              have HST := hid hst
              have v1 : IntKind.i64.wrap (sd[k].time + (e.time + 40) / 2) = sd[k].time + (e.time + 40) / 2 := IntWalk.i64_in _ (by omega)
              have v2 : IntKind.i64.wrap (sd[k].time + (e.time + 40) / 2 - e.time) = sd[k].time + (e.time + 40) / 2 - e.time := IntWalk.i64_in _ (by omega)
              clear hst r1 r2 r3 r4
              go_wp2_with fail
              go_quiet (fail)
              go_wp2_with fail
              go_quiet (fail)
              go_wp2_with fail
              go_roundw
              case rel => exact ⟨k + 1, _, by go_num, by omega, by rw [HST.out]; go_num, rfl⟩
              case measure => simp [intOf]; omega
            · rw [if_neg (by simpa using hfit)] at hst
              have f1 : decide (sd[k].time + (e.time + 40) / 2 - e.time ≤ 40) = false := decide_eq_false (by omega)
              have HST := hid hst
              have v1 : IntKind.i64.wrap (sd[k].time + (e.time + 40) / 2) = sd[k].time + (e.time + 40) / 2 := IntWalk.i64_in _ (by omega)
              have v2 : IntKind.i64.wrap (sd[k].time + (e.time + 40) / 2 - e.time) = sd[k].time + (e.time + 40) / 2 - e.time := IntWalk.i64_in _ (by omega)
              clear hst
              go_wp2_with fail
              go_quiet (fail)
              go_wp2_with fail
              go_roundw
              case rel => exact ⟨k + 1, _, by go_num, by omega, by rw [HST.out]; simp, rfl⟩
              case measure => simp [intOf]; omega
          · have htk : sd.take k = sd := List.take_of_length_le (by omega)
            have f1 : ((((sd.take k).filter (fun q => decide (q.time + ((e.time + 40) / 2 - e.time) ≤ 40))).length : Int) == (mo.length : Int)) = true := by rw [htk, HML.out]; simp
            have f1' : (((sd.take k).filter (fun q => decide (q.time + ((e.time + 40) / 2 - e.time) ≤ 40))).length == mo.length) = true := by rw [htk, HML.out]; simp
            have f2 : ((lo.length : Int) == (ou.length : Int)) = true := by rw [HLO.out]; simp
            have f2' : (lo.length == ou.length) = true := by rw [HLO.out]; simp
            clear htk
            generalize ((sd.take k).filter (fun q => decide (q.time + ((e.time + 40) / 2 - e.time) ≤ 40))).length = n' at *
            go_wp2_with fail
            go_ret
            exact ⟨rfl, bdrewN (balloc hBf _) _⟩
end Go.Proofs.Ytmnccekljombmaa
