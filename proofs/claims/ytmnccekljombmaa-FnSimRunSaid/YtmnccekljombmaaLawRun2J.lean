/- FnSimRun: what is done ahead of a time, and then ahead of a later one, is what is done ahead of that. -/
import Derived.Test.YtmnccekljombmaaJ27
import Derived.Test.YtmnccekljombmaaJ28
import Derived.Test.YtmnccekljombmaaJ29
import Derived.Test.YtmnccekljombmaaJ26
set_option linter.unusedVariables false
set_option linter.unusedSimpArgs false
set_option maxRecDepth 100000
namespace Go.Proofs.Ytmnccekljombmaa
open Go.RowKit
set_option maxHeartbeats 1000000 in
theorem FnSimRun_any (A : Option Addr) (c : Nat) (bs : List Int) (A' : Option Addr) (c' : Nat) (bs' : List Int) (w : World) (h : Rd (tInt .u8) w (fun k => k < w.heap.size) (.slice A bs.length c) bs) (hb : ∀ x ∈ bs, 0 ≤ x ∧ x ≤ 255) (h' : Rd (tInt .u8) w (fun k => k < w.heap.size) (.slice A' bs'.length c') bs') (hb' : ∀ x ∈ bs', 0 ≤ x ∧ x ≤ 255) :
    Calls Try.prog 13 #[.slice A bs.length c, .slice A' bs'.length c'] w fun e w' => e = .returned (.bool true) ∧ Below w.heap.size w w' := by
  by_cases hl : 1048576 < bs.length
  · have hd : decide ((1048576 : Int) < (bs.length : Int)) = true := decide_eq_true (by omega)
    go_enter Try.func13, Try.ntmps13
    go_wp2_with fail
    go_ret
    exact ⟨rfl, Below.refl _ _⟩
  have hd : decide ((1048576 : Int) < (bs.length : Int)) = false := decide_eq_false (by omega)
  by_cases hl' : 1048576 < bs'.length
  · have hd' : decide ((1048576 : Int) < (bs'.length : Int)) = true := decide_eq_true (by omega)
    go_enter Try.func13, Try.ntmps13
    go_wp2_with fail
    go_ret
    exact ⟨rfl, Below.refl _ _⟩
  · have hd' : decide ((1048576 : Int) < (bs'.length : Int)) = false := decide_eq_false (by omega)
    go_enter Try.func13, Try.ntmps13
    go_wp2_with fail
    refine (DrawSimRun_c A c bs _ h hb).mono ?_
    rintro q w0 ⟨v, apps, u, rfl, hA0, hl4, hu, hB0⟩
    obtain ⟨A1, c1, rfl, -⟩ := hA0.shape
    have hA0' := hA0.mono (F' := fun _ => True) (fun _ _ => trivial)
    have h1 := (h'.below hB0).mono (F' := fun k => k < w0.heap.size) (fun k hk => Nat.lt_of_lt_of_le hk hB0.size)
    clear hl hd h hb hA0 hl' hd' h'
    apply_assumption
    go_wp2_with fail
    refine (DrawSimRun_c A' c' bs' _ h1 hb').mono ?_
    rintro q w1 ⟨v2, apps2, u2, rfl, hA2', hl42, hu2, hB1'⟩
    obtain ⟨A2, c2, rfl, -⟩ := hA2'.shape
    have hA := hA0'.below hB1'
    have hB1 := bthen hB0 hB1' hB0.size
    clear h1 hb' hA2' hl42 hA0' hB0 hB1'
    apply_assumption
    go_wp2_with fail
    obtain ⟨s, hs⟩ : ∃ s, simRun apps u = s := ⟨_, rfl⟩
    refine (SimRunS_c _ apps u _ w1 hA).mono ?_
    rintro q w2 ⟨us, uq, uo, rfl, n2, hb2⟩
    rw [hs] at n2
    obtain ⟨V1, b1, rfl, z1⟩ := n2.st.shape
    obtain ⟨V2, b2, rfl, z2⟩ := n2.qu.shape
    obtain ⟨V3, b3, rfl, z3⟩ := n2.ou.shape
    have HS := hid hs
    clear hs
    apply_assumption
    go_wp2_with fail
    have G5 : (w2.alloc (.cells #[.slice V1 s.states.length b1, .slice V2 s.queue.length b2, .slice V3 s.outs.length b3] 64)).heap[w2.heap.size]? = some (.cells #[.slice V1 s.states.length b1, .slice V2 s.queue.length b2, .slice V3 s.outs.length b3] 64 (0, 0)) := heap_at rfl
    have hbx := balloc (Below.refl w2.heap.size w2) (.cells #[.slice V1 s.states.length b1, .slice V2 s.queue.length b2, .slice V3 s.outs.length b3] 64)
    have R5 := n2.rd.below hbx
    have hB2 := bthen (bthen hB1 hb2 hB1.size) hbx (bthen hB1 hb2 hB1.size).size
    have hA2 := (hA.below hb2).below hbx
    obtain ⟨g5, hg5⟩ : ∃ g, g = w2.heap.size := ⟨_, rfl⟩
    rw [← hg5] at G5
    simp only [← hg5]
    generalize w2.alloc (.cells #[.slice V1 s.states.length b1, .slice V2 s.queue.length b2, .slice V3 s.outs.length b3] 64) = W2 at *
    clear n2 hb2 hbx hB1 hA hg5
    refine (SimRunI_c _ apps u _ W2 hA2).mono ?_
    rintro q w3 ⟨us, uq, uo, rfl, n3, hb3⟩
    rw [HS.out] at n3
    obtain ⟨X1, x1, rfl, y1⟩ := n3.st.shape
    obtain ⟨X2, x2, rfl, y2⟩ := n3.qu.shape
    obtain ⟨X3, x3, rfl, y3⟩ := n3.ou.shape
    have K5 := below_heap hb3 (blk_lt G5) G5
    have hg56 := blk_lt K5
    have R5' := R5.below hb3
    have hB3 := bthen hB2 hb3 hB2.size
    have hA3 := hA2.below hb3
    have hB2s := hB2.size
    clear G5 R5 hB2 hA2 hb3
    have c0 : w3.cell? ⟨g5, 0, none⟩ = some (.slice V1 s.states.length b1) := blk_cell K5 0
    have c1' : w3.cell? ⟨g5, 1, none⟩ = some (.slice V2 s.queue.length b2) := blk_cell K5 1
    have c2 : w3.cell? ⟨g5, 2, none⟩ = some (.slice V3 s.outs.length b3) := blk_cell K5 2
    have hgn : ¬ g5 = w3.heap.size := by omega
    apply_assumption
    go_wp2_with fail
    have G6 : (w3.alloc (.cells #[.slice X1 s.states.length x1, .slice X2 s.queue.length x2, .slice X3 s.outs.length x3] 64)).heap[w3.heap.size]? = some (.cells #[.slice X1 s.states.length x1, .slice X2 s.queue.length x2, .slice X3 s.outs.length x3] 64 (0, 0)) := heap_at rfl
    have L5 := (heap_old (o := .cells #[.slice X1 s.states.length x1, .slice X2 s.queue.length x2, .slice X3 s.outs.length x3] 64) hg56).trans K5
    have hbx' := balloc (Below.refl w3.heap.size w3) (.cells #[.slice X1 s.states.length x1, .slice X2 s.queue.length x2, .slice X3 s.outs.length x3] 64)
    have R6 := (n3.rd.below hbx').mono (F' := fun _ => True) (fun _ _ => trivial)
    have R5 := (R5'.below hbx').mono (F' := fun _ => True) (fun _ _ => trivial)
    have hB4 := bthen hB3 hbx' hB3.size
    have hA4 := hA3.below hbx'
    obtain ⟨g6, hg6⟩ : ∃ g, g = w3.heap.size := ⟨_, rfl⟩
    rw [← hg6] at G6 hg56
    simp only [← hg6]
    generalize w3.alloc (.cells #[.slice X1 s.states.length x1, .slice X2 s.queue.length x2, .slice X3 s.outs.length x3] 64) = W3 at *
    have hg6le : w3.heap.size ≤ g6 := Nat.le_of_eq hg6.symm
    have N6 := (n3.below hbx').mono (F' := fun k => w.heap.size ≤ k) (fun k hk => Nat.le_trans hB2s hk)
    have hb34 := hbx'
    clear n3 hbx' K5 R5' hg6 c0 c1' c2 hgn
    refine (ltSim_c _ _ _ _ _ _ s s _ W3 R6 R5).mono ?_
    rintro q w4 ⟨rfl, hb5⟩
    have heq1 : decide (s = s) = true := decide_eq_true rfl
    rw [heq1]
    have G5 := below_heap hb5 (blk_lt L5) L5
    have H6 := below_heap hb5 (blk_lt G6) G6
    have R := R6.below hb5
    have R' := R5.below hb5
    have hA := hA4.below hb5
    have hB := bthen hB4 hb5 hB4.size
    have N := N6.below hb5
    have hb35 := bthen hb34 hb5 hb34.size
    clear L5 G6 R6 N6 hb34 R5 hA4 hB4 hb5 heq1 hg56
    have c0 : w4.cell? ⟨g5, 0, none⟩ = some (.slice V1 s.states.length b1) := blk_cell G5 0
    have c1' : w4.cell? ⟨g5, 1, none⟩ = some (.slice V2 s.queue.length b2) := blk_cell G5 1
    have c2 : w4.cell? ⟨g5, 2, none⟩ = some (.slice V3 s.outs.length b3) := blk_cell G5 2
    have d0 : w4.cell? ⟨g6, 0, none⟩ = some (.slice X1 s.states.length x1) := blk_cell H6 0
    have d1 : w4.cell? ⟨g6, 1, none⟩ = some (.slice X2 s.queue.length x2) := blk_cell H6 1
    have d2 : w4.cell? ⟨g6, 2, none⟩ = some (.slice X3 s.outs.length x3) := blk_cell H6 2
    apply_assumption
    obtain ⟨qa, hqa⟩ : ∃ t, appsOk apps = t := ⟨_, rfl⟩
    go_wp2_with fail
    refine (AppOk_c _ apps _ _ hA).mono ?_
    rintro q w5 ⟨rfl, hb5⟩
    rw [hqa]
    have K5 := below_heap hb5 (blk_lt G5) G5
    have K6 := below_heap hb5 (blk_lt H6) H6
    have S := R.below hb5
    have S' := R'.below hb5
    have N5 := N.below hb5
    have hb36 := bthen hb35 hb5 hb35.size
    clear c0 c1' c2 d0 d1 d2 G5 H6 R R' hA hB hb5 N hb35
    have c0 : w5.cell? ⟨g5, 0, none⟩ = some (.slice V1 s.states.length b1) := blk_cell K5 0
    have c1' : w5.cell? ⟨g5, 1, none⟩ = some (.slice V2 s.queue.length b2) := blk_cell K5 1
    have c2 : w5.cell? ⟨g5, 2, none⟩ = some (.slice V3 s.outs.length b3) := blk_cell K5 2
    have d0 : w5.cell? ⟨g6, 0, none⟩ = some (.slice X1 s.states.length x1) := blk_cell K6 0
    have d1 : w5.cell? ⟨g6, 1, none⟩ = some (.slice X2 s.queue.length x2) := blk_cell K6 1
    have d2 : w5.cell? ⟨g6, 2, none⟩ = some (.slice X3 s.outs.length x3) := blk_cell K6 2
    apply_assumption
    by_cases hc : qa = true ∧ u ≤ u2
    case neg =>
      have hlt : (!qa || decide (u2 < u)) = true := by
        cases qa with
        | false => rfl
        | true => simp at hc ⊢; omega
      have HL := hid hlt
      clear hc hlt
      cases qa
      case false =>
        go_wp2_with fail
        refine (ltSim_c _ _ _ _ _ _ s s _ _ S S').mono ?_
        rintro q w6 ⟨rfl, hb6⟩
        have heq1 : decide (s = s) = true := decide_eq_true rfl
        have hB6 := bthen hB3 (bthen hb36 hb6 hb36.size) hB3.size
        rw [heq1]
        apply_assumption
        go_wp2_with fail
        go_ret
        exact ⟨rfl, hB6⟩
      case true =>
        have hlt : decide (u2 < u) = true := by simpa using HL.out
        go_wp2_with fail
        refine (ltSim_c _ _ _ _ _ _ s s _ _ S S').mono ?_
        rintro q w6 ⟨rfl, hb6⟩
        have heq1 : decide (s = s) = true := decide_eq_true rfl
        have hB6 := bthen hB3 (bthen hb36 hb6 hb36.size) hB3.size
        rw [heq1]
        apply_assumption
        go_wp2_with fail
        go_ret
        exact ⟨rfl, hB6⟩
    case pos =>
      obtain ⟨rfl, huv⟩ := hc
      have hlt : decide (u2 < u) = false := by simp; omega
      have HA := hid (simRun_two hqa u u2 huv)
      have HI := hid (simRun_ok hqa u)
      rw [HS.out] at HA HI
      have hlf := HI.out.2.2.2
      have hin := HI.out.1
      clear huv S S'
      go_wp2_with fail
      clear c0 c1' c2 d0 d1 d2 HI
      go_loopw [11] (fun i wr => ∃ (k m : Nat) (t : SimD) (vs vq vo : Value), i = .int .i64 k ∧ k + m = 200 ∧ wr.heap[g6]? = some (.cells #[vs, vq, vo] 64 (0, 0)) ∧ SimOw wr (fun k => w.heap.size ≤ k) vs vq vo t ∧ SInv t ∧ left t ≤ (m : Nat) ∧ Hid (simLoop apps u2 m t = simRun apps u2) ∧ Below w3.heap.size w3 wr) (fun i _ => 200 - (intOf i).toNat)
      case atStart => exact ⟨0, 200, s, _, _, _, rfl, rfl, K6, N5, hin, hlf, HA, hb36⟩
      case round =>
        clear K5 K6 N5 hin hlf HA hb36 y1 y2 y3 z1 z2 z3
        obtain ⟨k, m, t, vs, vq, vo, rfl, hkm, G, n, hI, hl, HL, hb⟩ := hrel
        obtain ⟨Y1, y1, rfl, q1⟩ := n.st.shape
        obtain ⟨Y2, y2, rfl, q2⟩ := n.qu.shape
        obtain ⟨Y3, y3, rfl, q3⟩ := n.ou.shape
        have hAr := hA3.below hb
        have e0 : wr.cell? ⟨g6, 0, none⟩ = some (.slice Y1 t.states.length y1) := blk_cell G 0
        have e1 : wr.cell? ⟨g6, 1, none⟩ = some (.slice Y2 t.queue.length y2) := blk_cell G 1
        have e2 : wr.cell? ⟨g6, 2, none⟩ = some (.slice Y3 t.outs.length y3) := blk_cell G 2
        have f0 := blk_frozen G 0
        have f1 := blk_frozen G 1
        have f2 := blk_frozen G 2
        by_cases hp : 0 < t.queue.length
        · obtain ⟨e, rest, hq⟩ : ∃ e rest, t.queue = e :: rest := by
            cases hh : t.queue with
            | nil => rw [hh] at hp; simp at hp
            | cons e rest => exact ⟨e, rest, rfl⟩
          obtain ⟨bq, oq, rfl, hbq, r0, -, -, -, -, -, -⟩ := ev_at n.qu.rd 0 hp
          have he : t.queue[0] = e := by simp [hq]
          rw [he] at r0
          simp only [Nat.zero_mul, Nat.add_zero] at r0
          have HQ := hid hq
          have hlq := hI.left_nonneg
          have hm : 0 < m := by omega
          obtain ⟨m', rfl⟩ : ∃ m', m = m' + 1 := ⟨m - 1, by omega⟩
          have k2 : decide ((k : Int) < 200) = true := by simp; omega
          have k3 : (k : Int) < 200 := by omega
          have k4 : k < 200 := by omega
          have p0 : decide ((t.queue.length : Int) > 0) = true := by simp; omega
          have p1 : decide (0 < t.queue.length) = true := by simp; omega
          have p2 : (0 : Int) < (t.queue.length : Int) := by omega
          clear he hq hlq hm
          by_cases ht : e.time < u2
          · have htd : decide (e.time < u2) = true := by simpa using ht
            have HStep := hid (show simStep apps t = (simNext apps t, true) by rw [simStep, if_pos ⟨hI.ok, hqa⟩, simStepV_ok hqa hI HQ.out])
            have hN := simNext_ok hqa hI HQ.out
            have HL' := hid (show simLoop apps u2 m' (simNext apps t) = simRun apps u2 by rw [← HL.out, simLoop_step u2 m' hqa hI HQ.out, if_pos ht])
            have hI' := hN.inv
            have hless := hN.less
            have hl' : left (simNext apps t) ≤ (m' : Nat) := by unfold left at hl ⊢; push_cast at hl; omega
            clear hN HL ht hless hl
            go_wp2_with fail
            refine (SimStepI_c _ _ _ _ apps t _ wr hAr (n.rd.mono (fun _ _ => trivial))).mono ?_
            rintro q w6 ⟨us, uq, uo, rfl, n6, hb6⟩
            rw [HStep.out] at n6 ⊢
            obtain ⟨Z1, t1, rfl, u1'⟩ := n6.st.shape
            obtain ⟨Z2, t2, rfl, u2'⟩ := n6.qu.shape
            obtain ⟨Z3, t3, rfl, u3'⟩ := n6.ou.shape
            have G' := below_heap hb6 (blk_lt G) G
            have hb6' := bthen hb hb6 hb.size
            have n6' := n6.mono (F' := fun k => w.heap.size ≤ k) (fun k hk => by have h1 := hb.size; have h2 := hB3.size; have h3 : wr.heap.size ≤ k := hk; show w.heap.size ≤ k; omega)
            clear G n hb n6 hb6 e0 e1 e2 f0 f1 f2 r0
            have e0 : w6.cell? ⟨g6, 0, none⟩ = some (.slice Y1 t.states.length y1) := blk_cell G' 0
            have e1 : w6.cell? ⟨g6, 1, none⟩ = some (.slice (some ⟨bq, oq, none⟩) t.queue.length y2) := blk_cell G' 1
            have e2 : w6.cell? ⟨g6, 2, none⟩ = some (.slice Y3 t.outs.length y3) := blk_cell G' 2
            have f0 := blk_frozen G' 0
            have f1 := blk_frozen G' 1
            have f2 := blk_frozen G' 2
            apply_assumption
            go_wp2_with fail
            obtain ⟨BW, nW, hbX⟩ := sim_store (w := w3) (g := g6) G' n6' hg6le hb6' (.slice Z1 (simNext apps t).states.length t1) (.slice Z2 (simNext apps t).queue.length t2) (.slice Z3 (simNext apps t).outs.length t3) rfl rfl rfl
            go_roundw
            case rel => exact ⟨k + 1, m', simNext apps t, _, _, _, by go_num, by omega, BW, nW, hI', hl', HL', hbX⟩
            case measure => simp [intOf]; omega
          · have htd : decide (e.time < u2) = false := by simpa using ht
            have HE := hid (show simRun apps u2 = t by rw [← HL.out, simLoop_step u2 m' hqa hI HQ.out, if_neg ht])
            clear ht
            go_upto_region 13 with fail
            refine region_sg [.rd [0, 1, 2], .mid 3] [4, 5] (by kernel_rfl) (by kernel_rfl) (fun _ _ d _ _ h => by cases d <;> exact h) ?_
            refine sg_rd (fun N hN => ?_)
            simp only [pickO, List.getElem?_toArray, List.getElem?_cons_zero, List.getElem?_cons_succ]
            go_wp2_with fail
            refine rd_next (hN _ ?_)
            clear hN N
            refine sg_mid (fun N hN => ?_)
            simp only [pickO, List.getElem?_toArray, List.getElem?_cons_zero, List.getElem?_cons_succ]
            go_wp2_with fail
            have hbd := (Below.refl wr.heap.size wr).drew
            refine (SimRunI_c _ apps u2 _ _ (hAr.below hbd)).mono ?_
            rintro q w6 ⟨us, uq, uo, rfl, n6, hb6⟩
            rw [HE.out] at n6
            have hb6' := bthen' hbd hb6
            have nR := (n.rd.below hb6').mono (F' := fun _ => True) (fun _ _ => trivial)
            have hB6 := bthen hB3 (bthen hb hb6' hb.size) hB3.size
            apply_assumption
            refine mid_next (Agree.of_below hb6) (hN _ _ ?_)
            clear hN
            refine sg_fin ?_
            simp only [pickO, List.getElem?_toArray, List.getElem?_cons_zero, List.getElem?_cons_succ]
            go_wp2_with fail
            refine (ltSim_c _ _ _ _ _ _ t t _ _ nR (n6.rd.mono (fun _ _ => trivial))).mono ?_
            rintro q w7 ⟨rfl, hb7⟩
            have heq1 : decide (t = t) = true := decide_eq_true rfl
            rw [heq1]
            have hB7 := bthen hB6 hb7 hB6.size
            apply_assumption
            go_wp2_with fail
            go_ret
            exact ⟨rfl, hB7⟩
        · have hq : t.queue = [] := List.length_eq_zero_iff.1 (by omega)
          have HE := hid (show simRun apps u2 = t by rw [← HL.out, simLoop_nil u2 m hq])
          have hn0 : t.queue.length = 0 := by rw [hq]; rfl
          have p0 : decide ((t.queue.length : Int) > 0) = false := by rw [hn0]; rfl
          have p1 : decide (0 < t.queue.length) = false := by rw [hn0]; rfl
          clear hq hn0 hp
          by_cases hk : k < 200
          · have k2 : decide ((k : Int) < 200) = true := by simp; omega
            have k3 : (k : Int) < 200 := by omega
            go_upto_region 13 with fail
            refine region_sg [.rd [0, 1, 2], .mid 3] [4, 5] (by kernel_rfl) (by kernel_rfl) (fun _ _ d _ _ h => by cases d <;> exact h) ?_
            refine sg_rd (fun N hN => ?_)
            simp only [pickO, List.getElem?_toArray, List.getElem?_cons_zero, List.getElem?_cons_succ]
            go_wp2_with fail
            refine rd_next (hN _ ?_)
            clear hN N
            refine sg_mid (fun N hN => ?_)
            simp only [pickO, List.getElem?_toArray, List.getElem?_cons_zero, List.getElem?_cons_succ]
            go_wp2_with fail
            have hbd := (Below.refl wr.heap.size wr).drew
            refine (SimRunI_c _ apps u2 _ _ (hAr.below hbd)).mono ?_
            rintro q w6 ⟨us, uq, uo, rfl, n6, hb6⟩
            rw [HE.out] at n6
            have hb6' := bthen' hbd hb6
            have nR := (n.rd.below hb6').mono (F' := fun _ => True) (fun _ _ => trivial)
            have hB6 := bthen hB3 (bthen hb hb6' hb.size) hB3.size
            apply_assumption
            refine mid_next (Agree.of_below hb6) (hN _ _ ?_)
            clear hN
            refine sg_fin ?_
            simp only [pickO, List.getElem?_toArray, List.getElem?_cons_zero, List.getElem?_cons_succ]
            go_wp2_with fail
            refine (ltSim_c _ _ _ _ _ _ t t _ _ nR (n6.rd.mono (fun _ _ => trivial))).mono ?_
            rintro q w7 ⟨rfl, hb7⟩
            have heq1 : decide (t = t) = true := decide_eq_true rfl
            rw [heq1]
            have hB7 := bthen hB6 hb7 hB6.size
            apply_assumption
            go_wp2_with fail
            go_ret
            exact ⟨rfl, hB7⟩
          · have k2 : decide ((k : Int) < 200) = false := by simp; omega
            go_upto_region 13 with fail
            refine region_sg [.rd [0, 1, 2], .mid 3] [4, 5] (by kernel_rfl) (by kernel_rfl) (fun _ _ d _ _ h => by cases d <;> exact h) ?_
            refine sg_rd (fun N hN => ?_)
            simp only [pickO, List.getElem?_toArray, List.getElem?_cons_zero, List.getElem?_cons_succ]
            go_wp2_with fail
            refine rd_next (hN _ ?_)
            clear hN N
            refine sg_mid (fun N hN => ?_)
            simp only [pickO, List.getElem?_toArray, List.getElem?_cons_zero, List.getElem?_cons_succ]
            go_wp2_with fail
            have hbd := (Below.refl wr.heap.size wr).drew
            refine (SimRunI_c _ apps u2 _ _ (hAr.below hbd)).mono ?_
            rintro q w6 ⟨us, uq, uo, rfl, n6, hb6⟩
            rw [HE.out] at n6
            have hb6' := bthen' hbd hb6
            have nR := (n.rd.below hb6').mono (F' := fun _ => True) (fun _ _ => trivial)
            have hB6 := bthen hB3 (bthen hb hb6' hb.size) hB3.size
            apply_assumption
            refine mid_next (Agree.of_below hb6) (hN _ _ ?_)
            clear hN
            refine sg_fin ?_
            simp only [pickO, List.getElem?_toArray, List.getElem?_cons_zero, List.getElem?_cons_succ]
            go_wp2_with fail
            refine (ltSim_c _ _ _ _ _ _ t t _ _ nR (n6.rd.mono (fun _ _ => trivial))).mono ?_
            rintro q w7 ⟨rfl, hb7⟩
            have heq1 : decide (t = t) = true := decide_eq_true rfl
            rw [heq1]
            have hB7 := bthen hB6 hb7 hB6.size
            apply_assumption
            go_wp2_with fail
            go_ret
            exact ⟨rfl, hB7⟩
end Go.Proofs.Ytmnccekljombmaa
