/- FnSimCount: as many events are done as processes have done. -/
import Derived.Test.YtmnccekljombmaaJ27
import Derived.Test.YtmnccekljombmaaJ28
import Derived.Test.YtmnccekljombmaaJ29
import Derived.Test.YtmnccekljombmaaJ26
set_option linter.unusedVariables false
set_option linter.unusedSimpArgs false
set_option maxRecDepth 100000
namespace Go.Proofs.Ytmnccekljombmaa
open Go.RowKit
set_option maxHeartbeats 2000000 in
theorem FnSimCount_any (A : Option Addr) (c : Nat) (bs : List Int) (w : World) (h : Rd (tInt .u8) w (fun k => k < w.heap.size) (.slice A bs.length c) bs) (hb : ∀ x ∈ bs, 0 ≤ x ∧ x ≤ 255) :
    Calls Try.prog 12 #[.slice A bs.length c] w fun e w' => e = .returned (.bool true) ∧ Below w.heap.size w w' := by
  by_cases hl : 1048576 < bs.length
  · have hd : decide ((1048576 : Int) < (bs.length : Int)) = true := decide_eq_true (by omega)
    go_enter Try.func12, Try.ntmps12
    go_wp2_with fail
    go_ret
    exact ⟨rfl, Below.refl _ _⟩
  · have hd : decide ((1048576 : Int) < (bs.length : Int)) = false := decide_eq_false (by omega)
    go_enter Try.func12, Try.ntmps12
    go_wp2_with fail
    refine (DrawSimRun_c A c bs _ h hb).mono ?_
    rintro q w1 ⟨v, apps, u, rfl, hA0, hl4, hu, hB1⟩
    obtain ⟨A1, c1, rfl, -⟩ := hA0.shape
    have hA := hA0.mono (F' := fun _ => True) (fun _ _ => trivial)
    clear hl hd h hb hA0
    apply_assumption
    go_wp2_with fail
    obtain ⟨s, hs⟩ : ∃ s, simRun apps u = s := ⟨_, rfl⟩
    refine (SimRunS_c _ apps u _ w1 hA).mono ?_
    rintro q w2 ⟨us, uq, uo, rfl, n2, hb2⟩
    rw [hs] at n2
    obtain ⟨V1, b1, rfl, z1⟩ := n2.st.shape
    obtain ⟨V2, b2, rfl, z2⟩ := n2.qu.shape
    obtain ⟨V3, b3, rfl, z3⟩ := n2.ou.shape
    have HS := hid hs
    clear hs
    apply_assumption
    go_upto_region 5 with fail
    have G5 : (w2.alloc (.cells #[.slice V1 s.states.length b1, .slice V2 s.queue.length b2, .slice V3 s.outs.length b3] 64)).heap[w2.heap.size]? = some (.cells #[.slice V1 s.states.length b1, .slice V2 s.queue.length b2, .slice V3 s.outs.length b3] 64 (0, 0)) := heap_at rfl
    have hbx := balloc (Below.refl w2.heap.size w2) (.cells #[.slice V1 s.states.length b1, .slice V2 s.queue.length b2, .slice V3 s.outs.length b3] 64)
    have R5 := n2.rd.below hbx
    have hB2 := bthen (bthen hB1 hb2 hB1.size) hbx (bthen hB1 hb2 hB1.size).size
    have hA2 := (hA.below hb2).below hbx
    obtain ⟨g5, hg5⟩ : ∃ g, g = w2.heap.size := ⟨_, rfl⟩
    rw [← hg5] at G5
    simp only [← hg5]
    generalize w2.alloc (.cells #[.slice V1 s.states.length b1, .slice V2 s.queue.length b2, .slice V3 s.outs.length b3] 64) = W2 at *
    clear n2 hb2 hbx hB1 hA hg5
    have c0 : W2.cell? ⟨g5, 0, none⟩ = some (.slice V1 s.states.length b1) := blk_cell G5 0
    have c1' : W2.cell? ⟨g5, 1, none⟩ = some (.slice V2 s.queue.length b2) := blk_cell G5 1
    have c2 : W2.cell? ⟨g5, 2, none⟩ = some (.slice V3 s.outs.length b3) := blk_cell G5 2
    obtain ⟨qa, hqa⟩ : ∃ t, appsOk apps = t := ⟨_, rfl⟩
    refine region_sg [.rd [0, 1, 3], .mid 2, .mid 4, .rd [5, 6, 7], .mid 8] [9, 10] (by kernel_rfl) (by kernel_rfl) (fun _ _ d _ _ h => by cases d <;> exact h) ?_
    refine sg_rd (fun N hN => ?_)
    simp only [pickO, List.getElem?_toArray, List.getElem?_cons_zero, List.getElem?_cons_succ]
    go_wp2_with fail
    refine rd_next (hN _ ?_)
    clear hN N
    refine sg_mid (fun N hN => ?_)
    simp only [pickO, List.getElem?_toArray, List.getElem?_cons_zero, List.getElem?_cons_succ]
    go_wp2_with fail
    have hbd := (Below.refl W2.heap.size W2).drew
    refine (SimRunI_c _ apps u _ _ (hA2.below hbd)).mono ?_
    rintro q w3 ⟨us, uq, uo, rfl, n3, hb3⟩
    rw [HS.out] at n3
    have hb3' := bthen' hbd hb3
    apply_assumption
    refine mid_next (Agree.of_below hb3) (hN _ _ ?_)
    clear hN
    refine sg_mid (fun N hN => ?_)
    simp only [pickO, List.getElem?_toArray, List.getElem?_cons_zero, List.getElem?_cons_succ]
    go_wp2_with fail
    refine (ltSim_c _ _ _ _ _ _ s s _ _ (n3.rd.mono (F' := fun _ => True) (fun _ _ => trivial)) ((R5.below hb3').mono (fun _ _ => trivial))).mono ?_
    rintro q w4 ⟨rfl, hb4⟩
    have heq1 : decide (s = s) = true := decide_eq_true rfl
    rw [heq1]
    replace hb4 := bthen hb3 hb4 hb3.size
    have hb4' := bthen' hbd hb4
    apply_assumption
    refine mid_next (Agree.of_below hb4) (hN _ _ ?_)
    clear hN
    refine sg_rd (fun N hN => ?_)
    simp only [pickO, List.getElem?_toArray, List.getElem?_cons_zero, List.getElem?_cons_succ]
    go_wp2_with fail
    refine rd_next (hN _ ?_)
    clear hN N
    refine sg_mid (fun N hN => ?_)
    simp only [pickO, List.getElem?_toArray, List.getElem?_cons_zero, List.getElem?_cons_succ]
    go_wp2_with fail
    refine (AppOk_c _ apps _ _ (hA2.below hb4')).mono ?_
    rintro q w5 ⟨rfl, hb5⟩
    rw [hqa]
    replace hb5 := bthen hb4 hb5 hb4.size
    have hb5' := bthen' hbd hb5
    apply_assumption
    refine mid_next (Agree.of_below hb5) (hN _ _ ?_)
    clear hN
    refine sg_fin ?_
    simp only [pickO, List.getElem?_toArray, List.getElem?_cons_zero, List.getElem?_cons_succ]
    have H5 := below_heap hb5' (blk_lt G5) G5
    have R := R5.below hb5'
    have hA5 := hA2.below hb5'
    have hB5 := bthen hB2 hb5' hB2.size
    clear G5 R5 hA2 hB2 hb3' hb4' hb5' hb3 hb4 hb5 n3 hbd c0 c1' c2 heq1
    cases qa
    case false =>
      have c0 : w5.cell? ⟨g5, 0, none⟩ = some (.slice V1 s.states.length b1) := blk_cell H5 0
      have c1' : w5.cell? ⟨g5, 1, none⟩ = some (.slice V2 s.queue.length b2) := blk_cell H5 1
      have c2 : w5.cell? ⟨g5, 2, none⟩ = some (.slice V3 s.outs.length b3) := blk_cell H5 2
      go_upto_region 6 with fail
      refine region_sg [.rd [0, 1, 3], .mid 2] [4, 5] (by kernel_rfl) (by kernel_rfl) (fun _ _ d _ _ h => by cases d <;> exact h) ?_
      refine sg_rd (fun N hN => ?_)
      simp only [pickO, List.getElem?_toArray, List.getElem?_cons_zero, List.getElem?_cons_succ]
      go_wp2_with fail
      refine rd_next (hN _ ?_)
      clear hN N
      refine sg_mid (fun N hN => ?_)
      simp only [pickO, List.getElem?_toArray, List.getElem?_cons_zero, List.getElem?_cons_succ]
      go_wp2_with fail
      have hbd := (Below.refl w5.heap.size w5).drew
      refine (SimRunI_c _ apps u _ _ (hA5.below hbd)).mono ?_
      rintro q w6 ⟨us, uq, uo, rfl, n6, hb6⟩
      rw [HS.out] at n6
      have hb6' := bthen' hbd hb6
      have hB6 := bthen hB5 hb6' hB5.size
      apply_assumption
      refine mid_next (Agree.of_below hb6) (hN _ _ ?_)
      clear hN
      refine sg_fin ?_
      simp only [pickO, List.getElem?_toArray, List.getElem?_cons_zero, List.getElem?_cons_succ]
      go_wp2_with fail
      refine (ltSim_c _ _ _ _ _ _ s s _ _ (n6.rd.mono (F' := fun _ => True) (fun _ _ => trivial)) ((R.below hb6').mono (fun _ _ => trivial))).mono ?_
      rintro q w7 ⟨rfl, hb7⟩
      have heq1 : decide (s = s) = true := decide_eq_true rfl
      rw [heq1]
      have hB7 := bthen hB6 hb7 hB6.size
      apply_assumption
      go_wp2_with fail
      go_ret
      exact ⟨rfl, hB7⟩
    case true =>
      go_wp2_with fail
      refine (SimStartI_c w5).mono ?_
      rintro q w7 ⟨us, uq, uo, rfl, n7, hb7⟩
      obtain ⟨X1, a1, rfl, l1⟩ := n7.st.shape
      obtain ⟨X2, a2, rfl, l2⟩ := n7.qu.shape
      obtain ⟨X3, a3, rfl, l3⟩ := n7.ou.shape
      have hA7 := hA5.below hb7
      have hB7 := bthen hB5 hb7 hB5.size
      have G0 : (w7.alloc (.cells #[.slice X1 simStart.states.length a1, .slice X2 simStart.queue.length a2, .slice X3 simStart.outs.length a3] 64)).heap[w7.heap.size]? = some (.cells #[.slice X1 simStart.states.length a1, .slice X2 simStart.queue.length a2, .slice X3 simStart.outs.length a3] 64 (0, 0)) := heap_at rfl
      have hb8 := balloc (Below.refl w7.heap.size w7) (.cells #[.slice X1 simStart.states.length a1, .slice X2 simStart.queue.length a2, .slice X3 simStart.outs.length a3] 64)
      have N0 := (n7.below hb8).mono (F' := fun k => w.heap.size ≤ k) (fun k hk => by have h3 : w5.heap.size ≤ k := hk; have := hB5.size; show w.heap.size ≤ k; omega)
      obtain ⟨g6, hg6⟩ : ∃ g, g = w7.heap.size := ⟨_, rfl⟩
      rw [← hg6] at G0
      have hg6le : w7.heap.size ≤ g6 := Nat.le_of_eq hg6.symm
      have hs1 := hB7.size
      clear R H5 hA5 hB5 hb7 n7
      apply_assumption
      go_wp2_with fail
      simp only [← hg6]
      clear hg6
      generalize w7.alloc (.cells #[.slice X1 simStart.states.length a1, .slice X2 simStart.queue.length a2, .slice X3 simStart.outs.length a3] 64) = W8 at *
      go_loopw [7] (fun i wr => ∃ (k m : Nat) (t : SimD) (vs vq vo : Value), i = .int .i64 k ∧ k + m = 100 ∧ wr.heap[g6]? = some (.cells #[vs, vq, vo] 64 (0, 0)) ∧ SimOw wr (fun k => w.heap.size ≤ k) vs vq vo t ∧ SInv t ∧ left t ≤ (m : Nat) ∧ Below w7.heap.size w7 wr) (fun i _ => 120 - (intOf i).toNat)
      case atStart => exact ⟨0, 100, simStart, _, _, _, rfl, rfl, G0, N0, SInv.start, by decide, hb8⟩
      case round =>
        clear G0 N0 hb8 l1 l2 l3 z1 z2 z3 HS hs1
        obtain ⟨k, m, t, vs, vq, vo, rfl, hkm, G, n, hI, hl, hb⟩ := hrel
        obtain ⟨Y1, y1, rfl, q1⟩ := n.st.shape
        obtain ⟨Y2, y2, rfl, q2⟩ := n.qu.shape
        obtain ⟨Y3, y3, rfl, q3⟩ := n.ou.shape
        have hAr := hA7.below hb
        have hBr := bthen hB7 hb hB7.size
        have hgr := blk_lt G
        have k2 : decide ((k : Int) < 120) = true := by simp; omega
        have k3 : (k : Int) < 120 := by omega
        have k4 : k < 120 := by omega
        have e0 : wr.cell? ⟨g6, 0, none⟩ = some (.slice Y1 t.states.length y1) := blk_cell G 0
        have e1 : wr.cell? ⟨g6, 1, none⟩ = some (.slice Y2 t.queue.length y2) := blk_cell G 1
        have e2 : wr.cell? ⟨g6, 2, none⟩ = some (.slice Y3 t.outs.length y3) := blk_cell G 2
        by_cases hp : 0 < t.queue.length
        · obtain ⟨e, rest, hq⟩ : ∃ e rest, t.queue = e :: rest := by
            cases hh : t.queue with
            | nil => rw [hh] at hp; simp at hp
            | cons e rest => exact ⟨e, rest, rfl⟩
          have HQ := hid hq
          have hlq := hI.left_nonneg
          have hm : 0 < m := by omega
          obtain ⟨m', rfl⟩ : ∃ m', m = m' + 1 := ⟨m - 1, by omega⟩
          have HStep := hid (show simStep apps t = (simNext apps t, true) by rw [simStep, if_pos ⟨hI.ok, hqa⟩, simStepV_ok hqa hI HQ.out])
          have HN := hid (simNext_ok hqa hI hq)
          have hI' := HN.out.inv
          have hless := HN.out.less
          have hl' : left (simNext apps t) ≤ (m' : Nat) := by unfold left at hl ⊢; push_cast at hl; omega
          clear hq hlq hm hless hl
          go_wp2_with fail
          refine (SimStepI_c _ _ _ _ apps t _ wr hAr (n.rd.mono (F' := fun _ => True) (fun _ _ => trivial))).mono ?_
          rintro q w9 ⟨us, uq, uo, rfl, n9, hb9⟩
          rw [HStep.out] at n9 ⊢
          obtain ⟨Z1, t1, rfl, u1'⟩ := n9.st.shape
          obtain ⟨Z2, t2, rfl, u2'⟩ := n9.qu.shape
          obtain ⟨Z3, t3, rfl, u3'⟩ := n9.ou.shape
          have hbx := balloc hb9 (.cells #[.slice Z1 (simNext apps t).states.length t1, .slice Z2 (simNext apps t).queue.length t2, .slice Z3 (simNext apps t).outs.length t3] 64)
          have GX : (w9.alloc (.cells #[.slice Z1 (simNext apps t).states.length t1, .slice Z2 (simNext apps t).queue.length t2, .slice Z3 (simNext apps t).outs.length t3] 64)).heap[w9.heap.size]? = some (.cells #[.slice Z1 (simNext apps t).states.length t1, .slice Z2 (simNext apps t).queue.length t2, .slice Z3 (simNext apps t).outs.length t3] 64 (0, 0)) := heap_at rfl
          have G' := below_heap hbx hgr G
          have n9' := (n9.below (balloc (Below.refl _ _) (.cells #[.slice Z1 (simNext apps t).states.length t1, .slice Z2 (simNext apps t).queue.length t2, .slice Z3 (simNext apps t).outs.length t3] 64))).mono (F' := fun k => w.heap.size ≤ k) (fun k hk => by have h1 := hBr.size; have h3 : wr.heap.size ≤ k := hk; show w.heap.size ≤ k; omega)
          have n' := n.below hbx
          have hb' := bthen hb hbx hb.size
          obtain ⟨g8, hg8⟩ : ∃ g, g = w9.heap.size := ⟨_, rfl⟩
          rw [← hg8] at GX
          have hne : ¬ g8 = g6 := by have := hb9.size; omega
          clear G n hb n9 hb9 e0 e1 e2 hbx hAr hBr hgr
          apply_assumption
          go_upto_region 12 with fail
          simp only [← hg8]
          clear hg8
          generalize w9.alloc (.cells #[.slice Z1 (simNext apps t).states.length t1, .slice Z2 (simNext apps t).queue.length t2, .slice Z3 (simNext apps t).outs.length t3] 64) = W9 at *
          obtain ⟨bq, oq, rfl, hbq, r0, r1, -, -, -, -, -⟩ := ev_at n'.qu.rd 0 hp
          have he : t.queue[0] = e := by simp [HQ.out]
          rw [he] at r0 r1
          simp only [Nat.zero_mul, Nat.add_zero] at r0 r1
          have p0 : (0 : Int) < (t.queue.length : Int) := by omega
          clear he
          have e0 : W9.cell? ⟨g6, 0, none⟩ = some (.slice Y1 t.states.length y1) := blk_cell G' 0
          have e1 : W9.cell? ⟨g6, 1, none⟩ = some (.slice (some ⟨bq, oq, none⟩) t.queue.length y2) := blk_cell G' 1
          have e2 : W9.cell? ⟨g6, 2, none⟩ = some (.slice Y3 t.outs.length y3) := blk_cell G' 2
          go_wp2_with fail
          clear e0 e1 e2 r0 r1
          go_loopw [11] (fun i wr => ∃ p : Nat, i = .int .i64 p ∧ p ≤ 4 ∧ Below W9.heap.size W9 wr) (fun i _ => 4 - (intOf i).toNat)
          case atStart => exact ⟨0, rfl, by omega, Below.refl _ _⟩
          case round =>
            obtain ⟨p, rfl, hp4, hb2⟩ := hrel
            have GX' := below_heap hb2 (blk_lt GX) GX
            have G2 := below_heap hb2 (blk_lt G') G'
            have e0 : wr.cell? ⟨g6, 0, none⟩ = some (.slice Y1 t.states.length y1) := blk_cell G2 0
            have e1 : wr.cell? ⟨g6, 1, none⟩ = some (.slice (some ⟨bq, oq, none⟩) t.queue.length y2) := blk_cell G2 1
            have e2 : wr.cell? ⟨g6, 2, none⟩ = some (.slice Y3 t.outs.length y3) := blk_cell G2 2
            have x0 : wr.cell? ⟨g8, 0, none⟩ = some (.slice Z1 (simNext apps t).states.length t1) := blk_cell GX' 0
            have x1 : wr.cell? ⟨g8, 1, none⟩ = some (.slice Z2 (simNext apps t).queue.length t2) := blk_cell GX' 1
            have x2 : wr.cell? ⟨g8, 2, none⟩ = some (.slice Z3 (simNext apps t).outs.length t3) := blk_cell GX' 2
            by_cases hp5 : p < 4
            · have hl1 : p < t.states.length := by rw [hI.len]; exact hp5
              have hl2 : p < (simNext apps t).states.length := by rw [hI'.len]; exact hp5
              obtain ⟨b3', o3, rfl, -, -, -, s2⟩ := st_at (n'.st.rd.below hb2) p hl1
              obtain ⟨b4, o4, rfl, -, -, -, s3⟩ := st_at (n9'.st.rd.below hb2) p hl2
              have i1 : (p : Int) < (t.states.length : Int) := by omega
              have i2 : (p : Int) < ((simNext apps t).states.length : Int) := by omega
              have hcc := hI.st t.states[p] (List.getElem_mem _)
              simp only [stOk, inn, Bool.and_eq_true, decide_eq_true_eq] at hcc
              obtain ⟨cp, hcp⟩ : ∃ c, t.states[p].c = c := ⟨_, rfl⟩
              obtain ⟨cx, hcx⟩ : ∃ c, (simNext apps t).states[p].c = c := ⟨_, rfl⟩
              have hto := HN.out.to_
              have hcs : (e.to ≠ (p : Int) ∧ cx = cp) ∨ (e.to = (p : Int) ∧ (cp = 12 ∧ cx = 12 ∨ cp < 12 ∧ cx = cp + 1)) := by
                by_cases hpe : e.to = (p : Int)
                · refine Or.inr ⟨hpe, ?_⟩
                  have hpn : e.to.toNat = p := by omega
                  rcases HN.out.count t.states[p] (simNext apps t).states[p] (by rw [hpn]; exact List.getElem?_eq_getElem hl1) (by rw [hpn]; exact List.getElem?_eq_getElem hl2) with ⟨h1, h2⟩ | ⟨h1, h2⟩
                  · exact Or.inl ⟨by omega, by rw [← hcx, h2]; exact h1⟩
                  · exact Or.inr ⟨by omega, by omega⟩
                · refine Or.inl ⟨hpe, ?_⟩
                  have := HN.out.states p (by omega)
                  rw [List.getElem?_eq_getElem hl1, List.getElem?_eq_getElem hl2] at this
                  injection this with this
                  rw [← hcx, this, hcp]
              have hc0 : 0 ≤ cp ∧ cp ≤ 12 := by omega
              rw [hcp] at s2
              rw [hcx] at s3
              clear hcc hcp hcx hto
              go_upto_region 18 with fail
              refine region_sg [.rd [0, 1, 2, 3, 4, 5, 6, 7, 8, 9, 10, 11, 12]] [13] (by kernel_rfl) (by kernel_rfl) (fun _ _ d _ _ h => by cases d <;> exact h) ?_
              refine sg_rd (fun N hN => ?_)
              simp only [pickO, List.getElem?_toArray, List.getElem?_cons_zero, List.getElem?_cons_succ]
              go_wp2_with fail
              refine rd_next (hN _ ?_)
              clear hN N
              refine sg_fin ?_
              simp only [pickO, List.getElem?_toArray, List.getElem?_cons_zero, List.getElem?_cons_succ]
              have hbE := hb2.drew
              rcases hcs with ⟨h1, rfl⟩ | ⟨h1, ⟨rfl, rfl⟩ | ⟨h2, rfl⟩⟩
              · have e4 : ((p : Int) == e.to) = false := by simp; omega
                have e5 : ((p : Int) != e.to) = true := by simp; omega
                have e6 : cx - cx = 0 := by omega
                clear h1
                go_wp2_with fail
                go_roundw
                case rel => exact ⟨p + 1, by go_num, by omega, hbE⟩
                case measure => simp [intOf]; omega
              · have e4 : ((p : Int) == e.to) = true := by simp; omega
                have e5 : ((p : Int) != e.to) = false := by simp; omega
                clear h1
                go_wp2_with fail
                go_roundw
                case rel => exact ⟨p + 1, by go_num, by omega, hbE⟩
                case measure => simp [intOf]; omega
              · have e4 : ((p : Int) == e.to) = true := by simp; omega
                have e5 : ((p : Int) != e.to) = false := by simp; omega
                have e6 : cp + 1 - cp = 1 := by omega
                clear h1
                go_wp2_with fail
                go_roundw
                case rel => exact ⟨p + 1, by go_num, by omega, hbE⟩
                case measure => simp [intOf]; omega
            · have hp4' : p = 4 := by omega
              subst hp4'
              have f0 := blk_frozen G2 0
              have f1 := blk_frozen G2 1
              have f2 := blk_frozen G2 2
              have n10 := n9'.below hb2
              have hb10 := bthen hb' hb2 hb'.size
              go_wp2_with fail
              obtain ⟨BW, nW, hbX⟩ := sim_store (w := w7) (g := g6) G2 n10 hg6le hb10 (.slice Z1 (simNext apps t).states.length t1) (.slice Z2 (simNext apps t).queue.length t2) (.slice Z3 (simNext apps t).outs.length t3) rfl rfl rfl
              go_roundw
              case rel => exact ⟨k + 1, m', simNext apps t, _, _, _, by go_num, by omega, BW, nW, hI', hl', hbX⟩
              case measure => simp [intOf]; omega
        · have hq : t.queue = [] := List.length_eq_zero_iff.1 (by omega)
          have hn0 : t.queue.length = 0 := by rw [hq]; rfl
          have HStep := hid (show simStep apps t = (t, false) by rw [simStep, if_pos ⟨hI.ok, hqa⟩]; simp [simStepV, hq])
          have HN0 := hid hn0
          clear hq hp hn0
          go_wp2_with fail
          refine (SimStepI_c _ _ _ _ apps t _ wr hAr (n.rd.mono (F' := fun _ => True) (fun _ _ => trivial))).mono ?_
          rintro q w9 ⟨us, uq, uo, rfl, n9, hb9⟩
          rw [HStep.out] at n9 ⊢
          obtain ⟨Z1, t1, rfl, u1'⟩ := n9.st.shape
          obtain ⟨Z2, t2, rfl, u2'⟩ := n9.qu.shape
          obtain ⟨Z3, t3, rfl, u3'⟩ := n9.ou.shape
          have G' := below_heap hb9 hgr G
          have hg9 := blk_lt G'
          have hBE := bthen hBr (balloc hb9 (.cells #[.slice Z1 t.states.length t1, .slice Z2 t.queue.length t2, .slice Z3 t.outs.length t3] 64)) hBr.size
          clear G n hb n9 hb9 e0 e1 e2 hAr hBr hgr
          have e0 : w9.cell? ⟨g6, 0, none⟩ = some (.slice Y1 t.states.length y1) := blk_cell G' 0
          have e1 : w9.cell? ⟨g6, 1, none⟩ = some (.slice Y2 t.queue.length y2) := blk_cell G' 1
          have e2 : w9.cell? ⟨g6, 2, none⟩ = some (.slice Y3 t.outs.length y3) := blk_cell G' 2
          rw [HN0.out] at e1
          have hne : ¬ g6 = w9.heap.size := by omega
          apply_assumption
          go_wp2_with fail
          go_ret
          exact ⟨rfl, hBE⟩
end Go.Proofs.Ytmnccekljombmaa
