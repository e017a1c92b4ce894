/- FnSimTimes: one machine tells things in the order of their times. -/
import Derived.Test.YtmnccekljombmaaJ27
import Derived.Test.YtmnccekljombmaaJ28
import Derived.Test.YtmnccekljombmaaJ29
import Derived.Test.YtmnccekljombmaaJ26
set_option linter.unusedVariables false
set_option linter.unusedSimpArgs false
set_option maxRecDepth 100000
namespace Go.Proofs.Ytmnccekljombmaa
open Go.RowKit
set_option maxHeartbeats 1000000 in
theorem FnSimTimes_any (A : Option Addr) (c : Nat) (bs : List Int) (w : World) (h : Rd (tInt .u8) w (fun k => k < w.heap.size) (.slice A bs.length c) bs) (hb : ∀ x ∈ bs, 0 ≤ x ∧ x ≤ 255) :
    Calls Try.prog 11 #[.slice A bs.length c] w fun e w' => e = .returned (.bool true) ∧ Below w.heap.size w w' := by
  by_cases hl : 1048576 < bs.length
  · have hd : decide ((1048576 : Int) < (bs.length : Int)) = true := decide_eq_true (by omega)
    go_enter Try.func11, Try.ntmps11
    go_wp2_with fail
    go_ret
    exact ⟨rfl, Below.refl _ _⟩
  · have hd : decide ((1048576 : Int) < (bs.length : Int)) = false := decide_eq_false (by omega)
    go_enter Try.func11, Try.ntmps11
    go_wp2_with fail
    refine (DrawSimRun_c A c bs _ h hb).mono ?_
    rintro q w1 ⟨v, apps, u, rfl, hA0, hl4, hu, hB1⟩
    obtain ⟨A1, c1, rfl, -⟩ := hA0.shape
    have hA := hA0.mono (F' := fun _ => True) (fun _ _ => trivial)
    clear hl hd h hb hA0
    apply_assumption
    go_wp2_with fail
    obtain ⟨s, hs⟩ : ∃ s, simRun apps u = s := ⟨_, rfl⟩
    refine (SimRunS_c _ apps u _ w1 hA).mono ?_
    rintro q w2 ⟨us, uq, uo, rfl, n2, hb2⟩
    rw [hs] at n2
    obtain ⟨V1, b1, rfl, z1⟩ := n2.st.shape
    obtain ⟨V2, b2, rfl, z2⟩ := n2.qu.shape
    obtain ⟨V3, b3, rfl, z3⟩ := n2.ou.shape
    have HS := hid hs
    clear hs
    apply_assumption
    go_wp2_with fail
    have G5 : (w2.alloc (.cells #[.slice V1 s.states.length b1, .slice V2 s.queue.length b2, .slice V3 s.outs.length b3] 64)).heap[w2.heap.size]? = some (.cells #[.slice V1 s.states.length b1, .slice V2 s.queue.length b2, .slice V3 s.outs.length b3] 64 (0, 0)) := heap_at rfl
    have hbx := balloc (Below.refl w2.heap.size w2) (.cells #[.slice V1 s.states.length b1, .slice V2 s.queue.length b2, .slice V3 s.outs.length b3] 64)
    have R5 := n2.rd.below hbx
    have hB2 := bthen (bthen hB1 hb2 hB1.size) hbx (bthen hB1 hb2 hB1.size).size
    have hA2 := (hA.below hb2).below hbx
    obtain ⟨g5, hg5⟩ : ∃ g, g = w2.heap.size := ⟨_, rfl⟩
    rw [← hg5] at G5
    simp only [← hg5]
    generalize w2.alloc (.cells #[.slice V1 s.states.length b1, .slice V2 s.queue.length b2, .slice V3 s.outs.length b3] 64) = W2 at *
    clear n2 hb2 hbx hB1 hA hg5
    refine (SimRunI_c _ apps u _ W2 hA2).mono ?_
    rintro q w3 ⟨us, uq, uo, rfl, n3, hb3⟩
    rw [HS.out] at n3
    obtain ⟨X1, x1, rfl, y1⟩ := n3.st.shape
    obtain ⟨X2, x2, rfl, y2⟩ := n3.qu.shape
    obtain ⟨X3, x3, rfl, y3⟩ := n3.ou.shape
    have K5 := below_heap hb3 (blk_lt G5) G5
    have hg56 := blk_lt K5
    have R5' := R5.below hb3
    have hB3 := bthen hB2 hb3 hB2.size
    have hA3 := hA2.below hb3
    clear G5 R5 hB2 hA2 hb3
    have c0 : w3.cell? ⟨g5, 0, none⟩ = some (.slice V1 s.states.length b1) := blk_cell K5 0
    have c1' : w3.cell? ⟨g5, 1, none⟩ = some (.slice V2 s.queue.length b2) := blk_cell K5 1
    have c2 : w3.cell? ⟨g5, 2, none⟩ = some (.slice V3 s.outs.length b3) := blk_cell K5 2
    have hgn : ¬ g5 = w3.heap.size := by omega
    apply_assumption
    go_wp2_with fail
    have G6 : (w3.alloc (.cells #[.slice X1 s.states.length x1, .slice X2 s.queue.length x2, .slice X3 s.outs.length x3] 64)).heap[w3.heap.size]? = some (.cells #[.slice X1 s.states.length x1, .slice X2 s.queue.length x2, .slice X3 s.outs.length x3] 64 (0, 0)) := heap_at rfl
    have L5 := (heap_old (o := .cells #[.slice X1 s.states.length x1, .slice X2 s.queue.length x2, .slice X3 s.outs.length x3] 64) hg56).trans K5
    have hbx := balloc (Below.refl w3.heap.size w3) (.cells #[.slice X1 s.states.length x1, .slice X2 s.queue.length x2, .slice X3 s.outs.length x3] 64)
    have R6 := (n3.rd.below hbx).mono (F' := fun _ => True) (fun _ _ => trivial)
    have R5 := (R5'.below hbx).mono (F' := fun _ => True) (fun _ _ => trivial)
    have hB4 := bthen hB3 hbx hB3.size
    have hA4 := hA3.below hbx
    obtain ⟨g6, hg6⟩ : ∃ g, g = w3.heap.size := ⟨_, rfl⟩
    rw [← hg6] at G6 hg56
    simp only [← hg6]
    generalize w3.alloc (.cells #[.slice X1 s.states.length x1, .slice X2 s.queue.length x2, .slice X3 s.outs.length x3] 64) = W3 at *
    clear n3 hbx hB3 hA3 K5 R5' hg6 c0 c1' c2 hgn
    refine (ltSim_c _ _ _ _ _ _ s s _ W3 R6 R5).mono ?_
    rintro q w4 ⟨rfl, hb5⟩
    have heq1 : decide (s = s) = true := decide_eq_true rfl
    rw [heq1]
    have G5 := below_heap hb5 (blk_lt L5) L5
    have H6 := below_heap hb5 (blk_lt G6) G6
    have R := R6.below hb5
    have R' := R5.below hb5
    have hA := hA4.below hb5
    have hB := bthen hB4 hb5 hB4.size
    clear L5 G6 R6 R5 hA4 hB4 hb5 heq1 hg56
    have c0 : w4.cell? ⟨g5, 0, none⟩ = some (.slice V1 s.states.length b1) := blk_cell G5 0
    have c1' : w4.cell? ⟨g5, 1, none⟩ = some (.slice V2 s.queue.length b2) := blk_cell G5 1
    have c2 : w4.cell? ⟨g5, 2, none⟩ = some (.slice V3 s.outs.length b3) := blk_cell G5 2
    have d0 : w4.cell? ⟨g6, 0, none⟩ = some (.slice X1 s.states.length x1) := blk_cell H6 0
    have d1 : w4.cell? ⟨g6, 1, none⟩ = some (.slice X2 s.queue.length x2) := blk_cell H6 1
    have d2 : w4.cell? ⟨g6, 2, none⟩ = some (.slice X3 s.outs.length x3) := blk_cell H6 2
    apply_assumption
    have HF := hid (show (∀ o ∈ s.outs, o.time < u) ∧ (∀ q ∈ s.queue, u ≤ q.time) ∧ s.outs.Pairwise (fun a b => outLess a b = true) ∧ s.queue.Pairwise (fun a b => evLess a b = true) ∧ (simOk s == appsOk apps) = true by
      rw [← HS.out]
      cases qa : appsOk apps with
      | true =>
        obtain ⟨h1, h2, h3, h4⟩ := simRun_ok qa u
        exact ⟨h2, h3, h1.os, h1.qs, by rw [h1.ok]; rfl⟩
      | false =>
        rw [simRun_bad qa]
        exact ⟨fun _ h => (by cases h), fun _ h => (by cases h), List.Pairwise.nil, List.Pairwise.nil, rfl⟩)
    clear d0 d1 d2 c0 c1' c2 G5 R'
    go_wp2_with fail
    go_loopw [7] (fun i wr => ∃ k : Nat, i = .int .i64 k ∧ k ≤ s.outs.length ∧ Below w4.heap.size w4 wr) (fun i _ => s.outs.length - (intOf i).toNat)
    case atStart => exact ⟨0, rfl, Nat.zero_le _, Below.refl _ _⟩
    case round =>
      obtain ⟨k, rfl, hk, hb⟩ := hrel
      have HC := below_heap hb (blk_lt H6) H6
      have e0 : wr.cell? ⟨g6, 0, none⟩ = some (.slice X1 s.states.length x1) := blk_cell HC 0
      have e1 : wr.cell? ⟨g6, 1, none⟩ = some (.slice X2 s.queue.length x2) := blk_cell HC 1
      have e2 : wr.cell? ⟨g6, 2, none⟩ = some (.slice X3 s.outs.length x3) := blk_cell HC 2
      by_cases hlt : k < s.outs.length
      · have hrd := R.ou.below hb
        obtain ⟨b0, o0, rfl, hb0, z0, z1, z2, z3, z4⟩ := out_at hrd k hlt
        have p0 : (k : Int) < (s.outs.length : Int) := by omega
        have g1 : decide (s.outs[k].time ≥ u) = false := decide_eq_false (by have := HF.out.1 s.outs[k] (List.getElem_mem _); omega)
        by_cases q3 : k = 0
        · have hkd : decide ((k : Int) > 0) = false := by simp; omega
          have hkn : decide (0 < k) = false := by simp; omega
          clear q3
          go_upto_region 11 with fail
          refine region_sg [.rd [0, 1, 2, 3, 4, 5, 6, 7, 8, 9, 10, 11, 12, 13, 14, 15, 16, 17, 18, 19, 20, 21, 22]] [23, 24, 25, 26] (by kernel_rfl) (by kernel_rfl) (fun _ _ d _ _ h => by cases d <;> exact h) ?_
          refine sg_rd (fun N hN => ?_)
          simp only [pickO, List.getElem?_toArray, List.getElem?_cons_zero, List.getElem?_cons_succ]
          go_wp2_with fail
          refine rd_next (hN _ ?_)
          clear hN N
          refine sg_fin ?_
          simp only [pickO, List.getElem?_toArray, List.getElem?_cons_zero, List.getElem?_cons_succ]
          have hbE := hb.drew
          go_wp2_with fail
          go_roundw
          case rel => exact ⟨k + 1, by go_num, by omega, hbE⟩
          case measure => simp [intOf]; omega
        · have hkd : decide ((k : Int) > 0) = true := by simp; omega
          have hkn : decide (0 < k) = true := by simp; omega
          have p1 : (0 : Int) ≤ (k : Int) - 1 := by omega
          have p2 : (k : Int) - 1 < (s.outs.length : Int) := by omega
          have p3 : (1 : Int) ≤ (k : Int) := by omega
          have p4 : 1 ≤ k := by omega
          have hck : ((k : Int) - 1).toNat = k - 1 := by omega
          obtain ⟨b2, o2, hA2, hbb2, y0, y1, y2, y3, y4⟩ := out_at hrd (k - 1) (by omega)
          injection hA2 with hA2
          injection hA2 with f1 f2 _
          subst f1 f2
          have hT := hid (show outLess s.outs[k-1] s.outs[k] = true from List.pairwise_iff_getElem.1 HF.out.2.2.1 (k - 1) k (by omega) hlt (by omega))
          clear q3
          go_upto_region 11 with fail
          refine region_sg [.rd [0, 1, 2, 3, 4, 5, 6, 7, 8, 9, 10, 11, 12, 13, 14, 15, 16, 17, 18, 19, 20, 21, 22]] [23, 24, 25, 26] (by kernel_rfl) (by kernel_rfl) (fun _ _ d _ _ h => by cases d <;> exact h) ?_
          refine sg_rd (fun N hN => ?_)
          simp only [pickO, List.getElem?_toArray, List.getElem?_cons_zero, List.getElem?_cons_succ]
          go_wp2_with fail
          refine rd_next (hN _ ?_)
          clear hN N
          refine sg_fin ?_
          simp only [pickO, List.getElem?_toArray, List.getElem?_cons_zero, List.getElem?_cons_succ]
          have hbD := hb.drew
          go_wp2_with fail
          refine (OutLessI_c s.outs[k-1] s.outs[k] _).mono ?_
          rintro e w6 ⟨he, hb6⟩
          rw [hT.out] at he
          subst he
          apply_assumption
          have hbE := bthen hbD hb6 hbD.size
          go_wp2_with fail
          go_roundw
          case rel => exact ⟨k + 1, by go_num, by omega, hbE⟩
          case measure => simp [intOf]; omega
      · have hkl : k = s.outs.length := by omega
        subst hkl
        go_wp2_with fail
        clear e0 e1 e2 HC hk hlt
        go_loopw [8] (fun i wr => ∃ k : Nat, i = .int .i64 k ∧ k ≤ s.queue.length ∧ Below w4.heap.size w4 wr) (fun i _ => s.queue.length - (intOf i).toNat)
        case atStart => exact ⟨0, rfl, Nat.zero_le _, hb⟩
        case round =>
          clear hb
          obtain ⟨k, rfl, hk, hb⟩ := hrel
          have HC := below_heap hb (blk_lt H6) H6
          have e0 : wr.cell? ⟨g6, 0, none⟩ = some (.slice X1 s.states.length x1) := blk_cell HC 0
          have e1 : wr.cell? ⟨g6, 1, none⟩ = some (.slice X2 s.queue.length x2) := blk_cell HC 1
          have e2 : wr.cell? ⟨g6, 2, none⟩ = some (.slice X3 s.outs.length x3) := blk_cell HC 2
          by_cases hlt : k < s.queue.length
          · have hrd := R.qu.below hb
            obtain ⟨b0, o0, rfl, hb0, z0, z1, z2, z3, z4, z5, z6⟩ := ev_at hrd k hlt
            have p0 : (k : Int) < (s.queue.length : Int) := by omega
            have g1 : decide (s.queue[k].time < u) = false := decide_eq_false (by have := HF.out.2.1 s.queue[k] (List.getElem_mem _); omega)
            by_cases q3 : k = 0
            · have hkd : decide ((k : Int) > 0) = false := by simp; omega
              have hkn : decide (0 < k) = false := by simp; omega
              clear q3
              go_upto_region 16 with fail
              refine region_sg [.rd [0, 1, 2, 3, 4, 5, 6, 7, 8, 9, 10, 11, 12, 13, 14, 15, 16, 17, 18, 19, 20, 21, 22]] [23, 24, 25, 26] (by kernel_rfl) (by kernel_rfl) (fun _ _ d _ _ h => by cases d <;> exact h) ?_
              refine sg_rd (fun N hN => ?_)
              simp only [pickO, List.getElem?_toArray, List.getElem?_cons_zero, List.getElem?_cons_succ]
              go_wp2_with fail
              refine rd_next (hN _ ?_)
              clear hN N
              refine sg_fin ?_
              simp only [pickO, List.getElem?_toArray, List.getElem?_cons_zero, List.getElem?_cons_succ]
              have hbE := hb.drew
              go_wp2_with fail
              go_roundw
              case rel => exact ⟨k + 1, by go_num, by omega, hbE⟩
              case measure => simp [intOf]; omega
            · have hkd : decide ((k : Int) > 0) = true := by simp; omega
              have hkn : decide (0 < k) = true := by simp; omega
              have p1 : (0 : Int) ≤ (k : Int) - 1 := by omega
              have p2 : (k : Int) - 1 < (s.queue.length : Int) := by omega
              have p3 : (1 : Int) ≤ (k : Int) := by omega
              have p4 : 1 ≤ k := by omega
              have hck : ((k : Int) - 1).toNat = k - 1 := by omega
              obtain ⟨b2, o2, hA2, hbb2, y0, y1, y2, y3, y4, y5, y6⟩ := ev_at hrd (k - 1) (by omega)
              injection hA2 with hA2
              injection hA2 with f1 f2 _
              subst f1 f2
              have hT := hid (show evLess s.queue[k-1] s.queue[k] = true from List.pairwise_iff_getElem.1 HF.out.2.2.2.1 (k - 1) k (by omega) hlt (by omega))
              clear q3
              go_upto_region 16 with fail
              refine region_sg [.rd [0, 1, 2, 3, 4, 5, 6, 7, 8, 9, 10, 11, 12, 13, 14, 15, 16, 17, 18, 19, 20, 21, 22]] [23, 24, 25, 26] (by kernel_rfl) (by kernel_rfl) (fun _ _ d _ _ h => by cases d <;> exact h) ?_
              refine sg_rd (fun N hN => ?_)
              simp only [pickO, List.getElem?_toArray, List.getElem?_cons_zero, List.getElem?_cons_succ]
              go_wp2_with fail
              refine rd_next (hN _ ?_)
              clear hN N
              refine sg_fin ?_
              simp only [pickO, List.getElem?_toArray, List.getElem?_cons_zero, List.getElem?_cons_succ]
              have hbD := hb.drew
              go_wp2_with fail
              refine (EventLessI_c s.queue[k-1] s.queue[k] _).mono ?_
              rintro e w6 ⟨he, hb6⟩
              rw [hT.out] at he
              subst he
              apply_assumption
              have hbE := bthen hbD hb6 hbD.size
              go_wp2_with fail
              go_roundw
              case rel => exact ⟨k + 1, by go_num, by omega, hbE⟩
              case measure => simp [intOf]; omega
          · have hkl : k = s.queue.length := by omega
            subst hkl

            have R9 := R.below hb
            have hA9 := hA.below hb
            have hB9 := bthen hB hb hB.size
            go_wp2_with fail
            refine (SimOkI_c _ _ _ s _ _ R9.st R9.qu R9.ou).mono ?_
            rintro q w8 ⟨rfl, hb8⟩
            apply_assumption
            have hA8 := hA9.below hb8
            have hB8 := bthen hB9 hb8 hB9.size
            go_wp2_with fail
            refine (AppOk_c _ apps _ _ hA8).mono ?_
            rintro q w9 ⟨rfl, hb9⟩
            have hB10 := bthen hB8 hb9 hB8.size
            apply_assumption
            have HT := hid HF.out.2.2.2.2
            go_wp2_with fail
            go_ret
            exact ⟨by rw [HT.out]; rfl, hB10⟩
end Go.Proofs.Ytmnccekljombmaa
