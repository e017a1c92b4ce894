/- FnSimFirst: nothing happens ahead of the first time. -/
import Derived.Test.YtmnccekljombmaaJ27
import Derived.Test.YtmnccekljombmaaJ28
import Derived.Test.YtmnccekljombmaaJ29
import Derived.Test.YtmnccekljombmaaJ26
set_option linter.unusedVariables false
set_option linter.unusedSimpArgs false
set_option maxRecDepth 100000
namespace Go.Proofs.Ytmnccekljombmaa
open Go.RowKit
set_option maxHeartbeats 1000000 in
theorem FnSimFirst_any (A : Option Addr) (c : Nat) (bs : List Int) (w : World) (h : Rd (tInt .u8) w (fun k => k < w.heap.size) (.slice A bs.length c) bs) (hb : ∀ x ∈ bs, 0 ≤ x ∧ x ≤ 255) :
    Calls Try.prog 8 #[.slice A bs.length c] w fun e w' => e = .returned (.bool true) ∧ Below w.heap.size w w' := by
  by_cases hl : 1048576 < bs.length
  · have hd : decide ((1048576 : Int) < (bs.length : Int)) = true := decide_eq_true (by omega)
    go_enter Try.func8, Try.ntmps8
    go_wp2_with fail
    go_ret
    exact ⟨rfl, Below.refl _ _⟩
  · have hd : decide ((1048576 : Int) < (bs.length : Int)) = false := decide_eq_false (by omega)
    go_enter Try.func8, Try.ntmps8
    go_wp2_with fail
    refine (DrawSimRun_c A c bs _ h hb).mono ?_
    rintro q w1 ⟨v, apps, u, rfl, hA0, hl4, hu, hB1⟩
    obtain ⟨A1, c1, rfl, -⟩ := hA0.shape
    have hA := hA0.mono (F' := fun _ => True) (fun _ _ => trivial)
    clear hl hd h hb hA0
    apply_assumption
    go_wp2_with fail
    obtain ⟨s, hs⟩ : ∃ s, simStart = s := ⟨_, rfl⟩
    refine (SimStartI_c w1).mono ?_
    rintro q w2 ⟨us, uq, uo, rfl, n2, hb2⟩
    rw [hs] at n2
    obtain ⟨V1, b1, rfl, z1⟩ := n2.st.shape
    obtain ⟨V2, b2, rfl, z2⟩ := n2.qu.shape
    obtain ⟨V3, b3, rfl, z3⟩ := n2.ou.shape
    have HS := hid hs
    have hq4 : (((s.queue.length : Nat) : Int) != 4) = false := by rw [← hs]; rfl
    have hok : simOk s = true := by rw [← hs]; exact SInv.start.ok
    have HOK := hid hok
    clear hs hok
    apply_assumption
    go_upto_region 5 with fail
    have G5 : (w2.alloc (.cells #[.slice V1 s.states.length b1, .slice V2 s.queue.length b2, .slice V3 s.outs.length b3] 64)).heap[w2.heap.size]? = some (.cells #[.slice V1 s.states.length b1, .slice V2 s.queue.length b2, .slice V3 s.outs.length b3] 64 (0, 0)) := heap_at rfl
    have hbx := balloc (Below.refl w2.heap.size w2) (.cells #[.slice V1 s.states.length b1, .slice V2 s.queue.length b2, .slice V3 s.outs.length b3] 64)
    have R5 := (n2.rd.below hbx).mono (F' := fun _ => True) (fun _ _ => trivial)
    have hB2 := bthen (bthen hB1 hb2 hB1.size) hbx (bthen hB1 hb2 hB1.size).size
    have hA2 := (hA.below hb2).below hbx
    obtain ⟨g5, hg5⟩ : ∃ g, g = w2.heap.size := ⟨_, rfl⟩
    rw [← hg5] at G5
    simp only [← hg5]
    generalize w2.alloc (.cells #[.slice V1 s.states.length b1, .slice V2 s.queue.length b2, .slice V3 s.outs.length b3] 64) = W2 at *
    clear n2 hb2 hbx hB1 hA hg5
    have c0 : W2.cell? ⟨g5, 0, none⟩ = some (.slice V1 s.states.length b1) := blk_cell G5 0
    have c1' : W2.cell? ⟨g5, 1, none⟩ = some (.slice V2 s.queue.length b2) := blk_cell G5 1
    have c2 : W2.cell? ⟨g5, 2, none⟩ = some (.slice V3 s.outs.length b3) := blk_cell G5 2
    refine region_sg [.rd [0], .mid 1, .mid 2, .rd [3, 4, 5], .mid 6, .rd [7, 8, 9, 10, 11, 12, 13]] [14] (by kernel_rfl) (by kernel_rfl) (fun _ _ d _ _ h => by cases d <;> exact h) ?_
    refine sg_rd (fun N hN => ?_)
    simp only [pickO, List.getElem?_toArray, List.getElem?_cons_zero, List.getElem?_cons_succ]
    go_wp2_with fail
    refine rd_next (hN _ ?_)
    clear hN N
    refine sg_mid (fun N hN => ?_)
    simp only [pickO, List.getElem?_toArray, List.getElem?_cons_zero, List.getElem?_cons_succ]
    go_wp2_with fail
    have hbd := (Below.refl W2.heap.size W2).drew
    refine (SimStart_c _).mono ?_
    rintro q w3 ⟨us, uq, uo, rfl, n3, hb3⟩
    have hb3' := bthen' hbd hb3
    apply_assumption
    refine mid_next (Agree.of_below hb3) (hN _ _ ?_)
    clear hN
    refine sg_mid (fun N hN => ?_)
    simp only [pickO, List.getElem?_toArray, List.getElem?_cons_zero, List.getElem?_cons_succ]
    go_wp2_with fail
    have Rs := R5.below hb3'
    rw [HS.out] at n3
    refine (ltSim_c _ _ _ _ _ _ s s _ _ Rs (n3.rd.mono (fun _ _ => trivial))).mono ?_
    rintro q w4 ⟨rfl, hb4⟩
    have heq1 : decide (s = s) = true := decide_eq_true rfl
    rw [heq1]
    replace hb4 := bthen hb3 hb4 hb3.size
    have hb4' := bthen' hbd hb4
    apply_assumption
    refine mid_next (Agree.of_below hb4) (hN _ _ ?_)
    clear hN
    refine sg_rd (fun N hN => ?_)
    simp only [pickO, List.getElem?_toArray, List.getElem?_cons_zero, List.getElem?_cons_succ]
    go_wp2_with fail
    refine rd_next (hN _ ?_)
    clear hN N
    refine sg_mid (fun N hN => ?_)
    simp only [pickO, List.getElem?_toArray, List.getElem?_cons_zero, List.getElem?_cons_succ]
    go_wp2_with fail
    have Rs := R5.below hb4'
    refine (SimOkI_c _ _ _ s _ _ Rs.st Rs.qu Rs.ou).mono ?_
    rintro q w5 ⟨rfl, hb5⟩
    rw [HOK.out]
    replace hb5 := bthen hb4 hb5 hb4.size
    have hb5' := bthen' hbd hb5
    apply_assumption
    refine mid_next (Agree.of_below hb5) (hN _ _ ?_)
    clear hN
    refine sg_rd (fun N hN => ?_)
    simp only [pickO, List.getElem?_toArray, List.getElem?_cons_zero, List.getElem?_cons_succ]
    go_wp2_with fail
    refine rd_next (hN _ ?_)
    clear hN N
    refine sg_fin ?_
    simp only [pickO, List.getElem?_toArray, List.getElem?_cons_zero, List.getElem?_cons_succ]
    have H5 := below_heap hb5' (blk_lt G5) G5
    have R := R5.below hb5'
    have hA5 := hA2.below hb5'
    have hB5 := bthen hB2 hb5' hB2.size
    clear G5 R5 Rs hA2 hB2 hb3' hb4' hb5' hb3 hb4 hb5 n3 hbd c0 c1' c2 heq1
    obtain ⟨qa, hqa⟩ : ∃ t, appsOk apps = t := ⟨_, rfl⟩
    go_wp2_with fail
    refine (AppOk_c _ apps _ _ hA5).mono ?_
    rintro q w6 ⟨rfl, hb6⟩
    rw [hqa]
    have H6 := below_heap hb6 (blk_lt H5) H5
    have R6 := R.below hb6
    have hA6 := hA5.below hb6
    have hB6 := bthen hB5 hb6 hB5.size
    clear H5 R hA5 hB5 hb6
    apply_assumption
    cases qa
    case false =>
      go_wp2_with fail
      refine (SimRunI_c _ apps u _ _ hA6).mono ?_
      rintro q w7 ⟨us, uq, uo, rfl, n7, hb7⟩
      rw [simRun_bad hqa] at n7
      obtain ⟨X1, x1, rfl, y1⟩ := n7.st.shape
      have hB7 := bthen hB6 hb7 hB6.size
      rw [show sim0.states.length = 0 from rfl]
      have hfld : ∀ w, (Instr.field 64 (.agg #[.slice X1 0 x1, uq, uo]) 0).run Try.prog w = .ok (.slice X1 0 x1) w := fun _ => by kernel_rfl
      apply_assumption
      go_wp2_with fail
      go_ret
      exact ⟨rfl, hB7⟩
    case true =>
      have c0 : w6.cell? ⟨g5, 0, none⟩ = some (.slice V1 s.states.length b1) := blk_cell H6 0
      have c1' : w6.cell? ⟨g5, 1, none⟩ = some (.slice V2 s.queue.length b2) := blk_cell H6 1
      have c2 : w6.cell? ⟨g5, 2, none⟩ = some (.slice V3 s.outs.length b3) := blk_cell H6 2
      go_wp2_with fail
      refine region_sg [.rd [0, 2], .mid 1, .mid 3, .rd [4, 5, 6, 7, 8, 10], .mid 9, .mid 11] [12, 13] (by kernel_rfl) (by kernel_rfl) (fun _ _ d _ _ h => by cases d <;> exact h) ?_
      refine sg_rd (fun N hN => ?_)
      simp only [pickO, List.getElem?_toArray, List.getElem?_cons_zero, List.getElem?_cons_succ]
      go_wp2_with fail
      refine rd_next (hN _ ?_)
      clear hN N
      refine sg_mid (fun N hN => ?_)
      simp only [pickO, List.getElem?_toArray, List.getElem?_cons_zero, List.getElem?_cons_succ]
      go_wp2_with fail
      have hbd := (Below.refl w6.heap.size w6).drew
      refine (SimRunI_c _ apps 0 _ _ (hA6.below hbd)).mono ?_
      rintro q w7 ⟨us, uq, uo, rfl, n7, hb7⟩
      rw [simRun_first hqa 0 (by omega), HS.out] at n7
      have hb7' := bthen' hbd hb7
      apply_assumption
      refine mid_next (Agree.of_below hb7) (hN _ _ ?_)
      clear hN
      refine sg_mid (fun N hN => ?_)
      simp only [pickO, List.getElem?_toArray, List.getElem?_cons_zero, List.getElem?_cons_succ]
      go_wp2_with fail
      refine (ltSim_c _ _ _ _ _ _ s s _ _ (n7.rd.mono (fun _ _ => trivial)) (R6.below hb7')).mono ?_
      rintro q w8 ⟨rfl, hb8⟩
      have heq1 : decide (s = s) = true := decide_eq_true rfl
      rw [heq1]
      replace hb8 := bthen hb7 hb8 hb7.size
      have hb8' := bthen' hbd hb8
      apply_assumption
      refine mid_next (Agree.of_below hb8) (hN _ _ ?_)
      clear hN
      refine sg_rd (fun N hN => ?_)
      simp only [pickO, List.getElem?_toArray, List.getElem?_cons_zero, List.getElem?_cons_succ]
      go_wp2_with fail
      refine rd_next (hN _ ?_)
      clear hN N
      refine sg_mid (fun N hN => ?_)
      simp only [pickO, List.getElem?_toArray, List.getElem?_cons_zero, List.getElem?_cons_succ]
      go_wp2_with fail
      refine (SimRunI_c _ apps (-u - 1) _ _ (hA6.below hb8')).mono ?_
      rintro q w9 ⟨us2, uq2, uo2, rfl, n9, hb9⟩
      rw [simRun_first hqa (-u - 1) (by omega), HS.out] at n9
      replace hb9 := bthen hb8 hb9 hb8.size
      have hb9' := bthen' hbd hb9
      apply_assumption
      refine mid_next (Agree.of_below hb9) (hN _ _ ?_)
      clear hN
      refine sg_mid (fun N hN => ?_)
      simp only [pickO, List.getElem?_toArray, List.getElem?_cons_zero, List.getElem?_cons_succ]
      go_wp2_with fail
      refine (ltSim_c _ _ _ _ _ _ s s _ _ (n9.rd.mono (fun _ _ => trivial)) (R6.below hb9')).mono ?_
      rintro q w10 ⟨rfl, hb10⟩
      have heq1 : decide (s = s) = true := decide_eq_true rfl
      rw [heq1]
      replace hb10 := bthen hb9 hb10 hb9.size
      have hB10 := bthen hB6 (bthen' hbd hb10) hB6.size
      apply_assumption
      refine mid_next (Agree.of_below hb10) (hN _ _ ?_)
      clear hN
      refine sg_fin ?_
      simp only [pickO, List.getElem?_toArray, List.getElem?_cons_zero, List.getElem?_cons_succ]
      go_wp2_with fail
      go_ret
      exact ⟨rfl, hB10⟩
end Go.Proofs.Ytmnccekljombmaa
