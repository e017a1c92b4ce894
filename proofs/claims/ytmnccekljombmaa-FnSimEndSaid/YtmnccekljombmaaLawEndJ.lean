/- FnSimEnd: one machine comes to an end. -/
import Derived.Test.YtmnccekljombmaaJ27
import Derived.Test.YtmnccekljombmaaJ28
import Derived.Test.YtmnccekljombmaaJ29
import Derived.Test.YtmnccekljombmaaJ26
set_option linter.unusedVariables false
set_option linter.unusedSimpArgs false
set_option maxRecDepth 100000
namespace Go.Proofs.Ytmnccekljombmaa
open Go.RowKit
set_option maxHeartbeats 1000000 in
theorem FnSimEnd_any (A : Option Addr) (c : Nat) (bs : List Int) (w : World) (h : Rd (tInt .u8) w (fun k => k < w.heap.size) (.slice A bs.length c) bs) (hb : ∀ x ∈ bs, 0 ≤ x ∧ x ≤ 255) :
    Calls Try.prog 9 #[.slice A bs.length c] w fun e w' => e = .returned (.bool true) ∧ Below w.heap.size w w' := by
  by_cases hl : 1048576 < bs.length
  · have hd : decide ((1048576 : Int) < (bs.length : Int)) = true := decide_eq_true (by omega)
    go_enter Try.func9, Try.ntmps9
    go_wp2_with fail
    go_ret
    exact ⟨rfl, Below.refl _ _⟩
  · have hd : decide ((1048576 : Int) < (bs.length : Int)) = false := decide_eq_false (by omega)
    go_enter Try.func9, Try.ntmps9
    go_wp2_with fail
    refine (DrawSimRun_c A c bs _ h hb).mono ?_
    rintro q w1 ⟨v, apps, u, rfl, hA0, hl4, hu, hB1⟩
    obtain ⟨A1, c1, rfl, -⟩ := hA0.shape
    have hA := hA0.mono (F' := fun _ => True) (fun _ _ => trivial)
    clear hl hd h hb hA0
    apply_assumption
    go_wp2_with fail
    obtain ⟨s, hs⟩ : ∃ s, simRun apps 41 = s := ⟨_, rfl⟩
    refine (SimRunS_c _ apps 41 _ w1 hA).mono ?_
    rintro q w2 ⟨us, uq, uo, rfl, n2, hb2⟩
    rw [hs] at n2
    obtain ⟨V1, b1, rfl, z1⟩ := n2.st.shape
    obtain ⟨V2, b2, rfl, z2⟩ := n2.qu.shape
    obtain ⟨V3, b3, rfl, z3⟩ := n2.ou.shape
    have HS := hid hs
    clear hs
    apply_assumption
    go_wp2_with fail
    have G5 : (w2.alloc (.cells #[.slice V1 s.states.length b1, .slice V2 s.queue.length b2, .slice V3 s.outs.length b3] 64)).heap[w2.heap.size]? = some (.cells #[.slice V1 s.states.length b1, .slice V2 s.queue.length b2, .slice V3 s.outs.length b3] 64 (0, 0)) := heap_at rfl
    have hbx := balloc (Below.refl w2.heap.size w2) (.cells #[.slice V1 s.states.length b1, .slice V2 s.queue.length b2, .slice V3 s.outs.length b3] 64)
    have R5 := n2.rd.below hbx
    have hB2 := bthen (bthen hB1 hb2 hB1.size) hbx (bthen hB1 hb2 hB1.size).size
    have hA2 := (hA.below hb2).below hbx
    obtain ⟨g5, hg5⟩ : ∃ g, g = w2.heap.size := ⟨_, rfl⟩
    rw [← hg5] at G5
    simp only [← hg5]
    generalize w2.alloc (.cells #[.slice V1 s.states.length b1, .slice V2 s.queue.length b2, .slice V3 s.outs.length b3] 64) = W2 at *
    clear n2 hb2 hbx hB1 hA hg5
    refine (SimRunI_c _ apps 41 _ W2 hA2).mono ?_
    rintro q w3 ⟨us, uq, uo, rfl, n3, hb3⟩
    rw [HS.out] at n3
    obtain ⟨X1, x1, rfl, y1⟩ := n3.st.shape
    obtain ⟨X2, x2, rfl, y2⟩ := n3.qu.shape
    obtain ⟨X3, x3, rfl, y3⟩ := n3.ou.shape
    have K5 := below_heap hb3 (blk_lt G5) G5
    have hg56 := blk_lt K5
    have R5' := R5.below hb3
    have hB3 := bthen hB2 hb3 hB2.size
    have hA3 := hA2.below hb3
    clear G5 R5 hB2 hA2 hb3
    have c0 : w3.cell? ⟨g5, 0, none⟩ = some (.slice V1 s.states.length b1) := blk_cell K5 0
    have c1' : w3.cell? ⟨g5, 1, none⟩ = some (.slice V2 s.queue.length b2) := blk_cell K5 1
    have c2 : w3.cell? ⟨g5, 2, none⟩ = some (.slice V3 s.outs.length b3) := blk_cell K5 2
    have hgn : ¬ g5 = w3.heap.size := by omega
    apply_assumption
    go_wp2_with fail
    have G6 : (w3.alloc (.cells #[.slice X1 s.states.length x1, .slice X2 s.queue.length x2, .slice X3 s.outs.length x3] 64)).heap[w3.heap.size]? = some (.cells #[.slice X1 s.states.length x1, .slice X2 s.queue.length x2, .slice X3 s.outs.length x3] 64 (0, 0)) := heap_at rfl
    have L5 := (heap_old (o := .cells #[.slice X1 s.states.length x1, .slice X2 s.queue.length x2, .slice X3 s.outs.length x3] 64) hg56).trans K5
    have hbx := balloc (Below.refl w3.heap.size w3) (.cells #[.slice X1 s.states.length x1, .slice X2 s.queue.length x2, .slice X3 s.outs.length x3] 64)
    have R6 := (n3.rd.below hbx).mono (F' := fun _ => True) (fun _ _ => trivial)
    have R5 := (R5'.below hbx).mono (F' := fun _ => True) (fun _ _ => trivial)
    have hB4 := bthen hB3 hbx hB3.size
    have hA4 := hA3.below hbx
    obtain ⟨g6, hg6⟩ : ∃ g, g = w3.heap.size := ⟨_, rfl⟩
    rw [← hg6] at G6 hg56
    simp only [← hg6]
    generalize w3.alloc (.cells #[.slice X1 s.states.length x1, .slice X2 s.queue.length x2, .slice X3 s.outs.length x3] 64) = W3 at *
    clear n3 hbx hB3 hA3 K5 R5' hg6 c0 c1' c2 hgn
    refine (ltSim_c _ _ _ _ _ _ s s _ W3 R6 R5).mono ?_
    rintro q w4 ⟨rfl, hb5⟩
    have heq1 : decide (s = s) = true := decide_eq_true rfl
    rw [heq1]
    have G5 := below_heap hb5 (blk_lt L5) L5
    have H6 := below_heap hb5 (blk_lt G6) G6
    have R := R6.below hb5
    have R' := R5.below hb5
    have hA := hA4.below hb5
    have hB := bthen hB4 hb5 hB4.size
    clear L5 G6 R6 R5 hA4 hB4 hb5 heq1 hg56
    have c0 : w4.cell? ⟨g5, 0, none⟩ = some (.slice V1 s.states.length b1) := blk_cell G5 0
    have c1' : w4.cell? ⟨g5, 1, none⟩ = some (.slice V2 s.queue.length b2) := blk_cell G5 1
    have c2 : w4.cell? ⟨g5, 2, none⟩ = some (.slice V3 s.outs.length b3) := blk_cell G5 2
    have d0 : w4.cell? ⟨g6, 0, none⟩ = some (.slice X1 s.states.length x1) := blk_cell H6 0
    have d1 : w4.cell? ⟨g6, 1, none⟩ = some (.slice X2 s.queue.length x2) := blk_cell H6 1
    have d2 : w4.cell? ⟨g6, 2, none⟩ = some (.slice X3 s.outs.length x3) := blk_cell H6 2
    apply_assumption
    go_wp2_with fail
    have hq0 : s.queue.length = 0 := by
      rw [← HS.out]
      cases qa : appsOk apps with
      | true => rw [simRun_end qa]; rfl
      | false => rw [simRun_bad qa]; rfl
    have hst : (((s.states.length : Int) == 4) == appsOk apps) = true := by
      rw [← HS.out]
      cases qa : appsOk apps with
      | true => have := (simRun_ok qa 41).1.len; simp [this]
      | false => rw [simRun_bad qa]; rfl
    have HT := hid hst
    clear hst
    rw [hq0] at d1
    refine region_sg [.rd [0, 1, 2, 3, 4, 5, 6, 7, 8, 9], .mid 10] [11, 12, 13] (by kernel_rfl) (by kernel_rfl) (fun _ _ d _ _ h => by cases d <;> exact h) ?_
    refine sg_rd (fun N hN => ?_)
    simp only [pickO, List.getElem?_toArray, List.getElem?_cons_zero, List.getElem?_cons_succ]
    go_wp2_with fail
    refine rd_next (hN _ ?_)
    clear hN N
    refine sg_mid (fun N hN => ?_)
    simp only [pickO, List.getElem?_toArray, List.getElem?_cons_zero, List.getElem?_cons_succ]
    go_wp2_with fail
    have hbd := (Below.refl w4.heap.size w4).drew
    refine (AppOk_c _ apps _ _ (hA.below hbd)).mono ?_
    rintro q w5 ⟨rfl, hb5⟩
    have hB5 := bthen hB (bthen' hbd hb5) hB.size
    apply_assumption
    refine mid_next (Agree.of_below hb5) (hN _ _ ?_)
    clear hN
    refine sg_fin ?_
    simp only [pickO, List.getElem?_toArray, List.getElem?_cons_zero, List.getElem?_cons_succ]
    go_wp2_with fail
    go_ret
    exact ⟨by rw [HT.out]; rfl, hB5⟩
end Go.Proofs.Ytmnccekljombmaa
