/- The draw of programs and of a machine. -/
import Derived.Test.YtmnccekljombmaaDraw8J
import Derived.Test.YtmnccekljombmaaJ23
import Derived.Test.YtmnccekljombmaaJ06
set_option linter.unusedVariables false
set_option linter.unusedSimpArgs false
set_option maxRecDepth 100000
namespace Go.Proofs.Ytmnccekljombmaa
open Go.RowKit
def DrawnStep (w : World) (q : Ending) (w' : World) : Prop :=
  ∃ (v us uq uo : Value) (apps : List AppD) (s : SimD), q = .returned (.tuple #[v, .agg #[us, uq, uo]]) ∧ Rd tApp w' (fun _ => True) v apps ∧ SimRd w' (fun _ => True) us uq uo s ∧ Below w.heap.size w w'
set_option maxHeartbeats 1000000 in
theorem DrawSimStep_c (A : Option Addr) (c : Nat) (bs : List Int) (w : World) (h : Rd (tInt .u8) w (fun k => k < w.heap.size) (.slice A bs.length c) bs) (hb : ∀ x ∈ bs, 0 ≤ x ∧ x ≤ 255) :
    Calls Try.prog 44 #[.slice A bs.length c] w (DrawnStep w) := by
  go_enter Try.func44, Try.ntmps44
  go_wp2_with fail
  have HB0 := balloc (Below.refl w.heap.size w) (.cells #[.slice none 0 0, .slice none 0 0, .slice none 0 0] 64)
  have G0 : (w.alloc (.cells #[.slice none 0 0, .slice none 0 0, .slice none 0 0] 64)).heap[w.heap.size]? = some (.cells #[.slice none 0 0, .slice none 0 0, .slice none 0 0] 64 (0, 0)) := heap_at rfl
  have h0 := (h.below HB0).mono (F' := fun k => k < (w.alloc (.cells #[.slice none 0 0, .slice none 0 0, .slice none 0 0] 64)).heap.size) (fun k hk => by simp; omega)
  obtain ⟨g0, hg0⟩ : ∃ g, g = w.heap.size := ⟨_, rfl⟩
  rw [← hg0] at G0
  simp only [← hg0]
  generalize w.alloc (.cells #[.slice none 0 0, .slice none 0 0, .slice none 0 0] 64) = W0 at *
  have HG0 := hid hg0
  clear hg0
  refine (l6Open_c A c bs W0 h0 hb).mono ?_
  rintro e w1 ⟨rfl, hR1, hB1⟩
  have HB1 := bthen HB0 hB1 HB0.size
  have G1 := below_heap hB1 (blk_lt G0) G0
  obtain ⟨g, hg⟩ : ∃ g, g = W0.heap.size := ⟨_, rfl⟩
  have hgg : g0 < g := by have := blk_lt G0; omega
  simp only [← hg] at hR1 ⊢
  have HG := hid hg
  clear hg G0 h0 h hb
  apply_assumption
  go_wp2_with fail
  refine (l72Apps_c g g 0 _ hR1 (by omega)).mono ?_
  rintro e w2 ⟨v, xs, rfl, hRd, hl, hx, hR2, HC⟩
  obtain ⟨A1, c1, rfl, -⟩ := hRd.shape
  have hgl := hR1.lt
  have G2 := HC.heap G1 (fun e1 => by omega)
  have HB2 : Below w.heap.size w w2 := HB1.trans (HC.below (B := w.heap.size) (fun k hk => by have := HG.out; have := HB0.size; omega) HB1.size)
  clear hR1
  apply_assumption
  go_wp2_with fail
  refine (AppOk_c _ xs _ w2 hRd).mono ?_
  rintro e w3 ⟨rfl, hb3⟩
  have G3 := below_heap hb3 (blk_lt G2) G2
  have hA3 := hRd.below hb3
  have hR3 := hR2.ch (S := fun _ => False) (Ch.of_below hb3) (fun _ _ hf => hf)
  have HB3 := bthen HB2 hb3 HB2.size
  obtain ⟨qa, hqa⟩ : ∃ t, appsOk xs = t := ⟨_, rfl⟩
  rw [hqa]
  apply_assumption
  cases qa
  case false =>
    go_wp2_with fail
    refine (SimStart_c w3).mono ?_
    rintro e w4 ⟨us, uq, uo, rfl, n4, hb4⟩
    generalize simStart = s at *
    have n := n4.rd.mono (F' := fun k => g0 < k) (fun k hk => by have := blk_lt G3; have h3 : w3.heap.size ≤ k := hk; omega)
    have HBF := bthen HB3 hb4 HB3.size
    have hA4 := hA3.below hb4
    have G4 := below_heap hb4 (blk_lt G3) G3
    obtain ⟨V1, b1, rfl, z1⟩ := n.st.shape
    obtain ⟨V2, b2, rfl, z2⟩ := n.qu.shape
    obtain ⟨V3, b3, rfl, z3⟩ := n.ou.shape
    have y0 := blk_frozen G4 0
    have y1 := blk_frozen G4 1
    have y2 := blk_frozen G4 2
    have x0 : w4.cell? ⟨g0, 0, none⟩ = some (.slice none 0 0) := blk_cell G4 0
    have x1 : w4.cell? ⟨g0, 1, none⟩ = some (.slice none 0 0) := blk_cell G4 1
    have x2 : w4.cell? ⟨g0, 2, none⟩ = some (.slice none 0 0) := blk_cell G4 2
    clear G1 G2 G3
    apply_assumption
    go_wp2_with fail
    have BW := blk_set (blk_set (blk_set G4 0 (.slice V1 s.states.length b1)) 1 (.slice V2 s.queue.length b2)) 2 (.slice V3 s.outs.length b3)
    simp only [List.setIfInBounds_toArray, List.set_cons_zero, List.set_cons_succ] at BW
    have HX : Ch (fun k => k = g0) w4 (((w4.setCell ⟨g0, 0, none⟩ (.slice V1 s.states.length b1)).setCell ⟨g0, 1, none⟩ (.slice V2 s.queue.length b2)).setCell ⟨g0, 2, none⟩ (.slice V3 s.outs.length b3)) := Ch.setCell (p := ⟨g0, 2, none⟩) (Ch.setCell (p := ⟨g0, 1, none⟩) (Ch.setCell (p := ⟨g0, 0, none⟩) (Ch.refl (fun k => k = g0) _) (Or.inl rfl) _) (Or.inl rfl) _) (Or.inl rfl) _
    have nW := n.ch HX (fun k hk e1 => by omega)
    have hAW := hA4.ch HX (fun k hk e1 => by have h3 : w1.heap.size ≤ k := hk; omega)
    have HW : Below w.heap.size w _ := HBF.trans (HX.below (B := w.heap.size) (fun k hk => by have := HG0.out; omega) HBF.size)
    generalize ((w4.setCell ⟨g0, 0, none⟩ (.slice V1 s.states.length b1)).setCell ⟨g0, 1, none⟩ (.slice V2 s.queue.length b2)).setCell ⟨g0, 2, none⟩ (.slice V3 s.outs.length b3) = W9 at *
    have s0 : W9.cell? ⟨g0, 0, none⟩ = some (.slice V1 s.states.length b1) := blk_cell BW 0
    have s1 : W9.cell? ⟨g0, 1, none⟩ = some (.slice V2 s.queue.length b2) := blk_cell BW 1
    have s2 : W9.cell? ⟨g0, 2, none⟩ = some (.slice V3 s.outs.length b3) := blk_cell BW 2
    refine bodyPost_ret (v := .tuple #[.slice A1 xs.length c1, .agg #[.slice V1 s.states.length b1, .slice V2 s.queue.length b2, .slice V3 s.outs.length b3]]) (by simp only [results, Try.results44]; go_simp) rfl ⟨_, _, _, _, _, _, rfl, hAW.mono (fun _ _ => trivial), nW.mono (fun _ _ => trivial), HW⟩
  case true =>
    go_wp2_with fail
    refine (l72Sim_c g _ _ _ xs _ w3 hR3 (by omega) hA3 (fun k hk e1 => ?_)).mono ?_
    · have h3 : w1.heap.size ≤ k := hk
      omega
    rintro e w4 ⟨us, uq, uo, s, rfl, n4, hC4⟩
    have n := n4.mono (F' := fun k => g0 < k) (fun k hk => by have := blk_lt G3; have h3 : w3.heap.size ≤ k := hk; omega)
    have HBF : Below w.heap.size w w4 := HB3.trans (hC4.below (B := w.heap.size) (fun k hk => by have := HG0.out; omega) HB3.size)
    have hA4 := hA3.ch hC4 (fun k hk e1 => by have h3 : w1.heap.size ≤ k := hk; omega)
    have G4 := hC4.heap G3 (fun e1 => by omega)
    obtain ⟨V1, b1, rfl, z1⟩ := n.st.shape
    obtain ⟨V2, b2, rfl, z2⟩ := n.qu.shape
    obtain ⟨V3, b3, rfl, z3⟩ := n.ou.shape
    have y0 := blk_frozen G4 0
    have y1 := blk_frozen G4 1
    have y2 := blk_frozen G4 2
    have x0 : w4.cell? ⟨g0, 0, none⟩ = some (.slice none 0 0) := blk_cell G4 0
    have x1 : w4.cell? ⟨g0, 1, none⟩ = some (.slice none 0 0) := blk_cell G4 1
    have x2 : w4.cell? ⟨g0, 2, none⟩ = some (.slice none 0 0) := blk_cell G4 2
    clear G1 G2 G3
    apply_assumption
    go_wp2_with fail
    have BW := blk_set (blk_set (blk_set G4 0 (.slice V1 s.states.length b1)) 1 (.slice V2 s.queue.length b2)) 2 (.slice V3 s.outs.length b3)
    simp only [List.setIfInBounds_toArray, List.set_cons_zero, List.set_cons_succ] at BW
    have HX : Ch (fun k => k = g0) w4 (((w4.setCell ⟨g0, 0, none⟩ (.slice V1 s.states.length b1)).setCell ⟨g0, 1, none⟩ (.slice V2 s.queue.length b2)).setCell ⟨g0, 2, none⟩ (.slice V3 s.outs.length b3)) := Ch.setCell (p := ⟨g0, 2, none⟩) (Ch.setCell (p := ⟨g0, 1, none⟩) (Ch.setCell (p := ⟨g0, 0, none⟩) (Ch.refl (fun k => k = g0) _) (Or.inl rfl) _) (Or.inl rfl) _) (Or.inl rfl) _
    have nW := n.ch HX (fun k hk e1 => by omega)
    have hAW := hA4.ch HX (fun k hk e1 => by have h3 : w1.heap.size ≤ k := hk; omega)
    have HW : Below w.heap.size w _ := HBF.trans (HX.below (B := w.heap.size) (fun k hk => by have := HG0.out; omega) HBF.size)
    generalize ((w4.setCell ⟨g0, 0, none⟩ (.slice V1 s.states.length b1)).setCell ⟨g0, 1, none⟩ (.slice V2 s.queue.length b2)).setCell ⟨g0, 2, none⟩ (.slice V3 s.outs.length b3) = W9 at *
    have s0 : W9.cell? ⟨g0, 0, none⟩ = some (.slice V1 s.states.length b1) := blk_cell BW 0
    have s1 : W9.cell? ⟨g0, 1, none⟩ = some (.slice V2 s.queue.length b2) := blk_cell BW 1
    have s2 : W9.cell? ⟨g0, 2, none⟩ = some (.slice V3 s.outs.length b3) := blk_cell BW 2
    refine bodyPost_ret (v := .tuple #[.slice A1 xs.length c1, .agg #[.slice V1 s.states.length b1, .slice V2 s.queue.length b2, .slice V3 s.outs.length b3]]) (by simp only [results, Try.results44]; go_simp) rfl ⟨_, _, _, _, _, _, rfl, hAW.mono (fun _ _ => trivial), nW.mono (fun _ _ => trivial), HW⟩
end Go.Proofs.Ytmnccekljombmaa
