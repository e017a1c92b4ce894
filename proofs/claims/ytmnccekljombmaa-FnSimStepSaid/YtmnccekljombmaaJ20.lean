/- Texts joined: Imp14, Spc7, Spc8. -/
import Derived.Test.YtmnccekljombmaaJ19
import Derived.Test.YtmnccekljombmaaJ11
import Derived.Test.YtmnccekljombmaaJ08
import Derived.Test.YtmnccekljombmaaJ09
namespace Go.Proofs.Ytmnccekljombmaa
set_option linter.unusedVariables false
set_option linter.unusedSimpArgs false
set_option maxRecDepth 100000
open Go.RowKit
theorem firsts_sort : evSort firsts = firsts := by decide
set_option maxHeartbeats 4000000 in
theorem firstEvents_c (w : World) : Calls Try.prog 63 #[] w fun q w' => ∃ u, q = .returned u ∧ Ow tEv 29 w' (fun k => w.heap.size ≤ k) u firsts ∧ Below w.heap.size w w' := by
  go_enter Try.func63, Try.ntmps63
  go_wp2_with fail
  go_loopw [1, 3] (fun u i wr => ∃ k : Nat, i = .int .i64 k ∧ k ≤ 4 ∧ Ow tEv 29 wr (fun k => w.heap.size ≤ k) u (firsts.take k) ∧ Below w.heap.size w wr) (fun _ i _ => 4 - (intOf i).toNat)
  case atStart => exact ⟨0, rfl, by omega, Ow.nil _ _ _ _, Below.refl _ _⟩
  case round =>
    obtain ⟨k, rfl, hk, hO, hb⟩ := hrel
    obtain ⟨A, c, rfl, m0⟩ := hO.shape
    have hkl := firsts_len hk
    rw [hkl] at hO ⊢
    by_cases hlt : k < 4
    · have p1 : (k : Int) < 4 := by omega
      have HT := hid (firsts_snoc hlt)
      clear hkl
      go_wp2_with fail
      refine (AppFirstI_c _ _).mono ?_
      rintro e w5 ⟨rfl, hb5⟩
      generalize appFirst (k : Int) = y at *
      have hO5 := hO.below hb5
      have hb6 := bthen hb hb5 hb.size
      have hs6 := hb6.size
      clear hO hb hb5
      unfold evAgg
      apply_assumption
      go_wp2_with (at_builtin; refine ow_append (d := tEv) rfl 32 rfl Try.underlying32 _ 56 info_ev rfl (by decide) (by decide) rfl (hO5.alloc _) y _ rfl (heap_at rfl) (fun _ => False) rfl (fun _ hf => hf.elim) (fun _ hf => hf.elim) (by have := firsts_len hk; omega) (fun k => w.heap.size ≤ k) (fun _ hk => hk) (fun _ hf => hf.elim) (fun q hq => by simp at hq; omega) ?_; intro v1 w9 hO9 hG9 hat9)
      have hCx : Ch (fun q => w.heap.size ≤ q) w5 w9 := ((Ch.refl (fun q => w.heap.size ≤ q) w5).alloc _).grown hG9 (fun q hq => .inl (hO5.inF hq))
      have hb9 := ((Ch.of_below (S := fun q => w.heap.size ≤ q) hb6).trans hCx).below (fun q hq => hq) (Nat.le_refl _)
      rw [HT.out] at hO9
      go_roundw
      case rel => exact ⟨k + 1, by go_num, by omega, hO9, hb9⟩
      case measure => simp [intOf]; omega
    · obtain rfl : k = 4 := by omega
      have hO : Ow tEv 29 wr (fun k => w.heap.size ≤ k) (.slice A firsts.length c) firsts := hO
      clear hkl
      go_wp2_with fail
      refine (EventSortI_c _ firsts _ _ hO.rd (by decide) (fun x hx => EvWf.of_ok (by revert x; decide))).mono ?_
      rintro e w5 ⟨u, rfl, hO5, hb5⟩
      rw [firsts_sort] at hO5
      have hs := hb.size
      apply_assumption
      go_wp2_with fail
      go_ret
      exact ⟨u, rfl, hO5.mono (fun k hk => by omega), bthen hb hb5 hb.size⟩
def startN : List (Nat × Held) := [(0, rowH tSt 27 simStart.states), (1, rowH tEv 29 simStart.queue)]
set_option maxHeartbeats 4000000 in
theorem SimStartI_c (w : World) : Calls Try.prog 34 #[] w fun q w' => ∃ vs vq vo, q = .returned (.agg #[vs, vq, vo]) ∧ SimOw w' (fun k => w.heap.size ≤ k) vs vq vo simStart ∧ Below w.heap.size w w' := by
  have hmk : ∀ w : World, (Instr.makeSlice 62 (.int .i64 4) (.int .i64 4)).run Try.prog w = .ok (.slice (some ⟨w.heap.size, 0, none⟩) 4 4) (w.alloc (.cells #[.int .i64 0, .int .i64 0, .int .i64 0, .int .i64 0, .int .i64 0, .int .i64 0, .int .i64 0, .int .i64 0, .int .i64 0, .int .i64 0, .int .i64 0, .int .i64 0] 27)) := fun _ => by kernel_rfl
  go_enter Try.func34, Try.ntmps34
  go_wp2_with fail
  have hW := balloc (Below.refl w.heap.size w) (.cells #[.slice none 0 0, .slice none 0 0, .slice none 0 0] 64)
  have B0 : (w.alloc (.cells #[.slice none 0 0, .slice none 0 0, .slice none 0 0] 64)).heap[w.heap.size]? = some (.cells #[.slice none 0 0, .slice none 0 0, .slice none 0 0] 64 (0, 0)) := heap_at rfl
  generalize w.alloc (.cells #[.slice none 0 0, .slice none 0 0, .slice none 0 0] 64) = W at *
  have hWs := hW.size
  have g0 := blk_lt B0
  refine region_sg [.par [(0, []), (1, [])] []] [2, 3] (by kernel_rfl) (by kernel_rfl) (fun _ _ d _ _ h => by cases d <;> exact h) ?_
  refine sg_par [(0, some 1), (1, some 2)] (by rfl) (fun _ => False) (NN startN) (fun _ _ => False) (NN_move _ ⟨rowH_moves _ _ _, rowH_moves _ _ _, trivial⟩) (fun w' hc => Agree.of_ch hc (fun _ hf => hf.elim)) (by simp) (by simp) (by simp) (parS_cons (stepS_mk (by rfl) (by rfl) ?_) (parS_cons (stepS_mk (by rfl) (by rfl) ?_) parS_nil)) ?_
  · intro u wq F1 hC hN hF hD K hK
    clear hN hF hD
    simp only [putL_cons, putL_nil]
    go_simp
    refine hK _ (.slice (some ⟨wq.heap.size, 0, none⟩) 4 4) _ (fun k => k = wq.heap.size) ?_ ((Ch.refl _ _).alloc _) (Ow.of_flat (base := 0) ⟨by rfl, .inr ⟨_, 4, _, rfl, Nat.zero_le _, heap_at rfl, by decide, by unfold maxLen; decide, by rfl, by rfl⟩⟩ (fun g hg => by simp [Value.ownBlock] at hg; exact hg.symm)) (fun k hk => by subst hk; exact ⟨.inr (Nat.le_refl _), by simp⟩)
    rfl
  · intro u wq F1 hC hN hF hD K hK
    clear hN hF hD
    simp only [putL_cons, putL_nil]
    go_simp
    refine (firstEvents_c _).mono ?_
    rintro e w5 ⟨u5, rfl, h5, hb5⟩
    exact hK _ u5 _ (fun k => wq.heap.size ≤ k ∧ k < w5.heap.size) rfl (Ch.of_below hb5) h5.bound (fun k hk => ⟨.inr hk.1, hk.2⟩)
  intro K hK u w1 F1 hC hD hF hN
  have n0 : Ow tSt 27 w1 (F1 0) (u 0) simStart.states := hN 0 (by rfl)
  have n1 : Ow tEv 29 w1 (F1 1) (u 1) simStart.queue := hN 1 (by rfl)
  have m0 := n0.mono (F' := fun k => w.heap.size ≤ k) fun k hk => by have := (hF 0 k (by rfl) hk).1; rcases this with h | h; exact h.elim; simp at h; omega
  have m1 := n1.mono (F' := fun k => w.heap.size ≤ k) fun k hk => by have := (hF 1 k (by rfl) hk).1; rcases this with h | h; exact h.elim; simp at h; omega
  have hb1 : Below W.heap.size W w1 := ⟨hC.below0.os, hC.below0.tape, hC.below0.output, hC.below0.size, hC.below0.block⟩
  have hA : Agree W.drew w1 := Agree.of_ch hC (fun _ hf => hf.elim)
  have B1 := below_heap hb1 g0 B0
  clear n0 n1 hN hF hD hC F1 B0
  obtain ⟨X1, x1, y1, z1⟩ := m0.shape
  obtain ⟨X2, x2, y2, z2⟩ := m1.shape
  simp only [putL_cons, putL_nil]
  go_simp
  generalize u 0 = v0 at *
  generalize u 1 = v1 at *
  subst y1 y2
  refine hK _ _ hA ?_
  clear hK K
  refine sg_fin ?_
  simp only [pickO, List.getElem?_toArray, List.getElem?_cons_zero, List.getElem?_cons_succ]
  have c0 : w1.cell? ⟨w.heap.size, 0, none⟩ = some (.slice none 0 0) := blk_cell B1 0
  have c1 : w1.cell? ⟨w.heap.size, 1, none⟩ = some (.slice none 0 0) := blk_cell B1 1
  have c2 : w1.cell? ⟨w.heap.size, 2, none⟩ = some (.slice none 0 0) := blk_cell B1 2
  have f0 := blk_frozen B1 0
  have f1 := blk_frozen B1 1
  have f2 := blk_frozen B1 2
  go_wp2_with fail
  obtain ⟨BW, nW, hb⟩ := sim_store (g := w.heap.size) (s := simStart) B1 ⟨m0, m1, Ow.nil _ _ _ _⟩ (Nat.le_refl _) (hW.trans (Below.mono hb1 hWs)) (.slice X1 simStart.states.length x1) (.slice X2 simStart.queue.length x2) (.slice none 0 0) rfl rfl rfl
  generalize ((w1.setCell ⟨w.heap.size, 0, none⟩ (.slice X1 simStart.states.length x1)).setCell ⟨w.heap.size, 1, none⟩ (.slice X2 simStart.queue.length x2)).setCell ⟨w.heap.size, 2, none⟩ (.slice none 0 0) = W3 at *
  have r0 : W3.cell? ⟨w.heap.size, 0, none⟩ = some (.slice X1 simStart.states.length x1) := blk_cell BW 0
  have r1 : W3.cell? ⟨w.heap.size, 1, none⟩ = some (.slice X2 simStart.queue.length x2) := blk_cell BW 1
  have r2 : W3.cell? ⟨w.heap.size, 2, none⟩ = some (.slice none 0 0) := blk_cell BW 2
  refine bodyPost_ret (v := .agg #[.slice X1 simStart.states.length x1, .slice X2 simStart.queue.length x2, .slice none 0 0]) (by simp only [results, Try.results34]; go_simp) rfl ⟨_, _, _, rfl, nW, hb⟩
end Go.Proofs.Ytmnccekljombmaa

namespace Go.Proofs.Ytmnccekljombmaa
set_option linter.unusedVariables false
set_option linter.unusedSimpArgs false
set_option maxRecDepth 100000
open Go.RowKit
def copyN (s : SimD) : List (Nat × Held) := [(0, rowH tSt 27 []), (4, rowH tEv 29 []), (8, rowH tOut 43 []), (3, rowH tSt 27 s.states), (7, rowH tEv 29 s.queue), (11, rowH tOut 43 s.outs)]
set_option maxHeartbeats 4000000 in
theorem l2Copy_c (vs vq vo : Value) (s : SimD) (F : Nat → Prop) (w : World) (h : SimRd w F vs vq vo s) (l1 : s.states.length ≤ 1000) (l2 : s.queue.length ≤ 1000) (l3 : s.outs.length ≤ 1000) :
    Calls Try.prog 78 #[.agg #[vs, vq, vo]] w fun q w' => ∃ us uq uo, q = .returned (.agg #[us, uq, uo]) ∧ SimOw w' (fun k => w.heap.size ≤ k) us uq uo s ∧ Below w.heap.size w w' := by
  obtain ⟨A1, c1, rfl, m1⟩ := h.st.shape
  obtain ⟨A2, c2, rfl, m2⟩ := h.qu.shape
  obtain ⟨A3, c3, rfl, m3⟩ := h.ou.shape
  go_enter Try.func78, Try.ntmps78
  go_wp2_with fail
  have hW := balloc (balloc (Below.refl w.heap.size w) (.cells #[.slice A1 s.states.length c1, .slice A2 s.queue.length c2, .slice A3 s.outs.length c3] 64)) (.cells #[.slice none 0 0, .slice none 0 0, .slice none 0 0] 64)
  have B0 : ((w.alloc (.cells #[.slice A1 s.states.length c1, .slice A2 s.queue.length c2, .slice A3 s.outs.length c3] 64)).alloc (.cells #[.slice none 0 0, .slice none 0 0, .slice none 0 0] 64)).heap[w.heap.size]? = some (.cells #[.slice A1 s.states.length c1, .slice A2 s.queue.length c2, .slice A3 s.outs.length c3] 64 (0, 0)) := (heap_old (by simp)).trans (heap_at rfl)
  have B1 : ((w.alloc (.cells #[.slice A1 s.states.length c1, .slice A2 s.queue.length c2, .slice A3 s.outs.length c3] 64)).alloc (.cells #[.slice none 0 0, .slice none 0 0, .slice none 0 0] 64)).heap[w.heap.size + 1]? = some (.cells #[.slice none 0 0, .slice none 0 0, .slice none 0 0] 64 (0, 0)) := heap_at (by simp)
  generalize (w.alloc (.cells #[.slice A1 s.states.length c1, .slice A2 s.queue.length c2, .slice A3 s.outs.length c3] 64)).alloc (.cells #[.slice none 0 0, .slice none 0 0, .slice none 0 0] 64) = W at *
  have d0 : W.cell? ⟨w.heap.size, 0, none⟩ = some (.slice A1 s.states.length c1) := blk_cell B0 0
  have d1 : W.cell? ⟨w.heap.size, 1, none⟩ = some (.slice A2 s.queue.length c2) := blk_cell B0 1
  have d2 : W.cell? ⟨w.heap.size, 2, none⟩ = some (.slice A3 s.outs.length c3) := blk_cell B0 2
  have g0 := blk_lt B0
  have g1 := blk_lt B1
  have hR := hid (h.below hW)
  refine region_z (fun w' => Below W.heap.size W w') (.take 1 (.take 2 (.take 5 (.take 6 (.take 9 (.take 10 (.par [(0, []), (4, []), (8, []), (3, [0]), (7, [4]), (11, [8])] [] (.take 12 (.one 13 (.nil)))))))))) (by kernel_rfl) (by kernel_rfl) (fun _ _ d _ _ h => by cases d <;> exact h) ?_
  have HS := (Below.refl W.heap.size W).drew
  iterate 6 (first | (refine z_take (v := ?_) (by rfl) HS (by rfl) ?_ ?_; rotate_left; (focus (intro wS hS; obtain ⟨kc, kf⟩ := bcell hS; go_simp; (try (with_reducible rfl)); done)); (intro K hK; go_simp; refine hK _ ?_; clear hK K)) | (refine z_skip (by rfl) HS (by rfl) ?_; (intro K hK; go_simp; refine hK _ ?_; clear hK K)))
  refine z_par [(0, some 3), (4, some 7), (8, some 11), (3, some 6), (7, some 10), (11, some 14)] (by rfl) (fun _ => False) (NN (copyN s)) (fun _ _ => False) (NN_move _ ⟨rowH_moves _ _ _, rowH_moves _ _ _, rowH_moves _ _ _, rowH_moves _ _ _, rowH_moves _ _ _, rowH_moves _ _ _, trivial⟩) (fun w' hc => bthen' HS hc.below0) (by simp) (by simp) (by simp) (parS_cons (stepS_mk (by rfl) (by rfl) ?_) (parS_cons (stepS_mk (by rfl) (by rfl) ?_) (parS_cons (stepS_mk (by rfl) (by rfl) ?_) (parS_cons (stepS_mk (by rfl) (by rfl) ?_) (parS_cons (stepS_mk (by rfl) (by rfl) ?_) (parS_cons (stepS_mk (by rfl) (by rfl) ?_) parS_nil)))))) ?_
  · intro u wq F1 hC hN hF hD K hK
    clear hN hF hD
    simp only [putL_cons, putL_nil]
    go_simp
    refine hK _ (.slice (some ⟨wq.heap.size, 0, none⟩) 0 0) _ (fun k => k = wq.heap.size) ?_ ((Ch.refl _ _).alloc _) (Ow.empty tSt (heap_at rfl) rfl) (fun k hk => by subst hk; exact ⟨.inr (Nat.le_refl _), by simp⟩)
    rfl
  · intro u wq F1 hC hN hF hD K hK
    clear hN hF hD
    simp only [putL_cons, putL_nil]
    go_simp
    refine hK _ (.slice (some ⟨wq.heap.size, 0, none⟩) 0 0) _ (fun k => k = wq.heap.size) ?_ ((Ch.refl _ _).alloc _) (Ow.empty tEv (heap_at rfl) rfl) (fun k hk => by subst hk; exact ⟨.inr (Nat.le_refl _), by simp⟩)
    rfl
  · intro u wq F1 hC hN hF hD K hK
    clear hN hF hD
    simp only [putL_cons, putL_nil]
    go_simp
    refine hK _ (.slice (some ⟨wq.heap.size, 0, none⟩) 0 0) _ (fun k => k = wq.heap.size) ?_ ((Ch.refl _ _).alloc _) (Ow.empty tOut (heap_at rfl) rfl) (fun k hk => by subst hk; exact ⟨.inr (Nat.le_refl _), by simp⟩)
    rfl
  · intro u wq F1 hC hN hF hD K hK
    have HO : Ow tSt 27 wq (F1 0) (u 0) [] := hN 0 (by simp)
    have hrd : Rd tSt wq F _ s.states := ((hR.out.st).move (w' := W.drew) (fun _ _ => rfl)).ch hC (fun _ _ hf => hf)
    clear hN hF hD
    refine ow_concat_wp 62 (by rfl) Try.underlying62 _ 24 info_st rfl (by decide) (by decide) (by rfl) HO (by rfl) hrd (by simp only [List.length_nil]; omega) (fun k => F1 0 k ∨ wq.heap.size ≤ k) (fun _ hk => .inl hk) (fun _ hk => .inr hk) ?_
    intro v1 w1 hO1 hG1 hat1
    obtain ⟨e1, e2, e3⟩ := grown_step HO hO1 hG1 hat1
    exact hK _ v1 w1 (fun k => v1.ownBlock = some k) rfl (e1.mono fun k hk => ⟨0, by simp, hk⟩) e2 (fun k hk => ⟨(e3 k hk).1.imp_left fun h => ⟨0, by simp, h⟩, (e3 k hk).2⟩)
  · intro u wq F1 hC hN hF hD K hK
    have HO : Ow tEv 29 wq (F1 4) (u 4) [] := hN 4 (by simp)
    have hrd : Rd tEv wq F _ s.queue := ((hR.out.qu).move (w' := W.drew) (fun _ _ => rfl)).ch hC (fun _ _ hf => hf)
    clear hN hF hD
    refine ow_concat_wp 32 (by rfl) Try.underlying32 _ 56 info_ev rfl (by decide) (by decide) (by rfl) HO (by rfl) hrd (by simp only [List.length_nil]; omega) (fun k => F1 4 k ∨ wq.heap.size ≤ k) (fun _ hk => .inl hk) (fun _ hk => .inr hk) ?_
    intro v1 w1 hO1 hG1 hat1
    obtain ⟨e1, e2, e3⟩ := grown_step HO hO1 hG1 hat1
    exact hK _ v1 w1 (fun k => v1.ownBlock = some k) rfl (e1.mono fun k hk => ⟨4, by simp, hk⟩) e2 (fun k hk => ⟨(e3 k hk).1.imp_left fun h => ⟨4, by simp, h⟩, (e3 k hk).2⟩)
  · intro u wq F1 hC hN hF hD K hK
    have HO : Ow tOut 43 wq (F1 8) (u 8) [] := hN 8 (by simp)
    have hrd : Rd tOut wq F _ s.outs := ((hR.out.ou).move (w' := W.drew) (fun _ _ => rfl)).ch hC (fun _ _ hf => hf)
    clear hN hF hD
    refine ow_concat_wp 33 (by rfl) Try.underlying33 _ 40 info_out rfl (by decide) (by decide) (by rfl) HO (by rfl) hrd (by simp only [List.length_nil]; omega) (fun k => F1 8 k ∨ wq.heap.size ≤ k) (fun _ hk => .inl hk) (fun _ hk => .inr hk) ?_
    intro v1 w1 hO1 hG1 hat1
    obtain ⟨e1, e2, e3⟩ := grown_step HO hO1 hG1 hat1
    exact hK _ v1 w1 (fun k => v1.ownBlock = some k) rfl (e1.mono fun k hk => ⟨8, by simp, hk⟩) e2 (fun k hk => ⟨(e3 k hk).1.imp_left fun h => ⟨8, by simp, h⟩, (e3 k hk).2⟩)
  intro K hK u w1 F1 hC hD hF hN
  have n3 : Ow tSt 27 w1 (F1 3) (u 3) s.states := hN 3 (by rfl)
  have n7 : Ow tEv 29 w1 (F1 7) (u 7) s.queue := hN 7 (by rfl)
  have n11 : Ow tOut 43 w1 (F1 11) (u 11) s.outs := hN 11 (by rfl)
  have n := SimOw.mk (F := fun k => w.heap.size ≤ k) (n3.mono fun k hk => by have := (hF 3 k (by rfl) hk).1; rcases this with h | h; exact h.elim; have := hW.size; simp at h; omega) (n7.mono fun k hk => by have := (hF 7 k (by rfl) hk).1; rcases this with h | h; exact h.elim; have := hW.size; simp at h; omega) (n11.mono fun k hk => by have := (hF 11 k (by rfl) hk).1; rcases this with h | h; exact h.elim; have := hW.size; simp at h; omega)
  have HS1 := bthen' HS hC.below0
  have B1w := below_heap HS1 g1 B1
  clear HS n3 n7 n11 hN hF hD hC F1 hR B0 B1 d0 d1 d2
  have HS := HS1
  clear HS1
  obtain ⟨X1, x1, y1, z1⟩ := n.st.shape
  obtain ⟨X2, x2, y2, z2⟩ := n.qu.shape
  obtain ⟨X3, x3, y3, z3⟩ := n.ou.shape
  simp only [putL_cons, putL_nil]
  go_simp
  generalize u 3 = v3 at *
  generalize u 7 = v7 at *
  generalize u 11 = v11 at *
  subst y1 y2 y3
  refine hK _ _ ?_
  clear hK K
  iterate 1 (first | (refine z_take (v := ?_) (by rfl) HS (by rfl) ?_ ?_; rotate_left; (focus (intro wS hS; obtain ⟨kc, kf⟩ := bcell hS; go_simp; (try (with_reducible rfl)); done)); (intro K hK; go_simp; refine hK _ ?_; clear hK K)) | (refine z_skip (by rfl) HS (by rfl) ?_; (intro K hK; go_simp; refine hK _ ?_; clear hK K)))
  have c0 : w1.cell? ⟨w.heap.size + 1, 0, none⟩ = some (.slice none 0 0) := blk_cell B1w 0
  have c1 : w1.cell? ⟨w.heap.size + 1, 1, none⟩ = some (.slice none 0 0) := blk_cell B1w 1
  have c2 : w1.cell? ⟨w.heap.size + 1, 2, none⟩ = some (.slice none 0 0) := blk_cell B1w 2
  have f0 := blk_frozen B1w 0
  have f1 := blk_frozen B1w 1
  have f2 := blk_frozen B1w 2
  refine z_do (by rfl) (by rfl) (fun K hK => ?_)
  go_simp
  refine hK _ _ (Or.inl (by kernel_rfl)) ?_
  clear hK K c0 c1 c2 f0 f1 f2
  obtain ⟨BW, nW, hb⟩ := sim_store (g := w.heap.size + 1) B1w n (by omega) (hW.trans (Below.mono HS hW.size)) (.slice X1 s.states.length x1) (.slice X2 s.queue.length x2) (.slice X3 s.outs.length x3) rfl rfl rfl
  generalize ((w1.setCell ⟨w.heap.size + 1, 0, none⟩ (.slice X1 s.states.length x1)).setCell ⟨w.heap.size + 1, 1, none⟩ (.slice X2 s.queue.length x2)).setCell ⟨w.heap.size + 1, 2, none⟩ (.slice X3 s.outs.length x3) = W3 at *
  simp only [wpZ]
  go_wp2_with fail
  have r0 : W3.cell? ⟨w.heap.size + 1, 0, none⟩ = some (.slice X1 s.states.length x1) := blk_cell BW 0
  have r1 : W3.cell? ⟨w.heap.size + 1, 1, none⟩ = some (.slice X2 s.queue.length x2) := blk_cell BW 1
  have r2 : W3.cell? ⟨w.heap.size + 1, 2, none⟩ = some (.slice X3 s.outs.length x3) := blk_cell BW 2
  refine bodyPost_ret (v := .agg #[.slice X1 s.states.length x1, .slice X2 s.queue.length x2, .slice X3 s.outs.length x3]) (by simp [results, Try.results78, go_sem, r0, r1, r2]) rfl ⟨_, _, _, rfl, nW, hb⟩

end Go.Proofs.Ytmnccekljombmaa

namespace Go.Proofs.Ytmnccekljombmaa
set_option linter.unusedVariables false
set_option linter.unusedSimpArgs false
set_option maxRecDepth 100000
open Go.RowKit
def sortN (l : List OutD) (x : OutD) (m : Nat) : List (Nat × Held) := [(0, rowH tOut 43 []), (9, fun v w F => ∃ g, v = .slice (some ⟨g, 0, none⟩) 1 1 ∧ F g ∧ w.heap[g]? = some (.cells (OutD.cells x).toArray 43 (0, 0))), (4, rowH tOut 43 (l.take m)), (10, rowH tOut 43 (l.take m ++ [x])), (14, rowH tOut 43 (l.take m ++ [x] ++ l.drop m))]
set_option maxHeartbeats 4000000 in
theorem OutSort_c (v : Value) (xs : List OutD) (F : Nat → Prop) (w : World) (h : Rd tOut w F v xs) (hlen : xs.length ≤ 1000) :
    Calls Try.prog 80 #[v] w fun q w' => ∃ u, q = .returned u ∧ Ow tOut 43 w' (fun k => w.heap.size ≤ k) u (outSort xs) ∧ Below w.heap.size w w' := by
  obtain ⟨A, cp, rfl, -, -, -⟩ := id h
  go_enter Try.func80, Try.ntmps80
  go_wp2_with fail
  go_loopw [3, 4] (fun o i wr => ∃ k : Nat, i = .int .i64 k ∧ k ≤ xs.length ∧ Ow tOut 43 wr (fun q => w.heap.size ≤ q) o ((xs.take k).foldl (insAll outLess) []) ∧ Below w.heap.size w wr) (fun _ i _ => xs.length - (intOf i).toNat)
  case atStart => exact ⟨0, rfl, Nat.zero_le _, Ow.empty tOut (heap_at (by simp)) (Nat.le_refl _), balloc (Below.refl _ _) _⟩
  case round =>
    obtain ⟨k, rfl, hk, HO, hb⟩ := hrel
    by_cases hlt : k < xs.length
    · have hrd : Rd tOut wr F (.slice A xs.length cp) xs := h.below hb
      have hll := sortAll_len (lt := outLess) xs k hk
      have hin := hid (fold_snoc (β := OutD) (insAll outLess) hlt)
      obtain ⟨l, hL⟩ : ∃ l, l = (xs.take k).foldl (insAll outLess) [] := ⟨_, rfl⟩
      rw [← hL] at HO hll hin
      clear hL
      have hll' : l.length ≤ 1000 := by omega
      clear hll
      obtain ⟨A3, c3, rfl, hl3⟩ := HO.shape
      go_wp2_with fail
      obtain ⟨wo, hwo⟩ : ∃ wo, wo = wr := ⟨_, rfl⟩
      go_loopw [5] (fun j w2 => ∃ m : Nat, j = .int .i64 m ∧ m ≤ l.length ∧ Hid (place outLess l xs[k] l.length = place outLess l xs[k] m) ∧ Below wo.heap.size wo w2) (fun j _ => (intOf j).toNat)
      case atStart => subst hwo; exact ⟨l.length, rfl, Nat.le_refl _, rfl, Below.refl _ _⟩
      case round =>
        obtain ⟨m, rfl, hm, hpl, hb2⟩ := hrel
        subst hwo
        have HO2 := HO.below hb2
        have hrd2 := hrd.below hb2
        obtain ⟨b0, o0, rfl, hb0, a0, a1, a2, a3, a4⟩ := out_at hrd2 k hlt
        go_upto_region 6 with fail
        go_cut [28] (fun t wc => ∃ bt, t = .bool bt ∧ Hid (decide (0 < m ∧ outLess xs[k] (nth l (m - 1)) = true) = bt) ∧ Below wr.heap.size wr wc)
        case first =>
          by_cases q3 : m = 0
          · have hkd : decide ((m : Int) > 0) = false := by simp; omega
            have hkn : decide (0 < m) = false := by simp; omega
            have HD := hid (show decide (0 < m ∧ outLess xs[k] (nth l (m - 1)) = true) = false by simp; omega)
            clear q3
            refine region_plan (fun w' => Below wr.heap.size wr w') [(0, true), (1, true), (2, true), (3, true), (4, true), (5, true), (6, true), (7, true), (8, true), (9, true), (10, true), (11, true), (12, false), (13, true)] (by kernel_rfl) (by kernel_rfl) (fun _ _ d _ _ h => by cases d <;> exact h) ?_
            have HS := (Below.refl wr.heap.size wr).drew
            iterate 12 (first | (refine seq_take (v := ?_) (by rfl) HS (by rfl) ?_ ?_; rotate_left; (focus (intro wS hS; obtain ⟨kc, kf⟩ := bcell hS; go_simp; (try (with_reducible rfl)); done)); (intro K hK; go_simp; refine hK _ ?_; clear hK K)) | (refine seq_skip (by rfl) HS (by rfl) ?_; (intro K hK; go_simp; refine hK _ ?_; clear hK K)))
            refine seq_dont (by rfl) (by rfl) (fun K hK => ?_); go_simp; refine hK _ _ (Or.inr HS) ?_; clear hK K
            iterate 1 (first | (refine seq_take (v := ?_) (by rfl) HS (by rfl) ?_ ?_; rotate_left; (focus (intro wS hS; obtain ⟨kc, kf⟩ := bcell hS; go_simp; (try (with_reducible rfl)); done)); (intro K hK; go_simp; refine hK _ ?_; clear hK K)) | (refine seq_skip (by rfl) HS (by rfl) ?_; (intro K hK; go_simp; refine hK _ ?_; clear hK K)))
            simp only [wpSeq]
            go_wp2_with fail
            go_meet
            exact ⟨_, rfl, HD, HS⟩
          · have hk0 : 0 < m := by omega
            have hkd : decide ((m : Int) > 0) = true := by simp; omega
            have hkn : decide (0 < m) = true := by simp; omega
            obtain ⟨b2, o2, rfl, hbb2, z0, z1, z2, z3, z4⟩ := out_at HO2.rd (m - 1) (by omega)
            have hck : ((m : Int) - 1).toNat = m - 1 := by omega
            have p1 : (0 : Int) ≤ (m : Int) - 1 := by omega
            have p2 : (m : Int) - 1 < (l.length : Int) := by omega
            have p3 : (1 : Int) ≤ (m : Int) := by omega
            have p4 : 1 ≤ m := by omega
            have p5 : IntKind.i64.wrap ((m : Int) - 1) = (m : Int) - 1 := IntWalk.i64_in _ (by omega)
            obtain ⟨t, q4⟩ : ∃ t, outLess xs[k] (l[m-1]'(by omega)) = t := ⟨_, rfl⟩
            have HD := hid (show decide (0 < m ∧ outLess xs[k] (nth l (m - 1)) = true) = t by rw [nth_eq (by omega), q4]; cases t <;> simp [hk0])
            clear q3
            refine region_plan (fun w' => Below wr.heap.size wr w') [(0, true), (1, true), (2, true), (3, true), (4, true), (5, true), (6, true), (7, true), (8, true), (9, true), (10, true), (11, true), (12, false), (13, true)] (by kernel_rfl) (by kernel_rfl) (fun _ _ d _ _ h => by cases d <;> exact h) ?_
            have HS := (Below.refl wr.heap.size wr).drew
            iterate 12 (first | (refine seq_take (v := ?_) (by rfl) HS (by rfl) ?_ ?_; rotate_left; (focus (intro wS hS; obtain ⟨kc, kf⟩ := bcell hS; go_simp; (try (with_reducible rfl)); done)); (intro K hK; go_simp; refine hK _ ?_; clear hK K)) | (refine seq_skip (by rfl) HS (by rfl) ?_; (intro K hK; go_simp; refine hK _ ?_; clear hK K)))
            refine seq_do (by rfl) (by rfl) (fun K hK => ?_)
            go_simp; refine (OutLess_c xs[k] l[m-1] _).mono ?_; rintro e w1 ⟨he, hb1⟩; rw [q4] at he; subst he; have HS1 := bthen' HS hb1; refine hK _ _ (Or.inr HS1) ?_; clear hK K HS; have HS := HS1; clear HS1
            iterate 1 (first | (refine seq_take (v := ?_) (by rfl) HS (by rfl) ?_ ?_; rotate_left; (focus (intro wS hS; obtain ⟨kc, kf⟩ := bcell hS; go_simp; (try (with_reducible rfl)); done)); (intro K hK; go_simp; refine hK _ ?_; clear hK K)) | (refine seq_skip (by rfl) HS (by rfl) ?_; (intro K hK; go_simp; refine hK _ ?_; clear hK K)))
            simp only [wpSeq]
            go_wp2_with fail
            go_meet
            exact ⟨_, rfl, HD, HS⟩
        case rest =>
          obtain ⟨bt, rfl, HB, hc⟩ := hcut
          have hcw := bthen' hb2 hc
          cases bt
          case true =>
            have hgo := of_decide_eq_true HB.out
            have HP := hid (place_go (lt := outLess) hgo.1 hgo.2)
            have hm0 := hgo.1
            clear hgo HB
            go_wp2_with fail
            go_roundw
            case rel => exact ⟨m - 1, by go_num, by omega, by rw [hpl.out, HP.out]; rfl, hcw⟩
            case measure => simp [intOf]; omega
          case false =>
            have hgo := of_decide_eq_false HB.out
            have HI := hid (show insAll outLess l xs[k] = l.take m ++ [xs[k]] ++ l.drop m by rw [insAll, hpl.out, place_stop (lt := outLess) (fun h0 => by simpa [h0] using hgo), insAt]; simp)
            clear hgo HB hpl
            have HO3 := HO2.below hc
            have hrd3 := hrd2.below hc
            obtain ⟨b3, o3, hA3, hb3, d0, d1, d2, d3, d4⟩ := out_at hrd3 k hlt
            injection hA3 with hA3
            injection hA3 with e1 e2 _
            subst e1 e2
            have hbV : Below w.heap.size w wc := bthen hb hcw hb.size
            clear a0 a1 a2 a3 a4 HO2 HO hrd hrd2 hrd3 hcw hc hb2 hb hb0
            have hcap := HO3.rd.capLe
            have hmc : (m : Int) ≤ (c3 : Int) := by omega
            have hml : (m : Int) ≤ (l.length : Int) := by omega
            have hmc' : m ≤ c3 := by omega
            have HR3 := hid HO3.rd
            have hVs := hbV.size
            go_upto_region 8 with fail
            refine region_z (fun w' => Below wc.heap.size wc w') (.take 1 (.take 2 (.take 3 (.take 5 (.take 6 (.take 7 (.take 8 (.take 11 (.take 12 (.take 13 (.par [(0, []), (9, []), (4, [0]), (10, [4, 9]), (14, [10])] [] (.take 15 (.nil))))))))))))) (by kernel_rfl) (by kernel_rfl) (fun _ _ d _ _ h => by cases d <;> exact h) ?_
            have HS := (Below.refl wc.heap.size wc).drew
            iterate 10 (first | (refine z_take (v := ?_) (by rfl) HS (by rfl) ?_ ?_; rotate_left; (focus (intro wS hS; obtain ⟨kc, kf⟩ := bcell hS; go_simp; (try (with_reducible rfl)); done)); (intro K hK; go_simp; refine hK _ ?_; clear hK K)) | (refine z_skip (by rfl) HS (by rfl) ?_; (intro K hK; go_simp; refine hK _ ?_; clear hK K)))
            refine z_par [(0, some 31), (9, some 40), (4, some 35), (10, some 41), (14, some 45)] (by rfl) (fun _ => False) (NN (sortN l xs[k] m)) (fun _ _ => False) (NN_move _ ⟨rowH_moves _ _ _, (fun v w w' F ⟨g, e1, e2, e3⟩ hm => ⟨g, e1, e2, (hm g e2).trans e3⟩), rowH_moves _ _ _, rowH_moves _ _ _, rowH_moves _ _ _, trivial⟩) (fun w' hc => bthen' HS hc.below0) (by simp) (by simp) (by simp) (parS_cons (stepS_mk (by rfl) (by rfl) ?_) (parS_cons (stepS_mk (by rfl) (by rfl) ?_) (parS_cons (stepS_mk (by rfl) (by rfl) ?_) (parS_cons (stepS_mk (by rfl) (by rfl) ?_) (parS_cons (stepS_mk (by rfl) (by rfl) ?_) parS_nil))))) ?_
            · intro u wq F1 hC hN hF hD K hK
              clear hN hF hD
              simp only [putL_cons, putL_nil]
              go_simp
              refine hK _ (.slice (some ⟨wq.heap.size, 0, none⟩) 0 0) _ (fun k => k = wq.heap.size) ?_ ((Ch.refl _ _).alloc _) (Ow.empty tOut (heap_at rfl) rfl) (fun k hk => by subst hk; exact ⟨.inr (Nat.le_refl _), by simp⟩)
              rfl
            · intro u wq F1 hC hN hF hD K hK
              clear hN hF hD
              simp only [putL_cons, putL_nil]
              go_simp
              refine hK _ (.slice (some ⟨wq.heap.size, 0, none⟩) 1 1) _ (fun k => k = wq.heap.size) ?_ ((Ch.refl _ _).alloc _) ⟨_, rfl, rfl, heap_at rfl⟩ (fun k hk => by subst hk; exact ⟨.inr (Nat.le_refl _), by simp⟩)
              rfl
            · intro u wq F1 hC hN hF hD K hK
              have HO : Ow tOut 43 wq (F1 0) (u 0) [] := hN 0 (by simp)
              have hrd := (HR3.out.takeP m hm).below (bthen' HS hC.below0)
              clear hN hF hD
              refine ow_concat_wp (ys := l.take m) 33 (by rfl) Try.underlying33 _ 40 info_out rfl (by decide) (by decide) (by rfl) HO (by rfl) hrd (by simp; omega) (fun k => F1 0 k ∨ wq.heap.size ≤ k) (fun _ hk => .inl hk) (fun _ hk => .inr hk) ?_
              intro v1 w1 hO1 hG1 hat1
              obtain ⟨e1, e2, e3⟩ := grown_step HO hO1 hG1 hat1
              exact hK _ v1 w1 (fun k => v1.ownBlock = some k) rfl (e1.mono fun k hk => ⟨0, by simp, hk⟩) e2 (fun k hk => ⟨(e3 k hk).1.imp_left fun h => ⟨0, by simp, h⟩, (e3 k hk).2⟩)
            · intro u wq F1 hC hN hF hD K hK
              have HO : Ow tOut 43 wq (F1 4) (u 4) (l.take m) := hN 4 (by simp)
              obtain ⟨g, e9, hg, hH⟩ : ∃ g, u 9 = .slice (some ⟨g, 0, none⟩) 1 1 ∧ F1 9 g ∧ wq.heap[g]? = some (.cells (OutD.cells xs[k]).toArray 43 (0, 0)) := hN 9 (by simp)
              clear hN hF hD
              refine ow_append_wp (d := tOut) 33 (by rfl) Try.underlying33 _ 40 info_out rfl (by decide) (by decide) (by rfl) HO xs[k] _ (by exact e9) hH (fun _ => False) rfl (fun _ hf => hf.elim) (fun _ hf => hf.elim) (by simp; omega) (fun k => F1 4 k ∨ wq.heap.size ≤ k) (fun _ hk => .inl hk) (fun _ hf => hf.elim) (fun _ hk => .inr hk) ?_
              intro v1 w1 hO1 hG1 hat1
              obtain ⟨e1, e2, e3⟩ := grown_step HO hO1 hG1 hat1
              exact hK _ v1 w1 (fun k => v1.ownBlock = some k) rfl (e1.mono fun k hk => ⟨4, by simp, hk⟩) e2 (fun k hk => ⟨(e3 k hk).1.imp_left fun h => ⟨4, by simp, h⟩, (e3 k hk).2⟩)
            · intro u wq F1 hC hN hF hD K hK
              have HO : Ow tOut 43 wq (F1 10) (u 10) (l.take m ++ [xs[k]]) := hN 10 (by simp)
              have hrd := (HR3.out.dropO m hm).below (bthen' HS hC.below0)
              clear hN hF hD
              refine ow_concat_wp (ys := l.drop m) 33 (by rfl) Try.underlying33 _ 40 info_out rfl (by decide) (by decide) (by rfl) HO (by rfl) hrd (by simp; omega) (fun k => F1 10 k ∨ wq.heap.size ≤ k) (fun _ hk => .inl hk) (fun _ hk => .inr hk) ?_
              intro v1 w1 hO1 hG1 hat1
              obtain ⟨e1, e2, e3⟩ := grown_step HO hO1 hG1 hat1
              exact hK _ v1 w1 (fun k => v1.ownBlock = some k) rfl (e1.mono fun k hk => ⟨10, by simp, hk⟩) e2 (fun k hk => ⟨(e3 k hk).1.imp_left fun h => ⟨10, by simp, h⟩, (e3 k hk).2⟩)
            intro K hK u w1 F1 hC hD hF hN
            have n14 : Ow tOut 43 w1 (fun q => w.heap.size ≤ q) (u 14) (l.take m ++ [xs[k]] ++ l.drop m) := Ow.mono (fun k hk => by have := (hF 14 k (by rfl) hk).1; rcases this with h | h; exact h.elim; simp at h; omega) (hN 14 (by rfl))
            have HS1 := bthen' HS hC.below0
            clear HS hN hF hD hC F1 HR3
            have HS := HS1
            clear HS1
            have hb1 : Below w.heap.size w w1 := bthen hbV HS hbV.size
            simp only [putL_cons, putL_nil]
            go_simp
            generalize u 14 = v14 at *
            refine hK _ _ ?_
            clear hK K
            iterate 1 (first | (refine z_take (v := ?_) (by rfl) HS (by rfl) ?_ ?_; rotate_left; (focus (intro wS hS; obtain ⟨kc, kf⟩ := bcell hS; go_simp; (try (with_reducible rfl)); done)); (intro K hK; go_simp; refine hK _ ?_; clear hK K)) | (refine z_skip (by rfl) HS (by rfl) ?_; (intro K hK; go_simp; refine hK _ ?_; clear hK K)))
            simp only [wpZ]
            go_wp2_with fail
            go_roundw
            case rel => exact ⟨k + 1, by go_num, by omega, by rw [hin.out, HI.out]; exact n14, hb1⟩
            case measure => simp [intOf]; omega
    · have hkl : k = xs.length := by omega
      subst hkl
      have HF := hid (show (xs.take xs.length).foldl (insAll outLess) [] = outSort xs by rw [List.take_length]; rfl)
      rw [HF.out] at HO
      go_wp2_with fail
      go_ret
      exact ⟨_, rfl, HO, hb⟩
end Go.Proofs.Ytmnccekljombmaa
