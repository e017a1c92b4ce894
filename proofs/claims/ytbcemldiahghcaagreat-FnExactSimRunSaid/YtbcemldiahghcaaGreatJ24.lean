/- Texts joined: Spc6, Imp14, Spc7. -/
import Derived.Test.YtbcemldiahghcaaGreatJ12
import Derived.Test.YtbcemldiahghcaaGreatJ23
namespace Go.Proofs.YtbcemldiahghcaaGreat
set_option linter.unusedVariables false
set_option linter.unusedSimpArgs false
set_option maxRecDepth 100000
open Go.RowKit
def BlkAt (g : Nat) (o : Obj) (w : World) : Prop := w.heap[g]? = some o
def firsts : List EvD := [appFirst 0, appFirst 1, appFirst 2, appFirst 3]
theorem firsts_snoc {k : Nat} (h : k < 4) : firsts.take k ++ [appFirst (k : Int)] = firsts.take (k + 1) := by
  match k, h with
  | 0, _ => rfl
  | 1, _ => rfl
  | 2, _ => rfl
  | 3, _ => rfl
theorem firsts_len {k : Nat} (h : k ≤ 4) : (firsts.take k).length = k := by simp [firsts]; omega
set_option maxHeartbeats 4000000 in
theorem SimStart_c (w : World) : Calls Tryz.prog 34 #[] w fun q w' => ∃ vs vq vo, q = .returned (.agg #[vs, vq, vo]) ∧ SimOw w' (fun k => w.heap.size ≤ k) vs vq vo simStart ∧ Below w.heap.size w w' := by
  go_enter Tryz.func34, Tryz.ntmps34
  go_wp2_with fail
  go_loopw [2] (fun i wr => ∃ k : Nat, i = .int .i64 k ∧ k ≤ 4 ∧ ∃ vs vq, wr.heap[w.heap.size]? = some (.cells #[.slice none 0 0, .slice none 0 0, .slice none 0 0] 28 (0, 0)) ∧ wr.heap[w.heap.size + 1]? = some (.cells #[vs, vq, .slice none 0 0] 28 (0, 0)) ∧ Ow tSt 49 wr (fun q => w.heap.size ≤ q) vs (List.replicate k st0) ∧ Ow tEv 80 wr (fun q => w.heap.size ≤ q) vq (firsts.take k) ∧ Below w.heap.size w wr) (fun i _ => 4 - (intOf i).toNat)
  case atStart => exact ⟨0, rfl, by omega, _, _, (heap_old (by simp)).trans (heap_at rfl), heap_at (by simp), Ow.nil _ _ _ _, Ow.nil _ _ _ _, balloc (balloc (Below.refl _ _) _) _⟩
  case round =>
    obtain ⟨k, rfl, hk, vs, vq, hB0, hB1, hS, hQ, hb⟩ := hrel
    by_cases hlt : k < 4
    · have hgd : decide ((k : Int) < 4) = true := by simp; omega
      have c0 : wr.cell? ⟨w.heap.size + 1, 0, none⟩ = some vs := blk_cell hB1 0
      have f0 := blk_frozen hB1 0
      have hBl := blk_lt hB1
      have hlS : (List.replicate k st0).length = k := by simp
      go_upto_region 6 with (at_builtin; refine ow_append (d := tSt) rfl 24 rfl Tryz.underlying24 _ 24 info_st rfl (by decide) (by decide) rfl (hS.alloc _) st0 _ rfl (heap_at rfl) (fun _ => False) rfl (fun _ hf => hf.elim) (fun _ hf => hf.elim) (by simp; omega) (fun q => w.heap.size ≤ q) (fun _ hk => hk) (fun _ hf => hf.elim) (fun q hq => by simp at hq; omega) ?_; intro v1 w1 hO1 hG1 hat1; have hB1' : w1.heap[w.heap.size + 1]? = some (.cells #[vs, vq, .slice none 0 0] 28 (0, 0)) := (hG1.block _ (by simp; omega) (fun e => hS.type_ne hB1 (by decide) e.symm)).trans ((heap_old hBl).trans hB1); have c0' : w1.cell? ⟨w.heap.size + 1, 0, none⟩ = some vs := blk_cell hB1' 0; have f0' := blk_frozen hB1' 0; obtain ⟨A1, k1, rfl, hl1⟩ := hO1.shape)
      rw [show (List.replicate k st0 ++ [st0]).length = k + 1 by simp, ← List.replicate_succ'] at hO1
      have hne : ∀ q, vs.ownBlock = some q → ¬ vq.ownBlock = some q := fun q hq => hS.apart hQ (by decide) q hq
      have hB0' := (hG1.block w.heap.size (by simp; omega) (fun e => hS.type_ne hB0 (by decide) e.symm)).trans ((heap_old (by omega)).trans hB0)
      have hQ1 : Ow tEv 80 w1 (fun q => w.heap.size ≤ q) vq (firsts.take k) := ((hQ.alloc _).tight.keep (fun q hq hl => hG1.block q hl (fun e => hne q e.symm hq))).mono (fun q hq => (hQ.alloc (.cells #[.int .i64 0, .int .i64 0, .int .i64 0] 49)).inF hq)
      have hb1 : Below w.heap.size w w1 := (((Ch.of_below (S := fun _ => False) hb).alloc _).grown hG1 (fun q hq => .inr (hS.inF hq))).below0
      have hbW := hb1.setCell (p := ⟨w.heap.size + 1, 0, none⟩) (by simp) (.slice A1 (k + 1) k1)
      have hSW := hO1.setCell (i := 0) hB1' (by decide) (.slice A1 (k + 1) k1)
      have hQW := hQ1.setCell (i := 0) hB1' (by decide) (.slice A1 (k + 1) k1)
      have hBW := blk_set hB1' 0 (.slice A1 (k + 1) k1)
      have hB0W := (Below.heap_setCell w1 (⟨w.heap.size + 1, 0, none⟩ : Addr) (.slice A1 (k + 1) k1) w.heap.size (by simp)).trans hB0'
      rw [show (#[vs, vq, Value.slice none 0 0] : Array Value).setIfInBounds 0 (.slice A1 (k + 1) k1) = #[.slice A1 (k + 1) k1, vq, .slice none 0 0] by rfl] at hBW
      clear hG1 hat1 hS hQ hQ1 hB0 hB0' hB1 hB1' c0 f0 c0' f0' hb hb1 hO1 hBl hne hlS
      generalize w1.setCell ⟨w.heap.size + 1, 0, none⟩ (.slice A1 (k + 1) k1) = W at *
      generalize Value.slice A1 (k + 1) k1 = v1 at *
      clear hl1
      have hBl := blk_lt hBW
      have hsz := hbW.size
      have hlq := firsts_len hk
      refine region_z (BlkAt (w.heap.size + 1) (.cells #[v1, vq, .slice none 0 0] 28 (0, 0))) (.take 0 (.take 1 (.take 2 (.one 3 (.one 4 (.one 5 (.take 6 (.one 7 (.nil))))))))) (by kernel_rfl) (by kernel_rfl) (fun _ _ d _ _ h => by cases d <;> exact h) ?_
      have HS := (show BlkAt (w.heap.size + 1) (.cells #[v1, vq, .slice none 0 0] 28 (0, 0)) W.drew from hBW)
      iterate 3 (first | (refine z_take (v := ?_) (by rfl) HS (by rfl) ?_ ?_; rotate_left; (focus (intro wS hS; obtain ⟨kc, kf⟩ := (And.intro (show wS.cell? ⟨w.heap.size + 1, 1, none⟩ = some vq from blk_cell hS 1) (blk_frozen hS 1)); go_simp; (try (with_reducible rfl)); done)); (intro K hK; go_simp; refine hK _ ?_; clear hK K)) | (refine z_skip (by rfl) HS (by rfl) ?_; (intro K hK; go_simp; refine hK _ ?_; clear hK K)))
      refine z_do (by rfl) (by rfl) (fun K hK => ?_)
      go_simp
      refine (AppFirst_c _ _).mono ?_
      rintro e w2 ⟨rfl, hb2⟩
      have HS1 : BlkAt (w.heap.size + 1) (.cells #[v1, vq, .slice none 0 0] 28 (0, 0)) w2 := below_heap hb2 (blk_lt HS) HS
      refine hK _ _ (Or.inr HS1) ?_
      clear hK K
      have hQ2 := (Ow.move (w' := W.drew) (fun _ _ => rfl) hQW).below hb2
      have hS2 := (Ow.move (w' := W.drew) (fun _ _ => rfl) hSW).below hb2
      have hb2' : Below w.heap.size w w2 := bthen hbW (bthen' ((Below.refl W.heap.size W).drew) hb2) hsz
      have hB02 := below_heap hb2 (blk_lt hB0W) hB0W
      have hz2 := hb2'.size
      clear HS hb2 hQW hSW hB0W hbW
      have HS := HS1
      clear HS1
      simp only [evAgg]
      refine z_do (by rfl) (by rfl) (fun K hK => ?_)
      go_simp
      have HS1 : BlkAt (w.heap.size + 1) (.cells #[v1, vq, .slice none 0 0] 28 (0, 0)) (w2.alloc (.cells (EvD.cells (appFirst k)).toArray 80)) := (heap_old (blk_lt HS)).trans HS
      refine hK _ _ (Or.inr HS1) ?_
      clear hK K
      refine z_do (by rfl) (by rfl) (fun K hK => ?_)
      refine ow_append_wp (d := tEv) 25 (by rfl) Tryz.underlying25 _ 56 info_ev rfl (by decide) (by decide) (by rfl) (hQ2.alloc _) (appFirst k) _ (by rfl) (heap_at rfl) (fun _ => False) rfl (fun _ hf => hf.elim) (fun _ hf => hf.elim) (by omega) (fun q => w.heap.size ≤ q) (fun _ hk => hk) (fun _ hf => hf.elim) (fun q hq => by simp at hq; omega) ?_
      intro v3 w3 hO3 hG3 hat3
      rw [firsts_snoc hlt] at hO3
      have HS2 : BlkAt (w.heap.size + 1) (.cells #[v1, vq, .slice none 0 0] 28 (0, 0)) w3 := (hG3.block _ (blk_lt HS1) (fun e => (hQ2.alloc _).type_ne HS1 (by decide) e.symm)).trans HS1
      have hS3 : Ow tSt 49 w3 (fun q => w.heap.size ≤ q) v1 (List.replicate (k + 1) st0) := ((hS2.alloc _).tight.keep (fun q hq hl => hG3.block q hl (fun e => hS2.apart hQ2 (by decide) q hq e.symm))).mono (fun q hq => hS2.inF hq)
      have hB03 := (hG3.block w.heap.size (by have := blk_lt hB02; simp; omega) (fun e => hQ2.type_ne hB02 (by decide) e.symm)).trans ((heap_old (blk_lt hB02)).trans hB02)
      have hb3 : Below w.heap.size w w3 := (((Ch.of_below (S := fun _ => False) hb2').alloc _).grown hG3 (fun q hq => .inr (hQ2.inF hq))).below0
      obtain ⟨A3, k3, rfl, hl3⟩ := hO3.shape
      rw [firsts_len (by omega)] at *
      refine hK _ _ (Or.inr HS2) ?_
      clear hK K hG3 hat3 hQ2 hS2 hB02 hb2' HS HS1
      have HS := HS2
      go_simp
      iterate 1 (first | (refine z_take (v := ?_) (by rfl) HS (by rfl) ?_ ?_; rotate_left; (focus (intro wS hS; obtain ⟨kc, kf⟩ := (And.intro (show wS.cell? ⟨w.heap.size + 1, 1, none⟩ = some vq from blk_cell hS 1) (blk_frozen hS 1)); go_simp; (try (with_reducible rfl)); done)); (intro K hK; go_simp; refine hK _ ?_; clear hK K)) | (refine z_skip (by rfl) HS (by rfl) ?_; (intro K hK; go_simp; refine hK _ ?_; clear hK K)))
      have e1 : w3.cell? ⟨w.heap.size + 1, 1, none⟩ = some vq := blk_cell HS2 1
      have e2 := blk_frozen HS2 1
      refine z_do (by rfl) (by rfl) (fun K hK => ?_)
      go_simp
      refine hK _ _ (Or.inl (by kernel_rfl)) ?_
      clear hK K e1 e2
      have hbX := hb3.setCell (p := ⟨w.heap.size + 1, 1, none⟩) (by simp) (.slice A3 (k + 1) k3)
      have hSX := hS3.setCell (i := 1) HS2 (by decide) (.slice A3 (k + 1) k3)
      have hQX := hO3.setCell (i := 1) HS2 (by decide) (.slice A3 (k + 1) k3)
      have hBX := blk_set HS2 1 (.slice A3 (k + 1) k3)
      have hB0X := (Below.heap_setCell w3 (⟨w.heap.size + 1, 1, none⟩ : Addr) (.slice A3 (k + 1) k3) w.heap.size (by simp)).trans hB03
      rw [show (#[v1, vq, Value.slice none 0 0] : Array Value).setIfInBounds 1 (.slice A3 (k + 1) k3) = #[v1, .slice A3 (k + 1) k3, .slice none 0 0] by rfl] at hBX
      clear HS HS2 hB03 hS3 hO3 hb3
      generalize w3.setCell ⟨w.heap.size + 1, 1, none⟩ (.slice A3 (k + 1) k3) = X at *
      simp only [wpZ]
      go_wp2_with fail
      go_roundw
      case rel => exact ⟨k + 1, by go_num, by omega, _, _, hB0X, hBX, hSX, hQX, hbX⟩
      case measure => simp [intOf]; omega
    · obtain rfl : k = 4 := by omega
      have c0 : wr.cell? ⟨w.heap.size + 1, 0, none⟩ = some vs := blk_cell hB1 0
      have c1 : wr.cell? ⟨w.heap.size + 1, 1, none⟩ = some vq := blk_cell hB1 1
      have c2 : wr.cell? ⟨w.heap.size + 1, 2, none⟩ = some (.slice none 0 0) := blk_cell hB1 2
      have d0 : wr.cell? ⟨w.heap.size, 0, none⟩ = some (.slice none 0 0) := blk_cell hB0 0
      have d1 : wr.cell? ⟨w.heap.size, 1, none⟩ = some (.slice none 0 0) := blk_cell hB0 1
      have d2 : wr.cell? ⟨w.heap.size, 2, none⟩ = some (.slice none 0 0) := blk_cell hB0 2
      have f0 := blk_frozen hB0 0
      have f1 := blk_frozen hB0 1
      have f2 := blk_frozen hB0 2
      obtain ⟨A1, k1, hv1, m1⟩ := hS.shape
      obtain ⟨A2, k2, hv2, m2⟩ := hQ.shape
      rw [List.length_replicate] at hv1
      rw [firsts_len (Nat.le_refl _)] at hv2
      subst hv1 hv2
      have n : SimOw wr (fun q => w.heap.size ≤ q) (.slice A1 4 k1) (.slice A2 4 k2) (.slice none 0 0) simStart := ⟨hS, hQ, Ow.nil _ _ _ _⟩
      go_wp2_with fail
      obtain ⟨BW, nW, hbX⟩ := sim_store (w := w) (g := w.heap.size) hB0 n (Nat.le_refl _) hb (.slice A1 4 k1) (.slice A2 4 k2) (.slice none 0 0) rfl rfl rfl
      generalize ((wr.setCell ⟨w.heap.size, 0, none⟩ (.slice A1 4 k1)).setCell ⟨w.heap.size, 1, none⟩ (.slice A2 4 k2)).setCell ⟨w.heap.size, 2, none⟩ (.slice none 0 0) = W3 at *
      have r0 : W3.cell? ⟨w.heap.size, 0, none⟩ = some (.slice A1 4 k1) := blk_cell BW 0
      have r1 : W3.cell? ⟨w.heap.size, 1, none⟩ = some (.slice A2 4 k2) := blk_cell BW 1
      have r2 : W3.cell? ⟨w.heap.size, 2, none⟩ = some (.slice none 0 0) := blk_cell BW 2
      refine bodyPost_ret (v := .agg #[.slice A1 4 k1, .slice A2 4 k2, .slice none 0 0]) (by simp only [results, Tryz.results34]; go_simp) rfl ⟨_, _, _, rfl, nW, hbX⟩
end Go.Proofs.YtbcemldiahghcaaGreat

namespace Go.Proofs.YtbcemldiahghcaaGreat
set_option linter.unusedVariables false
set_option linter.unusedSimpArgs false
set_option maxRecDepth 100000
open Go.RowKit
theorem firsts_sort : evSort firsts = firsts := by decide
set_option maxHeartbeats 4000000 in
theorem firstEvents_c (w : World) : Calls Tryz.prog 81 #[] w fun q w' => ∃ u, q = .returned u ∧ Ow tEv 80 w' (fun k => w.heap.size ≤ k) u firsts ∧ Below w.heap.size w w' := by
  go_enter Tryz.func81, Tryz.ntmps81
  go_wp2_with fail
  go_loopw [1, 3] (fun u i wr => ∃ k : Nat, i = .int .i64 k ∧ k ≤ 4 ∧ Ow tEv 80 wr (fun k => w.heap.size ≤ k) u (firsts.take k) ∧ Below w.heap.size w wr) (fun _ i _ => 4 - (intOf i).toNat)
  case atStart => exact ⟨0, rfl, by omega, Ow.nil _ _ _ _, Below.refl _ _⟩
  case round =>
    obtain ⟨k, rfl, hk, hO, hb⟩ := hrel
    obtain ⟨A, c, rfl, m0⟩ := hO.shape
    have hkl := firsts_len hk
    rw [hkl] at hO ⊢
    by_cases hlt : k < 4
    · have p1 : (k : Int) < 4 := by omega
      have HT := hid (firsts_snoc hlt)
      clear hkl
      go_wp2_with fail
      refine (AppFirstI_c _ _).mono ?_
      rintro e w5 ⟨rfl, hb5⟩
      generalize appFirst (k : Int) = y at *
      have hO5 := hO.below hb5
      have hb6 := bthen hb hb5 hb.size
      have hs6 := hb6.size
      clear hO hb hb5
      unfold evAgg
      apply_assumption
      go_wp2_with (at_builtin; refine ow_append (d := tEv) rfl 25 rfl Tryz.underlying25 _ 56 info_ev rfl (by decide) (by decide) rfl (hO5.alloc _) y _ rfl (heap_at rfl) (fun _ => False) rfl (fun _ hf => hf.elim) (fun _ hf => hf.elim) (by have := firsts_len hk; omega) (fun k => w.heap.size ≤ k) (fun _ hk => hk) (fun _ hf => hf.elim) (fun q hq => by simp at hq; omega) ?_; intro v1 w9 hO9 hG9 hat9)
      have hCx : Ch (fun q => w.heap.size ≤ q) w5 w9 := ((Ch.refl (fun q => w.heap.size ≤ q) w5).alloc _).grown hG9 (fun q hq => .inl (hO5.inF hq))
      have hb9 := ((Ch.of_below (S := fun q => w.heap.size ≤ q) hb6).trans hCx).below (fun q hq => hq) (Nat.le_refl _)
      rw [HT.out] at hO9
      go_roundw
      case rel => exact ⟨k + 1, by go_num, by omega, hO9, hb9⟩
      case measure => simp [intOf]; omega
    · obtain rfl : k = 4 := by omega
      have hO : Ow tEv 80 wr (fun k => w.heap.size ≤ k) (.slice A firsts.length c) firsts := hO
      clear hkl
      go_wp2_with fail
      refine (EventSortI_c _ firsts _ _ hO.rd (by decide) (fun x hx => EvWf.of_ok (by revert x; decide))).mono ?_
      rintro e w5 ⟨u, rfl, hO5, hb5⟩
      rw [firsts_sort] at hO5
      have hs := hb.size
      apply_assumption
      go_wp2_with fail
      go_ret
      exact ⟨u, rfl, hO5.mono (fun k hk => by omega), bthen hb hb5 hb.size⟩
def startN : List (Nat × Held) := [(0, rowH tSt 49 simStart.states), (1, rowH tEv 80 simStart.queue)]
set_option maxHeartbeats 4000000 in
theorem SimStartI_c (w : World) : Calls Tryz.prog 37 #[] w fun q w' => ∃ vs vq vo, q = .returned (.agg #[vs, vq, vo]) ∧ SimOw w' (fun k => w.heap.size ≤ k) vs vq vo simStart ∧ Below w.heap.size w w' := by
  have hmk : ∀ w : World, (Instr.makeSlice 24 (.int .i64 4) (.int .i64 4)).run Tryz.prog w = .ok (.slice (some ⟨w.heap.size, 0, none⟩) 4 4) (w.alloc (.cells #[.int .i64 0, .int .i64 0, .int .i64 0, .int .i64 0, .int .i64 0, .int .i64 0, .int .i64 0, .int .i64 0, .int .i64 0, .int .i64 0, .int .i64 0, .int .i64 0] 49)) := fun _ => by kernel_rfl
  go_enter Tryz.func37, Tryz.ntmps37
  go_wp2_with fail
  have hW := balloc (Below.refl w.heap.size w) (.cells #[.slice none 0 0, .slice none 0 0, .slice none 0 0] 28)
  have B0 : (w.alloc (.cells #[.slice none 0 0, .slice none 0 0, .slice none 0 0] 28)).heap[w.heap.size]? = some (.cells #[.slice none 0 0, .slice none 0 0, .slice none 0 0] 28 (0, 0)) := heap_at rfl
  generalize w.alloc (.cells #[.slice none 0 0, .slice none 0 0, .slice none 0 0] 28) = W at *
  have hWs := hW.size
  have g0 := blk_lt B0
  refine region_sg [.par [(0, []), (1, [])] []] [2, 3] (by kernel_rfl) (by kernel_rfl) (fun _ _ d _ _ h => by cases d <;> exact h) ?_
  refine sg_par [(0, some 1), (1, some 2)] (by rfl) (fun _ => False) (NN startN) (fun _ _ => False) (NN_move _ ⟨rowH_moves _ _ _, rowH_moves _ _ _, trivial⟩) (fun w' hc => Agree.of_ch hc (fun _ hf => hf.elim)) (by simp) (by simp) (by simp) (parS_cons (stepS_mk (by rfl) (by rfl) ?_) (parS_cons (stepS_mk (by rfl) (by rfl) ?_) parS_nil)) ?_
  · intro u wq F1 hC hN hF hD K hK
    clear hN hF hD
    simp only [putL_cons, putL_nil]
    go_simp
    refine hK _ (.slice (some ⟨wq.heap.size, 0, none⟩) 4 4) _ (fun k => k = wq.heap.size) ?_ ((Ch.refl _ _).alloc _) (Ow.of_flat (base := 0) ⟨by rfl, .inr ⟨_, 4, _, rfl, Nat.zero_le _, heap_at rfl, by decide, by unfold maxLen; decide, by rfl, by rfl⟩⟩ (fun g hg => by simp [Value.ownBlock] at hg; exact hg.symm)) (fun k hk => by subst hk; exact ⟨.inr (Nat.le_refl _), by simp⟩)
    rfl
  · intro u wq F1 hC hN hF hD K hK
    clear hN hF hD
    simp only [putL_cons, putL_nil]
    go_simp
    refine (firstEvents_c _).mono ?_
    rintro e w5 ⟨u5, rfl, h5, hb5⟩
    exact hK _ u5 _ (fun k => wq.heap.size ≤ k ∧ k < w5.heap.size) rfl (Ch.of_below hb5) h5.bound (fun k hk => ⟨.inr hk.1, hk.2⟩)
  intro K hK u w1 F1 hC hD hF hN
  have n0 : Ow tSt 49 w1 (F1 0) (u 0) simStart.states := hN 0 (by rfl)
  have n1 : Ow tEv 80 w1 (F1 1) (u 1) simStart.queue := hN 1 (by rfl)
  have m0 := n0.mono (F' := fun k => w.heap.size ≤ k) fun k hk => by have := (hF 0 k (by rfl) hk).1; rcases this with h | h; exact h.elim; simp at h; omega
  have m1 := n1.mono (F' := fun k => w.heap.size ≤ k) fun k hk => by have := (hF 1 k (by rfl) hk).1; rcases this with h | h; exact h.elim; simp at h; omega
  have hb1 : Below W.heap.size W w1 := ⟨hC.below0.os, hC.below0.tape, hC.below0.output, hC.below0.size, hC.below0.block⟩
  have hA : Agree W.drew w1 := Agree.of_ch hC (fun _ hf => hf.elim)
  have B1 := below_heap hb1 g0 B0
  clear n0 n1 hN hF hD hC F1 B0
  obtain ⟨X1, x1, y1, z1⟩ := m0.shape
  obtain ⟨X2, x2, y2, z2⟩ := m1.shape
  simp only [putL_cons, putL_nil]
  go_simp
  generalize u 0 = v0 at *
  generalize u 1 = v1 at *
  subst y1 y2
  refine hK _ _ hA ?_
  clear hK K
  refine sg_fin ?_
  simp only [pickO, List.getElem?_toArray, List.getElem?_cons_zero, List.getElem?_cons_succ]
  have c0 : w1.cell? ⟨w.heap.size, 0, none⟩ = some (.slice none 0 0) := blk_cell B1 0
  have c1 : w1.cell? ⟨w.heap.size, 1, none⟩ = some (.slice none 0 0) := blk_cell B1 1
  have c2 : w1.cell? ⟨w.heap.size, 2, none⟩ = some (.slice none 0 0) := blk_cell B1 2
  have f0 := blk_frozen B1 0
  have f1 := blk_frozen B1 1
  have f2 := blk_frozen B1 2
  go_wp2_with fail
  obtain ⟨BW, nW, hb⟩ := sim_store (g := w.heap.size) (s := simStart) B1 ⟨m0, m1, Ow.nil _ _ _ _⟩ (Nat.le_refl _) (hW.trans (Below.mono hb1 hWs)) (.slice X1 simStart.states.length x1) (.slice X2 simStart.queue.length x2) (.slice none 0 0) rfl rfl rfl
  generalize ((w1.setCell ⟨w.heap.size, 0, none⟩ (.slice X1 simStart.states.length x1)).setCell ⟨w.heap.size, 1, none⟩ (.slice X2 simStart.queue.length x2)).setCell ⟨w.heap.size, 2, none⟩ (.slice none 0 0) = W3 at *
  have r0 : W3.cell? ⟨w.heap.size, 0, none⟩ = some (.slice X1 simStart.states.length x1) := blk_cell BW 0
  have r1 : W3.cell? ⟨w.heap.size, 1, none⟩ = some (.slice X2 simStart.queue.length x2) := blk_cell BW 1
  have r2 : W3.cell? ⟨w.heap.size, 2, none⟩ = some (.slice none 0 0) := blk_cell BW 2
  refine bodyPost_ret (v := .agg #[.slice X1 simStart.states.length x1, .slice X2 simStart.queue.length x2, .slice none 0 0]) (by simp only [results, Tryz.results37]; go_simp) rfl ⟨_, _, _, rfl, nW, hb⟩
end Go.Proofs.YtbcemldiahghcaaGreat

namespace Go.Proofs.YtbcemldiahghcaaGreat
set_option linter.unusedVariables false
set_option linter.unusedSimpArgs false
set_option maxRecDepth 100000
open Go.RowKit
def copyN (s : SimD) : List (Nat × Held) := [(0, rowH tSt 49 []), (4, rowH tEv 80 []), (8, rowH tOut 128 []), (3, rowH tSt 49 s.states), (7, rowH tEv 80 s.queue), (11, rowH tOut 128 s.outs)]
set_option maxHeartbeats 4000000 in
theorem l2Copy_c (vs vq vo : Value) (s : SimD) (F : Nat → Prop) (w : World) (h : SimRd w F vs vq vo s) (l1 : s.states.length ≤ 1000) (l2 : s.queue.length ≤ 1000) (l3 : s.outs.length ≤ 1000) :
    Calls Tryz.prog 72 #[.agg #[vs, vq, vo]] w fun q w' => ∃ us uq uo, q = .returned (.agg #[us, uq, uo]) ∧ SimOw w' (fun k => w.heap.size ≤ k) us uq uo s ∧ Below w.heap.size w w' := by
  obtain ⟨A1, c1, rfl, m1⟩ := h.st.shape
  obtain ⟨A2, c2, rfl, m2⟩ := h.qu.shape
  obtain ⟨A3, c3, rfl, m3⟩ := h.ou.shape
  go_enter Tryz.func72, Tryz.ntmps72
  go_wp2_with fail
  have hW := balloc (balloc (Below.refl w.heap.size w) (.cells #[.slice A1 s.states.length c1, .slice A2 s.queue.length c2, .slice A3 s.outs.length c3] 28)) (.cells #[.slice none 0 0, .slice none 0 0, .slice none 0 0] 28)
  have B0 : ((w.alloc (.cells #[.slice A1 s.states.length c1, .slice A2 s.queue.length c2, .slice A3 s.outs.length c3] 28)).alloc (.cells #[.slice none 0 0, .slice none 0 0, .slice none 0 0] 28)).heap[w.heap.size]? = some (.cells #[.slice A1 s.states.length c1, .slice A2 s.queue.length c2, .slice A3 s.outs.length c3] 28 (0, 0)) := (heap_old (by simp)).trans (heap_at rfl)
  have B1 : ((w.alloc (.cells #[.slice A1 s.states.length c1, .slice A2 s.queue.length c2, .slice A3 s.outs.length c3] 28)).alloc (.cells #[.slice none 0 0, .slice none 0 0, .slice none 0 0] 28)).heap[w.heap.size + 1]? = some (.cells #[.slice none 0 0, .slice none 0 0, .slice none 0 0] 28 (0, 0)) := heap_at (by simp)
  generalize (w.alloc (.cells #[.slice A1 s.states.length c1, .slice A2 s.queue.length c2, .slice A3 s.outs.length c3] 28)).alloc (.cells #[.slice none 0 0, .slice none 0 0, .slice none 0 0] 28) = W at *
  have d0 : W.cell? ⟨w.heap.size, 0, none⟩ = some (.slice A1 s.states.length c1) := blk_cell B0 0
  have d1 : W.cell? ⟨w.heap.size, 1, none⟩ = some (.slice A2 s.queue.length c2) := blk_cell B0 1
  have d2 : W.cell? ⟨w.heap.size, 2, none⟩ = some (.slice A3 s.outs.length c3) := blk_cell B0 2
  have g0 := blk_lt B0
  have g1 := blk_lt B1
  have hR := hid (h.below hW)
  refine region_z (fun w' => Below W.heap.size W w') (.take 1 (.take 2 (.take 5 (.take 6 (.take 9 (.take 10 (.par [(0, []), (4, []), (8, []), (3, [0]), (7, [4]), (11, [8])] [] (.take 12 (.one 13 (.nil)))))))))) (by kernel_rfl) (by kernel_rfl) (fun _ _ d _ _ h => by cases d <;> exact h) ?_
  have HS := (Below.refl W.heap.size W).drew
  iterate 6 (first | (refine z_take (v := ?_) (by rfl) HS (by rfl) ?_ ?_; rotate_left; (focus (intro wS hS; obtain ⟨kc, kf⟩ := bcell hS; go_simp; (try (with_reducible rfl)); done)); (intro K hK; go_simp; refine hK _ ?_; clear hK K)) | (refine z_skip (by rfl) HS (by rfl) ?_; (intro K hK; go_simp; refine hK _ ?_; clear hK K)))
  refine z_par [(0, some 3), (4, some 7), (8, some 11), (3, some 6), (7, some 10), (11, some 14)] (by rfl) (fun _ => False) (NN (copyN s)) (fun _ _ => False) (NN_move _ ⟨rowH_moves _ _ _, rowH_moves _ _ _, rowH_moves _ _ _, rowH_moves _ _ _, rowH_moves _ _ _, rowH_moves _ _ _, trivial⟩) (fun w' hc => bthen' HS hc.below0) (by simp) (by simp) (by simp) (parS_cons (stepS_mk (by rfl) (by rfl) ?_) (parS_cons (stepS_mk (by rfl) (by rfl) ?_) (parS_cons (stepS_mk (by rfl) (by rfl) ?_) (parS_cons (stepS_mk (by rfl) (by rfl) ?_) (parS_cons (stepS_mk (by rfl) (by rfl) ?_) (parS_cons (stepS_mk (by rfl) (by rfl) ?_) parS_nil)))))) ?_
  · intro u wq F1 hC hN hF hD K hK
    clear hN hF hD
    simp only [putL_cons, putL_nil]
    go_simp
    refine hK _ (.slice (some ⟨wq.heap.size, 0, none⟩) 0 0) _ (fun k => k = wq.heap.size) ?_ ((Ch.refl _ _).alloc _) (Ow.empty tSt (heap_at rfl) rfl) (fun k hk => by subst hk; exact ⟨.inr (Nat.le_refl _), by simp⟩)
    rfl
  · intro u wq F1 hC hN hF hD K hK
    clear hN hF hD
    simp only [putL_cons, putL_nil]
    go_simp
    refine hK _ (.slice (some ⟨wq.heap.size, 0, none⟩) 0 0) _ (fun k => k = wq.heap.size) ?_ ((Ch.refl _ _).alloc _) (Ow.empty tEv (heap_at rfl) rfl) (fun k hk => by subst hk; exact ⟨.inr (Nat.le_refl _), by simp⟩)
    rfl
  · intro u wq F1 hC hN hF hD K hK
    clear hN hF hD
    simp only [putL_cons, putL_nil]
    go_simp
    refine hK _ (.slice (some ⟨wq.heap.size, 0, none⟩) 0 0) _ (fun k => k = wq.heap.size) ?_ ((Ch.refl _ _).alloc _) (Ow.empty tOut (heap_at rfl) rfl) (fun k hk => by subst hk; exact ⟨.inr (Nat.le_refl _), by simp⟩)
    rfl
  · intro u wq F1 hC hN hF hD K hK
    have HO : Ow tSt 49 wq (F1 0) (u 0) [] := hN 0 (by simp)
    have hrd : Rd tSt wq F _ s.states := ((hR.out.st).move (w' := W.drew) (fun _ _ => rfl)).ch hC (fun _ _ hf => hf)
    clear hN hF hD
    refine ow_concat_wp 24 (by rfl) Tryz.underlying24 _ 24 info_st rfl (by decide) (by decide) (by rfl) HO (by rfl) hrd (by simp only [List.length_nil]; omega) (fun k => F1 0 k ∨ wq.heap.size ≤ k) (fun _ hk => .inl hk) (fun _ hk => .inr hk) ?_
    intro v1 w1 hO1 hG1 hat1
    obtain ⟨e1, e2, e3⟩ := grown_step HO hO1 hG1 hat1
    exact hK _ v1 w1 (fun k => v1.ownBlock = some k) rfl (e1.mono fun k hk => ⟨0, by simp, hk⟩) e2 (fun k hk => ⟨(e3 k hk).1.imp_left fun h => ⟨0, by simp, h⟩, (e3 k hk).2⟩)
  · intro u wq F1 hC hN hF hD K hK
    have HO : Ow tEv 80 wq (F1 4) (u 4) [] := hN 4 (by simp)
    have hrd : Rd tEv wq F _ s.queue := ((hR.out.qu).move (w' := W.drew) (fun _ _ => rfl)).ch hC (fun _ _ hf => hf)
    clear hN hF hD
    refine ow_concat_wp 25 (by rfl) Tryz.underlying25 _ 56 info_ev rfl (by decide) (by decide) (by rfl) HO (by rfl) hrd (by simp only [List.length_nil]; omega) (fun k => F1 4 k ∨ wq.heap.size ≤ k) (fun _ hk => .inl hk) (fun _ hk => .inr hk) ?_
    intro v1 w1 hO1 hG1 hat1
    obtain ⟨e1, e2, e3⟩ := grown_step HO hO1 hG1 hat1
    exact hK _ v1 w1 (fun k => v1.ownBlock = some k) rfl (e1.mono fun k hk => ⟨4, by simp, hk⟩) e2 (fun k hk => ⟨(e3 k hk).1.imp_left fun h => ⟨4, by simp, h⟩, (e3 k hk).2⟩)
  · intro u wq F1 hC hN hF hD K hK
    have HO : Ow tOut 128 wq (F1 8) (u 8) [] := hN 8 (by simp)
    have hrd : Rd tOut wq F _ s.outs := ((hR.out.ou).move (w' := W.drew) (fun _ _ => rfl)).ch hC (fun _ _ hf => hf)
    clear hN hF hD
    refine ow_concat_wp 26 (by rfl) Tryz.underlying26 _ 40 info_out rfl (by decide) (by decide) (by rfl) HO (by rfl) hrd (by simp only [List.length_nil]; omega) (fun k => F1 8 k ∨ wq.heap.size ≤ k) (fun _ hk => .inl hk) (fun _ hk => .inr hk) ?_
    intro v1 w1 hO1 hG1 hat1
    obtain ⟨e1, e2, e3⟩ := grown_step HO hO1 hG1 hat1
    exact hK _ v1 w1 (fun k => v1.ownBlock = some k) rfl (e1.mono fun k hk => ⟨8, by simp, hk⟩) e2 (fun k hk => ⟨(e3 k hk).1.imp_left fun h => ⟨8, by simp, h⟩, (e3 k hk).2⟩)
  intro K hK u w1 F1 hC hD hF hN
  have n3 : Ow tSt 49 w1 (F1 3) (u 3) s.states := hN 3 (by rfl)
  have n7 : Ow tEv 80 w1 (F1 7) (u 7) s.queue := hN 7 (by rfl)
  have n11 : Ow tOut 128 w1 (F1 11) (u 11) s.outs := hN 11 (by rfl)
  have n := SimOw.mk (F := fun k => w.heap.size ≤ k) (n3.mono fun k hk => by have := (hF 3 k (by rfl) hk).1; rcases this with h | h; exact h.elim; have := hW.size; simp at h; omega) (n7.mono fun k hk => by have := (hF 7 k (by rfl) hk).1; rcases this with h | h; exact h.elim; have := hW.size; simp at h; omega) (n11.mono fun k hk => by have := (hF 11 k (by rfl) hk).1; rcases this with h | h; exact h.elim; have := hW.size; simp at h; omega)
  have HS1 := bthen' HS hC.below0
  have B1w := below_heap HS1 g1 B1
  clear HS n3 n7 n11 hN hF hD hC F1 hR B0 B1 d0 d1 d2
  have HS := HS1
  clear HS1
  obtain ⟨X1, x1, y1, z1⟩ := n.st.shape
  obtain ⟨X2, x2, y2, z2⟩ := n.qu.shape
  obtain ⟨X3, x3, y3, z3⟩ := n.ou.shape
  simp only [putL_cons, putL_nil]
  go_simp
  generalize u 3 = v3 at *
  generalize u 7 = v7 at *
  generalize u 11 = v11 at *
  subst y1 y2 y3
  refine hK _ _ ?_
  clear hK K
  iterate 1 (first | (refine z_take (v := ?_) (by rfl) HS (by rfl) ?_ ?_; rotate_left; (focus (intro wS hS; obtain ⟨kc, kf⟩ := bcell hS; go_simp; (try (with_reducible rfl)); done)); (intro K hK; go_simp; refine hK _ ?_; clear hK K)) | (refine z_skip (by rfl) HS (by rfl) ?_; (intro K hK; go_simp; refine hK _ ?_; clear hK K)))
  have c0 : w1.cell? ⟨w.heap.size + 1, 0, none⟩ = some (.slice none 0 0) := blk_cell B1w 0
  have c1 : w1.cell? ⟨w.heap.size + 1, 1, none⟩ = some (.slice none 0 0) := blk_cell B1w 1
  have c2 : w1.cell? ⟨w.heap.size + 1, 2, none⟩ = some (.slice none 0 0) := blk_cell B1w 2
  have f0 := blk_frozen B1w 0
  have f1 := blk_frozen B1w 1
  have f2 := blk_frozen B1w 2
  refine z_do (by rfl) (by rfl) (fun K hK => ?_)
  go_simp
  refine hK _ _ (Or.inl (by kernel_rfl)) ?_
  clear hK K c0 c1 c2 f0 f1 f2
  obtain ⟨BW, nW, hb⟩ := sim_store (g := w.heap.size + 1) B1w n (by omega) (hW.trans (Below.mono HS hW.size)) (.slice X1 s.states.length x1) (.slice X2 s.queue.length x2) (.slice X3 s.outs.length x3) rfl rfl rfl
  generalize ((w1.setCell ⟨w.heap.size + 1, 0, none⟩ (.slice X1 s.states.length x1)).setCell ⟨w.heap.size + 1, 1, none⟩ (.slice X2 s.queue.length x2)).setCell ⟨w.heap.size + 1, 2, none⟩ (.slice X3 s.outs.length x3) = W3 at *
  simp only [wpZ]
  go_wp2_with fail
  have r0 : W3.cell? ⟨w.heap.size + 1, 0, none⟩ = some (.slice X1 s.states.length x1) := blk_cell BW 0
  have r1 : W3.cell? ⟨w.heap.size + 1, 1, none⟩ = some (.slice X2 s.queue.length x2) := blk_cell BW 1
  have r2 : W3.cell? ⟨w.heap.size + 1, 2, none⟩ = some (.slice X3 s.outs.length x3) := blk_cell BW 2
  refine bodyPost_ret (v := .agg #[.slice X1 s.states.length x1, .slice X2 s.queue.length x2, .slice X3 s.outs.length x3]) (by simp [results, Tryz.results72, go_sem, r0, r1, r2]) rfl ⟨_, _, _, rfl, nW, hb⟩

end Go.Proofs.YtbcemldiahghcaaGreat
