/- Texts joined: Imp3, Imp4, Imp5. -/
import Derived.Test.YtbcemldiahghcaaGreatJ19
import Derived.Test.YtbcemldiahghcaaGreatJ14
import Derived.Test.YtbcemldiahghcaaGreatJ04
namespace Go.Proofs.YtbcemldiahghcaaGreat
set_option linter.unusedVariables false
set_option linter.unusedSimpArgs false
set_option maxRecDepth 100000
open Go.RowKit
set_option maxHeartbeats 4000000 in
theorem copySim_c (vs vq vo : Value) (s : SimD) (F : Nat → Prop) (w : World) (h : SimRd w F vs vq vo s) (l1 : s.states.length ≤ 1000) (l2 : s.queue.length ≤ 1000) (l3 : s.outs.length ≤ 1000) :
    Calls Tryz.prog 76 #[.agg #[vs, vq, vo]] w fun q w' => ∃ us uq uo, q = .returned (.agg #[us, uq, uo]) ∧ SimOw w' (fun k => w.heap.size ≤ k) us uq uo s ∧ Below w.heap.size w w' := by
  obtain ⟨A1, c1, rfl, m1⟩ := h.st.shape
  obtain ⟨A2, c2, rfl, m2⟩ := h.qu.shape
  obtain ⟨A3, c3, rfl, m3⟩ := h.ou.shape
  go_enter Tryz.func76, Tryz.ntmps76
  go_wp2_with fail
  have hW := balloc (balloc (Below.refl w.heap.size w) (.cells #[.slice A1 s.states.length c1, .slice A2 s.queue.length c2, .slice A3 s.outs.length c3] 28)) (.cells #[.slice none 0 0, .slice none 0 0, .slice none 0 0] 28)
  have B0 : ((w.alloc (.cells #[.slice A1 s.states.length c1, .slice A2 s.queue.length c2, .slice A3 s.outs.length c3] 28)).alloc (.cells #[.slice none 0 0, .slice none 0 0, .slice none 0 0] 28)).heap[w.heap.size]? = some (.cells #[.slice A1 s.states.length c1, .slice A2 s.queue.length c2, .slice A3 s.outs.length c3] 28 (0, 0)) := (heap_old (by simp)).trans (heap_at rfl)
  have B1 : ((w.alloc (.cells #[.slice A1 s.states.length c1, .slice A2 s.queue.length c2, .slice A3 s.outs.length c3] 28)).alloc (.cells #[.slice none 0 0, .slice none 0 0, .slice none 0 0] 28)).heap[w.heap.size + 1]? = some (.cells #[.slice none 0 0, .slice none 0 0, .slice none 0 0] 28 (0, 0)) := heap_at (by simp)
  generalize (w.alloc (.cells #[.slice A1 s.states.length c1, .slice A2 s.queue.length c2, .slice A3 s.outs.length c3] 28)).alloc (.cells #[.slice none 0 0, .slice none 0 0, .slice none 0 0] 28) = W at *
  have d0 : W.cell? ⟨w.heap.size, 0, none⟩ = some (.slice A1 s.states.length c1) := blk_cell B0 0
  have d1 : W.cell? ⟨w.heap.size, 1, none⟩ = some (.slice A2 s.queue.length c2) := blk_cell B0 1
  have d2 : W.cell? ⟨w.heap.size, 2, none⟩ = some (.slice A3 s.outs.length c3) := blk_cell B0 2
  have g0 := blk_lt B0
  have g1 := blk_lt B1
  have hR := hid (h.below hW)
  have hWs := hW.size
  refine region_z (fun w' => Below W.heap.size W w') (.take 0 (.take 1 (.take 3 (.take 4 (.take 6 (.take 7 (.one 2 (.one 5 (.one 8 (.take 9 (.one 10 (.nil)))))))))))) (by kernel_rfl) (by kernel_rfl) (fun _ _ d _ _ h => by cases d <;> exact h) ?_
  have HS := (Below.refl W.heap.size W).drew
  iterate 6 (first | (refine z_take (v := ?_) (by rfl) HS (by rfl) ?_ ?_; rotate_left; (focus (intro wS hS; obtain ⟨kc, kf⟩ := bcell hS; go_simp; (try (with_reducible rfl)); done)); (intro K hK; go_simp; refine hK _ ?_; clear hK K)) | (refine z_skip (by rfl) HS (by rfl) ?_; (intro K hK; go_simp; refine hK _ ?_; clear hK K)))
  refine z_do (by rfl) (by rfl) (fun K hK => ?_)
  go_simp
  refine (cloneSt_c _ _ _ _ (hR.out.below HS).st l1).mono ?_
  rintro e w1 ⟨u1, rfl, n1, hbn⟩
  obtain ⟨X1, x1, rfl, -⟩ := n1.shape
  have HS1 := bthen' HS hbn
  have n1 := n1.mono (F' := fun k => w.heap.size ≤ k) (fun k hk => by have := HS.size; omega)
  refine hK _ _ (Or.inr HS1) ?_
  clear hK K HS hbn
  have HS := HS1
  clear HS1
  refine z_do (by rfl) (by rfl) (fun K hK => ?_)
  go_simp
  refine (cloneEv_c _ _ _ _ (hR.out.below HS).qu l2).mono ?_
  rintro e w2 ⟨u2, rfl, n2, hbn⟩
  obtain ⟨X2, x2, rfl, -⟩ := n2.shape
  have HS1 := bthen' HS hbn
  have n1 := n1.below hbn
  have n2 := n2.mono (F' := fun k => w.heap.size ≤ k) (fun k hk => by have := HS.size; omega)
  refine hK _ _ (Or.inr HS1) ?_
  clear hK K HS hbn
  have HS := HS1
  clear HS1
  refine z_do (by rfl) (by rfl) (fun K hK => ?_)
  go_simp
  refine (cloneOut_c _ _ _ _ (hR.out.below HS).ou l3).mono ?_
  rintro e w3 ⟨u3, rfl, n3, hbn⟩
  obtain ⟨X3, x3, rfl, -⟩ := n3.shape
  have HS1 := bthen' HS hbn
  have n1 := n1.below hbn
  have n2 := n2.below hbn
  have n3 := n3.mono (F' := fun k => w.heap.size ≤ k) (fun k hk => by have := HS.size; omega)
  refine hK _ _ (Or.inr HS1) ?_
  clear hK K HS hbn
  have HS := HS1
  clear HS1
  iterate 1 (first | (refine z_take (v := ?_) (by rfl) HS (by rfl) ?_ ?_; rotate_left; (focus (intro wS hS; obtain ⟨kc, kf⟩ := bcell hS; go_simp; (try (with_reducible rfl)); done)); (intro K hK; go_simp; refine hK _ ?_; clear hK K)) | (refine z_skip (by rfl) HS (by rfl) ?_; (intro K hK; go_simp; refine hK _ ?_; clear hK K)))
  have B1w := below_heap HS g1 B1
  have n : SimOw w3 (fun k => w.heap.size ≤ k) (.slice X1 s.states.length x1) (.slice X2 s.queue.length x2) (.slice X3 s.outs.length x3) s := ⟨n1, n2, n3⟩
  have c0 : w3.cell? ⟨w.heap.size + 1, 0, none⟩ = some (.slice none 0 0) := blk_cell B1w 0
  have c1' : w3.cell? ⟨w.heap.size + 1, 1, none⟩ = some (.slice none 0 0) := blk_cell B1w 1
  have c2' : w3.cell? ⟨w.heap.size + 1, 2, none⟩ = some (.slice none 0 0) := blk_cell B1w 2
  have f0 := blk_frozen B1w 0
  have f1 := blk_frozen B1w 1
  have f2 := blk_frozen B1w 2
  refine z_do (by rfl) (by rfl) (fun K hK => ?_)
  go_simp
  refine hK _ _ (Or.inl (by kernel_rfl)) ?_
  clear hK K c0 c1' c2' f0 f1 f2
  obtain ⟨BW, nW, hb⟩ := sim_store (g := w.heap.size + 1) B1w n (by omega) (hW.trans (Below.mono HS hW.size)) (.slice X1 s.states.length x1) (.slice X2 s.queue.length x2) (.slice X3 s.outs.length x3) rfl rfl rfl
  generalize ((w3.setCell ⟨w.heap.size + 1, 0, none⟩ (.slice X1 s.states.length x1)).setCell ⟨w.heap.size + 1, 1, none⟩ (.slice X2 s.queue.length x2)).setCell ⟨w.heap.size + 1, 2, none⟩ (.slice X3 s.outs.length x3) = W3 at *
  simp only [wpZ]
  go_wp2_with fail
  have r0 : W3.cell? ⟨w.heap.size + 1, 0, none⟩ = some (.slice X1 s.states.length x1) := blk_cell BW 0
  have r1 : W3.cell? ⟨w.heap.size + 1, 1, none⟩ = some (.slice X2 s.queue.length x2) := blk_cell BW 1
  have r2 : W3.cell? ⟨w.heap.size + 1, 2, none⟩ = some (.slice X3 s.outs.length x3) := blk_cell BW 2
  refine bodyPost_ret (v := .agg #[.slice X1 s.states.length x1, .slice X2 s.queue.length x2, .slice X3 s.outs.length x3]) (by simp only [results, Tryz.results76]; go_simp) rfl ⟨_, _, _, rfl, nW, hb⟩
end Go.Proofs.YtbcemldiahghcaaGreat

namespace Go.Proofs.YtbcemldiahghcaaGreat
set_option linter.unusedVariables false
set_option linter.unusedSimpArgs false
set_option maxRecDepth 100000
open Go.RowKit
/-- A heap in memory: its row and its order. -/
structure HeapAt {α : Type} (d : Ty α) (e t : TypeId) (less : FuncId) (w : World) (g : Nat) (F : Nat → Prop) (v : Value) (xs : List α) : Prop where
  blk : w.heap[g]? = some (.cells #[v, .func (.func less) #[] #[]] t (0, 0))
  row : Ow d e w F v xs
  apart : ¬ F g
  lt : ∀ k, F k → k < w.heap.size
/-- What lies outside F is as it was. -/
def Kept (F : Nat → Prop) (W w' : World) : Prop := (∀ k, k < W.heap.size → ¬ F k → w'.heap[k]? = W.heap[k]?) ∧ W.heap.size ≤ w'.heap.size
theorem Kept.cells {F : Nat → Prop} {W w' : World} (h : Kept F W w') : (∀ b o, b < W.heap.size → ¬ F b → w'.cell? ⟨b, o, none⟩ = W.cell? ⟨b, o, none⟩) ∧ (∀ b o, b < W.heap.size → ¬ F b → w'.frozen? ⟨b, o, none⟩ = W.frozen? ⟨b, o, none⟩) :=
  ⟨fun b o hb hn => World.cell?_of_block (w := W) (h.1 b hb hn), fun b o hb hn => World.frozen?_of_block (w := W) (h.1 b hb hn)⟩
set_option maxHeartbeats 4000000 in
theorem pushOut_c (g : Nat) (F : Nat → Prop) (v : Value) (l : List OutD) (x : OutD) (w : World) (h : HeapAt tOut 128 189 137 w g F v l) (hl : l.length ≤ 1000) :
    Calls Tryz.prog 138 #[.pointer (some ⟨g, 0, none⟩), outAgg x] w fun q w' => q = .returned (.tuple #[]) ∧ ∃ v' F', HeapAt tOut 128 189 137 w' g F' v' (hpush outLess l x) ∧ (∀ k, F' k → F k ∨ w.heap.size ≤ k) ∧ Ch (fun k => k = g ∨ F k) w w' := by
  obtain ⟨A1, c1, rfl, m1⟩ := h.row.shape
  unfold outAgg
  go_enter Tryz.func138, Tryz.ntmps138
  go_wp2_with fail
  have hgl := blk_lt h.blk
  have B0 := (heap_old (o := .cells #[.int .i64 x.time, .int .i64 x.proc, .int .i64 x.count, .int .i64 x.n, .int .i64 x.value] 128) hgl).trans h.blk
  have BX : (w.alloc (.cells #[.int .i64 x.time, .int .i64 x.proc, .int .i64 x.count, .int .i64 x.n, .int .i64 x.value] 128)).heap[w.heap.size]? = some (.cells #[.int .i64 x.time, .int .i64 x.proc, .int .i64 x.count, .int .i64 x.n, .int .i64 x.value] 128 (0, 0)) := heap_at rfl
  have hO := h.row.alloc (.cells #[.int .i64 x.time, .int .i64 x.proc, .int .i64 x.count, .int .i64 x.n, .int .i64 x.value] 128)
  have hC := (Ch.refl (fun k => k = g ∨ F k) w).alloc (.cells #[.int .i64 x.time, .int .i64 x.proc, .int .i64 x.count, .int .i64 x.n, .int .i64 x.value] 128)
  have hap := h.apart
  have hxF : ¬ F w.heap.size := fun hf => by have := h.lt _ hf; omega
  clear h
  generalize w.alloc (.cells #[.int .i64 x.time, .int .i64 x.proc, .int .i64 x.count, .int .i64 x.n, .int .i64 x.value] 128) = W at *
  have hs := hC.size
  have a0 : W.cell? ⟨g, 0, none⟩ = some (.slice A1 l.length c1) := blk_cell B0 0
  have x0 : W.cell? ⟨w.heap.size, 0, none⟩ = some (.int .i64 x.time) := blk_cell BX 0
  have x1 : W.cell? ⟨w.heap.size, 1, none⟩ = some (.int .i64 x.proc) := blk_cell BX 1
  have x2 : W.cell? ⟨w.heap.size, 2, none⟩ = some (.int .i64 x.count) := blk_cell BX 2
  have x3 : W.cell? ⟨w.heap.size, 3, none⟩ = some (.int .i64 x.n) := blk_cell BX 3
  have x4 : W.cell? ⟨w.heap.size, 4, none⟩ = some (.int .i64 x.value) := blk_cell BX 4
  have hgW := blk_lt B0
  have hxW := blk_lt BX
  refine region_z (fun w' => Kept F W w') (.take 0 (.take 1 (.take 2 (.take 3 (.take 4 (.take 5 (.one 6 (.one 7 (.take 8 (.take 9 (.one 10 (.nil)))))))))))) (by kernel_rfl) (by kernel_rfl) (fun _ _ d _ _ h => by cases d <;> exact h) ?_
  have HS := (show Kept F W W.drew from ⟨fun _ _ _ => rfl, Nat.le_refl _⟩)
  iterate 6 (first | (refine z_take (v := ?_) (by rfl) HS (by rfl) ?_ ?_; rotate_left; (focus (intro wS hS; obtain ⟨kc, kf⟩ := hS.cells; go_simp; (try (with_reducible rfl)); done)); (intro K hK; go_simp; refine hK _ ?_; clear hK K)) | (refine z_skip (by rfl) HS (by rfl) ?_; (intro K hK; go_simp; refine hK _ ?_; clear hK K)))
  refine z_do (by rfl) (by rfl) (fun K hK => ?_)
  go_simp
  refine hK _ _ (Or.inr ⟨fun k hk hn => (heap_old (by have := HS.2; omega)).trans (HS.1 k hk hn), Nat.le_trans HS.2 (by simp)⟩) ?_
  clear hK K
  refine z_do (by rfl) (by rfl) (fun K hK => ?_)
  refine ow_append_wp (d := tOut) 26 (by rfl) Tryz.underlying26 _ 40 info_out rfl (by decide) (by decide) (by rfl) ((hO.move (w' := W.drew) (fun _ _ => rfl)).alloc _) x _ (by rfl) (heap_at rfl) (fun _ => False) rfl (fun _ hf => hf.elim) (fun _ hf => hf.elim) (by omega) (fun k => F k ∨ w.heap.size ≤ k) (fun _ hk => .inl hk) (fun _ hf => hf.elim) (fun k hk => .inr (by first | omega | (simp at hk; omega))) ?_
  intro v3 w3 hO3 hG3 hat3
  obtain ⟨A3, c3, rfl, m3⟩ := hO3.shape
  have hC3 : Ch (fun k => k = g ∨ F k) w w3 := ((hC.drew).alloc _).grown hG3 (fun k hk => .inl (.inr (hO.inF hk)))
  have B3 : w3.heap[g]? = some (.cells #[.slice A1 l.length c1, .func (.func 137) #[] #[]] 189 (0, 0)) := (hG3.block g (by simp; omega) (fun e => hap (hO.inF e.symm))).trans ((heap_old (by simpa using hgW)).trans B0)
  have HS3 : Kept F W w3 := ⟨fun k hk hn => (hG3.block k (by simp; omega) (fun e => hn (hO.inF e.symm))).trans (heap_old (by simpa using hk)), by have := hG3.size; simp at this; omega⟩
  refine hK _ _ (Or.inr HS3) ?_
  clear hK K HS
  have HS := HS3
  clear HS3
  go_simp
  iterate 2 (first | (refine z_take (v := ?_) (by rfl) HS (by rfl) ?_ ?_; rotate_left; (focus (intro wS hS; obtain ⟨kc, kf⟩ := hS.cells; go_simp; (try (with_reducible rfl)); done)); (intro K hK; go_simp; refine hK _ ?_; clear hK K)) | (refine z_skip (by rfl) HS (by rfl) ?_; (intro K hK; go_simp; refine hK _ ?_; clear hK K)))
  have e1 : w3.cell? ⟨g, 0, none⟩ = some (.slice A1 l.length c1) := blk_cell B3 0
  have e2 := blk_frozen B3 0
  refine z_do (by rfl) (by rfl) (fun K hK => ?_)
  go_simp
  refine hK _ _ (Or.inl (by kernel_rfl)) ?_
  clear hK K e1 e2
  simp only [wpZ]
  have hFg : ¬ (F g ∨ w.heap.size ≤ g) := fun hh => hh.elim hap (fun h2 => by omega)
  have hOV := (hO3.setCell (i := 0) B3 (by decide) (.slice A3 (l ++ [x]).length c3)).bound
  have hCV := hC3.setCell (p := ⟨g, 0, none⟩) (.inl (.inl rfl)) (.slice A3 (l ++ [x]).length c3)
  have BV := blk_set B3 0 (.slice A3 (l ++ [x]).length c3)
  simp only [List.setIfInBounds_toArray, List.set_cons_zero] at BV
  have hl1 : (l ++ [x]).length = l.length + 1 := by simp
  rw [hl1] at hOV hCV BV
  have HP := hid (show hpush outLess l x = hup outLess l.length (l ++ [x]) l.length from rfl)
  obtain ⟨m0, hm0⟩ : ∃ m, m = l ++ [x] := ⟨_, rfl⟩
  rw [← hm0] at hOV hl1
  rw [← hm0] at HP
  have HM := hid hl1
  have hlm : l.length < m0.length := by omega
  have hlm2 : m0.length ≤ 1001 := by omega
  clear hm0 hl1 HS B0 BX hO hC hap hxF a0 x0 x1 x2 x3 x4 hgW hxW hs hO3 hG3 hat3 hC3 B3 m3
  generalize w3.setCell ⟨g, 0, none⟩ (.slice A3 (l.length + 1) c3) = V at *
  have a0 : V.cell? ⟨g, 0, none⟩ = some (.slice A3 (l.length + 1) c3) := blk_cell BV 0
  have a1 : V.cell? ⟨g, 1, none⟩ = some (.func (.func 137) #[] #[]) := blk_cell BV 1
  obtain ⟨gb, ab, curb, hXb, hgb, hgbl, hgbb⟩ := hOV.head (by omega)
  obtain ⟨rfl, rfl⟩ : A3 = some ⟨gb, 0, none⟩ ∧ c3 = ab := by injection hXb with u1 u2 u3; exact ⟨u1, u3⟩
  clear hXb hgbl hgbb curb
  go_wp2_with fail
  go_loopw [4] (fun t wr => ∃ (k : Nat) (m : List OutD), t = .int .i64 k ∧ k < m.length ∧ m.length ≤ 1001 ∧ Hid (m.length = l.length + 1) ∧ wr.heap[g]? = some (.cells #[.slice (some ⟨gb, 0, none⟩) (l.length + 1) c3, .func (.func 137) #[] #[]] 189 (0, 0)) ∧ Ow tOut 128 wr (fun q => (F q ∨ w.heap.size ≤ q) ∧ q < V.heap.size) (.slice (some ⟨gb, 0, none⟩) (l.length + 1) c3) m ∧ Ch (fun q => q = g ∨ F q) w wr ∧ V.heap.size ≤ wr.heap.size ∧ Hid (hpush outLess l x = hup outLess k m k)) (fun t _ => (intOf t).toNat)
  case atStart => exact ⟨l.length, m0, rfl, hlm, hlm2, HM, BV, hOV, hCV, Nat.le_refl _, HP⟩
  case round =>
    clear BV hOV hCV HP HM hlm hlm2 a0 a1
    obtain ⟨k, m, rfl, hk, hm1, HM, BV, hOV, hCV, hVW, HP⟩ := hrel
    have hfin : ∀ {wz : World}, wz.heap[g]? = some (.cells #[.slice (some ⟨gb, 0, none⟩) (l.length + 1) c3, .func (.func 137) #[] #[]] 189 (0, 0)) → Ow tOut 128 wz (fun q => (F q ∨ w.heap.size ≤ q) ∧ q < V.heap.size) (.slice (some ⟨gb, 0, none⟩) (l.length + 1) c3) m → V.heap.size ≤ wz.heap.size → HeapAt tOut 128 189 137 wz g (fun q => (F q ∨ w.heap.size ≤ q) ∧ q < V.heap.size) (.slice (some ⟨gb, 0, none⟩) (l.length + 1) c3) m := fun e1 e2 e3 => ⟨e1, e2, fun hh => hFg hh.1, fun q hq => Nat.lt_of_lt_of_le hq.2 e3⟩
    have a0 : wr.cell? ⟨g, 0, none⟩ = some (.slice (some ⟨gb, 0, none⟩) (l.length + 1) c3) := blk_cell BV 0
    have a1 : wr.cell? ⟨g, 1, none⟩ = some (.func (.func 137) #[] #[]) := blk_cell BV 1
    have hgwr := blk_lt BV
    by_cases h0 : k = 0
    · have HE := hid (show hpush outLess l x = m by rw [HP.out, h0]; rfl)
      have kd : decide ((k : Int) > 0) = false := decide_eq_false (by omega)
      have kd' : decide (0 < k) = false := decide_eq_false (by omega)
      clear h0
      go_wp2_with fail
      go_end0
      exact ⟨rfl, _, (fun q => (F q ∨ w.heap.size ≤ q) ∧ q < V.heap.size), by rw [HE.out]; exact hfin BV hOV hVW, fun q hq => hq.1, hCV⟩
    · obtain ⟨u, hu⟩ : ∃ u, u = (k - 1) / 2 := ⟨_, rfl⟩
      have hu0 : ((k : Int) - 1) / 2 = (u : Int) := by omega
      have huk : u < k := by omega
      have hum : u < m.length := by omega
      have HU := hid hu
      have kd : decide ((k : Int) > 0) = true := decide_eq_true (by omega)
      have kd' : decide (0 < k) = true := decide_eq_true (by omega)
      have p1 : (1 : Int) ≤ (k : Int) := by omega
      have p2 : 1 ≤ k := by omega
      have p3 : (k : Int) < (l.length : Int) + 1 := by have := HM.out; omega
      have p4 : (u : Int) < (l.length : Int) + 1 := by have := HM.out; omega
      clear h0 hu
      go_upto_region 5 with fail
      simp only [hu0]
      clear hu0
      obtain ⟨bb, oo, hA1, hbl, z0, z1, z2, z3, z4⟩ := out_at (j := k) hOV.rd hk
      injection hA1 with hA1
      injection hA1 with e1 e2 _
      subst e1 e2
      obtain ⟨bb, oo, hA1, -, y0, y1, y2, y3, y4⟩ := out_at (j := u) hOV.rd hum
      injection hA1 with hA1
      injection hA1 with e1 e2 _
      subst e1 e2
      simp only [Nat.zero_add] at z0 z1 z2 z3 z4 y0 y1 y2 y3 y4
      obtain ⟨bt, hbt⟩ : ∃ bt, outLess m[k] m[u] = bt := ⟨_, rfl⟩
      refine region_z (fun w' => Below wr.heap.size wr w') (.take 0 (.take 1 (.take 2 (.take 3 (.take 4 (.take 5 (.take 6 (.take 7 (.take 8 (.take 9 (.take 10 (.take 11 (.take 12 (.take 13 (.take 14 (.take 15 (.take 16 (.take 17 (.one 18 (.take 19 (.nil))))))))))))))))))))) (by kernel_rfl) (by kernel_rfl) (fun _ _ d _ _ h => by cases d <;> exact h) ?_
      have HS := (Below.refl wr.heap.size wr).drew
      iterate 18 (first | (refine z_take (v := ?_) (by rfl) HS (by rfl) ?_ ?_; rotate_left; (focus (intro wS hS; obtain ⟨kc, kf⟩ := bcell hS; go_simp; (try (with_reducible rfl)); done)); (intro K hK; go_simp; refine hK _ ?_; clear hK K)) | (refine z_skip (by rfl) HS (by rfl) ?_; (intro K hK; go_simp; refine hK _ ?_; clear hK K)))
      refine z_do (by rfl) (by rfl) (fun K hK => ?_)
      go_simp
      refine (OutLessI_c m[k] m[u] _).mono ?_
      rintro e w5 ⟨he, hb5⟩
      rw [hbt] at he
      subst he
      have HS1 := bthen' HS hb5
      refine hK _ _ (Or.inr HS1) ?_
      clear hK K HS hb5
      have HS := HS1
      clear HS1
      iterate 1 (first | (refine z_take (v := ?_) (by rfl) HS (by rfl) ?_ ?_; rotate_left; (focus (intro wS hS; obtain ⟨kc, kf⟩ := bcell hS; go_simp; (try (with_reducible rfl)); done)); (intro K hK; go_simp; refine hK _ ?_; clear hK K)) | (refine z_skip (by rfl) HS (by rfl) ?_; (intro K hK; go_simp; refine hK _ ?_; clear hK K)))
      simp only [wpZ]
      have hR1 : Ow tOut 128 w5 (fun q => (F q ∨ w.heap.size ≤ q) ∧ q < V.heap.size) (.slice (some ⟨gb, 0, none⟩) (l.length + 1) c3) m := hOV.below HS
      have B5 := below_heap HS hgwr BV
      have hC5 := hCV.trans (Ch.of_below HS)
      have hV5 := Nat.le_trans hVW HS.size
      clear hOV BV hCV hVW a0 a1 HS z0 z1 z2 z3 z4 y0 y1 y2 y3 y4 hgwr hbl
      cases bt
      case false =>
        have HE := hid (show hpush outLess l x = m by
          rw [HP.out]
          obtain ⟨k', rfl⟩ : ∃ k', k = k' + 1 := ⟨k - 1, by omega⟩
          rw [hup, if_neg (by omega), ← HU.out, nth_eq hk, nth_eq hum, hbt]; rfl)
        clear hbt
        go_wp2_with fail
        go_end0
        exact ⟨rfl, _, (fun q => (F q ∨ w.heap.size ≤ q) ∧ q < V.heap.size), by rw [HE.out]; exact hfin B5 hR1 hV5, fun q hq => hq.1, hC5⟩
      case true =>
        clear hfin
        go_upto_region 6 with fail
        have a0 : w5.cell? ⟨g, 0, none⟩ = some (.slice (some ⟨gb, 0, none⟩) (l.length + 1) c3) := blk_cell B5 0
        have hg5 := blk_lt B5
        obtain ⟨bb, oo, hA1, hbl, z0, z1, z2, z3, z4⟩ := out_at (j := k) hR1.rd hk
        injection hA1 with hA1
        injection hA1 with e1 e2 _
        subst e1 e2
        obtain ⟨bb, oo, hA1, -, y0, y1, y2, y3, y4⟩ := out_at (j := u) hR1.rd hum
        injection hA1 with hA1
        injection hA1 with e1 e2 _
        subst e1 e2
        simp only [Nat.zero_add] at z0 z1 z2 z3 z4 y0 y1 y2 y3 y4
        refine region_e (fun w' => Below w5.heap.size w5 w') [3, 8, 13, 16, 20, 23] (.pure 0 (.pure 1 (.pure 2 (.take 3 (.pure 4 (.pure 5 (.pure 6 (.pure 7 (.take 8 (.pure 9 (.pure 10 (.pure 11 (.pure 12 (.take 13 (.pure 14 (.pure 15 (.take 16 (.pure 17 (.pure 18 (.pure 19 (.take 20 (.pure 21 (.pure 22 (.take 23 (.one 24 (.one 25 (.one 26 (.one 27 (.nil))))))))))))))))))))))))))))) (by kernel_rfl) (by kernel_rfl) (fun _ _ d _ _ h => by cases d <;> exact h) ?_
        have HS := (Below.refl w5.heap.size w5).drew
        iterate 3 (refine e_pure (v := ?_) (by rfl) (by rfl) ?_ ?_; rotate_left; (focus (intro wS; go_simp; (try (with_reducible rfl)); done)); (intro K hK; go_simp; refine hK _ ?_; clear hK K))
        iterate 1 (refine e_take (v := ?_) (by rfl) HS (by rfl) ?_ ?_; rotate_left; (focus (intro wS hS; obtain ⟨kc, kf⟩ := bcell hS; go_simp; (try (with_reducible rfl)); done)); (intro K hK; go_simp; refine hK _ ?_; clear hK K))
        iterate 4 (refine e_pure (v := ?_) (by rfl) (by rfl) ?_ ?_; rotate_left; (focus (intro wS; go_simp; (try (with_reducible rfl)); done)); (intro K hK; go_simp; refine hK _ ?_; clear hK K))
        iterate 1 (refine e_take (v := ?_) (by rfl) HS (by rfl) ?_ ?_; rotate_left; (focus (intro wS hS; obtain ⟨kc, kf⟩ := bcell hS; go_simp; (try (with_reducible rfl)); done)); (intro K hK; go_simp; refine hK _ ?_; clear hK K))
        iterate 4 (refine e_pure (v := ?_) (by rfl) (by rfl) ?_ ?_; rotate_left; (focus (intro wS; go_simp; (try (with_reducible rfl)); done)); (intro K hK; go_simp; refine hK _ ?_; clear hK K))
        iterate 1 (refine e_take (v := ?_) (by rfl) HS (by rfl) ?_ ?_; rotate_left; (focus (intro wS hS; obtain ⟨kc, kf⟩ := bcell hS; go_simp; (try (with_reducible rfl)); done)); (intro K hK; go_simp; refine hK _ ?_; clear hK K))
        iterate 2 (refine e_pure (v := ?_) (by rfl) (by rfl) ?_ ?_; rotate_left; (focus (intro wS; go_simp; (try (with_reducible rfl)); done)); (intro K hK; go_simp; refine hK _ ?_; clear hK K))
        iterate 1 (refine e_take (v := ?_) (by rfl) HS (by rfl) ?_ ?_; rotate_left; (focus (intro wS hS; obtain ⟨kc, kf⟩ := bcell hS; go_simp; (try (with_reducible rfl)); done)); (intro K hK; go_simp; refine hK _ ?_; clear hK K))
        iterate 3 (refine e_pure (v := ?_) (by rfl) (by rfl) ?_ ?_; rotate_left; (focus (intro wS; go_simp; (try (with_reducible rfl)); done)); (intro K hK; go_simp; refine hK _ ?_; clear hK K))
        iterate 1 (refine e_take (v := ?_) (by rfl) HS (by rfl) ?_ ?_; rotate_left; (focus (intro wS hS; obtain ⟨kc, kf⟩ := bcell hS; go_simp; (try (with_reducible rfl)); done)); (intro K hK; go_simp; refine hK _ ?_; clear hK K))
        iterate 2 (refine e_pure (v := ?_) (by rfl) (by rfl) ?_ ?_; rotate_left; (focus (intro wS; go_simp; (try (with_reducible rfl)); done)); (intro K hK; go_simp; refine hK _ ?_; clear hK K))
        iterate 1 (refine e_take (v := ?_) (by rfl) HS (by rfl) ?_ ?_; rotate_left; (focus (intro wS hS; obtain ⟨kc, kf⟩ := bcell hS; go_simp; (try (with_reducible rfl)); done)); (intro K hK; go_simp; refine hK _ ?_; clear hK K))
        refine e_do (by rfl) (by rfl) (fun K hK => ?_)
        go_simp
        refine hK _ _ (Or.inl (by kernel_rfl)) ?_
        clear hK K
        have hR2 : Ow tOut 128 w5.drew (fun q => (F q ∨ w.heap.size ≤ q) ∧ q < V.heap.size) (.slice (some ⟨gb, 0, none⟩) (l.length + 1) c3) m := hR1.below HS
        obtain ⟨s1, s2, s3⟩ := hR2.setAt (g := gb) rfl k hk m[u]
        refine e_do (by rfl) (by rfl) (fun K hK => ?_)
        refine wp_store_mid 128 (.tmp 71) (.tmp 63) (by rfl) gb (k * 5) (OutD.cells m[u]).toArray (by rfl) (by rfl) s1 (by kernel_rfl) (by simp [OutD.cells, Value.oneCell']) ?_
        refine hK _ _ (Or.inl (by kernel_rfl)) ?_
        clear hK K s1
        simp only [List.toList_toArray]
        generalize w5.drew.setCells gb (k * 5) (OutD.cells m[u]) = Wa at *
        go_simp
        refine e_do (by rfl) (by rfl) (fun K hK => ?_)
        go_simp
        refine hK _ _ (Or.inl (by kernel_rfl)) ?_
        clear hK K
        obtain ⟨q1, q2, q3⟩ := s2.setAt (g := gb) rfl u (by simpa using hum) m[k]
        refine e_do (by rfl) (by rfl) (fun K hK => ?_)
        refine wp_store_mid 128 (.tmp 72) (.tmp 70) (by rfl) gb (u * 5) (OutD.cells m[k]).toArray (by rfl) (by rfl) q1 (by kernel_rfl) (by simp [OutD.cells, Value.oneCell']) ?_
        refine hK _ _ (Or.inl (by kernel_rfl)) ?_
        clear hK K
        have hne : g ≠ gb := fun e1 => hFg (e1 ▸ hgb.1)
        have hCs : Ch (fun q => q = gb) w5.drew (Wa.setCells gb (u * 5) (OutD.cells m[k])) := s3.trans q3
        have BX6 := hCs.heap (show w5.drew.heap[g]? = _ from B5) hne
        have hC6 : Ch (fun q => q = g ∨ F q) w (Wa.setCells gb (u * 5) (OutD.cells m[k])) := (hC5.drew).then hCs (fun q hq => by
          have hq' : q = gb := hq
          subst hq'
          rcases hgb.1 with h1 | h1
          · exact .inl (.inr h1)
          · exact .inr h1)
        have hV6 : V.heap.size ≤ (Wa.setCells gb (u * 5) (OutD.cells m[k])).heap.size := Nat.le_trans hV5 hCs.size
        have hsw : (m.set k m[u]).set u m[k] = swp m k u := by rw [swp, nth_eq hk, nth_eq hum]
        rw [hsw] at q2
        have hln : (swp m k u).length = m.length := swp_len m k u
        have HM6 := hid (show (swp m k u).length = l.length + 1 by rw [hln]; exact HM.out)
        have HP6 := hid (show hpush outLess l x = hup outLess u (swp m k u) u by
          rw [HP.out]
          obtain ⟨k', rfl⟩ : ∃ k', k = k' + 1 := ⟨k - 1, by omega⟩
          rw [hup, if_neg (by omega), ← HU.out, nth_eq hk, nth_eq hum, if_pos hbt]
          exact hup_fuel _ _ _ _ (by omega) (Nat.le_refl _))
        have hu6 : u < (swp m k u).length := by rw [hln]; exact hum
        have hm6 : (swp m k u).length ≤ 1001 := by rw [hln]; exact hm1
        clear hbt hR1 B5 hC5 hV5 HS hR2 s2 s3 q1 q3 hCs hsw hln z0 z1 z2 z3 z4 y0 y1 y2 y3 y4 a0 HP HM hg5 hbl
        simp only [List.toList_toArray]
        generalize Wa.setCells gb (u * 5) (OutD.cells m[k]) = W6 at *
        go_simp
        simp only [wpE]
        go_wp2_with fail
        go_roundw
        case rel => exact ⟨u, _, rfl, hu6, hm6, HM6, BX6, q2, hC6, hV6, HP6⟩
        case measure => simp [intOf]; omega
end Go.Proofs.YtbcemldiahghcaaGreat

namespace Go.Proofs.YtbcemldiahghcaaGreat
set_option linter.unusedVariables false
set_option linter.unusedSimpArgs false
set_option maxRecDepth 100000
open Go.RowKit
theorem info_key : (Tryz.prog.info? 181).map (fun i => (i.zero, i.size, i.bytes)) = some (some (.agg #[.int .i64 0, .int .i64 0, .int .i64 0, .int .i64 0, .int .i64 0, .int .i64 0, .int .i64 0]), 7, 56) := by kernel_rfl
set_option maxHeartbeats 4000000 in
theorem pushEv_c (g : Nat) (F : Nat → Prop) (v : Value) (l : List EvD) (x : EvD) (w : World) (h : HeapAt tEv 181 178 131 w g F v l) (hl : l.length ≤ 1000) :
    Calls Tryz.prog 133 #[.pointer (some ⟨g, 0, none⟩), evAgg x] w fun q w' => q = .returned (.tuple #[]) ∧ ∃ v' F', HeapAt tEv 181 178 131 w' g F' v' (hpush evLess l x) ∧ (∀ k, F' k → F k ∨ w.heap.size ≤ k) ∧ Ch (fun k => k = g ∨ F k) w w' := by
  obtain ⟨A1, c1, rfl, m1⟩ := h.row.shape
  unfold evAgg
  go_enter Tryz.func133, Tryz.ntmps133
  go_wp2_with fail
  have hgl := blk_lt h.blk
  have B0 := (heap_old (o := .cells #[.int .i64 x.time, .int .i64 x.to, .int .i64 x.from_, .int .i64 x.count, .int .i64 x.n, .int .i64 x.kind, .int .i64 x.arg] 181) hgl).trans h.blk
  have BX : (w.alloc (.cells #[.int .i64 x.time, .int .i64 x.to, .int .i64 x.from_, .int .i64 x.count, .int .i64 x.n, .int .i64 x.kind, .int .i64 x.arg] 181)).heap[w.heap.size]? = some (.cells #[.int .i64 x.time, .int .i64 x.to, .int .i64 x.from_, .int .i64 x.count, .int .i64 x.n, .int .i64 x.kind, .int .i64 x.arg] 181 (0, 0)) := heap_at rfl
  have hO := h.row.alloc (.cells #[.int .i64 x.time, .int .i64 x.to, .int .i64 x.from_, .int .i64 x.count, .int .i64 x.n, .int .i64 x.kind, .int .i64 x.arg] 181)
  have hC := (Ch.refl (fun k => k = g ∨ F k) w).alloc (.cells #[.int .i64 x.time, .int .i64 x.to, .int .i64 x.from_, .int .i64 x.count, .int .i64 x.n, .int .i64 x.kind, .int .i64 x.arg] 181)
  have hap := h.apart
  have hxF : ¬ F w.heap.size := fun hf => by have := h.lt _ hf; omega
  clear h
  generalize w.alloc (.cells #[.int .i64 x.time, .int .i64 x.to, .int .i64 x.from_, .int .i64 x.count, .int .i64 x.n, .int .i64 x.kind, .int .i64 x.arg] 181) = W at *
  have hs := hC.size
  have a0 : W.cell? ⟨g, 0, none⟩ = some (.slice A1 l.length c1) := blk_cell B0 0
  have x0 : W.cell? ⟨w.heap.size, 0, none⟩ = some (.int .i64 x.time) := blk_cell BX 0
  have x1 : W.cell? ⟨w.heap.size, 1, none⟩ = some (.int .i64 x.to) := blk_cell BX 1
  have x2 : W.cell? ⟨w.heap.size, 2, none⟩ = some (.int .i64 x.from_) := blk_cell BX 2
  have x3 : W.cell? ⟨w.heap.size, 3, none⟩ = some (.int .i64 x.count) := blk_cell BX 3
  have x4 : W.cell? ⟨w.heap.size, 4, none⟩ = some (.int .i64 x.n) := blk_cell BX 4
  have x5 : W.cell? ⟨w.heap.size, 5, none⟩ = some (.int .i64 x.kind) := blk_cell BX 5
  have x6 : W.cell? ⟨w.heap.size, 6, none⟩ = some (.int .i64 x.arg) := blk_cell BX 6
  have hgW := blk_lt B0
  have hxW := blk_lt BX
  refine region_z (fun w' => Kept F W w') (.take 0 (.take 1 (.take 2 (.take 3 (.take 4 (.take 5 (.one 6 (.one 7 (.take 8 (.take 9 (.one 10 (.nil)))))))))))) (by kernel_rfl) (by kernel_rfl) (fun _ _ d _ _ h => by cases d <;> exact h) ?_
  have HS := (show Kept F W W.drew from ⟨fun _ _ _ => rfl, Nat.le_refl _⟩)
  iterate 6 (first | (refine z_take (v := ?_) (by rfl) HS (by rfl) ?_ ?_; rotate_left; (focus (intro wS hS; obtain ⟨kc, kf⟩ := hS.cells; go_simp; (try (with_reducible rfl)); done)); (intro K hK; go_simp; refine hK _ ?_; clear hK K)) | (refine z_skip (by rfl) HS (by rfl) ?_; (intro K hK; go_simp; refine hK _ ?_; clear hK K)))
  refine z_do (by rfl) (by rfl) (fun K hK => ?_)
  go_simp
  refine hK _ _ (Or.inr ⟨fun k hk hn => (heap_old (by have := HS.2; omega)).trans (HS.1 k hk hn), Nat.le_trans HS.2 (by simp)⟩) ?_
  clear hK K
  refine z_do (by rfl) (by rfl) (fun K hK => ?_)
  refine ow_append_wp (d := tEv) 176 (by rfl) Tryz.underlying176 _ 56 info_key rfl (by decide) (by decide) (by rfl) ((hO.move (w' := W.drew) (fun _ _ => rfl)).alloc _) x _ (by rfl) (heap_at rfl) (fun _ => False) rfl (fun _ hf => hf.elim) (fun _ hf => hf.elim) (by omega) (fun k => F k ∨ w.heap.size ≤ k) (fun _ hk => .inl hk) (fun _ hf => hf.elim) (fun k hk => .inr (by first | omega | (simp at hk; omega))) ?_
  intro v3 w3 hO3 hG3 hat3
  obtain ⟨A3, c3, rfl, m3⟩ := hO3.shape
  have hC3 : Ch (fun k => k = g ∨ F k) w w3 := ((hC.drew).alloc _).grown hG3 (fun k hk => .inl (.inr (hO.inF hk)))
  have B3 : w3.heap[g]? = some (.cells #[.slice A1 l.length c1, .func (.func 131) #[] #[]] 178 (0, 0)) := (hG3.block g (by simp; omega) (fun e => hap (hO.inF e.symm))).trans ((heap_old (by simpa using hgW)).trans B0)
  have HS3 : Kept F W w3 := ⟨fun k hk hn => (hG3.block k (by simp; omega) (fun e => hn (hO.inF e.symm))).trans (heap_old (by simpa using hk)), by have := hG3.size; simp at this; omega⟩
  refine hK _ _ (Or.inr HS3) ?_
  clear hK K HS
  have HS := HS3
  clear HS3
  go_simp
  iterate 2 (first | (refine z_take (v := ?_) (by rfl) HS (by rfl) ?_ ?_; rotate_left; (focus (intro wS hS; obtain ⟨kc, kf⟩ := hS.cells; go_simp; (try (with_reducible rfl)); done)); (intro K hK; go_simp; refine hK _ ?_; clear hK K)) | (refine z_skip (by rfl) HS (by rfl) ?_; (intro K hK; go_simp; refine hK _ ?_; clear hK K)))
  have e1 : w3.cell? ⟨g, 0, none⟩ = some (.slice A1 l.length c1) := blk_cell B3 0
  have e2 := blk_frozen B3 0
  refine z_do (by rfl) (by rfl) (fun K hK => ?_)
  go_simp
  refine hK _ _ (Or.inl (by kernel_rfl)) ?_
  clear hK K e1 e2
  simp only [wpZ]
  have hFg : ¬ (F g ∨ w.heap.size ≤ g) := fun hh => hh.elim hap (fun h2 => by omega)
  have hOV := (hO3.setCell (i := 0) B3 (by decide) (.slice A3 (l ++ [x]).length c3)).bound
  have hCV := hC3.setCell (p := ⟨g, 0, none⟩) (.inl (.inl rfl)) (.slice A3 (l ++ [x]).length c3)
  have BV := blk_set B3 0 (.slice A3 (l ++ [x]).length c3)
  simp only [List.setIfInBounds_toArray, List.set_cons_zero] at BV
  have hl1 : (l ++ [x]).length = l.length + 1 := by simp
  rw [hl1] at hOV hCV BV
  have HP := hid (show hpush evLess l x = hup evLess l.length (l ++ [x]) l.length from rfl)
  obtain ⟨m0, hm0⟩ : ∃ m, m = l ++ [x] := ⟨_, rfl⟩
  rw [← hm0] at hOV hl1
  rw [← hm0] at HP
  have HM := hid hl1
  have hlm : l.length < m0.length := by omega
  have hlm2 : m0.length ≤ 1001 := by omega
  clear hm0 hl1 HS B0 BX hO hC hap hxF a0 x0 x1 x2 x3 x4 x5 x6 hgW hxW hs hO3 hG3 hat3 hC3 B3 m3
  generalize w3.setCell ⟨g, 0, none⟩ (.slice A3 (l.length + 1) c3) = V at *
  have a0 : V.cell? ⟨g, 0, none⟩ = some (.slice A3 (l.length + 1) c3) := blk_cell BV 0
  have a1 : V.cell? ⟨g, 1, none⟩ = some (.func (.func 131) #[] #[]) := blk_cell BV 1
  obtain ⟨gb, ab, curb, hXb, hgb, hgbl, hgbb⟩ := hOV.head (by omega)
  obtain ⟨rfl, rfl⟩ : A3 = some ⟨gb, 0, none⟩ ∧ c3 = ab := by injection hXb with u1 u2 u3; exact ⟨u1, u3⟩
  clear hXb hgbl hgbb curb
  go_wp2_with fail
  go_loopw [4] (fun t wr => ∃ (k : Nat) (m : List EvD), t = .int .i64 k ∧ k < m.length ∧ m.length ≤ 1001 ∧ Hid (m.length = l.length + 1) ∧ wr.heap[g]? = some (.cells #[.slice (some ⟨gb, 0, none⟩) (l.length + 1) c3, .func (.func 131) #[] #[]] 178 (0, 0)) ∧ Ow tEv 181 wr (fun q => (F q ∨ w.heap.size ≤ q) ∧ q < V.heap.size) (.slice (some ⟨gb, 0, none⟩) (l.length + 1) c3) m ∧ Ch (fun q => q = g ∨ F q) w wr ∧ V.heap.size ≤ wr.heap.size ∧ Hid (hpush evLess l x = hup evLess k m k)) (fun t _ => (intOf t).toNat)
  case atStart => exact ⟨l.length, m0, rfl, hlm, hlm2, HM, BV, hOV, hCV, Nat.le_refl _, HP⟩
  case round =>
    clear BV hOV hCV HP HM hlm hlm2 a0 a1
    obtain ⟨k, m, rfl, hk, hm1, HM, BV, hOV, hCV, hVW, HP⟩ := hrel
    have hfin : ∀ {wz : World}, wz.heap[g]? = some (.cells #[.slice (some ⟨gb, 0, none⟩) (l.length + 1) c3, .func (.func 131) #[] #[]] 178 (0, 0)) → Ow tEv 181 wz (fun q => (F q ∨ w.heap.size ≤ q) ∧ q < V.heap.size) (.slice (some ⟨gb, 0, none⟩) (l.length + 1) c3) m → V.heap.size ≤ wz.heap.size → HeapAt tEv 181 178 131 wz g (fun q => (F q ∨ w.heap.size ≤ q) ∧ q < V.heap.size) (.slice (some ⟨gb, 0, none⟩) (l.length + 1) c3) m := fun e1 e2 e3 => ⟨e1, e2, fun hh => hFg hh.1, fun q hq => Nat.lt_of_lt_of_le hq.2 e3⟩
    have a0 : wr.cell? ⟨g, 0, none⟩ = some (.slice (some ⟨gb, 0, none⟩) (l.length + 1) c3) := blk_cell BV 0
    have a1 : wr.cell? ⟨g, 1, none⟩ = some (.func (.func 131) #[] #[]) := blk_cell BV 1
    have hgwr := blk_lt BV
    by_cases h0 : k = 0
    · have HE := hid (show hpush evLess l x = m by rw [HP.out, h0]; rfl)
      have kd : decide ((k : Int) > 0) = false := decide_eq_false (by omega)
      have kd' : decide (0 < k) = false := decide_eq_false (by omega)
      clear h0
      go_wp2_with fail
      go_end0
      exact ⟨rfl, _, (fun q => (F q ∨ w.heap.size ≤ q) ∧ q < V.heap.size), by rw [HE.out]; exact hfin BV hOV hVW, fun q hq => hq.1, hCV⟩
    · obtain ⟨u, hu⟩ : ∃ u, u = (k - 1) / 2 := ⟨_, rfl⟩
      have hu0 : ((k : Int) - 1) / 2 = (u : Int) := by omega
      have huk : u < k := by omega
      have hum : u < m.length := by omega
      have HU := hid hu
      have kd : decide ((k : Int) > 0) = true := decide_eq_true (by omega)
      have kd' : decide (0 < k) = true := decide_eq_true (by omega)
      have p1 : (1 : Int) ≤ (k : Int) := by omega
      have p2 : 1 ≤ k := by omega
      have p3 : (k : Int) < (l.length : Int) + 1 := by have := HM.out; omega
      have p4 : (u : Int) < (l.length : Int) + 1 := by have := HM.out; omega
      clear h0 hu
      go_upto_region 5 with fail
      simp only [hu0]
      clear hu0
      obtain ⟨bb, oo, hA1, hbl, z0, z1, z2, z3, z4, z5, z6⟩ := ev_at (j := k) hOV.rd hk
      injection hA1 with hA1
      injection hA1 with e1 e2 _
      subst e1 e2
      obtain ⟨bb, oo, hA1, -, y0, y1, y2, y3, y4, y5, y6⟩ := ev_at (j := u) hOV.rd hum
      injection hA1 with hA1
      injection hA1 with e1 e2 _
      subst e1 e2
      simp only [Nat.zero_add] at z0 z1 z2 z3 z4 z5 z6 y0 y1 y2 y3 y4 y5 y6
      obtain ⟨bt, hbt⟩ : ∃ bt, evLess m[k] m[u] = bt := ⟨_, rfl⟩
      refine region_z (fun w' => Below wr.heap.size wr w') (.take 0 (.take 1 (.take 2 (.take 3 (.take 4 (.take 5 (.take 6 (.take 7 (.take 8 (.take 9 (.take 10 (.take 11 (.take 12 (.take 13 (.take 14 (.take 15 (.take 16 (.take 17 (.one 18 (.take 19 (.nil))))))))))))))))))))) (by kernel_rfl) (by kernel_rfl) (fun _ _ d _ _ h => by cases d <;> exact h) ?_
      have HS := (Below.refl wr.heap.size wr).drew
      iterate 18 (first | (refine z_take (v := ?_) (by rfl) HS (by rfl) ?_ ?_; rotate_left; (focus (intro wS hS; obtain ⟨kc, kf⟩ := bcell hS; go_simp; (try (with_reducible rfl)); done)); (intro K hK; go_simp; refine hK _ ?_; clear hK K)) | (refine z_skip (by rfl) HS (by rfl) ?_; (intro K hK; go_simp; refine hK _ ?_; clear hK K)))
      refine z_do (by rfl) (by rfl) (fun K hK => ?_)
      go_simp
      refine (keyLess_c m[k] m[u] _).mono ?_
      rintro e w5 ⟨he, hb5⟩
      rw [hbt] at he
      subst he
      have HS1 := bthen' HS hb5
      refine hK _ _ (Or.inr HS1) ?_
      clear hK K HS hb5
      have HS := HS1
      clear HS1
      iterate 1 (first | (refine z_take (v := ?_) (by rfl) HS (by rfl) ?_ ?_; rotate_left; (focus (intro wS hS; obtain ⟨kc, kf⟩ := bcell hS; go_simp; (try (with_reducible rfl)); done)); (intro K hK; go_simp; refine hK _ ?_; clear hK K)) | (refine z_skip (by rfl) HS (by rfl) ?_; (intro K hK; go_simp; refine hK _ ?_; clear hK K)))
      simp only [wpZ]
      have hR1 : Ow tEv 181 w5 (fun q => (F q ∨ w.heap.size ≤ q) ∧ q < V.heap.size) (.slice (some ⟨gb, 0, none⟩) (l.length + 1) c3) m := hOV.below HS
      have B5 := below_heap HS hgwr BV
      have hC5 := hCV.trans (Ch.of_below HS)
      have hV5 := Nat.le_trans hVW HS.size
      clear hOV BV hCV hVW a0 a1 HS z0 z1 z2 z3 z4 z5 z6 y0 y1 y2 y3 y4 y5 y6 hgwr hbl
      cases bt
      case false =>
        have HE := hid (show hpush evLess l x = m by
          rw [HP.out]
          obtain ⟨k', rfl⟩ : ∃ k', k = k' + 1 := ⟨k - 1, by omega⟩
          rw [hup, if_neg (by omega), ← HU.out, nth_eq hk, nth_eq hum, hbt]; rfl)
        clear hbt
        go_wp2_with fail
        go_end0
        exact ⟨rfl, _, (fun q => (F q ∨ w.heap.size ≤ q) ∧ q < V.heap.size), by rw [HE.out]; exact hfin B5 hR1 hV5, fun q hq => hq.1, hC5⟩
      case true =>
        clear hfin
        go_upto_region 6 with fail
        have a0 : w5.cell? ⟨g, 0, none⟩ = some (.slice (some ⟨gb, 0, none⟩) (l.length + 1) c3) := blk_cell B5 0
        have hg5 := blk_lt B5
        obtain ⟨bb, oo, hA1, hbl, z0, z1, z2, z3, z4, z5, z6⟩ := ev_at (j := k) hR1.rd hk
        injection hA1 with hA1
        injection hA1 with e1 e2 _
        subst e1 e2
        obtain ⟨bb, oo, hA1, -, y0, y1, y2, y3, y4, y5, y6⟩ := ev_at (j := u) hR1.rd hum
        injection hA1 with hA1
        injection hA1 with e1 e2 _
        subst e1 e2
        simp only [Nat.zero_add] at z0 z1 z2 z3 z4 z5 z6 y0 y1 y2 y3 y4 y5 y6
        refine region_e (fun w' => Below w5.heap.size w5 w') [3, 8, 13, 16, 20, 23] (.pure 0 (.pure 1 (.pure 2 (.take 3 (.pure 4 (.pure 5 (.pure 6 (.pure 7 (.take 8 (.pure 9 (.pure 10 (.pure 11 (.pure 12 (.take 13 (.pure 14 (.pure 15 (.take 16 (.pure 17 (.pure 18 (.pure 19 (.take 20 (.pure 21 (.pure 22 (.take 23 (.one 24 (.one 25 (.one 26 (.one 27 (.nil))))))))))))))))))))))))))))) (by kernel_rfl) (by kernel_rfl) (fun _ _ d _ _ h => by cases d <;> exact h) ?_
        have HS := (Below.refl w5.heap.size w5).drew
        iterate 3 (refine e_pure (v := ?_) (by rfl) (by rfl) ?_ ?_; rotate_left; (focus (intro wS; go_simp; (try (with_reducible rfl)); done)); (intro K hK; go_simp; refine hK _ ?_; clear hK K))
        iterate 1 (refine e_take (v := ?_) (by rfl) HS (by rfl) ?_ ?_; rotate_left; (focus (intro wS hS; obtain ⟨kc, kf⟩ := bcell hS; go_simp; (try (with_reducible rfl)); done)); (intro K hK; go_simp; refine hK _ ?_; clear hK K))
        iterate 4 (refine e_pure (v := ?_) (by rfl) (by rfl) ?_ ?_; rotate_left; (focus (intro wS; go_simp; (try (with_reducible rfl)); done)); (intro K hK; go_simp; refine hK _ ?_; clear hK K))
        iterate 1 (refine e_take (v := ?_) (by rfl) HS (by rfl) ?_ ?_; rotate_left; (focus (intro wS hS; obtain ⟨kc, kf⟩ := bcell hS; go_simp; (try (with_reducible rfl)); done)); (intro K hK; go_simp; refine hK _ ?_; clear hK K))
        iterate 4 (refine e_pure (v := ?_) (by rfl) (by rfl) ?_ ?_; rotate_left; (focus (intro wS; go_simp; (try (with_reducible rfl)); done)); (intro K hK; go_simp; refine hK _ ?_; clear hK K))
        iterate 1 (refine e_take (v := ?_) (by rfl) HS (by rfl) ?_ ?_; rotate_left; (focus (intro wS hS; obtain ⟨kc, kf⟩ := bcell hS; go_simp; (try (with_reducible rfl)); done)); (intro K hK; go_simp; refine hK _ ?_; clear hK K))
        iterate 2 (refine e_pure (v := ?_) (by rfl) (by rfl) ?_ ?_; rotate_left; (focus (intro wS; go_simp; (try (with_reducible rfl)); done)); (intro K hK; go_simp; refine hK _ ?_; clear hK K))
        iterate 1 (refine e_take (v := ?_) (by rfl) HS (by rfl) ?_ ?_; rotate_left; (focus (intro wS hS; obtain ⟨kc, kf⟩ := bcell hS; go_simp; (try (with_reducible rfl)); done)); (intro K hK; go_simp; refine hK _ ?_; clear hK K))
        iterate 3 (refine e_pure (v := ?_) (by rfl) (by rfl) ?_ ?_; rotate_left; (focus (intro wS; go_simp; (try (with_reducible rfl)); done)); (intro K hK; go_simp; refine hK _ ?_; clear hK K))
        iterate 1 (refine e_take (v := ?_) (by rfl) HS (by rfl) ?_ ?_; rotate_left; (focus (intro wS hS; obtain ⟨kc, kf⟩ := bcell hS; go_simp; (try (with_reducible rfl)); done)); (intro K hK; go_simp; refine hK _ ?_; clear hK K))
        iterate 2 (refine e_pure (v := ?_) (by rfl) (by rfl) ?_ ?_; rotate_left; (focus (intro wS; go_simp; (try (with_reducible rfl)); done)); (intro K hK; go_simp; refine hK _ ?_; clear hK K))
        iterate 1 (refine e_take (v := ?_) (by rfl) HS (by rfl) ?_ ?_; rotate_left; (focus (intro wS hS; obtain ⟨kc, kf⟩ := bcell hS; go_simp; (try (with_reducible rfl)); done)); (intro K hK; go_simp; refine hK _ ?_; clear hK K))
        refine e_do (by rfl) (by rfl) (fun K hK => ?_)
        go_simp
        refine hK _ _ (Or.inl (by kernel_rfl)) ?_
        clear hK K
        have hR2 : Ow tEv 181 w5.drew (fun q => (F q ∨ w.heap.size ≤ q) ∧ q < V.heap.size) (.slice (some ⟨gb, 0, none⟩) (l.length + 1) c3) m := hR1.below HS
        obtain ⟨s1, s2, s3⟩ := hR2.setAt (g := gb) rfl k hk m[u]
        refine e_do (by rfl) (by rfl) (fun K hK => ?_)
        refine wp_store_mid 181 (.tmp 71) (.tmp 63) (by rfl) gb (k * 7) (EvD.cells m[u]).toArray (by rfl) (by rfl) s1 (by kernel_rfl) (by simp [EvD.cells, Value.oneCell']) ?_
        refine hK _ _ (Or.inl (by kernel_rfl)) ?_
        clear hK K s1
        simp only [List.toList_toArray]
        generalize w5.drew.setCells gb (k * 7) (EvD.cells m[u]) = Wa at *
        go_simp
        refine e_do (by rfl) (by rfl) (fun K hK => ?_)
        go_simp
        refine hK _ _ (Or.inl (by kernel_rfl)) ?_
        clear hK K
        obtain ⟨q1, q2, q3⟩ := s2.setAt (g := gb) rfl u (by simpa using hum) m[k]
        refine e_do (by rfl) (by rfl) (fun K hK => ?_)
        refine wp_store_mid 181 (.tmp 72) (.tmp 70) (by rfl) gb (u * 7) (EvD.cells m[k]).toArray (by rfl) (by rfl) q1 (by kernel_rfl) (by simp [EvD.cells, Value.oneCell']) ?_
        refine hK _ _ (Or.inl (by kernel_rfl)) ?_
        clear hK K
        have hne : g ≠ gb := fun e1 => hFg (e1 ▸ hgb.1)
        have hCs : Ch (fun q => q = gb) w5.drew (Wa.setCells gb (u * 7) (EvD.cells m[k])) := s3.trans q3
        have BX6 := hCs.heap (show w5.drew.heap[g]? = _ from B5) hne
        have hC6 : Ch (fun q => q = g ∨ F q) w (Wa.setCells gb (u * 7) (EvD.cells m[k])) := (hC5.drew).then hCs (fun q hq => by
          have hq' : q = gb := hq
          subst hq'
          rcases hgb.1 with h1 | h1
          · exact .inl (.inr h1)
          · exact .inr h1)
        have hV6 : V.heap.size ≤ (Wa.setCells gb (u * 7) (EvD.cells m[k])).heap.size := Nat.le_trans hV5 hCs.size
        have hsw : (m.set k m[u]).set u m[k] = swp m k u := by rw [swp, nth_eq hk, nth_eq hum]
        rw [hsw] at q2
        have hln : (swp m k u).length = m.length := swp_len m k u
        have HM6 := hid (show (swp m k u).length = l.length + 1 by rw [hln]; exact HM.out)
        have HP6 := hid (show hpush evLess l x = hup evLess u (swp m k u) u by
          rw [HP.out]
          obtain ⟨k', rfl⟩ : ∃ k', k = k' + 1 := ⟨k - 1, by omega⟩
          rw [hup, if_neg (by omega), ← HU.out, nth_eq hk, nth_eq hum, if_pos hbt]
          exact hup_fuel _ _ _ _ (by omega) (Nat.le_refl _))
        have hu6 : u < (swp m k u).length := by rw [hln]; exact hum
        have hm6 : (swp m k u).length ≤ 1001 := by rw [hln]; exact hm1
        clear hbt hR1 B5 hC5 hV5 HS hR2 s2 s3 q1 q3 hCs hsw hln z0 z1 z2 z3 z4 z5 z6 y0 y1 y2 y3 y4 y5 y6 a0 HP HM hg5 hbl
        simp only [List.toList_toArray]
        generalize Wa.setCells gb (u * 7) (EvD.cells m[k]) = W6 at *
        go_simp
        simp only [wpE]
        go_wp2_with fail
        go_roundw
        case rel => exact ⟨u, _, rfl, hu6, hm6, HM6, BX6, q2, hC6, hV6, HP6⟩
        case measure => simp [intOf]; omega
end Go.Proofs.YtbcemldiahghcaaGreat
