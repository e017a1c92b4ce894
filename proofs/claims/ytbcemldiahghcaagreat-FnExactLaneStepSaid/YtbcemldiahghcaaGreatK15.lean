/- Texts joined: Imp4, Imp5, Imp6. -/
import Derived.Test.YtbcemldiahghcaaGreatK14
import Derived.Test.YtbcemldiahghcaaGreatK11
import Derived.Test.YtbcemldiahghcaaGreatK01
import Derived.Test.YtbcemldiahghcaaGreatK13
namespace Go.Proofs.YtbcemldiahghcaaGreat
set_option linter.unusedVariables false
set_option linter.unusedSimpArgs false
set_option maxRecDepth 100000
open Go.RowKit
/-- A heap in memory: its row and its order. -/
structure HeapAt {α : Type} (d : Ty α) (e t : TypeId) (less : FuncId) (w : World) (g : Nat) (F : Nat → Prop) (v : Value) (xs : List α) : Prop where
  blk : w.heap[g]? = some (.cells #[v, .func (.func less) #[] #[]] t (0, 0))
  row : Ow d e w F v xs
  apart : ¬ F g
  lt : ∀ k, F k → k < w.heap.size
/-- What lies outside F is as it was. -/
def Kept (F : Nat → Prop) (W w' : World) : Prop := (∀ k, k < W.heap.size → ¬ F k → w'.heap[k]? = W.heap[k]?) ∧ W.heap.size ≤ w'.heap.size
theorem Kept.cells {F : Nat → Prop} {W w' : World} (h : Kept F W w') : (∀ b o, b < W.heap.size → ¬ F b → w'.cell? ⟨b, o, none⟩ = W.cell? ⟨b, o, none⟩) ∧ (∀ b o, b < W.heap.size → ¬ F b → w'.frozen? ⟨b, o, none⟩ = W.frozen? ⟨b, o, none⟩) :=
  ⟨fun b o hb hn => World.cell?_of_block (w := W) (h.1 b hb hn), fun b o hb hn => World.frozen?_of_block (w := W) (h.1 b hb hn)⟩
set_option maxHeartbeats 4000000 in
theorem pushOut_c (g : Nat) (F : Nat → Prop) (v : Value) (l : List OutD) (x : OutD) (w : World) (h : HeapAt tOut 128 189 137 w g F v l) (hl : l.length ≤ 1000) :
    Calls Tryz.prog 138 #[.pointer (some ⟨g, 0, none⟩), outAgg x] w fun q w' => q = .returned (.tuple #[]) ∧ ∃ v' F', HeapAt tOut 128 189 137 w' g F' v' (hpush outLess l x) ∧ (∀ k, F' k → F k ∨ w.heap.size ≤ k) ∧ Ch (fun k => k = g ∨ F k) w w' := by
  obtain ⟨A1, c1, rfl, m1⟩ := h.row.shape
  unfold outAgg
  go_enter Tryz.func138, Tryz.ntmps138
  go_wp2_with fail
  have hgl := blk_lt h.blk
  have B0 := (heap_old (o := .cells #[.int .i64 x.time, .int .i64 x.proc, .int .i64 x.count, .int .i64 x.n, .int .i64 x.value] 128) hgl).trans h.blk
  have BX : (w.alloc (.cells #[.int .i64 x.time, .int .i64 x.proc, .int .i64 x.count, .int .i64 x.n, .int .i64 x.value] 128)).heap[w.heap.size]? = some (.cells #[.int .i64 x.time, .int .i64 x.proc, .int .i64 x.count, .int .i64 x.n, .int .i64 x.value] 128 (0, 0)) := heap_at rfl
  have hO := h.row.alloc (.cells #[.int .i64 x.time, .int .i64 x.proc, .int .i64 x.count, .int .i64 x.n, .int .i64 x.value] 128)
  have hC := (Ch.refl (fun k => k = g ∨ F k) w).alloc (.cells #[.int .i64 x.time, .int .i64 x.proc, .int .i64 x.count, .int .i64 x.n, .int .i64 x.value] 128)
  have hap := h.apart
  have hxF : ¬ F w.heap.size := fun hf => by have := h.lt _ hf; omega
  clear h
  generalize w.alloc (.cells #[.int .i64 x.time, .int .i64 x.proc, .int .i64 x.count, .int .i64 x.n, .int .i64 x.value] 128) = W at *
  have hs := hC.size
  have a0 : W.cell? ⟨g, 0, none⟩ = some (.slice A1 l.length c1) := blk_cell B0 0
  have x0 : W.cell? ⟨w.heap.size, 0, none⟩ = some (.int .i64 x.time) := blk_cell BX 0
  have x1 : W.cell? ⟨w.heap.size, 1, none⟩ = some (.int .i64 x.proc) := blk_cell BX 1
  have x2 : W.cell? ⟨w.heap.size, 2, none⟩ = some (.int .i64 x.count) := blk_cell BX 2
  have x3 : W.cell? ⟨w.heap.size, 3, none⟩ = some (.int .i64 x.n) := blk_cell BX 3
  have x4 : W.cell? ⟨w.heap.size, 4, none⟩ = some (.int .i64 x.value) := blk_cell BX 4
  have hgW := blk_lt B0
  have hxW := blk_lt BX
  refine region_z (fun w' => Kept F W w') (.take 0 (.take 1 (.take 2 (.take 3 (.take 4 (.take 5 (.one 6 (.one 7 (.take 8 (.take 9 (.one 10 (.nil)))))))))))) (by kernel_rfl) (by kernel_rfl) (fun _ _ d _ _ h => by cases d <;> exact h) ?_
  have HS := (show Kept F W W.drew from ⟨fun _ _ _ => rfl, Nat.le_refl _⟩)
  iterate 6 (first | (refine z_take (v := ?_) (by rfl) HS (by rfl) ?_ ?_; rotate_left; (focus (intro wS hS; obtain ⟨kc, kf⟩ := hS.cells; go_simp; (try (with_reducible rfl)); done)); (intro K hK; go_simp; refine hK _ ?_; clear hK K)) | (refine z_skip (by rfl) HS (by rfl) ?_; (intro K hK; go_simp; refine hK _ ?_; clear hK K)))
  refine z_do (by rfl) (by rfl) (fun K hK => ?_)
  go_simp
  refine hK _ _ (Or.inr ⟨fun k hk hn => (heap_old (by have := HS.2; omega)).trans (HS.1 k hk hn), Nat.le_trans HS.2 (by simp)⟩) ?_
  clear hK K
  refine z_do (by rfl) (by rfl) (fun K hK => ?_)
  refine ow_append_wp (d := tOut) 26 (by rfl) Tryz.underlying26 _ 40 info_out rfl (by decide) (by decide) (by rfl) ((hO.move (w' := W.drew) (fun _ _ => rfl)).alloc _) x _ (by rfl) (heap_at rfl) (fun _ => False) rfl (fun _ hf => hf.elim) (fun _ hf => hf.elim) (by omega) (fun k => F k ∨ w.heap.size ≤ k) (fun _ hk => .inl hk) (fun _ hf => hf.elim) (fun k hk => .inr (by first | omega | (simp at hk; omega))) ?_
  intro v3 w3 hO3 hG3 hat3
  obtain ⟨A3, c3, rfl, m3⟩ := hO3.shape
  have hC3 : Ch (fun k => k = g ∨ F k) w w3 := ((hC.drew).alloc _).grown hG3 (fun k hk => .inl (.inr (hO.inF hk)))
  have B3 : w3.heap[g]? = some (.cells #[.slice A1 l.length c1, .func (.func 137) #[] #[]] 189 (0, 0)) := (hG3.block g (by simp; omega) (fun e => hap (hO.inF e.symm))).trans ((heap_old (by simpa using hgW)).trans B0)
  have HS3 : Kept F W w3 := ⟨fun k hk hn => (hG3.block k (by simp; omega) (fun e => hn (hO.inF e.symm))).trans (heap_old (by simpa using hk)), by have := hG3.size; simp at this; omega⟩
  refine hK _ _ (Or.inr HS3) ?_
  clear hK K HS
  have HS := HS3
  clear HS3
  go_simp
  iterate 2 (first | (refine z_take (v := ?_) (by rfl) HS (by rfl) ?_ ?_; rotate_left; (focus (intro wS hS; obtain ⟨kc, kf⟩ := hS.cells; go_simp; (try (with_reducible rfl)); done)); (intro K hK; go_simp; refine hK _ ?_; clear hK K)) | (refine z_skip (by rfl) HS (by rfl) ?_; (intro K hK; go_simp; refine hK _ ?_; clear hK K)))
  have e1 : w3.cell? ⟨g, 0, none⟩ = some (.slice A1 l.length c1) := blk_cell B3 0
  have e2 := blk_frozen B3 0
  refine z_do (by rfl) (by rfl) (fun K hK => ?_)
  go_simp
  refine hK _ _ (Or.inl (by kernel_rfl)) ?_
  clear hK K e1 e2
  simp only [wpZ]
  have hFg : ¬ (F g ∨ w.heap.size ≤ g) := fun hh => hh.elim hap (fun h2 => by omega)
  have hOV := (hO3.setCell (i := 0) B3 (by decide) (.slice A3 (l ++ [x]).length c3)).bound
  have hCV := hC3.setCell (p := ⟨g, 0, none⟩) (.inl (.inl rfl)) (.slice A3 (l ++ [x]).length c3)
  have BV := blk_set B3 0 (.slice A3 (l ++ [x]).length c3)
  simp only [List.setIfInBounds_toArray, List.set_cons_zero] at BV
  have hl1 : (l ++ [x]).length = l.length + 1 := by simp
  rw [hl1] at hOV hCV BV
  have HP := hid (show hpush outLess l x = hup outLess l.length (l ++ [x]) l.length from rfl)
  obtain ⟨m0, hm0⟩ : ∃ m, m = l ++ [x] := ⟨_, rfl⟩
  rw [← hm0] at hOV hl1
  rw [← hm0] at HP
  have HM := hid hl1
  have hlm : l.length < m0.length := by omega
  have hlm2 : m0.length ≤ 1001 := by omega
  clear hm0 hl1 HS B0 BX hO hC hap hxF a0 x0 x1 x2 x3 x4 hgW hxW hs hO3 hG3 hat3 hC3 B3 m3
  generalize w3.setCell ⟨g, 0, none⟩ (.slice A3 (l.length + 1) c3) = V at *
  have a0 : V.cell? ⟨g, 0, none⟩ = some (.slice A3 (l.length + 1) c3) := blk_cell BV 0
  have a1 : V.cell? ⟨g, 1, none⟩ = some (.func (.func 137) #[] #[]) := blk_cell BV 1
  obtain ⟨gb, ab, curb, hXb, hgb, hgbl, hgbb⟩ := hOV.head (by omega)
  obtain ⟨rfl, rfl⟩ : A3 = some ⟨gb, 0, none⟩ ∧ c3 = ab := by injection hXb with u1 u2 u3; exact ⟨u1, u3⟩
  clear hXb hgbl hgbb curb
  go_wp2_with fail
  go_loopw [4] (fun t wr => ∃ (k : Nat) (m : List OutD), t = .int .i64 k ∧ k < m.length ∧ m.length ≤ 1001 ∧ Hid (m.length = l.length + 1) ∧ wr.heap[g]? = some (.cells #[.slice (some ⟨gb, 0, none⟩) (l.length + 1) c3, .func (.func 137) #[] #[]] 189 (0, 0)) ∧ Ow tOut 128 wr (fun q => (F q ∨ w.heap.size ≤ q) ∧ q < V.heap.size) (.slice (some ⟨gb, 0, none⟩) (l.length + 1) c3) m ∧ Ch (fun q => q = g ∨ F q) w wr ∧ V.heap.size ≤ wr.heap.size ∧ Hid (hpush outLess l x = hup outLess k m k)) (fun t _ => (intOf t).toNat)
  case atStart => exact ⟨l.length, m0, rfl, hlm, hlm2, HM, BV, hOV, hCV, Nat.le_refl _, HP⟩
  case round =>
    clear BV hOV hCV HP HM hlm hlm2 a0 a1
    obtain ⟨k, m, rfl, hk, hm1, HM, BV, hOV, hCV, hVW, HP⟩ := hrel
    have hfin : ∀ {wz : World}, wz.heap[g]? = some (.cells #[.slice (some ⟨gb, 0, none⟩) (l.length + 1) c3, .func (.func 137) #[] #[]] 189 (0, 0)) → Ow tOut 128 wz (fun q => (F q ∨ w.heap.size ≤ q) ∧ q < V.heap.size) (.slice (some ⟨gb, 0, none⟩) (l.length + 1) c3) m → V.heap.size ≤ wz.heap.size → HeapAt tOut 128 189 137 wz g (fun q => (F q ∨ w.heap.size ≤ q) ∧ q < V.heap.size) (.slice (some ⟨gb, 0, none⟩) (l.length + 1) c3) m := fun e1 e2 e3 => ⟨e1, e2, fun hh => hFg hh.1, fun q hq => Nat.lt_of_lt_of_le hq.2 e3⟩
    have a0 : wr.cell? ⟨g, 0, none⟩ = some (.slice (some ⟨gb, 0, none⟩) (l.length + 1) c3) := blk_cell BV 0
    have a1 : wr.cell? ⟨g, 1, none⟩ = some (.func (.func 137) #[] #[]) := blk_cell BV 1
    have hgwr := blk_lt BV
    by_cases h0 : k = 0
    · have HE := hid (show hpush outLess l x = m by rw [HP.out, h0]; rfl)
      have kd : decide ((k : Int) > 0) = false := decide_eq_false (by omega)
      have kd' : decide (0 < k) = false := decide_eq_false (by omega)
      clear h0
      go_wp2_with fail
      go_end0
      exact ⟨rfl, _, (fun q => (F q ∨ w.heap.size ≤ q) ∧ q < V.heap.size), by rw [HE.out]; exact hfin BV hOV hVW, fun q hq => hq.1, hCV⟩
    · obtain ⟨u, hu⟩ : ∃ u, u = (k - 1) / 2 := ⟨_, rfl⟩
      have hu0 : ((k : Int) - 1) / 2 = (u : Int) := by omega
      have huk : u < k := by omega
      have hum : u < m.length := by omega
      have HU := hid hu
      have kd : decide ((k : Int) > 0) = true := decide_eq_true (by omega)
      have kd' : decide (0 < k) = true := decide_eq_true (by omega)
      have p1 : (1 : Int) ≤ (k : Int) := by omega
      have p2 : 1 ≤ k := by omega
      have p3 : (k : Int) < (l.length : Int) + 1 := by have := HM.out; omega
      have p4 : (u : Int) < (l.length : Int) + 1 := by have := HM.out; omega
      clear h0 hu
      go_upto_region 5 with fail
      simp only [hu0]
      clear hu0
      obtain ⟨bb, oo, hA1, hbl, z0, z1, z2, z3, z4⟩ := out_at (j := k) hOV.rd hk
      injection hA1 with hA1
      injection hA1 with e1 e2 _
      subst e1 e2
      obtain ⟨bb, oo, hA1, -, y0, y1, y2, y3, y4⟩ := out_at (j := u) hOV.rd hum
      injection hA1 with hA1
      injection hA1 with e1 e2 _
      subst e1 e2
      simp only [Nat.zero_add] at z0 z1 z2 z3 z4 y0 y1 y2 y3 y4
      obtain ⟨bt, hbt⟩ : ∃ bt, outLess m[k] m[u] = bt := ⟨_, rfl⟩
      refine region_z (fun w' => Below wr.heap.size wr w') (.take 0 (.take 1 (.take 2 (.take 3 (.take 4 (.take 5 (.take 6 (.take 7 (.take 8 (.take 9 (.take 10 (.take 11 (.take 12 (.take 13 (.take 14 (.take 15 (.take 16 (.take 17 (.one 18 (.take 19 (.nil))))))))))))))))))))) (by kernel_rfl) (by kernel_rfl) (fun _ _ d _ _ h => by cases d <;> exact h) ?_
      have HS := (Below.refl wr.heap.size wr).drew
      iterate 18 (first | (refine z_take (v := ?_) (by rfl) HS (by rfl) ?_ ?_; rotate_left; (focus (intro wS hS; obtain ⟨kc, kf⟩ := bcell hS; go_simp; (try (with_reducible rfl)); done)); (intro K hK; go_simp; refine hK _ ?_; clear hK K)) | (refine z_skip (by rfl) HS (by rfl) ?_; (intro K hK; go_simp; refine hK _ ?_; clear hK K)))
      refine z_do (by rfl) (by rfl) (fun K hK => ?_)
      go_simp
      refine (OutLessI_c m[k] m[u] _).mono ?_
      rintro e w5 ⟨he, hb5⟩
      rw [hbt] at he
      subst he
      have HS1 := bthen' HS hb5
      refine hK _ _ (Or.inr HS1) ?_
      clear hK K HS hb5
      have HS := HS1
      clear HS1
      iterate 1 (first | (refine z_take (v := ?_) (by rfl) HS (by rfl) ?_ ?_; rotate_left; (focus (intro wS hS; obtain ⟨kc, kf⟩ := bcell hS; go_simp; (try (with_reducible rfl)); done)); (intro K hK; go_simp; refine hK _ ?_; clear hK K)) | (refine z_skip (by rfl) HS (by rfl) ?_; (intro K hK; go_simp; refine hK _ ?_; clear hK K)))
      simp only [wpZ]
      have hR1 : Ow tOut 128 w5 (fun q => (F q ∨ w.heap.size ≤ q) ∧ q < V.heap.size) (.slice (some ⟨gb, 0, none⟩) (l.length + 1) c3) m := hOV.below HS
      have B5 := below_heap HS hgwr BV
      have hC5 := hCV.trans (Ch.of_below HS)
      have hV5 := Nat.le_trans hVW HS.size
      clear hOV BV hCV hVW a0 a1 HS z0 z1 z2 z3 z4 y0 y1 y2 y3 y4 hgwr hbl
      cases bt
      case false =>
        have HE := hid (show hpush outLess l x = m by
          rw [HP.out]
          obtain ⟨k', rfl⟩ : ∃ k', k = k' + 1 := ⟨k - 1, by omega⟩
          rw [hup, if_neg (by omega), ← HU.out, nth_eq hk, nth_eq hum, hbt]; rfl)
        clear hbt
        go_wp2_with fail
        go_end0
        exact ⟨rfl, _, (fun q => (F q ∨ w.heap.size ≤ q) ∧ q < V.heap.size), by rw [HE.out]; exact hfin B5 hR1 hV5, fun q hq => hq.1, hC5⟩
      case true =>
        clear hfin
        go_upto_region 6 with fail
        have a0 : w5.cell? ⟨g, 0, none⟩ = some (.slice (some ⟨gb, 0, none⟩) (l.length + 1) c3) := blk_cell B5 0
        have hg5 := blk_lt B5
        obtain ⟨bb, oo, hA1, hbl, z0, z1, z2, z3, z4⟩ := out_at (j := k) hR1.rd hk
        injection hA1 with hA1
        injection hA1 with e1 e2 _
        subst e1 e2
        obtain ⟨bb, oo, hA1, -, y0, y1, y2, y3, y4⟩ := out_at (j := u) hR1.rd hum
        injection hA1 with hA1
        injection hA1 with e1 e2 _
        subst e1 e2
        simp only [Nat.zero_add] at z0 z1 z2 z3 z4 y0 y1 y2 y3 y4
        refine region_e (fun w' => Below w5.heap.size w5 w') [3, 8, 13, 16, 20, 23] (.pure 0 (.pure 1 (.pure 2 (.take 3 (.pure 4 (.pure 5 (.pure 6 (.pure 7 (.take 8 (.pure 9 (.pure 10 (.pure 11 (.pure 12 (.take 13 (.pure 14 (.pure 15 (.take 16 (.pure 17 (.pure 18 (.pure 19 (.take 20 (.pure 21 (.pure 22 (.take 23 (.one 24 (.one 25 (.one 26 (.one 27 (.nil))))))))))))))))))))))))))))) (by kernel_rfl) (by kernel_rfl) (fun _ _ d _ _ h => by cases d <;> exact h) ?_
        have HS := (Below.refl w5.heap.size w5).drew
        iterate 3 (refine e_pure (v := ?_) (by rfl) (by rfl) ?_ ?_; rotate_left; (focus (intro wS; go_simp; (try (with_reducible rfl)); done)); (intro K hK; go_simp; refine hK _ ?_; clear hK K))
        iterate 1 (refine e_take (v := ?_) (by rfl) HS (by rfl) ?_ ?_; rotate_left; (focus (intro wS hS; obtain ⟨kc, kf⟩ := bcell hS; go_simp; (try (with_reducible rfl)); done)); (intro K hK; go_simp; refine hK _ ?_; clear hK K))
        iterate 4 (refine e_pure (v := ?_) (by rfl) (by rfl) ?_ ?_; rotate_left; (focus (intro wS; go_simp; (try (with_reducible rfl)); done)); (intro K hK; go_simp; refine hK _ ?_; clear hK K))
        iterate 1 (refine e_take (v := ?_) (by rfl) HS (by rfl) ?_ ?_; rotate_left; (focus (intro wS hS; obtain ⟨kc, kf⟩ := bcell hS; go_simp; (try (with_reducible rfl)); done)); (intro K hK; go_simp; refine hK _ ?_; clear hK K))
        iterate 4 (refine e_pure (v := ?_) (by rfl) (by rfl) ?_ ?_; rotate_left; (focus (intro wS; go_simp; (try (with_reducible rfl)); done)); (intro K hK; go_simp; refine hK _ ?_; clear hK K))
        iterate 1 (refine e_take (v := ?_) (by rfl) HS (by rfl) ?_ ?_; rotate_left; (focus (intro wS hS; obtain ⟨kc, kf⟩ := bcell hS; go_simp; (try (with_reducible rfl)); done)); (intro K hK; go_simp; refine hK _ ?_; clear hK K))
        iterate 2 (refine e_pure (v := ?_) (by rfl) (by rfl) ?_ ?_; rotate_left; (focus (intro wS; go_simp; (try (with_reducible rfl)); done)); (intro K hK; go_simp; refine hK _ ?_; clear hK K))
        iterate 1 (refine e_take (v := ?_) (by rfl) HS (by rfl) ?_ ?_; rotate_left; (focus (intro wS hS; obtain ⟨kc, kf⟩ := bcell hS; go_simp; (try (with_reducible rfl)); done)); (intro K hK; go_simp; refine hK _ ?_; clear hK K))
        iterate 3 (refine e_pure (v := ?_) (by rfl) (by rfl) ?_ ?_; rotate_left; (focus (intro wS; go_simp; (try (with_reducible rfl)); done)); (intro K hK; go_simp; refine hK _ ?_; clear hK K))
        iterate 1 (refine e_take (v := ?_) (by rfl) HS (by rfl) ?_ ?_; rotate_left; (focus (intro wS hS; obtain ⟨kc, kf⟩ := bcell hS; go_simp; (try (with_reducible rfl)); done)); (intro K hK; go_simp; refine hK _ ?_; clear hK K))
        iterate 2 (refine e_pure (v := ?_) (by rfl) (by rfl) ?_ ?_; rotate_left; (focus (intro wS; go_simp; (try (with_reducible rfl)); done)); (intro K hK; go_simp; refine hK _ ?_; clear hK K))
        iterate 1 (refine e_take (v := ?_) (by rfl) HS (by rfl) ?_ ?_; rotate_left; (focus (intro wS hS; obtain ⟨kc, kf⟩ := bcell hS; go_simp; (try (with_reducible rfl)); done)); (intro K hK; go_simp; refine hK _ ?_; clear hK K))
        refine e_do (by rfl) (by rfl) (fun K hK => ?_)
        go_simp
        refine hK _ _ (Or.inl (by kernel_rfl)) ?_
        clear hK K
        have hR2 : Ow tOut 128 w5.drew (fun q => (F q ∨ w.heap.size ≤ q) ∧ q < V.heap.size) (.slice (some ⟨gb, 0, none⟩) (l.length + 1) c3) m := hR1.below HS
        obtain ⟨s1, s2, s3⟩ := hR2.setAt (g := gb) rfl k hk m[u]
        refine e_do (by rfl) (by rfl) (fun K hK => ?_)
        refine wp_store_mid 128 (.tmp 71) (.tmp 63) (by rfl) gb (k * 5) (OutD.cells m[u]).toArray (by rfl) (by rfl) s1 (by kernel_rfl) (by simp [OutD.cells, Value.oneCell']) ?_
        refine hK _ _ (Or.inl (by kernel_rfl)) ?_
        clear hK K s1
        simp only [List.toList_toArray]
        generalize w5.drew.setCells gb (k * 5) (OutD.cells m[u]) = Wa at *
        go_simp
        refine e_do (by rfl) (by rfl) (fun K hK => ?_)
        go_simp
        refine hK _ _ (Or.inl (by kernel_rfl)) ?_
        clear hK K
        obtain ⟨q1, q2, q3⟩ := s2.setAt (g := gb) rfl u (by simpa using hum) m[k]
        refine e_do (by rfl) (by rfl) (fun K hK => ?_)
        refine wp_store_mid 128 (.tmp 72) (.tmp 70) (by rfl) gb (u * 5) (OutD.cells m[k]).toArray (by rfl) (by rfl) q1 (by kernel_rfl) (by simp [OutD.cells, Value.oneCell']) ?_
        refine hK _ _ (Or.inl (by kernel_rfl)) ?_
        clear hK K
        have hne : g ≠ gb := fun e1 => hFg (e1 ▸ hgb.1)
        have hCs : Ch (fun q => q = gb) w5.drew (Wa.setCells gb (u * 5) (OutD.cells m[k])) := s3.trans q3
        have BX6 := hCs.heap (show w5.drew.heap[g]? = _ from B5) hne
        have hC6 : Ch (fun q => q = g ∨ F q) w (Wa.setCells gb (u * 5) (OutD.cells m[k])) := (hC5.drew).then hCs (fun q hq => by
          have hq' : q = gb := hq
          subst hq'
          rcases hgb.1 with h1 | h1
          · exact .inl (.inr h1)
          · exact .inr h1)
        have hV6 : V.heap.size ≤ (Wa.setCells gb (u * 5) (OutD.cells m[k])).heap.size := Nat.le_trans hV5 hCs.size
        have hsw : (m.set k m[u]).set u m[k] = swp m k u := by rw [swp, nth_eq hk, nth_eq hum]
        rw [hsw] at q2
        have hln : (swp m k u).length = m.length := swp_len m k u
        have HM6 := hid (show (swp m k u).length = l.length + 1 by rw [hln]; exact HM.out)
        have HP6 := hid (show hpush outLess l x = hup outLess u (swp m k u) u by
          rw [HP.out]
          obtain ⟨k', rfl⟩ : ∃ k', k = k' + 1 := ⟨k - 1, by omega⟩
          rw [hup, if_neg (by omega), ← HU.out, nth_eq hk, nth_eq hum, if_pos hbt]
          exact hup_fuel _ _ _ _ (by omega) (Nat.le_refl _))
        have hu6 : u < (swp m k u).length := by rw [hln]; exact hum
        have hm6 : (swp m k u).length ≤ 1001 := by rw [hln]; exact hm1
        clear hbt hR1 B5 hC5 hV5 HS hR2 s2 s3 q1 q3 hCs hsw hln z0 z1 z2 z3 z4 y0 y1 y2 y3 y4 a0 HP HM hg5 hbl
        simp only [List.toList_toArray]
        generalize Wa.setCells gb (u * 5) (OutD.cells m[k]) = W6 at *
        go_simp
        simp only [wpE]
        go_wp2_with fail
        go_roundw
        case rel => exact ⟨u, _, rfl, hu6, hm6, HM6, BX6, q2, hC6, hV6, HP6⟩
        case measure => simp [intOf]; omega
end Go.Proofs.YtbcemldiahghcaaGreat

namespace Go.Proofs.YtbcemldiahghcaaGreat
set_option linter.unusedVariables false
set_option linter.unusedSimpArgs false
set_option maxRecDepth 100000
open Go.RowKit
theorem info_key : (Tryz.prog.info? 181).map (fun i => (i.zero, i.size, i.bytes)) = some (some (.agg #[.int .i64 0, .int .i64 0, .int .i64 0, .int .i64 0, .int .i64 0, .int .i64 0, .int .i64 0]), 7, 56) := by kernel_rfl
set_option maxHeartbeats 4000000 in
theorem pushEv_c (g : Nat) (F : Nat → Prop) (v : Value) (l : List EvD) (x : EvD) (w : World) (h : HeapAt tEv 181 178 131 w g F v l) (hl : l.length ≤ 1000) :
    Calls Tryz.prog 133 #[.pointer (some ⟨g, 0, none⟩), evAgg x] w fun q w' => q = .returned (.tuple #[]) ∧ ∃ v' F', HeapAt tEv 181 178 131 w' g F' v' (hpush evLess l x) ∧ (∀ k, F' k → F k ∨ w.heap.size ≤ k) ∧ Ch (fun k => k = g ∨ F k) w w' := by
  obtain ⟨A1, c1, rfl, m1⟩ := h.row.shape
  unfold evAgg
  go_enter Tryz.func133, Tryz.ntmps133
  go_wp2_with fail
  have hgl := blk_lt h.blk
  have B0 := (heap_old (o := .cells #[.int .i64 x.time, .int .i64 x.to, .int .i64 x.from_, .int .i64 x.count, .int .i64 x.n, .int .i64 x.kind, .int .i64 x.arg] 181) hgl).trans h.blk
  have BX : (w.alloc (.cells #[.int .i64 x.time, .int .i64 x.to, .int .i64 x.from_, .int .i64 x.count, .int .i64 x.n, .int .i64 x.kind, .int .i64 x.arg] 181)).heap[w.heap.size]? = some (.cells #[.int .i64 x.time, .int .i64 x.to, .int .i64 x.from_, .int .i64 x.count, .int .i64 x.n, .int .i64 x.kind, .int .i64 x.arg] 181 (0, 0)) := heap_at rfl
  have hO := h.row.alloc (.cells #[.int .i64 x.time, .int .i64 x.to, .int .i64 x.from_, .int .i64 x.count, .int .i64 x.n, .int .i64 x.kind, .int .i64 x.arg] 181)
  have hC := (Ch.refl (fun k => k = g ∨ F k) w).alloc (.cells #[.int .i64 x.time, .int .i64 x.to, .int .i64 x.from_, .int .i64 x.count, .int .i64 x.n, .int .i64 x.kind, .int .i64 x.arg] 181)
  have hap := h.apart
  have hxF : ¬ F w.heap.size := fun hf => by have := h.lt _ hf; omega
  clear h
  generalize w.alloc (.cells #[.int .i64 x.time, .int .i64 x.to, .int .i64 x.from_, .int .i64 x.count, .int .i64 x.n, .int .i64 x.kind, .int .i64 x.arg] 181) = W at *
  have hs := hC.size
  have a0 : W.cell? ⟨g, 0, none⟩ = some (.slice A1 l.length c1) := blk_cell B0 0
  have x0 : W.cell? ⟨w.heap.size, 0, none⟩ = some (.int .i64 x.time) := blk_cell BX 0
  have x1 : W.cell? ⟨w.heap.size, 1, none⟩ = some (.int .i64 x.to) := blk_cell BX 1
  have x2 : W.cell? ⟨w.heap.size, 2, none⟩ = some (.int .i64 x.from_) := blk_cell BX 2
  have x3 : W.cell? ⟨w.heap.size, 3, none⟩ = some (.int .i64 x.count) := blk_cell BX 3
  have x4 : W.cell? ⟨w.heap.size, 4, none⟩ = some (.int .i64 x.n) := blk_cell BX 4
  have x5 : W.cell? ⟨w.heap.size, 5, none⟩ = some (.int .i64 x.kind) := blk_cell BX 5
  have x6 : W.cell? ⟨w.heap.size, 6, none⟩ = some (.int .i64 x.arg) := blk_cell BX 6
  have hgW := blk_lt B0
  have hxW := blk_lt BX
  refine region_z (fun w' => Kept F W w') (.take 0 (.take 1 (.take 2 (.take 3 (.take 4 (.take 5 (.one 6 (.one 7 (.take 8 (.take 9 (.one 10 (.nil)))))))))))) (by kernel_rfl) (by kernel_rfl) (fun _ _ d _ _ h => by cases d <;> exact h) ?_
  have HS := (show Kept F W W.drew from ⟨fun _ _ _ => rfl, Nat.le_refl _⟩)
  iterate 6 (first | (refine z_take (v := ?_) (by rfl) HS (by rfl) ?_ ?_; rotate_left; (focus (intro wS hS; obtain ⟨kc, kf⟩ := hS.cells; go_simp; (try (with_reducible rfl)); done)); (intro K hK; go_simp; refine hK _ ?_; clear hK K)) | (refine z_skip (by rfl) HS (by rfl) ?_; (intro K hK; go_simp; refine hK _ ?_; clear hK K)))
  refine z_do (by rfl) (by rfl) (fun K hK => ?_)
  go_simp
  refine hK _ _ (Or.inr ⟨fun k hk hn => (heap_old (by have := HS.2; omega)).trans (HS.1 k hk hn), Nat.le_trans HS.2 (by simp)⟩) ?_
  clear hK K
  refine z_do (by rfl) (by rfl) (fun K hK => ?_)
  refine ow_append_wp (d := tEv) 176 (by rfl) Tryz.underlying176 _ 56 info_key rfl (by decide) (by decide) (by rfl) ((hO.move (w' := W.drew) (fun _ _ => rfl)).alloc _) x _ (by rfl) (heap_at rfl) (fun _ => False) rfl (fun _ hf => hf.elim) (fun _ hf => hf.elim) (by omega) (fun k => F k ∨ w.heap.size ≤ k) (fun _ hk => .inl hk) (fun _ hf => hf.elim) (fun k hk => .inr (by first | omega | (simp at hk; omega))) ?_
  intro v3 w3 hO3 hG3 hat3
  obtain ⟨A3, c3, rfl, m3⟩ := hO3.shape
  have hC3 : Ch (fun k => k = g ∨ F k) w w3 := ((hC.drew).alloc _).grown hG3 (fun k hk => .inl (.inr (hO.inF hk)))
  have B3 : w3.heap[g]? = some (.cells #[.slice A1 l.length c1, .func (.func 131) #[] #[]] 178 (0, 0)) := (hG3.block g (by simp; omega) (fun e => hap (hO.inF e.symm))).trans ((heap_old (by simpa using hgW)).trans B0)
  have HS3 : Kept F W w3 := ⟨fun k hk hn => (hG3.block k (by simp; omega) (fun e => hn (hO.inF e.symm))).trans (heap_old (by simpa using hk)), by have := hG3.size; simp at this; omega⟩
  refine hK _ _ (Or.inr HS3) ?_
  clear hK K HS
  have HS := HS3
  clear HS3
  go_simp
  iterate 2 (first | (refine z_take (v := ?_) (by rfl) HS (by rfl) ?_ ?_; rotate_left; (focus (intro wS hS; obtain ⟨kc, kf⟩ := hS.cells; go_simp; (try (with_reducible rfl)); done)); (intro K hK; go_simp; refine hK _ ?_; clear hK K)) | (refine z_skip (by rfl) HS (by rfl) ?_; (intro K hK; go_simp; refine hK _ ?_; clear hK K)))
  have e1 : w3.cell? ⟨g, 0, none⟩ = some (.slice A1 l.length c1) := blk_cell B3 0
  have e2 := blk_frozen B3 0
  refine z_do (by rfl) (by rfl) (fun K hK => ?_)
  go_simp
  refine hK _ _ (Or.inl (by kernel_rfl)) ?_
  clear hK K e1 e2
  simp only [wpZ]
  have hFg : ¬ (F g ∨ w.heap.size ≤ g) := fun hh => hh.elim hap (fun h2 => by omega)
  have hOV := (hO3.setCell (i := 0) B3 (by decide) (.slice A3 (l ++ [x]).length c3)).bound
  have hCV := hC3.setCell (p := ⟨g, 0, none⟩) (.inl (.inl rfl)) (.slice A3 (l ++ [x]).length c3)
  have BV := blk_set B3 0 (.slice A3 (l ++ [x]).length c3)
  simp only [List.setIfInBounds_toArray, List.set_cons_zero] at BV
  have hl1 : (l ++ [x]).length = l.length + 1 := by simp
  rw [hl1] at hOV hCV BV
  have HP := hid (show hpush evLess l x = hup evLess l.length (l ++ [x]) l.length from rfl)
  obtain ⟨m0, hm0⟩ : ∃ m, m = l ++ [x] := ⟨_, rfl⟩
  rw [← hm0] at hOV hl1
  rw [← hm0] at HP
  have HM := hid hl1
  have hlm : l.length < m0.length := by omega
  have hlm2 : m0.length ≤ 1001 := by omega
  clear hm0 hl1 HS B0 BX hO hC hap hxF a0 x0 x1 x2 x3 x4 x5 x6 hgW hxW hs hO3 hG3 hat3 hC3 B3 m3
  generalize w3.setCell ⟨g, 0, none⟩ (.slice A3 (l.length + 1) c3) = V at *
  have a0 : V.cell? ⟨g, 0, none⟩ = some (.slice A3 (l.length + 1) c3) := blk_cell BV 0
  have a1 : V.cell? ⟨g, 1, none⟩ = some (.func (.func 131) #[] #[]) := blk_cell BV 1
  obtain ⟨gb, ab, curb, hXb, hgb, hgbl, hgbb⟩ := hOV.head (by omega)
  obtain ⟨rfl, rfl⟩ : A3 = some ⟨gb, 0, none⟩ ∧ c3 = ab := by injection hXb with u1 u2 u3; exact ⟨u1, u3⟩
  clear hXb hgbl hgbb curb
  go_wp2_with fail
  go_loopw [4] (fun t wr => ∃ (k : Nat) (m : List EvD), t = .int .i64 k ∧ k < m.length ∧ m.length ≤ 1001 ∧ Hid (m.length = l.length + 1) ∧ wr.heap[g]? = some (.cells #[.slice (some ⟨gb, 0, none⟩) (l.length + 1) c3, .func (.func 131) #[] #[]] 178 (0, 0)) ∧ Ow tEv 181 wr (fun q => (F q ∨ w.heap.size ≤ q) ∧ q < V.heap.size) (.slice (some ⟨gb, 0, none⟩) (l.length + 1) c3) m ∧ Ch (fun q => q = g ∨ F q) w wr ∧ V.heap.size ≤ wr.heap.size ∧ Hid (hpush evLess l x = hup evLess k m k)) (fun t _ => (intOf t).toNat)
  case atStart => exact ⟨l.length, m0, rfl, hlm, hlm2, HM, BV, hOV, hCV, Nat.le_refl _, HP⟩
  case round =>
    clear BV hOV hCV HP HM hlm hlm2 a0 a1
    obtain ⟨k, m, rfl, hk, hm1, HM, BV, hOV, hCV, hVW, HP⟩ := hrel
    have hfin : ∀ {wz : World}, wz.heap[g]? = some (.cells #[.slice (some ⟨gb, 0, none⟩) (l.length + 1) c3, .func (.func 131) #[] #[]] 178 (0, 0)) → Ow tEv 181 wz (fun q => (F q ∨ w.heap.size ≤ q) ∧ q < V.heap.size) (.slice (some ⟨gb, 0, none⟩) (l.length + 1) c3) m → V.heap.size ≤ wz.heap.size → HeapAt tEv 181 178 131 wz g (fun q => (F q ∨ w.heap.size ≤ q) ∧ q < V.heap.size) (.slice (some ⟨gb, 0, none⟩) (l.length + 1) c3) m := fun e1 e2 e3 => ⟨e1, e2, fun hh => hFg hh.1, fun q hq => Nat.lt_of_lt_of_le hq.2 e3⟩
    have a0 : wr.cell? ⟨g, 0, none⟩ = some (.slice (some ⟨gb, 0, none⟩) (l.length + 1) c3) := blk_cell BV 0
    have a1 : wr.cell? ⟨g, 1, none⟩ = some (.func (.func 131) #[] #[]) := blk_cell BV 1
    have hgwr := blk_lt BV
    by_cases h0 : k = 0
    · have HE := hid (show hpush evLess l x = m by rw [HP.out, h0]; rfl)
      have kd : decide ((k : Int) > 0) = false := decide_eq_false (by omega)
      have kd' : decide (0 < k) = false := decide_eq_false (by omega)
      clear h0
      go_wp2_with fail
      go_end0
      exact ⟨rfl, _, (fun q => (F q ∨ w.heap.size ≤ q) ∧ q < V.heap.size), by rw [HE.out]; exact hfin BV hOV hVW, fun q hq => hq.1, hCV⟩
    · obtain ⟨u, hu⟩ : ∃ u, u = (k - 1) / 2 := ⟨_, rfl⟩
      have hu0 : ((k : Int) - 1) / 2 = (u : Int) := by omega
      have huk : u < k := by omega
      have hum : u < m.length := by omega
      have HU := hid hu
      have kd : decide ((k : Int) > 0) = true := decide_eq_true (by omega)
      have kd' : decide (0 < k) = true := decide_eq_true (by omega)
      have p1 : (1 : Int) ≤ (k : Int) := by omega
      have p2 : 1 ≤ k := by omega
      have p3 : (k : Int) < (l.length : Int) + 1 := by have := HM.out; omega
      have p4 : (u : Int) < (l.length : Int) + 1 := by have := HM.out; omega
      clear h0 hu
      go_upto_region 5 with fail
      simp only [hu0]
      clear hu0
      obtain ⟨bb, oo, hA1, hbl, z0, z1, z2, z3, z4, z5, z6⟩ := ev_at (j := k) hOV.rd hk
      injection hA1 with hA1
      injection hA1 with e1 e2 _
      subst e1 e2
      obtain ⟨bb, oo, hA1, -, y0, y1, y2, y3, y4, y5, y6⟩ := ev_at (j := u) hOV.rd hum
      injection hA1 with hA1
      injection hA1 with e1 e2 _
      subst e1 e2
      simp only [Nat.zero_add] at z0 z1 z2 z3 z4 z5 z6 y0 y1 y2 y3 y4 y5 y6
      obtain ⟨bt, hbt⟩ : ∃ bt, evLess m[k] m[u] = bt := ⟨_, rfl⟩
      refine region_z (fun w' => Below wr.heap.size wr w') (.take 0 (.take 1 (.take 2 (.take 3 (.take 4 (.take 5 (.take 6 (.take 7 (.take 8 (.take 9 (.take 10 (.take 11 (.take 12 (.take 13 (.take 14 (.take 15 (.take 16 (.take 17 (.one 18 (.take 19 (.nil))))))))))))))))))))) (by kernel_rfl) (by kernel_rfl) (fun _ _ d _ _ h => by cases d <;> exact h) ?_
      have HS := (Below.refl wr.heap.size wr).drew
      iterate 18 (first | (refine z_take (v := ?_) (by rfl) HS (by rfl) ?_ ?_; rotate_left; (focus (intro wS hS; obtain ⟨kc, kf⟩ := bcell hS; go_simp; (try (with_reducible rfl)); done)); (intro K hK; go_simp; refine hK _ ?_; clear hK K)) | (refine z_skip (by rfl) HS (by rfl) ?_; (intro K hK; go_simp; refine hK _ ?_; clear hK K)))
      refine z_do (by rfl) (by rfl) (fun K hK => ?_)
      go_simp
      refine (keyLess_c m[k] m[u] _).mono ?_
      rintro e w5 ⟨he, hb5⟩
      rw [hbt] at he
      subst he
      have HS1 := bthen' HS hb5
      refine hK _ _ (Or.inr HS1) ?_
      clear hK K HS hb5
      have HS := HS1
      clear HS1
      iterate 1 (first | (refine z_take (v := ?_) (by rfl) HS (by rfl) ?_ ?_; rotate_left; (focus (intro wS hS; obtain ⟨kc, kf⟩ := bcell hS; go_simp; (try (with_reducible rfl)); done)); (intro K hK; go_simp; refine hK _ ?_; clear hK K)) | (refine z_skip (by rfl) HS (by rfl) ?_; (intro K hK; go_simp; refine hK _ ?_; clear hK K)))
      simp only [wpZ]
      have hR1 : Ow tEv 181 w5 (fun q => (F q ∨ w.heap.size ≤ q) ∧ q < V.heap.size) (.slice (some ⟨gb, 0, none⟩) (l.length + 1) c3) m := hOV.below HS
      have B5 := below_heap HS hgwr BV
      have hC5 := hCV.trans (Ch.of_below HS)
      have hV5 := Nat.le_trans hVW HS.size
      clear hOV BV hCV hVW a0 a1 HS z0 z1 z2 z3 z4 z5 z6 y0 y1 y2 y3 y4 y5 y6 hgwr hbl
      cases bt
      case false =>
        have HE := hid (show hpush evLess l x = m by
          rw [HP.out]
          obtain ⟨k', rfl⟩ : ∃ k', k = k' + 1 := ⟨k - 1, by omega⟩
          rw [hup, if_neg (by omega), ← HU.out, nth_eq hk, nth_eq hum, hbt]; rfl)
        clear hbt
        go_wp2_with fail
        go_end0
        exact ⟨rfl, _, (fun q => (F q ∨ w.heap.size ≤ q) ∧ q < V.heap.size), by rw [HE.out]; exact hfin B5 hR1 hV5, fun q hq => hq.1, hC5⟩
      case true =>
        clear hfin
        go_upto_region 6 with fail
        have a0 : w5.cell? ⟨g, 0, none⟩ = some (.slice (some ⟨gb, 0, none⟩) (l.length + 1) c3) := blk_cell B5 0
        have hg5 := blk_lt B5
        obtain ⟨bb, oo, hA1, hbl, z0, z1, z2, z3, z4, z5, z6⟩ := ev_at (j := k) hR1.rd hk
        injection hA1 with hA1
        injection hA1 with e1 e2 _
        subst e1 e2
        obtain ⟨bb, oo, hA1, -, y0, y1, y2, y3, y4, y5, y6⟩ := ev_at (j := u) hR1.rd hum
        injection hA1 with hA1
        injection hA1 with e1 e2 _
        subst e1 e2
        simp only [Nat.zero_add] at z0 z1 z2 z3 z4 z5 z6 y0 y1 y2 y3 y4 y5 y6
        refine region_e (fun w' => Below w5.heap.size w5 w') [3, 8, 13, 16, 20, 23] (.pure 0 (.pure 1 (.pure 2 (.take 3 (.pure 4 (.pure 5 (.pure 6 (.pure 7 (.take 8 (.pure 9 (.pure 10 (.pure 11 (.pure 12 (.take 13 (.pure 14 (.pure 15 (.take 16 (.pure 17 (.pure 18 (.pure 19 (.take 20 (.pure 21 (.pure 22 (.take 23 (.one 24 (.one 25 (.one 26 (.one 27 (.nil))))))))))))))))))))))))))))) (by kernel_rfl) (by kernel_rfl) (fun _ _ d _ _ h => by cases d <;> exact h) ?_
        have HS := (Below.refl w5.heap.size w5).drew
        iterate 3 (refine e_pure (v := ?_) (by rfl) (by rfl) ?_ ?_; rotate_left; (focus (intro wS; go_simp; (try (with_reducible rfl)); done)); (intro K hK; go_simp; refine hK _ ?_; clear hK K))
        iterate 1 (refine e_take (v := ?_) (by rfl) HS (by rfl) ?_ ?_; rotate_left; (focus (intro wS hS; obtain ⟨kc, kf⟩ := bcell hS; go_simp; (try (with_reducible rfl)); done)); (intro K hK; go_simp; refine hK _ ?_; clear hK K))
        iterate 4 (refine e_pure (v := ?_) (by rfl) (by rfl) ?_ ?_; rotate_left; (focus (intro wS; go_simp; (try (with_reducible rfl)); done)); (intro K hK; go_simp; refine hK _ ?_; clear hK K))
        iterate 1 (refine e_take (v := ?_) (by rfl) HS (by rfl) ?_ ?_; rotate_left; (focus (intro wS hS; obtain ⟨kc, kf⟩ := bcell hS; go_simp; (try (with_reducible rfl)); done)); (intro K hK; go_simp; refine hK _ ?_; clear hK K))
        iterate 4 (refine e_pure (v := ?_) (by rfl) (by rfl) ?_ ?_; rotate_left; (focus (intro wS; go_simp; (try (with_reducible rfl)); done)); (intro K hK; go_simp; refine hK _ ?_; clear hK K))
        iterate 1 (refine e_take (v := ?_) (by rfl) HS (by rfl) ?_ ?_; rotate_left; (focus (intro wS hS; obtain ⟨kc, kf⟩ := bcell hS; go_simp; (try (with_reducible rfl)); done)); (intro K hK; go_simp; refine hK _ ?_; clear hK K))
        iterate 2 (refine e_pure (v := ?_) (by rfl) (by rfl) ?_ ?_; rotate_left; (focus (intro wS; go_simp; (try (with_reducible rfl)); done)); (intro K hK; go_simp; refine hK _ ?_; clear hK K))
        iterate 1 (refine e_take (v := ?_) (by rfl) HS (by rfl) ?_ ?_; rotate_left; (focus (intro wS hS; obtain ⟨kc, kf⟩ := bcell hS; go_simp; (try (with_reducible rfl)); done)); (intro K hK; go_simp; refine hK _ ?_; clear hK K))
        iterate 3 (refine e_pure (v := ?_) (by rfl) (by rfl) ?_ ?_; rotate_left; (focus (intro wS; go_simp; (try (with_reducible rfl)); done)); (intro K hK; go_simp; refine hK _ ?_; clear hK K))
        iterate 1 (refine e_take (v := ?_) (by rfl) HS (by rfl) ?_ ?_; rotate_left; (focus (intro wS hS; obtain ⟨kc, kf⟩ := bcell hS; go_simp; (try (with_reducible rfl)); done)); (intro K hK; go_simp; refine hK _ ?_; clear hK K))
        iterate 2 (refine e_pure (v := ?_) (by rfl) (by rfl) ?_ ?_; rotate_left; (focus (intro wS; go_simp; (try (with_reducible rfl)); done)); (intro K hK; go_simp; refine hK _ ?_; clear hK K))
        iterate 1 (refine e_take (v := ?_) (by rfl) HS (by rfl) ?_ ?_; rotate_left; (focus (intro wS hS; obtain ⟨kc, kf⟩ := bcell hS; go_simp; (try (with_reducible rfl)); done)); (intro K hK; go_simp; refine hK _ ?_; clear hK K))
        refine e_do (by rfl) (by rfl) (fun K hK => ?_)
        go_simp
        refine hK _ _ (Or.inl (by kernel_rfl)) ?_
        clear hK K
        have hR2 : Ow tEv 181 w5.drew (fun q => (F q ∨ w.heap.size ≤ q) ∧ q < V.heap.size) (.slice (some ⟨gb, 0, none⟩) (l.length + 1) c3) m := hR1.below HS
        obtain ⟨s1, s2, s3⟩ := hR2.setAt (g := gb) rfl k hk m[u]
        refine e_do (by rfl) (by rfl) (fun K hK => ?_)
        refine wp_store_mid 181 (.tmp 71) (.tmp 63) (by rfl) gb (k * 7) (EvD.cells m[u]).toArray (by rfl) (by rfl) s1 (by kernel_rfl) (by simp [EvD.cells, Value.oneCell']) ?_
        refine hK _ _ (Or.inl (by kernel_rfl)) ?_
        clear hK K s1
        simp only [List.toList_toArray]
        generalize w5.drew.setCells gb (k * 7) (EvD.cells m[u]) = Wa at *
        go_simp
        refine e_do (by rfl) (by rfl) (fun K hK => ?_)
        go_simp
        refine hK _ _ (Or.inl (by kernel_rfl)) ?_
        clear hK K
        obtain ⟨q1, q2, q3⟩ := s2.setAt (g := gb) rfl u (by simpa using hum) m[k]
        refine e_do (by rfl) (by rfl) (fun K hK => ?_)
        refine wp_store_mid 181 (.tmp 72) (.tmp 70) (by rfl) gb (u * 7) (EvD.cells m[k]).toArray (by rfl) (by rfl) q1 (by kernel_rfl) (by simp [EvD.cells, Value.oneCell']) ?_
        refine hK _ _ (Or.inl (by kernel_rfl)) ?_
        clear hK K
        have hne : g ≠ gb := fun e1 => hFg (e1 ▸ hgb.1)
        have hCs : Ch (fun q => q = gb) w5.drew (Wa.setCells gb (u * 7) (EvD.cells m[k])) := s3.trans q3
        have BX6 := hCs.heap (show w5.drew.heap[g]? = _ from B5) hne
        have hC6 : Ch (fun q => q = g ∨ F q) w (Wa.setCells gb (u * 7) (EvD.cells m[k])) := (hC5.drew).then hCs (fun q hq => by
          have hq' : q = gb := hq
          subst hq'
          rcases hgb.1 with h1 | h1
          · exact .inl (.inr h1)
          · exact .inr h1)
        have hV6 : V.heap.size ≤ (Wa.setCells gb (u * 7) (EvD.cells m[k])).heap.size := Nat.le_trans hV5 hCs.size
        have hsw : (m.set k m[u]).set u m[k] = swp m k u := by rw [swp, nth_eq hk, nth_eq hum]
        rw [hsw] at q2
        have hln : (swp m k u).length = m.length := swp_len m k u
        have HM6 := hid (show (swp m k u).length = l.length + 1 by rw [hln]; exact HM.out)
        have HP6 := hid (show hpush evLess l x = hup evLess u (swp m k u) u by
          rw [HP.out]
          obtain ⟨k', rfl⟩ : ∃ k', k = k' + 1 := ⟨k - 1, by omega⟩
          rw [hup, if_neg (by omega), ← HU.out, nth_eq hk, nth_eq hum, if_pos hbt]
          exact hup_fuel _ _ _ _ (by omega) (Nat.le_refl _))
        have hu6 : u < (swp m k u).length := by rw [hln]; exact hum
        have hm6 : (swp m k u).length ≤ 1001 := by rw [hln]; exact hm1
        clear hbt hR1 B5 hC5 hV5 HS hR2 s2 s3 q1 q3 hCs hsw hln z0 z1 z2 z3 z4 z5 z6 y0 y1 y2 y3 y4 y5 y6 a0 HP HM hg5 hbl
        simp only [List.toList_toArray]
        generalize Wa.setCells gb (u * 7) (EvD.cells m[k]) = W6 at *
        go_simp
        simp only [wpE]
        go_wp2_with fail
        go_roundw
        case rel => exact ⟨u, _, rfl, hu6, hm6, HM6, BX6, q2, hC6, hV6, HP6⟩
        case measure => simp [intOf]; omega
end Go.Proofs.YtbcemldiahghcaaGreat

namespace Go.Proofs.YtbcemldiahghcaaGreat
set_option linter.unusedVariables false
set_option linter.unusedSimpArgs false
set_option maxRecDepth 100000
open Go.RowKit
theorem Ow.takeP {α : Type} {cells : α → List Value} {sz : Nat} {hl : ∀ x, (cells x).length = sz} {ho : ∀ x, ∀ u ∈ cells x, u.oneCell' = true} {e : TypeId} {w : World} {F : Nat → Prop} {A : Option Addr} {n c : Nat} {xs : List α}
    (h : Ow (flat cells sz hl ho) e w F (.slice A n c) xs) (k : Nat) (hk : k ≤ xs.length) : Ow (flat cells sz hl ho) e w F (.slice A k c) (xs.take k) := by
  have hF : ∀ q, (Value.slice A k c).ownBlock = some q → F q := fun q hq => h.inF (by cases A with | none => simp [Value.ownBlock] at hq | some a => simpa [Value.ownBlock] using hq)
  obtain ⟨h1, h2⟩ := h.flatRow
  have hlk : (xs.take k).length = k := by simp; omega
  refine Ow.of_flat (base := 0) ?_ hF
  rw [hlk]
  rcases h2 with ⟨e1, h2⟩ | ⟨g', cap, cur, e1, hb, hh, hc1, hc2, hc3, hc4⟩
  · injection e1 with e1 e2 e3
    subst e1 e3
    have : k = 0 := by omega
    subst this
    exact ⟨by simp, .inl ⟨rfl, rfl⟩⟩
  · injection e1 with e1 e2 e3
    subst e1 e2 e3
    refine ⟨by rw [flatMap_len hl, hlk], .inr ⟨g', c, cur, rfl, Nat.zero_le _, hh, by omega, hc2, hc3, ?_⟩⟩
    have hx : xs.flatMap cells = (xs.take k).flatMap cells ++ (xs.drop k).flatMap cells := by rw [← List.flatMap_append, List.take_append_drop]
    have hlen : ((xs.take k).flatMap cells).length = k * sz := by rw [flatMap_len hl, hlk]
    have := congrArg (List.take (k * sz)) hc4
    rw [hx, ← hlen, List.take_left, hlen, List.take_take, Nat.min_eq_left (Nat.mul_le_mul_right _ hk)] at this
    exact this
set_option maxHeartbeats 4000000 in
theorem popOut_c (g : Nat) (F : Nat → Prop) (v : Value) (l : List OutD) (w : World) (h : HeapAt tOut 128 189 137 w g F v l) (h0 : 0 < l.length) (hl : l.length ≤ 1000) :
    Calls Tryz.prog 156 #[.pointer (some ⟨g, 0, none⟩)] w fun q w' => q = .returned (outAgg (nth l 0)) ∧ ∃ v', HeapAt tOut 128 189 137 w' g F v' (hrest outLess l) ∧ Ch (fun k => k = g ∨ F k) w w' := by
  obtain ⟨n, hn⟩ : ∃ n, l.length = n + 1 := ⟨l.length - 1, by omega⟩
  obtain ⟨gb, c1, cur, rfl, hgb, hgbl, -⟩ := h.row.head h0
  rw [hn] at h
  have hn1 : n + 1 ≤ 1000 := by omega
  have HN := hid hn
  have hrow := h.row
  have hap := h.apart
  have hgl := blk_lt h.blk
  have B0 := h.blk
  have hFlt := h.lt
  have hne : g ≠ gb := fun e1 => hap (e1 ▸ hgb)
  obtain ⟨x, hx⟩ : ∃ x, nth l 0 = x := ⟨_, rfl⟩
  obtain ⟨z, hz⟩ : ∃ z, nth l n = z := ⟨_, rfl⟩
  have hnl : n < l.length := by omega
  have hcap : n + 1 ≤ c1 := by have := hrow.rd.capLe; omega
  obtain ⟨bb, oo, hA1, -, z0, z1, z2, z3, z4⟩ := out_at (j := 0) hrow.rd h0
  injection hA1 with hA1
  injection hA1 with e1 e2 _
  subst e1 e2
  simp only [Nat.zero_mul, Nat.zero_add] at z0 z1 z2 z3 z4
  rw [← nth_eq h0, hx] at z0 z1 z2 z3 z4
  have HX := hid hx
  have HZ := hid hz
  clear hx hn h hl hz
  have a0 : w.cell? ⟨g, 0, none⟩ = some (.slice (some ⟨gb, 0, none⟩) (n + 1) c1) := blk_cell B0 0
  have q1 : ¬ g = w.heap.size := by omega
  have q2 : ¬ gb = w.heap.size := by omega
  have q3 : ((n + 1 : Nat) : Int) - 1 = (n : Int) := by omega
  go_enter Tryz.func156, Tryz.ntmps156
  go_upto_region 3 with fail
  have hO := (hrow.alloc (.cells #[.int .i64 0, .int .i64 0, .int .i64 0, .int .i64 0, .int .i64 0] 128)).alloc (.cells #[.int .i64 x.time, .int .i64 x.proc, .int .i64 x.count, .int .i64 x.n, .int .i64 x.value] 128)
  have BR := (heap_old (o := .cells #[.int .i64 x.time, .int .i64 x.proc, .int .i64 x.count, .int .i64 x.n, .int .i64 x.value] 128) (by simp; omega)).trans ((heap_old (o := .cells #[.int .i64 0, .int .i64 0, .int .i64 0, .int .i64 0, .int .i64 0] 128) hgl).trans B0)
  have R0 : ((w.alloc (.cells #[.int .i64 0, .int .i64 0, .int .i64 0, .int .i64 0, .int .i64 0] 128)).alloc (.cells #[.int .i64 x.time, .int .i64 x.proc, .int .i64 x.count, .int .i64 x.n, .int .i64 x.value] 128)).heap[w.heap.size]? = some (.cells #[.int .i64 0, .int .i64 0, .int .i64 0, .int .i64 0, .int .i64 0] 128 (0, 0)) := (heap_old (by simp)).trans (heap_at rfl)
  have R1 : ((w.alloc (.cells #[.int .i64 0, .int .i64 0, .int .i64 0, .int .i64 0, .int .i64 0] 128)).alloc (.cells #[.int .i64 x.time, .int .i64 x.proc, .int .i64 x.count, .int .i64 x.n, .int .i64 x.value] 128)).heap[w.heap.size + 1]? = some (.cells #[.int .i64 x.time, .int .i64 x.proc, .int .i64 x.count, .int .i64 x.n, .int .i64 x.value] 128 (0, 0)) := heap_at (by simp)
  have hC := ((Ch.refl (fun k => k = g ∨ F k) w).alloc (.cells #[.int .i64 0, .int .i64 0, .int .i64 0, .int .i64 0, .int .i64 0] 128)).alloc (.cells #[.int .i64 x.time, .int .i64 x.proc, .int .i64 x.count, .int .i64 x.n, .int .i64 x.value] 128)
  generalize (w.alloc (.cells #[.int .i64 0, .int .i64 0, .int .i64 0, .int .i64 0, .int .i64 0] 128)).alloc (.cells #[.int .i64 x.time, .int .i64 x.proc, .int .i64 x.count, .int .i64 x.n, .int .i64 x.value] 128) = W at *
  clear a0 q1 q2 q3 z0 z1 z2 z3 z4 hrow B0
  have a0 : W.cell? ⟨g, 0, none⟩ = some (.slice (some ⟨gb, 0, none⟩) (n + 1) c1) := blk_cell BR 0
  obtain ⟨bb, oo, hA1, -, y0, y1, y2, y3, y4⟩ := out_at (j := n) hO.rd hnl
  injection hA1 with hA1
  injection hA1 with e1 e2 _
  subst e1 e2
  simp only [Nat.zero_mul, Nat.zero_add] at y0 y1 y2 y3 y4
  rw [← nth_eq hnl, HZ.out] at y0 y1 y2 y3 y4
  refine region_sg [.rd [0, 1, 2, 3, 4, 5, 6, 7, 8, 9, 10, 11]] [12] (by kernel_rfl) (by kernel_rfl) (fun _ _ d _ _ h => by cases d <;> exact h) ?_
  refine sg_rd (fun N hN => ?_)
  simp only [pickO, List.getElem?_toArray, List.getElem?_cons_zero, List.getElem?_cons_succ]
  go_wp2_with fail
  refine rd_next (hN _ ?_)
  clear hN N
  refine sg_fin ?_
  simp only [pickO, List.getElem?_toArray, List.getElem?_cons_zero, List.getElem?_cons_succ]
  have hOd : Ow tOut 128 W.drew F (.slice (some ⟨gb, 0, none⟩) (n + 1) c1) l := hO.move (fun _ _ => rfl)
  refine ow_store (cells := OutD.cells) (sz := 5) rfl _ _ _ rfl hOd (g := gb) rfl 0 h0 z (by first | rfl | simp) (by first | rfl | simp [OutD.cells]) (by kernel_rfl) ?_
  intro w1 hO1 hCs
  have B1 := hCs.heap (show W.drew.heap[g]? = _ from BR) hne
  have b0 : w1.cell? ⟨g, 0, none⟩ = some (.slice (some ⟨gb, 0, none⟩) (n + 1) c1) := blk_cell B1 0
  have b1 := blk_frozen B1 0
  have p1 : (n : Int) ≤ (c1 : Int) := by omega
  have p2 : n ≤ c1 := by omega
  clear a0 y0 y1 y2 y3 y4
  go_wp2_with fail
  have hrow2 := (hO1.takeP n (by rw [List.length_set]; omega)).ch (S := fun k => k = g) ((Ch.refl (fun k => k = g) w1).setCell (p := ⟨g, 0, none⟩) (.inl rfl) (.slice (some ⟨gb, 0, none⟩) n c1)) (fun k hk e1 => hap (e1 ▸ hk))
  have BV := blk_set B1 0 (.slice (some ⟨gb, 0, none⟩) n c1)
  simp only [List.setIfInBounds_toArray, List.set_cons_zero] at BV
  have hCV : Ch (fun k => k = g ∨ F k) w (w1.setCell ⟨g, 0, none⟩ (.slice (some ⟨gb, 0, none⟩) n c1)) := (hC.drew.then hCs (fun q hq => .inl (.inr (by have hq' : q = gb := hq; rw [hq']; exact hgb)))).setCell (p := ⟨g, 0, none⟩) (.inl (.inl rfl)) _
  have R0V := (Below.heap_setCell w1 (⟨g, 0, none⟩ : Addr) (.slice (some ⟨gb, 0, none⟩) n c1) w.heap.size (by simp; omega)).trans (hCs.heap (show W.drew.heap[w.heap.size]? = _ from R0) (by omega))
  have R1V := (Below.heap_setCell w1 (⟨g, 0, none⟩ : Addr) (.slice (some ⟨gb, 0, none⟩) n c1) (w.heap.size + 1) (by simp; omega)).trans (hCs.heap (show W.drew.heap[w.heap.size + 1]? = _ from R1) (by omega))
  have HP := hid (show hrest outLess l = hdown outLess (((l.set 0 z).take n).length + 1) ((l.set 0 z).take n) 0 by
    have hn := HN.out
    unfold hrest
    rw [hn, show n + 1 - 1 = n by omega, HZ.out]
    congr 1
    simp; omega)
  have HM0 := hid (show ((l.set 0 z).take n).length = n by simp; omega)
  have hS0 : w.heap.size ≤ (w1.setCell ⟨g, 0, none⟩ (.slice (some ⟨gb, 0, none⟩) n c1)).heap.size := hCV.size
  clear hO1 hCs B1 b0 b1 p1 p2 hC R0 R1 BR hO hOd
  generalize w1.setCell ⟨g, 0, none⟩ (.slice (some ⟨gb, 0, none⟩) n c1) = V at *
  generalize (l.set 0 z).take n = m0 at *
  go_loopw [5] (fun t wr => ∃ (k : Nat) (m : List OutD), t = .int .i64 k ∧ k ≤ 1000 ∧ Hid (m.length = n) ∧ wr.heap[g]? = some (.cells #[.slice (some ⟨gb, 0, none⟩) n c1, .func (.func 137) #[] #[]] 189 (0, 0)) ∧ wr.heap[w.heap.size]? = some (.cells #[.int .i64 0, .int .i64 0, .int .i64 0, .int .i64 0, .int .i64 0] 128 (0, 0)) ∧ wr.heap[w.heap.size + 1]? = some (.cells #[.int .i64 x.time, .int .i64 x.proc, .int .i64 x.count, .int .i64 x.n, .int .i64 x.value] 128 (0, 0)) ∧ Ow tOut 128 wr F (.slice (some ⟨gb, 0, none⟩) n c1) m ∧ Ch (fun q => q = g ∨ F q) w wr ∧ w.heap.size ≤ wr.heap.size ∧ Hid (hrest outLess l = hdown outLess (m.length + 1) m k)) (fun t _ => n - (intOf t).toNat)
  case atStart => exact ⟨0, m0, rfl, by omega, HM0, BV, R0V, R1V, hrow2, hCV, hS0, HP⟩
  case round =>
    clear BV R0V R1V hrow2 hCV hS0 HP HM0
    obtain ⟨k, m, rfl, hk, HM, BR, R0, R1, hO, hC, hS0, HP⟩ := hrel
    go_upto_region 7 with fail
    obtain ⟨d, hd⟩ : ∃ d, d = 2 * k + 1 := ⟨_, rfl⟩
    have hd0 : 2 * (k : Int) + 1 = (d : Int) := by omega
    have HD0 := hid hd
    simp only [hd0]
    clear hd0 hd
    by_cases hdn : n ≤ d
    · have HE := hid (show hrest outLess l = m by
        rw [HP.out, hdown, if_pos (by rw [HM.out, ← HD0.out]; exact hdn)])
      have kd : decide ((d : Int) ≥ (n : Int)) = true := decide_eq_true (by omega)
      have kd' : decide (n ≤ d) = true := decide_eq_true (by omega)
      clear hdn
      have r0 : wr.cell? ⟨w.heap.size + 1, 0, none⟩ = some (.int .i64 x.time) := blk_cell R1 0
      have c0 : wr.cell? ⟨w.heap.size, 0, none⟩ = some (.int .i64 0) := blk_cell R0 0
      have f0 := blk_frozen R0 0
      have r1 : wr.cell? ⟨w.heap.size + 1, 1, none⟩ = some (.int .i64 x.proc) := blk_cell R1 1
      have c1 : wr.cell? ⟨w.heap.size, 1, none⟩ = some (.int .i64 0) := blk_cell R0 1
      have f1 := blk_frozen R0 1
      have r2 : wr.cell? ⟨w.heap.size + 1, 2, none⟩ = some (.int .i64 x.count) := blk_cell R1 2
      have c2 : wr.cell? ⟨w.heap.size, 2, none⟩ = some (.int .i64 0) := blk_cell R0 2
      have f2 := blk_frozen R0 2
      have r3 : wr.cell? ⟨w.heap.size + 1, 3, none⟩ = some (.int .i64 x.n) := blk_cell R1 3
      have c3 : wr.cell? ⟨w.heap.size, 3, none⟩ = some (.int .i64 0) := blk_cell R0 3
      have f3 := blk_frozen R0 3
      have r4 : wr.cell? ⟨w.heap.size + 1, 4, none⟩ = some (.int .i64 x.value) := blk_cell R1 4
      have c4 : wr.cell? ⟨w.heap.size, 4, none⟩ = some (.int .i64 0) := blk_cell R0 4
      have f4 := blk_frozen R0 4
      go_wp2_with fail
      have hCz : Ch (fun q => q = w.heap.size) wr (((((wr.setCell ⟨w.heap.size, 0, none⟩ (.int .i64 x.time)).setCell ⟨w.heap.size, 1, none⟩ (.int .i64 x.proc)).setCell ⟨w.heap.size, 2, none⟩ (.int .i64 x.count)).setCell ⟨w.heap.size, 3, none⟩ (.int .i64 x.n)).setCell ⟨w.heap.size, 4, none⟩ (.int .i64 x.value)) := (((((Ch.refl (fun q => q = w.heap.size) wr).setCell (p := ⟨w.heap.size, 0, none⟩) (.inl rfl) (.int .i64 x.time)).setCell (p := ⟨w.heap.size, 1, none⟩) (.inl rfl) (.int .i64 x.proc)).setCell (p := ⟨w.heap.size, 2, none⟩) (.inl rfl) (.int .i64 x.count)).setCell (p := ⟨w.heap.size, 3, none⟩) (.inl rfl) (.int .i64 x.n)).setCell (p := ⟨w.heap.size, 4, none⟩) (.inl rfl) (.int .i64 x.value)
      have RZ : (((((wr.setCell ⟨w.heap.size, 0, none⟩ (.int .i64 x.time)).setCell ⟨w.heap.size, 1, none⟩ (.int .i64 x.proc)).setCell ⟨w.heap.size, 2, none⟩ (.int .i64 x.count)).setCell ⟨w.heap.size, 3, none⟩ (.int .i64 x.n)).setCell ⟨w.heap.size, 4, none⟩ (.int .i64 x.value)).heap[w.heap.size]? = some (.cells #[.int .i64 x.time, .int .i64 x.proc, .int .i64 x.count, .int .i64 x.n, .int .i64 x.value] 128 (0, 0)) := by have := (blk_set (blk_set (blk_set (blk_set (blk_set R0 0 (.int .i64 x.time)) 1 (.int .i64 x.proc)) 2 (.int .i64 x.count)) 3 (.int .i64 x.n)) 4 (.int .i64 x.value)); simpa using this
      generalize (((((wr.setCell ⟨w.heap.size, 0, none⟩ (.int .i64 x.time)).setCell ⟨w.heap.size, 1, none⟩ (.int .i64 x.proc)).setCell ⟨w.heap.size, 2, none⟩ (.int .i64 x.count)).setCell ⟨w.heap.size, 3, none⟩ (.int .i64 x.n)).setCell ⟨w.heap.size, 4, none⟩ (.int .i64 x.value)) = WZ at *
      have s0 : WZ.cell? ⟨w.heap.size, 0, none⟩ = some (.int .i64 x.time) := blk_cell RZ 0
      have s1 : WZ.cell? ⟨w.heap.size, 1, none⟩ = some (.int .i64 x.proc) := blk_cell RZ 1
      have s2 : WZ.cell? ⟨w.heap.size, 2, none⟩ = some (.int .i64 x.count) := blk_cell RZ 2
      have s3 : WZ.cell? ⟨w.heap.size, 3, none⟩ = some (.int .i64 x.n) := blk_cell RZ 3
      have s4 : WZ.cell? ⟨w.heap.size, 4, none⟩ = some (.int .i64 x.value) := blk_cell RZ 4
      refine bodyPost_ret (v := outAgg x) (by simp only [results, Tryz.results156, outAgg]; go_simp) rfl ⟨by rw [HX.out], _, ⟨hCz.heap BR (fun e1 => by omega), ?_, hap, fun q hq => Nat.lt_of_lt_of_le (hFlt q hq) (Nat.le_trans hS0 hCz.size)⟩, hC.then hCz (fun q hq => .inr (Nat.le_of_eq hq.symm))⟩
      rw [HE.out]
      exact hO.ch hCz (fun q hq e1 => by have := hFlt q hq; have e2 : q = w.heap.size := e1; omega)
    · have kd : decide ((d : Int) ≥ (n : Int)) = false := decide_eq_false (by omega)
      have kd' : decide (n ≤ d) = false := decide_eq_false (by omega)
      have hdl : d < n := by omega
      have hgwr := blk_lt BR
      have a0 : wr.cell? ⟨g, 0, none⟩ = some (.slice (some ⟨gb, 0, none⟩) n c1) := blk_cell BR 0
      have a1 : wr.cell? ⟨g, 1, none⟩ = some (.func (.func 137) #[] #[]) := blk_cell BR 1
      clear hdn
      go_upto_region 9 with fail
      go_cut [72] (fun t wc => ∃ bt, t = .bool bt ∧ Hid (decide (d + 1 < n ∧ outLess (nth m (d + 1)) (nth m d) = true) = bt) ∧ Below wr.heap.size wr wc)
      case first =>
        by_cases q3 : d + 1 < n
        · have kt : decide ((d : Int) + 1 < (n : Int)) = true := decide_eq_true (by omega)
          have kt' : decide (d + 1 < n) = true := decide_eq_true (by omega)
          obtain ⟨bt, hbt⟩ : ∃ bt, outLess (nth m (d + 1)) (nth m d) = bt := ⟨_, rfl⟩
          have HD := hid (show decide (d + 1 < n ∧ outLess (nth m (d + 1)) (nth m d) = true) = bt by rw [hbt]; cases bt <;> simp [q3])
          have j1 : d + 1 < m.length := by have := HM.out; omega
          have j2 : d < m.length := by omega
          have p1 : (d : Int) + 1 < (n : Int) := by omega
          have p2 : (d : Int) < (n : Int) := by omega
          obtain ⟨bb, oo, hA1, -, y0, y1, y2, y3, y4⟩ := out_at (j := d + 1) hO.rd j1
          injection hA1 with hA1
          injection hA1 with e1 e2 _
          subst e1 e2
          simp only [Nat.zero_mul, Nat.zero_add] at y0 y1 y2 y3 y4
          obtain ⟨bb, oo, hA1, -, z0, z1, z2, z3, z4⟩ := out_at (j := d) hO.rd j2
          injection hA1 with hA1
          injection hA1 with e1 e2 _
          subst e1 e2
          simp only [Nat.zero_mul, Nat.zero_add] at z0 z1 z2 z3 z4
          rw [nth_eq j1, nth_eq j2] at hbt
          clear q3
          refine region_sg [.rd [0, 1, 2, 3, 4, 5, 6, 7, 8, 9, 10, 11, 12, 13, 14, 15, 16, 17, 18, 19, 20, 21, 22, 23]] [24, 25] (by kernel_rfl) (by kernel_rfl) (fun _ _ d _ _ h => by cases d <;> exact h) ?_
          refine sg_rd (fun N hN => ?_)
          simp only [pickO, List.getElem?_toArray, List.getElem?_cons_zero, List.getElem?_cons_succ]
          go_wp2_with fail
          refine rd_next (hN _ ?_)
          clear hN N
          refine sg_fin ?_
          simp only [pickO, List.getElem?_toArray, List.getElem?_cons_zero, List.getElem?_cons_succ]
          go_wp2_with fail
          refine (OutLessI_c m[d + 1] m[d] _).mono ?_
          rintro e w5 ⟨he, hb5⟩
          rw [hbt] at he
          subst he
          apply_assumption
          go_wp2_with fail
          go_meet
          exact ⟨_, rfl, HD, bthen' (Below.refl wr.heap.size wr).drew hb5⟩
        · have kt : decide ((d : Int) + 1 < (n : Int)) = false := decide_eq_false (by omega)
          have kt' : decide (d + 1 < n) = false := decide_eq_false (by omega)
          have HD := hid (show decide (d + 1 < n ∧ outLess (nth m (d + 1)) (nth m d) = true) = false by simp [q3])
          clear q3
          refine region_sg [.rd [0, 1, 2, 3, 4, 5, 6, 7, 8, 9, 10, 11, 12, 13, 14, 15, 16, 17, 18, 19, 20, 21, 22, 23]] [24, 25] (by kernel_rfl) (by kernel_rfl) (fun _ _ d _ _ h => by cases d <;> exact h) ?_
          refine sg_rd (fun N hN => ?_)
          simp only [pickO, List.getElem?_toArray, List.getElem?_cons_zero, List.getElem?_cons_succ]
          go_wp2_with fail
          refine rd_next (hN _ ?_)
          clear hN N
          refine sg_fin ?_
          simp only [pickO, List.getElem?_toArray, List.getElem?_cons_zero, List.getElem?_cons_succ]
          go_wp2_with fail
          go_meet
          exact ⟨_, rfl, HD, (Below.refl wr.heap.size wr).drew⟩
      case rest =>
        obtain ⟨bt, rfl, HB, hc⟩ := hcut
        have BRc := below_heap hc hgwr BR
        have R0c := below_heap hc (blk_lt R0) R0
        have R1c := below_heap hc (blk_lt R1) R1
        have hOc := hO.below hc
        have hCc := hC.trans (Ch.of_below hc)
        have hSc := Nat.le_trans hS0 hc.size
        have hgc := blk_lt BRc
        clear BR R0 R1 hO hC hS0 hgwr a0 a1 hc
        obtain ⟨c, hcc⟩ : ∃ c, c = child outLess m k := ⟨_, rfl⟩
        have hcx : c = if bt = true then d + 1 else d := by
          rw [hcc]; unfold child; rw [← HD0.out, HM.out, ← HB.out]; simp
        have hcn : c < n := by
          have := child_lt (lt := outLess) (l := m) (k := k) (by rw [HM.out, ← HD0.out]; omega)
          rw [hcc, ← HM.out]; exact this
        have hck : k < c := by rw [hcc]; exact (child_par (lt := outLess) m k).2.2
        have HC := hid hcc
        clear hcc HB
        have a0 : wc.cell? ⟨g, 0, none⟩ = some (.slice (some ⟨gb, 0, none⟩) n c1) := blk_cell BRc 0
        have a1 : wc.cell? ⟨g, 1, none⟩ = some (.func (.func 137) #[] #[]) := blk_cell BRc 1
        have HX2 := hid hcx
        clear hcx
        cases bt
        all_goals go_upto_region 11 with fail
        all_goals first | (have e0 : c = d := HX2.out; have e1 : (d : Int) = (c : Int) := (congrArg Int.ofNat e0).symm; simp only [e1]; clear e0 e1) | (have e0 : c = d + 1 := HX2.out; have e1 : (d : Int) + 1 = (c : Int) := (congrArg Int.ofNat e0).symm; simp only [e1]; clear e0 e1)
        all_goals
          clear HX2
          have j1 : c < m.length := by have := HM.out; omega
          have j2 : k < m.length := by omega
          have p1 : (c : Int) < (n : Int) := by omega
          have p2 : (k : Int) < (n : Int) := by omega
          obtain ⟨bb, oo, hA1, -, y0, y1, y2, y3, y4⟩ := out_at (j := c) hOc.rd j1
          injection hA1 with hA1
          injection hA1 with e1 e2 _
          subst e1 e2
          simp only [Nat.zero_mul, Nat.zero_add] at y0 y1 y2 y3 y4
          obtain ⟨bb, oo, hA1, -, z0, z1, z2, z3, z4⟩ := out_at (j := k) hOc.rd j2
          injection hA1 with hA1
          injection hA1 with e1 e2 _
          subst e1 e2
          simp only [Nat.zero_mul, Nat.zero_add] at z0 z1 z2 z3 z4
          obtain ⟨bt2, hbt⟩ : ∃ b, outLess m[c] m[k] = b := ⟨_, rfl⟩
          refine region_sg [.rd [0, 1, 2, 3, 4, 5, 6, 7, 8, 9, 10, 11, 12, 13, 14, 15, 16, 17]] [18, 19] (by kernel_rfl) (by kernel_rfl) (fun _ _ d _ _ h => by cases d <;> exact h) ?_
          refine sg_rd (fun N hN => ?_)
          simp only [pickO, List.getElem?_toArray, List.getElem?_cons_zero, List.getElem?_cons_succ]
          go_wp2_with fail
          refine rd_next (hN _ ?_)
          clear hN N
          refine sg_fin ?_
          simp only [pickO, List.getElem?_toArray, List.getElem?_cons_zero, List.getElem?_cons_succ]
          go_wp2_with fail
          refine (OutLessI_c m[c] m[k] _).mono ?_
          rintro e w5 ⟨he, hb5⟩
          rw [hbt] at he
          subst he
          have hc5 := bthen' (Below.refl wc.heap.size wc).drew hb5
          have BR := below_heap hc5 hgc BRc
          have R0 := below_heap hc5 (blk_lt R0c) R0c
          have R1 := below_heap hc5 (blk_lt R1c) R1c
          have hO := hOc.below hc5
          have hC := hCc.trans (Ch.of_below hc5)
          have hS0 := Nat.le_trans hSc hc5.size
          clear BRc R0c R1c hOc hCc hSc hgc a0 a1 y0 y1 y2 y3 y4 z0 z1 z2 z3 z4 hb5 hc5
          apply_assumption
          cases bt2
          case false =>
            have HE := hid (show hrest outLess l = m by
              rw [HP.out, hdown, if_neg (by rw [HM.out, ← HD0.out]; omega), if_neg (by rw [← HC.out, nth_eq j1, nth_eq j2, hbt]; simp)])
            clear hbt
            have r0 : w5.cell? ⟨w.heap.size + 1, 0, none⟩ = some (.int .i64 x.time) := blk_cell R1 0
            have c0 : w5.cell? ⟨w.heap.size, 0, none⟩ = some (.int .i64 0) := blk_cell R0 0
            have f0 := blk_frozen R0 0
            have r1 : w5.cell? ⟨w.heap.size + 1, 1, none⟩ = some (.int .i64 x.proc) := blk_cell R1 1
            have c1 : w5.cell? ⟨w.heap.size, 1, none⟩ = some (.int .i64 0) := blk_cell R0 1
            have f1 := blk_frozen R0 1
            have r2 : w5.cell? ⟨w.heap.size + 1, 2, none⟩ = some (.int .i64 x.count) := blk_cell R1 2
            have c2 : w5.cell? ⟨w.heap.size, 2, none⟩ = some (.int .i64 0) := blk_cell R0 2
            have f2 := blk_frozen R0 2
            have r3 : w5.cell? ⟨w.heap.size + 1, 3, none⟩ = some (.int .i64 x.n) := blk_cell R1 3
            have c3 : w5.cell? ⟨w.heap.size, 3, none⟩ = some (.int .i64 0) := blk_cell R0 3
            have f3 := blk_frozen R0 3
            have r4 : w5.cell? ⟨w.heap.size + 1, 4, none⟩ = some (.int .i64 x.value) := blk_cell R1 4
            have c4 : w5.cell? ⟨w.heap.size, 4, none⟩ = some (.int .i64 0) := blk_cell R0 4
            have f4 := blk_frozen R0 4
            go_wp2_with fail
            have hCz : Ch (fun q => q = w.heap.size) w5 (((((w5.setCell ⟨w.heap.size, 0, none⟩ (.int .i64 x.time)).setCell ⟨w.heap.size, 1, none⟩ (.int .i64 x.proc)).setCell ⟨w.heap.size, 2, none⟩ (.int .i64 x.count)).setCell ⟨w.heap.size, 3, none⟩ (.int .i64 x.n)).setCell ⟨w.heap.size, 4, none⟩ (.int .i64 x.value)) := (((((Ch.refl (fun q => q = w.heap.size) w5).setCell (p := ⟨w.heap.size, 0, none⟩) (.inl rfl) (.int .i64 x.time)).setCell (p := ⟨w.heap.size, 1, none⟩) (.inl rfl) (.int .i64 x.proc)).setCell (p := ⟨w.heap.size, 2, none⟩) (.inl rfl) (.int .i64 x.count)).setCell (p := ⟨w.heap.size, 3, none⟩) (.inl rfl) (.int .i64 x.n)).setCell (p := ⟨w.heap.size, 4, none⟩) (.inl rfl) (.int .i64 x.value)
            have RZ : (((((w5.setCell ⟨w.heap.size, 0, none⟩ (.int .i64 x.time)).setCell ⟨w.heap.size, 1, none⟩ (.int .i64 x.proc)).setCell ⟨w.heap.size, 2, none⟩ (.int .i64 x.count)).setCell ⟨w.heap.size, 3, none⟩ (.int .i64 x.n)).setCell ⟨w.heap.size, 4, none⟩ (.int .i64 x.value)).heap[w.heap.size]? = some (.cells #[.int .i64 x.time, .int .i64 x.proc, .int .i64 x.count, .int .i64 x.n, .int .i64 x.value] 128 (0, 0)) := by have := (blk_set (blk_set (blk_set (blk_set (blk_set R0 0 (.int .i64 x.time)) 1 (.int .i64 x.proc)) 2 (.int .i64 x.count)) 3 (.int .i64 x.n)) 4 (.int .i64 x.value)); simpa using this
            generalize (((((w5.setCell ⟨w.heap.size, 0, none⟩ (.int .i64 x.time)).setCell ⟨w.heap.size, 1, none⟩ (.int .i64 x.proc)).setCell ⟨w.heap.size, 2, none⟩ (.int .i64 x.count)).setCell ⟨w.heap.size, 3, none⟩ (.int .i64 x.n)).setCell ⟨w.heap.size, 4, none⟩ (.int .i64 x.value)) = WZ at *
            have s0 : WZ.cell? ⟨w.heap.size, 0, none⟩ = some (.int .i64 x.time) := blk_cell RZ 0
            have s1 : WZ.cell? ⟨w.heap.size, 1, none⟩ = some (.int .i64 x.proc) := blk_cell RZ 1
            have s2 : WZ.cell? ⟨w.heap.size, 2, none⟩ = some (.int .i64 x.count) := blk_cell RZ 2
            have s3 : WZ.cell? ⟨w.heap.size, 3, none⟩ = some (.int .i64 x.n) := blk_cell RZ 3
            have s4 : WZ.cell? ⟨w.heap.size, 4, none⟩ = some (.int .i64 x.value) := blk_cell RZ 4
            refine bodyPost_ret (v := outAgg x) (by simp only [results, Tryz.results156, outAgg]; go_simp) rfl ⟨by rw [HX.out], _, ⟨hCz.heap BR (fun e1 => by omega), ?_, hap, fun q hq => Nat.lt_of_lt_of_le (hFlt q hq) (Nat.le_trans hS0 hCz.size)⟩, hC.then hCz (fun q hq => .inr (Nat.le_of_eq hq.symm))⟩
            rw [HE.out]
            exact hO.ch hCz (fun q hq e1 => by have := hFlt q hq; have e2 : q = w.heap.size := e1; omega)
          case true =>
            have hsw : (m.set k m[c]).set c m[k] = swp m k c := by rw [swp, nth_eq j2, nth_eq j1]
            have HSW := hid hsw
            have hln : (swp m k c).length = m.length := swp_len m k c
            have HM6 := hid (show (swp m k c).length = n by rw [hln]; exact HM.out)
            have HP6 := hid (show hrest outLess l = hdown outLess ((swp m k c).length + 1) (swp m k c) c by
              rw [HP.out, hdown, if_neg (by rw [HM.out, ← HD0.out]; omega), if_pos (by rw [← HC.out, nth_eq j1, nth_eq j2, hbt]), ← HC.out, hln]
              exact hdown_fuel _ _ _ _ (by rw [hln]; omega) (by rw [hln]; omega))
            clear hbt hsw hln HP
            have a0 : w5.cell? ⟨g, 0, none⟩ = some (.slice (some ⟨gb, 0, none⟩) n c1) := blk_cell BR 0
            go_upto_region 13 with fail
            obtain ⟨bb, oo, hA1, -, y0, y1, y2, y3, y4⟩ := out_at (j := c) hO.rd j1
            injection hA1 with hA1
            injection hA1 with e1 e2 _
            subst e1 e2
            simp only [Nat.zero_mul, Nat.zero_add] at y0 y1 y2 y3 y4
            obtain ⟨bb, oo, hA1, -, z0, z1, z2, z3, z4⟩ := out_at (j := k) hO.rd j2
            injection hA1 with hA1
            injection hA1 with e1 e2 _
            subst e1 e2
            simp only [Nat.zero_mul, Nat.zero_add] at z0 z1 z2 z3 z4
            refine region_sg [.rd [0, 1, 2, 3, 4, 5, 6, 7, 8, 9, 10, 11, 12, 13, 14, 15, 16, 17, 18, 19, 20, 21, 22, 23]] [24, 25, 26, 27] (by kernel_rfl) (by kernel_rfl) (fun _ _ d _ _ h => by cases d <;> exact h) ?_
            refine sg_rd (fun N hN => ?_)
            simp only [pickO, List.getElem?_toArray, List.getElem?_cons_zero, List.getElem?_cons_succ]
            go_wp2_with fail
            refine rd_next (hN _ ?_)
            clear hN N
            refine sg_fin ?_
            simp only [pickO, List.getElem?_toArray, List.getElem?_cons_zero, List.getElem?_cons_succ]
            have hOd : Ow tOut 128 w5.drew F (.slice (some ⟨gb, 0, none⟩) n c1) m := hO.move (fun _ _ => rfl)
            clear a0 y0 y1 y2 y3 y4 z0 z1 z2 z3 z4
            go_wp2_with (first | (refine ow_store (cells := OutD.cells) (sz := 5) rfl _ _ _ rfl hOa (g := gb) rfl c (by simpa using j1) m[k] (by first | rfl | simp) (by first | rfl | simp [OutD.cells]) (by kernel_rfl) ?_; intro wb hOb hCb) | (refine ow_store (cells := OutD.cells) (sz := 5) rfl _ _ _ rfl hOd (g := gb) rfl k j2 m[c] (by first | rfl | simp) (by first | rfl | simp [OutD.cells]) (by kernel_rfl) ?_; intro wa hOa hCa))
            have hCs := hCa.trans hCb
            have hSb := hCs.size
            rw [HSW.out] at hOb
            have BX := hCs.heap (show w5.drew.heap[g]? = _ from BR) hne
            have R0X := hCs.heap (show w5.drew.heap[w.heap.size]? = _ from R0) (by omega)
            have R1X := hCs.heap (show w5.drew.heap[w.heap.size + 1]? = _ from R1) (by omega)
            have hCX := hC.drew.then hCs (fun q hq => .inl (.inr (by have hq' : q = gb := hq; rw [hq']; exact hgb)))
            clear BR R0 R1 hO hC hOd hOa hCa hCb
            go_roundw
            case rel => exact ⟨c, swp m k c, rfl, by omega, HM6, BX, R0X, R1X, hOb, hCX, hCX.size, HP6⟩
            case measure => simp [intOf]; omega
end Go.Proofs.YtbcemldiahghcaaGreat
