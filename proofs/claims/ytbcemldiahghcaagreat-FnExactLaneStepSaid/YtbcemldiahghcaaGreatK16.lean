/- Texts joined: Imp7, Imp8, Imp9. -/
import Derived.Test.YtbcemldiahghcaaGreatK15
import Derived.OwnWalk
import Derived.Laws.EntriesVeiled
namespace Go.Proofs.YtbcemldiahghcaaGreat
set_option linter.unusedVariables false
set_option linter.unusedSimpArgs false
set_option maxRecDepth 100000
open Go.RowKit
set_option maxHeartbeats 4000000 in
theorem popEv_c (g : Nat) (F : Nat → Prop) (v : Value) (l : List EvD) (w : World) (h : HeapAt tEv 181 178 131 w g F v l) (h0 : 0 < l.length) (hl : l.length ≤ 1000) :
    Calls Tryz.prog 155 #[.pointer (some ⟨g, 0, none⟩)] w fun q w' => q = .returned (evAgg (nth l 0)) ∧ ∃ v', HeapAt tEv 181 178 131 w' g F v' (hrest evLess l) ∧ Ch (fun k => k = g ∨ F k) w w' := by
  obtain ⟨n, hn⟩ : ∃ n, l.length = n + 1 := ⟨l.length - 1, by omega⟩
  obtain ⟨gb, c1, cur, rfl, hgb, hgbl, -⟩ := h.row.head h0
  rw [hn] at h
  have hn1 : n + 1 ≤ 1000 := by omega
  have HN := hid hn
  have hrow := h.row
  have hap := h.apart
  have hgl := blk_lt h.blk
  have B0 := h.blk
  have hFlt := h.lt
  have hne : g ≠ gb := fun e1 => hap (e1 ▸ hgb)
  obtain ⟨x, hx⟩ : ∃ x, nth l 0 = x := ⟨_, rfl⟩
  obtain ⟨z, hz⟩ : ∃ z, nth l n = z := ⟨_, rfl⟩
  have hnl : n < l.length := by omega
  have hcap : n + 1 ≤ c1 := by have := hrow.rd.capLe; omega
  obtain ⟨bb, oo, hA1, -, z0, z1, z2, z3, z4, z5, z6⟩ := ev_at (j := 0) hrow.rd h0
  injection hA1 with hA1
  injection hA1 with e1 e2 _
  subst e1 e2
  simp only [Nat.zero_mul, Nat.zero_add] at z0 z1 z2 z3 z4 z5 z6
  rw [← nth_eq h0, hx] at z0 z1 z2 z3 z4 z5 z6
  have HX := hid hx
  have HZ := hid hz
  clear hx hn h hl hz
  have a0 : w.cell? ⟨g, 0, none⟩ = some (.slice (some ⟨gb, 0, none⟩) (n + 1) c1) := blk_cell B0 0
  have q1 : ¬ g = w.heap.size := by omega
  have q2 : ¬ gb = w.heap.size := by omega
  have q3 : ((n + 1 : Nat) : Int) - 1 = (n : Int) := by omega
  go_enter Tryz.func155, Tryz.ntmps155
  go_upto_region 3 with fail
  have hO := (hrow.alloc (.cells #[.int .i64 0, .int .i64 0, .int .i64 0, .int .i64 0, .int .i64 0, .int .i64 0, .int .i64 0] 181)).alloc (.cells #[.int .i64 x.time, .int .i64 x.to, .int .i64 x.from_, .int .i64 x.count, .int .i64 x.n, .int .i64 x.kind, .int .i64 x.arg] 181)
  have BR := (heap_old (o := .cells #[.int .i64 x.time, .int .i64 x.to, .int .i64 x.from_, .int .i64 x.count, .int .i64 x.n, .int .i64 x.kind, .int .i64 x.arg] 181) (by simp; omega)).trans ((heap_old (o := .cells #[.int .i64 0, .int .i64 0, .int .i64 0, .int .i64 0, .int .i64 0, .int .i64 0, .int .i64 0] 181) hgl).trans B0)
  have R0 : ((w.alloc (.cells #[.int .i64 0, .int .i64 0, .int .i64 0, .int .i64 0, .int .i64 0, .int .i64 0, .int .i64 0] 181)).alloc (.cells #[.int .i64 x.time, .int .i64 x.to, .int .i64 x.from_, .int .i64 x.count, .int .i64 x.n, .int .i64 x.kind, .int .i64 x.arg] 181)).heap[w.heap.size]? = some (.cells #[.int .i64 0, .int .i64 0, .int .i64 0, .int .i64 0, .int .i64 0, .int .i64 0, .int .i64 0] 181 (0, 0)) := (heap_old (by simp)).trans (heap_at rfl)
  have R1 : ((w.alloc (.cells #[.int .i64 0, .int .i64 0, .int .i64 0, .int .i64 0, .int .i64 0, .int .i64 0, .int .i64 0] 181)).alloc (.cells #[.int .i64 x.time, .int .i64 x.to, .int .i64 x.from_, .int .i64 x.count, .int .i64 x.n, .int .i64 x.kind, .int .i64 x.arg] 181)).heap[w.heap.size + 1]? = some (.cells #[.int .i64 x.time, .int .i64 x.to, .int .i64 x.from_, .int .i64 x.count, .int .i64 x.n, .int .i64 x.kind, .int .i64 x.arg] 181 (0, 0)) := heap_at (by simp)
  have hC := ((Ch.refl (fun k => k = g ∨ F k) w).alloc (.cells #[.int .i64 0, .int .i64 0, .int .i64 0, .int .i64 0, .int .i64 0, .int .i64 0, .int .i64 0] 181)).alloc (.cells #[.int .i64 x.time, .int .i64 x.to, .int .i64 x.from_, .int .i64 x.count, .int .i64 x.n, .int .i64 x.kind, .int .i64 x.arg] 181)
  generalize (w.alloc (.cells #[.int .i64 0, .int .i64 0, .int .i64 0, .int .i64 0, .int .i64 0, .int .i64 0, .int .i64 0] 181)).alloc (.cells #[.int .i64 x.time, .int .i64 x.to, .int .i64 x.from_, .int .i64 x.count, .int .i64 x.n, .int .i64 x.kind, .int .i64 x.arg] 181) = W at *
  clear a0 q1 q2 q3 z0 z1 z2 z3 z4 z5 z6 hrow B0
  have a0 : W.cell? ⟨g, 0, none⟩ = some (.slice (some ⟨gb, 0, none⟩) (n + 1) c1) := blk_cell BR 0
  obtain ⟨bb, oo, hA1, -, y0, y1, y2, y3, y4, y5, y6⟩ := ev_at (j := n) hO.rd hnl
  injection hA1 with hA1
  injection hA1 with e1 e2 _
  subst e1 e2
  simp only [Nat.zero_mul, Nat.zero_add] at y0 y1 y2 y3 y4 y5 y6
  rw [← nth_eq hnl, HZ.out] at y0 y1 y2 y3 y4 y5 y6
  refine region_sg [.rd [0, 1, 2, 3, 4, 5, 6, 7, 8, 9, 10, 11]] [12] (by kernel_rfl) (by kernel_rfl) (fun _ _ d _ _ h => by cases d <;> exact h) ?_
  refine sg_rd (fun N hN => ?_)
  simp only [pickO, List.getElem?_toArray, List.getElem?_cons_zero, List.getElem?_cons_succ]
  go_wp2_with fail
  refine rd_next (hN _ ?_)
  clear hN N
  refine sg_fin ?_
  simp only [pickO, List.getElem?_toArray, List.getElem?_cons_zero, List.getElem?_cons_succ]
  have hOd : Ow tEv 181 W.drew F (.slice (some ⟨gb, 0, none⟩) (n + 1) c1) l := hO.move (fun _ _ => rfl)
  refine ow_store (cells := EvD.cells) (sz := 7) rfl _ _ _ rfl hOd (g := gb) rfl 0 h0 z (by first | rfl | simp) (by first | rfl | simp [EvD.cells]) (by kernel_rfl) ?_
  intro w1 hO1 hCs
  have B1 := hCs.heap (show W.drew.heap[g]? = _ from BR) hne
  have b0 : w1.cell? ⟨g, 0, none⟩ = some (.slice (some ⟨gb, 0, none⟩) (n + 1) c1) := blk_cell B1 0
  have b1 := blk_frozen B1 0
  have p1 : (n : Int) ≤ (c1 : Int) := by omega
  have p2 : n ≤ c1 := by omega
  clear a0 y0 y1 y2 y3 y4 y5 y6
  go_wp2_with fail
  have hrow2 := (hO1.takeP n (by rw [List.length_set]; omega)).ch (S := fun k => k = g) ((Ch.refl (fun k => k = g) w1).setCell (p := ⟨g, 0, none⟩) (.inl rfl) (.slice (some ⟨gb, 0, none⟩) n c1)) (fun k hk e1 => hap (e1 ▸ hk))
  have BV := blk_set B1 0 (.slice (some ⟨gb, 0, none⟩) n c1)
  simp only [List.setIfInBounds_toArray, List.set_cons_zero] at BV
  have hCV : Ch (fun k => k = g ∨ F k) w (w1.setCell ⟨g, 0, none⟩ (.slice (some ⟨gb, 0, none⟩) n c1)) := (hC.drew.then hCs (fun q hq => .inl (.inr (by have hq' : q = gb := hq; rw [hq']; exact hgb)))).setCell (p := ⟨g, 0, none⟩) (.inl (.inl rfl)) _
  have R0V := (Below.heap_setCell w1 (⟨g, 0, none⟩ : Addr) (.slice (some ⟨gb, 0, none⟩) n c1) w.heap.size (by simp; omega)).trans (hCs.heap (show W.drew.heap[w.heap.size]? = _ from R0) (by omega))
  have R1V := (Below.heap_setCell w1 (⟨g, 0, none⟩ : Addr) (.slice (some ⟨gb, 0, none⟩) n c1) (w.heap.size + 1) (by simp; omega)).trans (hCs.heap (show W.drew.heap[w.heap.size + 1]? = _ from R1) (by omega))
  have HP := hid (show hrest evLess l = hdown evLess (((l.set 0 z).take n).length + 1) ((l.set 0 z).take n) 0 by
    have hn := HN.out
    unfold hrest
    rw [hn, show n + 1 - 1 = n by omega, HZ.out]
    congr 1
    simp; omega)
  have HM0 := hid (show ((l.set 0 z).take n).length = n by simp; omega)
  have hS0 : w.heap.size ≤ (w1.setCell ⟨g, 0, none⟩ (.slice (some ⟨gb, 0, none⟩) n c1)).heap.size := hCV.size
  clear hO1 hCs B1 b0 b1 p1 p2 hC R0 R1 BR hO hOd
  generalize w1.setCell ⟨g, 0, none⟩ (.slice (some ⟨gb, 0, none⟩) n c1) = V at *
  generalize (l.set 0 z).take n = m0 at *
  go_loopw [5] (fun t wr => ∃ (k : Nat) (m : List EvD), t = .int .i64 k ∧ k ≤ 1000 ∧ Hid (m.length = n) ∧ wr.heap[g]? = some (.cells #[.slice (some ⟨gb, 0, none⟩) n c1, .func (.func 131) #[] #[]] 178 (0, 0)) ∧ wr.heap[w.heap.size]? = some (.cells #[.int .i64 0, .int .i64 0, .int .i64 0, .int .i64 0, .int .i64 0, .int .i64 0, .int .i64 0] 181 (0, 0)) ∧ wr.heap[w.heap.size + 1]? = some (.cells #[.int .i64 x.time, .int .i64 x.to, .int .i64 x.from_, .int .i64 x.count, .int .i64 x.n, .int .i64 x.kind, .int .i64 x.arg] 181 (0, 0)) ∧ Ow tEv 181 wr F (.slice (some ⟨gb, 0, none⟩) n c1) m ∧ Ch (fun q => q = g ∨ F q) w wr ∧ w.heap.size ≤ wr.heap.size ∧ Hid (hrest evLess l = hdown evLess (m.length + 1) m k)) (fun t _ => n - (intOf t).toNat)
  case atStart => exact ⟨0, m0, rfl, by omega, HM0, BV, R0V, R1V, hrow2, hCV, hS0, HP⟩
  case round =>
    clear BV R0V R1V hrow2 hCV hS0 HP HM0
    obtain ⟨k, m, rfl, hk, HM, BR, R0, R1, hO, hC, hS0, HP⟩ := hrel
    go_upto_region 7 with fail
    obtain ⟨d, hd⟩ : ∃ d, d = 2 * k + 1 := ⟨_, rfl⟩
    have hd0 : 2 * (k : Int) + 1 = (d : Int) := by omega
    have HD0 := hid hd
    simp only [hd0]
    clear hd0 hd
    by_cases hdn : n ≤ d
    · have HE := hid (show hrest evLess l = m by
        rw [HP.out, hdown, if_pos (by rw [HM.out, ← HD0.out]; exact hdn)])
      have kd : decide ((d : Int) ≥ (n : Int)) = true := decide_eq_true (by omega)
      have kd' : decide (n ≤ d) = true := decide_eq_true (by omega)
      clear hdn
      have r0 : wr.cell? ⟨w.heap.size + 1, 0, none⟩ = some (.int .i64 x.time) := blk_cell R1 0
      have c0 : wr.cell? ⟨w.heap.size, 0, none⟩ = some (.int .i64 0) := blk_cell R0 0
      have f0 := blk_frozen R0 0
      have r1 : wr.cell? ⟨w.heap.size + 1, 1, none⟩ = some (.int .i64 x.to) := blk_cell R1 1
      have c1 : wr.cell? ⟨w.heap.size, 1, none⟩ = some (.int .i64 0) := blk_cell R0 1
      have f1 := blk_frozen R0 1
      have r2 : wr.cell? ⟨w.heap.size + 1, 2, none⟩ = some (.int .i64 x.from_) := blk_cell R1 2
      have c2 : wr.cell? ⟨w.heap.size, 2, none⟩ = some (.int .i64 0) := blk_cell R0 2
      have f2 := blk_frozen R0 2
      have r3 : wr.cell? ⟨w.heap.size + 1, 3, none⟩ = some (.int .i64 x.count) := blk_cell R1 3
      have c3 : wr.cell? ⟨w.heap.size, 3, none⟩ = some (.int .i64 0) := blk_cell R0 3
      have f3 := blk_frozen R0 3
      have r4 : wr.cell? ⟨w.heap.size + 1, 4, none⟩ = some (.int .i64 x.n) := blk_cell R1 4
      have c4 : wr.cell? ⟨w.heap.size, 4, none⟩ = some (.int .i64 0) := blk_cell R0 4
      have f4 := blk_frozen R0 4
      have r5 : wr.cell? ⟨w.heap.size + 1, 5, none⟩ = some (.int .i64 x.kind) := blk_cell R1 5
      have c5 : wr.cell? ⟨w.heap.size, 5, none⟩ = some (.int .i64 0) := blk_cell R0 5
      have f5 := blk_frozen R0 5
      have r6 : wr.cell? ⟨w.heap.size + 1, 6, none⟩ = some (.int .i64 x.arg) := blk_cell R1 6
      have c6 : wr.cell? ⟨w.heap.size, 6, none⟩ = some (.int .i64 0) := blk_cell R0 6
      have f6 := blk_frozen R0 6
      go_wp2_with fail
      have hCz : Ch (fun q => q = w.heap.size) wr (((((((wr.setCell ⟨w.heap.size, 0, none⟩ (.int .i64 x.time)).setCell ⟨w.heap.size, 1, none⟩ (.int .i64 x.to)).setCell ⟨w.heap.size, 2, none⟩ (.int .i64 x.from_)).setCell ⟨w.heap.size, 3, none⟩ (.int .i64 x.count)).setCell ⟨w.heap.size, 4, none⟩ (.int .i64 x.n)).setCell ⟨w.heap.size, 5, none⟩ (.int .i64 x.kind)).setCell ⟨w.heap.size, 6, none⟩ (.int .i64 x.arg)) := (((((((Ch.refl (fun q => q = w.heap.size) wr).setCell (p := ⟨w.heap.size, 0, none⟩) (.inl rfl) (.int .i64 x.time)).setCell (p := ⟨w.heap.size, 1, none⟩) (.inl rfl) (.int .i64 x.to)).setCell (p := ⟨w.heap.size, 2, none⟩) (.inl rfl) (.int .i64 x.from_)).setCell (p := ⟨w.heap.size, 3, none⟩) (.inl rfl) (.int .i64 x.count)).setCell (p := ⟨w.heap.size, 4, none⟩) (.inl rfl) (.int .i64 x.n)).setCell (p := ⟨w.heap.size, 5, none⟩) (.inl rfl) (.int .i64 x.kind)).setCell (p := ⟨w.heap.size, 6, none⟩) (.inl rfl) (.int .i64 x.arg)
      have RZ : (((((((wr.setCell ⟨w.heap.size, 0, none⟩ (.int .i64 x.time)).setCell ⟨w.heap.size, 1, none⟩ (.int .i64 x.to)).setCell ⟨w.heap.size, 2, none⟩ (.int .i64 x.from_)).setCell ⟨w.heap.size, 3, none⟩ (.int .i64 x.count)).setCell ⟨w.heap.size, 4, none⟩ (.int .i64 x.n)).setCell ⟨w.heap.size, 5, none⟩ (.int .i64 x.kind)).setCell ⟨w.heap.size, 6, none⟩ (.int .i64 x.arg)).heap[w.heap.size]? = some (.cells #[.int .i64 x.time, .int .i64 x.to, .int .i64 x.from_, .int .i64 x.count, .int .i64 x.n, .int .i64 x.kind, .int .i64 x.arg] 181 (0, 0)) := by have := (blk_set (blk_set (blk_set (blk_set (blk_set (blk_set (blk_set R0 0 (.int .i64 x.time)) 1 (.int .i64 x.to)) 2 (.int .i64 x.from_)) 3 (.int .i64 x.count)) 4 (.int .i64 x.n)) 5 (.int .i64 x.kind)) 6 (.int .i64 x.arg)); simpa using this
      generalize (((((((wr.setCell ⟨w.heap.size, 0, none⟩ (.int .i64 x.time)).setCell ⟨w.heap.size, 1, none⟩ (.int .i64 x.to)).setCell ⟨w.heap.size, 2, none⟩ (.int .i64 x.from_)).setCell ⟨w.heap.size, 3, none⟩ (.int .i64 x.count)).setCell ⟨w.heap.size, 4, none⟩ (.int .i64 x.n)).setCell ⟨w.heap.size, 5, none⟩ (.int .i64 x.kind)).setCell ⟨w.heap.size, 6, none⟩ (.int .i64 x.arg)) = WZ at *
      have s0 : WZ.cell? ⟨w.heap.size, 0, none⟩ = some (.int .i64 x.time) := blk_cell RZ 0
      have s1 : WZ.cell? ⟨w.heap.size, 1, none⟩ = some (.int .i64 x.to) := blk_cell RZ 1
      have s2 : WZ.cell? ⟨w.heap.size, 2, none⟩ = some (.int .i64 x.from_) := blk_cell RZ 2
      have s3 : WZ.cell? ⟨w.heap.size, 3, none⟩ = some (.int .i64 x.count) := blk_cell RZ 3
      have s4 : WZ.cell? ⟨w.heap.size, 4, none⟩ = some (.int .i64 x.n) := blk_cell RZ 4
      have s5 : WZ.cell? ⟨w.heap.size, 5, none⟩ = some (.int .i64 x.kind) := blk_cell RZ 5
      have s6 : WZ.cell? ⟨w.heap.size, 6, none⟩ = some (.int .i64 x.arg) := blk_cell RZ 6
      refine bodyPost_ret (v := evAgg x) (by simp only [results, Tryz.results155, evAgg]; go_simp) rfl ⟨by rw [HX.out], _, ⟨hCz.heap BR (fun e1 => by omega), ?_, hap, fun q hq => Nat.lt_of_lt_of_le (hFlt q hq) (Nat.le_trans hS0 hCz.size)⟩, hC.then hCz (fun q hq => .inr (Nat.le_of_eq hq.symm))⟩
      rw [HE.out]
      exact hO.ch hCz (fun q hq e1 => by have := hFlt q hq; have e2 : q = w.heap.size := e1; omega)
    · have kd : decide ((d : Int) ≥ (n : Int)) = false := decide_eq_false (by omega)
      have kd' : decide (n ≤ d) = false := decide_eq_false (by omega)
      have hdl : d < n := by omega
      have hgwr := blk_lt BR
      have a0 : wr.cell? ⟨g, 0, none⟩ = some (.slice (some ⟨gb, 0, none⟩) n c1) := blk_cell BR 0
      have a1 : wr.cell? ⟨g, 1, none⟩ = some (.func (.func 131) #[] #[]) := blk_cell BR 1
      clear hdn
      go_upto_region 9 with fail
      go_cut [72] (fun t wc => ∃ bt, t = .bool bt ∧ Hid (decide (d + 1 < n ∧ evLess (nth m (d + 1)) (nth m d) = true) = bt) ∧ Below wr.heap.size wr wc)
      case first =>
        by_cases q3 : d + 1 < n
        · have kt : decide ((d : Int) + 1 < (n : Int)) = true := decide_eq_true (by omega)
          have kt' : decide (d + 1 < n) = true := decide_eq_true (by omega)
          obtain ⟨bt, hbt⟩ : ∃ bt, evLess (nth m (d + 1)) (nth m d) = bt := ⟨_, rfl⟩
          have HD := hid (show decide (d + 1 < n ∧ evLess (nth m (d + 1)) (nth m d) = true) = bt by rw [hbt]; cases bt <;> simp [q3])
          have j1 : d + 1 < m.length := by have := HM.out; omega
          have j2 : d < m.length := by omega
          have p1 : (d : Int) + 1 < (n : Int) := by omega
          have p2 : (d : Int) < (n : Int) := by omega
          obtain ⟨bb, oo, hA1, -, y0, y1, y2, y3, y4, y5, y6⟩ := ev_at (j := d + 1) hO.rd j1
          injection hA1 with hA1
          injection hA1 with e1 e2 _
          subst e1 e2
          simp only [Nat.zero_mul, Nat.zero_add] at y0 y1 y2 y3 y4 y5 y6
          obtain ⟨bb, oo, hA1, -, z0, z1, z2, z3, z4, z5, z6⟩ := ev_at (j := d) hO.rd j2
          injection hA1 with hA1
          injection hA1 with e1 e2 _
          subst e1 e2
          simp only [Nat.zero_mul, Nat.zero_add] at z0 z1 z2 z3 z4 z5 z6
          rw [nth_eq j1, nth_eq j2] at hbt
          clear q3
          refine region_sg [.rd [0, 1, 2, 3, 4, 5, 6, 7, 8, 9, 10, 11, 12, 13, 14, 15, 16, 17, 18, 19, 20, 21, 22, 23]] [24, 25] (by kernel_rfl) (by kernel_rfl) (fun _ _ d _ _ h => by cases d <;> exact h) ?_
          refine sg_rd (fun N hN => ?_)
          simp only [pickO, List.getElem?_toArray, List.getElem?_cons_zero, List.getElem?_cons_succ]
          go_wp2_with fail
          refine rd_next (hN _ ?_)
          clear hN N
          refine sg_fin ?_
          simp only [pickO, List.getElem?_toArray, List.getElem?_cons_zero, List.getElem?_cons_succ]
          go_wp2_with fail
          refine (keyLess_c m[d + 1] m[d] _).mono ?_
          rintro e w5 ⟨he, hb5⟩
          rw [hbt] at he
          subst he
          apply_assumption
          go_wp2_with fail
          go_meet
          exact ⟨_, rfl, HD, bthen' (Below.refl wr.heap.size wr).drew hb5⟩
        · have kt : decide ((d : Int) + 1 < (n : Int)) = false := decide_eq_false (by omega)
          have kt' : decide (d + 1 < n) = false := decide_eq_false (by omega)
          have HD := hid (show decide (d + 1 < n ∧ evLess (nth m (d + 1)) (nth m d) = true) = false by simp [q3])
          clear q3
          refine region_sg [.rd [0, 1, 2, 3, 4, 5, 6, 7, 8, 9, 10, 11, 12, 13, 14, 15, 16, 17, 18, 19, 20, 21, 22, 23]] [24, 25] (by kernel_rfl) (by kernel_rfl) (fun _ _ d _ _ h => by cases d <;> exact h) ?_
          refine sg_rd (fun N hN => ?_)
          simp only [pickO, List.getElem?_toArray, List.getElem?_cons_zero, List.getElem?_cons_succ]
          go_wp2_with fail
          refine rd_next (hN _ ?_)
          clear hN N
          refine sg_fin ?_
          simp only [pickO, List.getElem?_toArray, List.getElem?_cons_zero, List.getElem?_cons_succ]
          go_wp2_with fail
          go_meet
          exact ⟨_, rfl, HD, (Below.refl wr.heap.size wr).drew⟩
      case rest =>
        obtain ⟨bt, rfl, HB, hc⟩ := hcut
        have BRc := below_heap hc hgwr BR
        have R0c := below_heap hc (blk_lt R0) R0
        have R1c := below_heap hc (blk_lt R1) R1
        have hOc := hO.below hc
        have hCc := hC.trans (Ch.of_below hc)
        have hSc := Nat.le_trans hS0 hc.size
        have hgc := blk_lt BRc
        clear BR R0 R1 hO hC hS0 hgwr a0 a1 hc
        obtain ⟨c, hcc⟩ : ∃ c, c = child evLess m k := ⟨_, rfl⟩
        have hcx : c = if bt = true then d + 1 else d := by
          rw [hcc]; unfold child; rw [← HD0.out, HM.out, ← HB.out]; simp
        have hcn : c < n := by
          have := child_lt (lt := evLess) (l := m) (k := k) (by rw [HM.out, ← HD0.out]; omega)
          rw [hcc, ← HM.out]; exact this
        have hck : k < c := by rw [hcc]; exact (child_par (lt := evLess) m k).2.2
        have HC := hid hcc
        clear hcc HB
        have a0 : wc.cell? ⟨g, 0, none⟩ = some (.slice (some ⟨gb, 0, none⟩) n c1) := blk_cell BRc 0
        have a1 : wc.cell? ⟨g, 1, none⟩ = some (.func (.func 131) #[] #[]) := blk_cell BRc 1
        have HX2 := hid hcx
        clear hcx
        cases bt
        all_goals go_upto_region 11 with fail
        all_goals first | (have e0 : c = d := HX2.out; have e1 : (d : Int) = (c : Int) := (congrArg Int.ofNat e0).symm; simp only [e1]; clear e0 e1) | (have e0 : c = d + 1 := HX2.out; have e1 : (d : Int) + 1 = (c : Int) := (congrArg Int.ofNat e0).symm; simp only [e1]; clear e0 e1)
        all_goals
          clear HX2
          have j1 : c < m.length := by have := HM.out; omega
          have j2 : k < m.length := by omega
          have p1 : (c : Int) < (n : Int) := by omega
          have p2 : (k : Int) < (n : Int) := by omega
          obtain ⟨bb, oo, hA1, -, y0, y1, y2, y3, y4, y5, y6⟩ := ev_at (j := c) hOc.rd j1
          injection hA1 with hA1
          injection hA1 with e1 e2 _
          subst e1 e2
          simp only [Nat.zero_mul, Nat.zero_add] at y0 y1 y2 y3 y4 y5 y6
          obtain ⟨bb, oo, hA1, -, z0, z1, z2, z3, z4, z5, z6⟩ := ev_at (j := k) hOc.rd j2
          injection hA1 with hA1
          injection hA1 with e1 e2 _
          subst e1 e2
          simp only [Nat.zero_mul, Nat.zero_add] at z0 z1 z2 z3 z4 z5 z6
          obtain ⟨bt2, hbt⟩ : ∃ b, evLess m[c] m[k] = b := ⟨_, rfl⟩
          refine region_sg [.rd [0, 1, 2, 3, 4, 5, 6, 7, 8, 9, 10, 11, 12, 13, 14, 15, 16, 17]] [18, 19] (by kernel_rfl) (by kernel_rfl) (fun _ _ d _ _ h => by cases d <;> exact h) ?_
          refine sg_rd (fun N hN => ?_)
          simp only [pickO, List.getElem?_toArray, List.getElem?_cons_zero, List.getElem?_cons_succ]
          go_wp2_with fail
          refine rd_next (hN _ ?_)
          clear hN N
          refine sg_fin ?_
          simp only [pickO, List.getElem?_toArray, List.getElem?_cons_zero, List.getElem?_cons_succ]
          go_wp2_with fail
          refine (keyLess_c m[c] m[k] _).mono ?_
          rintro e w5 ⟨he, hb5⟩
          rw [hbt] at he
          subst he
          have hc5 := bthen' (Below.refl wc.heap.size wc).drew hb5
          have BR := below_heap hc5 hgc BRc
          have R0 := below_heap hc5 (blk_lt R0c) R0c
          have R1 := below_heap hc5 (blk_lt R1c) R1c
          have hO := hOc.below hc5
          have hC := hCc.trans (Ch.of_below hc5)
          have hS0 := Nat.le_trans hSc hc5.size
          clear BRc R0c R1c hOc hCc hSc hgc a0 a1 y0 y1 y2 y3 y4 y5 y6 z0 z1 z2 z3 z4 z5 z6 hb5 hc5
          apply_assumption
          cases bt2
          case false =>
            have HE := hid (show hrest evLess l = m by
              rw [HP.out, hdown, if_neg (by rw [HM.out, ← HD0.out]; omega), if_neg (by rw [← HC.out, nth_eq j1, nth_eq j2, hbt]; simp)])
            clear hbt
            have r0 : w5.cell? ⟨w.heap.size + 1, 0, none⟩ = some (.int .i64 x.time) := blk_cell R1 0
            have c0 : w5.cell? ⟨w.heap.size, 0, none⟩ = some (.int .i64 0) := blk_cell R0 0
            have f0 := blk_frozen R0 0
            have r1 : w5.cell? ⟨w.heap.size + 1, 1, none⟩ = some (.int .i64 x.to) := blk_cell R1 1
            have c1 : w5.cell? ⟨w.heap.size, 1, none⟩ = some (.int .i64 0) := blk_cell R0 1
            have f1 := blk_frozen R0 1
            have r2 : w5.cell? ⟨w.heap.size + 1, 2, none⟩ = some (.int .i64 x.from_) := blk_cell R1 2
            have c2 : w5.cell? ⟨w.heap.size, 2, none⟩ = some (.int .i64 0) := blk_cell R0 2
            have f2 := blk_frozen R0 2
            have r3 : w5.cell? ⟨w.heap.size + 1, 3, none⟩ = some (.int .i64 x.count) := blk_cell R1 3
            have c3 : w5.cell? ⟨w.heap.size, 3, none⟩ = some (.int .i64 0) := blk_cell R0 3
            have f3 := blk_frozen R0 3
            have r4 : w5.cell? ⟨w.heap.size + 1, 4, none⟩ = some (.int .i64 x.n) := blk_cell R1 4
            have c4 : w5.cell? ⟨w.heap.size, 4, none⟩ = some (.int .i64 0) := blk_cell R0 4
            have f4 := blk_frozen R0 4
            have r5 : w5.cell? ⟨w.heap.size + 1, 5, none⟩ = some (.int .i64 x.kind) := blk_cell R1 5
            have c5 : w5.cell? ⟨w.heap.size, 5, none⟩ = some (.int .i64 0) := blk_cell R0 5
            have f5 := blk_frozen R0 5
            have r6 : w5.cell? ⟨w.heap.size + 1, 6, none⟩ = some (.int .i64 x.arg) := blk_cell R1 6
            have c6 : w5.cell? ⟨w.heap.size, 6, none⟩ = some (.int .i64 0) := blk_cell R0 6
            have f6 := blk_frozen R0 6
            go_wp2_with fail
            have hCz : Ch (fun q => q = w.heap.size) w5 (((((((w5.setCell ⟨w.heap.size, 0, none⟩ (.int .i64 x.time)).setCell ⟨w.heap.size, 1, none⟩ (.int .i64 x.to)).setCell ⟨w.heap.size, 2, none⟩ (.int .i64 x.from_)).setCell ⟨w.heap.size, 3, none⟩ (.int .i64 x.count)).setCell ⟨w.heap.size, 4, none⟩ (.int .i64 x.n)).setCell ⟨w.heap.size, 5, none⟩ (.int .i64 x.kind)).setCell ⟨w.heap.size, 6, none⟩ (.int .i64 x.arg)) := (((((((Ch.refl (fun q => q = w.heap.size) w5).setCell (p := ⟨w.heap.size, 0, none⟩) (.inl rfl) (.int .i64 x.time)).setCell (p := ⟨w.heap.size, 1, none⟩) (.inl rfl) (.int .i64 x.to)).setCell (p := ⟨w.heap.size, 2, none⟩) (.inl rfl) (.int .i64 x.from_)).setCell (p := ⟨w.heap.size, 3, none⟩) (.inl rfl) (.int .i64 x.count)).setCell (p := ⟨w.heap.size, 4, none⟩) (.inl rfl) (.int .i64 x.n)).setCell (p := ⟨w.heap.size, 5, none⟩) (.inl rfl) (.int .i64 x.kind)).setCell (p := ⟨w.heap.size, 6, none⟩) (.inl rfl) (.int .i64 x.arg)
            have RZ : (((((((w5.setCell ⟨w.heap.size, 0, none⟩ (.int .i64 x.time)).setCell ⟨w.heap.size, 1, none⟩ (.int .i64 x.to)).setCell ⟨w.heap.size, 2, none⟩ (.int .i64 x.from_)).setCell ⟨w.heap.size, 3, none⟩ (.int .i64 x.count)).setCell ⟨w.heap.size, 4, none⟩ (.int .i64 x.n)).setCell ⟨w.heap.size, 5, none⟩ (.int .i64 x.kind)).setCell ⟨w.heap.size, 6, none⟩ (.int .i64 x.arg)).heap[w.heap.size]? = some (.cells #[.int .i64 x.time, .int .i64 x.to, .int .i64 x.from_, .int .i64 x.count, .int .i64 x.n, .int .i64 x.kind, .int .i64 x.arg] 181 (0, 0)) := by have := (blk_set (blk_set (blk_set (blk_set (blk_set (blk_set (blk_set R0 0 (.int .i64 x.time)) 1 (.int .i64 x.to)) 2 (.int .i64 x.from_)) 3 (.int .i64 x.count)) 4 (.int .i64 x.n)) 5 (.int .i64 x.kind)) 6 (.int .i64 x.arg)); simpa using this
            generalize (((((((w5.setCell ⟨w.heap.size, 0, none⟩ (.int .i64 x.time)).setCell ⟨w.heap.size, 1, none⟩ (.int .i64 x.to)).setCell ⟨w.heap.size, 2, none⟩ (.int .i64 x.from_)).setCell ⟨w.heap.size, 3, none⟩ (.int .i64 x.count)).setCell ⟨w.heap.size, 4, none⟩ (.int .i64 x.n)).setCell ⟨w.heap.size, 5, none⟩ (.int .i64 x.kind)).setCell ⟨w.heap.size, 6, none⟩ (.int .i64 x.arg)) = WZ at *
            have s0 : WZ.cell? ⟨w.heap.size, 0, none⟩ = some (.int .i64 x.time) := blk_cell RZ 0
            have s1 : WZ.cell? ⟨w.heap.size, 1, none⟩ = some (.int .i64 x.to) := blk_cell RZ 1
            have s2 : WZ.cell? ⟨w.heap.size, 2, none⟩ = some (.int .i64 x.from_) := blk_cell RZ 2
            have s3 : WZ.cell? ⟨w.heap.size, 3, none⟩ = some (.int .i64 x.count) := blk_cell RZ 3
            have s4 : WZ.cell? ⟨w.heap.size, 4, none⟩ = some (.int .i64 x.n) := blk_cell RZ 4
            have s5 : WZ.cell? ⟨w.heap.size, 5, none⟩ = some (.int .i64 x.kind) := blk_cell RZ 5
            have s6 : WZ.cell? ⟨w.heap.size, 6, none⟩ = some (.int .i64 x.arg) := blk_cell RZ 6
            refine bodyPost_ret (v := evAgg x) (by simp only [results, Tryz.results155, evAgg]; go_simp) rfl ⟨by rw [HX.out], _, ⟨hCz.heap BR (fun e1 => by omega), ?_, hap, fun q hq => Nat.lt_of_lt_of_le (hFlt q hq) (Nat.le_trans hS0 hCz.size)⟩, hC.then hCz (fun q hq => .inr (Nat.le_of_eq hq.symm))⟩
            rw [HE.out]
            exact hO.ch hCz (fun q hq e1 => by have := hFlt q hq; have e2 : q = w.heap.size := e1; omega)
          case true =>
            have hsw : (m.set k m[c]).set c m[k] = swp m k c := by rw [swp, nth_eq j2, nth_eq j1]
            have HSW := hid hsw
            have hln : (swp m k c).length = m.length := swp_len m k c
            have HM6 := hid (show (swp m k c).length = n by rw [hln]; exact HM.out)
            have HP6 := hid (show hrest evLess l = hdown evLess ((swp m k c).length + 1) (swp m k c) c by
              rw [HP.out, hdown, if_neg (by rw [HM.out, ← HD0.out]; omega), if_pos (by rw [← HC.out, nth_eq j1, nth_eq j2, hbt]), ← HC.out, hln]
              exact hdown_fuel _ _ _ _ (by rw [hln]; omega) (by rw [hln]; omega))
            clear hbt hsw hln HP
            have a0 : w5.cell? ⟨g, 0, none⟩ = some (.slice (some ⟨gb, 0, none⟩) n c1) := blk_cell BR 0
            go_upto_region 13 with fail
            obtain ⟨bb, oo, hA1, -, y0, y1, y2, y3, y4, y5, y6⟩ := ev_at (j := c) hO.rd j1
            injection hA1 with hA1
            injection hA1 with e1 e2 _
            subst e1 e2
            simp only [Nat.zero_mul, Nat.zero_add] at y0 y1 y2 y3 y4 y5 y6
            obtain ⟨bb, oo, hA1, -, z0, z1, z2, z3, z4, z5, z6⟩ := ev_at (j := k) hO.rd j2
            injection hA1 with hA1
            injection hA1 with e1 e2 _
            subst e1 e2
            simp only [Nat.zero_mul, Nat.zero_add] at z0 z1 z2 z3 z4 z5 z6
            refine region_sg [.rd [0, 1, 2, 3, 4, 5, 6, 7, 8, 9, 10, 11, 12, 13, 14, 15, 16, 17, 18, 19, 20, 21, 22, 23]] [24, 25, 26, 27] (by kernel_rfl) (by kernel_rfl) (fun _ _ d _ _ h => by cases d <;> exact h) ?_
            refine sg_rd (fun N hN => ?_)
            simp only [pickO, List.getElem?_toArray, List.getElem?_cons_zero, List.getElem?_cons_succ]
            go_wp2_with fail
            refine rd_next (hN _ ?_)
            clear hN N
            refine sg_fin ?_
            simp only [pickO, List.getElem?_toArray, List.getElem?_cons_zero, List.getElem?_cons_succ]
            have hOd : Ow tEv 181 w5.drew F (.slice (some ⟨gb, 0, none⟩) n c1) m := hO.move (fun _ _ => rfl)
            clear a0 y0 y1 y2 y3 y4 y5 y6 z0 z1 z2 z3 z4 z5 z6
            go_wp2_with (first | (refine ow_store (cells := EvD.cells) (sz := 7) rfl _ _ _ rfl hOa (g := gb) rfl c (by simpa using j1) m[k] (by first | rfl | simp) (by first | rfl | simp [EvD.cells]) (by kernel_rfl) ?_; intro wb hOb hCb) | (refine ow_store (cells := EvD.cells) (sz := 7) rfl _ _ _ rfl hOd (g := gb) rfl k j2 m[c] (by first | rfl | simp) (by first | rfl | simp [EvD.cells]) (by kernel_rfl) ?_; intro wa hOa hCa))
            have hCs := hCa.trans hCb
            have hSb := hCs.size
            rw [HSW.out] at hOb
            have BX := hCs.heap (show w5.drew.heap[g]? = _ from BR) hne
            have R0X := hCs.heap (show w5.drew.heap[w.heap.size]? = _ from R0) (by omega)
            have R1X := hCs.heap (show w5.drew.heap[w.heap.size + 1]? = _ from R1) (by omega)
            have hCX := hC.drew.then hCs (fun q hq => .inl (.inr (by have hq' : q = gb := hq; rw [hq']; exact hgb)))
            clear BR R0 R1 hO hC hOd hOa hCa hCb
            go_roundw
            case rel => exact ⟨c, swp m k c, rfl, by omega, HM6, BX, R0X, R1X, hOb, hCX, hCX.size, HP6⟩
            case measure => simp [intOf]; omega
end Go.Proofs.YtbcemldiahghcaaGreat

namespace Go.Proofs.YtbcemldiahghcaaGreat
set_option linter.unusedVariables false
set_option linter.unusedSimpArgs false
set_option maxRecDepth 100000
open Go.RowKit
/-- make([]T, 0, n) -/
theorem ow_make {α : Type} {d : Ty α} {e : TypeId} {P : Program} {ops : Array Oper} {rest : List Oper} {o : Oper} {a : Act} {w : World} {Q : Exit → Act → World → Prop} (hg : o.guard = none) (l c : Operand) (t : TypeId) (hop : o.op = Op.makeSlice t l c) (ht : P.underlying t = some (.slice e)) (z : Value) (bytes : Nat)
    (hinfo : (P.info? e).map (fun i => (i.zero, i.size, i.bytes)) = some (some z, d.sz, bytes)) (kl kc : IntKind) (n : Nat) (hl : a.eval l = .int kl 0) (hc : a.eval c = .int kc (n : Int)) (hb : bytes * n ≤ 281474976710656) (hn : n ≤ 9223372036854775807)
    (h : ∀ w1, Ow d e w1 (fun k => w.heap.size ≤ k) (.slice (some ⟨w.heap.size, 0, none⟩) 0 n) [] → Below w.heap.size w w1 → wpList P ops Q rest (a.put o.dst (.slice (some ⟨w.heap.size, 0, none⟩) 0 n)) w1) : wpList P ops Q (o :: rest) a w := by
  obtain ⟨i, h2, h3, h4, h5⟩ := info_parts hinfo
  refine wpList_make_own w hg l c t hop 0 e i z d.sz ht h2 h3 h4 kl kc (n : Int) n hl hc rfl (by rw [h5]; exact hb) (by unfold maxLen; omega) (Nat.zero_le _) fun w1 r1 r2 => ?_
  refine h w1 ⟨[], fun _ _ => False, r1, fun g hg => by simp [Value.ownBlock] at hg; subst hg; exact Nat.le_refl _, fun _ _ h => h.elim, fun _ _ _ _ h => h.elim, fun j x hj => by simp at hj⟩ ?_
  exact Ch.below0 ((Ch.refl _ w).grown r2 (fun k hk => by cases hk))
theorem HeapAt.ch {α : Type} {d : Ty α} {e t : TypeId} {less : FuncId} {w w' : World} {g : Nat} {F S : Nat → Prop} {v : Value} {xs : List α} (h : HeapAt d e t less w g F v xs) (hc : Ch S w w') (hg : ¬ S g) (hF : ∀ k, F k → ¬ S k) : HeapAt d e t less w' g F v xs :=
  ⟨hc.heap h.blk hg, h.row.ch hc hF, h.apart, fun k hk => Nat.lt_of_lt_of_le (h.lt k hk) hc.size⟩
theorem HeapAt.below {α : Type} {d : Ty α} {e t : TypeId} {less : FuncId} {w w' : World} {g : Nat} {F : Nat → Prop} {v : Value} {xs : List α} (h : HeapAt d e t less w g F v xs) (hb : Below w.heap.size w w') : HeapAt d e t less w' g F v xs :=
  ⟨below_heap hb (blk_lt h.blk) h.blk, h.row.below hb, h.apart, fun k hk => Nat.lt_of_lt_of_le (h.lt k hk) hb.size⟩
theorem hdrain_step {α : Type} [Inhabited α] {lt : α → α → Bool} {l : List α} (h : 0 < l.length) : hdrain lt l.length l = nth l 0 :: hdrain lt (hrest lt l).length (hrest lt l) := by
  rw [hrest_len l h]
  obtain ⟨n, hn⟩ : ∃ n, l.length = n + 1 := ⟨l.length - 1, by omega⟩
  rw [hn, hdrain, if_neg (by omega), show n + 1 - 1 = n by omega]
set_option maxHeartbeats 4000000 in
theorem drainOut_c (g : Nat) (F : Nat → Prop) (v : Value) (l : List OutD) (w : World) (h : HeapAt tOut 128 189 137 w g F v l) (hl : l.length ≤ 1000) :
    Calls Tryz.prog 139 #[.pointer (some ⟨g, 0, none⟩)] w fun q w' => ∃ u, q = .returned u ∧ Ow tOut 128 w' (fun k => w.heap.size ≤ k) u (hdrain outLess l.length l) ∧ Ch (fun k => k = g ∨ F k) w w' := by
  obtain ⟨A1, c1, rfl, m1⟩ := h.row.shape
  have hgl := blk_lt h.blk
  have hFlt := h.lt
  have a0 : w.cell? ⟨g, 0, none⟩ = some (.slice A1 l.length c1) := blk_cell h.blk 0
  go_enter Tryz.func139, Tryz.ntmps139
  go_wp2_with (refine ow_make (d := tOut) (e := 128) rfl _ _ _ rfl Tryz.underlying26 _ 40 info_out _ _ l.length rfl rfl (by omega) (by omega) ?_; intro w1 hO1 hb1)
  have hC1 : Ch (fun k => k = g ∨ F k) w w1 := Ch.of_below hb1
  have H1 : HeapAt tOut 128 189 137 w1 g F (.slice A1 l.length c1) l := h.below hb1
  clear h a0 hb1
  go_loopg [3] l.length (fun n u wr => ∃ (m acc : List OutD) (v : Value), HeapAt tOut 128 189 137 wr g F v m ∧ Ow tOut 128 wr (fun k => w.heap.size ≤ k) u acc ∧ Ch (fun k => k = g ∨ F k) w wr ∧ acc.length + m.length ≤ 1000 ∧ Hid (m.length = n) ∧ Hid (acc ++ hdrain outLess m.length m = hdrain outLess l.length l))
  case atStart => exact ⟨l, [], _, H1, hO1, hC1, by simpa using hl, rfl, rfl⟩
  case round =>
    clear H1 hO1 hC1
    obtain ⟨m, acc, v, H, hO, hC, hl2, HK, HD⟩ := hrel
    obtain ⟨A2, c2, rfl, m2⟩ := H.row.shape
    obtain ⟨A3, c3, rfl, m3⟩ := hO.shape
    have a0 : wr.cell? ⟨g, 0, none⟩ = some (.slice A2 m.length c2) := blk_cell H.blk 0
    have hgwr := blk_lt H.blk
    by_cases h0 : m.length = 0
    · have k1 : decide ((m.length : Int) > 0) = false := decide_eq_false (by omega)
      have k2 : decide (0 < m.length) = false := decide_eq_false (by omega)
      have HE := hid (show hdrain outLess l.length l = acc by rw [← HD.out, h0, hdrain]; simp)
      clear h0
      go_wp2_with fail
      go_ret
      exact ⟨_, rfl, by rw [HE.out]; exact hO, hC⟩
    · have hp : 0 < m.length := by omega
      have k1 : decide ((m.length : Int) > 0) = true := decide_eq_true (by omega)
      have k2 : decide (0 < m.length) = true := decide_eq_true hp
      have HE := hid (show (acc ++ [nth m 0]) ++ hdrain outLess (hrest outLess m).length (hrest outLess m) = hdrain outLess l.length l by rw [← HD.out, hdrain_step hp]; simp)
      have hr : (hrest outLess m).length + 1 = m.length := by rw [hrest_len m hp]; omega
      have hlt : (hrest outLess m).length < gk := by have := HK.out; omega
      have HR := hid hr
      have hl3 : acc.length < 1000 := by omega
      clear h0 hr HD HK
      go_wp2_with fail
      refine (popOut_c g F _ m _ H hp (by omega)).mono ?_
      rintro e w5 ⟨rfl, v5, H5, hC5⟩
      generalize nth m 0 = x at *
      have hO5 := hO.ch hC5 (fun k hk => by
        have hk' : w.heap.size ≤ k := hk
        rintro (h1 | h1)
        · omega
        · have := hFlt k h1; omega)
      have hC6 := hC.trans hC5
      clear H hO hC hC5 a0 hgwr
      unfold outAgg
      apply_assumption
      go_wp2_with (at_builtin; refine ow_append (d := tOut) rfl 26 rfl Tryz.underlying26 _ 40 info_out rfl (by decide) (by decide) rfl (hO5.alloc _) x _ rfl (heap_at rfl) (fun _ => False) rfl (fun _ hf => hf.elim) (fun _ hf => hf.elim) (by omega) (fun k => w.heap.size ≤ k) (fun _ hk => hk) (fun _ hf => hf.elim) (fun k hk => by have := hC6.size; simp at hk; omega) ?_; intro v1 w1 hO1 hG1 hat1)
      have hCx : Ch (fun k => w.heap.size ≤ k) w5 w1 := ((Ch.refl (fun k => w.heap.size ≤ k) w5).alloc _).grown hG1 (fun k hk => .inl (hO5.inF hk))
      go_roundg (hrest outLess m).length
      case measure => exact hlt
      case rel => exact ⟨hrest outLess m, acc ++ [x], v5, H5.ch hCx (by omega) (fun k hk => by have := hFlt k hk; omega), hO1, hC6.then hCx (fun k hk => .inr hk), by simp; have := HR.out; omega, rfl, HE⟩
set_option maxHeartbeats 4000000 in
theorem drainEv_c (g : Nat) (F : Nat → Prop) (v : Value) (l : List EvD) (w : World) (h : HeapAt tEv 181 178 131 w g F v l) (hl : l.length ≤ 1000) :
    Calls Tryz.prog 134 #[.pointer (some ⟨g, 0, none⟩)] w fun q w' => ∃ u, q = .returned u ∧ Ow tEv 181 w' (fun k => w.heap.size ≤ k) u (hdrain evLess l.length l) ∧ Ch (fun k => k = g ∨ F k) w w' := by
  obtain ⟨A1, c1, rfl, m1⟩ := h.row.shape
  have hgl := blk_lt h.blk
  have hFlt := h.lt
  have a0 : w.cell? ⟨g, 0, none⟩ = some (.slice A1 l.length c1) := blk_cell h.blk 0
  go_enter Tryz.func134, Tryz.ntmps134
  go_wp2_with (refine ow_make (d := tEv) (e := 181) rfl _ _ _ rfl Tryz.underlying176 _ 56 info_key _ _ l.length rfl rfl (by omega) (by omega) ?_; intro w1 hO1 hb1)
  have hC1 : Ch (fun k => k = g ∨ F k) w w1 := Ch.of_below hb1
  have H1 : HeapAt tEv 181 178 131 w1 g F (.slice A1 l.length c1) l := h.below hb1
  clear h a0 hb1
  go_loopg [3] l.length (fun n u wr => ∃ (m acc : List EvD) (v : Value), HeapAt tEv 181 178 131 wr g F v m ∧ Ow tEv 181 wr (fun k => w.heap.size ≤ k) u acc ∧ Ch (fun k => k = g ∨ F k) w wr ∧ acc.length + m.length ≤ 1000 ∧ Hid (m.length = n) ∧ Hid (acc ++ hdrain evLess m.length m = hdrain evLess l.length l))
  case atStart => exact ⟨l, [], _, H1, hO1, hC1, by simpa using hl, rfl, rfl⟩
  case round =>
    clear H1 hO1 hC1
    obtain ⟨m, acc, v, H, hO, hC, hl2, HK, HD⟩ := hrel
    obtain ⟨A2, c2, rfl, m2⟩ := H.row.shape
    obtain ⟨A3, c3, rfl, m3⟩ := hO.shape
    have a0 : wr.cell? ⟨g, 0, none⟩ = some (.slice A2 m.length c2) := blk_cell H.blk 0
    have hgwr := blk_lt H.blk
    by_cases h0 : m.length = 0
    · have k1 : decide ((m.length : Int) > 0) = false := decide_eq_false (by omega)
      have k2 : decide (0 < m.length) = false := decide_eq_false (by omega)
      have HE := hid (show hdrain evLess l.length l = acc by rw [← HD.out, h0, hdrain]; simp)
      clear h0
      go_wp2_with fail
      go_ret
      exact ⟨_, rfl, by rw [HE.out]; exact hO, hC⟩
    · have hp : 0 < m.length := by omega
      have k1 : decide ((m.length : Int) > 0) = true := decide_eq_true (by omega)
      have k2 : decide (0 < m.length) = true := decide_eq_true hp
      have HE := hid (show (acc ++ [nth m 0]) ++ hdrain evLess (hrest evLess m).length (hrest evLess m) = hdrain evLess l.length l by rw [← HD.out, hdrain_step hp]; simp)
      have hr : (hrest evLess m).length + 1 = m.length := by rw [hrest_len m hp]; omega
      have hlt : (hrest evLess m).length < gk := by have := HK.out; omega
      have HR := hid hr
      have hl3 : acc.length < 1000 := by omega
      clear h0 hr HD HK
      go_wp2_with fail
      refine (popEv_c g F _ m _ H hp (by omega)).mono ?_
      rintro e w5 ⟨rfl, v5, H5, hC5⟩
      generalize nth m 0 = x at *
      have hO5 := hO.ch hC5 (fun k hk => by
        have hk' : w.heap.size ≤ k := hk
        rintro (h1 | h1)
        · omega
        · have := hFlt k h1; omega)
      have hC6 := hC.trans hC5
      clear H hO hC hC5 a0 hgwr
      unfold evAgg
      apply_assumption
      go_wp2_with (at_builtin; refine ow_append (d := tEv) rfl 176 rfl Tryz.underlying176 _ 56 info_key rfl (by decide) (by decide) rfl (hO5.alloc _) x _ rfl (heap_at rfl) (fun _ => False) rfl (fun _ hf => hf.elim) (fun _ hf => hf.elim) (by omega) (fun k => w.heap.size ≤ k) (fun _ hk => hk) (fun _ hf => hf.elim) (fun k hk => by have := hC6.size; simp at hk; omega) ?_; intro v1 w1 hO1 hG1 hat1)
      have hCx : Ch (fun k => w.heap.size ≤ k) w5 w1 := ((Ch.refl (fun k => w.heap.size ≤ k) w5).alloc _).grown hG1 (fun k hk => .inl (hO5.inF hk))
      go_roundg (hrest evLess m).length
      case measure => exact hlt
      case rel => exact ⟨hrest evLess m, acc ++ [x], v5, H5.ch hCx (by omega) (fun k hk => by have := hFlt k hk; omega), hO1, hC6.then hCx (fun k hk => .inr hk), by simp; have := HR.out; omega, rfl, HE⟩
end Go.Proofs.YtbcemldiahghcaaGreat

namespace Go.Proofs.YtbcemldiahghcaaGreat
set_option linter.unusedVariables false
set_option linter.unusedSimpArgs false
set_option maxRecDepth 100000
open Go.RowKit
theorem heapOf_snoc {α : Type} [Inhabited α] (lt : α → α → Bool) (l : List α) (x : α) : heapOf lt (l ++ [x]) = hpush lt (heapOf lt l) x := by unfold heapOf; rw [List.foldl_append]; rfl
theorem heapOf_len {α : Type} [Inhabited α] {lt : α → α → Bool} (O : StrictOrd lt) (l : List α) : (heapOf lt l).length = l.length := (heapOf_ok O l).2.length_eq
set_option maxHeartbeats 4000000 in
theorem OutSortI_c (v : Value) (xs : List OutD) (F : Nat → Prop) (w : World) (h : Rd tOut w F v xs) (hl : xs.length ≤ 1000) :
    Calls Tryz.prog 86 #[v] w fun q w' => ∃ u, q = .returned u ∧ Ow tOut 128 w' (fun k => w.heap.size ≤ k) u (outSort xs) ∧ Below w.heap.size w w' := by
  obtain ⟨A, c, rfl, m0⟩ := h.shape
  go_enter Tryz.func86, Tryz.ntmps86
  go_wp2_with fail
  have hW := balloc (Below.refl w.heap.size w) (.cells #[.slice none 0 0, .func (.func 137) #[] #[]] 189)
  have hb1 : (w.alloc (.cells #[.slice none 0 0, .func (.func 137) #[] #[]] 189)).heap[w.heap.size]? = some (.cells #[.slice none 0 0, .func (.func 137) #[] #[]] 189 (0, 0)) := heap_at rfl
  have H1 : HeapAt tOut 128 189 137 (w.alloc (.cells #[.slice none 0 0, .func (.func 137) #[] #[]] 189)) w.heap.size (fun k => False) (.slice none 0 0) (heapOf outLess (xs.take 0)) := ⟨hb1, by simpa [heapOf] using Ow.nil tOut 128 _ _, id, fun _ hf => hf.elim⟩
  generalize w.alloc (.cells #[.slice none 0 0, .func (.func 137) #[] #[]] 189) = W at *
  go_loopw [9] (fun t wr => ∃ (k : Nat) (G : Nat → Prop) (v : Value), t = .int .i64 k ∧ k ≤ xs.length ∧ HeapAt tOut 128 189 137 wr w.heap.size G v (heapOf outLess (xs.take k)) ∧ (∀ q, G q → w.heap.size ≤ q) ∧ Below w.heap.size w wr) (fun t _ => xs.length - (intOf t).toNat)
  case atStart => exact ⟨0, _, _, rfl, Nat.zero_le _, H1, fun _ hf => hf.elim, hW⟩
  case round =>
    clear H1 hW hb1
    obtain ⟨k, G, v, rfl, hk, HH, hG, hb⟩ := hrel
    by_cases hlt : k < xs.length
    · have hrd := h.below hb
      obtain ⟨b0, o0, rfl, hb0, z0, z1, z2, z3, z4⟩ := out_at hrd k hlt
      have HS := hid (show heapOf outLess (xs.take (k + 1)) = hpush outLess (heapOf outLess (xs.take k)) xs[k] by rw [List.take_succ_eq_append_getElem hlt, heapOf_snoc])
      have hln : (heapOf outLess (xs.take k)).length ≤ 1000 := by rw [heapOf_len out_ord]; simp; omega
      have p1 : (k : Int) < (xs.length : Int) := by omega
      go_wp2_with fail
      refine (pushOut_c w.heap.size G v (heapOf outLess (xs.take k)) xs[k] _ (HH.below (balloc (Below.refl _ _) _)) hln).mono ?_
      rintro e w5 ⟨rfl, v5, G5, H5, hG5, hC5⟩
      rw [← HS.out] at H5
      apply_assumption
      have hCw : Ch (fun q => w.heap.size ≤ q) w w5 := ((Ch.of_below hb).alloc _).then hC5 (fun q hq => .inr (hq.elim (fun e1 => Nat.le_of_eq e1.symm) (hG q)))
      have hb5 := hCw.below (fun q hq => hq) (Nat.le_refl _)
      have hsz := hb.size
      clear HH hC5 hCw hrd hb z0 z1 z2 z3 z4
      go_wp2_with fail
      go_roundw
      case rel => exact ⟨k + 1, G5, v5, by go_num, by omega, H5, fun q hq => (hG5 q hq).elim (hG q) (fun h1 => by simp at h1; omega), hb5⟩
      case measure => simp [intOf]; omega
    · have hkl : k = xs.length := by omega
      subst hkl
      have HE := hid (show hdrain outLess (heapOf outLess (xs.take xs.length)).length (heapOf outLess (xs.take xs.length)) = outSort xs by rw [List.take_length, heapOf_len out_ord]; exact drain_sortAll out_ord xs)
      have hln : (heapOf outLess (xs.take xs.length)).length ≤ 1000 := by rw [heapOf_len out_ord]; simpa using hl
      go_wp2_with fail
      refine (drainOut_c w.heap.size G v _ _ HH hln).mono ?_
      rintro e w5 ⟨u, rfl, hO5, hC5⟩
      apply_assumption
      go_wp2_with fail
      go_ret
      exact ⟨u, rfl, by rw [← HE.out]; exact hO5.mono (fun q hq => Nat.le_trans hb.size hq), hb.trans (hC5.below (fun q hq => hq.elim (fun e1 => Nat.le_of_eq e1.symm) (hG q)) hb.size)⟩
end Go.Proofs.YtbcemldiahghcaaGreat
