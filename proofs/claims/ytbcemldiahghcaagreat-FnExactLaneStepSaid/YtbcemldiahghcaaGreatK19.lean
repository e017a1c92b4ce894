/- Texts joined: Ez7, Ez8. -/
import Derived.Test.YtbcemldiahghcaaGreatK18
import Derived.Test.YtbcemldiahghcaaGreatK03
namespace Go.Proofs.YtbcemldiahghcaaGreat
set_option linter.unusedVariables false
set_option linter.unusedSimpArgs false
set_option maxRecDepth 100000
open Go.RowKit
theorem laneNow_nil {l : LaneD} (h : l.done.length = 0) : laneNow l = l.base := by
  have : l.done = [] := List.length_eq_zero_iff.1 h
  simp [laneNow, this]
theorem laneNow_last {l : LaneD} (h : l.done.length - 1 < l.done.length) : laneNow l = (l.done[l.done.length - 1]).st := by
  unfold laneNow
  rw [List.getLast?_eq_getElem?, List.getElem?_eq_getElem h]
set_option maxHeartbeats 1000000 in
theorem LaneNow_c (l : LaneD) (v : Value) (F : Nat → Prop) (w : World) (h : Rd tPast w F v l.done) (qk : laneOk l = true) :
    Calls Tryz.prog 53 #[.agg #[.int .i64 l.proc, .int .i64 l.base.x, .int .i64 l.base.y, .int .i64 l.base.c, v]] w fun q w' => q = .returned (.agg #[.int .i64 (laneNow l).x, .int .i64 (laneNow l).y, .int .i64 (laneNow l).c]) ∧ Below w.heap.size w w' := by
  obtain ⟨A, c, rfl, -, hlen, -⟩ := id h
  have HW : Below w.heap.size w ((w.alloc (.cells #[.int .i64 l.proc, .int .i64 l.base.x, .int .i64 l.base.y, .int .i64 l.base.c, .slice A l.done.length c] 52)).alloc (.cells #[.int .i64 0, .int .i64 0, .int .i64 0] 49)) := balloc (balloc (Below.refl _ _) _) _
  have Z : ((w.alloc (.cells #[.int .i64 l.proc, .int .i64 l.base.x, .int .i64 l.base.y, .int .i64 l.base.c, .slice A l.done.length c] 52)).alloc (.cells #[.int .i64 0, .int .i64 0, .int .i64 0] 49)).heap[w.heap.size]? = some (.cells #[.int .i64 l.proc, .int .i64 l.base.x, .int .i64 l.base.y, .int .i64 l.base.c, .slice A l.done.length c] 52 (0, 0)) := (heap_old (by simp)).trans (heap_at rfl)
  have Y : ((w.alloc (.cells #[.int .i64 l.proc, .int .i64 l.base.x, .int .i64 l.base.y, .int .i64 l.base.c, .slice A l.done.length c] 52)).alloc (.cells #[.int .i64 0, .int .i64 0, .int .i64 0] 49)).heap[w.heap.size + 1]? = some (.cells #[.int .i64 0, .int .i64 0, .int .i64 0] 49 (0, 0)) := heap_at (by simp)
  go_enter Tryz.func53, Tryz.ntmps53
  go_upto_region 1 with fail
  generalize (w.alloc (.cells #[.int .i64 l.proc, .int .i64 l.base.x, .int .i64 l.base.y, .int .i64 l.base.c, .slice A l.done.length c] 52)).alloc (.cells #[.int .i64 0, .int .i64 0, .int .i64 0] 49) = W at *
  replace h := h.below HW
  have c0 : W.cell? ⟨w.heap.size, 0, none⟩ = some (.int .i64 l.proc) := blk_cell Z 0
  have c1 : W.cell? ⟨w.heap.size, 1, none⟩ = some (.int .i64 l.base.x) := blk_cell Z 1
  have c2 : W.cell? ⟨w.heap.size, 2, none⟩ = some (.int .i64 l.base.y) := blk_cell Z 2
  have c3 : W.cell? ⟨w.heap.size, 3, none⟩ = some (.int .i64 l.base.c) := blk_cell Z 3
  have c4 : W.cell? ⟨w.heap.size, 4, none⟩ = some (.slice A l.done.length c) := blk_cell Z 4
  have d0 : W.cell? ⟨w.heap.size + 1, 0, none⟩ = some (.int .i64 0) := blk_cell Y 0
  have d1 : W.cell? ⟨w.heap.size + 1, 1, none⟩ = some (.int .i64 0) := blk_cell Y 1
  have d2 : W.cell? ⟨w.heap.size + 1, 2, none⟩ = some (.int .i64 0) := blk_cell Y 2
  have f0 := blk_frozen Y 0
  have f1 := blk_frozen Y 1
  have f2 := blk_frozen Y 2
  go_wp2_with fail
  refine (LaneOk_c l _ F _ h).mono ?_
  rintro q w1 ⟨rfl, hb⟩
  rw [qk]
  replace HW := bthen HW hb HW.size
  replace Z := below_heap hb (blk_lt Z) Z
  replace Y := below_heap hb (blk_lt Y) Y
  replace h := h.below hb
  clear hb c0 c1 c2 c3 c4 d0 d1 d2 f0 f1 f2
  have c0 : w1.cell? ⟨w.heap.size, 0, none⟩ = some (.int .i64 l.proc) := blk_cell Z 0
  have c1 : w1.cell? ⟨w.heap.size, 1, none⟩ = some (.int .i64 l.base.x) := blk_cell Z 1
  have c2 : w1.cell? ⟨w.heap.size, 2, none⟩ = some (.int .i64 l.base.y) := blk_cell Z 2
  have c3 : w1.cell? ⟨w.heap.size, 3, none⟩ = some (.int .i64 l.base.c) := blk_cell Z 3
  have c4 : w1.cell? ⟨w.heap.size, 4, none⟩ = some (.slice A l.done.length c) := blk_cell Z 4
  have d0 : w1.cell? ⟨w.heap.size + 1, 0, none⟩ = some (.int .i64 0) := blk_cell Y 0
  have d1 : w1.cell? ⟨w.heap.size + 1, 1, none⟩ = some (.int .i64 0) := blk_cell Y 1
  have d2 : w1.cell? ⟨w.heap.size + 1, 2, none⟩ = some (.int .i64 0) := blk_cell Y 2
  have f0 := blk_frozen Y 0
  have f1 := blk_frozen Y 1
  have f2 := blk_frozen Y 2
  apply_assumption
  by_cases q0 : l.done.length = 0
  case pos =>
    have HN := hid (laneNow_nil q0)
    have e0 : decide ((l.done.length : Int) = 0) = true := decide_eq_true (by omega)
    have e1 : ((l.done.length : Int) == 0) = true := by simp [q0]
    clear q0
    go_wp2_with fail
    have hbX : Below w.heap.size w (((w1.setCell ⟨w.heap.size + 1, 0, none⟩ (.int .i64 l.base.x)).setCell ⟨w.heap.size + 1, 1, none⟩ (.int .i64 l.base.y)).setCell ⟨w.heap.size + 1, 2, none⟩ (.int .i64 l.base.c)) := (((HW.setCell (p := ⟨w.heap.size + 1, 0, none⟩) (Nat.le_succ _) _).setCell (p := ⟨w.heap.size + 1, 1, none⟩) (Nat.le_succ _) _).setCell (p := ⟨w.heap.size + 1, 2, none⟩) (Nat.le_succ _) _)
    have BX := blk_set (blk_set (blk_set Y 0 (.int .i64 l.base.x)) 1 (.int .i64 l.base.y)) 2 (.int .i64 l.base.c)
    simp only [List.setIfInBounds_toArray, List.set_cons_zero, List.set_cons_succ] at BX
    generalize (((w1.setCell ⟨w.heap.size + 1, 0, none⟩ (.int .i64 l.base.x)).setCell ⟨w.heap.size + 1, 1, none⟩ (.int .i64 l.base.y)).setCell ⟨w.heap.size + 1, 2, none⟩ (.int .i64 l.base.c)) = W12 at *
    have s0 : W12.cell? ⟨w.heap.size + 1, 0, none⟩ = some (.int .i64 l.base.x) := blk_cell BX 0
    have s1 : W12.cell? ⟨w.heap.size + 1, 1, none⟩ = some (.int .i64 l.base.y) := blk_cell BX 1
    have s2 : W12.cell? ⟨w.heap.size + 1, 2, none⟩ = some (.int .i64 l.base.c) := blk_cell BX 2
    refine bodyPost_ret (v := .agg #[.int .i64 l.base.x, .int .i64 l.base.y, .int .i64 l.base.c]) (by simp only [results, Tryz.results53]; go_simp) rfl ⟨by rw [HN.out], hbX⟩
  have hp : l.done.length - 1 < l.done.length := by omega
  have HN0 := hid (laneNow_last hp)
  have e0 : decide ((l.done.length : Int) = 0) = false := decide_eq_false (by omega)
  have e1 : ((l.done.length : Int) == 0) = false := beq_eq_false_iff_ne.2 (by omega)
  have p1 : (0 : Int) ≤ (l.done.length : Int) - 1 := by omega
  have p2 : (l.done.length : Int) - 1 < (l.done.length : Int) := by omega
  have p3 : (1 : Int) ≤ (l.done.length : Int) := by omega
  have p4 : 1 ≤ l.done.length := by omega
  have hck : ((l.done.length : Int) - 1).toNat = l.done.length - 1 := by omega
  obtain ⟨b2, o2, A3, c3x, A4, c4x, rfl, hbb2, -, ⟨x7, x8, x9⟩, -, -, -, -⟩ := past_at h (l.done.length - 1) hp
  obtain ⟨el, hel⟩ : ∃ el, l.done[l.done.length - 1] = el := ⟨_, rfl⟩
  rw [hel] at x7 x8 x9
  have HN := hid (show laneNow l = el.st from by rw [HN0.out, hel])
  clear hel HN0 q0 hp
  go_wp2_with fail
  have hbX : Below w.heap.size w (((w1.setCell ⟨w.heap.size + 1, 0, none⟩ (.int .i64 el.st.x)).setCell ⟨w.heap.size + 1, 1, none⟩ (.int .i64 el.st.y)).setCell ⟨w.heap.size + 1, 2, none⟩ (.int .i64 el.st.c)) := (((HW.setCell (p := ⟨w.heap.size + 1, 0, none⟩) (Nat.le_succ _) _).setCell (p := ⟨w.heap.size + 1, 1, none⟩) (Nat.le_succ _) _).setCell (p := ⟨w.heap.size + 1, 2, none⟩) (Nat.le_succ _) _)
  have BX := blk_set (blk_set (blk_set Y 0 (.int .i64 el.st.x)) 1 (.int .i64 el.st.y)) 2 (.int .i64 el.st.c)
  simp only [List.setIfInBounds_toArray, List.set_cons_zero, List.set_cons_succ] at BX
  generalize (((w1.setCell ⟨w.heap.size + 1, 0, none⟩ (.int .i64 el.st.x)).setCell ⟨w.heap.size + 1, 1, none⟩ (.int .i64 el.st.y)).setCell ⟨w.heap.size + 1, 2, none⟩ (.int .i64 el.st.c)) = W12 at *
  have s0 : W12.cell? ⟨w.heap.size + 1, 0, none⟩ = some (.int .i64 el.st.x) := blk_cell BX 0
  have s1 : W12.cell? ⟨w.heap.size + 1, 1, none⟩ = some (.int .i64 el.st.y) := blk_cell BX 1
  have s2 : W12.cell? ⟨w.heap.size + 1, 2, none⟩ = some (.int .i64 el.st.c) := blk_cell BX 2
  refine bodyPost_ret (v := .agg #[.int .i64 el.st.x, .int .i64 el.st.y, .int .i64 el.st.c]) (by simp only [results, Tryz.results53]; go_simp) rfl ⟨by rw [HN.out], hbX⟩
set_option maxHeartbeats 1000000 in
theorem laneNowI_c (l : LaneD) (v : Value) (F : Nat → Prop) (w : World) (h : Rd tPast w F v l.done) :
    Calls Tryz.prog 110 #[.agg #[.int .i64 l.proc, .int .i64 l.base.x, .int .i64 l.base.y, .int .i64 l.base.c, v]] w fun q w' => q = .returned (.agg #[.int .i64 (laneNow l).x, .int .i64 (laneNow l).y, .int .i64 (laneNow l).c]) ∧ Below w.heap.size w w' := by
  obtain ⟨A, c, rfl, -, hlen, -⟩ := id h
  have HW : Below w.heap.size w ((w.alloc (.cells #[.int .i64 l.proc, .int .i64 l.base.x, .int .i64 l.base.y, .int .i64 l.base.c, .slice A l.done.length c] 52)).alloc (.cells #[.int .i64 0, .int .i64 0, .int .i64 0] 49)) := balloc (balloc (Below.refl _ _) _) _
  have Z : ((w.alloc (.cells #[.int .i64 l.proc, .int .i64 l.base.x, .int .i64 l.base.y, .int .i64 l.base.c, .slice A l.done.length c] 52)).alloc (.cells #[.int .i64 0, .int .i64 0, .int .i64 0] 49)).heap[w.heap.size]? = some (.cells #[.int .i64 l.proc, .int .i64 l.base.x, .int .i64 l.base.y, .int .i64 l.base.c, .slice A l.done.length c] 52 (0, 0)) := (heap_old (by simp)).trans (heap_at rfl)
  have Y : ((w.alloc (.cells #[.int .i64 l.proc, .int .i64 l.base.x, .int .i64 l.base.y, .int .i64 l.base.c, .slice A l.done.length c] 52)).alloc (.cells #[.int .i64 0, .int .i64 0, .int .i64 0] 49)).heap[w.heap.size + 1]? = some (.cells #[.int .i64 0, .int .i64 0, .int .i64 0] 49 (0, 0)) := heap_at (by simp)
  go_enter Tryz.func110, Tryz.ntmps110
  go_upto_region 1 with fail
  generalize (w.alloc (.cells #[.int .i64 l.proc, .int .i64 l.base.x, .int .i64 l.base.y, .int .i64 l.base.c, .slice A l.done.length c] 52)).alloc (.cells #[.int .i64 0, .int .i64 0, .int .i64 0] 49) = W at *
  replace h := h.below HW
  have c0 : W.cell? ⟨w.heap.size, 0, none⟩ = some (.int .i64 l.proc) := blk_cell Z 0
  have c1 : W.cell? ⟨w.heap.size, 1, none⟩ = some (.int .i64 l.base.x) := blk_cell Z 1
  have c2 : W.cell? ⟨w.heap.size, 2, none⟩ = some (.int .i64 l.base.y) := blk_cell Z 2
  have c3 : W.cell? ⟨w.heap.size, 3, none⟩ = some (.int .i64 l.base.c) := blk_cell Z 3
  have c4 : W.cell? ⟨w.heap.size, 4, none⟩ = some (.slice A l.done.length c) := blk_cell Z 4
  have d0 : W.cell? ⟨w.heap.size + 1, 0, none⟩ = some (.int .i64 0) := blk_cell Y 0
  have d1 : W.cell? ⟨w.heap.size + 1, 1, none⟩ = some (.int .i64 0) := blk_cell Y 1
  have d2 : W.cell? ⟨w.heap.size + 1, 2, none⟩ = some (.int .i64 0) := blk_cell Y 2
  have f0 := blk_frozen Y 0
  have f1 := blk_frozen Y 1
  have f2 := blk_frozen Y 2
  by_cases q0 : l.done.length = 0
  case pos =>
    have HN := hid (laneNow_nil q0)
    have e0 : decide ((l.done.length : Int) = 0) = true := decide_eq_true (by omega)
    have e1 : ((l.done.length : Int) == 0) = true := by simp [q0]
    clear q0
    go_wp2_with fail
    have hbX : Below w.heap.size w (((W.setCell ⟨w.heap.size + 1, 0, none⟩ (.int .i64 l.base.x)).setCell ⟨w.heap.size + 1, 1, none⟩ (.int .i64 l.base.y)).setCell ⟨w.heap.size + 1, 2, none⟩ (.int .i64 l.base.c)) := (((HW.setCell (p := ⟨w.heap.size + 1, 0, none⟩) (Nat.le_succ _) _).setCell (p := ⟨w.heap.size + 1, 1, none⟩) (Nat.le_succ _) _).setCell (p := ⟨w.heap.size + 1, 2, none⟩) (Nat.le_succ _) _)
    have BX := blk_set (blk_set (blk_set Y 0 (.int .i64 l.base.x)) 1 (.int .i64 l.base.y)) 2 (.int .i64 l.base.c)
    simp only [List.setIfInBounds_toArray, List.set_cons_zero, List.set_cons_succ] at BX
    generalize (((W.setCell ⟨w.heap.size + 1, 0, none⟩ (.int .i64 l.base.x)).setCell ⟨w.heap.size + 1, 1, none⟩ (.int .i64 l.base.y)).setCell ⟨w.heap.size + 1, 2, none⟩ (.int .i64 l.base.c)) = W12 at *
    have s0 : W12.cell? ⟨w.heap.size + 1, 0, none⟩ = some (.int .i64 l.base.x) := blk_cell BX 0
    have s1 : W12.cell? ⟨w.heap.size + 1, 1, none⟩ = some (.int .i64 l.base.y) := blk_cell BX 1
    have s2 : W12.cell? ⟨w.heap.size + 1, 2, none⟩ = some (.int .i64 l.base.c) := blk_cell BX 2
    refine bodyPost_ret (v := .agg #[.int .i64 l.base.x, .int .i64 l.base.y, .int .i64 l.base.c]) (by simp only [results, Tryz.results110]; go_simp) rfl ⟨by rw [HN.out], hbX⟩
  have hp : l.done.length - 1 < l.done.length := by omega
  have HN0 := hid (laneNow_last hp)
  have e0 : decide ((l.done.length : Int) = 0) = false := decide_eq_false (by omega)
  have e1 : ((l.done.length : Int) == 0) = false := beq_eq_false_iff_ne.2 (by omega)
  have p1 : (0 : Int) ≤ (l.done.length : Int) - 1 := by omega
  have p2 : (l.done.length : Int) - 1 < (l.done.length : Int) := by omega
  have p3 : (1 : Int) ≤ (l.done.length : Int) := by omega
  have p4 : 1 ≤ l.done.length := by omega
  have hck : ((l.done.length : Int) - 1).toNat = l.done.length - 1 := by omega
  obtain ⟨b2, o2, A3, c3x, A4, c4x, rfl, hbb2, -, ⟨x7, x8, x9⟩, -, -, -, -⟩ := past_at h (l.done.length - 1) hp
  obtain ⟨el, hel⟩ : ∃ el, l.done[l.done.length - 1] = el := ⟨_, rfl⟩
  rw [hel] at x7 x8 x9
  have HN := hid (show laneNow l = el.st from by rw [HN0.out, hel])
  clear hel HN0 q0 hp
  go_wp2_with fail
  have hbX : Below w.heap.size w (((W.setCell ⟨w.heap.size + 1, 0, none⟩ (.int .i64 el.st.x)).setCell ⟨w.heap.size + 1, 1, none⟩ (.int .i64 el.st.y)).setCell ⟨w.heap.size + 1, 2, none⟩ (.int .i64 el.st.c)) := (((HW.setCell (p := ⟨w.heap.size + 1, 0, none⟩) (Nat.le_succ _) _).setCell (p := ⟨w.heap.size + 1, 1, none⟩) (Nat.le_succ _) _).setCell (p := ⟨w.heap.size + 1, 2, none⟩) (Nat.le_succ _) _)
  have BX := blk_set (blk_set (blk_set Y 0 (.int .i64 el.st.x)) 1 (.int .i64 el.st.y)) 2 (.int .i64 el.st.c)
  simp only [List.setIfInBounds_toArray, List.set_cons_zero, List.set_cons_succ] at BX
  generalize (((W.setCell ⟨w.heap.size + 1, 0, none⟩ (.int .i64 el.st.x)).setCell ⟨w.heap.size + 1, 1, none⟩ (.int .i64 el.st.y)).setCell ⟨w.heap.size + 1, 2, none⟩ (.int .i64 el.st.c)) = W12 at *
  have s0 : W12.cell? ⟨w.heap.size + 1, 0, none⟩ = some (.int .i64 el.st.x) := blk_cell BX 0
  have s1 : W12.cell? ⟨w.heap.size + 1, 1, none⟩ = some (.int .i64 el.st.y) := blk_cell BX 1
  have s2 : W12.cell? ⟨w.heap.size + 1, 2, none⟩ = some (.int .i64 el.st.c) := blk_cell BX 2
  refine bodyPost_ret (v := .agg #[.int .i64 el.st.x, .int .i64 el.st.y, .int .i64 el.st.c]) (by simp only [results, Tryz.results110]; go_simp) rfl ⟨by rw [HN.out], hbX⟩
theorem all_to {came : List EvD} {p : Int} {k : Nat} (hlt : k < came.length) (ha : (came.take k).all (fun e => decide (e.to = p)) = true) (h : came[k].to = p) : (came.take (k + 1)).all (fun e => decide (e.to = p)) = true :=
  all_snoc (p := fun e : EvD => decide (e.to = p)) hlt ha (by simpa using h)
theorem all_not {came : List EvD} {p : Int} {k : Nat} (hlt : k < came.length) (h : ¬ came[k].to = p) : came.all (fun e => decide (e.to = p)) = false :=
  all_false (p := fun e : EvD => decide (e.to = p)) hlt (by simpa using h)
set_option maxHeartbeats 1000000 in
theorem l21Came_c (l : LaneD) (v vc : Value) (came : List EvD) (F G : Nat → Prop) (w : World) (h : Rd tPast w F v l.done) (hc : Rd tEv w G vc came) :
    Calls Tryz.prog 92 #[.agg #[.int .i64 l.proc, .int .i64 l.base.x, .int .i64 l.base.y, .int .i64 l.base.c, v], vc] w fun q w' => q = .returned (.bool (cameOk l came)) ∧ Below w.heap.size w w' := by
  obtain ⟨A, c, rfl, -, hlen, -⟩ := id h
  obtain ⟨B, b, rfl, -, hlc, -⟩ := id hc
  have HW : Below w.heap.size w (w.alloc (.cells #[.int .i64 l.proc, .int .i64 l.base.x, .int .i64 l.base.y, .int .i64 l.base.c, .slice A l.done.length c] 52)) := balloc (Below.refl _ _) _
  have Z : (w.alloc (.cells #[.int .i64 l.proc, .int .i64 l.base.x, .int .i64 l.base.y, .int .i64 l.base.c, .slice A l.done.length c] 52)).heap[w.heap.size]? = some (.cells #[.int .i64 l.proc, .int .i64 l.base.x, .int .i64 l.base.y, .int .i64 l.base.c, .slice A l.done.length c] 52 (0, 0)) := heap_at rfl
  go_enter Tryz.func92, Tryz.ntmps92
  go_upto_region 1 with fail
  generalize w.alloc (.cells #[.int .i64 l.proc, .int .i64 l.base.x, .int .i64 l.base.y, .int .i64 l.base.c, .slice A l.done.length c] 52) = W at *
  replace hc := hc.below HW
  clear h
  go_wp2_with fail
  refine (l2Most_c _).mono ?_
  rintro e w1 ⟨rfl, hw⟩
  subst w1
  apply_assumption
  go_wp2_with fail
  refine (l2Events_c _ came _ G _ hc).mono ?_
  rintro q w1 ⟨rfl, hb⟩
  replace HW := bthen HW hb HW.size
  replace Z := below_heap hb (blk_lt Z) Z
  replace hc := hc.below hb
  clear hb
  obtain ⟨t, ht⟩ : ∃ t, evsOk came 100 = t := ⟨_, rfl⟩
  have HT := hid ht
  rw [ht]
  clear ht
  apply_assumption
  cases t
  case false =>
    have HF := hid (show cameOk l came = false by simp [cameOk, HT.out])
    go_wp2_with fail
    go_ret
    exact ⟨by rw [HF.out]; rfl, HW⟩
  have hsz := blk_lt Z
  go_wp2_with fail
  go_loopw [5] (fun i wr => ∃ k : Nat, i = .int .i64 k ∧ k ≤ came.length ∧ Hid ((came.take k).all (fun e => decide (e.to = l.proc)) = true) ∧ Below w1.heap.size w1 wr) (fun i _ => came.length - (intOf i).toNat)
  case atStart => exact ⟨0, rfl, Nat.zero_le _, rfl, Below.refl _ _⟩
  case round =>
    obtain ⟨k, rfl, hk, hal, hb⟩ := hrel
    have HBr := bthen HW hb HW.size
    have Zr := below_heap hb hsz Z
    have hr := hc.below hb
    have c0 : wr.cell? ⟨w.heap.size, 0, none⟩ = some (.int .i64 l.proc) := blk_cell Zr 0
    by_cases hlt : k < came.length
    · obtain ⟨b0, o0, rfl, hb0, z0, z1, z2, z3, z4, z5, z6⟩ := ev_at hr k hlt
      have p0 : (k : Int) < (came.length : Int) := by omega
      by_cases hto : came[k].to = l.proc
      · have al := hid (all_to hlt hal.out hto)
        have e0 : (came[k].to != l.proc) = false := by simpa using hto
        clear hto
        go_upto_region 6 with fail
        refine region_sg [.rd [0, 1, 2, 3, 4, 5, 6]] [7] (by kernel_rfl) (by kernel_rfl) (fun _ _ d _ _ h => by cases d <;> exact h) ?_
        refine sg_rd (fun N hN => ?_)
        simp only [pickO, List.getElem?_toArray, List.getElem?_cons_zero, List.getElem?_cons_succ]
        go_wp2_with fail
        refine rd_next (hN _ ?_)
        clear hN N
        refine sg_fin ?_
        simp only [pickO, List.getElem?_toArray, List.getElem?_cons_zero, List.getElem?_cons_succ]
        have hbD := hb.drew
        go_wp2_with fail
        go_roundw
        case rel => exact ⟨k + 1, by go_num, by omega, al, hbD⟩
        case measure => simp [intOf]; omega
      · have HF := hid (show cameOk l came = false by simp only [cameOk, all_not hlt hto, Bool.and_false])
        have e0 : (came[k].to != l.proc) = true := by simpa using hto
        clear hto
        go_upto_region 6 with fail
        refine region_sg [.rd [0, 1, 2, 3, 4, 5, 6]] [7] (by kernel_rfl) (by kernel_rfl) (fun _ _ d _ _ h => by cases d <;> exact h) ?_
        refine sg_rd (fun N hN => ?_)
        simp only [pickO, List.getElem?_toArray, List.getElem?_cons_zero, List.getElem?_cons_succ]
        go_wp2_with fail
        refine rd_next (hN _ ?_)
        clear hN N
        refine sg_fin ?_
        simp only [pickO, List.getElem?_toArray, List.getElem?_cons_zero, List.getElem?_cons_succ]
        have hbD := hb.drew
        go_wp2_with fail
        go_ret
        exact ⟨by rw [HF.out]; rfl, HW.trans (hbD.mono HW.size)⟩
    · have hkl : k = came.length := by omega
      subst hkl
      have hall := hal.out
      rw [List.take_length] at hall
      have HA := hid hall
      clear hall
      have HF := hid (show cameOk l came = true by simp only [cameOk, HA.out, HT.out]; rfl)
      go_wp2_with fail
      go_ret
      exact ⟨by rw [HF.out]; rfl, HBr⟩
set_option maxHeartbeats 1000000 in
theorem cameFitsI_c (l : LaneD) (v vc : Value) (came : List EvD) (F G : Nat → Prop) (w : World) (h : Rd tPast w F v l.done) (hc : Rd tEv w G vc came) :
    Calls Tryz.prog 108 #[.agg #[.int .i64 l.proc, .int .i64 l.base.x, .int .i64 l.base.y, .int .i64 l.base.c, v], vc] w fun q w' => q = .returned (.bool (cameOk l came)) ∧ Below w.heap.size w w' := by
  obtain ⟨A, c, rfl, -, hlen, -⟩ := id h
  obtain ⟨B, b, rfl, -, hlc, -⟩ := id hc
  have HW : Below w.heap.size w (w.alloc (.cells #[.int .i64 l.proc, .int .i64 l.base.x, .int .i64 l.base.y, .int .i64 l.base.c, .slice A l.done.length c] 52)) := balloc (Below.refl _ _) _
  have Z : (w.alloc (.cells #[.int .i64 l.proc, .int .i64 l.base.x, .int .i64 l.base.y, .int .i64 l.base.c, .slice A l.done.length c] 52)).heap[w.heap.size]? = some (.cells #[.int .i64 l.proc, .int .i64 l.base.x, .int .i64 l.base.y, .int .i64 l.base.c, .slice A l.done.length c] 52 (0, 0)) := heap_at rfl
  go_enter Tryz.func108, Tryz.ntmps108
  go_upto_region 1 with fail
  generalize w.alloc (.cells #[.int .i64 l.proc, .int .i64 l.base.x, .int .i64 l.base.y, .int .i64 l.base.c, .slice A l.done.length c] 52) = W at *
  replace hc := hc.below HW
  clear h
  have hsz := blk_lt Z
  go_wp2_with fail
  go_loopw [9] (fun i wr => ∃ k : Nat, i = .int .i64 k ∧ k ≤ came.length ∧ Hid ((came.take k).all (fun e => decide (e.to = l.proc)) = true) ∧ Below W.heap.size W wr) (fun i _ => came.length - (intOf i).toNat)
  case atStart => exact ⟨0, rfl, Nat.zero_le _, rfl, Below.refl _ _⟩
  case round =>
    obtain ⟨k, rfl, hk, hal, hb⟩ := hrel
    have HBr := bthen HW hb HW.size
    have Zr := below_heap hb hsz Z
    have hr := hc.below hb
    have c0 : wr.cell? ⟨w.heap.size, 0, none⟩ = some (.int .i64 l.proc) := blk_cell Zr 0
    by_cases hlt : k < came.length
    · obtain ⟨b0, o0, rfl, hb0, z0, z1, z2, z3, z4, z5, z6⟩ := ev_at hr k hlt
      have p0 : (k : Int) < (came.length : Int) := by omega
      by_cases hto : came[k].to = l.proc
      · have al := hid (all_to hlt hal.out hto)
        have e0 : (came[k].to != l.proc) = false := by simpa using hto
        clear hto
        have hbD := hb.alloc (Nat.le_trans (Nat.le_refl _) hb.size) (.cells #[.int .i64 came[k].time, .int .i64 came[k].to, .int .i64 came[k].from_, .int .i64 came[k].count, .int .i64 came[k].n, .int .i64 came[k].kind, .int .i64 came[k].arg] 80)
        have hszr := blk_lt Zr
        go_wp2_with fail
        go_roundw
        case rel => exact ⟨k + 1, by go_num, by omega, al, hbD⟩
        case measure => simp [intOf]; omega
      · have HF := hid (show cameOk l came = false by simp only [cameOk, all_not hlt hto, Bool.and_false])
        have e0 : (came[k].to != l.proc) = true := by simpa using hto
        clear hto
        have hbD := hb.alloc (Nat.le_trans (Nat.le_refl _) hb.size) (.cells #[.int .i64 came[k].time, .int .i64 came[k].to, .int .i64 came[k].from_, .int .i64 came[k].count, .int .i64 came[k].n, .int .i64 came[k].kind, .int .i64 came[k].arg] 80)
        have hszr := blk_lt Zr
        go_wp2_with fail
        go_ret
        exact ⟨by rw [HF.out]; rfl, HW.trans (hbD.mono HW.size)⟩
    · have hkl : k = came.length := by omega
      subst hkl
      have hall := hal.out
      rw [List.take_length] at hall
      have HA := hid hall
      clear hall
      go_wp2_with fail
      refine (eventsOkI_c _ came _ G _ hr).mono ?_
      rintro q w1 ⟨rfl, hb1⟩
      have HB1 := bthen HBr hb1 HBr.size
      have HF := hid (show cameOk l came = evsOk came 100 by simp only [cameOk, HA.out, Bool.and_true])
      apply_assumption
      go_wp2_with fail
      go_ret
      exact ⟨by rw [HF.out]; rfl, HB1⟩
end Go.Proofs.YtbcemldiahghcaaGreat

namespace Go.Proofs.YtbcemldiahghcaaGreat
set_option linter.unusedVariables false
set_option linter.unusedSimpArgs false
set_option maxRecDepth 100000
open Go.RowKit
theorem same_go {ps : List PastD} {es : List EvD} {k : Nat} (h1 : k < ps.length) (h2 : k < es.length) (he : ps[k].ev = es[k]) : laneSame (ps.drop k) (es.drop k) = laneSame (ps.drop (k + 1)) (es.drop (k + 1)) + 1 := by
  rw [List.drop_eq_getElem_cons h1, List.drop_eq_getElem_cons h2, laneSame, if_pos he]
theorem same_stop3 {ps : List PastD} {es : List EvD} {k : Nat} (h1 : k < ps.length) (h2 : k < es.length) (he : ¬ ps[k].ev = es[k]) : laneSame (ps.drop k) (es.drop k) = 0 := by
  rw [List.drop_eq_getElem_cons h1, List.drop_eq_getElem_cons h2, laneSame, if_neg he]
theorem same_stop1 {ps : List PastD} {es : List EvD} {k : Nat} (h : ps.length ≤ k) : laneSame (ps.drop k) (es.drop k) = 0 := by
  rw [List.drop_eq_nil_of_le h]; rfl
theorem same_stop2 {ps : List PastD} {es : List EvD} {k : Nat} (h : es.length ≤ k) : laneSame (ps.drop k) (es.drop k) = 0 := by
  rw [List.drop_eq_nil_of_le h]
  cases ps.drop k <;> rfl
theorem same_le : ∀ (ps : List PastD) (es : List EvD), laneSame ps es ≤ ps.length ∧ laneSame ps es ≤ es.length
  | [], _ => ⟨Nat.zero_le _, Nat.zero_le _⟩
  | _ :: _, [] => ⟨Nat.zero_le _, Nat.zero_le _⟩
  | p :: ps, e :: es => by
    have := same_le ps es
    simp only [laneSame, List.length_cons]
    split <;> omega
set_option maxHeartbeats 1000000 in
theorem l21Same_c (l : LaneD) (v vc : Value) (came : List EvD) (F G : Nat → Prop) (w : World) (h : Rd tPast w F v l.done) (hc : Rd tEv w G vc came) :
    Calls Tryz.prog 93 #[.agg #[.int .i64 l.proc, .int .i64 l.base.x, .int .i64 l.base.y, .int .i64 l.base.c, v], vc] w fun q w' => q = .returned (.int .i64 (laneSame l.done came : Nat)) ∧ Below w.heap.size w w' := by
  obtain ⟨A, c, rfl, -, hlen, -⟩ := id h
  obtain ⟨B, b, rfl, -, hlc, -⟩ := id hc
  have HW : Below w.heap.size w (w.alloc (.cells #[.int .i64 l.proc, .int .i64 l.base.x, .int .i64 l.base.y, .int .i64 l.base.c, .slice A l.done.length c] 52)) := balloc (Below.refl _ _) _
  have Z : (w.alloc (.cells #[.int .i64 l.proc, .int .i64 l.base.x, .int .i64 l.base.y, .int .i64 l.base.c, .slice A l.done.length c] 52)).heap[w.heap.size]? = some (.cells #[.int .i64 l.proc, .int .i64 l.base.x, .int .i64 l.base.y, .int .i64 l.base.c, .slice A l.done.length c] 52 (0, 0)) := heap_at rfl
  go_enter Tryz.func93, Tryz.ntmps93
  go_wp2_with fail
  generalize w.alloc (.cells #[.int .i64 l.proc, .int .i64 l.base.x, .int .i64 l.base.y, .int .i64 l.base.c, .slice A l.done.length c] 52) = W at *
  replace hc := hc.below HW
  replace h := h.below HW
  have hsz := blk_lt Z
  go_loopw [5] (fun i wr => ∃ k : Nat, i = .int .i64 k ∧ k ≤ l.done.length ∧ k ≤ came.length ∧ Hid (laneSame l.done came = k + laneSame (l.done.drop k) (came.drop k)) ∧ Below W.heap.size W wr) (fun i _ => l.done.length - (intOf i).toNat)
  case atStart => exact ⟨0, rfl, Nat.zero_le _, Nat.zero_le _, hid (by simp), Below.refl _ _⟩
  case round =>
    obtain ⟨k, rfl, hk, hk2, HS, hb⟩ := hrel
    have HBr := bthen HW hb HW.size
    have Zr := below_heap hb hsz Z
    have hr := h.below hb
    have hcr := hc.below hb
    have c4 : wr.cell? ⟨w.heap.size, 4, none⟩ = some (.slice A l.done.length c) := blk_cell Zr 4
    by_cases h1 : k < l.done.length
    case neg =>
      have HF := hid (show laneSame l.done came = k by have h9 := HS.out; rw [same_stop1 (by omega)] at h9; omega)
      have p0 : decide ((k : Int) < (l.done.length : Int)) = false := decide_eq_false (by omega)
      have p9 : decide (k < l.done.length) = false := decide_eq_false h1
      clear h1
      go_upto_region 2 with fail
      refine region_sg [.rd [0, 1, 2, 3, 4, 5, 6, 7, 8, 9, 10, 11, 12, 13, 14, 15, 16, 17, 18, 19, 20, 21]] [22, 23] (by kernel_rfl) (by kernel_rfl) (fun _ _ d _ _ h => by cases d <;> exact h) ?_
      refine sg_rd (fun N hN => ?_)
      simp only [pickO, List.getElem?_toArray, List.getElem?_cons_zero, List.getElem?_cons_succ]
      go_wp2_with fail
      refine rd_next (hN _ ?_)
      clear hN N
      refine sg_fin ?_
      simp only [pickO, List.getElem?_toArray, List.getElem?_cons_zero, List.getElem?_cons_succ]
      have hbD := hb.drew
      go_wp2_with fail
      go_ret
      exact ⟨by rw [HF.out]; rfl, HW.trans (hbD.mono HW.size)⟩
    by_cases h2 : k < came.length
    case neg =>
      have HF := hid (show laneSame l.done came = k by have h9 := HS.out; rw [same_stop2 (by omega)] at h9; omega)
      have p0 : (k : Int) < (l.done.length : Int) := by omega
      have p1 : decide ((k : Int) < (came.length : Int)) = false := decide_eq_false (by omega)
      have p9 : decide (k < came.length) = false := decide_eq_false h2
      clear h2
      go_upto_region 2 with fail
      refine region_sg [.rd [0, 1, 2, 3, 4, 5, 6, 7, 8, 9, 10, 11, 12, 13, 14, 15, 16, 17, 18, 19, 20, 21]] [22, 23] (by kernel_rfl) (by kernel_rfl) (fun _ _ d _ _ h => by cases d <;> exact h) ?_
      refine sg_rd (fun N hN => ?_)
      simp only [pickO, List.getElem?_toArray, List.getElem?_cons_zero, List.getElem?_cons_succ]
      go_wp2_with fail
      refine rd_next (hN _ ?_)
      clear hN N
      refine sg_fin ?_
      simp only [pickO, List.getElem?_toArray, List.getElem?_cons_zero, List.getElem?_cons_succ]
      have hbD := hb.drew
      go_wp2_with fail
      go_ret
      exact ⟨by rw [HF.out]; rfl, HW.trans (hbD.mono HW.size)⟩
    have p0 : (k : Int) < (l.done.length : Int) := by omega
    have p1 : (k : Int) < (came.length : Int) := by omega
    obtain ⟨b0, o0, A1, c1, A2, c2, rfl, hb0, ⟨y0, y1, y2, y3, y4, y5, y6⟩, -, -, -, -, -⟩ := past_at hr k h1
    obtain ⟨b1, o1, rfl, hb1, z0, z1, z2, z3, z4, z5, z6⟩ := ev_at hcr k h2
    by_cases he : l.done[k].ev = came[k]
    · have HN := hid (show laneSame l.done came = (k + 1) + laneSame (l.done.drop (k + 1)) (came.drop (k + 1)) by have h9 := HS.out; rw [same_go h1 h2 he] at h9; omega)
      obtain ⟨x, hx⟩ : ∃ x, l.done[k].ev = x := ⟨_, rfl⟩
      obtain ⟨y, hy⟩ : ∃ y, came[k] = y := ⟨_, rfl⟩
      rw [hx] at y0 y1 y2 y3 y4 y5 y6
      rw [hy] at z0 z1 z2 z3 z4 z5 z6
      have hd : decide (x = y) = true := decide_eq_true (by rw [← hx, ← hy]; exact he)
      clear hx hy he
      go_upto_region 2 with fail
      refine region_sg [.rd [0, 1, 2, 3, 4, 5, 6, 7, 8, 9, 10, 11, 12, 13, 14, 15, 16, 17, 18, 19, 20, 21]] [22, 23] (by kernel_rfl) (by kernel_rfl) (fun _ _ d _ _ h => by cases d <;> exact h) ?_
      refine sg_rd (fun N hN => ?_)
      simp only [pickO, List.getElem?_toArray, List.getElem?_cons_zero, List.getElem?_cons_succ]
      go_wp2_with fail
      refine rd_next (hN _ ?_)
      clear hN N
      refine sg_fin ?_
      simp only [pickO, List.getElem?_toArray, List.getElem?_cons_zero, List.getElem?_cons_succ]
      have hbD := hb.drew
      go_wp2_with fail
      go_roundw
      case rel => exact ⟨k + 1, by go_num, by omega, by omega, HN, hbD⟩
      case measure => simp [intOf]; omega
    · have HF := hid (show laneSame l.done came = k by have h9 := HS.out; rw [same_stop3 h1 h2 he] at h9; omega)
      obtain ⟨x, hx⟩ : ∃ x, l.done[k].ev = x := ⟨_, rfl⟩
      obtain ⟨y, hy⟩ : ∃ y, came[k] = y := ⟨_, rfl⟩
      rw [hx] at y0 y1 y2 y3 y4 y5 y6
      rw [hy] at z0 z1 z2 z3 z4 z5 z6
      have hd : decide (x = y) = false := decide_eq_false (by rw [← hx, ← hy]; exact he)
      clear hx hy he
      go_upto_region 2 with fail
      refine region_sg [.rd [0, 1, 2, 3, 4, 5, 6, 7, 8, 9, 10, 11, 12, 13, 14, 15, 16, 17, 18, 19, 20, 21]] [22, 23] (by kernel_rfl) (by kernel_rfl) (fun _ _ d _ _ h => by cases d <;> exact h) ?_
      refine sg_rd (fun N hN => ?_)
      simp only [pickO, List.getElem?_toArray, List.getElem?_cons_zero, List.getElem?_cons_succ]
      go_wp2_with fail
      refine rd_next (hN _ ?_)
      clear hN N
      refine sg_fin ?_
      simp only [pickO, List.getElem?_toArray, List.getElem?_cons_zero, List.getElem?_cons_succ]
      have hbD := hb.drew
      go_wp2_with fail
      go_ret
      exact ⟨by rw [HF.out]; rfl, HW.trans (hbD.mono HW.size)⟩
def nextE (l : LaneD) (came : List EvD) : Option EvD := if laneOk l = true ∧ cameOk l came = true then laneNext l came else none
def NextPost (l : LaneD) (came : List EvD) (w : World) (q : Ending) (w' : World) : Prop :=
  ∃ (e : EvD) (bl : Bool), q = .returned (.tuple #[.agg #[.int .i64 e.time, .int .i64 e.to, .int .i64 e.from_, .int .i64 e.count, .int .i64 e.n, .int .i64 e.kind, .int .i64 e.arg], .bool bl]) ∧ (bl = true → nextE l came = some e) ∧ (bl = false → nextE l came = none) ∧ Below w.heap.size w w'
set_option maxHeartbeats 1000000 in
theorem LaneNext_c (l : LaneD) (v vc : Value) (came : List EvD) (F G : Nat → Prop) (w : World) (h : Rd tPast w F v l.done) (hc : Rd tEv w G vc came) :
    Calls Tryz.prog 49 #[.agg #[.int .i64 l.proc, .int .i64 l.base.x, .int .i64 l.base.y, .int .i64 l.base.c, v], vc] w (NextPost l came w) := by
  obtain ⟨A, c, rfl, -, hlen, -⟩ := id h
  obtain ⟨B, b, rfl, -, hlc, -⟩ := id hc
  have HW : Below w.heap.size w ((w.alloc (.cells #[.int .i64 l.proc, .int .i64 l.base.x, .int .i64 l.base.y, .int .i64 l.base.c, .slice A l.done.length c] 52)).alloc (.cells #[.int .i64 0, .int .i64 0, .int .i64 0, .int .i64 0, .int .i64 0, .int .i64 0, .int .i64 0] 80)) := balloc (balloc (Below.refl _ _) _) _
  have Z : ((w.alloc (.cells #[.int .i64 l.proc, .int .i64 l.base.x, .int .i64 l.base.y, .int .i64 l.base.c, .slice A l.done.length c] 52)).alloc (.cells #[.int .i64 0, .int .i64 0, .int .i64 0, .int .i64 0, .int .i64 0, .int .i64 0, .int .i64 0] 80)).heap[w.heap.size]? = some (.cells #[.int .i64 l.proc, .int .i64 l.base.x, .int .i64 l.base.y, .int .i64 l.base.c, .slice A l.done.length c] 52 (0, 0)) := (heap_old (by simp)).trans (heap_at rfl)
  have Y : ((w.alloc (.cells #[.int .i64 l.proc, .int .i64 l.base.x, .int .i64 l.base.y, .int .i64 l.base.c, .slice A l.done.length c] 52)).alloc (.cells #[.int .i64 0, .int .i64 0, .int .i64 0, .int .i64 0, .int .i64 0, .int .i64 0, .int .i64 0] 80)).heap[w.heap.size + 1]? = some (.cells #[.int .i64 0, .int .i64 0, .int .i64 0, .int .i64 0, .int .i64 0, .int .i64 0, .int .i64 0] 80 (0, 0)) := heap_at (by simp)
  go_enter Tryz.func49, Tryz.ntmps49
  go_wp2_with fail
  generalize (w.alloc (.cells #[.int .i64 l.proc, .int .i64 l.base.x, .int .i64 l.base.y, .int .i64 l.base.c, .slice A l.done.length c] 52)).alloc (.cells #[.int .i64 0, .int .i64 0, .int .i64 0, .int .i64 0, .int .i64 0, .int .i64 0, .int .i64 0] 80) = W at *
  replace h := h.below HW
  replace hc := hc.below HW
  have c0 : W.cell? ⟨w.heap.size, 0, none⟩ = some (.int .i64 l.proc) := blk_cell Z 0
  have c1 : W.cell? ⟨w.heap.size, 1, none⟩ = some (.int .i64 l.base.x) := blk_cell Z 1
  have c2 : W.cell? ⟨w.heap.size, 2, none⟩ = some (.int .i64 l.base.y) := blk_cell Z 2
  have c3 : W.cell? ⟨w.heap.size, 3, none⟩ = some (.int .i64 l.base.c) := blk_cell Z 3
  have c4 : W.cell? ⟨w.heap.size, 4, none⟩ = some (.slice A l.done.length c) := blk_cell Z 4
  have d0 : W.cell? ⟨w.heap.size + 1, 0, none⟩ = some (.int .i64 0) := blk_cell Y 0
  have d1 : W.cell? ⟨w.heap.size + 1, 1, none⟩ = some (.int .i64 0) := blk_cell Y 1
  have d2 : W.cell? ⟨w.heap.size + 1, 2, none⟩ = some (.int .i64 0) := blk_cell Y 2
  have d3 : W.cell? ⟨w.heap.size + 1, 3, none⟩ = some (.int .i64 0) := blk_cell Y 3
  have d4 : W.cell? ⟨w.heap.size + 1, 4, none⟩ = some (.int .i64 0) := blk_cell Y 4
  have d5 : W.cell? ⟨w.heap.size + 1, 5, none⟩ = some (.int .i64 0) := blk_cell Y 5
  have d6 : W.cell? ⟨w.heap.size + 1, 6, none⟩ = some (.int .i64 0) := blk_cell Y 6
  have f0 := blk_frozen Y 0
  have f1 := blk_frozen Y 1
  have f2 := blk_frozen Y 2
  have f3 := blk_frozen Y 3
  have f4 := blk_frozen Y 4
  have f5 := blk_frozen Y 5
  have f6 := blk_frozen Y 6
  refine (LaneOk_c l _ F _ h).mono ?_
  rintro q w1 ⟨rfl, hb⟩
  replace HW := bthen HW hb HW.size
  replace Z := below_heap hb (blk_lt Z) Z
  replace Y := below_heap hb (blk_lt Y) Y
  replace h := h.below hb
  replace hc := hc.below hb
  clear hb
  clear c0 c1 c2 c3 c4 d0 f0 d1 f1 d2 f2 d3 f3 d4 f4 d5 f5 d6 f6
  have c0 : w1.cell? ⟨w.heap.size, 0, none⟩ = some (.int .i64 l.proc) := blk_cell Z 0
  have c1 : w1.cell? ⟨w.heap.size, 1, none⟩ = some (.int .i64 l.base.x) := blk_cell Z 1
  have c2 : w1.cell? ⟨w.heap.size, 2, none⟩ = some (.int .i64 l.base.y) := blk_cell Z 2
  have c3 : w1.cell? ⟨w.heap.size, 3, none⟩ = some (.int .i64 l.base.c) := blk_cell Z 3
  have c4 : w1.cell? ⟨w.heap.size, 4, none⟩ = some (.slice A l.done.length c) := blk_cell Z 4
  have d0 : w1.cell? ⟨w.heap.size + 1, 0, none⟩ = some (.int .i64 0) := blk_cell Y 0
  have d1 : w1.cell? ⟨w.heap.size + 1, 1, none⟩ = some (.int .i64 0) := blk_cell Y 1
  have d2 : w1.cell? ⟨w.heap.size + 1, 2, none⟩ = some (.int .i64 0) := blk_cell Y 2
  have d3 : w1.cell? ⟨w.heap.size + 1, 3, none⟩ = some (.int .i64 0) := blk_cell Y 3
  have d4 : w1.cell? ⟨w.heap.size + 1, 4, none⟩ = some (.int .i64 0) := blk_cell Y 4
  have d5 : w1.cell? ⟨w.heap.size + 1, 5, none⟩ = some (.int .i64 0) := blk_cell Y 5
  have d6 : w1.cell? ⟨w.heap.size + 1, 6, none⟩ = some (.int .i64 0) := blk_cell Y 6
  have f0 := blk_frozen Y 0
  have f1 := blk_frozen Y 1
  have f2 := blk_frozen Y 2
  have f3 := blk_frozen Y 3
  have f4 := blk_frozen Y 4
  have f5 := blk_frozen Y 5
  have f6 := blk_frozen Y 6
  obtain ⟨t, ht⟩ : ∃ t, laneOk l = t := ⟨_, rfl⟩
  have HT := hid ht
  rw [ht]
  clear ht
  apply_assumption
  cases t
  case false =>
    have HF := hid (show nextE l came = none by unfold nextE; rw [if_neg (by rw [HT.out]; simp)])
    go_wp2_with fail
    have hbX : Below w.heap.size w (((((((w1.setCell ⟨w.heap.size + 1, 0, none⟩ (.int .i64 0)).setCell ⟨w.heap.size + 1, 1, none⟩ (.int .i64 0)).setCell ⟨w.heap.size + 1, 2, none⟩ (.int .i64 0)).setCell ⟨w.heap.size + 1, 3, none⟩ (.int .i64 0)).setCell ⟨w.heap.size + 1, 4, none⟩ (.int .i64 0)).setCell ⟨w.heap.size + 1, 5, none⟩ (.int .i64 0)).setCell ⟨w.heap.size + 1, 6, none⟩ (.int .i64 0)) := (((((((HW.setCell (p := ⟨w.heap.size + 1, 0, none⟩) (Nat.le_succ _) (.int .i64 0)).setCell (p := ⟨w.heap.size + 1, 1, none⟩) (Nat.le_succ _) (.int .i64 0)).setCell (p := ⟨w.heap.size + 1, 2, none⟩) (Nat.le_succ _) (.int .i64 0)).setCell (p := ⟨w.heap.size + 1, 3, none⟩) (Nat.le_succ _) (.int .i64 0)).setCell (p := ⟨w.heap.size + 1, 4, none⟩) (Nat.le_succ _) (.int .i64 0)).setCell (p := ⟨w.heap.size + 1, 5, none⟩) (Nat.le_succ _) (.int .i64 0)).setCell (p := ⟨w.heap.size + 1, 6, none⟩) (Nat.le_succ _) (.int .i64 0))
    have BX := (blk_set (blk_set (blk_set (blk_set (blk_set (blk_set (blk_set Y 0 (.int .i64 0)) 1 (.int .i64 0)) 2 (.int .i64 0)) 3 (.int .i64 0)) 4 (.int .i64 0)) 5 (.int .i64 0)) 6 (.int .i64 0))
    simp only [List.setIfInBounds_toArray, List.set_cons_zero, List.set_cons_succ] at BX
    generalize (((((((w1.setCell ⟨w.heap.size + 1, 0, none⟩ (.int .i64 0)).setCell ⟨w.heap.size + 1, 1, none⟩ (.int .i64 0)).setCell ⟨w.heap.size + 1, 2, none⟩ (.int .i64 0)).setCell ⟨w.heap.size + 1, 3, none⟩ (.int .i64 0)).setCell ⟨w.heap.size + 1, 4, none⟩ (.int .i64 0)).setCell ⟨w.heap.size + 1, 5, none⟩ (.int .i64 0)).setCell ⟨w.heap.size + 1, 6, none⟩ (.int .i64 0)) = W12 at *
    have s0 : W12.cell? ⟨w.heap.size + 1, 0, none⟩ = some (.int .i64 0) := blk_cell BX 0
    have s1 : W12.cell? ⟨w.heap.size + 1, 1, none⟩ = some (.int .i64 0) := blk_cell BX 1
    have s2 : W12.cell? ⟨w.heap.size + 1, 2, none⟩ = some (.int .i64 0) := blk_cell BX 2
    have s3 : W12.cell? ⟨w.heap.size + 1, 3, none⟩ = some (.int .i64 0) := blk_cell BX 3
    have s4 : W12.cell? ⟨w.heap.size + 1, 4, none⟩ = some (.int .i64 0) := blk_cell BX 4
    have s5 : W12.cell? ⟨w.heap.size + 1, 5, none⟩ = some (.int .i64 0) := blk_cell BX 5
    have s6 : W12.cell? ⟨w.heap.size + 1, 6, none⟩ = some (.int .i64 0) := blk_cell BX 6
    refine bodyPost_ret (v := .tuple #[.agg #[.int .i64 0, .int .i64 0, .int .i64 0, .int .i64 0, .int .i64 0, .int .i64 0, .int .i64 0], .bool false]) (by simp only [results, Tryz.results49]; go_simp) rfl ⟨⟨0, 0, 0, 0, 0, 0, 0⟩, false, rfl, (fun hh => by cases hh), (fun _ => HF.out), hbX⟩
  go_wp2_with fail
  refine (l21Came_c l _ _ came F G _ h hc).mono ?_
  rintro q w2 ⟨rfl, hb⟩
  replace HW := bthen HW hb HW.size
  replace Z := below_heap hb (blk_lt Z) Z
  replace Y := below_heap hb (blk_lt Y) Y
  replace h := h.below hb
  replace hc := hc.below hb
  clear hb
  clear c0 c1 c2 c3 c4 d0 f0 d1 f1 d2 f2 d3 f3 d4 f4 d5 f5 d6 f6
  have c0 : w2.cell? ⟨w.heap.size, 0, none⟩ = some (.int .i64 l.proc) := blk_cell Z 0
  have c1 : w2.cell? ⟨w.heap.size, 1, none⟩ = some (.int .i64 l.base.x) := blk_cell Z 1
  have c2 : w2.cell? ⟨w.heap.size, 2, none⟩ = some (.int .i64 l.base.y) := blk_cell Z 2
  have c3 : w2.cell? ⟨w.heap.size, 3, none⟩ = some (.int .i64 l.base.c) := blk_cell Z 3
  have c4 : w2.cell? ⟨w.heap.size, 4, none⟩ = some (.slice A l.done.length c) := blk_cell Z 4
  have d0 : w2.cell? ⟨w.heap.size + 1, 0, none⟩ = some (.int .i64 0) := blk_cell Y 0
  have d1 : w2.cell? ⟨w.heap.size + 1, 1, none⟩ = some (.int .i64 0) := blk_cell Y 1
  have d2 : w2.cell? ⟨w.heap.size + 1, 2, none⟩ = some (.int .i64 0) := blk_cell Y 2
  have d3 : w2.cell? ⟨w.heap.size + 1, 3, none⟩ = some (.int .i64 0) := blk_cell Y 3
  have d4 : w2.cell? ⟨w.heap.size + 1, 4, none⟩ = some (.int .i64 0) := blk_cell Y 4
  have d5 : w2.cell? ⟨w.heap.size + 1, 5, none⟩ = some (.int .i64 0) := blk_cell Y 5
  have d6 : w2.cell? ⟨w.heap.size + 1, 6, none⟩ = some (.int .i64 0) := blk_cell Y 6
  have f0 := blk_frozen Y 0
  have f1 := blk_frozen Y 1
  have f2 := blk_frozen Y 2
  have f3 := blk_frozen Y 3
  have f4 := blk_frozen Y 4
  have f5 := blk_frozen Y 5
  have f6 := blk_frozen Y 6
  obtain ⟨t, ht⟩ : ∃ t, cameOk l came = t := ⟨_, rfl⟩
  have HT2 := hid ht
  rw [ht]
  clear ht
  apply_assumption
  cases t
  case false =>
    have HF := hid (show nextE l came = none by unfold nextE; rw [if_neg (by rw [HT2.out]; simp)])
    go_wp2_with fail
    have hbX : Below w.heap.size w (((((((w2.setCell ⟨w.heap.size + 1, 0, none⟩ (.int .i64 0)).setCell ⟨w.heap.size + 1, 1, none⟩ (.int .i64 0)).setCell ⟨w.heap.size + 1, 2, none⟩ (.int .i64 0)).setCell ⟨w.heap.size + 1, 3, none⟩ (.int .i64 0)).setCell ⟨w.heap.size + 1, 4, none⟩ (.int .i64 0)).setCell ⟨w.heap.size + 1, 5, none⟩ (.int .i64 0)).setCell ⟨w.heap.size + 1, 6, none⟩ (.int .i64 0)) := (((((((HW.setCell (p := ⟨w.heap.size + 1, 0, none⟩) (Nat.le_succ _) (.int .i64 0)).setCell (p := ⟨w.heap.size + 1, 1, none⟩) (Nat.le_succ _) (.int .i64 0)).setCell (p := ⟨w.heap.size + 1, 2, none⟩) (Nat.le_succ _) (.int .i64 0)).setCell (p := ⟨w.heap.size + 1, 3, none⟩) (Nat.le_succ _) (.int .i64 0)).setCell (p := ⟨w.heap.size + 1, 4, none⟩) (Nat.le_succ _) (.int .i64 0)).setCell (p := ⟨w.heap.size + 1, 5, none⟩) (Nat.le_succ _) (.int .i64 0)).setCell (p := ⟨w.heap.size + 1, 6, none⟩) (Nat.le_succ _) (.int .i64 0))
    have BX := (blk_set (blk_set (blk_set (blk_set (blk_set (blk_set (blk_set Y 0 (.int .i64 0)) 1 (.int .i64 0)) 2 (.int .i64 0)) 3 (.int .i64 0)) 4 (.int .i64 0)) 5 (.int .i64 0)) 6 (.int .i64 0))
    simp only [List.setIfInBounds_toArray, List.set_cons_zero, List.set_cons_succ] at BX
    generalize (((((((w2.setCell ⟨w.heap.size + 1, 0, none⟩ (.int .i64 0)).setCell ⟨w.heap.size + 1, 1, none⟩ (.int .i64 0)).setCell ⟨w.heap.size + 1, 2, none⟩ (.int .i64 0)).setCell ⟨w.heap.size + 1, 3, none⟩ (.int .i64 0)).setCell ⟨w.heap.size + 1, 4, none⟩ (.int .i64 0)).setCell ⟨w.heap.size + 1, 5, none⟩ (.int .i64 0)).setCell ⟨w.heap.size + 1, 6, none⟩ (.int .i64 0)) = W12 at *
    have s0 : W12.cell? ⟨w.heap.size + 1, 0, none⟩ = some (.int .i64 0) := blk_cell BX 0
    have s1 : W12.cell? ⟨w.heap.size + 1, 1, none⟩ = some (.int .i64 0) := blk_cell BX 1
    have s2 : W12.cell? ⟨w.heap.size + 1, 2, none⟩ = some (.int .i64 0) := blk_cell BX 2
    have s3 : W12.cell? ⟨w.heap.size + 1, 3, none⟩ = some (.int .i64 0) := blk_cell BX 3
    have s4 : W12.cell? ⟨w.heap.size + 1, 4, none⟩ = some (.int .i64 0) := blk_cell BX 4
    have s5 : W12.cell? ⟨w.heap.size + 1, 5, none⟩ = some (.int .i64 0) := blk_cell BX 5
    have s6 : W12.cell? ⟨w.heap.size + 1, 6, none⟩ = some (.int .i64 0) := blk_cell BX 6
    refine bodyPost_ret (v := .tuple #[.agg #[.int .i64 0, .int .i64 0, .int .i64 0, .int .i64 0, .int .i64 0, .int .i64 0, .int .i64 0], .bool false]) (by simp only [results, Tryz.results49]; go_simp) rfl ⟨⟨0, 0, 0, 0, 0, 0, 0⟩, false, rfl, (fun hh => by cases hh), (fun _ => HF.out), hbX⟩
  go_wp2_with fail
  refine (l21Same_c l _ _ came F G _ h hc).mono ?_
  rintro q w3 ⟨rfl, hb⟩
  replace HW := bthen HW hb HW.size
  replace Z := below_heap hb (blk_lt Z) Z
  replace Y := below_heap hb (blk_lt Y) Y
  replace h := h.below hb
  replace hc := hc.below hb
  clear hb
  clear c0 c1 c2 c3 c4 d0 f0 d1 f1 d2 f2 d3 f3 d4 f4 d5 f5 d6 f6
  have c0 : w3.cell? ⟨w.heap.size, 0, none⟩ = some (.int .i64 l.proc) := blk_cell Z 0
  have c1 : w3.cell? ⟨w.heap.size, 1, none⟩ = some (.int .i64 l.base.x) := blk_cell Z 1
  have c2 : w3.cell? ⟨w.heap.size, 2, none⟩ = some (.int .i64 l.base.y) := blk_cell Z 2
  have c3 : w3.cell? ⟨w.heap.size, 3, none⟩ = some (.int .i64 l.base.c) := blk_cell Z 3
  have c4 : w3.cell? ⟨w.heap.size, 4, none⟩ = some (.slice A l.done.length c) := blk_cell Z 4
  have d0 : w3.cell? ⟨w.heap.size + 1, 0, none⟩ = some (.int .i64 0) := blk_cell Y 0
  have d1 : w3.cell? ⟨w.heap.size + 1, 1, none⟩ = some (.int .i64 0) := blk_cell Y 1
  have d2 : w3.cell? ⟨w.heap.size + 1, 2, none⟩ = some (.int .i64 0) := blk_cell Y 2
  have d3 : w3.cell? ⟨w.heap.size + 1, 3, none⟩ = some (.int .i64 0) := blk_cell Y 3
  have d4 : w3.cell? ⟨w.heap.size + 1, 4, none⟩ = some (.int .i64 0) := blk_cell Y 4
  have d5 : w3.cell? ⟨w.heap.size + 1, 5, none⟩ = some (.int .i64 0) := blk_cell Y 5
  have d6 : w3.cell? ⟨w.heap.size + 1, 6, none⟩ = some (.int .i64 0) := blk_cell Y 6
  have f0 := blk_frozen Y 0
  have f1 := blk_frozen Y 1
  have f2 := blk_frozen Y 2
  have f3 := blk_frozen Y 3
  have f4 := blk_frozen Y 4
  have f5 := blk_frozen Y 5
  have f6 := blk_frozen Y 6
  have HE := hid (show nextE l came = laneNext l came by unfold nextE; rw [if_pos ⟨HT.out, HT2.out⟩])
  have hle := same_le l.done came
  obtain ⟨n, hn⟩ : ∃ n, laneSame l.done came = n := ⟨_, rfl⟩
  rw [hn] at hle ⊢
  have HN := hid hn
  by_cases h1 : n < l.done.length
  case pos =>
    have HF := hid (show nextE l came = none by rw [HE.out, laneNext, hn, if_pos h1])
    have p0 : decide ((n : Int) < (l.done.length : Int)) = true := decide_eq_true (by omega)
    have p9 : decide (n < l.done.length) = true := decide_eq_true h1
    clear hn h1 hle
    apply_assumption
    go_wp2_with fail
    have hbX : Below w.heap.size w (((((((w3.setCell ⟨w.heap.size + 1, 0, none⟩ (.int .i64 0)).setCell ⟨w.heap.size + 1, 1, none⟩ (.int .i64 0)).setCell ⟨w.heap.size + 1, 2, none⟩ (.int .i64 0)).setCell ⟨w.heap.size + 1, 3, none⟩ (.int .i64 0)).setCell ⟨w.heap.size + 1, 4, none⟩ (.int .i64 0)).setCell ⟨w.heap.size + 1, 5, none⟩ (.int .i64 0)).setCell ⟨w.heap.size + 1, 6, none⟩ (.int .i64 0)) := (((((((HW.setCell (p := ⟨w.heap.size + 1, 0, none⟩) (Nat.le_succ _) (.int .i64 0)).setCell (p := ⟨w.heap.size + 1, 1, none⟩) (Nat.le_succ _) (.int .i64 0)).setCell (p := ⟨w.heap.size + 1, 2, none⟩) (Nat.le_succ _) (.int .i64 0)).setCell (p := ⟨w.heap.size + 1, 3, none⟩) (Nat.le_succ _) (.int .i64 0)).setCell (p := ⟨w.heap.size + 1, 4, none⟩) (Nat.le_succ _) (.int .i64 0)).setCell (p := ⟨w.heap.size + 1, 5, none⟩) (Nat.le_succ _) (.int .i64 0)).setCell (p := ⟨w.heap.size + 1, 6, none⟩) (Nat.le_succ _) (.int .i64 0))
    have BX := (blk_set (blk_set (blk_set (blk_set (blk_set (blk_set (blk_set Y 0 (.int .i64 0)) 1 (.int .i64 0)) 2 (.int .i64 0)) 3 (.int .i64 0)) 4 (.int .i64 0)) 5 (.int .i64 0)) 6 (.int .i64 0))
    simp only [List.setIfInBounds_toArray, List.set_cons_zero, List.set_cons_succ] at BX
    generalize (((((((w3.setCell ⟨w.heap.size + 1, 0, none⟩ (.int .i64 0)).setCell ⟨w.heap.size + 1, 1, none⟩ (.int .i64 0)).setCell ⟨w.heap.size + 1, 2, none⟩ (.int .i64 0)).setCell ⟨w.heap.size + 1, 3, none⟩ (.int .i64 0)).setCell ⟨w.heap.size + 1, 4, none⟩ (.int .i64 0)).setCell ⟨w.heap.size + 1, 5, none⟩ (.int .i64 0)).setCell ⟨w.heap.size + 1, 6, none⟩ (.int .i64 0)) = W12 at *
    have s0 : W12.cell? ⟨w.heap.size + 1, 0, none⟩ = some (.int .i64 0) := blk_cell BX 0
    have s1 : W12.cell? ⟨w.heap.size + 1, 1, none⟩ = some (.int .i64 0) := blk_cell BX 1
    have s2 : W12.cell? ⟨w.heap.size + 1, 2, none⟩ = some (.int .i64 0) := blk_cell BX 2
    have s3 : W12.cell? ⟨w.heap.size + 1, 3, none⟩ = some (.int .i64 0) := blk_cell BX 3
    have s4 : W12.cell? ⟨w.heap.size + 1, 4, none⟩ = some (.int .i64 0) := blk_cell BX 4
    have s5 : W12.cell? ⟨w.heap.size + 1, 5, none⟩ = some (.int .i64 0) := blk_cell BX 5
    have s6 : W12.cell? ⟨w.heap.size + 1, 6, none⟩ = some (.int .i64 0) := blk_cell BX 6
    refine bodyPost_ret (v := .tuple #[.agg #[.int .i64 0, .int .i64 0, .int .i64 0, .int .i64 0, .int .i64 0, .int .i64 0, .int .i64 0], .bool false]) (by simp only [results, Tryz.results49]; go_simp) rfl ⟨⟨0, 0, 0, 0, 0, 0, 0⟩, false, rfl, (fun hh => by cases hh), (fun _ => HF.out), hbX⟩
  have p0 : decide ((n : Int) < (l.done.length : Int)) = false := decide_eq_false (by omega)
  have p9 : decide (n < l.done.length) = false := decide_eq_false h1
  by_cases h2 : came.length ≤ n
  case pos =>
    have HF := hid (show nextE l came = none by rw [HE.out, laneNext, hn, if_neg h1, List.getElem?_eq_none h2])
    have p1 : decide ((n : Int) ≥ (came.length : Int)) = true := decide_eq_true (by omega)
    have p2 : decide (n ≥ came.length) = true := decide_eq_true (by omega)
    have p3 : decide ((came.length : Int) ≤ (n : Int)) = true := decide_eq_true (by omega)
    have p4 : decide (came.length ≤ n) = true := decide_eq_true (by omega)
    clear hn h1 h2 hle
    apply_assumption
    go_wp2_with fail
    have hbX : Below w.heap.size w (((((((w3.setCell ⟨w.heap.size + 1, 0, none⟩ (.int .i64 0)).setCell ⟨w.heap.size + 1, 1, none⟩ (.int .i64 0)).setCell ⟨w.heap.size + 1, 2, none⟩ (.int .i64 0)).setCell ⟨w.heap.size + 1, 3, none⟩ (.int .i64 0)).setCell ⟨w.heap.size + 1, 4, none⟩ (.int .i64 0)).setCell ⟨w.heap.size + 1, 5, none⟩ (.int .i64 0)).setCell ⟨w.heap.size + 1, 6, none⟩ (.int .i64 0)) := (((((((HW.setCell (p := ⟨w.heap.size + 1, 0, none⟩) (Nat.le_succ _) (.int .i64 0)).setCell (p := ⟨w.heap.size + 1, 1, none⟩) (Nat.le_succ _) (.int .i64 0)).setCell (p := ⟨w.heap.size + 1, 2, none⟩) (Nat.le_succ _) (.int .i64 0)).setCell (p := ⟨w.heap.size + 1, 3, none⟩) (Nat.le_succ _) (.int .i64 0)).setCell (p := ⟨w.heap.size + 1, 4, none⟩) (Nat.le_succ _) (.int .i64 0)).setCell (p := ⟨w.heap.size + 1, 5, none⟩) (Nat.le_succ _) (.int .i64 0)).setCell (p := ⟨w.heap.size + 1, 6, none⟩) (Nat.le_succ _) (.int .i64 0))
    have BX := (blk_set (blk_set (blk_set (blk_set (blk_set (blk_set (blk_set Y 0 (.int .i64 0)) 1 (.int .i64 0)) 2 (.int .i64 0)) 3 (.int .i64 0)) 4 (.int .i64 0)) 5 (.int .i64 0)) 6 (.int .i64 0))
    simp only [List.setIfInBounds_toArray, List.set_cons_zero, List.set_cons_succ] at BX
    generalize (((((((w3.setCell ⟨w.heap.size + 1, 0, none⟩ (.int .i64 0)).setCell ⟨w.heap.size + 1, 1, none⟩ (.int .i64 0)).setCell ⟨w.heap.size + 1, 2, none⟩ (.int .i64 0)).setCell ⟨w.heap.size + 1, 3, none⟩ (.int .i64 0)).setCell ⟨w.heap.size + 1, 4, none⟩ (.int .i64 0)).setCell ⟨w.heap.size + 1, 5, none⟩ (.int .i64 0)).setCell ⟨w.heap.size + 1, 6, none⟩ (.int .i64 0)) = W12 at *
    have s0 : W12.cell? ⟨w.heap.size + 1, 0, none⟩ = some (.int .i64 0) := blk_cell BX 0
    have s1 : W12.cell? ⟨w.heap.size + 1, 1, none⟩ = some (.int .i64 0) := blk_cell BX 1
    have s2 : W12.cell? ⟨w.heap.size + 1, 2, none⟩ = some (.int .i64 0) := blk_cell BX 2
    have s3 : W12.cell? ⟨w.heap.size + 1, 3, none⟩ = some (.int .i64 0) := blk_cell BX 3
    have s4 : W12.cell? ⟨w.heap.size + 1, 4, none⟩ = some (.int .i64 0) := blk_cell BX 4
    have s5 : W12.cell? ⟨w.heap.size + 1, 5, none⟩ = some (.int .i64 0) := blk_cell BX 5
    have s6 : W12.cell? ⟨w.heap.size + 1, 6, none⟩ = some (.int .i64 0) := blk_cell BX 6
    refine bodyPost_ret (v := .tuple #[.agg #[.int .i64 0, .int .i64 0, .int .i64 0, .int .i64 0, .int .i64 0, .int .i64 0, .int .i64 0], .bool false]) (by simp only [results, Tryz.results49]; go_simp) rfl ⟨⟨0, 0, 0, 0, 0, 0, 0⟩, false, rfl, (fun hh => by cases hh), (fun _ => HF.out), hbX⟩
  have p1 : decide ((n : Int) ≥ (came.length : Int)) = false := decide_eq_false (by omega)
  have p2 : decide (n ≥ came.length) = false := decide_eq_false (by omega)
  have p3 : decide ((came.length : Int) ≤ (n : Int)) = false := decide_eq_false (by omega)
  have p4 : decide (came.length ≤ n) = false := decide_eq_false (by omega)
  have h2' : n < came.length := by omega
  have p5 : (n : Int) < (came.length : Int) := by omega
  obtain ⟨b1, o1, rfl, hb1, z0, z1, z2, z3, z4, z5, z6⟩ := ev_at hc n h2'
  have HF := hid (show nextE l came = some came[n] by rw [HE.out, laneNext, hn, if_neg h1, List.getElem?_eq_getElem h2'])
  obtain ⟨x, hx⟩ : ∃ x, came[n] = x := ⟨_, rfl⟩
  rw [hx] at z0 z1 z2 z3 z4 z5 z6
  have HF := hid (show nextE l came = some x by rw [HF.out, hx])
  clear hn h1 h2 hx hle
  apply_assumption
  go_wp2_with fail
  have hbX : Below w.heap.size w (((((((w3.setCell ⟨w.heap.size + 1, 0, none⟩ (.int .i64 x.time)).setCell ⟨w.heap.size + 1, 1, none⟩ (.int .i64 x.to)).setCell ⟨w.heap.size + 1, 2, none⟩ (.int .i64 x.from_)).setCell ⟨w.heap.size + 1, 3, none⟩ (.int .i64 x.count)).setCell ⟨w.heap.size + 1, 4, none⟩ (.int .i64 x.n)).setCell ⟨w.heap.size + 1, 5, none⟩ (.int .i64 x.kind)).setCell ⟨w.heap.size + 1, 6, none⟩ (.int .i64 x.arg)) := (((((((HW.setCell (p := ⟨w.heap.size + 1, 0, none⟩) (Nat.le_succ _) (.int .i64 x.time)).setCell (p := ⟨w.heap.size + 1, 1, none⟩) (Nat.le_succ _) (.int .i64 x.to)).setCell (p := ⟨w.heap.size + 1, 2, none⟩) (Nat.le_succ _) (.int .i64 x.from_)).setCell (p := ⟨w.heap.size + 1, 3, none⟩) (Nat.le_succ _) (.int .i64 x.count)).setCell (p := ⟨w.heap.size + 1, 4, none⟩) (Nat.le_succ _) (.int .i64 x.n)).setCell (p := ⟨w.heap.size + 1, 5, none⟩) (Nat.le_succ _) (.int .i64 x.kind)).setCell (p := ⟨w.heap.size + 1, 6, none⟩) (Nat.le_succ _) (.int .i64 x.arg))
  have BX := (blk_set (blk_set (blk_set (blk_set (blk_set (blk_set (blk_set Y 0 (.int .i64 x.time)) 1 (.int .i64 x.to)) 2 (.int .i64 x.from_)) 3 (.int .i64 x.count)) 4 (.int .i64 x.n)) 5 (.int .i64 x.kind)) 6 (.int .i64 x.arg))
  simp only [List.setIfInBounds_toArray, List.set_cons_zero, List.set_cons_succ] at BX
  generalize (((((((w3.setCell ⟨w.heap.size + 1, 0, none⟩ (.int .i64 x.time)).setCell ⟨w.heap.size + 1, 1, none⟩ (.int .i64 x.to)).setCell ⟨w.heap.size + 1, 2, none⟩ (.int .i64 x.from_)).setCell ⟨w.heap.size + 1, 3, none⟩ (.int .i64 x.count)).setCell ⟨w.heap.size + 1, 4, none⟩ (.int .i64 x.n)).setCell ⟨w.heap.size + 1, 5, none⟩ (.int .i64 x.kind)).setCell ⟨w.heap.size + 1, 6, none⟩ (.int .i64 x.arg)) = W12 at *
  have s0 : W12.cell? ⟨w.heap.size + 1, 0, none⟩ = some (.int .i64 x.time) := blk_cell BX 0
  have s1 : W12.cell? ⟨w.heap.size + 1, 1, none⟩ = some (.int .i64 x.to) := blk_cell BX 1
  have s2 : W12.cell? ⟨w.heap.size + 1, 2, none⟩ = some (.int .i64 x.from_) := blk_cell BX 2
  have s3 : W12.cell? ⟨w.heap.size + 1, 3, none⟩ = some (.int .i64 x.count) := blk_cell BX 3
  have s4 : W12.cell? ⟨w.heap.size + 1, 4, none⟩ = some (.int .i64 x.n) := blk_cell BX 4
  have s5 : W12.cell? ⟨w.heap.size + 1, 5, none⟩ = some (.int .i64 x.kind) := blk_cell BX 5
  have s6 : W12.cell? ⟨w.heap.size + 1, 6, none⟩ = some (.int .i64 x.arg) := blk_cell BX 6
  refine bodyPost_ret (v := .tuple #[.agg #[.int .i64 x.time, .int .i64 x.to, .int .i64 x.from_, .int .i64 x.count, .int .i64 x.n, .int .i64 x.kind, .int .i64 x.arg], .bool true]) (by simp only [results, Tryz.results49]; go_simp) rfl ⟨x, true, rfl, (fun _ => HF.out), (fun hh => by cases hh), hbX⟩
end Go.Proofs.YtbcemldiahghcaaGreat
