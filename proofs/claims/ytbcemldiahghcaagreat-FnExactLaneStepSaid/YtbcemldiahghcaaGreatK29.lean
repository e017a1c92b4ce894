/- Texts joined: Ezd, Eze. -/
import Derived.Test.YtbcemldiahghcaaGreatK22
import Derived.Test.YtbcemldiahghcaaGreatK25
import Derived.Test.YtbcemldiahghcaaGreatK13
import Derived.Test.YtbcemldiahghcaaGreatK27
import Derived.Test.YtbcemldiahghcaaGreatK28
import Derived.Test.YtbcemldiahghcaaGreatK16
import Derived.Test.YtbcemldiahghcaaGreatK06
import Derived.Test.YtbcemldiahghcaaGreatK20
namespace Go.Proofs.YtbcemldiahghcaaGreat
set_option linter.unusedVariables false
set_option linter.unusedSimpArgs false
set_option maxRecDepth 100000
open Go.RowKit
set_option maxHeartbeats 1000000 in
theorem copyLane_c (l : LaneD) (v : Value) (F : Nat → Prop) (w : World) (h : Rd tPast w F v l.done) (hn : l.done.length ≤ 1000) (hops : ∀ r ∈ l.done, r.sends.length ≤ 1000 ∧ r.outs.length ≤ 1000) :
    Calls Tryz.prog 62 #[.agg #[.int .i64 l.proc, .int .i64 l.base.x, .int .i64 l.base.y, .int .i64 l.base.c, v]] w fun q w' => ∃ u, q = .returned (.agg #[.int .i64 l.proc, .int .i64 l.base.x, .int .i64 l.base.y, .int .i64 l.base.c, u]) ∧ Ow oPast 98 w' (fun k => w.heap.size ≤ k) u l.done ∧ Below w.heap.size w w' := by
  obtain ⟨A, c, rfl, -⟩ := h.shape
  have HB : Below w.heap.size w ((w.alloc (.cells #[.int .i64 l.proc, .int .i64 l.base.x, .int .i64 l.base.y, .int .i64 l.base.c, .slice A l.done.length c] 52)).alloc (.cells #[.int .i64 0, .int .i64 0, .int .i64 0, .int .i64 0, .slice none 0 0] 52)) := balloc (balloc (Below.refl _ _) _) _
  have Z : ((w.alloc (.cells #[.int .i64 l.proc, .int .i64 l.base.x, .int .i64 l.base.y, .int .i64 l.base.c, .slice A l.done.length c] 52)).alloc (.cells #[.int .i64 0, .int .i64 0, .int .i64 0, .int .i64 0, .slice none 0 0] 52)).heap[w.heap.size]? = some (.cells #[.int .i64 l.proc, .int .i64 l.base.x, .int .i64 l.base.y, .int .i64 l.base.c, .slice A l.done.length c] 52 (0, 0)) := (heap_old (by simp)).trans (heap_at rfl)
  have Y : ((w.alloc (.cells #[.int .i64 l.proc, .int .i64 l.base.x, .int .i64 l.base.y, .int .i64 l.base.c, .slice A l.done.length c] 52)).alloc (.cells #[.int .i64 0, .int .i64 0, .int .i64 0, .int .i64 0, .slice none 0 0] 52)).heap[w.heap.size + 1]? = some (.cells #[.int .i64 0, .int .i64 0, .int .i64 0, .int .i64 0, .slice none 0 0] 52 (0, 0)) := heap_at (by simp)
  go_enter Tryz.func62, Tryz.ntmps62
  go_wp2_with fail
  generalize ((w.alloc (.cells #[.int .i64 l.proc, .int .i64 l.base.x, .int .i64 l.base.y, .int .i64 l.base.c, .slice A l.done.length c] 52)).alloc (.cells #[.int .i64 0, .int .i64 0, .int .i64 0, .int .i64 0, .slice none 0 0] 52)) = W at *
  have HWs := hid (show w.heap.size + 1 < W.heap.size from blk_lt Y)
  refine (copyEach_c _ l.done F _ (h.below HB) hn hops).mono ?_
  rintro q w1 ⟨u, rfl, m1, hb1⟩
  obtain ⟨B, b, rfl, -⟩ := m1.shape
  have HB1 := bthen HB hb1 HB.size
  have Z1 := below_heap hb1 (blk_lt Z) Z
  have Y1 := below_heap hb1 (blk_lt Y) Y
  have a0 : w1.cell? ⟨w.heap.size, 0, none⟩ = some (.int .i64 l.proc) := blk_cell Z1 0
  have a1 : w1.cell? ⟨w.heap.size, 1, none⟩ = some (.int .i64 l.base.x) := blk_cell Z1 1
  have a2 : w1.cell? ⟨w.heap.size, 2, none⟩ = some (.int .i64 l.base.y) := blk_cell Z1 2
  have a3 : w1.cell? ⟨w.heap.size, 3, none⟩ = some (.int .i64 l.base.c) := blk_cell Z1 3
  have a4 : w1.cell? ⟨w.heap.size, 4, none⟩ = some (.slice A l.done.length c) := blk_cell Z1 4
  have f4 := blk_frozen Z1 4
  have b0 : w1.cell? ⟨w.heap.size + 1, 0, none⟩ = some (.int .i64 0) := blk_cell Y1 0
  have g0 := blk_frozen Y1 0
  have b1 : w1.cell? ⟨w.heap.size + 1, 1, none⟩ = some (.int .i64 0) := blk_cell Y1 1
  have g1 := blk_frozen Y1 1
  have b2 : w1.cell? ⟨w.heap.size + 1, 2, none⟩ = some (.int .i64 0) := blk_cell Y1 2
  have g2 := blk_frozen Y1 2
  have b3 : w1.cell? ⟨w.heap.size + 1, 3, none⟩ = some (.int .i64 0) := blk_cell Y1 3
  have g3 := blk_frozen Y1 3
  have b4 : w1.cell? ⟨w.heap.size + 1, 4, none⟩ = some (.slice none 0 0) := blk_cell Y1 4
  have g4 := blk_frozen Y1 4
  clear hb1
  apply_assumption
  go_wp2_with fail
  have HQ : Ch (fun k => k = w.heap.size ∨ k = w.heap.size + 1) w1 ((((((w1.setCell ⟨w.heap.size, 4, none⟩ (.slice B l.done.length b)).setCell ⟨w.heap.size + 1, 0, none⟩ (.int .i64 l.proc)).setCell ⟨w.heap.size + 1, 1, none⟩ (.int .i64 l.base.x)).setCell ⟨w.heap.size + 1, 2, none⟩ (.int .i64 l.base.y)).setCell ⟨w.heap.size + 1, 3, none⟩ (.int .i64 l.base.c)).setCell ⟨w.heap.size + 1, 4, none⟩ (.slice B l.done.length b)) := (Ch.setCell (p := ⟨w.heap.size + 1, 4, none⟩) (Ch.setCell (p := ⟨w.heap.size + 1, 3, none⟩) (Ch.setCell (p := ⟨w.heap.size + 1, 2, none⟩) (Ch.setCell (p := ⟨w.heap.size + 1, 1, none⟩) (Ch.setCell (p := ⟨w.heap.size + 1, 0, none⟩) (Ch.setCell (p := ⟨w.heap.size, 4, none⟩) (Ch.refl (fun k => k = w.heap.size ∨ k = w.heap.size + 1) _) (Or.inl (Or.inl rfl)) _) (Or.inl (Or.inr rfl)) _) (Or.inl (Or.inr rfl)) _) (Or.inl (Or.inr rfl)) _) (Or.inl (Or.inr rfl)) _) (Or.inl (Or.inr rfl)) _)
  have BY := (blk_set (blk_set (blk_set (blk_set (blk_set ((Ch.setCell (p := ⟨w.heap.size, 4, none⟩) (Ch.refl (fun k => k = w.heap.size) w1) (Or.inl rfl) (.slice B l.done.length b)).heap Y1 (by omega)) 0 (.int .i64 l.proc)) 1 (.int .i64 l.base.x)) 2 (.int .i64 l.base.y)) 3 (.int .i64 l.base.c)) 4 (.slice B l.done.length b))
  simp only [List.setIfInBounds_toArray, List.set_cons_zero, List.set_cons_succ] at BY
  have k1 := (m1.ch HQ (fun k hk e1 => by have h3 : W.heap.size ≤ k := hk; have := HWs.out; omega)).mono (F' := fun k => w.heap.size ≤ k) (fun k hk => by have h3 : W.heap.size ≤ k := hk; have := HWs.out; show w.heap.size ≤ k; omega)
  have hb9 := HB1.trans (HQ.below (B := w.heap.size) (fun k hk => by omega) HB1.size)
  generalize ((((((w1.setCell ⟨w.heap.size, 4, none⟩ (.slice B l.done.length b)).setCell ⟨w.heap.size + 1, 0, none⟩ (.int .i64 l.proc)).setCell ⟨w.heap.size + 1, 1, none⟩ (.int .i64 l.base.x)).setCell ⟨w.heap.size + 1, 2, none⟩ (.int .i64 l.base.y)).setCell ⟨w.heap.size + 1, 3, none⟩ (.int .i64 l.base.c)).setCell ⟨w.heap.size + 1, 4, none⟩ (.slice B l.done.length b)) = W9 at *
  have s0 : W9.cell? ⟨w.heap.size + 1, 0, none⟩ = some (.int .i64 l.proc) := blk_cell BY 0
  have s1 : W9.cell? ⟨w.heap.size + 1, 1, none⟩ = some (.int .i64 l.base.x) := blk_cell BY 1
  have s2 : W9.cell? ⟨w.heap.size + 1, 2, none⟩ = some (.int .i64 l.base.y) := blk_cell BY 2
  have s3 : W9.cell? ⟨w.heap.size + 1, 3, none⟩ = some (.int .i64 l.base.c) := blk_cell BY 3
  have s4 : W9.cell? ⟨w.heap.size + 1, 4, none⟩ = some (.slice B l.done.length b) := blk_cell BY 4
  refine bodyPost_ret (v := .agg #[.int .i64 l.proc, .int .i64 l.base.x, .int .i64 l.base.y, .int .i64 l.base.c, .slice B l.done.length b]) (by simp only [results, Tryz.results62]; go_simp) rfl ⟨_, rfl, k1, hb9⟩
/-- What follows from a lane's form. -/
theorem laneOk_parts {l : LaneD} (h : laneOk l = true) : stOk l.base = true ∧ l.done.length ≤ 100 ∧ ∀ p ∈ l.done, pastOk p l.proc = true := by
  simp only [laneOk, Bool.and_eq_true, decide_eq_true_eq] at h
  exact ⟨h.2.1, h.2.2.1, fun p hp => List.all_eq_true.1 h.2.2.2.1 p hp⟩
theorem pastOk_parts {p : PastD} {pr : Int} (h : pastOk p pr = true) : evOk p.ev = true ∧ stOk p.st = true ∧ p.sends.length ≤ 2 ∧ p.outs.length ≤ 2 := by
  simp only [pastOk, evsOk, outsOk, Bool.and_eq_true, decide_eq_true_eq] at h
  exact ⟨h.1, h.2.2.1, by have := h.2.2.2.1.1; omega, by have := h.2.2.2.2.1; omega⟩
theorem laneNow_ok {l : LaneD} (h : laneOk l = true) : stOk (laneNow l) = true := by
  obtain ⟨h1, -, h3⟩ := laneOk_parts h
  unfold laneNow
  split
  · rename_i p hp
    exact (pastOk_parts (h3 p (List.mem_of_getLast? hp))).2.1
  · exact h1
theorem next_ok {l : LaneD} {came : List EvD} {e : EvD} (h : nextE l came = some e) : laneOk l = true ∧ cameOk l came = true ∧ evOk e = true ∧ laneNext l came = some e := by
  unfold nextE at h
  split at h
  · rename_i hh
    refine ⟨hh.1, hh.2, ?_, h⟩
    have h2 := hh.2
    simp only [cameOk, evsOk, Bool.and_eq_true] at h2
    have hm : e ∈ came := by
      unfold laneNext at h
      split at h
      · cases h
      · exact List.mem_of_getElem? h
    exact List.all_eq_true.1 h2.1.2.1 e hm
  · cases h
theorem laneStep_no {a : AppD} {l : LaneD} {came : List EvD} (qk : laneOk l = true) (h : cameOk l came = false ∨ appOk a = false ∨ nextE l came = none) : laneStep a l came = (l, false) := by
  unfold laneStep
  rw [if_pos qk]
  split
  · rename_i hh
    rcases h with h | h | h
    · rw [h] at hh; cases hh.1
    · rw [h] at hh; cases hh.2
    · unfold nextE at h
      rw [if_pos ⟨qk, hh.1⟩] at h
      rw [h]
  · rfl
theorem laneStep_yes {a : AppD} {l : LaneD} {came : List EvD} {e : EvD} (ha : appOk a = true) (h : nextE l came = some e) : laneStep a l came = (laneDo a l e, true) := by
  obtain ⟨h1, h2, -, h4⟩ := next_ok h
  unfold laneStep
  rw [if_pos h1, if_pos ⟨h2, ha⟩, h4]
theorem evSort_le (xs : List EvD) : (evSort xs).length ≤ xs.length := by
  have := sortOnce_len (lt := evLess) xs xs.length (Nat.le_refl _)
  rwa [List.take_length] at this
theorem outSort_len (xs : List OutD) : (outSort xs).length = xs.length := (sortAll_ok out_ord xs).2.length_eq
theorem sgz_name {P : Program} {ops : Array Oper} {Q : Exit → Act → World → Prop} {w0 : World} {r : List Sg} {f : List Nat} {a : Act} {w : World} (h : ∀ a0, a0 = a → wpSg P ops Q w0 r f a0 w) : wpSg P ops Q w0 r f a w := h a rfl
theorem runZ_call (v : Value) (a : AppD) (s : StD) (e : EvD) (F : Nat → Prop) (w : World) (h : Rd tRule w F v a.rules) {xs : StD} {sends : List EvD} {outs : List OutD} (hr : appRun a s e = (xs, sends, outs)) :
    Calls Tryz.prog 82 #[.agg #[v], .agg #[.int .i64 s.x, .int .i64 s.y, .int .i64 s.c], .agg #[.int .i64 e.time, .int .i64 e.to, .int .i64 e.from_, .int .i64 e.count, .int .i64 e.n, .int .i64 e.kind, .int .i64 e.arg]] w fun q w' => ∃ sv ov, q = .returned (.tuple #[stAgg3 xs, sv, ov]) ∧ Ow tEv 80 w' (fun k => w.heap.size ≤ k) sv sends ∧ Ow tOut 128 w' (fun k => w.heap.size ≤ k) ov outs ∧ Below w.heap.size w w' := by
  refine (AppRun_c v a s e F w h).mono ?_
  rintro q w' ⟨sv, ov, h1, h2, h3, h4⟩
  rw [hr] at h1 h2 h3
  exact ⟨sv, ov, h1, h2, h3, h4⟩
def ziN (l : LaneD) (xs : StD) (sends : List EvD) (outs : List OutD) : List HeldD :=
  [(4, [], fun _ v w F => ∃ sv ov, v = .tuple #[stAgg3 xs, sv, ov] ∧ Ow tEv 80 w F sv sends ∧ Ow tOut 128 w F ov outs),
   (9, [], fun _ v w F => ∃ g, v = .pointer (some ⟨g, 0, none⟩) ∧ F g ∧ w.heap[g]? = some (.cells #[.int .i64 0, .int .i64 0, .int .i64 0] 49 (0, 0))),
   (10, [9], fun ds _ w F => ∃ g, ds = [.pointer (some ⟨g, 0, none⟩)] ∧ F g ∧ w.heap[g]? = some (.cells #[.int .i64 xs.x, .int .i64 xs.y, .int .i64 xs.c] 49 (0, 0)))]
theorem ziN_moves (l : LaneD) (xs : StD) (sends : List EvD) (outs : List OutD) : MovesDL (ziN l xs sends outs) :=
  ⟨fun ds v w w' F ⟨sv, ov, h1, h2, h3⟩ hm => ⟨sv, ov, h1, Ow.move hm h2, Ow.move hm h3⟩, fun ds v w w' F ⟨g, h1, h2, h3⟩ hm => ⟨g, h1, h2, (hm g h2).trans h3⟩, fun ds v w w' F ⟨g, h1, h2, h3⟩ hm => ⟨g, h1, h2, (hm g h2).trans h3⟩, trivial⟩
def ziP (l : LaneD) (xs : StD) (sends : List EvD) (outs : List OutD) : List Known := [(2, [], fun _ v => v = .agg #[.int .i64 (laneNow l).x, .int .i64 (laneNow l).y, .int .i64 (laneNow l).c]), (4, [], fun _ v => tup3 (stAgg3 xs) v), (5, [4], fun ds v => ds = [v] ∧ tup3 (stAgg3 xs) v), (6, [5], fun _ v => v = stAgg3 xs), (7, [5], fun ds v => ∀ a b c, ds = [.tuple #[a, b, c]] → v = b), (8, [5], fun ds v => ∀ a b c, ds = [.tuple #[a, b, c]] → v = c), (11, [7], fun ds v => ds = [v]), (12, [8], fun ds v => ds = [v])]
def StepL (a : AppD) (l : LaneD) (came : List EvD) (w : World) (q : Ending) (w' : World) : Prop :=
  ∃ (x : LaneD) (bl : Bool) (u : Value), laneStep a l came = (x, bl) ∧ q = .returned (.tuple #[.agg #[.int .i64 x.proc, .int .i64 x.base.x, .int .i64 x.base.y, .int .i64 x.base.c, u], .bool bl]) ∧ Rd tPast w' (fun k => k < w.heap.size ∨ w.heap.size ≤ k) u x.done ∧ Below w.heap.size w w'
set_option maxHeartbeats 1000000 in
theorem laneStepI_c (a : AppD) (l : LaneD) (came : List EvD) (va v vc : Value) (w : World) (hA : Rd tRule w (fun k => k < w.heap.size) va a.rules) (h : Rd tPast w (fun k => k < w.heap.size) v l.done) (hc : Rd tEv w (fun k => k < w.heap.size) vc came) (qk : laneOk l = true) :
    Calls Tryz.prog 61 #[.agg #[va], .agg #[.int .i64 l.proc, .int .i64 l.base.x, .int .i64 l.base.y, .int .i64 l.base.c, v], vc] w (StepL a l came w) := by
  obtain ⟨A1, c1, rfl, -⟩ := hA.shape
  obtain ⟨A, c, rfl, -⟩ := h.shape
  obtain ⟨C, cc, rfl, -⟩ := hc.shape
  go_enter Tryz.func61, Tryz.ntmps61
  go_wp2_with fail
  have HB : Below w.heap.size w (((w.alloc (.cells #[.slice A1 a.rules.length c1] 57)).alloc (.cells #[.int .i64 l.proc, .int .i64 l.base.x, .int .i64 l.base.y, .int .i64 l.base.c, .slice A l.done.length c] 52)).alloc (.cells #[.int .i64 0, .int .i64 0, .int .i64 0, .int .i64 0, .slice none 0 0] 52)) := balloc (balloc (balloc (Below.refl _ _) _) _) _
  have X_a : (((w.alloc (.cells #[.slice A1 a.rules.length c1] 57)).alloc (.cells #[.int .i64 l.proc, .int .i64 l.base.x, .int .i64 l.base.y, .int .i64 l.base.c, .slice A l.done.length c] 52)).alloc (.cells #[.int .i64 0, .int .i64 0, .int .i64 0, .int .i64 0, .slice none 0 0] 52)).heap[w.heap.size]? = some (.cells #[.slice A1 a.rules.length c1] 57 (0, 0)) := (heap_old (by simp only [World.size_alloc]; omega)).trans ((heap_old (by simp)).trans (heap_at rfl))
  have X_l : (((w.alloc (.cells #[.slice A1 a.rules.length c1] 57)).alloc (.cells #[.int .i64 l.proc, .int .i64 l.base.x, .int .i64 l.base.y, .int .i64 l.base.c, .slice A l.done.length c] 52)).alloc (.cells #[.int .i64 0, .int .i64 0, .int .i64 0, .int .i64 0, .slice none 0 0] 52)).heap[w.heap.size + 1]? = some (.cells #[.int .i64 l.proc, .int .i64 l.base.x, .int .i64 l.base.y, .int .i64 l.base.c, .slice A l.done.length c] 52 (0, 0)) := (heap_old (by simp)).trans (heap_at (by simp))
  have X_z : (((w.alloc (.cells #[.slice A1 a.rules.length c1] 57)).alloc (.cells #[.int .i64 l.proc, .int .i64 l.base.x, .int .i64 l.base.y, .int .i64 l.base.c, .slice A l.done.length c] 52)).alloc (.cells #[.int .i64 0, .int .i64 0, .int .i64 0, .int .i64 0, .slice none 0 0] 52)).heap[w.heap.size + 1 + 1]? = some (.cells #[.int .i64 0, .int .i64 0, .int .i64 0, .int .i64 0, .slice none 0 0] 52 (0, 0)) := heap_at (by simp)
  generalize ((w.alloc (.cells #[.slice A1 a.rules.length c1] 57)).alloc (.cells #[.int .i64 l.proc, .int .i64 l.base.x, .int .i64 l.base.y, .int .i64 l.base.c, .slice A l.done.length c] 52)).alloc (.cells #[.int .i64 0, .int .i64 0, .int .i64 0, .int .i64 0, .slice none 0 0] 52) = W at *
  replace hA := hA.below HB
  replace h := h.below HB
  replace hc := hc.below HB
  have c_a0 := cl1 X_a
  obtain ⟨c_l0, c_l1, c_l2, c_l3, c_l4⟩ := cl5 X_l
  obtain ⟨c_z0, c_z1, c_z2, c_z3, c_z4⟩ := cl5 X_z
  have fz0 := blk_frozen X_z 0
  have fz1 := blk_frozen X_z 1
  have fz2 := blk_frozen X_z 2
  have fz3 := blk_frozen X_z 3
  have fz4 := blk_frozen X_z 4
  have fl4 := blk_frozen X_l 4
  refine (appOk_c _ a _ _ hA).mono ?_
  rintro q w1 ⟨rfl, hb1⟩
  clear c_a0 c_l0 c_l1 c_l2 c_l3 c_l4 c_z0 c_z1 c_z2 c_z3 c_z4 fz0 fz1 fz2 fz3 fz4 fl4
  replace HB := bthen HB hb1 HB.size
  replace X_a := below_heap hb1 (blk_lt X_a) X_a
  replace X_l := below_heap hb1 (blk_lt X_l) X_l
  replace X_z := below_heap hb1 (blk_lt X_z) X_z
  replace hA := hA.below hb1
  replace h := h.below hb1
  replace hc := hc.below hb1
  clear hb1
  obtain ⟨t1, ht⟩ : ∃ t, appOk a = t := ⟨_, rfl⟩
  have HT1 := hid ht
  rw [ht]
  clear ht
  have c_a0 := cl1 X_a
  obtain ⟨c_l0, c_l1, c_l2, c_l3, c_l4⟩ := cl5 X_l
  obtain ⟨c_z0, c_z1, c_z2, c_z3, c_z4⟩ := cl5 X_z
  have fz0 := blk_frozen X_z 0
  have fz1 := blk_frozen X_z 1
  have fz2 := blk_frozen X_z 2
  have fz3 := blk_frozen X_z 3
  have fz4 := blk_frozen X_z 4
  have fl4 := blk_frozen X_l 4
  apply_assumption
  cases t1
  case false =>
    have HF := hid (laneStep_no (a := a) (came := came) qk (.inr (.inl HT1.out)))
    go_wp2_with fail
    have HQ : Ch (fun k => k = w.heap.size + 1 + 1) w1 (((((w1.setCell ⟨w.heap.size + 1 + 1, 0, none⟩ (.int .i64 l.proc)).setCell ⟨w.heap.size + 1 + 1, 1, none⟩ (.int .i64 l.base.x)).setCell ⟨w.heap.size + 1 + 1, 2, none⟩ (.int .i64 l.base.y)).setCell ⟨w.heap.size + 1 + 1, 3, none⟩ (.int .i64 l.base.c)).setCell ⟨w.heap.size + 1 + 1, 4, none⟩ (.slice A l.done.length c)) := (Ch.setCell (p := ⟨w.heap.size + 1 + 1, 4, none⟩) (Ch.setCell (p := ⟨w.heap.size + 1 + 1, 3, none⟩) (Ch.setCell (p := ⟨w.heap.size + 1 + 1, 2, none⟩) (Ch.setCell (p := ⟨w.heap.size + 1 + 1, 1, none⟩) (Ch.setCell (p := ⟨w.heap.size + 1 + 1, 0, none⟩) (Ch.refl (fun k => k = w.heap.size + 1 + 1) _) (Or.inl rfl) _) (Or.inl rfl) _) (Or.inl rfl) _) (Or.inl rfl) _) (Or.inl rfl) _)
    have BX := (blk_set (blk_set (blk_set (blk_set (blk_set X_z 0 (.int .i64 l.proc)) 1 (.int .i64 l.base.x)) 2 (.int .i64 l.base.y)) 3 (.int .i64 l.base.c)) 4 (.slice A l.done.length c))
    simp only [List.setIfInBounds_toArray, List.set_cons_zero, List.set_cons_succ] at BX
    have hb9 := HB.trans (HQ.below (B := w.heap.size) (fun k hk => by omega) HB.size)
    have hrd := (h.ch HQ (fun k hk e1 => by have h3 : k < w.heap.size := hk; omega)).mono (F' := fun k => k < w.heap.size ∨ w.heap.size ≤ k) (fun k hk => .inl hk)
    generalize (((((w1.setCell ⟨w.heap.size + 1 + 1, 0, none⟩ (.int .i64 l.proc)).setCell ⟨w.heap.size + 1 + 1, 1, none⟩ (.int .i64 l.base.x)).setCell ⟨w.heap.size + 1 + 1, 2, none⟩ (.int .i64 l.base.y)).setCell ⟨w.heap.size + 1 + 1, 3, none⟩ (.int .i64 l.base.c)).setCell ⟨w.heap.size + 1 + 1, 4, none⟩ (.slice A l.done.length c)) = W12 at *
    obtain ⟨s0, s1, s2, s3, s4⟩ := cl5 BX
    refine bodyPost_ret (v := .tuple #[.agg #[.int .i64 l.proc, .int .i64 l.base.x, .int .i64 l.base.y, .int .i64 l.base.c, .slice A l.done.length c], .bool false]) (by simp only [results, Tryz.results61]; go_simp) rfl ⟨l, false, _, HF.out, rfl, hrd, hb9⟩
  go_wp2_with fail
  refine (cameFitsI_c l _ _ came _ _ _ h hc).mono ?_
  rintro q w2 ⟨rfl, hb2⟩
  clear c_a0 c_l0 c_l1 c_l2 c_l3 c_l4 c_z0 c_z1 c_z2 c_z3 c_z4 fz0 fz1 fz2 fz3 fz4 fl4
  replace HB := bthen HB hb2 HB.size
  replace X_a := below_heap hb2 (blk_lt X_a) X_a
  replace X_l := below_heap hb2 (blk_lt X_l) X_l
  replace X_z := below_heap hb2 (blk_lt X_z) X_z
  replace hA := hA.below hb2
  replace h := h.below hb2
  replace hc := hc.below hb2
  clear hb2
  obtain ⟨t2, ht⟩ : ∃ t, cameOk l came = t := ⟨_, rfl⟩
  have HT2 := hid ht
  rw [ht]
  clear ht
  have c_a0 := cl1 X_a
  obtain ⟨c_l0, c_l1, c_l2, c_l3, c_l4⟩ := cl5 X_l
  obtain ⟨c_z0, c_z1, c_z2, c_z3, c_z4⟩ := cl5 X_z
  have fz0 := blk_frozen X_z 0
  have fz1 := blk_frozen X_z 1
  have fz2 := blk_frozen X_z 2
  have fz3 := blk_frozen X_z 3
  have fz4 := blk_frozen X_z 4
  have fl4 := blk_frozen X_l 4
  apply_assumption
  cases t2
  case false =>
    have HF := hid (laneStep_no (a := a) (came := came) qk (.inl HT2.out))
    go_wp2_with fail
    have HQ : Ch (fun k => k = w.heap.size + 1 + 1) w2 (((((w2.setCell ⟨w.heap.size + 1 + 1, 0, none⟩ (.int .i64 l.proc)).setCell ⟨w.heap.size + 1 + 1, 1, none⟩ (.int .i64 l.base.x)).setCell ⟨w.heap.size + 1 + 1, 2, none⟩ (.int .i64 l.base.y)).setCell ⟨w.heap.size + 1 + 1, 3, none⟩ (.int .i64 l.base.c)).setCell ⟨w.heap.size + 1 + 1, 4, none⟩ (.slice A l.done.length c)) := (Ch.setCell (p := ⟨w.heap.size + 1 + 1, 4, none⟩) (Ch.setCell (p := ⟨w.heap.size + 1 + 1, 3, none⟩) (Ch.setCell (p := ⟨w.heap.size + 1 + 1, 2, none⟩) (Ch.setCell (p := ⟨w.heap.size + 1 + 1, 1, none⟩) (Ch.setCell (p := ⟨w.heap.size + 1 + 1, 0, none⟩) (Ch.refl (fun k => k = w.heap.size + 1 + 1) _) (Or.inl rfl) _) (Or.inl rfl) _) (Or.inl rfl) _) (Or.inl rfl) _) (Or.inl rfl) _)
    have BX := (blk_set (blk_set (blk_set (blk_set (blk_set X_z 0 (.int .i64 l.proc)) 1 (.int .i64 l.base.x)) 2 (.int .i64 l.base.y)) 3 (.int .i64 l.base.c)) 4 (.slice A l.done.length c))
    simp only [List.setIfInBounds_toArray, List.set_cons_zero, List.set_cons_succ] at BX
    have hb9 := HB.trans (HQ.below (B := w.heap.size) (fun k hk => by omega) HB.size)
    have hrd := (h.ch HQ (fun k hk e1 => by have h3 : k < w.heap.size := hk; omega)).mono (F' := fun k => k < w.heap.size ∨ w.heap.size ≤ k) (fun k hk => .inl hk)
    generalize (((((w2.setCell ⟨w.heap.size + 1 + 1, 0, none⟩ (.int .i64 l.proc)).setCell ⟨w.heap.size + 1 + 1, 1, none⟩ (.int .i64 l.base.x)).setCell ⟨w.heap.size + 1 + 1, 2, none⟩ (.int .i64 l.base.y)).setCell ⟨w.heap.size + 1 + 1, 3, none⟩ (.int .i64 l.base.c)).setCell ⟨w.heap.size + 1 + 1, 4, none⟩ (.slice A l.done.length c)) = W12 at *
    obtain ⟨s0, s1, s2, s3, s4⟩ := cl5 BX
    refine bodyPost_ret (v := .tuple #[.agg #[.int .i64 l.proc, .int .i64 l.base.x, .int .i64 l.base.y, .int .i64 l.base.c, .slice A l.done.length c], .bool false]) (by simp only [results, Tryz.results61]; go_simp) rfl ⟨l, false, _, HF.out, rfl, hrd, hb9⟩
  go_wp2_with fail
  refine (laneNextI_c l _ _ came _ _ _ h hc qk HT2.out).mono ?_
  rintro q w3 ⟨e, bl, rfl, he1, he2, hb3⟩
  clear c_a0 c_l0 c_l1 c_l2 c_l3 c_l4 c_z0 c_z1 c_z2 c_z3 c_z4 fz0 fz1 fz2 fz3 fz4 fl4
  replace HB := bthen HB hb3 HB.size
  replace X_a := below_heap hb3 (blk_lt X_a) X_a
  replace X_l := below_heap hb3 (blk_lt X_l) X_l
  replace X_z := below_heap hb3 (blk_lt X_z) X_z
  replace hA := hA.below hb3
  replace h := h.below hb3
  replace hc := hc.below hb3
  clear hb3
  have c_a0 := cl1 X_a
  obtain ⟨c_l0, c_l1, c_l2, c_l3, c_l4⟩ := cl5 X_l
  obtain ⟨c_z0, c_z1, c_z2, c_z3, c_z4⟩ := cl5 X_z
  have fz0 := blk_frozen X_z 0
  have fz1 := blk_frozen X_z 1
  have fz2 := blk_frozen X_z 2
  have fz3 := blk_frozen X_z 3
  have fz4 := blk_frozen X_z 4
  have fl4 := blk_frozen X_l 4
  apply_assumption
  go_upto_region 4 with fail
  clear c_a0 c_l0 c_l1 c_l2 c_l3 c_l4 c_z0 c_z1 c_z2 c_z3 c_z4 fz0 fz1 fz2 fz3 fz4 fl4
  have hbx := balloc (Below.refl w3.heap.size w3) (.cells #[.int .i64 e.time, .int .i64 e.to, .int .i64 e.from_, .int .i64 e.count, .int .i64 e.n, .int .i64 e.kind, .int .i64 e.arg] 80)
  have X_e : (w3.alloc (.cells #[.int .i64 e.time, .int .i64 e.to, .int .i64 e.from_, .int .i64 e.count, .int .i64 e.n, .int .i64 e.kind, .int .i64 e.arg] 80)).heap[w3.heap.size]? = some (.cells #[.int .i64 e.time, .int .i64 e.to, .int .i64 e.from_, .int .i64 e.count, .int .i64 e.n, .int .i64 e.kind, .int .i64 e.arg] 80 (0, 0)) := heap_at rfl
  replace HB := bthen HB hbx HB.size
  replace X_a := below_heap hbx (blk_lt X_a) X_a
  replace X_l := below_heap hbx (blk_lt X_l) X_l
  replace X_z := below_heap hbx (blk_lt X_z) X_z
  replace hA := hA.below hbx
  replace h := h.below hbx
  replace hc := hc.below hbx
  obtain ⟨gE, hg⟩ : ∃ g, g = w3.heap.size := ⟨_, rfl⟩
  rw [← hg] at X_e
  simp only [← hg]
  generalize w3.alloc (.cells #[.int .i64 e.time, .int .i64 e.to, .int .i64 e.from_, .int .i64 e.count, .int .i64 e.n, .int .i64 e.kind, .int .i64 e.arg] 80) = W4 at *
  clear hg hbx
  have c_a0 := cl1 X_a
  obtain ⟨c_l0, c_l1, c_l2, c_l3, c_l4⟩ := cl5 X_l
  obtain ⟨c_z0, c_z1, c_z2, c_z3, c_z4⟩ := cl5 X_z
  obtain ⟨c_e0, c_e1, c_e2, c_e3, c_e4, c_e5, c_e6⟩ := cl7 X_e
  have fz0 := blk_frozen X_z 0
  have fz1 := blk_frozen X_z 1
  have fz2 := blk_frozen X_z 2
  have fz3 := blk_frozen X_z 3
  have fz4 := blk_frozen X_z 4
  have fl4 := blk_frozen X_l 4
  cases bl
  case false =>
    have HF := hid (laneStep_no (a := a) (came := came) qk (.inr (.inr (he2 rfl))))
    go_wp2_with fail
    have HQ : Ch (fun k => k = w.heap.size + 1 + 1) W4 (((((W4.setCell ⟨w.heap.size + 1 + 1, 0, none⟩ (.int .i64 l.proc)).setCell ⟨w.heap.size + 1 + 1, 1, none⟩ (.int .i64 l.base.x)).setCell ⟨w.heap.size + 1 + 1, 2, none⟩ (.int .i64 l.base.y)).setCell ⟨w.heap.size + 1 + 1, 3, none⟩ (.int .i64 l.base.c)).setCell ⟨w.heap.size + 1 + 1, 4, none⟩ (.slice A l.done.length c)) := (Ch.setCell (p := ⟨w.heap.size + 1 + 1, 4, none⟩) (Ch.setCell (p := ⟨w.heap.size + 1 + 1, 3, none⟩) (Ch.setCell (p := ⟨w.heap.size + 1 + 1, 2, none⟩) (Ch.setCell (p := ⟨w.heap.size + 1 + 1, 1, none⟩) (Ch.setCell (p := ⟨w.heap.size + 1 + 1, 0, none⟩) (Ch.refl (fun k => k = w.heap.size + 1 + 1) _) (Or.inl rfl) _) (Or.inl rfl) _) (Or.inl rfl) _) (Or.inl rfl) _) (Or.inl rfl) _)
    have BX := (blk_set (blk_set (blk_set (blk_set (blk_set X_z 0 (.int .i64 l.proc)) 1 (.int .i64 l.base.x)) 2 (.int .i64 l.base.y)) 3 (.int .i64 l.base.c)) 4 (.slice A l.done.length c))
    simp only [List.setIfInBounds_toArray, List.set_cons_zero, List.set_cons_succ] at BX
    have hb9 := HB.trans (HQ.below (B := w.heap.size) (fun k hk => by omega) HB.size)
    have hrd := (h.ch HQ (fun k hk e1 => by have h3 : k < w.heap.size := hk; omega)).mono (F' := fun k => k < w.heap.size ∨ w.heap.size ≤ k) (fun k hk => .inl hk)
    generalize (((((W4.setCell ⟨w.heap.size + 1 + 1, 0, none⟩ (.int .i64 l.proc)).setCell ⟨w.heap.size + 1 + 1, 1, none⟩ (.int .i64 l.base.x)).setCell ⟨w.heap.size + 1 + 1, 2, none⟩ (.int .i64 l.base.y)).setCell ⟨w.heap.size + 1 + 1, 3, none⟩ (.int .i64 l.base.c)).setCell ⟨w.heap.size + 1 + 1, 4, none⟩ (.slice A l.done.length c)) = W12 at *
    obtain ⟨s0, s1, s2, s3, s4⟩ := cl5 BX
    refine bodyPost_ret (v := .tuple #[.agg #[.int .i64 l.proc, .int .i64 l.base.x, .int .i64 l.base.y, .int .i64 l.base.c, .slice A l.done.length c], .bool false]) (by simp only [results, Tryz.results61]; go_simp) rfl ⟨l, false, _, HF.out, rfl, hrd, hb9⟩
  have HE := hid (he1 rfl)
  clear he1 he2
  obtain ⟨xs, sends, outs, hrun⟩ : ∃ xs sends outs, appRun a (laneNow l) e = (xs, sends, outs) := ⟨_, _, _, rfl⟩
  have hrun' := hid hrun
  have hR := hid hA
  have hL := hid h
  have HC0 := hid (appRun_comes HT1.out (laneNow_ok qk) (next_ok HE.out).2.2.1)
  have hwf := hid (show ∀ x ∈ sends, EvWf x from fun x hx => EvWf.of_ok (by have h9 := HC0.out; rw [hrun] at h9; exact (h9.sends x hx).1))
  have hle := hid (show sends.length ≤ 2 ∧ outs.length ≤ 2 by have h9 := appRun_good a (laneNow l) e; rw [hrun] at h9; exact ⟨h9.2.2.1, h9.2.2.2.1⟩)
  have HD := hid (show laneDo a l e = ⟨l.proc, l.base, l.done ++ [⟨e, xs, evSort sends, outSort outs⟩]⟩ by simp only [laneDo, hrun])
  clear hrun HC0
  go_upto_region 6 with fail
  refine region_sg [.rd [0, 1, 3], .par [(2, []), (4, []), (5, []), (6, []), (7, []), (8, []), (9, []), (10, [9]), (11, []), (12, [])] []] [] (by kernel_rfl) (by kernel_rfl) (fun _ _ d _ _ h => by cases d <;> exact h) ?_
  refine sg_rd (fun N hN => ?_)
  simp only [pickO, List.getElem?_toArray, List.getElem?_cons_zero, List.getElem?_cons_succ]
  go_wp2_with fail
  refine rd_next (hN _ ?_)
  clear hN N
  refine sgz_name fun a0 ha0 => ?_
  have sA := hid (show a0.tmps[34]? = some (.agg #[.slice A1 a.rules.length c1]) by rw [ha0]; rfl)
  have sL := hid (show a0.tmps[35]? = some (.agg #[.int .i64 l.proc, .int .i64 l.base.x, .int .i64 l.base.y, .int .i64 l.base.c, .slice A l.done.length c]) by rw [ha0]; rfl)
  have sE := hid (show a0.tmps[37]? = some (.agg #[.int .i64 e.time, .int .i64 e.to, .int .i64 e.from_, .int .i64 e.count, .int .i64 e.n, .int .i64 e.kind, .int .i64 e.arg]) by rw [ha0]; rfl)
  have hsz := hid (show ∀ k, k < 42 → k < a0.tmps.size from fun k hk => by rw [ha0]; exact Nat.lt_of_lt_of_le hk (by show _ ≤ Array.size _; simp))
  have H0 := hid ha0
  clear ha0
  refine sg_parG [(2, some 36), (4, some 38), (5, some 33), (6, some 39), (7, some 40), (8, some 41), (9, some 10), (10, none), (11, some 11), (12, some 12)] (by rfl) (fun _ => False) (NL (ziN l xs sends outs)) (PPL (ziP l xs sends outs)) (fun _ _ => False) (PPL_upd _ (by kernel_rfl)) (NL_upd _ (by kernel_rfl)) (NL_move _ (ziN_moves l xs sends outs)) (fun w' hc => Agree.of_ch hc (fun _ hf => hf.elim)) (by simp) (by simp) (by simp) (parS_cons ?_ (parS_cons ?_ (parS_cons ?_ (parS_cons ?_ (parS_cons ?_ (parS_cons ?_ (parS_cons ?_ (parS_cons ?_ (parS_cons ?_ (parS_cons ?_ parS_nil)))))))))) ?_
  · refine stepG_mk (by rfl) (by rfl) ?_
    intro u wq F1 hC hp hN hF hD K hK
    have q35 : (putL [(2, some 36), (4, some 38), (5, some 33), (6, some 39), (7, some 40), (8, some 41), (9, some 10), (10, none), (11, some 11), (12, some 12)] a0 u).tmps[35]? = _ := (putL_out (k := 35) [(2, some 36), (4, some 38), (5, some 33), (6, some 39), (7, some 40), (8, some 41), (9, some 10), (10, none), (11, some 11), (12, some 12)] a0 u (by rfl)).trans sL.out
    clear hp hN hF hD
    generalize putL [(2, some 36), (4, some 38), (5, some 33), (6, some 39), (7, some 40), (8, some 41), (9, some 10), (10, none), (11, some 11), (12, some 12)] a0 u = a1 at *
    go_simp
    refine (laneNowI_c l _ _ wq (hL.out.below (⟨hC.below0.os, hC.below0.tape, hC.below0.output, hC.below0.size, hC.below0.block⟩ : Below W4.heap.size W4 wq))).mono ?_
    rintro q w5 ⟨rfl, hb5⟩
    have hn1 : NL (ziN l xs sends outs) 2 (updV u 2 (.agg #[.int .i64 (laneNow l).x, .int .i64 (laneNow l).y, .int .i64 (laneNow l).c])) w5 (fun _ => False) := trivial
    have hp1 : PPL (ziP l xs sends outs) 2 (updV u 2 (.agg #[.int .i64 (laneNow l).x, .int .i64 (laneNow l).y, .int .i64 (laneNow l).c])) := rfl
    exact hK _ (.agg #[.int .i64 (laneNow l).x, .int .i64 (laneNow l).y, .int .i64 (laneNow l).c]) _ (fun _ => False) rfl (Ch.of_below hb5) hn1 (fun k hk => hk.elim) hp1
  · refine stepG_mk (by rfl) (by rfl) ?_
    intro u wq F1 hC hp hN hF hD K hK
    have q34 : (putL [(2, some 36), (4, some 38), (5, some 33), (6, some 39), (7, some 40), (8, some 41), (9, some 10), (10, none), (11, some 11), (12, some 12)] a0 u).tmps[34]? = _ := (putL_out (k := 34) [(2, some 36), (4, some 38), (5, some 33), (6, some 39), (7, some 40), (8, some 41), (9, some 10), (10, none), (11, some 11), (12, some 12)] a0 u (by rfl)).trans sA.out
    have q36 : (putL [(2, some 36), (4, some 38), (5, some 33), (6, some 39), (7, some 40), (8, some 41), (9, some 10), (10, none), (11, some 11), (12, some 12)] a0 u).tmps[36]? = some (u 2) := putL_in (k := 36) (i := 2) [(2, some 36), (4, some 38), (5, some 33), (6, some 39), (7, some 40), (8, some 41), (9, some 10), (10, none), (11, some 11), (12, some 12)] a0 u (by rfl) (hsz.out 36 (by decide))
    have q37 : (putL [(2, some 36), (4, some 38), (5, some 33), (6, some 39), (7, some 40), (8, some 41), (9, some 10), (10, none), (11, some 11), (12, some 12)] a0 u).tmps[37]? = _ := (putL_out (k := 37) [(2, some 36), (4, some 38), (5, some 33), (6, some 39), (7, some 40), (8, some 41), (9, some 10), (10, none), (11, some 11), (12, some 12)] a0 u (by rfl)).trans sE.out
    have p3 : u 2 = .agg #[.int .i64 (laneNow l).x, .int .i64 (laneNow l).y, .int .i64 (laneNow l).c] := hp 2 (by simp) (by kernel_rfl)
    rw [p3] at q36
    clear hp hN hF hD
    generalize putL [(2, some 36), (4, some 38), (5, some 33), (6, some 39), (7, some 40), (8, some 41), (9, some 10), (10, none), (11, some 11), (12, some 12)] a0 u = a1 at *
    go_simp
    refine (runZ_call _ a (laneNow l) e _ wq (hR.out.below (⟨hC.below0.os, hC.below0.tape, hC.below0.output, hC.below0.size, hC.below0.block⟩ : Below W4.heap.size W4 wq)) hrun'.out).mono ?_
    rintro q w5 ⟨sv, ov, rfl, h5, h6, hb5⟩
    have hn1 : NL (ziN l xs sends outs) 4 (updV u 4 (.tuple #[stAgg3 xs, sv, ov])) w5 (fun k => wq.heap.size ≤ k ∧ k < w5.heap.size) := ⟨sv, ov, rfl, h5.bound, h6.bound⟩
    have hp1 : PPL (ziP l xs sends outs) 4 (updV u 4 (.tuple #[stAgg3 xs, sv, ov])) := ⟨sv, ov, rfl⟩
    exact hK _ (.tuple #[stAgg3 xs, sv, ov]) _ (fun k => wq.heap.size ≤ k ∧ k < w5.heap.size) rfl (Ch.of_below hb5) hn1 (fun k hk => ⟨.inr hk.1, hk.2⟩) hp1
  · refine stepG_pure (by rfl) (by rfl) (fun _ _ => trivial) ?_
    intro u wq hC hp
    have p12 : tup3 (stAgg3 xs) (u 4) := hp 4 (by simp) (by kernel_rfl)
    have q : (putL [(2, some 36), (4, some 38), (5, some 33), (6, some 39), (7, some 40), (8, some 41), (9, some 10), (10, none), (11, some 11), (12, some 12)] a0 u).eval (.tmp 38) = u 4 := eval_of (putL_in (k := 38) (i := 4) [(2, some 36), (4, some 38), (5, some 33), (6, some 39), (7, some 40), (8, some 41), (9, some 10), (10, none), (11, some 11), (12, some 12)] a0 u (by rfl) (hsz.out 38 (by decide)))
    generalize putL [(2, some 36), (4, some 38), (5, some 33), (6, some 39), (7, some 40), (8, some 41), (9, some 10), (10, none), (11, some 11), (12, some 12)] a0 u = a1 at *
    refine Exists.intro (u 4) (And.intro ?_ ?_)
    · intro K hK
      exact wp_move' (.inl (by rfl)) q hK
    · exact ⟨rfl, p12⟩
  · refine stepG_pure (by rfl) (by rfl) (fun _ _ => trivial) ?_
    intro u wq hC hp
    have p13 : [u 4] = [u 5] ∧ tup3 (stAgg3 xs) (u 5) := hp 5 (by simp) (by kernel_rfl)
    obtain ⟨-, b9, c9, e13⟩ := p13
    have q : (putL [(2, some 36), (4, some 38), (5, some 33), (6, some 39), (7, some 40), (8, some 41), (9, some 10), (10, none), (11, some 11), (12, some 12)] a0 u).eval (.tmp 33) = u 5 := eval_of (putL_in (k := 33) (i := 5) [(2, some 36), (4, some 38), (5, some 33), (6, some 39), (7, some 40), (8, some 41), (9, some 10), (10, none), (11, some 11), (12, some 12)] a0 u (by rfl) (hsz.out 33 (by decide)))
    rw [e13] at q
    generalize putL [(2, some 36), (4, some 38), (5, some 33), (6, some 39), (7, some 40), (8, some 41), (9, some 10), (10, none), (11, some 11), (12, some 12)] a0 u = a1 at *
    refine Exists.intro (stAgg3 xs) (And.intro ?_ ?_)
    · intro K hK
      refine wp_extract (x := .tmp 33) (n := 0) (vs := #[stAgg3 xs, b9, c9]) (v := (stAgg3 xs)) ?_ ?_ ?_ ?_
      · rfl
      · exact q
      · rfl
      · exact hK
    · exact rfl
  · refine stepG_pure (by rfl) (by rfl) (fun _ _ => trivial) ?_
    intro u wq hC hp
    have p13 : [u 4] = [u 5] ∧ tup3 (stAgg3 xs) (u 5) := hp 5 (by simp) (by kernel_rfl)
    obtain ⟨-, b9, c9, e13⟩ := p13
    have q : (putL [(2, some 36), (4, some 38), (5, some 33), (6, some 39), (7, some 40), (8, some 41), (9, some 10), (10, none), (11, some 11), (12, some 12)] a0 u).eval (.tmp 33) = u 5 := eval_of (putL_in (k := 33) (i := 5) [(2, some 36), (4, some 38), (5, some 33), (6, some 39), (7, some 40), (8, some 41), (9, some 10), (10, none), (11, some 11), (12, some 12)] a0 u (by rfl) (hsz.out 33 (by decide)))
    rw [e13] at q
    generalize putL [(2, some 36), (4, some 38), (5, some 33), (6, some 39), (7, some 40), (8, some 41), (9, some 10), (10, none), (11, some 11), (12, some 12)] a0 u = a1 at *
    refine Exists.intro b9 (And.intro ?_ ?_)
    · intro K hK
      refine wp_extract (x := .tmp 33) (n := 1) (vs := #[stAgg3 xs, b9, c9]) (v := b9) ?_ ?_ ?_ ?_
      · rfl
      · exact q
      · rfl
      · exact hK
    · exact fun a b c he => by have h9 : [u 5] = [Value.tuple #[a, b, c]] := he; rw [e13] at h9; simp at h9; exact h9.2.1
  · refine stepG_pure (by rfl) (by rfl) (fun _ _ => trivial) ?_
    intro u wq hC hp
    have p13 : [u 4] = [u 5] ∧ tup3 (stAgg3 xs) (u 5) := hp 5 (by simp) (by kernel_rfl)
    obtain ⟨-, b9, c9, e13⟩ := p13
    have q : (putL [(2, some 36), (4, some 38), (5, some 33), (6, some 39), (7, some 40), (8, some 41), (9, some 10), (10, none), (11, some 11), (12, some 12)] a0 u).eval (.tmp 33) = u 5 := eval_of (putL_in (k := 33) (i := 5) [(2, some 36), (4, some 38), (5, some 33), (6, some 39), (7, some 40), (8, some 41), (9, some 10), (10, none), (11, some 11), (12, some 12)] a0 u (by rfl) (hsz.out 33 (by decide)))
    rw [e13] at q
    generalize putL [(2, some 36), (4, some 38), (5, some 33), (6, some 39), (7, some 40), (8, some 41), (9, some 10), (10, none), (11, some 11), (12, some 12)] a0 u = a1 at *
    refine Exists.intro c9 (And.intro ?_ ?_)
    · intro K hK
      refine wp_extract (x := .tmp 33) (n := 2) (vs := #[stAgg3 xs, b9, c9]) (v := c9) ?_ ?_ ?_ ?_
      · rfl
      · exact q
      · rfl
      · exact hK
    · exact fun a b c he => by have h9 : [u 5] = [Value.tuple #[a, b, c]] := he; rw [e13] at h9; simp at h9; exact h9.2.2
  · refine stepG_mk (by rfl) (by rfl) ?_
    intro u wq F1 hC hp hN hF hD K hK
    clear hp hN hF hD
    generalize putL [(2, some 36), (4, some 38), (5, some 33), (6, some 39), (7, some 40), (8, some 41), (9, some 10), (10, none), (11, some 11), (12, some 12)] a0 u = a1 at *
    go_simp
    have hn1 : NL (ziN l xs sends outs) 9 (updV u 9 (.pointer (some ⟨wq.heap.size, 0, none⟩))) (wq.alloc (.cells #[.int .i64 0, .int .i64 0, .int .i64 0] 49)) (fun k => k = wq.heap.size) := ⟨_, rfl, rfl, heap_at rfl⟩
    exact hK _ (.pointer (some ⟨wq.heap.size, 0, none⟩)) _ (fun k => k = wq.heap.size) rfl ((Ch.refl _ _).alloc _) hn1 (fun k hk => by subst hk; exact ⟨.inr (Nat.le_refl _), by simp⟩) trivial
  · refine stepG_mk (by rfl) (by rfl) ?_
    intro u wq F1 hC hp hN hF hD K hK
    have q1 : (putL [(2, some 36), (4, some 38), (5, some 33), (6, some 39), (7, some 40), (8, some 41), (9, some 10), (10, none), (11, some 11), (12, some 12)] a0 u).eval (.tmp 10) = u 9 := eval_of (putL_in (k := 10) (i := 9) [(2, some 36), (4, some 38), (5, some 33), (6, some 39), (7, some 40), (8, some 41), (9, some 10), (10, none), (11, some 11), (12, some 12)] a0 u (by rfl) (hsz.out 10 (by decide)))
    have q2 : (putL [(2, some 36), (4, some 38), (5, some 33), (6, some 39), (7, some 40), (8, some 41), (9, some 10), (10, none), (11, some 11), (12, some 12)] a0 u).eval (.tmp 39) = u 6 := eval_of (putL_in (k := 39) (i := 6) [(2, some 36), (4, some 38), (5, some 33), (6, some 39), (7, some 40), (8, some 41), (9, some 10), (10, none), (11, some 11), (12, some 12)] a0 u (by rfl) (hsz.out 39 (by decide)))
    generalize putL [(2, some 36), (4, some 38), (5, some 33), (6, some 39), (7, some 40), (8, some 41), (9, some 10), (10, none), (11, some 11), (12, some 12)] a0 u = a1 at *
    obtain ⟨g, e17, f17, B17⟩ : ∃ g, u 9 = .pointer (some ⟨g, 0, none⟩) ∧ F1 9 g ∧ wq.heap[g]? = some (.cells #[.int .i64 0, .int .i64 0, .int .i64 0] 49 (0, 0)) := hN 9 (by simp)
    have p14 : u 6 = stAgg3 xs := hp 6 (by simp) (by kernel_rfl)
    have hgl := (hF 9 (by simp) g f17).2
    rw [e17] at q1
    rw [p14] at q2
    refine wp_store_mid 49 (.tmp 10) (.tmp 39) (by rfl) g 0 #[.int .i64 xs.x, .int .i64 xs.y, .int .i64 xs.c] q1 q2 (there_of_block B17 (by simp)) (by kernel_rfl) (by simp [Value.oneCell']) ?_
    have hn1 : NL (ziN l xs sends outs) 10 (updV u 10 undef) (wq.setCells g 0 [.int .i64 xs.x, .int .i64 xs.y, .int .i64 xs.c]) (fun k => k = g) := ⟨g, (show [u 9] = _ by rw [e17]), rfl, blk_ovw _ 0 wq [.int .i64 0, .int .i64 0, .int .i64 0] B17⟩
    exact hK _ undef _ (fun k => k = g) rfl (Ch.setCells _ _ _ (Ch.refl _ _) (.inl ⟨9, by simp, f17⟩)) hn1 (fun k hk => by subst hk; exact ⟨.inl ⟨9, by simp, f17⟩, by rw [size_setCells]; exact hgl⟩) trivial
  · refine stepG_pure (by rfl) (by rfl) (fun _ _ => trivial) ?_
    intro u wq hC hp
    have q : (putL [(2, some 36), (4, some 38), (5, some 33), (6, some 39), (7, some 40), (8, some 41), (9, some 10), (10, none), (11, some 11), (12, some 12)] a0 u).eval (.tmp 40) = u 7 := eval_of (putL_in (k := 40) (i := 7) [(2, some 36), (4, some 38), (5, some 33), (6, some 39), (7, some 40), (8, some 41), (9, some 10), (10, none), (11, some 11), (12, some 12)] a0 u (by rfl) (hsz.out 40 (by decide)))
    generalize putL [(2, some 36), (4, some 38), (5, some 33), (6, some 39), (7, some 40), (8, some 41), (9, some 10), (10, none), (11, some 11), (12, some 12)] a0 u = a1 at *
    refine Exists.intro (u 7) (And.intro ?_ ?_)
    · intro K hK
      exact wp_move' (.inr (by rfl)) q hK
    · exact rfl
  · refine stepG_pure (by rfl) (by rfl) (fun _ _ => trivial) ?_
    intro u wq hC hp
    have q : (putL [(2, some 36), (4, some 38), (5, some 33), (6, some 39), (7, some 40), (8, some 41), (9, some 10), (10, none), (11, some 11), (12, some 12)] a0 u).eval (.tmp 41) = u 8 := eval_of (putL_in (k := 41) (i := 8) [(2, some 36), (4, some 38), (5, some 33), (6, some 39), (7, some 40), (8, some 41), (9, some 10), (10, none), (11, some 11), (12, some 12)] a0 u (by rfl) (hsz.out 41 (by decide)))
    generalize putL [(2, some 36), (4, some 38), (5, some 33), (6, some 39), (7, some 40), (8, some 41), (9, some 10), (10, none), (11, some 11), (12, some 12)] a0 u = a1 at *
    refine Exists.intro (u 8) (And.intro ?_ ?_)
    · intro K hK
      exact wp_move' (.inr (by rfl)) q hK
    · exact rfl
  intro K hK u w9 F1 hC hD hF hN hpp
  obtain ⟨sv, ov, g12, n12, m12⟩ : ∃ sv ov, u 4 = .tuple #[stAgg3 xs, sv, ov] ∧ Ow tEv 80 w9 (F1 4) sv sends ∧ Ow tOut 128 w9 (F1 4) ov outs := hN 4 (by rfl)
  obtain ⟨gS, g17, f17, BX3⟩ : ∃ g, [u 9] = [.pointer (some ⟨g, 0, none⟩)] ∧ F1 10 g ∧ w9.heap[g]? = some (.cells #[.int .i64 xs.x, .int .i64 xs.y, .int .i64 xs.c] 49 (0, 0)) := hN 10 (by rfl)
  have g17 : u 9 = .pointer (some ⟨gS, 0, none⟩) := by simpa using g17
  have e3 : u 2 = .agg #[.int .i64 (laneNow l).x, .int .i64 (laneNow l).y, .int .i64 (laneNow l).c] := hpp 2 (by simp)
  have p13 : [u 4] = [u 5] ∧ tup3 (stAgg3 xs) (u 5) := hpp 5 (by simp)
  have e13 : u 5 = u 4 := by have := p13.1; simp at this; exact this.symm
  have e14 : u 6 = stAgg3 xs := hpp 6 (by simp)
  have p15 : ∀ a b c, [u 5] = [.tuple #[a, b, c]] → u 7 = b := hpp 7 (by simp)
  have p16 : ∀ a b c, [u 5] = [.tuple #[a, b, c]] → u 8 = c := hpp 8 (by simp)
  have e19 : u 11 = u 7 := by have q : [u 7] = [u 11] := hpp 11 (by simp); simp at q; exact q.symm
  have e20 : u 12 = u 8 := by have q : [u 8] = [u 12] := hpp 12 (by simp); simp at q; exact q.symm
  rw [g12] at e13
  have e15 := p15 _ _ _ (by rw [e13])
  have e16 := p16 _ _ _ (by rw [e13])
  rw [e15] at e19
  rw [e16] at e20
  clear hpp p13 p15 p16
  have hgS : W4.heap.size ≤ gS ∧ gS < w9.heap.size := by have := hF 10 gS (by rfl) f17; refine ⟨?_, this.2⟩; rcases this.1 with q | q; exact q.elim; simpa using q
  have n7 := n12.mono (F' := fun k => W4.heap.size ≤ k ∧ k < w9.heap.size) (fun k hk => by have := hF 4 k (by rfl) hk; refine ⟨?_, this.2⟩; rcases this.1 with q | q; exact q.elim; simpa using q)
  have m7 := m12.mono (F' := fun k => W4.heap.size ≤ k ∧ k < w9.heap.size) (fun k hk => by have := hF 4 k (by rfl) hk; refine ⟨?_, this.2⟩; rcases this.1 with q | q; exact q.elim; simpa using q)
  have HS : Below W4.heap.size W4 w9 := ⟨hC.below0.os, hC.below0.tape, hC.below0.output, hC.below0.size, hC.below0.block⟩
  have HA : Agree W4.drew w9 := Agree.of_ch hC (fun _ hf => hf.elim)
  clear hN hF hD hC n12 m12 f17
  rw [H0.out]
  clear sA sL sE hsz H0 a0
  simp only [putL_cons, putL_nil]
  simp only [stAgg3] at g12 e13 e14
  generalize u 2 = u_2 at *
  generalize u 4 = u_4 at *
  generalize u 5 = u_5 at *
  generalize u 6 = u_6 at *
  generalize u 7 = u_7 at *
  generalize u 8 = u_8 at *
  generalize u 9 = u_9 at *
  generalize u 10 = u_10 at *
  generalize u 11 = u_11 at *
  generalize u 12 = u_12 at *
  subst g12 g17 e3 e13 e14 e15 e16 e19 e20
  go_simp
  refine hK _ _ HA ?_
  clear hK K F1 HA
  refine sg_fin ?_
  simp only [pickO]
  clear c_a0 c_l0 c_l1 c_l2 c_l3 c_l4 c_z0 c_z1 c_z2 c_z3 c_z4 c_e0 c_e1 c_e2 c_e3 c_e4 c_e5 c_e6 fz0 fz1 fz2 fz3 fz4 fl4
  replace HB := bthen HB HS HB.size
  replace X_a := below_heap HS (blk_lt X_a) X_a
  replace X_l := below_heap HS (blk_lt X_l) X_l
  replace X_z := below_heap HS (blk_lt X_z) X_z
  replace X_e := below_heap HS (blk_lt X_e) X_e
  replace hA := hA.below HS
  replace h := h.below HS
  replace hc := hc.below HS
  have X_s := BX3; have n_s := n7; have n_o := m7; clear BX3 n7 m7 hR hL hgS
  have S9 := hid (show w.heap.size + 1 + 1 < w9.heap.size from blk_lt X_z)
  obtain ⟨D1, d1, rfl, -⟩ := n_s.shape
  obtain ⟨D2, d2, rfl, -⟩ := n_o.shape
  clear HS
  have c_a0 := cl1 X_a
  obtain ⟨c_l0, c_l1, c_l2, c_l3, c_l4⟩ := cl5 X_l
  obtain ⟨c_z0, c_z1, c_z2, c_z3, c_z4⟩ := cl5 X_z
  obtain ⟨c_e0, c_e1, c_e2, c_e3, c_e4, c_e5, c_e6⟩ := cl7 X_e
  obtain ⟨c_s0, c_s1, c_s2⟩ := cl3 X_s
  have fz0 := blk_frozen X_z 0
  have fz1 := blk_frozen X_z 1
  have fz2 := blk_frozen X_z 2
  have fz3 := blk_frozen X_z 3
  have fz4 := blk_frozen X_z 4
  have fl4 := blk_frozen X_l 4
  go_wp2_with fail
  refine (chainOf_c _ l.done _ _ h (fun k hk => by have h3 : k < w.heap.size := hk; have := S9.out; omega)).mono ?_
  rintro q w10 ⟨gc, G, rfl, hge, hch, hb10⟩
  clear c_a0 c_l0 c_l1 c_l2 c_l3 c_l4 c_z0 c_z1 c_z2 c_z3 c_z4 c_e0 c_e1 c_e2 c_e3 c_e4 c_e5 c_e6 c_s0 c_s1 c_s2 fz0 fz1 fz2 fz3 fz4 fl4
  replace HB := bthen HB hb10 HB.size
  replace X_a := below_heap hb10 (blk_lt X_a) X_a
  replace X_l := below_heap hb10 (blk_lt X_l) X_l
  replace X_z := below_heap hb10 (blk_lt X_z) X_z
  replace X_e := below_heap hb10 (blk_lt X_e) X_e
  replace X_s := below_heap hb10 (blk_lt X_s) X_s
  replace n_s := n_s.below hb10
  replace n_o := n_o.below hb10
  replace hA := hA.below hb10
  replace h := h.below hb10
  replace hc := hc.below hb10
  have HGC := hid (show w9.heap.size ≤ gc ∧ gc < w10.heap.size ∧ (∀ j, j < l.done.length → w9.heap.size ≤ G j ∧ G j < w10.heap.size) ∧ w9.heap.size ≤ w10.heap.size from ⟨hge, blk_lt hch.blk, fun j hj => ⟨by have := hch.gt j hj; omega, by obtain ⟨_, _, h9, -⟩ := hch.at_ j hj; exact blk_lt h9⟩, hb10.size⟩)
  clear hb10 hge
  have c_a0 := cl1 X_a
  obtain ⟨c_l0, c_l1, c_l2, c_l3, c_l4⟩ := cl5 X_l
  obtain ⟨c_z0, c_z1, c_z2, c_z3, c_z4⟩ := cl5 X_z
  obtain ⟨c_e0, c_e1, c_e2, c_e3, c_e4, c_e5, c_e6⟩ := cl7 X_e
  obtain ⟨c_s0, c_s1, c_s2⟩ := cl3 X_s
  have fz0 := blk_frozen X_z 0
  have fz1 := blk_frozen X_z 1
  have fz2 := blk_frozen X_z 2
  have fz3 := blk_frozen X_z 3
  have fz4 := blk_frozen X_z 4
  have fl4 := blk_frozen X_l 4
  apply_assumption
  go_upto_region 8 with fail
  refine region_sg [.rd [0, 1, 2, 3, 5], .mid 4, .mid 6] [7, 8] (by kernel_rfl) (by kernel_rfl) (fun _ _ d _ _ h => by cases d <;> exact h) ?_
  refine sg_rd (fun N hN => ?_)
  simp only [pickO, List.getElem?_toArray, List.getElem?_cons_zero, List.getElem?_cons_succ]
  go_wp2_with fail
  refine rd_next (hN _ ?_)
  clear hN N
  refine sg_mid (fun N hN => ?_)
  simp only [pickO, List.getElem?_toArray, List.getElem?_cons_zero, List.getElem?_cons_succ]
  go_wp2_with fail
  have hbd := (Below.refl w10.heap.size w10).drew
  refine (EventSortI_c _ sends _ _ (n_s.rd.below hbd) (by have := hle.out; omega) hwf.out).mono ?_
  rintro q w11 ⟨u1, rfl, o1, hb11⟩
  obtain ⟨E1, e1, rfl, -⟩ := o1.shape
  apply_assumption
  refine mid_next (Agree.of_below hb11) (hN _ _ ?_)
  clear hN
  refine sg_mid (fun N hN => ?_)
  simp only [pickO, List.getElem?_toArray, List.getElem?_cons_zero, List.getElem?_cons_succ]
  go_wp2_with fail
  have hbd2 := bthen' hbd hb11
  refine (OutSortI_c _ outs _ _ (n_o.rd.below hbd2) (by have := hle.out; omega)).mono ?_
  rintro q w12 ⟨u2, rfl, o2, hb12⟩
  obtain ⟨E2, e2, rfl, -⟩ := o2.shape
  have hb12b := bthen hb11 hb12 hb11.size
  apply_assumption
  refine mid_next (Agree.of_below hb12b) (hN _ _ ?_)
  clear hN
  refine sg_fin ?_
  simp only [pickO, List.getElem?_toArray, List.getElem?_cons_zero, List.getElem?_cons_succ]
  have hbE := bthen' hbd hb12b
  have p1 := (o1.below hb12).bound.rd
  have p2 := o2.bound.rd
  have S11 := hid (show w10.heap.size ≤ w11.heap.size from hbd2.size)
  clear hbd hbd2 hb11 hb12 hb12b o1 o2
  clear c_a0 c_l0 c_l1 c_l2 c_l3 c_l4 c_z0 c_z1 c_z2 c_z3 c_z4 c_e0 c_e1 c_e2 c_e3 c_e4 c_e5 c_e6 c_s0 c_s1 c_s2 fz0 fz1 fz2 fz3 fz4 fl4
  replace HB := bthen HB hbE HB.size
  replace X_a := below_heap hbE (blk_lt X_a) X_a
  replace X_l := below_heap hbE (blk_lt X_l) X_l
  replace X_z := below_heap hbE (blk_lt X_z) X_z
  replace X_e := below_heap hbE (blk_lt X_e) X_e
  replace X_s := below_heap hbE (blk_lt X_s) X_s
  replace n_s := n_s.below hbE
  replace n_o := n_o.below hbE
  replace hA := hA.below hbE
  replace h := h.below hbE
  replace hc := hc.below hbE
  have hchE := hch.below hbE
  have S12 := hid hbE.size
  have hchM := hchE.mono (F' := fun k => k < w.heap.size ∨ (w10.heap.size ≤ k ∧ k < w12.heap.size)) (fun k hk => .inl hk) (by have := HGC.out; have := S9.out; rintro (h9 | h9) <;> omega) (fun j hj => by have := HGC.out.2.2.1 j hj; have := S9.out; rintro (h9 | h9) <;> omega) (fun k hk => by have := S9.out; have := HGC.out; have := S12.out; rcases hk with h9 | h9 <;> omega)
  have r1 := p1.mono (F' := fun k => k < w.heap.size ∨ (w10.heap.size ≤ k ∧ k < w12.heap.size)) (fun k hk => .inr ⟨hk.1, hk.2⟩)
  have r2 := p2.mono (F' := fun k => k < w.heap.size ∨ (w10.heap.size ≤ k ∧ k < w12.heap.size)) (fun k hk => .inr ⟨by have h9 : w11.heap.size ≤ k := hk.1; have := S11.out; omega, hk.2⟩)
  clear p1 p2 hch hchE hbE n_s n_o
  have c_a0 := cl1 X_a
  obtain ⟨c_l0, c_l1, c_l2, c_l3, c_l4⟩ := cl5 X_l
  obtain ⟨c_z0, c_z1, c_z2, c_z3, c_z4⟩ := cl5 X_z
  obtain ⟨c_e0, c_e1, c_e2, c_e3, c_e4, c_e5, c_e6⟩ := cl7 X_e
  obtain ⟨c_s0, c_s1, c_s2⟩ := cl3 X_s
  have fz0 := blk_frozen X_z 0
  have fz1 := blk_frozen X_z 1
  have fz2 := blk_frozen X_z 2
  have fz3 := blk_frozen X_z 3
  have fz4 := blk_frozen X_z 4
  have fl4 := blk_frozen X_l 4
  go_wp2_with fail
  refine (chainAdd_c gc w9.heap.size _ l.done G ⟨e, xs, evSort sends, outSort outs⟩ _ _ _ hchM (by have := HGC.out; have := S12.out; omega) HGC.out.1 r1 r2).mono ?_
  rintro q w13 ⟨rfl, ⟨G', hch3⟩, hb13⟩
  clear c_a0 c_l0 c_l1 c_l2 c_l3 c_l4 c_z0 c_z1 c_z2 c_z3 c_z4 c_e0 c_e1 c_e2 c_e3 c_e4 c_e5 c_e6 c_s0 c_s1 c_s2 fz0 fz1 fz2 fz3 fz4 fl4
  replace HB := HB.trans (hb13.mono (by have := S9.out; omega))
  replace X_l := (hb13.block (w.heap.size + 1) (by have := S9.out; omega)).trans X_l
  replace X_z := (hb13.block (w.heap.size + 1 + 1) (by have := S9.out; omega)).trans X_z
  have S13 := hid hb13.size
  clear hb13 hchM r1 r2 X_a X_e X_s hA h hc
  obtain ⟨c_l0, c_l1, c_l2, c_l3, c_l4⟩ := cl5 X_l
  obtain ⟨c_z0, c_z1, c_z2, c_z3, c_z4⟩ := cl5 X_z
  have fz0 := blk_frozen X_z 0
  have fz1 := blk_frozen X_z 1
  have fz2 := blk_frozen X_z 2
  have fz3 := blk_frozen X_z 3
  have fz4 := blk_frozen X_z 4
  have fl4 := blk_frozen X_l 4
  apply_assumption
  go_wp2_with fail
  refine (chainList_c gc _ _ _ _ hch3 (by have := (laneOk_parts qk).2.1; simp; omega)).mono ?_
  rintro q w14 ⟨u, rfl, hu, hb14⟩
  clear c_l0 c_l1 c_l2 c_l3 c_l4 c_z0 c_z1 c_z2 c_z3 c_z4 fz0 fz1 fz2 fz3 fz4 fl4
  replace HB := bthen HB hb14 HB.size
  replace X_l := below_heap hb14 (blk_lt X_l) X_l
  replace X_z := below_heap hb14 (blk_lt X_z) X_z
  clear hb14 hch3
  obtain ⟨xl, hxl⟩ : ∃ xl, l.done ++ [(⟨e, xs, evSort sends, outSort outs⟩ : PastD)] = xl := ⟨_, rfl⟩
  rw [hxl] at hu
  have HXL := hid hxl
  clear hxl
  obtain ⟨U, uc, rfl, -⟩ := hu.shape
  obtain ⟨c_l0, c_l1, c_l2, c_l3, c_l4⟩ := cl5 X_l
  obtain ⟨c_z0, c_z1, c_z2, c_z3, c_z4⟩ := cl5 X_z
  have fz0 := blk_frozen X_z 0
  have fz1 := blk_frozen X_z 1
  have fz2 := blk_frozen X_z 2
  have fz3 := blk_frozen X_z 3
  have fz4 := blk_frozen X_z 4
  have fl4 := blk_frozen X_l 4
  apply_assumption
  go_wp2_with fail
  have HQ : Ch (fun k => k = w.heap.size + 1 ∨ k = w.heap.size + 1 + 1) w14 ((((((w14.setCell ⟨w.heap.size + 1, 4, none⟩ (.slice U xl.length uc)).setCell ⟨w.heap.size + 1 + 1, 0, none⟩ (.int .i64 l.proc)).setCell ⟨w.heap.size + 1 + 1, 1, none⟩ (.int .i64 l.base.x)).setCell ⟨w.heap.size + 1 + 1, 2, none⟩ (.int .i64 l.base.y)).setCell ⟨w.heap.size + 1 + 1, 3, none⟩ (.int .i64 l.base.c)).setCell ⟨w.heap.size + 1 + 1, 4, none⟩ (.slice U xl.length uc)) := (Ch.setCell (p := ⟨w.heap.size + 1 + 1, 4, none⟩) (Ch.setCell (p := ⟨w.heap.size + 1 + 1, 3, none⟩) (Ch.setCell (p := ⟨w.heap.size + 1 + 1, 2, none⟩) (Ch.setCell (p := ⟨w.heap.size + 1 + 1, 1, none⟩) (Ch.setCell (p := ⟨w.heap.size + 1 + 1, 0, none⟩) (Ch.setCell (p := ⟨w.heap.size + 1, 4, none⟩) (Ch.refl (fun k => k = w.heap.size + 1 ∨ k = w.heap.size + 1 + 1) _) (Or.inl (Or.inl rfl)) _) (Or.inl (Or.inr rfl)) _) (Or.inl (Or.inr rfl)) _) (Or.inl (Or.inr rfl)) _) (Or.inl (Or.inr rfl)) _) (Or.inl (Or.inr rfl)) _)
  have BX := (blk_set (blk_set (blk_set (blk_set (blk_set ((Ch.setCell (p := ⟨w.heap.size + 1, 4, none⟩) (Ch.refl (fun k => k = w.heap.size + 1) w14) (Or.inl rfl) (.slice U xl.length uc)).heap X_z (by omega)) 0 (.int .i64 l.proc)) 1 (.int .i64 l.base.x)) 2 (.int .i64 l.base.y)) 3 (.int .i64 l.base.c)) 4 (.slice U xl.length uc))
  simp only [List.setIfInBounds_toArray, List.set_cons_zero, List.set_cons_succ] at BX
  have hb9 := HB.trans (HQ.below (B := w.heap.size) (fun k hk => by omega) HB.size)
  have hrd := (hu.ch HQ (fun k hk e1 => by have := S9.out; have := HGC.out; have := S12.out; have := S13.out; rcases hk with h9 | h9 | h9 <;> omega)).mono (F' := fun k => k < w.heap.size ∨ w.heap.size ≤ k) (fun k hk => Nat.lt_or_ge k w.heap.size)
  generalize ((((((w14.setCell ⟨w.heap.size + 1, 4, none⟩ (.slice U xl.length uc)).setCell ⟨w.heap.size + 1 + 1, 0, none⟩ (.int .i64 l.proc)).setCell ⟨w.heap.size + 1 + 1, 1, none⟩ (.int .i64 l.base.x)).setCell ⟨w.heap.size + 1 + 1, 2, none⟩ (.int .i64 l.base.y)).setCell ⟨w.heap.size + 1 + 1, 3, none⟩ (.int .i64 l.base.c)).setCell ⟨w.heap.size + 1 + 1, 4, none⟩ (.slice U xl.length uc)) = W12 at *
  have s0 : W12.cell? ⟨w.heap.size + 1 + 1, 0, none⟩ = some (.int .i64 l.proc) := blk_cell BX 0
  have s1 : W12.cell? ⟨w.heap.size + 1 + 1, 1, none⟩ = some (.int .i64 l.base.x) := blk_cell BX 1
  have s2 : W12.cell? ⟨w.heap.size + 1 + 1, 2, none⟩ = some (.int .i64 l.base.y) := blk_cell BX 2
  have s3 : W12.cell? ⟨w.heap.size + 1 + 1, 3, none⟩ = some (.int .i64 l.base.c) := blk_cell BX 3
  have s4 : W12.cell? ⟨w.heap.size + 1 + 1, 4, none⟩ = some (.slice U xl.length uc) := blk_cell BX 4
  refine bodyPost_ret (v := .tuple #[.agg #[.int .i64 l.proc, .int .i64 l.base.x, .int .i64 l.base.y, .int .i64 l.base.c, .slice U xl.length uc], .bool true]) (by simp only [results, Tryz.results61]; go_simp) rfl ⟨⟨l.proc, l.base, xl⟩, true, _, (by rw [laneStep_yes HT1.out HE.out, HD.out, HXL.out]), rfl, hrd, hb9⟩
end Go.Proofs.YtbcemldiahghcaaGreat

namespace Go.Proofs.YtbcemldiahghcaaGreat
set_option linter.unusedVariables false
set_option linter.unusedSimpArgs false
set_option maxRecDepth 100000
open Go.RowKit
theorem laneStep_bad {a : AppD} {l : LaneD} {came : List EvD} (h : laneOk l = false) : laneStep a l came = (lane0, false) := by
  unfold laneStep
  rw [if_neg (by rw [h]; simp)]
theorem laneStep_len {a : AppD} {l : LaneD} {came : List EvD} {x : LaneD} {bl : Bool} (h : laneStep a l came = (x, bl)) : x.done.length ≤ 101 ∧ ∀ r ∈ x.done, r.sends.length ≤ 2 ∧ r.outs.length ≤ 2 := by
  cases qk : laneOk l with
  | false => rw [laneStep_bad qk] at h; cases h; exact ⟨by decide, fun r hr => by cases hr⟩
  | true =>
    obtain ⟨-, hl, hp⟩ := laneOk_parts qk
    have hl2 : l.done.length ≤ 101 ∧ ∀ r ∈ l.done, r.sends.length ≤ 2 ∧ r.outs.length ≤ 2 := ⟨by omega, fun r hr => (pastOk_parts (hp r hr)).2.2⟩
    have hdo : ∀ e, (laneDo a l e).done.length ≤ 101 ∧ ∀ r ∈ (laneDo a l e).done, r.sends.length ≤ 2 ∧ r.outs.length ≤ 2 := fun e => by
      have h9 := appRun_good a (laneNow l) e
      refine ⟨by simp only [laneDo, List.length_append, List.length_cons, List.length_nil]; omega, fun r hr => ?_⟩
      simp only [laneDo, List.mem_append, List.mem_cons, List.not_mem_nil, or_false] at hr
      rcases hr with hr | rfl
      · exact hl2.2 r hr
      · exact ⟨Nat.le_trans (evSort_le _) h9.2.2.1, by show (outSort _).length ≤ 2; rw [outSort_len]; exact h9.2.2.2.1⟩
    unfold laneStep at h
    rw [if_pos qk] at h
    split at h
    · split at h
      · cases h; exact hdo _
      · cases h; exact hl2
    · cases h; exact hl2
def LanePost (a : AppD) (l : LaneD) (came : List EvD) (w : World) (q : Ending) (w' : World) : Prop :=
  ∃ (x : LaneD) (bl : Bool) (u : Value), laneStep a l came = (x, bl) ∧ q = .returned (.tuple #[.agg #[.int .i64 x.proc, .int .i64 x.base.x, .int .i64 x.base.y, .int .i64 x.base.c, u], .bool bl]) ∧ Ow oPast 98 w' (fun k => w.heap.size ≤ k) u x.done ∧ Below w.heap.size w w'
set_option maxHeartbeats 1000000 in
theorem LaneStepI_c (a : AppD) (l : LaneD) (came : List EvD) (va v vc : Value) (F : Nat → Prop) (w : World) (hA0 : Rd tRule w F va a.rules) (h0 : Rd tPast w F v l.done) (hc0 : Rd tEv w F vc came) :
    Calls Tryz.prog 22 #[.agg #[va], .agg #[.int .i64 l.proc, .int .i64 l.base.x, .int .i64 l.base.y, .int .i64 l.base.c, v], vc] w (LanePost a l came w) := by
  have hA := hA0.bound.mono (F' := fun k => k < w.heap.size) (fun k hk => hk.2)
  have h := h0.bound.mono (F' := fun k => k < w.heap.size) (fun k hk => hk.2)
  have hc := hc0.bound.mono (F' := fun k => k < w.heap.size) (fun k hk => hk.2)
  clear hA0 h0 hc0
  obtain ⟨A1, c1, rfl, -⟩ := hA.shape
  obtain ⟨A, c, rfl, -⟩ := h.shape
  obtain ⟨C, cc, rfl, -⟩ := hc.shape
  go_enter Tryz.func22, Tryz.ntmps22
  go_wp2_with fail
  have HB : Below w.heap.size w (((w.alloc (.cells #[.slice A1 a.rules.length c1] 57)).alloc (.cells #[.int .i64 l.proc, .int .i64 l.base.x, .int .i64 l.base.y, .int .i64 l.base.c, .slice A l.done.length c] 52)).alloc (.cells #[.int .i64 0, .int .i64 0, .int .i64 0, .int .i64 0, .slice none 0 0] 52)) := balloc (balloc (balloc (Below.refl _ _) _) _) _
  have X_a : (((w.alloc (.cells #[.slice A1 a.rules.length c1] 57)).alloc (.cells #[.int .i64 l.proc, .int .i64 l.base.x, .int .i64 l.base.y, .int .i64 l.base.c, .slice A l.done.length c] 52)).alloc (.cells #[.int .i64 0, .int .i64 0, .int .i64 0, .int .i64 0, .slice none 0 0] 52)).heap[w.heap.size]? = some (.cells #[.slice A1 a.rules.length c1] 57 (0, 0)) := (heap_old (by simp only [World.size_alloc]; omega)).trans ((heap_old (by simp)).trans (heap_at rfl))
  have X_l : (((w.alloc (.cells #[.slice A1 a.rules.length c1] 57)).alloc (.cells #[.int .i64 l.proc, .int .i64 l.base.x, .int .i64 l.base.y, .int .i64 l.base.c, .slice A l.done.length c] 52)).alloc (.cells #[.int .i64 0, .int .i64 0, .int .i64 0, .int .i64 0, .slice none 0 0] 52)).heap[w.heap.size + 1]? = some (.cells #[.int .i64 l.proc, .int .i64 l.base.x, .int .i64 l.base.y, .int .i64 l.base.c, .slice A l.done.length c] 52 (0, 0)) := (heap_old (by simp)).trans (heap_at (by simp))
  have X_z : (((w.alloc (.cells #[.slice A1 a.rules.length c1] 57)).alloc (.cells #[.int .i64 l.proc, .int .i64 l.base.x, .int .i64 l.base.y, .int .i64 l.base.c, .slice A l.done.length c] 52)).alloc (.cells #[.int .i64 0, .int .i64 0, .int .i64 0, .int .i64 0, .slice none 0 0] 52)).heap[w.heap.size + 1 + 1]? = some (.cells #[.int .i64 0, .int .i64 0, .int .i64 0, .int .i64 0, .slice none 0 0] 52 (0, 0)) := heap_at (by simp)
  generalize ((w.alloc (.cells #[.slice A1 a.rules.length c1] 57)).alloc (.cells #[.int .i64 l.proc, .int .i64 l.base.x, .int .i64 l.base.y, .int .i64 l.base.c, .slice A l.done.length c] 52)).alloc (.cells #[.int .i64 0, .int .i64 0, .int .i64 0, .int .i64 0, .slice none 0 0] 52) = W at *
  replace hA := hA.below HB
  replace h := h.below HB
  replace hc := hc.below HB
  have c_a0 := cl1 X_a
  obtain ⟨c_l0, c_l1, c_l2, c_l3, c_l4⟩ := cl5 X_l
  obtain ⟨c_z0, c_z1, c_z2, c_z3, c_z4⟩ := cl5 X_z
  have fz0 := blk_frozen X_z 0
  have fz1 := blk_frozen X_z 1
  have fz2 := blk_frozen X_z 2
  have fz3 := blk_frozen X_z 3
  have fz4 := blk_frozen X_z 4
  refine (LaneOkI_c l _ _ _ h).mono ?_
  rintro q w1 ⟨rfl, hb1⟩
  clear c_a0 c_l0 c_l1 c_l2 c_l3 c_l4 c_z0 c_z1 c_z2 c_z3 c_z4 fz0 fz1 fz2 fz3 fz4
  replace HB := bthen HB hb1 HB.size
  replace X_a := below_heap hb1 (blk_lt X_a) X_a
  replace X_l := below_heap hb1 (blk_lt X_l) X_l
  replace X_z := below_heap hb1 (blk_lt X_z) X_z
  replace hA := hA.below hb1
  replace h := h.below hb1
  replace hc := hc.below hb1
  clear hb1
  obtain ⟨t1, ht⟩ : ∃ t, laneOk l = t := ⟨_, rfl⟩
  have HT1 := hid ht
  rw [ht]
  clear ht
  have c_a0 := cl1 X_a
  obtain ⟨c_l0, c_l1, c_l2, c_l3, c_l4⟩ := cl5 X_l
  obtain ⟨c_z0, c_z1, c_z2, c_z3, c_z4⟩ := cl5 X_z
  have fz0 := blk_frozen X_z 0
  have fz1 := blk_frozen X_z 1
  have fz2 := blk_frozen X_z 2
  have fz3 := blk_frozen X_z 3
  have fz4 := blk_frozen X_z 4
  apply_assumption
  cases t1
  case false =>
    have HF := hid (laneStep_bad (a := a) (came := came) HT1.out)
    go_wp2_with fail
    have HQ : Ch (fun k => k = w.heap.size + 1 + 1) w1 (((((w1.setCell ⟨w.heap.size + 1 + 1, 0, none⟩ (.int .i64 0)).setCell ⟨w.heap.size + 1 + 1, 1, none⟩ (.int .i64 0)).setCell ⟨w.heap.size + 1 + 1, 2, none⟩ (.int .i64 0)).setCell ⟨w.heap.size + 1 + 1, 3, none⟩ (.int .i64 0)).setCell ⟨w.heap.size + 1 + 1, 4, none⟩ (.slice none 0 0)) := (Ch.setCell (p := ⟨w.heap.size + 1 + 1, 4, none⟩) (Ch.setCell (p := ⟨w.heap.size + 1 + 1, 3, none⟩) (Ch.setCell (p := ⟨w.heap.size + 1 + 1, 2, none⟩) (Ch.setCell (p := ⟨w.heap.size + 1 + 1, 1, none⟩) (Ch.setCell (p := ⟨w.heap.size + 1 + 1, 0, none⟩) (Ch.refl (fun k => k = w.heap.size + 1 + 1) _) (Or.inl rfl) _) (Or.inl rfl) _) (Or.inl rfl) _) (Or.inl rfl) _) (Or.inl rfl) _)
    have BX := (blk_set (blk_set (blk_set (blk_set (blk_set X_z 0 (.int .i64 0)) 1 (.int .i64 0)) 2 (.int .i64 0)) 3 (.int .i64 0)) 4 (.slice none 0 0))
    simp only [List.setIfInBounds_toArray, List.set_cons_zero, List.set_cons_succ] at BX
    have hb9 := HB.trans (HQ.below (B := w.heap.size) (fun k hk => by omega) HB.size)
    have hrd := Ow.nil oPast 98 (((((w1.setCell ⟨w.heap.size + 1 + 1, 0, none⟩ (.int .i64 0)).setCell ⟨w.heap.size + 1 + 1, 1, none⟩ (.int .i64 0)).setCell ⟨w.heap.size + 1 + 1, 2, none⟩ (.int .i64 0)).setCell ⟨w.heap.size + 1 + 1, 3, none⟩ (.int .i64 0)).setCell ⟨w.heap.size + 1 + 1, 4, none⟩ (.slice none 0 0)) (fun k => w.heap.size ≤ k)
    generalize (((((w1.setCell ⟨w.heap.size + 1 + 1, 0, none⟩ (.int .i64 0)).setCell ⟨w.heap.size + 1 + 1, 1, none⟩ (.int .i64 0)).setCell ⟨w.heap.size + 1 + 1, 2, none⟩ (.int .i64 0)).setCell ⟨w.heap.size + 1 + 1, 3, none⟩ (.int .i64 0)).setCell ⟨w.heap.size + 1 + 1, 4, none⟩ (.slice none 0 0)) = W12 at *
    obtain ⟨s0, s1, s2, s3, s4⟩ := cl5 BX
    refine bodyPost_ret (v := .tuple #[.agg #[.int .i64 0, .int .i64 0, .int .i64 0, .int .i64 0, .slice none 0 0], .bool false]) (by simp only [results, Tryz.results22]; go_simp) rfl ⟨lane0, false, _, HF.out, rfl, hrd, hb9⟩
  go_wp2_with fail
  have S1 := hid (show w.heap.size ≤ w1.heap.size from HB.size)
  refine (laneStepI_c a l came _ _ _ _ (hA.mono (fun k hk => by have h3 : k < w.heap.size := hk; have := S1.out; show k < w1.heap.size; omega)) (h.mono (fun k hk => by have h3 : k < w.heap.size := hk; have := S1.out; show k < w1.heap.size; omega)) (hc.mono (fun k hk => by have h3 : k < w.heap.size := hk; have := S1.out; show k < w1.heap.size; omega)) HT1.out).mono ?_
  rintro q w2 ⟨x, bl, u, hx, rfl, hu, hb2⟩
  obtain ⟨U, uc, rfl, -⟩ := hu.shape
  clear c_a0 c_l0 c_l1 c_l2 c_l3 c_l4 c_z0 c_z1 c_z2 c_z3 c_z4 fz0 fz1 fz2 fz3 fz4
  replace HB := bthen HB hb2 HB.size
  replace X_a := below_heap hb2 (blk_lt X_a) X_a
  replace X_l := below_heap hb2 (blk_lt X_l) X_l
  replace X_z := below_heap hb2 (blk_lt X_z) X_z
  clear hb2 hA h hc
  have HX := hid hx
  have hlen := hid (laneStep_len hx)
  clear hx
  have c_a0 := cl1 X_a
  obtain ⟨c_l0, c_l1, c_l2, c_l3, c_l4⟩ := cl5 X_l
  obtain ⟨c_z0, c_z1, c_z2, c_z3, c_z4⟩ := cl5 X_z
  have fz0 := blk_frozen X_z 0
  have fz1 := blk_frozen X_z 1
  have fz2 := blk_frozen X_z 2
  have fz3 := blk_frozen X_z 3
  have fz4 := blk_frozen X_z 4
  apply_assumption
  go_upto_region 4 with fail
  clear c_a0 c_l0 c_l1 c_l2 c_l3 c_l4 c_z0 c_z1 c_z2 c_z3 c_z4 fz0 fz1 fz2 fz3 fz4
  have hbx := balloc (Below.refl w2.heap.size w2) (.cells #[.int .i64 x.proc, .int .i64 x.base.x, .int .i64 x.base.y, .int .i64 x.base.c, .slice U x.done.length uc] 52)
  have X_x : (w2.alloc (.cells #[.int .i64 x.proc, .int .i64 x.base.x, .int .i64 x.base.y, .int .i64 x.base.c, .slice U x.done.length uc] 52)).heap[w2.heap.size]? = some (.cells #[.int .i64 x.proc, .int .i64 x.base.x, .int .i64 x.base.y, .int .i64 x.base.c, .slice U x.done.length uc] 52 (0, 0)) := heap_at rfl
  replace HB := bthen HB hbx HB.size
  replace X_a := below_heap hbx (blk_lt X_a) X_a
  replace X_l := below_heap hbx (blk_lt X_l) X_l
  replace X_z := below_heap hbx (blk_lt X_z) X_z
  replace hu := hu.below hbx
  obtain ⟨gx, hg⟩ : ∃ g, g = w2.heap.size := ⟨_, rfl⟩
  rw [← hg] at X_x
  simp only [← hg]
  generalize w2.alloc (.cells #[.int .i64 x.proc, .int .i64 x.base.x, .int .i64 x.base.y, .int .i64 x.base.c, .slice U x.done.length uc] 52) = W4 at *
  clear hg hbx
  have c_a0 := cl1 X_a
  obtain ⟨c_l0, c_l1, c_l2, c_l3, c_l4⟩ := cl5 X_l
  obtain ⟨c_z0, c_z1, c_z2, c_z3, c_z4⟩ := cl5 X_z
  obtain ⟨c_x0, c_x1, c_x2, c_x3, c_x4⟩ := cl5 X_x
  have fz0 := blk_frozen X_z 0
  have fz1 := blk_frozen X_z 1
  have fz2 := blk_frozen X_z 2
  have fz3 := blk_frozen X_z 3
  have fz4 := blk_frozen X_z 4
  go_wp2_with fail
  have S4 := hid (show w.heap.size + 1 + 1 < W4.heap.size from blk_lt X_z)
  refine (copyLane_c x _ _ _ hu (by have := hlen.out.1; omega) (fun r hr => by have := hlen.out.2 r hr; omega)).mono ?_
  rintro q w5 ⟨u5, rfl, n5, hb5⟩
  obtain ⟨V, vc5, rfl, -⟩ := n5.shape
  clear c_a0 c_l0 c_l1 c_l2 c_l3 c_l4 c_z0 c_z1 c_z2 c_z3 c_z4 c_x0 c_x1 c_x2 c_x3 c_x4 fz0 fz1 fz2 fz3 fz4
  replace HB := bthen HB hb5 HB.size
  replace X_a := below_heap hb5 (blk_lt X_a) X_a
  replace X_l := below_heap hb5 (blk_lt X_l) X_l
  replace X_z := below_heap hb5 (blk_lt X_z) X_z
  replace X_x := below_heap hb5 (blk_lt X_x) X_x
  clear hb5 hu
  have c_a0 := cl1 X_a
  obtain ⟨c_l0, c_l1, c_l2, c_l3, c_l4⟩ := cl5 X_l
  obtain ⟨c_z0, c_z1, c_z2, c_z3, c_z4⟩ := cl5 X_z
  obtain ⟨c_x0, c_x1, c_x2, c_x3, c_x4⟩ := cl5 X_x
  have fz0 := blk_frozen X_z 0
  have fz1 := blk_frozen X_z 1
  have fz2 := blk_frozen X_z 2
  have fz3 := blk_frozen X_z 3
  have fz4 := blk_frozen X_z 4
  apply_assumption
  go_wp2_with fail
  have HQ : Ch (fun k => k = w.heap.size + 1 + 1) w5 (((((w5.setCell ⟨w.heap.size + 1 + 1, 0, none⟩ (.int .i64 x.proc)).setCell ⟨w.heap.size + 1 + 1, 1, none⟩ (.int .i64 x.base.x)).setCell ⟨w.heap.size + 1 + 1, 2, none⟩ (.int .i64 x.base.y)).setCell ⟨w.heap.size + 1 + 1, 3, none⟩ (.int .i64 x.base.c)).setCell ⟨w.heap.size + 1 + 1, 4, none⟩ (.slice V x.done.length vc5)) := (Ch.setCell (p := ⟨w.heap.size + 1 + 1, 4, none⟩) (Ch.setCell (p := ⟨w.heap.size + 1 + 1, 3, none⟩) (Ch.setCell (p := ⟨w.heap.size + 1 + 1, 2, none⟩) (Ch.setCell (p := ⟨w.heap.size + 1 + 1, 1, none⟩) (Ch.setCell (p := ⟨w.heap.size + 1 + 1, 0, none⟩) (Ch.refl (fun k => k = w.heap.size + 1 + 1) _) (Or.inl rfl) _) (Or.inl rfl) _) (Or.inl rfl) _) (Or.inl rfl) _) (Or.inl rfl) _)
  have BX := (blk_set (blk_set (blk_set (blk_set (blk_set X_z 0 (.int .i64 x.proc)) 1 (.int .i64 x.base.x)) 2 (.int .i64 x.base.y)) 3 (.int .i64 x.base.c)) 4 (.slice V x.done.length vc5))
  simp only [List.setIfInBounds_toArray, List.set_cons_zero, List.set_cons_succ] at BX
  have hb9 := HB.trans (HQ.below (B := w.heap.size) (fun k hk => by omega) HB.size)
  have hrd := (n5.ch HQ (fun k hk e1 => by have h3 : W4.heap.size ≤ k := hk; have := S4.out; omega)).mono (F' := fun k => w.heap.size ≤ k) (fun k hk => by have h3 : W4.heap.size ≤ k := hk; have := S4.out; show w.heap.size ≤ k; omega)
  generalize (((((w5.setCell ⟨w.heap.size + 1 + 1, 0, none⟩ (.int .i64 x.proc)).setCell ⟨w.heap.size + 1 + 1, 1, none⟩ (.int .i64 x.base.x)).setCell ⟨w.heap.size + 1 + 1, 2, none⟩ (.int .i64 x.base.y)).setCell ⟨w.heap.size + 1 + 1, 3, none⟩ (.int .i64 x.base.c)).setCell ⟨w.heap.size + 1 + 1, 4, none⟩ (.slice V x.done.length vc5)) = W12 at *
  obtain ⟨s0, s1, s2, s3, s4⟩ := cl5 BX
  refine bodyPost_ret (v := .tuple #[.agg #[.int .i64 x.proc, .int .i64 x.base.x, .int .i64 x.base.y, .int .i64 x.base.c, .slice V x.done.length vc5], .bool bl]) (by simp only [results, Tryz.results22]; go_simp) rfl ⟨x, bl, _, HX.out, rfl, hrd, hb9⟩
end Go.Proofs.YtbcemldiahghcaaGreat
