/- Texts joined: Ezg, Lt. -/
import Derived.Test.YtbcemldiahghcaaGreatK29
import Derived.Test.YtbcemldiahghcaaGreatK30
import Derived.Test.YtbcemldiahghcaaGreatK09
import Derived.Test.YtbcemldiahghcaaGreatK26
import Derived.Test.YtbcemldiahghcaaGreatK03
namespace Go.Proofs.YtbcemldiahghcaaGreat
set_option linter.unusedVariables false
set_option linter.unusedSimpArgs false
set_option maxRecDepth 100000
open Go.RowKit
def app0 : AppD := ⟨[]⟩
theorem four_ok (a : AppD) : appsOk [a, app0, app0, app0] = appOk a := by
  have h0 : appOk app0 = true := by decide
  simp only [appsOk, List.length_cons, List.length_nil, List.all_cons, List.all_nil, h0, Bool.and_true]
  rfl
theorem rd_four {w : World} {g : Nat} {v : Value} {a : AppD} {F : Nat → Prop} {t : TypeId} (hb : w.heap[g]? = some (.cells #[v, .slice none 0 0, .slice none 0 0, .slice none 0 0] t (0, 0))) (h : Rd tRule w F v a.rules) : Rd tApp w (fun k => F k ∨ k = g) (.slice (some ⟨g, 0, none⟩) 4 4) [a, app0, app0, app0] := by
  refine ⟨some ⟨g, 0, none⟩, 4, rfl, Nat.le_refl _, by simp, fun _ => ⟨g, 0, rfl, .inr rfl, blk_lt hb, fun j x hj => ?_⟩⟩
  match j, hj with
  | 0, hj =>
    obtain rfl : a = x := by simpa using hj
    exact ⟨[v], ⟨v, rfl, h.mono (fun k hk => .inl hk)⟩, fun i u hi => by
      match i, hi with
      | 0, hi => obtain rfl : v = u := by simpa using hi
                 exact blk_cell hb 0⟩
  | 1, hj =>
    obtain rfl : app0 = x := by simpa using hj
    exact ⟨[.slice none 0 0], ⟨_, rfl, Rd.nil _ _ _⟩, fun i u hi => by
      match i, hi with
      | 0, hi => obtain rfl : Value.slice none 0 0 = u := by simpa using hi
                 exact blk_cell hb 1⟩
  | 2, hj =>
    obtain rfl : app0 = x := by simpa using hj
    exact ⟨[.slice none 0 0], ⟨_, rfl, Rd.nil _ _ _⟩, fun i u hi => by
      match i, hi with
      | 0, hi => obtain rfl : Value.slice none 0 0 = u := by simpa using hi
                 exact blk_cell hb 2⟩
  | 3, hj =>
    obtain rfl : app0 = x := by simpa using hj
    exact ⟨[.slice none 0 0], ⟨_, rfl, Rd.nil _ _ _⟩, fun i u hi => by
      match i, hi with
      | 0, hi => obtain rfl : Value.slice none 0 0 = u := by simpa using hi
                 exact blk_cell hb 3⟩
  | j + 4, hj => simp at hj
theorem runY_call (v : Value) (a : AppD) (s : StD) (e : EvD) (F : Nat → Prop) (w : World) (h : Rd tRule w F v a.rules) {xs : StD} {sends : List EvD} {outs : List OutD} (hr : appRun a s e = (xs, sends, outs)) :
    Calls Tryz.prog 52 #[.agg #[v], .agg #[.int .i64 s.x, .int .i64 s.y, .int .i64 s.c], .agg #[.int .i64 e.time, .int .i64 e.to, .int .i64 e.from_, .int .i64 e.count, .int .i64 e.n, .int .i64 e.kind, .int .i64 e.arg]] w fun q w' => ∃ sv ov, q = .returned (.tuple #[stAgg3 xs, sv, ov]) ∧ Ow tEv 80 w' (fun k => w.heap.size ≤ k) sv sends ∧ Ow tOut 128 w' (fun k => w.heap.size ≤ k) ov outs ∧ Below w.heap.size w w' := by
  refine (specAppRun_c v a s e F w h).mono ?_
  rintro q w' ⟨sv, ov, h1, h2, h3, h4⟩
  rw [hr] at h1 h2 h3
  exact ⟨sv, ov, h1, h2, h3, h4⟩
theorem laneStep_none {a : AppD} {l : LaneD} {came : List EvD} (h : nextE l came = none ∨ appOk a = false) : laneStep a l came = if laneOk l = true then (l, false) else (lane0, false) := by
  cases qk : laneOk l with
  | false => rw [laneStep_bad qk]; rfl
  | true =>
    rw [if_pos rfl]
    rcases h with h | h
    · exact laneStep_no qk (.inr (.inr h))
    · exact laneStep_no qk (.inr (.inl h))
def zsN (l : LaneD) (xs : StD) (sends : List EvD) (outs : List OutD) : List HeldD :=
  [(4, [], fun _ v w F => ∃ sv ov, v = .tuple #[stAgg3 xs, sv, ov] ∧ Ow tEv 80 w F sv sends ∧ Ow tOut 128 w F ov outs),
   (9, [], fun _ v w F => ∃ g, v = .pointer (some ⟨g, 0, none⟩) ∧ F g ∧ w.heap[g]? = some (.cells #[.int .i64 0, .int .i64 0, .int .i64 0] 49 (0, 0))),
   (10, [9], fun ds _ w F => ∃ g, ds = [.pointer (some ⟨g, 0, none⟩)] ∧ F g ∧ w.heap[g]? = some (.cells #[.int .i64 xs.x, .int .i64 xs.y, .int .i64 xs.c] 49 (0, 0)))]
theorem zsN_moves (l : LaneD) (xs : StD) (sends : List EvD) (outs : List OutD) : MovesDL (zsN l xs sends outs) :=
  ⟨fun ds v w w' F ⟨sv, ov, h1, h2, h3⟩ hm => ⟨sv, ov, h1, Ow.move hm h2, Ow.move hm h3⟩, fun ds v w w' F ⟨g, h1, h2, h3⟩ hm => ⟨g, h1, h2, (hm g h2).trans h3⟩, fun ds v w w' F ⟨g, h1, h2, h3⟩ hm => ⟨g, h1, h2, (hm g h2).trans h3⟩, trivial⟩
def zsP (l : LaneD) (xs : StD) (sends : List EvD) (outs : List OutD) : List Known := [(2, [], fun _ v => v = .agg #[.int .i64 (laneNow l).x, .int .i64 (laneNow l).y, .int .i64 (laneNow l).c]), (4, [], fun _ v => tup3 (stAgg3 xs) v), (5, [4], fun ds v => ds = [v] ∧ tup3 (stAgg3 xs) v), (6, [5], fun _ v => v = stAgg3 xs), (7, [5], fun ds v => ∀ a b c, ds = [.tuple #[a, b, c]] → v = b), (8, [5], fun ds v => ∀ a b c, ds = [.tuple #[a, b, c]] → v = c), (11, [7], fun ds v => ds = [v]), (12, [8], fun ds v => ds = [v])]
set_option maxHeartbeats 2000000 in
theorem LaneStepS_c (a : AppD) (l : LaneD) (came : List EvD) (va v vc : Value) (F : Nat → Prop) (w : World) (hA : Rd tRule w F va a.rules) (h : Rd tPast w F v l.done) (hc : Rd tEv w F vc came) :
    Calls Tryz.prog 18 #[.agg #[va], .agg #[.int .i64 l.proc, .int .i64 l.base.x, .int .i64 l.base.y, .int .i64 l.base.c, v], vc] w (LanePost a l came w) := by
  obtain ⟨A1, c1, rfl, -⟩ := hA.shape
  obtain ⟨A, c, rfl, -⟩ := h.shape
  obtain ⟨C, cc, rfl, -⟩ := hc.shape
  go_enter Tryz.func18, Tryz.ntmps18
  go_wp2_with fail
  have HB : Below w.heap.size w (((w.alloc (.cells #[.slice A1 a.rules.length c1] 57)).alloc (.cells #[.int .i64 l.proc, .int .i64 l.base.x, .int .i64 l.base.y, .int .i64 l.base.c, .slice A l.done.length c] 52)).alloc (.cells #[.int .i64 0, .int .i64 0, .int .i64 0, .int .i64 0, .slice none 0 0] 52)) := balloc (balloc (balloc (Below.refl _ _) _) _) _
  have X_a : (((w.alloc (.cells #[.slice A1 a.rules.length c1] 57)).alloc (.cells #[.int .i64 l.proc, .int .i64 l.base.x, .int .i64 l.base.y, .int .i64 l.base.c, .slice A l.done.length c] 52)).alloc (.cells #[.int .i64 0, .int .i64 0, .int .i64 0, .int .i64 0, .slice none 0 0] 52)).heap[w.heap.size]? = some (.cells #[.slice A1 a.rules.length c1] 57 (0, 0)) := (heap_old (by simp only [World.size_alloc]; omega)).trans ((heap_old (by simp)).trans (heap_at rfl))
  have X_l : (((w.alloc (.cells #[.slice A1 a.rules.length c1] 57)).alloc (.cells #[.int .i64 l.proc, .int .i64 l.base.x, .int .i64 l.base.y, .int .i64 l.base.c, .slice A l.done.length c] 52)).alloc (.cells #[.int .i64 0, .int .i64 0, .int .i64 0, .int .i64 0, .slice none 0 0] 52)).heap[w.heap.size + 1]? = some (.cells #[.int .i64 l.proc, .int .i64 l.base.x, .int .i64 l.base.y, .int .i64 l.base.c, .slice A l.done.length c] 52 (0, 0)) := (heap_old (by simp)).trans (heap_at (by simp))
  have X_z : (((w.alloc (.cells #[.slice A1 a.rules.length c1] 57)).alloc (.cells #[.int .i64 l.proc, .int .i64 l.base.x, .int .i64 l.base.y, .int .i64 l.base.c, .slice A l.done.length c] 52)).alloc (.cells #[.int .i64 0, .int .i64 0, .int .i64 0, .int .i64 0, .slice none 0 0] 52)).heap[w.heap.size + 1 + 1]? = some (.cells #[.int .i64 0, .int .i64 0, .int .i64 0, .int .i64 0, .slice none 0 0] 52 (0, 0)) := heap_at (by simp)
  generalize ((w.alloc (.cells #[.slice A1 a.rules.length c1] 57)).alloc (.cells #[.int .i64 l.proc, .int .i64 l.base.x, .int .i64 l.base.y, .int .i64 l.base.c, .slice A l.done.length c] 52)).alloc (.cells #[.int .i64 0, .int .i64 0, .int .i64 0, .int .i64 0, .slice none 0 0] 52) = W at *
  replace hA := hA.below HB
  replace h := h.below HB
  replace hc := hc.below HB
  have c_a0 := cl1 X_a
  obtain ⟨c_l0, c_l1, c_l2, c_l3, c_l4⟩ := cl5 X_l
  obtain ⟨c_z0, c_z1, c_z2, c_z3, c_z4⟩ := cl5 X_z
  have fz0 := blk_frozen X_z 0
  have fz1 := blk_frozen X_z 1
  have fz2 := blk_frozen X_z 2
  have fz3 := blk_frozen X_z 3
  have fz4 := blk_frozen X_z 4
  refine (LaneNext_c l _ _ came _ _ _ h hc).mono ?_
  rintro q w3 ⟨e, bl, rfl, he1, he2, hb3⟩
  clear c_a0 c_l0 c_l1 c_l2 c_l3 c_l4 c_z0 c_z1 c_z2 c_z3 c_z4 fz0 fz1 fz2 fz3 fz4
  replace HB := bthen HB hb3 HB.size
  replace X_a := below_heap hb3 (blk_lt X_a) X_a
  replace X_l := below_heap hb3 (blk_lt X_l) X_l
  replace X_z := below_heap hb3 (blk_lt X_z) X_z
  replace hA := hA.below hb3
  replace h := h.below hb3
  replace hc := hc.below hb3
  clear hb3
  have c_a0 := cl1 X_a
  obtain ⟨c_l0, c_l1, c_l2, c_l3, c_l4⟩ := cl5 X_l
  obtain ⟨c_z0, c_z1, c_z2, c_z3, c_z4⟩ := cl5 X_z
  have fz0 := blk_frozen X_z 0
  have fz1 := blk_frozen X_z 1
  have fz2 := blk_frozen X_z 2
  have fz3 := blk_frozen X_z 3
  have fz4 := blk_frozen X_z 4
  apply_assumption
  go_upto_region 2 with fail
  clear c_a0 c_l0 c_l1 c_l2 c_l3 c_l4 c_z0 c_z1 c_z2 c_z3 c_z4 fz0 fz1 fz2 fz3 fz4
  have hbx := balloc (Below.refl w3.heap.size w3) (.cells #[.int .i64 e.time, .int .i64 e.to, .int .i64 e.from_, .int .i64 e.count, .int .i64 e.n, .int .i64 e.kind, .int .i64 e.arg] 80)
  have X_e : (w3.alloc (.cells #[.int .i64 e.time, .int .i64 e.to, .int .i64 e.from_, .int .i64 e.count, .int .i64 e.n, .int .i64 e.kind, .int .i64 e.arg] 80)).heap[w3.heap.size]? = some (.cells #[.int .i64 e.time, .int .i64 e.to, .int .i64 e.from_, .int .i64 e.count, .int .i64 e.n, .int .i64 e.kind, .int .i64 e.arg] 80 (0, 0)) := heap_at rfl
  replace HB := bthen HB hbx HB.size
  replace X_a := below_heap hbx (blk_lt X_a) X_a
  replace X_l := below_heap hbx (blk_lt X_l) X_l
  replace X_z := below_heap hbx (blk_lt X_z) X_z
  replace hA := hA.below hbx
  replace h := h.below hbx
  replace hc := hc.below hbx
  obtain ⟨gE, hg⟩ : ∃ g, g = w3.heap.size := ⟨_, rfl⟩
  rw [← hg] at X_e
  simp only [← hg]
  generalize w3.alloc (.cells #[.int .i64 e.time, .int .i64 e.to, .int .i64 e.from_, .int .i64 e.count, .int .i64 e.n, .int .i64 e.kind, .int .i64 e.arg] 80) = W4 at *
  clear hg hbx
  have c_a0 := cl1 X_a
  obtain ⟨c_l0, c_l1, c_l2, c_l3, c_l4⟩ := cl5 X_l
  obtain ⟨c_z0, c_z1, c_z2, c_z3, c_z4⟩ := cl5 X_z
  obtain ⟨c_e0, c_e1, c_e2, c_e3, c_e4, c_e5, c_e6⟩ := cl7 X_e
  have fz0 := blk_frozen X_z 0
  have fz1 := blk_frozen X_z 1
  have fz2 := blk_frozen X_z 2
  have fz3 := blk_frozen X_z 3
  have fz4 := blk_frozen X_z 4
  cases bl
  case false =>
    have HN := hid (laneStep_none (a := a) (l := l) (came := came) (.inl (he2 rfl)))
    clear he1 he2
    go_wp2_with fail
    refine (LaneOk_c l _ _ _ h).mono ?_
    rintro q v1 ⟨rfl, hbo⟩
    replace HB := bthen HB hbo HB.size
    replace X_l := below_heap hbo (blk_lt X_l) X_l
    replace X_z := below_heap hbo (blk_lt X_z) X_z
    replace h := h.below hbo
    clear hbo X_a X_e hA hc
    obtain ⟨ck0, ck1, ck2, ck3, ck4⟩ := cl5 X_l
    obtain ⟨cz0, cz1, cz2, cz3, cz4⟩ := cl5 X_z
    have gz0 := blk_frozen X_z 0
    have gz1 := blk_frozen X_z 1
    have gz2 := blk_frozen X_z 2
    have gz3 := blk_frozen X_z 3
    have gz4 := blk_frozen X_z 4
    obtain ⟨t9, ht⟩ : ∃ t, laneOk l = t := ⟨_, rfl⟩
    have HT9 := hid ht
    rw [ht]
    clear ht
    apply_assumption
    cases t9
    case false =>
      have HF := hid (show laneStep a l came = (lane0, false) by rw [HN.out, HT9.out]; rfl)
      go_wp2_with fail
      have HQ : Ch (fun k => k = w.heap.size + 1 + 1) v1 (((((v1.setCell ⟨w.heap.size + 1 + 1, 0, none⟩ (.int .i64 0)).setCell ⟨w.heap.size + 1 + 1, 1, none⟩ (.int .i64 0)).setCell ⟨w.heap.size + 1 + 1, 2, none⟩ (.int .i64 0)).setCell ⟨w.heap.size + 1 + 1, 3, none⟩ (.int .i64 0)).setCell ⟨w.heap.size + 1 + 1, 4, none⟩ (.slice none 0 0)) := (Ch.setCell (p := ⟨w.heap.size + 1 + 1, 4, none⟩) (Ch.setCell (p := ⟨w.heap.size + 1 + 1, 3, none⟩) (Ch.setCell (p := ⟨w.heap.size + 1 + 1, 2, none⟩) (Ch.setCell (p := ⟨w.heap.size + 1 + 1, 1, none⟩) (Ch.setCell (p := ⟨w.heap.size + 1 + 1, 0, none⟩) (Ch.refl (fun k => k = w.heap.size + 1 + 1) _) (Or.inl rfl) _) (Or.inl rfl) _) (Or.inl rfl) _) (Or.inl rfl) _) (Or.inl rfl) _)
      have BX := (blk_set (blk_set (blk_set (blk_set (blk_set X_z 0 (.int .i64 0)) 1 (.int .i64 0)) 2 (.int .i64 0)) 3 (.int .i64 0)) 4 (.slice none 0 0))
      simp only [List.setIfInBounds_toArray, List.set_cons_zero, List.set_cons_succ] at BX
      have hb9 := HB.trans (HQ.below (B := w.heap.size) (fun k hk => by omega) HB.size)
      have hrd := Ow.nil oPast 98 (((((v1.setCell ⟨w.heap.size + 1 + 1, 0, none⟩ (.int .i64 0)).setCell ⟨w.heap.size + 1 + 1, 1, none⟩ (.int .i64 0)).setCell ⟨w.heap.size + 1 + 1, 2, none⟩ (.int .i64 0)).setCell ⟨w.heap.size + 1 + 1, 3, none⟩ (.int .i64 0)).setCell ⟨w.heap.size + 1 + 1, 4, none⟩ (.slice none 0 0)) (fun k => w.heap.size ≤ k)
      generalize (((((v1.setCell ⟨w.heap.size + 1 + 1, 0, none⟩ (.int .i64 0)).setCell ⟨w.heap.size + 1 + 1, 1, none⟩ (.int .i64 0)).setCell ⟨w.heap.size + 1 + 1, 2, none⟩ (.int .i64 0)).setCell ⟨w.heap.size + 1 + 1, 3, none⟩ (.int .i64 0)).setCell ⟨w.heap.size + 1 + 1, 4, none⟩ (.slice none 0 0)) = W12 at *
      obtain ⟨s0, s1, s2, s3, s4⟩ := cl5 BX
      refine bodyPost_ret (v := .tuple #[.agg #[.int .i64 0, .int .i64 0, .int .i64 0, .int .i64 0, .slice none 0 0], .bool false]) (by simp only [results, Tryz.results18]; go_simp) rfl ⟨lane0, false, _, HF.out, rfl, hrd, hb9⟩
    case true =>
      have HF := hid (show laneStep a l came = (l, false) by rw [HN.out, HT9.out]; rfl)
      obtain ⟨-, hl100, hpp⟩ := laneOk_parts HT9.out
      have SV := hid (show w.heap.size + 1 + 1 < v1.heap.size from blk_lt X_z)
      go_wp2_with fail
      refine (l21Copy_c l _ _ _ h (by omega) (fun r hr => by have := (pastOk_parts (hpp r hr)).2.2; omega)).mono ?_
      rintro q w6 ⟨u6, rfl, n6, hb6⟩
      obtain ⟨U6, c6, rfl, -⟩ := n6.shape
      replace HB := bthen HB hb6 HB.size
      replace X_z := below_heap hb6 (blk_lt X_z) X_z
      obtain ⟨zz0, zz1, zz2, zz3, zz4⟩ := cl5 X_z
      have hz0 := blk_frozen X_z 0
      have hz1 := blk_frozen X_z 1
      have hz2 := blk_frozen X_z 2
      have hz3 := blk_frozen X_z 3
      have hz4 := blk_frozen X_z 4
      clear hb6
      apply_assumption
      go_wp2_with fail
      have HQ : Ch (fun k => k = w.heap.size + 1 + 1) w6 (((((w6.setCell ⟨w.heap.size + 1 + 1, 0, none⟩ (.int .i64 l.proc)).setCell ⟨w.heap.size + 1 + 1, 1, none⟩ (.int .i64 l.base.x)).setCell ⟨w.heap.size + 1 + 1, 2, none⟩ (.int .i64 l.base.y)).setCell ⟨w.heap.size + 1 + 1, 3, none⟩ (.int .i64 l.base.c)).setCell ⟨w.heap.size + 1 + 1, 4, none⟩ (.slice U6 l.done.length c6)) := (Ch.setCell (p := ⟨w.heap.size + 1 + 1, 4, none⟩) (Ch.setCell (p := ⟨w.heap.size + 1 + 1, 3, none⟩) (Ch.setCell (p := ⟨w.heap.size + 1 + 1, 2, none⟩) (Ch.setCell (p := ⟨w.heap.size + 1 + 1, 1, none⟩) (Ch.setCell (p := ⟨w.heap.size + 1 + 1, 0, none⟩) (Ch.refl (fun k => k = w.heap.size + 1 + 1) _) (Or.inl rfl) _) (Or.inl rfl) _) (Or.inl rfl) _) (Or.inl rfl) _) (Or.inl rfl) _)
      have BX := (blk_set (blk_set (blk_set (blk_set (blk_set X_z 0 (.int .i64 l.proc)) 1 (.int .i64 l.base.x)) 2 (.int .i64 l.base.y)) 3 (.int .i64 l.base.c)) 4 (.slice U6 l.done.length c6))
      simp only [List.setIfInBounds_toArray, List.set_cons_zero, List.set_cons_succ] at BX
      have hb9 := HB.trans (HQ.below (B := w.heap.size) (fun k hk => by omega) HB.size)
      have hrd := (n6.ch HQ (fun k hk e1 => by have h3 : v1.heap.size ≤ k := hk; have := SV.out; omega)).mono (F' := fun k => w.heap.size ≤ k) (fun k hk => by have h3 : v1.heap.size ≤ k := hk; have := SV.out; show w.heap.size ≤ k; omega)
      generalize (((((w6.setCell ⟨w.heap.size + 1 + 1, 0, none⟩ (.int .i64 l.proc)).setCell ⟨w.heap.size + 1 + 1, 1, none⟩ (.int .i64 l.base.x)).setCell ⟨w.heap.size + 1 + 1, 2, none⟩ (.int .i64 l.base.y)).setCell ⟨w.heap.size + 1 + 1, 3, none⟩ (.int .i64 l.base.c)).setCell ⟨w.heap.size + 1 + 1, 4, none⟩ (.slice U6 l.done.length c6)) = W12 at *
      obtain ⟨s0, s1, s2, s3, s4⟩ := cl5 BX
      refine bodyPost_ret (v := .tuple #[.agg #[.int .i64 l.proc, .int .i64 l.base.x, .int .i64 l.base.y, .int .i64 l.base.c, .slice U6 l.done.length c6], .bool false]) (by simp only [results, Tryz.results18]; go_simp) rfl ⟨l, false, _, HF.out, rfl, hrd, hb9⟩
  have HE := hid (he1 rfl)
  clear he1 he2
  go_wp2_with fail
  clear c_a0 c_l0 c_l1 c_l2 c_l3 c_l4 c_z0 c_z1 c_z2 c_z3 c_z4 c_e0 c_e1 c_e2 c_e3 c_e4 c_e5 c_e6 fz0 fz1 fz2 fz3 fz4
  have hbx := balloc (Below.refl W4.heap.size W4) (.cells #[.slice A1 a.rules.length c1, .slice none 0 0, .slice none 0 0, .slice none 0 0] 57)
  have X_f : (W4.alloc (.cells #[.slice A1 a.rules.length c1, .slice none 0 0, .slice none 0 0, .slice none 0 0] 57)).heap[W4.heap.size]? = some (.cells #[.slice A1 a.rules.length c1, .slice none 0 0, .slice none 0 0, .slice none 0 0] 57 (0, 0)) := heap_at rfl
  replace HB := bthen HB hbx HB.size
  replace X_a := below_heap hbx (blk_lt X_a) X_a
  replace X_l := below_heap hbx (blk_lt X_l) X_l
  replace X_z := below_heap hbx (blk_lt X_z) X_z
  replace X_e := below_heap hbx (blk_lt X_e) X_e
  replace hA := hA.below hbx
  replace h := h.below hbx
  replace hc := hc.below hbx
  refine (AppOk_c _ [a, app0, app0, app0] _ _ (rd_four X_f hA)).mono ?_
  clear X_f hbx
  rintro q W5 ⟨rfl, hb5⟩
  rw [four_ok]
  replace HB := bthen HB hb5 HB.size
  replace X_a := below_heap hb5 (blk_lt X_a) X_a
  replace X_l := below_heap hb5 (blk_lt X_l) X_l
  replace X_z := below_heap hb5 (blk_lt X_z) X_z
  replace X_e := below_heap hb5 (blk_lt X_e) X_e
  replace hA := hA.below hb5
  replace h := h.below hb5
  replace hc := hc.below hb5
  clear hb5
  have c_a0 := cl1 X_a
  obtain ⟨c_l0, c_l1, c_l2, c_l3, c_l4⟩ := cl5 X_l
  obtain ⟨c_z0, c_z1, c_z2, c_z3, c_z4⟩ := cl5 X_z
  obtain ⟨c_e0, c_e1, c_e2, c_e3, c_e4, c_e5, c_e6⟩ := cl7 X_e
  have fz0 := blk_frozen X_z 0
  have fz1 := blk_frozen X_z 1
  have fz2 := blk_frozen X_z 2
  have fz3 := blk_frozen X_z 3
  have fz4 := blk_frozen X_z 4
  obtain ⟨t1, ht⟩ : ∃ t, appOk a = t := ⟨_, rfl⟩
  have HT1 := hid ht
  rw [ht]
  clear ht
  apply_assumption
  cases t1
  case false =>
    have HN := hid (laneStep_none (a := a) (l := l) (came := came) (.inr HT1.out))
    go_wp2_with fail
    refine (LaneOk_c l _ _ _ h).mono ?_
    rintro q v2 ⟨rfl, hbo⟩
    replace HB := bthen HB hbo HB.size
    replace X_l := below_heap hbo (blk_lt X_l) X_l
    replace X_z := below_heap hbo (blk_lt X_z) X_z
    replace h := h.below hbo
    clear hbo X_a X_e hA hc
    obtain ⟨ck0, ck1, ck2, ck3, ck4⟩ := cl5 X_l
    obtain ⟨cz0, cz1, cz2, cz3, cz4⟩ := cl5 X_z
    have gz0 := blk_frozen X_z 0
    have gz1 := blk_frozen X_z 1
    have gz2 := blk_frozen X_z 2
    have gz3 := blk_frozen X_z 3
    have gz4 := blk_frozen X_z 4
    obtain ⟨t9, ht⟩ : ∃ t, laneOk l = t := ⟨_, rfl⟩
    have HT9 := hid ht
    rw [ht]
    clear ht
    apply_assumption
    cases t9
    case false =>
      have HF := hid (show laneStep a l came = (lane0, false) by rw [HN.out, HT9.out]; rfl)
      go_wp2_with fail
      have HQ : Ch (fun k => k = w.heap.size + 1 + 1) v2 (((((v2.setCell ⟨w.heap.size + 1 + 1, 0, none⟩ (.int .i64 0)).setCell ⟨w.heap.size + 1 + 1, 1, none⟩ (.int .i64 0)).setCell ⟨w.heap.size + 1 + 1, 2, none⟩ (.int .i64 0)).setCell ⟨w.heap.size + 1 + 1, 3, none⟩ (.int .i64 0)).setCell ⟨w.heap.size + 1 + 1, 4, none⟩ (.slice none 0 0)) := (Ch.setCell (p := ⟨w.heap.size + 1 + 1, 4, none⟩) (Ch.setCell (p := ⟨w.heap.size + 1 + 1, 3, none⟩) (Ch.setCell (p := ⟨w.heap.size + 1 + 1, 2, none⟩) (Ch.setCell (p := ⟨w.heap.size + 1 + 1, 1, none⟩) (Ch.setCell (p := ⟨w.heap.size + 1 + 1, 0, none⟩) (Ch.refl (fun k => k = w.heap.size + 1 + 1) _) (Or.inl rfl) _) (Or.inl rfl) _) (Or.inl rfl) _) (Or.inl rfl) _) (Or.inl rfl) _)
      have BX := (blk_set (blk_set (blk_set (blk_set (blk_set X_z 0 (.int .i64 0)) 1 (.int .i64 0)) 2 (.int .i64 0)) 3 (.int .i64 0)) 4 (.slice none 0 0))
      simp only [List.setIfInBounds_toArray, List.set_cons_zero, List.set_cons_succ] at BX
      have hb9 := HB.trans (HQ.below (B := w.heap.size) (fun k hk => by omega) HB.size)
      have hrd := Ow.nil oPast 98 (((((v2.setCell ⟨w.heap.size + 1 + 1, 0, none⟩ (.int .i64 0)).setCell ⟨w.heap.size + 1 + 1, 1, none⟩ (.int .i64 0)).setCell ⟨w.heap.size + 1 + 1, 2, none⟩ (.int .i64 0)).setCell ⟨w.heap.size + 1 + 1, 3, none⟩ (.int .i64 0)).setCell ⟨w.heap.size + 1 + 1, 4, none⟩ (.slice none 0 0)) (fun k => w.heap.size ≤ k)
      generalize (((((v2.setCell ⟨w.heap.size + 1 + 1, 0, none⟩ (.int .i64 0)).setCell ⟨w.heap.size + 1 + 1, 1, none⟩ (.int .i64 0)).setCell ⟨w.heap.size + 1 + 1, 2, none⟩ (.int .i64 0)).setCell ⟨w.heap.size + 1 + 1, 3, none⟩ (.int .i64 0)).setCell ⟨w.heap.size + 1 + 1, 4, none⟩ (.slice none 0 0)) = W12 at *
      obtain ⟨s0, s1, s2, s3, s4⟩ := cl5 BX
      refine bodyPost_ret (v := .tuple #[.agg #[.int .i64 0, .int .i64 0, .int .i64 0, .int .i64 0, .slice none 0 0], .bool false]) (by simp only [results, Tryz.results18]; go_simp) rfl ⟨lane0, false, _, HF.out, rfl, hrd, hb9⟩
    case true =>
      have HF := hid (show laneStep a l came = (l, false) by rw [HN.out, HT9.out]; rfl)
      obtain ⟨-, hl100, hpp⟩ := laneOk_parts HT9.out
      have SV := hid (show w.heap.size + 1 + 1 < v2.heap.size from blk_lt X_z)
      go_wp2_with fail
      refine (l21Copy_c l _ _ _ h (by omega) (fun r hr => by have := (pastOk_parts (hpp r hr)).2.2; omega)).mono ?_
      rintro q w6 ⟨u6, rfl, n6, hb6⟩
      obtain ⟨U6, c6, rfl, -⟩ := n6.shape
      replace HB := bthen HB hb6 HB.size
      replace X_z := below_heap hb6 (blk_lt X_z) X_z
      obtain ⟨zz0, zz1, zz2, zz3, zz4⟩ := cl5 X_z
      have hz0 := blk_frozen X_z 0
      have hz1 := blk_frozen X_z 1
      have hz2 := blk_frozen X_z 2
      have hz3 := blk_frozen X_z 3
      have hz4 := blk_frozen X_z 4
      clear hb6
      apply_assumption
      go_wp2_with fail
      have HQ : Ch (fun k => k = w.heap.size + 1 + 1) w6 (((((w6.setCell ⟨w.heap.size + 1 + 1, 0, none⟩ (.int .i64 l.proc)).setCell ⟨w.heap.size + 1 + 1, 1, none⟩ (.int .i64 l.base.x)).setCell ⟨w.heap.size + 1 + 1, 2, none⟩ (.int .i64 l.base.y)).setCell ⟨w.heap.size + 1 + 1, 3, none⟩ (.int .i64 l.base.c)).setCell ⟨w.heap.size + 1 + 1, 4, none⟩ (.slice U6 l.done.length c6)) := (Ch.setCell (p := ⟨w.heap.size + 1 + 1, 4, none⟩) (Ch.setCell (p := ⟨w.heap.size + 1 + 1, 3, none⟩) (Ch.setCell (p := ⟨w.heap.size + 1 + 1, 2, none⟩) (Ch.setCell (p := ⟨w.heap.size + 1 + 1, 1, none⟩) (Ch.setCell (p := ⟨w.heap.size + 1 + 1, 0, none⟩) (Ch.refl (fun k => k = w.heap.size + 1 + 1) _) (Or.inl rfl) _) (Or.inl rfl) _) (Or.inl rfl) _) (Or.inl rfl) _) (Or.inl rfl) _)
      have BX := (blk_set (blk_set (blk_set (blk_set (blk_set X_z 0 (.int .i64 l.proc)) 1 (.int .i64 l.base.x)) 2 (.int .i64 l.base.y)) 3 (.int .i64 l.base.c)) 4 (.slice U6 l.done.length c6))
      simp only [List.setIfInBounds_toArray, List.set_cons_zero, List.set_cons_succ] at BX
      have hb9 := HB.trans (HQ.below (B := w.heap.size) (fun k hk => by omega) HB.size)
      have hrd := (n6.ch HQ (fun k hk e1 => by have h3 : v2.heap.size ≤ k := hk; have := SV.out; omega)).mono (F' := fun k => w.heap.size ≤ k) (fun k hk => by have h3 : v2.heap.size ≤ k := hk; have := SV.out; show w.heap.size ≤ k; omega)
      generalize (((((w6.setCell ⟨w.heap.size + 1 + 1, 0, none⟩ (.int .i64 l.proc)).setCell ⟨w.heap.size + 1 + 1, 1, none⟩ (.int .i64 l.base.x)).setCell ⟨w.heap.size + 1 + 1, 2, none⟩ (.int .i64 l.base.y)).setCell ⟨w.heap.size + 1 + 1, 3, none⟩ (.int .i64 l.base.c)).setCell ⟨w.heap.size + 1 + 1, 4, none⟩ (.slice U6 l.done.length c6)) = W12 at *
      obtain ⟨s0, s1, s2, s3, s4⟩ := cl5 BX
      refine bodyPost_ret (v := .tuple #[.agg #[.int .i64 l.proc, .int .i64 l.base.x, .int .i64 l.base.y, .int .i64 l.base.c, .slice U6 l.done.length c6], .bool false]) (by simp only [results, Tryz.results18]; go_simp) rfl ⟨l, false, _, HF.out, rfl, hrd, hb9⟩
  have qk := (next_ok HE.out).1
  have hpp := hid (laneOk_parts qk)
  obtain ⟨xs, sends, outs, hrun⟩ : ∃ xs sends outs, appRun a (laneNow l) e = (xs, sends, outs) := ⟨_, _, _, rfl⟩
  have hrun' := hid hrun
  have hR := hid hA
  have hL := hid h
  have hle := hid (show sends.length ≤ 2 ∧ outs.length ≤ 2 by have h9 := appRun_good a (laneNow l) e; rw [hrun] at h9; exact ⟨h9.2.2.1, h9.2.2.2.1⟩)
  have HD := hid (show laneDo a l e = ⟨l.proc, l.base, l.done ++ [⟨e, xs, evSort sends, outSort outs⟩]⟩ by simp only [laneDo, hrun])
  clear hrun
  go_upto_region 6 with fail
  refine region_sg [.rd [0, 1, 3], .par [(2, []), (4, []), (5, []), (6, []), (7, []), (8, []), (9, []), (10, [9]), (11, []), (12, [])] []] [] (by kernel_rfl) (by kernel_rfl) (fun _ _ d _ _ h => by cases d <;> exact h) ?_
  refine sg_rd (fun N hN => ?_)
  simp only [pickO, List.getElem?_toArray, List.getElem?_cons_zero, List.getElem?_cons_succ]
  go_wp2_with fail
  refine rd_next (hN _ ?_)
  clear hN N
  refine sgz_name fun a0 ha0 => ?_
  have sA := hid (show a0.tmps[41]? = some (.agg #[.slice A1 a.rules.length c1]) by rw [ha0]; rfl)
  have sL := hid (show a0.tmps[42]? = some (.agg #[.int .i64 l.proc, .int .i64 l.base.x, .int .i64 l.base.y, .int .i64 l.base.c, .slice A l.done.length c]) by rw [ha0]; rfl)
  have sE := hid (show a0.tmps[44]? = some (.agg #[.int .i64 e.time, .int .i64 e.to, .int .i64 e.from_, .int .i64 e.count, .int .i64 e.n, .int .i64 e.kind, .int .i64 e.arg]) by rw [ha0]; rfl)
  have hsz := hid (show ∀ k, k < 49 → k < a0.tmps.size from fun k hk => by rw [ha0]; exact Nat.lt_of_lt_of_le hk (by show _ ≤ Array.size _; simp))
  have H0 := hid ha0
  clear ha0
  refine sg_parG [(2, some 43), (4, some 45), (5, some 40), (6, some 46), (7, some 47), (8, some 48), (9, some 10), (10, none), (11, some 11), (12, some 12)] (by rfl) (fun _ => False) (NL (zsN l xs sends outs)) (PPL (zsP l xs sends outs)) (fun _ _ => False) (PPL_upd _ (by kernel_rfl)) (NL_upd _ (by kernel_rfl)) (NL_move _ (zsN_moves l xs sends outs)) (fun w' hc => Agree.of_ch hc (fun _ hf => hf.elim)) (by simp) (by simp) (by simp) (parS_cons ?_ (parS_cons ?_ (parS_cons ?_ (parS_cons ?_ (parS_cons ?_ (parS_cons ?_ (parS_cons ?_ (parS_cons ?_ (parS_cons ?_ (parS_cons ?_ parS_nil)))))))))) ?_
  · refine stepG_mk (by rfl) (by rfl) ?_
    intro u wq F1 hC hp hN hF hD K hK
    have q42 : (putL [(2, some 43), (4, some 45), (5, some 40), (6, some 46), (7, some 47), (8, some 48), (9, some 10), (10, none), (11, some 11), (12, some 12)] a0 u).tmps[42]? = _ := (putL_out (k := 42) [(2, some 43), (4, some 45), (5, some 40), (6, some 46), (7, some 47), (8, some 48), (9, some 10), (10, none), (11, some 11), (12, some 12)] a0 u (by rfl)).trans sL.out
    clear hp hN hF hD
    generalize putL [(2, some 43), (4, some 45), (5, some 40), (6, some 46), (7, some 47), (8, some 48), (9, some 10), (10, none), (11, some 11), (12, some 12)] a0 u = a1 at *
    go_simp
    refine (LaneNow_c l _ _ wq (hL.out.below (⟨hC.below0.os, hC.below0.tape, hC.below0.output, hC.below0.size, hC.below0.block⟩ : Below W5.heap.size W5 wq)) qk).mono ?_
    rintro q w5 ⟨rfl, hb5⟩
    have hn1 : NL (zsN l xs sends outs) 2 (updV u 2 (.agg #[.int .i64 (laneNow l).x, .int .i64 (laneNow l).y, .int .i64 (laneNow l).c])) w5 (fun _ => False) := trivial
    have hp1 : PPL (zsP l xs sends outs) 2 (updV u 2 (.agg #[.int .i64 (laneNow l).x, .int .i64 (laneNow l).y, .int .i64 (laneNow l).c])) := rfl
    exact hK _ (.agg #[.int .i64 (laneNow l).x, .int .i64 (laneNow l).y, .int .i64 (laneNow l).c]) _ (fun _ => False) rfl (Ch.of_below hb5) hn1 (fun k hk => hk.elim) hp1
  · refine stepG_mk (by rfl) (by rfl) ?_
    intro u wq F1 hC hp hN hF hD K hK
    have q41 : (putL [(2, some 43), (4, some 45), (5, some 40), (6, some 46), (7, some 47), (8, some 48), (9, some 10), (10, none), (11, some 11), (12, some 12)] a0 u).tmps[41]? = _ := (putL_out (k := 41) [(2, some 43), (4, some 45), (5, some 40), (6, some 46), (7, some 47), (8, some 48), (9, some 10), (10, none), (11, some 11), (12, some 12)] a0 u (by rfl)).trans sA.out
    have q43 : (putL [(2, some 43), (4, some 45), (5, some 40), (6, some 46), (7, some 47), (8, some 48), (9, some 10), (10, none), (11, some 11), (12, some 12)] a0 u).tmps[43]? = some (u 2) := putL_in (k := 43) (i := 2) [(2, some 43), (4, some 45), (5, some 40), (6, some 46), (7, some 47), (8, some 48), (9, some 10), (10, none), (11, some 11), (12, some 12)] a0 u (by rfl) (hsz.out 43 (by decide))
    have q44 : (putL [(2, some 43), (4, some 45), (5, some 40), (6, some 46), (7, some 47), (8, some 48), (9, some 10), (10, none), (11, some 11), (12, some 12)] a0 u).tmps[44]? = _ := (putL_out (k := 44) [(2, some 43), (4, some 45), (5, some 40), (6, some 46), (7, some 47), (8, some 48), (9, some 10), (10, none), (11, some 11), (12, some 12)] a0 u (by rfl)).trans sE.out
    have p3 : u 2 = .agg #[.int .i64 (laneNow l).x, .int .i64 (laneNow l).y, .int .i64 (laneNow l).c] := hp 2 (by simp) (by kernel_rfl)
    rw [p3] at q43
    clear hp hN hF hD
    generalize putL [(2, some 43), (4, some 45), (5, some 40), (6, some 46), (7, some 47), (8, some 48), (9, some 10), (10, none), (11, some 11), (12, some 12)] a0 u = a1 at *
    go_simp
    refine (runY_call _ a (laneNow l) e _ wq (hR.out.below (⟨hC.below0.os, hC.below0.tape, hC.below0.output, hC.below0.size, hC.below0.block⟩ : Below W5.heap.size W5 wq)) hrun'.out).mono ?_
    rintro q w5 ⟨sv, ov, rfl, h5, h6, hb5⟩
    have hn1 : NL (zsN l xs sends outs) 4 (updV u 4 (.tuple #[stAgg3 xs, sv, ov])) w5 (fun k => wq.heap.size ≤ k ∧ k < w5.heap.size) := ⟨sv, ov, rfl, h5.bound, h6.bound⟩
    have hp1 : PPL (zsP l xs sends outs) 4 (updV u 4 (.tuple #[stAgg3 xs, sv, ov])) := ⟨sv, ov, rfl⟩
    exact hK _ (.tuple #[stAgg3 xs, sv, ov]) _ (fun k => wq.heap.size ≤ k ∧ k < w5.heap.size) rfl (Ch.of_below hb5) hn1 (fun k hk => ⟨.inr hk.1, hk.2⟩) hp1
  · refine stepG_pure (by rfl) (by rfl) (fun _ _ => trivial) ?_
    intro u wq hC hp
    have p12 : tup3 (stAgg3 xs) (u 4) := hp 4 (by simp) (by kernel_rfl)
    have q : (putL [(2, some 43), (4, some 45), (5, some 40), (6, some 46), (7, some 47), (8, some 48), (9, some 10), (10, none), (11, some 11), (12, some 12)] a0 u).eval (.tmp 45) = u 4 := eval_of (putL_in (k := 45) (i := 4) [(2, some 43), (4, some 45), (5, some 40), (6, some 46), (7, some 47), (8, some 48), (9, some 10), (10, none), (11, some 11), (12, some 12)] a0 u (by rfl) (hsz.out 45 (by decide)))
    generalize putL [(2, some 43), (4, some 45), (5, some 40), (6, some 46), (7, some 47), (8, some 48), (9, some 10), (10, none), (11, some 11), (12, some 12)] a0 u = a1 at *
    refine Exists.intro (u 4) (And.intro ?_ ?_)
    · intro K hK
      exact wp_move' (.inl (by rfl)) q hK
    · exact ⟨rfl, p12⟩
  · refine stepG_pure (by rfl) (by rfl) (fun _ _ => trivial) ?_
    intro u wq hC hp
    have p13 : [u 4] = [u 5] ∧ tup3 (stAgg3 xs) (u 5) := hp 5 (by simp) (by kernel_rfl)
    obtain ⟨-, b9, c9, e13⟩ := p13
    have q : (putL [(2, some 43), (4, some 45), (5, some 40), (6, some 46), (7, some 47), (8, some 48), (9, some 10), (10, none), (11, some 11), (12, some 12)] a0 u).eval (.tmp 40) = u 5 := eval_of (putL_in (k := 40) (i := 5) [(2, some 43), (4, some 45), (5, some 40), (6, some 46), (7, some 47), (8, some 48), (9, some 10), (10, none), (11, some 11), (12, some 12)] a0 u (by rfl) (hsz.out 40 (by decide)))
    rw [e13] at q
    generalize putL [(2, some 43), (4, some 45), (5, some 40), (6, some 46), (7, some 47), (8, some 48), (9, some 10), (10, none), (11, some 11), (12, some 12)] a0 u = a1 at *
    refine Exists.intro (stAgg3 xs) (And.intro ?_ ?_)
    · intro K hK
      refine wp_extract (x := .tmp 40) (n := 0) (vs := #[stAgg3 xs, b9, c9]) (v := (stAgg3 xs)) ?_ ?_ ?_ ?_
      · rfl
      · exact q
      · rfl
      · exact hK
    · exact rfl
  · refine stepG_pure (by rfl) (by rfl) (fun _ _ => trivial) ?_
    intro u wq hC hp
    have p13 : [u 4] = [u 5] ∧ tup3 (stAgg3 xs) (u 5) := hp 5 (by simp) (by kernel_rfl)
    obtain ⟨-, b9, c9, e13⟩ := p13
    have q : (putL [(2, some 43), (4, some 45), (5, some 40), (6, some 46), (7, some 47), (8, some 48), (9, some 10), (10, none), (11, some 11), (12, some 12)] a0 u).eval (.tmp 40) = u 5 := eval_of (putL_in (k := 40) (i := 5) [(2, some 43), (4, some 45), (5, some 40), (6, some 46), (7, some 47), (8, some 48), (9, some 10), (10, none), (11, some 11), (12, some 12)] a0 u (by rfl) (hsz.out 40 (by decide)))
    rw [e13] at q
    generalize putL [(2, some 43), (4, some 45), (5, some 40), (6, some 46), (7, some 47), (8, some 48), (9, some 10), (10, none), (11, some 11), (12, some 12)] a0 u = a1 at *
    refine Exists.intro b9 (And.intro ?_ ?_)
    · intro K hK
      refine wp_extract (x := .tmp 40) (n := 1) (vs := #[stAgg3 xs, b9, c9]) (v := b9) ?_ ?_ ?_ ?_
      · rfl
      · exact q
      · rfl
      · exact hK
    · exact fun a b c he => by have h9 : [u 5] = [Value.tuple #[a, b, c]] := he; rw [e13] at h9; simp at h9; exact h9.2.1
  · refine stepG_pure (by rfl) (by rfl) (fun _ _ => trivial) ?_
    intro u wq hC hp
    have p13 : [u 4] = [u 5] ∧ tup3 (stAgg3 xs) (u 5) := hp 5 (by simp) (by kernel_rfl)
    obtain ⟨-, b9, c9, e13⟩ := p13
    have q : (putL [(2, some 43), (4, some 45), (5, some 40), (6, some 46), (7, some 47), (8, some 48), (9, some 10), (10, none), (11, some 11), (12, some 12)] a0 u).eval (.tmp 40) = u 5 := eval_of (putL_in (k := 40) (i := 5) [(2, some 43), (4, some 45), (5, some 40), (6, some 46), (7, some 47), (8, some 48), (9, some 10), (10, none), (11, some 11), (12, some 12)] a0 u (by rfl) (hsz.out 40 (by decide)))
    rw [e13] at q
    generalize putL [(2, some 43), (4, some 45), (5, some 40), (6, some 46), (7, some 47), (8, some 48), (9, some 10), (10, none), (11, some 11), (12, some 12)] a0 u = a1 at *
    refine Exists.intro c9 (And.intro ?_ ?_)
    · intro K hK
      refine wp_extract (x := .tmp 40) (n := 2) (vs := #[stAgg3 xs, b9, c9]) (v := c9) ?_ ?_ ?_ ?_
      · rfl
      · exact q
      · rfl
      · exact hK
    · exact fun a b c he => by have h9 : [u 5] = [Value.tuple #[a, b, c]] := he; rw [e13] at h9; simp at h9; exact h9.2.2
  · refine stepG_mk (by rfl) (by rfl) ?_
    intro u wq F1 hC hp hN hF hD K hK
    clear hp hN hF hD
    generalize putL [(2, some 43), (4, some 45), (5, some 40), (6, some 46), (7, some 47), (8, some 48), (9, some 10), (10, none), (11, some 11), (12, some 12)] a0 u = a1 at *
    go_simp
    have hn1 : NL (zsN l xs sends outs) 9 (updV u 9 (.pointer (some ⟨wq.heap.size, 0, none⟩))) (wq.alloc (.cells #[.int .i64 0, .int .i64 0, .int .i64 0] 49)) (fun k => k = wq.heap.size) := ⟨_, rfl, rfl, heap_at rfl⟩
    exact hK _ (.pointer (some ⟨wq.heap.size, 0, none⟩)) _ (fun k => k = wq.heap.size) rfl ((Ch.refl _ _).alloc _) hn1 (fun k hk => by subst hk; exact ⟨.inr (Nat.le_refl _), by simp⟩) trivial
  · refine stepG_mk (by rfl) (by rfl) ?_
    intro u wq F1 hC hp hN hF hD K hK
    have q1 : (putL [(2, some 43), (4, some 45), (5, some 40), (6, some 46), (7, some 47), (8, some 48), (9, some 10), (10, none), (11, some 11), (12, some 12)] a0 u).eval (.tmp 10) = u 9 := eval_of (putL_in (k := 10) (i := 9) [(2, some 43), (4, some 45), (5, some 40), (6, some 46), (7, some 47), (8, some 48), (9, some 10), (10, none), (11, some 11), (12, some 12)] a0 u (by rfl) (hsz.out 10 (by decide)))
    have q2 : (putL [(2, some 43), (4, some 45), (5, some 40), (6, some 46), (7, some 47), (8, some 48), (9, some 10), (10, none), (11, some 11), (12, some 12)] a0 u).eval (.tmp 46) = u 6 := eval_of (putL_in (k := 46) (i := 6) [(2, some 43), (4, some 45), (5, some 40), (6, some 46), (7, some 47), (8, some 48), (9, some 10), (10, none), (11, some 11), (12, some 12)] a0 u (by rfl) (hsz.out 46 (by decide)))
    generalize putL [(2, some 43), (4, some 45), (5, some 40), (6, some 46), (7, some 47), (8, some 48), (9, some 10), (10, none), (11, some 11), (12, some 12)] a0 u = a1 at *
    obtain ⟨g, e17, f17, B17⟩ : ∃ g, u 9 = .pointer (some ⟨g, 0, none⟩) ∧ F1 9 g ∧ wq.heap[g]? = some (.cells #[.int .i64 0, .int .i64 0, .int .i64 0] 49 (0, 0)) := hN 9 (by simp)
    have p14 : u 6 = stAgg3 xs := hp 6 (by simp) (by kernel_rfl)
    have hgl := (hF 9 (by simp) g f17).2
    rw [e17] at q1
    rw [p14] at q2
    refine wp_store_mid 49 (.tmp 10) (.tmp 46) (by rfl) g 0 #[.int .i64 xs.x, .int .i64 xs.y, .int .i64 xs.c] q1 q2 (there_of_block B17 (by simp)) (by kernel_rfl) (by simp [Value.oneCell']) ?_
    have hn1 : NL (zsN l xs sends outs) 10 (updV u 10 undef) (wq.setCells g 0 [.int .i64 xs.x, .int .i64 xs.y, .int .i64 xs.c]) (fun k => k = g) := ⟨g, (show [u 9] = _ by rw [e17]), rfl, blk_ovw _ 0 wq [.int .i64 0, .int .i64 0, .int .i64 0] B17⟩
    exact hK _ undef _ (fun k => k = g) rfl (Ch.setCells _ _ _ (Ch.refl _ _) (.inl ⟨9, by simp, f17⟩)) hn1 (fun k hk => by subst hk; exact ⟨.inl ⟨9, by simp, f17⟩, by rw [size_setCells]; exact hgl⟩) trivial
  · refine stepG_pure (by rfl) (by rfl) (fun _ _ => trivial) ?_
    intro u wq hC hp
    have q : (putL [(2, some 43), (4, some 45), (5, some 40), (6, some 46), (7, some 47), (8, some 48), (9, some 10), (10, none), (11, some 11), (12, some 12)] a0 u).eval (.tmp 47) = u 7 := eval_of (putL_in (k := 47) (i := 7) [(2, some 43), (4, some 45), (5, some 40), (6, some 46), (7, some 47), (8, some 48), (9, some 10), (10, none), (11, some 11), (12, some 12)] a0 u (by rfl) (hsz.out 47 (by decide)))
    generalize putL [(2, some 43), (4, some 45), (5, some 40), (6, some 46), (7, some 47), (8, some 48), (9, some 10), (10, none), (11, some 11), (12, some 12)] a0 u = a1 at *
    refine Exists.intro (u 7) (And.intro ?_ ?_)
    · intro K hK
      exact wp_move' (.inr (by rfl)) q hK
    · exact rfl
  · refine stepG_pure (by rfl) (by rfl) (fun _ _ => trivial) ?_
    intro u wq hC hp
    have q : (putL [(2, some 43), (4, some 45), (5, some 40), (6, some 46), (7, some 47), (8, some 48), (9, some 10), (10, none), (11, some 11), (12, some 12)] a0 u).eval (.tmp 48) = u 8 := eval_of (putL_in (k := 48) (i := 8) [(2, some 43), (4, some 45), (5, some 40), (6, some 46), (7, some 47), (8, some 48), (9, some 10), (10, none), (11, some 11), (12, some 12)] a0 u (by rfl) (hsz.out 48 (by decide)))
    generalize putL [(2, some 43), (4, some 45), (5, some 40), (6, some 46), (7, some 47), (8, some 48), (9, some 10), (10, none), (11, some 11), (12, some 12)] a0 u = a1 at *
    refine Exists.intro (u 8) (And.intro ?_ ?_)
    · intro K hK
      exact wp_move' (.inr (by rfl)) q hK
    · exact rfl
  intro K hK u w9 F1 hC hD hF hN hpp
  obtain ⟨sv, ov, g12, n12, m12⟩ : ∃ sv ov, u 4 = .tuple #[stAgg3 xs, sv, ov] ∧ Ow tEv 80 w9 (F1 4) sv sends ∧ Ow tOut 128 w9 (F1 4) ov outs := hN 4 (by rfl)
  obtain ⟨gS, g17, f17, BX3⟩ : ∃ g, [u 9] = [.pointer (some ⟨g, 0, none⟩)] ∧ F1 10 g ∧ w9.heap[g]? = some (.cells #[.int .i64 xs.x, .int .i64 xs.y, .int .i64 xs.c] 49 (0, 0)) := hN 10 (by rfl)
  have g17 : u 9 = .pointer (some ⟨gS, 0, none⟩) := by simpa using g17
  have e3 : u 2 = .agg #[.int .i64 (laneNow l).x, .int .i64 (laneNow l).y, .int .i64 (laneNow l).c] := hpp 2 (by simp)
  have p13 : [u 4] = [u 5] ∧ tup3 (stAgg3 xs) (u 5) := hpp 5 (by simp)
  have e13 : u 5 = u 4 := by have := p13.1; simp at this; exact this.symm
  have e14 : u 6 = stAgg3 xs := hpp 6 (by simp)
  have p15 : ∀ a b c, [u 5] = [.tuple #[a, b, c]] → u 7 = b := hpp 7 (by simp)
  have p16 : ∀ a b c, [u 5] = [.tuple #[a, b, c]] → u 8 = c := hpp 8 (by simp)
  have e19 : u 11 = u 7 := by have q : [u 7] = [u 11] := hpp 11 (by simp); simp at q; exact q.symm
  have e20 : u 12 = u 8 := by have q : [u 8] = [u 12] := hpp 12 (by simp); simp at q; exact q.symm
  rw [g12] at e13
  have e15 := p15 _ _ _ (by rw [e13])
  have e16 := p16 _ _ _ (by rw [e13])
  rw [e15] at e19
  rw [e16] at e20
  clear hpp p13 p15 p16
  have hgS : W5.heap.size ≤ gS ∧ gS < w9.heap.size := by have := hF 10 gS (by rfl) f17; refine ⟨?_, this.2⟩; rcases this.1 with q | q; exact q.elim; simpa using q
  have n7 := n12.mono (F' := fun k => W5.heap.size ≤ k ∧ k < w9.heap.size) (fun k hk => by have := hF 4 k (by rfl) hk; refine ⟨?_, this.2⟩; rcases this.1 with q | q; exact q.elim; simpa using q)
  have m7 := m12.mono (F' := fun k => W5.heap.size ≤ k ∧ k < w9.heap.size) (fun k hk => by have := hF 4 k (by rfl) hk; refine ⟨?_, this.2⟩; rcases this.1 with q | q; exact q.elim; simpa using q)
  have HS : Below W5.heap.size W5 w9 := ⟨hC.below0.os, hC.below0.tape, hC.below0.output, hC.below0.size, hC.below0.block⟩
  have HA : Agree W5.drew w9 := Agree.of_ch hC (fun _ hf => hf.elim)
  clear hN hF hD hC n12 m12 f17
  rw [H0.out]
  clear sA sL sE hsz H0 a0
  simp only [putL_cons, putL_nil]
  simp only [stAgg3] at g12 e13 e14
  generalize u 2 = u_2 at *
  generalize u 4 = u_4 at *
  generalize u 5 = u_5 at *
  generalize u 6 = u_6 at *
  generalize u 7 = u_7 at *
  generalize u 8 = u_8 at *
  generalize u 9 = u_9 at *
  generalize u 10 = u_10 at *
  generalize u 11 = u_11 at *
  generalize u 12 = u_12 at *
  subst g12 g17 e3 e13 e14 e15 e16 e19 e20
  go_simp
  refine hK _ _ HA ?_
  clear hK K F1 HA
  refine sg_fin ?_
  simp only [pickO]
  clear c_a0 c_l0 c_l1 c_l2 c_l3 c_l4 c_z0 c_z1 c_z2 c_z3 c_z4 c_e0 c_e1 c_e2 c_e3 c_e4 c_e5 c_e6 fz0 fz1 fz2 fz3 fz4
  replace HB := bthen HB HS HB.size
  replace X_a := below_heap HS (blk_lt X_a) X_a
  replace X_l := below_heap HS (blk_lt X_l) X_l
  replace X_z := below_heap HS (blk_lt X_z) X_z
  replace X_e := below_heap HS (blk_lt X_e) X_e
  replace hA := hA.below HS
  replace h := h.below HS
  replace hc := hc.below HS
  have X_s := BX3; have n_s := n7; have n_o := m7; clear BX3 n7 m7 hR hL hgS
  have S9 := hid (show w.heap.size + 1 + 1 < w9.heap.size from blk_lt X_z)
  obtain ⟨D1, d1, rfl, -⟩ := n_s.shape
  obtain ⟨D2, d2, rfl, -⟩ := n_o.shape
  clear HS
  have c_a0 := cl1 X_a
  obtain ⟨c_l0, c_l1, c_l2, c_l3, c_l4⟩ := cl5 X_l
  obtain ⟨c_z0, c_z1, c_z2, c_z3, c_z4⟩ := cl5 X_z
  obtain ⟨c_e0, c_e1, c_e2, c_e3, c_e4, c_e5, c_e6⟩ := cl7 X_e
  obtain ⟨c_s0, c_s1, c_s2⟩ := cl3 X_s
  have fz0 := blk_frozen X_z 0
  have fz1 := blk_frozen X_z 1
  have fz2 := blk_frozen X_z 2
  have fz3 := blk_frozen X_z 3
  have fz4 := blk_frozen X_z 4
  go_wp2_with fail
  refine (l21Copy_c l _ _ _ h (by have := hpp.out.2.1; omega) (fun r hr => by have := (pastOk_parts (hpp.out.2.2 r hr)).2.2; omega)).mono ?_
  rintro q w10 ⟨u, rfl, n_c, hb10⟩
  obtain ⟨U, uc, rfl, -⟩ := n_c.shape
  clear c_a0 c_l0 c_l1 c_l2 c_l3 c_l4 c_z0 c_z1 c_z2 c_z3 c_z4 c_e0 c_e1 c_e2 c_e3 c_e4 c_e5 c_e6 c_s0 c_s1 c_s2 fz0 fz1 fz2 fz3 fz4
  replace HB := bthen HB hb10 HB.size
  replace X_a := below_heap hb10 (blk_lt X_a) X_a
  replace X_l := below_heap hb10 (blk_lt X_l) X_l
  replace X_z := below_heap hb10 (blk_lt X_z) X_z
  replace X_e := below_heap hb10 (blk_lt X_e) X_e
  replace X_s := below_heap hb10 (blk_lt X_s) X_s
  replace n_s := n_s.below hb10
  replace n_o := n_o.below hb10
  replace hA := hA.below hb10
  replace h := h.below hb10
  replace hc := hc.below hb10
  replace n_c := n_c.bound
  have S10 := hid (show w9.heap.size ≤ w10.heap.size from hb10.size)
  clear hb10
  have c_a0 := cl1 X_a
  obtain ⟨c_l0, c_l1, c_l2, c_l3, c_l4⟩ := cl5 X_l
  obtain ⟨c_z0, c_z1, c_z2, c_z3, c_z4⟩ := cl5 X_z
  obtain ⟨c_e0, c_e1, c_e2, c_e3, c_e4, c_e5, c_e6⟩ := cl7 X_e
  obtain ⟨c_s0, c_s1, c_s2⟩ := cl3 X_s
  have fz0 := blk_frozen X_z 0
  have fz1 := blk_frozen X_z 1
  have fz2 := blk_frozen X_z 2
  have fz3 := blk_frozen X_z 3
  have fz4 := blk_frozen X_z 4
  apply_assumption
  go_upto_region 8 with fail
  clear c_a0 c_l0 c_l1 c_l2 c_l3 c_l4 c_z0 c_z1 c_z2 c_z3 c_z4 c_e0 c_e1 c_e2 c_e3 c_e4 c_e5 c_e6 c_s0 c_s1 c_s2 fz0 fz1 fz2 fz3 fz4
  have hbx := balloc (Below.refl w10.heap.size w10) (.cells #[.int .i64 l.proc, .int .i64 l.base.x, .int .i64 l.base.y, .int .i64 l.base.c, .slice U l.done.length uc] 52)
  have X_t : (w10.alloc (.cells #[.int .i64 l.proc, .int .i64 l.base.x, .int .i64 l.base.y, .int .i64 l.base.c, .slice U l.done.length uc] 52)).heap[w10.heap.size]? = some (.cells #[.int .i64 l.proc, .int .i64 l.base.x, .int .i64 l.base.y, .int .i64 l.base.c, .slice U l.done.length uc] 52 (0, 0)) := heap_at rfl
  replace HB := bthen HB hbx HB.size
  replace X_a := below_heap hbx (blk_lt X_a) X_a
  replace X_l := below_heap hbx (blk_lt X_l) X_l
  replace X_z := below_heap hbx (blk_lt X_z) X_z
  replace X_e := below_heap hbx (blk_lt X_e) X_e
  replace X_s := below_heap hbx (blk_lt X_s) X_s
  replace n_s := n_s.below hbx
  replace n_o := n_o.below hbx
  replace n_c := n_c.below hbx
  replace hA := hA.below hbx
  replace h := h.below hbx
  replace hc := hc.below hbx
  obtain ⟨gT, hg⟩ : ∃ g, g = w10.heap.size := ⟨_, rfl⟩
  have HGT := hid (show gT ≤ w10.heap.size ∧ w10.heap.size ≤ gT by omega)
  rw [← hg] at X_t
  simp only [← hg]
  generalize w10.alloc (.cells #[.int .i64 l.proc, .int .i64 l.base.x, .int .i64 l.base.y, .int .i64 l.base.c, .slice U l.done.length uc] 52) = W11 at *
  clear hg hbx
  have S11 := hid (show gT < W11.heap.size from blk_lt X_t)
  have c_a0 := cl1 X_a
  obtain ⟨c_l0, c_l1, c_l2, c_l3, c_l4⟩ := cl5 X_l
  obtain ⟨c_z0, c_z1, c_z2, c_z3, c_z4⟩ := cl5 X_z
  obtain ⟨c_e0, c_e1, c_e2, c_e3, c_e4, c_e5, c_e6⟩ := cl7 X_e
  obtain ⟨c_s0, c_s1, c_s2⟩ := cl3 X_s
  obtain ⟨c_t0, c_t1, c_t2, c_t3, c_t4⟩ := cl5 X_t
  have fz0 := blk_frozen X_z 0
  have fz1 := blk_frozen X_z 1
  have fz2 := blk_frozen X_z 2
  have fz3 := blk_frozen X_z 3
  have fz4 := blk_frozen X_z 4
  refine region_sg [.rd [0, 1, 2, 3, 4, 6], .mid 5, .mid 7, .mid 8, .mid 9] [10, 11, 12] (by kernel_rfl) (by kernel_rfl) (fun _ _ d _ _ h => by cases d <;> exact h) ?_
  refine sg_rd (fun N hN => ?_)
  simp only [pickO, List.getElem?_toArray, List.getElem?_cons_zero, List.getElem?_cons_succ]
  go_wp2_with fail
  refine rd_next (hN _ ?_)
  clear hN N
  refine sg_mid (fun N hN => ?_)
  simp only [pickO, List.getElem?_toArray, List.getElem?_cons_zero, List.getElem?_cons_succ]
  go_wp2_with fail
  have hbd := (Below.refl W11.heap.size W11).drew
  refine (EventSort_c _ sends _ _ (n_s.rd.below hbd) (by have := hle.out; omega)).mono ?_
  rintro q w12 ⟨u1, rfl, o1, hb12⟩
  obtain ⟨E1, e1, rfl, -⟩ := o1.shape
  apply_assumption
  refine mid_next (Agree.of_below hb12) (hN _ _ ?_)
  clear hN
  refine sg_mid (fun N hN => ?_)
  simp only [pickO, List.getElem?_toArray, List.getElem?_cons_zero, List.getElem?_cons_succ]
  go_wp2_with fail
  have hbd2 := bthen' hbd hb12
  refine (OutSort_c _ outs _ _ (n_o.rd.below hbd2) (by have := hle.out; omega)).mono ?_
  rintro q w13 ⟨u2, rfl, o2, hb13⟩
  obtain ⟨E2, e2, rfl, -⟩ := o2.shape
  have hb13b := bthen hb12 hb13 hb12.size
  apply_assumption
  refine mid_next (Agree.of_below hb13b) (hN _ _ ?_)
  clear hN
  refine sg_mid (fun N hN => ?_)
  simp only [pickO, List.getElem?_toArray, List.getElem?_cons_zero, List.getElem?_cons_succ]
  go_wp2_with fail
  refine mid_next (Agree.of_below hb13b) (hN _ _ ?_)
  clear hN
  refine sg_mid (fun N hN => ?_)
  simp only [pickO, List.getElem?_toArray, List.getElem?_cons_zero, List.getElem?_cons_succ]
  go_wp2_with fail
  have hb13c := hb13b.alloc hb13b.size (.cells #[.int .i64 e.time, .int .i64 e.to, .int .i64 e.from_, .int .i64 e.count, .int .i64 e.n, .int .i64 e.kind, .int .i64 e.arg, .int .i64 xs.x, .int .i64 xs.y, .int .i64 xs.c, .slice E1 (evSort sends).length e1, .slice E2 (outSort outs).length e2] 98)
  refine mid_next (Agree.of_below hb13c) (hN _ _ ?_)
  clear hN
  have hbE := bthen' hbd hb13c
  have hbn := balloc (Below.refl w13.heap.size w13) (.cells #[.int .i64 e.time, .int .i64 e.to, .int .i64 e.from_, .int .i64 e.count, .int .i64 e.n, .int .i64 e.kind, .int .i64 e.arg, .int .i64 xs.x, .int .i64 xs.y, .int .i64 xs.c, .slice E1 (evSort sends).length e1, .slice E2 (outSort outs).length e2] 98)
  have S12 := hid (show W11.heap.size ≤ w12.heap.size from hbd2.size)
  have p1 := ((o1.below hb13).bound.mono (F' := fun k => W11.heap.size ≤ k ∧ k < w13.heap.size) (fun k hk => ⟨hk.1, hk.2⟩)).below hbn
  have p2 := (o2.bound.mono (F' := fun k => W11.heap.size ≤ k ∧ k < w13.heap.size) (fun k hk => ⟨by have h3 : w12.heap.size ≤ k := hk.1; have := S12.out; omega, hk.2⟩)).below hbn
  have X_p : (w13.alloc (.cells #[.int .i64 e.time, .int .i64 e.to, .int .i64 e.from_, .int .i64 e.count, .int .i64 e.n, .int .i64 e.kind, .int .i64 e.arg, .int .i64 xs.x, .int .i64 xs.y, .int .i64 xs.c, .slice E1 (evSort sends).length e1, .slice E2 (outSort outs).length e2] 98)).heap[w13.heap.size]? = some (.cells #[.int .i64 e.time, .int .i64 e.to, .int .i64 e.from_, .int .i64 e.count, .int .i64 e.n, .int .i64 e.kind, .int .i64 e.arg, .int .i64 xs.x, .int .i64 xs.y, .int .i64 xs.c, .slice E1 (evSort sends).length e1, .slice E2 (outSort outs).length e2] 98 (0, 0)) := heap_at rfl
  have S13 := hid (show (w13.alloc (.cells #[.int .i64 e.time, .int .i64 e.to, .int .i64 e.from_, .int .i64 e.count, .int .i64 e.n, .int .i64 e.kind, .int .i64 e.arg, .int .i64 xs.x, .int .i64 xs.y, .int .i64 xs.c, .slice E1 (evSort sends).length e1, .slice E2 (outSort outs).length e2] 98)).heap.size = w13.heap.size + 1 by simp)
  have S14 := hid (show W11.heap.size ≤ w13.heap.size from Nat.le_trans hbd2.size hb13.size)
  clear hbd hbd2 hb12 hb13 hb13b hb13c o1 o2 hbn
  clear c_a0 c_l0 c_l1 c_l2 c_l3 c_l4 c_z0 c_z1 c_z2 c_z3 c_z4 c_e0 c_e1 c_e2 c_e3 c_e4 c_e5 c_e6 c_s0 c_s1 c_s2 c_t0 c_t1 c_t2 c_t3 c_t4 fz0 fz1 fz2 fz3 fz4
  replace HB := bthen HB hbE HB.size
  replace X_a := below_heap hbE (blk_lt X_a) X_a
  replace X_l := below_heap hbE (blk_lt X_l) X_l
  replace X_z := below_heap hbE (blk_lt X_z) X_z
  replace X_e := below_heap hbE (blk_lt X_e) X_e
  replace X_s := below_heap hbE (blk_lt X_s) X_s
  replace X_t := below_heap hbE (blk_lt X_t) X_t
  replace n_s := n_s.below hbE
  replace n_o := n_o.below hbE
  replace n_c := n_c.below hbE
  replace hA := hA.below hbE
  replace h := h.below hbE
  replace hc := hc.below hbE
  clear hbE
  obtain ⟨gp, hg⟩ : ∃ g, g = w13.heap.size := ⟨_, rfl⟩
  have HGP := hid (show gp ≤ w13.heap.size ∧ w13.heap.size ≤ gp by omega)
  rw [← hg] at X_p
  simp only [← hg]
  generalize w13.alloc (.cells #[.int .i64 e.time, .int .i64 e.to, .int .i64 e.from_, .int .i64 e.count, .int .i64 e.n, .int .i64 e.kind, .int .i64 e.arg, .int .i64 xs.x, .int .i64 xs.y, .int .i64 xs.c, .slice E1 (evSort sends).length e1, .slice E2 (outSort outs).length e2] 98) = W14 at *
  clear hg n_s n_o X_a X_e X_s hA h hc
  refine sg_fin ?_
  simp only [pickO, List.getElem?_toArray, List.getElem?_cons_zero, List.getElem?_cons_succ]
  obtain ⟨c_z0, c_z1, c_z2, c_z3, c_z4⟩ := cl5 X_z
  obtain ⟨c_t0, c_t1, c_t2, c_t3, c_t4⟩ := cl5 X_t
  have fz0 := blk_frozen X_z 0
  have fz1 := blk_frozen X_z 1
  have fz2 := blk_frozen X_z 2
  have fz3 := blk_frozen X_z 3
  have fz4 := blk_frozen X_z 4
  have ft4 := blk_frozen X_t 4
  go_upto_region 9 with (at_builtin; go_loud (refine ow_append (d := oPast) (xs := l.done) rfl 50 rfl Tryz.underlying50 _ 128 info_past rfl (by decide) (by decide) rfl n_c ⟨e, xs, evSort sends, outSort outs⟩ _ rfl X_p (fun k => W11.heap.size ≤ k ∧ k < w13.heap.size) ⟨_, _, rfl, p1, p2⟩ (fun q hq hq2 => by have h1 := hq2.2; have h2 := HGT.out; have h3 := S11.out; have h4 : W11.heap.size ≤ q := hq.1; omega) (fun q hq => by have h1 := S13.out; have h2 : q < w13.heap.size := hq.2; omega) (by have h1 := hpp.out.2.1; omega) (fun q => w.heap.size + 1 + 1 < q ∧ q ≠ gT) (fun q hq => by have h1 : w9.heap.size ≤ q := hq.1; have h2 : q < w10.heap.size := hq.2; have h3 := S9.out; have h4 := HGT.out; exact ⟨by omega, by omega⟩) (fun q hq => by have h1 : W11.heap.size ≤ q := hq.1; have h3 := S9.out; have h4 := HGT.out; have h5 := S11.out; have h6 := S10.out; exact ⟨by omega, by omega⟩) (fun q hq => by have h1 := S13.out; have h2 := S14.out; have h3 := S9.out; have h4 := HGT.out; have h5 := S11.out; have h6 := S10.out; exact ⟨by omega, by omega⟩) ?_); intro v1 w1 hO5 hG5 hat5; obtain ⟨V9, c9, rfl, hx9⟩ := hO5.shape; have hne : ∀ q, q ≤ w.heap.size + 1 + 1 ∨ q = gT → ¬ some q = (Value.slice U l.done.length uc).ownBlock := (fun q hq e9 => by have h9 := n_c.inF e9.symm; have h8 : w9.heap.size ≤ q := h9.1; have h7 : q < w10.heap.size := h9.2; have h6 := S9.out; have h5 := HGT.out; omega); have Xt5 := (hG5.block _ (blk_lt X_t) (hne _ (.inr rfl))).trans X_t; have Xz5 := (hG5.block _ (blk_lt X_z) (hne _ (.inl (Nat.le_refl _)))).trans X_z; have fo5 := blk_frozen Xt5 4; have hb5 := HB.trans (grown_below (Below.refl w.heap.size W14) hG5 (fun q hq => by have h9 := n_c.inF hq; have h8 : w9.heap.size ≤ q := h9.1; have h6 := S9.out; omega) HB.size); obtain ⟨ct0, ct1, ct2, ct3, ct4⟩ := cl5 Xt5; obtain ⟨cz0, cz1, cz2, cz3, cz4⟩ := cl5 Xz5; have gz0 := blk_frozen Xz5 0; have gz1 := blk_frozen Xz5 1; have gz2 := blk_frozen Xz5 2; have gz3 := blk_frozen Xz5 3; have gz4 := blk_frozen Xz5 4; clear hat5 hx9 hG5 c_z0 c_z1 c_z2 c_z3 c_z4 c_t0 c_t1 c_t2 c_t3 c_t4 fz0 fz1 fz2 fz3 fz4 ft4)
  have HQ1 : Ch (fun k => k = gT) w1 (w1.setCell ⟨gT, 4, none⟩ (.slice V9 (l.done ++ [(⟨e, xs, evSort sends, outSort outs⟩ : PastD)]).length c9)) := Ch.setCell (p := ⟨gT, 4, none⟩) (Ch.refl (fun k => k = gT) w1) (Or.inl rfl) _
  have X_t := blk_set Xt5 4 (.slice V9 (l.done ++ [(⟨e, xs, evSort sends, outSort outs⟩ : PastD)]).length c9)
  simp only [List.setIfInBounds_toArray, List.set_cons_zero, List.set_cons_succ] at X_t
  have hzt : w.heap.size + 1 + 1 ≠ gT := by have := S9.out; have := HGT.out; have := S10.out; omega
  have X_z := HQ1.heap Xz5 hzt
  have n_f := hO5.ch HQ1 (fun q hq e1 => hq.2 e1)
  replace HB := hb5.trans (HQ1.below (B := w.heap.size) (fun q hq => by have := S9.out; have := HGT.out; have := S10.out; omega) hb5.size)
  obtain ⟨xl, hxl⟩ : ∃ xl, l.done ++ [(⟨e, xs, evSort sends, outSort outs⟩ : PastD)] = xl := ⟨_, rfl⟩
  have HXL := hid hxl
  have hln : l.done.length + 1 = xl.length := by rw [← hxl]; simp
  (try rw [hln])
  (try rw [hxl])
  (try simp only [hln, hxl] at X_t X_z n_f HB ⊢)
  generalize w1.setCell ⟨gT, 4, none⟩ (.slice V9 xl.length c9) = W15 at *
  clear hln hxl hb5 hO5 Xt5 Xz5 HQ1 ct0 ct1 ct2 ct3 ct4 cz0 cz1 cz2 cz3 cz4 gz0 gz1 gz2 gz3 gz4 fo5 hne
  obtain ⟨k0, k1, k2, k3, k4⟩ := cl5 X_t
  obtain ⟨j0, j1, j2, j3, j4⟩ := cl5 X_z
  have jz0 := blk_frozen X_z 0
  have jz1 := blk_frozen X_z 1
  have jz2 := blk_frozen X_z 2
  have jz3 := blk_frozen X_z 3
  have jz4 := blk_frozen X_z 4
  go_wp2_with fail
  have HQ : Ch (fun k => k = w.heap.size + 1 + 1) W15 (((((W15.setCell ⟨w.heap.size + 1 + 1, 0, none⟩ (.int .i64 l.proc)).setCell ⟨w.heap.size + 1 + 1, 1, none⟩ (.int .i64 l.base.x)).setCell ⟨w.heap.size + 1 + 1, 2, none⟩ (.int .i64 l.base.y)).setCell ⟨w.heap.size + 1 + 1, 3, none⟩ (.int .i64 l.base.c)).setCell ⟨w.heap.size + 1 + 1, 4, none⟩ (.slice V9 xl.length c9)) := (Ch.setCell (p := ⟨w.heap.size + 1 + 1, 4, none⟩) (Ch.setCell (p := ⟨w.heap.size + 1 + 1, 3, none⟩) (Ch.setCell (p := ⟨w.heap.size + 1 + 1, 2, none⟩) (Ch.setCell (p := ⟨w.heap.size + 1 + 1, 1, none⟩) (Ch.setCell (p := ⟨w.heap.size + 1 + 1, 0, none⟩) (Ch.refl (fun k => k = w.heap.size + 1 + 1) _) (Or.inl rfl) _) (Or.inl rfl) _) (Or.inl rfl) _) (Or.inl rfl) _) (Or.inl rfl) _)
  have BX := (blk_set (blk_set (blk_set (blk_set (blk_set X_z 0 (.int .i64 l.proc)) 1 (.int .i64 l.base.x)) 2 (.int .i64 l.base.y)) 3 (.int .i64 l.base.c)) 4 (.slice V9 xl.length c9))
  simp only [List.setIfInBounds_toArray, List.set_cons_zero, List.set_cons_succ] at BX
  have hb9 := HB.trans (HQ.below (B := w.heap.size) (fun k hk => by omega) HB.size)
  have hrd := (n_f.ch HQ (fun k hk e1 => by have h3 : w.heap.size + 1 + 1 < k := hk.1; omega)).mono (F' := fun k => w.heap.size ≤ k) (fun k hk => by have h3 : w.heap.size + 1 + 1 < k := hk.1; show w.heap.size ≤ k; omega)
  generalize (((((W15.setCell ⟨w.heap.size + 1 + 1, 0, none⟩ (.int .i64 l.proc)).setCell ⟨w.heap.size + 1 + 1, 1, none⟩ (.int .i64 l.base.x)).setCell ⟨w.heap.size + 1 + 1, 2, none⟩ (.int .i64 l.base.y)).setCell ⟨w.heap.size + 1 + 1, 3, none⟩ (.int .i64 l.base.c)).setCell ⟨w.heap.size + 1 + 1, 4, none⟩ (.slice V9 xl.length c9)) = W12 at *
  obtain ⟨s0, s1, s2, s3, s4⟩ := cl5 BX
  refine bodyPost_ret (v := .tuple #[.agg #[.int .i64 l.proc, .int .i64 l.base.x, .int .i64 l.base.y, .int .i64 l.base.c, .slice V9 xl.length c9], .bool true]) (by simp only [results, Tryz.results18]; go_simp) rfl ⟨⟨l.proc, l.base, xl⟩, true, _, (by rw [laneStep_yes HT1.out HE.out, HD.out, HXL.out]), rfl, hrd, hb9⟩
end Go.Proofs.YtbcemldiahghcaaGreat

namespace Go.Proofs.YtbcemldiahghcaaGreat
set_option linter.unusedVariables false
set_option linter.unusedSimpArgs false
open Go.RowKit
theorem take_eq_snoc {α : Type} {xs ys : List α} {k : Nat} (h : xs.take k = ys.take k) (h0 : k < xs.length) (h1 : k < ys.length) (he : xs[k] = ys[k]) : xs.take (k + 1) = ys.take (k + 1) := by
  rw [List.take_succ_eq_append_getElem h0, List.take_succ_eq_append_getElem h1, h, he]
theorem take_all_eq {α : Type} {xs ys : List α} {k : Nat} (h : xs.take k = ys.take k) (h0 : xs.length ≤ k) (hl : xs.length = ys.length) : xs = ys := by
  rw [List.take_of_length_le h0, List.take_of_length_le (by omega)] at h; exact h
end Go.Proofs.YtbcemldiahghcaaGreat
