/- Texts joined: Ex4, Ey3, Ez3. -/
import Derived.Test.YtbcemldiahghcaaGreatK21
import Derived.Test.YtbcemldiahghcaaGreatK13
import Derived.Test.YtbcemldiahghcaaGreatK31
import Derived.Test.YtbcemldiahghcaaGreatK11
namespace Go.Proofs.YtbcemldiahghcaaGreat
set_option linter.unusedVariables false
set_option linter.unusedSimpArgs false
set_option maxRecDepth 100000
open Go.RowKit
set_option maxHeartbeats 1000000 in
theorem eqOp_c (x y : OpD) (w : World) : Calls Tryz.prog 158 #[.agg #[.int .i64 x.d, .int .i64 x.a, .int .i64 x.b, .int .i64 x.c, .int .i64 x.e], .agg #[.int .i64 y.d, .int .i64 y.a, .int .i64 y.b, .int .i64 y.c, .int .i64 y.e]] w fun q w' => q = .returned (.bool (decide (x = y))) ∧ Below w.heap.size w w' := by
  have HB := balloc (balloc (Below.refl w.heap.size w) (.cells #[.int .i64 x.d, .int .i64 x.a, .int .i64 x.b, .int .i64 x.c, .int .i64 x.e] 150)) (.cells #[.int .i64 y.d, .int .i64 y.a, .int .i64 y.b, .int .i64 y.c, .int .i64 y.e] 150)
  by_cases h0 : x.d = y.d
  case neg =>
    have e0 : (x.d != y.d) = true := by simpa using h0
    have HF := hid (show decide (x = y) = false from decide_eq_false (fun e => h0 (by rw [e])))
    clear h0
    go_enter Tryz.func158, Tryz.ntmps158
    go_wp2_with fail
    go_ret
    exact ⟨by rw [HF.out]; rfl, HB⟩
  have e0 : (x.d != y.d) = false := by simpa using h0
  by_cases h1 : x.a = y.a
  case neg =>
    have e1 : (x.a != y.a) = true := by simpa using h1
    have HF := hid (show decide (x = y) = false from decide_eq_false (fun e => h1 (by rw [e])))
    clear h0 h1
    go_enter Tryz.func158, Tryz.ntmps158
    go_wp2_with fail
    go_ret
    exact ⟨by rw [HF.out]; rfl, HB⟩
  have e1 : (x.a != y.a) = false := by simpa using h1
  by_cases h2 : x.b = y.b
  case neg =>
    have e2 : (x.b != y.b) = true := by simpa using h2
    have HF := hid (show decide (x = y) = false from decide_eq_false (fun e => h2 (by rw [e])))
    clear h0 h1 h2
    go_enter Tryz.func158, Tryz.ntmps158
    go_wp2_with fail
    go_ret
    exact ⟨by rw [HF.out]; rfl, HB⟩
  have e2 : (x.b != y.b) = false := by simpa using h2
  by_cases h3 : x.c = y.c
  case neg =>
    have e3 : (x.c != y.c) = true := by simpa using h3
    have HF := hid (show decide (x = y) = false from decide_eq_false (fun e => h3 (by rw [e])))
    clear h0 h1 h2 h3
    go_enter Tryz.func158, Tryz.ntmps158
    go_wp2_with fail
    go_ret
    exact ⟨by rw [HF.out]; rfl, HB⟩
  have e3 : (x.c != y.c) = false := by simpa using h3
  by_cases h4 : x.e = y.e
  case neg =>
    have e4 : (x.e != y.e) = true := by simpa using h4
    have HF := hid (show decide (x = y) = false from decide_eq_false (fun e => h4 (by rw [e])))
    clear h0 h1 h2 h3 h4
    go_enter Tryz.func158, Tryz.ntmps158
    go_wp2_with fail
    go_ret
    exact ⟨by rw [HF.out]; rfl, HB⟩
  have e4 : (x.e != y.e) = false := by simpa using h4
  have HF := hid (show decide (x = y) = true from decide_eq_true (by cases x; cases y; simp_all))
  clear h0 h1 h2 h3 h4
  go_enter Tryz.func158, Tryz.ntmps158
  go_wp2_with fail
  go_ret
  exact ⟨by rw [HF.out]; rfl, HB⟩
set_option maxHeartbeats 1000000 in
theorem eqOpS_c (v0 v1 : Value) (xs ys : List OpD) (F : Nat → Prop) (w : World) (h0 : Rd tOp w F v0 xs) (h1 : Rd tOp w F v1 ys) :
    Calls Tryz.prog 150 #[v0, v1] w fun q w' => q = .returned (.bool (decide (xs = ys))) ∧ Below w.heap.size w w' := by
  obtain ⟨A0, c0, rfl, -, l0, -⟩ := id h0
  obtain ⟨A1, c1, rfl, -, l1, -⟩ := id h1
  by_cases hl : xs.length = ys.length
  · have hb : (((xs.length : Nat) : Int) != ((ys.length : Nat) : Int)) = false := by simp [hl]
    have HL := hid hl; clear hl
    go_enter Tryz.func150, Tryz.ntmps150
    go_wp2_with fail
    go_loopw [5] (fun i wr => ∃ k : Nat, i = .int .i64 k ∧ k ≤ xs.length ∧ Hid (xs.take k = ys.take k) ∧ Below w.heap.size w wr) (fun i _ => xs.length - (intOf i).toNat)
    case atStart => exact ⟨0, rfl, Nat.zero_le _, rfl, Below.refl _ _⟩
    case round =>
      obtain ⟨k, rfl, hk, HEQ, hB⟩ := hrel
      by_cases hlt : k < xs.length
      · have hlt2 : k < ys.length := by rw [← HL.out]; exact hlt
        have r0 := h0.below hB
        have r1 := h1.below hB
        obtain ⟨b0, o0, rfl, _, y0, y1, y2, y3, y4⟩ := op_at r0 k hlt
        obtain ⟨b1, o1, rfl, _, z0, z1, z2, z3, z4⟩ := op_at r1 k hlt2
        have p0 : (k : Int) < (xs.length : Int) := by omega
        have p1 : (k : Int) < (ys.length : Int) := by omega
        obtain ⟨t, ht⟩ : ∃ t, decide (xs[k] = ys[k]) = t := ⟨_, rfl⟩
        have HT := hid ht
        clear ht
        go_upto_region 6 with fail
        refine region_sg [.rd [0, 1, 2, 3, 4, 5, 6, 7]] [8, 9] (by kernel_rfl) (by kernel_rfl) (fun _ _ d _ _ h => by cases d <;> exact h) ?_
        refine sg_rd (fun N hN => ?_)
        simp only [pickO, List.getElem?_toArray, List.getElem?_cons_zero, List.getElem?_cons_succ]
        go_wp2_with fail
        refine rd_next (hN _ ?_)
        clear hN N
        refine sg_fin ?_
        simp only [pickO, List.getElem?_toArray, List.getElem?_cons_zero, List.getElem?_cons_succ]
        go_wp2_with fail
        have hd := hB.drew
        refine (eqOp_c xs[k] ys[k] _).mono ?_
        rintro q w1 ⟨rfl, hb1⟩
        have hB1 := bthen hd hb1 hd.size
        rw [HT.out]
        apply_assumption
        cases t
        case false =>
          have HF := hid (show decide (xs = ys) = false from decide_eq_false (fun e => of_decide_eq_false HT.out (by simp [e])))
          go_wp2_with fail
          go_ret
          exact ⟨by rw [HF.out]; rfl, hB1⟩
        case true =>
          have HS := hid (take_eq_snoc HEQ.out hlt hlt2 (of_decide_eq_true HT.out))
          go_wp2_with fail
          go_roundw
          case rel => exact ⟨k + 1, by go_num, by omega, HS, hB1⟩
          case measure => simp [intOf]; omega
      · have HF := hid (show decide (xs = ys) = true from decide_eq_true (take_all_eq HEQ.out (by omega) HL.out))
        go_wp2_with fail
        go_ret
        exact ⟨by rw [HF.out]; rfl, hB⟩
  · have hb : (((xs.length : Nat) : Int) != ((ys.length : Nat) : Int)) = true := by rw [bne_iff_ne]; omega
    have HF := hid (show decide (xs = ys) = false from decide_eq_false (fun h => hl (by simp [h])))
    clear hl
    go_enter Tryz.func150, Tryz.ntmps150
    go_wp2_with fail
    go_ret
    exact ⟨by rw [HF.out]; rfl, Below.refl _ _⟩
set_option maxHeartbeats 1000000 in
theorem eqState_c (x y : StD) (w : World) : Calls Tryz.prog 63 #[.agg #[.int .i64 x.x, .int .i64 x.y, .int .i64 x.c], .agg #[.int .i64 y.x, .int .i64 y.y, .int .i64 y.c]] w fun q w' => q = .returned (.bool (decide (x = y))) ∧ Below w.heap.size w w' := by
  have HB := balloc (balloc (Below.refl w.heap.size w) (.cells #[.int .i64 x.x, .int .i64 x.y, .int .i64 x.c] 49)) (.cells #[.int .i64 y.x, .int .i64 y.y, .int .i64 y.c] 49)
  by_cases h0 : x.x = y.x
  case neg =>
    have e0 : (x.x != y.x) = true := by simpa using h0
    have HF := hid (show decide (x = y) = false from decide_eq_false (fun e => h0 (by rw [e])))
    clear h0
    go_enter Tryz.func63, Tryz.ntmps63
    go_wp2_with fail
    go_ret
    exact ⟨by rw [HF.out]; rfl, HB⟩
  have e0 : (x.x != y.x) = false := by simpa using h0
  by_cases h1 : x.y = y.y
  case neg =>
    have e1 : (x.y != y.y) = true := by simpa using h1
    have HF := hid (show decide (x = y) = false from decide_eq_false (fun e => h1 (by rw [e])))
    clear h0 h1
    go_enter Tryz.func63, Tryz.ntmps63
    go_wp2_with fail
    go_ret
    exact ⟨by rw [HF.out]; rfl, HB⟩
  have e1 : (x.y != y.y) = false := by simpa using h1
  by_cases h2 : x.c = y.c
  case neg =>
    have e2 : (x.c != y.c) = true := by simpa using h2
    have HF := hid (show decide (x = y) = false from decide_eq_false (fun e => h2 (by rw [e])))
    clear h0 h1 h2
    go_enter Tryz.func63, Tryz.ntmps63
    go_wp2_with fail
    go_ret
    exact ⟨by rw [HF.out]; rfl, HB⟩
  have e2 : (x.c != y.c) = false := by simpa using h2
  have HF := hid (show decide (x = y) = true from decide_eq_true (by cases x; cases y; simp_all))
  clear h0 h1 h2
  go_enter Tryz.func63, Tryz.ntmps63
  go_wp2_with fail
  go_ret
  exact ⟨by rw [HF.out]; rfl, HB⟩
set_option maxHeartbeats 1000000 in
theorem eqEvent_c (x y : EvD) (w : World) : Calls Tryz.prog 66 #[.agg #[.int .i64 x.time, .int .i64 x.to, .int .i64 x.from_, .int .i64 x.count, .int .i64 x.n, .int .i64 x.kind, .int .i64 x.arg], .agg #[.int .i64 y.time, .int .i64 y.to, .int .i64 y.from_, .int .i64 y.count, .int .i64 y.n, .int .i64 y.kind, .int .i64 y.arg]] w fun q w' => q = .returned (.bool (decide (x = y))) ∧ Below w.heap.size w w' := by
  have HB := balloc (balloc (Below.refl w.heap.size w) (.cells #[.int .i64 x.time, .int .i64 x.to, .int .i64 x.from_, .int .i64 x.count, .int .i64 x.n, .int .i64 x.kind, .int .i64 x.arg] 80)) (.cells #[.int .i64 y.time, .int .i64 y.to, .int .i64 y.from_, .int .i64 y.count, .int .i64 y.n, .int .i64 y.kind, .int .i64 y.arg] 80)
  by_cases h0 : x.time = y.time
  case neg =>
    have e0 : (x.time != y.time) = true := by simpa using h0
    have HF := hid (show decide (x = y) = false from decide_eq_false (fun e => h0 (by rw [e])))
    clear h0
    go_enter Tryz.func66, Tryz.ntmps66
    go_wp2_with fail
    go_ret
    exact ⟨by rw [HF.out]; rfl, HB⟩
  have e0 : (x.time != y.time) = false := by simpa using h0
  by_cases h1 : x.to = y.to
  case neg =>
    have e1 : (x.to != y.to) = true := by simpa using h1
    have HF := hid (show decide (x = y) = false from decide_eq_false (fun e => h1 (by rw [e])))
    clear h0 h1
    go_enter Tryz.func66, Tryz.ntmps66
    go_wp2_with fail
    go_ret
    exact ⟨by rw [HF.out]; rfl, HB⟩
  have e1 : (x.to != y.to) = false := by simpa using h1
  by_cases h2 : x.from_ = y.from_
  case neg =>
    have e2 : (x.from_ != y.from_) = true := by simpa using h2
    have HF := hid (show decide (x = y) = false from decide_eq_false (fun e => h2 (by rw [e])))
    clear h0 h1 h2
    go_enter Tryz.func66, Tryz.ntmps66
    go_wp2_with fail
    go_ret
    exact ⟨by rw [HF.out]; rfl, HB⟩
  have e2 : (x.from_ != y.from_) = false := by simpa using h2
  by_cases h3 : x.count = y.count
  case neg =>
    have e3 : (x.count != y.count) = true := by simpa using h3
    have HF := hid (show decide (x = y) = false from decide_eq_false (fun e => h3 (by rw [e])))
    clear h0 h1 h2 h3
    go_enter Tryz.func66, Tryz.ntmps66
    go_wp2_with fail
    go_ret
    exact ⟨by rw [HF.out]; rfl, HB⟩
  have e3 : (x.count != y.count) = false := by simpa using h3
  by_cases h4 : x.n = y.n
  case neg =>
    have e4 : (x.n != y.n) = true := by simpa using h4
    have HF := hid (show decide (x = y) = false from decide_eq_false (fun e => h4 (by rw [e])))
    clear h0 h1 h2 h3 h4
    go_enter Tryz.func66, Tryz.ntmps66
    go_wp2_with fail
    go_ret
    exact ⟨by rw [HF.out]; rfl, HB⟩
  have e4 : (x.n != y.n) = false := by simpa using h4
  by_cases h5 : x.kind = y.kind
  case neg =>
    have e5 : (x.kind != y.kind) = true := by simpa using h5
    have HF := hid (show decide (x = y) = false from decide_eq_false (fun e => h5 (by rw [e])))
    clear h0 h1 h2 h3 h4 h5
    go_enter Tryz.func66, Tryz.ntmps66
    go_wp2_with fail
    go_ret
    exact ⟨by rw [HF.out]; rfl, HB⟩
  have e5 : (x.kind != y.kind) = false := by simpa using h5
  by_cases h6 : x.arg = y.arg
  case neg =>
    have e6 : (x.arg != y.arg) = true := by simpa using h6
    have HF := hid (show decide (x = y) = false from decide_eq_false (fun e => h6 (by rw [e])))
    clear h0 h1 h2 h3 h4 h5 h6
    go_enter Tryz.func66, Tryz.ntmps66
    go_wp2_with fail
    go_ret
    exact ⟨by rw [HF.out]; rfl, HB⟩
  have e6 : (x.arg != y.arg) = false := by simpa using h6
  have HF := hid (show decide (x = y) = true from decide_eq_true (by cases x; cases y; simp_all))
  clear h0 h1 h2 h3 h4 h5 h6
  go_enter Tryz.func66, Tryz.ntmps66
  go_wp2_with fail
  go_ret
  exact ⟨by rw [HF.out]; rfl, HB⟩
set_option maxHeartbeats 1000000 in
theorem eqOut_c (x y : OutD) (w : World) : Calls Tryz.prog 88 #[.agg #[.int .i64 x.time, .int .i64 x.proc, .int .i64 x.count, .int .i64 x.n, .int .i64 x.value], .agg #[.int .i64 y.time, .int .i64 y.proc, .int .i64 y.count, .int .i64 y.n, .int .i64 y.value]] w fun q w' => q = .returned (.bool (decide (x = y))) ∧ Below w.heap.size w w' := by
  have HB := balloc (balloc (Below.refl w.heap.size w) (.cells #[.int .i64 x.time, .int .i64 x.proc, .int .i64 x.count, .int .i64 x.n, .int .i64 x.value] 128)) (.cells #[.int .i64 y.time, .int .i64 y.proc, .int .i64 y.count, .int .i64 y.n, .int .i64 y.value] 128)
  by_cases h0 : x.time = y.time
  case neg =>
    have e0 : (x.time != y.time) = true := by simpa using h0
    have HF := hid (show decide (x = y) = false from decide_eq_false (fun e => h0 (by rw [e])))
    clear h0
    go_enter Tryz.func88, Tryz.ntmps88
    go_wp2_with fail
    go_ret
    exact ⟨by rw [HF.out]; rfl, HB⟩
  have e0 : (x.time != y.time) = false := by simpa using h0
  by_cases h1 : x.proc = y.proc
  case neg =>
    have e1 : (x.proc != y.proc) = true := by simpa using h1
    have HF := hid (show decide (x = y) = false from decide_eq_false (fun e => h1 (by rw [e])))
    clear h0 h1
    go_enter Tryz.func88, Tryz.ntmps88
    go_wp2_with fail
    go_ret
    exact ⟨by rw [HF.out]; rfl, HB⟩
  have e1 : (x.proc != y.proc) = false := by simpa using h1
  by_cases h2 : x.count = y.count
  case neg =>
    have e2 : (x.count != y.count) = true := by simpa using h2
    have HF := hid (show decide (x = y) = false from decide_eq_false (fun e => h2 (by rw [e])))
    clear h0 h1 h2
    go_enter Tryz.func88, Tryz.ntmps88
    go_wp2_with fail
    go_ret
    exact ⟨by rw [HF.out]; rfl, HB⟩
  have e2 : (x.count != y.count) = false := by simpa using h2
  by_cases h3 : x.n = y.n
  case neg =>
    have e3 : (x.n != y.n) = true := by simpa using h3
    have HF := hid (show decide (x = y) = false from decide_eq_false (fun e => h3 (by rw [e])))
    clear h0 h1 h2 h3
    go_enter Tryz.func88, Tryz.ntmps88
    go_wp2_with fail
    go_ret
    exact ⟨by rw [HF.out]; rfl, HB⟩
  have e3 : (x.n != y.n) = false := by simpa using h3
  by_cases h4 : x.value = y.value
  case neg =>
    have e4 : (x.value != y.value) = true := by simpa using h4
    have HF := hid (show decide (x = y) = false from decide_eq_false (fun e => h4 (by rw [e])))
    clear h0 h1 h2 h3 h4
    go_enter Tryz.func88, Tryz.ntmps88
    go_wp2_with fail
    go_ret
    exact ⟨by rw [HF.out]; rfl, HB⟩
  have e4 : (x.value != y.value) = false := by simpa using h4
  have HF := hid (show decide (x = y) = true from decide_eq_true (by cases x; cases y; simp_all))
  clear h0 h1 h2 h3 h4
  go_enter Tryz.func88, Tryz.ntmps88
  go_wp2_with fail
  go_ret
  exact ⟨by rw [HF.out]; rfl, HB⟩
set_option maxHeartbeats 1000000 in
theorem eqEventS_c (v0 v1 : Value) (xs ys : List EvD) (F : Nat → Prop) (w : World) (h0 : Rd tEv w F v0 xs) (h1 : Rd tEv w F v1 ys) :
    Calls Tryz.prog 25 #[v0, v1] w fun q w' => q = .returned (.bool (decide (xs = ys))) ∧ Below w.heap.size w w' := by
  obtain ⟨A0, c0, rfl, -, l0, -⟩ := id h0
  obtain ⟨A1, c1, rfl, -, l1, -⟩ := id h1
  by_cases hl : xs.length = ys.length
  · have hb : (((xs.length : Nat) : Int) != ((ys.length : Nat) : Int)) = false := by simp [hl]
    have HL := hid hl; clear hl
    go_enter Tryz.func25, Tryz.ntmps25
    go_wp2_with fail
    go_loopw [5] (fun i wr => ∃ k : Nat, i = .int .i64 k ∧ k ≤ xs.length ∧ Hid (xs.take k = ys.take k) ∧ Below w.heap.size w wr) (fun i _ => xs.length - (intOf i).toNat)
    case atStart => exact ⟨0, rfl, Nat.zero_le _, rfl, Below.refl _ _⟩
    case round =>
      obtain ⟨k, rfl, hk, HEQ, hB⟩ := hrel
      by_cases hlt : k < xs.length
      · have hlt2 : k < ys.length := by rw [← HL.out]; exact hlt
        have r0 := h0.below hB
        have r1 := h1.below hB
        obtain ⟨b0, o0, rfl, _, y0, y1, y2, y3, y4, y5, y6⟩ := ev_at r0 k hlt
        obtain ⟨b1, o1, rfl, _, z0, z1, z2, z3, z4, z5, z6⟩ := ev_at r1 k hlt2
        have p0 : (k : Int) < (xs.length : Int) := by omega
        have p1 : (k : Int) < (ys.length : Int) := by omega
        obtain ⟨t, ht⟩ : ∃ t, decide (xs[k] = ys[k]) = t := ⟨_, rfl⟩
        have HT := hid ht
        clear ht
        go_upto_region 6 with fail
        refine region_sg [.rd [0, 1, 2, 3, 4, 5, 6, 7]] [8, 9] (by kernel_rfl) (by kernel_rfl) (fun _ _ d _ _ h => by cases d <;> exact h) ?_
        refine sg_rd (fun N hN => ?_)
        simp only [pickO, List.getElem?_toArray, List.getElem?_cons_zero, List.getElem?_cons_succ]
        go_wp2_with fail
        refine rd_next (hN _ ?_)
        clear hN N
        refine sg_fin ?_
        simp only [pickO, List.getElem?_toArray, List.getElem?_cons_zero, List.getElem?_cons_succ]
        go_wp2_with fail
        have hd := hB.drew
        refine (eqEvent_c xs[k] ys[k] _).mono ?_
        rintro q w1 ⟨rfl, hb1⟩
        have hB1 := bthen hd hb1 hd.size
        rw [HT.out]
        apply_assumption
        cases t
        case false =>
          have HF := hid (show decide (xs = ys) = false from decide_eq_false (fun e => of_decide_eq_false HT.out (by simp [e])))
          go_wp2_with fail
          go_ret
          exact ⟨by rw [HF.out]; rfl, hB1⟩
        case true =>
          have HS := hid (take_eq_snoc HEQ.out hlt hlt2 (of_decide_eq_true HT.out))
          go_wp2_with fail
          go_roundw
          case rel => exact ⟨k + 1, by go_num, by omega, HS, hB1⟩
          case measure => simp [intOf]; omega
      · have HF := hid (show decide (xs = ys) = true from decide_eq_true (take_all_eq HEQ.out (by omega) HL.out))
        go_wp2_with fail
        go_ret
        exact ⟨by rw [HF.out]; rfl, hB⟩
  · have hb : (((xs.length : Nat) : Int) != ((ys.length : Nat) : Int)) = true := by rw [bne_iff_ne]; omega
    have HF := hid (show decide (xs = ys) = false from decide_eq_false (fun h => hl (by simp [h])))
    clear hl
    go_enter Tryz.func25, Tryz.ntmps25
    go_wp2_with fail
    go_ret
    exact ⟨by rw [HF.out]; rfl, Below.refl _ _⟩
set_option maxHeartbeats 1000000 in
theorem eqOutS_c (v0 v1 : Value) (xs ys : List OutD) (F : Nat → Prop) (w : World) (h0 : Rd tOut w F v0 xs) (h1 : Rd tOut w F v1 ys) :
    Calls Tryz.prog 40 #[v0, v1] w fun q w' => q = .returned (.bool (decide (xs = ys))) ∧ Below w.heap.size w w' := by
  obtain ⟨A0, c0, rfl, -, l0, -⟩ := id h0
  obtain ⟨A1, c1, rfl, -, l1, -⟩ := id h1
  by_cases hl : xs.length = ys.length
  · have hb : (((xs.length : Nat) : Int) != ((ys.length : Nat) : Int)) = false := by simp [hl]
    have HL := hid hl; clear hl
    go_enter Tryz.func40, Tryz.ntmps40
    go_wp2_with fail
    go_loopw [5] (fun i wr => ∃ k : Nat, i = .int .i64 k ∧ k ≤ xs.length ∧ Hid (xs.take k = ys.take k) ∧ Below w.heap.size w wr) (fun i _ => xs.length - (intOf i).toNat)
    case atStart => exact ⟨0, rfl, Nat.zero_le _, rfl, Below.refl _ _⟩
    case round =>
      obtain ⟨k, rfl, hk, HEQ, hB⟩ := hrel
      by_cases hlt : k < xs.length
      · have hlt2 : k < ys.length := by rw [← HL.out]; exact hlt
        have r0 := h0.below hB
        have r1 := h1.below hB
        obtain ⟨b0, o0, rfl, _, y0, y1, y2, y3, y4⟩ := out_at r0 k hlt
        obtain ⟨b1, o1, rfl, _, z0, z1, z2, z3, z4⟩ := out_at r1 k hlt2
        have p0 : (k : Int) < (xs.length : Int) := by omega
        have p1 : (k : Int) < (ys.length : Int) := by omega
        obtain ⟨t, ht⟩ : ∃ t, decide (xs[k] = ys[k]) = t := ⟨_, rfl⟩
        have HT := hid ht
        clear ht
        go_upto_region 6 with fail
        refine region_sg [.rd [0, 1, 2, 3, 4, 5, 6, 7]] [8, 9] (by kernel_rfl) (by kernel_rfl) (fun _ _ d _ _ h => by cases d <;> exact h) ?_
        refine sg_rd (fun N hN => ?_)
        simp only [pickO, List.getElem?_toArray, List.getElem?_cons_zero, List.getElem?_cons_succ]
        go_wp2_with fail
        refine rd_next (hN _ ?_)
        clear hN N
        refine sg_fin ?_
        simp only [pickO, List.getElem?_toArray, List.getElem?_cons_zero, List.getElem?_cons_succ]
        go_wp2_with fail
        have hd := hB.drew
        refine (eqOut_c xs[k] ys[k] _).mono ?_
        rintro q w1 ⟨rfl, hb1⟩
        have hB1 := bthen hd hb1 hd.size
        rw [HT.out]
        apply_assumption
        cases t
        case false =>
          have HF := hid (show decide (xs = ys) = false from decide_eq_false (fun e => of_decide_eq_false HT.out (by simp [e])))
          go_wp2_with fail
          go_ret
          exact ⟨by rw [HF.out]; rfl, hB1⟩
        case true =>
          have HS := hid (take_eq_snoc HEQ.out hlt hlt2 (of_decide_eq_true HT.out))
          go_wp2_with fail
          go_roundw
          case rel => exact ⟨k + 1, by go_num, by omega, HS, hB1⟩
          case measure => simp [intOf]; omega
      · have HF := hid (show decide (xs = ys) = true from decide_eq_true (take_all_eq HEQ.out (by omega) HL.out))
        go_wp2_with fail
        go_ret
        exact ⟨by rw [HF.out]; rfl, hB⟩
  · have hb : (((xs.length : Nat) : Int) != ((ys.length : Nat) : Int)) = true := by rw [bne_iff_ne]; omega
    have HF := hid (show decide (xs = ys) = false from decide_eq_false (fun h => hl (by simp [h])))
    clear hl
    go_enter Tryz.func40, Tryz.ntmps40
    go_wp2_with fail
    go_ret
    exact ⟨by rw [HF.out]; rfl, Below.refl _ _⟩
set_option maxHeartbeats 1000000 in
theorem eqRule_c (x y : RuleD) (v0 v1 : Value) (F : Nat → Prop) (w : World) (h0 : Rd tOp w F v0 x.ops) (h1 : Rd tOp w F v1 y.ops) : Calls Tryz.prog 117 #[.agg #[.int .i64 x.kind, v0], .agg #[.int .i64 y.kind, v1]] w fun q w' => q = .returned (.bool (decide (x = y))) ∧ Below w.heap.size w w' := by
  obtain ⟨A0, c0, rfl, -⟩ := h0.shape
  obtain ⟨A1, c1, rfl, -⟩ := h1.shape
  have HB := balloc (balloc (Below.refl w.heap.size w) (.cells #[.int .i64 x.kind, .slice A0 x.ops.length c0] 120)) (.cells #[.int .i64 y.kind, .slice A1 y.ops.length c1] 120)
  by_cases k0 : x.kind = y.kind
  case neg =>
    have e0 : (x.kind != y.kind) = true := by simpa using k0
    have HF := hid (show decide (x = y) = false from decide_eq_false (fun e => k0 (by rw [e])))
    clear k0
    go_enter Tryz.func117, Tryz.ntmps117
    go_wp2_with fail
    go_ret
    exact ⟨by rw [HF.out]; rfl, HB⟩
  have e0 : (x.kind != y.kind) = false := by simpa using k0
  obtain ⟨t, ht⟩ : ∃ t, decide (x.ops = y.ops) = t := ⟨_, rfl⟩
  have HT := hid (show decide (x = y) = t by
    rw [← ht, decide_eq_decide]
    constructor
    · intro e; rw [e]
    · intro e; cases x; cases y; simp_all)
  clear k0
  go_enter Tryz.func117, Tryz.ntmps117
  go_wp2_with fail
  refine (eqOpS_c _ _ x.ops y.ops _ _ (h0.below HB) (h1.below HB)).mono ?_
  rintro q w1 ⟨rfl, hb1⟩
  have hB1 := bthen' HB hb1
  rw [ht]
  have HT' := hid ht
  clear ht
  apply_assumption
  cases t
  case false =>
    go_wp2_with fail
    go_ret
    exact ⟨by rw [HT.out]; rfl, hB1⟩
  case true =>
    go_wp2_with fail
    go_ret
    exact ⟨by rw [HT.out]; rfl, hB1⟩
set_option maxHeartbeats 1000000 in
theorem eqRuleS_c (v0 v1 : Value) (xs ys : List RuleD) (F : Nat → Prop) (w : World) (h0 : Rd tRule w F v0 xs) (h1 : Rd tRule w F v1 ys) :
    Calls Tryz.prog 65 #[v0, v1] w fun q w' => q = .returned (.bool (decide (xs = ys))) ∧ Below w.heap.size w w' := by
  obtain ⟨A0, c0, rfl, -, l0, -⟩ := id h0
  obtain ⟨A1, c1, rfl, -, l1, -⟩ := id h1
  by_cases hl : xs.length = ys.length
  · have hb : (((xs.length : Nat) : Int) != ((ys.length : Nat) : Int)) = false := by simp [hl]
    have HL := hid hl; clear hl
    go_enter Tryz.func65, Tryz.ntmps65
    go_wp2_with fail
    go_loopw [5] (fun i wr => ∃ k : Nat, i = .int .i64 k ∧ k ≤ xs.length ∧ Hid (xs.take k = ys.take k) ∧ Below w.heap.size w wr) (fun i _ => xs.length - (intOf i).toNat)
    case atStart => exact ⟨0, rfl, Nat.zero_le _, rfl, Below.refl _ _⟩
    case round =>
      obtain ⟨k, rfl, hk, HEQ, hB⟩ := hrel
      by_cases hlt : k < xs.length
      · have hlt2 : k < ys.length := by rw [← HL.out]; exact hlt
        have r0 := h0.below hB
        have r1 := h1.below hB
        obtain ⟨b0, o0, B0, d0, rfl, _, y0, y1, s0⟩ := rule_at r0 k hlt
        obtain ⟨b1, o1, B1, d1, rfl, _, z0, z1, s1⟩ := rule_at r1 k hlt2
        have p0 : (k : Int) < (xs.length : Int) := by omega
        have p1 : (k : Int) < (ys.length : Int) := by omega
        obtain ⟨t, ht⟩ : ∃ t, decide (xs[k] = ys[k]) = t := ⟨_, rfl⟩
        have HT := hid ht
        clear ht
        go_upto_region 6 with fail
        refine region_sg [.rd [0, 1, 2, 3, 4, 5, 6, 7]] [8, 9] (by kernel_rfl) (by kernel_rfl) (fun _ _ d _ _ h => by cases d <;> exact h) ?_
        refine sg_rd (fun N hN => ?_)
        simp only [pickO, List.getElem?_toArray, List.getElem?_cons_zero, List.getElem?_cons_succ]
        go_wp2_with fail
        refine rd_next (hN _ ?_)
        clear hN N
        refine sg_fin ?_
        simp only [pickO, List.getElem?_toArray, List.getElem?_cons_zero, List.getElem?_cons_succ]
        go_wp2_with fail
        have hd := hB.drew
        refine (eqRule_c xs[k] ys[k] _ _ _ _ (s0.below (Below.refl wr.heap.size wr).drew) (s1.below (Below.refl wr.heap.size wr).drew)).mono ?_
        rintro q w1 ⟨rfl, hb1⟩
        have hB1 := bthen hd hb1 hd.size
        rw [HT.out]
        apply_assumption
        cases t
        case false =>
          have HF := hid (show decide (xs = ys) = false from decide_eq_false (fun e => of_decide_eq_false HT.out (by simp [e])))
          go_wp2_with fail
          go_ret
          exact ⟨by rw [HF.out]; rfl, hB1⟩
        case true =>
          have HS := hid (take_eq_snoc HEQ.out hlt hlt2 (of_decide_eq_true HT.out))
          go_wp2_with fail
          go_roundw
          case rel => exact ⟨k + 1, by go_num, by omega, HS, hB1⟩
          case measure => simp [intOf]; omega
      · have HF := hid (show decide (xs = ys) = true from decide_eq_true (take_all_eq HEQ.out (by omega) HL.out))
        go_wp2_with fail
        go_ret
        exact ⟨by rw [HF.out]; rfl, hB⟩
  · have hb : (((xs.length : Nat) : Int) != ((ys.length : Nat) : Int)) = true := by rw [bne_iff_ne]; omega
    have HF := hid (show decide (xs = ys) = false from decide_eq_false (fun h => hl (by simp [h])))
    clear hl
    go_enter Tryz.func65, Tryz.ntmps65
    go_wp2_with fail
    go_ret
    exact ⟨by rw [HF.out]; rfl, Below.refl _ _⟩
set_option maxHeartbeats 1000000 in
theorem eqApp_c (x y : AppD) (v0 v1 : Value) (F : Nat → Prop) (w : World) (h0 : Rd tRule w F v0 x.rules) (h1 : Rd tRule w F v1 y.rules) : Calls Tryz.prog 24 #[.agg #[v0], .agg #[v1]] w fun q w' => q = .returned (.bool (decide (x = y))) ∧ Below w.heap.size w w' := by
  obtain ⟨A0, c0, rfl, -⟩ := h0.shape
  obtain ⟨A1, c1, rfl, -⟩ := h1.shape
  have HB := balloc (balloc (Below.refl w.heap.size w) (.cells #[.slice A0 x.rules.length c0] 57)) (.cells #[.slice A1 y.rules.length c1] 57)
  obtain ⟨t, ht⟩ : ∃ t, decide (x.rules = y.rules) = t := ⟨_, rfl⟩
  have HT := hid (show decide (x = y) = t by
    rw [← ht, decide_eq_decide]
    constructor
    · intro e; rw [e]
    · intro e; cases x; cases y; simp_all)
  go_enter Tryz.func24, Tryz.ntmps24
  go_wp2_with fail
  refine (eqRuleS_c _ _ x.rules y.rules _ _ (h0.below HB) (h1.below HB)).mono ?_
  rintro q w1 ⟨rfl, hb1⟩
  have hB1 := bthen' HB hb1
  rw [ht]
  have HT' := hid ht
  clear ht
  apply_assumption
  cases t
  case false =>
    go_wp2_with fail
    go_ret
    exact ⟨by rw [HT.out]; rfl, hB1⟩
  case true =>
    go_wp2_with fail
    go_ret
    exact ⟨by rw [HT.out]; rfl, hB1⟩
end Go.Proofs.YtbcemldiahghcaaGreat

namespace Go.Proofs.YtbcemldiahghcaaGreat
set_option linter.unusedVariables false
set_option linter.unusedSimpArgs false
set_option maxRecDepth 100000
open Go.RowKit
end Go.Proofs.YtbcemldiahghcaaGreat

namespace Go.Proofs.YtbcemldiahghcaaGreat
set_option linter.unusedVariables false
set_option linter.unusedSimpArgs false
set_option maxRecDepth 100000
open Go.RowKit
theorem past_eq {x y : PastD} (h1 : x.ev = y.ev) (h2 : x.st = y.st) (h3 : x.sends = y.sends) (h4 : x.outs = y.outs) : x = y := by cases x; cases y; simp_all
theorem lane_eq {x y : LaneD} (h1 : x.proc = y.proc) (h2 : x.base = y.base) (h3 : x.done = y.done) : x = y := by cases x; cases y; simp_all
set_option maxHeartbeats 2000000 in
theorem eqPast_c (x y : PastD) (vs vo us uo : Value) (F : Nat → Prop) (w : World) (g1 : Rd tEv w F vs x.sends) (g2 : Rd tOut w F vo x.outs) (g3 : Rd tEv w F us y.sends) (g4 : Rd tOut w F uo y.outs) :
    Calls Tryz.prog 116 #[.agg #[.int .i64 x.ev.time, .int .i64 x.ev.to, .int .i64 x.ev.from_, .int .i64 x.ev.count, .int .i64 x.ev.n, .int .i64 x.ev.kind, .int .i64 x.ev.arg, .int .i64 x.st.x, .int .i64 x.st.y, .int .i64 x.st.c, vs, vo], .agg #[.int .i64 y.ev.time, .int .i64 y.ev.to, .int .i64 y.ev.from_, .int .i64 y.ev.count, .int .i64 y.ev.n, .int .i64 y.ev.kind, .int .i64 y.ev.arg, .int .i64 y.st.x, .int .i64 y.st.y, .int .i64 y.st.c, us, uo]] w fun q w' => q = .returned (.bool (decide (x = y))) ∧ Below w.heap.size w w' := by
  obtain ⟨A1, c1, rfl, -⟩ := g1.shape
  obtain ⟨A2, c2, rfl, -⟩ := g2.shape
  obtain ⟨A3, c3, rfl, -⟩ := g3.shape
  obtain ⟨A4, c4, rfl, -⟩ := g4.shape
  have HB0 : Below w.heap.size w ((w.alloc (.cells #[.int .i64 x.ev.time, .int .i64 x.ev.to, .int .i64 x.ev.from_, .int .i64 x.ev.count, .int .i64 x.ev.n, .int .i64 x.ev.kind, .int .i64 x.ev.arg, .int .i64 x.st.x, .int .i64 x.st.y, .int .i64 x.st.c, .slice A1 x.sends.length c1, .slice A2 x.outs.length c2] 98)).alloc (.cells #[.int .i64 y.ev.time, .int .i64 y.ev.to, .int .i64 y.ev.from_, .int .i64 y.ev.count, .int .i64 y.ev.n, .int .i64 y.ev.kind, .int .i64 y.ev.arg, .int .i64 y.st.x, .int .i64 y.st.y, .int .i64 y.st.c, .slice A3 y.sends.length c3, .slice A4 y.outs.length c4] 98)) := balloc (balloc (Below.refl w.heap.size w) _) _
  have Z0 : ((w.alloc (.cells #[.int .i64 x.ev.time, .int .i64 x.ev.to, .int .i64 x.ev.from_, .int .i64 x.ev.count, .int .i64 x.ev.n, .int .i64 x.ev.kind, .int .i64 x.ev.arg, .int .i64 x.st.x, .int .i64 x.st.y, .int .i64 x.st.c, .slice A1 x.sends.length c1, .slice A2 x.outs.length c2] 98)).alloc (.cells #[.int .i64 y.ev.time, .int .i64 y.ev.to, .int .i64 y.ev.from_, .int .i64 y.ev.count, .int .i64 y.ev.n, .int .i64 y.ev.kind, .int .i64 y.ev.arg, .int .i64 y.st.x, .int .i64 y.st.y, .int .i64 y.st.c, .slice A3 y.sends.length c3, .slice A4 y.outs.length c4] 98)).heap[w.heap.size]? = some (.cells #[.int .i64 x.ev.time, .int .i64 x.ev.to, .int .i64 x.ev.from_, .int .i64 x.ev.count, .int .i64 x.ev.n, .int .i64 x.ev.kind, .int .i64 x.ev.arg, .int .i64 x.st.x, .int .i64 x.st.y, .int .i64 x.st.c, .slice A1 x.sends.length c1, .slice A2 x.outs.length c2] 98 (0, 0)) := (heap_old (by simp)).trans (heap_at rfl)
  have Z1 : ((w.alloc (.cells #[.int .i64 x.ev.time, .int .i64 x.ev.to, .int .i64 x.ev.from_, .int .i64 x.ev.count, .int .i64 x.ev.n, .int .i64 x.ev.kind, .int .i64 x.ev.arg, .int .i64 x.st.x, .int .i64 x.st.y, .int .i64 x.st.c, .slice A1 x.sends.length c1, .slice A2 x.outs.length c2] 98)).alloc (.cells #[.int .i64 y.ev.time, .int .i64 y.ev.to, .int .i64 y.ev.from_, .int .i64 y.ev.count, .int .i64 y.ev.n, .int .i64 y.ev.kind, .int .i64 y.ev.arg, .int .i64 y.st.x, .int .i64 y.st.y, .int .i64 y.st.c, .slice A3 y.sends.length c3, .slice A4 y.outs.length c4] 98)).heap[w.heap.size + 1]? = some (.cells #[.int .i64 y.ev.time, .int .i64 y.ev.to, .int .i64 y.ev.from_, .int .i64 y.ev.count, .int .i64 y.ev.n, .int .i64 y.ev.kind, .int .i64 y.ev.arg, .int .i64 y.st.x, .int .i64 y.st.y, .int .i64 y.st.c, .slice A3 y.sends.length c3, .slice A4 y.outs.length c4] 98 (0, 0)) := heap_at (by simp)
  go_enter Tryz.func116, Tryz.ntmps116
  go_wp2_with fail
  generalize (w.alloc (.cells #[.int .i64 x.ev.time, .int .i64 x.ev.to, .int .i64 x.ev.from_, .int .i64 x.ev.count, .int .i64 x.ev.n, .int .i64 x.ev.kind, .int .i64 x.ev.arg, .int .i64 x.st.x, .int .i64 x.st.y, .int .i64 x.st.c, .slice A1 x.sends.length c1, .slice A2 x.outs.length c2] 98)).alloc (.cells #[.int .i64 y.ev.time, .int .i64 y.ev.to, .int .i64 y.ev.from_, .int .i64 y.ev.count, .int .i64 y.ev.n, .int .i64 y.ev.kind, .int .i64 y.ev.arg, .int .i64 y.st.x, .int .i64 y.st.y, .int .i64 y.st.c, .slice A3 y.sends.length c3, .slice A4 y.outs.length c4] 98) = W at *
  obtain ⟨t0, ht0⟩ : ∃ t, decide (x.ev = y.ev) = t := ⟨_, rfl⟩
  refine (eqEvent_c x.ev y.ev _).mono ?_
  rintro q w0 ⟨rfl, hb0⟩
  have HB1 := bthen HB0 hb0 (Below.size HB0)
  (try rw [ht0])
  have HT0 := hid ht0
  have Y0 := below_heap hb0 (blk_lt Z0) Z0
  have Y1 := below_heap hb0 (blk_lt Z1) Z1
  clear ht0 Z0 Z1 hb0
  have Z0 := Y0; have Z1 := Y1; clear Y0 Y1
  have c0_0 : w0.cell? ⟨w.heap.size, 0, none⟩ = some (.int .i64 x.ev.time) := blk_cell Z0 0
  have c0_1 : w0.cell? ⟨w.heap.size, 1, none⟩ = some (.int .i64 x.ev.to) := blk_cell Z0 1
  have c0_2 : w0.cell? ⟨w.heap.size, 2, none⟩ = some (.int .i64 x.ev.from_) := blk_cell Z0 2
  have c0_3 : w0.cell? ⟨w.heap.size, 3, none⟩ = some (.int .i64 x.ev.count) := blk_cell Z0 3
  have c0_4 : w0.cell? ⟨w.heap.size, 4, none⟩ = some (.int .i64 x.ev.n) := blk_cell Z0 4
  have c0_5 : w0.cell? ⟨w.heap.size, 5, none⟩ = some (.int .i64 x.ev.kind) := blk_cell Z0 5
  have c0_6 : w0.cell? ⟨w.heap.size, 6, none⟩ = some (.int .i64 x.ev.arg) := blk_cell Z0 6
  have c0_7 : w0.cell? ⟨w.heap.size, 7, none⟩ = some (.int .i64 x.st.x) := blk_cell Z0 7
  have c0_8 : w0.cell? ⟨w.heap.size, 8, none⟩ = some (.int .i64 x.st.y) := blk_cell Z0 8
  have c0_9 : w0.cell? ⟨w.heap.size, 9, none⟩ = some (.int .i64 x.st.c) := blk_cell Z0 9
  have c0_10 : w0.cell? ⟨w.heap.size, 10, none⟩ = some (.slice A1 x.sends.length c1) := blk_cell Z0 10
  have c0_11 : w0.cell? ⟨w.heap.size, 11, none⟩ = some (.slice A2 x.outs.length c2) := blk_cell Z0 11
  have d0_0 : w0.cell? ⟨w.heap.size + 1, 0, none⟩ = some (.int .i64 y.ev.time) := blk_cell Z1 0
  have d0_1 : w0.cell? ⟨w.heap.size + 1, 1, none⟩ = some (.int .i64 y.ev.to) := blk_cell Z1 1
  have d0_2 : w0.cell? ⟨w.heap.size + 1, 2, none⟩ = some (.int .i64 y.ev.from_) := blk_cell Z1 2
  have d0_3 : w0.cell? ⟨w.heap.size + 1, 3, none⟩ = some (.int .i64 y.ev.count) := blk_cell Z1 3
  have d0_4 : w0.cell? ⟨w.heap.size + 1, 4, none⟩ = some (.int .i64 y.ev.n) := blk_cell Z1 4
  have d0_5 : w0.cell? ⟨w.heap.size + 1, 5, none⟩ = some (.int .i64 y.ev.kind) := blk_cell Z1 5
  have d0_6 : w0.cell? ⟨w.heap.size + 1, 6, none⟩ = some (.int .i64 y.ev.arg) := blk_cell Z1 6
  have d0_7 : w0.cell? ⟨w.heap.size + 1, 7, none⟩ = some (.int .i64 y.st.x) := blk_cell Z1 7
  have d0_8 : w0.cell? ⟨w.heap.size + 1, 8, none⟩ = some (.int .i64 y.st.y) := blk_cell Z1 8
  have d0_9 : w0.cell? ⟨w.heap.size + 1, 9, none⟩ = some (.int .i64 y.st.c) := blk_cell Z1 9
  have d0_10 : w0.cell? ⟨w.heap.size + 1, 10, none⟩ = some (.slice A3 y.sends.length c3) := blk_cell Z1 10
  have d0_11 : w0.cell? ⟨w.heap.size + 1, 11, none⟩ = some (.slice A4 y.outs.length c4) := blk_cell Z1 11
  apply_assumption
  by_cases g0 : t0 = true
  case neg =>
    have g0' : t0 = false := by simpa using g0
    have HF := hid (show decide (x = y) = false from decide_eq_false (fun e => by have h9 := HT0.out; rw [g0', decide_eq_false_iff_not] at h9; exact h9 (by rw [e])))
    clear g0 HT0
    subst g0'
    go_wp2_with fail
    go_ret
    exact ⟨by rw [HF.out]; rfl, HB1⟩
  have E0 := hid (show x.ev = y.ev from of_decide_eq_true (HT0.out.trans g0))
  clear HT0
  subst g0
  go_wp2_with fail
  obtain ⟨t1, ht1⟩ : ∃ t, decide (x.st = y.st) = t := ⟨_, rfl⟩
  refine (eqState_c x.st y.st _).mono ?_
  rintro q w1 ⟨rfl, hb1⟩
  have HB2 := bthen HB1 hb1 (Below.size HB1)
  (try rw [ht1])
  have HT1 := hid ht1
  have Y0 := below_heap hb1 (blk_lt Z0) Z0
  have Y1 := below_heap hb1 (blk_lt Z1) Z1
  clear ht1 Z0 Z1 hb1
  have Z0 := Y0; have Z1 := Y1; clear Y0 Y1
  have c1_0 : w1.cell? ⟨w.heap.size, 0, none⟩ = some (.int .i64 x.ev.time) := blk_cell Z0 0
  have c1_1 : w1.cell? ⟨w.heap.size, 1, none⟩ = some (.int .i64 x.ev.to) := blk_cell Z0 1
  have c1_2 : w1.cell? ⟨w.heap.size, 2, none⟩ = some (.int .i64 x.ev.from_) := blk_cell Z0 2
  have c1_3 : w1.cell? ⟨w.heap.size, 3, none⟩ = some (.int .i64 x.ev.count) := blk_cell Z0 3
  have c1_4 : w1.cell? ⟨w.heap.size, 4, none⟩ = some (.int .i64 x.ev.n) := blk_cell Z0 4
  have c1_5 : w1.cell? ⟨w.heap.size, 5, none⟩ = some (.int .i64 x.ev.kind) := blk_cell Z0 5
  have c1_6 : w1.cell? ⟨w.heap.size, 6, none⟩ = some (.int .i64 x.ev.arg) := blk_cell Z0 6
  have c1_7 : w1.cell? ⟨w.heap.size, 7, none⟩ = some (.int .i64 x.st.x) := blk_cell Z0 7
  have c1_8 : w1.cell? ⟨w.heap.size, 8, none⟩ = some (.int .i64 x.st.y) := blk_cell Z0 8
  have c1_9 : w1.cell? ⟨w.heap.size, 9, none⟩ = some (.int .i64 x.st.c) := blk_cell Z0 9
  have c1_10 : w1.cell? ⟨w.heap.size, 10, none⟩ = some (.slice A1 x.sends.length c1) := blk_cell Z0 10
  have c1_11 : w1.cell? ⟨w.heap.size, 11, none⟩ = some (.slice A2 x.outs.length c2) := blk_cell Z0 11
  have d1_0 : w1.cell? ⟨w.heap.size + 1, 0, none⟩ = some (.int .i64 y.ev.time) := blk_cell Z1 0
  have d1_1 : w1.cell? ⟨w.heap.size + 1, 1, none⟩ = some (.int .i64 y.ev.to) := blk_cell Z1 1
  have d1_2 : w1.cell? ⟨w.heap.size + 1, 2, none⟩ = some (.int .i64 y.ev.from_) := blk_cell Z1 2
  have d1_3 : w1.cell? ⟨w.heap.size + 1, 3, none⟩ = some (.int .i64 y.ev.count) := blk_cell Z1 3
  have d1_4 : w1.cell? ⟨w.heap.size + 1, 4, none⟩ = some (.int .i64 y.ev.n) := blk_cell Z1 4
  have d1_5 : w1.cell? ⟨w.heap.size + 1, 5, none⟩ = some (.int .i64 y.ev.kind) := blk_cell Z1 5
  have d1_6 : w1.cell? ⟨w.heap.size + 1, 6, none⟩ = some (.int .i64 y.ev.arg) := blk_cell Z1 6
  have d1_7 : w1.cell? ⟨w.heap.size + 1, 7, none⟩ = some (.int .i64 y.st.x) := blk_cell Z1 7
  have d1_8 : w1.cell? ⟨w.heap.size + 1, 8, none⟩ = some (.int .i64 y.st.y) := blk_cell Z1 8
  have d1_9 : w1.cell? ⟨w.heap.size + 1, 9, none⟩ = some (.int .i64 y.st.c) := blk_cell Z1 9
  have d1_10 : w1.cell? ⟨w.heap.size + 1, 10, none⟩ = some (.slice A3 y.sends.length c3) := blk_cell Z1 10
  have d1_11 : w1.cell? ⟨w.heap.size + 1, 11, none⟩ = some (.slice A4 y.outs.length c4) := blk_cell Z1 11
  apply_assumption
  by_cases g1 : t1 = true
  case neg =>
    have g1' : t1 = false := by simpa using g1
    have HF := hid (show decide (x = y) = false from decide_eq_false (fun e => by have h9 := HT1.out; rw [g1', decide_eq_false_iff_not] at h9; exact h9 (by rw [e])))
    clear g1 HT1
    subst g1'
    go_wp2_with fail
    go_ret
    exact ⟨by rw [HF.out]; rfl, HB2⟩
  have E1 := hid (show x.st = y.st from of_decide_eq_true (HT1.out.trans g1))
  clear HT1
  subst g1
  go_wp2_with fail
  obtain ⟨t2, ht2⟩ : ∃ t, decide (x.sends = y.sends) = t := ⟨_, rfl⟩
  refine (eqEventS_c _ _ x.sends y.sends F _ (g1.below HB2) (g3.below HB2)).mono ?_
  rintro q w2 ⟨rfl, hb2⟩
  have HB3 := bthen HB2 hb2 (Below.size HB2)
  (try rw [ht2])
  have HT2 := hid ht2
  have Y0 := below_heap hb2 (blk_lt Z0) Z0
  have Y1 := below_heap hb2 (blk_lt Z1) Z1
  clear ht2 Z0 Z1 hb2
  have Z0 := Y0; have Z1 := Y1; clear Y0 Y1
  have c2_0 : w2.cell? ⟨w.heap.size, 0, none⟩ = some (.int .i64 x.ev.time) := blk_cell Z0 0
  have c2_1 : w2.cell? ⟨w.heap.size, 1, none⟩ = some (.int .i64 x.ev.to) := blk_cell Z0 1
  have c2_2 : w2.cell? ⟨w.heap.size, 2, none⟩ = some (.int .i64 x.ev.from_) := blk_cell Z0 2
  have c2_3 : w2.cell? ⟨w.heap.size, 3, none⟩ = some (.int .i64 x.ev.count) := blk_cell Z0 3
  have c2_4 : w2.cell? ⟨w.heap.size, 4, none⟩ = some (.int .i64 x.ev.n) := blk_cell Z0 4
  have c2_5 : w2.cell? ⟨w.heap.size, 5, none⟩ = some (.int .i64 x.ev.kind) := blk_cell Z0 5
  have c2_6 : w2.cell? ⟨w.heap.size, 6, none⟩ = some (.int .i64 x.ev.arg) := blk_cell Z0 6
  have c2_7 : w2.cell? ⟨w.heap.size, 7, none⟩ = some (.int .i64 x.st.x) := blk_cell Z0 7
  have c2_8 : w2.cell? ⟨w.heap.size, 8, none⟩ = some (.int .i64 x.st.y) := blk_cell Z0 8
  have c2_9 : w2.cell? ⟨w.heap.size, 9, none⟩ = some (.int .i64 x.st.c) := blk_cell Z0 9
  have c2_10 : w2.cell? ⟨w.heap.size, 10, none⟩ = some (.slice A1 x.sends.length c1) := blk_cell Z0 10
  have c2_11 : w2.cell? ⟨w.heap.size, 11, none⟩ = some (.slice A2 x.outs.length c2) := blk_cell Z0 11
  have d2_0 : w2.cell? ⟨w.heap.size + 1, 0, none⟩ = some (.int .i64 y.ev.time) := blk_cell Z1 0
  have d2_1 : w2.cell? ⟨w.heap.size + 1, 1, none⟩ = some (.int .i64 y.ev.to) := blk_cell Z1 1
  have d2_2 : w2.cell? ⟨w.heap.size + 1, 2, none⟩ = some (.int .i64 y.ev.from_) := blk_cell Z1 2
  have d2_3 : w2.cell? ⟨w.heap.size + 1, 3, none⟩ = some (.int .i64 y.ev.count) := blk_cell Z1 3
  have d2_4 : w2.cell? ⟨w.heap.size + 1, 4, none⟩ = some (.int .i64 y.ev.n) := blk_cell Z1 4
  have d2_5 : w2.cell? ⟨w.heap.size + 1, 5, none⟩ = some (.int .i64 y.ev.kind) := blk_cell Z1 5
  have d2_6 : w2.cell? ⟨w.heap.size + 1, 6, none⟩ = some (.int .i64 y.ev.arg) := blk_cell Z1 6
  have d2_7 : w2.cell? ⟨w.heap.size + 1, 7, none⟩ = some (.int .i64 y.st.x) := blk_cell Z1 7
  have d2_8 : w2.cell? ⟨w.heap.size + 1, 8, none⟩ = some (.int .i64 y.st.y) := blk_cell Z1 8
  have d2_9 : w2.cell? ⟨w.heap.size + 1, 9, none⟩ = some (.int .i64 y.st.c) := blk_cell Z1 9
  have d2_10 : w2.cell? ⟨w.heap.size + 1, 10, none⟩ = some (.slice A3 y.sends.length c3) := blk_cell Z1 10
  have d2_11 : w2.cell? ⟨w.heap.size + 1, 11, none⟩ = some (.slice A4 y.outs.length c4) := blk_cell Z1 11
  apply_assumption
  by_cases g2 : t2 = true
  case neg =>
    have g2' : t2 = false := by simpa using g2
    have HF := hid (show decide (x = y) = false from decide_eq_false (fun e => by have h9 := HT2.out; rw [g2', decide_eq_false_iff_not] at h9; exact h9 (by rw [e])))
    clear g2 HT2
    subst g2'
    go_wp2_with fail
    go_ret
    exact ⟨by rw [HF.out]; rfl, HB3⟩
  have E2 := hid (show x.sends = y.sends from of_decide_eq_true (HT2.out.trans g2))
  clear HT2
  subst g2
  go_wp2_with fail
  obtain ⟨t3, ht3⟩ : ∃ t, decide (x.outs = y.outs) = t := ⟨_, rfl⟩
  refine (eqOutS_c _ _ x.outs y.outs F _ (g2.below HB3) (g4.below HB3)).mono ?_
  rintro q w3 ⟨rfl, hb3⟩
  have HB4 := bthen HB3 hb3 (Below.size HB3)
  (try rw [ht3])
  have HT3 := hid ht3
  have Y0 := below_heap hb3 (blk_lt Z0) Z0
  have Y1 := below_heap hb3 (blk_lt Z1) Z1
  clear ht3 Z0 Z1 hb3
  have Z0 := Y0; have Z1 := Y1; clear Y0 Y1
  have c3_0 : w3.cell? ⟨w.heap.size, 0, none⟩ = some (.int .i64 x.ev.time) := blk_cell Z0 0
  have c3_1 : w3.cell? ⟨w.heap.size, 1, none⟩ = some (.int .i64 x.ev.to) := blk_cell Z0 1
  have c3_2 : w3.cell? ⟨w.heap.size, 2, none⟩ = some (.int .i64 x.ev.from_) := blk_cell Z0 2
  have c3_3 : w3.cell? ⟨w.heap.size, 3, none⟩ = some (.int .i64 x.ev.count) := blk_cell Z0 3
  have c3_4 : w3.cell? ⟨w.heap.size, 4, none⟩ = some (.int .i64 x.ev.n) := blk_cell Z0 4
  have c3_5 : w3.cell? ⟨w.heap.size, 5, none⟩ = some (.int .i64 x.ev.kind) := blk_cell Z0 5
  have c3_6 : w3.cell? ⟨w.heap.size, 6, none⟩ = some (.int .i64 x.ev.arg) := blk_cell Z0 6
  have c3_7 : w3.cell? ⟨w.heap.size, 7, none⟩ = some (.int .i64 x.st.x) := blk_cell Z0 7
  have c3_8 : w3.cell? ⟨w.heap.size, 8, none⟩ = some (.int .i64 x.st.y) := blk_cell Z0 8
  have c3_9 : w3.cell? ⟨w.heap.size, 9, none⟩ = some (.int .i64 x.st.c) := blk_cell Z0 9
  have c3_10 : w3.cell? ⟨w.heap.size, 10, none⟩ = some (.slice A1 x.sends.length c1) := blk_cell Z0 10
  have c3_11 : w3.cell? ⟨w.heap.size, 11, none⟩ = some (.slice A2 x.outs.length c2) := blk_cell Z0 11
  have d3_0 : w3.cell? ⟨w.heap.size + 1, 0, none⟩ = some (.int .i64 y.ev.time) := blk_cell Z1 0
  have d3_1 : w3.cell? ⟨w.heap.size + 1, 1, none⟩ = some (.int .i64 y.ev.to) := blk_cell Z1 1
  have d3_2 : w3.cell? ⟨w.heap.size + 1, 2, none⟩ = some (.int .i64 y.ev.from_) := blk_cell Z1 2
  have d3_3 : w3.cell? ⟨w.heap.size + 1, 3, none⟩ = some (.int .i64 y.ev.count) := blk_cell Z1 3
  have d3_4 : w3.cell? ⟨w.heap.size + 1, 4, none⟩ = some (.int .i64 y.ev.n) := blk_cell Z1 4
  have d3_5 : w3.cell? ⟨w.heap.size + 1, 5, none⟩ = some (.int .i64 y.ev.kind) := blk_cell Z1 5
  have d3_6 : w3.cell? ⟨w.heap.size + 1, 6, none⟩ = some (.int .i64 y.ev.arg) := blk_cell Z1 6
  have d3_7 : w3.cell? ⟨w.heap.size + 1, 7, none⟩ = some (.int .i64 y.st.x) := blk_cell Z1 7
  have d3_8 : w3.cell? ⟨w.heap.size + 1, 8, none⟩ = some (.int .i64 y.st.y) := blk_cell Z1 8
  have d3_9 : w3.cell? ⟨w.heap.size + 1, 9, none⟩ = some (.int .i64 y.st.c) := blk_cell Z1 9
  have d3_10 : w3.cell? ⟨w.heap.size + 1, 10, none⟩ = some (.slice A3 y.sends.length c3) := blk_cell Z1 10
  have d3_11 : w3.cell? ⟨w.heap.size + 1, 11, none⟩ = some (.slice A4 y.outs.length c4) := blk_cell Z1 11
  apply_assumption
  by_cases g3 : t3 = true
  case neg =>
    have g3' : t3 = false := by simpa using g3
    have HF := hid (show decide (x = y) = false from decide_eq_false (fun e => by have h9 := HT3.out; rw [g3', decide_eq_false_iff_not] at h9; exact h9 (by rw [e])))
    clear g3 HT3
    subst g3'
    go_wp2_with fail
    go_ret
    exact ⟨by rw [HF.out]; rfl, HB4⟩
  have E3 := hid (show x.outs = y.outs from of_decide_eq_true (HT3.out.trans g3))
  clear HT3
  subst g3
  have HF := hid (show decide (x = y) = true from decide_eq_true (past_eq E0.out E1.out E2.out E3.out))
  go_wp2_with fail
  go_ret
  exact ⟨by rw [HF.out]; rfl, HB4⟩
set_option maxHeartbeats 1000000 in
theorem eqPastS_c (v0 v1 : Value) (xs ys : List PastD) (F : Nat → Prop) (w : World) (h0 : Rd tPast w F v0 xs) (h1 : Rd tPast w F v1 ys) :
    Calls Tryz.prog 64 #[v0, v1] w fun q w' => q = .returned (.bool (decide (xs = ys))) ∧ Below w.heap.size w w' := by
  obtain ⟨A0, c0, rfl, -, l0, -⟩ := id h0
  obtain ⟨A1, c1, rfl, -, l1, -⟩ := id h1
  by_cases hl : xs.length = ys.length
  · have hb : (((xs.length : Nat) : Int) != ((ys.length : Nat) : Int)) = false := by simp [hl]
    have HL := hid hl; clear hl
    go_enter Tryz.func64, Tryz.ntmps64
    go_wp2_with fail
    go_loopw [5] (fun i wr => ∃ k : Nat, i = .int .i64 k ∧ k ≤ xs.length ∧ Hid (xs.take k = ys.take k) ∧ Below w.heap.size w wr) (fun i _ => xs.length - (intOf i).toNat)
    case atStart => exact ⟨0, rfl, Nat.zero_le _, rfl, Below.refl _ _⟩
    case round =>
      obtain ⟨k, rfl, hk, HEQ, hB⟩ := hrel
      by_cases hlt : k < xs.length
      · have hlt2 : k < ys.length := by rw [← HL.out]; exact hlt
        have r0 := h0.below hB
        have r1 := h1.below hB
        obtain ⟨p0, p1, p2, p3, p4, p5, rfl, _, ⟨py0, py1, py2, py3, py4, py5, py6⟩, ⟨pz0, pz1, pz2⟩, pm, pn, sa, sb⟩ := past_at r0 k hlt
        obtain ⟨q0, q1, q2, q3, q4, q5, rfl, _, ⟨qy0, qy1, qy2, qy3, qy4, qy5, qy6⟩, ⟨qz0, qz1, qz2⟩, qm, qn, ta, tb⟩ := past_at r1 k hlt2
        have p0 : (k : Int) < (xs.length : Int) := by omega
        have p1 : (k : Int) < (ys.length : Int) := by omega
        obtain ⟨t, ht⟩ : ∃ t, decide (xs[k] = ys[k]) = t := ⟨_, rfl⟩
        have HT := hid ht
        clear ht
        go_upto_region 6 with fail
        refine region_sg [.rd [0, 1, 2, 3, 4, 5, 6, 7]] [8, 9] (by kernel_rfl) (by kernel_rfl) (fun _ _ d _ _ h => by cases d <;> exact h) ?_
        refine sg_rd (fun N hN => ?_)
        simp only [pickO, List.getElem?_toArray, List.getElem?_cons_zero, List.getElem?_cons_succ]
        go_wp2_with fail
        refine rd_next (hN _ ?_)
        clear hN N
        refine sg_fin ?_
        simp only [pickO, List.getElem?_toArray, List.getElem?_cons_zero, List.getElem?_cons_succ]
        go_wp2_with fail
        have hd := hB.drew
        refine (eqPast_c xs[k] ys[k] _ _ _ _ _ _ (sa.below (Below.refl wr.heap.size wr).drew) (sb.below (Below.refl wr.heap.size wr).drew) (ta.below (Below.refl wr.heap.size wr).drew) (tb.below (Below.refl wr.heap.size wr).drew)).mono ?_
        rintro q w1 ⟨rfl, hb1⟩
        have hB1 := bthen hd hb1 hd.size
        rw [HT.out]
        apply_assumption
        cases t
        case false =>
          have HF := hid (show decide (xs = ys) = false from decide_eq_false (fun e => of_decide_eq_false HT.out (by simp [e])))
          go_wp2_with fail
          go_ret
          exact ⟨by rw [HF.out]; rfl, hB1⟩
        case true =>
          have HS := hid (take_eq_snoc HEQ.out hlt hlt2 (of_decide_eq_true HT.out))
          go_wp2_with fail
          go_roundw
          case rel => exact ⟨k + 1, by go_num, by omega, HS, hB1⟩
          case measure => simp [intOf]; omega
      · have HF := hid (show decide (xs = ys) = true from decide_eq_true (take_all_eq HEQ.out (by omega) HL.out))
        go_wp2_with fail
        go_ret
        exact ⟨by rw [HF.out]; rfl, hB⟩
  · have hb : (((xs.length : Nat) : Int) != ((ys.length : Nat) : Int)) = true := by rw [bne_iff_ne]; omega
    have HF := hid (show decide (xs = ys) = false from decide_eq_false (fun h => hl (by simp [h])))
    clear hl
    go_enter Tryz.func64, Tryz.ntmps64
    go_wp2_with fail
    go_ret
    exact ⟨by rw [HF.out]; rfl, Below.refl _ _⟩
set_option maxHeartbeats 2000000 in
theorem eqLane_c (x y : LaneD) (v u : Value) (F : Nat → Prop) (w : World) (g1 : Rd tPast w F v x.done) (g2 : Rd tPast w F u y.done) :
    Calls Tryz.prog 23 #[.agg #[.int .i64 x.proc, .int .i64 x.base.x, .int .i64 x.base.y, .int .i64 x.base.c, v], .agg #[.int .i64 y.proc, .int .i64 y.base.x, .int .i64 y.base.y, .int .i64 y.base.c, u]] w fun q w' => q = .returned (.bool (decide (x = y))) ∧ Below w.heap.size w w' := by
  obtain ⟨A1, c1, rfl, -⟩ := g1.shape
  obtain ⟨A2, c2, rfl, -⟩ := g2.shape
  have HB0 : Below w.heap.size w ((w.alloc (.cells #[.int .i64 x.proc, .int .i64 x.base.x, .int .i64 x.base.y, .int .i64 x.base.c, .slice A1 x.done.length c1] 52)).alloc (.cells #[.int .i64 y.proc, .int .i64 y.base.x, .int .i64 y.base.y, .int .i64 y.base.c, .slice A2 y.done.length c2] 52)) := balloc (balloc (Below.refl w.heap.size w) _) _
  have Z0 : ((w.alloc (.cells #[.int .i64 x.proc, .int .i64 x.base.x, .int .i64 x.base.y, .int .i64 x.base.c, .slice A1 x.done.length c1] 52)).alloc (.cells #[.int .i64 y.proc, .int .i64 y.base.x, .int .i64 y.base.y, .int .i64 y.base.c, .slice A2 y.done.length c2] 52)).heap[w.heap.size]? = some (.cells #[.int .i64 x.proc, .int .i64 x.base.x, .int .i64 x.base.y, .int .i64 x.base.c, .slice A1 x.done.length c1] 52 (0, 0)) := (heap_old (by simp)).trans (heap_at rfl)
  have Z1 : ((w.alloc (.cells #[.int .i64 x.proc, .int .i64 x.base.x, .int .i64 x.base.y, .int .i64 x.base.c, .slice A1 x.done.length c1] 52)).alloc (.cells #[.int .i64 y.proc, .int .i64 y.base.x, .int .i64 y.base.y, .int .i64 y.base.c, .slice A2 y.done.length c2] 52)).heap[w.heap.size + 1]? = some (.cells #[.int .i64 y.proc, .int .i64 y.base.x, .int .i64 y.base.y, .int .i64 y.base.c, .slice A2 y.done.length c2] 52 (0, 0)) := heap_at (by simp)
  go_enter Tryz.func23, Tryz.ntmps23
  by_cases k0_proc : x.proc = y.proc
  case neg =>
    have ek0_proc : (x.proc != y.proc) = true := by simpa using k0_proc
    have HF := hid (show decide (x = y) = false from decide_eq_false (fun e => k0_proc (by rw [e])))
    clear k0_proc
    go_wp2_with fail
    go_ret
    exact ⟨by rw [HF.out]; rfl, HB0⟩
  have ek0_proc : (x.proc != y.proc) = false := by simpa using k0_proc
  have Ek0_proc := hid k0_proc
  clear k0_proc
  go_wp2_with fail
  generalize (w.alloc (.cells #[.int .i64 x.proc, .int .i64 x.base.x, .int .i64 x.base.y, .int .i64 x.base.c, .slice A1 x.done.length c1] 52)).alloc (.cells #[.int .i64 y.proc, .int .i64 y.base.x, .int .i64 y.base.y, .int .i64 y.base.c, .slice A2 y.done.length c2] 52) = W at *
  obtain ⟨t0, ht0⟩ : ∃ t, decide (x.base = y.base) = t := ⟨_, rfl⟩
  refine (eqState_c x.base y.base _).mono ?_
  rintro q w0 ⟨rfl, hb0⟩
  have HB1 := bthen HB0 hb0 (Below.size HB0)
  (try rw [ht0])
  have HT0 := hid ht0
  have Y0 := below_heap hb0 (blk_lt Z0) Z0
  have Y1 := below_heap hb0 (blk_lt Z1) Z1
  clear ht0 Z0 Z1 hb0
  have Z0 := Y0; have Z1 := Y1; clear Y0 Y1
  have c0_0 : w0.cell? ⟨w.heap.size, 0, none⟩ = some (.int .i64 x.proc) := blk_cell Z0 0
  have c0_1 : w0.cell? ⟨w.heap.size, 1, none⟩ = some (.int .i64 x.base.x) := blk_cell Z0 1
  have c0_2 : w0.cell? ⟨w.heap.size, 2, none⟩ = some (.int .i64 x.base.y) := blk_cell Z0 2
  have c0_3 : w0.cell? ⟨w.heap.size, 3, none⟩ = some (.int .i64 x.base.c) := blk_cell Z0 3
  have c0_4 : w0.cell? ⟨w.heap.size, 4, none⟩ = some (.slice A1 x.done.length c1) := blk_cell Z0 4
  have d0_0 : w0.cell? ⟨w.heap.size + 1, 0, none⟩ = some (.int .i64 y.proc) := blk_cell Z1 0
  have d0_1 : w0.cell? ⟨w.heap.size + 1, 1, none⟩ = some (.int .i64 y.base.x) := blk_cell Z1 1
  have d0_2 : w0.cell? ⟨w.heap.size + 1, 2, none⟩ = some (.int .i64 y.base.y) := blk_cell Z1 2
  have d0_3 : w0.cell? ⟨w.heap.size + 1, 3, none⟩ = some (.int .i64 y.base.c) := blk_cell Z1 3
  have d0_4 : w0.cell? ⟨w.heap.size + 1, 4, none⟩ = some (.slice A2 y.done.length c2) := blk_cell Z1 4
  apply_assumption
  by_cases g0 : t0 = true
  case neg =>
    have g0' : t0 = false := by simpa using g0
    have HF := hid (show decide (x = y) = false from decide_eq_false (fun e => by have h9 := HT0.out; rw [g0', decide_eq_false_iff_not] at h9; exact h9 (by rw [e])))
    clear g0 HT0
    subst g0'
    go_wp2_with fail
    go_ret
    exact ⟨by rw [HF.out]; rfl, HB1⟩
  have E0 := hid (show x.base = y.base from of_decide_eq_true (HT0.out.trans g0))
  clear HT0
  subst g0
  go_wp2_with fail
  obtain ⟨t1, ht1⟩ : ∃ t, decide (x.done = y.done) = t := ⟨_, rfl⟩
  refine (eqPastS_c _ _ x.done y.done F _ (g1.below HB1) (g2.below HB1)).mono ?_
  rintro q w1 ⟨rfl, hb1⟩
  have HB2 := bthen HB1 hb1 (Below.size HB1)
  (try rw [ht1])
  have HT1 := hid ht1
  have Y0 := below_heap hb1 (blk_lt Z0) Z0
  have Y1 := below_heap hb1 (blk_lt Z1) Z1
  clear ht1 Z0 Z1 hb1
  have Z0 := Y0; have Z1 := Y1; clear Y0 Y1
  have c1_0 : w1.cell? ⟨w.heap.size, 0, none⟩ = some (.int .i64 x.proc) := blk_cell Z0 0
  have c1_1 : w1.cell? ⟨w.heap.size, 1, none⟩ = some (.int .i64 x.base.x) := blk_cell Z0 1
  have c1_2 : w1.cell? ⟨w.heap.size, 2, none⟩ = some (.int .i64 x.base.y) := blk_cell Z0 2
  have c1_3 : w1.cell? ⟨w.heap.size, 3, none⟩ = some (.int .i64 x.base.c) := blk_cell Z0 3
  have c1_4 : w1.cell? ⟨w.heap.size, 4, none⟩ = some (.slice A1 x.done.length c1) := blk_cell Z0 4
  have d1_0 : w1.cell? ⟨w.heap.size + 1, 0, none⟩ = some (.int .i64 y.proc) := blk_cell Z1 0
  have d1_1 : w1.cell? ⟨w.heap.size + 1, 1, none⟩ = some (.int .i64 y.base.x) := blk_cell Z1 1
  have d1_2 : w1.cell? ⟨w.heap.size + 1, 2, none⟩ = some (.int .i64 y.base.y) := blk_cell Z1 2
  have d1_3 : w1.cell? ⟨w.heap.size + 1, 3, none⟩ = some (.int .i64 y.base.c) := blk_cell Z1 3
  have d1_4 : w1.cell? ⟨w.heap.size + 1, 4, none⟩ = some (.slice A2 y.done.length c2) := blk_cell Z1 4
  apply_assumption
  by_cases g1 : t1 = true
  case neg =>
    have g1' : t1 = false := by simpa using g1
    have HF := hid (show decide (x = y) = false from decide_eq_false (fun e => by have h9 := HT1.out; rw [g1', decide_eq_false_iff_not] at h9; exact h9 (by rw [e])))
    clear g1 HT1
    subst g1'
    go_wp2_with fail
    go_ret
    exact ⟨by rw [HF.out]; rfl, HB2⟩
  have E1 := hid (show x.done = y.done from of_decide_eq_true (HT1.out.trans g1))
  clear HT1
  subst g1
  have HF := hid (show decide (x = y) = true from decide_eq_true (lane_eq Ek0_proc.out E0.out E1.out))
  go_wp2_with fail
  go_ret
  exact ⟨by rw [HF.out]; rfl, HB2⟩
end Go.Proofs.YtbcemldiahghcaaGreat
