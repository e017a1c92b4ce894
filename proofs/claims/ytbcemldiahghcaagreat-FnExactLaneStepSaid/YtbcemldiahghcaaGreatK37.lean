/- Texts joined: Row, Ex7, Ey5. -/
import Derived.Test.YtbcemldiahghcaaGreatRows
import Derived.Test.YtbcemldiahghcaaGreatK03
import Derived.Lib.SlBytesRowKit
import Derived.ProofKit
import Derived.Test.YtbcemldiahghcaaGreatK08
import Derived.Deep.Slices
import Derived.Test.YtbcemldiahghcaaGreatK10
namespace Go.Proofs.YtbcemldiahghcaaGreat
set_option linter.unusedVariables false
set_option linter.unusedSimpArgs false
open Go.ChangeShapes Go.WideShapes Go.ChangeAt Go.RowKit
theorem own_k : ownKnob Tryz.prog.godebug = none := by kernel_rfl
theorem laidOut_k : laidOutB Tryz.prog = true := by kernel_rfl
end Go.Proofs.YtbcemldiahghcaaGreat

namespace Go.Proofs.YtbcemldiahghcaaGreat
set_option linter.unusedVariables false
set_option linter.unusedSimpArgs false
set_option maxRecDepth 100000
open Go.ChangeShapes Go.WideShapes Go.ChangeAt Go.RowKit
theorem cells_int : Tryz.prog.cellsOf 3 = 1 := by kernel_rfl
theorem pick_all {α : Type} {n : Nat} {p : Nat → α → Prop} (h : ∀ i, i < n → ∃ x, p i x) : ∃ xs : List α, xs.length = n ∧ ∀ j x, xs[j]? = some x → p j x := by
  induction n with
  | zero => exact ⟨[], rfl, fun j x hj => by simp at hj⟩
  | succ n ih =>
    obtain ⟨xs, hl, hx⟩ := ih (fun i hi => h i (Nat.lt_succ_of_lt hi))
    obtain ⟨y, hy⟩ := h n (Nat.lt_succ_self n)
    refine ⟨xs ++ [y], by simp [hl], fun j x hj => ?_⟩
    by_cases hjn : j < n
    · rw [List.getElem?_append_left (by omega)] at hj; exact hx j x hj
    · have hlt := (List.getElem?_eq_some_iff.1 hj).1
      simp [hl] at hlt
      have : j = n := by omega
      subst this
      rw [List.getElem?_append_right (by omega), hl, Nat.sub_self] at hj
      have : y = x := by simpa using hj
      rw [← this]; exact hy
/-- A row that came in. -/
theorem open_rows {H : Type} {enc : TypeId × Value → H} {W : World} {α : Type} (d : Ty α) {t e : TypeId} {fuel : Nat} {cs : List Value} {x : DataW H × List MemPlace} (ht : Tryz.prog.underlying t = some (.slice e)) (hc : Tryz.prog.cellsOf e = d.sz) (hs : 0 < d.sz)
    (hel : ∀ fuel cs x, DataW.trod enc Tryz.prog W 0 (fun _ => true) true fuel e cs = some x → ∃ y, d.rel W (fun k => k < W.heap.size) y cs)
    (h : DataW.trod enc Tryz.prog W 0 (fun _ => true) true fuel t cs = some x) : ∃ (A : Option Addr) (c : Nat) (xs : List α), cs = [.slice A xs.length c] ∧ Rd d W (fun k => k < W.heap.size) (.slice A xs.length c) xs := by
  rcases Go.Deep.open_slice ht h with ⟨rfl, -⟩ | ⟨a, len, cap, m, n, D, Pl, rfl, -, hl, hcap, hm, -, hi⟩
  · exact ⟨none, 0, [], rfl, Rd.nil _ _ _⟩
  · simp only [if_true] at hm
    subst hm
    rw [hc] at hi
    obtain ⟨xs, hxl, hx⟩ := pick_all (n := len) (p := fun i y => ∃ cs', W.cells? 0 (a.add (i * d.sz)) d.sz = some cs' ∧ d.rel W (fun k => k < W.heap.size) y cs') (fun i hlt => by
      obtain ⟨cs', h1, h2⟩ := hi i (by omega)
      obtain ⟨y, hy⟩ := hel _ _ _ h2
      exact ⟨y, cs', h1, hy⟩)
    subst hxl
    refine ⟨some a, m, xs, rfl, _, m, rfl, hl, by simp only [maxLen] at hcap; omega, fun hp => ?_⟩
    obtain ⟨cs0, hc0, -⟩ := hx 0 xs[0] (List.getElem?_eq_getElem hp)
    obtain ⟨-, hl0, hg0⟩ := World.cells?_some hc0
    have g0 := hg0 0 hs
    obtain ⟨u0, hu0⟩ : ∃ u, cs0[0]? = some u := ⟨cs0[0]'(by omega), List.getElem?_eq_getElem _⟩
    rw [hu0] at g0
    obtain ⟨b, o, sp⟩ := a
    have hsp : sp = none := by
      cases sp with
      | none => rfl
      | some s =>
        exfalso
        unfold World.cell? Addr.add at g0
        revert g0
        split <;> simp_all
    subst hsp
    have hlt : b < W.heap.size := by have := World.block_lt_of_cell? _ _ g0; simpa [block_add] using this
    refine ⟨b, o, rfl, hlt, hlt, fun j y hj => ?_⟩
    obtain ⟨cs', hcs, hr⟩ := hx j y hj
    refine ⟨cs', hr, fun i u hi' => ?_⟩
    obtain ⟨-, hl', hg⟩ := World.cells?_some hcs
    have hil := (List.getElem?_eq_some_iff.1 hi').1
    have := hg i (by omega)
    rw [hi'] at this
    have ha : (((⟨b, o, none⟩ : Addr).add (j * d.sz)).add i) = ⟨b, o + j * d.sz + i, none⟩ := by
      rw [Go.Deep.add_add]
      unfold Addr.add
      split
      · rename_i h0; simp only [Addr.mk.injEq, true_and, and_true]; omega
      · simp [Nat.add_assoc]
    rw [ha] at this
    exact this
theorem open_op {H : Type} {enc : TypeId × Value → H} {W : World} (fuel : Nat) (cs : List Value) (x : DataW H × List MemPlace) (h : DataW.trod enc Tryz.prog W 0 (fun _ => true) true fuel 226 cs = some x) : ∃ y : OpD, cs = OpD.cells y := by
  obtain ⟨ys, n, -, -, hl, hlen, hf⟩ := DataW.trod_struct Tryz.underlying226 h
  have hc : Tryz.prog.cellsOf 226 = 5 := by kernel_rfl
  rw [hc] at hl
  match cs, hl, ys, hlen, hf with
  | [c0, c1, c2, c3, c4], _, [y0, y1, y2, y3, y4], _, hf =>
    have h0 : DataW.trod enc Tryz.prog W 0 (fun _ => true) true n 3 ([c0, c1, c2, c3, c4].drop 0 |>.take (Tryz.prog.cellsOf 3)) = some y0 := hf 0 _ rfl
    rw [cells_int] at h0
    obtain ⟨n0, q0, -⟩ := DataW.trod_int Tryz.underlying3 h0
    have e0 : c0 = .int .i64 n0 := by simpa using q0
    clear q0
    have h1 : DataW.trod enc Tryz.prog W 0 (fun _ => true) true n 3 ([c0, c1, c2, c3, c4].drop 1 |>.take (Tryz.prog.cellsOf 3)) = some y1 := hf 1 _ rfl
    rw [cells_int] at h1
    obtain ⟨n1, q1, -⟩ := DataW.trod_int Tryz.underlying3 h1
    have e1 : c1 = .int .i64 n1 := by simpa using q1
    clear q1
    have h2 : DataW.trod enc Tryz.prog W 0 (fun _ => true) true n 3 ([c0, c1, c2, c3, c4].drop 2 |>.take (Tryz.prog.cellsOf 3)) = some y2 := hf 2 _ rfl
    rw [cells_int] at h2
    obtain ⟨n2, q2, -⟩ := DataW.trod_int Tryz.underlying3 h2
    have e2 : c2 = .int .i64 n2 := by simpa using q2
    clear q2
    have h3 : DataW.trod enc Tryz.prog W 0 (fun _ => true) true n 3 ([c0, c1, c2, c3, c4].drop 3 |>.take (Tryz.prog.cellsOf 3)) = some y3 := hf 3 _ rfl
    rw [cells_int] at h3
    obtain ⟨n3, q3, -⟩ := DataW.trod_int Tryz.underlying3 h3
    have e3 : c3 = .int .i64 n3 := by simpa using q3
    clear q3
    have h4 : DataW.trod enc Tryz.prog W 0 (fun _ => true) true n 3 ([c0, c1, c2, c3, c4].drop 4 |>.take (Tryz.prog.cellsOf 3)) = some y4 := hf 4 _ rfl
    rw [cells_int] at h4
    obtain ⟨n4, q4, -⟩ := DataW.trod_int Tryz.underlying3 h4
    have e4 : c4 = .int .i64 n4 := by simpa using q4
    clear q4
    subst e0 e1 e2 e3 e4
    exact ⟨⟨n0, n1, n2, n3, n4⟩, rfl⟩
theorem open_state {H : Type} {enc : TypeId × Value → H} {W : World} (fuel : Nat) (cs : List Value) (x : DataW H × List MemPlace) (h : DataW.trod enc Tryz.prog W 0 (fun _ => true) true fuel 41 cs = some x) : ∃ y : StD, cs = StD.cells y := by
  obtain ⟨ys, n, -, -, hl, hlen, hf⟩ := DataW.trod_struct Tryz.underlying41 h
  have hc : Tryz.prog.cellsOf 41 = 3 := by kernel_rfl
  rw [hc] at hl
  match cs, hl, ys, hlen, hf with
  | [c0, c1, c2], _, [y0, y1, y2], _, hf =>
    have h0 : DataW.trod enc Tryz.prog W 0 (fun _ => true) true n 3 ([c0, c1, c2].drop 0 |>.take (Tryz.prog.cellsOf 3)) = some y0 := hf 0 _ rfl
    rw [cells_int] at h0
    obtain ⟨n0, q0, -⟩ := DataW.trod_int Tryz.underlying3 h0
    have e0 : c0 = .int .i64 n0 := by simpa using q0
    clear q0
    have h1 : DataW.trod enc Tryz.prog W 0 (fun _ => true) true n 3 ([c0, c1, c2].drop 1 |>.take (Tryz.prog.cellsOf 3)) = some y1 := hf 1 _ rfl
    rw [cells_int] at h1
    obtain ⟨n1, q1, -⟩ := DataW.trod_int Tryz.underlying3 h1
    have e1 : c1 = .int .i64 n1 := by simpa using q1
    clear q1
    have h2 : DataW.trod enc Tryz.prog W 0 (fun _ => true) true n 3 ([c0, c1, c2].drop 2 |>.take (Tryz.prog.cellsOf 3)) = some y2 := hf 2 _ rfl
    rw [cells_int] at h2
    obtain ⟨n2, q2, -⟩ := DataW.trod_int Tryz.underlying3 h2
    have e2 : c2 = .int .i64 n2 := by simpa using q2
    clear q2
    subst e0 e1 e2
    exact ⟨⟨n0, n1, n2⟩, rfl⟩
theorem open_event {H : Type} {enc : TypeId × Value → H} {W : World} (fuel : Nat) (cs : List Value) (x : DataW H × List MemPlace) (h : DataW.trod enc Tryz.prog W 0 (fun _ => true) true fuel 103 cs = some x) : ∃ y : EvD, cs = EvD.cells y := by
  obtain ⟨ys, n, -, -, hl, hlen, hf⟩ := DataW.trod_struct Tryz.underlying103 h
  have hc : Tryz.prog.cellsOf 103 = 7 := by kernel_rfl
  rw [hc] at hl
  match cs, hl, ys, hlen, hf with
  | [c0, c1, c2, c3, c4, c5, c6], _, [y0, y1, y2, y3, y4, y5, y6], _, hf =>
    have h0 : DataW.trod enc Tryz.prog W 0 (fun _ => true) true n 3 ([c0, c1, c2, c3, c4, c5, c6].drop 0 |>.take (Tryz.prog.cellsOf 3)) = some y0 := hf 0 _ rfl
    rw [cells_int] at h0
    obtain ⟨n0, q0, -⟩ := DataW.trod_int Tryz.underlying3 h0
    have e0 : c0 = .int .i64 n0 := by simpa using q0
    clear q0
    have h1 : DataW.trod enc Tryz.prog W 0 (fun _ => true) true n 3 ([c0, c1, c2, c3, c4, c5, c6].drop 1 |>.take (Tryz.prog.cellsOf 3)) = some y1 := hf 1 _ rfl
    rw [cells_int] at h1
    obtain ⟨n1, q1, -⟩ := DataW.trod_int Tryz.underlying3 h1
    have e1 : c1 = .int .i64 n1 := by simpa using q1
    clear q1
    have h2 : DataW.trod enc Tryz.prog W 0 (fun _ => true) true n 3 ([c0, c1, c2, c3, c4, c5, c6].drop 2 |>.take (Tryz.prog.cellsOf 3)) = some y2 := hf 2 _ rfl
    rw [cells_int] at h2
    obtain ⟨n2, q2, -⟩ := DataW.trod_int Tryz.underlying3 h2
    have e2 : c2 = .int .i64 n2 := by simpa using q2
    clear q2
    have h3 : DataW.trod enc Tryz.prog W 0 (fun _ => true) true n 3 ([c0, c1, c2, c3, c4, c5, c6].drop 3 |>.take (Tryz.prog.cellsOf 3)) = some y3 := hf 3 _ rfl
    rw [cells_int] at h3
    obtain ⟨n3, q3, -⟩ := DataW.trod_int Tryz.underlying3 h3
    have e3 : c3 = .int .i64 n3 := by simpa using q3
    clear q3
    have h4 : DataW.trod enc Tryz.prog W 0 (fun _ => true) true n 3 ([c0, c1, c2, c3, c4, c5, c6].drop 4 |>.take (Tryz.prog.cellsOf 3)) = some y4 := hf 4 _ rfl
    rw [cells_int] at h4
    obtain ⟨n4, q4, -⟩ := DataW.trod_int Tryz.underlying3 h4
    have e4 : c4 = .int .i64 n4 := by simpa using q4
    clear q4
    have h5 : DataW.trod enc Tryz.prog W 0 (fun _ => true) true n 3 ([c0, c1, c2, c3, c4, c5, c6].drop 5 |>.take (Tryz.prog.cellsOf 3)) = some y5 := hf 5 _ rfl
    rw [cells_int] at h5
    obtain ⟨n5, q5, -⟩ := DataW.trod_int Tryz.underlying3 h5
    have e5 : c5 = .int .i64 n5 := by simpa using q5
    clear q5
    have h6 : DataW.trod enc Tryz.prog W 0 (fun _ => true) true n 3 ([c0, c1, c2, c3, c4, c5, c6].drop 6 |>.take (Tryz.prog.cellsOf 3)) = some y6 := hf 6 _ rfl
    rw [cells_int] at h6
    obtain ⟨n6, q6, -⟩ := DataW.trod_int Tryz.underlying3 h6
    have e6 : c6 = .int .i64 n6 := by simpa using q6
    clear q6
    subst e0 e1 e2 e3 e4 e5 e6
    exact ⟨⟨n0, n1, n2, n3, n4, n5, n6⟩, rfl⟩
theorem open_rule {H : Type} {enc : TypeId × Value → H} {W : World} (fuel : Nat) (cs : List Value) (x : DataW H × List MemPlace) (h : DataW.trod enc Tryz.prog W 0 (fun _ => true) true fuel 134 cs = some x) : ∃ y : RuleD, tRule.rel W (fun k => k < W.heap.size) y cs := by
  obtain ⟨ys, n, -, -, hl, hlen, hf⟩ := DataW.trod_struct Tryz.underlying134 h
  have hc : Tryz.prog.cellsOf 134 = 2 := by kernel_rfl
  rw [hc] at hl
  match cs, hl, ys, hlen, hf with
  | [c0, c1], _, [y0, y1], _, hf =>
    have h0 : DataW.trod enc Tryz.prog W 0 (fun _ => true) true n 3 ([c0, c1].drop 0 |>.take (Tryz.prog.cellsOf 3)) = some y0 := hf 0 _ rfl
    rw [cells_int] at h0
    obtain ⟨n0, e0, -⟩ := DataW.trod_int Tryz.underlying3 h0
    have e0 : c0 = .int .i64 n0 := by simpa using e0
    subst e0
    have h1 : DataW.trod enc Tryz.prog W 0 (fun _ => true) true n 132 ([.int .i64 n0, c1].drop 1 |>.take (Tryz.prog.cellsOf 132)) = some y1 := hf 1 _ rfl
    obtain ⟨A, c, xs, he, hr⟩ := open_rows tOp Tryz.underlying132 (by kernel_rfl) (by decide) (fun f cs x h => by obtain ⟨y, hy⟩ := open_op f cs x h; exact ⟨y, hy⟩) h1
    have hs1 : Tryz.prog.cellsOf 132 = 1 := by kernel_rfl
    rw [hs1] at he
    have he : c1 = .slice A xs.length c := by simpa using he
    subst he
    exact ⟨⟨n0, xs⟩, _, rfl, hr⟩
theorem open_app {H : Type} {enc : TypeId × Value → H} {W : World} (fuel : Nat) (cs : List Value) (x : DataW H × List MemPlace) (h : DataW.trod enc Tryz.prog W 0 (fun _ => true) true fuel 39 cs = some x) : ∃ y : AppD, tApp.rel W (fun k => k < W.heap.size) y cs := by
  obtain ⟨ys, n, -, -, hl, hlen, hf⟩ := DataW.trod_struct Tryz.underlying39 h
  have hc : Tryz.prog.cellsOf 39 = 1 := by kernel_rfl
  rw [hc] at hl
  match cs, hl, ys, hlen, hf with
  | [c0], _, [y0], _, hf =>
    have h0 : DataW.trod enc Tryz.prog W 0 (fun _ => true) true n 37 ([c0].drop 0 |>.take (Tryz.prog.cellsOf 37)) = some y0 := hf 0 _ rfl
    obtain ⟨A, c, xs, he, hr⟩ := open_rows tRule Tryz.underlying37 (by kernel_rfl) (by decide) (fun f cs x h => open_rule f cs x h) h0
    have hs1 : Tryz.prog.cellsOf 37 = 1 := by kernel_rfl
    rw [hs1] at he
    have he : c0 = .slice A xs.length c := by simpa using he
    subst he
    exact ⟨⟨xs⟩, _, rfl, hr⟩
end Go.Proofs.YtbcemldiahghcaaGreat

namespace Go.Proofs.YtbcemldiahghcaaGreat
set_option linter.unusedVariables false
set_option linter.unusedSimpArgs false
set_option maxRecDepth 100000
open Go.RowKit
theorem open_out {H : Type} {enc : TypeId × Value → H} {W : World} (fuel : Nat) (cs : List Value) (x : DataW H × List MemPlace) (h : DataW.trod enc Tryz.prog W 0 (fun _ => true) true fuel 164 cs = some x) : ∃ y : OutD, cs = OutD.cells y := by
  obtain ⟨ys, n, -, -, hl, hlen, hf⟩ := DataW.trod_struct Tryz.underlying164 h
  have hc : Tryz.prog.cellsOf 164 = 5 := by kernel_rfl
  rw [hc] at hl
  match cs, hl, ys, hlen, hf with
  | [c0, c1, c2, c3, c4], _, [y0, y1, y2, y3, y4], _, hf =>
    have h0 : DataW.trod enc Tryz.prog W 0 (fun _ => true) true n 3 ([c0, c1, c2, c3, c4].drop 0 |>.take (Tryz.prog.cellsOf 3)) = some y0 := hf 0 _ rfl
    rw [cells_int] at h0
    obtain ⟨n0, q0, -⟩ := DataW.trod_int Tryz.underlying3 h0
    have e0 : c0 = .int .i64 n0 := by simpa using q0
    clear q0
    have h1 : DataW.trod enc Tryz.prog W 0 (fun _ => true) true n 3 ([c0, c1, c2, c3, c4].drop 1 |>.take (Tryz.prog.cellsOf 3)) = some y1 := hf 1 _ rfl
    rw [cells_int] at h1
    obtain ⟨n1, q1, -⟩ := DataW.trod_int Tryz.underlying3 h1
    have e1 : c1 = .int .i64 n1 := by simpa using q1
    clear q1
    have h2 : DataW.trod enc Tryz.prog W 0 (fun _ => true) true n 3 ([c0, c1, c2, c3, c4].drop 2 |>.take (Tryz.prog.cellsOf 3)) = some y2 := hf 2 _ rfl
    rw [cells_int] at h2
    obtain ⟨n2, q2, -⟩ := DataW.trod_int Tryz.underlying3 h2
    have e2 : c2 = .int .i64 n2 := by simpa using q2
    clear q2
    have h3 : DataW.trod enc Tryz.prog W 0 (fun _ => true) true n 3 ([c0, c1, c2, c3, c4].drop 3 |>.take (Tryz.prog.cellsOf 3)) = some y3 := hf 3 _ rfl
    rw [cells_int] at h3
    obtain ⟨n3, q3, -⟩ := DataW.trod_int Tryz.underlying3 h3
    have e3 : c3 = .int .i64 n3 := by simpa using q3
    clear q3
    have h4 : DataW.trod enc Tryz.prog W 0 (fun _ => true) true n 3 ([c0, c1, c2, c3, c4].drop 4 |>.take (Tryz.prog.cellsOf 3)) = some y4 := hf 4 _ rfl
    rw [cells_int] at h4
    obtain ⟨n4, q4, -⟩ := DataW.trod_int Tryz.underlying3 h4
    have e4 : c4 = .int .i64 n4 := by simpa using q4
    clear q4
    subst e0 e1 e2 e3 e4
    exact ⟨⟨n0, n1, n2, n3, n4⟩, rfl⟩
end Go.Proofs.YtbcemldiahghcaaGreat
