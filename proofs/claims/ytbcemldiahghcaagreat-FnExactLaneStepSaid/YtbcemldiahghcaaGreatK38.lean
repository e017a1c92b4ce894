/- Texts joined: Ezi. -/
import Derived.Test.YtbcemldiahghcaaGreatK37
import Derived.Test.YtbcemldiahghcaaGreatK11
namespace Go.Proofs.YtbcemldiahghcaaGreat
set_option linter.unusedVariables false
set_option linter.unusedSimpArgs false
set_option maxRecDepth 100000
open Go.RowKit
theorem open_past {H : Type} {enc : TypeId × Value → H} {W : World} (fuel : Nat) (cs : List Value) (x : DataW H × List MemPlace) (h : DataW.trod enc Tryz.prog W 0 (fun _ => true) true fuel 137 cs = some x) : ∃ y : PastD, tPast.rel W (fun k => k < W.heap.size) y cs := by
  obtain ⟨ys, n, -, -, hl, hlen, hf⟩ := DataW.trod_struct Tryz.underlying137 h
  have hc : Tryz.prog.cellsOf 137 = 12 := by kernel_rfl
  rw [hc] at hl
  match cs, hl, ys, hlen, hf with
  | [c0, c1, c2, c3, c4, c5, c6, c7, c8, c9, c10, c11], _, [y0, y1, y2, y3], _, hf =>
    have s0 : Tryz.prog.cellsOf 103 = 7 := by kernel_rfl
    have s1 : Tryz.prog.cellsOf 41 = 3 := by kernel_rfl
    have s2 : Tryz.prog.cellsOf 45 = 1 := by kernel_rfl
    have s3 : Tryz.prog.cellsOf 69 = 1 := by kernel_rfl
    have h0 : DataW.trod enc Tryz.prog W 0 (fun _ => true) true n 103 ([c0, c1, c2, c3, c4, c5, c6, c7, c8, c9, c10, c11].drop 0 |>.take (Tryz.prog.cellsOf 103)) = some y0 := hf 0 _ rfl
    have h1 : DataW.trod enc Tryz.prog W 0 (fun _ => true) true n 41 ([c0, c1, c2, c3, c4, c5, c6, c7, c8, c9, c10, c11].drop 7 |>.take (Tryz.prog.cellsOf 41)) = some y1 := hf 1 _ rfl
    have h2 : DataW.trod enc Tryz.prog W 0 (fun _ => true) true n 45 ([c0, c1, c2, c3, c4, c5, c6, c7, c8, c9, c10, c11].drop 10 |>.take (Tryz.prog.cellsOf 45)) = some y2 := hf 2 _ rfl
    have h3 : DataW.trod enc Tryz.prog W 0 (fun _ => true) true n 69 ([c0, c1, c2, c3, c4, c5, c6, c7, c8, c9, c10, c11].drop 11 |>.take (Tryz.prog.cellsOf 69)) = some y3 := hf 3 _ rfl
    obtain ⟨e, he⟩ := open_event _ _ _ h0
    obtain ⟨s, hs⟩ := open_state _ _ _ h1
    obtain ⟨A, c, xs, hx, hr⟩ := open_rows tEv Tryz.underlying45 (by kernel_rfl) (by decide) (fun f cs x h => by obtain ⟨y, hy⟩ := open_event f cs x h; exact ⟨y, hy⟩) h2
    obtain ⟨A', c', xs', hx', hr'⟩ := open_rows tOut Tryz.underlying69 (by kernel_rfl) (by decide) (fun f cs x h => by obtain ⟨y, hy⟩ := open_out f cs x h; exact ⟨y, hy⟩) h3
    rw [s0] at he
    rw [s1] at hs
    rw [s2] at hx
    rw [s3] at hx'
    simp only [List.drop_zero, List.drop_succ_cons, List.take_succ_cons, List.take_zero, EvD.cells, StD.cells, List.cons.injEq, and_true] at he hs hx hx'
    obtain ⟨rfl, rfl, rfl, rfl, rfl, rfl, rfl⟩ := he
    obtain ⟨rfl, rfl, rfl⟩ := hs
    subst hx hx'
    exact ⟨⟨e, s, xs, xs'⟩, _, _, rfl, hr, hr'⟩
theorem open_lane {H : Type} {enc : TypeId × Value → H} {W : World} (fuel : Nat) (cs : List Value) (x : DataW H × List MemPlace) (h : DataW.trod enc Tryz.prog W 0 (fun _ => true) true fuel 44 cs = some x) : ∃ (y : LaneD) (v : Value), cs = [.int .i64 y.proc, .int .i64 y.base.x, .int .i64 y.base.y, .int .i64 y.base.c, v] ∧ Rd tPast W (fun k => k < W.heap.size) v y.done := by
  obtain ⟨ys, n, -, -, hl, hlen, hf⟩ := DataW.trod_struct Tryz.underlying44 h
  have hc : Tryz.prog.cellsOf 44 = 5 := by kernel_rfl
  rw [hc] at hl
  match cs, hl, ys, hlen, hf with
  | [c0, c1, c2, c3, c4], _, [y0, y1, y2], _, hf =>
    have s1 : Tryz.prog.cellsOf 41 = 3 := by kernel_rfl
    have s2 : Tryz.prog.cellsOf 42 = 1 := by kernel_rfl
    have h0 : DataW.trod enc Tryz.prog W 0 (fun _ => true) true n 3 ([c0, c1, c2, c3, c4].drop 0 |>.take (Tryz.prog.cellsOf 3)) = some y0 := hf 0 _ rfl
    have h1 : DataW.trod enc Tryz.prog W 0 (fun _ => true) true n 41 ([c0, c1, c2, c3, c4].drop 1 |>.take (Tryz.prog.cellsOf 41)) = some y1 := hf 1 _ rfl
    have h2 : DataW.trod enc Tryz.prog W 0 (fun _ => true) true n 42 ([c0, c1, c2, c3, c4].drop 4 |>.take (Tryz.prog.cellsOf 42)) = some y2 := hf 2 _ rfl
    rw [cells_int] at h0
    obtain ⟨n0, q0, -⟩ := DataW.trod_int Tryz.underlying3 h0
    obtain ⟨s, hs⟩ := open_state _ _ _ h1
    obtain ⟨A, c, xs, hx, hr⟩ := open_rows tPast Tryz.underlying42 (by kernel_rfl) (by decide) (fun f cs x h => open_past f cs x h) h2
    rw [s1] at hs
    rw [s2] at hx
    simp only [List.drop_zero, List.drop_succ_cons, List.take_succ_cons, List.take_zero, StD.cells, List.cons.injEq, and_true] at q0 hs hx
    obtain ⟨rfl, rfl, rfl⟩ := hs
    subst q0 hx
    exact ⟨⟨n0, s, xs⟩, _, rfl, hr⟩
theorem open_evs {H : Type} {enc : TypeId × Value → H} {W : World} {fuel : Nat} {cs : List Value} {x : DataW H × List MemPlace} (h : DataW.trod enc Tryz.prog W 0 (fun _ => true) true fuel 45 cs = some x) :
    ∃ (A : Option Addr) (c : Nat) (xs : List EvD), cs = [.slice A xs.length c] ∧ Rd tEv W (fun k => k < W.heap.size) (.slice A xs.length c) xs :=
  open_rows tEv Tryz.underlying45 (by kernel_rfl) (by decide) (fun f cs x h => by obtain ⟨y, hy⟩ := open_event f cs x h; exact ⟨y, hy⟩) h
end Go.Proofs.YtbcemldiahghcaaGreat
