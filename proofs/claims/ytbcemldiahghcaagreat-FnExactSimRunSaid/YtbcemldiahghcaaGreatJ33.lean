/- Texts joined: Ey5. -/
import Derived.Test.YtbcemldiahghcaaGreatJ32
import Derived.Test.YtbcemldiahghcaaGreatJ12
namespace Go.Proofs.YtbcemldiahghcaaGreat
set_option linter.unusedVariables false
set_option linter.unusedSimpArgs false
set_option maxRecDepth 100000
open Go.RowKit
theorem open_out {H : Type} {enc : TypeId × Value → H} {W : World} (fuel : Nat) (cs : List Value) (x : DataW H × List MemPlace) (h : DataW.trod enc Tryz.prog W 0 (fun _ => true) true fuel 164 cs = some x) : ∃ y : OutD, cs = OutD.cells y := by
  obtain ⟨ys, n, -, -, hl, hlen, hf⟩ := DataW.trod_struct Tryz.underlying164 h
  have hc : Tryz.prog.cellsOf 164 = 5 := by kernel_rfl
  rw [hc] at hl
  match cs, hl, ys, hlen, hf with
  | [c0, c1, c2, c3, c4], _, [y0, y1, y2, y3, y4], _, hf =>
    have h0 : DataW.trod enc Tryz.prog W 0 (fun _ => true) true n 3 ([c0, c1, c2, c3, c4].drop 0 |>.take (Tryz.prog.cellsOf 3)) = some y0 := hf 0 _ rfl
    rw [cells_int] at h0
    obtain ⟨n0, q0, -⟩ := DataW.trod_int Tryz.underlying3 h0
    have e0 : c0 = .int .i64 n0 := by simpa using q0
    clear q0
    have h1 : DataW.trod enc Tryz.prog W 0 (fun _ => true) true n 3 ([c0, c1, c2, c3, c4].drop 1 |>.take (Tryz.prog.cellsOf 3)) = some y1 := hf 1 _ rfl
    rw [cells_int] at h1
    obtain ⟨n1, q1, -⟩ := DataW.trod_int Tryz.underlying3 h1
    have e1 : c1 = .int .i64 n1 := by simpa using q1
    clear q1
    have h2 : DataW.trod enc Tryz.prog W 0 (fun _ => true) true n 3 ([c0, c1, c2, c3, c4].drop 2 |>.take (Tryz.prog.cellsOf 3)) = some y2 := hf 2 _ rfl
    rw [cells_int] at h2
    obtain ⟨n2, q2, -⟩ := DataW.trod_int Tryz.underlying3 h2
    have e2 : c2 = .int .i64 n2 := by simpa using q2
    clear q2
    have h3 : DataW.trod enc Tryz.prog W 0 (fun _ => true) true n 3 ([c0, c1, c2, c3, c4].drop 3 |>.take (Tryz.prog.cellsOf 3)) = some y3 := hf 3 _ rfl
    rw [cells_int] at h3
    obtain ⟨n3, q3, -⟩ := DataW.trod_int Tryz.underlying3 h3
    have e3 : c3 = .int .i64 n3 := by simpa using q3
    clear q3
    have h4 : DataW.trod enc Tryz.prog W 0 (fun _ => true) true n 3 ([c0, c1, c2, c3, c4].drop 4 |>.take (Tryz.prog.cellsOf 3)) = some y4 := hf 4 _ rfl
    rw [cells_int] at h4
    obtain ⟨n4, q4, -⟩ := DataW.trod_int Tryz.underlying3 h4
    have e4 : c4 = .int .i64 n4 := by simpa using q4
    clear q4
    subst e0 e1 e2 e3 e4
    exact ⟨⟨n0, n1, n2, n3, n4⟩, rfl⟩
theorem open_sim {H : Type} {enc : TypeId × Value → H} {W : World} (fuel : Nat) (cs : List Value) (x : DataW H × List MemPlace) (h : DataW.trod enc Tryz.prog W 0 (fun _ => true) true fuel 71 cs = some x) : ∃ (y : SimD) (vs vq vo : Value), cs = [vs, vq, vo] ∧ SimRd W (fun k => k < W.heap.size) vs vq vo y := by
  obtain ⟨ys, n, -, -, hl, hlen, hf⟩ := DataW.trod_struct Tryz.underlying71 h
  have hc : Tryz.prog.cellsOf 71 = 3 := by kernel_rfl
  rw [hc] at hl
  match cs, hl, ys, hlen, hf with
  | [c0, c1, c2], _, [y0, y1, y2], _, hf =>
    have hs0 : Tryz.prog.cellsOf 68 = 1 := by kernel_rfl
    have hs1 : Tryz.prog.cellsOf 45 = 1 := by kernel_rfl
    have hs2 : Tryz.prog.cellsOf 69 = 1 := by kernel_rfl
    have h0 : DataW.trod enc Tryz.prog W 0 (fun _ => true) true n 68 ([c0, c1, c2].drop 0 |>.take (Tryz.prog.cellsOf 68)) = some y0 := hf 0 _ rfl
    have h1 : DataW.trod enc Tryz.prog W 0 (fun _ => true) true n 45 ([c0, c1, c2].drop 1 |>.take (Tryz.prog.cellsOf 45)) = some y1 := hf 1 _ rfl
    have h2 : DataW.trod enc Tryz.prog W 0 (fun _ => true) true n 69 ([c0, c1, c2].drop 2 |>.take (Tryz.prog.cellsOf 69)) = some y2 := hf 2 _ rfl
    obtain ⟨A, c, xs, he, hr⟩ := open_rows tSt Tryz.underlying68 (by kernel_rfl) (by decide) (fun f cs x h => by obtain ⟨y, hy⟩ := open_state f cs x h; exact ⟨y, hy⟩) h0
    obtain ⟨A', c', xs', he', hr'⟩ := open_rows tEv Tryz.underlying45 (by kernel_rfl) (by decide) (fun f cs x h => by obtain ⟨y, hy⟩ := open_event f cs x h; exact ⟨y, hy⟩) h1
    obtain ⟨A'', c'', xs'', he'', hr''⟩ := open_rows tOut Tryz.underlying69 (by kernel_rfl) (by decide) (fun f cs x h => by obtain ⟨y, hy⟩ := open_out f cs x h; exact ⟨y, hy⟩) h2
    rw [hs0] at he
    rw [hs1] at he'
    rw [hs2] at he''
    have q0 : c0 = .slice A xs.length c := by simpa using he
    have q1 : c1 = .slice A' xs'.length c' := by simpa using he'
    have q2 : c2 = .slice A'' xs''.length c'' := by simpa using he''
    clear he he' he'' h0 h1 h2 hf
    subst q0 q1 q2
    exact ⟨⟨xs, xs', xs''⟩, _, _, _, rfl, ⟨hr, hr', hr''⟩⟩
theorem open_apps {H : Type} {enc : TypeId × Value → H} {W : World} {fuel : Nat} {cs : List Value} {x : DataW H × List MemPlace} (h : DataW.trod enc Tryz.prog W 0 (fun _ => true) true fuel 22 cs = some x) :
    ∃ (A : Option Addr) (c : Nat) (xs : List AppD), cs = [.slice A xs.length c] ∧ Rd tApp W (fun k => k < W.heap.size) (.slice A xs.length c) xs :=
  open_rows tApp Tryz.underlying22 (by kernel_rfl) (by decide) (fun f cs x h => open_app f cs x h) h
end Go.Proofs.YtbcemldiahghcaaGreat
