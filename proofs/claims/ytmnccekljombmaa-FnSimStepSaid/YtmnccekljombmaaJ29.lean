/- Texts joined: Row. -/
import Derived.Test.YtmnccekljombmaaRows
import Derived.Test.YtmnccekljombmaaJ00
import Derived.Lib.SlBytesRowKit
import Derived.ProofKit
namespace Go.Proofs.Ytmnccekljombmaa
set_option linter.unusedVariables false
set_option linter.unusedSimpArgs false
open Go.ChangeShapes Go.WideShapes Go.ChangeAt Go.RowKit
theorem own_k : ownKnob Try.prog.godebug = none := by kernel_rfl
theorem laidOut_k : laidOutB Try.prog = true := by kernel_rfl
theorem cells_u8 : Try.prog.cellsOf 5 = 1 := by kernel_rfl
/-- Bytes that came in are read as a row. -/
theorem rd_opened {H : Type} {enc : TypeId × Value → H} {W : World} {a0 : Option Addr} {len cap : Nat} {d0 : DataW H} {p : List MemPlace}
    (h0 : DataW.Trod enc Try.prog W 0 (fun _ => true) true 22 (.slice a0 len cap) d0 p) :
    ∃ xs : List Int, xs.length = len ∧ Rd (tInt .u8) W (fun k => k < W.heap.size) (.slice a0 xs.length cap) xs ∧ ∀ x ∈ xs, 0 ≤ x ∧ x ≤ 255 := by
  obtain ⟨fuel, hf⟩ := h0
  rcases open_ints Try.underlying22 Try.underlying5 cells_u8 hf with ⟨hcs, hx⟩ | ⟨a, len', cap', zs, hcs, _, hl, hm, hz, hx, hcell, hwz⟩
  · simp [Value.cells] at hcs
    obtain ⟨rfl, rfl, rfl⟩ := hcs
    exact ⟨[], rfl, Rd.nil _ _ _, fun _ h => by cases h⟩
  · simp [Value.cells] at hcs
    obtain ⟨rfl, rfl, rfl⟩ := hcs
    simp only [if_true] at hz
    have hlen : (zs.take len).length = len := by simp; omega
    refine ⟨zs.take len, hlen, ?_, fun x hx' => ?_⟩
    · refine ⟨_, cap, rfl, by omega, by simp only [maxLen] at hm; omega, fun hp => ?_⟩
      have h0 := hcell 0 (by omega)
      obtain ⟨b, o, sp⟩ := a
      have hsp : sp = none := by
        cases sp with
        | none => rfl
        | some s =>
          exfalso
          unfold World.cell? Addr.add at h0
          revert h0
          split <;> simp_all
      subst hsp
      have hlt : b < W.heap.size := by have := World.block_lt_of_cell? _ _ h0; simpa [block_add] using this
      refine ⟨b, o, rfl, hlt, hlt, fun j x hj => ⟨_, rfl, fun i u hi => ?_⟩⟩
      have hj2 : j < zs.length ∧ x = zs.getD j 0 := by
        rw [List.getElem?_take] at hj
        split at hj
        · have hjl := (List.getElem?_eq_some_iff.1 hj).1
          exact ⟨hjl, by simp [List.getD, hj]⟩
        · cases hj
      have hc := hcell j hj2.1
      rw [← hj2.2] at hc
      cases i with
      | zero =>
        have hu : u = .int .u8 x := by simpa using hi.symm
        subst hu
        have ha : (⟨b, o, none⟩ : Addr).add j = ⟨b, o + j * (tInt .u8).sz + 0, none⟩ := by
          have hs : (tInt .u8).sz = 1 := rfl
          rw [hs, Nat.mul_one, Nat.add_zero]; cases j <;> rfl
        rw [ha] at hc; exact hc
      | succ i => simp at hi
    · have := byte_of_wf (hwz x (List.mem_of_mem_take hx'))
      omega
end Go.Proofs.Ytmnccekljombmaa
