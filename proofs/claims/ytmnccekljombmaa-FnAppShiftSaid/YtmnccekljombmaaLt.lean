/- Comparing rows of events. -/
import Derived.Test.YtmnccekljombmaaEq
set_option linter.unusedVariables false
set_option linter.unusedSimpArgs false
namespace Go.Proofs.Ytmnccekljombmaa
open Go.RowKit
theorem take_eq_snoc {α : Type} {xs ys : List α} {k : Nat} (h : xs.take k = ys.take k) (h0 : k < xs.length) (h1 : k < ys.length) (he : xs[k] = ys[k]) : xs.take (k + 1) = ys.take (k + 1) := by
  rw [List.take_succ_eq_append_getElem h0, List.take_succ_eq_append_getElem h1, h, he]
theorem take_all_eq {α : Type} {xs ys : List α} {k : Nat} (h : xs.take k = ys.take k) (h0 : xs.length ≤ k) (hl : xs.length = ys.length) : xs = ys := by
  rw [List.take_of_length_le h0, List.take_of_length_le (by omega)] at h; exact h
set_option maxHeartbeats 1000000 in
theorem ltEvents_c (v0 v1 : Value) (xs ys : List EvD) (F : Nat → Prop) (w : World) (h0 : Rd tEv w F v0 xs) (h1 : Rd tEv w F v1 ys) :
    Calls Try.prog 18 #[v0, v1] w fun e w' => e = .returned (.bool (decide (xs = ys))) ∧ ∃ n, w' = w.drewN n := by
  obtain ⟨A0, c0, rfl, -, l0, -⟩ := id h0
  obtain ⟨A1, c1, rfl, -, l1, -⟩ := id h1
  by_cases hl : xs.length = ys.length
  · have hb : (((xs.length : Nat) : Int) != ((ys.length : Nat) : Int)) = false := by simp [hl]
    have HL := hid hl; clear hl
    go_enter Try.func18, Try.ntmps18
    go_wp2
    go_loopw [5] (fun i wr => ∃ k : Nat, i = .int .i64 k ∧ k ≤ xs.length ∧ xs.take k = ys.take k ∧ ∃ n, wr = w.drewN n) (fun i _ => xs.length - (intOf i).toNat)
    case atStart => exact ⟨0, rfl, Nat.zero_le _, rfl, 0, rfl⟩
    case round =>
      obtain ⟨k, rfl, hk, heq, n, rfl⟩ := hrel
      have HEQ := hid heq; clear heq
      by_cases hlt : k < xs.length
      · obtain ⟨b0, o0, rfl, _, a0, a1, a2, a3, a4, a5, a6⟩ := ev_at h0 k hlt
        obtain ⟨b1, o1, rfl, _, d0, d1, d2, d3, d4, d5, d6⟩ := ev_at h1 k (by rw [← HL.out]; exact hlt)
        have hlt2 : k < ys.length := by rw [← HL.out]; exact hlt
        by_cases he : xs[k] = ys[k]
        · have hd : decide (xs[k] = ys[k]) = true := decide_eq_true he
          have HE := hid he; clear he
          go_wp2
          go_quiet (fail)
          go_wp2
          go_roundw
          case rel => exact ⟨k + 1, by go_num, by omega, take_eq_snoc HEQ.out hlt hlt2 HE.out, _, rfl⟩
          case measure => simp [intOf]; omega
        · have hd : decide (xs[k] = ys[k]) = false := decide_eq_false he
          have HN := hid he; clear he
          go_wp2
          go_quiet (fail)
          go_wp2
          go_ret
          have hne : ¬ xs = ys := fun h => HN.out (by simp [h])
          exact ⟨by simp [hne], drw _ _⟩
      · go_wp2
        go_ret
        have hee : xs = ys := take_all_eq HEQ.out (by omega) HL.out
        exact ⟨by simp [hee], _, rfl⟩
  · have hb : (((xs.length : Nat) : Int) != ((ys.length : Nat) : Int)) = true := by rw [bne_iff_ne]; omega
    have hne : ¬ xs = ys := fun h => hl (by simp [h])
    go_enter Try.func18, Try.ntmps18
    go_wp2
    go_ret
    exact ⟨by simp [hne], 0, rfl⟩
end Go.Proofs.Ytmnccekljombmaa
