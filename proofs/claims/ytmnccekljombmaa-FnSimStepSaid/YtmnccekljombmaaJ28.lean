/- Texts joined: Lt, Lt2, Lt3. -/
import Derived.Test.YtmnccekljombmaaJ01
import Derived.Test.YtmnccekljombmaaJ11
namespace Go.Proofs.Ytmnccekljombmaa
set_option linter.unusedVariables false
set_option linter.unusedSimpArgs false
open Go.RowKit
theorem take_eq_snoc {α : Type} {xs ys : List α} {k : Nat} (h : xs.take k = ys.take k) (h0 : k < xs.length) (h1 : k < ys.length) (he : xs[k] = ys[k]) : xs.take (k + 1) = ys.take (k + 1) := by
  rw [List.take_succ_eq_append_getElem h0, List.take_succ_eq_append_getElem h1, h, he]
theorem take_all_eq {α : Type} {xs ys : List α} {k : Nat} (h : xs.take k = ys.take k) (h0 : xs.length ≤ k) (hl : xs.length = ys.length) : xs = ys := by
  rw [List.take_of_length_le h0, List.take_of_length_le (by omega)] at h; exact h
set_option maxHeartbeats 1000000 in
theorem ltEvents_c (v0 v1 : Value) (xs ys : List EvD) (F : Nat → Prop) (w : World) (h0 : Rd tEv w F v0 xs) (h1 : Rd tEv w F v1 ys) :
    Calls Try.prog 18 #[v0, v1] w fun e w' => e = .returned (.bool (decide (xs = ys))) ∧ ∃ n, w' = w.drewN n := by
  obtain ⟨A0, c0, rfl, -, l0, -⟩ := id h0
  obtain ⟨A1, c1, rfl, -, l1, -⟩ := id h1
  by_cases hl : xs.length = ys.length
  · have hb : (((xs.length : Nat) : Int) != ((ys.length : Nat) : Int)) = false := by simp [hl]
    have HL := hid hl; clear hl
    go_enter Try.func18, Try.ntmps18
    go_wp2
    go_loopw [5] (fun i wr => ∃ k : Nat, i = .int .i64 k ∧ k ≤ xs.length ∧ xs.take k = ys.take k ∧ ∃ n, wr = w.drewN n) (fun i _ => xs.length - (intOf i).toNat)
    case atStart => exact ⟨0, rfl, Nat.zero_le _, rfl, 0, rfl⟩
    case round =>
      obtain ⟨k, rfl, hk, heq, n, rfl⟩ := hrel
      have HEQ := hid heq; clear heq
      by_cases hlt : k < xs.length
      · obtain ⟨b0, o0, rfl, _, a0, a1, a2, a3, a4, a5, a6⟩ := ev_at h0 k hlt
        obtain ⟨b1, o1, rfl, _, d0, d1, d2, d3, d4, d5, d6⟩ := ev_at h1 k (by rw [← HL.out]; exact hlt)
        have hlt2 : k < ys.length := by rw [← HL.out]; exact hlt
        by_cases he : xs[k] = ys[k]
        · have hd : decide (xs[k] = ys[k]) = true := decide_eq_true he
          have HE := hid he; clear he
          go_wp2
          go_quiet (fail)
          go_wp2
          go_roundw
          case rel => exact ⟨k + 1, by go_num, by omega, take_eq_snoc HEQ.out hlt hlt2 HE.out, _, rfl⟩
          case measure => simp [intOf]; omega
        · have hd : decide (xs[k] = ys[k]) = false := decide_eq_false he
          have HN := hid he; clear he
          go_wp2
          go_quiet (fail)
          go_wp2
          go_ret
          have hne : ¬ xs = ys := fun h => HN.out (by simp [h])
          exact ⟨by simp [hne], drw _ _⟩
      · go_wp2
        go_ret
        have hee : xs = ys := take_all_eq HEQ.out (by omega) HL.out
        exact ⟨by simp [hee], _, rfl⟩
  · have hb : (((xs.length : Nat) : Int) != ((ys.length : Nat) : Int)) = true := by rw [bne_iff_ne]; omega
    have hne : ¬ xs = ys := fun h => hl (by simp [h])
    go_enter Try.func18, Try.ntmps18
    go_wp2
    go_ret
    exact ⟨by simp [hne], 0, rfl⟩
end Go.Proofs.Ytmnccekljombmaa

namespace Go.Proofs.Ytmnccekljombmaa
set_option linter.unusedVariables false
set_option linter.unusedSimpArgs false
open Go.RowKit
set_option maxHeartbeats 1000000 in
theorem ltOuts_c (v0 v1 : Value) (xs ys : List OutD) (F : Nat → Prop) (w : World) (h0 : Rd tOut w F v0 xs) (h1 : Rd tOut w F v1 ys) :
    Calls Try.prog 19 #[v0, v1] w fun e w' => e = .returned (.bool (decide (xs = ys))) ∧ ∃ n, w' = w.drewN n := by
  obtain ⟨A0, c0, rfl, -, l0, -⟩ := id h0
  obtain ⟨A1, c1, rfl, -, l1, -⟩ := id h1
  by_cases hl : xs.length = ys.length
  · have hb : (((xs.length : Nat) : Int) != ((ys.length : Nat) : Int)) = false := by simp [hl]
    have HL := hid hl; clear hl
    go_enter Try.func19, Try.ntmps19
    go_wp2
    go_loopw [5] (fun i wr => ∃ k : Nat, i = .int .i64 k ∧ k ≤ xs.length ∧ xs.take k = ys.take k ∧ ∃ n, wr = w.drewN n) (fun i _ => xs.length - (intOf i).toNat)
    case atStart => exact ⟨0, rfl, Nat.zero_le _, rfl, 0, rfl⟩
    case round =>
      obtain ⟨k, rfl, hk, heq, n, rfl⟩ := hrel
      have HEQ := hid heq; clear heq
      by_cases hlt : k < xs.length
      · obtain ⟨b0, o0, rfl, _, a0, a1, a2, a3, a4⟩ := out_at h0 k hlt
        obtain ⟨b1, o1, rfl, _, d0, d1, d2, d3, d4⟩ := out_at h1 k (by rw [← HL.out]; exact hlt)
        have hlt2 : k < ys.length := by rw [← HL.out]; exact hlt
        by_cases he : xs[k] = ys[k]
        · have hd : decide (xs[k] = ys[k]) = true := decide_eq_true he
          have HE := hid he; clear he
          go_wp2
          go_quiet (fail)
          go_wp2
          go_roundw
          case rel => exact ⟨k + 1, by go_num, by omega, take_eq_snoc HEQ.out hlt hlt2 HE.out, _, rfl⟩
          case measure => simp [intOf]; omega
        · have hd : decide (xs[k] = ys[k]) = false := decide_eq_false he
          have HN := hid he; clear he
          go_wp2
          go_quiet (fail)
          go_wp2
          go_ret
          have hne : ¬ xs = ys := fun h => HN.out (by simp [h])
          exact ⟨by simp [hne], drw _ _⟩
      · go_wp2
        go_ret
        have hee : xs = ys := take_all_eq HEQ.out (by omega) HL.out
        exact ⟨by simp [hee], _, rfl⟩
  · have hb : (((xs.length : Nat) : Int) != ((ys.length : Nat) : Int)) = true := by rw [bne_iff_ne]; omega
    have hne : ¬ xs = ys := fun h => hl (by simp [h])
    go_enter Try.func19, Try.ntmps19
    go_wp2
    go_ret
    exact ⟨by simp [hne], 0, rfl⟩
set_option maxHeartbeats 1000000 in
theorem ltStates_c (v0 v1 : Value) (xs ys : List StD) (F : Nat → Prop) (w : World) (h0 : Rd tSt w F v0 xs) (h1 : Rd tSt w F v1 ys) :
    Calls Try.prog 64 #[v0, v1] w fun e w' => e = .returned (.bool (decide (xs = ys))) ∧ ∃ n, w' = w.drewN n := by
  obtain ⟨A0, c0, rfl, -, l0, -⟩ := id h0
  obtain ⟨A1, c1, rfl, -, l1, -⟩ := id h1
  by_cases hl : xs.length = ys.length
  · have hb : (((xs.length : Nat) : Int) != ((ys.length : Nat) : Int)) = false := by simp [hl]
    have HL := hid hl; clear hl
    go_enter Try.func64, Try.ntmps64
    go_wp2
    go_loopw [5] (fun i wr => ∃ k : Nat, i = .int .i64 k ∧ k ≤ xs.length ∧ xs.take k = ys.take k ∧ ∃ n, wr = w.drewN n) (fun i _ => xs.length - (intOf i).toNat)
    case atStart => exact ⟨0, rfl, Nat.zero_le _, rfl, 0, rfl⟩
    case round =>
      obtain ⟨k, rfl, hk, heq, n, rfl⟩ := hrel
      have HEQ := hid heq; clear heq
      by_cases hlt : k < xs.length
      · obtain ⟨b0, o0, rfl, _, a0, a1, a2⟩ := st_at h0 k hlt
        obtain ⟨b1, o1, rfl, _, d0, d1, d2⟩ := st_at h1 k (by rw [← HL.out]; exact hlt)
        have hlt2 : k < ys.length := by rw [← HL.out]; exact hlt
        by_cases he : xs[k] = ys[k]
        · have hd : decide (xs[k] = ys[k]) = true := decide_eq_true he
          have HE := hid he; clear he
          go_wp2
          go_quiet (fail)
          go_wp2
          go_roundw
          case rel => exact ⟨k + 1, by go_num, by omega, take_eq_snoc HEQ.out hlt hlt2 HE.out, _, rfl⟩
          case measure => simp [intOf]; omega
        · have hd : decide (xs[k] = ys[k]) = false := decide_eq_false he
          have HN := hid he; clear he
          go_wp2
          go_quiet (fail)
          go_wp2
          go_ret
          have hne : ¬ xs = ys := fun h => HN.out (by simp [h])
          exact ⟨by simp [hne], drw _ _⟩
      · go_wp2
        go_ret
        have hee : xs = ys := take_all_eq HEQ.out (by omega) HL.out
        exact ⟨by simp [hee], _, rfl⟩
  · have hb : (((xs.length : Nat) : Int) != ((ys.length : Nat) : Int)) = true := by rw [bne_iff_ne]; omega
    have hne : ¬ xs = ys := fun h => hl (by simp [h])
    go_enter Try.func64, Try.ntmps64
    go_wp2
    go_ret
    exact ⟨by simp [hne], 0, rfl⟩
end Go.Proofs.Ytmnccekljombmaa

namespace Go.Proofs.Ytmnccekljombmaa
set_option linter.unusedVariables false
set_option linter.unusedSimpArgs false
set_option maxRecDepth 100000
open Go.RowKit
set_option maxHeartbeats 2000000 in
theorem ltSim_c (vs vq vo us uq uo : Value) (s t : SimD) (F : Nat → Prop) (w : World) (h : SimRd w F vs vq vo s) (k : SimRd w F us uq uo t) :
    Calls Try.prog 35 #[.agg #[vs, vq, vo], .agg #[us, uq, uo]] w fun q w' => q = .returned (.bool (decide (s = t))) ∧ Below w.heap.size w w' := by
  obtain ⟨A1, c1, rfl, m1⟩ := h.st.shape
  obtain ⟨A2, c2, rfl, m2⟩ := h.qu.shape
  obtain ⟨A3, c3, rfl, m3⟩ := h.ou.shape
  obtain ⟨D1, e1, rfl, n1⟩ := k.st.shape
  obtain ⟨D2, e2, rfl, n2⟩ := k.qu.shape
  obtain ⟨D3, e3, rfl, n3⟩ := k.ou.shape
  have HE : ∀ b1 b2 b3, decide (s.states = t.states) = b1 → decide (s.queue = t.queue) = b2 → decide (s.outs = t.outs) = b3 → decide (s = t) = (b1 && b2 && b3) := by
    intro b1 b2 b3 h1 h2 h3
    subst h1 h2 h3
    obtain ⟨a, b, c⟩ := s
    obtain ⟨d, e, f⟩ := t
    simp [Bool.and_assoc]
  obtain ⟨b1, q1⟩ : ∃ b, decide (s.states = t.states) = b := ⟨_, rfl⟩
  obtain ⟨b2, q2⟩ : ∃ b, decide (s.queue = t.queue) = b := ⟨_, rfl⟩
  obtain ⟨b3, q3⟩ : ∃ b, decide (s.outs = t.outs) = b := ⟨_, rfl⟩
  have HD := hid (HE b1 b2 b3 q1 q2 q3)
  have Q1 := hid q1
  have Q2 := hid q2
  have Q3 := hid q3
  clear HE q1 q2 q3
  go_enter Try.func35, Try.ntmps35
  go_wp2_with fail
  have hW := balloc (balloc (Below.refl w.heap.size w) (.cells #[.slice A1 s.states.length c1, .slice A2 s.queue.length c2, .slice A3 s.outs.length c3] 64)) (.cells #[.slice D1 t.states.length e1, .slice D2 t.queue.length e2, .slice D3 t.outs.length e3] 64)
  have X : ((w.alloc (.cells #[.slice A1 s.states.length c1, .slice A2 s.queue.length c2, .slice A3 s.outs.length c3] 64)).alloc (.cells #[.slice D1 t.states.length e1, .slice D2 t.queue.length e2, .slice D3 t.outs.length e3] 64)).heap[w.heap.size]? = some (.cells #[.slice A1 s.states.length c1, .slice A2 s.queue.length c2, .slice A3 s.outs.length c3] 64 (0, 0)) := (heap_old (by simp)).trans (heap_at rfl)
  have Y : ((w.alloc (.cells #[.slice A1 s.states.length c1, .slice A2 s.queue.length c2, .slice A3 s.outs.length c3] 64)).alloc (.cells #[.slice D1 t.states.length e1, .slice D2 t.queue.length e2, .slice D3 t.outs.length e3] 64)).heap[w.heap.size + 1]? = some (.cells #[.slice D1 t.states.length e1, .slice D2 t.queue.length e2, .slice D3 t.outs.length e3] 64 (0, 0)) := heap_at (by simp)
  generalize (w.alloc (.cells #[.slice A1 s.states.length c1, .slice A2 s.queue.length c2, .slice A3 s.outs.length c3] 64)).alloc (.cells #[.slice D1 t.states.length e1, .slice D2 t.queue.length e2, .slice D3 t.outs.length e3] 64) = W at *
  have hs := h.below hW
  have ks := k.below hW
  refine (ltStates_c _ _ _ _ F W hs.st ks.st).mono ?_
  rintro e w1 ⟨rfl, a1, rfl⟩
  rw [Q1.out]
  have hb1 := bdrewN hW a1
  have X1 : (W.drewN a1).heap[w.heap.size]? = _ := X
  have Y1 : (W.drewN a1).heap[w.heap.size + 1]? = _ := Y
  have hs1 := h.below hb1
  have ks1 := k.below hb1
  clear X Y hW hs ks
  generalize W.drewN a1 = W1 at *
  have x0 : W1.cell? ⟨w.heap.size, 0, none⟩ = some (.slice A1 s.states.length c1) := blk_cell X1 0
  have x1 : W1.cell? ⟨w.heap.size, 1, none⟩ = some (.slice A2 s.queue.length c2) := blk_cell X1 1
  have x2 : W1.cell? ⟨w.heap.size, 2, none⟩ = some (.slice A3 s.outs.length c3) := blk_cell X1 2
  have y0 : W1.cell? ⟨w.heap.size + 1, 0, none⟩ = some (.slice D1 t.states.length e1) := blk_cell Y1 0
  have y1 : W1.cell? ⟨w.heap.size + 1, 1, none⟩ = some (.slice D2 t.queue.length e2) := blk_cell Y1 1
  have y2 : W1.cell? ⟨w.heap.size + 1, 2, none⟩ = some (.slice D3 t.outs.length e3) := blk_cell Y1 2
  apply_assumption
  cases b1
  case false =>
    go_wp2_with fail
    go_ret
    exact ⟨by rw [HD.out]; rfl, hb1⟩
  case true =>
    go_wp2_with fail
    refine (ltEvents_c _ _ _ _ F W1 hs1.qu ks1.qu).mono ?_
    rintro e w1 ⟨rfl, a2, rfl⟩
    rw [Q2.out]
    have hb2 := bdrewN hb1 a2
    have X2 : (W1.drewN a2).heap[w.heap.size]? = _ := X1
    have Y2 : (W1.drewN a2).heap[w.heap.size + 1]? = _ := Y1
    have hs2 := h.below hb2
    have ks2 := k.below hb2
    clear X1 Y1 hb1 hs1 ks1 x0 x1 x2 y0 y1 y2
    generalize W1.drewN a2 = W2 at *
    have x0 : W2.cell? ⟨w.heap.size, 0, none⟩ = some (.slice A1 s.states.length c1) := blk_cell X2 0
    have x1 : W2.cell? ⟨w.heap.size, 1, none⟩ = some (.slice A2 s.queue.length c2) := blk_cell X2 1
    have x2 : W2.cell? ⟨w.heap.size, 2, none⟩ = some (.slice A3 s.outs.length c3) := blk_cell X2 2
    have y0 : W2.cell? ⟨w.heap.size + 1, 0, none⟩ = some (.slice D1 t.states.length e1) := blk_cell Y2 0
    have y1 : W2.cell? ⟨w.heap.size + 1, 1, none⟩ = some (.slice D2 t.queue.length e2) := blk_cell Y2 1
    have y2 : W2.cell? ⟨w.heap.size + 1, 2, none⟩ = some (.slice D3 t.outs.length e3) := blk_cell Y2 2
    apply_assumption
    cases b2
    case false =>
      go_wp2_with fail
      go_ret
      exact ⟨by rw [HD.out]; rfl, hb2⟩
    case true =>
      go_wp2_with fail
      refine (ltOuts_c _ _ _ _ F W2 hs2.ou ks2.ou).mono ?_
      rintro e w1 ⟨rfl, a3, rfl⟩
      rw [Q3.out]
      have hb3 := bdrewN hb2 a3
      apply_assumption
      go_wp2_with fail
      go_ret
      exact ⟨by rw [HD.out]; rfl, hb3⟩
end Go.Proofs.Ytmnccekljombmaa
