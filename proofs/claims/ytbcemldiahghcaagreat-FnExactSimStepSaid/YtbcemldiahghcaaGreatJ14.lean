/- Texts joined: Ey2, Late. -/
import Derived.Test.YtbcemldiahghcaaGreatJ13
import Derived.Test.YtbcemldiahghcaaGreatJ11
namespace Go.Proofs.YtbcemldiahghcaaGreat
set_option linter.unusedVariables false
set_option linter.unusedSimpArgs false
set_option maxRecDepth 100000
open Go.RowKit
set_option maxHeartbeats 1000000 in
theorem toOut_c (x : OutD) (w : World) : Calls Tryz.prog 120 #[.agg #[.int .i64 x.time, .int .i64 x.proc, .int .i64 x.count, .int .i64 x.n, .int .i64 x.value]] w fun q w' => q = .returned (.agg #[.int .i64 x.time, .int .i64 x.proc, .int .i64 x.count, .int .i64 x.n, .int .i64 x.value]) ∧ Below w.heap.size w w' := by
  go_enter Tryz.func120, Tryz.ntmps120
  go_wp2_with fail
  refine bodyPost_ret (v := .agg #[.int .i64 x.time, .int .i64 x.proc, .int .i64 x.count, .int .i64 x.n, .int .i64 x.value]) (by simp only [results, Tryz.results120]; go_simp) rfl ⟨rfl, ?_⟩
  refine Ch.below0 ?_
  repeat (first | (with_reducible exact Ch.refl _ _) | (with_reducible refine Ch.alloc ?_ _) | (refine Ch.setCell ?_ (Or.inr (by simp only [World.size_alloc]; omega)) _))
set_option maxHeartbeats 1000000 in
theorem toStateS_c (v : Value) (xs : List StD) (F : Nat → Prop) (w : World) (h : Rd tSt w F v xs) (hn : xs.length ≤ 1048576) :
    Calls Tryz.prog 73 #[v] w fun q w' => ∃ v', q = .returned v' ∧ Ow tSt 49 w' (fun k => w.heap.size ≤ k) v' xs ∧ Below w.heap.size w w' := by
  obtain ⟨A, c, rfl, -, -, -⟩ := id h
  go_enter Tryz.func73, Tryz.ntmps73
  go_wp2_with (refine ow_full (d := tSt) (e := 49) rfl _ _ _ rfl Tryz.underlying24 (.agg #[.int .i64 0, .int .i64 0, .int .i64 0]) 24 (by kernel_rfl) (by decide) rfl (by decide) _ _ xs.length rfl rfl (by omega) (by omega) ?_; intro w1 hO1 hb1)
  obtain ⟨g, hg⟩ : ∃ g, g = w.heap.size := ⟨_, rfl⟩
  rw [← hg] at hO1
  simp only [← hg]
  have HG := hid hg
  clear hg
  go_loopw [4] (fun i wr => ∃ k : Nat, i = .int .i64 k ∧ k ≤ xs.length ∧ Ow (opt tSt) 49 wr (fun k => g ≤ k) (.slice (some ⟨g, 0, none⟩) xs.length xs.length) ((xs.take k).map some ++ List.replicate (xs.length - k) none) ∧ Below g w wr) (fun i _ => xs.length - (intOf i).toNat)
  case atStart => exact ⟨0, rfl, Nat.zero_le _, by simpa using hO1, by rw [HG.out]; exact hb1⟩
  case round =>
    clear hO1 hb1
    obtain ⟨k, rfl, hk, hO, hb⟩ := hrel
    have hb' : Below w.heap.size w wr := by rw [← HG.out]; exact hb
    have hgl := hO.block_lt rfl
    by_cases hlt : k < xs.length
    · have hr := h.below hb'
      obtain ⟨b0, o0, rfl, hb0, z0, z1, z2⟩ := st_at hr k hlt
      have p0 : (k : Int) < (xs.length : Int) := by omega
      have p1 : (0 : Int) ≤ (k : Int) := by omega
      clear hb'
      go_wp2_with fail
      refine (toState_c xs[k] wr).mono ?_
      rintro q w2 ⟨rfl, hb2⟩
      skip
      have hB2 := hb.trans (hb2.mono (Nat.le_of_lt hgl))
      have hO2 := hO.bound.below hb2
      have hkl : k < ((xs.take k).map some ++ List.replicate (xs.length - k) (none : Option StD)).length := by rw [fill_len xs k hk]; exact hlt
      clear hO
      apply_assumption
      go_wp2_with (refine ow_store_any (d := opt tSt) rfl _ _ _ rfl hO2 (g := g) rfl k hkl (some xs[k]) (StD.cells xs[k]) (fun _ => False) (fun q => g ≤ q) (by first | rfl | exact hnew) (by first | exact fun _ hf => hf.elim | exact fun q hq hq' => by have h3 : wr.heap.size ≤ q := hq; omega) (fun _ hq => hq.1) (by first | exact fun _ hf => hf.elim | exact fun q hq => by have h3 : wr.heap.size ≤ q := hq; omega) (by first | rfl | simp [opt, tOp, tSt, tEv, tOut, oRule, oApp, flat]) (by first | rfl | simp [OpD.cells, StD.cells, EvD.cells, OutD.cells]) (by kernel_rfl) ?_; intro w3 hO3 hC3)
      rw [fill_set xs k hlt] at hO3
      have hB3 := hB2.trans (hC3.below (B := g) (fun q hq => by omega) (by have := hb2.size; omega))
      go_roundw
      case rel => exact ⟨k + 1, by go_num, by omega, hO3, hB3⟩
      case measure => simp [intOf]; omega
    · have hkl : k = xs.length := by omega
      subst hkl
      have hO4 : Ow tSt 49 wr (fun k => w.heap.size ≤ k) (.slice (some ⟨g, 0, none⟩) xs.length xs.length) xs := by
        have := hO
        rw [List.take_length, Nat.sub_self, List.replicate_zero, List.append_nil] at this
        rw [← HG.out]
        exact this.filled
      go_wp2_with fail
      go_ret
      exact ⟨_, rfl, hO4, hb'⟩
set_option maxHeartbeats 1000000 in
theorem toEventS_c (v : Value) (xs : List EvD) (F : Nat → Prop) (w : World) (h : Rd tEv w F v xs) (hn : xs.length ≤ 1048576) :
    Calls Tryz.prog 21 #[v] w fun q w' => ∃ v', q = .returned v' ∧ Ow tEv 80 w' (fun k => w.heap.size ≤ k) v' xs ∧ Below w.heap.size w w' := by
  obtain ⟨A, c, rfl, -, -, -⟩ := id h
  go_enter Tryz.func21, Tryz.ntmps21
  go_wp2_with (refine ow_full (d := tEv) (e := 80) rfl _ _ _ rfl Tryz.underlying25 (.agg #[.int .i64 0, .int .i64 0, .int .i64 0, .int .i64 0, .int .i64 0, .int .i64 0, .int .i64 0]) 56 (by kernel_rfl) (by decide) rfl (by decide) _ _ xs.length rfl rfl (by omega) (by omega) ?_; intro w1 hO1 hb1)
  obtain ⟨g, hg⟩ : ∃ g, g = w.heap.size := ⟨_, rfl⟩
  rw [← hg] at hO1
  simp only [← hg]
  have HG := hid hg
  clear hg
  go_loopw [4] (fun i wr => ∃ k : Nat, i = .int .i64 k ∧ k ≤ xs.length ∧ Ow (opt tEv) 80 wr (fun k => g ≤ k) (.slice (some ⟨g, 0, none⟩) xs.length xs.length) ((xs.take k).map some ++ List.replicate (xs.length - k) none) ∧ Below g w wr) (fun i _ => xs.length - (intOf i).toNat)
  case atStart => exact ⟨0, rfl, Nat.zero_le _, by simpa using hO1, by rw [HG.out]; exact hb1⟩
  case round =>
    clear hO1 hb1
    obtain ⟨k, rfl, hk, hO, hb⟩ := hrel
    have hb' : Below w.heap.size w wr := by rw [← HG.out]; exact hb
    have hgl := hO.block_lt rfl
    by_cases hlt : k < xs.length
    · have hr := h.below hb'
      obtain ⟨b0, o0, rfl, hb0, z0, z1, z2, z3, z4, z5, z6⟩ := ev_at hr k hlt
      have p0 : (k : Int) < (xs.length : Int) := by omega
      have p1 : (0 : Int) ≤ (k : Int) := by omega
      clear hb'
      go_wp2_with fail
      refine (toEvent_c xs[k] wr).mono ?_
      rintro q w2 ⟨rfl, hb2⟩
      skip
      have hB2 := hb.trans (hb2.mono (Nat.le_of_lt hgl))
      have hO2 := hO.bound.below hb2
      have hkl : k < ((xs.take k).map some ++ List.replicate (xs.length - k) (none : Option EvD)).length := by rw [fill_len xs k hk]; exact hlt
      clear hO
      apply_assumption
      go_wp2_with (refine ow_store_any (d := opt tEv) rfl _ _ _ rfl hO2 (g := g) rfl k hkl (some xs[k]) (EvD.cells xs[k]) (fun _ => False) (fun q => g ≤ q) (by first | rfl | exact hnew) (by first | exact fun _ hf => hf.elim | exact fun q hq hq' => by have h3 : wr.heap.size ≤ q := hq; omega) (fun _ hq => hq.1) (by first | exact fun _ hf => hf.elim | exact fun q hq => by have h3 : wr.heap.size ≤ q := hq; omega) (by first | rfl | simp [opt, tOp, tSt, tEv, tOut, oRule, oApp, flat]) (by first | rfl | simp [OpD.cells, StD.cells, EvD.cells, OutD.cells]) (by kernel_rfl) ?_; intro w3 hO3 hC3)
      rw [fill_set xs k hlt] at hO3
      have hB3 := hB2.trans (hC3.below (B := g) (fun q hq => by omega) (by have := hb2.size; omega))
      go_roundw
      case rel => exact ⟨k + 1, by go_num, by omega, hO3, hB3⟩
      case measure => simp [intOf]; omega
    · have hkl : k = xs.length := by omega
      subst hkl
      have hO4 : Ow tEv 80 wr (fun k => w.heap.size ≤ k) (.slice (some ⟨g, 0, none⟩) xs.length xs.length) xs := by
        have := hO
        rw [List.take_length, Nat.sub_self, List.replicate_zero, List.append_nil] at this
        rw [← HG.out]
        exact this.filled
      go_wp2_with fail
      go_ret
      exact ⟨_, rfl, hO4, hb'⟩
set_option maxHeartbeats 1000000 in
theorem toOutS_c (v : Value) (xs : List OutD) (F : Nat → Prop) (w : World) (h : Rd tOut w F v xs) (hn : xs.length ≤ 1048576) :
    Calls Tryz.prog 74 #[v] w fun q w' => ∃ v', q = .returned v' ∧ Ow tOut 128 w' (fun k => w.heap.size ≤ k) v' xs ∧ Below w.heap.size w w' := by
  obtain ⟨A, c, rfl, -, -, -⟩ := id h
  go_enter Tryz.func74, Tryz.ntmps74
  go_wp2_with (refine ow_full (d := tOut) (e := 128) rfl _ _ _ rfl Tryz.underlying26 (.agg #[.int .i64 0, .int .i64 0, .int .i64 0, .int .i64 0, .int .i64 0]) 40 (by kernel_rfl) (by decide) rfl (by decide) _ _ xs.length rfl rfl (by omega) (by omega) ?_; intro w1 hO1 hb1)
  obtain ⟨g, hg⟩ : ∃ g, g = w.heap.size := ⟨_, rfl⟩
  rw [← hg] at hO1
  simp only [← hg]
  have HG := hid hg
  clear hg
  go_loopw [4] (fun i wr => ∃ k : Nat, i = .int .i64 k ∧ k ≤ xs.length ∧ Ow (opt tOut) 128 wr (fun k => g ≤ k) (.slice (some ⟨g, 0, none⟩) xs.length xs.length) ((xs.take k).map some ++ List.replicate (xs.length - k) none) ∧ Below g w wr) (fun i _ => xs.length - (intOf i).toNat)
  case atStart => exact ⟨0, rfl, Nat.zero_le _, by simpa using hO1, by rw [HG.out]; exact hb1⟩
  case round =>
    clear hO1 hb1
    obtain ⟨k, rfl, hk, hO, hb⟩ := hrel
    have hb' : Below w.heap.size w wr := by rw [← HG.out]; exact hb
    have hgl := hO.block_lt rfl
    by_cases hlt : k < xs.length
    · have hr := h.below hb'
      obtain ⟨b0, o0, rfl, hb0, z0, z1, z2, z3, z4⟩ := out_at hr k hlt
      have p0 : (k : Int) < (xs.length : Int) := by omega
      have p1 : (0 : Int) ≤ (k : Int) := by omega
      clear hb'
      go_wp2_with fail
      refine (toOut_c xs[k] wr).mono ?_
      rintro q w2 ⟨rfl, hb2⟩
      skip
      have hB2 := hb.trans (hb2.mono (Nat.le_of_lt hgl))
      have hO2 := hO.bound.below hb2
      have hkl : k < ((xs.take k).map some ++ List.replicate (xs.length - k) (none : Option OutD)).length := by rw [fill_len xs k hk]; exact hlt
      clear hO
      apply_assumption
      go_wp2_with (refine ow_store_any (d := opt tOut) rfl _ _ _ rfl hO2 (g := g) rfl k hkl (some xs[k]) (OutD.cells xs[k]) (fun _ => False) (fun q => g ≤ q) (by first | rfl | exact hnew) (by first | exact fun _ hf => hf.elim | exact fun q hq hq' => by have h3 : wr.heap.size ≤ q := hq; omega) (fun _ hq => hq.1) (by first | exact fun _ hf => hf.elim | exact fun q hq => by have h3 : wr.heap.size ≤ q := hq; omega) (by first | rfl | simp [opt, tOp, tSt, tEv, tOut, oRule, oApp, flat]) (by first | rfl | simp [OpD.cells, StD.cells, EvD.cells, OutD.cells]) (by kernel_rfl) ?_; intro w3 hO3 hC3)
      rw [fill_set xs k hlt] at hO3
      have hB3 := hB2.trans (hC3.below (B := g) (fun q hq => by omega) (by have := hb2.size; omega))
      go_roundw
      case rel => exact ⟨k + 1, by go_num, by omega, hO3, hB3⟩
      case measure => simp [intOf]; omega
    · have hkl : k = xs.length := by omega
      subst hkl
      have hO4 : Ow tOut 128 wr (fun k => w.heap.size ≤ k) (.slice (some ⟨g, 0, none⟩) xs.length xs.length) xs := by
        have := hO
        rw [List.take_length, Nat.sub_self, List.replicate_zero, List.append_nil] at this
        rw [← HG.out]
        exact this.filled
      go_wp2_with fail
      go_ret
      exact ⟨_, rfl, hO4, hb'⟩
set_option maxHeartbeats 1000000 in
theorem toAppS_c (v : Value) (xs : List AppD) (F : Nat → Prop) (w : World) (h : Rd tApp w F v xs) (hn : xs.length ≤ 1048576) (hops : ∀ r ∈ xs, r.rules.length ≤ 1048576 ∧ ∀ q ∈ r.rules, q.ops.length ≤ 1048576) :
    Calls Tryz.prog 8 #[v] w fun q w' => ∃ v', q = .returned v' ∧ Ow oApp 57 w' (fun k => w.heap.size ≤ k) v' xs ∧ Below w.heap.size w w' := by
  obtain ⟨A, c, rfl, -, -, -⟩ := id h
  go_enter Tryz.func8, Tryz.ntmps8
  go_wp2_with (refine ow_full (d := oApp) (e := 57) rfl _ _ _ rfl Tryz.underlying30 (.agg #[.slice none 0 0]) 24 (by kernel_rfl) (by decide) rfl (by decide) _ _ xs.length rfl rfl (by omega) (by omega) ?_; intro w1 hO1 hb1)
  obtain ⟨g, hg⟩ : ∃ g, g = w.heap.size := ⟨_, rfl⟩
  rw [← hg] at hO1
  simp only [← hg]
  have HG := hid hg
  clear hg
  go_loopw [4] (fun i wr => ∃ k : Nat, i = .int .i64 k ∧ k ≤ xs.length ∧ Ow (opt oApp) 57 wr (fun k => g ≤ k) (.slice (some ⟨g, 0, none⟩) xs.length xs.length) ((xs.take k).map some ++ List.replicate (xs.length - k) none) ∧ Below g w wr) (fun i _ => xs.length - (intOf i).toNat)
  case atStart => exact ⟨0, rfl, Nat.zero_le _, by simpa using hO1, by rw [HG.out]; exact hb1⟩
  case round =>
    clear hO1 hb1
    obtain ⟨k, rfl, hk, hO, hb⟩ := hrel
    have hb' : Below w.heap.size w wr := by rw [← HG.out]; exact hb
    have hgl := hO.block_lt rfl
    by_cases hlt : k < xs.length
    · have hr := h.below hb'
      obtain ⟨b0, o0, A1, c1, rfl, hb0, z0, hrO⟩ := app_at hr k hlt
      have p0 : (k : Int) < (xs.length : Int) := by omega
      have p1 : (0 : Int) ≤ (k : Int) := by omega
      clear hb'
      go_wp2_with fail
      refine (toApp_c xs[k] _ _ wr hrO (hops _ (List.getElem_mem _)).1 (hops _ (List.getElem_mem _)).2).mono ?_
      rintro q w2 ⟨v', rfl, hOe, hb2⟩
      obtain ⟨B, b, rfl, -⟩ := hOe.shape
      have hnew : (opt oApp).rel w2 (fun q => wr.heap.size ≤ q) (some xs[k]) [.slice B xs[k].rules.length b] := ⟨_, rfl, hOe⟩
      have hB2 := hb.trans (hb2.mono (Nat.le_of_lt hgl))
      have hO2 := hO.bound.below hb2
      have hkl : k < ((xs.take k).map some ++ List.replicate (xs.length - k) (none : Option AppD)).length := by rw [fill_len xs k hk]; exact hlt
      clear hO
      apply_assumption
      go_wp2_with (refine ow_store_any (d := opt oApp) rfl _ _ _ rfl hO2 (g := g) rfl k hkl (some xs[k]) [.slice B xs[k].rules.length b] (fun q => wr.heap.size ≤ q) (fun q => g ≤ q) (by first | rfl | exact hnew) (by first | exact fun _ hf => hf.elim | exact fun q hq hq' => by have h3 : wr.heap.size ≤ q := hq; omega) (fun _ hq => hq.1) (by first | exact fun _ hf => hf.elim | exact fun q hq => by have h3 : wr.heap.size ≤ q := hq; omega) (by first | rfl | (simp [opt, tOp, tSt, tEv, tOut, oRule, oApp, flat]; rfl)) (by first | rfl | simp [OpD.cells, StD.cells, EvD.cells, OutD.cells]) (by kernel_rfl) ?_; intro w3 hO3 hC3)
      rw [fill_set xs k hlt] at hO3
      have hB3 := hB2.trans (hC3.below (B := g) (fun q hq => by omega) (by have := hb2.size; omega))
      go_roundw
      case rel => exact ⟨k + 1, by go_num, by omega, hO3, hB3⟩
      case measure => simp [intOf]; omega
    · have hkl : k = xs.length := by omega
      subst hkl
      have hO4 : Ow oApp 57 wr (fun k => w.heap.size ≤ k) (.slice (some ⟨g, 0, none⟩) xs.length xs.length) xs := by
        have := hO
        rw [List.take_length, Nat.sub_self, List.replicate_zero, List.append_nil] at this
        rw [← HG.out]
        exact this.filled
      go_wp2_with fail
      go_ret
      exact ⟨_, rfl, hO4, hb'⟩
set_option maxHeartbeats 2000000 in
theorem toSim_c (s : SimD) (vs vq vo : Value) (F : Nat → Prop) (w : World) (h : SimRd w F vs vq vo s) (n1 : s.states.length ≤ 1048576) (n2 : s.queue.length ≤ 1048576) (n3 : s.outs.length ≤ 1048576) :
    Calls Tryz.prog 32 #[.agg #[vs, vq, vo]] w fun q w' => ∃ us uq uo, q = .returned (.agg #[us, uq, uo]) ∧ Ow tSt 49 w' (fun k => w.heap.size ≤ k) us s.states ∧ Ow tEv 80 w' (fun k => w.heap.size ≤ k) uq s.queue ∧ Ow tOut 128 w' (fun k => w.heap.size ≤ k) uo s.outs ∧ Below w.heap.size w w' := by
  obtain ⟨A1, c1, rfl, -⟩ := h.st.shape
  obtain ⟨A2, c2, rfl, -⟩ := h.qu.shape
  obtain ⟨A3, c3, rfl, -⟩ := h.ou.shape
  go_enter Tryz.func32, Tryz.ntmps32
  go_wp2_with fail
  have HB0 : Below w.heap.size w (((w.alloc (.cells #[.slice A1 s.states.length c1, .slice A2 s.queue.length c2, .slice A3 s.outs.length c3] 71)).alloc (.cells #[.slice none 0 0, .slice none 0 0, .slice none 0 0] 28)).alloc (.cells #[.slice none 0 0, .slice none 0 0, .slice none 0 0] 28)) := balloc (balloc (balloc (Below.refl _ _) _) _) _
  have Z0 : (((w.alloc (.cells #[.slice A1 s.states.length c1, .slice A2 s.queue.length c2, .slice A3 s.outs.length c3] 71)).alloc (.cells #[.slice none 0 0, .slice none 0 0, .slice none 0 0] 28)).alloc (.cells #[.slice none 0 0, .slice none 0 0, .slice none 0 0] 28)).heap[w.heap.size]? = some (.cells #[.slice A1 s.states.length c1, .slice A2 s.queue.length c2, .slice A3 s.outs.length c3] 71 (0, 0)) := (heap_old (by simp only [World.size_alloc]; omega)).trans ((heap_old (by simp)).trans (heap_at rfl))
  have Z1 : (((w.alloc (.cells #[.slice A1 s.states.length c1, .slice A2 s.queue.length c2, .slice A3 s.outs.length c3] 71)).alloc (.cells #[.slice none 0 0, .slice none 0 0, .slice none 0 0] 28)).alloc (.cells #[.slice none 0 0, .slice none 0 0, .slice none 0 0] 28)).heap[w.heap.size + 1]? = some (.cells #[.slice none 0 0, .slice none 0 0, .slice none 0 0] 28 (0, 0)) := (heap_old (by simp)).trans (heap_at (by simp))
  have Z2 : (((w.alloc (.cells #[.slice A1 s.states.length c1, .slice A2 s.queue.length c2, .slice A3 s.outs.length c3] 71)).alloc (.cells #[.slice none 0 0, .slice none 0 0, .slice none 0 0] 28)).alloc (.cells #[.slice none 0 0, .slice none 0 0, .slice none 0 0] 28)).heap[w.heap.size + 1 + 1]? = some (.cells #[.slice none 0 0, .slice none 0 0, .slice none 0 0] 28 (0, 0)) := heap_at (by simp)
  generalize ((w.alloc (.cells #[.slice A1 s.states.length c1, .slice A2 s.queue.length c2, .slice A3 s.outs.length c3] 71)).alloc (.cells #[.slice none 0 0, .slice none 0 0, .slice none 0 0] 28)).alloc (.cells #[.slice none 0 0, .slice none 0 0, .slice none 0 0] 28) = W at *
  have hz := blk_lt Z2
  have HWs := hid hz
  refine (toStateS_c _ s.states F W (h.st.below HB0) n1).mono ?_
  rintro q w0 ⟨v0', rfl, hO0, hb0⟩
  obtain ⟨B0, b0, rfl, -⟩ := hO0.shape
  have hsz0 := hid hb0.size
  have HC0 := bthen HB0 hb0 HB0.size
  have Y0 := below_heap hb0 (blk_lt Z0) Z0
  have Y1 := below_heap hb0 (blk_lt Z1) Z1
  have Y2 := below_heap hb0 (blk_lt Z2) Z2
  replace hO0 := hO0.mono (F' := fun k => W.heap.size ≤ k) (fun k hk => by have hk2 : W.heap.size ≤ k := hk; have hz3 := HWs.out; show W.heap.size ≤ k; omega)
  clear Z0 Z1 Z2 hb0
  have c0_0 : w0.cell? ⟨w.heap.size, 0, none⟩ = some (.slice A1 s.states.length c1) := blk_cell Y0 0
  have c0_1 : w0.cell? ⟨w.heap.size, 1, none⟩ = some (.slice A2 s.queue.length c2) := blk_cell Y0 1
  have c0_2 : w0.cell? ⟨w.heap.size, 2, none⟩ = some (.slice A3 s.outs.length c3) := blk_cell Y0 2
  have a0_0 : w0.cell? ⟨w.heap.size + 1, 0, none⟩ = some (.slice none 0 0) := blk_cell Y1 0
  have f0_0 := blk_frozen Y1 0
  have a0_1 : w0.cell? ⟨w.heap.size + 1, 1, none⟩ = some (.slice none 0 0) := blk_cell Y1 1
  have f0_1 := blk_frozen Y1 1
  have a0_2 : w0.cell? ⟨w.heap.size + 1, 2, none⟩ = some (.slice none 0 0) := blk_cell Y1 2
  have f0_2 := blk_frozen Y1 2
  have b0_0 : w0.cell? ⟨w.heap.size + 1 + 1, 0, none⟩ = some (.slice none 0 0) := blk_cell Y2 0
  have g0_0 := blk_frozen Y2 0
  have b0_1 : w0.cell? ⟨w.heap.size + 1 + 1, 1, none⟩ = some (.slice none 0 0) := blk_cell Y2 1
  have g0_1 := blk_frozen Y2 1
  have b0_2 : w0.cell? ⟨w.heap.size + 1 + 1, 2, none⟩ = some (.slice none 0 0) := blk_cell Y2 2
  have g0_2 := blk_frozen Y2 2
  apply_assumption
  go_wp2_with fail
  have HP : Ch (fun k => k = w.heap.size + 1 + 1) w0 (w0.setCell ⟨w.heap.size + 1 + 1, 0, none⟩ (.slice B0 s.states.length b0)) := Ch.setCell (p := ⟨w.heap.size + 1 + 1, 0, none⟩) (Ch.refl (fun k => k = w.heap.size + 1 + 1) _) (Or.inl rfl) _
  have X2 := (blk_set Y2 0 (.slice B0 s.states.length b0))
  simp only [List.setIfInBounds_toArray, List.set_cons_zero, List.set_cons_succ] at X2
  have X0 := HP.heap Y0 (by omega)
  have X1 := HP.heap Y1 (by omega)
  have HB1 := HC0.trans (HP.below (B := w.heap.size) (fun k hk => by omega) (HC0.size))
  have hvz1 := hid HP.size
  replace hO0 := hO0.ch HP (fun k hk e1 => by have hk2 : W.heap.size ≤ k := hk; omega)
  generalize (w0.setCell ⟨w.heap.size + 1 + 1, 0, none⟩ (.slice B0 s.states.length b0)) = V1 at *
  have Z0 := X0; have Z1 := X1; have Z2 := X2; clear X0 X1 X2
  clear Y0 Y1 Y2 HP HC0
  refine (toEventS_c _ s.queue F V1 (h.qu.below HB1) n2).mono ?_
  rintro q w1 ⟨v1', rfl, hO1, hb1⟩
  obtain ⟨B1, b1, rfl, -⟩ := hO1.shape
  have hsz1 := hid hb1.size
  have HC1 := bthen HB1 hb1 HB1.size
  have Y0 := below_heap hb1 (blk_lt Z0) Z0
  have Y1 := below_heap hb1 (blk_lt Z1) Z1
  have Y2 := below_heap hb1 (blk_lt Z2) Z2
  replace hO1 := hO1.mono (F' := fun k => W.heap.size ≤ k) (fun k hk => by have hk2 : V1.heap.size ≤ k := hk; have hz3 := HWs.out; have h50 := hsz0.out; have h70 := hvz1.out; show W.heap.size ≤ k; omega)
  replace hO0 := hO0.below hb1
  clear Z0 Z1 Z2 hb1
  have c1_0 : w1.cell? ⟨w.heap.size, 0, none⟩ = some (.slice A1 s.states.length c1) := blk_cell Y0 0
  have c1_1 : w1.cell? ⟨w.heap.size, 1, none⟩ = some (.slice A2 s.queue.length c2) := blk_cell Y0 1
  have c1_2 : w1.cell? ⟨w.heap.size, 2, none⟩ = some (.slice A3 s.outs.length c3) := blk_cell Y0 2
  have a1_0 : w1.cell? ⟨w.heap.size + 1, 0, none⟩ = some (.slice none 0 0) := blk_cell Y1 0
  have f1_0 := blk_frozen Y1 0
  have a1_1 : w1.cell? ⟨w.heap.size + 1, 1, none⟩ = some (.slice none 0 0) := blk_cell Y1 1
  have f1_1 := blk_frozen Y1 1
  have a1_2 : w1.cell? ⟨w.heap.size + 1, 2, none⟩ = some (.slice none 0 0) := blk_cell Y1 2
  have f1_2 := blk_frozen Y1 2
  have b1_0 : w1.cell? ⟨w.heap.size + 1 + 1, 0, none⟩ = some (.slice B0 s.states.length b0) := blk_cell Y2 0
  have g1_0 := blk_frozen Y2 0
  have b1_1 : w1.cell? ⟨w.heap.size + 1 + 1, 1, none⟩ = some (.slice none 0 0) := blk_cell Y2 1
  have g1_1 := blk_frozen Y2 1
  have b1_2 : w1.cell? ⟨w.heap.size + 1 + 1, 2, none⟩ = some (.slice none 0 0) := blk_cell Y2 2
  have g1_2 := blk_frozen Y2 2
  apply_assumption
  go_wp2_with fail
  have HP : Ch (fun k => k = w.heap.size + 1 + 1) w1 (w1.setCell ⟨w.heap.size + 1 + 1, 1, none⟩ (.slice B1 s.queue.length b1)) := Ch.setCell (p := ⟨w.heap.size + 1 + 1, 1, none⟩) (Ch.refl (fun k => k = w.heap.size + 1 + 1) _) (Or.inl rfl) _
  have X2 := (blk_set Y2 1 (.slice B1 s.queue.length b1))
  simp only [List.setIfInBounds_toArray, List.set_cons_zero, List.set_cons_succ] at X2
  have X0 := HP.heap Y0 (by omega)
  have X1 := HP.heap Y1 (by omega)
  have HB2 := HC1.trans (HP.below (B := w.heap.size) (fun k hk => by omega) (HC1.size))
  have hvz2 := hid HP.size
  replace hO0 := hO0.ch HP (fun k hk e1 => by have hk2 : W.heap.size ≤ k := hk; omega)
  replace hO1 := hO1.ch HP (fun k hk e1 => by have hk2 : W.heap.size ≤ k := hk; omega)
  generalize (w1.setCell ⟨w.heap.size + 1 + 1, 1, none⟩ (.slice B1 s.queue.length b1)) = V2 at *
  have Z0 := X0; have Z1 := X1; have Z2 := X2; clear X0 X1 X2
  clear Y0 Y1 Y2 HP HC1
  refine (toOutS_c _ s.outs F V2 (h.ou.below HB2) n3).mono ?_
  rintro q w2 ⟨v2', rfl, hO2, hb2⟩
  obtain ⟨B2, b2, rfl, -⟩ := hO2.shape
  have hsz2 := hid hb2.size
  have HC2 := bthen HB2 hb2 HB2.size
  have Y0 := below_heap hb2 (blk_lt Z0) Z0
  have Y1 := below_heap hb2 (blk_lt Z1) Z1
  have Y2 := below_heap hb2 (blk_lt Z2) Z2
  replace hO2 := hO2.mono (F' := fun k => W.heap.size ≤ k) (fun k hk => by have hk2 : V2.heap.size ≤ k := hk; have hz3 := HWs.out; have h50 := hsz0.out; have h51 := hsz1.out; have h70 := hvz1.out; have h71 := hvz2.out; show W.heap.size ≤ k; omega)
  replace hO0 := hO0.below hb2
  replace hO1 := hO1.below hb2
  clear Z0 Z1 Z2 hb2
  have c2_0 : w2.cell? ⟨w.heap.size, 0, none⟩ = some (.slice A1 s.states.length c1) := blk_cell Y0 0
  have c2_1 : w2.cell? ⟨w.heap.size, 1, none⟩ = some (.slice A2 s.queue.length c2) := blk_cell Y0 1
  have c2_2 : w2.cell? ⟨w.heap.size, 2, none⟩ = some (.slice A3 s.outs.length c3) := blk_cell Y0 2
  have a2_0 : w2.cell? ⟨w.heap.size + 1, 0, none⟩ = some (.slice none 0 0) := blk_cell Y1 0
  have f2_0 := blk_frozen Y1 0
  have a2_1 : w2.cell? ⟨w.heap.size + 1, 1, none⟩ = some (.slice none 0 0) := blk_cell Y1 1
  have f2_1 := blk_frozen Y1 1
  have a2_2 : w2.cell? ⟨w.heap.size + 1, 2, none⟩ = some (.slice none 0 0) := blk_cell Y1 2
  have f2_2 := blk_frozen Y1 2
  have b2_0 : w2.cell? ⟨w.heap.size + 1 + 1, 0, none⟩ = some (.slice B0 s.states.length b0) := blk_cell Y2 0
  have g2_0 := blk_frozen Y2 0
  have b2_1 : w2.cell? ⟨w.heap.size + 1 + 1, 1, none⟩ = some (.slice B1 s.queue.length b1) := blk_cell Y2 1
  have g2_1 := blk_frozen Y2 1
  have b2_2 : w2.cell? ⟨w.heap.size + 1 + 1, 2, none⟩ = some (.slice none 0 0) := blk_cell Y2 2
  have g2_2 := blk_frozen Y2 2
  apply_assumption
  go_wp2_with fail
  have HP : Ch (fun k => k = w.heap.size + 1 + 1) w2 (w2.setCell ⟨w.heap.size + 1 + 1, 2, none⟩ (.slice B2 s.outs.length b2)) := Ch.setCell (p := ⟨w.heap.size + 1 + 1, 2, none⟩) (Ch.refl (fun k => k = w.heap.size + 1 + 1) _) (Or.inl rfl) _
  have X1 := HP.heap Y1 (by omega)
  have BW := (blk_set (blk_set (blk_set X1 0 (.slice B0 s.states.length b0)) 1 (.slice B1 s.queue.length b1)) 2 (.slice B2 s.outs.length b2))
  simp only [List.setIfInBounds_toArray, List.set_cons_zero, List.set_cons_succ] at BW
  have HQ : Ch (fun k => k = w.heap.size + 1 + 1 ∨ k = w.heap.size + 1) w2 ((((w2.setCell ⟨w.heap.size + 1 + 1, 2, none⟩ (.slice B2 s.outs.length b2)).setCell ⟨w.heap.size + 1, 0, none⟩ (.slice B0 s.states.length b0)).setCell ⟨w.heap.size + 1, 1, none⟩ (.slice B1 s.queue.length b1)).setCell ⟨w.heap.size + 1, 2, none⟩ (.slice B2 s.outs.length b2)) := by
    repeat (first | (with_reducible exact Ch.refl _ _) | (refine Ch.setCell ?_ (Or.inl (Or.inr rfl)) _) | (refine Ch.setCell ?_ (Or.inl (Or.inl rfl)) _))
  replace hO0 := (hO0.ch HQ (fun k hk e1 => by have hk2 : W.heap.size ≤ k := hk; omega)).mono (F' := fun k => w.heap.size ≤ k) (fun k hk => by have hk2 : W.heap.size ≤ k := hk; show w.heap.size ≤ k; omega)
  replace hO1 := (hO1.ch HQ (fun k hk e1 => by have hk2 : W.heap.size ≤ k := hk; omega)).mono (F' := fun k => w.heap.size ≤ k) (fun k hk => by have hk2 : W.heap.size ≤ k := hk; show w.heap.size ≤ k; omega)
  replace hO2 := (hO2.ch HQ (fun k hk e1 => by have hk2 : W.heap.size ≤ k := hk; omega)).mono (F' := fun k => w.heap.size ≤ k) (fun k hk => by have hk2 : W.heap.size ≤ k := hk; show w.heap.size ≤ k; omega)
  have hb9 := HC2.trans (HQ.below (B := w.heap.size) (fun k hk => by omega) HC2.size)
  generalize ((((w2.setCell ⟨w.heap.size + 1 + 1, 2, none⟩ (.slice B2 s.outs.length b2)).setCell ⟨w.heap.size + 1, 0, none⟩ (.slice B0 s.states.length b0)).setCell ⟨w.heap.size + 1, 1, none⟩ (.slice B1 s.queue.length b1)).setCell ⟨w.heap.size + 1, 2, none⟩ (.slice B2 s.outs.length b2)) = W9 at *
  have s0 : W9.cell? ⟨w.heap.size + 1, 0, none⟩ = some (.slice B0 s.states.length b0) := blk_cell BW 0
  have s1 : W9.cell? ⟨w.heap.size + 1, 1, none⟩ = some (.slice B1 s.queue.length b1) := blk_cell BW 1
  have s2 : W9.cell? ⟨w.heap.size + 1, 2, none⟩ = some (.slice B2 s.outs.length b2) := blk_cell BW 2
  refine bodyPost_ret (v := .agg #[.slice B0 s.states.length b0, .slice B1 s.queue.length b1, .slice B2 s.outs.length b2]) (by simp only [results, Tryz.results32]; go_simp) rfl ⟨_, _, _, rfl, hO0, hO1, hO2, hb9⟩
end Go.Proofs.YtbcemldiahghcaaGreat

namespace Go.Proofs.YtbcemldiahghcaaGreat
set_option linter.unusedVariables false
set_option linter.unusedSimpArgs false
set_option linter.unusedSectionVars false
open Go.RowKit
section
variable {P : Program} {ops : Array Oper} {Q : Exit → Act → World → Prop} {S : World → Prop} {L : List Nat}
/-- Number j comes up behind all of L. -/
def late (ops : Array Oper) (L : List Nat) (j : Nat) : Bool := L.all fun i => (cover ops (waitL ops j) (List.range ops.size).reverse).contains i
theorem late_listed {listed : Array Bool} {j i : Nat} (hcl : Closed ops listed) (hl : late ops L j = true) (hj : j ∈ Region.ready .any ops listed) (hi : i ∈ L) : listed.getD i false = true := by
  have h1 := List.all_eq_true.1 hl i hi
  obtain ⟨_, oj, hoj, hall⟩ := mem_ready.1 hj
  refine cover_listed hcl _ (waitL ops j) (fun q hq => ?_) i (by simpa using h1)
  obtain ⟨o, ho, e, he, hb, rfl⟩ := waitL_spec hq
  obtain rfl : o = oj := Option.some.inj (ho.symm.trans hoj)
  exact hall e he hb
def wpAnyE (P : Program) (ops : Array Oper) (Q : Exit → Act → World → Prop) (S : World → Prop) (L : List Nat) : Nat → Array Bool → Act → World → Prop
  | 0, listed, a, w => Region.ready .any ops listed = [] ∧ Q .normal a w
  | fuel + 1, listed, a, w =>
    (Region.ready .any ops listed = [] → Q .normal a w) ∧
    ∀ i ∈ Region.ready .any ops listed, wpOp P ops Q i (fun a' w' => (late ops L i = true ∨ (S w → S w')) ∧ wpAnyE P ops Q S L fuel (listed.setIfInBounds i true) a' w') a w
theorem wpAny_of_E : ∀ (fuel : Nat) (listed : Array Bool) (a : Act) (w : World), wpAnyE P ops Q S L fuel listed a w → wpAny P .any ops Q fuel listed a w
  | 0, _, _, _, h => h
  | fuel + 1, _, _, _, h => ⟨h.1, fun i hi => wpOp_mono (fun a' w' h' => wpAny_of_E fuel _ a' w' h'.2) (h.2 i hi)⟩
/-- T: what the operation needs; it is there as long as the operation has not come up. -/
theorem wpAnyE_first {T : World → Prop} {i : Nat} {oi : Oper} {v : Value} (hi : ops[i]? = some oi) (hsel : ∀ (j : Nat) (o : Oper) cs b, ops[j]? = some o → o.op ≠ .select cs b)
    (hQ : ∀ c a w, Q (.panic c) (a.put oi.dst v) w → Q (.panic c) a w) (hST : ∀ w, S w → T w) :
    ∀ (fuel : Nat) (listed : Array Bool) (a : Act) (w : World), Closed ops listed →
      (∀ j oj, ops[j]? = some oj → j ≠ i → listed.getD j true = false → (∀ e ∈ oj.after, Region.binds .any e = true → e.on ≠ i) → oi.apart ops oj = true) →
      i ∈ Region.ready .any ops listed → YieldsIf P ops T oi v a → ((i ∈ L ∧ S w) ∨ ∀ w, T w) →
      wpAnyE P ops Q S L fuel (listed.setIfInBounds i true) (a.put oi.dst v) w → wpAnyE P ops Q S L (fuel + 1) listed a w := by
  intro fuel
  induction fuel with
  | zero =>
    intro listed a w hcl _ hr hy hS H
    refine ⟨fun h => (by rw [h] at hr; cases hr), fun j hj => ?_⟩
    by_cases hji : j = i
    · subst hji; exact hy.wpOp hi (by rcases hS with hS | hS; exact hST _ hS.2; exact hS _) ⟨.inr id, H⟩
    · have := ready_mono hj hji
      rw [H.1] at this
      cases this
  | succ fuel ih =>
    intro listed a w hcl hfree hr hy hS H
    refine ⟨fun h => (by rw [h] at hr; cases hr), fun j hj => ?_⟩
    by_cases hji : j = i
    · subst hji; exact hy.wpOp hi (by rcases hS with hS | hS; exact hST _ hS.2; exact hS _) ⟨.inr id, H⟩
    · have h1 := H.2 j (ready_mono hj hji)
      obtain ⟨hjun, oj, hoj, hall⟩ := mem_ready.1 hj
      have hun : listed.getD i false = false := by
        have h0 := (mem_ready.1 hr).1
        have hii : i < ops.size := (Array.getElem?_eq_some_iff.1 hi).1
        have h' : i < listed.size := by rw [hcl.size]; exact hii
        simpa [h'] using h0
      have hnot : ∀ e ∈ oj.after, Region.binds .any e = true → e.on ≠ i := fun e he hb heq => by
        have h1 := hall e he hb
        rw [heq, hun] at h1; cases h1
      have hir := ready_mono hr (Ne.symm hji)
      have h2 := wpOp_putIf hoj (hfree j oj hoj hji hjun hnot) (fun cs b => hsel i oi cs b hi) (fun cs b => hsel j oj cs b hoj) hQ hy h1
      have hfree' : ∀ k ok, ops[k]? = some ok → k ≠ i → (listed.setIfInBounds j true).getD k true = false →
          (∀ e ∈ ok.after, Region.binds .any e = true → e.on ≠ i) → oi.apart ops ok = true := fun k ok hk hki hun hno => by
        refine hfree k ok hk hki ?_ hno
        by_cases hjk : j = k
        · subst hjk; exact hjun
        · rw [getD_set_ne true hjk] at hun; exact hun
      refine wpOp_mono (fun a' w' h3 => ?_) h2
      obtain ⟨hy', hS', hw'⟩ := h3
      refine ⟨hS', ?_⟩
      have hcl' := hcl.set hj
      refine ih (listed.setIfInBounds j true) a' w' hcl' hfree' hir hy' ?_ ?_
      · rcases hS with ⟨hiL, hS⟩ | hTa
        · refine .inl ⟨hiL, ?_⟩
          rcases hS' with hl | hS'
          · have := late_listed hcl hl hj hiL
            rw [hun] at this; cases this
          · exact hS' hS
        · exact .inr hTa
      · rw [Array.setIfInBounds_comm _ _ hji]
        exact hw'
theorem wpAnyE_par {D : List (Nat × List Nat)} {R : List Nat} {l0 : Array Bool} {a0 : Act} {w0 : World} {A : Nat → Prop} {N : Nat → (Nat → Value) → World → (Nat → Prop) → Prop} (hs0 : l0.size = ops.size) {PP : Nat → (Nat → Value) → Prop} (hk : parOk ops l0 D R = true) (hPP : ∀ j i u v, PP j u → i ≠ j → waits ops j i = false → PP j (updV u i v))
    (hNu : ∀ j i u v w F, N j u w F → i ≠ j → waits ops j i = false → N j (updV u i v) w F) (hSt : ∀ j v w w' F, N j v w F → (∀ k, F k → w'.heap[k]? = w.heap[k]?) → N j v w' F) (hS : ∀ w', Ch A w0 w' → S w')
    (hP : parP P ops Q (D.map (·.1)) a0 w0 A N PP D) (m : Nat)
    (hend : ∀ u w' (F : Nat → Nat → Prop) listed, listed = setAll (D.map (·.1)) l0 → Ch A w0 w' → (∀ j j' k, Avail D R listed j → Avail D R listed j' → j ≠ j' → F j k → F j' k → False) → (∀ j k, Avail D R listed j → F j k → (A k ∨ w0.heap.size ≤ k) ∧ k < w'.heap.size) →
      (∀ j, Avail D R listed j → N j u w' (F j)) → (∀ j ∈ D.map (·.1), PP j u) → Closed ops listed → wpAnyE P ops Q S L m listed (putAll ops (D.map (·.1)) a0 u) w') :
    ∀ (n : Nat) (listed : Array Bool) (w : World) (u : Nat → Value) (F : Nat → Nat → Prop), todo listed (D.map (·.1)) = n → Closed ops listed → (∀ i, i ∉ D.map (·.1) → listed.getD i false = l0.getD i false) → Ch A w0 w →
      (∀ j, Avail D R listed j → N j u w (F j)) → (∀ j k, Avail D R listed j → F j k → (A k ∨ w0.heap.size ≤ k) ∧ k < w.heap.size) → (∀ j j' k, Avail D R listed j → Avail D R listed j' → j ≠ j' → F j k → F j' k → False) → (∀ j ∈ D.map (·.1), listed.getD j false = true → PP j u) →
      wpAnyE P ops Q S L (n + m) listed (putAll ops (D.map (·.1)) a0 u) w := by
  simp only [parOk, Bool.and_eq_true] at hk
  obtain ⟨⟨⟨⟨⟨hk1, hk2⟩, hkR⟩, hkI⟩, hkU⟩, hk3⟩ := hk
  have hD := pairB_spec hk1
  have hnd : (D.map (·.1)).Nodup := hD.imp fun h => h.1
  have hR : ∀ r ∈ R, ops.size ≤ r := fun r hr => by simpa using List.all_eq_true.1 hkR r hr
  have hI : ∀ p ∈ D, ∀ q ∈ p.2, q ∈ R ∨ (waits ops p.1 q = true ∧ q ∈ D.map (·.1)) := fun p hp q hq => by
    have := List.all_eq_true.1 (List.all_eq_true.1 hkI p hp) q hq
    simp only [Bool.or_eq_true, Bool.and_eq_true, List.contains_iff_mem] at this
    exact this
  have hU : ∀ p ∈ D, ∀ q ∈ D, p.1 ≠ q.1 → ∀ x ∈ p.2, x ∉ q.2 := fun p hp q hq hne x hx => by
    have := List.all_eq_true.1 (List.all_eq_true.1 hkU p hp) q hq
    simp only [Bool.or_eq_true, beq_iff_eq] at this
    rcases this with h | h
    · exact absurd h hne
    · have := List.all_eq_true.1 h x hx
      simpa using this
  intro n
  induction n with
  | zero =>
    intro listed w u F hn hcl hout hC hN hF hdis hpp
    have hall : ∀ i ∈ D.map (·.1), listed.getD i false = true := fun i hi => by
      have := List.countP_eq_zero.1 hn i hi
      simpa using this
    have hl : listed = setAll (D.map (·.1)) l0 := by
      apply Array.ext
      · rw [setAll_size, hcl.size, hs0]
      · intro i h1 h2
        have h3 := setAll_get (D.map (·.1)) l0 i (by rw [hs0, ← hcl.size]; exact h1)
        have h4 : listed.getD i false = (decide (i ∈ D.map (·.1)) || l0.getD i false) := by
          by_cases hm : i ∈ D.map (·.1)
          · rw [hall i hm]; simp only [hm, decide_true, Bool.true_or]
          · rw [hout i hm]; simp only [hm, decide_false, Bool.false_or]
        rw [← h4] at h3
        simpa [Array.getD_eq_getD_getElem?, h1, h2] using h3.symm
    rw [Nat.zero_add]
    exact hend u w F listed hl hC hdis hF hN (fun j hj => hpp j hj (hall j hj)) hcl
  | succ n ih =>
    intro listed w u F hn hcl hout hC hN hF hdis hpp
    rw [show n + 1 + m = (n + m) + 1 from by omega]
    have hopen : ∃ i ∈ D.map (·.1), listed.getD i false = false := by
      have h0 : 0 < (D.map (·.1)).countP (fun i => !listed.getD i false) := by have := hn; unfold todo at this; omega
      obtain ⟨i, hi, hu⟩ := List.countP_pos_iff.1 h0
      exact ⟨i, hi, by simpa using hu⟩
    refine ⟨fun h0 => ?_, fun i hi => ?_⟩
    · have key : ∀ (s i : Nat), (D.map (·.1))[s]? = some i → listed.getD i false = false → False := by
        intro s
        induction s using Nat.strongRecOn with
        | _ s ihs =>
          intro i hs hun
          obtain ⟨⟨o, ho, hedge⟩, _⟩ := topoOk_at (D.map (·.1)) [] s i hk2 hs
          have hlt' : i < listed.size := by rw [hcl.size]; exact (Array.getElem?_eq_some_iff.1 ho).1
          by_cases hex : ∃ s' j, s' < s ∧ (D.map (·.1))[s']? = some j ∧ listed.getD j false = false
          · obtain ⟨s', j, hlt, hj, hju⟩ := hex
            exact ihs s' hlt j hj hju
          · have hmem : i ∈ Region.ready .any ops listed := by
              refine mem_ready.2 ⟨by simpa [Array.getD_eq_getD_getElem?, hlt'] using hun, o, ho, fun e he hb => ?_⟩
              rcases hedge e he hb with h | h
              · by_cases hm : e.on ∈ D.map (·.1)
                · obtain ⟨p2, hp2, hpe⟩ := List.getElem_of_mem hm
                  obtain ⟨_, h5⟩ := topoOk_at (D.map (·.1)) [] p2 e.on hk2 (by rw [← hpe]; exact List.getElem?_eq_getElem hp2)
                  exfalso
                  have : e.on < l0.size := by
                    rcases Nat.lt_or_ge e.on l0.size with hh | hh
                    · exact hh
                    · simp [Array.getD_eq_getD_getElem?, Array.getElem?_eq_none hh] at h
                  simp [Array.getD_eq_getD_getElem?, this] at h h5
                  rw [h] at h5; cases h5
                · rw [hout _ hm]; exact h
              · simp only [List.nil_append] at h
                obtain ⟨p, hp', he'⟩ := List.getElem_of_mem h
                have hpl : p < s := by simp at hp'; omega
                rw [List.getElem_take] at he'
                have hpe : (D.map (·.1))[p]? = some e.on := by rw [← he']; exact List.getElem?_eq_getElem _
                cases hq : listed.getD e.on false with
                | true => rfl
                | false => exact absurd ⟨p, e.on, hpl, hpe, hq⟩ hex
            rw [h0] at hmem; cases hmem
      obtain ⟨i, hi, hun⟩ := hopen
      obtain ⟨s, hs, rfl⟩ := List.getElem_of_mem hi
      exact (key s _ (List.getElem?_eq_getElem hs) hun).elim
    · have hun : listed.getD i false = false := by
        have h1 := (mem_ready.1 hi).1
        rw [Array.getD_eq_getD_getElem?] at h1 ⊢
        cases hq : listed[i]? with
        | none => simp [hq] at h1
        | some b => simp [hq] at h1 ⊢; exact h1
      obtain ⟨_, oi, hoi, hedges⟩ := mem_ready.1 hi
      have hisz : i < ops.size := (Array.getElem?_eq_some_iff.1 hoi).1
      have hmem : i ∈ D.map (·.1) := by
        refine Classical.byContradiction fun hm => ?_
        have h1 := List.all_eq_true.1 hk3 i (List.mem_range.2 hisz)
        have hl0 : l0.getD i false = false := by rw [← hout i hm]; exact hun
        have hm' : (D.map (·.1)).contains i = false := by simpa using hm
        rw [hl0, hm'] at h1
        simp only [Bool.false_or, Bool.or_eq_true] at h1
        rcases h1 with h1 | h1
        · obtain ⟨q, _, hq⟩ := List.any_eq_true.1 h1
          simp only [Bool.and_eq_true, Bool.not_eq_true'] at hq
          exact not_ready hq.1.1 (by rw [hout q (by simpa using hq.2)]; exact hq.1.2) hi
        · obtain ⟨j, hj, hju⟩ := hopen
          have h2 := List.all_eq_true.1 h1 j hj
          have h3 := cover_listed hcl (D.map (·.1)).reverse (waitL ops i) (fun q hq => by
            obtain ⟨o, ho, e, he, hb, rfl⟩ := waitL_spec hq
            obtain rfl : o = oi := Option.some.inj (ho.symm.trans hoi)
            exact hedges e he hb) j (by simpa using h2)
          rw [hju] at h3; cases h3
      obtain ⟨p, hp, hpi⟩ := List.mem_map.1 hmem
      subst hpi
      have hself : ∀ j ∈ p.2, j ∈ R ∨ (j ∈ D.map (·.1) ∧ listed.getD j false = true) := fun j hj => by
        rcases hI p hp j hj with h | ⟨hw, h⟩
        · exact .inl h
        · refine .inr ⟨h, ?_⟩
          obtain ⟨o, ho, e, he, hb, rfl⟩ := waits_spec hw
          obtain rfl : o = oi := Option.some.inj (ho.symm.trans hoi)
          exact hedges e he hb
      have hav : ∀ j ∈ p.2, Avail D R listed j := fun j hj => ⟨hself j hj, fun q hq hql hjq => by
        by_cases hpq : p.1 = q.1
        · rw [← hpq, hun] at hql; cases hql
        · exact hU p hp q hq hpq j hj hjq⟩
      have hwl : ∀ j, waits ops p.1 j = true → listed.getD j false = true := fun j hw => by
        obtain ⟨o, ho, e, he, hb, rfl⟩ := waits_spec hw
        obtain rfl : o = oi := Option.some.inj (ho.symm.trans hoi)
        exact hedges e he hb
      have htri := parP_at D p hP hp u w F hC (fun j hj hw => hpp j hj (hwl j hw)) (fun j hj => hN j (hav j hj)) (fun j hj k => hF j k (hav j hj)) (fun j hj j' hj' k hne => hdis j j' k (hav j hj) (hav j' hj') hne)
      refine wpOp_mono (fun a' w' h' => ?_) htri
      obtain ⟨v, F', rfl, hC', hN', hF', hpn⟩ := h'
      have hC2 : Ch A w0 w' := hC.then hC' fun k hk => by obtain ⟨j, hj, hjk⟩ := hk; exact (hF j k (hav j hj) hjk).1
      refine ⟨.inr fun _ => hS w' hC2, ?_⟩
      rw [putAll_put hD hmem]
      have hisz' : p.1 < listed.size := by rw [hcl.size]; exact hisz
      have hback : ∀ j, Avail D R (listed.setIfInBounds p.1 true) j → j ≠ p.1 → Avail D R listed j ∧ j ∉ p.2 := fun j hj hne => by
        obtain ⟨h1, h2⟩ := hj
        refine ⟨⟨?_, fun q hq hql => h2 q hq ?_⟩, h2 p hp (by simp [hisz'])⟩
        · rcases h1 with h1 | ⟨h1, h3⟩
          · exact .inl h1
          · rw [getD_set_ne false (Ne.symm hne)] at h3; exact .inr ⟨h1, h3⟩
        · by_cases hqp : p.1 = q.1
          · rw [← hqp]; simp [hisz']
          · rw [getD_set_ne false hqp]; exact hql
      refine ih (listed.setIfInBounds p.1 true) w' (updV u p.1 v) (fun q => if q = p.1 then F' else F q) ?_ (hcl.set hi) ?_ hC2 ?_ ?_ ?_ ?_
      · have := todo_set hun hisz' hnd
        rw [if_pos hmem] at this
        omega
      · intro j hj
        have hij : p.1 ≠ j := fun e' => hj (e' ▸ hmem)
        rw [getD_set_ne false hij]; exact hout j hj
      · intro j hj
        by_cases hjp : j = p.1
        · subst hjp; simp only [if_true]; exact hN'
        · obtain ⟨h1, h2⟩ := hback j hj hjp
          simp only [if_neg hjp]
          have hwf : waits ops j p.1 = false := by
            cases hw : waits ops j p.1 with
            | false => rfl
            | true =>
              exfalso
              obtain ⟨o, ho, e, he, hb, hon⟩ := waits_spec hw
              rcases h1.1 with h3 | h3
              · have := hR j h3
                have := (Array.getElem?_eq_some_iff.1 ho).1
                omega
              · have := hcl.closed j o ho h3.2 e he hb
                rw [hon, hun] at this; cases this
          refine hSt j _ w w' (F j) (hNu j p.1 u v w (F j) (hN j h1) (Ne.symm hjp) hwf) fun k hk => hC'.block k (hF j k h1 hk).2 ?_
          rintro ⟨q, hq, hqk⟩
          exact hdis j q k h1 (hav q hq) (fun e' => h2 (e' ▸ hq)) hk hqk
      · intro j k hj hk
        by_cases hjp : j = p.1
        · subst hjp
          simp only [if_true] at hk
          obtain ⟨h1, h2⟩ := hF' k hk
          refine ⟨?_, h2⟩
          rcases h1 with ⟨q, hq, hqk⟩ | h1
          · exact (hF q k (hav q hq) hqk).1
          · exact .inr (Nat.le_trans hC.size h1)
        · simp only [if_neg hjp] at hk
          obtain ⟨h1, _⟩ := hback j hj hjp
          exact ⟨(hF j k h1 hk).1, Nat.lt_of_lt_of_le (hF j k h1 hk).2 hC'.size⟩
      · intro j j' k hj hj' hne hk hk'
        have aux : ∀ q, Avail D R (listed.setIfInBounds p.1 true) q → q ≠ p.1 → F' k → F q k → False := fun q hq hqp h1 h2 => by
          obtain ⟨h3, h4⟩ := hback q hq hqp
          rcases (hF' k h1).1 with ⟨x, hx, hxk⟩ | h5
          · exact hdis x q k (hav x hx) h3 (fun e' => h4 (e' ▸ hx)) hxk h2
          · have := (hF q k h3 h2).2; omega
        by_cases hjp : j = p.1
        · subst hjp
          simp only [if_true] at hk
          simp only [if_neg (Ne.symm hne)] at hk'
          exact aux j' hj' (Ne.symm hne) hk hk'
        · simp only [if_neg hjp] at hk
          by_cases hjp' : j' = p.1
          · subst hjp'
            simp only [if_true] at hk'
            exact aux j hj hjp hk' hk
          · simp only [if_neg hjp'] at hk'
            obtain ⟨h1, _⟩ := hback j hj hjp
            obtain ⟨h2, _⟩ := hback j' hj' hjp'
            exact hdis j j' k h1 h2 hne hk hk'
      · intro j hj hl
        by_cases hjp : j = p.1
        · subst hjp; exact hpn
        · rw [getD_set_ne false (Ne.symm hjp)] at hl
          refine hPP j p.1 u v (hpp j hj hl) (Ne.symm hjp) ?_
          cases hw : waits ops j p.1 with
          | false => rfl
          | true =>
            exfalso
            obtain ⟨o, ho, e, he, hb, hon⟩ := waits_spec hw
            have := hcl.closed j o ho hl e he hb
            rw [hon, hun] at this; cases this

inductive Pe where
  | nil
  | take (i : Nat) (p : Pe)
  | pure (i : Nat) (p : Pe)
  | one (i : Nat) (p : Pe)
  | par (D : List (Nat × List Nat)) (R : List Nat) (p : Pe)
def Pe.len : Pe → Nat
  | .nil => 0
  | .take _ p => p.len + 1
  | .pure _ p => p.len + 1
  | .one _ p => p.len + 1
  | .par D _ p => D.length + p.len
def Pe.takes : Pe → List Nat
  | .nil => []
  | .take i p => i :: p.takes
  | .pure _ p => p.takes
  | .one _ p => p.takes
  | .par _ _ p => p.takes
def wpE (P : Program) (ops : Array Oper) (Q : Exit → Act → World → Prop) (S : World → Prop) (L : List Nat) : Pe → Act → World → Prop
  | .nil, a, w => Q .normal a w
  | .take i r, a, w => ∃ o v, ops[i]? = some o ∧ YieldsIf P ops S o v a ∧ S w ∧ wpE P ops Q S L r (a.put o.dst v) w
  | .pure i r, a, w => ∃ o v, ops[i]? = some o ∧ YieldsIf P ops (fun _ => True) o v a ∧ wpE P ops Q S L r (a.put o.dst v) w
  | .one i r, a, w => wpOp P ops Q i (fun a' w' => (late ops L i = true ∨ (S w → S w')) ∧ wpE P ops Q S L r a' w') a w
  | .par D R r, a, w => ∃ (A : Nat → Prop) (N : Nat → (Nat → Value) → World → (Nat → Prop) → Prop) (PP : Nat → (Nat → Value) → Prop) (F0 : Nat → Nat → Prop), (∀ j i u v, PP j u → i ≠ j → waits ops j i = false → PP j (updV u i v)) ∧ (∀ j i u v w F, N j u w F → i ≠ j → waits ops j i = false → N j (updV u i v) w F) ∧ (∀ j v w w' F, N j v w F → (∀ k, F k → w'.heap[k]? = w.heap[k]?) → N j v w' F) ∧ (∀ w', Ch A w w' → S w') ∧
      (∀ j ∈ R, ∀ u : Nat → Value, u j = undef → N j u w (F0 j)) ∧ (∀ j ∈ R, ∀ k, F0 j k → A k ∧ k < w.heap.size) ∧ (∀ j ∈ R, ∀ j' ∈ R, ∀ k, j ≠ j' → F0 j k → F0 j' k → False) ∧ parP P ops Q (D.map (·.1)) a w A N PP D ∧
      ∀ u w' (F : Nat → Nat → Prop), Ch A w w' → (∀ j j' k, EndAv D R j = true → EndAv D R j' = true → j ≠ j' → F j k → F j' k → False) → (∀ j k, EndAv D R j = true → F j k → (A k ∨ w.heap.size ≤ k) ∧ k < w'.heap.size) → (∀ j, EndAv D R j = true → N j u w' (F j)) → (∀ j ∈ D.map (·.1), PP j u) → wpE P ops Q S L r (putAll ops (D.map (·.1)) a u) w'
def eOk (ops : Array Oper) (L : List Nat) : Pe → Array Bool → Bool
  | .nil, l => (Region.ready .any ops l).isEmpty
  | .take i r, l => L.contains i && Region.free .any ops l i && (Region.ready .any ops l).contains i && eOk ops L r (l.setIfInBounds i true)
  | .pure i r, l => Region.free .any ops l i && (Region.ready .any ops l).contains i && eOk ops L r (l.setIfInBounds i true)
  | .one i r, l => (Region.ready .any ops l == [i]) && eOk ops L r (l.setIfInBounds i true)
  | .par D R r, l => parOk ops l D R && eOk ops L r (setAll (D.map (·.1)) l)
theorem wpAnyE_of (hsel : Region.noSelect ops = true) (hQ : ∀ c a d v w, Q (.panic c) (Act.put a d v) w → Q (.panic c) a w) : ∀ (plan : Pe) (listed : Array Bool) (a : Act) (w : World),
    Closed ops listed → eOk ops L plan listed = true → wpE P ops Q S L plan a w → wpAnyE P ops Q S L plan.len listed a w
  | .nil, listed, a, w, _, hp, h => ⟨by simpa [eOk] using hp, h⟩
  | .take i r, listed, a, w, hcl, hp, h => by
    simp only [eOk, Bool.and_eq_true] at hp
    obtain ⟨o, v, hi, hy, hS, hr⟩ := h
    have hmem : i ∈ Region.ready .any ops listed := by simpa using hp.1.2
    exact wpAnyE_first (T := S) hi (Region.noSelect_spec hsel) (fun c a w hq => hQ c a _ _ w hq) (fun _ h => h) r.len listed a w hcl (Region.free_spec hi hp.1.1.2) hmem hy (.inl ⟨by simpa using hp.1.1.1, hS⟩)
      (wpAnyE_of hsel hQ r _ _ w (hcl.set hmem) hp.2 hr)
  | .pure i r, listed, a, w, hcl, hp, h => by
    simp only [eOk, Bool.and_eq_true] at hp
    obtain ⟨o, v, hi, hy, hr⟩ := h
    have hmem : i ∈ Region.ready .any ops listed := by simpa using hp.1.2
    exact wpAnyE_first (T := fun _ => True) hi (Region.noSelect_spec hsel) (fun c a w hq => hQ c a _ _ w hq) (fun _ _ => trivial) r.len listed a w hcl (Region.free_spec hi hp.1.1) hmem hy (.inr fun _ => trivial)
      (wpAnyE_of hsel hQ r _ _ w (hcl.set hmem) hp.2 hr)
  | .one i r, listed, a, w, hcl, hp, h => by
    simp only [eOk, Bool.and_eq_true, beq_iff_eq] at hp
    refine ⟨fun h0 => (by rw [hp.1] at h0; cases h0), fun j hj => ?_⟩
    have hji : j = i := by rw [hp.1] at hj; simpa using hj
    subst hji
    exact wpOp_mono (fun a' w' h' => ⟨h'.1, wpAnyE_of hsel hQ r _ a' w' (hcl.set hj) hp.2 h'.2⟩) h
  | .par D R r, listed, a, w, hcl, hp, h => by
    simp only [eOk, Bool.and_eq_true] at hp
    obtain ⟨A, N, PP, F0, hPP, hNu, hSt, hS, h0, hF0, hd0, hP, hend⟩ := h
    have hk := hp.1
    have hunl : ∀ i ∈ D.map (·.1), listed.getD i false = false := fun i hi => by
      simp only [parOk, Bool.and_eq_true] at hk
      obtain ⟨s, hs, rfl⟩ := List.getElem_of_mem hi
      obtain ⟨_, h1⟩ := topoOk_at (D.map (·.1)) [] s _ hk.1.1.1.1.2 (List.getElem?_eq_getElem hs)
      generalize (D.map (·.1))[s] = i at h1
      rw [Array.getD_eq_getD_getElem?] at h1 ⊢
      cases hq : listed[i]? with
      | none => rfl
      | some b => simp [hq] at h1 ⊢; exact h1
    have hRd : ∀ j ∈ R, j ∉ D.map (·.1) := fun j hj hjd => by
      simp only [parOk, Bool.and_eq_true] at hk
      have h1 : ops.size ≤ j := by simpa using List.all_eq_true.1 hk.1.1.1.2 j hj
      obtain ⟨s, hs, rfl⟩ := List.getElem_of_mem hjd
      obtain ⟨⟨o, ho, _⟩, _⟩ := topoOk_at (D.map (·.1)) [] s _ hk.1.1.1.1.2 (List.getElem?_eq_getElem hs)
      have := (Array.getElem?_eq_some_iff.1 ho).1
      omega
    have hav0 : ∀ j, Avail D R listed j → j ∈ R := fun j hj => by
      rcases hj.1 with h1 | ⟨h1, h2⟩
      · exact h1
      · rw [hunl j h1] at h2; cases h2
    have hin : ∀ i ∈ D.map (·.1), i < ops.size := fun i hi => by
      simp only [parOk, Bool.and_eq_true] at hk
      obtain ⟨s, hs, rfl⟩ := List.getElem_of_mem hi
      obtain ⟨⟨o, ho, _⟩, _⟩ := topoOk_at (D.map (·.1)) [] s _ hk.1.1.1.1.2 (List.getElem?_eq_getElem hs)
      exact (Array.getElem?_eq_some_iff.1 ho).1
    have hset : ∀ i ∈ D.map (·.1), (setAll (D.map (·.1)) listed).getD i false = true := fun i hi => by
      rw [setAll_get _ _ _ (by rw [hcl.size]; exact hin i hi)]
      simp only [hi, decide_true, Bool.true_or]
    have hend' : ∀ j, EndAv D R j = true ↔ Avail D R (setAll (D.map (·.1)) listed) j := fun j => by
      simp only [EndAv, Bool.and_eq_true, Bool.or_eq_true, List.contains_iff_mem, List.all_eq_true, Bool.not_eq_true']
      constructor
      · rintro ⟨h1, h2⟩
        refine ⟨h1.imp_right fun h => ⟨h, hset j h⟩, fun p hp _ hj => ?_⟩
        have := h2 p hp
        rw [List.contains_eq_mem, decide_eq_false_iff_not] at this
        exact this hj
      · rintro ⟨h1, h2⟩
        refine ⟨h1.imp_right fun h => h.1, fun p hp => ?_⟩
        rw [List.contains_eq_mem, decide_eq_false_iff_not]
        exact h2 p hp (hset p.1 (List.mem_map_of_mem hp))
    have key := wpAnyE_par (P := P) (Q := Q) (S := S) (L := L) (a0 := a) hcl.size hk hPP hNu hSt hS hP r.len (fun u w' F l hl hC hdis hF hN hpe hcl' => by
        subst hl
        exact wpAnyE_of hsel hQ r _ _ w' hcl' hp.2 (hend u w' F hC (fun j j' k hj hj' => hdis j j' k ((hend' j).1 hj) ((hend' j').1 hj')) (fun j k hj => hF j k ((hend' j).1 hj)) (fun j hj => hN j ((hend' j).1 hj)) hpe))
      (D.map (·.1)).length listed w (fun i => if i ∈ R then undef else slotOf ops a i) F0 (todo_all hunl) hcl (fun i _ => rfl) (Ch.refl _ _)
      (fun j hj => h0 j (hav0 j hj) _ (by simp only [if_pos (hav0 j hj)])) (fun j k hj hk => ⟨.inl (hF0 j (hav0 j hj) k hk).1, (hF0 j (hav0 j hj) k hk).2⟩) (fun j j' k hj hj' => hd0 j (hav0 j hj) j' (hav0 j' hj') k) (fun j hj hl => by rw [hunl j hj] at hl; cases hl)
    have hput : putAll ops (D.map (·.1)) a (fun i => if i ∈ R then undef else slotOf ops a i) = a := by
      rw [putAll_ext (u' := slotOf ops a) (fun i hi => if_neg (fun hr => hRd i hr hi)), putAll_self]
    rw [hput] at key
    show wpAnyE P ops Q S L (D.length + r.len) listed a w
    have hlen : (D.map (·.1)).length = D.length := List.length_map ..
    rw [hlen] at key
    exact key
theorem region_e {id : Nat} {a : Act} {w : World} {l : List Oper} (S : World → Prop) (L : List Nat) (plan : Pe) (hm : P.follows .mixedOrders = true)
    (hk : (Region.noSelect l.toArray && plan.len == l.toArray.size && eOk l.toArray L plan (Array.replicate l.toArray.size false)) = true)
    (hQ : ∀ c a d v w, Q (.panic c) (Act.put a d v) w → Q (.panic c) a w) (h : wpE P l.toArray Q S L plan a w.drew) : (Code.region id l.toArray true).wp P Q a w := by
  simp only [Bool.and_eq_true, beq_iff_eq] at hk
  have h1 := wpAny_of_E _ _ _ _ (wpAnyE_of hk.1.1 hQ plan _ a w.drew (Closed.start _) hk.2 h)
  rw [hk.1.2] at h1
  exact wp_region_any hm h1
theorem e_take {a : Act} {w : World} {i : Nat} {o : Oper} {v : Value} {r : Pe} (hi : ops[i]? = some o) (hS : S w) (hw : Region.wanted o (yielded ops a.tmps) = true)
    (hy : ∀ w, S w → (execOp a.eval o).run P w = .ok (.value v) w) (h : ∀ K : Act → Prop, (∀ a', wpE P ops Q S L r a' w → K a') → K (a.put o.dst v)) : wpE P ops Q S L (.take i r) a w := ⟨o, v, hi, .inl ⟨hw, hy⟩, hS, h _ fun _ h => h⟩
theorem e_pure {a : Act} {w : World} {i : Nat} {o : Oper} {v : Value} {r : Pe} (hi : ops[i]? = some o) (hw : Region.wanted o (yielded ops a.tmps) = true)
    (hy : ∀ w, (execOp a.eval o).run P w = .ok (.value v) w) (h : ∀ K : Act → Prop, (∀ a', wpE P ops Q S L r a' w → K a') → K (a.put o.dst v)) : wpE P ops Q S L (.pure i r) a w := ⟨o, v, hi, .inl ⟨hw, fun w _ => hy w⟩, h _ fun _ h => h⟩
theorem e_do {a : Act} {w : World} {i : Nat} {o : Oper} {r : Pe} (hi : ops[i]? = some o) (hw : Region.wanted o (yielded ops a.tmps) = true)
    (h : ∀ K : Act → World → Prop, (∀ a' w', (late ops L i = true ∨ (S w → S w')) → wpE P ops Q S L r a' w' → K a' w') → o.wp P a w K Q) : wpE P ops Q S L (.one i r) a w := by
  show wpOp P ops Q i _ a w
  unfold wpOp
  simp only [hi, hw, if_true]
  exact .inl (h _ fun a' w' hS h' => ⟨hS, h'⟩)
theorem e_parG {a : Act} {w : World} {D : List (Nat × List Nat)} {R : List Nat} {r : Pe} (dl : List (Nat × Option Tmp)) (hdl : D.map (fun p => (p.1, dstOf ops p.1)) = dl) (A : Nat → Prop) (N : Nat → (Nat → Value) → World → (Nat → Prop) → Prop) (PP : Nat → (Nat → Value) → Prop) (F0 : Nat → Nat → Prop)
    (hPP : ∀ j i u v, PP j u → i ≠ j → waits ops j i = false → PP j (updV u i v)) (hNu : ∀ j i u v w F, N j u w F → i ≠ j → waits ops j i = false → N j (updV u i v) w F) (hSt : ∀ j v w w' F, N j v w F → (∀ k, F k → w'.heap[k]? = w.heap[k]?) → N j v w' F) (hS : ∀ w', Ch A w w' → S w')
    (h0 : ∀ j ∈ R, ∀ u : Nat → Value, u j = undef → N j u w (F0 j)) (h1 : ∀ j ∈ R, ∀ k, F0 j k → A k ∧ k < w.heap.size) (h2 : ∀ j ∈ R, ∀ j' ∈ R, ∀ k, j ≠ j' → F0 j k → F0 j' k → False) (hP : parS P ops Q dl a w A N PP D)
    (hend : ∀ K : Act → World → Prop, (∀ a' w', wpE P ops Q S L r a' w' → K a' w') → ∀ u w' (F : Nat → Nat → Prop), Ch A w w' → (∀ j j' k, EndAv D R j = true → EndAv D R j' = true → j ≠ j' → F j k → F j' k → False) → (∀ j k, EndAv D R j = true → F j k → (A k ∨ w.heap.size ≤ k) ∧ k < w'.heap.size) → (∀ j, EndAv D R j = true → N j u w' (F j)) → (∀ j ∈ D.map (·.1), PP j u) → K (putL dl a u) w') :
    wpE P ops Q S L (.par D R r) a w :=
  ⟨A, N, PP, F0, hPP, hNu, hSt, hS, h0, h1, h2, parP_of_S hdl D hP, fun u w' F e1 e2 e3 e4 e5 => by rw [putAll_putL (u := u), hdl]; exact hend _ (fun _ _ h => h) u w' F e1 e2 e3 e4 e5⟩
theorem e_par {a : Act} {w : World} {D : List (Nat × List Nat)} {R : List Nat} {r : Pe} (dl : List (Nat × Option Tmp)) (hdl : D.map (fun p => (p.1, dstOf ops p.1)) = dl) (A : Nat → Prop) (N : Nat → Value → World → (Nat → Prop) → Prop) (F0 : Nat → Nat → Prop)
    (hSt : ∀ j v w w' F, N j v w F → (∀ k, F k → w'.heap[k]? = w.heap[k]?) → N j v w' F) (hS : ∀ w', Ch A w w' → S w')
    (h0 : ∀ j ∈ R, N j undef w (F0 j)) (h1 : ∀ j ∈ R, ∀ k, F0 j k → A k ∧ k < w.heap.size) (h2 : ∀ j ∈ R, ∀ j' ∈ R, ∀ k, j ≠ j' → F0 j k → F0 j' k → False) (hP : parS P ops Q dl a w A (ofVal N) (fun _ _ => True) D)
    (hend : ∀ K : Act → World → Prop, (∀ a' w', wpE P ops Q S L r a' w' → K a' w') → ∀ u w' (F : Nat → Nat → Prop), Ch A w w' → (∀ j j' k, EndAv D R j = true → EndAv D R j' = true → j ≠ j' → F j k → F j' k → False) → (∀ j k, EndAv D R j = true → F j k → (A k ∨ w.heap.size ≤ k) ∧ k < w'.heap.size) → (∀ j, EndAv D R j = true → N j (u j) w' (F j)) → K (putL dl a u) w') :
    wpE P ops Q S L (.par D R r) a w :=
  e_parG dl hdl A (ofVal N) (fun _ _ => True) F0 (fun _ _ _ _ _ _ _ => trivial) (fun j i u v w F h hij _ => by unfold ofVal at h ⊢; simpa [updV, Ne.symm hij] using h) (fun j u w w' F h hm => hSt j (u j) w w' F h hm) hS (fun j hj u hu => by unfold ofVal; rw [hu]; exact h0 j hj) h1 h2 hP fun K hK u w' F e1 e2 e3 e4 _ => hend K hK u w' F e1 e2 e3 e4
end
end Go.Proofs.YtbcemldiahghcaaGreat
