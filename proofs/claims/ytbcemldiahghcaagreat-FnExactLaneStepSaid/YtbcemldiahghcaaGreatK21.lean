/- Texts joined: Ex3, Ey2, Ez2. -/
import Derived.Test.YtbcemldiahghcaaGreatK20
import Derived.Test.YtbcemldiahghcaaGreatK13
import Derived.Test.YtbcemldiahghcaaGreatK10
import Derived.Test.YtbcemldiahghcaaGreatK11
namespace Go.Proofs.YtbcemldiahghcaaGreat
set_option linter.unusedVariables false
set_option linter.unusedSimpArgs false
set_option maxRecDepth 100000
open Go.RowKit
theorem fill_set {α : Type} (xs : List α) (k : Nat) (h : k < xs.length) : ((xs.take k).map some ++ List.replicate (xs.length - k) none).set k (some xs[k]) = (xs.take (k + 1)).map some ++ List.replicate (xs.length - (k + 1)) (none : Option α) := by
  have h1 : xs.length - k = (xs.length - (k + 1)) + 1 := by omega
  have h2 : ((xs.take k).map some).length = k := by simp; omega
  rw [h1, List.replicate_succ, List.set_append_right _ _ (by omega), h2, Nat.sub_self, List.set_cons_zero]
  have h3 : xs.take (k + 1) = xs.take k ++ [xs[k]] := List.take_succ_eq_append_getElem h
  rw [h3, List.map_append, List.append_assoc]
  rfl
theorem fill_len {α : Type} (xs : List α) (k : Nat) (h : k ≤ xs.length) : ((xs.take k).map some ++ List.replicate (xs.length - k) (none : Option α)).length = xs.length := by simp; omega
set_option maxHeartbeats 1000000 in
theorem toOp_c (x : OpD) (w : World) : Calls Tryz.prog 157 #[.agg #[.int .i64 x.d, .int .i64 x.a, .int .i64 x.b, .int .i64 x.c, .int .i64 x.e]] w fun q w' => q = .returned (.agg #[.int .i64 x.d, .int .i64 x.a, .int .i64 x.b, .int .i64 x.c, .int .i64 x.e]) ∧ Below w.heap.size w w' := by
  go_enter Tryz.func157, Tryz.ntmps157
  go_wp2_with fail
  refine bodyPost_ret (v := .agg #[.int .i64 x.d, .int .i64 x.a, .int .i64 x.b, .int .i64 x.c, .int .i64 x.e]) (by simp only [results, Tryz.results157]; go_simp) rfl ⟨rfl, ?_⟩
  refine Ch.below0 ?_
  repeat (first | (with_reducible exact Ch.refl _ _) | (with_reducible refine Ch.alloc ?_ _) | (refine Ch.setCell ?_ (Or.inr (by simp only [World.size_alloc]; omega)) _))
set_option maxHeartbeats 1000000 in
theorem toState_c (s : StD) (w : World) : Calls Tryz.prog 57 #[.agg #[.int .i64 s.x, .int .i64 s.y, .int .i64 s.c]] w fun q w' => q = .returned (.agg #[.int .i64 s.x, .int .i64 s.y, .int .i64 s.c]) ∧ Below w.heap.size w w' := by
  go_enter Tryz.func57, Tryz.ntmps57
  go_wp2_with fail
  refine bodyPost_ret (v := .agg #[.int .i64 s.x, .int .i64 s.y, .int .i64 s.c]) (by simp only [results, Tryz.results57]; go_simp) rfl ⟨rfl, ?_⟩
  refine Ch.below0 ?_
  repeat (first | (with_reducible exact Ch.refl _ _) | (with_reducible refine Ch.alloc ?_ _) | (refine Ch.setCell ?_ (Or.inr (by simp only [World.size_alloc]; omega)) _))
set_option maxHeartbeats 1000000 in
theorem toEvent_c (x : EvD) (w : World) : Calls Tryz.prog 59 #[.agg #[.int .i64 x.time, .int .i64 x.to, .int .i64 x.from_, .int .i64 x.count, .int .i64 x.n, .int .i64 x.kind, .int .i64 x.arg]] w fun q w' => q = .returned (.agg #[.int .i64 x.time, .int .i64 x.to, .int .i64 x.from_, .int .i64 x.count, .int .i64 x.n, .int .i64 x.kind, .int .i64 x.arg]) ∧ Below w.heap.size w w' := by
  go_enter Tryz.func59, Tryz.ntmps59
  go_wp2_with fail
  refine bodyPost_ret (v := .agg #[.int .i64 x.time, .int .i64 x.to, .int .i64 x.from_, .int .i64 x.count, .int .i64 x.n, .int .i64 x.kind, .int .i64 x.arg]) (by simp only [results, Tryz.results59]; go_simp) rfl ⟨rfl, ?_⟩
  refine Ch.below0 ?_
  repeat (first | (with_reducible exact Ch.refl _ _) | (with_reducible refine Ch.alloc ?_ _) | (refine Ch.setCell ?_ (Or.inr (by simp only [World.size_alloc]; omega)) _))
set_option maxHeartbeats 1000000 in
theorem toOpS_c (v : Value) (xs : List OpD) (F : Nat → Prop) (w : World) (h : Rd tOp w F v xs) (hn : xs.length ≤ 1048576) :
    Calls Tryz.prog 145 #[v] w fun q w' => ∃ v', q = .returned v' ∧ Ow tOp 150 w' (fun k => w.heap.size ≤ k) v' xs ∧ Below w.heap.size w w' := by
  obtain ⟨A, c, rfl, -, -, -⟩ := id h
  go_enter Tryz.func145, Tryz.ntmps145
  go_wp2_with (refine ow_full (d := tOp) (e := 150) rfl _ _ _ rfl Tryz.underlying118 (.agg #[.int .i64 0, .int .i64 0, .int .i64 0, .int .i64 0, .int .i64 0]) 40 (by kernel_rfl) (by decide) rfl (by decide) _ _ xs.length rfl rfl (by omega) (by omega) ?_; intro w1 hO1 hb1)
  obtain ⟨g, hg⟩ : ∃ g, g = w.heap.size := ⟨_, rfl⟩
  rw [← hg] at hO1
  simp only [← hg]
  have HG := hid hg
  clear hg
  go_loopw [4] (fun i wr => ∃ k : Nat, i = .int .i64 k ∧ k ≤ xs.length ∧ Ow (opt tOp) 150 wr (fun k => g ≤ k) (.slice (some ⟨g, 0, none⟩) xs.length xs.length) ((xs.take k).map some ++ List.replicate (xs.length - k) none) ∧ Below g w wr) (fun i _ => xs.length - (intOf i).toNat)
  case atStart => exact ⟨0, rfl, Nat.zero_le _, by simpa using hO1, by rw [HG.out]; exact hb1⟩
  case round =>
    clear hO1 hb1
    obtain ⟨k, rfl, hk, hO, hb⟩ := hrel
    have hb' : Below w.heap.size w wr := by rw [← HG.out]; exact hb
    have hgl := hO.block_lt rfl
    by_cases hlt : k < xs.length
    · have hr := h.below hb'
      obtain ⟨b0, o0, rfl, hb0, z0, z1, z2, z3, z4⟩ := op_at hr k hlt
      have p0 : (k : Int) < (xs.length : Int) := by omega
      have p1 : (0 : Int) ≤ (k : Int) := by omega
      clear hb'
      go_wp2_with fail
      refine (toOp_c xs[k] wr).mono ?_
      rintro q w2 ⟨rfl, hb2⟩
      skip
      have hB2 := hb.trans (hb2.mono (Nat.le_of_lt hgl))
      have hO2 := hO.bound.below hb2
      have hkl : k < ((xs.take k).map some ++ List.replicate (xs.length - k) (none : Option OpD)).length := by rw [fill_len xs k hk]; exact hlt
      clear hO
      apply_assumption
      go_wp2_with (refine ow_store_any (d := opt tOp) rfl _ _ _ rfl hO2 (g := g) rfl k hkl (some xs[k]) (OpD.cells xs[k]) (fun _ => False) (fun q => g ≤ q) (by first | rfl | exact hnew) (by first | exact fun _ hf => hf.elim | exact fun q hq hq' => by have h3 : wr.heap.size ≤ q := hq; omega) (fun _ hq => hq.1) (by first | exact fun _ hf => hf.elim | exact fun q hq => by have h3 : wr.heap.size ≤ q := hq; omega) (by first | rfl | simp [opt, tOp, tSt, tEv, tOut, oRule, oApp, flat]) (by first | rfl | simp [OpD.cells, StD.cells, EvD.cells, OutD.cells]) (by kernel_rfl) ?_; intro w3 hO3 hC3)
      rw [fill_set xs k hlt] at hO3
      have hB3 := hB2.trans (hC3.below (B := g) (fun q hq => by omega) (by have := hb2.size; omega))
      go_roundw
      case rel => exact ⟨k + 1, by go_num, by omega, hO3, hB3⟩
      case measure => simp [intOf]; omega
    · have hkl : k = xs.length := by omega
      subst hkl
      have hO4 : Ow tOp 150 wr (fun k => w.heap.size ≤ k) (.slice (some ⟨g, 0, none⟩) xs.length xs.length) xs := by
        have := hO
        rw [List.take_length, Nat.sub_self, List.replicate_zero, List.append_nil] at this
        rw [← HG.out]
        exact this.filled
      go_wp2_with fail
      go_ret
      exact ⟨_, rfl, hO4, hb'⟩
set_option maxHeartbeats 1000000 in
theorem toRule_c (x : RuleD) (v : Value) (F : Nat → Prop) (w : World) (h : Rd tOp w F v x.ops) (hn : x.ops.length ≤ 1048576) :
    Calls Tryz.prog 102 #[.agg #[.int .i64 x.kind, v]] w fun q w' => ∃ v', q = .returned (.agg #[.int .i64 x.kind, v']) ∧ Ow tOp 150 w' (fun k => w.heap.size ≤ k) v' x.ops ∧ Below w.heap.size w w' := by
  obtain ⟨A, c, rfl, -⟩ := h.shape
  go_enter Tryz.func102, Tryz.ntmps102
  go_wp2_with fail
  have HW : Below w.heap.size w (((w.alloc (.cells #[.int .i64 x.kind, .slice A x.ops.length c] 134)).alloc (.cells #[.int .i64 0, .slice none 0 0] 120)).alloc (.cells #[.int .i64 x.kind, .slice none 0 0] 120)) := balloc (balloc (balloc (Below.refl _ _) _) _) _
  have Z1 : (((w.alloc (.cells #[.int .i64 x.kind, .slice A x.ops.length c] 134)).alloc (.cells #[.int .i64 0, .slice none 0 0] 120)).alloc (.cells #[.int .i64 x.kind, .slice none 0 0] 120)).heap[w.heap.size + 1]? = some (.cells #[.int .i64 0, .slice none 0 0] 120 (0, 0)) := (heap_old (by simp)).trans (heap_at (by simp))
  have Z2 : (((w.alloc (.cells #[.int .i64 x.kind, .slice A x.ops.length c] 134)).alloc (.cells #[.int .i64 0, .slice none 0 0] 120)).alloc (.cells #[.int .i64 x.kind, .slice none 0 0] 120)).heap[w.heap.size + 1 + 1]? = some (.cells #[.int .i64 x.kind, .slice none 0 0] 120 (0, 0)) := heap_at (by simp)
  generalize ((w.alloc (.cells #[.int .i64 x.kind, .slice A x.ops.length c] 134)).alloc (.cells #[.int .i64 0, .slice none 0 0] 120)).alloc (.cells #[.int .i64 x.kind, .slice none 0 0] 120) = W at *
  refine (toOpS_c _ x.ops F W (h.below HW) hn).mono ?_
  rintro q w1 ⟨v', rfl, hO, hb1⟩
  obtain ⟨B, b, rfl, -⟩ := hO.shape
  have Y1 := below_heap hb1 (blk_lt Z1) Z1
  have Y2 := below_heap hb1 (blk_lt Z2) Z2
  have hz := blk_lt Z2
  have hb1' := bthen HW hb1 HW.size
  have a0 : w1.cell? ⟨w.heap.size + 1, 0, none⟩ = some (.int .i64 0) := blk_cell Y1 0
  have f0 := blk_frozen Y1 0
  have a1 : w1.cell? ⟨w.heap.size + 1, 1, none⟩ = some (.slice none 0 0) := blk_cell Y1 1
  have f1 := blk_frozen Y1 1
  have b0 : w1.cell? ⟨w.heap.size + 1 + 1, 0, none⟩ = some (.int .i64 x.kind) := blk_cell Y2 0
  have g0 := blk_frozen Y2 0
  have b1 : w1.cell? ⟨w.heap.size + 1 + 1, 1, none⟩ = some (.slice none 0 0) := blk_cell Y2 1
  have g1 := blk_frozen Y2 1
  apply_assumption
  go_wp2_with fail
  have HP : Ch (fun k => k = w.heap.size + 1 + 1) w1 (w1.setCell ⟨w.heap.size + 1 + 1, 1, none⟩ (.slice B x.ops.length b)) := Ch.setCell (p := ⟨w.heap.size + 1 + 1, 1, none⟩) (Ch.refl (fun k => k = w.heap.size + 1 + 1) _) (Or.inl rfl) _
  have BW := (blk_set (blk_set (HP.heap Y1 (fun e1 => by omega)) 0 (.int .i64 x.kind)) 1 (.slice B x.ops.length b))
  simp only [List.setIfInBounds_toArray, List.set_cons_zero, List.set_cons_succ] at BW
  have HQ : Ch (fun k => k = w.heap.size + 1 + 1 ∨ k = w.heap.size + 1) w1 (((w1.setCell ⟨w.heap.size + 1 + 1, 1, none⟩ (.slice B x.ops.length b)).setCell ⟨w.heap.size + 1, 0, none⟩ (.int .i64 x.kind)).setCell ⟨w.heap.size + 1, 1, none⟩ (.slice B x.ops.length b)) := by
    repeat (first | (with_reducible exact Ch.refl _ _) | (refine Ch.setCell ?_ (Or.inl (Or.inr rfl)) _) | (refine Ch.setCell ?_ (Or.inl (Or.inl rfl)) _))
  have hO2 := (hO.ch HQ (fun k hk e1 => by have h3 : W.heap.size ≤ k := hk; omega)).mono (F' := fun k => w.heap.size ≤ k) (fun k hk => by have h3 : W.heap.size ≤ k := hk; show w.heap.size ≤ k; omega)
  have hb2 := hb1'.trans (HQ.below (B := w.heap.size) (fun k hk => by omega) hb1'.size)
  generalize (((w1.setCell ⟨w.heap.size + 1 + 1, 1, none⟩ (.slice B x.ops.length b)).setCell ⟨w.heap.size + 1, 0, none⟩ (.int .i64 x.kind)).setCell ⟨w.heap.size + 1, 1, none⟩ (.slice B x.ops.length b)) = W9 at *
  have s0 : W9.cell? ⟨w.heap.size + 1, 0, none⟩ = some (.int .i64 x.kind) := blk_cell BW 0
  have s1 : W9.cell? ⟨w.heap.size + 1, 1, none⟩ = some (.slice B x.ops.length b) := blk_cell BW 1
  refine bodyPost_ret (v := .agg #[.int .i64 x.kind, .slice B x.ops.length b]) (by simp only [results, Tryz.results102]; go_simp) rfl ⟨_, rfl, hO2, hb2⟩
set_option maxHeartbeats 1000000 in
theorem toRuleS_c (v : Value) (xs : List RuleD) (F : Nat → Prop) (w : World) (h : Rd tRule w F v xs) (hn : xs.length ≤ 1048576) (hops : ∀ r ∈ xs, r.ops.length ≤ 1048576) :
    Calls Tryz.prog 56 #[v] w fun q w' => ∃ v', q = .returned v' ∧ Ow oRule 120 w' (fun k => w.heap.size ≤ k) v' xs ∧ Below w.heap.size w w' := by
  obtain ⟨A, c, rfl, -, -, -⟩ := id h
  go_enter Tryz.func56, Tryz.ntmps56
  go_wp2_with (refine ow_full (d := oRule) (e := 120) rfl _ _ _ rfl Tryz.underlying55 (.agg #[.int .i64 0, .slice none 0 0]) 32 (by kernel_rfl) (by decide) rfl (by decide) _ _ xs.length rfl rfl (by omega) (by omega) ?_; intro w1 hO1 hb1)
  obtain ⟨g, hg⟩ : ∃ g, g = w.heap.size := ⟨_, rfl⟩
  rw [← hg] at hO1
  simp only [← hg]
  have HG := hid hg
  clear hg
  go_loopw [4] (fun i wr => ∃ k : Nat, i = .int .i64 k ∧ k ≤ xs.length ∧ Ow (opt oRule) 120 wr (fun k => g ≤ k) (.slice (some ⟨g, 0, none⟩) xs.length xs.length) ((xs.take k).map some ++ List.replicate (xs.length - k) none) ∧ Below g w wr) (fun i _ => xs.length - (intOf i).toNat)
  case atStart => exact ⟨0, rfl, Nat.zero_le _, by simpa using hO1, by rw [HG.out]; exact hb1⟩
  case round =>
    clear hO1 hb1
    obtain ⟨k, rfl, hk, hO, hb⟩ := hrel
    have hb' : Below w.heap.size w wr := by rw [← HG.out]; exact hb
    have hgl := hO.block_lt rfl
    by_cases hlt : k < xs.length
    · have hr := h.below hb'
      obtain ⟨b0, o0, A1, c1, rfl, hb0, z0, z1, hrO⟩ := rule_at hr k hlt
      have p0 : (k : Int) < (xs.length : Int) := by omega
      have p1 : (0 : Int) ≤ (k : Int) := by omega
      clear hb'
      go_wp2_with fail
      refine (toRule_c xs[k] _ _ wr hrO (hops _ (List.getElem_mem _))).mono ?_
      rintro q w2 ⟨v', rfl, hOe, hb2⟩
      obtain ⟨B, b, rfl, -⟩ := hOe.shape
      have hnew : (opt oRule).rel w2 (fun q => wr.heap.size ≤ q) (some xs[k]) [.int .i64 xs[k].kind, .slice B xs[k].ops.length b] := ⟨_, rfl, hOe⟩
      have hB2 := hb.trans (hb2.mono (Nat.le_of_lt hgl))
      have hO2 := hO.bound.below hb2
      have hkl : k < ((xs.take k).map some ++ List.replicate (xs.length - k) (none : Option RuleD)).length := by rw [fill_len xs k hk]; exact hlt
      clear hO
      apply_assumption
      go_wp2_with (refine ow_store_any (d := opt oRule) rfl _ _ _ rfl hO2 (g := g) rfl k hkl (some xs[k]) [.int .i64 xs[k].kind, .slice B xs[k].ops.length b] (fun q => wr.heap.size ≤ q) (fun q => g ≤ q) (by first | rfl | exact hnew) (by first | exact fun _ hf => hf.elim | exact fun q hq hq' => by have h3 : wr.heap.size ≤ q := hq; omega) (fun _ hq => hq.1) (by first | exact fun _ hf => hf.elim | exact fun q hq => by have h3 : wr.heap.size ≤ q := hq; omega) (by first | rfl | simp [opt, tOp, tSt, tEv, tOut, oRule, oApp, flat]) (by first | rfl | simp [OpD.cells, StD.cells, EvD.cells, OutD.cells]) (by kernel_rfl) ?_; intro w3 hO3 hC3)
      rw [fill_set xs k hlt] at hO3
      have hB3 := hB2.trans (hC3.below (B := g) (fun q hq => by omega) (by have := hb2.size; omega))
      go_roundw
      case rel => exact ⟨k + 1, by go_num, by omega, hO3, hB3⟩
      case measure => simp [intOf]; omega
    · have hkl : k = xs.length := by omega
      subst hkl
      have hO4 : Ow oRule 120 wr (fun k => w.heap.size ≤ k) (.slice (some ⟨g, 0, none⟩) xs.length xs.length) xs := by
        have := hO
        rw [List.take_length, Nat.sub_self, List.replicate_zero, List.append_nil] at this
        rw [← HG.out]
        exact this.filled
      go_wp2_with fail
      go_ret
      exact ⟨_, rfl, hO4, hb'⟩
set_option maxHeartbeats 1000000 in
theorem toApp_c (x : AppD) (v : Value) (F : Nat → Prop) (w : World) (h : Rd tRule w F v x.rules) (hn : x.rules.length ≤ 1048576) (hops : ∀ r ∈ x.rules, r.ops.length ≤ 1048576) :
    Calls Tryz.prog 19 #[.agg #[v]] w fun q w' => ∃ v', q = .returned (.agg #[v']) ∧ Ow oRule 120 w' (fun k => w.heap.size ≤ k) v' x.rules ∧ Below w.heap.size w w' := by
  obtain ⟨A, c, rfl, -⟩ := h.shape
  go_enter Tryz.func19, Tryz.ntmps19
  go_wp2_with fail
  have HW : Below w.heap.size w (((w.alloc (.cells #[.slice A x.rules.length c] 39)).alloc (.cells #[.slice none 0 0] 57)).alloc (.cells #[.slice none 0 0] 57)) := balloc (balloc (balloc (Below.refl _ _) _) _) _
  have Z1 : (((w.alloc (.cells #[.slice A x.rules.length c] 39)).alloc (.cells #[.slice none 0 0] 57)).alloc (.cells #[.slice none 0 0] 57)).heap[w.heap.size + 1]? = some (.cells #[.slice none 0 0] 57 (0, 0)) := (heap_old (by simp)).trans (heap_at (by simp))
  have Z2 : (((w.alloc (.cells #[.slice A x.rules.length c] 39)).alloc (.cells #[.slice none 0 0] 57)).alloc (.cells #[.slice none 0 0] 57)).heap[w.heap.size + 1 + 1]? = some (.cells #[.slice none 0 0] 57 (0, 0)) := heap_at (by simp)
  generalize ((w.alloc (.cells #[.slice A x.rules.length c] 39)).alloc (.cells #[.slice none 0 0] 57)).alloc (.cells #[.slice none 0 0] 57) = W at *
  refine (toRuleS_c _ x.rules F W (h.below HW) hn hops).mono ?_
  rintro q w1 ⟨v', rfl, hO, hb1⟩
  obtain ⟨B, b, rfl, -⟩ := hO.shape
  have Y1 := below_heap hb1 (blk_lt Z1) Z1
  have Y2 := below_heap hb1 (blk_lt Z2) Z2
  have hz := blk_lt Z2
  have hb1' := bthen HW hb1 HW.size
  have a0 : w1.cell? ⟨w.heap.size + 1, 0, none⟩ = some (.slice none 0 0) := blk_cell Y1 0
  have f0 := blk_frozen Y1 0
  have b0 : w1.cell? ⟨w.heap.size + 1 + 1, 0, none⟩ = some (.slice none 0 0) := blk_cell Y2 0
  have g0 := blk_frozen Y2 0
  apply_assumption
  go_wp2_with fail
  have HP : Ch (fun k => k = w.heap.size + 1 + 1) w1 (w1.setCell ⟨w.heap.size + 1 + 1, 0, none⟩ (.slice B x.rules.length b)) := Ch.setCell (p := ⟨w.heap.size + 1 + 1, 0, none⟩) (Ch.refl (fun k => k = w.heap.size + 1 + 1) _) (Or.inl rfl) _
  have BW := (blk_set (HP.heap Y1 (fun e1 => by omega)) 0 (.slice B x.rules.length b))
  simp only [List.setIfInBounds_toArray, List.set_cons_zero, List.set_cons_succ] at BW
  have HQ : Ch (fun k => k = w.heap.size + 1 + 1 ∨ k = w.heap.size + 1) w1 ((w1.setCell ⟨w.heap.size + 1 + 1, 0, none⟩ (.slice B x.rules.length b)).setCell ⟨w.heap.size + 1, 0, none⟩ (.slice B x.rules.length b)) := by
    repeat (first | (with_reducible exact Ch.refl _ _) | (refine Ch.setCell ?_ (Or.inl (Or.inr rfl)) _) | (refine Ch.setCell ?_ (Or.inl (Or.inl rfl)) _))
  have hO2 := (hO.ch HQ (fun k hk e1 => by have h3 : W.heap.size ≤ k := hk; omega)).mono (F' := fun k => w.heap.size ≤ k) (fun k hk => by have h3 : W.heap.size ≤ k := hk; show w.heap.size ≤ k; omega)
  have hb2 := hb1'.trans (HQ.below (B := w.heap.size) (fun k hk => by omega) hb1'.size)
  generalize ((w1.setCell ⟨w.heap.size + 1 + 1, 0, none⟩ (.slice B x.rules.length b)).setCell ⟨w.heap.size + 1, 0, none⟩ (.slice B x.rules.length b)) = W9 at *
  have s0 : W9.cell? ⟨w.heap.size + 1, 0, none⟩ = some (.slice B x.rules.length b) := blk_cell BW 0
  refine bodyPost_ret (v := .agg #[.slice B x.rules.length b]) (by simp only [results, Tryz.results19]; go_simp) rfl ⟨_, rfl, hO2, hb2⟩
end Go.Proofs.YtbcemldiahghcaaGreat

namespace Go.Proofs.YtbcemldiahghcaaGreat
set_option linter.unusedVariables false
set_option linter.unusedSimpArgs false
set_option maxRecDepth 100000
open Go.RowKit
set_option maxHeartbeats 1000000 in
theorem toOut_c (x : OutD) (w : World) : Calls Tryz.prog 120 #[.agg #[.int .i64 x.time, .int .i64 x.proc, .int .i64 x.count, .int .i64 x.n, .int .i64 x.value]] w fun q w' => q = .returned (.agg #[.int .i64 x.time, .int .i64 x.proc, .int .i64 x.count, .int .i64 x.n, .int .i64 x.value]) ∧ Below w.heap.size w w' := by
  go_enter Tryz.func120, Tryz.ntmps120
  go_wp2_with fail
  refine bodyPost_ret (v := .agg #[.int .i64 x.time, .int .i64 x.proc, .int .i64 x.count, .int .i64 x.n, .int .i64 x.value]) (by simp only [results, Tryz.results120]; go_simp) rfl ⟨rfl, ?_⟩
  refine Ch.below0 ?_
  repeat (first | (with_reducible exact Ch.refl _ _) | (with_reducible refine Ch.alloc ?_ _) | (refine Ch.setCell ?_ (Or.inr (by simp only [World.size_alloc]; omega)) _))
set_option maxHeartbeats 1000000 in
theorem toEventS_c (v : Value) (xs : List EvD) (F : Nat → Prop) (w : World) (h : Rd tEv w F v xs) (hn : xs.length ≤ 1048576) :
    Calls Tryz.prog 21 #[v] w fun q w' => ∃ v', q = .returned v' ∧ Ow tEv 80 w' (fun k => w.heap.size ≤ k) v' xs ∧ Below w.heap.size w w' := by
  obtain ⟨A, c, rfl, -, -, -⟩ := id h
  go_enter Tryz.func21, Tryz.ntmps21
  go_wp2_with (refine ow_full (d := tEv) (e := 80) rfl _ _ _ rfl Tryz.underlying25 (.agg #[.int .i64 0, .int .i64 0, .int .i64 0, .int .i64 0, .int .i64 0, .int .i64 0, .int .i64 0]) 56 (by kernel_rfl) (by decide) rfl (by decide) _ _ xs.length rfl rfl (by omega) (by omega) ?_; intro w1 hO1 hb1)
  obtain ⟨g, hg⟩ : ∃ g, g = w.heap.size := ⟨_, rfl⟩
  rw [← hg] at hO1
  simp only [← hg]
  have HG := hid hg
  clear hg
  go_loopw [4] (fun i wr => ∃ k : Nat, i = .int .i64 k ∧ k ≤ xs.length ∧ Ow (opt tEv) 80 wr (fun k => g ≤ k) (.slice (some ⟨g, 0, none⟩) xs.length xs.length) ((xs.take k).map some ++ List.replicate (xs.length - k) none) ∧ Below g w wr) (fun i _ => xs.length - (intOf i).toNat)
  case atStart => exact ⟨0, rfl, Nat.zero_le _, by simpa using hO1, by rw [HG.out]; exact hb1⟩
  case round =>
    clear hO1 hb1
    obtain ⟨k, rfl, hk, hO, hb⟩ := hrel
    have hb' : Below w.heap.size w wr := by rw [← HG.out]; exact hb
    have hgl := hO.block_lt rfl
    by_cases hlt : k < xs.length
    · have hr := h.below hb'
      obtain ⟨b0, o0, rfl, hb0, z0, z1, z2, z3, z4, z5, z6⟩ := ev_at hr k hlt
      have p0 : (k : Int) < (xs.length : Int) := by omega
      have p1 : (0 : Int) ≤ (k : Int) := by omega
      clear hb'
      go_wp2_with fail
      refine (toEvent_c xs[k] wr).mono ?_
      rintro q w2 ⟨rfl, hb2⟩
      skip
      have hB2 := hb.trans (hb2.mono (Nat.le_of_lt hgl))
      have hO2 := hO.bound.below hb2
      have hkl : k < ((xs.take k).map some ++ List.replicate (xs.length - k) (none : Option EvD)).length := by rw [fill_len xs k hk]; exact hlt
      clear hO
      apply_assumption
      go_wp2_with (refine ow_store_any (d := opt tEv) rfl _ _ _ rfl hO2 (g := g) rfl k hkl (some xs[k]) (EvD.cells xs[k]) (fun _ => False) (fun q => g ≤ q) (by first | rfl | exact hnew) (by first | exact fun _ hf => hf.elim | exact fun q hq hq' => by have h3 : wr.heap.size ≤ q := hq; omega) (fun _ hq => hq.1) (by first | exact fun _ hf => hf.elim | exact fun q hq => by have h3 : wr.heap.size ≤ q := hq; omega) (by first | rfl | simp [opt, tOp, tSt, tEv, tOut, oRule, oApp, flat]) (by first | rfl | simp [OpD.cells, StD.cells, EvD.cells, OutD.cells]) (by kernel_rfl) ?_; intro w3 hO3 hC3)
      rw [fill_set xs k hlt] at hO3
      have hB3 := hB2.trans (hC3.below (B := g) (fun q hq => by omega) (by have := hb2.size; omega))
      go_roundw
      case rel => exact ⟨k + 1, by go_num, by omega, hO3, hB3⟩
      case measure => simp [intOf]; omega
    · have hkl : k = xs.length := by omega
      subst hkl
      have hO4 : Ow tEv 80 wr (fun k => w.heap.size ≤ k) (.slice (some ⟨g, 0, none⟩) xs.length xs.length) xs := by
        have := hO
        rw [List.take_length, Nat.sub_self, List.replicate_zero, List.append_nil] at this
        rw [← HG.out]
        exact this.filled
      go_wp2_with fail
      go_ret
      exact ⟨_, rfl, hO4, hb'⟩
set_option maxHeartbeats 1000000 in
theorem toOutS_c (v : Value) (xs : List OutD) (F : Nat → Prop) (w : World) (h : Rd tOut w F v xs) (hn : xs.length ≤ 1048576) :
    Calls Tryz.prog 74 #[v] w fun q w' => ∃ v', q = .returned v' ∧ Ow tOut 128 w' (fun k => w.heap.size ≤ k) v' xs ∧ Below w.heap.size w w' := by
  obtain ⟨A, c, rfl, -, -, -⟩ := id h
  go_enter Tryz.func74, Tryz.ntmps74
  go_wp2_with (refine ow_full (d := tOut) (e := 128) rfl _ _ _ rfl Tryz.underlying26 (.agg #[.int .i64 0, .int .i64 0, .int .i64 0, .int .i64 0, .int .i64 0]) 40 (by kernel_rfl) (by decide) rfl (by decide) _ _ xs.length rfl rfl (by omega) (by omega) ?_; intro w1 hO1 hb1)
  obtain ⟨g, hg⟩ : ∃ g, g = w.heap.size := ⟨_, rfl⟩
  rw [← hg] at hO1
  simp only [← hg]
  have HG := hid hg
  clear hg
  go_loopw [4] (fun i wr => ∃ k : Nat, i = .int .i64 k ∧ k ≤ xs.length ∧ Ow (opt tOut) 128 wr (fun k => g ≤ k) (.slice (some ⟨g, 0, none⟩) xs.length xs.length) ((xs.take k).map some ++ List.replicate (xs.length - k) none) ∧ Below g w wr) (fun i _ => xs.length - (intOf i).toNat)
  case atStart => exact ⟨0, rfl, Nat.zero_le _, by simpa using hO1, by rw [HG.out]; exact hb1⟩
  case round =>
    clear hO1 hb1
    obtain ⟨k, rfl, hk, hO, hb⟩ := hrel
    have hb' : Below w.heap.size w wr := by rw [← HG.out]; exact hb
    have hgl := hO.block_lt rfl
    by_cases hlt : k < xs.length
    · have hr := h.below hb'
      obtain ⟨b0, o0, rfl, hb0, z0, z1, z2, z3, z4⟩ := out_at hr k hlt
      have p0 : (k : Int) < (xs.length : Int) := by omega
      have p1 : (0 : Int) ≤ (k : Int) := by omega
      clear hb'
      go_wp2_with fail
      refine (toOut_c xs[k] wr).mono ?_
      rintro q w2 ⟨rfl, hb2⟩
      skip
      have hB2 := hb.trans (hb2.mono (Nat.le_of_lt hgl))
      have hO2 := hO.bound.below hb2
      have hkl : k < ((xs.take k).map some ++ List.replicate (xs.length - k) (none : Option OutD)).length := by rw [fill_len xs k hk]; exact hlt
      clear hO
      apply_assumption
      go_wp2_with (refine ow_store_any (d := opt tOut) rfl _ _ _ rfl hO2 (g := g) rfl k hkl (some xs[k]) (OutD.cells xs[k]) (fun _ => False) (fun q => g ≤ q) (by first | rfl | exact hnew) (by first | exact fun _ hf => hf.elim | exact fun q hq hq' => by have h3 : wr.heap.size ≤ q := hq; omega) (fun _ hq => hq.1) (by first | exact fun _ hf => hf.elim | exact fun q hq => by have h3 : wr.heap.size ≤ q := hq; omega) (by first | rfl | simp [opt, tOp, tSt, tEv, tOut, oRule, oApp, flat]) (by first | rfl | simp [OpD.cells, StD.cells, EvD.cells, OutD.cells]) (by kernel_rfl) ?_; intro w3 hO3 hC3)
      rw [fill_set xs k hlt] at hO3
      have hB3 := hB2.trans (hC3.below (B := g) (fun q hq => by omega) (by have := hb2.size; omega))
      go_roundw
      case rel => exact ⟨k + 1, by go_num, by omega, hO3, hB3⟩
      case measure => simp [intOf]; omega
    · have hkl : k = xs.length := by omega
      subst hkl
      have hO4 : Ow tOut 128 wr (fun k => w.heap.size ≤ k) (.slice (some ⟨g, 0, none⟩) xs.length xs.length) xs := by
        have := hO
        rw [List.take_length, Nat.sub_self, List.replicate_zero, List.append_nil] at this
        rw [← HG.out]
        exact this.filled
      go_wp2_with fail
      go_ret
      exact ⟨_, rfl, hO4, hb'⟩
end Go.Proofs.YtbcemldiahghcaaGreat

namespace Go.Proofs.YtbcemldiahghcaaGreat
set_option linter.unusedVariables false
set_option linter.unusedSimpArgs false
set_option maxRecDepth 100000
open Go.RowKit
set_option maxHeartbeats 2000000 in
theorem toPast_c (x : PastD) (vs vo : Value) (F : Nat → Prop) (w : World) (g1 : Rd tEv w F vs x.sends) (g2 : Rd tOut w F vo x.outs) (n1 : x.sends.length ≤ 1048576) (n2 : x.outs.length ≤ 1048576) :
    Calls Tryz.prog 103 #[.agg #[.int .i64 x.ev.time, .int .i64 x.ev.to, .int .i64 x.ev.from_, .int .i64 x.ev.count, .int .i64 x.ev.n, .int .i64 x.ev.kind, .int .i64 x.ev.arg, .int .i64 x.st.x, .int .i64 x.st.y, .int .i64 x.st.c, vs, vo]] w fun q w' => ∃ us uo, q = .returned (.agg #[.int .i64 x.ev.time, .int .i64 x.ev.to, .int .i64 x.ev.from_, .int .i64 x.ev.count, .int .i64 x.ev.n, .int .i64 x.ev.kind, .int .i64 x.ev.arg, .int .i64 x.st.x, .int .i64 x.st.y, .int .i64 x.st.c, us, uo]) ∧ Ow tEv 80 w' (fun k => w.heap.size ≤ k) us x.sends ∧ Ow tOut 128 w' (fun k => w.heap.size ≤ k) uo x.outs ∧ Below w.heap.size w w' := by
  obtain ⟨A1, c1, rfl, -⟩ := g1.shape
  obtain ⟨A2, c2, rfl, -⟩ := g2.shape
  go_enter Tryz.func103, Tryz.ntmps103
  go_wp2_with fail
  have HB0 : Below w.heap.size w (((w.alloc (.cells #[.int .i64 x.ev.time, .int .i64 x.ev.to, .int .i64 x.ev.from_, .int .i64 x.ev.count, .int .i64 x.ev.n, .int .i64 x.ev.kind, .int .i64 x.ev.arg, .int .i64 x.st.x, .int .i64 x.st.y, .int .i64 x.st.c, .slice A1 x.sends.length c1, .slice A2 x.outs.length c2] 137)).alloc (.cells #[.int .i64 0, .int .i64 0, .int .i64 0, .int .i64 0, .int .i64 0, .int .i64 0, .int .i64 0, .int .i64 0, .int .i64 0, .int .i64 0, .slice none 0 0, .slice none 0 0] 98)).alloc (.cells #[.int .i64 0, .int .i64 0, .int .i64 0, .int .i64 0, .int .i64 0, .int .i64 0, .int .i64 0, .int .i64 0, .int .i64 0, .int .i64 0, .slice none 0 0, .slice none 0 0] 98)) := balloc (balloc (balloc (Below.refl _ _) _) _) _
  have Z0 : (((w.alloc (.cells #[.int .i64 x.ev.time, .int .i64 x.ev.to, .int .i64 x.ev.from_, .int .i64 x.ev.count, .int .i64 x.ev.n, .int .i64 x.ev.kind, .int .i64 x.ev.arg, .int .i64 x.st.x, .int .i64 x.st.y, .int .i64 x.st.c, .slice A1 x.sends.length c1, .slice A2 x.outs.length c2] 137)).alloc (.cells #[.int .i64 0, .int .i64 0, .int .i64 0, .int .i64 0, .int .i64 0, .int .i64 0, .int .i64 0, .int .i64 0, .int .i64 0, .int .i64 0, .slice none 0 0, .slice none 0 0] 98)).alloc (.cells #[.int .i64 0, .int .i64 0, .int .i64 0, .int .i64 0, .int .i64 0, .int .i64 0, .int .i64 0, .int .i64 0, .int .i64 0, .int .i64 0, .slice none 0 0, .slice none 0 0] 98)).heap[w.heap.size]? = some (.cells #[.int .i64 x.ev.time, .int .i64 x.ev.to, .int .i64 x.ev.from_, .int .i64 x.ev.count, .int .i64 x.ev.n, .int .i64 x.ev.kind, .int .i64 x.ev.arg, .int .i64 x.st.x, .int .i64 x.st.y, .int .i64 x.st.c, .slice A1 x.sends.length c1, .slice A2 x.outs.length c2] 137 (0, 0)) := (heap_old (by simp only [World.size_alloc]; omega)).trans ((heap_old (by simp)).trans (heap_at rfl))
  have Z1 : (((w.alloc (.cells #[.int .i64 x.ev.time, .int .i64 x.ev.to, .int .i64 x.ev.from_, .int .i64 x.ev.count, .int .i64 x.ev.n, .int .i64 x.ev.kind, .int .i64 x.ev.arg, .int .i64 x.st.x, .int .i64 x.st.y, .int .i64 x.st.c, .slice A1 x.sends.length c1, .slice A2 x.outs.length c2] 137)).alloc (.cells #[.int .i64 0, .int .i64 0, .int .i64 0, .int .i64 0, .int .i64 0, .int .i64 0, .int .i64 0, .int .i64 0, .int .i64 0, .int .i64 0, .slice none 0 0, .slice none 0 0] 98)).alloc (.cells #[.int .i64 0, .int .i64 0, .int .i64 0, .int .i64 0, .int .i64 0, .int .i64 0, .int .i64 0, .int .i64 0, .int .i64 0, .int .i64 0, .slice none 0 0, .slice none 0 0] 98)).heap[w.heap.size + 1]? = some (.cells #[.int .i64 0, .int .i64 0, .int .i64 0, .int .i64 0, .int .i64 0, .int .i64 0, .int .i64 0, .int .i64 0, .int .i64 0, .int .i64 0, .slice none 0 0, .slice none 0 0] 98 (0, 0)) := (heap_old (by simp)).trans (heap_at (by simp))
  have Z2 : (((w.alloc (.cells #[.int .i64 x.ev.time, .int .i64 x.ev.to, .int .i64 x.ev.from_, .int .i64 x.ev.count, .int .i64 x.ev.n, .int .i64 x.ev.kind, .int .i64 x.ev.arg, .int .i64 x.st.x, .int .i64 x.st.y, .int .i64 x.st.c, .slice A1 x.sends.length c1, .slice A2 x.outs.length c2] 137)).alloc (.cells #[.int .i64 0, .int .i64 0, .int .i64 0, .int .i64 0, .int .i64 0, .int .i64 0, .int .i64 0, .int .i64 0, .int .i64 0, .int .i64 0, .slice none 0 0, .slice none 0 0] 98)).alloc (.cells #[.int .i64 0, .int .i64 0, .int .i64 0, .int .i64 0, .int .i64 0, .int .i64 0, .int .i64 0, .int .i64 0, .int .i64 0, .int .i64 0, .slice none 0 0, .slice none 0 0] 98)).heap[w.heap.size + 1 + 1]? = some (.cells #[.int .i64 0, .int .i64 0, .int .i64 0, .int .i64 0, .int .i64 0, .int .i64 0, .int .i64 0, .int .i64 0, .int .i64 0, .int .i64 0, .slice none 0 0, .slice none 0 0] 98 (0, 0)) := heap_at (by simp)
  generalize ((w.alloc (.cells #[.int .i64 x.ev.time, .int .i64 x.ev.to, .int .i64 x.ev.from_, .int .i64 x.ev.count, .int .i64 x.ev.n, .int .i64 x.ev.kind, .int .i64 x.ev.arg, .int .i64 x.st.x, .int .i64 x.st.y, .int .i64 x.st.c, .slice A1 x.sends.length c1, .slice A2 x.outs.length c2] 137)).alloc (.cells #[.int .i64 0, .int .i64 0, .int .i64 0, .int .i64 0, .int .i64 0, .int .i64 0, .int .i64 0, .int .i64 0, .int .i64 0, .int .i64 0, .slice none 0 0, .slice none 0 0] 98)).alloc (.cells #[.int .i64 0, .int .i64 0, .int .i64 0, .int .i64 0, .int .i64 0, .int .i64 0, .int .i64 0, .int .i64 0, .int .i64 0, .int .i64 0, .slice none 0 0, .slice none 0 0] 98) = W at *
  have hz := blk_lt Z2
  have HWs := hid hz
  refine (toEvent_c x.ev W).mono ?_
  rintro q w0 ⟨rfl, hb0⟩
  have hsz0 := hid hb0.size
  have HC0 := bthen HB0 hb0 (Below.size HB0)
  have Y0 := below_heap hb0 (blk_lt Z0) Z0
  have Y1 := below_heap hb0 (blk_lt Z1) Z1
  have Y2 := below_heap hb0 (blk_lt Z2) Z2
  clear Z0 Z1 Z2 hb0
  obtain ⟨c0_0, c0_1, c0_2, c0_3, c0_4, c0_5, c0_6, c0_7, c0_8, c0_9, c0_10, c0_11⟩ := cl12 Y0
  obtain ⟨a0_0, a0_1, a0_2, a0_3, a0_4, a0_5, a0_6, a0_7, a0_8, a0_9, a0_10, a0_11⟩ := cl12 Y1
  obtain ⟨b0_0, b0_1, b0_2, b0_3, b0_4, b0_5, b0_6, b0_7, b0_8, b0_9, b0_10, b0_11⟩ := cl12 Y2
  have f0_0 := blk_frozen Y1 0
  have g0_0 := blk_frozen Y2 0
  have f0_1 := blk_frozen Y1 1
  have g0_1 := blk_frozen Y2 1
  have f0_2 := blk_frozen Y1 2
  have g0_2 := blk_frozen Y2 2
  have f0_3 := blk_frozen Y1 3
  have g0_3 := blk_frozen Y2 3
  have f0_4 := blk_frozen Y1 4
  have g0_4 := blk_frozen Y2 4
  have f0_5 := blk_frozen Y1 5
  have g0_5 := blk_frozen Y2 5
  have f0_6 := blk_frozen Y1 6
  have g0_6 := blk_frozen Y2 6
  have f0_7 := blk_frozen Y1 7
  have g0_7 := blk_frozen Y2 7
  have f0_8 := blk_frozen Y1 8
  have g0_8 := blk_frozen Y2 8
  have f0_9 := blk_frozen Y1 9
  have g0_9 := blk_frozen Y2 9
  have f0_10 := blk_frozen Y1 10
  have g0_10 := blk_frozen Y2 10
  have f0_11 := blk_frozen Y1 11
  have g0_11 := blk_frozen Y2 11
  apply_assumption
  go_wp2_with fail
  have HP : Ch (fun k => k = w.heap.size + 1 + 1) w0 (((((((w0.setCell ⟨w.heap.size + 1 + 1, 0, none⟩ (.int .i64 x.ev.time)).setCell ⟨w.heap.size + 1 + 1, 1, none⟩ (.int .i64 x.ev.to)).setCell ⟨w.heap.size + 1 + 1, 2, none⟩ (.int .i64 x.ev.from_)).setCell ⟨w.heap.size + 1 + 1, 3, none⟩ (.int .i64 x.ev.count)).setCell ⟨w.heap.size + 1 + 1, 4, none⟩ (.int .i64 x.ev.n)).setCell ⟨w.heap.size + 1 + 1, 5, none⟩ (.int .i64 x.ev.kind)).setCell ⟨w.heap.size + 1 + 1, 6, none⟩ (.int .i64 x.ev.arg)) := Ch.setCell (p := ⟨w.heap.size + 1 + 1, 6, none⟩) (Ch.setCell (p := ⟨w.heap.size + 1 + 1, 5, none⟩) (Ch.setCell (p := ⟨w.heap.size + 1 + 1, 4, none⟩) (Ch.setCell (p := ⟨w.heap.size + 1 + 1, 3, none⟩) (Ch.setCell (p := ⟨w.heap.size + 1 + 1, 2, none⟩) (Ch.setCell (p := ⟨w.heap.size + 1 + 1, 1, none⟩) (Ch.setCell (p := ⟨w.heap.size + 1 + 1, 0, none⟩) (Ch.refl (fun k => k = w.heap.size + 1 + 1) _) (Or.inl rfl) _) (Or.inl rfl) _) (Or.inl rfl) _) (Or.inl rfl) _) (Or.inl rfl) _) (Or.inl rfl) _) (Or.inl rfl) _
  have X2 := (blk_set (blk_set (blk_set (blk_set (blk_set (blk_set (blk_set Y2 0 (.int .i64 x.ev.time)) 1 (.int .i64 x.ev.to)) 2 (.int .i64 x.ev.from_)) 3 (.int .i64 x.ev.count)) 4 (.int .i64 x.ev.n)) 5 (.int .i64 x.ev.kind)) 6 (.int .i64 x.ev.arg))
  simp only [List.setIfInBounds_toArray, List.set_cons_zero, List.set_cons_succ] at X2
  have X0 := HP.heap Y0 (by omega)
  have X1 := HP.heap Y1 (by omega)
  have HB1 := HC0.trans (HP.below (B := w.heap.size) (fun k hk => by omega) (Below.size HC0))
  have hvz1 := hid HP.size
  generalize (((((((w0.setCell ⟨w.heap.size + 1 + 1, 0, none⟩ (.int .i64 x.ev.time)).setCell ⟨w.heap.size + 1 + 1, 1, none⟩ (.int .i64 x.ev.to)).setCell ⟨w.heap.size + 1 + 1, 2, none⟩ (.int .i64 x.ev.from_)).setCell ⟨w.heap.size + 1 + 1, 3, none⟩ (.int .i64 x.ev.count)).setCell ⟨w.heap.size + 1 + 1, 4, none⟩ (.int .i64 x.ev.n)).setCell ⟨w.heap.size + 1 + 1, 5, none⟩ (.int .i64 x.ev.kind)).setCell ⟨w.heap.size + 1 + 1, 6, none⟩ (.int .i64 x.ev.arg)) = V1 at *
  have Z0 := X0; have Z1 := X1; have Z2 := X2; clear X0 X1 X2
  clear Y0 Y1 Y2 HP HC0 c0_0 a0_0 f0_0 b0_0 g0_0 c0_1 a0_1 f0_1 b0_1 g0_1 c0_2 a0_2 f0_2 b0_2 g0_2 c0_3 a0_3 f0_3 b0_3 g0_3 c0_4 a0_4 f0_4 b0_4 g0_4 c0_5 a0_5 f0_5 b0_5 g0_5 c0_6 a0_6 f0_6 b0_6 g0_6 c0_7 a0_7 f0_7 b0_7 g0_7 c0_8 a0_8 f0_8 b0_8 g0_8 c0_9 a0_9 f0_9 b0_9 g0_9 c0_10 a0_10 f0_10 b0_10 g0_10 c0_11 a0_11 f0_11 b0_11 g0_11
  refine (toState_c x.st V1).mono ?_
  rintro q w1 ⟨rfl, hb1⟩
  have hsz1 := hid hb1.size
  have HC1 := bthen HB1 hb1 (Below.size HB1)
  have Y0 := below_heap hb1 (blk_lt Z0) Z0
  have Y1 := below_heap hb1 (blk_lt Z1) Z1
  have Y2 := below_heap hb1 (blk_lt Z2) Z2
  clear Z0 Z1 Z2 hb1
  obtain ⟨c1_0, c1_1, c1_2, c1_3, c1_4, c1_5, c1_6, c1_7, c1_8, c1_9, c1_10, c1_11⟩ := cl12 Y0
  obtain ⟨a1_0, a1_1, a1_2, a1_3, a1_4, a1_5, a1_6, a1_7, a1_8, a1_9, a1_10, a1_11⟩ := cl12 Y1
  obtain ⟨b1_0, b1_1, b1_2, b1_3, b1_4, b1_5, b1_6, b1_7, b1_8, b1_9, b1_10, b1_11⟩ := cl12 Y2
  have f1_0 := blk_frozen Y1 0
  have g1_0 := blk_frozen Y2 0
  have f1_1 := blk_frozen Y1 1
  have g1_1 := blk_frozen Y2 1
  have f1_2 := blk_frozen Y1 2
  have g1_2 := blk_frozen Y2 2
  have f1_3 := blk_frozen Y1 3
  have g1_3 := blk_frozen Y2 3
  have f1_4 := blk_frozen Y1 4
  have g1_4 := blk_frozen Y2 4
  have f1_5 := blk_frozen Y1 5
  have g1_5 := blk_frozen Y2 5
  have f1_6 := blk_frozen Y1 6
  have g1_6 := blk_frozen Y2 6
  have f1_7 := blk_frozen Y1 7
  have g1_7 := blk_frozen Y2 7
  have f1_8 := blk_frozen Y1 8
  have g1_8 := blk_frozen Y2 8
  have f1_9 := blk_frozen Y1 9
  have g1_9 := blk_frozen Y2 9
  have f1_10 := blk_frozen Y1 10
  have g1_10 := blk_frozen Y2 10
  have f1_11 := blk_frozen Y1 11
  have g1_11 := blk_frozen Y2 11
  apply_assumption
  go_wp2_with fail
  have HP : Ch (fun k => k = w.heap.size + 1 + 1) w1 (((w1.setCell ⟨w.heap.size + 1 + 1, 7, none⟩ (.int .i64 x.st.x)).setCell ⟨w.heap.size + 1 + 1, 8, none⟩ (.int .i64 x.st.y)).setCell ⟨w.heap.size + 1 + 1, 9, none⟩ (.int .i64 x.st.c)) := Ch.setCell (p := ⟨w.heap.size + 1 + 1, 9, none⟩) (Ch.setCell (p := ⟨w.heap.size + 1 + 1, 8, none⟩) (Ch.setCell (p := ⟨w.heap.size + 1 + 1, 7, none⟩) (Ch.refl (fun k => k = w.heap.size + 1 + 1) _) (Or.inl rfl) _) (Or.inl rfl) _) (Or.inl rfl) _
  have X2 := (blk_set (blk_set (blk_set Y2 7 (.int .i64 x.st.x)) 8 (.int .i64 x.st.y)) 9 (.int .i64 x.st.c))
  simp only [List.setIfInBounds_toArray, List.set_cons_zero, List.set_cons_succ] at X2
  have X0 := HP.heap Y0 (by omega)
  have X1 := HP.heap Y1 (by omega)
  have HB2 := HC1.trans (HP.below (B := w.heap.size) (fun k hk => by omega) (Below.size HC1))
  have hvz2 := hid HP.size
  generalize (((w1.setCell ⟨w.heap.size + 1 + 1, 7, none⟩ (.int .i64 x.st.x)).setCell ⟨w.heap.size + 1 + 1, 8, none⟩ (.int .i64 x.st.y)).setCell ⟨w.heap.size + 1 + 1, 9, none⟩ (.int .i64 x.st.c)) = V2 at *
  have Z0 := X0; have Z1 := X1; have Z2 := X2; clear X0 X1 X2
  clear Y0 Y1 Y2 HP HC1 c1_0 a1_0 f1_0 b1_0 g1_0 c1_1 a1_1 f1_1 b1_1 g1_1 c1_2 a1_2 f1_2 b1_2 g1_2 c1_3 a1_3 f1_3 b1_3 g1_3 c1_4 a1_4 f1_4 b1_4 g1_4 c1_5 a1_5 f1_5 b1_5 g1_5 c1_6 a1_6 f1_6 b1_6 g1_6 c1_7 a1_7 f1_7 b1_7 g1_7 c1_8 a1_8 f1_8 b1_8 g1_8 c1_9 a1_9 f1_9 b1_9 g1_9 c1_10 a1_10 f1_10 b1_10 g1_10 c1_11 a1_11 f1_11 b1_11 g1_11
  refine (toEventS_c _ x.sends F V2 (g1.below HB2) n1).mono ?_
  rintro q w2 ⟨v2', rfl, hO2, hb2⟩
  obtain ⟨B2, b2, rfl, -⟩ := hO2.shape
  have hsz2 := hid hb2.size
  have HC2 := bthen HB2 hb2 (Below.size HB2)
  have Y0 := below_heap hb2 (blk_lt Z0) Z0
  have Y1 := below_heap hb2 (blk_lt Z1) Z1
  have Y2 := below_heap hb2 (blk_lt Z2) Z2
  replace hO2 := hO2.mono (F' := fun k => W.heap.size ≤ k) (fun k hk => by have hk2 : V2.heap.size ≤ k := hk; have hz3 := HWs.out; have h50 := hsz0.out; have h51 := hsz1.out; have h70 := hvz1.out; have h71 := hvz2.out; show W.heap.size ≤ k; omega)
  clear Z0 Z1 Z2 hb2
  obtain ⟨c2_0, c2_1, c2_2, c2_3, c2_4, c2_5, c2_6, c2_7, c2_8, c2_9, c2_10, c2_11⟩ := cl12 Y0
  obtain ⟨a2_0, a2_1, a2_2, a2_3, a2_4, a2_5, a2_6, a2_7, a2_8, a2_9, a2_10, a2_11⟩ := cl12 Y1
  obtain ⟨b2_0, b2_1, b2_2, b2_3, b2_4, b2_5, b2_6, b2_7, b2_8, b2_9, b2_10, b2_11⟩ := cl12 Y2
  have f2_0 := blk_frozen Y1 0
  have g2_0 := blk_frozen Y2 0
  have f2_1 := blk_frozen Y1 1
  have g2_1 := blk_frozen Y2 1
  have f2_2 := blk_frozen Y1 2
  have g2_2 := blk_frozen Y2 2
  have f2_3 := blk_frozen Y1 3
  have g2_3 := blk_frozen Y2 3
  have f2_4 := blk_frozen Y1 4
  have g2_4 := blk_frozen Y2 4
  have f2_5 := blk_frozen Y1 5
  have g2_5 := blk_frozen Y2 5
  have f2_6 := blk_frozen Y1 6
  have g2_6 := blk_frozen Y2 6
  have f2_7 := blk_frozen Y1 7
  have g2_7 := blk_frozen Y2 7
  have f2_8 := blk_frozen Y1 8
  have g2_8 := blk_frozen Y2 8
  have f2_9 := blk_frozen Y1 9
  have g2_9 := blk_frozen Y2 9
  have f2_10 := blk_frozen Y1 10
  have g2_10 := blk_frozen Y2 10
  have f2_11 := blk_frozen Y1 11
  have g2_11 := blk_frozen Y2 11
  apply_assumption
  go_wp2_with fail
  have HP : Ch (fun k => k = w.heap.size + 1 + 1) w2 (w2.setCell ⟨w.heap.size + 1 + 1, 10, none⟩ (.slice B2 x.sends.length b2)) := Ch.setCell (p := ⟨w.heap.size + 1 + 1, 10, none⟩) (Ch.refl (fun k => k = w.heap.size + 1 + 1) _) (Or.inl rfl) _
  have X2 := (blk_set Y2 10 (.slice B2 x.sends.length b2))
  simp only [List.setIfInBounds_toArray, List.set_cons_zero, List.set_cons_succ] at X2
  have X0 := HP.heap Y0 (by omega)
  have X1 := HP.heap Y1 (by omega)
  have HB3 := HC2.trans (HP.below (B := w.heap.size) (fun k hk => by omega) (Below.size HC2))
  have hvz3 := hid HP.size
  replace hO2 := hO2.ch HP (fun k hk e1 => by have hk2 : W.heap.size ≤ k := hk; omega)
  generalize (w2.setCell ⟨w.heap.size + 1 + 1, 10, none⟩ (.slice B2 x.sends.length b2)) = V3 at *
  have Z0 := X0; have Z1 := X1; have Z2 := X2; clear X0 X1 X2
  clear Y0 Y1 Y2 HP HC2 c2_0 a2_0 f2_0 b2_0 g2_0 c2_1 a2_1 f2_1 b2_1 g2_1 c2_2 a2_2 f2_2 b2_2 g2_2 c2_3 a2_3 f2_3 b2_3 g2_3 c2_4 a2_4 f2_4 b2_4 g2_4 c2_5 a2_5 f2_5 b2_5 g2_5 c2_6 a2_6 f2_6 b2_6 g2_6 c2_7 a2_7 f2_7 b2_7 g2_7 c2_8 a2_8 f2_8 b2_8 g2_8 c2_9 a2_9 f2_9 b2_9 g2_9 c2_10 a2_10 f2_10 b2_10 g2_10 c2_11 a2_11 f2_11 b2_11 g2_11
  refine (toOutS_c _ x.outs F V3 (g2.below HB3) n2).mono ?_
  rintro q w3 ⟨v3', rfl, hO3, hb3⟩
  obtain ⟨B3, b3, rfl, -⟩ := hO3.shape
  have hsz3 := hid hb3.size
  have HC3 := bthen HB3 hb3 (Below.size HB3)
  have Y0 := below_heap hb3 (blk_lt Z0) Z0
  have Y1 := below_heap hb3 (blk_lt Z1) Z1
  have Y2 := below_heap hb3 (blk_lt Z2) Z2
  replace hO3 := hO3.mono (F' := fun k => W.heap.size ≤ k) (fun k hk => by have hk2 : V3.heap.size ≤ k := hk; have hz3 := HWs.out; have h50 := hsz0.out; have h51 := hsz1.out; have h52 := hsz2.out; have h70 := hvz1.out; have h71 := hvz2.out; have h72 := hvz3.out; show W.heap.size ≤ k; omega)
  replace hO2 := hO2.below hb3
  clear Z0 Z1 Z2 hb3
  obtain ⟨c3_0, c3_1, c3_2, c3_3, c3_4, c3_5, c3_6, c3_7, c3_8, c3_9, c3_10, c3_11⟩ := cl12 Y0
  obtain ⟨a3_0, a3_1, a3_2, a3_3, a3_4, a3_5, a3_6, a3_7, a3_8, a3_9, a3_10, a3_11⟩ := cl12 Y1
  obtain ⟨b3_0, b3_1, b3_2, b3_3, b3_4, b3_5, b3_6, b3_7, b3_8, b3_9, b3_10, b3_11⟩ := cl12 Y2
  have f3_0 := blk_frozen Y1 0
  have g3_0 := blk_frozen Y2 0
  have f3_1 := blk_frozen Y1 1
  have g3_1 := blk_frozen Y2 1
  have f3_2 := blk_frozen Y1 2
  have g3_2 := blk_frozen Y2 2
  have f3_3 := blk_frozen Y1 3
  have g3_3 := blk_frozen Y2 3
  have f3_4 := blk_frozen Y1 4
  have g3_4 := blk_frozen Y2 4
  have f3_5 := blk_frozen Y1 5
  have g3_5 := blk_frozen Y2 5
  have f3_6 := blk_frozen Y1 6
  have g3_6 := blk_frozen Y2 6
  have f3_7 := blk_frozen Y1 7
  have g3_7 := blk_frozen Y2 7
  have f3_8 := blk_frozen Y1 8
  have g3_8 := blk_frozen Y2 8
  have f3_9 := blk_frozen Y1 9
  have g3_9 := blk_frozen Y2 9
  have f3_10 := blk_frozen Y1 10
  have g3_10 := blk_frozen Y2 10
  have f3_11 := blk_frozen Y1 11
  have g3_11 := blk_frozen Y2 11
  apply_assumption
  go_wp2_with fail
  have HP : Ch (fun k => k = w.heap.size + 1 + 1) w3 (w3.setCell ⟨w.heap.size + 1 + 1, 11, none⟩ (.slice B3 x.outs.length b3)) := Ch.setCell (p := ⟨w.heap.size + 1 + 1, 11, none⟩) (Ch.refl (fun k => k = w.heap.size + 1 + 1) _) (Or.inl rfl) _
  have X1 := HP.heap Y1 (by omega)
  have BW := (blk_set (blk_set (blk_set (blk_set (blk_set (blk_set (blk_set (blk_set (blk_set (blk_set (blk_set (blk_set X1 0 (.int .i64 x.ev.time)) 1 (.int .i64 x.ev.to)) 2 (.int .i64 x.ev.from_)) 3 (.int .i64 x.ev.count)) 4 (.int .i64 x.ev.n)) 5 (.int .i64 x.ev.kind)) 6 (.int .i64 x.ev.arg)) 7 (.int .i64 x.st.x)) 8 (.int .i64 x.st.y)) 9 (.int .i64 x.st.c)) 10 (.slice B2 x.sends.length b2)) 11 (.slice B3 x.outs.length b3))
  simp only [List.setIfInBounds_toArray, List.set_cons_zero, List.set_cons_succ] at BW
  have HQ : Ch (fun k => k = w.heap.size + 1 + 1 ∨ k = w.heap.size + 1) w3 (((((((((((((w3.setCell ⟨w.heap.size + 1 + 1, 11, none⟩ (.slice B3 x.outs.length b3)).setCell ⟨w.heap.size + 1, 0, none⟩ (.int .i64 x.ev.time)).setCell ⟨w.heap.size + 1, 1, none⟩ (.int .i64 x.ev.to)).setCell ⟨w.heap.size + 1, 2, none⟩ (.int .i64 x.ev.from_)).setCell ⟨w.heap.size + 1, 3, none⟩ (.int .i64 x.ev.count)).setCell ⟨w.heap.size + 1, 4, none⟩ (.int .i64 x.ev.n)).setCell ⟨w.heap.size + 1, 5, none⟩ (.int .i64 x.ev.kind)).setCell ⟨w.heap.size + 1, 6, none⟩ (.int .i64 x.ev.arg)).setCell ⟨w.heap.size + 1, 7, none⟩ (.int .i64 x.st.x)).setCell ⟨w.heap.size + 1, 8, none⟩ (.int .i64 x.st.y)).setCell ⟨w.heap.size + 1, 9, none⟩ (.int .i64 x.st.c)).setCell ⟨w.heap.size + 1, 10, none⟩ (.slice B2 x.sends.length b2)).setCell ⟨w.heap.size + 1, 11, none⟩ (.slice B3 x.outs.length b3)) := by
    repeat (first | (with_reducible exact Ch.refl _ _) | (refine Ch.setCell ?_ (Or.inl (Or.inr rfl)) _) | (refine Ch.setCell ?_ (Or.inl (Or.inl rfl)) _))
  replace hO2 := (hO2.ch HQ (fun k hk e1 => by have hk2 : W.heap.size ≤ k := hk; omega)).mono (F' := fun k => w.heap.size ≤ k) (fun k hk => by have hk2 : W.heap.size ≤ k := hk; show w.heap.size ≤ k; omega)
  replace hO3 := (hO3.ch HQ (fun k hk e1 => by have hk2 : W.heap.size ≤ k := hk; omega)).mono (F' := fun k => w.heap.size ≤ k) (fun k hk => by have hk2 : W.heap.size ≤ k := hk; show w.heap.size ≤ k; omega)
  have hb9 := HC3.trans (HQ.below (B := w.heap.size) (fun k hk => by omega) (Below.size HC3))
  generalize (((((((((((((w3.setCell ⟨w.heap.size + 1 + 1, 11, none⟩ (.slice B3 x.outs.length b3)).setCell ⟨w.heap.size + 1, 0, none⟩ (.int .i64 x.ev.time)).setCell ⟨w.heap.size + 1, 1, none⟩ (.int .i64 x.ev.to)).setCell ⟨w.heap.size + 1, 2, none⟩ (.int .i64 x.ev.from_)).setCell ⟨w.heap.size + 1, 3, none⟩ (.int .i64 x.ev.count)).setCell ⟨w.heap.size + 1, 4, none⟩ (.int .i64 x.ev.n)).setCell ⟨w.heap.size + 1, 5, none⟩ (.int .i64 x.ev.kind)).setCell ⟨w.heap.size + 1, 6, none⟩ (.int .i64 x.ev.arg)).setCell ⟨w.heap.size + 1, 7, none⟩ (.int .i64 x.st.x)).setCell ⟨w.heap.size + 1, 8, none⟩ (.int .i64 x.st.y)).setCell ⟨w.heap.size + 1, 9, none⟩ (.int .i64 x.st.c)).setCell ⟨w.heap.size + 1, 10, none⟩ (.slice B2 x.sends.length b2)).setCell ⟨w.heap.size + 1, 11, none⟩ (.slice B3 x.outs.length b3)) = W9 at *
  obtain ⟨s0, s1, s2, s3, s4, s5, s6, s7, s8, s9, s10, s11⟩ := cl12 BW
  refine bodyPost_ret (v := .agg #[.int .i64 x.ev.time, .int .i64 x.ev.to, .int .i64 x.ev.from_, .int .i64 x.ev.count, .int .i64 x.ev.n, .int .i64 x.ev.kind, .int .i64 x.ev.arg, .int .i64 x.st.x, .int .i64 x.st.y, .int .i64 x.st.c, .slice B2 x.sends.length b2, .slice B3 x.outs.length b3]) (by simp only [results, Tryz.results103]; go_simp) rfl ⟨_, _, rfl, hO2, hO3, hb9⟩
set_option maxHeartbeats 1000000 in
theorem toPastS_c (v : Value) (xs : List PastD) (F : Nat → Prop) (w : World) (h : Rd tPast w F v xs) (hn : xs.length ≤ 1048576) (hops : ∀ r ∈ xs, r.sends.length ≤ 1048576 ∧ r.outs.length ≤ 1048576) :
    Calls Tryz.prog 58 #[v] w fun q w' => ∃ v', q = .returned v' ∧ Ow oPast 98 w' (fun k => w.heap.size ≤ k) v' xs ∧ Below w.heap.size w w' := by
  obtain ⟨A, c, rfl, -, -, -⟩ := id h
  go_enter Tryz.func58, Tryz.ntmps58
  go_wp2_with (refine ow_full (d := oPast) (e := 98) rfl _ _ _ rfl Tryz.underlying50 (.agg #[.int .i64 0, .int .i64 0, .int .i64 0, .int .i64 0, .int .i64 0, .int .i64 0, .int .i64 0, .int .i64 0, .int .i64 0, .int .i64 0, .slice none 0 0, .slice none 0 0]) 128 (by kernel_rfl) (by decide) rfl (by decide) _ _ xs.length rfl rfl (by omega) (by omega) ?_; intro w1 hO1 hb1)
  obtain ⟨g, hg⟩ : ∃ g, g = w.heap.size := ⟨_, rfl⟩
  rw [← hg] at hO1
  simp only [← hg]
  have HG := hid hg
  clear hg
  go_loopw [4] (fun i wr => ∃ k : Nat, i = .int .i64 k ∧ k ≤ xs.length ∧ Ow (opt oPast) 98 wr (fun k => g ≤ k) (.slice (some ⟨g, 0, none⟩) xs.length xs.length) ((xs.take k).map some ++ List.replicate (xs.length - k) none) ∧ Below g w wr) (fun i _ => xs.length - (intOf i).toNat)
  case atStart => exact ⟨0, rfl, Nat.zero_le _, by simpa using hO1, by rw [HG.out]; exact hb1⟩
  case round =>
    clear hO1 hb1
    obtain ⟨k, rfl, hk, hO, hb⟩ := hrel
    have hb' : Below w.heap.size w wr := by rw [← HG.out]; exact hb
    have hgl := hO.block_lt rfl
    by_cases hlt : k < xs.length
    · have hr := h.below hb'
      obtain ⟨b0, o0, A1, c1, A2, c2, rfl, hb0, ⟨z0, z1, z2, z3, z4, z5, z6⟩, ⟨z7, z8, z9⟩, z10, z11, hr1, hr2⟩ := past_at hr k hlt
      have p0 : (k : Int) < (xs.length : Int) := by omega
      have p1 : (0 : Int) ≤ (k : Int) := by omega
      clear hb'
      go_wp2_with fail
      refine (toPast_c xs[k] _ _ _ wr hr1 hr2 (hops _ (List.getElem_mem _)).1 (hops _ (List.getElem_mem _)).2).mono ?_
      rintro q w2 ⟨v1', v2', rfl, hOs, hOo, hb2⟩
      obtain ⟨B1, b1, rfl, -⟩ := hOs.shape
      obtain ⟨B2, b2, rfl, -⟩ := hOo.shape
      have hnew : (opt oPast).rel w2 (fun q => wr.heap.size ≤ q) (some xs[k]) [.int .i64 xs[k].ev.time, .int .i64 xs[k].ev.to, .int .i64 xs[k].ev.from_, .int .i64 xs[k].ev.count, .int .i64 xs[k].ev.n, .int .i64 xs[k].ev.kind, .int .i64 xs[k].ev.arg, .int .i64 xs[k].st.x, .int .i64 xs[k].st.y, .int .i64 xs[k].st.c, .slice B1 xs[k].sends.length b1, .slice B2 xs[k].outs.length b2] := ⟨_, _, rfl, hOs, hOo⟩
      have hB2 := hb.trans (hb2.mono (Nat.le_of_lt hgl))
      have hO2 := hO.bound.below hb2
      have hkl : k < ((xs.take k).map some ++ List.replicate (xs.length - k) (none : Option PastD)).length := by rw [fill_len xs k hk]; exact hlt
      clear hO
      apply_assumption
      go_wp2_with (refine ow_store_any (d := opt oPast) rfl _ _ _ rfl hO2 (g := g) rfl k hkl (some xs[k]) [.int .i64 xs[k].ev.time, .int .i64 xs[k].ev.to, .int .i64 xs[k].ev.from_, .int .i64 xs[k].ev.count, .int .i64 xs[k].ev.n, .int .i64 xs[k].ev.kind, .int .i64 xs[k].ev.arg, .int .i64 xs[k].st.x, .int .i64 xs[k].st.y, .int .i64 xs[k].st.c, .slice B1 xs[k].sends.length b1, .slice B2 xs[k].outs.length b2] (fun q => wr.heap.size ≤ q) (fun q => g ≤ q) (by first | rfl | exact hnew) (by first | exact fun _ hf => hf.elim | exact fun q hq hq' => by have h3 : wr.heap.size ≤ q := hq; omega) (fun _ hq => hq.1) (by first | exact fun _ hf => hf.elim | exact fun q hq => by have h3 : wr.heap.size ≤ q := hq; omega) (by first | rfl | simp [opt, tOp, tSt, tEv, tOut, oRule, oApp, oPast, flat]) (by first | rfl | simp [OpD.cells, StD.cells, EvD.cells, OutD.cells]) (by kernel_rfl) ?_; intro w3 hO3 hC3)
      rw [fill_set xs k hlt] at hO3
      have hB3 := hB2.trans (hC3.below (B := g) (fun q hq => by omega) (by have := hb2.size; omega))
      go_roundw
      case rel => exact ⟨k + 1, by go_num, by omega, hO3, hB3⟩
      case measure => simp [intOf]; omega
    · have hkl : k = xs.length := by omega
      subst hkl
      have hO4 : Ow oPast 98 wr (fun k => w.heap.size ≤ k) (.slice (some ⟨g, 0, none⟩) xs.length xs.length) xs := by
        have := hO
        rw [List.take_length, Nat.sub_self, List.replicate_zero, List.append_nil] at this
        rw [← HG.out]
        exact this.filled
      go_wp2_with fail
      go_ret
      exact ⟨_, rfl, hO4, hb'⟩
set_option maxHeartbeats 2000000 in
theorem toLane_c (l : LaneD) (v : Value) (F : Nat → Prop) (w : World) (h : Rd tPast w F v l.done) (hn : l.done.length ≤ 1048576) (hops : ∀ r ∈ l.done, r.sends.length ≤ 1048576 ∧ r.outs.length ≤ 1048576) :
    Calls Tryz.prog 20 #[.agg #[.int .i64 l.proc, .int .i64 l.base.x, .int .i64 l.base.y, .int .i64 l.base.c, v]] w fun q w' => ∃ u, q = .returned (.agg #[.int .i64 l.proc, .int .i64 l.base.x, .int .i64 l.base.y, .int .i64 l.base.c, u]) ∧ Ow oPast 98 w' (fun k => w.heap.size ≤ k) u l.done ∧ Below w.heap.size w w' := by
  obtain ⟨A1, c1, rfl, -⟩ := h.shape
  go_enter Tryz.func20, Tryz.ntmps20
  go_wp2_with fail
  have HB0 : Below w.heap.size w (((w.alloc (.cells #[.int .i64 l.proc, .int .i64 l.base.x, .int .i64 l.base.y, .int .i64 l.base.c, .slice A1 l.done.length c1] 44)).alloc (.cells #[.int .i64 0, .int .i64 0, .int .i64 0, .int .i64 0, .slice none 0 0] 52)).alloc (.cells #[.int .i64 l.proc, .int .i64 0, .int .i64 0, .int .i64 0, .slice none 0 0] 52)) := balloc (balloc (balloc (Below.refl _ _) _) _) _
  have Z0 : (((w.alloc (.cells #[.int .i64 l.proc, .int .i64 l.base.x, .int .i64 l.base.y, .int .i64 l.base.c, .slice A1 l.done.length c1] 44)).alloc (.cells #[.int .i64 0, .int .i64 0, .int .i64 0, .int .i64 0, .slice none 0 0] 52)).alloc (.cells #[.int .i64 l.proc, .int .i64 0, .int .i64 0, .int .i64 0, .slice none 0 0] 52)).heap[w.heap.size]? = some (.cells #[.int .i64 l.proc, .int .i64 l.base.x, .int .i64 l.base.y, .int .i64 l.base.c, .slice A1 l.done.length c1] 44 (0, 0)) := (heap_old (by simp only [World.size_alloc]; omega)).trans ((heap_old (by simp)).trans (heap_at rfl))
  have Z1 : (((w.alloc (.cells #[.int .i64 l.proc, .int .i64 l.base.x, .int .i64 l.base.y, .int .i64 l.base.c, .slice A1 l.done.length c1] 44)).alloc (.cells #[.int .i64 0, .int .i64 0, .int .i64 0, .int .i64 0, .slice none 0 0] 52)).alloc (.cells #[.int .i64 l.proc, .int .i64 0, .int .i64 0, .int .i64 0, .slice none 0 0] 52)).heap[w.heap.size + 1]? = some (.cells #[.int .i64 0, .int .i64 0, .int .i64 0, .int .i64 0, .slice none 0 0] 52 (0, 0)) := (heap_old (by simp)).trans (heap_at (by simp))
  have Z2 : (((w.alloc (.cells #[.int .i64 l.proc, .int .i64 l.base.x, .int .i64 l.base.y, .int .i64 l.base.c, .slice A1 l.done.length c1] 44)).alloc (.cells #[.int .i64 0, .int .i64 0, .int .i64 0, .int .i64 0, .slice none 0 0] 52)).alloc (.cells #[.int .i64 l.proc, .int .i64 0, .int .i64 0, .int .i64 0, .slice none 0 0] 52)).heap[w.heap.size + 1 + 1]? = some (.cells #[.int .i64 l.proc, .int .i64 0, .int .i64 0, .int .i64 0, .slice none 0 0] 52 (0, 0)) := heap_at (by simp)
  generalize ((w.alloc (.cells #[.int .i64 l.proc, .int .i64 l.base.x, .int .i64 l.base.y, .int .i64 l.base.c, .slice A1 l.done.length c1] 44)).alloc (.cells #[.int .i64 0, .int .i64 0, .int .i64 0, .int .i64 0, .slice none 0 0] 52)).alloc (.cells #[.int .i64 l.proc, .int .i64 0, .int .i64 0, .int .i64 0, .slice none 0 0] 52) = W at *
  have hz := blk_lt Z2
  have HWs := hid hz
  refine (toState_c l.base W).mono ?_
  rintro q w0 ⟨rfl, hb0⟩
  have hsz0 := hid hb0.size
  have HC0 := bthen HB0 hb0 (Below.size HB0)
  have Y0 := below_heap hb0 (blk_lt Z0) Z0
  have Y1 := below_heap hb0 (blk_lt Z1) Z1
  have Y2 := below_heap hb0 (blk_lt Z2) Z2
  clear Z0 Z1 Z2 hb0
  obtain ⟨c0_0, c0_1, c0_2, c0_3, c0_4⟩ := cl5 Y0
  obtain ⟨a0_0, a0_1, a0_2, a0_3, a0_4⟩ := cl5 Y1
  obtain ⟨b0_0, b0_1, b0_2, b0_3, b0_4⟩ := cl5 Y2
  have f0_0 := blk_frozen Y1 0
  have g0_0 := blk_frozen Y2 0
  have f0_1 := blk_frozen Y1 1
  have g0_1 := blk_frozen Y2 1
  have f0_2 := blk_frozen Y1 2
  have g0_2 := blk_frozen Y2 2
  have f0_3 := blk_frozen Y1 3
  have g0_3 := blk_frozen Y2 3
  have f0_4 := blk_frozen Y1 4
  have g0_4 := blk_frozen Y2 4
  apply_assumption
  go_wp2_with fail
  have HP : Ch (fun k => k = w.heap.size + 1 + 1) w0 (((w0.setCell ⟨w.heap.size + 1 + 1, 1, none⟩ (.int .i64 l.base.x)).setCell ⟨w.heap.size + 1 + 1, 2, none⟩ (.int .i64 l.base.y)).setCell ⟨w.heap.size + 1 + 1, 3, none⟩ (.int .i64 l.base.c)) := Ch.setCell (p := ⟨w.heap.size + 1 + 1, 3, none⟩) (Ch.setCell (p := ⟨w.heap.size + 1 + 1, 2, none⟩) (Ch.setCell (p := ⟨w.heap.size + 1 + 1, 1, none⟩) (Ch.refl (fun k => k = w.heap.size + 1 + 1) _) (Or.inl rfl) _) (Or.inl rfl) _) (Or.inl rfl) _
  have X2 := (blk_set (blk_set (blk_set Y2 1 (.int .i64 l.base.x)) 2 (.int .i64 l.base.y)) 3 (.int .i64 l.base.c))
  simp only [List.setIfInBounds_toArray, List.set_cons_zero, List.set_cons_succ] at X2
  have X0 := HP.heap Y0 (by omega)
  have X1 := HP.heap Y1 (by omega)
  have HB1 := HC0.trans (HP.below (B := w.heap.size) (fun k hk => by omega) (Below.size HC0))
  have hvz1 := hid HP.size
  generalize (((w0.setCell ⟨w.heap.size + 1 + 1, 1, none⟩ (.int .i64 l.base.x)).setCell ⟨w.heap.size + 1 + 1, 2, none⟩ (.int .i64 l.base.y)).setCell ⟨w.heap.size + 1 + 1, 3, none⟩ (.int .i64 l.base.c)) = V1 at *
  have Z0 := X0; have Z1 := X1; have Z2 := X2; clear X0 X1 X2
  clear Y0 Y1 Y2 HP HC0 c0_0 a0_0 f0_0 b0_0 g0_0 c0_1 a0_1 f0_1 b0_1 g0_1 c0_2 a0_2 f0_2 b0_2 g0_2 c0_3 a0_3 f0_3 b0_3 g0_3 c0_4 a0_4 f0_4 b0_4 g0_4
  refine (toPastS_c _ l.done F V1 (h.below HB1) hn hops).mono ?_
  rintro q w1 ⟨v2', rfl, hO2, hb1⟩
  obtain ⟨B2, b2, rfl, -⟩ := hO2.shape
  have hsz1 := hid hb1.size
  have HC1 := bthen HB1 hb1 (Below.size HB1)
  have Y0 := below_heap hb1 (blk_lt Z0) Z0
  have Y1 := below_heap hb1 (blk_lt Z1) Z1
  have Y2 := below_heap hb1 (blk_lt Z2) Z2
  replace hO2 := hO2.mono (F' := fun k => W.heap.size ≤ k) (fun k hk => by have hk2 : V1.heap.size ≤ k := hk; have hz3 := HWs.out; have h50 := hsz0.out; have h70 := hvz1.out; show W.heap.size ≤ k; omega)
  clear Z0 Z1 Z2 hb1
  obtain ⟨c1_0, c1_1, c1_2, c1_3, c1_4⟩ := cl5 Y0
  obtain ⟨a1_0, a1_1, a1_2, a1_3, a1_4⟩ := cl5 Y1
  obtain ⟨b1_0, b1_1, b1_2, b1_3, b1_4⟩ := cl5 Y2
  have f1_0 := blk_frozen Y1 0
  have g1_0 := blk_frozen Y2 0
  have f1_1 := blk_frozen Y1 1
  have g1_1 := blk_frozen Y2 1
  have f1_2 := blk_frozen Y1 2
  have g1_2 := blk_frozen Y2 2
  have f1_3 := blk_frozen Y1 3
  have g1_3 := blk_frozen Y2 3
  have f1_4 := blk_frozen Y1 4
  have g1_4 := blk_frozen Y2 4
  apply_assumption
  go_wp2_with fail
  have HP : Ch (fun k => k = w.heap.size + 1 + 1) w1 (w1.setCell ⟨w.heap.size + 1 + 1, 4, none⟩ (.slice B2 l.done.length b2)) := Ch.setCell (p := ⟨w.heap.size + 1 + 1, 4, none⟩) (Ch.refl (fun k => k = w.heap.size + 1 + 1) _) (Or.inl rfl) _
  have X1 := HP.heap Y1 (by omega)
  have BW := (blk_set (blk_set (blk_set (blk_set (blk_set X1 0 (.int .i64 l.proc)) 1 (.int .i64 l.base.x)) 2 (.int .i64 l.base.y)) 3 (.int .i64 l.base.c)) 4 (.slice B2 l.done.length b2))
  simp only [List.setIfInBounds_toArray, List.set_cons_zero, List.set_cons_succ] at BW
  have HQ : Ch (fun k => k = w.heap.size + 1 + 1 ∨ k = w.heap.size + 1) w1 ((((((w1.setCell ⟨w.heap.size + 1 + 1, 4, none⟩ (.slice B2 l.done.length b2)).setCell ⟨w.heap.size + 1, 0, none⟩ (.int .i64 l.proc)).setCell ⟨w.heap.size + 1, 1, none⟩ (.int .i64 l.base.x)).setCell ⟨w.heap.size + 1, 2, none⟩ (.int .i64 l.base.y)).setCell ⟨w.heap.size + 1, 3, none⟩ (.int .i64 l.base.c)).setCell ⟨w.heap.size + 1, 4, none⟩ (.slice B2 l.done.length b2)) := by
    repeat (first | (with_reducible exact Ch.refl _ _) | (refine Ch.setCell ?_ (Or.inl (Or.inr rfl)) _) | (refine Ch.setCell ?_ (Or.inl (Or.inl rfl)) _))
  replace hO2 := (hO2.ch HQ (fun k hk e1 => by have hk2 : W.heap.size ≤ k := hk; omega)).mono (F' := fun k => w.heap.size ≤ k) (fun k hk => by have hk2 : W.heap.size ≤ k := hk; show w.heap.size ≤ k; omega)
  have hb9 := HC1.trans (HQ.below (B := w.heap.size) (fun k hk => by omega) (Below.size HC1))
  generalize ((((((w1.setCell ⟨w.heap.size + 1 + 1, 4, none⟩ (.slice B2 l.done.length b2)).setCell ⟨w.heap.size + 1, 0, none⟩ (.int .i64 l.proc)).setCell ⟨w.heap.size + 1, 1, none⟩ (.int .i64 l.base.x)).setCell ⟨w.heap.size + 1, 2, none⟩ (.int .i64 l.base.y)).setCell ⟨w.heap.size + 1, 3, none⟩ (.int .i64 l.base.c)).setCell ⟨w.heap.size + 1, 4, none⟩ (.slice B2 l.done.length b2)) = W9 at *
  obtain ⟨s0, s1, s2, s3, s4⟩ := cl5 BW
  refine bodyPost_ret (v := .agg #[.int .i64 l.proc, .int .i64 l.base.x, .int .i64 l.base.y, .int .i64 l.base.c, .slice B2 l.done.length b2]) (by simp only [results, Tryz.results20]; go_simp) rfl ⟨_, rfl, hO2, hb9⟩
end Go.Proofs.YtbcemldiahghcaaGreat
