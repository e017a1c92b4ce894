/- A drawn machine, some spoilt. -/
import Derived.Test.YtmnccekljombmaaDraw7J
import Derived.Test.YtmnccekljombmaaJ27
import Derived.Test.YtmnccekljombmaaJ21
import Derived.Test.YtmnccekljombmaaJ22
set_option linter.unusedVariables false
set_option linter.unusedSimpArgs false
set_option maxRecDepth 100000
namespace Go.Proofs.Ytmnccekljombmaa
open Go.RowKit
def DrawnSim (g : Nat) (w : World) (q : Ending) (w' : World) : Prop :=
  ∃ us uq uo s, q = .returned (.agg #[us, uq, uo]) ∧ SimRd w' (fun k => w.heap.size ≤ k) us uq uo s ∧ Ch (fun k => k = g) w w'
theorem simRun_len (apps : List AppD) (u : Int) : (simRun apps u).states.length ≤ 1000 ∧ (simRun apps u).queue.length ≤ 1000 ∧ (simRun apps u).outs.length ≤ 1000 := by
  cases qa : appsOk apps with
  | true => exact simOk_len (simRun_ok qa u).1.ok
  | false => rw [simRun_bad qa]; exact ⟨by decide, by decide, by decide⟩
/-- The rows beside one that has grown. -/
theorem Ow.beside {α β : Type} {d : Ty α} {e e' : TypeId} {cells : β → List Value} {sz : Nat} {hl : ∀ x, (cells x).length = sz} {ho : ∀ x, ∀ u ∈ cells x, u.oneCell' = true} {w w8 : World} {F F' : Nat → Prop} {v v' : Value} {xs : List α} {ys : List β}
    (h : Ow d e w F v xs) (h' : Ow (flat cells sz hl ho) e' w F' v' ys) (hne : e ≠ e') (hC : Ch (fun k => v.ownBlock = some k) w w8) : Ow (flat cells sz hl ho) e' w8 F' v' ys :=
  (h'.tight.ch hC (fun k hk e1 => h.apart h' hne k e1 hk)).mono (fun k hk => h'.inF hk)
theorem drop1s_run (A : Option Addr) (n c : Nat) (hn : 1 ≤ n) (hc : n ≤ c) (w : World) : (Instr.sliceAt 62 (.slice A n c) (some (.int .i64 1)) none none).run Try.prog w = .ok (.slice (if c = 1 then A else A.map fun x => x.add (1 * 3)) (n - 1) (c - 1)) w := by
  have hu := Try.underlying62
  have hs : ∀ w, (sizeOf 27).run Try.prog w = .ok 3 w := fun w => by kernel_rfl
  have h1 : (1 : Int) ≤ (n : Int) := by omega
  simp [Instr.sliceAt, Instr.slice, Instr.sliceBounds, Instr.sliceBound, run_underlying hu, asIntOf, hs, h1]
/-- The first state's X is laid anew. -/
theorem Ow.stX {w : World} {F : Nat → Prop} {v : Value} {xs : List StD} (h : Ow tSt 27 w F v xs) (hp : 0 < xs.length) :
    ∃ gS c, v = .slice (some ⟨gS, 0, none⟩) xs.length c ∧ F gS ∧ gS < w.heap.size ∧ w.frozen? ⟨gS, 0, none⟩ = false ∧ w.cell? ⟨gS, 0, none⟩ = some (.int .i64 xs[0].x) ∧ ∀ u, Rd tSt (w.setCell ⟨gS, 0, none⟩ (.int .i64 u)) F v (xs.set 0 ⟨u, xs[0].y, xs[0].c⟩) := by
  obtain ⟨gS, c, cur, rfl, hF, hlt, hblk⟩ := h.head hp
  obtain ⟨Fj, csj, hrel, hFj, hc, hnext⟩ := Ow.updRd (d := tSt) (d' := tSt) rfl (fun _ _ _ _ h => h) h (g := gS) rfl 0 hp
  obtain rfl : csj = _ := hrel
  have hz : tSt.sz = 3 := rfl
  rw [hz] at hc hnext
  have c0 := hc 0 _ rfl
  have c1 := hc 1 _ rfl
  have c2 := hc 2 _ rfl
  simp only [Nat.zero_mul, Nat.zero_add, Nat.add_zero] at c0 c1 c2
  refine ⟨gS, c, rfl, hF, hlt, blk_frozen hblk 0, c0, fun u => ?_⟩
  have hset := blk_set hblk 0 (.int .i64 u)
  have hcell : ∀ o, o ≠ 0 → (w.setCell ⟨gS, 0, none⟩ (.int .i64 u)).cell? ⟨gS, o, none⟩ = w.cell? ⟨gS, o, none⟩ := fun o ho => by
    rw [blk_cell hset o, blk_cell hblk o, Array.getElem?_setIfInBounds_ne (Ne.symm ho)]
  have hne0 : (w.setCell ⟨gS, 0, none⟩ (.int .i64 u)).cell? ⟨gS, 0, none⟩ = some (.int .i64 u) := by
    rw [blk_cell hblk 0] at c0
    have := (Array.getElem?_eq_some_iff.1 c0).1
    rw [blk_cell hset 0, Array.getElem?_setIfInBounds_self_of_lt this]
  refine hnext _ _ [.int .i64 u, .int .i64 xs[0].y, .int .i64 xs[0].c] F (by simpa using hlt) (fun o ho => hcell o (by omega)) (fun i u' hi => ?_) (fun k hk hkl hkg _ => Below.heap_setCell _ _ _ k (fun e1 => hkg e1)) rfl (fun _ hk => hk)
  match i with
  | 0 => simp at hi; subst hi; exact hne0
  | 1 => simp at hi; subst hi; exact (hcell _ (by omega)).trans c1
  | 2 => simp at hi; subst hi; exact (hcell _ (by omega)).trans c2
  | i + 3 => simp at hi
set_option maxHeartbeats 2000000 in
theorem l72Sim_c (g B : Nat) (m : Int) (va : Value) (apps : List AppD) (F : Nat → Prop) (w : World) (h : Rdr w g B m) (hm : m ≤ 800000) (hA : Rd tApp w F va apps) (hF : ∀ k, F k → k ≠ g) :
    Calls Try.prog 77 #[.pointer (some ⟨g, 0, none⟩), va] w (DrawnSim g w) := by
  have hgl := h.lt
  have hgw : ¬ w.heap.size = g := by omega
  obtain ⟨A0, c0, rfl, m0⟩ := hA.shape
  go_enter Try.func77, Try.ntmps77
  go_wp2_with fail
  have HC := Ch.alloc (Ch.refl (fun k => k = g) w) (.cells #[.slice none 0 0, .slice none 0 0, .slice none 0 0] 64)
  have G0 : (w.alloc (.cells #[.slice none 0 0, .slice none 0 0, .slice none 0 0] 64)).heap[w.heap.size]? = some (.cells #[.slice none 0 0, .slice none 0 0, .slice none 0 0] 64 (0, 0)) := heap_at rfl
  have hR := h.ch (S := fun _ => False) ((Ch.refl _ w).alloc (.cells #[.slice none 0 0, .slice none 0 0, .slice none 0 0] 64)) (fun _ _ hf => hf)
  obtain ⟨g0, hg0⟩ : ∃ g, g = w.heap.size := ⟨_, rfl⟩
  rw [← hg0] at G0 hgw
  simp only [← hg0]
  generalize w.alloc (.cells #[.slice none 0 0, .slice none 0 0, .slice none 0 0] 64) = W0 at *
  have HG0 := hid hg0
  have hgl0 : g < g0 := by omega
  clear hg0
  refine (pick_c g B _ 42 W0 hR (by omega) (by omega)).mono ?_
  rintro e w1 ⟨x, rfl, hx, hR1, hC1⟩
  have HC1 := HC.trans hC1
  have G1 := hC1.heap G0 (fun e1 => hgw e1)
  have hA1 := hA.ch HC1 (fun k hk => hF k hk)
  clear HC G0 hR hC1 hA h
  apply_assumption
  go_wp2_with fail
  refine (SimRunS_c _ apps x F w1 hA1).mono ?_
  rintro e w2 ⟨us, uq, uo, rfl, n2, hb2⟩
  obtain ⟨l1, l2, l3⟩ := simRun_len apps x
  generalize simRun apps x = s at *
  obtain ⟨V1, b1, rfl, z1⟩ := n2.st.shape
  obtain ⟨V2, b2, rfl, z2⟩ := n2.qu.shape
  obtain ⟨V3, b3, rfl, z3⟩ := n2.ou.shape
  have hR2 := hR1.ch (S := fun _ => False) (Ch.of_below hb2) (fun _ _ hf => hf)
  have HC2 := HC1.trans (Ch.of_below hb2)
  have hg1 := blk_lt G1
  have G2 := below_heap hb2 hg1 G1
  have hg2 := blk_lt G2
  have hs1 := HC1.size
  have n2' : SimOw w2 (fun k => g0 < k ∧ k < w2.heap.size) (.slice V1 s.states.length b1) (.slice V2 s.queue.length b2) (.slice V3 s.outs.length b3) s :=
    SimOw.mono ⟨n2.st.bound, n2.qu.bound, n2.ou.bound⟩ (fun k hk => ⟨Nat.lt_of_lt_of_le hg1 hk.1, hk.2⟩)
  clear HC1 G1 hA1 hR1 hb2 n2
  apply_assumption
  go_wp2_with fail
  have B5 : (w2.alloc (.cells #[.slice V1 s.states.length b1, .slice V2 s.queue.length b2, .slice V3 s.outs.length b3] 64)).heap[w2.heap.size]? = some (.cells #[.slice V1 s.states.length b1, .slice V2 s.queue.length b2, .slice V3 s.outs.length b3] 64 (0, 0)) := heap_at rfl
  have HC3 := HC2.alloc (.cells #[.slice V1 s.states.length b1, .slice V2 s.queue.length b2, .slice V3 s.outs.length b3] 64)
  have G3 := (heap_old (o := .cells #[.slice V1 s.states.length b1, .slice V2 s.queue.length b2, .slice V3 s.outs.length b3] 64) hg2).trans G2
  have hR3 := hR2.ch (S := fun _ => False) ((Ch.refl _ w2).alloc (.cells #[.slice V1 s.states.length b1, .slice V2 s.queue.length b2, .slice V3 s.outs.length b3] 64)) (fun _ _ hf => hf)
  have n3 := n2'.below (balloc (Below.refl _ _) (.cells #[.slice V1 s.states.length b1, .slice V2 s.queue.length b2, .slice V3 s.outs.length b3] 64))
  have hgs := HC2.size
  obtain ⟨g5, hg5⟩ : ∃ g, g = w2.heap.size := ⟨_, rfl⟩
  rw [← hg5] at B5 n3 hg2 hgs
  simp only [← hg5]
  have hgl := hgl0
  have hz0 := HG0.out
  have hgg : ¬ g5 = g := by omega
  clear hz0
  generalize w2.alloc (.cells #[.slice V1 s.states.length b1, .slice V2 s.queue.length b2, .slice V3 s.outs.length b3] 64) = W3 at *
  refine (pick_c g B _ 14 W3 hR3 (by omega) (by omega)).mono ?_
  rintro e W ⟨d, rfl, hd, hR, hC4⟩
  have HC := HC3.trans hC4
  have G := hC4.heap G3 (fun e1 => hgw e1)
  have B := hC4.heap B5 (fun e1 => hgg e1)
  have n := n3.ch hC4 (fun k hk e1 => by omega)
  have hg0W := blk_lt G
  have hg5W := blk_lt B
  have h05 : ¬ g0 = g5 := by omega
  have h50 : ¬ g5 = g0 := by omega
  have hg0g5 : g0 < g5 := by omega
  have hgW := hgl0
  clear hgl0
  clear HC3 G3 B5 n3 hC4 hR3 HC2 G2 hR2 n2' hg1 hs1 hg2 hgs hg5 hgw hgl z1 z2 z3 m0
  apply_assumption
  rcases (show d = 0 ∨ d = 1 ∨ d = 2 ∨ d = 3 ∨ 4 ≤ d by omega) with rfl | rfl | rfl | rfl | hd4
  · have c0 : W.cell? ⟨g5, 0, none⟩ = some (.slice V1 s.states.length b1) := blk_cell B 0
    have c1 : W.cell? ⟨g5, 1, none⟩ = some (.slice V2 s.queue.length b2) := blk_cell B 1
    have c2 : W.cell? ⟨g5, 2, none⟩ = some (.slice V3 s.outs.length b3) := blk_cell B 2
    have hno : ¬ (Value.slice V2 s.queue.length b2).ownBlock = some g5 := n.qu.type_ne B (by decide)
    go_upto_region 4 with fail
    refine region_plan (fun w' => Ch (fun k => k = g ∨ (Value.slice V2 s.queue.length b2).ownBlock = some k) W w') [(0, true), (1, true), (2, true), (3, false), (4, false), (5, false), (6, true), (7, false)] (by kernel_rfl) (by kernel_rfl) (fun _ _ d _ _ h => by cases d <;> exact h) ?_
    have HS := (Ch.refl (fun k => k = g ∨ (Value.slice V2 s.queue.length b2).ownBlock = some k) W).drew
    iterate 3 (refine seq_take (v := ?_) (by rfl) HS (by rfl) ?_ ?_; rotate_left; (focus (intro wS hS; obtain ⟨kc, kf⟩ := hS.cells; go_simp; (try (with_reducible rfl)); done)); (intro K hK; go_simp; refine hK _ ?_; clear hK K))
    refine seq_do (by rfl) (by rfl) (fun K hK => ?_)
    go_simp
    refine (l72Event_c g _ _ W.drew (hR.ch (S := fun _ => False) (Ch.refl _ W).drew (fun _ _ hf => hf)) (by omega)).mono ?_
    rintro e w5 ⟨ev, rfl, hR5, hC5⟩
    have HS := HS.trans (hC5.mono (fun k hk => Or.inl hk))
    have hC5' := (Ch.refl (fun k => k = g) W).drew.trans hC5
    have n5 := n.ch hC5' (fun k hk e1 => by omega)
    have HC5 := HC.trans hC5'
    have G5 := hC5'.heap G (fun e1 => by omega)
    have B5 := hC5'.heap B (fun e1 => by omega)
    have hs5 := hC5'.size
    unfold evAgg
    refine hK _ _ (Or.inr HS) ?_; clear hK K
    refine seq_do (by rfl) (by rfl) (fun K hK => ?_)
    go_simp
    refine hK _ _ (Or.inr (HS.alloc _)) ?_; clear hK K
    refine seq_do (by rfl) (by rfl) (fun K hK => ?_)
    have n6 := n5.below (balloc (Below.refl _ _) (.cells #[.int .i64 ev.time, .int .i64 ev.to, .int .i64 ev.from_, .int .i64 ev.count, .int .i64 ev.n, .int .i64 ev.kind, .int .i64 ev.arg] 29))
    have HS := HS.alloc (.cells #[.int .i64 ev.time, .int .i64 ev.to, .int .i64 ev.from_, .int .i64 ev.count, .int .i64 ev.n, .int .i64 ev.kind, .int .i64 ev.arg] 29)
    have HC6 := HC5.alloc (.cells #[.int .i64 ev.time, .int .i64 ev.to, .int .i64 ev.from_, .int .i64 ev.count, .int .i64 ev.n, .int .i64 ev.kind, .int .i64 ev.arg] 29)
    have G6 := (heap_old (o := .cells #[.int .i64 ev.time, .int .i64 ev.to, .int .i64 ev.from_, .int .i64 ev.count, .int .i64 ev.n, .int .i64 ev.kind, .int .i64 ev.arg] 29) (blk_lt G5)).trans G5
    have B6 := (heap_old (o := .cells #[.int .i64 ev.time, .int .i64 ev.to, .int .i64 ev.from_, .int .i64 ev.count, .int .i64 ev.n, .int .i64 ev.kind, .int .i64 ev.arg] 29) (blk_lt B5)).trans B5
    refine ow_append_wp (d := tEv) 32 rfl Try.underlying32 _ 56 info_ev rfl (by decide) (by decide) rfl n6.qu ev _ rfl (heap_at (by simp)) (fun _ => False) rfl (fun _ hf => hf.elim) (fun _ hf => hf.elim) (by omega) (fun k => g0 < k ∧ k ≠ g5) (fun k hk => ⟨hk.1, by omega⟩) (fun _ hf => hf.elim) (fun k hk => by simp at hk; omega) ?_
    intro v1 w7 hO hG hat
    have HG : Ch (fun k => (.slice V2 s.queue.length b2 : Value).ownBlock = some k) (w5.alloc (.cells #[.int .i64 ev.time, .int .i64 ev.to, .int .i64 ev.from_, .int .i64 ev.count, .int .i64 ev.n, .int .i64 ev.kind, .int .i64 ev.arg] 29)) w7 := (Ch.refl _ _).grown hG (fun k hk => .inl hk)
    have HS1 := HS.grown hG (fun k hk => .inl (Or.inr hk))
    have HC7 := HC6.grown hG (fun k hk => .inr (by have := n6.qu.inF hk; have := HG0.out; omega))
    have G7 := HG.heap G6 (n6.qu.type_ne G6 (by decide))
    have B7 := HG.heap B6 (n6.qu.type_ne B6 (by decide))
    have m1 := (n6.qu.beside n6.st (by decide) HG).mono (F' := fun k => g0 < k ∧ k ≠ g5) (fun k hk => ⟨hk.1, by omega⟩)
    have m2 := (n6.qu.beside n6.ou (by decide) HG).mono (F' := fun k => g0 < k ∧ k ≠ g5) (fun k hk => ⟨hk.1, by omega⟩)
    obtain ⟨A1, a1, rfl, hl1⟩ := hO.shape
    simp only [List.length_append, List.length_singleton] at hO
    refine hK _ _ (Or.inr HS1) ?_; clear hK K HS
    have HS := HS1; clear HS1
    iterate 1 (refine seq_take (v := ?_) (by rfl) HS (by rfl) ?_ ?_; rotate_left; (focus (intro wS hS; obtain ⟨kc, kf⟩ := hS.cells; go_simp; (try (with_reducible rfl)); done)); (intro K hK; go_simp; refine hK _ ?_; clear hK K))
    have q1 : w7.cell? ⟨g5, 1, none⟩ = some (.slice V2 s.queue.length b2) := blk_cell B7 1
    have q2 := blk_frozen B7 1
    refine seq_do (by rfl) (by rfl) (fun K hK => ?_)
    go_simp
    refine hK _ _ (Or.inl (by kernel_rfl)) ?_; clear hK K
    simp only [wpSeq]
    have HP : Ch (fun k => k = g5) w7 (w7.setCell ⟨g5, 1, none⟩ (.slice A1 (s.queue.length + 1) a1)) := Ch.setCell (p := ⟨g5, 1, none⟩) (Ch.refl (fun k => k = g5) _) (Or.inl rfl) _
    have hs7 := HC.size
    have HC8 := HC7.then HP (fun k hk => Or.inr (by have := HG0.out; omega))
    have G8 := HP.heap G7 h05
    have B8 := blk_set B7 1 (.slice A1 (s.queue.length + 1) a1)
    simp only [List.setIfInBounds_toArray, List.set_cons_zero, List.set_cons_succ] at B8
    have n8 : SimRd (w7.setCell ⟨g5, 1, none⟩ (.slice A1 (s.queue.length + 1) a1)) (fun k => g0 < k ∧ k ≠ g5) (.slice V1 s.states.length b1) (.slice A1 (s.queue.length + 1) a1) (.slice V3 s.outs.length b3) ⟨s.states, s.queue ++ [ev], s.outs⟩ := ⟨m1.rd.ch HP (fun k hk e1 => hk.2 e1), hO.rd.ch HP (fun k hk e1 => hk.2 e1), m2.rd.ch HP (fun k hk e1 => hk.2 e1)⟩
    generalize w7.setCell ⟨g5, 1, none⟩ (.slice A1 (s.queue.length + 1) a1) = W8 at *
    clear HS HC7 G7 B7 m1 m2 q1 q2 hO hG HG HC5 G5 B5 n5 n6 HC6 G6 B6 HC G B n c0 c1 c2
    have y0 := blk_frozen G8 0
    have y1 := blk_frozen G8 1
    have y2 := blk_frozen G8 2
    have x0 : W8.cell? ⟨g0, 0, none⟩ = some (.slice none 0 0) := blk_cell G8 0
    have x1 : W8.cell? ⟨g0, 1, none⟩ = some (.slice none 0 0) := blk_cell G8 1
    have x2 : W8.cell? ⟨g0, 2, none⟩ = some (.slice none 0 0) := blk_cell G8 2
    have c0 : W8.cell? ⟨g5, 0, none⟩ = some (.slice V1 s.states.length b1) := blk_cell B8 0
    have c1 : W8.cell? ⟨g5, 1, none⟩ = some (.slice A1 (s.queue.length + 1) a1) := blk_cell B8 1
    have c2 : W8.cell? ⟨g5, 2, none⟩ = some (.slice V3 s.outs.length b3) := blk_cell B8 2
    go_wp2_with fail
    have BW := blk_set (blk_set (blk_set G8 0 (.slice V1 s.states.length b1)) 1 (.slice A1 (s.queue.length + 1) a1)) 2 (.slice V3 s.outs.length b3)
    simp only [List.setIfInBounds_toArray, List.set_cons_zero, List.set_cons_succ] at BW
    have HX : Ch (fun k => k = g0) W8 (((W8.setCell ⟨g0, 0, none⟩ (.slice V1 s.states.length b1)).setCell ⟨g0, 1, none⟩ (.slice A1 (s.queue.length + 1) a1)).setCell ⟨g0, 2, none⟩ (.slice V3 s.outs.length b3)) := Ch.setCell (p := ⟨g0, 2, none⟩) (Ch.setCell (p := ⟨g0, 1, none⟩) (Ch.setCell (p := ⟨g0, 0, none⟩) (Ch.refl (fun k => k = g0) _) (Or.inl rfl) _) (Or.inl rfl) _) (Or.inl rfl) _
    have nW := n8.ch HX (fun k hk e1 => by omega)
    have HW := HC8.then HX (fun k hk => Or.inr (by have := HG0.out; omega))
    generalize ((W8.setCell ⟨g0, 0, none⟩ (.slice V1 s.states.length b1)).setCell ⟨g0, 1, none⟩ (.slice A1 (s.queue.length + 1) a1)).setCell ⟨g0, 2, none⟩ (.slice V3 s.outs.length b3) = W9 at *
    have s0 : W9.cell? ⟨g0, 0, none⟩ = some (.slice V1 s.states.length b1) := blk_cell BW 0
    have s1 : W9.cell? ⟨g0, 1, none⟩ = some (.slice A1 (s.queue.length + 1) a1) := blk_cell BW 1
    have s2 : W9.cell? ⟨g0, 2, none⟩ = some (.slice V3 s.outs.length b3) := blk_cell BW 2
    refine bodyPost_ret (v := .agg #[.slice V1 s.states.length b1, .slice A1 (s.queue.length + 1) a1, .slice V3 s.outs.length b3]) (by simp only [results, Try.results77]; go_simp) rfl ⟨_, _, _, _, rfl, nW.mono (fun k hk => by have := HG0.out; omega), HW⟩
  · have c0 : W.cell? ⟨g5, 0, none⟩ = some (.slice V1 s.states.length b1) := blk_cell B 0
    have c1 : W.cell? ⟨g5, 1, none⟩ = some (.slice V2 s.queue.length b2) := blk_cell B 1
    have c2 : W.cell? ⟨g5, 2, none⟩ = some (.slice V3 s.outs.length b3) := blk_cell B 2
    have hno : ¬ (Value.slice V3 s.outs.length b3).ownBlock = some g5 := n.ou.type_ne B (by decide)
    go_upto_region 6 with fail
    refine region_plan (fun w' => Ch (fun k => k = g ∨ (Value.slice V3 s.outs.length b3).ownBlock = some k) W w') [(0, true), (1, true), (2, true), (3, false), (4, false), (5, false), (6, true), (7, false)] (by kernel_rfl) (by kernel_rfl) (fun _ _ d _ _ h => by cases d <;> exact h) ?_
    have HS := (Ch.refl (fun k => k = g ∨ (Value.slice V3 s.outs.length b3).ownBlock = some k) W).drew
    iterate 3 (refine seq_take (v := ?_) (by rfl) HS (by rfl) ?_ ?_; rotate_left; (focus (intro wS hS; obtain ⟨kc, kf⟩ := hS.cells; go_simp; (try (with_reducible rfl)); done)); (intro K hK; go_simp; refine hK _ ?_; clear hK K))
    refine seq_do (by rfl) (by rfl) (fun K hK => ?_)
    go_simp
    refine (l72Out_c g _ _ W.drew (hR.ch (S := fun _ => False) (Ch.refl _ W).drew (fun _ _ hf => hf)) (by omega)).mono ?_
    rintro e w5 ⟨ev, rfl, hR5, hC5⟩
    have HS := HS.trans (hC5.mono (fun k hk => Or.inl hk))
    have hC5' := (Ch.refl (fun k => k = g) W).drew.trans hC5
    have n5 := n.ch hC5' (fun k hk e1 => by omega)
    have HC5 := HC.trans hC5'
    have G5 := hC5'.heap G (fun e1 => by omega)
    have B5 := hC5'.heap B (fun e1 => by omega)
    have hs5 := hC5'.size
    unfold outAgg
    refine hK _ _ (Or.inr HS) ?_; clear hK K
    refine seq_do (by rfl) (by rfl) (fun K hK => ?_)
    go_simp
    refine hK _ _ (Or.inr (HS.alloc _)) ?_; clear hK K
    refine seq_do (by rfl) (by rfl) (fun K hK => ?_)
    have n6 := n5.below (balloc (Below.refl _ _) (.cells #[.int .i64 ev.time, .int .i64 ev.proc, .int .i64 ev.count, .int .i64 ev.n, .int .i64 ev.value] 43))
    have HS := HS.alloc (.cells #[.int .i64 ev.time, .int .i64 ev.proc, .int .i64 ev.count, .int .i64 ev.n, .int .i64 ev.value] 43)
    have HC6 := HC5.alloc (.cells #[.int .i64 ev.time, .int .i64 ev.proc, .int .i64 ev.count, .int .i64 ev.n, .int .i64 ev.value] 43)
    have G6 := (heap_old (o := .cells #[.int .i64 ev.time, .int .i64 ev.proc, .int .i64 ev.count, .int .i64 ev.n, .int .i64 ev.value] 43) (blk_lt G5)).trans G5
    have B6 := (heap_old (o := .cells #[.int .i64 ev.time, .int .i64 ev.proc, .int .i64 ev.count, .int .i64 ev.n, .int .i64 ev.value] 43) (blk_lt B5)).trans B5
    refine ow_append_wp (d := tOut) 33 rfl Try.underlying33 _ 40 info_out rfl (by decide) (by decide) rfl n6.ou ev _ rfl (heap_at (by simp)) (fun _ => False) rfl (fun _ hf => hf.elim) (fun _ hf => hf.elim) (by omega) (fun k => g0 < k ∧ k ≠ g5) (fun k hk => ⟨hk.1, by omega⟩) (fun _ hf => hf.elim) (fun k hk => by simp at hk; omega) ?_
    intro v1 w7 hO hG hat
    have HG : Ch (fun k => (.slice V3 s.outs.length b3 : Value).ownBlock = some k) (w5.alloc (.cells #[.int .i64 ev.time, .int .i64 ev.proc, .int .i64 ev.count, .int .i64 ev.n, .int .i64 ev.value] 43)) w7 := (Ch.refl _ _).grown hG (fun k hk => .inl hk)
    have HS1 := HS.grown hG (fun k hk => .inl (Or.inr hk))
    have HC7 := HC6.grown hG (fun k hk => .inr (by have := n6.ou.inF hk; have := HG0.out; omega))
    have G7 := HG.heap G6 (n6.ou.type_ne G6 (by decide))
    have B7 := HG.heap B6 (n6.ou.type_ne B6 (by decide))
    have m1 := (n6.ou.beside n6.st (by decide) HG).mono (F' := fun k => g0 < k ∧ k ≠ g5) (fun k hk => ⟨hk.1, by omega⟩)
    have m2 := (n6.ou.beside n6.qu (by decide) HG).mono (F' := fun k => g0 < k ∧ k ≠ g5) (fun k hk => ⟨hk.1, by omega⟩)
    obtain ⟨A1, a1, rfl, hl1⟩ := hO.shape
    simp only [List.length_append, List.length_singleton] at hO
    refine hK _ _ (Or.inr HS1) ?_; clear hK K HS
    have HS := HS1; clear HS1
    iterate 1 (refine seq_take (v := ?_) (by rfl) HS (by rfl) ?_ ?_; rotate_left; (focus (intro wS hS; obtain ⟨kc, kf⟩ := hS.cells; go_simp; (try (with_reducible rfl)); done)); (intro K hK; go_simp; refine hK _ ?_; clear hK K))
    have q1 : w7.cell? ⟨g5, 2, none⟩ = some (.slice V3 s.outs.length b3) := blk_cell B7 2
    have q2 := blk_frozen B7 2
    refine seq_do (by rfl) (by rfl) (fun K hK => ?_)
    go_simp
    refine hK _ _ (Or.inl (by kernel_rfl)) ?_; clear hK K
    simp only [wpSeq]
    have HP : Ch (fun k => k = g5) w7 (w7.setCell ⟨g5, 2, none⟩ (.slice A1 (s.outs.length + 1) a1)) := Ch.setCell (p := ⟨g5, 2, none⟩) (Ch.refl (fun k => k = g5) _) (Or.inl rfl) _
    have hs7 := HC.size
    have HC8 := HC7.then HP (fun k hk => Or.inr (by have := HG0.out; omega))
    have G8 := HP.heap G7 h05
    have B8 := blk_set B7 2 (.slice A1 (s.outs.length + 1) a1)
    simp only [List.setIfInBounds_toArray, List.set_cons_zero, List.set_cons_succ] at B8
    have n8 : SimRd (w7.setCell ⟨g5, 2, none⟩ (.slice A1 (s.outs.length + 1) a1)) (fun k => g0 < k ∧ k ≠ g5) (.slice V1 s.states.length b1) (.slice V2 s.queue.length b2) (.slice A1 (s.outs.length + 1) a1) ⟨s.states, s.queue, s.outs ++ [ev]⟩ := ⟨m1.rd.ch HP (fun k hk e1 => hk.2 e1), m2.rd.ch HP (fun k hk e1 => hk.2 e1), hO.rd.ch HP (fun k hk e1 => hk.2 e1)⟩
    generalize w7.setCell ⟨g5, 2, none⟩ (.slice A1 (s.outs.length + 1) a1) = W8 at *
    clear HS HC7 G7 B7 m1 m2 q1 q2 hO hG HG HC5 G5 B5 n5 n6 HC6 G6 B6 HC G B n c0 c1 c2
    have y0 := blk_frozen G8 0
    have y1 := blk_frozen G8 1
    have y2 := blk_frozen G8 2
    have x0 : W8.cell? ⟨g0, 0, none⟩ = some (.slice none 0 0) := blk_cell G8 0
    have x1 : W8.cell? ⟨g0, 1, none⟩ = some (.slice none 0 0) := blk_cell G8 1
    have x2 : W8.cell? ⟨g0, 2, none⟩ = some (.slice none 0 0) := blk_cell G8 2
    have c0 : W8.cell? ⟨g5, 0, none⟩ = some (.slice V1 s.states.length b1) := blk_cell B8 0
    have c1 : W8.cell? ⟨g5, 1, none⟩ = some (.slice V2 s.queue.length b2) := blk_cell B8 1
    have c2 : W8.cell? ⟨g5, 2, none⟩ = some (.slice A1 (s.outs.length + 1) a1) := blk_cell B8 2
    go_wp2_with fail
    have BW := blk_set (blk_set (blk_set G8 0 (.slice V1 s.states.length b1)) 1 (.slice V2 s.queue.length b2)) 2 (.slice A1 (s.outs.length + 1) a1)
    simp only [List.setIfInBounds_toArray, List.set_cons_zero, List.set_cons_succ] at BW
    have HX : Ch (fun k => k = g0) W8 (((W8.setCell ⟨g0, 0, none⟩ (.slice V1 s.states.length b1)).setCell ⟨g0, 1, none⟩ (.slice V2 s.queue.length b2)).setCell ⟨g0, 2, none⟩ (.slice A1 (s.outs.length + 1) a1)) := Ch.setCell (p := ⟨g0, 2, none⟩) (Ch.setCell (p := ⟨g0, 1, none⟩) (Ch.setCell (p := ⟨g0, 0, none⟩) (Ch.refl (fun k => k = g0) _) (Or.inl rfl) _) (Or.inl rfl) _) (Or.inl rfl) _
    have nW := n8.ch HX (fun k hk e1 => by omega)
    have HW := HC8.then HX (fun k hk => Or.inr (by have := HG0.out; omega))
    generalize ((W8.setCell ⟨g0, 0, none⟩ (.slice V1 s.states.length b1)).setCell ⟨g0, 1, none⟩ (.slice V2 s.queue.length b2)).setCell ⟨g0, 2, none⟩ (.slice A1 (s.outs.length + 1) a1) = W9 at *
    have s0 : W9.cell? ⟨g0, 0, none⟩ = some (.slice V1 s.states.length b1) := blk_cell BW 0
    have s1 : W9.cell? ⟨g0, 1, none⟩ = some (.slice V2 s.queue.length b2) := blk_cell BW 1
    have s2 : W9.cell? ⟨g0, 2, none⟩ = some (.slice A1 (s.outs.length + 1) a1) := blk_cell BW 2
    refine bodyPost_ret (v := .agg #[.slice V1 s.states.length b1, .slice V2 s.queue.length b2, .slice A1 (s.outs.length + 1) a1]) (by simp only [results, Try.results77]; go_simp) rfl ⟨_, _, _, _, rfl, nW.mono (fun k hk => by have := HG0.out; omega), HW⟩
  · by_cases hp : 0 < s.states.length
    · have c0 : W.cell? ⟨g5, 0, none⟩ = some (.slice V1 s.states.length b1) := blk_cell B 0
      have c1 : W.cell? ⟨g5, 1, none⟩ = some (.slice V2 s.queue.length b2) := blk_cell B 1
      have c2 : W.cell? ⟨g5, 2, none⟩ = some (.slice V3 s.outs.length b3) := blk_cell B 2
      have p0 : decide ((s.states.length : Int) > 0) = true := by simp; omega
      have p1 : decide (0 < s.states.length) = true := by simp; omega
      obtain ⟨V4, hV4⟩ : ∃ V4, (if b1 = 1 then V1 else V1.map fun x => x.add (1 * 3)) = V4 := ⟨_, rfl⟩
      have hcap := n.st.rd.capLe
      have hrun := drop1s_run V1 s.states.length b1 hp hcap
      have hdr : Rd tSt W (fun k => g0 < k ∧ k < g5) (.slice V4 (s.states.length - 1) (b1 - 1)) (s.states.drop 1) := by
        have := n.st.rd.dropO 1 hp
        rw [← hV4]; exact this
      rw [hV4] at hrun
      clear hV4
      have f0 := blk_frozen B 0
      go_upto_region 13 with fail
      have HP : Ch (fun k => k = g5) W (W.setCell ⟨g5, 0, none⟩ (.slice V4 (s.states.length - 1) (b1 - 1))) := Ch.setCell (p := ⟨g5, 0, none⟩) (Ch.refl (fun k => k = g5) _) (Or.inl rfl) _
      have HC8 := HC.then HP (fun k hk => Or.inr (by have := HG0.out; omega))
      have G8 := HP.heap G h05
      have B8 := blk_set B 0 (.slice V4 (s.states.length - 1) (b1 - 1))
      simp only [List.setIfInBounds_toArray, List.set_cons_zero, List.set_cons_succ] at B8
      have n8 : SimRd (W.setCell ⟨g5, 0, none⟩ (.slice V4 (s.states.length - 1) (b1 - 1))) (fun k => g0 < k ∧ k < g5) (.slice V4 (s.states.length - 1) (b1 - 1)) (.slice V2 s.queue.length b2) (.slice V3 s.outs.length b3) ⟨s.states.drop 1, s.queue, s.outs⟩ := ⟨hdr.ch HP (fun k hk e1 => by omega), n.qu.rd.ch HP (fun k hk e1 => by omega), n.ou.rd.ch HP (fun k hk e1 => by omega)⟩
      generalize W.setCell ⟨g5, 0, none⟩ (.slice V4 (s.states.length - 1) (b1 - 1)) = W8 at *
      clear HC G B n c0 c1 c2 hdr f0
      have y0 := blk_frozen G8 0
      have y1 := blk_frozen G8 1
      have y2 := blk_frozen G8 2
      have x0 : W8.cell? ⟨g0, 0, none⟩ = some (.slice none 0 0) := blk_cell G8 0
      have x1 : W8.cell? ⟨g0, 1, none⟩ = some (.slice none 0 0) := blk_cell G8 1
      have x2 : W8.cell? ⟨g0, 2, none⟩ = some (.slice none 0 0) := blk_cell G8 2
      have c0 : W8.cell? ⟨g5, 0, none⟩ = some (.slice V4 (s.states.length - 1) (b1 - 1)) := blk_cell B8 0
      have c1 : W8.cell? ⟨g5, 1, none⟩ = some (.slice V2 s.queue.length b2) := blk_cell B8 1
      have c2 : W8.cell? ⟨g5, 2, none⟩ = some (.slice V3 s.outs.length b3) := blk_cell B8 2
      go_wp2_with fail
      have BW := blk_set (blk_set (blk_set G8 0 (.slice V4 (s.states.length - 1) (b1 - 1))) 1 (.slice V2 s.queue.length b2)) 2 (.slice V3 s.outs.length b3)
      simp only [List.setIfInBounds_toArray, List.set_cons_zero, List.set_cons_succ] at BW
      have HX : Ch (fun k => k = g0) W8 (((W8.setCell ⟨g0, 0, none⟩ (.slice V4 (s.states.length - 1) (b1 - 1))).setCell ⟨g0, 1, none⟩ (.slice V2 s.queue.length b2)).setCell ⟨g0, 2, none⟩ (.slice V3 s.outs.length b3)) := Ch.setCell (p := ⟨g0, 2, none⟩) (Ch.setCell (p := ⟨g0, 1, none⟩) (Ch.setCell (p := ⟨g0, 0, none⟩) (Ch.refl (fun k => k = g0) _) (Or.inl rfl) _) (Or.inl rfl) _) (Or.inl rfl) _
      have nW := n8.ch HX (fun k hk e1 => by omega)
      have HW := HC8.then HX (fun k hk => Or.inr (by have := HG0.out; omega))
      generalize ((W8.setCell ⟨g0, 0, none⟩ (.slice V4 (s.states.length - 1) (b1 - 1))).setCell ⟨g0, 1, none⟩ (.slice V2 s.queue.length b2)).setCell ⟨g0, 2, none⟩ (.slice V3 s.outs.length b3) = W9 at *
      have s0 : W9.cell? ⟨g0, 0, none⟩ = some (.slice V4 (s.states.length - 1) (b1 - 1)) := blk_cell BW 0
      have s1 : W9.cell? ⟨g0, 1, none⟩ = some (.slice V2 s.queue.length b2) := blk_cell BW 1
      have s2 : W9.cell? ⟨g0, 2, none⟩ = some (.slice V3 s.outs.length b3) := blk_cell BW 2
      refine bodyPost_ret (v := .agg #[.slice V4 (s.states.length - 1) (b1 - 1), .slice V2 s.queue.length b2, .slice V3 s.outs.length b3]) (by simp only [results, Try.results77]; go_simp) rfl ⟨_, _, _, _, rfl, nW.mono (fun k hk => by have := HG0.out; omega), HW⟩
    · have c0 : W.cell? ⟨g5, 0, none⟩ = some (.slice V1 s.states.length b1) := blk_cell B 0
      have c1 : W.cell? ⟨g5, 1, none⟩ = some (.slice V2 s.queue.length b2) := blk_cell B 1
      have c2 : W.cell? ⟨g5, 2, none⟩ = some (.slice V3 s.outs.length b3) := blk_cell B 2
      have p0 : decide ((s.states.length : Int) > 0) = false := decide_eq_false (by omega)
      have p1 : decide (0 < s.states.length) = false := decide_eq_false (by omega)
      clear hp
      have y0 := blk_frozen G 0
      have y1 := blk_frozen G 1
      have y2 := blk_frozen G 2
      have x0 : W.cell? ⟨g0, 0, none⟩ = some (.slice none 0 0) := blk_cell G 0
      have x1 : W.cell? ⟨g0, 1, none⟩ = some (.slice none 0 0) := blk_cell G 1
      have x2 : W.cell? ⟨g0, 2, none⟩ = some (.slice none 0 0) := blk_cell G 2
      have c0 : W.cell? ⟨g5, 0, none⟩ = some (.slice V1 s.states.length b1) := blk_cell B 0
      have c1 : W.cell? ⟨g5, 1, none⟩ = some (.slice V2 s.queue.length b2) := blk_cell B 1
      have c2 : W.cell? ⟨g5, 2, none⟩ = some (.slice V3 s.outs.length b3) := blk_cell B 2
      go_wp2_with fail
      have BW := blk_set (blk_set (blk_set G 0 (.slice V1 s.states.length b1)) 1 (.slice V2 s.queue.length b2)) 2 (.slice V3 s.outs.length b3)
      simp only [List.setIfInBounds_toArray, List.set_cons_zero, List.set_cons_succ] at BW
      have HX : Ch (fun k => k = g0) W (((W.setCell ⟨g0, 0, none⟩ (.slice V1 s.states.length b1)).setCell ⟨g0, 1, none⟩ (.slice V2 s.queue.length b2)).setCell ⟨g0, 2, none⟩ (.slice V3 s.outs.length b3)) := Ch.setCell (p := ⟨g0, 2, none⟩) (Ch.setCell (p := ⟨g0, 1, none⟩) (Ch.setCell (p := ⟨g0, 0, none⟩) (Ch.refl (fun k => k = g0) _) (Or.inl rfl) _) (Or.inl rfl) _) (Or.inl rfl) _
      have nW := n.rd.ch HX (fun k hk e1 => by omega)
      have HW := HC.then HX (fun k hk => Or.inr (by have := HG0.out; omega))
      generalize ((W.setCell ⟨g0, 0, none⟩ (.slice V1 s.states.length b1)).setCell ⟨g0, 1, none⟩ (.slice V2 s.queue.length b2)).setCell ⟨g0, 2, none⟩ (.slice V3 s.outs.length b3) = W9 at *
      have s0 : W9.cell? ⟨g0, 0, none⟩ = some (.slice V1 s.states.length b1) := blk_cell BW 0
      have s1 : W9.cell? ⟨g0, 1, none⟩ = some (.slice V2 s.queue.length b2) := blk_cell BW 1
      have s2 : W9.cell? ⟨g0, 2, none⟩ = some (.slice V3 s.outs.length b3) := blk_cell BW 2
      refine bodyPost_ret (v := .agg #[.slice V1 s.states.length b1, .slice V2 s.queue.length b2, .slice V3 s.outs.length b3]) (by simp only [results, Try.results77]; go_simp) rfl ⟨_, _, _, _, rfl, nW.mono (fun k hk => by have := HG0.out; omega), HW⟩
  · by_cases hp : 0 < s.states.length
    · have c0 : W.cell? ⟨g5, 0, none⟩ = some (.slice V1 s.states.length b1) := blk_cell B 0
      have c1 : W.cell? ⟨g5, 1, none⟩ = some (.slice V2 s.queue.length b2) := blk_cell B 1
      have c2 : W.cell? ⟨g5, 2, none⟩ = some (.slice V3 s.outs.length b3) := blk_cell B 2
      have p0 : decide ((s.states.length : Int) > 0) = true := by simp; omega
      have p1 : decide (0 < s.states.length) = true := by simp; omega
      obtain ⟨gS, cS, hS1, hS2, hS3, hS4, hS5, -⟩ := n.st.stX hp
      injection hS1 with hS1 _ hS7
      subst hS1 hS7
      go_upto_region 12 with fail
      refine region_tree (fun w' => Ch (fun k => k = g) W w') (.take 0 (.take 1 (.take 3 (.two 2 (.one 4 (.one 5 (.one 6 (.one 7 (.one 8 (.one 9 .nil)))))) 4 (.one 2 (.one 5 (.one 6 (.one 7 (.one 8 (.one 9 .nil)))))))))) (by kernel_rfl) (by kernel_rfl) (fun _ _ d _ _ h => by cases d <;> exact h) ?_
      have HS := (Ch.refl (fun k => k = g) W).drew
      iterate 3 (refine tree_take (v := ?_) (by rfl) HS (by rfl) ?_ ?_; rotate_left; (focus (intro wS hS; obtain ⟨kc, kf⟩ := hS.cells; go_simp; (try (with_reducible rfl)); done)); (intro K hK; go_simp; refine hK _ ?_; clear hK K))
      clear hS4 hS5 c0 c1 c2
      refine tree_two ?_ ?_
      · refine tree_do (by rfl) (by rfl) (fun K hK => ?_)
        go_simp
        refine hK _ _ (Or.inr (HS.alloc _)) ?_; clear hK K
        have HS := HS.alloc (.cells #[.int .i64 (-1), .int .i64 1000, .int .i64 7] 3)
        refine tree_do (by rfl) (by rfl) (fun K hK => ?_)
        go_simp
        refine (pick_c g _ _ 3 (W.drew.alloc (.cells #[.int .i64 (-1), .int .i64 1000, .int .i64 7] 3)) (hR.ch (S := fun _ => False) ((Ch.refl _ W).drew.alloc (.cells #[.int .i64 (-1), .int .i64 1000, .int .i64 7] 3)) (fun _ _ hf => hf)) (by omega) (by omega)).mono ?_
        rintro e w5 ⟨x, rfl, hx, hR5, hC5⟩
        have HS := HS.trans hC5
        have hA8 : w5.heap[W.heap.size]? = some (.cells #[.int .i64 (-1), .int .i64 1000, .int .i64 7] 3 (0, 0)) := hC5.heap (heap_at rfl) (fun e1 => by omega)
        obtain ⟨w6, hw6⟩ : ∃ w6, w6 = w5 := ⟨_, rfl⟩
        refine hK _ _ (Or.inr HS) ?_; clear hK K
        rw [← hw6] at hA8 HS
        simp only [← hw6]
        clear hw6
        have n6 := n.ch HS (fun k hk e1 => by omega)
        have HC6 := HC.trans HS
        have G6 := HS.heap G (fun e1 => by omega)
        have B6 := HS.heap B (fun e1 => by omega)
        have hx3 : (x : Int) < 3 := hx
        have hxn : x < 3 := by omega
        obtain ⟨v, hv⟩ : ∃ v, w6.cell? ⟨W.heap.size, x, none⟩ = some (.int .i64 v) := by
          rcases (show x = 0 ∨ x = 1 ∨ x = 2 by omega) with rfl | rfl | rfl <;> exact ⟨_, blk_cell hA8 _⟩
        obtain ⟨gS', c', hS1, hS2, hS3, hS4, hS5, hS6⟩ := n6.st.stX hp
        injection hS1 with hS1 _ hS7
        injection hS1 with hS1
        injection hS1 with hS1 _ _
        subst hS1 hS7
        refine tree_do (by rfl) (by rfl) (fun K hK => ?_)
        go_simp
        refine hK _ _ (Or.inr HS) ?_; clear hK K
        refine tree_do (by rfl) (by rfl) (fun K hK => ?_)
        go_simp
        refine hK _ _ (Or.inr HS) ?_; clear hK K
        refine tree_do (by rfl) (by rfl) (fun K hK => ?_)
        go_simp
        refine hK _ _ (Or.inr HS) ?_; clear hK K
        refine tree_do (by rfl) (by rfl) (fun K hK => ?_)
        go_simp
        refine hK _ _ (Or.inr HS) ?_; clear hK K
        refine tree_do (by rfl) (by rfl) (fun K hK => ?_)
        go_simp
        refine hK _ _ (Or.inl (by kernel_rfl)) ?_; clear hK K
        simp only [wpTree]
        have HP : Ch (fun k => (Value.slice (some ⟨gS, 0, none⟩) s.states.length b1).ownBlock = some k) w6 (w6.setCell ⟨gS, 0, none⟩ (.int .i64 v)) := Ch.setCell (S := fun k => (Value.slice (some ⟨gS, 0, none⟩) s.states.length b1).ownBlock = some k) (p := ⟨gS, 0, none⟩) (Ch.refl _ _) (Or.inl rfl) _
        have HC8 := HC6.then HP (fun k hk => Or.inr (by have h1 : gS = k := by simpa [Value.ownBlock] using hk
                                                        have := HG0.out; omega))
        have G8 := HP.heap G6 (n6.st.type_ne G6 (by decide))
        have B8 := HP.heap B6 (n6.st.type_ne B6 (by decide))
        have n8 : SimRd (w6.setCell ⟨gS, 0, none⟩ (.int .i64 v)) (fun k => g0 < k ∧ k < g5) (.slice (some ⟨gS, 0, none⟩) s.states.length b1) (.slice V2 s.queue.length b2) (.slice V3 s.outs.length b3) ⟨s.states.set 0 ⟨v, s.states[0].y, s.states[0].c⟩, s.queue, s.outs⟩ := ⟨hS6 v, (n6.st.beside n6.qu (by decide) HP).rd, (n6.st.beside n6.ou (by decide) HP).rd⟩
        generalize w6.setCell ⟨gS, 0, none⟩ (.int .i64 v) = W8 at *
        clear HC G B n HC6 G6 B6 n6 HP hS4 hS5 hS6 hA8 hv HS
        have y0 := blk_frozen G8 0
        have y1 := blk_frozen G8 1
        have y2 := blk_frozen G8 2
        have x0 : W8.cell? ⟨g0, 0, none⟩ = some (.slice none 0 0) := blk_cell G8 0
        have x1 : W8.cell? ⟨g0, 1, none⟩ = some (.slice none 0 0) := blk_cell G8 1
        have x2 : W8.cell? ⟨g0, 2, none⟩ = some (.slice none 0 0) := blk_cell G8 2
        have c0 : W8.cell? ⟨g5, 0, none⟩ = some (.slice (some ⟨gS, 0, none⟩) s.states.length b1) := blk_cell B8 0
        have c1 : W8.cell? ⟨g5, 1, none⟩ = some (.slice V2 s.queue.length b2) := blk_cell B8 1
        have c2 : W8.cell? ⟨g5, 2, none⟩ = some (.slice V3 s.outs.length b3) := blk_cell B8 2
        go_wp2_with fail
        have BW := blk_set (blk_set (blk_set G8 0 (.slice (some ⟨gS, 0, none⟩) s.states.length b1)) 1 (.slice V2 s.queue.length b2)) 2 (.slice V3 s.outs.length b3)
        simp only [List.setIfInBounds_toArray, List.set_cons_zero, List.set_cons_succ] at BW
        have HX : Ch (fun k => k = g0) W8 (((W8.setCell ⟨g0, 0, none⟩ (.slice (some ⟨gS, 0, none⟩) s.states.length b1)).setCell ⟨g0, 1, none⟩ (.slice V2 s.queue.length b2)).setCell ⟨g0, 2, none⟩ (.slice V3 s.outs.length b3)) := Ch.setCell (p := ⟨g0, 2, none⟩) (Ch.setCell (p := ⟨g0, 1, none⟩) (Ch.setCell (p := ⟨g0, 0, none⟩) (Ch.refl (fun k => k = g0) _) (Or.inl rfl) _) (Or.inl rfl) _) (Or.inl rfl) _
        have nW := n8.ch HX (fun k hk e1 => by omega)
        have HW := HC8.then HX (fun k hk => Or.inr (by have := HG0.out; omega))
        generalize ((W8.setCell ⟨g0, 0, none⟩ (.slice (some ⟨gS, 0, none⟩) s.states.length b1)).setCell ⟨g0, 1, none⟩ (.slice V2 s.queue.length b2)).setCell ⟨g0, 2, none⟩ (.slice V3 s.outs.length b3) = W9 at *
        have s0 : W9.cell? ⟨g0, 0, none⟩ = some (.slice (some ⟨gS, 0, none⟩) s.states.length b1) := blk_cell BW 0
        have s1 : W9.cell? ⟨g0, 1, none⟩ = some (.slice V2 s.queue.length b2) := blk_cell BW 1
        have s2 : W9.cell? ⟨g0, 2, none⟩ = some (.slice V3 s.outs.length b3) := blk_cell BW 2
        refine bodyPost_ret (v := .agg #[.slice (some ⟨gS, 0, none⟩) s.states.length b1, .slice V2 s.queue.length b2, .slice V3 s.outs.length b3]) (by simp only [results, Try.results77]; go_simp) rfl ⟨_, _, _, _, rfl, nW.mono (fun k hk => by have := HG0.out; omega), HW⟩
      · refine tree_do (by rfl) (by rfl) (fun K hK => ?_)
        go_simp
        refine (pick_c g _ _ 3 W.drew (hR.ch (S := fun _ => False) (Ch.refl _ W).drew (fun _ _ hf => hf)) (by omega) (by omega)).mono ?_
        rintro e w5 ⟨x, rfl, hx, hR5, hC5⟩
        have HS := HS.trans hC5
        refine hK _ _ (Or.inr HS) ?_; clear hK K
        refine tree_do (by rfl) (by rfl) (fun K hK => ?_)
        go_simp
        refine hK _ _ (Or.inr (HS.alloc _)) ?_; clear hK K
        have HS := HS.alloc (.cells #[.int .i64 (-1), .int .i64 1000, .int .i64 7] 3)
        have hA8 : (w5.alloc (.cells #[.int .i64 (-1), .int .i64 1000, .int .i64 7] 3)).heap[w5.heap.size]? = some (.cells #[.int .i64 (-1), .int .i64 1000, .int .i64 7] 3 (0, 0)) := heap_at rfl
        obtain ⟨w6, hw6⟩ : ∃ w6, w6 = w5.alloc (.cells #[.int .i64 (-1), .int .i64 1000, .int .i64 7] 3) := ⟨_, rfl⟩
        rw [← hw6] at hA8 HS
        simp only [← hw6]
        clear hw6
        have n6 := n.ch HS (fun k hk e1 => by omega)
        have HC6 := HC.trans HS
        have G6 := HS.heap G (fun e1 => by omega)
        have B6 := HS.heap B (fun e1 => by omega)
        have hx3 : (x : Int) < 3 := hx
        have hxn : x < 3 := by omega
        obtain ⟨v, hv⟩ : ∃ v, w6.cell? ⟨w5.heap.size, x, none⟩ = some (.int .i64 v) := by
          rcases (show x = 0 ∨ x = 1 ∨ x = 2 by omega) with rfl | rfl | rfl <;> exact ⟨_, blk_cell hA8 _⟩
        obtain ⟨gS', c', hS1, hS2, hS3, hS4, hS5, hS6⟩ := n6.st.stX hp
        injection hS1 with hS1 _ hS7
        injection hS1 with hS1
        injection hS1 with hS1 _ _
        subst hS1 hS7
        refine tree_do (by rfl) (by rfl) (fun K hK => ?_)
        go_simp
        refine hK _ _ (Or.inr HS) ?_; clear hK K
        refine tree_do (by rfl) (by rfl) (fun K hK => ?_)
        go_simp
        refine hK _ _ (Or.inr HS) ?_; clear hK K
        refine tree_do (by rfl) (by rfl) (fun K hK => ?_)
        go_simp
        refine hK _ _ (Or.inr HS) ?_; clear hK K
        refine tree_do (by rfl) (by rfl) (fun K hK => ?_)
        go_simp
        refine hK _ _ (Or.inr HS) ?_; clear hK K
        refine tree_do (by rfl) (by rfl) (fun K hK => ?_)
        go_simp
        refine hK _ _ (Or.inl (by kernel_rfl)) ?_; clear hK K
        simp only [wpTree]
        have HP : Ch (fun k => (Value.slice (some ⟨gS, 0, none⟩) s.states.length b1).ownBlock = some k) w6 (w6.setCell ⟨gS, 0, none⟩ (.int .i64 v)) := Ch.setCell (S := fun k => (Value.slice (some ⟨gS, 0, none⟩) s.states.length b1).ownBlock = some k) (p := ⟨gS, 0, none⟩) (Ch.refl _ _) (Or.inl rfl) _
        have HC8 := HC6.then HP (fun k hk => Or.inr (by have h1 : gS = k := by simpa [Value.ownBlock] using hk
                                                        have := HG0.out; omega))
        have G8 := HP.heap G6 (n6.st.type_ne G6 (by decide))
        have B8 := HP.heap B6 (n6.st.type_ne B6 (by decide))
        have n8 : SimRd (w6.setCell ⟨gS, 0, none⟩ (.int .i64 v)) (fun k => g0 < k ∧ k < g5) (.slice (some ⟨gS, 0, none⟩) s.states.length b1) (.slice V2 s.queue.length b2) (.slice V3 s.outs.length b3) ⟨s.states.set 0 ⟨v, s.states[0].y, s.states[0].c⟩, s.queue, s.outs⟩ := ⟨hS6 v, (n6.st.beside n6.qu (by decide) HP).rd, (n6.st.beside n6.ou (by decide) HP).rd⟩
        generalize w6.setCell ⟨gS, 0, none⟩ (.int .i64 v) = W8 at *
        clear HC G B n HC6 G6 B6 n6 HP hS4 hS5 hS6 hA8 hv HS
        have y0 := blk_frozen G8 0
        have y1 := blk_frozen G8 1
        have y2 := blk_frozen G8 2
        have x0 : W8.cell? ⟨g0, 0, none⟩ = some (.slice none 0 0) := blk_cell G8 0
        have x1 : W8.cell? ⟨g0, 1, none⟩ = some (.slice none 0 0) := blk_cell G8 1
        have x2 : W8.cell? ⟨g0, 2, none⟩ = some (.slice none 0 0) := blk_cell G8 2
        have c0 : W8.cell? ⟨g5, 0, none⟩ = some (.slice (some ⟨gS, 0, none⟩) s.states.length b1) := blk_cell B8 0
        have c1 : W8.cell? ⟨g5, 1, none⟩ = some (.slice V2 s.queue.length b2) := blk_cell B8 1
        have c2 : W8.cell? ⟨g5, 2, none⟩ = some (.slice V3 s.outs.length b3) := blk_cell B8 2
        go_wp2_with fail
        have BW := blk_set (blk_set (blk_set G8 0 (.slice (some ⟨gS, 0, none⟩) s.states.length b1)) 1 (.slice V2 s.queue.length b2)) 2 (.slice V3 s.outs.length b3)
        simp only [List.setIfInBounds_toArray, List.set_cons_zero, List.set_cons_succ] at BW
        have HX : Ch (fun k => k = g0) W8 (((W8.setCell ⟨g0, 0, none⟩ (.slice (some ⟨gS, 0, none⟩) s.states.length b1)).setCell ⟨g0, 1, none⟩ (.slice V2 s.queue.length b2)).setCell ⟨g0, 2, none⟩ (.slice V3 s.outs.length b3)) := Ch.setCell (p := ⟨g0, 2, none⟩) (Ch.setCell (p := ⟨g0, 1, none⟩) (Ch.setCell (p := ⟨g0, 0, none⟩) (Ch.refl (fun k => k = g0) _) (Or.inl rfl) _) (Or.inl rfl) _) (Or.inl rfl) _
        have nW := n8.ch HX (fun k hk e1 => by omega)
        have HW := HC8.then HX (fun k hk => Or.inr (by have := HG0.out; omega))
        generalize ((W8.setCell ⟨g0, 0, none⟩ (.slice (some ⟨gS, 0, none⟩) s.states.length b1)).setCell ⟨g0, 1, none⟩ (.slice V2 s.queue.length b2)).setCell ⟨g0, 2, none⟩ (.slice V3 s.outs.length b3) = W9 at *
        have s0 : W9.cell? ⟨g0, 0, none⟩ = some (.slice (some ⟨gS, 0, none⟩) s.states.length b1) := blk_cell BW 0
        have s1 : W9.cell? ⟨g0, 1, none⟩ = some (.slice V2 s.queue.length b2) := blk_cell BW 1
        have s2 : W9.cell? ⟨g0, 2, none⟩ = some (.slice V3 s.outs.length b3) := blk_cell BW 2
        refine bodyPost_ret (v := .agg #[.slice (some ⟨gS, 0, none⟩) s.states.length b1, .slice V2 s.queue.length b2, .slice V3 s.outs.length b3]) (by simp only [results, Try.results77]; go_simp) rfl ⟨_, _, _, _, rfl, nW.mono (fun k hk => by have := HG0.out; omega), HW⟩
    · have c0 : W.cell? ⟨g5, 0, none⟩ = some (.slice V1 s.states.length b1) := blk_cell B 0
      have c1 : W.cell? ⟨g5, 1, none⟩ = some (.slice V2 s.queue.length b2) := blk_cell B 1
      have c2 : W.cell? ⟨g5, 2, none⟩ = some (.slice V3 s.outs.length b3) := blk_cell B 2
      have p0 : decide ((s.states.length : Int) > 0) = false := decide_eq_false (by omega)
      have p1 : decide (0 < s.states.length) = false := decide_eq_false (by omega)
      clear hp
      have y0 := blk_frozen G 0
      have y1 := blk_frozen G 1
      have y2 := blk_frozen G 2
      have x0 : W.cell? ⟨g0, 0, none⟩ = some (.slice none 0 0) := blk_cell G 0
      have x1 : W.cell? ⟨g0, 1, none⟩ = some (.slice none 0 0) := blk_cell G 1
      have x2 : W.cell? ⟨g0, 2, none⟩ = some (.slice none 0 0) := blk_cell G 2
      have c0 : W.cell? ⟨g5, 0, none⟩ = some (.slice V1 s.states.length b1) := blk_cell B 0
      have c1 : W.cell? ⟨g5, 1, none⟩ = some (.slice V2 s.queue.length b2) := blk_cell B 1
      have c2 : W.cell? ⟨g5, 2, none⟩ = some (.slice V3 s.outs.length b3) := blk_cell B 2
      go_wp2_with fail
      have BW := blk_set (blk_set (blk_set G 0 (.slice V1 s.states.length b1)) 1 (.slice V2 s.queue.length b2)) 2 (.slice V3 s.outs.length b3)
      simp only [List.setIfInBounds_toArray, List.set_cons_zero, List.set_cons_succ] at BW
      have HX : Ch (fun k => k = g0) W (((W.setCell ⟨g0, 0, none⟩ (.slice V1 s.states.length b1)).setCell ⟨g0, 1, none⟩ (.slice V2 s.queue.length b2)).setCell ⟨g0, 2, none⟩ (.slice V3 s.outs.length b3)) := Ch.setCell (p := ⟨g0, 2, none⟩) (Ch.setCell (p := ⟨g0, 1, none⟩) (Ch.setCell (p := ⟨g0, 0, none⟩) (Ch.refl (fun k => k = g0) _) (Or.inl rfl) _) (Or.inl rfl) _) (Or.inl rfl) _
      have nW := n.rd.ch HX (fun k hk e1 => by omega)
      have HW := HC.then HX (fun k hk => Or.inr (by have := HG0.out; omega))
      generalize ((W.setCell ⟨g0, 0, none⟩ (.slice V1 s.states.length b1)).setCell ⟨g0, 1, none⟩ (.slice V2 s.queue.length b2)).setCell ⟨g0, 2, none⟩ (.slice V3 s.outs.length b3) = W9 at *
      have s0 : W9.cell? ⟨g0, 0, none⟩ = some (.slice V1 s.states.length b1) := blk_cell BW 0
      have s1 : W9.cell? ⟨g0, 1, none⟩ = some (.slice V2 s.queue.length b2) := blk_cell BW 1
      have s2 : W9.cell? ⟨g0, 2, none⟩ = some (.slice V3 s.outs.length b3) := blk_cell BW 2
      refine bodyPost_ret (v := .agg #[.slice V1 s.states.length b1, .slice V2 s.queue.length b2, .slice V3 s.outs.length b3]) (by simp only [results, Try.results77]; go_simp) rfl ⟨_, _, _, _, rfl, nW.mono (fun k hk => by have := HG0.out; omega), HW⟩
  · have hd0 : (((d : Nat) : Int) == 0) = false := by simp; omega
    have hd1 : (((d : Nat) : Int) == 1) = false := by simp; omega
    have hd2 : (((d : Nat) : Int) == 2) = false := by simp; omega
    have hd3 : (((d : Nat) : Int) == 3) = false := by simp; omega
    have y0 := blk_frozen G 0
    have y1 := blk_frozen G 1
    have y2 := blk_frozen G 2
    have x0 : W.cell? ⟨g0, 0, none⟩ = some (.slice none 0 0) := blk_cell G 0
    have x1 : W.cell? ⟨g0, 1, none⟩ = some (.slice none 0 0) := blk_cell G 1
    have x2 : W.cell? ⟨g0, 2, none⟩ = some (.slice none 0 0) := blk_cell G 2
    have c0 : W.cell? ⟨g5, 0, none⟩ = some (.slice V1 s.states.length b1) := blk_cell B 0
    have c1 : W.cell? ⟨g5, 1, none⟩ = some (.slice V2 s.queue.length b2) := blk_cell B 1
    have c2 : W.cell? ⟨g5, 2, none⟩ = some (.slice V3 s.outs.length b3) := blk_cell B 2
    go_wp2_with fail
    have BW := blk_set (blk_set (blk_set G 0 (.slice V1 s.states.length b1)) 1 (.slice V2 s.queue.length b2)) 2 (.slice V3 s.outs.length b3)
    simp only [List.setIfInBounds_toArray, List.set_cons_zero, List.set_cons_succ] at BW
    have HX : Ch (fun k => k = g0) W (((W.setCell ⟨g0, 0, none⟩ (.slice V1 s.states.length b1)).setCell ⟨g0, 1, none⟩ (.slice V2 s.queue.length b2)).setCell ⟨g0, 2, none⟩ (.slice V3 s.outs.length b3)) := Ch.setCell (p := ⟨g0, 2, none⟩) (Ch.setCell (p := ⟨g0, 1, none⟩) (Ch.setCell (p := ⟨g0, 0, none⟩) (Ch.refl (fun k => k = g0) _) (Or.inl rfl) _) (Or.inl rfl) _) (Or.inl rfl) _
    have nW := n.rd.ch HX (fun k hk e1 => by omega)
    have HW := HC.then HX (fun k hk => Or.inr (by have := HG0.out; omega))
    generalize ((W.setCell ⟨g0, 0, none⟩ (.slice V1 s.states.length b1)).setCell ⟨g0, 1, none⟩ (.slice V2 s.queue.length b2)).setCell ⟨g0, 2, none⟩ (.slice V3 s.outs.length b3) = W9 at *
    have s0 : W9.cell? ⟨g0, 0, none⟩ = some (.slice V1 s.states.length b1) := blk_cell BW 0
    have s1 : W9.cell? ⟨g0, 1, none⟩ = some (.slice V2 s.queue.length b2) := blk_cell BW 1
    have s2 : W9.cell? ⟨g0, 2, none⟩ = some (.slice V3 s.outs.length b3) := blk_cell BW 2
    refine bodyPost_ret (v := .agg #[.slice V1 s.states.length b1, .slice V2 s.queue.length b2, .slice V3 s.outs.length b3]) (by simp only [results, Try.results77]; go_simp) rfl ⟨_, _, _, _, rfl, nW.mono (fun k hk => by have := HG0.out; omega), HW⟩
end Go.Proofs.Ytmnccekljombmaa
