/- Texts joined: Ey7. -/
import Derived.Test.YtbcemldiahghcaaGreatJ32
import Derived.Test.YtbcemldiahghcaaGreatJ12
import Derived.Test.YtbcemldiahghcaaGreatJ14
import Derived.Test.YtbcemldiahghcaaGreatJ17
import Derived.Test.YtbcemldiahghcaaGreatJ18
import Derived.Test.YtbcemldiahghcaaGreatJ19
import Derived.Test.YtbcemldiahghcaaGreatJ31
import Derived.Test.YtbcemldiahghcaaGreatJ16
import Derived.Test.YtbcemldiahghcaaGreatJ26
import Derived.Test.YtbcemldiahghcaaGreatJ30
namespace Go.Proofs.YtbcemldiahghcaaGreat
set_option linter.unusedVariables false
set_option linter.unusedSimpArgs false
set_option maxRecDepth 100000
open Go.RowKit
theorem sgx_name {P : Program} {ops : Array Oper} {Q : Exit → Act → World → Prop} {w0 : World} {r : List Sg} {f : List Nat} {a : Act} {w : World} (h : ∀ a0, a0 = a → wpSg P ops Q w0 r f a0 w) : wpSg P ops Q w0 r f a w := h a rfl
theorem simStep_len (apps : List AppD) (s : SimD) : (simStep apps s).1.states.length ≤ 1000 ∧ (simStep apps s).1.queue.length ≤ 1000 ∧ (simStep apps s).1.outs.length ≤ 1000 := by
  unfold simStep
  split
  · rename_i h
    unfold simStepV
    split
    · exact simOk_len h.1
    · split
      · rename_i h2; exact simOk_len h2
      · exact simOk_len h.1
  · exact ⟨by decide, by decide, by decide⟩
def StepX (x : SimD) (bl : Bool) (w : World) (q : Ending) (w' : World) : Prop :=
  ∃ us uq uo, q = .returned (.tuple #[.agg #[us, uq, uo], .bool bl]) ∧ SimOw w' (fun k => w.heap.size ≤ k) us uq uo x ∧ Below w.heap.size w w'
theorem stepS_call (va vs vq vo : Value) (apps : List AppD) (s : SimD) (F G : Nat → Prop) (w : World) (hA : Rd tApp w F va apps) (h : SimRd w G vs vq vo s) {x : SimD} {bl : Bool} (hr : simStep apps s = (x, bl)) :
    Calls Tryz.prog 31 #[va, .agg #[vs, vq, vo]] w (StepX x bl w) := by
  refine (SimStepS_c va vs vq vo apps s (fun _ => True) w (hA.mono (fun _ _ => trivial)) (h.mono (fun _ _ => trivial))).mono ?_
  rintro q w' ⟨us, uq, uo, h1, h2, h3⟩
  rw [hr] at h1 h2
  exact ⟨us, uq, uo, h1, h2, h3⟩
theorem stepI_call (va vs vq vo : Value) (apps : List AppD) (s : SimD) (F G : Nat → Prop) (w : World) (hA : Rd tApp w F va apps) (h : SimRd w G vs vq vo s) {x : SimD} {bl : Bool} (hr : simStep apps s = (x, bl)) :
    Calls Tryz.prog 33 #[va, .agg #[vs, vq, vo]] w (StepX x bl w) := by
  refine (SimStepI_c va vs vq vo apps s (fun _ => True) w (hA.mono (fun _ _ => trivial)) (h.mono (fun _ _ => trivial))).mono ?_
  rintro q w' ⟨us, uq, uo, h1, h2, h3⟩
  rw [hr] at h1 h2
  exact ⟨us, uq, uo, h1, h2, h3⟩
def agg3 (v : Value) : Prop := ∃ us uq uo, v = .agg #[us, uq, uo] ∧ us.oneCell' = true ∧ uq.oneCell' = true ∧ uo.oneCell' = true
def tupX (bl : Bool) (v : Value) : Prop := ∃ a, v = .tuple #[a, .bool bl] ∧ agg3 a
theorem tupX_mk {bl : Bool} {w : World} {F : Nat → Prop} {us uq uo : Value} {x : SimD} (h : SimOw w F us uq uo x) : tupX bl (.tuple #[.agg #[us, uq, uo], .bool bl]) := ⟨_, rfl, _, _, _, rfl, h.st.oneCell, h.qu.oneCell, h.ou.oneCell⟩
def y8N (apps : List AppD) (s : SimD) (x : SimD) (bl : Bool) : List HeldD :=
  [(1, [], fun _ v w F => Ow oApp 57 w F v apps),
   (3, [], fun _ v w F => ∃ us uq uo, v = .agg #[us, uq, uo] ∧ SimOw w F us uq uo s),
   (4, [], fun _ v w F => ∃ us uq uo, v = .tuple #[.agg #[us, uq, uo], .bool bl] ∧ SimOw w F us uq uo x),
   (8, [], fun _ v w F => ∃ g, v = .pointer (some ⟨g, 0, none⟩) ∧ F g ∧ w.heap[g]? = some (.cells #[.slice none 0 0, .slice none 0 0, .slice none 0 0] 28 (0, 0))),
   (9, [8, 6], fun ds _ w F => ∃ g us uq uo, ds = [.pointer (some ⟨g, 0, none⟩), .agg #[us, uq, uo]] ∧ F g ∧ w.heap[g]? = some (.cells #[us, uq, uo] 28 (0, 0)))]
theorem y8N_moves (apps : List AppD) (s : SimD) (x : SimD) (bl : Bool) : MovesDL (y8N apps s x bl) :=
  ⟨fun ds v w w' F h1 hm => Ow.move hm h1, fun ds v w w' F ⟨us, uq, uo, h1, h2⟩ hm => ⟨us, uq, uo, h1, h2.move hm⟩, fun ds v w w' F ⟨us, uq, uo, h1, h2⟩ hm => ⟨us, uq, uo, h1, h2.move hm⟩, fun ds v w w' F ⟨g, h1, h2, h3⟩ hm => ⟨g, h1, h2, (hm g h2).trans h3⟩, fun ds v w w' F ⟨g, us, uq, uo, h1, h2, h3⟩ hm => ⟨g, us, uq, uo, h1, h2, (hm g h2).trans h3⟩, trivial⟩
def y8P (apps : List AppD) (s : SimD) (x : SimD) (bl : Bool) : List Known := [(4, [], fun _ v => tupX bl v), (5, [4], fun ds v => ds = [v] ∧ tupX bl v), (6, [5], fun ds v => agg3 v ∧ ∀ a b, ds = [.tuple #[a, b]] → v = a), (7, [5], fun _ v => v = .bool bl), (10, [7], fun ds v => ds = [v])]
def y31N (apps : List AppD) (s : SimD) (x : SimD) (bl : Bool) : List HeldD :=
  [(1, [], fun _ v w F => Ow oApp 57 w F v apps),
   (3, [], fun _ v w F => ∃ us uq uo, v = .agg #[us, uq, uo] ∧ SimOw w F us uq uo s),
   (4, [], fun _ v w F => ∃ us uq uo, v = .tuple #[.agg #[us, uq, uo], .bool bl] ∧ SimOw w F us uq uo x),
   (8, [], fun _ v w F => ∃ g, v = .pointer (some ⟨g, 0, none⟩) ∧ F g ∧ w.heap[g]? = some (.cells #[.slice none 0 0, .slice none 0 0, .slice none 0 0] 28 (0, 0))),
   (9, [8, 6], fun ds _ w F => ∃ g us uq uo, ds = [.pointer (some ⟨g, 0, none⟩), .agg #[us, uq, uo]] ∧ F g ∧ w.heap[g]? = some (.cells #[us, uq, uo] 28 (0, 0)))]
theorem y31N_moves (apps : List AppD) (s : SimD) (x : SimD) (bl : Bool) : MovesDL (y31N apps s x bl) :=
  ⟨fun ds v w w' F h1 hm => Ow.move hm h1, fun ds v w w' F ⟨us, uq, uo, h1, h2⟩ hm => ⟨us, uq, uo, h1, h2.move hm⟩, fun ds v w w' F ⟨us, uq, uo, h1, h2⟩ hm => ⟨us, uq, uo, h1, h2.move hm⟩, fun ds v w w' F ⟨g, h1, h2, h3⟩ hm => ⟨g, h1, h2, (hm g h2).trans h3⟩, fun ds v w w' F ⟨g, us, uq, uo, h1, h2, h3⟩ hm => ⟨g, us, uq, uo, h1, h2, (hm g h2).trans h3⟩, trivial⟩
def y31P (apps : List AppD) (s : SimD) (x : SimD) (bl : Bool) : List Known := [(4, [], fun _ v => tupX bl v), (5, [4], fun ds v => ds = [v] ∧ tupX bl v), (6, [5], fun ds v => agg3 v ∧ ∀ a b, ds = [.tuple #[a, b]] → v = a), (7, [5], fun _ v => v = .bool bl), (10, [7], fun ds v => ds = [v])]
set_option maxHeartbeats 1000000 in
theorem FnExactSimStep_any (va : Value) (apps : List AppD) (vs vq vo : Value) (s : SimD) (w : World) (hA : Rd tApp w (fun k => k < w.heap.size) va apps) (h : SimRd w (fun k => k < w.heap.size) vs vq vo s) :
    Calls Tryz.prog 5 #[va, .agg #[vs, vq, vo]] w fun q w' => q = .returned (.bool true) ∧ Below w.heap.size w w' := by
  obtain ⟨x, bl, hx⟩ : ∃ x bl, simStep apps s = (x, bl) := ⟨_, _, rfl⟩
  have hle := hid (show x.states.length ≤ 1000 ∧ x.queue.length ≤ 1000 ∧ x.outs.length ≤ 1000 by have h9 := simStep_len apps s; rw [hx] at h9; exact h9)
  have HX := hid hx
  clear hx
  obtain ⟨A, c, rfl, -⟩ := hA.shape
  obtain ⟨S1, S1c, rfl, -⟩ := h.st.shape
  obtain ⟨S2, S2c, rfl, -⟩ := h.qu.shape
  obtain ⟨S3, S3c, rfl, -⟩ := h.ou.shape
  have hbb : (bl != bl) = false := by simp
  obtain ⟨t, ht⟩ : ∃ t, szTo 1048576 (apps.length + appsSz apps) = t := ⟨_, rfl⟩
  have HT := hid ht
  obtain ⟨t2, ht2⟩ : ∃ t2, szTo t ((s.states.length : Int) + (s.queue.length : Int) + (s.outs.length : Int)) = t2 := ⟨_, rfl⟩
  have HT2 := hid ht2
  clear ht2
  go_enter Tryz.func5, Tryz.ntmps5
  go_wp2_with fail
  have HB : Below w.heap.size w (w.alloc (.cells #[.slice S1 s.states.length S1c, .slice S2 s.queue.length S2c, .slice S3 s.outs.length S3c] 71)) := balloc (Below.refl _ _) _
  have X_s : (w.alloc (.cells #[.slice S1 s.states.length S1c, .slice S2 s.queue.length S2c, .slice S3 s.outs.length S3c] 71)).heap[w.heap.size]? = some (.cells #[.slice S1 s.states.length S1c, .slice S2 s.queue.length S2c, .slice S3 s.outs.length S3c] 71 (0, 0)) := heap_at rfl
  generalize w.alloc (.cells #[.slice S1 s.states.length S1c, .slice S2 s.queue.length S2c, .slice S3 s.outs.length S3c] 71) = W at *
  replace hA := hA.below HB
  replace h := h.below HB
  refine (szAppS_c _ apps 1048576 _ _ hA (by decide) (by decide)).mono ?_
  rintro q w1 ⟨rfl, hb1⟩
  replace HB := bthen HB hb1 HB.size
  replace X_s := below_heap hb1 (blk_lt X_s) X_s
  replace hA := hA.below hb1
  replace h := h.below hb1
  rw [ht]
  clear ht
  clear hb1
  have c_s0 : w1.cell? ⟨w.heap.size, 0, none⟩ = some (.slice S1 s.states.length S1c) := blk_cell X_s 0
  have c_s1 : w1.cell? ⟨w.heap.size, 1, none⟩ = some (.slice S2 s.queue.length S2c) := blk_cell X_s 1
  have c_s2 : w1.cell? ⟨w.heap.size, 2, none⟩ = some (.slice S3 s.outs.length S3c) := blk_cell X_s 2
  apply_assumption
  by_cases hneg : t < 0
  · have hd : decide (t < 0) = true := decide_eq_true hneg
    clear hneg
    go_wp2_with fail
    go_ret
    exact ⟨rfl, HB⟩
  have hd : decide (t < 0) = false := decide_eq_false hneg
  have hsz := hid (show t = 1048576 - (apps.length + appsSz apps) ∧ 0 ≤ t from szTo_pos HT.out hneg)
  have n1 := appsSz_bounds (apps := apps) (by have := hsz.out; omega)
  have ht0 : 0 ≤ t := hsz.out.2
  have ht1 : t ≤ 1048576 := by have := hsz.out; have := appsSz_nonneg apps; omega
  clear hneg
  go_wp2_with fail
  refine (szSim_c s _ _ _ t _ _ h ht0 ht1).mono ?_
  rintro q w2 ⟨rfl, hb2⟩
  clear c_s0 c_s1 c_s2
  replace HB := bthen HB hb2 HB.size
  replace X_s := below_heap hb2 (blk_lt X_s) X_s
  replace hA := hA.below hb2
  replace h := h.below hb2
  rw [HT2.out]
  clear hb2
  have c_s0 : w2.cell? ⟨w.heap.size, 0, none⟩ = some (.slice S1 s.states.length S1c) := blk_cell X_s 0
  have c_s1 : w2.cell? ⟨w.heap.size, 1, none⟩ = some (.slice S2 s.queue.length S2c) := blk_cell X_s 1
  have c_s2 : w2.cell? ⟨w.heap.size, 2, none⟩ = some (.slice S3 s.outs.length S3c) := blk_cell X_s 2
  apply_assumption
  by_cases hneg : t2 < 0
  · have hd : decide (t2 < 0) = true := decide_eq_true hneg
    clear hneg
    go_wp2_with fail
    go_ret
    exact ⟨rfl, HB⟩
  have hd2 : decide (t2 < 0) = false := decide_eq_false hneg
  have n2 : s.states.length ≤ 1048576 ∧ s.queue.length ≤ 1048576 ∧ s.outs.length ≤ 1048576 := by have h4 := szTo_pos HT2.out hneg; omega
  have HSZ := hid (show (apps.length : Int) + appsSz apps ≤ 1048576 by have := hsz.out; omega)
  clear hneg hsz
  go_upto_region 8 with fail
  have hS := hid h
  refine region_sg [.rd [0, 2], .par [(1, []), (3, []), (4, [1, 3]), (5, []), (6, []), (7, []), (8, []), (9, [8]), (10, [])] []] [] (by kernel_rfl) (by kernel_rfl) (fun _ _ d _ _ h => by cases d <;> exact h) ?_
  refine sg_rd (fun N hN => ?_)
  simp only [pickO, List.getElem?_toArray, List.getElem?_cons_zero, List.getElem?_cons_succ]
  go_wp2_with fail
  refine rd_next (hN _ ?_)
  clear hN N
  refine sgx_name fun a0 ha0 => ?_
  have sA := hid (show a0.tmps[28]? = some (.slice A apps.length c) by rw [ha0]; rfl)
  have sS := hid (show a0.tmps[30]? = some (.agg #[.slice S1 s.states.length S1c, .slice S2 s.queue.length S2c, .slice S3 s.outs.length S3c]) by rw [ha0]; rfl)
  have hsz := hid (show ∀ k, k < 35 → k < a0.tmps.size from fun k hk => by rw [ha0]; exact Nat.lt_of_lt_of_le hk (by show _ ≤ Array.size _; simp))
  have H0 := hid ha0
  clear ha0
  refine sg_parG [(1, some 29), (3, some 31), (4, some 32), (5, some 27), (6, some 33), (7, some 34), (8, some 6), (9, none), (10, some 7)] (by rfl) (fun _ => False) (NL (y8N apps s x bl)) (PPL (y8P apps s x bl)) (fun _ _ => False) (PPL_upd _ (by kernel_rfl)) (NL_upd _ (by kernel_rfl)) (NL_move _ (y8N_moves apps s x bl)) (fun w' hc => Agree.of_ch hc (fun _ hf => hf.elim)) (by simp) (by simp) (by simp) (parS_cons ?_ (parS_cons ?_ (parS_cons ?_ (parS_cons ?_ (parS_cons ?_ (parS_cons ?_ (parS_cons ?_ (parS_cons ?_ (parS_cons ?_ parS_nil))))))))) ?_
  · refine stepG_mk (by rfl) (by rfl) ?_
    intro u wq F1 hC hp hN hF hD K hK
    have q28 : (putL [(1, some 29), (3, some 31), (4, some 32), (5, some 27), (6, some 33), (7, some 34), (8, some 6), (9, none), (10, some 7)] a0 u).tmps[28]? = _ := (putL_out (k := 28) [(1, some 29), (3, some 31), (4, some 32), (5, some 27), (6, some 33), (7, some 34), (8, some 6), (9, none), (10, some 7)] a0 u (by rfl)).trans sA.out
    clear hp hN hF hD
    generalize putL [(1, some 29), (3, some 31), (4, some 32), (5, some 27), (6, some 33), (7, some 34), (8, some 6), (9, none), (10, some 7)] a0 u = a1 at *
    go_simp
    refine (toAppS_c _ apps _ wq (hA.below (⟨hC.below0.os, hC.below0.tape, hC.below0.output, hC.below0.size, hC.below0.block⟩ : Below w2.heap.size w2 wq)) n1.1 n1.2).mono ?_
    rintro q w5 ⟨v5, rfl, h5, hb5⟩
    have hn1 : NL (y8N apps s x bl) 1 (updV u 1 (v5)) w5 (fun k => wq.heap.size ≤ k ∧ k < w5.heap.size) := h5.bound
    have hp1 : PPL (y8P apps s x bl) 1 (updV u 1 (v5)) := trivial
    exact hK _ (v5) _ (fun k => wq.heap.size ≤ k ∧ k < w5.heap.size) rfl (Ch.of_below hb5) hn1 (fun k hk => ⟨.inr hk.1, hk.2⟩) hp1
  · refine stepG_mk (by rfl) (by rfl) ?_
    intro u wq F1 hC hp hN hF hD K hK
    have q30 : (putL [(1, some 29), (3, some 31), (4, some 32), (5, some 27), (6, some 33), (7, some 34), (8, some 6), (9, none), (10, some 7)] a0 u).tmps[30]? = _ := (putL_out (k := 30) [(1, some 29), (3, some 31), (4, some 32), (5, some 27), (6, some 33), (7, some 34), (8, some 6), (9, none), (10, some 7)] a0 u (by rfl)).trans sS.out
    clear hp hN hF hD
    generalize putL [(1, some 29), (3, some 31), (4, some 32), (5, some 27), (6, some 33), (7, some 34), (8, some 6), (9, none), (10, some 7)] a0 u = a1 at *
    go_simp
    refine (toSim_c s _ _ _ _ wq (hS.out.below (⟨hC.below0.os, hC.below0.tape, hC.below0.output, hC.below0.size, hC.below0.block⟩ : Below w2.heap.size w2 wq)) n2.1 n2.2.1 n2.2.2).mono ?_
    rintro q w5 ⟨us, uq, uo, rfl, h5, h6, h7, hb5⟩
    have hn1 : NL (y8N apps s x bl) 3 (updV u 3 (.agg #[us, uq, uo])) w5 (fun k => wq.heap.size ≤ k ∧ k < w5.heap.size) := ⟨us, uq, uo, rfl, ⟨h5.bound, h6.bound, h7.bound⟩⟩
    have hp1 : PPL (y8P apps s x bl) 3 (updV u 3 (.agg #[us, uq, uo])) := trivial
    exact hK _ (.agg #[us, uq, uo]) _ (fun k => wq.heap.size ≤ k ∧ k < w5.heap.size) rfl (Ch.of_below hb5) hn1 (fun k hk => ⟨.inr hk.1, hk.2⟩) hp1
  · refine stepG_mk (by rfl) (by rfl) ?_
    intro u wq F1 hC hp hN hF hD K hK
    have q29 : (putL [(1, some 29), (3, some 31), (4, some 32), (5, some 27), (6, some 33), (7, some 34), (8, some 6), (9, none), (10, some 7)] a0 u).tmps[29]? = some (u 1) := putL_in (k := 29) (i := 1) [(1, some 29), (3, some 31), (4, some 32), (5, some 27), (6, some 33), (7, some 34), (8, some 6), (9, none), (10, some 7)] a0 u (by rfl) (hsz.out 29 (by decide))
    have q31 : (putL [(1, some 29), (3, some 31), (4, some 32), (5, some 27), (6, some 33), (7, some 34), (8, some 6), (9, none), (10, some 7)] a0 u).tmps[31]? = some (u 3) := putL_in (k := 31) (i := 3) [(1, some 29), (3, some 31), (4, some 32), (5, some 27), (6, some 33), (7, some 34), (8, some 6), (9, none), (10, some 7)] a0 u (by rfl) (hsz.out 31 (by decide))
    have g1 : Ow oApp 57 wq (F1 1) (u 1) apps := hN 1 (by simp)
    obtain ⟨us, uq, uo, e2, g2⟩ : ∃ us uq uo, u 3 = .agg #[us, uq, uo] ∧ SimOw wq (F1 3) us uq uo s := hN 3 (by simp)
    rw [e2] at q31
    clear hp hN hF hD
    generalize putL [(1, some 29), (3, some 31), (4, some 32), (5, some 27), (6, some 33), (7, some 34), (8, some 6), (9, none), (10, some 7)] a0 u = a1 at *
    go_simp
    refine (stepS_call _ _ _ _ apps s _ _ wq g1.rdApps g2.rd HX.out).mono ?_
    rintro q w5 ⟨us, uq, uo, rfl, h5, hb5⟩
    have hn1 : NL (y8N apps s x bl) 4 (updV u 4 (.tuple #[.agg #[us, uq, uo], .bool bl])) w5 (fun k => wq.heap.size ≤ k ∧ k < w5.heap.size) := ⟨us, uq, uo, rfl, ⟨h5.st.bound, h5.qu.bound, h5.ou.bound⟩⟩
    have hp1 : PPL (y8P apps s x bl) 4 (updV u 4 (.tuple #[.agg #[us, uq, uo], .bool bl])) := tupX_mk h5
    exact hK _ (.tuple #[.agg #[us, uq, uo], .bool bl]) _ (fun k => wq.heap.size ≤ k ∧ k < w5.heap.size) rfl (Ch.of_below hb5) hn1 (fun k hk => ⟨.inr hk.1, hk.2⟩) hp1
  · refine stepG_pure (by rfl) (by rfl) (fun _ _ => trivial) ?_
    intro u wq hC hp
    have p12 : tupX bl (u 4) := hp 4 (by simp) (by kernel_rfl)
    have q : (putL [(1, some 29), (3, some 31), (4, some 32), (5, some 27), (6, some 33), (7, some 34), (8, some 6), (9, none), (10, some 7)] a0 u).eval (.tmp 32) = u 4 := eval_of (putL_in (k := 32) (i := 4) [(1, some 29), (3, some 31), (4, some 32), (5, some 27), (6, some 33), (7, some 34), (8, some 6), (9, none), (10, some 7)] a0 u (by rfl) (hsz.out 32 (by decide)))
    generalize putL [(1, some 29), (3, some 31), (4, some 32), (5, some 27), (6, some 33), (7, some 34), (8, some 6), (9, none), (10, some 7)] a0 u = a1 at *
    refine Exists.intro (u 4) (And.intro ?_ ?_)
    · intro K hK
      exact wp_move' (.inl (by rfl)) q hK
    · exact ⟨rfl, p12⟩
  · refine stepG_pure (by rfl) (by rfl) (fun _ _ => trivial) ?_
    intro u wq hC hp
    have p13 : [u 4] = [u 5] ∧ tupX bl (u 5) := hp 5 (by simp) (by kernel_rfl)
    obtain ⟨-, a9, e13, h9⟩ := p13
    have q : (putL [(1, some 29), (3, some 31), (4, some 32), (5, some 27), (6, some 33), (7, some 34), (8, some 6), (9, none), (10, some 7)] a0 u).eval (.tmp 27) = u 5 := eval_of (putL_in (k := 27) (i := 5) [(1, some 29), (3, some 31), (4, some 32), (5, some 27), (6, some 33), (7, some 34), (8, some 6), (9, none), (10, some 7)] a0 u (by rfl) (hsz.out 27 (by decide)))
    rw [e13] at q
    generalize putL [(1, some 29), (3, some 31), (4, some 32), (5, some 27), (6, some 33), (7, some 34), (8, some 6), (9, none), (10, some 7)] a0 u = a1 at *
    refine Exists.intro a9 (And.intro ?_ ?_)
    · intro K hK
      refine wp_extract (x := .tmp 27) (n := 0) (vs := #[a9, .bool bl]) (v := a9) ?_ ?_ ?_ ?_
      · rfl
      · exact q
      · rfl
      · exact hK
    · exact ⟨h9, fun a b he => by have h8 : [u 5] = [Value.tuple #[a, b]] := he; rw [e13] at h8; simp at h8; exact h8.1⟩
  · refine stepG_pure (by rfl) (by rfl) (fun _ _ => trivial) ?_
    intro u wq hC hp
    have p13 : [u 4] = [u 5] ∧ tupX bl (u 5) := hp 5 (by simp) (by kernel_rfl)
    obtain ⟨-, a9, e13, h9⟩ := p13
    have q : (putL [(1, some 29), (3, some 31), (4, some 32), (5, some 27), (6, some 33), (7, some 34), (8, some 6), (9, none), (10, some 7)] a0 u).eval (.tmp 27) = u 5 := eval_of (putL_in (k := 27) (i := 5) [(1, some 29), (3, some 31), (4, some 32), (5, some 27), (6, some 33), (7, some 34), (8, some 6), (9, none), (10, some 7)] a0 u (by rfl) (hsz.out 27 (by decide)))
    rw [e13] at q
    generalize putL [(1, some 29), (3, some 31), (4, some 32), (5, some 27), (6, some 33), (7, some 34), (8, some 6), (9, none), (10, some 7)] a0 u = a1 at *
    refine Exists.intro (.bool bl) (And.intro ?_ ?_)
    · intro K hK
      refine wp_extract (x := .tmp 27) (n := 1) (vs := #[a9, .bool bl]) (v := (.bool bl)) ?_ ?_ ?_ ?_
      · rfl
      · exact q
      · rfl
      · exact hK
    · exact rfl
  · refine stepG_mk (by rfl) (by rfl) ?_
    intro u wq F1 hC hp hN hF hD K hK
    clear hp hN hF hD
    generalize putL [(1, some 29), (3, some 31), (4, some 32), (5, some 27), (6, some 33), (7, some 34), (8, some 6), (9, none), (10, some 7)] a0 u = a1 at *
    go_simp
    have hn1 : NL (y8N apps s x bl) 8 (updV u 8 (.pointer (some ⟨wq.heap.size, 0, none⟩))) (wq.alloc (.cells #[.slice none 0 0, .slice none 0 0, .slice none 0 0] 28)) (fun k => k = wq.heap.size) := ⟨_, rfl, rfl, heap_at rfl⟩
    exact hK _ (.pointer (some ⟨wq.heap.size, 0, none⟩)) _ (fun k => k = wq.heap.size) rfl ((Ch.refl _ _).alloc _) hn1 (fun k hk => by subst hk; exact ⟨.inr (Nat.le_refl _), by simp⟩) trivial
  · refine stepG_mk (by rfl) (by rfl) ?_
    intro u wq F1 hC hp hN hF hD K hK
    have q1 : (putL [(1, some 29), (3, some 31), (4, some 32), (5, some 27), (6, some 33), (7, some 34), (8, some 6), (9, none), (10, some 7)] a0 u).eval (.tmp 6) = u 8 := eval_of (putL_in (k := 6) (i := 8) [(1, some 29), (3, some 31), (4, some 32), (5, some 27), (6, some 33), (7, some 34), (8, some 6), (9, none), (10, some 7)] a0 u (by rfl) (hsz.out 6 (by decide)))
    have q2 : (putL [(1, some 29), (3, some 31), (4, some 32), (5, some 27), (6, some 33), (7, some 34), (8, some 6), (9, none), (10, some 7)] a0 u).eval (.tmp 33) = u 6 := eval_of (putL_in (k := 33) (i := 6) [(1, some 29), (3, some 31), (4, some 32), (5, some 27), (6, some 33), (7, some 34), (8, some 6), (9, none), (10, some 7)] a0 u (by rfl) (hsz.out 33 (by decide)))
    generalize putL [(1, some 29), (3, some 31), (4, some 32), (5, some 27), (6, some 33), (7, some 34), (8, some 6), (9, none), (10, some 7)] a0 u = a1 at *
    obtain ⟨g, e17, f17, B17⟩ : ∃ g, u 8 = .pointer (some ⟨g, 0, none⟩) ∧ F1 8 g ∧ wq.heap[g]? = some (.cells #[.slice none 0 0, .slice none 0 0, .slice none 0 0] 28 (0, 0)) := hN 8 (by simp)
    obtain ⟨⟨us, uq, uo, p14, o1, o2, o3⟩, -⟩ : agg3 (u 6) ∧ ∀ a b, [u 5] = [Value.tuple #[a, b]] → u 6 = a := hp 6 (by simp) (by kernel_rfl)
    have hgl := (hF 8 (by simp) g f17).2
    rw [e17] at q1
    rw [p14] at q2
    refine wp_store_mid 28 (.tmp 6) (.tmp 33) (by rfl) g 0 #[us, uq, uo] q1 q2 (there_of_block B17 (by simp)) (by kernel_rfl) (by simp [o1, o2, o3]) ?_
    have hn1 : NL (y8N apps s x bl) 9 (updV u 9 undef) (wq.setCells g 0 [us, uq, uo]) (fun k => k = g) := ⟨g, us, uq, uo, (show [u 8, u 6] = _ by rw [e17, p14]), rfl, blk_ovw _ 0 wq [.slice none 0 0, .slice none 0 0, .slice none 0 0] B17⟩
    exact hK _ undef _ (fun k => k = g) rfl (Ch.setCells _ _ _ (Ch.refl _ _) (.inl ⟨8, by simp, f17⟩)) hn1 (fun k hk => by subst hk; exact ⟨.inl ⟨8, by simp, f17⟩, by rw [size_setCells]; exact hgl⟩) trivial
  · refine stepG_pure (by rfl) (by rfl) (fun _ _ => trivial) ?_
    intro u wq hC hp
    have q : (putL [(1, some 29), (3, some 31), (4, some 32), (5, some 27), (6, some 33), (7, some 34), (8, some 6), (9, none), (10, some 7)] a0 u).eval (.tmp 34) = u 7 := eval_of (putL_in (k := 34) (i := 7) [(1, some 29), (3, some 31), (4, some 32), (5, some 27), (6, some 33), (7, some 34), (8, some 6), (9, none), (10, some 7)] a0 u (by rfl) (hsz.out 34 (by decide)))
    generalize putL [(1, some 29), (3, some 31), (4, some 32), (5, some 27), (6, some 33), (7, some 34), (8, some 6), (9, none), (10, some 7)] a0 u = a1 at *
    refine Exists.intro (u 7) (And.intro ?_ ?_)
    · intro K hK
      exact wp_move' (.inr (by rfl)) q hK
    · exact rfl
  intro K hK u w7 F1 hC hD hF hN hpp
  obtain ⟨us, uq, uo, g12, n12⟩ : ∃ us uq uo, u 4 = .tuple #[.agg #[us, uq, uo], .bool bl] ∧ SimOw w7 (F1 4) us uq uo x := hN 4 (by rfl)
  obtain ⟨gw, us9, uq9, uo9, g17, f17, BX3⟩ : ∃ g us uq uo, [u 8, u 6] = [.pointer (some ⟨g, 0, none⟩), .agg #[us, uq, uo]] ∧ F1 9 g ∧ w7.heap[g]? = some (.cells #[us, uq, uo] 28 (0, 0)) := hN 9 (by rfl)
  have g17a : u 8 = .pointer (some ⟨gw, 0, none⟩) := by simp at g17; exact g17.1
  have g17b : u 6 = .agg #[us9, uq9, uo9] := by simp at g17; exact g17.2
  have p13 : [u 4] = [u 5] ∧ tupX bl (u 5) := hpp 5 (by simp)
  have e13 : u 5 = u 4 := by have := p13.1; simp at this; exact this.symm
  have e14 := (show agg3 (u 6) ∧ ∀ a b, [u 5] = [Value.tuple #[a, b]] → u 6 = a from hpp 6 (by simp)).2
  have e15 : u 7 = .bool bl := hpp 7 (by simp)
  have e19 : u 10 = u 7 := by have q : [u 7] = [u 10] := hpp 10 (by simp); simp at q; exact q.symm
  rw [g12] at e13
  have e16 := e14 _ _ (by rw [e13])
  rw [g17b] at e16
  injection e16 with e16
  simp only [Array.mk.injEq, List.cons.injEq, and_true] at e16
  obtain ⟨rfl, rfl, rfl⟩ := e16
  rw [e15] at e19
  clear hpp p13 e14 g17
  have hgw : w2.heap.size ≤ gw ∧ gw < w7.heap.size := by have := hF 9 gw (by rfl) f17; refine ⟨?_, this.2⟩; rcases this.1 with q | q; exact q.elim; simpa using q
  have n7 := n12.mono (F' := fun k => w2.heap.size ≤ k ∧ k < w7.heap.size) (fun k hk => by have := hF 4 k (by rfl) hk; refine ⟨?_, this.2⟩; rcases this.1 with q | q; exact q.elim; simpa using q)
  have HS : Below w2.heap.size w2 w7 := ⟨hC.below0.os, hC.below0.tape, hC.below0.output, hC.below0.size, hC.below0.block⟩
  have HA : Agree w2.drew w7 := Agree.of_ch hC (fun _ hf => hf.elim)
  clear hN hF hD hC n12 f17
  rw [H0.out]
  clear sA sS hsz H0 a0
  simp only [putL_cons, putL_nil]
  obtain ⟨P1, P1c, rfl, -⟩ := n7.st.shape
  obtain ⟨P2, P2c, rfl, -⟩ := n7.qu.shape
  obtain ⟨P3, P3c, rfl, -⟩ := n7.ou.shape
  generalize u 1 = u_1 at *
  generalize u 3 = u_3 at *
  generalize u 4 = u_4 at *
  generalize u 5 = u_5 at *
  generalize u 6 = u_6 at *
  generalize u 7 = u_7 at *
  generalize u 8 = u_8 at *
  generalize u 9 = u_9 at *
  generalize u 10 = u_10 at *
  subst g12 g17a g17b e13 e15 e19
  go_simp
  refine hK _ _ HA ?_
  clear hK K F1 HA
  refine sg_fin ?_
  simp only [pickO]
  clear c_s0 c_s1 c_s2
  replace HB := bthen HB HS HB.size
  replace X_s := below_heap HS (blk_lt X_s) X_s
  replace hA := hA.below HS
  replace h := h.below HS
  have X_w := BX3; have n_w := n7; clear BX3 n7 hS
  obtain ⟨s7, hs7⟩ : ∃ n, Hid (w7.heap.size ≤ n ∧ n ≤ w7.heap.size ∧ w.heap.size < n ∧ gw < n) := ⟨_, Nat.le_refl _, Nat.le_refl _, blk_lt X_s, hgw.2⟩
  replace n_w := n_w.mono (F' := fun k => k < s7) (fun k hk => by have := hs7.out; have h3 : k < w7.heap.size := hk.2; show k < s7; omega)
  clear hgw HS
  have c_s0 : w7.cell? ⟨w.heap.size, 0, none⟩ = some (.slice S1 s.states.length S1c) := blk_cell X_s 0
  have c_s1 : w7.cell? ⟨w.heap.size, 1, none⟩ = some (.slice S2 s.queue.length S2c) := blk_cell X_s 1
  have c_s2 : w7.cell? ⟨w.heap.size, 2, none⟩ = some (.slice S3 s.outs.length S3c) := blk_cell X_s 2
  have c_w0 : w7.cell? ⟨gw, 0, none⟩ = some (.slice P1 x.states.length P1c) := blk_cell X_w 0
  have c_w1 : w7.cell? ⟨gw, 1, none⟩ = some (.slice P2 x.queue.length P2c) := blk_cell X_w 1
  have c_w2 : w7.cell? ⟨gw, 2, none⟩ = some (.slice P3 x.outs.length P3c) := blk_cell X_w 2
  go_wp2_with fail
  refine (toAppS_c _ apps _ _ hA n1.1 n1.2).mono ?_
  rintro q w8 ⟨v8, rfl, n_x, hb8⟩
  replace n_x := n_x.bound
  obtain ⟨Q1, q1, rfl, -⟩ := n_x.shape
  clear c_s0 c_s1 c_s2 c_w0 c_w1 c_w2
  replace HB := bthen HB hb8 HB.size
  replace X_s := below_heap hb8 (blk_lt X_s) X_s
  replace X_w := below_heap hb8 (blk_lt X_w) X_w
  replace n_w := n_w.below hb8
  replace hA := hA.below hb8
  replace h := h.below hb8
  obtain ⟨s8, hs8⟩ : ∃ n, Hid (w8.heap.size ≤ n ∧ n ≤ w8.heap.size ∧ s7 ≤ n) := ⟨_, Nat.le_refl _, Nat.le_refl _, by have := hs7.out; have := hb8.size; omega⟩
  replace n_x := n_x.mono (F' := fun k => s7 ≤ k ∧ k < s8) (fun k hk => by have := hs7.out; have := hs8.out; have h3 : w7.heap.size ≤ k := hk.1; have h4 : k < w8.heap.size := hk.2; exact ⟨by omega, by omega⟩)
  clear hb8
  have c_s0 : w8.cell? ⟨w.heap.size, 0, none⟩ = some (.slice S1 s.states.length S1c) := blk_cell X_s 0
  have c_s1 : w8.cell? ⟨w.heap.size, 1, none⟩ = some (.slice S2 s.queue.length S2c) := blk_cell X_s 1
  have c_s2 : w8.cell? ⟨w.heap.size, 2, none⟩ = some (.slice S3 s.outs.length S3c) := blk_cell X_s 2
  have c_w0 : w8.cell? ⟨gw, 0, none⟩ = some (.slice P1 x.states.length P1c) := blk_cell X_w 0
  have c_w1 : w8.cell? ⟨gw, 1, none⟩ = some (.slice P2 x.queue.length P2c) := blk_cell X_w 1
  have c_w2 : w8.cell? ⟨gw, 2, none⟩ = some (.slice P3 x.outs.length P3c) := blk_cell X_w 2
  apply_assumption
  go_wp2_with fail
  refine (toSim_c s _ _ _ _ _ h n2.1 n2.2.1 n2.2.2).mono ?_
  rintro q w9 ⟨us, uq, uo, rfl, g1, g2, g3, hb9⟩
  have n_z : SimOw w9 (fun k => w8.heap.size ≤ k ∧ k < w9.heap.size) us uq uo s := ⟨g1.bound, g2.bound, g3.bound⟩
  clear g1 g2 g3
  obtain ⟨Z1, Z1c, rfl, -⟩ := n_z.st.shape
  obtain ⟨Z2, Z2c, rfl, -⟩ := n_z.qu.shape
  obtain ⟨Z3, Z3c, rfl, -⟩ := n_z.ou.shape
  clear c_s0 c_s1 c_s2 c_w0 c_w1 c_w2
  replace HB := bthen HB hb9 HB.size
  replace X_s := below_heap hb9 (blk_lt X_s) X_s
  replace X_w := below_heap hb9 (blk_lt X_w) X_w
  replace n_w := n_w.below hb9
  replace n_x := n_x.below hb9
  replace hA := hA.below hb9
  replace h := h.below hb9
  obtain ⟨s9, hs9⟩ : ∃ n, Hid (w9.heap.size ≤ n ∧ n ≤ w9.heap.size ∧ s8 ≤ n) := ⟨_, Nat.le_refl _, Nat.le_refl _, by have := hs8.out; have := hb9.size; omega⟩
  replace n_z := n_z.mono (F' := fun k => s8 ≤ k ∧ k < s9) (fun k hk => by have := hs8.out; have := hs9.out; have h3 : w8.heap.size ≤ k := hk.1; have h4 : k < w9.heap.size := hk.2; exact ⟨by omega, by omega⟩)
  clear hb9
  have c_s0 : w9.cell? ⟨w.heap.size, 0, none⟩ = some (.slice S1 s.states.length S1c) := blk_cell X_s 0
  have c_s1 : w9.cell? ⟨w.heap.size, 1, none⟩ = some (.slice S2 s.queue.length S2c) := blk_cell X_s 1
  have c_s2 : w9.cell? ⟨w.heap.size, 2, none⟩ = some (.slice S3 s.outs.length S3c) := blk_cell X_s 2
  have c_w0 : w9.cell? ⟨gw, 0, none⟩ = some (.slice P1 x.states.length P1c) := blk_cell X_w 0
  have c_w1 : w9.cell? ⟨gw, 1, none⟩ = some (.slice P2 x.queue.length P2c) := blk_cell X_w 1
  have c_w2 : w9.cell? ⟨gw, 2, none⟩ = some (.slice P3 x.outs.length P3c) := blk_cell X_w 2
  apply_assumption
  go_upto_region 11 with fail
  clear c_s0 c_s1 c_s2 c_w0 c_w1 c_w2
  have hbx := balloc (Below.refl w9.heap.size w9) (.cells #[.slice Z1 s.states.length Z1c, .slice Z2 s.queue.length Z2c, .slice Z3 s.outs.length Z3c] 28)
  have X_z : (w9.alloc (.cells #[.slice Z1 s.states.length Z1c, .slice Z2 s.queue.length Z2c, .slice Z3 s.outs.length Z3c] 28)).heap[w9.heap.size]? = some (.cells #[.slice Z1 s.states.length Z1c, .slice Z2 s.queue.length Z2c, .slice Z3 s.outs.length Z3c] 28 (0, 0)) := heap_at rfl
  replace HB := bthen HB hbx HB.size
  replace X_s := below_heap hbx (blk_lt X_s) X_s
  replace X_w := below_heap hbx (blk_lt X_w) X_w
  replace n_w := n_w.below hbx
  replace n_x := n_x.below hbx
  replace n_z := n_z.below hbx
  replace hA := hA.below hbx
  replace h := h.below hbx
  obtain ⟨gz, hg⟩ : ∃ g, g = w9.heap.size := ⟨_, rfl⟩
  rw [← hg] at X_z
  simp only [← hg]
  have Hgz := hid (show gz ≤ w9.heap.size ∧ w9.heap.size ≤ gz by omega)
  generalize w9.alloc (.cells #[.slice Z1 s.states.length Z1c, .slice Z2 s.queue.length Z2c, .slice Z3 s.outs.length Z3c] 28) = W9 at *
  clear hg hbx
  have c_s0 : W9.cell? ⟨w.heap.size, 0, none⟩ = some (.slice S1 s.states.length S1c) := blk_cell X_s 0
  have c_s1 : W9.cell? ⟨w.heap.size, 1, none⟩ = some (.slice S2 s.queue.length S2c) := blk_cell X_s 1
  have c_s2 : W9.cell? ⟨w.heap.size, 2, none⟩ = some (.slice S3 s.outs.length S3c) := blk_cell X_s 2
  have c_w0 : W9.cell? ⟨gw, 0, none⟩ = some (.slice P1 x.states.length P1c) := blk_cell X_w 0
  have c_w1 : W9.cell? ⟨gw, 1, none⟩ = some (.slice P2 x.queue.length P2c) := blk_cell X_w 1
  have c_w2 : W9.cell? ⟨gw, 2, none⟩ = some (.slice P3 x.outs.length P3c) := blk_cell X_w 2
  have c_z0 : W9.cell? ⟨gz, 0, none⟩ = some (.slice Z1 s.states.length Z1c) := blk_cell X_z 0
  have c_z1 : W9.cell? ⟨gz, 1, none⟩ = some (.slice Z2 s.queue.length Z2c) := blk_cell X_z 1
  have c_z2 : W9.cell? ⟨gz, 2, none⟩ = some (.slice Z3 s.outs.length Z3c) := blk_cell X_z 2
  go_wp2_with fail
  refine (stepI_call _ _ _ _ apps s _ _ _ n_x.rdApps n_z.rd HX.out).mono ?_
  rintro q w10 ⟨us, uq, uo, rfl, n_g, hb10⟩
  obtain ⟨G1, G1c, rfl, -⟩ := n_g.st.shape
  obtain ⟨G2, G2c, rfl, -⟩ := n_g.qu.shape
  obtain ⟨G3, G3c, rfl, -⟩ := n_g.ou.shape
  clear c_s0 c_s1 c_s2 c_w0 c_w1 c_w2 c_z0 c_z1 c_z2
  have hWs := hid (show gz < W9.heap.size from blk_lt X_z)
  replace n_g := n_g.mono (F' := fun k => s9 ≤ k) (fun k hk => by have := hs9.out; have := Hgz.out; have := hWs.out; have h3 : W9.heap.size ≤ k := hk; show s9 ≤ k; omega)
  have hWt := hid (show s9 ≤ w10.heap.size by have := hs9.out; have := Hgz.out; have := hWs.out; have := hb10.size; omega)
  replace HB := bthen HB hb10 HB.size
  replace X_s := below_heap hb10 (blk_lt X_s) X_s
  replace X_w := below_heap hb10 (blk_lt X_w) X_w
  replace X_z := below_heap hb10 (blk_lt X_z) X_z
  replace n_w := n_w.below hb10
  replace n_x := n_x.below hb10
  replace n_z := n_z.below hb10
  replace hA := hA.below hb10
  replace h := h.below hb10
  clear hb10 hWs
  have c_s0 : w10.cell? ⟨w.heap.size, 0, none⟩ = some (.slice S1 s.states.length S1c) := blk_cell X_s 0
  have c_s1 : w10.cell? ⟨w.heap.size, 1, none⟩ = some (.slice S2 s.queue.length S2c) := blk_cell X_s 1
  have c_s2 : w10.cell? ⟨w.heap.size, 2, none⟩ = some (.slice S3 s.outs.length S3c) := blk_cell X_s 2
  have c_w0 : w10.cell? ⟨gw, 0, none⟩ = some (.slice P1 x.states.length P1c) := blk_cell X_w 0
  have c_w1 : w10.cell? ⟨gw, 1, none⟩ = some (.slice P2 x.queue.length P2c) := blk_cell X_w 1
  have c_w2 : w10.cell? ⟨gw, 2, none⟩ = some (.slice P3 x.outs.length P3c) := blk_cell X_w 2
  have c_z0 : w10.cell? ⟨gz, 0, none⟩ = some (.slice Z1 s.states.length Z1c) := blk_cell X_z 0
  have c_z1 : w10.cell? ⟨gz, 1, none⟩ = some (.slice Z2 s.queue.length Z2c) := blk_cell X_z 1
  have c_z2 : w10.cell? ⟨gz, 2, none⟩ = some (.slice Z3 s.outs.length Z3c) := blk_cell X_z 2
  apply_assumption
  go_upto_region 12 with fail
  clear c_s0 c_s1 c_s2 c_w0 c_w1 c_w2 c_z0 c_z1 c_z2
  have hbx := balloc (Below.refl w10.heap.size w10) (.cells #[.slice G1 x.states.length G1c, .slice G2 x.queue.length G2c, .slice G3 x.outs.length G3c] 28)
  have X_g : (w10.alloc (.cells #[.slice G1 x.states.length G1c, .slice G2 x.queue.length G2c, .slice G3 x.outs.length G3c] 28)).heap[w10.heap.size]? = some (.cells #[.slice G1 x.states.length G1c, .slice G2 x.queue.length G2c, .slice G3 x.outs.length G3c] 28 (0, 0)) := heap_at rfl
  replace HB := bthen HB hbx HB.size
  replace X_s := below_heap hbx (blk_lt X_s) X_s
  replace X_w := below_heap hbx (blk_lt X_w) X_w
  replace X_z := below_heap hbx (blk_lt X_z) X_z
  replace n_w := n_w.below hbx
  replace n_x := n_x.below hbx
  replace n_z := n_z.below hbx
  replace n_g := n_g.below hbx
  replace hA := hA.below hbx
  replace h := h.below hbx
  obtain ⟨gg, hg⟩ : ∃ g, g = w10.heap.size := ⟨_, rfl⟩
  rw [← hg] at X_g
  simp only [← hg]
  have Hgg := hid (show gg ≤ w10.heap.size ∧ w10.heap.size ≤ gg by omega)
  generalize w10.alloc (.cells #[.slice G1 x.states.length G1c, .slice G2 x.queue.length G2c, .slice G3 x.outs.length G3c] 28) = W10 at *
  clear hg hbx
  have Hgg' := hid (show s9 ≤ gg by have := hWt.out; have := Hgg.out; omega)
  clear hWt
  have c_s0 : W10.cell? ⟨w.heap.size, 0, none⟩ = some (.slice S1 s.states.length S1c) := blk_cell X_s 0
  have c_s1 : W10.cell? ⟨w.heap.size, 1, none⟩ = some (.slice S2 s.queue.length S2c) := blk_cell X_s 1
  have c_s2 : W10.cell? ⟨w.heap.size, 2, none⟩ = some (.slice S3 s.outs.length S3c) := blk_cell X_s 2
  have c_w0 : W10.cell? ⟨gw, 0, none⟩ = some (.slice P1 x.states.length P1c) := blk_cell X_w 0
  have c_w1 : W10.cell? ⟨gw, 1, none⟩ = some (.slice P2 x.queue.length P2c) := blk_cell X_w 1
  have c_w2 : W10.cell? ⟨gw, 2, none⟩ = some (.slice P3 x.outs.length P3c) := blk_cell X_w 2
  have c_z0 : W10.cell? ⟨gz, 0, none⟩ = some (.slice Z1 s.states.length Z1c) := blk_cell X_z 0
  have c_z1 : W10.cell? ⟨gz, 1, none⟩ = some (.slice Z2 s.queue.length Z2c) := blk_cell X_z 1
  have c_z2 : W10.cell? ⟨gz, 2, none⟩ = some (.slice Z3 s.outs.length Z3c) := blk_cell X_z 2
  have c_g0 : W10.cell? ⟨gg, 0, none⟩ = some (.slice G1 x.states.length G1c) := blk_cell X_g 0
  have c_g1 : W10.cell? ⟨gg, 1, none⟩ = some (.slice G2 x.queue.length G2c) := blk_cell X_g 1
  have c_g2 : W10.cell? ⟨gg, 2, none⟩ = some (.slice G3 x.outs.length G3c) := blk_cell X_g 2
  go_wp2_with fail
  refine (eqSimX x _ _ _ _ _ _ _ _ _ n_g.rd n_w.rd).mono ?_
  rintro q w11 ⟨rfl, hb11⟩
  clear c_s0 c_s1 c_s2 c_w0 c_w1 c_w2 c_z0 c_z1 c_z2 c_g0 c_g1 c_g2
  replace HB := bthen HB hb11 HB.size
  replace X_s := below_heap hb11 (blk_lt X_s) X_s
  replace X_w := below_heap hb11 (blk_lt X_w) X_w
  replace X_z := below_heap hb11 (blk_lt X_z) X_z
  replace X_g := below_heap hb11 (blk_lt X_g) X_g
  replace n_w := n_w.below hb11
  replace n_x := n_x.below hb11
  replace n_z := n_z.below hb11
  replace n_g := n_g.below hb11
  replace hA := hA.below hb11
  replace h := h.below hb11
  clear hb11
  have c_s0 : w11.cell? ⟨w.heap.size, 0, none⟩ = some (.slice S1 s.states.length S1c) := blk_cell X_s 0
  have c_s1 : w11.cell? ⟨w.heap.size, 1, none⟩ = some (.slice S2 s.queue.length S2c) := blk_cell X_s 1
  have c_s2 : w11.cell? ⟨w.heap.size, 2, none⟩ = some (.slice S3 s.outs.length S3c) := blk_cell X_s 2
  have c_w0 : w11.cell? ⟨gw, 0, none⟩ = some (.slice P1 x.states.length P1c) := blk_cell X_w 0
  have c_w1 : w11.cell? ⟨gw, 1, none⟩ = some (.slice P2 x.queue.length P2c) := blk_cell X_w 1
  have c_w2 : w11.cell? ⟨gw, 2, none⟩ = some (.slice P3 x.outs.length P3c) := blk_cell X_w 2
  have c_z0 : w11.cell? ⟨gz, 0, none⟩ = some (.slice Z1 s.states.length Z1c) := blk_cell X_z 0
  have c_z1 : w11.cell? ⟨gz, 1, none⟩ = some (.slice Z2 s.queue.length Z2c) := blk_cell X_z 1
  have c_z2 : w11.cell? ⟨gz, 2, none⟩ = some (.slice Z3 s.outs.length Z3c) := blk_cell X_z 2
  have c_g0 : w11.cell? ⟨gg, 0, none⟩ = some (.slice G1 x.states.length G1c) := blk_cell X_g 0
  have c_g1 : w11.cell? ⟨gg, 1, none⟩ = some (.slice G2 x.queue.length G2c) := blk_cell X_g 1
  have c_g2 : w11.cell? ⟨gg, 2, none⟩ = some (.slice G3 x.outs.length G3c) := blk_cell X_g 2
  apply_assumption
  go_wp2_with fail
  refine (toAppS_c _ apps _ _ hA n1.1 n1.2).mono ?_
  rintro q w12 ⟨v12, rfl, n_y, hb12⟩
  obtain ⟨Y1, y1, rfl, -⟩ := n_y.shape
  clear c_s0 c_s1 c_s2 c_w0 c_w1 c_w2 c_z0 c_z1 c_z2 c_g0 c_g1 c_g2
  replace HB := bthen HB hb12 HB.size
  replace X_s := below_heap hb12 (blk_lt X_s) X_s
  replace X_w := below_heap hb12 (blk_lt X_w) X_w
  replace X_z := below_heap hb12 (blk_lt X_z) X_z
  replace X_g := below_heap hb12 (blk_lt X_g) X_g
  replace n_w := n_w.below hb12
  replace n_x := n_x.below hb12
  replace n_z := n_z.below hb12
  replace n_g := n_g.below hb12
  replace hA := hA.below hb12
  replace h := h.below hb12
  clear hb12
  have c_s0 : w12.cell? ⟨w.heap.size, 0, none⟩ = some (.slice S1 s.states.length S1c) := blk_cell X_s 0
  have c_s1 : w12.cell? ⟨w.heap.size, 1, none⟩ = some (.slice S2 s.queue.length S2c) := blk_cell X_s 1
  have c_s2 : w12.cell? ⟨w.heap.size, 2, none⟩ = some (.slice S3 s.outs.length S3c) := blk_cell X_s 2
  have c_w0 : w12.cell? ⟨gw, 0, none⟩ = some (.slice P1 x.states.length P1c) := blk_cell X_w 0
  have c_w1 : w12.cell? ⟨gw, 1, none⟩ = some (.slice P2 x.queue.length P2c) := blk_cell X_w 1
  have c_w2 : w12.cell? ⟨gw, 2, none⟩ = some (.slice P3 x.outs.length P3c) := blk_cell X_w 2
  have c_z0 : w12.cell? ⟨gz, 0, none⟩ = some (.slice Z1 s.states.length Z1c) := blk_cell X_z 0
  have c_z1 : w12.cell? ⟨gz, 1, none⟩ = some (.slice Z2 s.queue.length Z2c) := blk_cell X_z 1
  have c_z2 : w12.cell? ⟨gz, 2, none⟩ = some (.slice Z3 s.outs.length Z3c) := blk_cell X_z 2
  have c_g0 : w12.cell? ⟨gg, 0, none⟩ = some (.slice G1 x.states.length G1c) := blk_cell X_g 0
  have c_g1 : w12.cell? ⟨gg, 1, none⟩ = some (.slice G2 x.queue.length G2c) := blk_cell X_g 1
  have c_g2 : w12.cell? ⟨gg, 2, none⟩ = some (.slice G3 x.outs.length G3c) := blk_cell X_g 2
  apply_assumption
  go_wp2_with fail
  refine (eqAppSX apps _ _ _ _ _ n_x.rdApps n_y.rdApps).mono ?_
  rintro q w13 ⟨rfl, hb13⟩
  clear c_s0 c_s1 c_s2 c_w0 c_w1 c_w2 c_z0 c_z1 c_z2 c_g0 c_g1 c_g2
  replace HB := bthen HB hb13 HB.size
  replace X_s := below_heap hb13 (blk_lt X_s) X_s
  replace X_w := below_heap hb13 (blk_lt X_w) X_w
  replace X_z := below_heap hb13 (blk_lt X_z) X_z
  replace X_g := below_heap hb13 (blk_lt X_g) X_g
  replace n_w := n_w.below hb13
  replace n_x := n_x.below hb13
  replace n_z := n_z.below hb13
  replace n_g := n_g.below hb13
  replace hA := hA.below hb13
  replace h := h.below hb13
  clear n_y
  clear hb13
  have c_s0 : w13.cell? ⟨w.heap.size, 0, none⟩ = some (.slice S1 s.states.length S1c) := blk_cell X_s 0
  have c_s1 : w13.cell? ⟨w.heap.size, 1, none⟩ = some (.slice S2 s.queue.length S2c) := blk_cell X_s 1
  have c_s2 : w13.cell? ⟨w.heap.size, 2, none⟩ = some (.slice S3 s.outs.length S3c) := blk_cell X_s 2
  have c_w0 : w13.cell? ⟨gw, 0, none⟩ = some (.slice P1 x.states.length P1c) := blk_cell X_w 0
  have c_w1 : w13.cell? ⟨gw, 1, none⟩ = some (.slice P2 x.queue.length P2c) := blk_cell X_w 1
  have c_w2 : w13.cell? ⟨gw, 2, none⟩ = some (.slice P3 x.outs.length P3c) := blk_cell X_w 2
  have c_z0 : w13.cell? ⟨gz, 0, none⟩ = some (.slice Z1 s.states.length Z1c) := blk_cell X_z 0
  have c_z1 : w13.cell? ⟨gz, 1, none⟩ = some (.slice Z2 s.queue.length Z2c) := blk_cell X_z 1
  have c_z2 : w13.cell? ⟨gz, 2, none⟩ = some (.slice Z3 s.outs.length Z3c) := blk_cell X_z 2
  have c_g0 : w13.cell? ⟨gg, 0, none⟩ = some (.slice G1 x.states.length G1c) := blk_cell X_g 0
  have c_g1 : w13.cell? ⟨gg, 1, none⟩ = some (.slice G2 x.queue.length G2c) := blk_cell X_g 1
  have c_g2 : w13.cell? ⟨gg, 2, none⟩ = some (.slice G3 x.outs.length G3c) := blk_cell X_g 2
  apply_assumption
  go_upto_region 16 with fail
  refine region_sg [.rd [0, 1], .mid 2] [3, 4] (by kernel_rfl) (by kernel_rfl) (fun _ _ d _ _ h => by cases d <;> exact h) ?_
  refine sg_rd (fun N hN => ?_)
  simp only [pickO, List.getElem?_toArray, List.getElem?_cons_zero, List.getElem?_cons_succ]
  go_wp2_with fail
  refine rd_next (hN _ ?_)
  clear hN N
  refine sg_mid (fun N hN => ?_)
  simp only [pickO, List.getElem?_toArray, List.getElem?_cons_zero, List.getElem?_cons_succ]
  go_wp2_with fail
  have hbd := (Below.refl w13.heap.size w13).drew
  refine (toSim_c s _ _ _ _ _ (h.below hbd) n2.1 n2.2.1 n2.2.2).mono ?_
  rintro q w14 ⟨us, uq, uo, rfl, g1, g2, g3, hb14⟩
  have n_y : SimOw w14 (fun k => w13.heap.size ≤ k) us uq uo s := ⟨g1, g2, g3⟩
  clear g1 g2 g3
  obtain ⟨Y1, Y1c, rfl, -⟩ := n_y.st.shape
  obtain ⟨Y2, Y2c, rfl, -⟩ := n_y.qu.shape
  obtain ⟨Y3, Y3c, rfl, -⟩ := n_y.ou.shape
  apply_assumption
  refine mid_next (Agree.of_below hb14) (hN _ _ ?_)
  clear hN
  refine sg_fin ?_
  simp only [pickO, List.getElem?_toArray, List.getElem?_cons_zero, List.getElem?_cons_succ]
  clear c_s0 c_s1 c_s2 c_w0 c_w1 c_w2 c_z0 c_z1 c_z2 c_g0 c_g1 c_g2
  replace hb14 := bthen' hbd hb14
  replace HB := bthen HB hb14 HB.size
  replace X_s := below_heap hb14 (blk_lt X_s) X_s
  replace X_w := below_heap hb14 (blk_lt X_w) X_w
  replace X_z := below_heap hb14 (blk_lt X_z) X_z
  replace X_g := below_heap hb14 (blk_lt X_g) X_g
  replace n_w := n_w.below hb14
  replace n_x := n_x.below hb14
  replace n_z := n_z.below hb14
  replace n_g := n_g.below hb14
  replace hA := hA.below hb14
  replace h := h.below hb14
  clear hb14 hbd
  have c_s0 : w14.cell? ⟨w.heap.size, 0, none⟩ = some (.slice S1 s.states.length S1c) := blk_cell X_s 0
  have c_s1 : w14.cell? ⟨w.heap.size, 1, none⟩ = some (.slice S2 s.queue.length S2c) := blk_cell X_s 1
  have c_s2 : w14.cell? ⟨w.heap.size, 2, none⟩ = some (.slice S3 s.outs.length S3c) := blk_cell X_s 2
  have c_w0 : w14.cell? ⟨gw, 0, none⟩ = some (.slice P1 x.states.length P1c) := blk_cell X_w 0
  have c_w1 : w14.cell? ⟨gw, 1, none⟩ = some (.slice P2 x.queue.length P2c) := blk_cell X_w 1
  have c_w2 : w14.cell? ⟨gw, 2, none⟩ = some (.slice P3 x.outs.length P3c) := blk_cell X_w 2
  have c_z0 : w14.cell? ⟨gz, 0, none⟩ = some (.slice Z1 s.states.length Z1c) := blk_cell X_z 0
  have c_z1 : w14.cell? ⟨gz, 1, none⟩ = some (.slice Z2 s.queue.length Z2c) := blk_cell X_z 1
  have c_z2 : w14.cell? ⟨gz, 2, none⟩ = some (.slice Z3 s.outs.length Z3c) := blk_cell X_z 2
  have c_g0 : w14.cell? ⟨gg, 0, none⟩ = some (.slice G1 x.states.length G1c) := blk_cell X_g 0
  have c_g1 : w14.cell? ⟨gg, 1, none⟩ = some (.slice G2 x.queue.length G2c) := blk_cell X_g 1
  have c_g2 : w14.cell? ⟨gg, 2, none⟩ = some (.slice G3 x.outs.length G3c) := blk_cell X_g 2
  go_wp2_with fail
  refine (eqSimX s _ _ _ _ _ _ _ _ _ n_z.rd n_y.rd).mono ?_
  rintro q w15 ⟨rfl, hb15⟩
  clear c_s0 c_s1 c_s2 c_w0 c_w1 c_w2 c_z0 c_z1 c_z2 c_g0 c_g1 c_g2
  replace HB := bthen HB hb15 HB.size
  replace X_s := below_heap hb15 (blk_lt X_s) X_s
  replace X_w := below_heap hb15 (blk_lt X_w) X_w
  replace X_z := below_heap hb15 (blk_lt X_z) X_z
  replace X_g := below_heap hb15 (blk_lt X_g) X_g
  replace n_w := n_w.below hb15
  replace n_x := n_x.below hb15
  replace n_z := n_z.below hb15
  replace n_g := n_g.below hb15
  replace hA := hA.below hb15
  replace h := h.below hb15
  clear n_y
  clear hb15
  have c_s0 : w15.cell? ⟨w.heap.size, 0, none⟩ = some (.slice S1 s.states.length S1c) := blk_cell X_s 0
  have c_s1 : w15.cell? ⟨w.heap.size, 1, none⟩ = some (.slice S2 s.queue.length S2c) := blk_cell X_s 1
  have c_s2 : w15.cell? ⟨w.heap.size, 2, none⟩ = some (.slice S3 s.outs.length S3c) := blk_cell X_s 2
  have c_w0 : w15.cell? ⟨gw, 0, none⟩ = some (.slice P1 x.states.length P1c) := blk_cell X_w 0
  have c_w1 : w15.cell? ⟨gw, 1, none⟩ = some (.slice P2 x.queue.length P2c) := blk_cell X_w 1
  have c_w2 : w15.cell? ⟨gw, 2, none⟩ = some (.slice P3 x.outs.length P3c) := blk_cell X_w 2
  have c_z0 : w15.cell? ⟨gz, 0, none⟩ = some (.slice Z1 s.states.length Z1c) := blk_cell X_z 0
  have c_z1 : w15.cell? ⟨gz, 1, none⟩ = some (.slice Z2 s.queue.length Z2c) := blk_cell X_z 1
  have c_z2 : w15.cell? ⟨gz, 2, none⟩ = some (.slice Z3 s.outs.length Z3c) := blk_cell X_z 2
  have c_g0 : w15.cell? ⟨gg, 0, none⟩ = some (.slice G1 x.states.length G1c) := blk_cell X_g 0
  have c_g1 : w15.cell? ⟨gg, 1, none⟩ = some (.slice G2 x.queue.length G2c) := blk_cell X_g 1
  have c_g2 : w15.cell? ⟨gg, 2, none⟩ = some (.slice G3 x.outs.length G3c) := blk_cell X_g 2
  apply_assumption
  go_wp2_with fail
  refine (markAppS_c _ apps 1 _ _ n_x (by decide) (by decide) HSZ.out).mono ?_
  rintro q w16 ⟨rfl, hc⟩
  clear c_s0 c_s1 c_s2 c_w0 c_w1 c_w2 c_z0 c_z1 c_z2 c_g0 c_g1 c_g2
  clear n_x
  replace HB := HB.trans (hc.below (B := w.heap.size) (fun k hk => by have := hs7.out; have := hs8.out; have := hs9.out; have := Hgz.out; have h3 : s7 ≤ k := hk.1; omega) HB.size)
  replace X_s := hc.heap X_s (fun hq => by have := hs7.out; have := hs8.out; have := hs9.out; have := Hgz.out; have h3 : s7 ≤ w.heap.size := hq.1; omega)
  replace X_w := hc.heap X_w (fun hq => by have := hs7.out; have := hs8.out; have := hs9.out; have := Hgz.out; have h3 : s7 ≤ gw := hq.1; omega)
  replace X_z := hc.heap X_z (fun hq => by have := hs7.out; have := hs8.out; have := hs9.out; have := Hgz.out; have h3 : gz < s8 := hq.2; omega)
  replace X_g := hc.heap X_g (fun hq => by have := hs7.out; have := hs8.out; have := hs9.out; have := Hgz.out; have h3 : gg < s8 := hq.2; have h5 := Hgg'.out; omega)
  replace n_w := n_w.ch hc (fun k hk hq => by have h3 : k < s7 := hk; have h4 : s7 ≤ k := hq.1; omega)
  replace n_z := n_z.ch hc (fun k hk hq => by have h3 : s8 ≤ k := hk.1; have h4 : k < s8 := hq.2; omega)
  replace n_g := n_g.ch hc (fun k hk hq => by have := hs7.out; have := hs8.out; have := hs9.out; have := Hgz.out; have h3 : s9 ≤ k := hk; have h4 : k < s8 := hq.2; omega)
  replace hA := hA.ch hc (fun k hk hq => by have := hs7.out; have := hs8.out; have := hs9.out; have := Hgz.out; have h3 : k < w.heap.size := hk; have h4 : s7 ≤ k := hq.1; omega)
  replace h := h.ch hc (fun k hk hq => by have := hs7.out; have := hs8.out; have := hs9.out; have := Hgz.out; have h3 : k < w.heap.size := hk; have h4 : s7 ≤ k := hq.1; omega)
  clear hc
  obtain ⟨m0, hm0⟩ : ∃ m, 1 + appsMk apps = m := ⟨_, rfl⟩
  have Hm0 : 0 ≤ m0 ∧ m0 ≤ 900000 * 10 := by have := appsMk_nonneg apps; have := appsMk_bd apps; have := HSZ.out; omega
  rw [hm0]
  clear hm0
  have c_s0 : w16.cell? ⟨w.heap.size, 0, none⟩ = some (.slice S1 s.states.length S1c) := blk_cell X_s 0
  have c_s1 : w16.cell? ⟨w.heap.size, 1, none⟩ = some (.slice S2 s.queue.length S2c) := blk_cell X_s 1
  have c_s2 : w16.cell? ⟨w.heap.size, 2, none⟩ = some (.slice S3 s.outs.length S3c) := blk_cell X_s 2
  have c_w0 : w16.cell? ⟨gw, 0, none⟩ = some (.slice P1 x.states.length P1c) := blk_cell X_w 0
  have c_w1 : w16.cell? ⟨gw, 1, none⟩ = some (.slice P2 x.queue.length P2c) := blk_cell X_w 1
  have c_w2 : w16.cell? ⟨gw, 2, none⟩ = some (.slice P3 x.outs.length P3c) := blk_cell X_w 2
  have c_z0 : w16.cell? ⟨gz, 0, none⟩ = some (.slice Z1 s.states.length Z1c) := blk_cell X_z 0
  have c_z1 : w16.cell? ⟨gz, 1, none⟩ = some (.slice Z2 s.queue.length Z2c) := blk_cell X_z 1
  have c_z2 : w16.cell? ⟨gz, 2, none⟩ = some (.slice Z3 s.outs.length Z3c) := blk_cell X_z 2
  have c_g0 : w16.cell? ⟨gg, 0, none⟩ = some (.slice G1 x.states.length G1c) := blk_cell X_g 0
  have c_g1 : w16.cell? ⟨gg, 1, none⟩ = some (.slice G2 x.queue.length G2c) := blk_cell X_g 1
  have c_g2 : w16.cell? ⟨gg, 2, none⟩ = some (.slice G3 x.outs.length G3c) := blk_cell X_g 2
  apply_assumption
  go_wp2_with fail
  refine (markSim_c s _ _ _ m0 _ _ n_z.own (by omega) (by omega) n2.1 n2.2.1 n2.2.2).mono ?_
  rintro q w17 ⟨rfl, n_new, hc⟩
  have hin := fun k hk => n_z.ownIn (k := k) hk
  clear c_s0 c_s1 c_s2 c_w0 c_w1 c_w2 c_z0 c_z1 c_z2 c_g0 c_g1 c_g2
  replace HB := HB.trans (hc.below (B := w.heap.size) (fun k hk => by have := hs7.out; have := hs8.out; have := hs9.out; have := Hgz.out; have h3 : s8 ≤ k ∧ k < s9 := hin k hk; omega) HB.size)
  replace X_s := hc.heap X_s (n_z.blkNot X_s (by decide) (by decide) (by decide))
  replace X_w := hc.heap X_w (n_z.blkNot X_w (by decide) (by decide) (by decide))
  replace X_z := hc.heap X_z (n_z.blkNot X_z (by decide) (by decide) (by decide))
  replace X_g := hc.heap X_g (n_z.blkNot X_g (by decide) (by decide) (by decide))
  replace n_w := n_w.ch hc (fun k hk hq => by have := hs7.out; have := hs8.out; have := hs9.out; have := Hgz.out; have h3 : k < s7 := hk; have h4 : s8 ≤ k ∧ k < s9 := hin k hq; omega)
  replace n_g := n_g.ch hc (fun k hk hq => by have h3 : s9 ≤ k := hk; have h4 : s8 ≤ k ∧ k < s9 := hin k hq; omega)
  replace hA := hA.ch hc (fun k hk hq => by have := hs7.out; have := hs8.out; have := hs9.out; have := Hgz.out; have h3 : k < w.heap.size := hk; have h4 : s8 ≤ k ∧ k < s9 := hin k hq; omega)
  replace h := h.ch hc (fun k hk hq => by have := hs7.out; have := hs8.out; have := hs9.out; have := Hgz.out; have h3 : k < w.heap.size := hk; have h4 : s8 ≤ k ∧ k < s9 := hin k hq; omega)
  clear hc hin n_z
  obtain ⟨m1, hm⟩ : ∃ m, m0 + 3 * (s.states.length : Int) + 7 * s.queue.length + 5 * s.outs.length = m := ⟨_, rfl⟩
  have Hm1 := hid hm
  rw [hm]
  clear hm
  have b_m1 : decide (m1 < 0) = false := decide_eq_false (by have := Hm1.out; omega)
  clear n_new
  have c_s0 : w17.cell? ⟨w.heap.size, 0, none⟩ = some (.slice S1 s.states.length S1c) := blk_cell X_s 0
  have c_s1 : w17.cell? ⟨w.heap.size, 1, none⟩ = some (.slice S2 s.queue.length S2c) := blk_cell X_s 1
  have c_s2 : w17.cell? ⟨w.heap.size, 2, none⟩ = some (.slice S3 s.outs.length S3c) := blk_cell X_s 2
  have c_w0 : w17.cell? ⟨gw, 0, none⟩ = some (.slice P1 x.states.length P1c) := blk_cell X_w 0
  have c_w1 : w17.cell? ⟨gw, 1, none⟩ = some (.slice P2 x.queue.length P2c) := blk_cell X_w 1
  have c_w2 : w17.cell? ⟨gw, 2, none⟩ = some (.slice P3 x.outs.length P3c) := blk_cell X_w 2
  have c_z0 : w17.cell? ⟨gz, 0, none⟩ = some (.slice Z1 s.states.length Z1c) := blk_cell X_z 0
  have c_z1 : w17.cell? ⟨gz, 1, none⟩ = some (.slice Z2 s.queue.length Z2c) := blk_cell X_z 1
  have c_z2 : w17.cell? ⟨gz, 2, none⟩ = some (.slice Z3 s.outs.length Z3c) := blk_cell X_z 2
  have c_g0 : w17.cell? ⟨gg, 0, none⟩ = some (.slice G1 x.states.length G1c) := blk_cell X_g 0
  have c_g1 : w17.cell? ⟨gg, 1, none⟩ = some (.slice G2 x.queue.length G2c) := blk_cell X_g 1
  have c_g2 : w17.cell? ⟨gg, 2, none⟩ = some (.slice G3 x.outs.length G3c) := blk_cell X_g 2
  apply_assumption
  go_wp2_with fail
  refine (eqSimX x _ _ _ _ _ _ _ _ _ n_g.rd n_w.rd).mono ?_
  rintro q w18 ⟨rfl, hb18⟩
  clear c_s0 c_s1 c_s2 c_w0 c_w1 c_w2 c_z0 c_z1 c_z2 c_g0 c_g1 c_g2
  replace HB := bthen HB hb18 HB.size
  replace X_s := below_heap hb18 (blk_lt X_s) X_s
  replace X_w := below_heap hb18 (blk_lt X_w) X_w
  replace X_z := below_heap hb18 (blk_lt X_z) X_z
  replace X_g := below_heap hb18 (blk_lt X_g) X_g
  replace n_w := n_w.below hb18
  replace n_g := n_g.below hb18
  replace hA := hA.below hb18
  replace h := h.below hb18
  clear hb18
  have c_s0 : w18.cell? ⟨w.heap.size, 0, none⟩ = some (.slice S1 s.states.length S1c) := blk_cell X_s 0
  have c_s1 : w18.cell? ⟨w.heap.size, 1, none⟩ = some (.slice S2 s.queue.length S2c) := blk_cell X_s 1
  have c_s2 : w18.cell? ⟨w.heap.size, 2, none⟩ = some (.slice S3 s.outs.length S3c) := blk_cell X_s 2
  have c_w0 : w18.cell? ⟨gw, 0, none⟩ = some (.slice P1 x.states.length P1c) := blk_cell X_w 0
  have c_w1 : w18.cell? ⟨gw, 1, none⟩ = some (.slice P2 x.queue.length P2c) := blk_cell X_w 1
  have c_w2 : w18.cell? ⟨gw, 2, none⟩ = some (.slice P3 x.outs.length P3c) := blk_cell X_w 2
  have c_z0 : w18.cell? ⟨gz, 0, none⟩ = some (.slice Z1 s.states.length Z1c) := blk_cell X_z 0
  have c_z1 : w18.cell? ⟨gz, 1, none⟩ = some (.slice Z2 s.queue.length Z2c) := blk_cell X_z 1
  have c_z2 : w18.cell? ⟨gz, 2, none⟩ = some (.slice Z3 s.outs.length Z3c) := blk_cell X_z 2
  have c_g0 : w18.cell? ⟨gg, 0, none⟩ = some (.slice G1 x.states.length G1c) := blk_cell X_g 0
  have c_g1 : w18.cell? ⟨gg, 1, none⟩ = some (.slice G2 x.queue.length G2c) := blk_cell X_g 1
  have c_g2 : w18.cell? ⟨gg, 2, none⟩ = some (.slice G3 x.outs.length G3c) := blk_cell X_g 2
  apply_assumption
  go_wp2_with fail
  have hlen := hle.out
  refine (markSim_c x _ _ _ 1 _ _ n_g.own (by decide) (by decide) (by omega) (by omega) (by omega)).mono ?_
  rintro q w19 ⟨rfl, n_new, hc⟩
  have hin := fun k hk => n_g.ownIn (k := k) hk
  clear c_s0 c_s1 c_s2 c_w0 c_w1 c_w2 c_z0 c_z1 c_z2 c_g0 c_g1 c_g2
  replace HB := HB.trans (hc.below (B := w.heap.size) (fun k hk => by have := hs7.out; have := hs8.out; have := hs9.out; have := Hgz.out; have h3 : s9 ≤ k := hin k hk; omega) HB.size)
  replace X_s := hc.heap X_s (n_g.blkNot X_s (by decide) (by decide) (by decide))
  replace X_w := hc.heap X_w (n_g.blkNot X_w (by decide) (by decide) (by decide))
  replace X_z := hc.heap X_z (n_g.blkNot X_z (by decide) (by decide) (by decide))
  replace X_g := hc.heap X_g (n_g.blkNot X_g (by decide) (by decide) (by decide))
  replace n_w := n_w.ch hc (fun k hk hq => by have := hs7.out; have := hs8.out; have := hs9.out; have := Hgz.out; have h3 : k < s7 := hk; have h4 : s9 ≤ k := hin k hq; omega)
  replace hA := hA.ch hc (fun k hk hq => by have := hs7.out; have := hs8.out; have := hs9.out; have := Hgz.out; have h3 : k < w.heap.size := hk; have h4 : s9 ≤ k := hin k hq; omega)
  replace h := h.ch hc (fun k hk hq => by have := hs7.out; have := hs8.out; have := hs9.out; have := Hgz.out; have h3 : k < w.heap.size := hk; have h4 : s9 ≤ k := hin k hq; omega)
  clear hc hin n_g
  obtain ⟨m2, hm⟩ : ∃ m, 1 + 3 * (x.states.length : Int) + 7 * x.queue.length + 5 * x.outs.length = m := ⟨_, rfl⟩
  have Hm2 := hid hm
  rw [hm]
  clear hm
  have b_m2 : decide (m2 < 0) = false := decide_eq_false (by have := Hm2.out; omega)
  have n_g := n_new
  clear n_new hlen
  have b4 : (m2 != m2) = false := by simp
  have c_s0 : w19.cell? ⟨w.heap.size, 0, none⟩ = some (.slice S1 s.states.length S1c) := blk_cell X_s 0
  have c_s1 : w19.cell? ⟨w.heap.size, 1, none⟩ = some (.slice S2 s.queue.length S2c) := blk_cell X_s 1
  have c_s2 : w19.cell? ⟨w.heap.size, 2, none⟩ = some (.slice S3 s.outs.length S3c) := blk_cell X_s 2
  have c_w0 : w19.cell? ⟨gw, 0, none⟩ = some (.slice P1 x.states.length P1c) := blk_cell X_w 0
  have c_w1 : w19.cell? ⟨gw, 1, none⟩ = some (.slice P2 x.queue.length P2c) := blk_cell X_w 1
  have c_w2 : w19.cell? ⟨gw, 2, none⟩ = some (.slice P3 x.outs.length P3c) := blk_cell X_w 2
  have c_z0 : w19.cell? ⟨gz, 0, none⟩ = some (.slice Z1 s.states.length Z1c) := blk_cell X_z 0
  have c_z1 : w19.cell? ⟨gz, 1, none⟩ = some (.slice Z2 s.queue.length Z2c) := blk_cell X_z 1
  have c_z2 : w19.cell? ⟨gz, 2, none⟩ = some (.slice Z3 s.outs.length Z3c) := blk_cell X_z 2
  have c_g0 : w19.cell? ⟨gg, 0, none⟩ = some (.slice G1 x.states.length G1c) := blk_cell X_g 0
  have c_g1 : w19.cell? ⟨gg, 1, none⟩ = some (.slice G2 x.queue.length G2c) := blk_cell X_g 1
  have c_g2 : w19.cell? ⟨gg, 2, none⟩ = some (.slice G3 x.outs.length G3c) := blk_cell X_g 2
  apply_assumption
  go_wp2_with fail
  refine (heldSim_c _ _ _ 1 x.states.length x.queue.length x.outs.length _ _ n_g.rd (by decide) (by decide) (by have := hle.out; omega) (by have := hle.out; omega) (by have := hle.out; omega)).mono ?_
  rintro q w20 ⟨rfl, hb20⟩
  clear c_s0 c_s1 c_s2 c_w0 c_w1 c_w2 c_z0 c_z1 c_z2 c_g0 c_g1 c_g2
  replace HB := bthen HB hb20 HB.size
  replace X_s := below_heap hb20 (blk_lt X_s) X_s
  replace X_w := below_heap hb20 (blk_lt X_w) X_w
  replace X_z := below_heap hb20 (blk_lt X_z) X_z
  replace X_g := below_heap hb20 (blk_lt X_g) X_g
  replace n_w := n_w.below hb20
  replace n_g := n_g.below hb20
  replace hA := hA.below hb20
  replace h := h.below hb20
  rw [Hm2.out]
  clear hb20
  have c_s0 : w20.cell? ⟨w.heap.size, 0, none⟩ = some (.slice S1 s.states.length S1c) := blk_cell X_s 0
  have c_s1 : w20.cell? ⟨w.heap.size, 1, none⟩ = some (.slice S2 s.queue.length S2c) := blk_cell X_s 1
  have c_s2 : w20.cell? ⟨w.heap.size, 2, none⟩ = some (.slice S3 s.outs.length S3c) := blk_cell X_s 2
  have c_w0 : w20.cell? ⟨gw, 0, none⟩ = some (.slice P1 x.states.length P1c) := blk_cell X_w 0
  have c_w1 : w20.cell? ⟨gw, 1, none⟩ = some (.slice P2 x.queue.length P2c) := blk_cell X_w 1
  have c_w2 : w20.cell? ⟨gw, 2, none⟩ = some (.slice P3 x.outs.length P3c) := blk_cell X_w 2
  have c_z0 : w20.cell? ⟨gz, 0, none⟩ = some (.slice Z1 s.states.length Z1c) := blk_cell X_z 0
  have c_z1 : w20.cell? ⟨gz, 1, none⟩ = some (.slice Z2 s.queue.length Z2c) := blk_cell X_z 1
  have c_z2 : w20.cell? ⟨gz, 2, none⟩ = some (.slice Z3 s.outs.length Z3c) := blk_cell X_z 2
  have c_g0 : w20.cell? ⟨gg, 0, none⟩ = some (.slice G1 x.states.length G1c) := blk_cell X_g 0
  have c_g1 : w20.cell? ⟨gg, 1, none⟩ = some (.slice G2 x.queue.length G2c) := blk_cell X_g 1
  have c_g2 : w20.cell? ⟨gg, 2, none⟩ = some (.slice G3 x.outs.length G3c) := blk_cell X_g 2
  apply_assumption
  go_upto_region 31 with fail
  have hS := hid h
  refine region_sg [.rd [0, 2], .par [(1, []), (3, []), (4, [1, 3]), (5, []), (6, []), (7, []), (8, []), (9, [8]), (10, [])] []] [] (by kernel_rfl) (by kernel_rfl) (fun _ _ d _ _ h => by cases d <;> exact h) ?_
  refine sg_rd (fun N hN => ?_)
  simp only [pickO, List.getElem?_toArray, List.getElem?_cons_zero, List.getElem?_cons_succ]
  go_wp2_with fail
  refine rd_next (hN _ ?_)
  clear hN N
  refine sgx_name fun a0 ha0 => ?_
  have sA := hid (show a0.tmps[95]? = some (.slice A apps.length c) by rw [ha0]; rfl)
  have sS := hid (show a0.tmps[97]? = some (.agg #[.slice S1 s.states.length S1c, .slice S2 s.queue.length S2c, .slice S3 s.outs.length S3c]) by rw [ha0]; rfl)
  have hsz := hid (show ∀ k, k < 102 → k < a0.tmps.size from fun k hk => by rw [ha0]; exact Nat.lt_of_lt_of_le hk (by show _ ≤ Array.size _; simp))
  have H0 := hid ha0
  clear ha0
  refine sg_parG [(1, some 96), (3, some 98), (4, some 99), (5, some 94), (6, some 100), (7, some 101), (8, some 15), (9, none), (10, some 16)] (by rfl) (fun _ => False) (NL (y31N apps s x bl)) (PPL (y31P apps s x bl)) (fun _ _ => False) (PPL_upd _ (by kernel_rfl)) (NL_upd _ (by kernel_rfl)) (NL_move _ (y31N_moves apps s x bl)) (fun w' hc => Agree.of_ch hc (fun _ hf => hf.elim)) (by simp) (by simp) (by simp) (parS_cons ?_ (parS_cons ?_ (parS_cons ?_ (parS_cons ?_ (parS_cons ?_ (parS_cons ?_ (parS_cons ?_ (parS_cons ?_ (parS_cons ?_ parS_nil))))))))) ?_
  · refine stepG_mk (by rfl) (by rfl) ?_
    intro u wq F1 hC hp hN hF hD K hK
    have q95 : (putL [(1, some 96), (3, some 98), (4, some 99), (5, some 94), (6, some 100), (7, some 101), (8, some 15), (9, none), (10, some 16)] a0 u).tmps[95]? = _ := (putL_out (k := 95) [(1, some 96), (3, some 98), (4, some 99), (5, some 94), (6, some 100), (7, some 101), (8, some 15), (9, none), (10, some 16)] a0 u (by rfl)).trans sA.out
    clear hp hN hF hD
    generalize putL [(1, some 96), (3, some 98), (4, some 99), (5, some 94), (6, some 100), (7, some 101), (8, some 15), (9, none), (10, some 16)] a0 u = a1 at *
    go_simp
    refine (toAppS_c _ apps _ wq (hA.below (⟨hC.below0.os, hC.below0.tape, hC.below0.output, hC.below0.size, hC.below0.block⟩ : Below w20.heap.size w20 wq)) n1.1 n1.2).mono ?_
    rintro q w5 ⟨v5, rfl, h5, hb5⟩
    have hn1 : NL (y31N apps s x bl) 1 (updV u 1 (v5)) w5 (fun k => wq.heap.size ≤ k ∧ k < w5.heap.size) := h5.bound
    have hp1 : PPL (y31P apps s x bl) 1 (updV u 1 (v5)) := trivial
    exact hK _ (v5) _ (fun k => wq.heap.size ≤ k ∧ k < w5.heap.size) rfl (Ch.of_below hb5) hn1 (fun k hk => ⟨.inr hk.1, hk.2⟩) hp1
  · refine stepG_mk (by rfl) (by rfl) ?_
    intro u wq F1 hC hp hN hF hD K hK
    have q97 : (putL [(1, some 96), (3, some 98), (4, some 99), (5, some 94), (6, some 100), (7, some 101), (8, some 15), (9, none), (10, some 16)] a0 u).tmps[97]? = _ := (putL_out (k := 97) [(1, some 96), (3, some 98), (4, some 99), (5, some 94), (6, some 100), (7, some 101), (8, some 15), (9, none), (10, some 16)] a0 u (by rfl)).trans sS.out
    clear hp hN hF hD
    generalize putL [(1, some 96), (3, some 98), (4, some 99), (5, some 94), (6, some 100), (7, some 101), (8, some 15), (9, none), (10, some 16)] a0 u = a1 at *
    go_simp
    refine (toSim_c s _ _ _ _ wq (hS.out.below (⟨hC.below0.os, hC.below0.tape, hC.below0.output, hC.below0.size, hC.below0.block⟩ : Below w20.heap.size w20 wq)) n2.1 n2.2.1 n2.2.2).mono ?_
    rintro q w5 ⟨us, uq, uo, rfl, h5, h6, h7, hb5⟩
    have hn1 : NL (y31N apps s x bl) 3 (updV u 3 (.agg #[us, uq, uo])) w5 (fun k => wq.heap.size ≤ k ∧ k < w5.heap.size) := ⟨us, uq, uo, rfl, ⟨h5.bound, h6.bound, h7.bound⟩⟩
    have hp1 : PPL (y31P apps s x bl) 3 (updV u 3 (.agg #[us, uq, uo])) := trivial
    exact hK _ (.agg #[us, uq, uo]) _ (fun k => wq.heap.size ≤ k ∧ k < w5.heap.size) rfl (Ch.of_below hb5) hn1 (fun k hk => ⟨.inr hk.1, hk.2⟩) hp1
  · refine stepG_mk (by rfl) (by rfl) ?_
    intro u wq F1 hC hp hN hF hD K hK
    have q96 : (putL [(1, some 96), (3, some 98), (4, some 99), (5, some 94), (6, some 100), (7, some 101), (8, some 15), (9, none), (10, some 16)] a0 u).tmps[96]? = some (u 1) := putL_in (k := 96) (i := 1) [(1, some 96), (3, some 98), (4, some 99), (5, some 94), (6, some 100), (7, some 101), (8, some 15), (9, none), (10, some 16)] a0 u (by rfl) (hsz.out 96 (by decide))
    have q98 : (putL [(1, some 96), (3, some 98), (4, some 99), (5, some 94), (6, some 100), (7, some 101), (8, some 15), (9, none), (10, some 16)] a0 u).tmps[98]? = some (u 3) := putL_in (k := 98) (i := 3) [(1, some 96), (3, some 98), (4, some 99), (5, some 94), (6, some 100), (7, some 101), (8, some 15), (9, none), (10, some 16)] a0 u (by rfl) (hsz.out 98 (by decide))
    have g1 : Ow oApp 57 wq (F1 1) (u 1) apps := hN 1 (by simp)
    obtain ⟨us, uq, uo, e2, g2⟩ : ∃ us uq uo, u 3 = .agg #[us, uq, uo] ∧ SimOw wq (F1 3) us uq uo s := hN 3 (by simp)
    rw [e2] at q98
    clear hp hN hF hD
    generalize putL [(1, some 96), (3, some 98), (4, some 99), (5, some 94), (6, some 100), (7, some 101), (8, some 15), (9, none), (10, some 16)] a0 u = a1 at *
    go_simp
    refine (stepI_call _ _ _ _ apps s _ _ wq g1.rdApps g2.rd HX.out).mono ?_
    rintro q w5 ⟨us, uq, uo, rfl, h5, hb5⟩
    have hn1 : NL (y31N apps s x bl) 4 (updV u 4 (.tuple #[.agg #[us, uq, uo], .bool bl])) w5 (fun k => wq.heap.size ≤ k ∧ k < w5.heap.size) := ⟨us, uq, uo, rfl, ⟨h5.st.bound, h5.qu.bound, h5.ou.bound⟩⟩
    have hp1 : PPL (y31P apps s x bl) 4 (updV u 4 (.tuple #[.agg #[us, uq, uo], .bool bl])) := tupX_mk h5
    exact hK _ (.tuple #[.agg #[us, uq, uo], .bool bl]) _ (fun k => wq.heap.size ≤ k ∧ k < w5.heap.size) rfl (Ch.of_below hb5) hn1 (fun k hk => ⟨.inr hk.1, hk.2⟩) hp1
  · refine stepG_pure (by rfl) (by rfl) (fun _ _ => trivial) ?_
    intro u wq hC hp
    have p12 : tupX bl (u 4) := hp 4 (by simp) (by kernel_rfl)
    have q : (putL [(1, some 96), (3, some 98), (4, some 99), (5, some 94), (6, some 100), (7, some 101), (8, some 15), (9, none), (10, some 16)] a0 u).eval (.tmp 99) = u 4 := eval_of (putL_in (k := 99) (i := 4) [(1, some 96), (3, some 98), (4, some 99), (5, some 94), (6, some 100), (7, some 101), (8, some 15), (9, none), (10, some 16)] a0 u (by rfl) (hsz.out 99 (by decide)))
    generalize putL [(1, some 96), (3, some 98), (4, some 99), (5, some 94), (6, some 100), (7, some 101), (8, some 15), (9, none), (10, some 16)] a0 u = a1 at *
    refine Exists.intro (u 4) (And.intro ?_ ?_)
    · intro K hK
      exact wp_move' (.inl (by rfl)) q hK
    · exact ⟨rfl, p12⟩
  · refine stepG_pure (by rfl) (by rfl) (fun _ _ => trivial) ?_
    intro u wq hC hp
    have p13 : [u 4] = [u 5] ∧ tupX bl (u 5) := hp 5 (by simp) (by kernel_rfl)
    obtain ⟨-, a9, e13, h9⟩ := p13
    have q : (putL [(1, some 96), (3, some 98), (4, some 99), (5, some 94), (6, some 100), (7, some 101), (8, some 15), (9, none), (10, some 16)] a0 u).eval (.tmp 94) = u 5 := eval_of (putL_in (k := 94) (i := 5) [(1, some 96), (3, some 98), (4, some 99), (5, some 94), (6, some 100), (7, some 101), (8, some 15), (9, none), (10, some 16)] a0 u (by rfl) (hsz.out 94 (by decide)))
    rw [e13] at q
    generalize putL [(1, some 96), (3, some 98), (4, some 99), (5, some 94), (6, some 100), (7, some 101), (8, some 15), (9, none), (10, some 16)] a0 u = a1 at *
    refine Exists.intro a9 (And.intro ?_ ?_)
    · intro K hK
      refine wp_extract (x := .tmp 94) (n := 0) (vs := #[a9, .bool bl]) (v := a9) ?_ ?_ ?_ ?_
      · rfl
      · exact q
      · rfl
      · exact hK
    · exact ⟨h9, fun a b he => by have h8 : [u 5] = [Value.tuple #[a, b]] := he; rw [e13] at h8; simp at h8; exact h8.1⟩
  · refine stepG_pure (by rfl) (by rfl) (fun _ _ => trivial) ?_
    intro u wq hC hp
    have p13 : [u 4] = [u 5] ∧ tupX bl (u 5) := hp 5 (by simp) (by kernel_rfl)
    obtain ⟨-, a9, e13, h9⟩ := p13
    have q : (putL [(1, some 96), (3, some 98), (4, some 99), (5, some 94), (6, some 100), (7, some 101), (8, some 15), (9, none), (10, some 16)] a0 u).eval (.tmp 94) = u 5 := eval_of (putL_in (k := 94) (i := 5) [(1, some 96), (3, some 98), (4, some 99), (5, some 94), (6, some 100), (7, some 101), (8, some 15), (9, none), (10, some 16)] a0 u (by rfl) (hsz.out 94 (by decide)))
    rw [e13] at q
    generalize putL [(1, some 96), (3, some 98), (4, some 99), (5, some 94), (6, some 100), (7, some 101), (8, some 15), (9, none), (10, some 16)] a0 u = a1 at *
    refine Exists.intro (.bool bl) (And.intro ?_ ?_)
    · intro K hK
      refine wp_extract (x := .tmp 94) (n := 1) (vs := #[a9, .bool bl]) (v := (.bool bl)) ?_ ?_ ?_ ?_
      · rfl
      · exact q
      · rfl
      · exact hK
    · exact rfl
  · refine stepG_mk (by rfl) (by rfl) ?_
    intro u wq F1 hC hp hN hF hD K hK
    clear hp hN hF hD
    generalize putL [(1, some 96), (3, some 98), (4, some 99), (5, some 94), (6, some 100), (7, some 101), (8, some 15), (9, none), (10, some 16)] a0 u = a1 at *
    go_simp
    have hn1 : NL (y31N apps s x bl) 8 (updV u 8 (.pointer (some ⟨wq.heap.size, 0, none⟩))) (wq.alloc (.cells #[.slice none 0 0, .slice none 0 0, .slice none 0 0] 28)) (fun k => k = wq.heap.size) := ⟨_, rfl, rfl, heap_at rfl⟩
    exact hK _ (.pointer (some ⟨wq.heap.size, 0, none⟩)) _ (fun k => k = wq.heap.size) rfl ((Ch.refl _ _).alloc _) hn1 (fun k hk => by subst hk; exact ⟨.inr (Nat.le_refl _), by simp⟩) trivial
  · refine stepG_mk (by rfl) (by rfl) ?_
    intro u wq F1 hC hp hN hF hD K hK
    have q1 : (putL [(1, some 96), (3, some 98), (4, some 99), (5, some 94), (6, some 100), (7, some 101), (8, some 15), (9, none), (10, some 16)] a0 u).eval (.tmp 15) = u 8 := eval_of (putL_in (k := 15) (i := 8) [(1, some 96), (3, some 98), (4, some 99), (5, some 94), (6, some 100), (7, some 101), (8, some 15), (9, none), (10, some 16)] a0 u (by rfl) (hsz.out 15 (by decide)))
    have q2 : (putL [(1, some 96), (3, some 98), (4, some 99), (5, some 94), (6, some 100), (7, some 101), (8, some 15), (9, none), (10, some 16)] a0 u).eval (.tmp 100) = u 6 := eval_of (putL_in (k := 100) (i := 6) [(1, some 96), (3, some 98), (4, some 99), (5, some 94), (6, some 100), (7, some 101), (8, some 15), (9, none), (10, some 16)] a0 u (by rfl) (hsz.out 100 (by decide)))
    generalize putL [(1, some 96), (3, some 98), (4, some 99), (5, some 94), (6, some 100), (7, some 101), (8, some 15), (9, none), (10, some 16)] a0 u = a1 at *
    obtain ⟨g, e17, f17, B17⟩ : ∃ g, u 8 = .pointer (some ⟨g, 0, none⟩) ∧ F1 8 g ∧ wq.heap[g]? = some (.cells #[.slice none 0 0, .slice none 0 0, .slice none 0 0] 28 (0, 0)) := hN 8 (by simp)
    obtain ⟨⟨us, uq, uo, p14, o1, o2, o3⟩, -⟩ : agg3 (u 6) ∧ ∀ a b, [u 5] = [Value.tuple #[a, b]] → u 6 = a := hp 6 (by simp) (by kernel_rfl)
    have hgl := (hF 8 (by simp) g f17).2
    rw [e17] at q1
    rw [p14] at q2
    refine wp_store_mid 28 (.tmp 15) (.tmp 100) (by rfl) g 0 #[us, uq, uo] q1 q2 (there_of_block B17 (by simp)) (by kernel_rfl) (by simp [o1, o2, o3]) ?_
    have hn1 : NL (y31N apps s x bl) 9 (updV u 9 undef) (wq.setCells g 0 [us, uq, uo]) (fun k => k = g) := ⟨g, us, uq, uo, (show [u 8, u 6] = _ by rw [e17, p14]), rfl, blk_ovw _ 0 wq [.slice none 0 0, .slice none 0 0, .slice none 0 0] B17⟩
    exact hK _ undef _ (fun k => k = g) rfl (Ch.setCells _ _ _ (Ch.refl _ _) (.inl ⟨8, by simp, f17⟩)) hn1 (fun k hk => by subst hk; exact ⟨.inl ⟨8, by simp, f17⟩, by rw [size_setCells]; exact hgl⟩) trivial
  · refine stepG_pure (by rfl) (by rfl) (fun _ _ => trivial) ?_
    intro u wq hC hp
    have q : (putL [(1, some 96), (3, some 98), (4, some 99), (5, some 94), (6, some 100), (7, some 101), (8, some 15), (9, none), (10, some 16)] a0 u).eval (.tmp 101) = u 7 := eval_of (putL_in (k := 101) (i := 7) [(1, some 96), (3, some 98), (4, some 99), (5, some 94), (6, some 100), (7, some 101), (8, some 15), (9, none), (10, some 16)] a0 u (by rfl) (hsz.out 101 (by decide)))
    generalize putL [(1, some 96), (3, some 98), (4, some 99), (5, some 94), (6, some 100), (7, some 101), (8, some 15), (9, none), (10, some 16)] a0 u = a1 at *
    refine Exists.intro (u 7) (And.intro ?_ ?_)
    · intro K hK
      exact wp_move' (.inr (by rfl)) q hK
    · exact rfl
  intro K hK u w21 F1 hC hD hF hN hpp
  obtain ⟨us, uq, uo, g12, n12⟩ : ∃ us uq uo, u 4 = .tuple #[.agg #[us, uq, uo], .bool bl] ∧ SimOw w21 (F1 4) us uq uo x := hN 4 (by rfl)
  obtain ⟨gh, us9, uq9, uo9, g17, f17, BX3⟩ : ∃ g us uq uo, [u 8, u 6] = [.pointer (some ⟨g, 0, none⟩), .agg #[us, uq, uo]] ∧ F1 9 g ∧ w21.heap[g]? = some (.cells #[us, uq, uo] 28 (0, 0)) := hN 9 (by rfl)
  have g17a : u 8 = .pointer (some ⟨gh, 0, none⟩) := by simp at g17; exact g17.1
  have g17b : u 6 = .agg #[us9, uq9, uo9] := by simp at g17; exact g17.2
  have p13 : [u 4] = [u 5] ∧ tupX bl (u 5) := hpp 5 (by simp)
  have e13 : u 5 = u 4 := by have := p13.1; simp at this; exact this.symm
  have e14 := (show agg3 (u 6) ∧ ∀ a b, [u 5] = [Value.tuple #[a, b]] → u 6 = a from hpp 6 (by simp)).2
  have e15 : u 7 = .bool bl := hpp 7 (by simp)
  have e19 : u 10 = u 7 := by have q : [u 7] = [u 10] := hpp 10 (by simp); simp at q; exact q.symm
  rw [g12] at e13
  have e16 := e14 _ _ (by rw [e13])
  rw [g17b] at e16
  injection e16 with e16
  simp only [Array.mk.injEq, List.cons.injEq, and_true] at e16
  obtain ⟨rfl, rfl, rfl⟩ := e16
  rw [e15] at e19
  clear hpp p13 e14 g17
  have hgh : w20.heap.size ≤ gh ∧ gh < w21.heap.size := by have := hF 9 gh (by rfl) f17; refine ⟨?_, this.2⟩; rcases this.1 with q | q; exact q.elim; simpa using q
  have n7 := n12.mono (F' := fun k => w20.heap.size ≤ k ∧ k < w21.heap.size) (fun k hk => by have := hF 4 k (by rfl) hk; refine ⟨?_, this.2⟩; rcases this.1 with q | q; exact q.elim; simpa using q)
  have HS : Below w20.heap.size w20 w21 := ⟨hC.below0.os, hC.below0.tape, hC.below0.output, hC.below0.size, hC.below0.block⟩
  have HA : Agree w20.drew w21 := Agree.of_ch hC (fun _ hf => hf.elim)
  clear hN hF hD hC n12 f17
  rw [H0.out]
  clear sA sS hsz H0 a0
  simp only [putL_cons, putL_nil]
  obtain ⟨K1, K1c, rfl, -⟩ := n7.st.shape
  obtain ⟨K2, K2c, rfl, -⟩ := n7.qu.shape
  obtain ⟨K3, K3c, rfl, -⟩ := n7.ou.shape
  generalize u 1 = u_1 at *
  generalize u 3 = u_3 at *
  generalize u 4 = u_4 at *
  generalize u 5 = u_5 at *
  generalize u 6 = u_6 at *
  generalize u 7 = u_7 at *
  generalize u 8 = u_8 at *
  generalize u 9 = u_9 at *
  generalize u 10 = u_10 at *
  subst g12 g17a g17b e13 e15 e19
  go_simp
  refine hK _ _ HA ?_
  clear hK K F1 HA
  refine sg_fin ?_
  simp only [pickO]
  clear c_s0 c_s1 c_s2 c_w0 c_w1 c_w2 c_z0 c_z1 c_z2 c_g0 c_g1 c_g2
  replace HB := bthen HB HS HB.size
  replace X_s := below_heap HS (blk_lt X_s) X_s
  replace X_w := below_heap HS (blk_lt X_w) X_w
  replace X_z := below_heap HS (blk_lt X_z) X_z
  replace X_g := below_heap HS (blk_lt X_g) X_g
  replace n_w := n_w.below HS
  replace n_g := n_g.below HS
  replace hA := hA.below HS
  replace h := h.below HS
  have X_h := BX3; have n_h := n7; clear BX3 n7 hS hgh HS
  have c_s0 : w21.cell? ⟨w.heap.size, 0, none⟩ = some (.slice S1 s.states.length S1c) := blk_cell X_s 0
  have c_s1 : w21.cell? ⟨w.heap.size, 1, none⟩ = some (.slice S2 s.queue.length S2c) := blk_cell X_s 1
  have c_s2 : w21.cell? ⟨w.heap.size, 2, none⟩ = some (.slice S3 s.outs.length S3c) := blk_cell X_s 2
  have c_w0 : w21.cell? ⟨gw, 0, none⟩ = some (.slice P1 x.states.length P1c) := blk_cell X_w 0
  have c_w1 : w21.cell? ⟨gw, 1, none⟩ = some (.slice P2 x.queue.length P2c) := blk_cell X_w 1
  have c_w2 : w21.cell? ⟨gw, 2, none⟩ = some (.slice P3 x.outs.length P3c) := blk_cell X_w 2
  have c_z0 : w21.cell? ⟨gz, 0, none⟩ = some (.slice Z1 s.states.length Z1c) := blk_cell X_z 0
  have c_z1 : w21.cell? ⟨gz, 1, none⟩ = some (.slice Z2 s.queue.length Z2c) := blk_cell X_z 1
  have c_z2 : w21.cell? ⟨gz, 2, none⟩ = some (.slice Z3 s.outs.length Z3c) := blk_cell X_z 2
  have c_g0 : w21.cell? ⟨gg, 0, none⟩ = some (.slice G1 x.states.length G1c) := blk_cell X_g 0
  have c_g1 : w21.cell? ⟨gg, 1, none⟩ = some (.slice G2 x.queue.length G2c) := blk_cell X_g 1
  have c_g2 : w21.cell? ⟨gg, 2, none⟩ = some (.slice G3 x.outs.length G3c) := blk_cell X_g 2
  have c_h0 : w21.cell? ⟨gh, 0, none⟩ = some (.slice K1 x.states.length K1c) := blk_cell X_h 0
  have c_h1 : w21.cell? ⟨gh, 1, none⟩ = some (.slice K2 x.queue.length K2c) := blk_cell X_h 1
  have c_h2 : w21.cell? ⟨gh, 2, none⟩ = some (.slice K3 x.outs.length K3c) := blk_cell X_h 2
  go_wp2_with fail
  refine (eqSimX x _ _ _ _ _ _ _ _ _ n_h.rd n_w.rd).mono ?_
  rintro q w22 ⟨rfl, hb22⟩
  clear c_s0 c_s1 c_s2 c_w0 c_w1 c_w2 c_z0 c_z1 c_z2 c_g0 c_g1 c_g2 c_h0 c_h1 c_h2
  replace HB := bthen HB hb22 HB.size
  replace X_s := below_heap hb22 (blk_lt X_s) X_s
  replace X_w := below_heap hb22 (blk_lt X_w) X_w
  replace X_z := below_heap hb22 (blk_lt X_z) X_z
  replace X_g := below_heap hb22 (blk_lt X_g) X_g
  replace X_h := below_heap hb22 (blk_lt X_h) X_h
  replace n_w := n_w.below hb22
  replace n_g := n_g.below hb22
  replace n_h := n_h.below hb22
  replace hA := hA.below hb22
  replace h := h.below hb22
  clear hb22
  have c_s0 : w22.cell? ⟨w.heap.size, 0, none⟩ = some (.slice S1 s.states.length S1c) := blk_cell X_s 0
  have c_s1 : w22.cell? ⟨w.heap.size, 1, none⟩ = some (.slice S2 s.queue.length S2c) := blk_cell X_s 1
  have c_s2 : w22.cell? ⟨w.heap.size, 2, none⟩ = some (.slice S3 s.outs.length S3c) := blk_cell X_s 2
  have c_w0 : w22.cell? ⟨gw, 0, none⟩ = some (.slice P1 x.states.length P1c) := blk_cell X_w 0
  have c_w1 : w22.cell? ⟨gw, 1, none⟩ = some (.slice P2 x.queue.length P2c) := blk_cell X_w 1
  have c_w2 : w22.cell? ⟨gw, 2, none⟩ = some (.slice P3 x.outs.length P3c) := blk_cell X_w 2
  have c_z0 : w22.cell? ⟨gz, 0, none⟩ = some (.slice Z1 s.states.length Z1c) := blk_cell X_z 0
  have c_z1 : w22.cell? ⟨gz, 1, none⟩ = some (.slice Z2 s.queue.length Z2c) := blk_cell X_z 1
  have c_z2 : w22.cell? ⟨gz, 2, none⟩ = some (.slice Z3 s.outs.length Z3c) := blk_cell X_z 2
  have c_g0 : w22.cell? ⟨gg, 0, none⟩ = some (.slice G1 x.states.length G1c) := blk_cell X_g 0
  have c_g1 : w22.cell? ⟨gg, 1, none⟩ = some (.slice G2 x.queue.length G2c) := blk_cell X_g 1
  have c_g2 : w22.cell? ⟨gg, 2, none⟩ = some (.slice G3 x.outs.length G3c) := blk_cell X_g 2
  have c_h0 : w22.cell? ⟨gh, 0, none⟩ = some (.slice K1 x.states.length K1c) := blk_cell X_h 0
  have c_h1 : w22.cell? ⟨gh, 1, none⟩ = some (.slice K2 x.queue.length K2c) := blk_cell X_h 1
  have c_h2 : w22.cell? ⟨gh, 2, none⟩ = some (.slice K3 x.outs.length K3c) := blk_cell X_h 2
  apply_assumption
  go_wp2_with fail
  refine (heldSim_c _ _ _ 1 x.states.length x.queue.length x.outs.length _ _ n_g.rd (by decide) (by decide) (by have := hle.out; omega) (by have := hle.out; omega) (by have := hle.out; omega)).mono ?_
  rintro q w23 ⟨rfl, hb23⟩
  clear c_s0 c_s1 c_s2 c_w0 c_w1 c_w2 c_z0 c_z1 c_z2 c_g0 c_g1 c_g2 c_h0 c_h1 c_h2
  replace HB := bthen HB hb23 HB.size
  replace X_s := below_heap hb23 (blk_lt X_s) X_s
  replace X_w := below_heap hb23 (blk_lt X_w) X_w
  replace X_z := below_heap hb23 (blk_lt X_z) X_z
  replace X_g := below_heap hb23 (blk_lt X_g) X_g
  replace X_h := below_heap hb23 (blk_lt X_h) X_h
  replace n_w := n_w.below hb23
  replace n_g := n_g.below hb23
  replace n_h := n_h.below hb23
  replace hA := hA.below hb23
  replace h := h.below hb23
  rw [Hm2.out]
  clear hb23
  have c_s0 : w23.cell? ⟨w.heap.size, 0, none⟩ = some (.slice S1 s.states.length S1c) := blk_cell X_s 0
  have c_s1 : w23.cell? ⟨w.heap.size, 1, none⟩ = some (.slice S2 s.queue.length S2c) := blk_cell X_s 1
  have c_s2 : w23.cell? ⟨w.heap.size, 2, none⟩ = some (.slice S3 s.outs.length S3c) := blk_cell X_s 2
  have c_w0 : w23.cell? ⟨gw, 0, none⟩ = some (.slice P1 x.states.length P1c) := blk_cell X_w 0
  have c_w1 : w23.cell? ⟨gw, 1, none⟩ = some (.slice P2 x.queue.length P2c) := blk_cell X_w 1
  have c_w2 : w23.cell? ⟨gw, 2, none⟩ = some (.slice P3 x.outs.length P3c) := blk_cell X_w 2
  have c_z0 : w23.cell? ⟨gz, 0, none⟩ = some (.slice Z1 s.states.length Z1c) := blk_cell X_z 0
  have c_z1 : w23.cell? ⟨gz, 1, none⟩ = some (.slice Z2 s.queue.length Z2c) := blk_cell X_z 1
  have c_z2 : w23.cell? ⟨gz, 2, none⟩ = some (.slice Z3 s.outs.length Z3c) := blk_cell X_z 2
  have c_g0 : w23.cell? ⟨gg, 0, none⟩ = some (.slice G1 x.states.length G1c) := blk_cell X_g 0
  have c_g1 : w23.cell? ⟨gg, 1, none⟩ = some (.slice G2 x.queue.length G2c) := blk_cell X_g 1
  have c_g2 : w23.cell? ⟨gg, 2, none⟩ = some (.slice G3 x.outs.length G3c) := blk_cell X_g 2
  have c_h0 : w23.cell? ⟨gh, 0, none⟩ = some (.slice K1 x.states.length K1c) := blk_cell X_h 0
  have c_h1 : w23.cell? ⟨gh, 1, none⟩ = some (.slice K2 x.queue.length K2c) := blk_cell X_h 1
  have c_h2 : w23.cell? ⟨gh, 2, none⟩ = some (.slice K3 x.outs.length K3c) := blk_cell X_h 2
  apply_assumption
  go_wp2_with fail
  go_ret
  exact ⟨rfl, HB⟩
end Go.Proofs.YtbcemldiahghcaaGreat
