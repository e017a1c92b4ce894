/- Texts joined: Spc12, Imp17, Draw6. -/
import Derived.Test.YtmnccekljombmaaJ26
import Derived.Test.YtmnccekljombmaaJ23
import Derived.Deep.DeepCutAuto
namespace Go.Proofs.Ytmnccekljombmaa
set_option linter.unusedVariables false
set_option linter.unusedSimpArgs false
set_option maxRecDepth 100000
open Go.RowKit
/-- What a run comes to. -/
def RunSPost (apps : List AppD) (u : Int) (w : World) (q : Ending) (w' : World) : Prop :=
  ∃ us uq uo, q = .returned (.agg #[us, uq, uo]) ∧ SimOw w' (fun k => w.heap.size ≤ k) us uq uo (simRun apps u) ∧ Below w.heap.size w w'
set_option maxHeartbeats 4000000 in
theorem SimRun_no (va : Value) (apps : List AppD) (u : Int) (F : Nat → Prop) (w : World) (hA : Rd tApp w F va apps) (qa : appsOk apps = false) :
    Calls Try.prog 40 #[va, .int .i64 u] w (RunSPost apps u w) := by
  have HF := hid (show simRun apps u = sim0 by simp [simRun, qa])
  obtain ⟨A0, c0, rfl, m0⟩ := hA.shape
  go_enter Try.func40, Try.ntmps40
  go_wp2_with fail
  have hW := balloc (Below.refl w.heap.size w) (.cells #[.slice none 0 0, .slice none 0 0, .slice none 0 0] 64)
  have B0 : (w.alloc (.cells #[.slice none 0 0, .slice none 0 0, .slice none 0 0] 64)).heap[w.heap.size]? = some (.cells #[.slice none 0 0, .slice none 0 0, .slice none 0 0] 64 (0, 0)) := heap_at rfl
  generalize w.alloc (.cells #[.slice none 0 0, .slice none 0 0, .slice none 0 0] 64) = W at *
  refine (SimStart_c W).mono ?_
  rintro e w1 ⟨us, uq, uo, rfl, n1, hb1⟩
  obtain ⟨X1, a1, rfl, z1⟩ := n1.st.shape
  obtain ⟨X2, a2, rfl, z2⟩ := n1.qu.shape
  obtain ⟨X3, a3, rfl, z3⟩ := n1.ou.shape
  have hb1' := bthen hW hb1 hW.size
  have C0 := below_heap hb1 (blk_lt B0) B0
  have hA1 := hA.below (hb1'.alloc hb1'.size (.cells #[.slice X1 simStart.states.length a1, .slice X2 simStart.queue.length a2, .slice X3 simStart.outs.length a3] 64))
  have D0 := (heap_old (o := .cells #[.slice X1 simStart.states.length a1, .slice X2 simStart.queue.length a2, .slice X3 simStart.outs.length a3] 64) (blk_lt C0)).trans C0
  have hb2 := hb1'.alloc hb1'.size (.cells #[.slice X1 simStart.states.length a1, .slice X2 simStart.queue.length a2, .slice X3 simStart.outs.length a3] 64)
  clear B0 C0 hb1 hb1' hW n1
  apply_assumption
  go_wp2_with fail
  refine (AppOk_c _ apps F _ hA1).mono ?_
  rintro e w3 ⟨rfl, hb3⟩
  rw [qa]
  have E0 := below_heap hb3 (blk_lt D0) D0
  have hb3' := bthen hb2 hb3 hb2.size
  have x0 : w3.cell? ⟨w.heap.size, 0, none⟩ = some (.slice none 0 0) := blk_cell E0 0
  have x1 : w3.cell? ⟨w.heap.size, 1, none⟩ = some (.slice none 0 0) := blk_cell E0 1
  have x2 : w3.cell? ⟨w.heap.size, 2, none⟩ = some (.slice none 0 0) := blk_cell E0 2
  have y0 := blk_frozen E0 0
  have y1 := blk_frozen E0 1
  have y2 := blk_frozen E0 2
  clear D0 hb2 hb3 hA1
  apply_assumption
  go_wp2_with fail
  obtain ⟨BW, nW, hbX⟩ := sim_store (w := w) (g := w.heap.size) (B := w.heap.size) (s := sim0) E0 ⟨Ow.nil _ _ _ _, Ow.nil _ _ _ _, Ow.nil _ _ _ _⟩ (Nat.le_refl _) hb3' (.slice none 0 0) (.slice none 0 0) (.slice none 0 0) rfl rfl rfl
  generalize ((w3.setCell ⟨w.heap.size, 0, none⟩ (.slice none 0 0)).setCell ⟨w.heap.size, 1, none⟩ (.slice none 0 0)).setCell ⟨w.heap.size, 2, none⟩ (.slice none 0 0) = W3 at *
  have r0 : W3.cell? ⟨w.heap.size, 0, none⟩ = some (.slice none 0 0) := blk_cell BW 0
  have r1 : W3.cell? ⟨w.heap.size, 1, none⟩ = some (.slice none 0 0) := blk_cell BW 1
  have r2 : W3.cell? ⟨w.heap.size, 2, none⟩ = some (.slice none 0 0) := blk_cell BW 2
  refine bodyPost_ret (v := .agg #[.slice none 0 0, .slice none 0 0, .slice none 0 0]) (by simp only [results, Try.results40]; go_simp) rfl ⟨_, _, _, rfl, by rw [HF.out]; exact nW, hbX⟩
set_option maxHeartbeats 4000000 in
theorem SimRun_yes (va : Value) (apps : List AppD) (u : Int) (F : Nat → Prop) (w : World) (hA : Rd tApp w F va apps) (qa : appsOk apps = true) :
    Calls Try.prog 40 #[va, .int .i64 u] w (RunSPost apps u w) := by
  have HF := hid (show simRun apps u = simLoop apps u 200 simStart by simp [simRun, qa])
  have hL0 : left simStart ≤ (200 : Nat) := by decide
  obtain ⟨A0, c0, rfl, m0⟩ := hA.shape
  go_enter Try.func40, Try.ntmps40
  go_wp2_with fail
  have hW := balloc (Below.refl w.heap.size w) (.cells #[.slice none 0 0, .slice none 0 0, .slice none 0 0] 64)
  have B0 : (w.alloc (.cells #[.slice none 0 0, .slice none 0 0, .slice none 0 0] 64)).heap[w.heap.size]? = some (.cells #[.slice none 0 0, .slice none 0 0, .slice none 0 0] 64 (0, 0)) := heap_at rfl
  generalize w.alloc (.cells #[.slice none 0 0, .slice none 0 0, .slice none 0 0] 64) = W at *
  refine (SimStart_c W).mono ?_
  rintro e w1 ⟨us, uq, uo, rfl, n1, hb1⟩
  obtain ⟨X1, a1, rfl, z1⟩ := n1.st.shape
  obtain ⟨X2, a2, rfl, z2⟩ := n1.qu.shape
  obtain ⟨X3, a3, rfl, z3⟩ := n1.ou.shape
  have hb1' := bthen hW hb1 hW.size
  have C0 := below_heap hb1 (blk_lt B0) B0
  have hg5 := blk_lt C0
  have n2 := (n1.below (balloc (Below.refl _ _) (.cells #[.slice X1 simStart.states.length a1, .slice X2 simStart.queue.length a2, .slice X3 simStart.outs.length a3] 64))).mono (F' := fun k => w.heap.size ≤ k) (fun k hk => Nat.le_trans hW.size hk)
  have D0 := (heap_old (o := .cells #[.slice X1 simStart.states.length a1, .slice X2 simStart.queue.length a2, .slice X3 simStart.outs.length a3] 64) (blk_lt C0)).trans C0
  have D1 : (w1.alloc (.cells #[.slice X1 simStart.states.length a1, .slice X2 simStart.queue.length a2, .slice X3 simStart.outs.length a3] 64)).heap[w1.heap.size]? = some (.cells #[.slice X1 simStart.states.length a1, .slice X2 simStart.queue.length a2, .slice X3 simStart.outs.length a3] 64 (0, 0)) := heap_at rfl
  have hb2 := hb1'.alloc hb1'.size (.cells #[.slice X1 simStart.states.length a1, .slice X2 simStart.queue.length a2, .slice X3 simStart.outs.length a3] 64)
  have hA1 := hA.below hb2
  clear B0 C0 hb1 hb1' hW n1
  apply_assumption
  go_wp2_with fail
  refine (AppOk_c _ apps F _ hA1).mono ?_
  rintro e w3 ⟨rfl, hb3⟩
  rw [qa]
  have E0 := below_heap hb3 (blk_lt D0) D0
  have E1 := below_heap hb3 (blk_lt D1) D1
  have n3 := n2.below hb3
  have hb3' := bthen hb2 hb3 hb2.size
  clear D0 D1 hb2 hb3 hA1 n2
  apply_assumption
  go_wp2_with fail
  obtain ⟨g5, hg⟩ : ∃ g, g = w1.heap.size := ⟨_, rfl⟩
  rw [← hg] at hg5 E1
  simp only [← hg]
  clear hg
  go_loopg [] 200 (fun k wr => ∃ s vs vq vo, wr.heap[w.heap.size]? = some (.cells #[.slice none 0 0, .slice none 0 0, .slice none 0 0] 64 (0, 0)) ∧ wr.heap[g5]? = some (.cells #[vs, vq, vo] 64 (0, 0)) ∧ SimOw wr (fun k => w.heap.size ≤ k) vs vq vo s ∧ Below w.heap.size w wr ∧ SInv s ∧ left s ≤ (k : Nat) ∧ Hid (simLoop apps u k s = simLoop apps u 200 simStart))
  case atStart => exact ⟨simStart, _, _, _, E0, E1, n3, hb3', SInv.start, hL0, rfl⟩
  case round =>
    clear E0 E1 n3 hb3' hL0 z1 z2 z3
    obtain ⟨s, vs, vq, vo, G0, G1, n, hb, hI, hl, HL⟩ := hrel
    obtain ⟨V1, b1, rfl, v1⟩ := n.st.shape
    obtain ⟨V2, b2, rfl, v2⟩ := n.qu.shape
    obtain ⟨V3, b3, rfl, v3⟩ := n.ou.shape
    by_cases hp : 0 < s.queue.length
    · obtain ⟨e, rest, hq⟩ : ∃ e rest, s.queue = e :: rest := by
        cases hh : s.queue with
        | nil => rw [hh] at hp; simp at hp
        | cons e rest => exact ⟨e, rest, rfl⟩
      obtain ⟨bq, oq, rfl, hbq, e0, -, -, -, -, -, -⟩ := ev_at n.qu.rd 0 hp
      have he : s.queue[0] = e := by simp [hq]
      rw [he] at e0
      simp only [Nat.zero_mul, Nat.add_zero] at e0
      have HQ := hid hq
      have hlq := hI.left_nonneg
      have hk : 0 < gk := by omega
      obtain ⟨k', rfl⟩ : ∃ k', gk = k' + 1 := ⟨gk - 1, by omega⟩
      have q0 : decide ((s.queue.length : Int) > 0) = true := by simp; omega
      have q1 : decide (0 < s.queue.length) = true := by simp; omega
      have q2 : (0 : Int) < (s.queue.length : Int) := by omega
      clear he hq hlq
      have c0 : wr.cell? ⟨g5, 0, none⟩ = some (.slice V1 s.states.length b1) := blk_cell G1 0
      have c1 : wr.cell? ⟨g5, 1, none⟩ = some (.slice (some ⟨bq, oq, none⟩) s.queue.length b2) := blk_cell G1 1
      have c2 : wr.cell? ⟨g5, 2, none⟩ = some (.slice V3 s.outs.length b3) := blk_cell G1 2
      by_cases ht : e.time < u
      · have htd : decide (e.time < u) = true := by simpa using ht
        have HStep := hid (show simStep apps s = (simNext apps s, true) by rw [simStep, if_pos ⟨hI.ok, qa⟩, simStepV_ok qa hI HQ.out])
        have hN := simNext_ok qa hI HQ.out
        have HL' := hid (show simLoop apps u k' (simNext apps s) = simLoop apps u 200 simStart by rw [← HL.out, simLoop_step u k' qa hI HQ.out, if_pos ht])
        have hI' := hN.inv
        have hless := hN.less
        have hl' : left (simNext apps s) ≤ (k' : Nat) := by unfold left at hl ⊢; push_cast at hl; omega
        clear hN HL ht hless hl
        go_wp2_with fail
        refine (SimStepS_c _ _ _ _ apps s _ wr ((hA.below hb).mono (F' := fun _ => True) (fun _ _ => trivial)) (n.rd.mono (fun _ _ => trivial))).mono ?_
        rintro q w5 ⟨us, uq, uo, rfl, n5, hb5⟩
        rw [HStep.out] at n5 ⊢
        obtain ⟨Z1, t1, rfl, u1⟩ := n5.st.shape
        obtain ⟨Z2, t2, rfl, u2⟩ := n5.qu.shape
        obtain ⟨Z3, t3, rfl, u3⟩ := n5.ou.shape
        have G05 := below_heap hb5 (blk_lt G0) G0
        have G15 := below_heap hb5 (blk_lt G1) G1
        have hb5' := bthen hb hb5 hb.size
        have n5' := n5.mono (F' := fun k => w.heap.size ≤ k) (fun k hk => Nat.le_trans hb.size hk)
        have hl5 := blk_lt G15
        clear G0 G1 n hb n5 hb5 c0 c1 c2 e0 v1 v2 v3
        have c0 : w5.cell? ⟨g5, 0, none⟩ = some (.slice V1 s.states.length b1) := blk_cell G15 0
        have c1 : w5.cell? ⟨g5, 1, none⟩ = some (.slice (some ⟨bq, oq, none⟩) s.queue.length b2) := blk_cell G15 1
        have c2 : w5.cell? ⟨g5, 2, none⟩ = some (.slice V3 s.outs.length b3) := blk_cell G15 2
        have f0 := blk_frozen G15 0
        have f1 := blk_frozen G15 1
        have f2 := blk_frozen G15 2
        apply_assumption
        go_wp2_with fail
        obtain ⟨BW, nW, hbX⟩ := sim_store (w := w) (g := g5) G15 n5' (by omega) hb5' (.slice Z1 (simNext apps s).states.length t1) (.slice Z2 (simNext apps s).queue.length t2) (.slice Z3 (simNext apps s).outs.length t3) rfl rfl rfl
        have hne : ¬ (w.heap.size = g5) := by omega
        have G0X : (((w5.setCell ⟨g5, 0, none⟩ (.slice Z1 (simNext apps s).states.length t1)).setCell ⟨g5, 1, none⟩ (.slice Z2 (simNext apps s).queue.length t2)).setCell ⟨g5, 2, none⟩ (.slice Z3 (simNext apps s).outs.length t3)).heap[w.heap.size]? = some (.cells #[.slice none 0 0, .slice none 0 0, .slice none 0 0] 64 (0, 0)) := (Below.heap_setCell _ (⟨g5, 2, none⟩ : Addr) _ w.heap.size hne).trans ((Below.heap_setCell _ (⟨g5, 1, none⟩ : Addr) _ w.heap.size hne).trans ((Below.heap_setCell _ (⟨g5, 0, none⟩ : Addr) _ w.heap.size hne).trans G05))
        have G0Y := (heap_old (o := (.cells #[.slice Z1 (simNext apps s).states.length t1, .slice Z2 (simNext apps s).queue.length t2, .slice Z3 (simNext apps s).outs.length t3] 64)) (blk_lt G0X)).trans G0X
        have G1Y := (heap_old (o := (.cells #[.slice Z1 (simNext apps s).states.length t1, .slice Z2 (simNext apps s).queue.length t2, .slice Z3 (simNext apps s).outs.length t3] 64)) (blk_lt BW)).trans BW
        have nY := nW.below (balloc (Below.refl _ _) (.cells #[.slice Z1 (simNext apps s).states.length t1, .slice Z2 (simNext apps s).queue.length t2, .slice Z3 (simNext apps s).outs.length t3] 64))
        have hbY := hbX.alloc hbX.size (.cells #[.slice Z1 (simNext apps s).states.length t1, .slice Z2 (simNext apps s).queue.length t2, .slice Z3 (simNext apps s).outs.length t3] 64)
        go_roundg k'
        case measure => omega
        case rel => exact ⟨simNext apps s, _, _, _, G0Y, G1Y, nY, hbY, hI', hl', HL'⟩
      · have htd : decide (e.time < u) = false := by simpa using ht
        have HS := hid (show simLoop apps u (k' + 1) s = s by rw [simLoop_step u k' qa hI HQ.out, if_neg ht])
        clear ht
        have y0 := blk_frozen G0 0
        have y1 := blk_frozen G0 1
        have y2 := blk_frozen G0 2
        have x0 : wr.cell? ⟨w.heap.size, 0, none⟩ = some (.slice none 0 0) := blk_cell G0 0
        have x1 : wr.cell? ⟨w.heap.size, 1, none⟩ = some (.slice none 0 0) := blk_cell G0 1
        have x2 : wr.cell? ⟨w.heap.size, 2, none⟩ = some (.slice none 0 0) := blk_cell G0 2
        have HR := hid (show simRun apps u = s by rw [HF.out, ← HL.out, HS.out])
        go_wp2_with fail
        obtain ⟨BW, nW, hbX⟩ := sim_store (w := w) (g := w.heap.size) G0 n (Nat.le_refl _) hb (.slice V1 s.states.length b1) (.slice (some ⟨bq, oq, none⟩) s.queue.length b2) (.slice V3 s.outs.length b3) rfl rfl rfl
        generalize ((wr.setCell ⟨w.heap.size, 0, none⟩ (.slice V1 s.states.length b1)).setCell ⟨w.heap.size, 1, none⟩ (.slice (some ⟨bq, oq, none⟩) s.queue.length b2)).setCell ⟨w.heap.size, 2, none⟩ (.slice V3 s.outs.length b3) = W9 at *
        have s0 : W9.cell? ⟨w.heap.size, 0, none⟩ = some (.slice V1 s.states.length b1) := blk_cell BW 0
        have s1 : W9.cell? ⟨w.heap.size, 1, none⟩ = some (.slice (some ⟨bq, oq, none⟩) s.queue.length b2) := blk_cell BW 1
        have s2 : W9.cell? ⟨w.heap.size, 2, none⟩ = some (.slice V3 s.outs.length b3) := blk_cell BW 2
        refine bodyPost_ret (v := .agg #[.slice V1 s.states.length b1, .slice (some ⟨bq, oq, none⟩) s.queue.length b2, .slice V3 s.outs.length b3]) (by simp only [results, Try.results40]; go_simp) rfl ⟨_, _, _, rfl, by rw [HR.out]; exact nW, hbX⟩
    · have hq : s.queue = [] := List.length_eq_zero_iff.1 (by omega)
      have HS := hid (show simLoop apps u gk s = s from simLoop_nil u gk hq)
      have hn0 : s.queue.length = 0 := by rw [hq]; rfl
      have q0 : decide ((s.queue.length : Int) > 0) = false := by rw [hn0]; rfl
      have q1 : decide (0 < s.queue.length) = false := by rw [hn0]; rfl
      clear hq hn0 hp
      have c0 : wr.cell? ⟨g5, 0, none⟩ = some (.slice V1 s.states.length b1) := blk_cell G1 0
      have c1 : wr.cell? ⟨g5, 1, none⟩ = some (.slice V2 s.queue.length b2) := blk_cell G1 1
      have c2 : wr.cell? ⟨g5, 2, none⟩ = some (.slice V3 s.outs.length b3) := blk_cell G1 2
      have y0 := blk_frozen G0 0
      have y1 := blk_frozen G0 1
      have y2 := blk_frozen G0 2
      have x0 : wr.cell? ⟨w.heap.size, 0, none⟩ = some (.slice none 0 0) := blk_cell G0 0
      have x1 : wr.cell? ⟨w.heap.size, 1, none⟩ = some (.slice none 0 0) := blk_cell G0 1
      have x2 : wr.cell? ⟨w.heap.size, 2, none⟩ = some (.slice none 0 0) := blk_cell G0 2
      have HR := hid (show simRun apps u = s by rw [HF.out, ← HL.out, HS.out])
      go_wp2_with fail
      obtain ⟨BW, nW, hbX⟩ := sim_store (w := w) (g := w.heap.size) G0 n (Nat.le_refl _) hb (.slice V1 s.states.length b1) (.slice V2 s.queue.length b2) (.slice V3 s.outs.length b3) rfl rfl rfl
      generalize ((wr.setCell ⟨w.heap.size, 0, none⟩ (.slice V1 s.states.length b1)).setCell ⟨w.heap.size, 1, none⟩ (.slice V2 s.queue.length b2)).setCell ⟨w.heap.size, 2, none⟩ (.slice V3 s.outs.length b3) = W9 at *
      have s0 : W9.cell? ⟨w.heap.size, 0, none⟩ = some (.slice V1 s.states.length b1) := blk_cell BW 0
      have s1 : W9.cell? ⟨w.heap.size, 1, none⟩ = some (.slice V2 s.queue.length b2) := blk_cell BW 1
      have s2 : W9.cell? ⟨w.heap.size, 2, none⟩ = some (.slice V3 s.outs.length b3) := blk_cell BW 2
      refine bodyPost_ret (v := .agg #[.slice V1 s.states.length b1, .slice V2 s.queue.length b2, .slice V3 s.outs.length b3]) (by simp only [results, Try.results40]; go_simp) rfl ⟨_, _, _, rfl, by rw [HR.out]; exact nW, hbX⟩
theorem SimRunS_c (va : Value) (apps : List AppD) (u : Int) (F : Nat → Prop) (w : World) (hA : Rd tApp w F va apps) :
    Calls Try.prog 40 #[va, .int .i64 u] w (RunSPost apps u w) := by
  cases qa : appsOk apps with
  | false => exact SimRun_no va apps u F w hA qa
  | true => exact SimRun_yes va apps u F w hA qa
end Go.Proofs.Ytmnccekljombmaa

namespace Go.Proofs.Ytmnccekljombmaa
set_option linter.unusedVariables false
set_option linter.unusedSimpArgs false
set_option maxRecDepth 100000
open Go.RowKit
set_option maxHeartbeats 1000000 in
theorem SimRunI_no (va : Value) (apps : List AppD) (u : Int) (F : Nat → Prop) (w : World) (hA : Rd tApp w F va apps) (qa : appsOk apps = false) :
    Calls Try.prog 39 #[va, .int .i64 u] w (RunSPost apps u w) := by
  have HF := hid (show simRun apps u = sim0 by simp [simRun, qa])
  obtain ⟨A0, c0, rfl, m0⟩ := hA.shape
  go_enter Try.func39, Try.ntmps39
  go_wp2_with fail
  have hb2 := balloc (Below.refl w.heap.size w) (.cells #[.slice none 0 0, .slice none 0 0, .slice none 0 0] 64)
  have D0 : (w.alloc (.cells #[.slice none 0 0, .slice none 0 0, .slice none 0 0] 64)).heap[w.heap.size]? = some (.cells #[.slice none 0 0, .slice none 0 0, .slice none 0 0] 64 (0, 0)) := heap_at rfl
  generalize w.alloc (.cells #[.slice none 0 0, .slice none 0 0, .slice none 0 0] 64) = W at *
  refine (AppOkI_c _ apps F _ (hA.below hb2)).mono ?_
  rintro e w3 ⟨rfl, hb3⟩
  rw [qa]
  have E0 := below_heap hb3 (blk_lt D0) D0
  have hb3' := bthen hb2 hb3 hb2.size
  have x0 : w3.cell? ⟨w.heap.size, 0, none⟩ = some (.slice none 0 0) := blk_cell E0 0
  have x1 : w3.cell? ⟨w.heap.size, 1, none⟩ = some (.slice none 0 0) := blk_cell E0 1
  have x2 : w3.cell? ⟨w.heap.size, 2, none⟩ = some (.slice none 0 0) := blk_cell E0 2
  have y0 := blk_frozen E0 0
  have y1 := blk_frozen E0 1
  have y2 := blk_frozen E0 2
  clear D0 hb2 hb3
  apply_assumption
  go_wp2_with fail
  obtain ⟨BW, nW, hbX⟩ := sim_store (w := w) (g := w.heap.size) (B := w.heap.size) (s := sim0) E0 ⟨Ow.nil _ _ _ _, Ow.nil _ _ _ _, Ow.nil _ _ _ _⟩ (Nat.le_refl _) hb3' (.slice none 0 0) (.slice none 0 0) (.slice none 0 0) rfl rfl rfl
  generalize ((w3.setCell ⟨w.heap.size, 0, none⟩ (.slice none 0 0)).setCell ⟨w.heap.size, 1, none⟩ (.slice none 0 0)).setCell ⟨w.heap.size, 2, none⟩ (.slice none 0 0) = W3 at *
  have r0 : W3.cell? ⟨w.heap.size, 0, none⟩ = some (.slice none 0 0) := blk_cell BW 0
  have r1 : W3.cell? ⟨w.heap.size, 1, none⟩ = some (.slice none 0 0) := blk_cell BW 1
  have r2 : W3.cell? ⟨w.heap.size, 2, none⟩ = some (.slice none 0 0) := blk_cell BW 2
  refine bodyPost_ret (v := .agg #[.slice none 0 0, .slice none 0 0, .slice none 0 0]) (by simp only [results, Try.results39]; go_simp) rfl ⟨_, _, _, rfl, by rw [HF.out]; exact nW, hbX⟩
set_option maxHeartbeats 1000000 in
theorem SimRunI_yes (va : Value) (apps : List AppD) (u : Int) (F : Nat → Prop) (w : World) (hA : Rd tApp w F va apps) (qa : appsOk apps = true) :
    Calls Try.prog 39 #[va, .int .i64 u] w (RunSPost apps u w) := by
  have HF := hid (show simRun apps u = simLoop apps u 200 simStart by simp [simRun, qa])
  have hL0 : left simStart ≤ (200 : Nat) := by decide
  obtain ⟨A0, c0, rfl, m0⟩ := hA.shape
  go_enter Try.func39, Try.ntmps39
  go_wp2_with fail
  have hW := balloc (Below.refl w.heap.size w) (.cells #[.slice none 0 0, .slice none 0 0, .slice none 0 0] 64)
  have B0 : (w.alloc (.cells #[.slice none 0 0, .slice none 0 0, .slice none 0 0] 64)).heap[w.heap.size]? = some (.cells #[.slice none 0 0, .slice none 0 0, .slice none 0 0] 64 (0, 0)) := heap_at rfl
  generalize w.alloc (.cells #[.slice none 0 0, .slice none 0 0, .slice none 0 0] 64) = W at *
  refine (AppOkI_c _ apps F _ (hA.below hW)).mono ?_
  rintro e w0 ⟨rfl, hb0⟩
  rw [qa]
  have A0' := below_heap hb0 (blk_lt B0) B0
  have hW0 := bthen hW hb0 hW.size
  clear B0 hW hb0
  apply_assumption
  go_wp2_with fail
  refine (SimStartI_c w0).mono ?_
  rintro e w1 ⟨us, uq, uo, rfl, n1, hb1⟩
  obtain ⟨X1, a1, rfl, z1⟩ := n1.st.shape
  obtain ⟨X2, a2, rfl, z2⟩ := n1.qu.shape
  obtain ⟨X3, a3, rfl, z3⟩ := n1.ou.shape
  have hb1' := bthen hW0 hb1 hW0.size
  have C0 := below_heap hb1 (blk_lt A0') A0'
  have hg5 := blk_lt C0
  have n3 := (n1.below (balloc (Below.refl _ _) (.cells #[.slice X1 simStart.states.length a1, .slice X2 simStart.queue.length a2, .slice X3 simStart.outs.length a3] 64))).mono (F' := fun k => w.heap.size ≤ k) (fun k hk => Nat.le_trans hW0.size hk)
  have E0 := (heap_old (o := .cells #[.slice X1 simStart.states.length a1, .slice X2 simStart.queue.length a2, .slice X3 simStart.outs.length a3] 64) (blk_lt C0)).trans C0
  have E1 : (w1.alloc (.cells #[.slice X1 simStart.states.length a1, .slice X2 simStart.queue.length a2, .slice X3 simStart.outs.length a3] 64)).heap[w1.heap.size]? = some (.cells #[.slice X1 simStart.states.length a1, .slice X2 simStart.queue.length a2, .slice X3 simStart.outs.length a3] 64 (0, 0)) := heap_at rfl
  have hb3' := hb1'.alloc hb1'.size (.cells #[.slice X1 simStart.states.length a1, .slice X2 simStart.queue.length a2, .slice X3 simStart.outs.length a3] 64)
  clear A0' C0 hb1 hb1' hW0 n1
  apply_assumption
  go_wp2_with fail
  obtain ⟨g5, hg⟩ : ∃ g, g = w1.heap.size := ⟨_, rfl⟩
  rw [← hg] at hg5 E1
  simp only [← hg]
  clear hg
  go_loopg [] 200 (fun k wr => ∃ s vs vq vo, wr.heap[w.heap.size]? = some (.cells #[.slice none 0 0, .slice none 0 0, .slice none 0 0] 64 (0, 0)) ∧ wr.heap[g5]? = some (.cells #[vs, vq, vo] 64 (0, 0)) ∧ SimOw wr (fun k => w.heap.size ≤ k) vs vq vo s ∧ Below w.heap.size w wr ∧ SInv s ∧ left s ≤ (k : Nat) ∧ Hid (simLoop apps u k s = simLoop apps u 200 simStart))
  case atStart => exact ⟨simStart, _, _, _, E0, E1, n3, hb3', SInv.start, hL0, rfl⟩
  case round =>
    clear E0 E1 n3 hb3' hL0 z1 z2 z3
    obtain ⟨s, vs, vq, vo, G0, G1, n, hb, hI, hl, HL⟩ := hrel
    obtain ⟨V1, b1, rfl, v1⟩ := n.st.shape
    obtain ⟨V2, b2, rfl, v2⟩ := n.qu.shape
    obtain ⟨V3, b3, rfl, v3⟩ := n.ou.shape
    by_cases hp : 0 < s.queue.length
    · obtain ⟨e, rest, hq⟩ : ∃ e rest, s.queue = e :: rest := by
        cases hh : s.queue with
        | nil => rw [hh] at hp; simp at hp
        | cons e rest => exact ⟨e, rest, rfl⟩
      obtain ⟨bq, oq, rfl, hbq, e0, -, -, -, -, -, -⟩ := ev_at n.qu.rd 0 hp
      have he : s.queue[0] = e := by simp [hq]
      rw [he] at e0
      simp only [Nat.zero_mul, Nat.add_zero] at e0
      have HQ := hid hq
      have hlq := hI.left_nonneg
      have hk : 0 < gk := by omega
      obtain ⟨k', rfl⟩ : ∃ k', gk = k' + 1 := ⟨gk - 1, by omega⟩
      have q0 : decide ((s.queue.length : Int) > 0) = true := by simp; omega
      have q1 : decide (0 < s.queue.length) = true := by simp; omega
      have q2 : (0 : Int) < (s.queue.length : Int) := by omega
      clear he hq hlq
      have c0 : wr.cell? ⟨g5, 0, none⟩ = some (.slice V1 s.states.length b1) := blk_cell G1 0
      have c1 : wr.cell? ⟨g5, 1, none⟩ = some (.slice (some ⟨bq, oq, none⟩) s.queue.length b2) := blk_cell G1 1
      have c2 : wr.cell? ⟨g5, 2, none⟩ = some (.slice V3 s.outs.length b3) := blk_cell G1 2
      by_cases ht : e.time < u
      · have htd : decide (e.time < u) = true := by simpa using ht
        have HStep := hid (show simStepV apps s = (simNext apps s, true) by rw [simStepV_ok qa hI HQ.out])
        have hN := simNext_ok qa hI HQ.out
        have HL' := hid (show simLoop apps u k' (simNext apps s) = simLoop apps u 200 simStart by rw [← HL.out, simLoop_step u k' qa hI HQ.out, if_pos ht])
        have hI' := hN.inv
        have hless := hN.less
        have hl' : left (simNext apps s) ≤ (k' : Nat) := by unfold left at hl ⊢; push_cast at hl; omega
        clear hN HL ht hless hl
        go_wp2_with fail
        refine (simStepI_c _ _ _ _ apps s _ wr ((hA.below hb).mono (F' := fun _ => True) (fun _ _ => trivial)) (n.rd.mono (fun _ _ => trivial)) qa hI.ok).mono ?_
        rintro q w5 ⟨us, uq, uo, rfl, n5, -, hb5⟩
        rw [HStep.out] at n5 ⊢
        replace n5 := n5 rfl
        obtain ⟨Z1, t1, rfl, u1⟩ := n5.st.shape
        obtain ⟨Z2, t2, rfl, u2⟩ := n5.qu.shape
        obtain ⟨Z3, t3, rfl, u3⟩ := n5.ou.shape
        have G05 := below_heap hb5 (blk_lt G0) G0
        have G15 := below_heap hb5 (blk_lt G1) G1
        have hb5' := bthen hb hb5 hb.size
        have n5' := n5.mono (F' := fun k => w.heap.size ≤ k) (fun k hk => Nat.le_trans hb.size hk)
        have hl5 := blk_lt G15
        clear G0 G1 n hb n5 hb5 c0 c1 c2 e0 v1 v2 v3
        have c0 : w5.cell? ⟨g5, 0, none⟩ = some (.slice V1 s.states.length b1) := blk_cell G15 0
        have c1 : w5.cell? ⟨g5, 1, none⟩ = some (.slice (some ⟨bq, oq, none⟩) s.queue.length b2) := blk_cell G15 1
        have c2 : w5.cell? ⟨g5, 2, none⟩ = some (.slice V3 s.outs.length b3) := blk_cell G15 2
        have f0 := blk_frozen G15 0
        have f1 := blk_frozen G15 1
        have f2 := blk_frozen G15 2
        apply_assumption
        go_wp2_with fail
        obtain ⟨BW, nW, hbX⟩ := sim_store (w := w) (g := g5) G15 n5' (by omega) hb5' (.slice Z1 (simNext apps s).states.length t1) (.slice Z2 (simNext apps s).queue.length t2) (.slice Z3 (simNext apps s).outs.length t3) rfl rfl rfl
        have hne : ¬ (w.heap.size = g5) := by omega
        have G0X : (((w5.setCell ⟨g5, 0, none⟩ (.slice Z1 (simNext apps s).states.length t1)).setCell ⟨g5, 1, none⟩ (.slice Z2 (simNext apps s).queue.length t2)).setCell ⟨g5, 2, none⟩ (.slice Z3 (simNext apps s).outs.length t3)).heap[w.heap.size]? = some (.cells #[.slice none 0 0, .slice none 0 0, .slice none 0 0] 64 (0, 0)) := (Below.heap_setCell _ (⟨g5, 2, none⟩ : Addr) _ w.heap.size hne).trans ((Below.heap_setCell _ (⟨g5, 1, none⟩ : Addr) _ w.heap.size hne).trans ((Below.heap_setCell _ (⟨g5, 0, none⟩ : Addr) _ w.heap.size hne).trans G05))
        have G0Y := (heap_old (o := (.cells #[.slice Z1 (simNext apps s).states.length t1, .slice Z2 (simNext apps s).queue.length t2, .slice Z3 (simNext apps s).outs.length t3] 64)) (blk_lt G0X)).trans G0X
        have G1Y := (heap_old (o := (.cells #[.slice Z1 (simNext apps s).states.length t1, .slice Z2 (simNext apps s).queue.length t2, .slice Z3 (simNext apps s).outs.length t3] 64)) (blk_lt BW)).trans BW
        have nY := nW.below (balloc (Below.refl _ _) (.cells #[.slice Z1 (simNext apps s).states.length t1, .slice Z2 (simNext apps s).queue.length t2, .slice Z3 (simNext apps s).outs.length t3] 64))
        have hbY := hbX.alloc hbX.size (.cells #[.slice Z1 (simNext apps s).states.length t1, .slice Z2 (simNext apps s).queue.length t2, .slice Z3 (simNext apps s).outs.length t3] 64)
        go_roundg k'
        case measure => omega
        case rel => exact ⟨simNext apps s, _, _, _, G0Y, G1Y, nY, hbY, hI', hl', HL'⟩
      · have htd : decide (e.time < u) = false := by simpa using ht
        have HS := hid (show simLoop apps u (k' + 1) s = s by rw [simLoop_step u k' qa hI HQ.out, if_neg ht])
        clear ht
        have y0 := blk_frozen G0 0
        have y1 := blk_frozen G0 1
        have y2 := blk_frozen G0 2
        have x0 : wr.cell? ⟨w.heap.size, 0, none⟩ = some (.slice none 0 0) := blk_cell G0 0
        have x1 : wr.cell? ⟨w.heap.size, 1, none⟩ = some (.slice none 0 0) := blk_cell G0 1
        have x2 : wr.cell? ⟨w.heap.size, 2, none⟩ = some (.slice none 0 0) := blk_cell G0 2
        have HR := hid (show simRun apps u = s by rw [HF.out, ← HL.out, HS.out])
        go_wp2_with fail
        obtain ⟨BW, nW, hbX⟩ := sim_store (w := w) (g := w.heap.size) G0 n (Nat.le_refl _) hb (.slice V1 s.states.length b1) (.slice (some ⟨bq, oq, none⟩) s.queue.length b2) (.slice V3 s.outs.length b3) rfl rfl rfl
        generalize ((wr.setCell ⟨w.heap.size, 0, none⟩ (.slice V1 s.states.length b1)).setCell ⟨w.heap.size, 1, none⟩ (.slice (some ⟨bq, oq, none⟩) s.queue.length b2)).setCell ⟨w.heap.size, 2, none⟩ (.slice V3 s.outs.length b3) = W9 at *
        have s0 : W9.cell? ⟨w.heap.size, 0, none⟩ = some (.slice V1 s.states.length b1) := blk_cell BW 0
        have s1 : W9.cell? ⟨w.heap.size, 1, none⟩ = some (.slice (some ⟨bq, oq, none⟩) s.queue.length b2) := blk_cell BW 1
        have s2 : W9.cell? ⟨w.heap.size, 2, none⟩ = some (.slice V3 s.outs.length b3) := blk_cell BW 2
        refine bodyPost_ret (v := .agg #[.slice V1 s.states.length b1, .slice (some ⟨bq, oq, none⟩) s.queue.length b2, .slice V3 s.outs.length b3]) (by simp only [results, Try.results39]; go_simp) rfl ⟨_, _, _, rfl, by rw [HR.out]; exact nW, hbX⟩
    · have hq : s.queue = [] := List.length_eq_zero_iff.1 (by omega)
      have HS := hid (show simLoop apps u gk s = s from simLoop_nil u gk hq)
      have hn0 : s.queue.length = 0 := by rw [hq]; rfl
      have q0 : decide ((s.queue.length : Int) > 0) = false := by rw [hn0]; rfl
      have q1 : decide (0 < s.queue.length) = false := by rw [hn0]; rfl
      clear hq hn0 hp
      have c0 : wr.cell? ⟨g5, 0, none⟩ = some (.slice V1 s.states.length b1) := blk_cell G1 0
      have c1 : wr.cell? ⟨g5, 1, none⟩ = some (.slice V2 s.queue.length b2) := blk_cell G1 1
      have c2 : wr.cell? ⟨g5, 2, none⟩ = some (.slice V3 s.outs.length b3) := blk_cell G1 2
      have y0 := blk_frozen G0 0
      have y1 := blk_frozen G0 1
      have y2 := blk_frozen G0 2
      have x0 : wr.cell? ⟨w.heap.size, 0, none⟩ = some (.slice none 0 0) := blk_cell G0 0
      have x1 : wr.cell? ⟨w.heap.size, 1, none⟩ = some (.slice none 0 0) := blk_cell G0 1
      have x2 : wr.cell? ⟨w.heap.size, 2, none⟩ = some (.slice none 0 0) := blk_cell G0 2
      have HR := hid (show simRun apps u = s by rw [HF.out, ← HL.out, HS.out])
      go_wp2_with fail
      obtain ⟨BW, nW, hbX⟩ := sim_store (w := w) (g := w.heap.size) G0 n (Nat.le_refl _) hb (.slice V1 s.states.length b1) (.slice V2 s.queue.length b2) (.slice V3 s.outs.length b3) rfl rfl rfl
      generalize ((wr.setCell ⟨w.heap.size, 0, none⟩ (.slice V1 s.states.length b1)).setCell ⟨w.heap.size, 1, none⟩ (.slice V2 s.queue.length b2)).setCell ⟨w.heap.size, 2, none⟩ (.slice V3 s.outs.length b3) = W9 at *
      have s0 : W9.cell? ⟨w.heap.size, 0, none⟩ = some (.slice V1 s.states.length b1) := blk_cell BW 0
      have s1 : W9.cell? ⟨w.heap.size, 1, none⟩ = some (.slice V2 s.queue.length b2) := blk_cell BW 1
      have s2 : W9.cell? ⟨w.heap.size, 2, none⟩ = some (.slice V3 s.outs.length b3) := blk_cell BW 2
      refine bodyPost_ret (v := .agg #[.slice V1 s.states.length b1, .slice V2 s.queue.length b2, .slice V3 s.outs.length b3]) (by simp only [results, Try.results39]; go_simp) rfl ⟨_, _, _, rfl, by rw [HR.out]; exact nW, hbX⟩
theorem SimRunI_c (va : Value) (apps : List AppD) (u : Int) (F : Nat → Prop) (w : World) (hA : Rd tApp w F va apps) :
    Calls Try.prog 39 #[va, .int .i64 u] w (RunSPost apps u w) := by
  cases qa : appsOk apps with
  | false => exact SimRunI_no va apps u F w hA qa
  | true => exact SimRunI_yes va apps u F w hA qa
end Go.Proofs.Ytmnccekljombmaa

namespace Go.Proofs.Ytmnccekljombmaa
set_option linter.unusedVariables false
set_option linter.unusedSimpArgs false
set_option maxRecDepth 100000
open Go.RowKit
def DrawnTime (w : World) (q : Ending) (w' : World) : Prop :=
  ∃ (v : Value) (apps : List AppD) (u : Int), q = .returned (.tuple #[v, .int .i64 u]) ∧ Rd tApp w' (fun k => w.heap.size ≤ k) v apps ∧ apps.length ≤ 4 ∧ (-1 ≤ u ∧ u ≤ 42) ∧ Below w.heap.size w w'
set_option maxHeartbeats 2000000 in
theorem DrawSimRun_c (A : Option Addr) (c : Nat) (bs : List Int) (w : World) (h : Rd (tInt .u8) w (fun k => k < w.heap.size) (.slice A bs.length c) bs) (hb : ∀ x ∈ bs, 0 ≤ x ∧ x ≤ 255) :
    Calls Try.prog 33 #[.slice A bs.length c] w (DrawnTime w) := by
  go_enter Try.func33, Try.ntmps33
  go_wp2_with fail
  refine (l6Open_c A c bs w h hb).mono ?_
  rintro e w1 ⟨rfl, hR1, hB1⟩
  obtain ⟨g, hg⟩ : ∃ g, g = w.heap.size := ⟨_, rfl⟩
  simp only [← hg] at hR1 ⊢
  have HG := hid hg
  clear hg
  apply_assumption
  go_wp2_with fail
  refine (l72Apps_c g g 0 _ hR1 (by omega)).mono ?_
  rintro e w2 ⟨v, xs, rfl, hRd, hl, hx, hR2, HC⟩
  apply_assumption
  go_wp2_with fail
  refine (pick_c g g _ _ _ hR2 (by omega) (by omega)).mono ?_
  rintro e w3 ⟨n3, rfl, hn3, hR3, hC3⟩
  apply_assumption
  go_wp2_with fail
  go_ret2
  have hgl := hR1.lt
  have hg := HG.out
  refine ⟨v, xs, _, rfl, (hRd.ch hC3 (fun k hk e1 => ?_)).mono (fun k hk => ?_), by omega, ⟨by omega, by omega⟩, hB1.trans ((HC.trans hC3).below (fun k hk => by rw [hk]; omega) hB1.size)⟩
  · have hk' : w1.heap.size ≤ k := hk
    omega
  · have hk' : w1.heap.size ≤ k := hk
    have := hB1.size
    show w.heap.size ≤ k
    omega
end Go.Proofs.Ytmnccekljombmaa
