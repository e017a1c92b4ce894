/- Texts joined: Imp16, Spc12, Imp17. -/
import Derived.Test.YtbcemldiahghcaaGreatJ30
import Derived.Test.YtbcemldiahghcaaGreatJ20
import Derived.Test.YtbcemldiahghcaaGreatJ07
namespace Go.Proofs.YtbcemldiahghcaaGreat
set_option linter.unusedVariables false
set_option linter.unusedSimpArgs false
set_option maxRecDepth 100000
open Go.RowKit
set_option maxHeartbeats 4000000 in
theorem simStep_nil (va vs vq vo : Value) (apps : List AppD) (s : SimD) (F : Nat → Prop) (w : World) (h : SimRd w F vs vq vo s) (qn : s.queue = []) :
    Calls Tryz.prog 38 #[va, .agg #[vs, vq, vo]] w (StepIPost apps s F w) := by
  have HF := hid (show simStepV apps s = (s, false) by simp [simStepV, qn])
  have hn0 := hid (show s.queue.length = 0 by simp [qn])
  clear qn
  obtain ⟨A1, c1, rfl, m1⟩ := h.st.shape
  obtain ⟨A2, c2, rfl, m2⟩ := h.qu.shape
  obtain ⟨A3, c3, rfl, m3⟩ := h.ou.shape
  rw [hn0.out] at h ⊢
  go_enter Tryz.func38, Tryz.ntmps38
  go_upto_region 1 with fail
  have hW := balloc (balloc (Below.refl w.heap.size w) (.cells #[.slice A1 s.states.length c1, .slice A2 0 c2, .slice A3 s.outs.length c3] 28)) (.cells #[.slice none 0 0, .slice none 0 0, .slice none 0 0] 28)
  have Z0 : ((w.alloc (.cells #[.slice A1 s.states.length c1, .slice A2 0 c2, .slice A3 s.outs.length c3] 28)).alloc (.cells #[.slice none 0 0, .slice none 0 0, .slice none 0 0] 28)).heap[w.heap.size]? = some (.cells #[.slice A1 s.states.length c1, .slice A2 0 c2, .slice A3 s.outs.length c3] 28 (0, 0)) := (heap_old (by simp)).trans (heap_at rfl)
  have Z1 : ((w.alloc (.cells #[.slice A1 s.states.length c1, .slice A2 0 c2, .slice A3 s.outs.length c3] 28)).alloc (.cells #[.slice none 0 0, .slice none 0 0, .slice none 0 0] 28)).heap[w.heap.size + 1]? = some (.cells #[.slice none 0 0, .slice none 0 0, .slice none 0 0] 28 (0, 0)) := heap_at (by simp)
  generalize (w.alloc (.cells #[.slice A1 s.states.length c1, .slice A2 0 c2, .slice A3 s.outs.length c3] 28)).alloc (.cells #[.slice none 0 0, .slice none 0 0, .slice none 0 0] 28) = W at *
  have d0 : W.cell? ⟨w.heap.size, 0, none⟩ = some (.slice A1 s.states.length c1) := blk_cell Z0 0
  have d1 : W.cell? ⟨w.heap.size, 1, none⟩ = some (.slice A2 0 c2) := blk_cell Z0 1
  have d2 : W.cell? ⟨w.heap.size, 2, none⟩ = some (.slice A3 s.outs.length c3) := blk_cell Z0 2
  have x0 : W.cell? ⟨w.heap.size + 1, 0, none⟩ = some (.slice none 0 0) := blk_cell Z1 0
  have x1 : W.cell? ⟨w.heap.size + 1, 1, none⟩ = some (.slice none 0 0) := blk_cell Z1 1
  have x2 : W.cell? ⟨w.heap.size + 1, 2, none⟩ = some (.slice none 0 0) := blk_cell Z1 2
  have y0 := blk_frozen Z1 0
  have y1 := blk_frozen Z1 1
  have y2 := blk_frozen Z1 2
  go_wp2_with fail
  have hbX : Below w.heap.size w (((W.setCell ⟨w.heap.size + 1, 0, none⟩ (.slice A1 s.states.length c1)).setCell ⟨w.heap.size + 1, 1, none⟩ (.slice A2 0 c2)).setCell ⟨w.heap.size + 1, 2, none⟩ (.slice A3 s.outs.length c3)) := ((hW.setCell (p := ⟨w.heap.size + 1, 0, none⟩) (Nat.le_succ _) (.slice A1 s.states.length c1)).setCell (p := ⟨w.heap.size + 1, 1, none⟩) (Nat.le_succ _) (.slice A2 0 c2)).setCell (p := ⟨w.heap.size + 1, 2, none⟩) (Nat.le_succ _) (.slice A3 s.outs.length c3)
  have BX : (((W.setCell ⟨w.heap.size + 1, 0, none⟩ (.slice A1 s.states.length c1)).setCell ⟨w.heap.size + 1, 1, none⟩ (.slice A2 0 c2)).setCell ⟨w.heap.size + 1, 2, none⟩ (.slice A3 s.outs.length c3)).heap[w.heap.size + 1]? = some (.cells #[.slice A1 s.states.length c1, .slice A2 0 c2, .slice A3 s.outs.length c3] 28 (0, 0)) := blk_set (blk_set (blk_set Z1 0 (.slice A1 s.states.length c1)) 1 (.slice A2 0 c2)) 2 (.slice A3 s.outs.length c3)
  generalize ((W.setCell ⟨w.heap.size + 1, 0, none⟩ (.slice A1 s.states.length c1)).setCell ⟨w.heap.size + 1, 1, none⟩ (.slice A2 0 c2)).setCell ⟨w.heap.size + 1, 2, none⟩ (.slice A3 s.outs.length c3) = W12 at *
  have hX := h.below hbX
  have s0 : W12.cell? ⟨w.heap.size + 1, 0, none⟩ = some (.slice A1 s.states.length c1) := blk_cell BX 0
  have s1 : W12.cell? ⟨w.heap.size + 1, 1, none⟩ = some (.slice A2 0 c2) := blk_cell BX 1
  have s2 : W12.cell? ⟨w.heap.size + 1, 2, none⟩ = some (.slice A3 s.outs.length c3) := blk_cell BX 2
  refine bodyPost_ret (v := .tuple #[.agg #[.slice A1 s.states.length c1, .slice A2 0 c2, .slice A3 s.outs.length c3], .bool false]) (by simp only [results, Tryz.results38]; go_simp) rfl ⟨_, _, _, by rw [HF.out], by rw [HF.out]; exact fun hh => (by cases hh), by rw [HF.out]; exact hX.mono (fun k hk => .inl hk), hbX⟩
theorem simOk_evs {s : SimD} (h : simOk s = true) : ∀ x ∈ s.queue, evOk x = true := by
  simp only [simOk, evsOk, Bool.and_eq_true, decide_eq_true_eq] at h
  exact List.all_eq_true.1 h.2.2.1.2.1
theorem simStepI_c (va vs vq vo : Value) (apps : List AppD) (s : SimD) (F : Nat → Prop) (w : World) (hA : Rd tApp w F va apps) (h : SimRd w F vs vq vo s) (qa : appsOk apps = true) (qs : simOk s = true) :
    Calls Tryz.prog 38 #[va, .agg #[vs, vq, vo]] w (StepIPost apps s F w) := by
  match qn : s.queue with
  | [] => exact simStep_nil va vs vq vo apps s F w h qn
  | e :: rest =>
    obtain ⟨he, hs4, hst⟩ := simOk_first qs qn
    have hev := simOk_evs qs
    have he' := he
    simp only [evOk, inn, Bool.and_eq_true, decide_eq_true_eq] at he'
    obtain ⟨j, hj⟩ := Int.eq_ofNat_of_zero_le (show 0 ≤ e.to by omega)
    have ha := qa
    simp only [appsOk, Bool.and_eq_true, decide_eq_true_eq] at ha
    have hj3 : j ≤ 3 := by omega
    have hja : j < apps.length := by omega
    have hjs : j < s.states.length := by omega
    have hc := appRun_comes (a := apps[j]) (s := s.states[j]) (e := e) (List.all_eq_true.1 ha.2 _ (List.getElem_mem hja)) (hst _ (List.getElem_mem hjs)) he
    have hle : (appRun apps[j] s.states[j] e).2.1.length ≤ 2 ∧ (appRun apps[j] s.states[j] e).2.2.length ≤ 2 := by
      rcases hc.way with ⟨_, h1⟩ | ⟨_, _, h1, h2⟩
      · rw [h1]; simp
      · exact ⟨h1, h2⟩
    refine simStep_cons va vs vq vo apps s e rest j F w hA h qs qn hj hj3 ha.1 hs4 apps[j] s.states[j] (List.getElem?_eq_getElem hja) (List.getElem?_eq_getElem hjs) _ _ _ rfl hle.1 hle.2 fun x hx => ?_
    rcases List.mem_append.1 hx with hx | hx
    · exact EvWf.of_ok (hev x (by rw [qn]; exact List.mem_cons_of_mem _ hx))
    · exact EvWf.of_ok (hc.sends x hx).1
theorem simStepV_form {apps : List AppD} {s : SimD} (qs : simOk s = true) : simOk (simStepV apps s).1 = true := by
  unfold simStepV
  split
  · exact qs
  · split
    · assumption
    · exact qs
set_option maxHeartbeats 4000000 in
theorem SimStepI_c (va vs vq vo : Value) (apps : List AppD) (s : SimD) (F : Nat → Prop) (w : World) (hA : Rd tApp w F va apps) (h : SimRd w F vs vq vo s) :
    Calls Tryz.prog 33 #[va, .agg #[vs, vq, vo]] w (StepPost apps s w) := by
  obtain ⟨A0, c0, rfl, m0⟩ := hA.shape
  obtain ⟨A1, c1, rfl, m1⟩ := h.st.shape
  obtain ⟨A2, c2, rfl, m2⟩ := h.qu.shape
  obtain ⟨A3, c3, rfl, m3⟩ := h.ou.shape
  obtain ⟨qs, hqs⟩ : ∃ t, simOk s = t := ⟨_, rfl⟩
  obtain ⟨qa, hqa⟩ : ∃ t, appsOk apps = t := ⟨_, rfl⟩
  go_enter Tryz.func33, Tryz.ntmps33
  go_upto_region 1 with fail
  have hW := balloc (balloc (Below.refl w.heap.size w) (.cells #[.slice A1 s.states.length c1, .slice A2 s.queue.length c2, .slice A3 s.outs.length c3] 28)) (.cells #[.slice none 0 0, .slice none 0 0, .slice none 0 0] 28)
  have Z0 : ((w.alloc (.cells #[.slice A1 s.states.length c1, .slice A2 s.queue.length c2, .slice A3 s.outs.length c3] 28)).alloc (.cells #[.slice none 0 0, .slice none 0 0, .slice none 0 0] 28)).heap[w.heap.size]? = some (.cells #[.slice A1 s.states.length c1, .slice A2 s.queue.length c2, .slice A3 s.outs.length c3] 28 (0, 0)) := (heap_old (by simp)).trans (heap_at rfl)
  have Z1 : ((w.alloc (.cells #[.slice A1 s.states.length c1, .slice A2 s.queue.length c2, .slice A3 s.outs.length c3] 28)).alloc (.cells #[.slice none 0 0, .slice none 0 0, .slice none 0 0] 28)).heap[w.heap.size + 1]? = some (.cells #[.slice none 0 0, .slice none 0 0, .slice none 0 0] 28 (0, 0)) := heap_at (by simp)
  generalize (w.alloc (.cells #[.slice A1 s.states.length c1, .slice A2 s.queue.length c2, .slice A3 s.outs.length c3] 28)).alloc (.cells #[.slice none 0 0, .slice none 0 0, .slice none 0 0] 28) = W at *
  have d0 : W.cell? ⟨w.heap.size, 0, none⟩ = some (.slice A1 s.states.length c1) := blk_cell Z0 0
  have d1 : W.cell? ⟨w.heap.size, 1, none⟩ = some (.slice A2 s.queue.length c2) := blk_cell Z0 1
  have d2 : W.cell? ⟨w.heap.size, 2, none⟩ = some (.slice A3 s.outs.length c3) := blk_cell Z0 2
  have hB := h.below hW
  go_wp2_with fail
  refine (SimOkI_c _ _ _ s F W hB.st hB.qu hB.ou).mono ?_
  rintro q w1 ⟨he, hb1⟩
  rw [hqs] at he
  subst he
  have C0 := below_heap hb1 (blk_lt Z0) Z0
  have C1 := below_heap hb1 (blk_lt Z1) Z1
  have hW1 := bthen hW hb1 hW.size
  clear Z0 Z1 hW hb1 hB d0 d1 d2
  apply_assumption
  cases qs
  case false =>
    have HF := hid (show simStep apps s = (sim0, false) by simp [simStep, hqs])
    have x0 : w1.cell? ⟨w.heap.size + 1, 0, none⟩ = some (.slice none 0 0) := blk_cell C1 0
    have x1 : w1.cell? ⟨w.heap.size + 1, 1, none⟩ = some (.slice none 0 0) := blk_cell C1 1
    have x2 : w1.cell? ⟨w.heap.size + 1, 2, none⟩ = some (.slice none 0 0) := blk_cell C1 2
    have y0 := blk_frozen C1 0
    have y1 := blk_frozen C1 1
    have y2 := blk_frozen C1 2
    skip
    go_wp2_with fail
    obtain ⟨BW, nW, hbX⟩ := sim_store (w := w) (g := w.heap.size + 1) (B := w.heap.size) (s := sim0) C1 ⟨Ow.nil _ _ _ _, Ow.nil _ _ _ _, Ow.nil _ _ _ _⟩ (Nat.le_succ _) hW1 (.slice none 0 0) (.slice none 0 0) (.slice none 0 0) rfl rfl rfl
    generalize ((w1.setCell ⟨w.heap.size + 1, 0, none⟩ (.slice none 0 0)).setCell ⟨w.heap.size + 1, 1, none⟩ (.slice none 0 0)).setCell ⟨w.heap.size + 1, 2, none⟩ (.slice none 0 0) = W9 at *
    have r0 : W9.cell? ⟨w.heap.size + 1, 0, none⟩ = some (.slice none 0 0) := blk_cell BW 0
    have r1 : W9.cell? ⟨w.heap.size + 1, 1, none⟩ = some (.slice none 0 0) := blk_cell BW 1
    have r2 : W9.cell? ⟨w.heap.size + 1, 2, none⟩ = some (.slice none 0 0) := blk_cell BW 2
    refine bodyPost_ret (v := .tuple #[.agg #[.slice none 0 0, .slice none 0 0, .slice none 0 0], .bool false]) (by simp only [results, Tryz.results33]; go_simp) rfl ⟨_, _, _, by rw [HF.out], by rw [HF.out]; exact nW, hbX⟩
  case true =>
    go_wp2_with fail
    refine (AppOkI_c _ apps F _ (hA.below hW1)).mono ?_
    rintro q w2 ⟨he, hb2⟩
    rw [hqa] at he
    subst he
    have D0 := below_heap hb2 (blk_lt C0) C0
    have D1 := below_heap hb2 (blk_lt C1) C1
    have hW2 := bthen hW1 hb2 hW1.size
    clear C0 C1 hW1 hb2
    apply_assumption
    cases qa
    case false =>
      have HF := hid (show simStep apps s = (sim0, false) by simp [simStep, hqa])
      have x0 : w2.cell? ⟨w.heap.size + 1, 0, none⟩ = some (.slice none 0 0) := blk_cell D1 0
      have x1 : w2.cell? ⟨w.heap.size + 1, 1, none⟩ = some (.slice none 0 0) := blk_cell D1 1
      have x2 : w2.cell? ⟨w.heap.size + 1, 2, none⟩ = some (.slice none 0 0) := blk_cell D1 2
      have y0 := blk_frozen D1 0
      have y1 := blk_frozen D1 1
      have y2 := blk_frozen D1 2
      skip
      go_wp2_with fail
      obtain ⟨BW, nW, hbX⟩ := sim_store (w := w) (g := w.heap.size + 1) (B := w.heap.size) (s := sim0) D1 ⟨Ow.nil _ _ _ _, Ow.nil _ _ _ _, Ow.nil _ _ _ _⟩ (Nat.le_succ _) hW2 (.slice none 0 0) (.slice none 0 0) (.slice none 0 0) rfl rfl rfl
      generalize ((w2.setCell ⟨w.heap.size + 1, 0, none⟩ (.slice none 0 0)).setCell ⟨w.heap.size + 1, 1, none⟩ (.slice none 0 0)).setCell ⟨w.heap.size + 1, 2, none⟩ (.slice none 0 0) = W9 at *
      have r0 : W9.cell? ⟨w.heap.size + 1, 0, none⟩ = some (.slice none 0 0) := blk_cell BW 0
      have r1 : W9.cell? ⟨w.heap.size + 1, 1, none⟩ = some (.slice none 0 0) := blk_cell BW 1
      have r2 : W9.cell? ⟨w.heap.size + 1, 2, none⟩ = some (.slice none 0 0) := blk_cell BW 2
      refine bodyPost_ret (v := .tuple #[.agg #[.slice none 0 0, .slice none 0 0, .slice none 0 0], .bool false]) (by simp only [results, Tryz.results33]; go_simp) rfl ⟨_, _, _, by rw [HF.out], by rw [HF.out]; exact nW, hbX⟩
    case true =>
      have HF := hid (show simStep apps s = simStepV apps s by simp [simStep, hqa, hqs])
      have d0 : w2.cell? ⟨w.heap.size, 0, none⟩ = some (.slice A1 s.states.length c1) := blk_cell D0 0
      have d1 : w2.cell? ⟨w.heap.size, 1, none⟩ = some (.slice A2 s.queue.length c2) := blk_cell D0 1
      have d2 : w2.cell? ⟨w.heap.size, 2, none⟩ = some (.slice A3 s.outs.length c3) := blk_cell D0 2
      go_wp2_with fail
      refine (simStepI_c _ _ _ _ apps s F w2 (hA.below hW2) (h.below hW2) hqa hqs).mono ?_
      rintro q w3 ⟨us, uq, uo, rfl, -, hR, hb3⟩
      obtain ⟨b, hb⟩ : ∃ b, (simStepV apps s).2 = b := ⟨_, rfl⟩
      rw [hb]
      obtain ⟨l1, l2, l3⟩ := simOk_len (simStepV_form (apps := apps) hqs)
      obtain ⟨X1, x1, rfl, z1⟩ := hR.st.shape
      obtain ⟨X2, x2, rfl, z2⟩ := hR.qu.shape
      obtain ⟨X3, x3, rfl, z3⟩ := hR.ou.shape
      have E1 := below_heap hb3 (blk_lt D1) D1
      have hW3 := bthen hW2 hb3 hW2.size
      have HB := hid hb
      clear hb D0 D1 hW2 hb3 d0 d1 d2
      obtain ⟨s', hs'⟩ : ∃ s', (simStepV apps s).1 = s' := ⟨_, rfl⟩
      rw [hs'] at hR l1 l2 l3 ⊢
      have HS := hid hs'
      clear hs'
      apply_assumption
      go_wp2_with fail
      refine (copySim_c _ _ _ s' _ _ (hR.below (balloc (Below.refl _ _) _)) l1 l2 l3).mono ?_
      rintro q w4 ⟨ts, tq, to_, rfl, n4, hb4⟩
      obtain ⟨T1, t1, rfl, u1⟩ := n4.st.shape
      obtain ⟨T2, t2, rfl, u2⟩ := n4.qu.shape
      obtain ⟨T3, t3, rfl, u3⟩ := n4.ou.shape
      have hbx := bthen' (balloc (Below.refl w3.heap.size w3) (.cells #[.slice X1 s'.states.length x1, .slice X2 s'.queue.length x2, .slice X3 s'.outs.length x3] 28)) hb4
      have F1 := below_heap hbx (blk_lt E1) E1
      have hW4 := bthen hW3 hbx hW3.size
      have n4' := n4.mono (F' := fun k => w.heap.size ≤ k) (fun k hk => by have := hW3.size; simp at hk; omega)
      clear E1 hbx hb4 hR hW3 n4
      have x0 : w4.cell? ⟨w.heap.size + 1, 0, none⟩ = some (.slice none 0 0) := blk_cell F1 0
      have x1' : w4.cell? ⟨w.heap.size + 1, 1, none⟩ = some (.slice none 0 0) := blk_cell F1 1
      have x2' : w4.cell? ⟨w.heap.size + 1, 2, none⟩ = some (.slice none 0 0) := blk_cell F1 2
      have y0 := blk_frozen F1 0
      have y1 := blk_frozen F1 1
      have y2 := blk_frozen F1 2
      apply_assumption
      go_wp2_with fail
      obtain ⟨BW, nW, hbX⟩ := sim_store (w := w) (g := w.heap.size + 1) F1 n4' (Nat.le_succ _) hW4 (.slice T1 s'.states.length t1) (.slice T2 s'.queue.length t2) (.slice T3 s'.outs.length t3) rfl rfl rfl
      generalize ((w4.setCell ⟨w.heap.size + 1, 0, none⟩ (.slice T1 s'.states.length t1)).setCell ⟨w.heap.size + 1, 1, none⟩ (.slice T2 s'.queue.length t2)).setCell ⟨w.heap.size + 1, 2, none⟩ (.slice T3 s'.outs.length t3) = W9 at *
      have s0 : W9.cell? ⟨w.heap.size + 1, 0, none⟩ = some (.slice T1 s'.states.length t1) := blk_cell BW 0
      have s1 : W9.cell? ⟨w.heap.size + 1, 1, none⟩ = some (.slice T2 s'.queue.length t2) := blk_cell BW 1
      have s2 : W9.cell? ⟨w.heap.size + 1, 2, none⟩ = some (.slice T3 s'.outs.length t3) := blk_cell BW 2
      refine bodyPost_ret (v := .tuple #[.agg #[.slice T1 s'.states.length t1, .slice T2 s'.queue.length t2, .slice T3 s'.outs.length t3], .bool b]) (by simp only [results, Tryz.results33]; go_simp) rfl ⟨_, _, _, by rw [HF.out, HB.out], by rw [HF.out, HS.out]; exact nW, hbX⟩
end Go.Proofs.YtbcemldiahghcaaGreat

namespace Go.Proofs.YtbcemldiahghcaaGreat
set_option linter.unusedVariables false
set_option linter.unusedSimpArgs false
set_option maxRecDepth 100000
open Go.RowKit
/-- What a run comes to. -/
def RunSPost (apps : List AppD) (u : Int) (w : World) (q : Ending) (w' : World) : Prop :=
  ∃ us uq uo, q = .returned (.agg #[us, uq, uo]) ∧ SimOw w' (fun k => w.heap.size ≤ k) us uq uo (simRun apps u) ∧ Below w.heap.size w w'
set_option maxHeartbeats 4000000 in
theorem SimRun_no (va : Value) (apps : List AppD) (u : Int) (F : Nat → Prop) (w : World) (hA : Rd tApp w F va apps) (qa : appsOk apps = false) :
    Calls Tryz.prog 7 #[va, .int .i64 u] w (RunSPost apps u w) := by
  have HF := hid (show simRun apps u = sim0 by simp [simRun, qa])
  obtain ⟨A0, c0, rfl, m0⟩ := hA.shape
  go_enter Tryz.func7, Tryz.ntmps7
  go_wp2_with fail
  have hW := balloc (Below.refl w.heap.size w) (.cells #[.slice none 0 0, .slice none 0 0, .slice none 0 0] 28)
  have B0 : (w.alloc (.cells #[.slice none 0 0, .slice none 0 0, .slice none 0 0] 28)).heap[w.heap.size]? = some (.cells #[.slice none 0 0, .slice none 0 0, .slice none 0 0] 28 (0, 0)) := heap_at rfl
  generalize w.alloc (.cells #[.slice none 0 0, .slice none 0 0, .slice none 0 0] 28) = W at *
  refine (SimStart_c W).mono ?_
  rintro e w1 ⟨us, uq, uo, rfl, n1, hb1⟩
  obtain ⟨X1, a1, rfl, z1⟩ := n1.st.shape
  obtain ⟨X2, a2, rfl, z2⟩ := n1.qu.shape
  obtain ⟨X3, a3, rfl, z3⟩ := n1.ou.shape
  have hb1' := bthen hW hb1 hW.size
  have C0 := below_heap hb1 (blk_lt B0) B0
  have hA1 := hA.below (hb1'.alloc hb1'.size (.cells #[.slice X1 simStart.states.length a1, .slice X2 simStart.queue.length a2, .slice X3 simStart.outs.length a3] 28))
  have D0 := (heap_old (o := .cells #[.slice X1 simStart.states.length a1, .slice X2 simStart.queue.length a2, .slice X3 simStart.outs.length a3] 28) (blk_lt C0)).trans C0
  have hb2 := hb1'.alloc hb1'.size (.cells #[.slice X1 simStart.states.length a1, .slice X2 simStart.queue.length a2, .slice X3 simStart.outs.length a3] 28)
  clear B0 C0 hb1 hb1' hW n1
  apply_assumption
  go_wp2_with fail
  refine (AppOk_c _ apps F _ hA1).mono ?_
  rintro e w3 ⟨rfl, hb3⟩
  rw [qa]
  have E0 := below_heap hb3 (blk_lt D0) D0
  have hb3' := bthen hb2 hb3 hb2.size
  have x0 : w3.cell? ⟨w.heap.size, 0, none⟩ = some (.slice none 0 0) := blk_cell E0 0
  have x1 : w3.cell? ⟨w.heap.size, 1, none⟩ = some (.slice none 0 0) := blk_cell E0 1
  have x2 : w3.cell? ⟨w.heap.size, 2, none⟩ = some (.slice none 0 0) := blk_cell E0 2
  have y0 := blk_frozen E0 0
  have y1 := blk_frozen E0 1
  have y2 := blk_frozen E0 2
  clear D0 hb2 hb3 hA1
  apply_assumption
  go_wp2_with fail
  obtain ⟨BW, nW, hbX⟩ := sim_store (w := w) (g := w.heap.size) (B := w.heap.size) (s := sim0) E0 ⟨Ow.nil _ _ _ _, Ow.nil _ _ _ _, Ow.nil _ _ _ _⟩ (Nat.le_refl _) hb3' (.slice none 0 0) (.slice none 0 0) (.slice none 0 0) rfl rfl rfl
  generalize ((w3.setCell ⟨w.heap.size, 0, none⟩ (.slice none 0 0)).setCell ⟨w.heap.size, 1, none⟩ (.slice none 0 0)).setCell ⟨w.heap.size, 2, none⟩ (.slice none 0 0) = W3 at *
  have r0 : W3.cell? ⟨w.heap.size, 0, none⟩ = some (.slice none 0 0) := blk_cell BW 0
  have r1 : W3.cell? ⟨w.heap.size, 1, none⟩ = some (.slice none 0 0) := blk_cell BW 1
  have r2 : W3.cell? ⟨w.heap.size, 2, none⟩ = some (.slice none 0 0) := blk_cell BW 2
  refine bodyPost_ret (v := .agg #[.slice none 0 0, .slice none 0 0, .slice none 0 0]) (by simp only [results, Tryz.results7]; go_simp) rfl ⟨_, _, _, rfl, by rw [HF.out]; exact nW, hbX⟩
set_option maxHeartbeats 4000000 in
theorem SimRun_yes (va : Value) (apps : List AppD) (u : Int) (F : Nat → Prop) (w : World) (hA : Rd tApp w F va apps) (qa : appsOk apps = true) :
    Calls Tryz.prog 7 #[va, .int .i64 u] w (RunSPost apps u w) := by
  have HF := hid (show simRun apps u = simLoop apps u 200 simStart by simp [simRun, qa])
  have hL0 : left simStart ≤ (200 : Nat) := by decide
  obtain ⟨A0, c0, rfl, m0⟩ := hA.shape
  go_enter Tryz.func7, Tryz.ntmps7
  go_wp2_with fail
  have hW := balloc (Below.refl w.heap.size w) (.cells #[.slice none 0 0, .slice none 0 0, .slice none 0 0] 28)
  have B0 : (w.alloc (.cells #[.slice none 0 0, .slice none 0 0, .slice none 0 0] 28)).heap[w.heap.size]? = some (.cells #[.slice none 0 0, .slice none 0 0, .slice none 0 0] 28 (0, 0)) := heap_at rfl
  generalize w.alloc (.cells #[.slice none 0 0, .slice none 0 0, .slice none 0 0] 28) = W at *
  refine (SimStart_c W).mono ?_
  rintro e w1 ⟨us, uq, uo, rfl, n1, hb1⟩
  obtain ⟨X1, a1, rfl, z1⟩ := n1.st.shape
  obtain ⟨X2, a2, rfl, z2⟩ := n1.qu.shape
  obtain ⟨X3, a3, rfl, z3⟩ := n1.ou.shape
  have hb1' := bthen hW hb1 hW.size
  have C0 := below_heap hb1 (blk_lt B0) B0
  have hg5 := blk_lt C0
  have n2 := (n1.below (balloc (Below.refl _ _) (.cells #[.slice X1 simStart.states.length a1, .slice X2 simStart.queue.length a2, .slice X3 simStart.outs.length a3] 28))).mono (F' := fun k => w.heap.size ≤ k) (fun k hk => Nat.le_trans hW.size hk)
  have D0 := (heap_old (o := .cells #[.slice X1 simStart.states.length a1, .slice X2 simStart.queue.length a2, .slice X3 simStart.outs.length a3] 28) (blk_lt C0)).trans C0
  have D1 : (w1.alloc (.cells #[.slice X1 simStart.states.length a1, .slice X2 simStart.queue.length a2, .slice X3 simStart.outs.length a3] 28)).heap[w1.heap.size]? = some (.cells #[.slice X1 simStart.states.length a1, .slice X2 simStart.queue.length a2, .slice X3 simStart.outs.length a3] 28 (0, 0)) := heap_at rfl
  have hb2 := hb1'.alloc hb1'.size (.cells #[.slice X1 simStart.states.length a1, .slice X2 simStart.queue.length a2, .slice X3 simStart.outs.length a3] 28)
  have hA1 := hA.below hb2
  clear B0 C0 hb1 hb1' hW n1
  apply_assumption
  go_wp2_with fail
  refine (AppOk_c _ apps F _ hA1).mono ?_
  rintro e w3 ⟨rfl, hb3⟩
  rw [qa]
  have E0 := below_heap hb3 (blk_lt D0) D0
  have E1 := below_heap hb3 (blk_lt D1) D1
  have n3 := n2.below hb3
  have hb3' := bthen hb2 hb3 hb2.size
  clear D0 D1 hb2 hb3 hA1 n2
  apply_assumption
  go_wp2_with fail
  obtain ⟨g5, hg⟩ : ∃ g, g = w1.heap.size := ⟨_, rfl⟩
  rw [← hg] at hg5 E1
  simp only [← hg]
  clear hg
  go_loopg [] 200 (fun k wr => ∃ s vs vq vo, wr.heap[w.heap.size]? = some (.cells #[.slice none 0 0, .slice none 0 0, .slice none 0 0] 28 (0, 0)) ∧ wr.heap[g5]? = some (.cells #[vs, vq, vo] 28 (0, 0)) ∧ SimOw wr (fun k => w.heap.size ≤ k) vs vq vo s ∧ Below w.heap.size w wr ∧ SInv s ∧ left s ≤ (k : Nat) ∧ Hid (simLoop apps u k s = simLoop apps u 200 simStart))
  case atStart => exact ⟨simStart, _, _, _, E0, E1, n3, hb3', SInv.start, hL0, rfl⟩
  case round =>
    clear E0 E1 n3 hb3' hL0 z1 z2 z3
    obtain ⟨s, vs, vq, vo, G0, G1, n, hb, hI, hl, HL⟩ := hrel
    obtain ⟨V1, b1, rfl, v1⟩ := n.st.shape
    obtain ⟨V2, b2, rfl, v2⟩ := n.qu.shape
    obtain ⟨V3, b3, rfl, v3⟩ := n.ou.shape
    by_cases hp : 0 < s.queue.length
    · obtain ⟨e, rest, hq⟩ : ∃ e rest, s.queue = e :: rest := by
        cases hh : s.queue with
        | nil => rw [hh] at hp; simp at hp
        | cons e rest => exact ⟨e, rest, rfl⟩
      obtain ⟨bq, oq, rfl, hbq, e0, -, -, -, -, -, -⟩ := ev_at n.qu.rd 0 hp
      have he : s.queue[0] = e := by simp [hq]
      rw [he] at e0
      simp only [Nat.zero_mul, Nat.add_zero] at e0
      have HQ := hid hq
      have hlq := hI.left_nonneg
      have hk : 0 < gk := by omega
      obtain ⟨k', rfl⟩ : ∃ k', gk = k' + 1 := ⟨gk - 1, by omega⟩
      have q0 : decide ((s.queue.length : Int) > 0) = true := by simp; omega
      have q1 : decide (0 < s.queue.length) = true := by simp; omega
      have q2 : (0 : Int) < (s.queue.length : Int) := by omega
      clear he hq hlq
      have c0 : wr.cell? ⟨g5, 0, none⟩ = some (.slice V1 s.states.length b1) := blk_cell G1 0
      have c1 : wr.cell? ⟨g5, 1, none⟩ = some (.slice (some ⟨bq, oq, none⟩) s.queue.length b2) := blk_cell G1 1
      have c2 : wr.cell? ⟨g5, 2, none⟩ = some (.slice V3 s.outs.length b3) := blk_cell G1 2
      by_cases ht : e.time < u
      · have htd : decide (e.time < u) = true := by simpa using ht
        have HStep := hid (show simStep apps s = (simNext apps s, true) by rw [simStep, if_pos ⟨hI.ok, qa⟩, simStepV_ok qa hI HQ.out])
        have hN := simNext_ok qa hI HQ.out
        have HL' := hid (show simLoop apps u k' (simNext apps s) = simLoop apps u 200 simStart by rw [← HL.out, simLoop_step u k' qa hI HQ.out, if_pos ht])
        have hI' := hN.inv
        have hless := hN.less
        have hl' : left (simNext apps s) ≤ (k' : Nat) := by unfold left at hl ⊢; push_cast at hl; omega
        clear hN HL ht hless hl
        go_wp2_with fail
        refine (SimStepS_c _ _ _ _ apps s _ wr ((hA.below hb).mono (F' := fun _ => True) (fun _ _ => trivial)) (n.rd.mono (fun _ _ => trivial))).mono ?_
        rintro q w5 ⟨us, uq, uo, rfl, n5, hb5⟩
        rw [HStep.out] at n5 ⊢
        obtain ⟨Z1, t1, rfl, u1⟩ := n5.st.shape
        obtain ⟨Z2, t2, rfl, u2⟩ := n5.qu.shape
        obtain ⟨Z3, t3, rfl, u3⟩ := n5.ou.shape
        have G05 := below_heap hb5 (blk_lt G0) G0
        have G15 := below_heap hb5 (blk_lt G1) G1
        have hb5' := bthen hb hb5 hb.size
        have n5' := n5.mono (F' := fun k => w.heap.size ≤ k) (fun k hk => Nat.le_trans hb.size hk)
        have hl5 := blk_lt G15
        clear G0 G1 n hb n5 hb5 c0 c1 c2 e0 v1 v2 v3
        have c0 : w5.cell? ⟨g5, 0, none⟩ = some (.slice V1 s.states.length b1) := blk_cell G15 0
        have c1 : w5.cell? ⟨g5, 1, none⟩ = some (.slice (some ⟨bq, oq, none⟩) s.queue.length b2) := blk_cell G15 1
        have c2 : w5.cell? ⟨g5, 2, none⟩ = some (.slice V3 s.outs.length b3) := blk_cell G15 2
        have f0 := blk_frozen G15 0
        have f1 := blk_frozen G15 1
        have f2 := blk_frozen G15 2
        apply_assumption
        go_wp2_with fail
        obtain ⟨BW, nW, hbX⟩ := sim_store (w := w) (g := g5) G15 n5' (by omega) hb5' (.slice Z1 (simNext apps s).states.length t1) (.slice Z2 (simNext apps s).queue.length t2) (.slice Z3 (simNext apps s).outs.length t3) rfl rfl rfl
        have hne : ¬ (w.heap.size = g5) := by omega
        have G0X : (((w5.setCell ⟨g5, 0, none⟩ (.slice Z1 (simNext apps s).states.length t1)).setCell ⟨g5, 1, none⟩ (.slice Z2 (simNext apps s).queue.length t2)).setCell ⟨g5, 2, none⟩ (.slice Z3 (simNext apps s).outs.length t3)).heap[w.heap.size]? = some (.cells #[.slice none 0 0, .slice none 0 0, .slice none 0 0] 28 (0, 0)) := (Below.heap_setCell _ (⟨g5, 2, none⟩ : Addr) _ w.heap.size hne).trans ((Below.heap_setCell _ (⟨g5, 1, none⟩ : Addr) _ w.heap.size hne).trans ((Below.heap_setCell _ (⟨g5, 0, none⟩ : Addr) _ w.heap.size hne).trans G05))
        have G0Y := (heap_old (o := (.cells #[.slice Z1 (simNext apps s).states.length t1, .slice Z2 (simNext apps s).queue.length t2, .slice Z3 (simNext apps s).outs.length t3] 28)) (blk_lt G0X)).trans G0X
        have G1Y := (heap_old (o := (.cells #[.slice Z1 (simNext apps s).states.length t1, .slice Z2 (simNext apps s).queue.length t2, .slice Z3 (simNext apps s).outs.length t3] 28)) (blk_lt BW)).trans BW
        have nY := nW.below (balloc (Below.refl _ _) (.cells #[.slice Z1 (simNext apps s).states.length t1, .slice Z2 (simNext apps s).queue.length t2, .slice Z3 (simNext apps s).outs.length t3] 28))
        have hbY := hbX.alloc hbX.size (.cells #[.slice Z1 (simNext apps s).states.length t1, .slice Z2 (simNext apps s).queue.length t2, .slice Z3 (simNext apps s).outs.length t3] 28)
        go_roundg k'
        case measure => omega
        case rel => exact ⟨simNext apps s, _, _, _, G0Y, G1Y, nY, hbY, hI', hl', HL'⟩
      · have htd : decide (e.time < u) = false := by simpa using ht
        have HS := hid (show simLoop apps u (k' + 1) s = s by rw [simLoop_step u k' qa hI HQ.out, if_neg ht])
        clear ht
        have y0 := blk_frozen G0 0
        have y1 := blk_frozen G0 1
        have y2 := blk_frozen G0 2
        have x0 : wr.cell? ⟨w.heap.size, 0, none⟩ = some (.slice none 0 0) := blk_cell G0 0
        have x1 : wr.cell? ⟨w.heap.size, 1, none⟩ = some (.slice none 0 0) := blk_cell G0 1
        have x2 : wr.cell? ⟨w.heap.size, 2, none⟩ = some (.slice none 0 0) := blk_cell G0 2
        have HR := hid (show simRun apps u = s by rw [HF.out, ← HL.out, HS.out])
        go_wp2_with fail
        obtain ⟨BW, nW, hbX⟩ := sim_store (w := w) (g := w.heap.size) G0 n (Nat.le_refl _) hb (.slice V1 s.states.length b1) (.slice (some ⟨bq, oq, none⟩) s.queue.length b2) (.slice V3 s.outs.length b3) rfl rfl rfl
        generalize ((wr.setCell ⟨w.heap.size, 0, none⟩ (.slice V1 s.states.length b1)).setCell ⟨w.heap.size, 1, none⟩ (.slice (some ⟨bq, oq, none⟩) s.queue.length b2)).setCell ⟨w.heap.size, 2, none⟩ (.slice V3 s.outs.length b3) = W9 at *
        have s0 : W9.cell? ⟨w.heap.size, 0, none⟩ = some (.slice V1 s.states.length b1) := blk_cell BW 0
        have s1 : W9.cell? ⟨w.heap.size, 1, none⟩ = some (.slice (some ⟨bq, oq, none⟩) s.queue.length b2) := blk_cell BW 1
        have s2 : W9.cell? ⟨w.heap.size, 2, none⟩ = some (.slice V3 s.outs.length b3) := blk_cell BW 2
        refine bodyPost_ret (v := .agg #[.slice V1 s.states.length b1, .slice (some ⟨bq, oq, none⟩) s.queue.length b2, .slice V3 s.outs.length b3]) (by simp only [results, Tryz.results7]; go_simp) rfl ⟨_, _, _, rfl, by rw [HR.out]; exact nW, hbX⟩
    · have hq : s.queue = [] := List.length_eq_zero_iff.1 (by omega)
      have HS := hid (show simLoop apps u gk s = s from simLoop_nil u gk hq)
      have hn0 : s.queue.length = 0 := by rw [hq]; rfl
      have q0 : decide ((s.queue.length : Int) > 0) = false := by rw [hn0]; rfl
      have q1 : decide (0 < s.queue.length) = false := by rw [hn0]; rfl
      clear hq hn0 hp
      have c0 : wr.cell? ⟨g5, 0, none⟩ = some (.slice V1 s.states.length b1) := blk_cell G1 0
      have c1 : wr.cell? ⟨g5, 1, none⟩ = some (.slice V2 s.queue.length b2) := blk_cell G1 1
      have c2 : wr.cell? ⟨g5, 2, none⟩ = some (.slice V3 s.outs.length b3) := blk_cell G1 2
      have y0 := blk_frozen G0 0
      have y1 := blk_frozen G0 1
      have y2 := blk_frozen G0 2
      have x0 : wr.cell? ⟨w.heap.size, 0, none⟩ = some (.slice none 0 0) := blk_cell G0 0
      have x1 : wr.cell? ⟨w.heap.size, 1, none⟩ = some (.slice none 0 0) := blk_cell G0 1
      have x2 : wr.cell? ⟨w.heap.size, 2, none⟩ = some (.slice none 0 0) := blk_cell G0 2
      have HR := hid (show simRun apps u = s by rw [HF.out, ← HL.out, HS.out])
      go_wp2_with fail
      obtain ⟨BW, nW, hbX⟩ := sim_store (w := w) (g := w.heap.size) G0 n (Nat.le_refl _) hb (.slice V1 s.states.length b1) (.slice V2 s.queue.length b2) (.slice V3 s.outs.length b3) rfl rfl rfl
      generalize ((wr.setCell ⟨w.heap.size, 0, none⟩ (.slice V1 s.states.length b1)).setCell ⟨w.heap.size, 1, none⟩ (.slice V2 s.queue.length b2)).setCell ⟨w.heap.size, 2, none⟩ (.slice V3 s.outs.length b3) = W9 at *
      have s0 : W9.cell? ⟨w.heap.size, 0, none⟩ = some (.slice V1 s.states.length b1) := blk_cell BW 0
      have s1 : W9.cell? ⟨w.heap.size, 1, none⟩ = some (.slice V2 s.queue.length b2) := blk_cell BW 1
      have s2 : W9.cell? ⟨w.heap.size, 2, none⟩ = some (.slice V3 s.outs.length b3) := blk_cell BW 2
      refine bodyPost_ret (v := .agg #[.slice V1 s.states.length b1, .slice V2 s.queue.length b2, .slice V3 s.outs.length b3]) (by simp only [results, Tryz.results7]; go_simp) rfl ⟨_, _, _, rfl, by rw [HR.out]; exact nW, hbX⟩
theorem SimRunS_c (va : Value) (apps : List AppD) (u : Int) (F : Nat → Prop) (w : World) (hA : Rd tApp w F va apps) :
    Calls Tryz.prog 7 #[va, .int .i64 u] w (RunSPost apps u w) := by
  cases qa : appsOk apps with
  | false => exact SimRun_no va apps u F w hA qa
  | true => exact SimRun_yes va apps u F w hA qa
end Go.Proofs.YtbcemldiahghcaaGreat

namespace Go.Proofs.YtbcemldiahghcaaGreat
set_option linter.unusedVariables false
set_option linter.unusedSimpArgs false
set_option maxRecDepth 100000
open Go.RowKit
set_option maxHeartbeats 1000000 in
theorem SimRunI_no (va : Value) (apps : List AppD) (u : Int) (F : Nat → Prop) (w : World) (hA : Rd tApp w F va apps) (qa : appsOk apps = false) :
    Calls Tryz.prog 9 #[va, .int .i64 u] w (RunSPost apps u w) := by
  have HF := hid (show simRun apps u = sim0 by simp [simRun, qa])
  obtain ⟨A0, c0, rfl, m0⟩ := hA.shape
  go_enter Tryz.func9, Tryz.ntmps9
  go_wp2_with fail
  have hb2 := balloc (Below.refl w.heap.size w) (.cells #[.slice none 0 0, .slice none 0 0, .slice none 0 0] 28)
  have D0 : (w.alloc (.cells #[.slice none 0 0, .slice none 0 0, .slice none 0 0] 28)).heap[w.heap.size]? = some (.cells #[.slice none 0 0, .slice none 0 0, .slice none 0 0] 28 (0, 0)) := heap_at rfl
  generalize w.alloc (.cells #[.slice none 0 0, .slice none 0 0, .slice none 0 0] 28) = W at *
  refine (AppOkI_c _ apps F _ (hA.below hb2)).mono ?_
  rintro e w3 ⟨rfl, hb3⟩
  rw [qa]
  have E0 := below_heap hb3 (blk_lt D0) D0
  have hb3' := bthen hb2 hb3 hb2.size
  have x0 : w3.cell? ⟨w.heap.size, 0, none⟩ = some (.slice none 0 0) := blk_cell E0 0
  have x1 : w3.cell? ⟨w.heap.size, 1, none⟩ = some (.slice none 0 0) := blk_cell E0 1
  have x2 : w3.cell? ⟨w.heap.size, 2, none⟩ = some (.slice none 0 0) := blk_cell E0 2
  have y0 := blk_frozen E0 0
  have y1 := blk_frozen E0 1
  have y2 := blk_frozen E0 2
  clear D0 hb2 hb3
  apply_assumption
  go_wp2_with fail
  obtain ⟨BW, nW, hbX⟩ := sim_store (w := w) (g := w.heap.size) (B := w.heap.size) (s := sim0) E0 ⟨Ow.nil _ _ _ _, Ow.nil _ _ _ _, Ow.nil _ _ _ _⟩ (Nat.le_refl _) hb3' (.slice none 0 0) (.slice none 0 0) (.slice none 0 0) rfl rfl rfl
  generalize ((w3.setCell ⟨w.heap.size, 0, none⟩ (.slice none 0 0)).setCell ⟨w.heap.size, 1, none⟩ (.slice none 0 0)).setCell ⟨w.heap.size, 2, none⟩ (.slice none 0 0) = W3 at *
  have r0 : W3.cell? ⟨w.heap.size, 0, none⟩ = some (.slice none 0 0) := blk_cell BW 0
  have r1 : W3.cell? ⟨w.heap.size, 1, none⟩ = some (.slice none 0 0) := blk_cell BW 1
  have r2 : W3.cell? ⟨w.heap.size, 2, none⟩ = some (.slice none 0 0) := blk_cell BW 2
  refine bodyPost_ret (v := .agg #[.slice none 0 0, .slice none 0 0, .slice none 0 0]) (by simp only [results, Tryz.results9]; go_simp) rfl ⟨_, _, _, rfl, by rw [HF.out]; exact nW, hbX⟩
set_option maxHeartbeats 1000000 in
theorem SimRunI_yes (va : Value) (apps : List AppD) (u : Int) (F : Nat → Prop) (w : World) (hA : Rd tApp w F va apps) (qa : appsOk apps = true) :
    Calls Tryz.prog 9 #[va, .int .i64 u] w (RunSPost apps u w) := by
  have HF := hid (show simRun apps u = simLoop apps u 200 simStart by simp [simRun, qa])
  have hL0 : left simStart ≤ (200 : Nat) := by decide
  obtain ⟨A0, c0, rfl, m0⟩ := hA.shape
  go_enter Tryz.func9, Tryz.ntmps9
  go_wp2_with fail
  have hW := balloc (Below.refl w.heap.size w) (.cells #[.slice none 0 0, .slice none 0 0, .slice none 0 0] 28)
  have B0 : (w.alloc (.cells #[.slice none 0 0, .slice none 0 0, .slice none 0 0] 28)).heap[w.heap.size]? = some (.cells #[.slice none 0 0, .slice none 0 0, .slice none 0 0] 28 (0, 0)) := heap_at rfl
  generalize w.alloc (.cells #[.slice none 0 0, .slice none 0 0, .slice none 0 0] 28) = W at *
  refine (AppOkI_c _ apps F _ (hA.below hW)).mono ?_
  rintro e w0 ⟨rfl, hb0⟩
  rw [qa]
  have A0' := below_heap hb0 (blk_lt B0) B0
  have hW0 := bthen hW hb0 hW.size
  clear B0 hW hb0
  apply_assumption
  go_wp2_with fail
  refine (SimStartI_c w0).mono ?_
  rintro e w1 ⟨us, uq, uo, rfl, n1, hb1⟩
  obtain ⟨X1, a1, rfl, z1⟩ := n1.st.shape
  obtain ⟨X2, a2, rfl, z2⟩ := n1.qu.shape
  obtain ⟨X3, a3, rfl, z3⟩ := n1.ou.shape
  have hb1' := bthen hW0 hb1 hW0.size
  have C0 := below_heap hb1 (blk_lt A0') A0'
  have hg5 := blk_lt C0
  have n3 := (n1.below (balloc (Below.refl _ _) (.cells #[.slice X1 simStart.states.length a1, .slice X2 simStart.queue.length a2, .slice X3 simStart.outs.length a3] 28))).mono (F' := fun k => w.heap.size ≤ k) (fun k hk => Nat.le_trans hW0.size hk)
  have E0 := (heap_old (o := .cells #[.slice X1 simStart.states.length a1, .slice X2 simStart.queue.length a2, .slice X3 simStart.outs.length a3] 28) (blk_lt C0)).trans C0
  have E1 : (w1.alloc (.cells #[.slice X1 simStart.states.length a1, .slice X2 simStart.queue.length a2, .slice X3 simStart.outs.length a3] 28)).heap[w1.heap.size]? = some (.cells #[.slice X1 simStart.states.length a1, .slice X2 simStart.queue.length a2, .slice X3 simStart.outs.length a3] 28 (0, 0)) := heap_at rfl
  have hb3' := hb1'.alloc hb1'.size (.cells #[.slice X1 simStart.states.length a1, .slice X2 simStart.queue.length a2, .slice X3 simStart.outs.length a3] 28)
  clear A0' C0 hb1 hb1' hW0 n1
  apply_assumption
  go_wp2_with fail
  obtain ⟨g5, hg⟩ : ∃ g, g = w1.heap.size := ⟨_, rfl⟩
  rw [← hg] at hg5 E1
  simp only [← hg]
  clear hg
  go_loopg [] 200 (fun k wr => ∃ s vs vq vo, wr.heap[w.heap.size]? = some (.cells #[.slice none 0 0, .slice none 0 0, .slice none 0 0] 28 (0, 0)) ∧ wr.heap[g5]? = some (.cells #[vs, vq, vo] 28 (0, 0)) ∧ SimOw wr (fun k => w.heap.size ≤ k) vs vq vo s ∧ Below w.heap.size w wr ∧ SInv s ∧ left s ≤ (k : Nat) ∧ Hid (simLoop apps u k s = simLoop apps u 200 simStart))
  case atStart => exact ⟨simStart, _, _, _, E0, E1, n3, hb3', SInv.start, hL0, rfl⟩
  case round =>
    clear E0 E1 n3 hb3' hL0 z1 z2 z3
    obtain ⟨s, vs, vq, vo, G0, G1, n, hb, hI, hl, HL⟩ := hrel
    obtain ⟨V1, b1, rfl, v1⟩ := n.st.shape
    obtain ⟨V2, b2, rfl, v2⟩ := n.qu.shape
    obtain ⟨V3, b3, rfl, v3⟩ := n.ou.shape
    by_cases hp : 0 < s.queue.length
    · obtain ⟨e, rest, hq⟩ : ∃ e rest, s.queue = e :: rest := by
        cases hh : s.queue with
        | nil => rw [hh] at hp; simp at hp
        | cons e rest => exact ⟨e, rest, rfl⟩
      obtain ⟨bq, oq, rfl, hbq, e0, -, -, -, -, -, -⟩ := ev_at n.qu.rd 0 hp
      have he : s.queue[0] = e := by simp [hq]
      rw [he] at e0
      simp only [Nat.zero_mul, Nat.add_zero] at e0
      have HQ := hid hq
      have hlq := hI.left_nonneg
      have hk : 0 < gk := by omega
      obtain ⟨k', rfl⟩ : ∃ k', gk = k' + 1 := ⟨gk - 1, by omega⟩
      have q0 : decide ((s.queue.length : Int) > 0) = true := by simp; omega
      have q1 : decide (0 < s.queue.length) = true := by simp; omega
      have q2 : (0 : Int) < (s.queue.length : Int) := by omega
      clear he hq hlq
      have c0 : wr.cell? ⟨g5, 0, none⟩ = some (.slice V1 s.states.length b1) := blk_cell G1 0
      have c1 : wr.cell? ⟨g5, 1, none⟩ = some (.slice (some ⟨bq, oq, none⟩) s.queue.length b2) := blk_cell G1 1
      have c2 : wr.cell? ⟨g5, 2, none⟩ = some (.slice V3 s.outs.length b3) := blk_cell G1 2
      by_cases ht : e.time < u
      · have htd : decide (e.time < u) = true := by simpa using ht
        have HStep := hid (show simStepV apps s = (simNext apps s, true) by rw [simStepV_ok qa hI HQ.out])
        have hN := simNext_ok qa hI HQ.out
        have HL' := hid (show simLoop apps u k' (simNext apps s) = simLoop apps u 200 simStart by rw [← HL.out, simLoop_step u k' qa hI HQ.out, if_pos ht])
        have hI' := hN.inv
        have hless := hN.less
        have hl' : left (simNext apps s) ≤ (k' : Nat) := by unfold left at hl ⊢; push_cast at hl; omega
        clear hN HL ht hless hl
        go_wp2_with fail
        refine (simStepI_c _ _ _ _ apps s _ wr ((hA.below hb).mono (F' := fun _ => True) (fun _ _ => trivial)) (n.rd.mono (fun _ _ => trivial)) qa hI.ok).mono ?_
        rintro q w5 ⟨us, uq, uo, rfl, n5, -, hb5⟩
        rw [HStep.out] at n5 ⊢
        replace n5 := n5 rfl
        obtain ⟨Z1, t1, rfl, u1⟩ := n5.st.shape
        obtain ⟨Z2, t2, rfl, u2⟩ := n5.qu.shape
        obtain ⟨Z3, t3, rfl, u3⟩ := n5.ou.shape
        have G05 := below_heap hb5 (blk_lt G0) G0
        have G15 := below_heap hb5 (blk_lt G1) G1
        have hb5' := bthen hb hb5 hb.size
        have n5' := n5.mono (F' := fun k => w.heap.size ≤ k) (fun k hk => Nat.le_trans hb.size hk)
        have hl5 := blk_lt G15
        clear G0 G1 n hb n5 hb5 c0 c1 c2 e0 v1 v2 v3
        have c0 : w5.cell? ⟨g5, 0, none⟩ = some (.slice V1 s.states.length b1) := blk_cell G15 0
        have c1 : w5.cell? ⟨g5, 1, none⟩ = some (.slice (some ⟨bq, oq, none⟩) s.queue.length b2) := blk_cell G15 1
        have c2 : w5.cell? ⟨g5, 2, none⟩ = some (.slice V3 s.outs.length b3) := blk_cell G15 2
        have f0 := blk_frozen G15 0
        have f1 := blk_frozen G15 1
        have f2 := blk_frozen G15 2
        apply_assumption
        go_wp2_with fail
        obtain ⟨BW, nW, hbX⟩ := sim_store (w := w) (g := g5) G15 n5' (by omega) hb5' (.slice Z1 (simNext apps s).states.length t1) (.slice Z2 (simNext apps s).queue.length t2) (.slice Z3 (simNext apps s).outs.length t3) rfl rfl rfl
        have hne : ¬ (w.heap.size = g5) := by omega
        have G0X : (((w5.setCell ⟨g5, 0, none⟩ (.slice Z1 (simNext apps s).states.length t1)).setCell ⟨g5, 1, none⟩ (.slice Z2 (simNext apps s).queue.length t2)).setCell ⟨g5, 2, none⟩ (.slice Z3 (simNext apps s).outs.length t3)).heap[w.heap.size]? = some (.cells #[.slice none 0 0, .slice none 0 0, .slice none 0 0] 28 (0, 0)) := (Below.heap_setCell _ (⟨g5, 2, none⟩ : Addr) _ w.heap.size hne).trans ((Below.heap_setCell _ (⟨g5, 1, none⟩ : Addr) _ w.heap.size hne).trans ((Below.heap_setCell _ (⟨g5, 0, none⟩ : Addr) _ w.heap.size hne).trans G05))
        have G0Y := (heap_old (o := (.cells #[.slice Z1 (simNext apps s).states.length t1, .slice Z2 (simNext apps s).queue.length t2, .slice Z3 (simNext apps s).outs.length t3] 28)) (blk_lt G0X)).trans G0X
        have G1Y := (heap_old (o := (.cells #[.slice Z1 (simNext apps s).states.length t1, .slice Z2 (simNext apps s).queue.length t2, .slice Z3 (simNext apps s).outs.length t3] 28)) (blk_lt BW)).trans BW
        have nY := nW.below (balloc (Below.refl _ _) (.cells #[.slice Z1 (simNext apps s).states.length t1, .slice Z2 (simNext apps s).queue.length t2, .slice Z3 (simNext apps s).outs.length t3] 28))
        have hbY := hbX.alloc hbX.size (.cells #[.slice Z1 (simNext apps s).states.length t1, .slice Z2 (simNext apps s).queue.length t2, .slice Z3 (simNext apps s).outs.length t3] 28)
        go_roundg k'
        case measure => omega
        case rel => exact ⟨simNext apps s, _, _, _, G0Y, G1Y, nY, hbY, hI', hl', HL'⟩
      · have htd : decide (e.time < u) = false := by simpa using ht
        have HS := hid (show simLoop apps u (k' + 1) s = s by rw [simLoop_step u k' qa hI HQ.out, if_neg ht])
        clear ht
        have y0 := blk_frozen G0 0
        have y1 := blk_frozen G0 1
        have y2 := blk_frozen G0 2
        have x0 : wr.cell? ⟨w.heap.size, 0, none⟩ = some (.slice none 0 0) := blk_cell G0 0
        have x1 : wr.cell? ⟨w.heap.size, 1, none⟩ = some (.slice none 0 0) := blk_cell G0 1
        have x2 : wr.cell? ⟨w.heap.size, 2, none⟩ = some (.slice none 0 0) := blk_cell G0 2
        have HR := hid (show simRun apps u = s by rw [HF.out, ← HL.out, HS.out])
        go_wp2_with fail
        obtain ⟨BW, nW, hbX⟩ := sim_store (w := w) (g := w.heap.size) G0 n (Nat.le_refl _) hb (.slice V1 s.states.length b1) (.slice (some ⟨bq, oq, none⟩) s.queue.length b2) (.slice V3 s.outs.length b3) rfl rfl rfl
        generalize ((wr.setCell ⟨w.heap.size, 0, none⟩ (.slice V1 s.states.length b1)).setCell ⟨w.heap.size, 1, none⟩ (.slice (some ⟨bq, oq, none⟩) s.queue.length b2)).setCell ⟨w.heap.size, 2, none⟩ (.slice V3 s.outs.length b3) = W9 at *
        have s0 : W9.cell? ⟨w.heap.size, 0, none⟩ = some (.slice V1 s.states.length b1) := blk_cell BW 0
        have s1 : W9.cell? ⟨w.heap.size, 1, none⟩ = some (.slice (some ⟨bq, oq, none⟩) s.queue.length b2) := blk_cell BW 1
        have s2 : W9.cell? ⟨w.heap.size, 2, none⟩ = some (.slice V3 s.outs.length b3) := blk_cell BW 2
        refine bodyPost_ret (v := .agg #[.slice V1 s.states.length b1, .slice (some ⟨bq, oq, none⟩) s.queue.length b2, .slice V3 s.outs.length b3]) (by simp only [results, Tryz.results9]; go_simp) rfl ⟨_, _, _, rfl, by rw [HR.out]; exact nW, hbX⟩
    · have hq : s.queue = [] := List.length_eq_zero_iff.1 (by omega)
      have HS := hid (show simLoop apps u gk s = s from simLoop_nil u gk hq)
      have hn0 : s.queue.length = 0 := by rw [hq]; rfl
      have q0 : decide ((s.queue.length : Int) > 0) = false := by rw [hn0]; rfl
      have q1 : decide (0 < s.queue.length) = false := by rw [hn0]; rfl
      clear hq hn0 hp
      have c0 : wr.cell? ⟨g5, 0, none⟩ = some (.slice V1 s.states.length b1) := blk_cell G1 0
      have c1 : wr.cell? ⟨g5, 1, none⟩ = some (.slice V2 s.queue.length b2) := blk_cell G1 1
      have c2 : wr.cell? ⟨g5, 2, none⟩ = some (.slice V3 s.outs.length b3) := blk_cell G1 2
      have y0 := blk_frozen G0 0
      have y1 := blk_frozen G0 1
      have y2 := blk_frozen G0 2
      have x0 : wr.cell? ⟨w.heap.size, 0, none⟩ = some (.slice none 0 0) := blk_cell G0 0
      have x1 : wr.cell? ⟨w.heap.size, 1, none⟩ = some (.slice none 0 0) := blk_cell G0 1
      have x2 : wr.cell? ⟨w.heap.size, 2, none⟩ = some (.slice none 0 0) := blk_cell G0 2
      have HR := hid (show simRun apps u = s by rw [HF.out, ← HL.out, HS.out])
      go_wp2_with fail
      obtain ⟨BW, nW, hbX⟩ := sim_store (w := w) (g := w.heap.size) G0 n (Nat.le_refl _) hb (.slice V1 s.states.length b1) (.slice V2 s.queue.length b2) (.slice V3 s.outs.length b3) rfl rfl rfl
      generalize ((wr.setCell ⟨w.heap.size, 0, none⟩ (.slice V1 s.states.length b1)).setCell ⟨w.heap.size, 1, none⟩ (.slice V2 s.queue.length b2)).setCell ⟨w.heap.size, 2, none⟩ (.slice V3 s.outs.length b3) = W9 at *
      have s0 : W9.cell? ⟨w.heap.size, 0, none⟩ = some (.slice V1 s.states.length b1) := blk_cell BW 0
      have s1 : W9.cell? ⟨w.heap.size, 1, none⟩ = some (.slice V2 s.queue.length b2) := blk_cell BW 1
      have s2 : W9.cell? ⟨w.heap.size, 2, none⟩ = some (.slice V3 s.outs.length b3) := blk_cell BW 2
      refine bodyPost_ret (v := .agg #[.slice V1 s.states.length b1, .slice V2 s.queue.length b2, .slice V3 s.outs.length b3]) (by simp only [results, Tryz.results9]; go_simp) rfl ⟨_, _, _, rfl, by rw [HR.out]; exact nW, hbX⟩
theorem SimRunI_c (va : Value) (apps : List AppD) (u : Int) (F : Nat → Prop) (w : World) (hA : Rd tApp w F va apps) :
    Calls Tryz.prog 9 #[va, .int .i64 u] w (RunSPost apps u w) := by
  cases qa : appsOk apps with
  | false => exact SimRunI_no va apps u F w hA qa
  | true => exact SimRunI_yes va apps u F w hA qa
end Go.Proofs.YtbcemldiahghcaaGreat
