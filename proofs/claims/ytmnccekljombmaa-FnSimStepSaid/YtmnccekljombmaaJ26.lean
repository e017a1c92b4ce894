/- Texts joined: SimR, Spc11, Imp16. -/
import Derived.Test.YtmnccekljombmaaJ25
import Derived.Test.YtmnccekljombmaaJ21
import Derived.Test.YtmnccekljombmaaJ13
import Derived.Test.YtmnccekljombmaaJ06
namespace Go.Proofs.Ytmnccekljombmaa
set_option linter.unusedVariables false
set_option linter.unusedSectionVars false
theorem simStepV_ok {apps : List AppD} {s : SimD} (ha : appsOk apps = true) (h : SInv s) {e : EvD} {rest : List EvD} (hq : s.queue = e :: rest) : simStepV apps s = (simNext apps s, true) := by
  have hN := (simNext_ok ha h hq).inv.ok
  unfold simStepV
  rw [hq]
  simp only
  rw [if_pos hN]
theorem simLoop_step {apps : List AppD} {s : SimD} (u : Int) (n : Nat) (ha : appsOk apps = true) (h : SInv s) {e : EvD} {rest : List EvD} (hq : s.queue = e :: rest) :
    simLoop apps u (n + 1) s = if e.time < u then simLoop apps u n (simNext apps s) else s := by
  have h1 : simLoop apps u (n + 1) s = if e.time < u then (if (simStepV apps s).2 = true then simLoop apps u n (simStepV apps s).1 else s) else s := by
    conv => lhs; unfold simLoop
    rw [hq]
  rw [h1, simStepV_ok ha h hq]
  simp
theorem simLoop_nil {apps : List AppD} {s : SimD} (u : Int) (n : Nat) (hq : s.queue = []) : simLoop apps u n s = s := by
  cases n with
  | zero => rfl
  | succ n => unfold simLoop; rw [hq]
def left (s : SimD) : Int := s.queue.length + 2 * bud s.states
theorem SInv.left_nonneg {s : SimD} (h : SInv s) : (s.queue.length : Int) ≤ left s := by
  have := bud_nonneg _ h.st; unfold left; omega
/-- A run up to a time: whatever holds of its steps. -/
theorem simLoop_ind {apps : List AppD} (ha : appsOk apps = true) (u : Int) (P : SimD → Prop) (hP : ∀ s e rest, SInv s → s.queue = e :: rest → e.time < u → P s → P (simNext apps s)) :
    ∀ (n : Nat) (s : SimD), left s ≤ n → SInv s → P s → SInv (simLoop apps u n s) ∧ P (simLoop apps u n s) ∧ (∀ q ∈ (simLoop apps u n s).queue, u ≤ q.time)
  | 0, s, hn, h, hp => by
    have := h.left_nonneg
    have hq : s.queue = [] := List.length_eq_zero_iff.1 (by omega)
    exact ⟨h, hp, fun q hqq => by simp only [simLoop] at hqq; rw [hq] at hqq; cases hqq⟩
  | n + 1, s, hn, h, hp => by
    match hq : s.queue with
    | [] => rw [simLoop_nil u _ hq]; exact ⟨h, hp, fun q hqq => by rw [hq] at hqq; cases hqq⟩
    | e :: rest =>
      rw [simLoop_step u n ha h hq]
      have hN := simNext_ok ha h hq
      split
      · rename_i ht
        exact simLoop_ind ha u P hP n _ (by have := hN.less; unfold left at hn ⊢; omega) hN.inv (hP s e rest h hq ht hp)
      · rename_i ht
        refine ⟨h, hp, fun q hqq => ?_⟩
        rw [hq] at hqq
        rcases List.mem_cons.1 hqq with rfl | hqq
        · omega
        · have := h.qs
          rw [hq] at this
          have := evLess_time ((List.pairwise_cons.1 this).1 q hqq)
          omega
theorem simLoop_fuel {apps : List AppD} (ha : appsOk apps = true) (u : Int) : ∀ (n m : Nat) (s : SimD), left s ≤ n → left s ≤ m → SInv s → simLoop apps u n s = simLoop apps u m s
  | 0, m, s, hn, _, h => by
    have := h.left_nonneg
    have hq : s.queue = [] := List.length_eq_zero_iff.1 (by omega)
    rw [simLoop_nil u _ hq, simLoop_nil u _ hq]
  | n + 1, 0, s, _, hm, h => by
    have := h.left_nonneg
    have hq : s.queue = [] := List.length_eq_zero_iff.1 (by omega)
    rw [simLoop_nil u _ hq, simLoop_nil u _ hq]
  | n + 1, m + 1, s, hn, hm, h => by
    match hq : s.queue with
    | [] => rw [simLoop_nil u _ hq, simLoop_nil u _ hq]
    | e :: rest =>
      rw [simLoop_step u n ha h hq, simLoop_step u m ha h hq]
      have hN := simNext_ok ha h hq
      split
      · exact simLoop_fuel ha u n m _ (by have := hN.less; unfold left at hn ⊢; omega) (by have := hN.less; unfold left at hm ⊢; omega) hN.inv
      · rfl
/-- Up to a time and then up to a later one is up to that. -/
theorem simLoop_two {apps : List AppD} (ha : appsOk apps = true) (u v : Int) (huv : u ≤ v) : ∀ (n m k : Nat) (s : SimD), left s ≤ n → left s ≤ m → left s ≤ k → SInv s → simLoop apps v m (simLoop apps u n s) = simLoop apps v k s
  | 0, m, k, s, hn, hm, hk, h => by
    have := h.left_nonneg
    have hq : s.queue = [] := List.length_eq_zero_iff.1 (by omega)
    rw [simLoop_nil u _ hq, simLoop_nil v _ hq, simLoop_nil v _ hq]
  | n + 1, m, k, s, hn, hm, hk, h => by
    match hq : s.queue with
    | [] => rw [simLoop_nil u _ hq, simLoop_nil v _ hq, simLoop_nil v _ hq]
    | e :: rest =>
      rw [simLoop_step u n ha h hq]
      have hN := simNext_ok ha h hq
      split
      · rename_i ht
        have hl := hN.less
        have h0 := h.left_nonneg
        have h1 := hN.inv.left_nonneg
        have hlen : 0 < s.queue.length := by rw [hq]; simp
        obtain ⟨k', rfl⟩ : ∃ k', k = k' + 1 := ⟨k - 1, by omega⟩
        rw [simLoop_step v k' ha h hq, if_pos (by omega)]
        exact simLoop_two ha u v huv n m k' _ (by unfold left at hn ⊢; omega) (by unfold left at hm ⊢; omega) (by unfold left at hk ⊢; omega) hN.inv
      · exact simLoop_fuel ha v m k s hm hk h
theorem left_start : left simStart ≤ 200 := by decide
theorem simRun_eq {apps : List AppD} (ha : appsOk apps = true) (u : Int) : simRun apps u = simLoop apps u 200 simStart := by unfold simRun; rw [if_pos ha]
theorem simRun_bad {apps : List AppD} (ha : appsOk apps = false) (u : Int) : simRun apps u = sim0 := by unfold simRun; rw [if_neg (by simp [ha])]
/-- A run's form, and its times. -/
theorem simRun_ok {apps : List AppD} (ha : appsOk apps = true) (u : Int) : SInv (simRun apps u) ∧ (∀ o ∈ (simRun apps u).outs, o.time < u) ∧ (∀ q ∈ (simRun apps u).queue, u ≤ q.time) ∧ left (simRun apps u) ≤ 200 := by
  rw [simRun_eq ha]
  have h := simLoop_ind ha u (fun s => (∀ o ∈ s.outs, o.time < u) ∧ left s ≤ 200) (fun s e rest hs hq ht hp => by
    have hN := simNext_ok ha hs hq
    obtain ⟨new, h1, h2⟩ := hN.outs
    refine ⟨fun o ho => ?_, by have := hN.less; have := hp.2; unfold left at *; omega⟩
    rw [h1] at ho
    rcases List.mem_append.1 ((sortAll_ok out_ord _).2.mem_iff.1 ho) with ho | ho
    · exact hp.1 o ho
    · rw [h2 o ho]; exact ht) 200 simStart left_start SInv.start ⟨by simp [simStart], left_start⟩
  exact ⟨h.1, h.2.1.1, h.2.2, h.2.1.2⟩
theorem simRun_first {apps : List AppD} (ha : appsOk apps = true) (u : Int) (hu : u ≤ 0) : simRun apps u = simStart := by
  rw [simRun_eq ha, simLoop_step u 199 ha SInv.start (e := appFirst 0) (rest := [appFirst 1, appFirst 2, appFirst 3]) rfl]
  rw [if_neg]
  show ¬ (0 : Int) < u
  omega
theorem simRun_end {apps : List AppD} (ha : appsOk apps = true) : (simRun apps 41).queue = [] := by
  obtain ⟨h1, _, h3, _⟩ := simRun_ok ha 41
  match hq : (simRun apps 41).queue with
  | [] => rfl
  | e :: rest =>
    have h4 := h3 e (by rw [hq]; exact List.mem_cons_self ..)
    have h5 := h1.q e (by rw [hq]; exact List.mem_cons_self ..)
    simp [evOk, inn] at h5
    omega
theorem simRun_two {apps : List AppD} (ha : appsOk apps = true) (u v : Int) (huv : u ≤ v) : simLoop apps v 200 (simRun apps u) = simRun apps v := by
  rw [simRun_eq ha, simRun_eq ha]
  exact simLoop_two ha u v huv 200 200 200 _ left_start left_start left_start SInv.start
theorem take_filter {α : Type} (p : α → Bool) : ∀ (l : List α), l.Pairwise (fun a b => p b = true → p a = true) → l.take (l.filter p).length = l.filter p
  | [], _ => rfl
  | a :: l, h => by
    obtain ⟨h1, h2⟩ := List.pairwise_cons.1 h
    by_cases hp : p a = true
    · rw [List.filter_cons, if_pos hp]
      simp only [List.length_cons, List.take_succ_cons]
      rw [take_filter p l h2]
    · have : l.filter p = [] := List.filter_eq_nil_iff.2 (fun b hb hpb => hp (h1 b hb hpb))
      rw [List.filter_cons, if_neg hp, this]; rfl
/-- What is let out ahead of a time is a beginning of all that is let out. -/
theorem simRun_outs {apps : List AppD} (ha : appsOk apps = true) (u : Int) (hu : u ≤ 41) : (simRun apps u).outs = (simRun apps 41).outs.filter (fun o => decide (o.time < u)) ∧ (simRun apps 41).outs.take ((simRun apps 41).outs.filter (fun o => decide (o.time < u))).length = (simRun apps u).outs := by
  obtain ⟨h1, h2, h3, h4⟩ := simRun_ok ha u
  rw [← simRun_two ha u 41 hu]
  have hl : left (simRun apps u) ≤ ((200 : Nat) : Int) := h4
  generalize simRun apps u = s0 at *
  have h := simLoop_ind ha 41 (fun s => (∀ q ∈ s.queue, u ≤ q.time) ∧ ∃ new : List OutD, s.outs.Perm (s0.outs ++ new) ∧ ∀ o ∈ new, u ≤ o.time) (fun s e rest hs hq ht hp => by
    have hN := simNext_ok ha hs hq
    obtain ⟨new, k1, k2⟩ := hN.outs
    obtain ⟨hp1, old, hp2, hp3⟩ := hp
    have heu := hp1 e (by rw [hq]; exact List.mem_cons_self ..)
    refine ⟨fun q hqq => by have := (hN.later q hqq).1; omega, old ++ new, ?_, fun o ho => ?_⟩
    · rw [k1]
      refine (sortAll_ok out_ord _).2.trans ?_
      rw [← List.append_assoc]
      exact hp2.append_right new
    · rcases List.mem_append.1 ho with ho | ho
      · exact hp3 o ho
      · rw [k2 o ho]; exact heu) 200 s0 hl h1 ⟨h3, [], by simp, by simp⟩
  obtain ⟨i1, ⟨_, new, i2, i3⟩, _⟩ := h
  generalize simLoop apps 41 200 s0 = x at *
  have hf : (s0.outs ++ new).filter (fun o => decide (o.time < u)) = s0.outs := by
    rw [List.filter_append, List.filter_eq_self.2 (fun o ho => decide_eq_true (h2 o ho)), List.filter_eq_nil_iff.2 (fun o ho => by have := i3 o ho; simp; omega), List.append_nil]
  have hperm : (x.outs.filter (fun o => decide (o.time < u))).Perm s0.outs := by have := i2.filter (fun o => decide (o.time < u)); rwa [hf] at this
  have e1 : x.outs.filter (fun o => decide (o.time < u)) = s0.outs :=
    sorted_eq out_ord ((i1.os.imp (fun h => out_ord.asymm _ _ h)).filter _) (h1.os.imp (fun h => out_ord.asymm _ _ h)) hperm
  refine ⟨e1.symm, ?_⟩
  rw [take_filter, e1]
  refine i1.os.imp (fun {a b} hab hb => ?_)
  have ht : a.time ≤ b.time := by
    simp only [outLess, OutD.key, lexLt] at hab
    split at hab
    · omega
    · simp at hab; omega
  simp at hb ⊢; omega
end Go.Proofs.Ytmnccekljombmaa

namespace Go.Proofs.Ytmnccekljombmaa
set_option linter.unusedVariables false
set_option linter.unusedSimpArgs false
set_option maxRecDepth 100000
open Go.RowKit
theorem simOk_first {s : SimD} {e : EvD} {rest : List EvD} (h : simOk s = true) (hq : s.queue = e :: rest) : evOk e = true ∧ s.states.length = 4 ∧ ∀ x ∈ s.states, stOk x = true := by
  simp only [simOk, evsOk, Bool.and_eq_true, decide_eq_true_eq] at h
  refine ⟨List.all_eq_true.1 h.2.2.1.2.1 e (by rw [hq]; simp), h.1, List.all_eq_true.1 h.2.1⟩
theorem SimStepS_c (va vs vq vo : Value) (apps : List AppD) (s : SimD) (F : Nat → Prop) (w : World) (hA : Rd tApp w F va apps) (h : SimRd w F vs vq vo s) :
    Calls Try.prog 45 #[va, .agg #[vs, vq, vo]] w (StepPost apps s w) := by
  cases qa : appsOk apps with
  | false => exact SimStep_no1 va vs vq vo apps s F w hA h qa
  | true =>
    cases qs : simOk s with
    | false => exact SimStep_no2 va vs vq vo apps s F w hA h qa qs
    | true =>
      match qn : s.queue with
      | [] => exact SimStep_nil va vs vq vo apps s F w hA h qa qs qn
      | e :: rest =>
        obtain ⟨he, hs4, hst⟩ := simOk_first qs qn
        have he' := he
        simp only [evOk, inn, Bool.and_eq_true, decide_eq_true_eq] at he'
        obtain ⟨j, hj⟩ := Int.eq_ofNat_of_zero_le (show 0 ≤ e.to by omega)
        have ha := qa
        simp only [appsOk, Bool.and_eq_true, decide_eq_true_eq] at ha
        have hj3 : j ≤ 3 := by omega
        have hja : j < apps.length := by omega
        have hjs : j < s.states.length := by omega
        have hc := appRun_comes (a := apps[j]) (s := s.states[j]) (e := e) (List.all_eq_true.1 ha.2 _ (List.getElem_mem hja)) (hst _ (List.getElem_mem hjs)) he
        have hle : (appRun apps[j] s.states[j] e).2.1.length ≤ 2 ∧ (appRun apps[j] s.states[j] e).2.2.length ≤ 2 := by
          rcases hc.way with ⟨_, h1⟩ | ⟨_, _, h1, h2⟩
          · rw [h1]; simp
          · exact ⟨h1, h2⟩
        exact SimStep_cons va vs vq vo apps s e rest j F w hA h qa qs qn hj hj3 ha.1 hs4 apps[j] s.states[j] (List.getElem?_eq_getElem hja) (List.getElem?_eq_getElem hjs) _ _ _ rfl hle.1 hle.2
end Go.Proofs.Ytmnccekljombmaa

namespace Go.Proofs.Ytmnccekljombmaa
set_option linter.unusedVariables false
set_option linter.unusedSimpArgs false
set_option maxRecDepth 100000
open Go.RowKit
set_option maxHeartbeats 4000000 in
theorem simStep_nil (va vs vq vo : Value) (apps : List AppD) (s : SimD) (F : Nat → Prop) (w : World) (h : SimRd w F vs vq vo s) (qn : s.queue = []) :
    Calls Try.prog 72 #[va, .agg #[vs, vq, vo]] w (StepIPost apps s F w) := by
  have HF := hid (show simStepV apps s = (s, false) by simp [simStepV, qn])
  have hn0 := hid (show s.queue.length = 0 by simp [qn])
  clear qn
  obtain ⟨A1, c1, rfl, m1⟩ := h.st.shape
  obtain ⟨A2, c2, rfl, m2⟩ := h.qu.shape
  obtain ⟨A3, c3, rfl, m3⟩ := h.ou.shape
  rw [hn0.out] at h ⊢
  go_enter Try.func72, Try.ntmps72
  go_upto_region 1 with fail
  have hW := balloc (balloc (Below.refl w.heap.size w) (.cells #[.slice A1 s.states.length c1, .slice A2 0 c2, .slice A3 s.outs.length c3] 64)) (.cells #[.slice none 0 0, .slice none 0 0, .slice none 0 0] 64)
  have Z0 : ((w.alloc (.cells #[.slice A1 s.states.length c1, .slice A2 0 c2, .slice A3 s.outs.length c3] 64)).alloc (.cells #[.slice none 0 0, .slice none 0 0, .slice none 0 0] 64)).heap[w.heap.size]? = some (.cells #[.slice A1 s.states.length c1, .slice A2 0 c2, .slice A3 s.outs.length c3] 64 (0, 0)) := (heap_old (by simp)).trans (heap_at rfl)
  have Z1 : ((w.alloc (.cells #[.slice A1 s.states.length c1, .slice A2 0 c2, .slice A3 s.outs.length c3] 64)).alloc (.cells #[.slice none 0 0, .slice none 0 0, .slice none 0 0] 64)).heap[w.heap.size + 1]? = some (.cells #[.slice none 0 0, .slice none 0 0, .slice none 0 0] 64 (0, 0)) := heap_at (by simp)
  generalize (w.alloc (.cells #[.slice A1 s.states.length c1, .slice A2 0 c2, .slice A3 s.outs.length c3] 64)).alloc (.cells #[.slice none 0 0, .slice none 0 0, .slice none 0 0] 64) = W at *
  have d0 : W.cell? ⟨w.heap.size, 0, none⟩ = some (.slice A1 s.states.length c1) := blk_cell Z0 0
  have d1 : W.cell? ⟨w.heap.size, 1, none⟩ = some (.slice A2 0 c2) := blk_cell Z0 1
  have d2 : W.cell? ⟨w.heap.size, 2, none⟩ = some (.slice A3 s.outs.length c3) := blk_cell Z0 2
  have x0 : W.cell? ⟨w.heap.size + 1, 0, none⟩ = some (.slice none 0 0) := blk_cell Z1 0
  have x1 : W.cell? ⟨w.heap.size + 1, 1, none⟩ = some (.slice none 0 0) := blk_cell Z1 1
  have x2 : W.cell? ⟨w.heap.size + 1, 2, none⟩ = some (.slice none 0 0) := blk_cell Z1 2
  have y0 := blk_frozen Z1 0
  have y1 := blk_frozen Z1 1
  have y2 := blk_frozen Z1 2
  go_wp2_with fail
  have hbX : Below w.heap.size w (((W.setCell ⟨w.heap.size + 1, 0, none⟩ (.slice A1 s.states.length c1)).setCell ⟨w.heap.size + 1, 1, none⟩ (.slice A2 0 c2)).setCell ⟨w.heap.size + 1, 2, none⟩ (.slice A3 s.outs.length c3)) := ((hW.setCell (p := ⟨w.heap.size + 1, 0, none⟩) (Nat.le_succ _) (.slice A1 s.states.length c1)).setCell (p := ⟨w.heap.size + 1, 1, none⟩) (Nat.le_succ _) (.slice A2 0 c2)).setCell (p := ⟨w.heap.size + 1, 2, none⟩) (Nat.le_succ _) (.slice A3 s.outs.length c3)
  have BX : (((W.setCell ⟨w.heap.size + 1, 0, none⟩ (.slice A1 s.states.length c1)).setCell ⟨w.heap.size + 1, 1, none⟩ (.slice A2 0 c2)).setCell ⟨w.heap.size + 1, 2, none⟩ (.slice A3 s.outs.length c3)).heap[w.heap.size + 1]? = some (.cells #[.slice A1 s.states.length c1, .slice A2 0 c2, .slice A3 s.outs.length c3] 64 (0, 0)) := blk_set (blk_set (blk_set Z1 0 (.slice A1 s.states.length c1)) 1 (.slice A2 0 c2)) 2 (.slice A3 s.outs.length c3)
  generalize ((W.setCell ⟨w.heap.size + 1, 0, none⟩ (.slice A1 s.states.length c1)).setCell ⟨w.heap.size + 1, 1, none⟩ (.slice A2 0 c2)).setCell ⟨w.heap.size + 1, 2, none⟩ (.slice A3 s.outs.length c3) = W12 at *
  have hX := h.below hbX
  have s0 : W12.cell? ⟨w.heap.size + 1, 0, none⟩ = some (.slice A1 s.states.length c1) := blk_cell BX 0
  have s1 : W12.cell? ⟨w.heap.size + 1, 1, none⟩ = some (.slice A2 0 c2) := blk_cell BX 1
  have s2 : W12.cell? ⟨w.heap.size + 1, 2, none⟩ = some (.slice A3 s.outs.length c3) := blk_cell BX 2
  refine bodyPost_ret (v := .tuple #[.agg #[.slice A1 s.states.length c1, .slice A2 0 c2, .slice A3 s.outs.length c3], .bool false]) (by simp only [results, Try.results72]; go_simp) rfl ⟨_, _, _, by rw [HF.out], by rw [HF.out]; exact fun hh => (by cases hh), by rw [HF.out]; exact hX.mono (fun k hk => .inl hk), hbX⟩
theorem simOk_evs {s : SimD} (h : simOk s = true) : ∀ x ∈ s.queue, evOk x = true := by
  simp only [simOk, evsOk, Bool.and_eq_true, decide_eq_true_eq] at h
  exact List.all_eq_true.1 h.2.2.1.2.1
theorem simStepI_c (va vs vq vo : Value) (apps : List AppD) (s : SimD) (F : Nat → Prop) (w : World) (hA : Rd tApp w F va apps) (h : SimRd w F vs vq vo s) (qa : appsOk apps = true) (qs : simOk s = true) :
    Calls Try.prog 72 #[va, .agg #[vs, vq, vo]] w (StepIPost apps s F w) := by
  match qn : s.queue with
  | [] => exact simStep_nil va vs vq vo apps s F w h qn
  | e :: rest =>
    obtain ⟨he, hs4, hst⟩ := simOk_first qs qn
    have hev := simOk_evs qs
    have he' := he
    simp only [evOk, inn, Bool.and_eq_true, decide_eq_true_eq] at he'
    obtain ⟨j, hj⟩ := Int.eq_ofNat_of_zero_le (show 0 ≤ e.to by omega)
    have ha := qa
    simp only [appsOk, Bool.and_eq_true, decide_eq_true_eq] at ha
    have hj3 : j ≤ 3 := by omega
    have hja : j < apps.length := by omega
    have hjs : j < s.states.length := by omega
    have hc := appRun_comes (a := apps[j]) (s := s.states[j]) (e := e) (List.all_eq_true.1 ha.2 _ (List.getElem_mem hja)) (hst _ (List.getElem_mem hjs)) he
    have hle : (appRun apps[j] s.states[j] e).2.1.length ≤ 2 ∧ (appRun apps[j] s.states[j] e).2.2.length ≤ 2 := by
      rcases hc.way with ⟨_, h1⟩ | ⟨_, _, h1, h2⟩
      · rw [h1]; simp
      · exact ⟨h1, h2⟩
    refine simStep_cons va vs vq vo apps s e rest j F w hA h qs qn hj hj3 ha.1 hs4 apps[j] s.states[j] (List.getElem?_eq_getElem hja) (List.getElem?_eq_getElem hjs) _ _ _ rfl hle.1 hle.2 fun x hx => ?_
    rcases List.mem_append.1 hx with hx | hx
    · exact EvWf.of_ok (hev x (by rw [qn]; exact List.mem_cons_of_mem _ hx))
    · exact EvWf.of_ok (hc.sends x hx).1
theorem simStepV_form {apps : List AppD} {s : SimD} (qs : simOk s = true) : simOk (simStepV apps s).1 = true := by
  unfold simStepV
  split
  · exact qs
  · split
    · assumption
    · exact qs
set_option maxHeartbeats 4000000 in
theorem SimStepI_c (va vs vq vo : Value) (apps : List AppD) (s : SimD) (F : Nat → Prop) (w : World) (hA : Rd tApp w F va apps) (h : SimRd w F vs vq vo s) :
    Calls Try.prog 43 #[va, .agg #[vs, vq, vo]] w (StepPost apps s w) := by
  obtain ⟨A0, c0, rfl, m0⟩ := hA.shape
  obtain ⟨A1, c1, rfl, m1⟩ := h.st.shape
  obtain ⟨A2, c2, rfl, m2⟩ := h.qu.shape
  obtain ⟨A3, c3, rfl, m3⟩ := h.ou.shape
  obtain ⟨qs, hqs⟩ : ∃ t, simOk s = t := ⟨_, rfl⟩
  obtain ⟨qa, hqa⟩ : ∃ t, appsOk apps = t := ⟨_, rfl⟩
  go_enter Try.func43, Try.ntmps43
  go_upto_region 1 with fail
  have hW := balloc (balloc (Below.refl w.heap.size w) (.cells #[.slice A1 s.states.length c1, .slice A2 s.queue.length c2, .slice A3 s.outs.length c3] 64)) (.cells #[.slice none 0 0, .slice none 0 0, .slice none 0 0] 64)
  have Z0 : ((w.alloc (.cells #[.slice A1 s.states.length c1, .slice A2 s.queue.length c2, .slice A3 s.outs.length c3] 64)).alloc (.cells #[.slice none 0 0, .slice none 0 0, .slice none 0 0] 64)).heap[w.heap.size]? = some (.cells #[.slice A1 s.states.length c1, .slice A2 s.queue.length c2, .slice A3 s.outs.length c3] 64 (0, 0)) := (heap_old (by simp)).trans (heap_at rfl)
  have Z1 : ((w.alloc (.cells #[.slice A1 s.states.length c1, .slice A2 s.queue.length c2, .slice A3 s.outs.length c3] 64)).alloc (.cells #[.slice none 0 0, .slice none 0 0, .slice none 0 0] 64)).heap[w.heap.size + 1]? = some (.cells #[.slice none 0 0, .slice none 0 0, .slice none 0 0] 64 (0, 0)) := heap_at (by simp)
  generalize (w.alloc (.cells #[.slice A1 s.states.length c1, .slice A2 s.queue.length c2, .slice A3 s.outs.length c3] 64)).alloc (.cells #[.slice none 0 0, .slice none 0 0, .slice none 0 0] 64) = W at *
  have d0 : W.cell? ⟨w.heap.size, 0, none⟩ = some (.slice A1 s.states.length c1) := blk_cell Z0 0
  have d1 : W.cell? ⟨w.heap.size, 1, none⟩ = some (.slice A2 s.queue.length c2) := blk_cell Z0 1
  have d2 : W.cell? ⟨w.heap.size, 2, none⟩ = some (.slice A3 s.outs.length c3) := blk_cell Z0 2
  have hB := h.below hW
  go_wp2_with fail
  refine (SimOkI_c _ _ _ s F W hB.st hB.qu hB.ou).mono ?_
  rintro q w1 ⟨he, hb1⟩
  rw [hqs] at he
  subst he
  have C0 := below_heap hb1 (blk_lt Z0) Z0
  have C1 := below_heap hb1 (blk_lt Z1) Z1
  have hW1 := bthen hW hb1 hW.size
  clear Z0 Z1 hW hb1 hB d0 d1 d2
  apply_assumption
  cases qs
  case false =>
    have HF := hid (show simStep apps s = (sim0, false) by simp [simStep, hqs])
    have x0 : w1.cell? ⟨w.heap.size + 1, 0, none⟩ = some (.slice none 0 0) := blk_cell C1 0
    have x1 : w1.cell? ⟨w.heap.size + 1, 1, none⟩ = some (.slice none 0 0) := blk_cell C1 1
    have x2 : w1.cell? ⟨w.heap.size + 1, 2, none⟩ = some (.slice none 0 0) := blk_cell C1 2
    have y0 := blk_frozen C1 0
    have y1 := blk_frozen C1 1
    have y2 := blk_frozen C1 2
    skip
    go_wp2_with fail
    obtain ⟨BW, nW, hbX⟩ := sim_store (w := w) (g := w.heap.size + 1) (B := w.heap.size) (s := sim0) C1 ⟨Ow.nil _ _ _ _, Ow.nil _ _ _ _, Ow.nil _ _ _ _⟩ (Nat.le_succ _) hW1 (.slice none 0 0) (.slice none 0 0) (.slice none 0 0) rfl rfl rfl
    generalize ((w1.setCell ⟨w.heap.size + 1, 0, none⟩ (.slice none 0 0)).setCell ⟨w.heap.size + 1, 1, none⟩ (.slice none 0 0)).setCell ⟨w.heap.size + 1, 2, none⟩ (.slice none 0 0) = W9 at *
    have r0 : W9.cell? ⟨w.heap.size + 1, 0, none⟩ = some (.slice none 0 0) := blk_cell BW 0
    have r1 : W9.cell? ⟨w.heap.size + 1, 1, none⟩ = some (.slice none 0 0) := blk_cell BW 1
    have r2 : W9.cell? ⟨w.heap.size + 1, 2, none⟩ = some (.slice none 0 0) := blk_cell BW 2
    refine bodyPost_ret (v := .tuple #[.agg #[.slice none 0 0, .slice none 0 0, .slice none 0 0], .bool false]) (by simp only [results, Try.results43]; go_simp) rfl ⟨_, _, _, by rw [HF.out], by rw [HF.out]; exact nW, hbX⟩
  case true =>
    go_wp2_with fail
    refine (AppOkI_c _ apps F _ (hA.below hW1)).mono ?_
    rintro q w2 ⟨he, hb2⟩
    rw [hqa] at he
    subst he
    have D0 := below_heap hb2 (blk_lt C0) C0
    have D1 := below_heap hb2 (blk_lt C1) C1
    have hW2 := bthen hW1 hb2 hW1.size
    clear C0 C1 hW1 hb2
    apply_assumption
    cases qa
    case false =>
      have HF := hid (show simStep apps s = (sim0, false) by simp [simStep, hqa])
      have x0 : w2.cell? ⟨w.heap.size + 1, 0, none⟩ = some (.slice none 0 0) := blk_cell D1 0
      have x1 : w2.cell? ⟨w.heap.size + 1, 1, none⟩ = some (.slice none 0 0) := blk_cell D1 1
      have x2 : w2.cell? ⟨w.heap.size + 1, 2, none⟩ = some (.slice none 0 0) := blk_cell D1 2
      have y0 := blk_frozen D1 0
      have y1 := blk_frozen D1 1
      have y2 := blk_frozen D1 2
      skip
      go_wp2_with fail
      obtain ⟨BW, nW, hbX⟩ := sim_store (w := w) (g := w.heap.size + 1) (B := w.heap.size) (s := sim0) D1 ⟨Ow.nil _ _ _ _, Ow.nil _ _ _ _, Ow.nil _ _ _ _⟩ (Nat.le_succ _) hW2 (.slice none 0 0) (.slice none 0 0) (.slice none 0 0) rfl rfl rfl
      generalize ((w2.setCell ⟨w.heap.size + 1, 0, none⟩ (.slice none 0 0)).setCell ⟨w.heap.size + 1, 1, none⟩ (.slice none 0 0)).setCell ⟨w.heap.size + 1, 2, none⟩ (.slice none 0 0) = W9 at *
      have r0 : W9.cell? ⟨w.heap.size + 1, 0, none⟩ = some (.slice none 0 0) := blk_cell BW 0
      have r1 : W9.cell? ⟨w.heap.size + 1, 1, none⟩ = some (.slice none 0 0) := blk_cell BW 1
      have r2 : W9.cell? ⟨w.heap.size + 1, 2, none⟩ = some (.slice none 0 0) := blk_cell BW 2
      refine bodyPost_ret (v := .tuple #[.agg #[.slice none 0 0, .slice none 0 0, .slice none 0 0], .bool false]) (by simp only [results, Try.results43]; go_simp) rfl ⟨_, _, _, by rw [HF.out], by rw [HF.out]; exact nW, hbX⟩
    case true =>
      have HF := hid (show simStep apps s = simStepV apps s by simp [simStep, hqa, hqs])
      have d0 : w2.cell? ⟨w.heap.size, 0, none⟩ = some (.slice A1 s.states.length c1) := blk_cell D0 0
      have d1 : w2.cell? ⟨w.heap.size, 1, none⟩ = some (.slice A2 s.queue.length c2) := blk_cell D0 1
      have d2 : w2.cell? ⟨w.heap.size, 2, none⟩ = some (.slice A3 s.outs.length c3) := blk_cell D0 2
      go_wp2_with fail
      refine (simStepI_c _ _ _ _ apps s F w2 (hA.below hW2) (h.below hW2) hqa hqs).mono ?_
      rintro q w3 ⟨us, uq, uo, rfl, -, hR, hb3⟩
      obtain ⟨b, hb⟩ : ∃ b, (simStepV apps s).2 = b := ⟨_, rfl⟩
      rw [hb]
      obtain ⟨l1, l2, l3⟩ := simOk_len (simStepV_form (apps := apps) hqs)
      obtain ⟨X1, x1, rfl, z1⟩ := hR.st.shape
      obtain ⟨X2, x2, rfl, z2⟩ := hR.qu.shape
      obtain ⟨X3, x3, rfl, z3⟩ := hR.ou.shape
      have E1 := below_heap hb3 (blk_lt D1) D1
      have hW3 := bthen hW2 hb3 hW2.size
      have HB := hid hb
      clear hb D0 D1 hW2 hb3 d0 d1 d2
      obtain ⟨s', hs'⟩ : ∃ s', (simStepV apps s).1 = s' := ⟨_, rfl⟩
      rw [hs'] at hR l1 l2 l3 ⊢
      have HS := hid hs'
      clear hs'
      apply_assumption
      go_wp2_with fail
      refine (copySim_c _ _ _ s' _ _ (hR.below (balloc (Below.refl _ _) _)) l1 l2 l3).mono ?_
      rintro q w4 ⟨ts, tq, to_, rfl, n4, hb4⟩
      obtain ⟨T1, t1, rfl, u1⟩ := n4.st.shape
      obtain ⟨T2, t2, rfl, u2⟩ := n4.qu.shape
      obtain ⟨T3, t3, rfl, u3⟩ := n4.ou.shape
      have hbx := bthen' (balloc (Below.refl w3.heap.size w3) (.cells #[.slice X1 s'.states.length x1, .slice X2 s'.queue.length x2, .slice X3 s'.outs.length x3] 64)) hb4
      have F1 := below_heap hbx (blk_lt E1) E1
      have hW4 := bthen hW3 hbx hW3.size
      have n4' := n4.mono (F' := fun k => w.heap.size ≤ k) (fun k hk => by have := hW3.size; simp at hk; omega)
      clear E1 hbx hb4 hR hW3 n4
      have x0 : w4.cell? ⟨w.heap.size + 1, 0, none⟩ = some (.slice none 0 0) := blk_cell F1 0
      have x1' : w4.cell? ⟨w.heap.size + 1, 1, none⟩ = some (.slice none 0 0) := blk_cell F1 1
      have x2' : w4.cell? ⟨w.heap.size + 1, 2, none⟩ = some (.slice none 0 0) := blk_cell F1 2
      have y0 := blk_frozen F1 0
      have y1 := blk_frozen F1 1
      have y2 := blk_frozen F1 2
      apply_assumption
      go_wp2_with fail
      obtain ⟨BW, nW, hbX⟩ := sim_store (w := w) (g := w.heap.size + 1) F1 n4' (Nat.le_succ _) hW4 (.slice T1 s'.states.length t1) (.slice T2 s'.queue.length t2) (.slice T3 s'.outs.length t3) rfl rfl rfl
      generalize ((w4.setCell ⟨w.heap.size + 1, 0, none⟩ (.slice T1 s'.states.length t1)).setCell ⟨w.heap.size + 1, 1, none⟩ (.slice T2 s'.queue.length t2)).setCell ⟨w.heap.size + 1, 2, none⟩ (.slice T3 s'.outs.length t3) = W9 at *
      have s0 : W9.cell? ⟨w.heap.size + 1, 0, none⟩ = some (.slice T1 s'.states.length t1) := blk_cell BW 0
      have s1 : W9.cell? ⟨w.heap.size + 1, 1, none⟩ = some (.slice T2 s'.queue.length t2) := blk_cell BW 1
      have s2 : W9.cell? ⟨w.heap.size + 1, 2, none⟩ = some (.slice T3 s'.outs.length t3) := blk_cell BW 2
      refine bodyPost_ret (v := .tuple #[.agg #[.slice T1 s'.states.length t1, .slice T2 s'.queue.length t2, .slice T3 s'.outs.length t3], .bool b]) (by simp only [results, Try.results43]; go_simp) rfl ⟨_, _, _, by rw [HF.out, HB.out], by rw [HF.out, HS.out]; exact nW, hbX⟩
end Go.Proofs.Ytmnccekljombmaa
