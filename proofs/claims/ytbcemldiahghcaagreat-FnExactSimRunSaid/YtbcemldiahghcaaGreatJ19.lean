/- Texts joined: SimR, Imp1, Imp2. -/
import Derived.Test.YtbcemldiahghcaaGreatJ18
import Derived.Test.YtbcemldiahghcaaGreatJ12
import Derived.Test.YtbcemldiahghcaaGreatJ13
import Derived.Test.YtbcemldiahghcaaGreatJ07
namespace Go.Proofs.YtbcemldiahghcaaGreat
set_option linter.unusedVariables false
set_option linter.unusedSectionVars false
theorem simStepV_ok {apps : List AppD} {s : SimD} (ha : appsOk apps = true) (h : SInv s) {e : EvD} {rest : List EvD} (hq : s.queue = e :: rest) : simStepV apps s = (simNext apps s, true) := by
  have hN := (simNext_ok ha h hq).inv.ok
  unfold simStepV
  rw [hq]
  simp only
  rw [if_pos hN]
theorem simLoop_step {apps : List AppD} {s : SimD} (u : Int) (n : Nat) (ha : appsOk apps = true) (h : SInv s) {e : EvD} {rest : List EvD} (hq : s.queue = e :: rest) :
    simLoop apps u (n + 1) s = if e.time < u then simLoop apps u n (simNext apps s) else s := by
  have h1 : simLoop apps u (n + 1) s = if e.time < u then (if (simStepV apps s).2 = true then simLoop apps u n (simStepV apps s).1 else s) else s := by
    conv => lhs; unfold simLoop
    rw [hq]
  rw [h1, simStepV_ok ha h hq]
  simp
theorem simLoop_nil {apps : List AppD} {s : SimD} (u : Int) (n : Nat) (hq : s.queue = []) : simLoop apps u n s = s := by
  cases n with
  | zero => rfl
  | succ n => unfold simLoop; rw [hq]
def left (s : SimD) : Int := s.queue.length + 2 * bud s.states
theorem SInv.left_nonneg {s : SimD} (h : SInv s) : (s.queue.length : Int) ≤ left s := by
  have := bud_nonneg _ h.st; unfold left; omega
/-- A run up to a time: whatever holds of its steps. -/
theorem simLoop_ind {apps : List AppD} (ha : appsOk apps = true) (u : Int) (P : SimD → Prop) (hP : ∀ s e rest, SInv s → s.queue = e :: rest → e.time < u → P s → P (simNext apps s)) :
    ∀ (n : Nat) (s : SimD), left s ≤ n → SInv s → P s → SInv (simLoop apps u n s) ∧ P (simLoop apps u n s) ∧ (∀ q ∈ (simLoop apps u n s).queue, u ≤ q.time)
  | 0, s, hn, h, hp => by
    have := h.left_nonneg
    have hq : s.queue = [] := List.length_eq_zero_iff.1 (by omega)
    exact ⟨h, hp, fun q hqq => by simp only [simLoop] at hqq; rw [hq] at hqq; cases hqq⟩
  | n + 1, s, hn, h, hp => by
    match hq : s.queue with
    | [] => rw [simLoop_nil u _ hq]; exact ⟨h, hp, fun q hqq => by rw [hq] at hqq; cases hqq⟩
    | e :: rest =>
      rw [simLoop_step u n ha h hq]
      have hN := simNext_ok ha h hq
      split
      · rename_i ht
        exact simLoop_ind ha u P hP n _ (by have := hN.less; unfold left at hn ⊢; omega) hN.inv (hP s e rest h hq ht hp)
      · rename_i ht
        refine ⟨h, hp, fun q hqq => ?_⟩
        rw [hq] at hqq
        rcases List.mem_cons.1 hqq with rfl | hqq
        · omega
        · have := h.qs
          rw [hq] at this
          have := evLess_time ((List.pairwise_cons.1 this).1 q hqq)
          omega
theorem simLoop_fuel {apps : List AppD} (ha : appsOk apps = true) (u : Int) : ∀ (n m : Nat) (s : SimD), left s ≤ n → left s ≤ m → SInv s → simLoop apps u n s = simLoop apps u m s
  | 0, m, s, hn, _, h => by
    have := h.left_nonneg
    have hq : s.queue = [] := List.length_eq_zero_iff.1 (by omega)
    rw [simLoop_nil u _ hq, simLoop_nil u _ hq]
  | n + 1, 0, s, _, hm, h => by
    have := h.left_nonneg
    have hq : s.queue = [] := List.length_eq_zero_iff.1 (by omega)
    rw [simLoop_nil u _ hq, simLoop_nil u _ hq]
  | n + 1, m + 1, s, hn, hm, h => by
    match hq : s.queue with
    | [] => rw [simLoop_nil u _ hq, simLoop_nil u _ hq]
    | e :: rest =>
      rw [simLoop_step u n ha h hq, simLoop_step u m ha h hq]
      have hN := simNext_ok ha h hq
      split
      · exact simLoop_fuel ha u n m _ (by have := hN.less; unfold left at hn ⊢; omega) (by have := hN.less; unfold left at hm ⊢; omega) hN.inv
      · rfl
/-- Up to a time and then up to a later one is up to that. -/
theorem simLoop_two {apps : List AppD} (ha : appsOk apps = true) (u v : Int) (huv : u ≤ v) : ∀ (n m k : Nat) (s : SimD), left s ≤ n → left s ≤ m → left s ≤ k → SInv s → simLoop apps v m (simLoop apps u n s) = simLoop apps v k s
  | 0, m, k, s, hn, hm, hk, h => by
    have := h.left_nonneg
    have hq : s.queue = [] := List.length_eq_zero_iff.1 (by omega)
    rw [simLoop_nil u _ hq, simLoop_nil v _ hq, simLoop_nil v _ hq]
  | n + 1, m, k, s, hn, hm, hk, h => by
    match hq : s.queue with
    | [] => rw [simLoop_nil u _ hq, simLoop_nil v _ hq, simLoop_nil v _ hq]
    | e :: rest =>
      rw [simLoop_step u n ha h hq]
      have hN := simNext_ok ha h hq
      split
      · rename_i ht
        have hl := hN.less
        have h0 := h.left_nonneg
        have h1 := hN.inv.left_nonneg
        have hlen : 0 < s.queue.length := by rw [hq]; simp
        obtain ⟨k', rfl⟩ : ∃ k', k = k' + 1 := ⟨k - 1, by omega⟩
        rw [simLoop_step v k' ha h hq, if_pos (by omega)]
        exact simLoop_two ha u v huv n m k' _ (by unfold left at hn ⊢; omega) (by unfold left at hm ⊢; omega) (by unfold left at hk ⊢; omega) hN.inv
      · exact simLoop_fuel ha v m k s hm hk h
theorem left_start : left simStart ≤ 200 := by decide
theorem simRun_eq {apps : List AppD} (ha : appsOk apps = true) (u : Int) : simRun apps u = simLoop apps u 200 simStart := by unfold simRun; rw [if_pos ha]
theorem simRun_bad {apps : List AppD} (ha : appsOk apps = false) (u : Int) : simRun apps u = sim0 := by unfold simRun; rw [if_neg (by simp [ha])]
/-- A run's form, and its times. -/
theorem simRun_ok {apps : List AppD} (ha : appsOk apps = true) (u : Int) : SInv (simRun apps u) ∧ (∀ o ∈ (simRun apps u).outs, o.time < u) ∧ (∀ q ∈ (simRun apps u).queue, u ≤ q.time) ∧ left (simRun apps u) ≤ 200 := by
  rw [simRun_eq ha]
  have h := simLoop_ind ha u (fun s => (∀ o ∈ s.outs, o.time < u) ∧ left s ≤ 200) (fun s e rest hs hq ht hp => by
    have hN := simNext_ok ha hs hq
    obtain ⟨new, h1, h2⟩ := hN.outs
    refine ⟨fun o ho => ?_, by have := hN.less; have := hp.2; unfold left at *; omega⟩
    rw [h1] at ho
    rcases List.mem_append.1 ((sortAll_ok out_ord _).2.mem_iff.1 ho) with ho | ho
    · exact hp.1 o ho
    · rw [h2 o ho]; exact ht) 200 simStart left_start SInv.start ⟨by simp [simStart], left_start⟩
  exact ⟨h.1, h.2.1.1, h.2.2, h.2.1.2⟩
theorem simRun_first {apps : List AppD} (ha : appsOk apps = true) (u : Int) (hu : u ≤ 0) : simRun apps u = simStart := by
  rw [simRun_eq ha, simLoop_step u 199 ha SInv.start (e := appFirst 0) (rest := [appFirst 1, appFirst 2, appFirst 3]) rfl]
  rw [if_neg]
  show ¬ (0 : Int) < u
  omega
theorem simRun_end {apps : List AppD} (ha : appsOk apps = true) : (simRun apps 41).queue = [] := by
  obtain ⟨h1, _, h3, _⟩ := simRun_ok ha 41
  match hq : (simRun apps 41).queue with
  | [] => rfl
  | e :: rest =>
    have h4 := h3 e (by rw [hq]; exact List.mem_cons_self ..)
    have h5 := h1.q e (by rw [hq]; exact List.mem_cons_self ..)
    simp [evOk, inn] at h5
    omega
theorem simRun_two {apps : List AppD} (ha : appsOk apps = true) (u v : Int) (huv : u ≤ v) : simLoop apps v 200 (simRun apps u) = simRun apps v := by
  rw [simRun_eq ha, simRun_eq ha]
  exact simLoop_two ha u v huv 200 200 200 _ left_start left_start left_start SInv.start
theorem take_filter {α : Type} (p : α → Bool) : ∀ (l : List α), l.Pairwise (fun a b => p b = true → p a = true) → l.take (l.filter p).length = l.filter p
  | [], _ => rfl
  | a :: l, h => by
    obtain ⟨h1, h2⟩ := List.pairwise_cons.1 h
    by_cases hp : p a = true
    · rw [List.filter_cons, if_pos hp]
      simp only [List.length_cons, List.take_succ_cons]
      rw [take_filter p l h2]
    · have : l.filter p = [] := List.filter_eq_nil_iff.2 (fun b hb hpb => hp (h1 b hb hpb))
      rw [List.filter_cons, if_neg hp, this]; rfl
/-- What is let out ahead of a time is a beginning of all that is let out. -/
theorem simRun_outs {apps : List AppD} (ha : appsOk apps = true) (u : Int) (hu : u ≤ 41) : (simRun apps u).outs = (simRun apps 41).outs.filter (fun o => decide (o.time < u)) ∧ (simRun apps 41).outs.take ((simRun apps 41).outs.filter (fun o => decide (o.time < u))).length = (simRun apps u).outs := by
  obtain ⟨h1, h2, h3, h4⟩ := simRun_ok ha u
  rw [← simRun_two ha u 41 hu]
  have hl : left (simRun apps u) ≤ ((200 : Nat) : Int) := h4
  generalize simRun apps u = s0 at *
  have h := simLoop_ind ha 41 (fun s => (∀ q ∈ s.queue, u ≤ q.time) ∧ ∃ new : List OutD, s.outs.Perm (s0.outs ++ new) ∧ ∀ o ∈ new, u ≤ o.time) (fun s e rest hs hq ht hp => by
    have hN := simNext_ok ha hs hq
    obtain ⟨new, k1, k2⟩ := hN.outs
    obtain ⟨hp1, old, hp2, hp3⟩ := hp
    have heu := hp1 e (by rw [hq]; exact List.mem_cons_self ..)
    refine ⟨fun q hqq => by have := (hN.later q hqq).1; omega, old ++ new, ?_, fun o ho => ?_⟩
    · rw [k1]
      refine (sortAll_ok out_ord _).2.trans ?_
      rw [← List.append_assoc]
      exact hp2.append_right new
    · rcases List.mem_append.1 ho with ho | ho
      · exact hp3 o ho
      · rw [k2 o ho]; exact heu) 200 s0 hl h1 ⟨h3, [], by simp, by simp⟩
  obtain ⟨i1, ⟨_, new, i2, i3⟩, _⟩ := h
  generalize simLoop apps 41 200 s0 = x at *
  have hf : (s0.outs ++ new).filter (fun o => decide (o.time < u)) = s0.outs := by
    rw [List.filter_append, List.filter_eq_self.2 (fun o ho => decide_eq_true (h2 o ho)), List.filter_eq_nil_iff.2 (fun o ho => by have := i3 o ho; simp; omega), List.append_nil]
  have hperm : (x.outs.filter (fun o => decide (o.time < u))).Perm s0.outs := by have := i2.filter (fun o => decide (o.time < u)); rwa [hf] at this
  have e1 : x.outs.filter (fun o => decide (o.time < u)) = s0.outs :=
    sorted_eq out_ord ((i1.os.imp (fun h => out_ord.asymm _ _ h)).filter _) (h1.os.imp (fun h => out_ord.asymm _ _ h)) hperm
  refine ⟨e1.symm, ?_⟩
  rw [take_filter, e1]
  refine i1.os.imp (fun {a b} hab hb => ?_)
  have ht : a.time ≤ b.time := by
    simp only [outLess, OutD.key, lexLt] at hab
    split at hab
    · omega
    · simp at hab; omega
  simp at hb ⊢; omega
end Go.Proofs.YtbcemldiahghcaaGreat

namespace Go.Proofs.YtbcemldiahghcaaGreat
set_option linter.unusedVariables false
set_option linter.unusedSimpArgs false
set_option maxRecDepth 100000
open Go.RowKit
set_option maxHeartbeats 1000000 in
theorem AppFirstI_c (p : Int) (w : World) : Calls Tryz.prog 127 #[.int .i64 p] w fun q w' => q = .returned (evAgg (appFirst p)) ∧ Below w.heap.size w w' := by
  obtain ⟨t, ht⟩ : ∃ t, inn p 0 3 = t := ⟨_, rfl⟩
  cases t
  all_goals
    go_enter Tryz.func127, Tryz.ntmps127
    go_wp2_with (go_at_call 104; refine (isProc_c _ _).mono ?_; rintro e w1 ⟨he, rfl⟩; rw [ht] at he; subst he)
    refine bodyPost_ret (v := evAgg (appFirst p)) (by simp [results, Tryz.results127, go_sem, evAgg, appFirst, ht]) rfl ⟨rfl, ?_⟩
    exact Ch.below0 (by repeat (first | (with_reducible exact Ch.refl _ _) | (with_reducible refine Ch.setCell ?_ (Or.inr (Nat.le_refl _)) _) | (with_reducible refine Ch.drew ?_) | (with_reducible refine Ch.alloc ?_ _)))
set_option maxHeartbeats 1000000 in
theorem event_c (e : EvD) (w : World) : Calls Tryz.prog 135 #[evAgg e] w fun q w' => q = .returned (evAgg e) ∧ Below w.heap.size w w' := by
  unfold evAgg
  go_enter Tryz.func135, Tryz.ntmps135
  go_wp2_with fail
  refine bodyPost_ret (v := .agg #[.int .i64 e.time, .int .i64 e.to, .int .i64 e.from_, .int .i64 e.count, .int .i64 e.n, .int .i64 e.kind, .int .i64 e.arg]) (by simp [results, Tryz.results135, go_sem]) rfl ⟨rfl, ?_⟩
  exact Ch.below0 (by repeat (first | (with_reducible exact Ch.refl _ _) | (with_reducible refine Ch.setCell ?_ (Or.inr (by simp)) _) | (with_reducible refine Ch.drew ?_) | (with_reducible refine Ch.alloc ?_ _)))
end Go.Proofs.YtbcemldiahghcaaGreat

namespace Go.Proofs.YtbcemldiahghcaaGreat
set_option linter.unusedVariables false
set_option linter.unusedSimpArgs false
set_option maxRecDepth 100000
open Go.RowKit
set_option maxHeartbeats 1000000 in
theorem cloneSt_c (v : Value) (xs : List StD) (F : Nat → Prop) (w : World) (h : Rd tSt w F v xs) (hl : xs.length ≤ 1000) :
    Calls Tryz.prog 83 #[v] w fun q w' => ∃ u, q = .returned u ∧ Ow tSt 49 w' (fun k => w.heap.size ≤ k) u xs ∧ Below w.heap.size w w' := by
  obtain ⟨A, c, rfl, m0⟩ := h.shape
  cases A with
  | none =>
    have h0 : xs = [] := by
      obtain ⟨A', c', he, _, _, h3⟩ := h
      injection he with e1 e2 e3
      subst e1
      cases xs with
      | nil => rfl
      | cons x xs => obtain ⟨b, o, hb, _⟩ := h3 (by simp); cases hb
    subst h0
    have hnil : ∀ w, (binOp .eql 24 (.slice none 0 c) (.slice none 0 0)).run Tryz.prog w = .ok (.bool true) w := fun w => Lib.run_eql_slice_nil w 24 49 none 0 c 0 0 Tryz.underlying24
    go_enter Tryz.func83, Tryz.ntmps83
    go_wp2_with fail
    go_ret
    exact ⟨_, rfl, Ow.nil _ _ _ _, by repeat (first | exact Below.refl _ _ | refine balloc ?_ _)⟩
  | some a =>
    have hnil : ∀ w, (binOp .eql 24 (.slice (some a) xs.length c) (.slice none 0 0)).run Tryz.prog w = .ok (.bool false) w := fun w => Lib.run_eql_slice_nil w 24 49 (some a) xs.length c 0 0 Tryz.underlying24
    go_enter Tryz.func83, Tryz.ntmps83
    go_wp2_with (at_builtin; refine ow_concat rfl 24 rfl Tryz.underlying24 _ 24 info_st rfl (by decide) (by decide) rfl (Ow.empty tSt (F := fun k => w.heap.size ≤ k) (heap_at rfl) (Nat.le_refl _)) rfl (h.below (balloc (Below.refl _ _) _)) (by first | omega | (simp; done) | (simp; omega)) (fun k => w.heap.size ≤ k) (fun _ hk => hk) (fun k hk => by first | omega | (simp at hk; omega)) ?_; intro v9 w9 hO9 hG9 hat9; have hb9 : Below w.heap.size w w9 := (balloc (Below.refl _ _) _).trans (grown_below (Below.refl _ _) hG9 (fun k hk => Nat.le_of_eq (Option.some.inj hk)) (by first | omega | simp)))
    go_ret
    rw [List.nil_append] at hO9
    exact ⟨_, rfl, hO9, hb9⟩
set_option maxHeartbeats 1000000 in
theorem cloneEv_c (v : Value) (xs : List EvD) (F : Nat → Prop) (w : World) (h : Rd tEv w F v xs) (hl : xs.length ≤ 1000) :
    Calls Tryz.prog 123 #[v] w fun q w' => ∃ u, q = .returned u ∧ Ow tEv 80 w' (fun k => w.heap.size ≤ k) u xs ∧ Below w.heap.size w w' := by
  obtain ⟨A, c, rfl, m0⟩ := h.shape
  cases A with
  | none =>
    have h0 : xs = [] := by
      obtain ⟨A', c', he, _, _, h3⟩ := h
      injection he with e1 e2 e3
      subst e1
      cases xs with
      | nil => rfl
      | cons x xs => obtain ⟨b, o, hb, _⟩ := h3 (by simp); cases hb
    subst h0
    have hnil : ∀ w, (binOp .eql 25 (.slice none 0 c) (.slice none 0 0)).run Tryz.prog w = .ok (.bool true) w := fun w => Lib.run_eql_slice_nil w 25 80 none 0 c 0 0 Tryz.underlying25
    go_enter Tryz.func123, Tryz.ntmps123
    go_wp2_with fail
    go_ret
    exact ⟨_, rfl, Ow.nil _ _ _ _, by repeat (first | exact Below.refl _ _ | refine balloc ?_ _)⟩
  | some a =>
    have hnil : ∀ w, (binOp .eql 25 (.slice (some a) xs.length c) (.slice none 0 0)).run Tryz.prog w = .ok (.bool false) w := fun w => Lib.run_eql_slice_nil w 25 80 (some a) xs.length c 0 0 Tryz.underlying25
    go_enter Tryz.func123, Tryz.ntmps123
    go_wp2_with (at_builtin; refine ow_concat rfl 25 rfl Tryz.underlying25 _ 56 info_ev rfl (by decide) (by decide) rfl (Ow.empty tEv (F := fun k => w.heap.size ≤ k) (heap_at rfl) (Nat.le_refl _)) rfl (h.below (balloc (Below.refl _ _) _)) (by first | omega | (simp; done) | (simp; omega)) (fun k => w.heap.size ≤ k) (fun _ hk => hk) (fun k hk => by first | omega | (simp at hk; omega)) ?_; intro v9 w9 hO9 hG9 hat9; have hb9 : Below w.heap.size w w9 := (balloc (Below.refl _ _) _).trans (grown_below (Below.refl _ _) hG9 (fun k hk => Nat.le_of_eq (Option.some.inj hk)) (by first | omega | simp)))
    go_ret
    rw [List.nil_append] at hO9
    exact ⟨_, rfl, hO9, hb9⟩
set_option maxHeartbeats 1000000 in
theorem cloneOut_c (v : Value) (xs : List OutD) (F : Nat → Prop) (w : World) (h : Rd tOut w F v xs) (hl : xs.length ≤ 1000) :
    Calls Tryz.prog 124 #[v] w fun q w' => ∃ u, q = .returned u ∧ Ow tOut 128 w' (fun k => w.heap.size ≤ k) u xs ∧ Below w.heap.size w w' := by
  obtain ⟨A, c, rfl, m0⟩ := h.shape
  cases A with
  | none =>
    have h0 : xs = [] := by
      obtain ⟨A', c', he, _, _, h3⟩ := h
      injection he with e1 e2 e3
      subst e1
      cases xs with
      | nil => rfl
      | cons x xs => obtain ⟨b, o, hb, _⟩ := h3 (by simp); cases hb
    subst h0
    have hnil : ∀ w, (binOp .eql 26 (.slice none 0 c) (.slice none 0 0)).run Tryz.prog w = .ok (.bool true) w := fun w => Lib.run_eql_slice_nil w 26 128 none 0 c 0 0 Tryz.underlying26
    go_enter Tryz.func124, Tryz.ntmps124
    go_wp2_with fail
    go_ret
    exact ⟨_, rfl, Ow.nil _ _ _ _, by repeat (first | exact Below.refl _ _ | refine balloc ?_ _)⟩
  | some a =>
    have hnil : ∀ w, (binOp .eql 26 (.slice (some a) xs.length c) (.slice none 0 0)).run Tryz.prog w = .ok (.bool false) w := fun w => Lib.run_eql_slice_nil w 26 128 (some a) xs.length c 0 0 Tryz.underlying26
    go_enter Tryz.func124, Tryz.ntmps124
    go_wp2_with (at_builtin; refine ow_concat rfl 26 rfl Tryz.underlying26 _ 40 info_out rfl (by decide) (by decide) rfl (Ow.empty tOut (F := fun k => w.heap.size ≤ k) (heap_at rfl) (Nat.le_refl _)) rfl (h.below (balloc (Below.refl _ _) _)) (by first | omega | (simp; done) | (simp; omega)) (fun k => w.heap.size ≤ k) (fun _ hk => hk) (fun k hk => by first | omega | (simp at hk; omega)) ?_; intro v9 w9 hO9 hG9 hat9; have hb9 : Below w.heap.size w w9 := (balloc (Below.refl _ _) _).trans (grown_below (Below.refl _ _) hG9 (fun k hk => Nat.le_of_eq (Option.some.inj hk)) (by first | omega | simp)))
    go_ret
    rw [List.nil_append] at hO9
    exact ⟨_, rfl, hO9, hb9⟩
end Go.Proofs.YtbcemldiahghcaaGreat
