/- Plain laws of what an op does. -/
import Derived.Test.YtmnccekljombmaaMod
namespace Go.Proofs.Ytmnccekljombmaa
structure RunOk (r : RunD) : Prop where
  x0 : 0 ≤ r.x
  x1 : r.x ≤ 999
  y0 : 0 ≤ r.y
  y1 : r.y ≤ 999
theorem RunOk.put {r : RunD} (h : RunOk r) (k v : Int) : RunOk (r.put k v) := by
  obtain ⟨h1, h2, h3, h4⟩ := h
  unfold RunD.put
  split
  · exact ⟨by show 0 ≤ v % 1000; omega, by show v % 1000 ≤ 999; omega, h3, h4⟩
  · exact ⟨h1, h2, by show 0 ≤ v % 1000; omega, by show v % 1000 ≤ 999; omega⟩
theorem RunD.put_sends (r : RunD) (k v : Int) : (r.put k v).sends = r.sends := by unfold RunD.put; split <;> rfl
theorem RunD.put_outs (r : RunD) (k v : Int) : (r.put k v).outs = r.outs := by unfold RunD.put; split <;> rfl
theorem doOp_ok {e : EvD} {c : Int} {o : OpD} {r : RunD} (h : RunOk r) : RunOk (doOp e c o r).1 := by
  unfold doOp
  repeat' (split <;> first | exact h | exact h.put _ _ | skip)
  all_goals exact ⟨h.x0, h.x1, h.y0, h.y1⟩
theorem doOp_len (e : EvD) (c : Int) (o : OpD) (r : RunD) : (doOp e c o r).1.sends.length ≤ r.sends.length + 1 ∧ (doOp e c o r).1.outs.length ≤ r.outs.length + 1 := by
  unfold doOp
  repeat' (split <;> first | (rw [RunD.put_sends, RunD.put_outs]; omega) | skip)
  all_goals simp
theorem doOp_skip {e : EvD} {c : Int} {o : OpD} {r : RunD} (h : opOk o = true) : 0 ≤ (doOp e c o r).2 ∧ (doOp e c o r).2 ≤ 8 := by
  unfold doOp
  unfold opOk at h
  repeat' split
  all_goals first
    | (simp; done)
    | (rename_i h5 _; simp [*, inn] at h; have := h.2.2.1; simp; omega)
theorem doOps_fuel (e : EvD) (c : Int) : ∀ (n m : Nat) (l : List OpD) (r : RunD), l.length ≤ n → l.length ≤ m → doOps e c n l r = doOps e c m l r := by
  intro n
  induction n with
  | zero => intro m l r h1 h2; cases l with
    | nil => cases m <;> rfl
    | cons a l => simp at h1
  | succ n ih => intro m l r h1 h2; cases l with
    | nil => cases m <;> rfl
    | cons a l =>
      cases m with
      | zero => simp at h2
      | succ m =>
        simp only [List.length_cons] at h1 h2
        simp only [doOps]
        exact ih m _ _ (by simp; omega) (by simp; omega)
theorem doOps_step (e : EvD) (c : Int) (n : Nat) {ops : List OpD} {k : Nat} (r : RunD) (h : k < ops.length) (hn : ops.length ≤ n) :
    doOps e c n (ops.drop k) r = doOps e c n (ops.drop (k + (doOp e c ops[k] r).2.toNat + 1)) (doOp e c ops[k] r).1 := by
  rw [List.drop_eq_getElem_cons h]
  cases n with
  | zero => omega
  | succ n =>
    simp only [doOps]
    rw [List.drop_drop]
    rw [show k + 1 + (doOp e c ops[k] r).2.toNat = k + (doOp e c ops[k] r).2.toNat + 1 by omega]
    exact doOps_fuel e c _ _ _ _ (by simp; omega) (by simp; omega)
theorem doOps_end (e : EvD) (c : Int) (n : Nat) {ops : List OpD} {k : Nat} (r : RunD) (h : ops.length ≤ k) : doOps e c n (ops.drop k) r = r := by
  rw [List.drop_eq_nil_of_le h]; cases n <;> rfl
theorem appsOk_one (a : AppD) : appsOk [a, ⟨[]⟩, ⟨[]⟩, ⟨[]⟩] = appOk a := by
  have h0 : appOk ⟨[]⟩ = true := by decide
  simp [appsOk, h0]
theorem appOk_rule {a : AppD} (h : appOk a = true) {i : Nat} (hi : i < a.rules.length) : opsOk a.rules[i].ops = true := by
  simp only [appOk, Bool.and_eq_true] at h
  have := List.all_eq_true.1 h.1.2 a.rules[i] (List.getElem_mem hi)
  simp only [ruleOk, Bool.and_eq_true] at this
  exact this.2
theorem opsOk_op {l : List OpD} (h : opsOk l = true) {i : Nat} (hi : i < l.length) : opOk l[i] = true := by
  simp only [opsOk, Bool.and_eq_true] at h
  exact List.all_eq_true.1 h.1.1.1 l[i] (List.getElem_mem hi)
theorem opsOk_len {l : List OpD} (h : opsOk l = true) : l.length ≤ 8 := by
  simp only [opsOk, Bool.and_eq_true, decide_eq_true_eq] at h; exact h.1.1.2
theorem appOk_len {a : AppD} (h : appOk a = true) : a.rules.length ≤ 4 := by
  simp only [appOk, Bool.and_eq_true, decide_eq_true_eq] at h; exact h.1.1
theorem doRules_snoc (e : EvD) (c : Int) (l : List RuleD) (r : RunD) {k : Nat} (h : k < l.length) :
    doRules e c (l.take (k + 1)) r = (if l[k].kind = e.kind then doOps e c l[k].ops.length l[k].ops (doRules e c (l.take k) r) else doRules e c (l.take k) r) := by
  rw [List.take_succ_eq_append_getElem h]
  unfold doRules
  rw [List.foldl_append]
  rfl
theorem stOk_run {s : StD} (h : stOk s = true) : RunOk ⟨s.x, s.y, [], []⟩ := by
  simp [stOk, inn] at h
  exact ⟨h.1.1.1, h.1.1.2, h.1.2.1, h.1.2.2⟩
end Go.Proofs.Ytmnccekljombmaa
