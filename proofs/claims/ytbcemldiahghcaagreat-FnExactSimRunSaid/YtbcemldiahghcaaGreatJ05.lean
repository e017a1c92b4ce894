/- Texts joined: Spc1, Pure1, Pure2. -/
import Derived.Test.YtbcemldiahghcaaGreatJ03
import Derived.Test.YtbcemldiahghcaaGreatJ04
import Derived.Test.YtbcemldiahghcaaGreatJ00
namespace Go.Proofs.YtbcemldiahghcaaGreat
set_option linter.unusedVariables false
set_option linter.unusedSimpArgs false
set_option maxRecDepth 100000
open Go.RowKit
def outAgg (o : OutD) : Value := .agg #[.int .i64 o.time, .int .i64 o.proc, .int .i64 o.count, .int .i64 o.n, .int .i64 o.value]
set_option maxHeartbeats 2000000 in
theorem EventLess_c (a b : EvD) (w : World) : Calls Tryz.prog 98 #[evAgg a, evAgg b] w fun q w' => q = .returned (.bool (evLess a b)) ∧ Below w.heap.size w w' := by
  unfold evAgg
  by_cases h0 : a.time = b.time
  · have g0 : (a.time != b.time) = false := by simp [h0]
    by_cases h1 : a.to = b.to
    · have g1 : (a.to != b.to) = false := by simp [h1]
      by_cases h2 : a.from_ = b.from_
      · have g2 : (a.from_ != b.from_) = false := by simp [h2]
        by_cases h3 : a.count = b.count
        · have g3 : (a.count != b.count) = false := by simp [h3]
          by_cases h4 : a.n = b.n
          · have g4 : (a.n != b.n) = false := by simp [h4]
            by_cases h5 : a.kind = b.kind
            · have g5 : (a.kind != b.kind) = false := by simp [h5]
              have HE := hid (show evLess a b = decide (a.arg < b.arg) by simp [evLess, EvD.key, lexLt, h0, h1, h2, h3, h4, h5]; intro e; omega)
              clear h0 h1 h2 h3 h4 h5
              go_enter Tryz.func98, Tryz.ntmps98
              go_wp2_with fail
              go_ret
              exact ⟨by rw [HE.out]; rfl, by repeat (first | exact Below.refl _ _ | refine balloc ?_ _)⟩
            · have g5 : (a.kind != b.kind) = true := by simp [h5]
              have HE := hid (show evLess a b = decide (a.kind < b.kind) by simp [evLess, EvD.key, lexLt, h0, h1, h2, h3, h4, h5])
              clear h0 h1 h2 h3 h4 h5
              go_enter Tryz.func98, Tryz.ntmps98
              go_wp2_with fail
              go_ret
              exact ⟨by rw [HE.out]; rfl, by repeat (first | exact Below.refl _ _ | refine balloc ?_ _)⟩
          · have g4 : (a.n != b.n) = true := by simp [h4]
            have HE := hid (show evLess a b = decide (a.n < b.n) by simp [evLess, EvD.key, lexLt, h0, h1, h2, h3, h4])
            clear h0 h1 h2 h3 h4
            go_enter Tryz.func98, Tryz.ntmps98
            go_wp2_with fail
            go_ret
            exact ⟨by rw [HE.out]; rfl, by repeat (first | exact Below.refl _ _ | refine balloc ?_ _)⟩
        · have g3 : (a.count != b.count) = true := by simp [h3]
          have HE := hid (show evLess a b = decide (a.count < b.count) by simp [evLess, EvD.key, lexLt, h0, h1, h2, h3])
          clear h0 h1 h2 h3
          go_enter Tryz.func98, Tryz.ntmps98
          go_wp2_with fail
          go_ret
          exact ⟨by rw [HE.out]; rfl, by repeat (first | exact Below.refl _ _ | refine balloc ?_ _)⟩
      · have g2 : (a.from_ != b.from_) = true := by simp [h2]
        have HE := hid (show evLess a b = decide (a.from_ < b.from_) by simp [evLess, EvD.key, lexLt, h0, h1, h2])
        clear h0 h1 h2
        go_enter Tryz.func98, Tryz.ntmps98
        go_wp2_with fail
        go_ret
        exact ⟨by rw [HE.out]; rfl, by repeat (first | exact Below.refl _ _ | refine balloc ?_ _)⟩
    · have g1 : (a.to != b.to) = true := by simp [h1]
      have HE := hid (show evLess a b = decide (a.to < b.to) by simp [evLess, EvD.key, lexLt, h0, h1])
      clear h0 h1
      go_enter Tryz.func98, Tryz.ntmps98
      go_wp2_with fail
      go_ret
      exact ⟨by rw [HE.out]; rfl, by repeat (first | exact Below.refl _ _ | refine balloc ?_ _)⟩
  · have g0 : (a.time != b.time) = true := by simp [h0]
    have HE := hid (show evLess a b = decide (a.time < b.time) by simp [evLess, EvD.key, lexLt, h0])
    clear h0
    go_enter Tryz.func98, Tryz.ntmps98
    go_wp2_with fail
    go_ret
    exact ⟨by rw [HE.out]; rfl, by repeat (first | exact Below.refl _ _ | refine balloc ?_ _)⟩
set_option maxHeartbeats 2000000 in
theorem OutLess_c (a b : OutD) (w : World) : Calls Tryz.prog 101 #[outAgg a, outAgg b] w fun q w' => q = .returned (.bool (outLess a b)) ∧ Below w.heap.size w w' := by
  unfold outAgg
  by_cases h0 : a.time = b.time
  · have g0 : (a.time != b.time) = false := by simp [h0]
    by_cases h1 : a.proc = b.proc
    · have g1 : (a.proc != b.proc) = false := by simp [h1]
      by_cases h2 : a.count = b.count
      · have g2 : (a.count != b.count) = false := by simp [h2]
        by_cases h3 : a.n = b.n
        · have g3 : (a.n != b.n) = false := by simp [h3]
          have HE := hid (show outLess a b = decide (a.value < b.value) by simp [outLess, OutD.key, lexLt, h0, h1, h2, h3]; intro e; omega)
          clear h0 h1 h2 h3
          go_enter Tryz.func101, Tryz.ntmps101
          go_wp2_with fail
          go_ret
          exact ⟨by rw [HE.out]; rfl, by repeat (first | exact Below.refl _ _ | refine balloc ?_ _)⟩
        · have g3 : (a.n != b.n) = true := by simp [h3]
          have HE := hid (show outLess a b = decide (a.n < b.n) by simp [outLess, OutD.key, lexLt, h0, h1, h2, h3])
          clear h0 h1 h2 h3
          go_enter Tryz.func101, Tryz.ntmps101
          go_wp2_with fail
          go_ret
          exact ⟨by rw [HE.out]; rfl, by repeat (first | exact Below.refl _ _ | refine balloc ?_ _)⟩
      · have g2 : (a.count != b.count) = true := by simp [h2]
        have HE := hid (show outLess a b = decide (a.count < b.count) by simp [outLess, OutD.key, lexLt, h0, h1, h2])
        clear h0 h1 h2
        go_enter Tryz.func101, Tryz.ntmps101
        go_wp2_with fail
        go_ret
        exact ⟨by rw [HE.out]; rfl, by repeat (first | exact Below.refl _ _ | refine balloc ?_ _)⟩
    · have g1 : (a.proc != b.proc) = true := by simp [h1]
      have HE := hid (show outLess a b = decide (a.proc < b.proc) by simp [outLess, OutD.key, lexLt, h0, h1])
      clear h0 h1
      go_enter Tryz.func101, Tryz.ntmps101
      go_wp2_with fail
      go_ret
      exact ⟨by rw [HE.out]; rfl, by repeat (first | exact Below.refl _ _ | refine balloc ?_ _)⟩
  · have g0 : (a.time != b.time) = true := by simp [h0]
    have HE := hid (show outLess a b = decide (a.time < b.time) by simp [outLess, OutD.key, lexLt, h0])
    clear h0
    go_enter Tryz.func101, Tryz.ntmps101
    go_wp2_with fail
    go_ret
    exact ⟨by rw [HE.out]; rfl, by repeat (first | exact Below.refl _ _ | refine balloc ?_ _)⟩
end Go.Proofs.YtbcemldiahghcaaGreat

namespace Go.Proofs.YtbcemldiahghcaaGreat
structure RunOk (r : RunD) : Prop where
  x0 : 0 ≤ r.x
  x1 : r.x ≤ 999
  y0 : 0 ≤ r.y
  y1 : r.y ≤ 999
theorem RunOk.put {r : RunD} (h : RunOk r) (k v : Int) : RunOk (r.put k v) := by
  obtain ⟨h1, h2, h3, h4⟩ := h
  unfold RunD.put
  split
  · exact ⟨by show 0 ≤ v % 1000; omega, by show v % 1000 ≤ 999; omega, h3, h4⟩
  · exact ⟨h1, h2, by show 0 ≤ v % 1000; omega, by show v % 1000 ≤ 999; omega⟩
theorem RunD.put_sends (r : RunD) (k v : Int) : (r.put k v).sends = r.sends := by unfold RunD.put; split <;> rfl
theorem RunD.put_outs (r : RunD) (k v : Int) : (r.put k v).outs = r.outs := by unfold RunD.put; split <;> rfl
theorem doOp_ok {e : EvD} {c : Int} {o : OpD} {r : RunD} (h : RunOk r) : RunOk (doOp e c o r).1 := by
  unfold doOp
  repeat' (split <;> first | exact h | exact h.put _ _ | skip)
  all_goals exact ⟨h.x0, h.x1, h.y0, h.y1⟩
theorem doOp_len (e : EvD) (c : Int) (o : OpD) (r : RunD) : (doOp e c o r).1.sends.length ≤ r.sends.length + 1 ∧ (doOp e c o r).1.outs.length ≤ r.outs.length + 1 := by
  unfold doOp
  repeat' (split <;> first | (rw [RunD.put_sends, RunD.put_outs]; omega) | skip)
  all_goals simp
theorem doOp_skip {e : EvD} {c : Int} {o : OpD} {r : RunD} (h : opOk o = true) : 0 ≤ (doOp e c o r).2 ∧ (doOp e c o r).2 ≤ 8 := by
  unfold doOp
  unfold opOk at h
  repeat' split
  all_goals first
    | (simp; done)
    | (rename_i h5 _; simp [*, inn] at h; have := h.2.2.1; simp; omega)
theorem doOps_fuel (e : EvD) (c : Int) : ∀ (n m : Nat) (l : List OpD) (r : RunD), l.length ≤ n → l.length ≤ m → doOps e c n l r = doOps e c m l r := by
  intro n
  induction n with
  | zero => intro m l r h1 h2; cases l with
    | nil => cases m <;> rfl
    | cons a l => simp at h1
  | succ n ih => intro m l r h1 h2; cases l with
    | nil => cases m <;> rfl
    | cons a l =>
      cases m with
      | zero => simp at h2
      | succ m =>
        simp only [List.length_cons] at h1 h2
        simp only [doOps]
        exact ih m _ _ (by simp; omega) (by simp; omega)
theorem doOps_step (e : EvD) (c : Int) (n : Nat) {ops : List OpD} {k : Nat} (r : RunD) (h : k < ops.length) (hn : ops.length ≤ n) :
    doOps e c n (ops.drop k) r = doOps e c n (ops.drop (k + (doOp e c ops[k] r).2.toNat + 1)) (doOp e c ops[k] r).1 := by
  rw [List.drop_eq_getElem_cons h]
  cases n with
  | zero => omega
  | succ n =>
    simp only [doOps]
    rw [List.drop_drop]
    rw [show k + 1 + (doOp e c ops[k] r).2.toNat = k + (doOp e c ops[k] r).2.toNat + 1 by omega]
    exact doOps_fuel e c _ _ _ _ (by simp; omega) (by simp; omega)
theorem doOps_end (e : EvD) (c : Int) (n : Nat) {ops : List OpD} {k : Nat} (r : RunD) (h : ops.length ≤ k) : doOps e c n (ops.drop k) r = r := by
  rw [List.drop_eq_nil_of_le h]; cases n <;> rfl
theorem appsOk_one (a : AppD) : appsOk [a, ⟨[]⟩, ⟨[]⟩, ⟨[]⟩] = appOk a := by
  have h0 : appOk ⟨[]⟩ = true := by decide
  simp [appsOk, h0]
theorem appOk_rule {a : AppD} (h : appOk a = true) {i : Nat} (hi : i < a.rules.length) : opsOk a.rules[i].ops = true := by
  simp only [appOk, Bool.and_eq_true] at h
  have := List.all_eq_true.1 h.1.2 a.rules[i] (List.getElem_mem hi)
  simp only [ruleOk, Bool.and_eq_true] at this
  exact this.2
theorem opsOk_op {l : List OpD} (h : opsOk l = true) {i : Nat} (hi : i < l.length) : opOk l[i] = true := by
  simp only [opsOk, Bool.and_eq_true] at h
  exact List.all_eq_true.1 h.1.1.1 l[i] (List.getElem_mem hi)
theorem opsOk_len {l : List OpD} (h : opsOk l = true) : l.length ≤ 8 := by
  simp only [opsOk, Bool.and_eq_true, decide_eq_true_eq] at h; exact h.1.1.2
theorem appOk_len {a : AppD} (h : appOk a = true) : a.rules.length ≤ 4 := by
  simp only [appOk, Bool.and_eq_true, decide_eq_true_eq] at h; exact h.1.1
theorem doRules_snoc (e : EvD) (c : Int) (l : List RuleD) (r : RunD) {k : Nat} (h : k < l.length) :
    doRules e c (l.take (k + 1)) r = (if l[k].kind = e.kind then doOps e c l[k].ops.length l[k].ops (doRules e c (l.take k) r) else doRules e c (l.take k) r) := by
  rw [List.take_succ_eq_append_getElem h]
  unfold doRules
  rw [List.foldl_append]
  rfl
theorem stOk_run {s : StD} (h : stOk s = true) : RunOk ⟨s.x, s.y, [], []⟩ := by
  simp [stOk, inn] at h
  exact ⟨h.1.1.1, h.1.1.2, h.1.2.1, h.1.2.2⟩
end Go.Proofs.YtbcemldiahghcaaGreat

namespace Go.Proofs.YtbcemldiahghcaaGreat
set_option linter.unusedVariables false
set_option linter.unusedSimpArgs false
theorem doOp_sends (e : EvD) (c : Int) (o : OpD) (r : RunD) : (doOp e c o r).1.sends = if o.d = 6 ∧ e.time + o.c ≤ 40 then r.sends ++ [⟨e.time + o.c, o.a, e.to, c, (r.sends.length : Int), o.b, r.get o.e⟩] else r.sends := by
  unfold doOp
  by_cases h1 : o.d = 1
  · simp [h1, RunD.put_sends]
  by_cases h2 : o.d = 2
  · simp [h2, RunD.put_sends]
  by_cases h3 : o.d = 3
  · simp [h3, RunD.put_sends]
  by_cases h4 : o.d = 4
  · simp [h4, RunD.put_sends]
  by_cases h5 : o.d = 5
  · simp [h5]; split <;> rfl
  by_cases h6 : o.d = 6
  · simp [h6]; split <;> rfl
  by_cases h7 : o.d = 7
  · simp [h7]
  simp [h1, h2, h3, h4, h5, h6, h7]
theorem doOp_outs (e : EvD) (c : Int) (o : OpD) (r : RunD) : (doOp e c o r).1.outs = if o.d = 7 then r.outs ++ [⟨e.time, e.to, c, (r.outs.length : Int), r.get o.a⟩] else r.outs := by
  unfold doOp
  by_cases h1 : o.d = 1
  · simp [h1, RunD.put_outs]
  by_cases h2 : o.d = 2
  · simp [h2, RunD.put_outs]
  by_cases h3 : o.d = 3
  · simp [h3, RunD.put_outs]
  by_cases h4 : o.d = 4
  · simp [h4, RunD.put_outs]
  by_cases h5 : o.d = 5
  · simp [h5]; split <;> rfl
  by_cases h6 : o.d = 6
  · simp [h6]; split <;> rfl
  by_cases h7 : o.d = 7
  · simp [h7]
  simp [h1, h2, h3, h4, h5, h6, h7]
/-- What a rule that is being done keeps to. -/
structure Good (e : EvD) (c : Int) (r : RunD) : Prop where
  run : RunOk r
  sends : ∀ s ∈ r.sends, e.time < s.time ∧ s.from_ = e.to ∧ s.count = c ∧ s.time ≤ 40
  outs : ∀ o ∈ r.outs, o.time = e.time ∧ o.proc = e.to ∧ 0 ≤ o.value ∧ o.value ≤ 999
theorem RunOk.get {r : RunD} (h : RunOk r) (k : Int) : 0 ≤ r.get k ∧ r.get k ≤ 999 := by
  unfold RunD.get; split
  · exact ⟨h.x0, h.x1⟩
  · exact ⟨h.y0, h.y1⟩
theorem doOp_good {e : EvD} {c : Int} {o : OpD} {r : RunD} (h : Good e c r) (ho : opOk o = true) : Good e c (doOp e c o r).1 := by
  refine ⟨doOp_ok h.run, ?_, ?_⟩
  · rw [doOp_sends]
    split
    · rename_i h6
      intro s hs
      rcases List.mem_append.1 hs with hs | hs
      · exact h.sends s hs
      · simp only [List.mem_singleton] at hs
        subst hs
        have hc : 1 ≤ o.c ∧ o.c ≤ 40 := by
          have := ho
          simp [opOk, inn, h6.1] at this
          exact this.2.2.1
        exact ⟨by simp only; omega, rfl, rfl, h6.2⟩
    · exact h.sends
  · rw [doOp_outs]
    split
    · intro q hq
      rcases List.mem_append.1 hq with hq | hq
      · exact h.outs q hq
      · simp only [List.mem_singleton] at hq
        subst hq
        have := h.run.get o.a
        exact ⟨rfl, rfl, this.1, this.2⟩
    · exact h.outs
theorem doOps_good {e : EvD} {c : Int} : ∀ (n : Nat) (l : List OpD) (r : RunD), (∀ o ∈ l, opOk o = true) → Good e c r → Good e c (doOps e c n l r)
  | 0, _, r, _, h => by simpa [doOps] using h
  | n + 1, [], r, _, h => by simpa [doOps] using h
  | n + 1, o :: l, r, hl, h => by
    simp only [doOps]
    exact doOps_good n _ _ (fun q hq => hl q (List.mem_cons_of_mem _ (List.mem_of_mem_drop hq))) (doOp_good h (hl o (List.mem_cons_self ..)))
theorem cnt_cons (k : Int) (o : OpD) (l : List OpD) : cnt k (o :: l) = (if o.d = k then 1 else 0) + cnt k l := by
  unfold cnt; rw [List.filter_cons]; by_cases h : o.d = k <;> simp [h]; omega
theorem cnt_drop (k : Int) (l : List OpD) (j : Nat) : cnt k (l.drop j) ≤ cnt k l := ((List.drop_sublist j l).filter _).length_le
theorem doOps_cnt (e : EvD) (c : Int) : ∀ (n : Nat) (l : List OpD) (r : RunD), (doOps e c n l r).sends.length ≤ r.sends.length + cnt 6 l ∧ (doOps e c n l r).outs.length ≤ r.outs.length + cnt 7 l
  | 0, _, r => by simp [doOps]
  | n + 1, [], r => by simp [doOps]
  | n + 1, o :: l, r => by
    simp only [doOps]
    obtain ⟨h1, h2⟩ := doOps_cnt e c n (l.drop (doOp e c o r).2.toNat) (doOp e c o r).1
    have d6 := cnt_drop 6 l (doOp e c o r).2.toNat
    have d7 := cnt_drop 7 l (doOp e c o r).2.toNat
    have s6 : (doOp e c o r).1.sends.length ≤ r.sends.length + if o.d = 6 then 1 else 0 := by
      rw [doOp_sends]; split
      · rename_i h; simp [h.1]
      · omega
    have s7 : (doOp e c o r).1.outs.length ≤ r.outs.length + if o.d = 7 then 1 else 0 := by
      rw [doOp_outs]; split
      · simp
      · omega
    rw [cnt_cons, cnt_cons]
    constructor <;> omega
theorem ascR_iff (l : List RuleD) : ascR l = true ↔ l.Pairwise (fun a b => a.kind < b.kind) := by
  induction l with
  | nil => simp [ascR]
  | cons a l ih =>
    cases l with
    | nil => simp [ascR]
    | cons b l =>
      simp only [ascR, Bool.and_eq_true, decide_eq_true_eq, ih]
      constructor
      · rintro ⟨h1, h2⟩
        refine List.pairwise_cons.2 ⟨fun q hq => ?_, h2⟩
        rcases List.mem_cons.1 hq with rfl | hq
        · exact h1
        · have := (List.pairwise_cons.1 h2).1 q hq; omega
      · intro h
        obtain ⟨h1, h2⟩ := List.pairwise_cons.1 h
        exact ⟨h1 b (List.mem_cons_self ..), h2⟩
theorem doRules_none (e : EvD) (c : Int) : ∀ (l : List RuleD) (r : RunD), (∀ q ∈ l, q.kind ≠ e.kind) → doRules e c l r = r
  | [], r, _ => rfl
  | q :: l, r, h => by
    have h1 : doRules e c (q :: l) r = doRules e c l (if q.kind = e.kind then doOps e c q.ops.length q.ops r else r) := rfl
    rw [h1, if_neg (h q (List.mem_cons_self ..))]
    exact doRules_none e c l r (fun q' hq => h q' (List.mem_cons_of_mem _ hq))
theorem doRules_one (e : EvD) (c : Int) : ∀ (l : List RuleD) (r : RunD), ascR l = true → doRules e c l r = r ∨ ∃ q ∈ l, q.kind = e.kind ∧ doRules e c l r = doOps e c q.ops.length q.ops r
  | [], r, _ => Or.inl rfl
  | q :: l, r, h => by
    have hp := (ascR_iff _).1 h
    obtain ⟨h1, h2⟩ := List.pairwise_cons.1 hp
    have e1 : doRules e c (q :: l) r = doRules e c l (if q.kind = e.kind then doOps e c q.ops.length q.ops r else r) := rfl
    by_cases hk : q.kind = e.kind
    · right
      rw [e1, if_pos hk]
      exact ⟨q, List.mem_cons_self .., hk, doRules_none e c l _ (fun q' hq => by have := h1 q' hq; omega)⟩
    · rw [e1, if_neg hk]
      rcases doRules_one e c l r ((ascR_iff _).2 h2) with h3 | ⟨q', hq, hk', h3⟩
      · exact Or.inl h3
      · exact Or.inr ⟨q', List.mem_cons_of_mem _ hq, hk', h3⟩
/-- The bounds of what a process does. -/
theorem appRun_good (a : AppD) (s : StD) (e : EvD) :
    (∀ q ∈ (appRun a s e).2.1, e.time < q.time ∧ q.from_ = e.to ∧ q.count = s.c ∧ q.time ≤ 40) ∧
    (∀ o ∈ (appRun a s e).2.2, o.time = e.time ∧ o.proc = e.to ∧ 0 ≤ o.value ∧ o.value ≤ 999) ∧
    (appRun a s e).2.1.length ≤ 2 ∧ (appRun a s e).2.2.length ≤ 2 ∧
    0 ≤ (appRun a s e).1.x ∧ (appRun a s e).1.x ≤ 999 ∧ 0 ≤ (appRun a s e).1.y ∧ (appRun a s e).1.y ≤ 999 ∧
    ((appRun a s e).1.c = s.c + 1 ∨ ((appRun a s e).1.c = s.c ∧ (appRun a s e).2.1 = [] ∧ (appRun a s e).2.2 = []) ∨ appRun a s e = (st0, [], [])) := by
  unfold appRun
  split
  · rename_i h
    simp only [Bool.and_eq_true] at h
    obtain ⟨⟨ha, hs⟩, he⟩ := h
    have hr0 := stOk_run hs
    split
    · refine ⟨by simp, by simp, by simp, by simp, hr0.x0, hr0.x1, hr0.y0, hr0.y1, Or.inr (Or.inl ⟨rfl, rfl, rfl⟩)⟩
    · have hg0 : Good e s.c ⟨s.x, s.y, [], []⟩ := ⟨hr0, by simp, by simp⟩
      have hasc : ascR a.rules = true := by simp only [appOk, Bool.and_eq_true] at ha; exact ha.2
      have hall : ∀ q ∈ a.rules, opsOk q.ops = true := fun q hq => by
        simp only [appOk, Bool.and_eq_true] at ha
        have := List.all_eq_true.1 ha.1.2 q hq
        simp only [ruleOk, Bool.and_eq_true] at this
        exact this.2
      have key : Good e s.c (doRules e s.c a.rules ⟨s.x, s.y, [], []⟩) ∧ (doRules e s.c a.rules ⟨s.x, s.y, [], []⟩).sends.length ≤ 2 ∧ (doRules e s.c a.rules ⟨s.x, s.y, [], []⟩).outs.length ≤ 2 := by
        rcases doRules_one e s.c a.rules ⟨s.x, s.y, [], []⟩ hasc with h1 | ⟨q, hq, _, h1⟩
        · rw [h1]; exact ⟨hg0, by simp, by simp⟩
        · rw [h1]
          have ho := hall q hq
          have ho' := ho
          simp only [opsOk, Bool.and_eq_true, decide_eq_true_eq] at ho'
          obtain ⟨c1, c2⟩ := doOps_cnt e s.c q.ops.length q.ops ⟨s.x, s.y, [], []⟩
          simp only [List.length_nil] at c1 c2
          exact ⟨doOps_good _ _ _ (fun o ho2 => List.all_eq_true.1 ho'.1.1.1 o ho2) hg0, by omega, by omega⟩
      obtain ⟨kg, k1, k2⟩ := key
      exact ⟨kg.sends, kg.outs, k1, k2, kg.run.x0, kg.run.x1, kg.run.y0, kg.run.y1, Or.inl rfl⟩
  · refine ⟨by simp, by simp, by simp, by simp, by simp [st0], by simp [st0], by simp [st0], by simp [st0], Or.inr (Or.inr rfl)⟩
/-- The rules of a kind alone. -/
def kindOnly (a : AppD) (k : Int) : AppD := ⟨a.rules.filter (fun q => decide (q.kind = k))⟩
theorem appOk_kindOnly {a : AppD} (k : Int) (h : appOk a = true) : appOk (kindOnly a k) = true := by
  simp only [appOk, Bool.and_eq_true, decide_eq_true_eq, kindOnly] at h ⊢
  refine ⟨⟨?_, ?_⟩, ?_⟩
  · exact decide_eq_true (Nat.le_trans (List.length_filter_le _ _) h.1.1)
  · exact List.all_eq_true.2 fun q hq => List.all_eq_true.1 h.1.2 q (List.mem_filter.1 hq).1
  · exact (ascR_iff _).2 (((ascR_iff _).1 h.2).filter _)
theorem doRules_kindOnly (e : EvD) (c : Int) (a : AppD) (r : RunD) : doRules e c (kindOnly a e.kind).rules r = doRules e c a.rules r := by
  unfold doRules kindOnly
  rw [List.foldl_filter]
  congr 1
  funext r q
  by_cases h : q.kind = e.kind <;> simp [h]
theorem appRun_kindOnly (a : AppD) (s : StD) (e : EvD) (h : (appRun a s e).1 ≠ st0) : appRun (kindOnly a e.kind) s e = appRun a s e := by
  by_cases hv : (appOk a && stOk s && evOk e) = true
  · have hv2 := hv
    simp only [Bool.and_eq_true] at hv2
    have hv' : (appOk (kindOnly a e.kind) && stOk s && evOk e) = true := by simp [appOk_kindOnly e.kind hv2.1.1, hv2.1.2, hv2.2]
    unfold appRun
    rw [if_pos hv, if_pos hv', doRules_kindOnly]
  · exfalso; apply h; unfold appRun; rw [if_neg hv]
/-- A run at a time, and the same run later by m. -/
structure Sh (m : Int) (r r' : RunD) : Prop where
  x : r'.x = r.x
  y : r'.y = r.y
  outs : r'.outs.length = r.outs.length
  sends : r'.sends.map (fun q => (q.time, q.to, q.kind, q.arg)) = (r.sends.filter (fun q => decide (q.time + m ≤ 40))).map (fun q => (q.time + m, q.to, q.kind, q.arg))
theorem Sh.get {m : Int} {r r' : RunD} (h : Sh m r r') (k : Int) : r'.get k = r.get k := by unfold RunD.get; rw [h.x, h.y]
theorem Sh.put {m : Int} {r r' : RunD} (h : Sh m r r') (k v : Int) : Sh m (r.put k v) (r'.put k v) := by
  unfold RunD.put; split
  · exact ⟨rfl, h.y, h.outs, h.sends⟩
  · exact ⟨h.x, rfl, h.outs, h.sends⟩
theorem doOp_sh {e d : EvD} {m c : Int} (hm : 0 ≤ m) (ht : d.time = e.time + m) (h2 : d.to = e.to) (ha : d.arg = e.arg) (o : OpD) {r r' : RunD} (h : Sh m r r') :
    (doOp d c o r').2 = (doOp e c o r).2 ∧ Sh m (doOp e c o r).1 (doOp d c o r').1 := by
  unfold doOp
  by_cases h1 : o.d = 1
  · rw [if_pos h1, if_pos h1]; exact ⟨rfl, h.put _ _⟩
  by_cases h2' : o.d = 2
  · rw [if_neg h1, if_neg h1, if_pos h2', if_pos h2', h.get, h.get]; exact ⟨rfl, h.put _ _⟩
  by_cases h3 : o.d = 3
  · rw [if_neg h1, if_neg h1, if_neg h2', if_neg h2', if_pos h3, if_pos h3, h.get]; exact ⟨rfl, h.put _ _⟩
  by_cases h4 : o.d = 4
  · rw [if_neg h1, if_neg h1, if_neg h2', if_neg h2', if_neg h3, if_neg h3, if_pos h4, if_pos h4, ha]; exact ⟨rfl, h.put _ _⟩
  by_cases h5 : o.d = 5
  · rw [if_neg h1, if_neg h1, if_neg h2', if_neg h2', if_neg h3, if_neg h3, if_neg h4, if_neg h4, if_pos h5, if_pos h5, h.get]
    split
    · exact ⟨rfl, h⟩
    · exact ⟨rfl, h⟩
  by_cases h6 : o.d = 6
  · rw [if_neg h1, if_neg h1, if_neg h2', if_neg h2', if_neg h3, if_neg h3, if_neg h4, if_neg h4, if_neg h5, if_neg h5, if_pos h6, if_pos h6]
    by_cases hd : d.time + o.c ≤ 40
    · have he : e.time + o.c ≤ 40 := by omega
      rw [if_pos hd, if_pos he]
      refine ⟨rfl, h.x, h.y, h.outs, ?_⟩
      simp only [List.map_append, List.filter_append, h.sends]
      congr 1
      have hq : decide (e.time + o.c + m ≤ 40) = true := decide_eq_true (by omega)
      simp only [List.filter_cons, hq, if_true, List.filter_nil, List.map_cons, List.map_nil, h.get]
      rw [show d.time + o.c = e.time + o.c + m by omega]
    · rw [if_neg hd]
      by_cases he : e.time + o.c ≤ 40
      · rw [if_pos he]
        refine ⟨rfl, h.x, h.y, h.outs, ?_⟩
        have hq : decide (e.time + o.c + m ≤ 40) = false := decide_eq_false (by omega)
        simp only [List.filter_append, List.filter_cons, hq, List.filter_nil]
        simpa using h.sends
      · rw [if_neg he]; exact ⟨rfl, h⟩
  by_cases h7 : o.d = 7
  · rw [if_neg h1, if_neg h1, if_neg h2', if_neg h2', if_neg h3, if_neg h3, if_neg h4, if_neg h4, if_neg h5, if_neg h5, if_neg h6, if_neg h6, if_pos h7, if_pos h7]
    exact ⟨rfl, h.x, h.y, by simp [h.outs], h.sends⟩
  rw [if_neg h1, if_neg h1, if_neg h2', if_neg h2', if_neg h3, if_neg h3, if_neg h4, if_neg h4, if_neg h5, if_neg h5, if_neg h6, if_neg h6, if_neg h7, if_neg h7]
  exact ⟨rfl, h⟩
theorem doOps_sh {e d : EvD} {m c : Int} (hm : 0 ≤ m) (ht : d.time = e.time + m) (h2 : d.to = e.to) (ha : d.arg = e.arg) : ∀ (n : Nat) (l : List OpD) (r r' : RunD), Sh m r r' → Sh m (doOps e c n l r) (doOps d c n l r')
  | 0, _, r, r', h => by simpa [doOps] using h
  | n + 1, [], r, r', h => by simpa [doOps] using h
  | n + 1, o :: l, r, r', h => by
    simp only [doOps]
    obtain ⟨k1, k2⟩ := doOp_sh (c := c) hm ht h2 ha o h
    rw [k1]
    exact doOps_sh hm ht h2 ha n _ _ _ k2
theorem doRules_sh {e d : EvD} {m c : Int} (hm : 0 ≤ m) (ht : d.time = e.time + m) (h2 : d.to = e.to) (ha : d.arg = e.arg) (hk : d.kind = e.kind) : ∀ (l : List RuleD) (r r' : RunD), Sh m r r' → Sh m (doRules e c l r) (doRules d c l r')
  | [], r, r', h => h
  | q :: l, r, r', h => by
    have e1 : doRules e c (q :: l) r = doRules e c l (if q.kind = e.kind then doOps e c q.ops.length q.ops r else r) := rfl
    have e2 : doRules d c (q :: l) r' = doRules d c l (if q.kind = d.kind then doOps d c q.ops.length q.ops r' else r') := rfl
    rw [e1, e2, hk]
    refine doRules_sh hm ht h2 ha hk l _ _ ?_
    split
    · exact doOps_sh hm ht h2 ha _ _ _ _ h
    · exact h
/-- The same event later: the same, and what is sent later by as much. -/
theorem appRun_shift (a : AppD) (s : StD) (e d : EvD) (m : Int) (hd : d = { e with time := e.time + m }) (hm : 0 ≤ m) (h40 : d.time ≤ 40) (h : (appOk a && stOk s && evOk e) = true) :
    (appRun a s d).1 = (appRun a s e).1 ∧ (appRun a s d).2.2.length = (appRun a s e).2.2.length ∧
    (appRun a s d).2.1.map (fun q => (q.time, q.to, q.kind, q.arg)) = ((appRun a s e).2.1.filter (fun q => decide (q.time + m ≤ 40))).map (fun q => (q.time + m, q.to, q.kind, q.arg)) := by
  have h' : (appOk a && stOk s && evOk d) = true := by
    subst hd
    simp only [Bool.and_eq_true] at h ⊢
    refine ⟨h.1, ?_⟩
    have h3 := h.2
    simp only at h40
    simp only [evOk, inn, Bool.and_eq_true, decide_eq_true_eq] at h3 ⊢
    omega
  have ht : d.time = e.time + m := by rw [hd]
  have h2 : d.to = e.to := by rw [hd]
  have ha : d.arg = e.arg := by rw [hd]
  have hk : d.kind = e.kind := by rw [hd]
  unfold appRun
  rw [if_pos h, if_pos h']
  split
  · exact ⟨rfl, rfl, by simp⟩
  · have := doRules_sh (c := s.c) hm ht h2 ha hk a.rules ⟨s.x, s.y, [], []⟩ ⟨s.x, s.y, [], []⟩ ⟨rfl, rfl, rfl, rfl⟩
    exact ⟨by simp [this.x, this.y], this.outs, this.sends⟩
end Go.Proofs.YtbcemldiahghcaaGreat
