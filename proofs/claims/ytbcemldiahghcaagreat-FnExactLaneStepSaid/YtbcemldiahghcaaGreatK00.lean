/- Texts joined: Mod, Pure1, Pure2, Pure3. -/
namespace Go.Proofs.YtbcemldiahghcaaGreat

structure OpD where
  d : Int
  a : Int
  b : Int
  c : Int
  e : Int
  deriving DecidableEq, Inhabited
structure RuleD where
  kind : Int
  ops : List OpD
  deriving DecidableEq, Inhabited
structure AppD where
  rules : List RuleD
  deriving DecidableEq, Inhabited
structure StD where
  x : Int
  y : Int
  c : Int
  deriving DecidableEq, Inhabited
structure EvD where
  time : Int
  to : Int
  from_ : Int
  count : Int
  n : Int
  kind : Int
  arg : Int
  deriving DecidableEq, Inhabited
structure OutD where
  time : Int
  proc : Int
  count : Int
  n : Int
  value : Int
  deriving DecidableEq, Inhabited

def st0 : StD := ⟨0, 0, 0⟩

/-- v within low..high. -/
def inn (v l h : Int) : Bool := decide (l ≤ v) && decide (v ≤ h)
def opOk (o : OpD) : Bool :=
  if o.d = 1 ∨ o.d = 3 then inn o.a 0 1 && (inn o.b 0 999 && (o.c == 0 && o.e == 0))
  else if o.d = 2 then inn o.a 0 1 && (inn o.b 0 1 && (o.c == 0 && o.e == 0))
  else if o.d = 4 ∨ o.d = 7 then inn o.a 0 1 && (o.b == 0 && (o.c == 0 && o.e == 0))
  else if o.d = 5 then inn o.a 0 1 && (inn o.b 0 999 && (inn o.c 1 8 && o.e == 0))
  else if o.d = 6 then inn o.a 0 3 && (inn o.b 0 3 && (inn o.c 1 40 && inn o.e 0 1))
  else false

def cnt (k : Int) (l : List OpD) : Nat := (l.filter fun o => decide (o.d = k)).length
/-- a rule's ops are in form, few enough, at most two sends and two outs. -/
def opsOk (l : List OpD) : Bool := l.all opOk && decide (l.length ≤ 8) && decide (cnt 6 l ≤ 2) && decide (cnt 7 l ≤ 2)
def ruleOk (r : RuleD) : Bool := inn r.kind 0 3 && opsOk r.ops
/-- rules ascending by kind -/
def ascR : List RuleD → Bool
  | [] => true
  | [_] => true
  | a :: b :: l => decide (a.kind < b.kind) && ascR (b :: l)
theorem ascR_snoc (l : List RuleD) (a : RuleD) : ascR (l ++ [a]) = (ascR l && match l.getLast? with | none => true | some b => decide (b.kind < a.kind)) := by
  induction l with
  | nil => rfl
  | cons x l ih =>
    cases l with
    | nil => simp [ascR]
    | cons y l =>
      simp only [List.cons_append, ascR] at ih ⊢
      rw [ih, Bool.and_assoc]
      simp [List.getLast?_cons_cons]
def appOk (a : AppD) : Bool := decide (a.rules.length ≤ 4) && a.rules.all ruleOk && ascR a.rules
def appsOk (l : List AppD) : Bool := decide (l.length = 4) && l.all appOk

def stOk (s : StD) : Bool := inn s.x 0 999 && inn s.y 0 999 && inn s.c 0 12
def evOk (e : EvD) : Bool := inn e.time 0 40 && inn e.to 0 3 && inn e.from_ (-1) 3 && inn e.count 0 12 && inn e.n 0 3 && inn e.kind 0 3 && inn e.arg 0 999
def outOk (o : OutD) : Bool := inn o.time 0 40 && inn o.proc 0 3 && inn o.count 0 11 && inn o.n 0 1 && inn o.value 0 999

/-- a rule that is being done -/
structure RunD where
  x : Int
  y : Int
  sends : List EvD
  outs : List OutD
  deriving DecidableEq, Inhabited
def RunD.get (r : RunD) (k : Int) : Int := if k = 0 then r.x else r.y
def RunD.put (r : RunD) (k v : Int) : RunD := if k = 0 then { r with x := v % 1000 } else { r with y := v % 1000 }
/-- one op: the run behind it, and how many ops are left out -/
def doOp (e : EvD) (c : Int) (o : OpD) (r : RunD) : RunD × Int :=
  if o.d = 1 then (r.put o.a o.b, 0)
  else if o.d = 2 then (r.put o.a (r.get o.a + r.get o.b), 0)
  else if o.d = 3 then (r.put o.a (r.get o.a + o.b), 0)
  else if o.d = 4 then (r.put o.a e.arg, 0)
  else if o.d = 5 then (if r.get o.a < o.b then (r, o.c) else (r, 0))
  else if o.d = 6 then (if e.time + o.c ≤ 40 then ({ r with sends := r.sends ++ [⟨e.time + o.c, o.a, e.to, c, (r.sends.length : Int), o.b, r.get o.e⟩] }, 0) else (r, 0))
  else if o.d = 7 then ({ r with outs := r.outs ++ [⟨e.time, e.to, c, (r.outs.length : Int), r.get o.a⟩] }, 0)
  else (r, 0)
/-- the ops from place k on (n: how many rounds at most) -/
def doOps (e : EvD) (c : Int) : Nat → List OpD → RunD → RunD
  | 0, _, r => r
  | _, [], r => r
  | n + 1, o :: l, r => doOps e c n (l.drop (doOp e c o r).2.toNat) (doOp e c o r).1
def doRules (e : EvD) (c : Int) (l : List RuleD) (r : RunD) : RunD :=
  l.foldl (fun r q => if q.kind = e.kind then doOps e c q.ops.length q.ops r else r) r
def appRun (a : AppD) (s : StD) (e : EvD) : StD × List EvD × List OutD :=
  if appOk a && stOk s && evOk e then
    if s.c = 12 then (s, [], [])
    else
      let r := doRules e s.c a.rules ⟨s.x, s.y, [], []⟩
      (⟨r.x, r.y, s.c + 1⟩, r.sends, r.outs)
  else (st0, [], [])

end Go.Proofs.YtbcemldiahghcaaGreat

namespace Go.Proofs.YtbcemldiahghcaaGreat
structure RunOk (r : RunD) : Prop where
  x0 : 0 ≤ r.x
  x1 : r.x ≤ 999
  y0 : 0 ≤ r.y
  y1 : r.y ≤ 999
theorem RunOk.put {r : RunD} (h : RunOk r) (k v : Int) : RunOk (r.put k v) := by
  obtain ⟨h1, h2, h3, h4⟩ := h
  unfold RunD.put
  split
  · exact ⟨by show 0 ≤ v % 1000; omega, by show v % 1000 ≤ 999; omega, h3, h4⟩
  · exact ⟨h1, h2, by show 0 ≤ v % 1000; omega, by show v % 1000 ≤ 999; omega⟩
theorem RunD.put_sends (r : RunD) (k v : Int) : (r.put k v).sends = r.sends := by unfold RunD.put; split <;> rfl
theorem RunD.put_outs (r : RunD) (k v : Int) : (r.put k v).outs = r.outs := by unfold RunD.put; split <;> rfl
theorem doOp_ok {e : EvD} {c : Int} {o : OpD} {r : RunD} (h : RunOk r) : RunOk (doOp e c o r).1 := by
  unfold doOp
  repeat' (split <;> first | exact h | exact h.put _ _ | skip)
  all_goals exact ⟨h.x0, h.x1, h.y0, h.y1⟩
theorem doOp_len (e : EvD) (c : Int) (o : OpD) (r : RunD) : (doOp e c o r).1.sends.length ≤ r.sends.length + 1 ∧ (doOp e c o r).1.outs.length ≤ r.outs.length + 1 := by
  unfold doOp
  repeat' (split <;> first | (rw [RunD.put_sends, RunD.put_outs]; omega) | skip)
  all_goals simp
theorem doOp_skip {e : EvD} {c : Int} {o : OpD} {r : RunD} (h : opOk o = true) : 0 ≤ (doOp e c o r).2 ∧ (doOp e c o r).2 ≤ 8 := by
  unfold doOp
  unfold opOk at h
  repeat' split
  all_goals first
    | (simp; done)
    | (rename_i h5 _; simp [*, inn] at h; have := h.2.2.1; simp; omega)
theorem doOps_fuel (e : EvD) (c : Int) : ∀ (n m : Nat) (l : List OpD) (r : RunD), l.length ≤ n → l.length ≤ m → doOps e c n l r = doOps e c m l r := by
  intro n
  induction n with
  | zero => intro m l r h1 h2; cases l with
    | nil => cases m <;> rfl
    | cons a l => simp at h1
  | succ n ih => intro m l r h1 h2; cases l with
    | nil => cases m <;> rfl
    | cons a l =>
      cases m with
      | zero => simp at h2
      | succ m =>
        simp only [List.length_cons] at h1 h2
        simp only [doOps]
        exact ih m _ _ (by simp; omega) (by simp; omega)
theorem doOps_step (e : EvD) (c : Int) (n : Nat) {ops : List OpD} {k : Nat} (r : RunD) (h : k < ops.length) (hn : ops.length ≤ n) :
    doOps e c n (ops.drop k) r = doOps e c n (ops.drop (k + (doOp e c ops[k] r).2.toNat + 1)) (doOp e c ops[k] r).1 := by
  rw [List.drop_eq_getElem_cons h]
  cases n with
  | zero => omega
  | succ n =>
    simp only [doOps]
    rw [List.drop_drop]
    rw [show k + 1 + (doOp e c ops[k] r).2.toNat = k + (doOp e c ops[k] r).2.toNat + 1 by omega]
    exact doOps_fuel e c _ _ _ _ (by simp; omega) (by simp; omega)
theorem doOps_end (e : EvD) (c : Int) (n : Nat) {ops : List OpD} {k : Nat} (r : RunD) (h : ops.length ≤ k) : doOps e c n (ops.drop k) r = r := by
  rw [List.drop_eq_nil_of_le h]; cases n <;> rfl
theorem appsOk_one (a : AppD) : appsOk [a, ⟨[]⟩, ⟨[]⟩, ⟨[]⟩] = appOk a := by
  have h0 : appOk ⟨[]⟩ = true := by decide
  simp [appsOk, h0]
theorem appOk_rule {a : AppD} (h : appOk a = true) {i : Nat} (hi : i < a.rules.length) : opsOk a.rules[i].ops = true := by
  simp only [appOk, Bool.and_eq_true] at h
  have := List.all_eq_true.1 h.1.2 a.rules[i] (List.getElem_mem hi)
  simp only [ruleOk, Bool.and_eq_true] at this
  exact this.2
theorem opsOk_op {l : List OpD} (h : opsOk l = true) {i : Nat} (hi : i < l.length) : opOk l[i] = true := by
  simp only [opsOk, Bool.and_eq_true] at h
  exact List.all_eq_true.1 h.1.1.1 l[i] (List.getElem_mem hi)
theorem opsOk_len {l : List OpD} (h : opsOk l = true) : l.length ≤ 8 := by
  simp only [opsOk, Bool.and_eq_true, decide_eq_true_eq] at h; exact h.1.1.2
theorem appOk_len {a : AppD} (h : appOk a = true) : a.rules.length ≤ 4 := by
  simp only [appOk, Bool.and_eq_true, decide_eq_true_eq] at h; exact h.1.1
theorem doRules_snoc (e : EvD) (c : Int) (l : List RuleD) (r : RunD) {k : Nat} (h : k < l.length) :
    doRules e c (l.take (k + 1)) r = (if l[k].kind = e.kind then doOps e c l[k].ops.length l[k].ops (doRules e c (l.take k) r) else doRules e c (l.take k) r) := by
  rw [List.take_succ_eq_append_getElem h]
  unfold doRules
  rw [List.foldl_append]
  rfl
theorem stOk_run {s : StD} (h : stOk s = true) : RunOk ⟨s.x, s.y, [], []⟩ := by
  simp [stOk, inn] at h
  exact ⟨h.1.1.1, h.1.1.2, h.1.2.1, h.1.2.2⟩
end Go.Proofs.YtbcemldiahghcaaGreat

namespace Go.Proofs.YtbcemldiahghcaaGreat
set_option linter.unusedVariables false
set_option linter.unusedSimpArgs false
theorem doOp_sends (e : EvD) (c : Int) (o : OpD) (r : RunD) : (doOp e c o r).1.sends = if o.d = 6 ∧ e.time + o.c ≤ 40 then r.sends ++ [⟨e.time + o.c, o.a, e.to, c, (r.sends.length : Int), o.b, r.get o.e⟩] else r.sends := by
  unfold doOp
  by_cases h1 : o.d = 1
  · simp [h1, RunD.put_sends]
  by_cases h2 : o.d = 2
  · simp [h2, RunD.put_sends]
  by_cases h3 : o.d = 3
  · simp [h3, RunD.put_sends]
  by_cases h4 : o.d = 4
  · simp [h4, RunD.put_sends]
  by_cases h5 : o.d = 5
  · simp [h5]; split <;> rfl
  by_cases h6 : o.d = 6
  · simp [h6]; split <;> rfl
  by_cases h7 : o.d = 7
  · simp [h7]
  simp [h1, h2, h3, h4, h5, h6, h7]
theorem doOp_outs (e : EvD) (c : Int) (o : OpD) (r : RunD) : (doOp e c o r).1.outs = if o.d = 7 then r.outs ++ [⟨e.time, e.to, c, (r.outs.length : Int), r.get o.a⟩] else r.outs := by
  unfold doOp
  by_cases h1 : o.d = 1
  · simp [h1, RunD.put_outs]
  by_cases h2 : o.d = 2
  · simp [h2, RunD.put_outs]
  by_cases h3 : o.d = 3
  · simp [h3, RunD.put_outs]
  by_cases h4 : o.d = 4
  · simp [h4, RunD.put_outs]
  by_cases h5 : o.d = 5
  · simp [h5]; split <;> rfl
  by_cases h6 : o.d = 6
  · simp [h6]; split <;> rfl
  by_cases h7 : o.d = 7
  · simp [h7]
  simp [h1, h2, h3, h4, h5, h6, h7]
/-- What a rule that is being done keeps to. -/
structure Good (e : EvD) (c : Int) (r : RunD) : Prop where
  run : RunOk r
  sends : ∀ s ∈ r.sends, e.time < s.time ∧ s.from_ = e.to ∧ s.count = c ∧ s.time ≤ 40
  outs : ∀ o ∈ r.outs, o.time = e.time ∧ o.proc = e.to ∧ 0 ≤ o.value ∧ o.value ≤ 999
theorem RunOk.get {r : RunD} (h : RunOk r) (k : Int) : 0 ≤ r.get k ∧ r.get k ≤ 999 := by
  unfold RunD.get; split
  · exact ⟨h.x0, h.x1⟩
  · exact ⟨h.y0, h.y1⟩
theorem doOp_good {e : EvD} {c : Int} {o : OpD} {r : RunD} (h : Good e c r) (ho : opOk o = true) : Good e c (doOp e c o r).1 := by
  refine ⟨doOp_ok h.run, ?_, ?_⟩
  · rw [doOp_sends]
    split
    · rename_i h6
      intro s hs
      rcases List.mem_append.1 hs with hs | hs
      · exact h.sends s hs
      · simp only [List.mem_singleton] at hs
        subst hs
        have hc : 1 ≤ o.c ∧ o.c ≤ 40 := by
          have := ho
          simp [opOk, inn, h6.1] at this
          exact this.2.2.1
        exact ⟨by simp only; omega, rfl, rfl, h6.2⟩
    · exact h.sends
  · rw [doOp_outs]
    split
    · intro q hq
      rcases List.mem_append.1 hq with hq | hq
      · exact h.outs q hq
      · simp only [List.mem_singleton] at hq
        subst hq
        have := h.run.get o.a
        exact ⟨rfl, rfl, this.1, this.2⟩
    · exact h.outs
theorem doOps_good {e : EvD} {c : Int} : ∀ (n : Nat) (l : List OpD) (r : RunD), (∀ o ∈ l, opOk o = true) → Good e c r → Good e c (doOps e c n l r)
  | 0, _, r, _, h => by simpa [doOps] using h
  | n + 1, [], r, _, h => by simpa [doOps] using h
  | n + 1, o :: l, r, hl, h => by
    simp only [doOps]
    exact doOps_good n _ _ (fun q hq => hl q (List.mem_cons_of_mem _ (List.mem_of_mem_drop hq))) (doOp_good h (hl o (List.mem_cons_self ..)))
theorem cnt_cons (k : Int) (o : OpD) (l : List OpD) : cnt k (o :: l) = (if o.d = k then 1 else 0) + cnt k l := by
  unfold cnt; rw [List.filter_cons]; by_cases h : o.d = k <;> simp [h]; omega
theorem cnt_drop (k : Int) (l : List OpD) (j : Nat) : cnt k (l.drop j) ≤ cnt k l := ((List.drop_sublist j l).filter _).length_le
theorem doOps_cnt (e : EvD) (c : Int) : ∀ (n : Nat) (l : List OpD) (r : RunD), (doOps e c n l r).sends.length ≤ r.sends.length + cnt 6 l ∧ (doOps e c n l r).outs.length ≤ r.outs.length + cnt 7 l
  | 0, _, r => by simp [doOps]
  | n + 1, [], r => by simp [doOps]
  | n + 1, o :: l, r => by
    simp only [doOps]
    obtain ⟨h1, h2⟩ := doOps_cnt e c n (l.drop (doOp e c o r).2.toNat) (doOp e c o r).1
    have d6 := cnt_drop 6 l (doOp e c o r).2.toNat
    have d7 := cnt_drop 7 l (doOp e c o r).2.toNat
    have s6 : (doOp e c o r).1.sends.length ≤ r.sends.length + if o.d = 6 then 1 else 0 := by
      rw [doOp_sends]; split
      · rename_i h; simp [h.1]
      · omega
    have s7 : (doOp e c o r).1.outs.length ≤ r.outs.length + if o.d = 7 then 1 else 0 := by
      rw [doOp_outs]; split
      · simp
      · omega
    rw [cnt_cons, cnt_cons]
    constructor <;> omega
theorem ascR_iff (l : List RuleD) : ascR l = true ↔ l.Pairwise (fun a b => a.kind < b.kind) := by
  induction l with
  | nil => simp [ascR]
  | cons a l ih =>
    cases l with
    | nil => simp [ascR]
    | cons b l =>
      simp only [ascR, Bool.and_eq_true, decide_eq_true_eq, ih]
      constructor
      · rintro ⟨h1, h2⟩
        refine List.pairwise_cons.2 ⟨fun q hq => ?_, h2⟩
        rcases List.mem_cons.1 hq with rfl | hq
        · exact h1
        · have := (List.pairwise_cons.1 h2).1 q hq; omega
      · intro h
        obtain ⟨h1, h2⟩ := List.pairwise_cons.1 h
        exact ⟨h1 b (List.mem_cons_self ..), h2⟩
theorem doRules_none (e : EvD) (c : Int) : ∀ (l : List RuleD) (r : RunD), (∀ q ∈ l, q.kind ≠ e.kind) → doRules e c l r = r
  | [], r, _ => rfl
  | q :: l, r, h => by
    have h1 : doRules e c (q :: l) r = doRules e c l (if q.kind = e.kind then doOps e c q.ops.length q.ops r else r) := rfl
    rw [h1, if_neg (h q (List.mem_cons_self ..))]
    exact doRules_none e c l r (fun q' hq => h q' (List.mem_cons_of_mem _ hq))
theorem doRules_one (e : EvD) (c : Int) : ∀ (l : List RuleD) (r : RunD), ascR l = true → doRules e c l r = r ∨ ∃ q ∈ l, q.kind = e.kind ∧ doRules e c l r = doOps e c q.ops.length q.ops r
  | [], r, _ => Or.inl rfl
  | q :: l, r, h => by
    have hp := (ascR_iff _).1 h
    obtain ⟨h1, h2⟩ := List.pairwise_cons.1 hp
    have e1 : doRules e c (q :: l) r = doRules e c l (if q.kind = e.kind then doOps e c q.ops.length q.ops r else r) := rfl
    by_cases hk : q.kind = e.kind
    · right
      rw [e1, if_pos hk]
      exact ⟨q, List.mem_cons_self .., hk, doRules_none e c l _ (fun q' hq => by have := h1 q' hq; omega)⟩
    · rw [e1, if_neg hk]
      rcases doRules_one e c l r ((ascR_iff _).2 h2) with h3 | ⟨q', hq, hk', h3⟩
      · exact Or.inl h3
      · exact Or.inr ⟨q', List.mem_cons_of_mem _ hq, hk', h3⟩
/-- The bounds of what a process does. -/
theorem appRun_good (a : AppD) (s : StD) (e : EvD) :
    (∀ q ∈ (appRun a s e).2.1, e.time < q.time ∧ q.from_ = e.to ∧ q.count = s.c ∧ q.time ≤ 40) ∧
    (∀ o ∈ (appRun a s e).2.2, o.time = e.time ∧ o.proc = e.to ∧ 0 ≤ o.value ∧ o.value ≤ 999) ∧
    (appRun a s e).2.1.length ≤ 2 ∧ (appRun a s e).2.2.length ≤ 2 ∧
    0 ≤ (appRun a s e).1.x ∧ (appRun a s e).1.x ≤ 999 ∧ 0 ≤ (appRun a s e).1.y ∧ (appRun a s e).1.y ≤ 999 ∧
    ((appRun a s e).1.c = s.c + 1 ∨ ((appRun a s e).1.c = s.c ∧ (appRun a s e).2.1 = [] ∧ (appRun a s e).2.2 = []) ∨ appRun a s e = (st0, [], [])) := by
  unfold appRun
  split
  · rename_i h
    simp only [Bool.and_eq_true] at h
    obtain ⟨⟨ha, hs⟩, he⟩ := h
    have hr0 := stOk_run hs
    split
    · refine ⟨by simp, by simp, by simp, by simp, hr0.x0, hr0.x1, hr0.y0, hr0.y1, Or.inr (Or.inl ⟨rfl, rfl, rfl⟩)⟩
    · have hg0 : Good e s.c ⟨s.x, s.y, [], []⟩ := ⟨hr0, by simp, by simp⟩
      have hasc : ascR a.rules = true := by simp only [appOk, Bool.and_eq_true] at ha; exact ha.2
      have hall : ∀ q ∈ a.rules, opsOk q.ops = true := fun q hq => by
        simp only [appOk, Bool.and_eq_true] at ha
        have := List.all_eq_true.1 ha.1.2 q hq
        simp only [ruleOk, Bool.and_eq_true] at this
        exact this.2
      have key : Good e s.c (doRules e s.c a.rules ⟨s.x, s.y, [], []⟩) ∧ (doRules e s.c a.rules ⟨s.x, s.y, [], []⟩).sends.length ≤ 2 ∧ (doRules e s.c a.rules ⟨s.x, s.y, [], []⟩).outs.length ≤ 2 := by
        rcases doRules_one e s.c a.rules ⟨s.x, s.y, [], []⟩ hasc with h1 | ⟨q, hq, _, h1⟩
        · rw [h1]; exact ⟨hg0, by simp, by simp⟩
        · rw [h1]
          have ho := hall q hq
          have ho' := ho
          simp only [opsOk, Bool.and_eq_true, decide_eq_true_eq] at ho'
          obtain ⟨c1, c2⟩ := doOps_cnt e s.c q.ops.length q.ops ⟨s.x, s.y, [], []⟩
          simp only [List.length_nil] at c1 c2
          exact ⟨doOps_good _ _ _ (fun o ho2 => List.all_eq_true.1 ho'.1.1.1 o ho2) hg0, by omega, by omega⟩
      obtain ⟨kg, k1, k2⟩ := key
      exact ⟨kg.sends, kg.outs, k1, k2, kg.run.x0, kg.run.x1, kg.run.y0, kg.run.y1, Or.inl rfl⟩
  · refine ⟨by simp, by simp, by simp, by simp, by simp [st0], by simp [st0], by simp [st0], by simp [st0], Or.inr (Or.inr rfl)⟩
/-- The rules of a kind alone. -/
def kindOnly (a : AppD) (k : Int) : AppD := ⟨a.rules.filter (fun q => decide (q.kind = k))⟩
/-- A run at a time, and the same run later by m. -/
structure Sh (m : Int) (r r' : RunD) : Prop where
  x : r'.x = r.x
  y : r'.y = r.y
  outs : r'.outs.length = r.outs.length
  sends : r'.sends.map (fun q => (q.time, q.to, q.kind, q.arg)) = (r.sends.filter (fun q => decide (q.time + m ≤ 40))).map (fun q => (q.time + m, q.to, q.kind, q.arg))
theorem Sh.get {m : Int} {r r' : RunD} (h : Sh m r r') (k : Int) : r'.get k = r.get k := by unfold RunD.get; rw [h.x, h.y]
theorem Sh.put {m : Int} {r r' : RunD} (h : Sh m r r') (k v : Int) : Sh m (r.put k v) (r'.put k v) := by
  unfold RunD.put; split
  · exact ⟨rfl, h.y, h.outs, h.sends⟩
  · exact ⟨h.x, rfl, h.outs, h.sends⟩
end Go.Proofs.YtbcemldiahghcaaGreat

namespace Go.Proofs.YtbcemldiahghcaaGreat
set_option linter.unusedVariables false
end Go.Proofs.YtbcemldiahghcaaGreat
