/- Texts joined: Cmp2, Pure2, Pure3. -/
import Derived.Test.YtlinephiindncaaJ06
import Derived.Test.YtlinephiindncaaJ07
namespace Go.Proofs.Ytlinephiindncaa
set_option linter.unusedVariables false
set_option linter.unusedSimpArgs false
set_option maxRecDepth 100000
open Go.RowKit
theorem rd_block {W : World} {K : Nat} {t : TypeId} {fr : Nat × Nat} {ys : Array Value} (xs : List Int) (hx : xs.length ≤ 9223372036854775807) (h : W.heap[K]? = some (.cells ys t fr)) (hy : ys.toList = xs.map (.int .i64)) : Rd (tInt .i64) W (fun k => k = K) (.slice (some ⟨K, 0, none⟩) xs.length xs.length) xs := by
  refine ⟨_, xs.length, rfl, Nat.le_refl _, hx, fun _ => ⟨K, 0, rfl, rfl, blk_lt h, fun j x hj => ⟨_, rfl, fun i u hi => ?_⟩⟩⟩
  have hz : (tInt .i64).sz = 1 := rfl
  cases i with
  | zero =>
    obtain rfl : Value.int .i64 x = u := by simpa using hi
    rw [blk_cell h, hz]
    have : ys.toList[j]? = some (Value.int .i64 x) := by rw [hy, List.getElem?_map, hj]; rfl
    simpa using this
  | succ i => simp at hi
theorem bdrew0 {B : Nat} {w W : World} (h : Below B w W) : Below B w W.drew := ⟨h.os, h.tape, h.output, h.size, h.block⟩
end Go.Proofs.Ytlinephiindncaa

namespace Go.Proofs.Ytlinephiindncaa
set_option linter.unusedVariables false
set_option linter.unusedSimpArgs false
theorem doOp_sends (e : EvD) (c : Int) (o : OpD) (r : RunD) : (doOp e c o r).1.sends = if o.d = 6 ∧ e.time + o.c ≤ 40 then r.sends ++ [⟨e.time + o.c, o.a, e.to, c, (r.sends.length : Int), o.b, r.get o.e⟩] else r.sends := by
  unfold doOp
  by_cases h1 : o.d = 1
  · simp [h1, RunD.put_sends]
  by_cases h2 : o.d = 2
  · simp [h2, RunD.put_sends]
  by_cases h3 : o.d = 3
  · simp [h3, RunD.put_sends]
  by_cases h4 : o.d = 4
  · simp [h4, RunD.put_sends]
  by_cases h5 : o.d = 5
  · simp [h5]; split <;> rfl
  by_cases h6 : o.d = 6
  · simp [h6]; split <;> rfl
  by_cases h7 : o.d = 7
  · simp [h7]
  simp [h1, h2, h3, h4, h5, h6, h7]
theorem doOp_outs (e : EvD) (c : Int) (o : OpD) (r : RunD) : (doOp e c o r).1.outs = if o.d = 7 then r.outs ++ [⟨e.time, e.to, c, (r.outs.length : Int), r.get o.a⟩] else r.outs := by
  unfold doOp
  by_cases h1 : o.d = 1
  · simp [h1, RunD.put_outs]
  by_cases h2 : o.d = 2
  · simp [h2, RunD.put_outs]
  by_cases h3 : o.d = 3
  · simp [h3, RunD.put_outs]
  by_cases h4 : o.d = 4
  · simp [h4, RunD.put_outs]
  by_cases h5 : o.d = 5
  · simp [h5]; split <;> rfl
  by_cases h6 : o.d = 6
  · simp [h6]; split <;> rfl
  by_cases h7 : o.d = 7
  · simp [h7]
  simp [h1, h2, h3, h4, h5, h6, h7]
/-- What a rule that is being done keeps to. -/
structure Good (e : EvD) (c : Int) (r : RunD) : Prop where
  run : RunOk r
  sends : ∀ s ∈ r.sends, e.time < s.time ∧ s.from_ = e.to ∧ s.count = c ∧ s.time ≤ 40
  outs : ∀ o ∈ r.outs, o.time = e.time ∧ o.proc = e.to ∧ 0 ≤ o.value ∧ o.value ≤ 999
theorem RunOk.get {r : RunD} (h : RunOk r) (k : Int) : 0 ≤ r.get k ∧ r.get k ≤ 999 := by
  unfold RunD.get; split
  · exact ⟨h.x0, h.x1⟩
  · exact ⟨h.y0, h.y1⟩
theorem doOp_good {e : EvD} {c : Int} {o : OpD} {r : RunD} (h : Good e c r) (ho : opOk o = true) : Good e c (doOp e c o r).1 := by
  refine ⟨doOp_ok h.run, ?_, ?_⟩
  · rw [doOp_sends]
    split
    · rename_i h6
      intro s hs
      rcases List.mem_append.1 hs with hs | hs
      · exact h.sends s hs
      · simp only [List.mem_singleton] at hs
        subst hs
        have hc : 1 ≤ o.c ∧ o.c ≤ 40 := by
          have := ho
          simp [opOk, inn, h6.1] at this
          exact this.2.2.1
        exact ⟨by simp only; omega, rfl, rfl, h6.2⟩
    · exact h.sends
  · rw [doOp_outs]
    split
    · intro q hq
      rcases List.mem_append.1 hq with hq | hq
      · exact h.outs q hq
      · simp only [List.mem_singleton] at hq
        subst hq
        have := h.run.get o.a
        exact ⟨rfl, rfl, this.1, this.2⟩
    · exact h.outs
theorem doOps_good {e : EvD} {c : Int} : ∀ (n : Nat) (l : List OpD) (r : RunD), (∀ o ∈ l, opOk o = true) → Good e c r → Good e c (doOps e c n l r)
  | 0, _, r, _, h => by simpa [doOps] using h
  | n + 1, [], r, _, h => by simpa [doOps] using h
  | n + 1, o :: l, r, hl, h => by
    simp only [doOps]
    exact doOps_good n _ _ (fun q hq => hl q (List.mem_cons_of_mem _ (List.mem_of_mem_drop hq))) (doOp_good h (hl o (List.mem_cons_self ..)))
theorem cnt_cons (k : Int) (o : OpD) (l : List OpD) : cnt k (o :: l) = (if o.d = k then 1 else 0) + cnt k l := by
  unfold cnt; rw [List.filter_cons]; by_cases h : o.d = k <;> simp [h]; omega
theorem cnt_drop (k : Int) (l : List OpD) (j : Nat) : cnt k (l.drop j) ≤ cnt k l := ((List.drop_sublist j l).filter _).length_le
theorem doOps_cnt (e : EvD) (c : Int) : ∀ (n : Nat) (l : List OpD) (r : RunD), (doOps e c n l r).sends.length ≤ r.sends.length + cnt 6 l ∧ (doOps e c n l r).outs.length ≤ r.outs.length + cnt 7 l
  | 0, _, r => by simp [doOps]
  | n + 1, [], r => by simp [doOps]
  | n + 1, o :: l, r => by
    simp only [doOps]
    obtain ⟨h1, h2⟩ := doOps_cnt e c n (l.drop (doOp e c o r).2.toNat) (doOp e c o r).1
    have d6 := cnt_drop 6 l (doOp e c o r).2.toNat
    have d7 := cnt_drop 7 l (doOp e c o r).2.toNat
    have s6 : (doOp e c o r).1.sends.length ≤ r.sends.length + if o.d = 6 then 1 else 0 := by
      rw [doOp_sends]; split
      · rename_i h; simp [h.1]
      · omega
    have s7 : (doOp e c o r).1.outs.length ≤ r.outs.length + if o.d = 7 then 1 else 0 := by
      rw [doOp_outs]; split
      · simp
      · omega
    rw [cnt_cons, cnt_cons]
    constructor <;> omega
theorem ascR_iff (l : List RuleD) : ascR l = true ↔ l.Pairwise (fun a b => a.kind < b.kind) := by
  induction l with
  | nil => simp [ascR]
  | cons a l ih =>
    cases l with
    | nil => simp [ascR]
    | cons b l =>
      simp only [ascR, Bool.and_eq_true, decide_eq_true_eq, ih]
      constructor
      · rintro ⟨h1, h2⟩
        refine List.pairwise_cons.2 ⟨fun q hq => ?_, h2⟩
        rcases List.mem_cons.1 hq with rfl | hq
        · exact h1
        · have := (List.pairwise_cons.1 h2).1 q hq; omega
      · intro h
        obtain ⟨h1, h2⟩ := List.pairwise_cons.1 h
        exact ⟨h1 b (List.mem_cons_self ..), h2⟩
theorem doRules_none (e : EvD) (c : Int) : ∀ (l : List RuleD) (r : RunD), (∀ q ∈ l, q.kind ≠ e.kind) → doRules e c l r = r
  | [], r, _ => rfl
  | q :: l, r, h => by
    have h1 : doRules e c (q :: l) r = doRules e c l (if q.kind = e.kind then doOps e c q.ops.length q.ops r else r) := rfl
    rw [h1, if_neg (h q (List.mem_cons_self ..))]
    exact doRules_none e c l r (fun q' hq => h q' (List.mem_cons_of_mem _ hq))
theorem doRules_one (e : EvD) (c : Int) : ∀ (l : List RuleD) (r : RunD), ascR l = true → doRules e c l r = r ∨ ∃ q ∈ l, q.kind = e.kind ∧ doRules e c l r = doOps e c q.ops.length q.ops r
  | [], r, _ => Or.inl rfl
  | q :: l, r, h => by
    have hp := (ascR_iff _).1 h
    obtain ⟨h1, h2⟩ := List.pairwise_cons.1 hp
    have e1 : doRules e c (q :: l) r = doRules e c l (if q.kind = e.kind then doOps e c q.ops.length q.ops r else r) := rfl
    by_cases hk : q.kind = e.kind
    · right
      rw [e1, if_pos hk]
      exact ⟨q, List.mem_cons_self .., hk, doRules_none e c l _ (fun q' hq => by have := h1 q' hq; omega)⟩
    · rw [e1, if_neg hk]
      rcases doRules_one e c l r ((ascR_iff _).2 h2) with h3 | ⟨q', hq, hk', h3⟩
      · exact Or.inl h3
      · exact Or.inr ⟨q', List.mem_cons_of_mem _ hq, hk', h3⟩
/-- The bounds of what a process does. -/
theorem appRun_good (a : AppD) (s : StD) (e : EvD) :
    (∀ q ∈ (appRun a s e).2.1, e.time < q.time ∧ q.from_ = e.to ∧ q.count = s.c ∧ q.time ≤ 40) ∧
    (∀ o ∈ (appRun a s e).2.2, o.time = e.time ∧ o.proc = e.to ∧ 0 ≤ o.value ∧ o.value ≤ 999) ∧
    (appRun a s e).2.1.length ≤ 2 ∧ (appRun a s e).2.2.length ≤ 2 ∧
    0 ≤ (appRun a s e).1.x ∧ (appRun a s e).1.x ≤ 999 ∧ 0 ≤ (appRun a s e).1.y ∧ (appRun a s e).1.y ≤ 999 ∧
    ((appRun a s e).1.c = s.c + 1 ∨ ((appRun a s e).1.c = s.c ∧ (appRun a s e).2.1 = [] ∧ (appRun a s e).2.2 = []) ∨ appRun a s e = (st0, [], [])) := by
  unfold appRun
  split
  · rename_i h
    simp only [Bool.and_eq_true] at h
    obtain ⟨⟨ha, hs⟩, he⟩ := h
    have hr0 := stOk_run hs
    split
    · refine ⟨by simp, by simp, by simp, by simp, hr0.x0, hr0.x1, hr0.y0, hr0.y1, Or.inr (Or.inl ⟨rfl, rfl, rfl⟩)⟩
    · have hg0 : Good e s.c ⟨s.x, s.y, [], []⟩ := ⟨hr0, by simp, by simp⟩
      have hasc : ascR a.rules = true := by simp only [appOk, Bool.and_eq_true] at ha; exact ha.2
      have hall : ∀ q ∈ a.rules, opsOk q.ops = true := fun q hq => by
        simp only [appOk, Bool.and_eq_true] at ha
        have := List.all_eq_true.1 ha.1.2 q hq
        simp only [ruleOk, Bool.and_eq_true] at this
        exact this.2
      have key : Good e s.c (doRules e s.c a.rules ⟨s.x, s.y, [], []⟩) ∧ (doRules e s.c a.rules ⟨s.x, s.y, [], []⟩).sends.length ≤ 2 ∧ (doRules e s.c a.rules ⟨s.x, s.y, [], []⟩).outs.length ≤ 2 := by
        rcases doRules_one e s.c a.rules ⟨s.x, s.y, [], []⟩ hasc with h1 | ⟨q, hq, _, h1⟩
        · rw [h1]; exact ⟨hg0, by simp, by simp⟩
        · rw [h1]
          have ho := hall q hq
          have ho' := ho
          simp only [opsOk, Bool.and_eq_true, decide_eq_true_eq] at ho'
          obtain ⟨c1, c2⟩ := doOps_cnt e s.c q.ops.length q.ops ⟨s.x, s.y, [], []⟩
          simp only [List.length_nil] at c1 c2
          exact ⟨doOps_good _ _ _ (fun o ho2 => List.all_eq_true.1 ho'.1.1.1 o ho2) hg0, by omega, by omega⟩
      obtain ⟨kg, k1, k2⟩ := key
      exact ⟨kg.sends, kg.outs, k1, k2, kg.run.x0, kg.run.x1, kg.run.y0, kg.run.y1, Or.inl rfl⟩
  · refine ⟨by simp, by simp, by simp, by simp, by simp [st0], by simp [st0], by simp [st0], by simp [st0], Or.inr (Or.inr rfl)⟩
/-- The rules of a kind alone. -/
def kindOnly (a : AppD) (k : Int) : AppD := ⟨a.rules.filter (fun q => decide (q.kind = k))⟩
theorem appOk_kindOnly {a : AppD} (k : Int) (h : appOk a = true) : appOk (kindOnly a k) = true := by
  simp only [appOk, Bool.and_eq_true, decide_eq_true_eq, kindOnly] at h ⊢
  refine ⟨⟨?_, ?_⟩, ?_⟩
  · exact decide_eq_true (Nat.le_trans (List.length_filter_le _ _) h.1.1)
  · exact List.all_eq_true.2 fun q hq => List.all_eq_true.1 h.1.2 q (List.mem_filter.1 hq).1
  · exact (ascR_iff _).2 (((ascR_iff _).1 h.2).filter _)
theorem doRules_kindOnly (e : EvD) (c : Int) (a : AppD) (r : RunD) : doRules e c (kindOnly a e.kind).rules r = doRules e c a.rules r := by
  unfold doRules kindOnly
  rw [List.foldl_filter]
  congr 1
  funext r q
  by_cases h : q.kind = e.kind <;> simp [h]
theorem appRun_kindOnly (a : AppD) (s : StD) (e : EvD) (h : (appRun a s e).1 ≠ st0) : appRun (kindOnly a e.kind) s e = appRun a s e := by
  by_cases hv : (appOk a && stOk s && evOk e) = true
  · have hv2 := hv
    simp only [Bool.and_eq_true] at hv2
    have hv' : (appOk (kindOnly a e.kind) && stOk s && evOk e) = true := by simp [appOk_kindOnly e.kind hv2.1.1, hv2.1.2, hv2.2]
    unfold appRun
    rw [if_pos hv, if_pos hv', doRules_kindOnly]
  · exfalso; apply h; unfold appRun; rw [if_neg hv]
/-- A run at a time, and the same run later by m. -/
structure Sh (m : Int) (r r' : RunD) : Prop where
  x : r'.x = r.x
  y : r'.y = r.y
  outs : r'.outs.length = r.outs.length
  sends : r'.sends.map (fun q => (q.time, q.to, q.kind, q.arg)) = (r.sends.filter (fun q => decide (q.time + m ≤ 40))).map (fun q => (q.time + m, q.to, q.kind, q.arg))
theorem Sh.get {m : Int} {r r' : RunD} (h : Sh m r r') (k : Int) : r'.get k = r.get k := by unfold RunD.get; rw [h.x, h.y]
theorem Sh.put {m : Int} {r r' : RunD} (h : Sh m r r') (k v : Int) : Sh m (r.put k v) (r'.put k v) := by
  unfold RunD.put; split
  · exact ⟨rfl, h.y, h.outs, h.sends⟩
  · exact ⟨h.x, rfl, h.outs, h.sends⟩
theorem doOp_sh {e d : EvD} {m c : Int} (hm : 0 ≤ m) (ht : d.time = e.time + m) (h2 : d.to = e.to) (ha : d.arg = e.arg) (o : OpD) {r r' : RunD} (h : Sh m r r') :
    (doOp d c o r').2 = (doOp e c o r).2 ∧ Sh m (doOp e c o r).1 (doOp d c o r').1 := by
  unfold doOp
  by_cases h1 : o.d = 1
  · rw [if_pos h1, if_pos h1]; exact ⟨rfl, h.put _ _⟩
  by_cases h2' : o.d = 2
  · rw [if_neg h1, if_neg h1, if_pos h2', if_pos h2', h.get, h.get]; exact ⟨rfl, h.put _ _⟩
  by_cases h3 : o.d = 3
  · rw [if_neg h1, if_neg h1, if_neg h2', if_neg h2', if_pos h3, if_pos h3, h.get]; exact ⟨rfl, h.put _ _⟩
  by_cases h4 : o.d = 4
  · rw [if_neg h1, if_neg h1, if_neg h2', if_neg h2', if_neg h3, if_neg h3, if_pos h4, if_pos h4, ha]; exact ⟨rfl, h.put _ _⟩
  by_cases h5 : o.d = 5
  · rw [if_neg h1, if_neg h1, if_neg h2', if_neg h2', if_neg h3, if_neg h3, if_neg h4, if_neg h4, if_pos h5, if_pos h5, h.get]
    split
    · exact ⟨rfl, h⟩
    · exact ⟨rfl, h⟩
  by_cases h6 : o.d = 6
  · rw [if_neg h1, if_neg h1, if_neg h2', if_neg h2', if_neg h3, if_neg h3, if_neg h4, if_neg h4, if_neg h5, if_neg h5, if_pos h6, if_pos h6]
    by_cases hd : d.time + o.c ≤ 40
    · have he : e.time + o.c ≤ 40 := by omega
      rw [if_pos hd, if_pos he]
      refine ⟨rfl, h.x, h.y, h.outs, ?_⟩
      simp only [List.map_append, List.filter_append, h.sends]
      congr 1
      have hq : decide (e.time + o.c + m ≤ 40) = true := decide_eq_true (by omega)
      simp only [List.filter_cons, hq, if_true, List.filter_nil, List.map_cons, List.map_nil, h.get]
      rw [show d.time + o.c = e.time + o.c + m by omega]
    · rw [if_neg hd]
      by_cases he : e.time + o.c ≤ 40
      · rw [if_pos he]
        refine ⟨rfl, h.x, h.y, h.outs, ?_⟩
        have hq : decide (e.time + o.c + m ≤ 40) = false := decide_eq_false (by omega)
        simp only [List.filter_append, List.filter_cons, hq, List.filter_nil]
        simpa using h.sends
      · rw [if_neg he]; exact ⟨rfl, h⟩
  by_cases h7 : o.d = 7
  · rw [if_neg h1, if_neg h1, if_neg h2', if_neg h2', if_neg h3, if_neg h3, if_neg h4, if_neg h4, if_neg h5, if_neg h5, if_neg h6, if_neg h6, if_pos h7, if_pos h7]
    exact ⟨rfl, h.x, h.y, by simp [h.outs], h.sends⟩
  rw [if_neg h1, if_neg h1, if_neg h2', if_neg h2', if_neg h3, if_neg h3, if_neg h4, if_neg h4, if_neg h5, if_neg h5, if_neg h6, if_neg h6, if_neg h7, if_neg h7]
  exact ⟨rfl, h⟩
theorem doOps_sh {e d : EvD} {m c : Int} (hm : 0 ≤ m) (ht : d.time = e.time + m) (h2 : d.to = e.to) (ha : d.arg = e.arg) : ∀ (n : Nat) (l : List OpD) (r r' : RunD), Sh m r r' → Sh m (doOps e c n l r) (doOps d c n l r')
  | 0, _, r, r', h => by simpa [doOps] using h
  | n + 1, [], r, r', h => by simpa [doOps] using h
  | n + 1, o :: l, r, r', h => by
    simp only [doOps]
    obtain ⟨k1, k2⟩ := doOp_sh (c := c) hm ht h2 ha o h
    rw [k1]
    exact doOps_sh hm ht h2 ha n _ _ _ k2
theorem doRules_sh {e d : EvD} {m c : Int} (hm : 0 ≤ m) (ht : d.time = e.time + m) (h2 : d.to = e.to) (ha : d.arg = e.arg) (hk : d.kind = e.kind) : ∀ (l : List RuleD) (r r' : RunD), Sh m r r' → Sh m (doRules e c l r) (doRules d c l r')
  | [], r, r', h => h
  | q :: l, r, r', h => by
    have e1 : doRules e c (q :: l) r = doRules e c l (if q.kind = e.kind then doOps e c q.ops.length q.ops r else r) := rfl
    have e2 : doRules d c (q :: l) r' = doRules d c l (if q.kind = d.kind then doOps d c q.ops.length q.ops r' else r') := rfl
    rw [e1, e2, hk]
    refine doRules_sh hm ht h2 ha hk l _ _ ?_
    split
    · exact doOps_sh hm ht h2 ha _ _ _ _ h
    · exact h
/-- The same event later: the same, and what is sent later by as much. -/
theorem appRun_shift (a : AppD) (s : StD) (e d : EvD) (m : Int) (hd : d = { e with time := e.time + m }) (hm : 0 ≤ m) (h40 : d.time ≤ 40) (h : (appOk a && stOk s && evOk e) = true) :
    (appRun a s d).1 = (appRun a s e).1 ∧ (appRun a s d).2.2.length = (appRun a s e).2.2.length ∧
    (appRun a s d).2.1.map (fun q => (q.time, q.to, q.kind, q.arg)) = ((appRun a s e).2.1.filter (fun q => decide (q.time + m ≤ 40))).map (fun q => (q.time + m, q.to, q.kind, q.arg)) := by
  have h' : (appOk a && stOk s && evOk d) = true := by
    subst hd
    simp only [Bool.and_eq_true] at h ⊢
    refine ⟨h.1, ?_⟩
    have h3 := h.2
    simp only at h40
    simp only [evOk, inn, Bool.and_eq_true, decide_eq_true_eq] at h3 ⊢
    omega
  have ht : d.time = e.time + m := by rw [hd]
  have h2 : d.to = e.to := by rw [hd]
  have ha : d.arg = e.arg := by rw [hd]
  have hk : d.kind = e.kind := by rw [hd]
  unfold appRun
  rw [if_pos h, if_pos h']
  split
  · exact ⟨rfl, rfl, by simp⟩
  · have := doRules_sh (c := s.c) hm ht h2 ha hk a.rules ⟨s.x, s.y, [], []⟩ ⟨s.x, s.y, [], []⟩ ⟨rfl, rfl, rfl, rfl⟩
    exact ⟨by simp [this.x, this.y], this.outs, this.sends⟩
end Go.Proofs.Ytlinephiindncaa

namespace Go.Proofs.Ytlinephiindncaa
set_option linter.unusedVariables false
theorem filter_get {α : Type} (p : α → Bool) (l : List α) (k : Nat) (h : k < l.length) (hp : p l[k] = true) : (l.filter p)[((l.take k).filter p).length]? = some l[k] := by
  have e : l.filter p = (l.take k).filter p ++ (l[k] :: (l.drop (k + 1)).filter p) := by
    conv => lhs; rw [← List.take_append_drop k l]
    rw [List.filter_append, List.drop_eq_getElem_cons h, List.filter_cons, if_pos hp]
  rw [e, List.getElem?_append_right (Nat.le_refl _)]
  simp
theorem filter_step {α : Type} (p : α → Bool) (l : List α) (k : Nat) (h : k < l.length) : ((l.take (k + 1)).filter p).length = ((l.take k).filter p).length + if p l[k] = true then 1 else 0 := by
  rw [List.take_succ_eq_append_getElem h, List.filter_append]
  by_cases hp : p l[k] = true <;> simp [hp]
theorem shift_get {m : Int} {mo sd : List EvD} (h : mo.map (fun q => (q.time, q.to, q.kind, q.arg)) = (sd.filter (fun q => decide (q.time + m ≤ 40))).map (fun q => (q.time + m, q.to, q.kind, q.arg))) (k : Nat) (hk : k < sd.length) (hp : sd[k].time + m ≤ 40) :
    ∃ hn : ((sd.take k).filter (fun q => decide (q.time + m ≤ 40))).length < mo.length, (mo[((sd.take k).filter (fun q => decide (q.time + m ≤ 40))).length]'hn).time = sd[k].time + m ∧ (mo[((sd.take k).filter (fun q => decide (q.time + m ≤ 40))).length]'hn).to = sd[k].to ∧ (mo[((sd.take k).filter (fun q => decide (q.time + m ≤ 40))).length]'hn).kind = sd[k].kind ∧ (mo[((sd.take k).filter (fun q => decide (q.time + m ≤ 40))).length]'hn).arg = sd[k].arg := by
  have h1 := filter_get (fun q : EvD => decide (q.time + m ≤ 40)) sd k hk (decide_eq_true hp)
  have h2 := congrArg (fun l => l[((sd.take k).filter (fun q => decide (q.time + m ≤ 40))).length]?) h
  simp only [List.getElem?_map, h1, Option.map_some] at h2
  have hn : ((sd.take k).filter (fun q => decide (q.time + m ≤ 40))).length < mo.length := by
    refine Nat.lt_of_not_le fun hle => ?_
    rw [List.getElem?_eq_none hle] at h2
    cases h2
  refine ⟨hn, ?_⟩
  rw [List.getElem?_eq_getElem hn] at h2
  simp only [Option.map_some, Option.some.injEq, Prod.mk.injEq] at h2
  exact h2
theorem shift_len {m : Int} {mo sd : List EvD} (h : mo.map (fun q => (q.time, q.to, q.kind, q.arg)) = (sd.filter (fun q => decide (q.time + m ≤ 40))).map (fun q => (q.time + m, q.to, q.kind, q.arg))) : mo.length = (sd.filter (fun q => decide (q.time + m ≤ 40))).length := by
  have := congrArg List.length h; simpa using this
/-- Where something comes of it, all was in form. -/
theorem appRun_valid {a : AppD} {s : StD} {e : EvD} (h : (appRun a s e).1 ≠ st0) : (appOk a && stOk s && evOk e) = true := by
  refine Decidable.byContradiction fun hn => h ?_
  unfold appRun
  rw [if_neg hn]
end Go.Proofs.Ytlinephiindncaa
