/- Texts joined: SimP, Spc2, Spc3. -/
import Derived.Test.YtlinephiindncaaJ08
import Derived.Test.YtlinephiindncaaJ05
import Derived.Test.YtlinephiindncaaJ07
import Derived.Test.YtlinephiindncaaJ06
namespace Go.Proofs.Ytlinephiindncaa
set_option linter.unusedVariables false
set_option linter.unusedSectionVars false
structure SimD where
  states : List StD
  queue : List EvD
  outs : List OutD
  deriving DecidableEq, Inhabited
def sim0 : SimD := ⟨[], [], []⟩
def appFirst (p : Int) : EvD := if inn p 0 3 = true then ⟨0, p, -1, 0, p, 0, p⟩ else ⟨0, 0, 0, 0, 0, 0, 0⟩
def simStart : SimD := ⟨[st0, st0, st0, st0], [appFirst 0, appFirst 1, appFirst 2, appFirst 3], []⟩
def ascB {α : Type} (lt : α → α → Bool) : List α → Bool
  | [] => true
  | [_] => true
  | a :: b :: l => lt a b && ascB lt (b :: l)
def evsOk (l : List EvD) (most : Int) : Bool := decide ((l.length : Int) ≤ most) && (l.all evOk && ascB evLess l)
def outsOk (l : List OutD) (most : Int) : Bool := decide ((l.length : Int) ≤ most) && (l.all outOk && ascB outLess l)
def simOk (s : SimD) : Bool := decide (s.states.length = 4) && (s.states.all stOk && (evsOk s.queue 100 && outsOk s.outs 96))
/-- The first event is done. -/
def simNext (apps : List AppD) (s : SimD) : SimD :=
  match s.queue with
  | [] => s
  | e :: rest =>
    ⟨s.states.set e.to.toNat (appRun (apps.getD e.to.toNat ⟨[]⟩) (s.states.getD e.to.toNat st0) e).1,
     evSort (rest ++ (appRun (apps.getD e.to.toNat ⟨[]⟩) (s.states.getD e.to.toNat st0) e).2.1),
     outSort (s.outs ++ (appRun (apps.getD e.to.toNat ⟨[]⟩) (s.states.getD e.to.toNat st0) e).2.2)⟩
def simStepV (apps : List AppD) (s : SimD) : SimD × Bool :=
  match s.queue with
  | [] => (s, false)
  | _ :: _ => if simOk (simNext apps s) = true then (simNext apps s, true) else (s, false)
def simStep (apps : List AppD) (s : SimD) : SimD × Bool := if simOk s = true ∧ appsOk apps = true then simStepV apps s else (sim0, false)
def simLoop (apps : List AppD) (u : Int) : Nat → SimD → SimD
  | 0, s => s
  | n + 1, s =>
    match s.queue with
    | [] => s
    | e :: _ => if e.time < u then (if (simStepV apps s).2 = true then simLoop apps u n (simStepV apps s).1 else s) else s
def simRun (apps : List AppD) (u : Int) : SimD := if appsOk apps = true then simLoop apps u 200 simStart else sim0

theorem ascB_snoc {α : Type} (lt : α → α → Bool) (l : List α) (a : α) : ascB lt (l ++ [a]) = (ascB lt l && match l.getLast? with | none => true | some b => lt b a) := by
  induction l with
  | nil => rfl
  | cons x l ih =>
    cases l with
    | nil => simp [ascB]
    | cons y l =>
      simp only [List.cons_append, ascB] at ih ⊢
      rw [ih, Bool.and_assoc]
      simp [List.getLast?_cons_cons]
theorem ascB_step {α : Type} (lt : α → α → Bool) {l : List α} {k : Nat} (h : k < l.length) : ascB lt (l.take (k + 1)) = (ascB lt (l.take k) && (if k = 0 then true else lt (l[k-1]'(by omega)) l[k])) := by
  rw [List.take_succ_eq_append_getElem h, ascB_snoc]
  congr 1
  by_cases hk : k = 0
  · subst hk; simp
  · rw [if_neg hk]
    have : (l.take k).getLast? = some (l[k-1]'(by omega)) := by
      rw [List.getLast?_eq_getElem?, List.getElem?_take]
      simp only [List.length_take]
      rw [Nat.min_eq_left (by omega), if_pos (by omega), List.getElem?_eq_getElem]
    rw [this]
theorem ascB_take {α : Type} (lt : α → α → Bool) {l : List α} {k : Nat} (h : ascB lt (l.take k) = false) : ascB lt l = false := by
  induction hn : l.length - k generalizing k with
  | zero => rw [List.take_of_length_le (by omega)] at h; exact h
  | succ n ih =>
    have hk : k < l.length := by omega
    refine ih (k := k + 1) ?_ (by omega)
    rw [ascB_step lt hk, h]; rfl
theorem ascB_iff {α : Type} {lt : α → α → Bool} (O : StrictOrd lt) (l : List α) : ascB lt l = true ↔ l.Pairwise (fun a b => lt a b = true) := by
  induction l with
  | nil => simp [ascB]
  | cons a l ih =>
    cases l with
    | nil => simp [ascB]
    | cons b l =>
      simp only [ascB, Bool.and_eq_true, ih]
      constructor
      · rintro ⟨h1, h2⟩
        refine List.pairwise_cons.2 ⟨fun q hq => ?_, h2⟩
        rcases List.mem_cons.1 hq with rfl | hq
        · exact h1
        · exact O.trans _ _ _ h1 ((List.pairwise_cons.1 h2).1 q hq)
      · intro h
        obtain ⟨h1, h2⟩ := List.pairwise_cons.1 h
        exact ⟨h1 b (List.mem_cons_self ..), h2⟩
/-- What is sent and let out is in form, told apart by its number. -/
structure Made (e : EvD) (c : Int) (r : RunD) : Prop where
  good : Good e c r
  sends : ∀ q ∈ r.sends, (0 ≤ q.to ∧ q.to ≤ 3) ∧ (0 ≤ q.n) ∧ (0 ≤ q.kind ∧ q.kind ≤ 3) ∧ (0 ≤ q.arg ∧ q.arg ≤ 999)
  outs : ∀ (i : Nat) o, r.outs[i]? = some o → o.n = i ∧ o.count = c
  sn : ∀ (i : Nat) q, r.sends[i]? = some q → q.n = i
theorem doOp_made {e : EvD} {c : Int} {o : OpD} {r : RunD} (h : Made e c r) (ho : opOk o = true) : Made e c (doOp e c o r).1 := by
  refine ⟨doOp_good h.good ho, ?_, ?_, ?_⟩
  · rw [doOp_sends]
    split
    · rename_i h6
      intro q hq
      rcases List.mem_append.1 hq with hq | hq
      · exact h.sends q hq
      · simp only [List.mem_singleton] at hq
        subst hq
        have h3 := ho
        simp [opOk, inn, h6.1] at h3
        have h4 := h.good.run.get o.e
        exact ⟨⟨h3.1.1, h3.1.2⟩, by simp, ⟨h3.2.1.1, h3.2.1.2⟩, h4⟩
    · exact h.sends
  · rw [doOp_outs]
    split
    · intro i q hq
      rw [List.getElem?_append] at hq
      split at hq
      · exact h.outs i q hq
      · rename_i hge
        have hi : i = r.outs.length := by have := (List.getElem?_eq_some_iff.1 hq).1; simp at this; omega
        subst hi
        simp only [Nat.sub_self, List.getElem?_cons_zero, Option.some.injEq] at hq
        subst hq
        exact ⟨rfl, rfl⟩
    · exact h.outs
  · rw [doOp_sends]
    split
    · intro i q hq
      rw [List.getElem?_append] at hq
      split at hq
      · exact h.sn i q hq
      · rename_i hge
        have hi : i = r.sends.length := by have := (List.getElem?_eq_some_iff.1 hq).1; simp at this; omega
        subst hi
        simp only [Nat.sub_self, List.getElem?_cons_zero, Option.some.injEq] at hq
        subst hq
        rfl
    · exact h.sn
theorem doOps_made {e : EvD} {c : Int} : ∀ (n : Nat) (l : List OpD) (r : RunD), (∀ o ∈ l, opOk o = true) → Made e c r → Made e c (doOps e c n l r)
  | 0, _, r, _, h => by simpa [doOps] using h
  | n + 1, [], r, _, h => by simpa [doOps] using h
  | n + 1, o :: l, r, hl, h => by
    simp only [doOps]
    exact doOps_made n _ _ (fun q hq => hl q (List.mem_cons_of_mem _ (List.mem_of_mem_drop hq))) (doOp_made h (hl o (List.mem_cons_self ..)))
/-- What comes of an event that is in form, by a program that is. -/
structure Comes (s : StD) (e : EvD) (r : StD × List EvD × List OutD) : Prop where
  st : stOk r.1 = true
  way : (s.c = 12 ∧ r = (s, [], [])) ∨ (s.c < 12 ∧ r.1.c = s.c + 1 ∧ r.2.1.length ≤ 2 ∧ r.2.2.length ≤ 2)
  sends : ∀ q ∈ r.2.1, evOk q = true ∧ e.time < q.time
  outs : ∀ o ∈ r.2.2, outOk o = true ∧ o.time = e.time ∧ o.proc = e.to ∧ o.count = s.c
  nodup : r.2.2.Nodup
theorem appRun_comes {a : AppD} {s : StD} {e : EvD} (ha : appOk a = true) (hs : stOk s = true) (he : evOk e = true) : Comes s e (appRun a s e) := by
  have hr0 := stOk_run hs
  have hc : 0 ≤ s.c ∧ s.c ≤ 12 := by simp [stOk, inn] at hs; exact hs.2
  have hev := he
  simp only [evOk, inn, Bool.and_eq_true, decide_eq_true_eq] at hev
  unfold appRun
  rw [if_pos (by simp [ha, hs, he])]
  split
  · rename_i h12
    exact ⟨hs, Or.inl ⟨h12, rfl⟩, by simp, by simp, by simp⟩
  · rename_i h12
    have hm0 : Made e s.c ⟨s.x, s.y, [], []⟩ := ⟨⟨hr0, by simp, by simp⟩, by simp, by simp, by simp⟩
    have hasc : ascR a.rules = true := by simp only [appOk, Bool.and_eq_true] at ha; exact ha.2
    have key : Made e s.c (doRules e s.c a.rules ⟨s.x, s.y, [], []⟩) ∧ (doRules e s.c a.rules ⟨s.x, s.y, [], []⟩).sends.length ≤ 2 ∧ (doRules e s.c a.rules ⟨s.x, s.y, [], []⟩).outs.length ≤ 2 := by
      rcases doRules_one e s.c a.rules ⟨s.x, s.y, [], []⟩ hasc with h1 | ⟨q, hq, _, h1⟩
      · rw [h1]; exact ⟨hm0, by simp, by simp⟩
      · rw [h1]
        have ho : opsOk q.ops = true := by
          simp only [appOk, Bool.and_eq_true] at ha
          have := List.all_eq_true.1 ha.1.2 q hq
          simp only [ruleOk, Bool.and_eq_true] at this
          exact this.2
        have ho' := ho
        simp only [opsOk, Bool.and_eq_true, decide_eq_true_eq] at ho'
        obtain ⟨c1, c2⟩ := doOps_cnt e s.c q.ops.length q.ops ⟨s.x, s.y, [], []⟩
        simp only [List.length_nil] at c1 c2
        exact ⟨doOps_made _ _ _ (fun o ho2 => List.all_eq_true.1 ho'.1.1.1 o ho2) hm0, by omega, by omega⟩
    generalize doRules e s.c a.rules ⟨s.x, s.y, [], []⟩ = r at key
    obtain ⟨km, k1, k2⟩ := key
    show Comes s e (⟨r.x, r.y, s.c + 1⟩, r.sends, r.outs)
    refine ⟨?_, Or.inr ⟨by omega, rfl, k1, k2⟩, fun q (hq : q ∈ r.sends) => ?_, fun o (ho : o ∈ r.outs) => ?_, ?_⟩
    · have := km.good.run
      simp only [stOk, inn, Bool.and_eq_true, decide_eq_true_eq]
      exact ⟨⟨⟨this.x0, this.x1⟩, this.y0, this.y1⟩, by omega, by omega⟩
    · obtain ⟨g1, g2, g3, g4⟩ := km.good.sends q hq
      obtain ⟨m1, m2, m3, m4⟩ := km.sends q hq
      obtain ⟨i, hi, rfl⟩ := List.getElem_of_mem hq
      have hn := km.sn i _ (List.getElem?_eq_getElem hi)
      refine ⟨?_, g1⟩
      simp only [evOk, inn, Bool.and_eq_true, decide_eq_true_eq]
      rw [g2, g3, hn]
      omega
    · obtain ⟨g1, g2, g3, g4⟩ := km.good.outs o ho
      obtain ⟨i, hi, rfl⟩ := List.getElem_of_mem ho
      obtain ⟨hn, hcn⟩ := km.outs i _ (List.getElem?_eq_getElem hi)
      refine ⟨?_, g1, g2, hcn⟩
      simp only [outOk, inn, Bool.and_eq_true, decide_eq_true_eq]
      rw [g1, g2, hcn, hn]
      omega
    · refine List.pairwise_iff_getElem.2 fun i j hi hj hij e' => ?_
      have h1 := (km.outs i _ (List.getElem?_eq_getElem hi)).1
      have h2 := (km.outs j _ (List.getElem?_eq_getElem hj)).1
      rw [e', h2] at h1
      omega
end Go.Proofs.Ytlinephiindncaa

namespace Go.Proofs.Ytlinephiindncaa
set_option linter.unusedVariables false
set_option linter.unusedSimpArgs false
set_option maxRecDepth 100000
open Go.RowKit
end Go.Proofs.Ytlinephiindncaa

namespace Go.Proofs.Ytlinephiindncaa
set_option linter.unusedVariables false
set_option linter.unusedSimpArgs false
set_option maxRecDepth 100000
open Go.RowKit
theorem Rd.alloc {α : Type} {d : Ty α} {w : World} {F : Nat → Prop} {v : Value} {xs : List α} (h : Rd d w F v xs) (o : Obj) : Rd d (w.alloc o) F v xs := h.below (balloc (Below.refl _ _) o)
theorem simOk_false1 {s : SimD} (h : ¬ s.states.length = 4) : simOk s = false := by simp [simOk, h]
theorem simOk_false2 {s : SimD} (h : evsOk s.queue 100 = false) : simOk s = false := by simp [simOk, h]
theorem simOk_false3 {s : SimD} (h : outsOk s.outs 96 = false) : simOk s = false := by simp [simOk, h]
theorem simOk_false4 {s : SimD} {k : Nat} (hk : k < s.states.length) (h : stOk s.states[k] = false) : simOk s = false := by simp [simOk, all_false hk h]
end Go.Proofs.Ytlinephiindncaa
