/- Texts joined: Pure3, SimP, Ok1. -/
import Derived.Test.YtbcemldiahghcaaGreatJ05
import Derived.Test.YtbcemldiahghcaaGreatJ04
import Derived.Test.YtbcemldiahghcaaGreatJ01
import Derived.Test.YtbcemldiahghcaaGreatJ00
import Derived.Test.YtbcemldiahghcaaGreatJ02
import Derived.IntWalk
namespace Go.Proofs.YtbcemldiahghcaaGreat
set_option linter.unusedVariables false
theorem filter_get {α : Type} (p : α → Bool) (l : List α) (k : Nat) (h : k < l.length) (hp : p l[k] = true) : (l.filter p)[((l.take k).filter p).length]? = some l[k] := by
  have e : l.filter p = (l.take k).filter p ++ (l[k] :: (l.drop (k + 1)).filter p) := by
    conv => lhs; rw [← List.take_append_drop k l]
    rw [List.filter_append, List.drop_eq_getElem_cons h, List.filter_cons, if_pos hp]
  rw [e, List.getElem?_append_right (Nat.le_refl _)]
  simp
theorem filter_step {α : Type} (p : α → Bool) (l : List α) (k : Nat) (h : k < l.length) : ((l.take (k + 1)).filter p).length = ((l.take k).filter p).length + if p l[k] = true then 1 else 0 := by
  rw [List.take_succ_eq_append_getElem h, List.filter_append]
  by_cases hp : p l[k] = true <;> simp [hp]
theorem shift_get {m : Int} {mo sd : List EvD} (h : mo.map (fun q => (q.time, q.to, q.kind, q.arg)) = (sd.filter (fun q => decide (q.time + m ≤ 40))).map (fun q => (q.time + m, q.to, q.kind, q.arg))) (k : Nat) (hk : k < sd.length) (hp : sd[k].time + m ≤ 40) :
    ∃ hn : ((sd.take k).filter (fun q => decide (q.time + m ≤ 40))).length < mo.length, (mo[((sd.take k).filter (fun q => decide (q.time + m ≤ 40))).length]'hn).time = sd[k].time + m ∧ (mo[((sd.take k).filter (fun q => decide (q.time + m ≤ 40))).length]'hn).to = sd[k].to ∧ (mo[((sd.take k).filter (fun q => decide (q.time + m ≤ 40))).length]'hn).kind = sd[k].kind ∧ (mo[((sd.take k).filter (fun q => decide (q.time + m ≤ 40))).length]'hn).arg = sd[k].arg := by
  have h1 := filter_get (fun q : EvD => decide (q.time + m ≤ 40)) sd k hk (decide_eq_true hp)
  have h2 := congrArg (fun l => l[((sd.take k).filter (fun q => decide (q.time + m ≤ 40))).length]?) h
  simp only [List.getElem?_map, h1, Option.map_some] at h2
  have hn : ((sd.take k).filter (fun q => decide (q.time + m ≤ 40))).length < mo.length := by
    refine Nat.lt_of_not_le fun hle => ?_
    rw [List.getElem?_eq_none hle] at h2
    cases h2
  refine ⟨hn, ?_⟩
  rw [List.getElem?_eq_getElem hn] at h2
  simp only [Option.map_some, Option.some.injEq, Prod.mk.injEq] at h2
  exact h2
theorem shift_len {m : Int} {mo sd : List EvD} (h : mo.map (fun q => (q.time, q.to, q.kind, q.arg)) = (sd.filter (fun q => decide (q.time + m ≤ 40))).map (fun q => (q.time + m, q.to, q.kind, q.arg))) : mo.length = (sd.filter (fun q => decide (q.time + m ≤ 40))).length := by
  have := congrArg List.length h; simpa using this
/-- Where something comes of it, all was in form. -/
theorem appRun_valid {a : AppD} {s : StD} {e : EvD} (h : (appRun a s e).1 ≠ st0) : (appOk a && stOk s && evOk e) = true := by
  refine Decidable.byContradiction fun hn => h ?_
  unfold appRun
  rw [if_neg hn]
end Go.Proofs.YtbcemldiahghcaaGreat

namespace Go.Proofs.YtbcemldiahghcaaGreat
set_option linter.unusedVariables false
set_option linter.unusedSectionVars false
structure SimD where
  states : List StD
  queue : List EvD
  outs : List OutD
  deriving DecidableEq, Inhabited
def sim0 : SimD := ⟨[], [], []⟩
def appFirst (p : Int) : EvD := if inn p 0 3 = true then ⟨0, p, -1, 0, p, 0, p⟩ else ⟨0, 0, 0, 0, 0, 0, 0⟩
def simStart : SimD := ⟨[st0, st0, st0, st0], [appFirst 0, appFirst 1, appFirst 2, appFirst 3], []⟩
def ascB {α : Type} (lt : α → α → Bool) : List α → Bool
  | [] => true
  | [_] => true
  | a :: b :: l => lt a b && ascB lt (b :: l)
def evsOk (l : List EvD) (most : Int) : Bool := decide ((l.length : Int) ≤ most) && (l.all evOk && ascB evLess l)
def outsOk (l : List OutD) (most : Int) : Bool := decide ((l.length : Int) ≤ most) && (l.all outOk && ascB outLess l)
def simOk (s : SimD) : Bool := decide (s.states.length = 4) && (s.states.all stOk && (evsOk s.queue 100 && outsOk s.outs 96))
/-- The first event is done. -/
def simNext (apps : List AppD) (s : SimD) : SimD :=
  match s.queue with
  | [] => s
  | e :: rest =>
    ⟨s.states.set e.to.toNat (appRun (apps.getD e.to.toNat ⟨[]⟩) (s.states.getD e.to.toNat st0) e).1,
     evSort (rest ++ (appRun (apps.getD e.to.toNat ⟨[]⟩) (s.states.getD e.to.toNat st0) e).2.1),
     outSort (s.outs ++ (appRun (apps.getD e.to.toNat ⟨[]⟩) (s.states.getD e.to.toNat st0) e).2.2)⟩
def simStepV (apps : List AppD) (s : SimD) : SimD × Bool :=
  match s.queue with
  | [] => (s, false)
  | _ :: _ => if simOk (simNext apps s) = true then (simNext apps s, true) else (s, false)
def simStep (apps : List AppD) (s : SimD) : SimD × Bool := if simOk s = true ∧ appsOk apps = true then simStepV apps s else (sim0, false)
def simLoop (apps : List AppD) (u : Int) : Nat → SimD → SimD
  | 0, s => s
  | n + 1, s =>
    match s.queue with
    | [] => s
    | e :: _ => if e.time < u then (if (simStepV apps s).2 = true then simLoop apps u n (simStepV apps s).1 else s) else s
def simRun (apps : List AppD) (u : Int) : SimD := if appsOk apps = true then simLoop apps u 200 simStart else sim0

theorem ascB_snoc {α : Type} (lt : α → α → Bool) (l : List α) (a : α) : ascB lt (l ++ [a]) = (ascB lt l && match l.getLast? with | none => true | some b => lt b a) := by
  induction l with
  | nil => rfl
  | cons x l ih =>
    cases l with
    | nil => simp [ascB]
    | cons y l =>
      simp only [List.cons_append, ascB] at ih ⊢
      rw [ih, Bool.and_assoc]
      simp [List.getLast?_cons_cons]
theorem ascB_step {α : Type} (lt : α → α → Bool) {l : List α} {k : Nat} (h : k < l.length) : ascB lt (l.take (k + 1)) = (ascB lt (l.take k) && (if k = 0 then true else lt (l[k-1]'(by omega)) l[k])) := by
  rw [List.take_succ_eq_append_getElem h, ascB_snoc]
  congr 1
  by_cases hk : k = 0
  · subst hk; simp
  · rw [if_neg hk]
    have : (l.take k).getLast? = some (l[k-1]'(by omega)) := by
      rw [List.getLast?_eq_getElem?, List.getElem?_take]
      simp only [List.length_take]
      rw [Nat.min_eq_left (by omega), if_pos (by omega), List.getElem?_eq_getElem]
    rw [this]
theorem ascB_take {α : Type} (lt : α → α → Bool) {l : List α} {k : Nat} (h : ascB lt (l.take k) = false) : ascB lt l = false := by
  induction hn : l.length - k generalizing k with
  | zero => rw [List.take_of_length_le (by omega)] at h; exact h
  | succ n ih =>
    have hk : k < l.length := by omega
    refine ih (k := k + 1) ?_ (by omega)
    rw [ascB_step lt hk, h]; rfl
theorem ascB_iff {α : Type} {lt : α → α → Bool} (O : StrictOrd lt) (l : List α) : ascB lt l = true ↔ l.Pairwise (fun a b => lt a b = true) := by
  induction l with
  | nil => simp [ascB]
  | cons a l ih =>
    cases l with
    | nil => simp [ascB]
    | cons b l =>
      simp only [ascB, Bool.and_eq_true, ih]
      constructor
      · rintro ⟨h1, h2⟩
        refine List.pairwise_cons.2 ⟨fun q hq => ?_, h2⟩
        rcases List.mem_cons.1 hq with rfl | hq
        · exact h1
        · exact O.trans _ _ _ h1 ((List.pairwise_cons.1 h2).1 q hq)
      · intro h
        obtain ⟨h1, h2⟩ := List.pairwise_cons.1 h
        exact ⟨h1 b (List.mem_cons_self ..), h2⟩
/-- What is sent and let out is in form, told apart by its number. -/
structure Made (e : EvD) (c : Int) (r : RunD) : Prop where
  good : Good e c r
  sends : ∀ q ∈ r.sends, (0 ≤ q.to ∧ q.to ≤ 3) ∧ (0 ≤ q.n) ∧ (0 ≤ q.kind ∧ q.kind ≤ 3) ∧ (0 ≤ q.arg ∧ q.arg ≤ 999)
  outs : ∀ (i : Nat) o, r.outs[i]? = some o → o.n = i ∧ o.count = c
  sn : ∀ (i : Nat) q, r.sends[i]? = some q → q.n = i
theorem doOp_made {e : EvD} {c : Int} {o : OpD} {r : RunD} (h : Made e c r) (ho : opOk o = true) : Made e c (doOp e c o r).1 := by
  refine ⟨doOp_good h.good ho, ?_, ?_, ?_⟩
  · rw [doOp_sends]
    split
    · rename_i h6
      intro q hq
      rcases List.mem_append.1 hq with hq | hq
      · exact h.sends q hq
      · simp only [List.mem_singleton] at hq
        subst hq
        have h3 := ho
        simp [opOk, inn, h6.1] at h3
        have h4 := h.good.run.get o.e
        exact ⟨⟨h3.1.1, h3.1.2⟩, by simp, ⟨h3.2.1.1, h3.2.1.2⟩, h4⟩
    · exact h.sends
  · rw [doOp_outs]
    split
    · intro i q hq
      rw [List.getElem?_append] at hq
      split at hq
      · exact h.outs i q hq
      · rename_i hge
        have hi : i = r.outs.length := by have := (List.getElem?_eq_some_iff.1 hq).1; simp at this; omega
        subst hi
        simp only [Nat.sub_self, List.getElem?_cons_zero, Option.some.injEq] at hq
        subst hq
        exact ⟨rfl, rfl⟩
    · exact h.outs
  · rw [doOp_sends]
    split
    · intro i q hq
      rw [List.getElem?_append] at hq
      split at hq
      · exact h.sn i q hq
      · rename_i hge
        have hi : i = r.sends.length := by have := (List.getElem?_eq_some_iff.1 hq).1; simp at this; omega
        subst hi
        simp only [Nat.sub_self, List.getElem?_cons_zero, Option.some.injEq] at hq
        subst hq
        rfl
    · exact h.sn
theorem doOps_made {e : EvD} {c : Int} : ∀ (n : Nat) (l : List OpD) (r : RunD), (∀ o ∈ l, opOk o = true) → Made e c r → Made e c (doOps e c n l r)
  | 0, _, r, _, h => by simpa [doOps] using h
  | n + 1, [], r, _, h => by simpa [doOps] using h
  | n + 1, o :: l, r, hl, h => by
    simp only [doOps]
    exact doOps_made n _ _ (fun q hq => hl q (List.mem_cons_of_mem _ (List.mem_of_mem_drop hq))) (doOp_made h (hl o (List.mem_cons_self ..)))
/-- What comes of an event that is in form, by a program that is. -/
structure Comes (s : StD) (e : EvD) (r : StD × List EvD × List OutD) : Prop where
  st : stOk r.1 = true
  way : (s.c = 12 ∧ r = (s, [], [])) ∨ (s.c < 12 ∧ r.1.c = s.c + 1 ∧ r.2.1.length ≤ 2 ∧ r.2.2.length ≤ 2)
  sends : ∀ q ∈ r.2.1, evOk q = true ∧ e.time < q.time
  outs : ∀ o ∈ r.2.2, outOk o = true ∧ o.time = e.time ∧ o.proc = e.to ∧ o.count = s.c
  nodup : r.2.2.Nodup
theorem appRun_comes {a : AppD} {s : StD} {e : EvD} (ha : appOk a = true) (hs : stOk s = true) (he : evOk e = true) : Comes s e (appRun a s e) := by
  have hr0 := stOk_run hs
  have hc : 0 ≤ s.c ∧ s.c ≤ 12 := by simp [stOk, inn] at hs; exact hs.2
  have hev := he
  simp only [evOk, inn, Bool.and_eq_true, decide_eq_true_eq] at hev
  unfold appRun
  rw [if_pos (by simp [ha, hs, he])]
  split
  · rename_i h12
    exact ⟨hs, Or.inl ⟨h12, rfl⟩, by simp, by simp, by simp⟩
  · rename_i h12
    have hm0 : Made e s.c ⟨s.x, s.y, [], []⟩ := ⟨⟨hr0, by simp, by simp⟩, by simp, by simp, by simp⟩
    have hasc : ascR a.rules = true := by simp only [appOk, Bool.and_eq_true] at ha; exact ha.2
    have key : Made e s.c (doRules e s.c a.rules ⟨s.x, s.y, [], []⟩) ∧ (doRules e s.c a.rules ⟨s.x, s.y, [], []⟩).sends.length ≤ 2 ∧ (doRules e s.c a.rules ⟨s.x, s.y, [], []⟩).outs.length ≤ 2 := by
      rcases doRules_one e s.c a.rules ⟨s.x, s.y, [], []⟩ hasc with h1 | ⟨q, hq, _, h1⟩
      · rw [h1]; exact ⟨hm0, by simp, by simp⟩
      · rw [h1]
        have ho : opsOk q.ops = true := by
          simp only [appOk, Bool.and_eq_true] at ha
          have := List.all_eq_true.1 ha.1.2 q hq
          simp only [ruleOk, Bool.and_eq_true] at this
          exact this.2
        have ho' := ho
        simp only [opsOk, Bool.and_eq_true, decide_eq_true_eq] at ho'
        obtain ⟨c1, c2⟩ := doOps_cnt e s.c q.ops.length q.ops ⟨s.x, s.y, [], []⟩
        simp only [List.length_nil] at c1 c2
        exact ⟨doOps_made _ _ _ (fun o ho2 => List.all_eq_true.1 ho'.1.1.1 o ho2) hm0, by omega, by omega⟩
    generalize doRules e s.c a.rules ⟨s.x, s.y, [], []⟩ = r at key
    obtain ⟨km, k1, k2⟩ := key
    show Comes s e (⟨r.x, r.y, s.c + 1⟩, r.sends, r.outs)
    refine ⟨?_, Or.inr ⟨by omega, rfl, k1, k2⟩, fun q (hq : q ∈ r.sends) => ?_, fun o (ho : o ∈ r.outs) => ?_, ?_⟩
    · have := km.good.run
      simp only [stOk, inn, Bool.and_eq_true, decide_eq_true_eq]
      exact ⟨⟨⟨this.x0, this.x1⟩, this.y0, this.y1⟩, by omega, by omega⟩
    · obtain ⟨g1, g2, g3, g4⟩ := km.good.sends q hq
      obtain ⟨m1, m2, m3, m4⟩ := km.sends q hq
      obtain ⟨i, hi, rfl⟩ := List.getElem_of_mem hq
      have hn := km.sn i _ (List.getElem?_eq_getElem hi)
      refine ⟨?_, g1⟩
      simp only [evOk, inn, Bool.and_eq_true, decide_eq_true_eq]
      rw [g2, g3, hn]
      omega
    · obtain ⟨g1, g2, g3, g4⟩ := km.good.outs o ho
      obtain ⟨i, hi, rfl⟩ := List.getElem_of_mem ho
      obtain ⟨hn, hcn⟩ := km.outs i _ (List.getElem?_eq_getElem hi)
      refine ⟨?_, g1, g2, hcn⟩
      simp only [outOk, inn, Bool.and_eq_true, decide_eq_true_eq]
      rw [g1, g2, hcn, hn]
      omega
    · refine List.pairwise_iff_getElem.2 fun i j hi hj hij e' => ?_
      have h1 := (km.outs i _ (List.getElem?_eq_getElem hi)).1
      have h2 := (km.outs j _ (List.getElem?_eq_getElem hj)).1
      rw [e', h2] at h1
      omega
end Go.Proofs.YtbcemldiahghcaaGreat

namespace Go.Proofs.YtbcemldiahghcaaGreat
set_option linter.unusedVariables false
set_option linter.unusedSimpArgs false
set_option maxRecDepth 100000
open Go.RowKit
theorem cnt_snoc (d : Int) {l : List OpD} {k : Nat} (h : k < l.length) : cnt d (l.take (k + 1)) = cnt d (l.take k) + if l[k].d = d then 1 else 0 := by
  rw [List.take_succ_eq_append_getElem h]
  unfold cnt
  rw [List.filter_append, List.length_append]
  by_cases e : l[k].d = d <;> simp [e]
theorem cnt_le (d : Int) (l : List OpD) (k : Nat) : cnt d (l.take k) ≤ k := by
  unfold cnt
  exact Nat.le_trans (List.length_filter_le _ _) (List.length_take_le _ _)
theorem all_snoc {α : Type} {p : α → Bool} {l : List α} {k : Nat} (h : k < l.length) (ha : (l.take k).all p = true) (hp : p l[k] = true) : (l.take (k + 1)).all p = true := by
  rw [List.take_succ_eq_append_getElem h, List.all_append, ha]; simpa using hp
theorem all_false {α : Type} {p : α → Bool} {l : List α} {k : Nat} (h : k < l.length) (hp : p l[k] = false) : l.all p = false := by
  rw [Bool.eq_false_iff]; intro ha
  have := List.all_eq_true.1 ha l[k] (List.getElem_mem h)
  rw [hp] at this; cases this
set_option maxHeartbeats 2000000 in
theorem l1RuleOk_c (kd : Int) (v : Value) (ops : List OpD) (F : Nat → Prop) (w : World) (h : Rd tOp w F v ops) :
    Calls Tryz.prog 79 #[.agg #[.int .i64 kd, v]] w fun e w' => e = .returned (.bool (opsOk ops)) ∧ Below w.heap.size w w' := by
  obtain ⟨A, cp, rfl, -, hlen, -⟩ := id h
  go_enter Tryz.func79, Tryz.ntmps79
  go_wp2
  go_loopw [3, 4, 5] (fun s o i wr => ∃ k : Nat, i = .int .i64 k ∧ k ≤ ops.length ∧ s = .int .i64 (cnt 6 (ops.take k) : Nat) ∧ o = .int .i64 (cnt 7 (ops.take k) : Nat) ∧ Hid ((ops.take k).all opOk = true) ∧ Below (w.heap.size + 1) (w.alloc (.cells #[.int .i64 kd, .slice A ops.length cp] 120)) wr) (fun _ _ i _ => ops.length - (intOf i).toNat)
  case atStart => exact ⟨0, rfl, Nat.zero_le _, rfl, rfl, rfl, Below.refl _ _⟩
  case round =>
    obtain ⟨k, rfl, hk, rfl, rfl, hall, hb⟩ := hrel
    have hc0 : wr.cell? ⟨w.heap.size, 1, none⟩ = some (.slice A ops.length cp) := by rw [hb.cell (by simp)]; simp
    by_cases hlt : k < ops.length
    · have hrd : Rd tOp wr F (.slice A ops.length cp) ops := (h.below (balloc (Below.refl _ _) _)).below (by simpa using hb)
      obtain ⟨b0, o0, rfl, hb0, a0, a1, a2, a3, a4⟩ := op_at hrd k hlt
      have hsz : w.heap.size < wr.heap.size := by have := hb.size; simp at this; omega
      have n6 := cnt_le 6 ops k
      have n7 := cnt_le 7 ops k
      by_cases hop : opOk ops[k] = true
      · have hop' : opOk ⟨ops[k].d, ops[k].a, ops[k].b, ops[k].c, ops[k].e⟩ = true := hop
        clear hop
        have al := hid (all_snoc hlt hall.out hop')
        by_cases d6 : ops[k].d = 6
        · have s6 : cnt 6 (ops.take (k + 1)) = cnt 6 (ops.take k) + 1 := by rw [cnt_snoc 6 hlt, if_pos d6]
          have s7 : cnt 7 (ops.take (k + 1)) = cnt 7 (ops.take k) := by rw [cnt_snoc 7 hlt, if_neg (by omega)]; rfl
          have S6 := hid s6; have S7 := hid s7; clear s6 s7
          have e6 : (ops[k].d == 6) = true := by simpa using d6
          have e7 : (ops[k].d == 7) = false := by simp [d6]
          clear d6
          go_wp2_with (go_at_call 125; refine (l1OpOk_c _ _ _ _ _ _).mono ?_; rintro e w1 ⟨rfl, hb1⟩; obtain ⟨kc, kf⟩ := bcell hb1)
          go_roundw
          case rel => exact ⟨k + 1, by go_num, by omega, by rw [S6.out]; go_num, by rw [S7.out], al, bthen hb hb1 hsz⟩
          case measure => simp [intOf]; omega
        · by_cases d7 : ops[k].d = 7
          · have s6 : cnt 6 (ops.take (k + 1)) = cnt 6 (ops.take k) := by rw [cnt_snoc 6 hlt, if_neg d6]; rfl
            have s7 : cnt 7 (ops.take (k + 1)) = cnt 7 (ops.take k) + 1 := by rw [cnt_snoc 7 hlt, if_pos d7]
            have S6 := hid s6; have S7 := hid s7; clear s6 s7
            have e6 : (ops[k].d == 6) = false := by simpa using d6
            have e7 : (ops[k].d == 7) = true := by simp [d7]
            clear d6 d7
            go_wp2_with (go_at_call 125; refine (l1OpOk_c _ _ _ _ _ _).mono ?_; rintro e w1 ⟨rfl, hb1⟩; obtain ⟨kc, kf⟩ := bcell hb1)
            go_roundw
            case rel => exact ⟨k + 1, by go_num, by omega, by rw [S6.out], by rw [S7.out]; go_num, al, bthen hb hb1 hsz⟩
            case measure => simp [intOf]; omega
          · have s6 : cnt 6 (ops.take (k + 1)) = cnt 6 (ops.take k) := by rw [cnt_snoc 6 hlt, if_neg d6]; rfl
            have s7 : cnt 7 (ops.take (k + 1)) = cnt 7 (ops.take k) := by rw [cnt_snoc 7 hlt, if_neg d7]; rfl
            have S6 := hid s6; have S7 := hid s7; clear s6 s7
            have e6 : (ops[k].d == 6) = false := by simpa using d6
            have e7 : (ops[k].d == 7) = false := by simpa using d7
            clear d6 d7
            go_wp2_with (go_at_call 125; refine (l1OpOk_c _ _ _ _ _ _).mono ?_; rintro e w1 ⟨rfl, hb1⟩; obtain ⟨kc, kf⟩ := bcell hb1)
            go_roundw
            case rel => exact ⟨k + 1, by go_num, by omega, by rw [S6.out], by rw [S7.out], al, bthen hb hb1 hsz⟩
            case measure => simp [intOf]; omega
      · have hop' : opOk ⟨ops[k].d, ops[k].a, ops[k].b, ops[k].c, ops[k].e⟩ = false := by simpa using hop
        clear hop
        have hf : opsOk ops = false := by simp [opsOk, all_false hlt hop']
        have HF := hid hf; clear hf
        go_wp2_with (go_at_call 125; refine (l1OpOk_c _ _ _ _ _ _).mono ?_; rintro e w1 ⟨rfl, hb1⟩; obtain ⟨kc, kf⟩ := bcell hb1)
        go_ret
        exact ⟨by rw [HF.out]; rfl, ((Below.refl _ _).alloc (Nat.le_refl _) _).trans ((bthen hb hb1 hsz).mono (by simp))⟩
    · have hkl : k = ops.length := by omega
      subst hkl
      have hall' := hall.out
      rw [List.take_length] at hall'
      have hf : opsOk ops = (decide (ops.length ≤ 8) && (decide (cnt 6 ops ≤ 2) && decide (cnt 7 ops ≤ 2))) := by simp [opsOk, hall', Bool.and_assoc]
      have HF := hid hf; clear hf hall' hall
      simp only [List.take_length]
      by_cases q1 : ops.length ≤ 8 <;> by_cases q2 : cnt 6 ops ≤ 2 <;> by_cases q3 : cnt 7 ops ≤ 2
      all_goals
        go_wp2
        go_ret
        exact ⟨by rw [HF.out]; (simp [q1, q2, q3]) <;> omega, ((Below.refl _ _).alloc (Nat.le_refl _) _).trans (hb.mono (by simp))⟩
theorem ascR_step {l : List RuleD} {k : Nat} (h : k < l.length) : ascR (l.take (k + 1)) = (ascR (l.take k) && (if k = 0 then true else decide ((l[k-1]'(by omega)).kind < l[k].kind))) := by
  rw [List.take_succ_eq_append_getElem h, ascR_snoc]
  congr 1
  cases k with
  | zero => simp
  | succ k =>
    have h0 : k < l.length := by omega
    rw [List.take_succ_eq_append_getElem h0, List.getLast?_concat]
    simp
theorem all_take {α : Type} {p : α → Bool} {l : List α} {k : Nat} (h : (l.take (k + 1)).all p = false) : l.all p = false := by
  rw [← List.take_append_drop (k + 1) l, List.all_append, h]; rfl
theorem ascR_take {l : List RuleD} {k : Nat} (h : ascR (l.take k) = false) : ascR l = false := by
  have key : ∀ (m : List RuleD) (n : List RuleD), ascR m = false → ascR (m ++ n) = false := by
    intro m n
    induction n generalizing m with
    | nil => intro hm; simpa using hm
    | cons a n ih => intro hm; rw [show m ++ a :: n = (m ++ [a]) ++ n by simp]; exact ih _ (by rw [ascR_snoc, hm]; rfl)
  have := key (l.take k) (l.drop k) h
  rwa [List.take_append_drop] at this
set_option maxHeartbeats 4000000 in
theorem AppOk_c (v : Value) (apps : List AppD) (F : Nat → Prop) (w : World) (h : Rd tApp w F v apps) :
    Calls Tryz.prog 35 #[v] w fun e w' => e = .returned (.bool (appsOk apps)) ∧ Below w.heap.size w w' := by
  obtain ⟨A, cp, rfl, -, hlen, -⟩ := id h
  by_cases h4 : apps.length = 4
  · have hb4 : (((apps.length : Nat) : Int) != 4) = false := by simp [h4]
    have H4 := hid h4
    have h4' : apps.length ≤ 4 := by omega
    clear h4
    go_enter Tryz.func35, Tryz.ntmps35
    go_wp2
    go_loopw [3] (fun i wr => ∃ i' : Nat, i = .int .i64 i' ∧ i' ≤ apps.length ∧ Hid ((apps.take i').all appOk = true) ∧ Below w.heap.size w wr) (fun i _ => apps.length - (intOf i).toNat)
    case atStart => exact ⟨0, rfl, Nat.zero_le _, rfl, Below.refl _ _⟩
    case round =>
      obtain ⟨i, rfl, hi, hall, hb0⟩ := hrel
      by_cases hlt : i < apps.length
      · have hrd : Rd tApp wr F (.slice A apps.length cp) apps := h.below hb0
        obtain ⟨b0, o0, A1, c1, rfl, hbb0, a0, hrr⟩ := app_at hrd i hlt
        obtain ⟨-, -, hl1⟩ := hrr.len_
        by_cases hr4 : apps[i].rules.length ≤ 4
        · have hg4 : decide ((apps[i].rules.length : Int) > 4) = false := by simp; omega
          go_wp2
          obtain ⟨wo, hwo⟩ : ∃ wo, wo = wr := ⟨_, rfl⟩
          go_loopw [5] (fun k w2 => ∃ k' : Nat, k = .int .i64 k' ∧ k' ≤ apps[i].rules.length ∧ Hid ((apps[i].rules.take k').all ruleOk = true) ∧ Hid (ascR (apps[i].rules.take k') = true) ∧ Below wo.heap.size wo w2) (fun k _ => apps[i].rules.length - (intOf k).toNat)
          case atStart => subst hwo; exact ⟨0, rfl, Nat.zero_le _, rfl, rfl, Below.refl _ _⟩
          case round =>
            obtain ⟨k, rfl, hk, hal, has, hb⟩ := hrel
            subst hwo
            by_cases hkl : k < apps[i].rules.length
            · have hrk := hrr.below hb
              obtain ⟨b1, o1, A2, c2, hA1, hbb1, k0, k1, hop⟩ := rule_at hrk k hkl
              subst hA1
              by_cases q1 : inn apps[i].rules[k].kind 0 3 = true
              · by_cases q2 : opsOk apps[i].rules[k].ops = true
                · have hrk2 : ruleOk apps[i].rules[k] = true := by simp [ruleOk, q1, q2]
                  have al := hid (all_snoc hkl hal.out hrk2)
                  clear hrk2
                  by_cases q3 : k = 0
                  · have as' := hid (show ascR (apps[i].rules.take (k + 1)) = true by rw [ascR_step hkl, has.out, if_pos q3]; rfl)
                    have hkd : decide ((k : Int) > 0) = false := by simp; omega
                    have hkn : decide (0 < k) = false := by simp; omega
                    clear q3
                    go_wp2
                    refine region_plan (fun w' => Below wr.heap.size wr w') [(0, true), (1, true), (2, true), (3, true), (4, true), (5, false), (6, true), (7, true), (8, true), (9, true), (10, true), (11, true), (12, false), (13, true), (14, true), (15, true), (16, true), (17, true), (18, true), (19, true), (20, true), (21, true), (22, true), (23, true), (24, true), (25, true), (26, true), (27, true), (28, true), (29, true), (30, true), (31, true), (32, true)] (by kernel_rfl) (by kernel_rfl) (fun _ _ d _ _ h => by cases d <;> exact h) ?_
                    have HS := (Below.refl wr.heap.size wr).drew
                    iterate 5 (first | (refine seq_take (v := ?_) (by rfl) HS (by rfl) ?_ ?_; rotate_left; (focus (intro wS hS; obtain ⟨kc, kf⟩ := bcell hS; go_simp; (try (with_reducible rfl)); done)); (intro K hK; go_simp; refine hK _ ?_; clear hK K)) | (refine seq_skip (by rfl) HS (by rfl) ?_; (intro K hK; go_simp; refine hK _ ?_; clear hK K)))
                    refine seq_do (by rfl) (by rfl) (fun K hK => ?_)
                    go_simp; refine (l6In_c _ _ _ _).mono ?_; rintro e w1 ⟨he, rfl⟩; rw [q1] at he; subst he; refine hK _ _ (Or.inr HS) ?_; clear hK K
                    iterate 6 (first | (refine seq_take (v := ?_) (by rfl) HS (by rfl) ?_ ?_; rotate_left; (focus (intro wS hS; obtain ⟨kc, kf⟩ := bcell hS; go_simp; (try (with_reducible rfl)); done)); (intro K hK; go_simp; refine hK _ ?_; clear hK K)) | (refine seq_skip (by rfl) HS (by rfl) ?_; (intro K hK; go_simp; refine hK _ ?_; clear hK K)))
                    refine seq_do (by rfl) (by rfl) (fun K hK => ?_)
                    go_simp; refine (l1RuleOk_c _ _ _ F _ (hop.below HS)).mono ?_; rintro e w1 ⟨he, hb1⟩; rw [q2] at he; subst he; have HS1 := bthen' HS hb1; refine hK _ _ (Or.inr HS1) ?_; clear hK K HS; have HS := HS1; clear HS1
                    iterate 20 (first | (refine seq_take (v := ?_) (by rfl) HS (by rfl) ?_ ?_; rotate_left; (focus (intro wS hS; obtain ⟨kc, kf⟩ := bcell hS; go_simp; (try (with_reducible rfl)); done)); (intro K hK; go_simp; refine hK _ ?_; clear hK K)) | (refine seq_skip (by rfl) HS (by rfl) ?_; (intro K hK; go_simp; refine hK _ ?_; clear hK K)))
                    simp only [wpSeq]
                    go_wp2
                    go_roundw
                    case rel => exact ⟨k + 1, by go_num, by omega, al, as', bthen' hb HS⟩
                    case measure => simp [intOf]; omega
                  · have hk0 : 0 < k := by omega
                    have hkd : decide ((k : Int) > 0) = true := by simp; omega
                    have hkn : decide (0 < k) = true := by simp; omega
                    obtain ⟨b2, o2, A3, c3, hA2, hbb2, z0, z1, -⟩ := rule_at hrk (k - 1) (by omega)
                    injection hA2 with hA2
                    injection hA2 with e1 e2 _
                    subst e1 e2
                    have hck : ((k : Int) - 1).toNat = k - 1 := by omega
                    have p1 : (0 : Int) ≤ (k : Int) - 1 := by omega
                    have p2 : (k : Int) - 1 < (apps[i].rules.length : Int) := by omega
                    have p3 : (1 : Int) ≤ (k : Int) := by omega
                    have p4 : 1 ≤ k := by omega
                    have p5 : IntKind.i64.wrap ((k : Int) - 1) = (k : Int) - 1 := IntWalk.i64_in _ (by omega)
                    clear q3
                    by_cases q4 : (apps[i].rules[k-1]'(by omega)).kind < apps[i].rules[k].kind
                    · have as' := hid (show ascR (apps[i].rules.take (k + 1)) = true by rw [ascR_step hkl, has.out, if_neg (by omega)]; simpa using q4)
                      have hq : decide (apps[i].rules[k].kind ≤ (apps[i].rules[k-1]'(by omega)).kind) = false := by simp; omega
                      go_wp2
                      refine region_plan (fun w' => Below wr.heap.size wr w') [(0, true), (1, true), (2, true), (3, true), (4, true), (5, false), (6, true), (7, true), (8, true), (9, true), (10, true), (11, true), (12, false), (13, true), (14, true), (15, true), (16, true), (17, true), (18, true), (19, true), (20, true), (21, true), (22, true), (23, true), (24, true), (25, true), (26, true), (27, true), (28, true), (29, true), (30, true), (31, true), (32, true)] (by kernel_rfl) (by kernel_rfl) (fun _ _ d _ _ h => by cases d <;> exact h) ?_
                      have HS := (Below.refl wr.heap.size wr).drew
                      iterate 5 (first | (refine seq_take (v := ?_) (by rfl) HS (by rfl) ?_ ?_; rotate_left; (focus (intro wS hS; obtain ⟨kc, kf⟩ := bcell hS; go_simp; (try (with_reducible rfl)); done)); (intro K hK; go_simp; refine hK _ ?_; clear hK K)) | (refine seq_skip (by rfl) HS (by rfl) ?_; (intro K hK; go_simp; refine hK _ ?_; clear hK K)))
                      refine seq_do (by rfl) (by rfl) (fun K hK => ?_)
                      go_simp; refine (l6In_c _ _ _ _).mono ?_; rintro e w1 ⟨he, rfl⟩; rw [q1] at he; subst he; refine hK _ _ (Or.inr HS) ?_; clear hK K
                      iterate 6 (first | (refine seq_take (v := ?_) (by rfl) HS (by rfl) ?_ ?_; rotate_left; (focus (intro wS hS; obtain ⟨kc, kf⟩ := bcell hS; go_simp; (try (with_reducible rfl)); done)); (intro K hK; go_simp; refine hK _ ?_; clear hK K)) | (refine seq_skip (by rfl) HS (by rfl) ?_; (intro K hK; go_simp; refine hK _ ?_; clear hK K)))
                      refine seq_do (by rfl) (by rfl) (fun K hK => ?_)
                      go_simp; refine (l1RuleOk_c _ _ _ F _ (hop.below HS)).mono ?_; rintro e w1 ⟨he, hb1⟩; rw [q2] at he; subst he; have HS1 := bthen' HS hb1; refine hK _ _ (Or.inr HS1) ?_; clear hK K HS; have HS := HS1; clear HS1
                      iterate 20 (first | (refine seq_take (v := ?_) (by rfl) HS (by rfl) ?_ ?_; rotate_left; (focus (intro wS hS; obtain ⟨kc, kf⟩ := bcell hS; go_simp; (try (with_reducible rfl)); done)); (intro K hK; go_simp; refine hK _ ?_; clear hK K)) | (refine seq_skip (by rfl) HS (by rfl) ?_; (intro K hK; go_simp; refine hK _ ?_; clear hK K)))
                      simp only [wpSeq]
                      go_wp2
                      go_roundw
                      case rel => exact ⟨k + 1, by go_num, by omega, al, as', bthen' hb HS⟩
                      case measure => simp [intOf]; omega
                    · have hf : appsOk apps = false := by
                        have h1 : ascR (apps[i].rules.take (k + 1)) = false := by rw [ascR_step hkl, has.out, if_neg (by omega)]; simpa using q4
                        simp [appsOk, all_false hlt (show appOk apps[i] = false by simp [appOk, ascR_take h1])]
                      have HF := hid hf; clear hf
                      have hq : decide (apps[i].rules[k].kind ≤ (apps[i].rules[k-1]'(by omega)).kind) = true := by simp; omega
                      go_wp2
                      refine region_plan (fun w' => Below wr.heap.size wr w') [(0, true), (1, true), (2, true), (3, true), (4, true), (5, false), (6, true), (7, true), (8, true), (9, true), (10, true), (11, true), (12, false), (13, true), (14, true), (15, true), (16, true), (17, true), (18, true), (19, true), (20, true), (21, true), (22, true), (23, true), (24, true), (25, true), (26, true), (27, true), (28, true), (29, true), (30, true), (31, true), (32, true)] (by kernel_rfl) (by kernel_rfl) (fun _ _ d _ _ h => by cases d <;> exact h) ?_
                      have HS := (Below.refl wr.heap.size wr).drew
                      iterate 5 (first | (refine seq_take (v := ?_) (by rfl) HS (by rfl) ?_ ?_; rotate_left; (focus (intro wS hS; obtain ⟨kc, kf⟩ := bcell hS; go_simp; (try (with_reducible rfl)); done)); (intro K hK; go_simp; refine hK _ ?_; clear hK K)) | (refine seq_skip (by rfl) HS (by rfl) ?_; (intro K hK; go_simp; refine hK _ ?_; clear hK K)))
                      refine seq_do (by rfl) (by rfl) (fun K hK => ?_)
                      go_simp; refine (l6In_c _ _ _ _).mono ?_; rintro e w1 ⟨he, rfl⟩; rw [q1] at he; subst he; refine hK _ _ (Or.inr HS) ?_; clear hK K
                      iterate 6 (first | (refine seq_take (v := ?_) (by rfl) HS (by rfl) ?_ ?_; rotate_left; (focus (intro wS hS; obtain ⟨kc, kf⟩ := bcell hS; go_simp; (try (with_reducible rfl)); done)); (intro K hK; go_simp; refine hK _ ?_; clear hK K)) | (refine seq_skip (by rfl) HS (by rfl) ?_; (intro K hK; go_simp; refine hK _ ?_; clear hK K)))
                      refine seq_do (by rfl) (by rfl) (fun K hK => ?_)
                      go_simp; refine (l1RuleOk_c _ _ _ F _ (hop.below HS)).mono ?_; rintro e w1 ⟨he, hb1⟩; rw [q2] at he; subst he; have HS1 := bthen' HS hb1; refine hK _ _ (Or.inr HS1) ?_; clear hK K HS; have HS := HS1; clear HS1
                      iterate 20 (first | (refine seq_take (v := ?_) (by rfl) HS (by rfl) ?_ ?_; rotate_left; (focus (intro wS hS; obtain ⟨kc, kf⟩ := bcell hS; go_simp; (try (with_reducible rfl)); done)); (intro K hK; go_simp; refine hK _ ?_; clear hK K)) | (refine seq_skip (by rfl) HS (by rfl) ?_; (intro K hK; go_simp; refine hK _ ?_; clear hK K)))
                      simp only [wpSeq]
                      go_wp2
                      go_ret
                      exact ⟨by rw [HF.out]; rfl, bthen' hb0 (bthen' hb HS)⟩
                · have q2' : opsOk apps[i].rules[k].ops = false := by simpa using q2
                  clear q2
                  have hf : appsOk apps = false := by
                    simp [appsOk, all_false hlt (show appOk apps[i] = false by simp [appOk, all_false hkl (show ruleOk apps[i].rules[k] = false by simp [ruleOk, q2'])])]
                  have HF := hid hf; clear hf
                  go_wp2
                  refine region_plan (fun w' => Below wr.heap.size wr w') [(0, true), (1, true), (2, true), (3, true), (4, true), (5, false), (6, true), (7, true), (8, true), (9, true), (10, true), (11, true), (12, false), (13, true), (14, true), (15, true), (16, true), (17, true), (18, true), (19, true), (20, true), (21, true), (22, true), (23, true), (24, true), (25, true), (26, true), (27, true), (28, true), (29, true), (30, true), (31, true), (32, true)] (by kernel_rfl) (by kernel_rfl) (fun _ _ d _ _ h => by cases d <;> exact h) ?_
                  have HS := (Below.refl wr.heap.size wr).drew
                  iterate 5 (first | (refine seq_take (v := ?_) (by rfl) HS (by rfl) ?_ ?_; rotate_left; (focus (intro wS hS; obtain ⟨kc, kf⟩ := bcell hS; go_simp; (try (with_reducible rfl)); done)); (intro K hK; go_simp; refine hK _ ?_; clear hK K)) | (refine seq_skip (by rfl) HS (by rfl) ?_; (intro K hK; go_simp; refine hK _ ?_; clear hK K)))
                  refine seq_do (by rfl) (by rfl) (fun K hK => ?_)
                  go_simp; refine (l6In_c _ _ _ _).mono ?_; rintro e w1 ⟨he, rfl⟩; rw [q1] at he; subst he; refine hK _ _ (Or.inr HS) ?_; clear hK K
                  iterate 6 (first | (refine seq_take (v := ?_) (by rfl) HS (by rfl) ?_ ?_; rotate_left; (focus (intro wS hS; obtain ⟨kc, kf⟩ := bcell hS; go_simp; (try (with_reducible rfl)); done)); (intro K hK; go_simp; refine hK _ ?_; clear hK K)) | (refine seq_skip (by rfl) HS (by rfl) ?_; (intro K hK; go_simp; refine hK _ ?_; clear hK K)))
                  refine seq_do (by rfl) (by rfl) (fun K hK => ?_)
                  go_simp; refine (l1RuleOk_c _ _ _ F _ (hop.below HS)).mono ?_; rintro e w1 ⟨he, hb1⟩; rw [q2'] at he; subst he; have HS1 := bthen' HS hb1; refine hK _ _ (Or.inr HS1) ?_; clear hK K HS; have HS := HS1; clear HS1
                  iterate 20 (first | (refine seq_take (v := ?_) (by rfl) HS (by rfl) ?_ ?_; rotate_left; (focus (intro wS hS; obtain ⟨kc, kf⟩ := bcell hS; go_simp; (try (with_reducible rfl)); done)); (intro K hK; go_simp; refine hK _ ?_; clear hK K)) | (refine seq_skip (by rfl) HS (by rfl) ?_; (intro K hK; go_simp; refine hK _ ?_; clear hK K)))
                  simp only [wpSeq]
                  go_wp2
                  go_ret
                  exact ⟨by rw [HF.out]; rfl, bthen' hb0 (bthen' hb HS)⟩
              · have q1' : inn apps[i].rules[k].kind 0 3 = false := by simpa using q1
                clear q1
                have hf : appsOk apps = false := by
                  simp [appsOk, all_false hlt (show appOk apps[i] = false by simp [appOk, all_false hkl (show ruleOk apps[i].rules[k] = false by simp [ruleOk, q1'])])]
                have HF := hid hf; clear hf
                go_wp2
                refine region_plan (fun w' => Below wr.heap.size wr w') [(0, true), (1, true), (2, true), (3, true), (4, true), (5, false), (6, true), (7, true), (8, true), (9, true), (10, true), (11, true), (12, false), (13, true), (14, true), (15, true), (16, true), (17, true), (18, true), (19, true), (20, true), (21, true), (22, true), (23, true), (24, true), (25, true), (26, true), (27, true), (28, true), (29, true), (30, true), (31, true), (32, true)] (by kernel_rfl) (by kernel_rfl) (fun _ _ d _ _ h => by cases d <;> exact h) ?_
                have HS := (Below.refl wr.heap.size wr).drew
                iterate 5 (first | (refine seq_take (v := ?_) (by rfl) HS (by rfl) ?_ ?_; rotate_left; (focus (intro wS hS; obtain ⟨kc, kf⟩ := bcell hS; go_simp; (try (with_reducible rfl)); done)); (intro K hK; go_simp; refine hK _ ?_; clear hK K)) | (refine seq_skip (by rfl) HS (by rfl) ?_; (intro K hK; go_simp; refine hK _ ?_; clear hK K)))
                refine seq_do (by rfl) (by rfl) (fun K hK => ?_)
                go_simp; refine (l6In_c _ _ _ _).mono ?_; rintro e w1 ⟨he, rfl⟩; rw [q1'] at he; subst he; refine hK _ _ (Or.inr HS) ?_; clear hK K
                iterate 6 (first | (refine seq_take (v := ?_) (by rfl) HS (by rfl) ?_ ?_; rotate_left; (focus (intro wS hS; obtain ⟨kc, kf⟩ := bcell hS; go_simp; (try (with_reducible rfl)); done)); (intro K hK; go_simp; refine hK _ ?_; clear hK K)) | (refine seq_skip (by rfl) HS (by rfl) ?_; (intro K hK; go_simp; refine hK _ ?_; clear hK K)))
                refine seq_dont (by rfl) (by rfl) (fun K hK => ?_); go_simp; refine hK _ _ (Or.inr HS) ?_; clear hK K
                iterate 20 (first | (refine seq_take (v := ?_) (by rfl) HS (by rfl) ?_ ?_; rotate_left; (focus (intro wS hS; obtain ⟨kc, kf⟩ := bcell hS; go_simp; (try (with_reducible rfl)); done)); (intro K hK; go_simp; refine hK _ ?_; clear hK K)) | (refine seq_skip (by rfl) HS (by rfl) ?_; (intro K hK; go_simp; refine hK _ ?_; clear hK K)))
                simp only [wpSeq]
                go_wp2
                go_ret
                exact ⟨by rw [HF.out]; rfl, bthen' hb0 (bthen' hb HS)⟩
            · have hkk : k = apps[i].rules.length := by omega
              have hal' := hal.out
              have has' := has.out
              rw [hkk, List.take_length] at hal' has'
              have al := hid (all_snoc hlt hall.out (show appOk apps[i] = true by simp [appOk, hal', has', hr4]))
              clear hal' has' hkk
              go_wp2
              go_roundw
              case rel => exact ⟨i + 1, by go_num, by omega, al, bthen' hb0 hb⟩
              case measure => simp [intOf]; omega
        · have hg4 : decide ((apps[i].rules.length : Int) > 4) = true := by simp; omega
          have hf : appsOk apps = false := by
            simp [appsOk, all_false hlt (show appOk apps[i] = false by simp [appOk, hr4])]
          have HF := hid hf; clear hf
          go_wp2
          go_ret
          exact ⟨by rw [HF.out]; rfl, hb0⟩
      · have hii : i = apps.length := by omega
        have hall' := hall.out
        rw [hii, List.take_length] at hall'
        have hf : appsOk apps = true := by simp only [appsOk, H4.out, hall']; rfl
        go_wp2
        go_ret
        exact ⟨by rw [hf]; rfl, hb0⟩
  · have hb4 : (((apps.length : Nat) : Int) != 4) = true := by simp; omega
    have hf : appsOk apps = false := by simp [appsOk, h4]
    go_enter Tryz.func35, Tryz.ntmps35
    go_wp2
    go_ret
    exact ⟨by rw [hf]; rfl, Below.refl _ _⟩
end Go.Proofs.YtbcemldiahghcaaGreat
