/- A region that draws its order, walked by a plan: what only reads, or reckons, is taken first; what else there is comes up alone. (After Derived/OrdersHeld.lean, whose small laws it takes.) -/
import Derived.OrdersHeld
import Derived.StillTail
import Derived.WalkKit
set_option linter.unusedVariables false
set_option linter.unusedSimpArgs false
namespace Go.Proofs.Ytmnccekljombmaa
open Go.RowKit
section
variable {P : Program} {ops : Array Oper} {Q : Exit → Act → World → Prop} {S : World → Prop}
/-- The last operation, which all others come ahead of. -/
def lastOp (ops : Array Oper) (j : Nat) : Bool := j == ops.size - 1 && Region.sinkB .any ops (ops.size - 1)
structure Closed (ops : Array Oper) (listed : Array Bool) : Prop where
  size : listed.size = ops.size
  closed : ∀ j oj, ops[j]? = some oj → listed.getD j false = true → ∀ e ∈ oj.after, Region.binds .any e = true → listed.getD e.on false = true
theorem Closed.set {listed : Array Bool} {i : Nat} (inv : Closed ops listed) (hi : i ∈ Region.ready .any ops listed) : Closed ops (listed.setIfInBounds i true) := by
  obtain ⟨_, oi, hoi, hall⟩ := mem_ready.1 hi
  refine ⟨by simp [inv.size], fun j oj hj hl e he hb => ?_⟩
  by_cases hij : i = j
  · subst hij
    have : oj = oi := Option.some.inj (hj.symm.trans hoi)
    subst this
    exact getD_set_true (hall e he hb)
  · rw [getD_set_ne false hij] at hl
    exact getD_set_true (inv.closed j oj hj hl e he hb)
theorem Closed.start (ops : Array Oper) : Closed ops (Array.replicate ops.size false) := ⟨by simp, fun j oj _ hl => (by rw [getD_replicate_false] at hl; cases hl)⟩
/-- When the last one comes up, no other is left. -/
theorem lastOp_alone {listed : Array Bool} {i j : Nat} (inv : Closed ops listed) (hj : lastOp ops j = true) (hr : j ∈ Region.ready .any ops listed) (hij : i ≠ j) (hi : i < ops.size) : listed.getD i false = true := by
  simp only [lastOp, Bool.and_eq_true, beq_iff_eq] at hj
  obtain ⟨hj1, hs⟩ := hj
  obtain ⟨_, oj, hoj, hall⟩ := mem_ready.1 hr
  have key : ∀ d i, ops.size - 1 - i = d → i < ops.size - 1 → listed.getD i false = true := by
    intro d
    induction d using Nat.strongRecOn with
    | _ d ih =>
      intro i hd hi
      have h1 := List.all_eq_true.1 hs i (List.mem_range.2 hi)
      obtain ⟨m, hm, hm2⟩ := List.any_eq_true.1 h1
      simp only [Bool.and_eq_true, decide_eq_true_eq] at hm2
      obtain ⟨om, hom, e, he, hb, hon⟩ := Region.waitsFor_spec hm2.2
      have hmle : m ≤ ops.size - 1 := by have := List.mem_range.1 hm; omega
      by_cases hml : m = ops.size - 1
      · have : om = oj := Option.some.inj (hom.symm.trans (by rw [hml, ← hj1]; exact hoj))
        subst this
        rw [← hon]; exact hall e he hb
      · rw [← hon]; exact inv.closed m om hom (ih _ (by omega) m rfl (by omega)) e he hb
  exact key _ i rfl (by omega)
def wpAnyS (P : Program) (ops : Array Oper) (Q : Exit → Act → World → Prop) (S : World → Prop) : Nat → Array Bool → Act → World → Prop
  | 0, listed, a, w => Region.ready .any ops listed = [] ∧ Q .normal a w
  | fuel + 1, listed, a, w =>
    (Region.ready .any ops listed = [] → Q .normal a w) ∧
    ∀ i ∈ Region.ready .any ops listed, wpOp P ops Q i (fun a' w' => (lastOp ops i = true ∨ S w') ∧ wpAnyS P ops Q S fuel (listed.setIfInBounds i true) a' w') a w
theorem wpAny_of_S : ∀ (fuel : Nat) (listed : Array Bool) (a : Act) (w : World), wpAnyS P ops Q S fuel listed a w → wpAny P .any ops Q fuel listed a w
  | 0, _, _, _, h => h
  | fuel + 1, _, _, _, h => ⟨h.1, fun i hi => wpOp_mono (fun a' w' h' => wpAny_of_S fuel _ a' w' h'.2) (h.2 i hi)⟩
theorem wpAnyS_first {i : Nat} {oi : Oper} {v : Value} (hi : ops[i]? = some oi) (hsel : ∀ (j : Nat) (o : Oper) cs b, ops[j]? = some o → o.op ≠ .select cs b)
    (hQ : ∀ c a w, Q (.panic c) (a.put oi.dst v) w → Q (.panic c) a w) :
    ∀ (fuel : Nat) (listed : Array Bool) (a : Act) (w : World), Closed ops listed →
      (∀ j oj, ops[j]? = some oj → j ≠ i → listed.getD j true = false → (∀ e ∈ oj.after, Region.binds .any e = true → e.on ≠ i) → oi.apart ops oj = true) →
      i ∈ Region.ready .any ops listed → YieldsIf P ops S oi v a → S w →
      wpAnyS P ops Q S fuel (listed.setIfInBounds i true) (a.put oi.dst v) w → wpAnyS P ops Q S (fuel + 1) listed a w := by
  intro fuel
  induction fuel with
  | zero =>
    intro listed a w hcl _ hr hy hS H
    refine ⟨fun h => (by rw [h] at hr; cases hr), fun j hj => ?_⟩
    by_cases hji : j = i
    · subst hji; exact hy.wpOp hi hS ⟨.inr hS, H⟩
    · have := ready_mono hj hji
      rw [H.1] at this
      cases this
  | succ fuel ih =>
    intro listed a w hcl hfree hr hy hS H
    refine ⟨fun h => (by rw [h] at hr; cases hr), fun j hj => ?_⟩
    by_cases hji : j = i
    · subst hji; exact hy.wpOp hi hS ⟨.inr hS, H⟩
    · have h1 := H.2 j (ready_mono hj hji)
      obtain ⟨hjun, oj, hoj, hall⟩ := mem_ready.1 hj
      have hnot : ∀ e ∈ oj.after, Region.binds .any e = true → e.on ≠ i := fun e he hb heq => by
        have h1 := hall e he hb
        have h0 := (mem_ready.1 hr).1
        rw [heq] at h1
        rcases Nat.lt_or_ge i listed.size with h' | h'
        · simp [h'] at h0 h1; rw [h0] at h1; cases h1
        · simp [Array.getElem?_eq_none h'] at h1
      have hnl : ¬ lastOp ops j = true := fun hl => by
        have hii : i < ops.size := (Array.getElem?_eq_some_iff.1 hi).1
        have h1 := lastOp_alone hcl hl hj (Ne.symm hji) hii
        have h0 := (mem_ready.1 hr).1
        have h' : i < listed.size := by rw [hcl.size]; exact hii
        simp [h'] at h0 h1; rw [h0] at h1; cases h1
      have hir := ready_mono hr (Ne.symm hji)
      have h2 := wpOp_putIf hoj (hfree j oj hoj hji hjun hnot) (fun cs b => hsel i oi cs b hi) (fun cs b => hsel j oj cs b hoj) hQ hy h1
      have hfree' : ∀ k ok, ops[k]? = some ok → k ≠ i → (listed.setIfInBounds j true).getD k true = false →
          (∀ e ∈ ok.after, Region.binds .any e = true → e.on ≠ i) → oi.apart ops ok = true := fun k ok hk hki hun hno => by
        refine hfree k ok hk hki ?_ hno
        by_cases hjk : j = k
        · subst hjk; exact hjun
        · rw [getD_set_ne true hjk] at hun; exact hun
      refine wpOp_mono (fun a' w' h3 => ?_) h2
      obtain ⟨hy', hS', hw'⟩ := h3
      have hS'' := hS'.resolve_left hnl
      refine ⟨.inr hS'', ih (listed.setIfInBounds j true) a' w' (hcl.set hj) hfree' hir hy' hS'' ?_⟩
      rw [Array.setIfInBounds_comm _ _ hji]
      exact hw'
/-- The walk by a plan: (i, true): number i is taken first; (i, false): number i comes up alone. -/
def wpSeq (P : Program) (ops : Array Oper) (Q : Exit → Act → World → Prop) (S : World → Prop) : List (Nat × Bool) → Act → World → Prop
  | [], a, w => Q .normal a w
  | (i, true) :: r, a, w => ∃ o v, ops[i]? = some o ∧ YieldsIf P ops S o v a ∧ S w ∧ wpSeq P ops Q S r (a.put o.dst v) w
  | (i, false) :: r, a, w => wpOp P ops Q i (fun a' w' => (lastOp ops i = true ∨ S w') ∧ wpSeq P ops Q S r a' w') a w
def planOk (ops : Array Oper) : List (Nat × Bool) → Array Bool → Bool
  | [], l => (Region.ready .any ops l).isEmpty
  | (i, true) :: r, l => Region.free .any ops l i && (Region.ready .any ops l).contains i && planOk ops r (l.setIfInBounds i true)
  | (i, false) :: r, l => (Region.ready .any ops l == [i]) && planOk ops r (l.setIfInBounds i true)
theorem wpAnyS_of_seq (hsel : Region.noSelect ops = true) (hQ : ∀ c a d v w, Q (.panic c) (Act.put a d v) w → Q (.panic c) a w) : ∀ (plan : List (Nat × Bool)) (listed : Array Bool) (a : Act) (w : World),
    Closed ops listed → planOk ops plan listed = true → wpSeq P ops Q S plan a w → wpAnyS P ops Q S plan.length listed a w
  | [], listed, a, w, _, hp, h => ⟨by simpa [planOk] using hp, h⟩
  | (i, true) :: r, listed, a, w, hcl, hp, h => by
    simp only [planOk, Bool.and_eq_true] at hp
    obtain ⟨o, v, hi, hy, hS, hr⟩ := h
    have hmem : i ∈ Region.ready .any ops listed := by simpa using hp.1.2
    exact wpAnyS_first hi (Region.noSelect_spec hsel) (fun c a w hq => hQ c a _ _ w hq) r.length listed a w hcl (Region.free_spec hi hp.1.1) hmem hy hS
      (wpAnyS_of_seq hsel hQ r _ _ w (hcl.set hmem) hp.2 hr)
  | (i, false) :: r, listed, a, w, hcl, hp, h => by
    simp only [planOk, Bool.and_eq_true, beq_iff_eq] at hp
    refine ⟨fun h0 => (by rw [hp.1] at h0; cases h0), fun j hj => ?_⟩
    have hji : j = i := by rw [hp.1] at hj; simpa using hj
    subst hji
    exact wpOp_mono (fun a' w' h' => ⟨h'.1, wpAnyS_of_seq hsel hQ r _ a' w' (hcl.set hj) hp.2 h'.2⟩) h
theorem region_plan {id : Nat} {a : Act} {w : World} {l : List Oper} (S : World → Prop) (plan : List (Nat × Bool)) (hm : P.follows .mixedOrders = true)
    (hk : (Region.noSelect l.toArray && plan.length == l.toArray.size && planOk l.toArray plan (Array.replicate l.toArray.size false)) = true)
    (hQ : ∀ c a d v w, Q (.panic c) (Act.put a d v) w → Q (.panic c) a w) (h : wpSeq P l.toArray Q S plan a w.drew) : (Code.region id l.toArray true).wp P Q a w := by
  simp only [Bool.and_eq_true, beq_iff_eq] at hk
  have h1 := wpAny_of_S _ _ _ _ (wpAnyS_of_seq hk.1.1 hQ plan _ a w.drew (Closed.start _) hk.2 h)
  rw [hk.1.2] at h1
  exact wp_region_any hm h1
theorem seq_take {a : Act} {w : World} {i : Nat} {o : Oper} {v : Value} {r : List (Nat × Bool)} (hi : ops[i]? = some o) (hS : S w) (hw : Region.wanted o (yielded ops a.tmps) = true)
    (hy : ∀ w, S w → (execOp a.eval o).run P w = .ok (.value v) w) (h : ∀ K : Act → Prop, (∀ a', wpSeq P ops Q S r a' w → K a') → K (a.put o.dst v)) : wpSeq P ops Q S ((i, true) :: r) a w := ⟨o, v, hi, .inl ⟨hw, hy⟩, hS, h _ fun _ h => h⟩
theorem seq_skip {a : Act} {w : World} {i : Nat} {o : Oper} {r : List (Nat × Bool)} (hi : ops[i]? = some o) (hS : S w) (hw : Region.wanted o (yielded ops a.tmps) = false)
    (h : ∀ K : Act → Prop, (∀ a', wpSeq P ops Q S r a' w → K a') → K (a.put o.dst undef)) : wpSeq P ops Q S ((i, true) :: r) a w := ⟨o, undef, hi, .inr ⟨hw, rfl⟩, hS, h _ fun _ h => h⟩
theorem seq_dont {a : Act} {w : World} {i : Nat} {o : Oper} {r : List (Nat × Bool)} (hi : ops[i]? = some o) (hw : Region.wanted o (yielded ops a.tmps) = false)
    (h : ∀ K : Act → World → Prop, (∀ a' w', (lastOp ops i = true ∨ S w') → wpSeq P ops Q S r a' w' → K a' w') → K (a.put o.dst undef) w) : wpSeq P ops Q S ((i, false) :: r) a w := by
  show wpOp P ops Q i _ a w
  unfold wpOp
  simp only [hi, hw, Bool.false_eq_true, if_false]
  exact h (fun a' w' => (lastOp ops i = true ∨ S w') ∧ wpSeq P ops Q S r a' w') fun a' w' hS h' => ⟨hS, h'⟩
theorem seq_do {a : Act} {w : World} {i : Nat} {o : Oper} {r : List (Nat × Bool)} (hi : ops[i]? = some o) (hw : Region.wanted o (yielded ops a.tmps) = true)
    (h : ∀ K : Act → World → Prop, (∀ a' w', (lastOp ops i = true ∨ S w') → wpSeq P ops Q S r a' w' → K a' w') → o.wp P a w K Q) : wpSeq P ops Q S ((i, false) :: r) a w := by
  show wpOp P ops Q i _ a w
  unfold wpOp
  simp only [hi, hw, if_true]
  exact .inl (h _ fun a' w' hS h' => ⟨hS, h'⟩)
end
end Go.Proofs.Ytmnccekljombmaa
