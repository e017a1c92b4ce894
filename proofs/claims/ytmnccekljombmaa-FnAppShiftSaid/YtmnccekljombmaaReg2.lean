/- A region that draws its order, walked by a branching plan: where two may come next, each way is walked. -/
import Derived.Test.YtmnccekljombmaaReg
set_option linter.unusedVariables false
set_option linter.unusedSimpArgs false
namespace Go.Proofs.Ytmnccekljombmaa
open Go.RowKit
inductive Pl where
  | nil
  | take (i : Nat) (p : Pl)
  | one (i : Nat) (p : Pl)
  | two (i : Nat) (p : Pl) (j : Nat) (q : Pl)
section
variable {P : Program} {ops : Array Oper} {Q : Exit → Act → World → Prop} {S : World → Prop}
def wpTree (P : Program) (ops : Array Oper) (Q : Exit → Act → World → Prop) (S : World → Prop) : Pl → Act → World → Prop
  | .nil, a, w => Q .normal a w
  | .take i r, a, w => ∃ o v, ops[i]? = some o ∧ YieldsIf P ops S o v a ∧ S w ∧ wpTree P ops Q S r (a.put o.dst v) w
  | .one i r, a, w => wpOp P ops Q i (fun a' w' => (lastOp ops i = true ∨ S w') ∧ wpTree P ops Q S r a' w') a w
  | .two i p j q, a, w => wpOp P ops Q i (fun a' w' => (lastOp ops i = true ∨ S w') ∧ wpTree P ops Q S p a' w') a w ∧ wpOp P ops Q j (fun a' w' => (lastOp ops j = true ∨ S w') ∧ wpTree P ops Q S q a' w') a w
def treeOk (ops : Array Oper) : Nat → Pl → Array Bool → Bool
  | 0, .nil, l => (Region.ready .any ops l).isEmpty
  | n + 1, .take i r, l => Region.free .any ops l i && (Region.ready .any ops l).contains i && treeOk ops n r (l.setIfInBounds i true)
  | n + 1, .one i r, l => (Region.ready .any ops l == [i]) && treeOk ops n r (l.setIfInBounds i true)
  | n + 1, .two i p j q, l => (Region.ready .any ops l == [i, j]) && treeOk ops n p (l.setIfInBounds i true) && treeOk ops n q (l.setIfInBounds j true)
  | _, _, _ => false
theorem wpAnyS_of_tree (hsel : Region.noSelect ops = true) (hQ : ∀ c a d v w, Q (.panic c) (Act.put a d v) w → Q (.panic c) a w) : ∀ (n : Nat) (plan : Pl) (listed : Array Bool) (a : Act) (w : World),
    Closed ops listed → treeOk ops n plan listed = true → wpTree P ops Q S plan a w → wpAnyS P ops Q S n listed a w
  | 0, .nil, listed, a, w, _, hp, h => ⟨by simpa [treeOk] using hp, h⟩
  | n + 1, .take i r, listed, a, w, hcl, hp, h => by
    simp only [treeOk, Bool.and_eq_true] at hp
    obtain ⟨o, v, hi, hy, hS, hr⟩ := h
    have hmem : i ∈ Region.ready .any ops listed := by simpa using hp.1.2
    exact wpAnyS_first hi (Region.noSelect_spec hsel) (fun c a w hq => hQ c a _ _ w hq) n listed a w hcl (Region.free_spec hi hp.1.1) hmem hy hS
      (wpAnyS_of_tree hsel hQ n r _ _ w (hcl.set hmem) hp.2 hr)
  | n + 1, .one i r, listed, a, w, hcl, hp, h => by
    simp only [treeOk, Bool.and_eq_true, beq_iff_eq] at hp
    refine ⟨fun h0 => (by rw [hp.1] at h0; cases h0), fun j hj => ?_⟩
    have hji : j = i := by rw [hp.1] at hj; simpa using hj
    subst hji
    exact wpOp_mono (fun a' w' h' => ⟨h'.1, wpAnyS_of_tree hsel hQ n r _ a' w' (hcl.set hj) hp.2 h'.2⟩) h
  | n + 1, .two i p k q, listed, a, w, hcl, hp, h => by
    simp only [treeOk, Bool.and_eq_true, beq_iff_eq] at hp
    refine ⟨fun h0 => (by rw [hp.1.1] at h0; cases h0), fun j hj => ?_⟩
    have hji : j = i ∨ j = k := by rw [hp.1.1] at hj; simpa using hj
    rcases hji with rfl | rfl
    · exact wpOp_mono (fun a' w' h' => ⟨h'.1, wpAnyS_of_tree hsel hQ n p _ a' w' (hcl.set hj) hp.1.2 h'.2⟩) h.1
    · exact wpOp_mono (fun a' w' h' => ⟨h'.1, wpAnyS_of_tree hsel hQ n q _ a' w' (hcl.set hj) hp.2 h'.2⟩) h.2
  | 0, .take _ _, _, _, _, _, hp, _ => by simp [treeOk] at hp
  | 0, .one _ _, _, _, _, _, hp, _ => by simp [treeOk] at hp
  | 0, .two _ _ _ _, _, _, _, _, hp, _ => by simp [treeOk] at hp
  | n + 1, .nil, _, _, _, _, hp, _ => by simp [treeOk] at hp
theorem region_tree {id : Nat} {a : Act} {w : World} {l : List Oper} (S : World → Prop) (plan : Pl) (hm : P.follows .mixedOrders = true)
    (hk : (Region.noSelect l.toArray && treeOk l.toArray l.toArray.size plan (Array.replicate l.toArray.size false)) = true)
    (hQ : ∀ c a d v w, Q (.panic c) (Act.put a d v) w → Q (.panic c) a w) (h : wpTree P l.toArray Q S plan a w.drew) : (Code.region id l.toArray true).wp P Q a w := by
  simp only [Bool.and_eq_true] at hk
  exact wp_region_any hm (wpAny_of_S _ _ _ _ (wpAnyS_of_tree hk.1 hQ _ plan _ a w.drew (Closed.start _) hk.2 h))
theorem tree_take {a : Act} {w : World} {i : Nat} {o : Oper} {v : Value} {r : Pl} (hi : ops[i]? = some o) (hS : S w) (hw : Region.wanted o (yielded ops a.tmps) = true)
    (hy : ∀ w, S w → (execOp a.eval o).run P w = .ok (.value v) w) (h : ∀ K : Act → Prop, (∀ a', wpTree P ops Q S r a' w → K a') → K (a.put o.dst v)) : wpTree P ops Q S (.take i r) a w := ⟨o, v, hi, .inl ⟨hw, hy⟩, hS, h _ fun _ h => h⟩
theorem tree_do {a : Act} {w : World} {i : Nat} {o : Oper} {r : Pl} (hi : ops[i]? = some o) (hw : Region.wanted o (yielded ops a.tmps) = true)
    (h : ∀ K : Act → World → Prop, (∀ a' w', (lastOp ops i = true ∨ S w') → wpTree P ops Q S r a' w' → K a' w') → o.wp P a w K Q) : wpTree P ops Q S (.one i r) a w := by
  show wpOp P ops Q i _ a w
  unfold wpOp
  simp only [hi, hw, if_true]
  exact Or.inl (h (fun a' w' => (lastOp ops i = true ∨ S w') ∧ wpTree P ops Q S r a' w') fun a' w' hS h' => ⟨hS, h'⟩)
theorem tree_two {a : Act} {w : World} {i j : Nat} {p q : Pl} (h1 : wpTree P ops Q S (.one i p) a w) (h2 : wpTree P ops Q S (.one j q) a w) : wpTree P ops Q S (.two i p j q) a w := ⟨h1, h2⟩
end
def noPanic (Q : Exit → Act → World → Prop) : Exit → Act → World → Prop
  | .panic _, _, _ => False
  | e, a, w => Q e a w
theorem noPanic_le {Q : Exit → Act → World → Prop} : ∀ e a w, noPanic Q e a w → Q e a w
  | .panic _, _, _, h => h.elim
  | .normal, _, _, h => h
  | .ret, _, _, h => h
  | .outgrown, _, _, h => h
  | .goto _, _, _, h => h
  | .exit _, _, _, h => h
theorem region_plan_np {P : Program} {Q : Exit → Act → World → Prop} {id : Nat} {a : Act} {w : World} {l : List Oper} (S : World → Prop) (plan : List (Nat × Bool)) (hm : P.follows .mixedOrders = true)
    (hk : (Region.noSelect l.toArray && plan.length == l.toArray.size && planOk l.toArray plan (Array.replicate l.toArray.size false)) = true)
    (h : wpSeq P l.toArray (noPanic Q) S plan a w.drew) : (Code.region id l.toArray true).wp P Q a w :=
  wp_mono (region_plan S plan hm hk (fun _ _ _ _ _ h => h) h) noPanic_le
end Go.Proofs.Ytmnccekljombmaa
