/- One element of an own row is turned in place: what the row reads as afterwards. -/
import Derived.Test.YtmnccekljombmaaNest
set_option linter.unusedVariables false
set_option linter.unusedSimpArgs false
namespace Go.Proofs.Ytmnccekljombmaa
open Go.RowKit
theorem Ow.updRd {α : Type} {d d' : Ty α} {e : TypeId} {w : World} {F : Nat → Prop} {v : Value} {xs : List α} (hs : d'.sz = d.sz) (hm : ∀ w F x cs, d.rel w F x cs → d'.rel w F x cs) (h : Ow d e w F v xs) {g : Nat} (hv : v.ownBlock = some g) (j : Nat) (hj : j < xs.length) :
    ∃ (Fj : Nat → Prop) (csj : List Value), d.rel w Fj xs[j] csj ∧ (∀ k, Fj k → F k ∧ k ≠ g ∧ k < w.heap.size) ∧ (∀ i u, csj[i]? = some u → w.cell? ⟨g, j * d.sz + i, none⟩ = some u) ∧
      ∀ (w' : World) (x' : α) (cs' : List Value) (G : Nat → Prop), g < w'.heap.size → (∀ o, (o < j * d.sz ∨ j * d.sz + d.sz ≤ o) → w'.cell? ⟨g, o, none⟩ = w.cell? ⟨g, o, none⟩) → (∀ i u, cs'[i]? = some u → w'.cell? ⟨g, j * d.sz + i, none⟩ = some u) →
        (∀ k, F k → k < w.heap.size → k ≠ g → ¬ Fj k → w'.heap[k]? = w.heap[k]?) → d'.rel w' G x' cs' → (∀ k, F k → G k) → Rd d' w' G v (xs.set j x') := by
  obtain ⟨cs, Fs, h1, h2, h3, h4, h5⟩ := h.bound
  have hlen := h1.1
  rcases h1.2 with ⟨rfl, _⟩ | ⟨g', cap, cur, rfl, hb, hh, hc1, hc2, hc3, hc4⟩
  · simp [Value.ownBlock] at hv
  · simp only [Value.ownBlock, Option.some.injEq] at hv
    subst hv
    have hat : ∀ q i u, ((cs.drop (q * d.sz)).take d.sz)[i]? = some u → i < d.sz ∧ w.cell? ⟨g', q * d.sz + i, none⟩ = some u := by
      intro q i u hi
      rw [List.getElem?_take] at hi
      split at hi
      · rename_i hlt
        rw [List.getElem?_drop] at hi
        have := h1.cells (g := g') rfl (q * d.sz + i) u hi
        have ha : (⟨g', 0, none⟩ : Addr).add (q * d.sz + i) = ⟨g', q * d.sz + i, none⟩ := by unfold Addr.add; split <;> simp_all
        rw [ha] at this
        exact ⟨hlt, this⟩
      · cases hi
    refine ⟨Fs j, (cs.drop (j * d.sz)).take d.sz, h5 j _ (List.getElem?_eq_getElem hj), fun k hk => ⟨(h3 j k hk).1.1, fun e' => (h3 j k hk).2 (by rw [e']; rfl), (h3 j k hk).1.2⟩, fun i u hi => (hat j i u hi).2, ?_⟩
    intro w' x' cs' G hlt' hcell hnew hfr hrel hFG
    refine ⟨some ⟨g', 0, none⟩, cap, by simp, by simpa using hc1, by simp only [maxLen] at hc2; simp; omega, fun _ => ⟨g', 0, rfl, hFG _ (h2 _ rfl).1, hlt', fun q x hq => ?_⟩⟩
    by_cases hqj : q = j
    · subst hqj
      have hx : x' = x := by simpa [List.getElem?_set_self hj] using hq
      subst hx
      refine ⟨cs', hrel, fun i u hi => ?_⟩
      rw [hs, Nat.zero_add]; exact hnew i u hi
    · rw [List.getElem?_set_ne (Ne.symm hqj)] at hq
      have h6 := h5 q x hq
      have h7 : d.rel w' (Fs q) x ((cs.drop (q * d.sz)).take d.sz) :=
        d.move (fun k hk' => hfr k (h3 q k hk').1.1 (h3 q k hk').1.2 (fun e' => (h3 q k hk').2 (by rw [e']; rfl)) (fun hj' => h4 q j k hqj hk' hj')) h6
      refine ⟨_, hm _ _ _ _ (d.mono (fun k hk' => hFG k (h3 q k hk').1.1) h7), fun i u hi => ?_⟩
      obtain ⟨hi1, hi2⟩ := hat q i u hi
      rw [hs, Nat.zero_add, hcell]
      · exact hi2
      · by_cases hlt : q < j
        · have : (q + 1) * d.sz ≤ j * d.sz := Nat.mul_le_mul_right _ hlt
          rw [Nat.add_mul, Nat.one_mul] at this
          left; omega
        · have : (j + 1) * d.sz ≤ q * d.sz := Nat.mul_le_mul_right _ (by omega)
          rw [Nat.add_mul, Nat.one_mul] at this
          right; omega
theorem Rd.drop {α : Type} {d : Ty α} {w : World} {F : Nat → Prop} {b o n c : Nat} {xs : List α} (h : Rd d w F (.slice (some ⟨b, o, none⟩) n c) xs) (k m c' : Nat) (hk : k ≤ xs.length) (hm : m = xs.length - k) (hc : m ≤ c') : Rd d w F (.slice (some ⟨b, o + k * d.sz, none⟩) m c') (xs.drop k) := by
  obtain ⟨A', c1, he, h1, h2, h3⟩ := h
  injection he with hA _ _
  subst hA
  have hl : (xs.drop k).length = m := by simp [hm]
  refine ⟨_, c', by rw [hl], by rw [hl]; exact hc, by simp; omega, fun hp => ?_⟩
  obtain ⟨b', o', he', hF, hlt, hc⟩ := h3 (by simp at hp; omega)
  simp only [Option.some.injEq, Addr.mk.injEq, and_true] at he'
  obtain ⟨rfl, rfl⟩ := he'
  refine ⟨b, o + k * d.sz, rfl, hF, hlt, fun j x hj => ?_⟩
  rw [List.getElem?_drop] at hj
  obtain ⟨cs, hr, hu⟩ := hc _ x hj
  refine ⟨cs, hr, fun i u hi => ?_⟩
  have := hu i u hi
  rwa [Nat.add_mul, ← Nat.add_assoc] at this
theorem oRule_t : ∀ w F x cs, oRule.rel w F x cs → tRule.rel w F x cs := fun w F x cs ⟨v, h1, h2⟩ => ⟨v, h1, h2.rd⟩
theorem oApp_t : ∀ w F x cs, oApp.rel w F x cs → tApp.rel w F x cs := fun w F x cs ⟨v, h1, h2⟩ => ⟨v, h1, h2.rdRules⟩
/-- The program at a place, its row of rules. -/
theorem Ow.appAt {e : TypeId} {w : World} {F : Nat → Prop} {v : Value} {xs : List AppD} (h : Ow oApp e w F v xs) {g : Nat} (hv : v.ownBlock = some g) (p : Nat) (hp : p < xs.length) :
    ∃ (Fj : Nat → Prop) (vp : Value), Ow oRule 38 w Fj vp xs[p].rules ∧ (∀ k, Fj k → F k ∧ k ≠ g ∧ k < w.heap.size) ∧ w.cell? ⟨g, p, none⟩ = some vp ∧
      ∀ (w' : World) (l' : List RuleD) (v' : Value) (G : Nat → Prop), g < w'.heap.size → (∀ o, o ≠ p → w'.cell? ⟨g, o, none⟩ = w.cell? ⟨g, o, none⟩) → w'.cell? ⟨g, p, none⟩ = some v' →
        (∀ k, F k → k < w.heap.size → k ≠ g → ¬ Fj k → w'.heap[k]? = w.heap[k]?) → Rd tRule w' G v' l' → (∀ k, F k → G k) → Rd tApp w' G v (xs.set p ⟨l'⟩) := by
  obtain ⟨Fj, csj, ⟨vp, hc, hr⟩, h2, h3, h4⟩ := Ow.updRd (d := oApp) (d' := tApp) rfl oApp_t h hv p hp
  subst hc
  have hz : oApp.sz = 1 := rfl
  rw [hz, Nat.mul_one] at h3 h4
  refine ⟨Fj, vp, hr, h2, by simpa using h3 0 vp rfl, fun w' l' v' G a1 a2 a3 a4 a5 a6 => h4 w' ⟨l'⟩ [v'] G a1 (fun o ho => a2 o (by omega)) (fun i u hi => ?_) a4 ⟨v', rfl, a5⟩ a6⟩
  cases i with
  | zero => simp at hi; subst hi; simpa using a3
  | succ i => simp at hi
/-- The rule at a place, its row of ops. -/
theorem Ow.ruleAt {e : TypeId} {w : World} {F : Nat → Prop} {v : Value} {xs : List RuleD} (h : Ow oRule e w F v xs) {g : Nat} (hv : v.ownBlock = some g) (p : Nat) (hp : p < xs.length) :
    ∃ (Fj : Nat → Prop) (vp : Value), Ow tOp 90 w Fj vp xs[p].ops ∧ (∀ k, Fj k → F k ∧ k ≠ g ∧ k < w.heap.size) ∧ w.cell? ⟨g, p * 2, none⟩ = some (.int .i64 xs[p].kind) ∧ w.cell? ⟨g, p * 2 + 1, none⟩ = some vp ∧
      ∀ (w' : World) (l' : List OpD) (v' : Value) (G : Nat → Prop), g < w'.heap.size → (∀ o, o ≠ p * 2 + 1 → w'.cell? ⟨g, o, none⟩ = w.cell? ⟨g, o, none⟩) → w'.cell? ⟨g, p * 2 + 1, none⟩ = some v' →
        (∀ k, F k → k < w.heap.size → k ≠ g → ¬ Fj k → w'.heap[k]? = w.heap[k]?) → Rd tOp w' G v' l' → (∀ k, F k → G k) → Rd tRule w' G v (xs.set p ⟨xs[p].kind, l'⟩) := by
  obtain ⟨Fj, csj, ⟨vp, hc, hr⟩, h2, h3, h4⟩ := Ow.updRd (d := oRule) (d' := tRule) rfl oRule_t h hv p hp
  subst hc
  have hz : oRule.sz = 2 := rfl
  rw [hz] at h3 h4
  have c0 := h3 0 _ rfl
  have c1 := h3 1 _ rfl
  refine ⟨Fj, vp, hr, h2, by simpa using c0, c1, fun w' l' v' G a1 a2 a3 a4 a5 a6 => h4 w' ⟨xs[p].kind, l'⟩ [.int .i64 xs[p].kind, v'] G a1 (fun o ho => a2 o (by omega)) (fun i u hi => ?_) a4 ⟨v', rfl, a5⟩ a6⟩
  match i with
  | 0 => simp at hi; subst hi; simp only [Nat.add_zero]; rw [a2 _ (by omega)]; simpa using c0
  | 1 => simp at hi; subst hi; exact a3
  | i + 2 => simp at hi
end Go.Proofs.Ytmnccekljombmaa
