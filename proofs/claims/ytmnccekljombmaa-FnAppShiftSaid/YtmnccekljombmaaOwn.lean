/- Rows of the call's own, their elements' blocks apart; what a call may have changed. -/
import Derived.Test.YtmnccekljombmaaBase
set_option linter.unusedVariables false
set_option linter.unusedSimpArgs false
namespace Go.Proofs.Ytmnccekljombmaa
open Go.RowKit

/-- w' is w but for blocks in S and new ones. -/
structure Ch (S : Nat → Prop) (w w' : World) : Prop where
  os : w'.os = w.os
  tape : w'.tape = w.tape
  output : w'.output = w.output
  size : w.heap.size ≤ w'.heap.size
  block : ∀ k, k < w.heap.size → ¬ S k → w'.heap[k]? = w.heap[k]?
section
variable {S S' : Nat → Prop} {w w1 w2 : World} {B : Nat}
theorem Ch.refl (S : Nat → Prop) (w : World) : Ch S w w := ⟨rfl, rfl, rfl, Nat.le_refl _, fun _ _ _ => rfl⟩
theorem Ch.trans (h : Ch S w w1) (k : Ch S w1 w2) : Ch S w w2 :=
  ⟨k.os.trans h.os, k.tape.trans h.tape, k.output.trans h.output, Nat.le_trans h.size k.size, fun i hi hn => (k.block i (Nat.lt_of_lt_of_le hi h.size) hn).trans (h.block i hi hn)⟩
theorem Ch.mono (hS : ∀ k, S k → S' k) (h : Ch S w w1) : Ch S' w w1 := ⟨h.os, h.tape, h.output, h.size, fun i hi hn => h.block i hi (fun hs => hn (hS i hs))⟩
/-- What a later call changes beside S' are blocks that are new to w. -/
theorem Ch.then (h : Ch S w w1) (k : Ch S' w1 w2) (hS : ∀ i, S' i → S i ∨ w.heap.size ≤ i) : Ch S w w2 :=
  ⟨k.os.trans h.os, k.tape.trans h.tape, k.output.trans h.output, Nat.le_trans h.size k.size, fun i hi hn =>
    (k.block i (Nat.lt_of_lt_of_le hi h.size) (fun hs => (hS i hs).elim hn (fun hw => absurd hi (Nat.not_lt.2 hw)))).trans (h.block i hi hn)⟩
theorem Ch.of_below (h : Below w.heap.size w w1) : Ch S w w1 := ⟨h.os, h.tape, h.output, h.size, fun i hi _ => h.block i hi⟩
theorem Ch.below (h : Ch S w w1) (hS : ∀ k, S k → B ≤ k) (hB : B ≤ w.heap.size) : Below B w w1 := ⟨h.os, h.tape, h.output, h.size, fun i hi => h.block i (by omega) (fun hs => by have := hS i hs; omega)⟩
theorem Ch.below0 (h : Ch (fun _ => False) w w1) : Below w.heap.size w w1 := h.below (fun _ hf => hf.elim) (Nat.le_refl _)
theorem Ch.alloc (h : Ch S w w1) (o : Obj) : Ch S w (w1.alloc o) := h.trans (Ch.of_below (balloc (Below.refl _ _) o))
theorem Ch.drew (h : Ch S w w1) : Ch S w w1.drew := ⟨h.os, h.tape, h.output, h.size, h.block⟩
theorem Ch.drewN (h : Ch S w w1) (n : Nat) : Ch S w (w1.drewN n) := ⟨h.os, h.tape, h.output, h.size, h.block⟩
theorem Ch.setCell (h : Ch S w w1) {p : Addr} (hp : S p.block ∨ w.heap.size ≤ p.block) (u : Value) : Ch S w (w1.setCell p u) :=
  ⟨h.os, h.tape, h.output, by have := h.size; simpa [World.setCell] using this, fun i hi hn => by
    rw [Below.heap_setCell _ _ _ _ (fun e => by subst e; rcases hp with hp | hp; exact hn hp; omega)]; exact h.block i hi hn⟩
theorem Ch.grown (h : Ch S w w1) {row : Option Nat} (hg : w1.grownBy w2 row) (hr : ∀ k, row = some k → S k ∨ w.heap.size ≤ k) : Ch S w w2 :=
  h.then (S' := fun k => row = some k) ⟨hg.os, hg.tape, hg.output, hg.size, fun i hi hn => hg.block i hi (fun e => hn e.symm)⟩ hr
theorem Ch.cell (h : Ch S w w1) {p : Addr} (hp : p.block < w.heap.size) (hn : ¬ S p.block) : w1.cell? p = w.cell? p := World.cell?_of_block (w := w) (h.block _ hp hn)
theorem Ch.frozen (h : Ch S w w1) {p : Addr} (hp : p.block < w.heap.size) (hn : ¬ S p.block) : w1.frozen? p = w.frozen? p := World.frozen?_of_block (w := w) (h.block _ hp hn)
/-- The two rules that the walk takes. -/
theorem Ch.cells (h : Ch S w w1) : (∀ b o, b < w.heap.size → ¬ S b → w1.cell? ⟨b, o, none⟩ = w.cell? ⟨b, o, none⟩) ∧ (∀ b o, b < w.heap.size → ¬ S b → w1.frozen? ⟨b, o, none⟩ = w.frozen? ⟨b, o, none⟩) :=
  ⟨fun b o hb hn => h.cell (p := ⟨b, o, none⟩) hb hn, fun b o hb hn => h.frozen (p := ⟨b, o, none⟩) hb hn⟩
theorem Ch.heap (h : Ch S w w1) {k : Nat} {o : Obj} (ho : w.heap[k]? = some o) (hn : ¬ S k) : w1.heap[k]? = some o := (h.block k (Array.getElem?_eq_some_iff.1 ho).1 hn).trans ho
end

section
variable {α : Type} {d : Ty α} {e : TypeId} {w w' : World} {F F' : Nat → Prop} {v : Value} {xs : List α}
theorem Rd.ch {S : Nat → Prop} (h : Rd d w F v xs) (hc : Ch S w w') (hS : ∀ k, F k → ¬ S k) : Rd d w' F v xs := h.keep fun k hk hlt => hc.block k hlt (hS k hk)

/-- A row of the call's own: type e; F: all its blocks. -/
def Ow (d : Ty α) (e : TypeId) (w : World) (F : Nat → Prop) (v : Value) (xs : List α) : Prop :=
  ∃ (cs : List Value) (Fs : Nat → Nat → Prop), w.ownsRow 0 e d.sz v xs.length cs ∧ (∀ g, v.ownBlock = some g → F g) ∧
    (∀ j k, Fs j k → F k ∧ some k ≠ v.ownBlock) ∧ (∀ i j k, i ≠ j → Fs i k → Fs j k → False) ∧
    ∀ j x, xs[j]? = some x → d.rel w (Fs j) x ((cs.drop (j * d.sz)).take d.sz)
theorem Ow.nil (d : Ty α) (e : TypeId) (w : World) (F : Nat → Prop) : Ow d e w F (.slice none 0 0) [] :=
  ⟨[], fun _ _ => False, World.ownsRow_nil _ _ _ _, fun g hg => by simp [Value.ownBlock] at hg, fun _ _ h => h.elim, fun _ _ _ _ h => h.elim, fun j x hj => by simp at hj⟩
theorem Ow.mono (hF : ∀ k, F k → F' k) (h : Ow d e w F v xs) : Ow d e w F' v xs := by
  obtain ⟨cs, Fs, h1, h2, h3, h4, h5⟩ := h
  exact ⟨cs, Fs, h1, fun g hg => hF g (h2 g hg), fun j k hk => ⟨hF k (h3 j k hk).1, (h3 j k hk).2⟩, h4, h5⟩
theorem ownsRow_move {base size n : Nat} {cs : List Value} (h : w.ownsRow base e size v n cs) (hm : ∀ k, v.ownBlock = some k → w'.heap[k]? = w.heap[k]?) : w'.ownsRow base e size v n cs := by
  obtain ⟨h1, h2⟩ := h
  refine ⟨h1, ?_⟩
  rcases h2 with h2 | ⟨g, cap, cur, rfl, hg, hh, r⟩
  · exact .inl h2
  · exact .inr ⟨g, cap, cur, rfl, hg, (hm g (by simp [Value.ownBlock])).trans hh, r⟩
theorem Ow.move (hm : ∀ k, F k → w'.heap[k]? = w.heap[k]?) (h : Ow d e w F v xs) : Ow d e w' F v xs := by
  obtain ⟨cs, Fs, h1, h2, h3, h4, h5⟩ := h
  exact ⟨cs, Fs, ownsRow_move h1 (fun k hk => hm k (h2 k hk)), h2, h3, h4, fun j x hj => d.move (fun k hk => hm k (h3 j k hk).1) (h5 j x hj)⟩
theorem Ow.bound (h : Ow d e w F v xs) : Ow d e w (fun k => F k ∧ k < w.heap.size) v xs := by
  obtain ⟨cs, Fs, h1, h2, h3, h4, h5⟩ := h
  exact ⟨cs, fun j k => Fs j k ∧ k < w.heap.size, h1, fun g hg => ⟨h2 g hg, (h1.lt g hg).2⟩, fun j k hk => ⟨⟨(h3 j k hk.1).1, hk.2⟩, (h3 j k hk.1).2⟩, fun i j k hn ha hb => h4 i j k hn ha.1 hb.1, fun j x hj => d.bound (h5 j x hj)⟩
theorem Ow.keep (h : Ow d e w F v xs) (hm : ∀ k, F k → k < w.heap.size → w'.heap[k]? = w.heap[k]?) : Ow d e w' F v xs :=
  ((h.bound).move (fun k hk => hm k hk.1 hk.2)).mono (fun _ hk => hk.1)
theorem Ow.below (h : Ow d e w F v xs) (hb : Below w.heap.size w w') : Ow d e w' F v xs := h.keep fun k _ hk => hb.block k hk
theorem Ow.ch {S : Nat → Prop} (h : Ow d e w F v xs) (hc : Ch S w w') (hS : ∀ k, F k → ¬ S k) : Ow d e w' F v xs := h.keep fun k hk hlt => hc.block k hlt (hS k hk)
theorem Ow.alloc (h : Ow d e w F v xs) (o : Obj) : Ow d e (w.alloc o) F v xs := h.below (balloc (Below.refl _ _) o)
theorem Ow.drewN (h : Ow d e w F v xs) (n : Nat) : Ow d e (w.drewN n) F v xs := Ow.move (w := w) (w' := w.drewN n) (fun _ _ => rfl) h
theorem Ow.block_lt (h : Ow d e w F v xs) {g : Nat} (hg : v.ownBlock = some g) : g < w.heap.size := by
  obtain ⟨cs, Fs, h1, _⟩ := h; exact (h1.lt g hg).2
theorem Ow.inF (h : Ow d e w F v xs) {g : Nat} (hg : v.ownBlock = some g) : F g := by
  obtain ⟨cs, Fs, h1, h2, _⟩ := h; exact h2 g hg
/-- The shape of an own slice. -/
theorem Ow.shape (h : Ow d e w F v xs) : ∃ A c, v = .slice A xs.length c ∧ xs.length ≤ 9223372036854775807 := by
  obtain ⟨cs, Fs, h1, _⟩ := h
  rcases h1.2 with ⟨rfl, h0⟩ | ⟨g, cap, cur, rfl, _, _, h2, h3, _⟩
  · exact ⟨none, 0, by rw [h0], by omega⟩
  · refine ⟨_, cap, rfl, ?_⟩
    simp only [maxLen] at h3; omega
theorem Ow.head (h : Ow d e w F v xs) (hp : 0 < xs.length) : ∃ g c cur, v = .slice (some ⟨g, 0, none⟩) xs.length c ∧ F g ∧ g < w.heap.size ∧ w.heap[g]? = some (.cells cur e (0, 0)) := by
  obtain ⟨cs, Fs, h1, h2, _⟩ := h
  rcases h1.2 with ⟨rfl, h0⟩ | ⟨g, cap, cur, rfl, _, hh, _⟩
  · omega
  · exact ⟨g, cap, cur, rfl, h2 g rfl, (h1.lt g rfl).2, hh⟩
theorem Ow.rd (h : Ow d e w F v xs) : Rd d w F v xs := by
  obtain ⟨cs, Fs, h1, h2, h3, h4, h5⟩ := h
  have hlen := h1.1
  rcases hx : h1.2 with ⟨hv, h0⟩ | ⟨g, cap, cur, hv, _, hh, hc1, hc2, hc3, hc4⟩
  · subst hv
    have : xs = [] := List.length_eq_zero_iff.1 h0
    subst this
    exact Rd.nil _ _ _
  · subst hv
    refine ⟨_, cap, rfl, hc1, by simp only [maxLen] at hc2; omega, fun hp => ⟨g, 0, rfl, h2 g rfl, (h1.lt g rfl).2, fun j x hj => ⟨_, d.mono (fun k hk => (h3 j k hk).1) (h5 j x hj), fun i u hi => ?_⟩⟩⟩
    rw [List.getElem?_take] at hi
    split at hi
    · rw [List.getElem?_drop] at hi
      have := h1.cells (g := g) rfl (j * d.sz + i) u hi
      have ha : (⟨g, 0, none⟩ : Addr).add (j * d.sz + i) = ⟨g, 0 + j * d.sz + i, none⟩ := by unfold Addr.add; split <;> simp_all <;> omega
      rwa [ha] at this
    · cases hi
/-- A flat own row out of the kit's. -/
theorem Ow.of_flat {cells : α → List Value} {sz : Nat} {hl : ∀ x, (cells x).length = sz} {ho : ∀ x, ∀ u ∈ cells x, u.oneCell' = true} {base : Nat}
    (h : w.ownsRow base e sz v xs.length (xs.flatMap cells)) (hF : ∀ g, v.ownBlock = some g → F g) : Ow (flat cells sz hl ho) e w F v xs := by
  refine ⟨xs.flatMap cells, fun _ _ => False, ?_, hF, fun _ _ h => h.elim, fun _ _ _ _ h => h.elim, ?_⟩
  · obtain ⟨h1, h2⟩ := h
    refine ⟨h1, ?_⟩
    rcases h2 with h2 | ⟨g, cap, cur, rfl, hg, r⟩
    · exact .inl h2
    · exact .inr ⟨g, cap, cur, rfl, Nat.zero_le _, r⟩
  · clear h hF
    induction xs with
    | nil => intro j x hj; simp at hj
    | cons y ys ih =>
      intro j x hj
      cases j with
      | zero =>
        have hxy : y = x := by simpa using hj
        subst hxy
        show _ = _
        simp only [flat, Nat.zero_mul, List.drop_zero, List.flatMap_cons]
        rw [← hl y, List.take_left]
      | succ j =>
        have := ih j x (by simpa using hj)
        simp only [flat, List.flatMap_cons] at this ⊢
        rw [Nat.succ_mul, Nat.add_comm, ← List.drop_drop, ← hl y, List.drop_left, hl y]
        exact this
end
end Go.Proofs.Ytmnccekljombmaa
