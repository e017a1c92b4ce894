/- Texts joined: Own, App, Eq. -/
import Derived.Test.YtbcemldiahghcaaGreatK02
import Derived.Maps.AppendAt
import Derived.Deep.AppendSrc
import Derived.Laws.StructEq
namespace Go.Proofs.YtbcemldiahghcaaGreat
set_option linter.unusedVariables false
set_option linter.unusedSimpArgs false
open Go.RowKit

/-- w' is w but for blocks in S and new ones. -/
structure Ch (S : Nat → Prop) (w w' : World) : Prop where
  os : w'.os = w.os
  tape : w'.tape = w.tape
  output : w'.output = w.output
  size : w.heap.size ≤ w'.heap.size
  block : ∀ k, k < w.heap.size → ¬ S k → w'.heap[k]? = w.heap[k]?
section
variable {S S' : Nat → Prop} {w w1 w2 : World} {B : Nat}
theorem Ch.refl (S : Nat → Prop) (w : World) : Ch S w w := ⟨rfl, rfl, rfl, Nat.le_refl _, fun _ _ _ => rfl⟩
theorem Ch.trans (h : Ch S w w1) (k : Ch S w1 w2) : Ch S w w2 :=
  ⟨k.os.trans h.os, k.tape.trans h.tape, k.output.trans h.output, Nat.le_trans h.size k.size, fun i hi hn => (k.block i (Nat.lt_of_lt_of_le hi h.size) hn).trans (h.block i hi hn)⟩
theorem Ch.mono (hS : ∀ k, S k → S' k) (h : Ch S w w1) : Ch S' w w1 := ⟨h.os, h.tape, h.output, h.size, fun i hi hn => h.block i hi (fun hs => hn (hS i hs))⟩
/-- What a later call changes beside S' are blocks that are new to w. -/
theorem Ch.then (h : Ch S w w1) (k : Ch S' w1 w2) (hS : ∀ i, S' i → S i ∨ w.heap.size ≤ i) : Ch S w w2 :=
  ⟨k.os.trans h.os, k.tape.trans h.tape, k.output.trans h.output, Nat.le_trans h.size k.size, fun i hi hn =>
    (k.block i (Nat.lt_of_lt_of_le hi h.size) (fun hs => (hS i hs).elim hn (fun hw => absurd hi (Nat.not_lt.2 hw)))).trans (h.block i hi hn)⟩
theorem Ch.of_below (h : Below w.heap.size w w1) : Ch S w w1 := ⟨h.os, h.tape, h.output, h.size, fun i hi _ => h.block i hi⟩
theorem Ch.below (h : Ch S w w1) (hS : ∀ k, S k → B ≤ k) (hB : B ≤ w.heap.size) : Below B w w1 := ⟨h.os, h.tape, h.output, h.size, fun i hi => h.block i (by omega) (fun hs => by have := hS i hs; omega)⟩
theorem Ch.below0 (h : Ch (fun _ => False) w w1) : Below w.heap.size w w1 := h.below (fun _ hf => hf.elim) (Nat.le_refl _)
theorem Ch.alloc (h : Ch S w w1) (o : Obj) : Ch S w (w1.alloc o) := h.trans (Ch.of_below (balloc (Below.refl _ _) o))
theorem Ch.drew (h : Ch S w w1) : Ch S w w1.drew := ⟨h.os, h.tape, h.output, h.size, h.block⟩
theorem Ch.drewN (h : Ch S w w1) (n : Nat) : Ch S w (w1.drewN n) := ⟨h.os, h.tape, h.output, h.size, h.block⟩
theorem Ch.setCell (h : Ch S w w1) {p : Addr} (hp : S p.block ∨ w.heap.size ≤ p.block) (u : Value) : Ch S w (w1.setCell p u) :=
  ⟨h.os, h.tape, h.output, by have := h.size; simpa [World.setCell] using this, fun i hi hn => by
    rw [Below.heap_setCell _ _ _ _ (fun e => by subst e; rcases hp with hp | hp; exact hn hp; omega)]; exact h.block i hi hn⟩
theorem Ch.grown (h : Ch S w w1) {row : Option Nat} (hg : w1.grownBy w2 row) (hr : ∀ k, row = some k → S k ∨ w.heap.size ≤ k) : Ch S w w2 :=
  h.then (S' := fun k => row = some k) ⟨hg.os, hg.tape, hg.output, hg.size, fun i hi hn => hg.block i hi (fun e => hn e.symm)⟩ hr
theorem Ch.cell (h : Ch S w w1) {p : Addr} (hp : p.block < w.heap.size) (hn : ¬ S p.block) : w1.cell? p = w.cell? p := World.cell?_of_block (w := w) (h.block _ hp hn)
theorem Ch.frozen (h : Ch S w w1) {p : Addr} (hp : p.block < w.heap.size) (hn : ¬ S p.block) : w1.frozen? p = w.frozen? p := World.frozen?_of_block (w := w) (h.block _ hp hn)
/-- The two rules that the walk takes. -/
theorem Ch.cells (h : Ch S w w1) : (∀ b o, b < w.heap.size → ¬ S b → w1.cell? ⟨b, o, none⟩ = w.cell? ⟨b, o, none⟩) ∧ (∀ b o, b < w.heap.size → ¬ S b → w1.frozen? ⟨b, o, none⟩ = w.frozen? ⟨b, o, none⟩) :=
  ⟨fun b o hb hn => h.cell (p := ⟨b, o, none⟩) hb hn, fun b o hb hn => h.frozen (p := ⟨b, o, none⟩) hb hn⟩
theorem Ch.heap (h : Ch S w w1) {k : Nat} {o : Obj} (ho : w.heap[k]? = some o) (hn : ¬ S k) : w1.heap[k]? = some o := (h.block k (Array.getElem?_eq_some_iff.1 ho).1 hn).trans ho
end

section
variable {α : Type} {d : Ty α} {e : TypeId} {w w' : World} {F F' : Nat → Prop} {v : Value} {xs : List α}
theorem Rd.ch {S : Nat → Prop} (h : Rd d w F v xs) (hc : Ch S w w') (hS : ∀ k, F k → ¬ S k) : Rd d w' F v xs := h.keep fun k hk hlt => hc.block k hlt (hS k hk)

/-- A row of the call's own: type e; F: all its blocks. -/
def Ow (d : Ty α) (e : TypeId) (w : World) (F : Nat → Prop) (v : Value) (xs : List α) : Prop :=
  ∃ (cs : List Value) (Fs : Nat → Nat → Prop), w.ownsRow 0 e d.sz v xs.length cs ∧ (∀ g, v.ownBlock = some g → F g) ∧
    (∀ j k, Fs j k → F k ∧ some k ≠ v.ownBlock) ∧ (∀ i j k, i ≠ j → Fs i k → Fs j k → False) ∧
    ∀ j x, xs[j]? = some x → d.rel w (Fs j) x ((cs.drop (j * d.sz)).take d.sz)
theorem Ow.nil (d : Ty α) (e : TypeId) (w : World) (F : Nat → Prop) : Ow d e w F (.slice none 0 0) [] :=
  ⟨[], fun _ _ => False, World.ownsRow_nil _ _ _ _, fun g hg => by simp [Value.ownBlock] at hg, fun _ _ h => h.elim, fun _ _ _ _ h => h.elim, fun j x hj => by simp at hj⟩
theorem Ow.mono (hF : ∀ k, F k → F' k) (h : Ow d e w F v xs) : Ow d e w F' v xs := by
  obtain ⟨cs, Fs, h1, h2, h3, h4, h5⟩ := h
  exact ⟨cs, Fs, h1, fun g hg => hF g (h2 g hg), fun j k hk => ⟨hF k (h3 j k hk).1, (h3 j k hk).2⟩, h4, h5⟩
theorem ownsRow_move {base size n : Nat} {cs : List Value} (h : w.ownsRow base e size v n cs) (hm : ∀ k, v.ownBlock = some k → w'.heap[k]? = w.heap[k]?) : w'.ownsRow base e size v n cs := by
  obtain ⟨h1, h2⟩ := h
  refine ⟨h1, ?_⟩
  rcases h2 with h2 | ⟨g, cap, cur, rfl, hg, hh, r⟩
  · exact .inl h2
  · exact .inr ⟨g, cap, cur, rfl, hg, (hm g (by simp [Value.ownBlock])).trans hh, r⟩
theorem Ow.move (hm : ∀ k, F k → w'.heap[k]? = w.heap[k]?) (h : Ow d e w F v xs) : Ow d e w' F v xs := by
  obtain ⟨cs, Fs, h1, h2, h3, h4, h5⟩ := h
  exact ⟨cs, Fs, ownsRow_move h1 (fun k hk => hm k (h2 k hk)), h2, h3, h4, fun j x hj => d.move (fun k hk => hm k (h3 j k hk).1) (h5 j x hj)⟩
theorem Ow.bound (h : Ow d e w F v xs) : Ow d e w (fun k => F k ∧ k < w.heap.size) v xs := by
  obtain ⟨cs, Fs, h1, h2, h3, h4, h5⟩ := h
  exact ⟨cs, fun j k => Fs j k ∧ k < w.heap.size, h1, fun g hg => ⟨h2 g hg, (h1.lt g hg).2⟩, fun j k hk => ⟨⟨(h3 j k hk.1).1, hk.2⟩, (h3 j k hk.1).2⟩, fun i j k hn ha hb => h4 i j k hn ha.1 hb.1, fun j x hj => d.bound (h5 j x hj)⟩
theorem Ow.keep (h : Ow d e w F v xs) (hm : ∀ k, F k → k < w.heap.size → w'.heap[k]? = w.heap[k]?) : Ow d e w' F v xs :=
  ((h.bound).move (fun k hk => hm k hk.1 hk.2)).mono (fun _ hk => hk.1)
theorem Ow.below (h : Ow d e w F v xs) (hb : Below w.heap.size w w') : Ow d e w' F v xs := h.keep fun k _ hk => hb.block k hk
theorem Ow.ch {S : Nat → Prop} (h : Ow d e w F v xs) (hc : Ch S w w') (hS : ∀ k, F k → ¬ S k) : Ow d e w' F v xs := h.keep fun k hk hlt => hc.block k hlt (hS k hk)
theorem Ow.alloc (h : Ow d e w F v xs) (o : Obj) : Ow d e (w.alloc o) F v xs := h.below (balloc (Below.refl _ _) o)
theorem Ow.drewN (h : Ow d e w F v xs) (n : Nat) : Ow d e (w.drewN n) F v xs := Ow.move (w := w) (w' := w.drewN n) (fun _ _ => rfl) h
theorem Ow.block_lt (h : Ow d e w F v xs) {g : Nat} (hg : v.ownBlock = some g) : g < w.heap.size := by
  obtain ⟨cs, Fs, h1, _⟩ := h; exact (h1.lt g hg).2
theorem Ow.inF (h : Ow d e w F v xs) {g : Nat} (hg : v.ownBlock = some g) : F g := by
  obtain ⟨cs, Fs, h1, h2, _⟩ := h; exact h2 g hg
/-- The shape of an own slice. -/
theorem Ow.shape (h : Ow d e w F v xs) : ∃ A c, v = .slice A xs.length c ∧ xs.length ≤ 9223372036854775807 := by
  obtain ⟨cs, Fs, h1, _⟩ := h
  rcases h1.2 with ⟨rfl, h0⟩ | ⟨g, cap, cur, rfl, _, _, h2, h3, _⟩
  · exact ⟨none, 0, by rw [h0], by omega⟩
  · refine ⟨_, cap, rfl, ?_⟩
    simp only [maxLen] at h3; omega
theorem Ow.head (h : Ow d e w F v xs) (hp : 0 < xs.length) : ∃ g c cur, v = .slice (some ⟨g, 0, none⟩) xs.length c ∧ F g ∧ g < w.heap.size ∧ w.heap[g]? = some (.cells cur e (0, 0)) := by
  obtain ⟨cs, Fs, h1, h2, _⟩ := h
  rcases h1.2 with ⟨rfl, h0⟩ | ⟨g, cap, cur, rfl, _, hh, _⟩
  · omega
  · exact ⟨g, cap, cur, rfl, h2 g rfl, (h1.lt g rfl).2, hh⟩
theorem Ow.rd (h : Ow d e w F v xs) : Rd d w F v xs := by
  obtain ⟨cs, Fs, h1, h2, h3, h4, h5⟩ := h
  have hlen := h1.1
  rcases hx : h1.2 with ⟨hv, h0⟩ | ⟨g, cap, cur, hv, _, hh, hc1, hc2, hc3, hc4⟩
  · subst hv
    have : xs = [] := List.length_eq_zero_iff.1 h0
    subst this
    exact Rd.nil _ _ _
  · subst hv
    refine ⟨_, cap, rfl, hc1, by simp only [maxLen] at hc2; omega, fun hp => ⟨g, 0, rfl, h2 g rfl, (h1.lt g rfl).2, fun j x hj => ⟨_, d.mono (fun k hk => (h3 j k hk).1) (h5 j x hj), fun i u hi => ?_⟩⟩⟩
    rw [List.getElem?_take] at hi
    split at hi
    · rw [List.getElem?_drop] at hi
      have := h1.cells (g := g) rfl (j * d.sz + i) u hi
      have ha : (⟨g, 0, none⟩ : Addr).add (j * d.sz + i) = ⟨g, 0 + j * d.sz + i, none⟩ := by unfold Addr.add; split <;> simp_all <;> omega
      rwa [ha] at this
    · cases hi
/-- A flat own row out of the kit's. -/
theorem Ow.of_flat {cells : α → List Value} {sz : Nat} {hl : ∀ x, (cells x).length = sz} {ho : ∀ x, ∀ u ∈ cells x, u.oneCell' = true} {base : Nat}
    (h : w.ownsRow base e sz v xs.length (xs.flatMap cells)) (hF : ∀ g, v.ownBlock = some g → F g) : Ow (flat cells sz hl ho) e w F v xs := by
  refine ⟨xs.flatMap cells, fun _ _ => False, ?_, hF, fun _ _ h => h.elim, fun _ _ _ _ h => h.elim, ?_⟩
  · obtain ⟨h1, h2⟩ := h
    refine ⟨h1, ?_⟩
    rcases h2 with h2 | ⟨g, cap, cur, rfl, hg, r⟩
    · exact .inl h2
    · exact .inr ⟨g, cap, cur, rfl, Nat.zero_le _, r⟩
  · clear h hF
    induction xs with
    | nil => intro j x hj; simp at hj
    | cons y ys ih =>
      intro j x hj
      cases j with
      | zero =>
        have hxy : y = x := by simpa using hj
        subst hxy
        show _ = _
        simp only [flat, Nat.zero_mul, List.drop_zero, List.flatMap_cons]
        rw [← hl y, List.take_left]
      | succ j =>
        have := ih j x (by simpa using hj)
        simp only [flat, List.flatMap_cons] at this ⊢
        rw [Nat.succ_mul, Nat.add_comm, ← List.drop_drop, ← hl y, List.drop_left, hl y]
        exact this
end
end Go.Proofs.YtbcemldiahghcaaGreat

namespace Go.Proofs.YtbcemldiahghcaaGreat
set_option linter.unusedVariables false
set_option linter.unusedSimpArgs false
open Go.RowKit
section
variable {α : Type} {P : Program} {W : World}

theorem run_append_nil (t ty e : TypeId) (ht : P.underlying t = some (.slice e)) {bytes : Nat} (size : Nat) {i : TypeInfo} (hi : P.info? e = some i) (hsz : i.size = size) (base : Nat) (v : Value) (n : Nat) (xs : List Value) (c : Nat)
    (hown : W.ownsRow base e size v n xs) : (Builtin.append_ #[t, t] ty #[v, .slice none 0 c]).run P W = .ok v W := by
  rcases hown.2 with ⟨rfl, rfl⟩ | ⟨g, cap, cur, rfl, _, hh, hc, _⟩
  · have hS : Src P i.size t (.slice none 0 c) 0 [] W := Src.ofNil (w := W) ht c
    simp [Builtin.append_, run_underlying ht, sizeOf, typeInfo, hi, hS.len, hS.cells]
  · have h := run_append_room_src (P := P) (w := W) t t ty e i ht hi g 0 n cap (.slice none 0 c) 0 [] (Src.ofNil (w := W) ht c) (by omega) (by simp) (by simp)
    simpa [World.setCells] using h

/-- Whatever reads as cells behind a row of the call's own. -/
theorem run_append_cells (t ty e : TypeId) (ht : P.underlying t = some (.slice e)) (z : Value) (size bytes : Nat) (hinfo : (P.info? e).map (fun i => (i.zero, i.size, i.bytes)) = some (some z, size, bytes)) (hz : z.cells.size = size) (hs0 : 0 < size) (hb0 : 0 < bytes)
    (v : Value) (n : Nat) (cs : List Value) (hown : W.ownsRow 0 e size v n cs) (A : Option Addr) (m c : Nat) (news : List Value) (hl : news.length = m * size)
    (hA : 0 < m → ∃ b o, A = some ⟨b, o, none⟩ ∧ ∀ j u, news[j]? = some u → W.cell? ⟨b, o + j, none⟩ = some u) (h1 : ∀ u ∈ news, u.oneCell' = true) (hbytes : (n + m) * bytes ≤ 140737488355328) :
    ∃ v' w', (Builtin.append_ #[t, t] ty #[v, .slice A m c]).run P W = .ok v' w' ∧ w'.ownsRow 0 e size v' (n + m) (cs ++ news) ∧ W.grownBy w' v.ownBlock ∧ (v'.ownBlock = v.ownBlock ∨ v'.ownBlock = some W.heap.size) := by
  obtain ⟨i, hi, hzz⟩ := Option.map_eq_some_iff.1 hinfo
  simp only [Prod.mk.injEq] at hzz
  obtain ⟨hz0, hz1, hz2⟩ := hzz
  have h63 : n + m ≤ maxLen := by
    have : n + m ≤ (n + m) * bytes := Nat.le_mul_of_pos_right _ hb0
    simp only [maxLen]; omega
  cases A with
  | none =>
    rcases Nat.eq_zero_or_pos m with h0 | h0
    · subst h0
      have hn : news = [] := List.length_eq_zero_iff.1 (by simpa using hl)
      subst hn
      exact ⟨v, W, run_append_nil (bytes := bytes) t ty e ht size hi hz1 0 v n cs c hown, by simpa using hown, ⟨rfl, rfl, rfl, Nat.le_refl _, fun _ _ _ => rfl⟩, .inl rfl⟩
    · obtain ⟨b, o, h, _⟩ := hA h0
      cases h
  | some ad =>
    have hnews : ∀ j u, news[j]? = some u → W.cell? (ad.add j) = some u := by
      intro j u hj
      rcases Nat.eq_zero_or_pos m with h0 | h0
      · subst h0
        have hn : news = [] := List.length_eq_zero_iff.1 (by simpa using hl)
        subst hn
        simp at hj
      · obtain ⟨b, o, h, hc⟩ := hA h0
        cases h
        have ha : (⟨b, o, none⟩ : Addr).add j = ⟨b, o + j, none⟩ := by unfold Addr.add; split <;> simp_all
        rw [ha]; exact hc j u hj
    obtain ⟨v', w', hr, h2, h3, _, h5⟩ := run_append_own_at (P := P) (w := W) 0 t ty e i z size bytes ht hi hz0 hz1 hz2 hz hs0 v n cs hown ad m c news hl hnews h1 h63 hbytes (Nat.zero_le _)
    exact ⟨v', w', hr, h2, h3, h5⟩

variable {ops : Array Oper} {rest : List Oper} {o : Oper} {a : Act} {Q : Exit → Act → World → Prop} {K : Act → World → Prop}
theorem wp_of_append {s x : Operand} {t : TypeId} (ho : o.op = .call { callee := .builtin .append, args := #[s, x], argTypes := #[t, t] }) {v y v' : Value} {w' : World} (hs : a.eval s = v) (hx : a.eval x = y)
    (hr : (Builtin.append_ #[t, t] o.type #[v, y]).run P W = .ok v' w') (h : K (a.put o.dst v') w') : o.wp P a W K Q := by
  unfold Oper.wp execOp
  simp only [ho, resolve, invoke, builtin, Sem.run_bind, Sem.run_pure, Result.andThen_ok, List.map_toArray, List.map_cons, List.map_nil, hs, hx, hr]
  exact h
variable {d : Ty α} {e : TypeId} {F G : Nat → Prop} {v : Value} {xs : List α}
/-- What an own row with one more element is. -/
theorem Ow.snoc {cs : List Value} {Fs : Nat → Nat → Prop} {w' : World} {v' : Value} {y : α} {news : List Value} {Fy : Nat → Prop}
    (hsz : 0 < d.sz) (h1 : W.ownsRow 0 e d.sz v xs.length cs) (h2 : ∀ g, v.ownBlock = some g → F g) (h3 : ∀ j k, Fs j k → F k ∧ some k ≠ v.ownBlock) (h4 : ∀ i j k, i ≠ j → Fs i k → Fs j k → False)
    (h5 : ∀ j x, xs[j]? = some x → d.rel W (Fs j) x ((cs.drop (j * d.sz)).take d.sz))
    (hy : d.rel W Fy y news) (hyF : ∀ k, Fy k → ¬ F k) (hyw : ∀ k, Fy k → k < W.heap.size)
    (hown : w'.ownsRow 0 e d.sz v' (xs.length + 1) (cs ++ news)) (hg : W.grownBy w' v.ownBlock) (hat : v'.ownBlock = v.ownBlock ∨ ∃ b, v'.ownBlock = some b ∧ W.heap.size ≤ b)
    (hFG : ∀ k, F k → G k) (hyG : ∀ k, Fy k → G k) (hnG : ∀ k, W.heap.size ≤ k → G k) : Ow d e w' G v' (xs ++ [y]) := by
  have hlen := h1.1
  have hyl := d.len hy
  have hbl : ∀ j k, Fs j k → k < W.heap.size → w'.heap[k]? = W.heap[k]? := fun j k hk hlt => hg.block k hlt (h3 j k hk).2
  refine ⟨cs ++ news, fun j k => (j < xs.length ∧ Fs j k ∧ k < W.heap.size) ∨ (j = xs.length ∧ Fy k), by simpa using hown, fun g hgg => ?_, fun j k hk => ?_, fun i j k hij hi hj => ?_, fun j x hj => ?_⟩
  · rcases hat with hat | ⟨b, hb, hlt⟩
    · exact hFG g (h2 g (hat ▸ hgg))
    · rw [hb] at hgg; cases hgg; exact hnG g hlt
  · have hne : ∀ k, k < W.heap.size → (some k ≠ v.ownBlock) → some k ≠ v'.ownBlock := fun k hk hn he => by
      rcases hat with hat | ⟨b, hb, hlt⟩
      · exact hn (he.trans hat)
      · rw [hb] at he; cases he; omega
    rcases hk with ⟨hj, hk, hlt⟩ | ⟨hj, hk⟩
    · exact ⟨hFG k (h3 j k hk).1, hne k hlt (h3 j k hk).2⟩
    · exact ⟨hyG k hk, hne k (hyw k hk) (fun he => hyF k hk (h2 k he.symm))⟩
  · rcases hi with ⟨hi, hik, _⟩ | ⟨hi, hik⟩ <;> rcases hj with ⟨hj, hjk, _⟩ | ⟨hj, hjk⟩
    · exact h4 i j k hij hik hjk
    · exact hyF k hjk (h3 i k hik).1
    · exact hyF k hik (h3 j k hjk).1
    · omega
  · rcases Nat.lt_or_ge j xs.length with hlt | hge
    · rw [List.getElem?_append_left hlt] at hj
      have hle : j * d.sz + d.sz ≤ cs.length := by rw [hlen, ← Nat.succ_mul]; exact Nat.mul_le_mul_right _ hlt
      rw [List.drop_append_of_le_length (by omega), List.take_append_of_le_length (by rw [List.length_drop]; omega)]
      have hb := d.bound (h5 j x hj)
      exact d.mono (fun k hk => .inl ⟨hlt, hk.1, hk.2⟩) (d.move (fun k hk => hbl j k hk.1 hk.2) hb)
    · have hj' : j = xs.length := by have := (List.getElem?_eq_some_iff.1 hj).1; simp at this; omega
      subst hj'
      have hxy : y = x := by simpa using hj
      subst hxy
      rw [← hlen, List.drop_left, ← hyl, List.take_length]
      exact d.mono (fun k hk => .inr ⟨by omega, hk⟩) (d.move (fun k hk => hg.block k (hyw k hk) (fun he => hyF k hk (h2 k he.symm))) hy)

/-- append(v, y), one element that lies in block H. -/
theorem ow_append_run (t ty : TypeId) (ht : P.underlying t = some (.slice e)) (z : Value) (bytes : Nat) (hinfo : (P.info? e).map (fun i => (i.zero, i.size, i.bytes)) = some (some z, d.sz, bytes)) (hz : z.cells.size = d.sz) (hs0 : 0 < d.sz) (hb0 : 0 < bytes)
    (HO : Ow d e W F v xs) (y : α) (ys : Array Value) (H : Nat) {fr : Nat × Nat} {e' : TypeId} (hH : W.heap[H]? = some (.cells ys e' fr)) (Fy : Nat → Prop) (hy : d.rel W Fy y ys.toList) (hyF : ∀ k, Fy k → ¬ F k) (hyw : ∀ k, Fy k → k < W.heap.size) (hl : (xs.length + 1) * bytes ≤ 140737488355328)
    (hFG : ∀ k, F k → G k) (hyG : ∀ k, Fy k → G k) (hnG : ∀ k, W.heap.size ≤ k → G k) :
    ∃ v1 w1, (Builtin.append_ #[t, t] ty #[v, .slice (some ⟨H, 0, none⟩) 1 1]).run P W = .ok v1 w1 ∧ Ow d e w1 G v1 (xs ++ [y]) ∧ W.grownBy w1 v.ownBlock ∧ (v1.ownBlock = v.ownBlock ∨ ∃ b, v1.ownBlock = some b ∧ W.heap.size ≤ b) := by
  obtain ⟨cs, Fs, h1, h2, h3, h4, h5⟩ := HO
  obtain ⟨v1, w1, hr, ho, hg, hat⟩ := run_append_cells (P := P) (W := W) t ty e ht z d.sz bytes hinfo hz hs0 hb0 v xs.length cs h1 (some ⟨H, 0, none⟩) 1 1 ys.toList (by rw [d.len hy, Nat.one_mul])
    (fun _ => ⟨H, 0, rfl, fun j u hj => by
      simp only [World.cell?, hH, Nat.zero_add]
      simpa using hj⟩) (d.one hy) hl
  have hat' : v1.ownBlock = v.ownBlock ∨ ∃ b, v1.ownBlock = some b ∧ W.heap.size ≤ b := hat.imp_right fun h => ⟨_, h, Nat.le_refl _⟩
  exact ⟨v1, w1, hr, Ow.snoc hs0 h1 h2 h3 h4 h5 hy hyF hyw ho hg hat' hFG hyG hnG, hg, hat'⟩
/-- The arm at append(v, y). -/
theorem ow_append (hgd : o.guard = none) {s x : Operand} (t : TypeId) (ho : o.op = .call { callee := .builtin .append, args := #[s, x], argTypes := #[t, t] }) (ht : P.underlying t = some (.slice e)) (z : Value) (bytes : Nat)
    (hinfo : (P.info? e).map (fun i => (i.zero, i.size, i.bytes)) = some (some z, d.sz, bytes)) (hz : z.cells.size = d.sz) (hs0 : 0 < d.sz) (hb0 : 0 < bytes)
    (hs : a.eval s = v) (HO : Ow d e W F v xs) (y : α) (ys : Array Value) {H : Nat} (hx : a.eval x = .slice (some ⟨H, 0, none⟩) 1 1) {fr : Nat × Nat} {e' : TypeId} (hH : W.heap[H]? = some (.cells ys e' fr)) (Fy : Nat → Prop) (hy : d.rel W Fy y ys.toList) (hyF : ∀ k, Fy k → ¬ F k) (hyw : ∀ k, Fy k → k < W.heap.size) (hl : (xs.length + 1) * bytes ≤ 140737488355328)
    (G : Nat → Prop) (hFG : ∀ k, F k → G k) (hyG : ∀ k, Fy k → G k) (hnG : ∀ k, W.heap.size ≤ k → G k)
    (h : ∀ v1 w1, Ow d e w1 G v1 (xs ++ [y]) → W.grownBy w1 v.ownBlock → (v1.ownBlock = v.ownBlock ∨ ∃ b, v1.ownBlock = some b ∧ W.heap.size ≤ b) → wpList P ops Q rest (a.put o.dst v1) w1) :
    wpList P ops Q (o :: rest) a W :=
  wpList_plain hgd fun _ hK => by
    obtain ⟨v1, w1, hr, h1, h2, h3⟩ := ow_append_run (G := G) t o.type ht z bytes hinfo hz hs0 hb0 HO y ys H hH Fy hy hyF hyw hl hFG hyG hnG
    exact wp_of_append ho hs hx hr (hK _ _ (h v1 w1 h1 h2 h3))
/-- The same at the bare operation. -/
theorem ow_append_wp {s x : Operand} (t : TypeId) (ho : o.op = .call { callee := .builtin .append, args := #[s, x], argTypes := #[t, t] }) (ht : P.underlying t = some (.slice e)) (z : Value) (bytes : Nat)
    (hinfo : (P.info? e).map (fun i => (i.zero, i.size, i.bytes)) = some (some z, d.sz, bytes)) (hz : z.cells.size = d.sz) (hs0 : 0 < d.sz) (hb0 : 0 < bytes)
    (hs : a.eval s = v) (HO : Ow d e W F v xs) (y : α) (ys : Array Value) {H : Nat} (hx : a.eval x = .slice (some ⟨H, 0, none⟩) 1 1) {fr : Nat × Nat} {e' : TypeId} (hH : W.heap[H]? = some (.cells ys e' fr)) (Fy : Nat → Prop) (hy : d.rel W Fy y ys.toList) (hyF : ∀ k, Fy k → ¬ F k) (hyw : ∀ k, Fy k → k < W.heap.size) (hl : (xs.length + 1) * bytes ≤ 140737488355328)
    (G : Nat → Prop) (hFG : ∀ k, F k → G k) (hyG : ∀ k, Fy k → G k) (hnG : ∀ k, W.heap.size ≤ k → G k)
    (h : ∀ v1 w1, Ow d e w1 G v1 (xs ++ [y]) → W.grownBy w1 v.ownBlock → (v1.ownBlock = v.ownBlock ∨ ∃ b, v1.ownBlock = some b ∧ W.heap.size ≤ b) → K (a.put o.dst v1) w1) :
    o.wp P a W K Q := by
  obtain ⟨v1, w1, hr, h1, h2, h3⟩ := ow_append_run (G := G) t o.type ht z bytes hinfo hz hs0 hb0 HO y ys H hH Fy hy hyF hyw hl hFG hyG hnG
  exact wp_of_append ho hs hx hr (h v1 w1 h1 h2 h3)
theorem flat_cells {cells : α → List Value} {sz : Nat} (hl : ∀ x, (cells x).length = sz) {b : Nat} : ∀ (ys : List α) (o : Nat), (∀ j x, ys[j]? = some x → ∀ i u, (cells x)[i]? = some u → W.cell? ⟨b, o + j * sz + i, none⟩ = some u) →
    ∀ j u, (ys.flatMap cells)[j]? = some u → W.cell? ⟨b, o + j, none⟩ = some u
  | [], _, _, j, u, hj => by simp at hj
  | y :: ys, o, h, j, u, hj => by
    rw [List.flatMap_cons] at hj
    rcases Nat.lt_or_ge j (cells y).length with hlt | hge
    · rw [List.getElem?_append_left hlt] at hj
      have := h 0 y rfl j u hj
      simpa using this
    · rw [List.getElem?_append_right hge] at hj
      have := flat_cells hl ys (o + sz) (fun j' x hj' i u hi => by
        have := h (j' + 1) x (by simpa using hj') i u hi
        rw [Nat.succ_mul] at this
        rw [show o + sz + j' * sz + i = o + (j' * sz + sz) + i from by omega]; exact this) _ u hj
      rw [hl y] at this hge
      rw [show o + j = o + sz + (j - sz) from by omega]; exact this
theorem Ow.flatRow {cells : α → List Value} {sz : Nat} {hl : ∀ x, (cells x).length = sz} {ho : ∀ x, ∀ u ∈ cells x, u.oneCell' = true} (h : Ow (flat cells sz hl ho) e W F v xs) : W.ownsRow 0 e sz v xs.length (xs.flatMap cells) := by
  obtain ⟨cs, Fs, h1, h2, h3, h4, h5⟩ := h
  have hcs : cs = xs.flatMap cells := by
    have hlen : cs.length = xs.length * sz := h1.1
    have h5' : ∀ j x, xs[j]? = some x → (cs.drop (j * sz)).take sz = cells x := h5
    clear h1 h2 h3 h4 h5
    induction xs generalizing cs with
    | nil => simpa using hlen
    | cons y ys ih =>
      have h0 := h5' 0 y rfl
      simp only [Nat.zero_mul, List.drop_zero] at h0
      have := ih (cs.drop sz) (by rw [List.length_drop, hlen, List.length_cons, Nat.succ_mul]; omega) (fun j x hj => by
        have := h5' (j + 1) x (by simpa using hj)
        rw [Nat.succ_mul, Nat.add_comm, ← List.drop_drop] at this
        exact this)
      rw [List.flatMap_cons, ← h0, ← this, List.take_append_drop]
  rw [hcs] at h1; exact h1
theorem flatMap_len {cells : α → List Value} {sz : Nat} (hl : ∀ x, (cells x).length = sz) (ys : List α) : (ys.flatMap cells).length = ys.length * sz := by
  induction ys with
  | nil => simp
  | cons y ys ih => rw [List.flatMap_cons, List.length_append, ih, hl, List.length_cons, Nat.succ_mul]; omega
/-- append(v, vy...), flat elements. -/
theorem ow_concat_run {cells : α → List Value} {sz : Nat} {hl : ∀ x, (cells x).length = sz} {ho1 : ∀ x, ∀ u ∈ cells x, u.oneCell' = true} (t ty : TypeId) (ht : P.underlying t = some (.slice e)) (z : Value) (bytes : Nat) (hinfo : (P.info? e).map (fun i => (i.zero, i.size, i.bytes)) = some (some z, sz, bytes)) (hz : z.cells.size = sz) (hs0 : 0 < sz) (hb0 : 0 < bytes)
    (HO : Ow (flat cells sz hl ho1) e W F v xs) {vy : Value} {ys : List α} {Fy : Nat → Prop} (hy : Rd (flat cells sz hl ho1) W Fy vy ys) (hb : (xs.length + ys.length) * bytes ≤ 140737488355328)
    (hFG : ∀ k, F k → G k) (hnG : ∀ k, W.heap.size ≤ k → G k) :
    ∃ v1 w1, (Builtin.append_ #[t, t] ty #[v, vy]).run P W = .ok v1 w1 ∧ Ow (flat cells sz hl ho1) e w1 G v1 (xs ++ ys) ∧ W.grownBy w1 v.ownBlock ∧ (v1.ownBlock = v.ownBlock ∨ ∃ b, v1.ownBlock = some b ∧ W.heap.size ≤ b) := by
  have h1 := HO.flatRow
  obtain ⟨A, c, rfl, hc, _, hA⟩ := hy
  obtain ⟨v1, w1, hr, hown, hg, hat⟩ := run_append_cells (P := P) (W := W) t ty e ht z sz bytes hinfo hz hs0 hb0 v xs.length _ h1 A ys.length c (ys.flatMap cells) (flatMap_len hl ys)
    (fun hp => by
      obtain ⟨b, o, hA', _, _, hcell⟩ := hA hp
      exact ⟨b, o, hA', flat_cells hl ys o (fun j x hj i u hi => by
        obtain ⟨cs, hcs, hu⟩ := hcell j x hj
        have hcs' : cs = cells x := hcs
        subst hcs'
        exact hu i u hi)⟩)
    (fun u hu => by obtain ⟨x, _, hx⟩ := List.mem_flatMap.1 hu; exact ho1 x u hx) hb
  have hat' : v1.ownBlock = v.ownBlock ∨ ∃ b, v1.ownBlock = some b ∧ W.heap.size ≤ b := hat.imp_right fun h => ⟨_, h, Nat.le_refl _⟩
  refine ⟨v1, w1, hr, Ow.of_flat (base := 0) (by rw [List.flatMap_append, List.length_append]; exact hown) (fun g hgg => ?_), hg, hat'⟩
  rcases hat' with hat' | ⟨b, hb', hlt⟩
  · exact hFG g (HO.inF (hat' ▸ hgg))
  · rw [hb'] at hgg; cases hgg; exact hnG _ hlt
theorem ow_concat {cells : α → List Value} {sz : Nat} {hl : ∀ x, (cells x).length = sz} {ho1 : ∀ x, ∀ u ∈ cells x, u.oneCell' = true} (hgd : o.guard = none) {s x : Operand} (t : TypeId) (ho : o.op = .call { callee := .builtin .append, args := #[s, x], argTypes := #[t, t] }) (ht : P.underlying t = some (.slice e)) (z : Value) (bytes : Nat)
    (hinfo : (P.info? e).map (fun i => (i.zero, i.size, i.bytes)) = some (some z, sz, bytes)) (hz : z.cells.size = sz) (hs0 : 0 < sz) (hb0 : 0 < bytes)
    (hs : a.eval s = v) (HO : Ow (flat cells sz hl ho1) e W F v xs) {vy : Value} (hx : a.eval x = vy) {ys : List α} {Fy : Nat → Prop} (hy : Rd (flat cells sz hl ho1) W Fy vy ys) (hb : (xs.length + ys.length) * bytes ≤ 140737488355328)
    (G : Nat → Prop) (hFG : ∀ k, F k → G k) (hnG : ∀ k, W.heap.size ≤ k → G k)
    (h : ∀ v1 w1, Ow (flat cells sz hl ho1) e w1 G v1 (xs ++ ys) → W.grownBy w1 v.ownBlock → (v1.ownBlock = v.ownBlock ∨ ∃ b, v1.ownBlock = some b ∧ W.heap.size ≤ b) → wpList P ops Q rest (a.put o.dst v1) w1) :
    wpList P ops Q (o :: rest) a W :=
  wpList_plain hgd fun _ hK => by
    obtain ⟨v1, w1, hr, h1, h2, h3⟩ := ow_concat_run (G := G) t o.type ht z bytes hinfo hz hs0 hb0 HO hy hb hFG hnG
    exact wp_of_append ho hs hx hr (hK _ _ (h v1 w1 h1 h2 h3))
theorem ow_concat_wp {cells : α → List Value} {sz : Nat} {hl : ∀ x, (cells x).length = sz} {ho1 : ∀ x, ∀ u ∈ cells x, u.oneCell' = true} {s x : Operand} (t : TypeId) (ho : o.op = .call { callee := .builtin .append, args := #[s, x], argTypes := #[t, t] }) (ht : P.underlying t = some (.slice e)) (z : Value) (bytes : Nat)
    (hinfo : (P.info? e).map (fun i => (i.zero, i.size, i.bytes)) = some (some z, sz, bytes)) (hz : z.cells.size = sz) (hs0 : 0 < sz) (hb0 : 0 < bytes)
    (hs : a.eval s = v) (HO : Ow (flat cells sz hl ho1) e W F v xs) {vy : Value} (hx : a.eval x = vy) {ys : List α} {Fy : Nat → Prop} (hy : Rd (flat cells sz hl ho1) W Fy vy ys) (hb : (xs.length + ys.length) * bytes ≤ 140737488355328)
    (G : Nat → Prop) (hFG : ∀ k, F k → G k) (hnG : ∀ k, W.heap.size ≤ k → G k)
    (h : ∀ v1 w1, Ow (flat cells sz hl ho1) e w1 G v1 (xs ++ ys) → W.grownBy w1 v.ownBlock → (v1.ownBlock = v.ownBlock ∨ ∃ b, v1.ownBlock = some b ∧ W.heap.size ≤ b) → K (a.put o.dst v1) w1) :
    o.wp P a W K Q := by
  obtain ⟨v1, w1, hr, h1, h2, h3⟩ := ow_concat_run (G := G) t o.type ht z bytes hinfo hz hs0 hb0 HO hy hb hFG hnG
  exact wp_of_append ho hs hx hr (h v1 w1 h1 h2 h3)
end
end Go.Proofs.YtbcemldiahghcaaGreat

namespace Go.Proofs.YtbcemldiahghcaaGreat
open Go.RowKit
section
variable {P : Program} {d : Nat} {xs ys : Array Value} {f : Field} {fs : List Field} {a b : Value} {r s : Bool} {w : World}
/-- The last field that counts. -/
theorem eqf_last (hn : (f.name == "_") = false) (ha : (part f.type xs f.offset).run P w = .ok a w) (hb : (part f.type ys f.offset).run P w = .ok b w) (he : (Op.equalIn d f.type a b).run P w = .ok r w) : (Op.eqFields d xs ys [f]).run P w = .ok r w := by
  have hn' : f.name ≠ "_" := by simpa using hn
  simp only [Op.eqFields, if_pos hn', Sem.run_bind, ha, hb, he, Result.andThen_ok]
  cases r <;> simp
theorem eqf_cons (hn : (f.name == "_") = false) (ha : (part f.type xs f.offset).run P w = .ok a w) (hb : (part f.type ys f.offset).run P w = .ok b w) (he : (Op.equalIn d f.type a b).run P w = .ok r w) (hr : (Op.eqFields d xs ys fs).run P w = .ok s w) : (Op.eqFields d xs ys (f :: fs)).run P w = .ok (r && s) w := by
  have hn' : f.name ≠ "_" := by simpa using hn
  rw [Op.eqFields]
  simp only [if_pos hn', Sem.run_bind, ha, hb, he, Result.andThen_ok]
  cases r
  · simp
  · simpa using hr
theorem eqA_of {t : TypeId} {fs : Array Field} (hu : P.underlying t = some (.struct fs)) (hp : P.stoodInHeld t = false) (h : (Op.eqFields d xs ys fs.toList).run P w = .ok r w) : (Op.equalIn (d + 1) t (.agg xs) (.agg ys)).run P w = .ok r w := by
  have hf : P.fieldsOf t = fs := by simp [Program.fieldsOf, hu]
  rw [run_equalIn_struct (P := P) w d t xs ys (by rw [hf]; exact hu) hp, hf]
  exact h
end
theorem eqv_St (d : Nat) (w : World) (x0 y0 x1 y1 x2 y2 : Int) :
    (Op.equalIn (d + 2) 49 (.agg #[.int .i64 x0, .int .i64 x1, .int .i64 x2]) (.agg #[.int .i64 y0, .int .i64 y1, .int .i64 y2])).run Tryz.prog w = .ok (x0 == y0 && (x1 == y1 && (x2 == y2))) w := by
  refine eqA_of Tryz.underlying49 (by kernel_rfl) ?_
  refine eqf_cons (by rfl) (by go_simp; rfl) (by go_simp; rfl) (by go_simp) ?_
  refine eqf_cons (by rfl) (by go_simp; rfl) (by go_simp; rfl) (by go_simp) ?_
  exact eqf_last (by rfl) (by go_simp; rfl) (by go_simp; rfl) (by go_simp)
theorem eqs_St (d : Nat) (w : World) (x y : StD) :
    (Op.equalIn (d + 2) 49 (.agg #[.int .i64 x.x, .int .i64 x.y, .int .i64 x.c]) (.agg #[.int .i64 y.x, .int .i64 y.y, .int .i64 y.c])).run Tryz.prog w = .ok (decide (x = y)) w := by
  rw [eqv_St]
  congr 1
  cases x; cases y
  rw [Bool.eq_iff_iff]
  simp
theorem eqv_Ev (d : Nat) (w : World) (x0 y0 x1 y1 x2 y2 x3 y3 x4 y4 x5 y5 x6 y6 : Int) :
    (Op.equalIn (d + 2) 80 (.agg #[.int .i64 x0, .int .i64 x1, .int .i64 x2, .int .i64 x3, .int .i64 x4, .int .i64 x5, .int .i64 x6]) (.agg #[.int .i64 y0, .int .i64 y1, .int .i64 y2, .int .i64 y3, .int .i64 y4, .int .i64 y5, .int .i64 y6])).run Tryz.prog w = .ok (x0 == y0 && (x1 == y1 && (x2 == y2 && (x3 == y3 && (x4 == y4 && (x5 == y5 && (x6 == y6))))))) w := by
  refine eqA_of Tryz.underlying80 (by kernel_rfl) ?_
  refine eqf_cons (by rfl) (by go_simp; rfl) (by go_simp; rfl) (by go_simp) ?_
  refine eqf_cons (by rfl) (by go_simp; rfl) (by go_simp; rfl) (by go_simp) ?_
  refine eqf_cons (by rfl) (by go_simp; rfl) (by go_simp; rfl) (by go_simp) ?_
  refine eqf_cons (by rfl) (by go_simp; rfl) (by go_simp; rfl) (by go_simp) ?_
  refine eqf_cons (by rfl) (by go_simp; rfl) (by go_simp; rfl) (by go_simp) ?_
  refine eqf_cons (by rfl) (by go_simp; rfl) (by go_simp; rfl) (by go_simp) ?_
  exact eqf_last (by rfl) (by go_simp; rfl) (by go_simp; rfl) (by go_simp)
theorem eqs_Ev (d : Nat) (w : World) (x y : EvD) :
    (Op.equalIn (d + 2) 80 (.agg #[.int .i64 x.time, .int .i64 x.to, .int .i64 x.from_, .int .i64 x.count, .int .i64 x.n, .int .i64 x.kind, .int .i64 x.arg]) (.agg #[.int .i64 y.time, .int .i64 y.to, .int .i64 y.from_, .int .i64 y.count, .int .i64 y.n, .int .i64 y.kind, .int .i64 y.arg])).run Tryz.prog w = .ok (decide (x = y)) w := by
  rw [eqv_Ev]
  congr 1
  cases x; cases y
  rw [Bool.eq_iff_iff]
  simp
theorem eqv_Out (d : Nat) (w : World) (x0 y0 x1 y1 x2 y2 x3 y3 x4 y4 : Int) :
    (Op.equalIn (d + 2) 128 (.agg #[.int .i64 x0, .int .i64 x1, .int .i64 x2, .int .i64 x3, .int .i64 x4]) (.agg #[.int .i64 y0, .int .i64 y1, .int .i64 y2, .int .i64 y3, .int .i64 y4])).run Tryz.prog w = .ok (x0 == y0 && (x1 == y1 && (x2 == y2 && (x3 == y3 && (x4 == y4))))) w := by
  refine eqA_of Tryz.underlying128 (by kernel_rfl) ?_
  refine eqf_cons (by rfl) (by go_simp; rfl) (by go_simp; rfl) (by go_simp) ?_
  refine eqf_cons (by rfl) (by go_simp; rfl) (by go_simp; rfl) (by go_simp) ?_
  refine eqf_cons (by rfl) (by go_simp; rfl) (by go_simp; rfl) (by go_simp) ?_
  refine eqf_cons (by rfl) (by go_simp; rfl) (by go_simp; rfl) (by go_simp) ?_
  exact eqf_last (by rfl) (by go_simp; rfl) (by go_simp; rfl) (by go_simp)
theorem eqs_Out (d : Nat) (w : World) (x y : OutD) :
    (Op.equalIn (d + 2) 128 (.agg #[.int .i64 x.time, .int .i64 x.proc, .int .i64 x.count, .int .i64 x.n, .int .i64 x.value]) (.agg #[.int .i64 y.time, .int .i64 y.proc, .int .i64 y.count, .int .i64 y.n, .int .i64 y.value])).run Tryz.prog w = .ok (decide (x = y)) w := by
  rw [eqv_Out]
  congr 1
  cases x; cases y
  rw [Bool.eq_iff_iff]
  simp
theorem eqv_Op (d : Nat) (w : World) (x0 y0 x1 y1 x2 y2 x3 y3 x4 y4 : Int) :
    (Op.equalIn (d + 2) 150 (.agg #[.int .i64 x0, .int .i64 x1, .int .i64 x2, .int .i64 x3, .int .i64 x4]) (.agg #[.int .i64 y0, .int .i64 y1, .int .i64 y2, .int .i64 y3, .int .i64 y4])).run Tryz.prog w = .ok (x0 == y0 && (x1 == y1 && (x2 == y2 && (x3 == y3 && (x4 == y4))))) w := by
  refine eqA_of Tryz.underlying150 (by kernel_rfl) ?_
  refine eqf_cons (by rfl) (by go_simp; rfl) (by go_simp; rfl) (by go_simp) ?_
  refine eqf_cons (by rfl) (by go_simp; rfl) (by go_simp; rfl) (by go_simp) ?_
  refine eqf_cons (by rfl) (by go_simp; rfl) (by go_simp; rfl) (by go_simp) ?_
  refine eqf_cons (by rfl) (by go_simp; rfl) (by go_simp; rfl) (by go_simp) ?_
  exact eqf_last (by rfl) (by go_simp; rfl) (by go_simp; rfl) (by go_simp)
theorem eqs_Op (d : Nat) (w : World) (x y : OpD) :
    (Op.equalIn (d + 2) 150 (.agg #[.int .i64 x.d, .int .i64 x.a, .int .i64 x.b, .int .i64 x.c, .int .i64 x.e]) (.agg #[.int .i64 y.d, .int .i64 y.a, .int .i64 y.b, .int .i64 y.c, .int .i64 y.e])).run Tryz.prog w = .ok (decide (x = y)) w := by
  rw [eqv_Op]
  congr 1
  cases x; cases y
  rw [Bool.eq_iff_iff]
  simp
attribute [go_sem high] eqs_St eqs_Ev eqs_Out eqs_Op
end Go.Proofs.YtbcemldiahghcaaGreat
