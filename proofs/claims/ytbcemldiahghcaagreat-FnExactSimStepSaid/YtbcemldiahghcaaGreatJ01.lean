/- Texts joined: App, Eq, Sc. -/
import Derived.Test.YtbcemldiahghcaaGreatJ00
import Derived.Maps.AppendAt
import Derived.Deep.AppendSrc
import Derived.Laws.StructEq
namespace Go.Proofs.YtbcemldiahghcaaGreat
set_option linter.unusedVariables false
set_option linter.unusedSimpArgs false
open Go.RowKit
section
variable {α : Type} {P : Program} {W : World}

theorem run_append_nil (t ty e : TypeId) (ht : P.underlying t = some (.slice e)) {bytes : Nat} (size : Nat) {i : TypeInfo} (hi : P.info? e = some i) (hsz : i.size = size) (base : Nat) (v : Value) (n : Nat) (xs : List Value) (c : Nat)
    (hown : W.ownsRow base e size v n xs) : (Builtin.append_ #[t, t] ty #[v, .slice none 0 c]).run P W = .ok v W := by
  rcases hown.2 with ⟨rfl, rfl⟩ | ⟨g, cap, cur, rfl, _, hh, hc, _⟩
  · have hS : Src P i.size t (.slice none 0 c) 0 [] W := Src.ofNil (w := W) ht c
    simp [Builtin.append_, run_underlying ht, sizeOf, typeInfo, hi, hS.len, hS.cells]
  · have h := run_append_room_src (P := P) (w := W) t t ty e i ht hi g 0 n cap (.slice none 0 c) 0 [] (Src.ofNil (w := W) ht c) (by omega) (by simp) (by simp)
    simpa [World.setCells] using h

/-- Whatever reads as cells behind a row of the call's own. -/
theorem run_append_cells (t ty e : TypeId) (ht : P.underlying t = some (.slice e)) (z : Value) (size bytes : Nat) (hinfo : (P.info? e).map (fun i => (i.zero, i.size, i.bytes)) = some (some z, size, bytes)) (hz : z.cells.size = size) (hs0 : 0 < size) (hb0 : 0 < bytes)
    (v : Value) (n : Nat) (cs : List Value) (hown : W.ownsRow 0 e size v n cs) (A : Option Addr) (m c : Nat) (news : List Value) (hl : news.length = m * size)
    (hA : 0 < m → ∃ b o, A = some ⟨b, o, none⟩ ∧ ∀ j u, news[j]? = some u → W.cell? ⟨b, o + j, none⟩ = some u) (h1 : ∀ u ∈ news, u.oneCell' = true) (hbytes : (n + m) * bytes ≤ 140737488355328) :
    ∃ v' w', (Builtin.append_ #[t, t] ty #[v, .slice A m c]).run P W = .ok v' w' ∧ w'.ownsRow 0 e size v' (n + m) (cs ++ news) ∧ W.grownBy w' v.ownBlock ∧ (v'.ownBlock = v.ownBlock ∨ v'.ownBlock = some W.heap.size) := by
  obtain ⟨i, hi, hzz⟩ := Option.map_eq_some_iff.1 hinfo
  simp only [Prod.mk.injEq] at hzz
  obtain ⟨hz0, hz1, hz2⟩ := hzz
  have h63 : n + m ≤ maxLen := by
    have : n + m ≤ (n + m) * bytes := Nat.le_mul_of_pos_right _ hb0
    simp only [maxLen]; omega
  cases A with
  | none =>
    rcases Nat.eq_zero_or_pos m with h0 | h0
    · subst h0
      have hn : news = [] := List.length_eq_zero_iff.1 (by simpa using hl)
      subst hn
      exact ⟨v, W, run_append_nil (bytes := bytes) t ty e ht size hi hz1 0 v n cs c hown, by simpa using hown, ⟨rfl, rfl, rfl, Nat.le_refl _, fun _ _ _ => rfl⟩, .inl rfl⟩
    · obtain ⟨b, o, h, _⟩ := hA h0
      cases h
  | some ad =>
    have hnews : ∀ j u, news[j]? = some u → W.cell? (ad.add j) = some u := by
      intro j u hj
      rcases Nat.eq_zero_or_pos m with h0 | h0
      · subst h0
        have hn : news = [] := List.length_eq_zero_iff.1 (by simpa using hl)
        subst hn
        simp at hj
      · obtain ⟨b, o, h, hc⟩ := hA h0
        cases h
        have ha : (⟨b, o, none⟩ : Addr).add j = ⟨b, o + j, none⟩ := by unfold Addr.add; split <;> simp_all
        rw [ha]; exact hc j u hj
    obtain ⟨v', w', hr, h2, h3, _, h5⟩ := run_append_own_at (P := P) (w := W) 0 t ty e i z size bytes ht hi hz0 hz1 hz2 hz hs0 v n cs hown ad m c news hl hnews h1 h63 hbytes (Nat.zero_le _)
    exact ⟨v', w', hr, h2, h3, h5⟩

variable {ops : Array Oper} {rest : List Oper} {o : Oper} {a : Act} {Q : Exit → Act → World → Prop} {K : Act → World → Prop}
theorem wp_of_append {s x : Operand} {t : TypeId} (ho : o.op = .call { callee := .builtin .append, args := #[s, x], argTypes := #[t, t] }) {v y v' : Value} {w' : World} (hs : a.eval s = v) (hx : a.eval x = y)
    (hr : (Builtin.append_ #[t, t] o.type #[v, y]).run P W = .ok v' w') (h : K (a.put o.dst v') w') : o.wp P a W K Q := by
  unfold Oper.wp execOp
  simp only [ho, resolve, invoke, builtin, Sem.run_bind, Sem.run_pure, Result.andThen_ok, List.map_toArray, List.map_cons, List.map_nil, hs, hx, hr]
  exact h
variable {d : Ty α} {e : TypeId} {F G : Nat → Prop} {v : Value} {xs : List α}
/-- What an own row with one more element is. -/
theorem Ow.snoc {cs : List Value} {Fs : Nat → Nat → Prop} {w' : World} {v' : Value} {y : α} {news : List Value} {Fy : Nat → Prop}
    (hsz : 0 < d.sz) (h1 : W.ownsRow 0 e d.sz v xs.length cs) (h2 : ∀ g, v.ownBlock = some g → F g) (h3 : ∀ j k, Fs j k → F k ∧ some k ≠ v.ownBlock) (h4 : ∀ i j k, i ≠ j → Fs i k → Fs j k → False)
    (h5 : ∀ j x, xs[j]? = some x → d.rel W (Fs j) x ((cs.drop (j * d.sz)).take d.sz))
    (hy : d.rel W Fy y news) (hyF : ∀ k, Fy k → ¬ F k) (hyw : ∀ k, Fy k → k < W.heap.size)
    (hown : w'.ownsRow 0 e d.sz v' (xs.length + 1) (cs ++ news)) (hg : W.grownBy w' v.ownBlock) (hat : v'.ownBlock = v.ownBlock ∨ ∃ b, v'.ownBlock = some b ∧ W.heap.size ≤ b)
    (hFG : ∀ k, F k → G k) (hyG : ∀ k, Fy k → G k) (hnG : ∀ k, W.heap.size ≤ k → G k) : Ow d e w' G v' (xs ++ [y]) := by
  have hlen := h1.1
  have hyl := d.len hy
  have hbl : ∀ j k, Fs j k → k < W.heap.size → w'.heap[k]? = W.heap[k]? := fun j k hk hlt => hg.block k hlt (h3 j k hk).2
  refine ⟨cs ++ news, fun j k => (j < xs.length ∧ Fs j k ∧ k < W.heap.size) ∨ (j = xs.length ∧ Fy k), by simpa using hown, fun g hgg => ?_, fun j k hk => ?_, fun i j k hij hi hj => ?_, fun j x hj => ?_⟩
  · rcases hat with hat | ⟨b, hb, hlt⟩
    · exact hFG g (h2 g (hat ▸ hgg))
    · rw [hb] at hgg; cases hgg; exact hnG g hlt
  · have hne : ∀ k, k < W.heap.size → (some k ≠ v.ownBlock) → some k ≠ v'.ownBlock := fun k hk hn he => by
      rcases hat with hat | ⟨b, hb, hlt⟩
      · exact hn (he.trans hat)
      · rw [hb] at he; cases he; omega
    rcases hk with ⟨hj, hk, hlt⟩ | ⟨hj, hk⟩
    · exact ⟨hFG k (h3 j k hk).1, hne k hlt (h3 j k hk).2⟩
    · exact ⟨hyG k hk, hne k (hyw k hk) (fun he => hyF k hk (h2 k he.symm))⟩
  · rcases hi with ⟨hi, hik, _⟩ | ⟨hi, hik⟩ <;> rcases hj with ⟨hj, hjk, _⟩ | ⟨hj, hjk⟩
    · exact h4 i j k hij hik hjk
    · exact hyF k hjk (h3 i k hik).1
    · exact hyF k hik (h3 j k hjk).1
    · omega
  · rcases Nat.lt_or_ge j xs.length with hlt | hge
    · rw [List.getElem?_append_left hlt] at hj
      have hle : j * d.sz + d.sz ≤ cs.length := by rw [hlen, ← Nat.succ_mul]; exact Nat.mul_le_mul_right _ hlt
      rw [List.drop_append_of_le_length (by omega), List.take_append_of_le_length (by rw [List.length_drop]; omega)]
      have hb := d.bound (h5 j x hj)
      exact d.mono (fun k hk => .inl ⟨hlt, hk.1, hk.2⟩) (d.move (fun k hk => hbl j k hk.1 hk.2) hb)
    · have hj' : j = xs.length := by have := (List.getElem?_eq_some_iff.1 hj).1; simp at this; omega
      subst hj'
      have hxy : y = x := by simpa using hj
      subst hxy
      rw [← hlen, List.drop_left, ← hyl, List.take_length]
      exact d.mono (fun k hk => .inr ⟨by omega, hk⟩) (d.move (fun k hk => hg.block k (hyw k hk) (fun he => hyF k hk (h2 k he.symm))) hy)

/-- append(v, y), one element that lies in block H. -/
theorem ow_append_run (t ty : TypeId) (ht : P.underlying t = some (.slice e)) (z : Value) (bytes : Nat) (hinfo : (P.info? e).map (fun i => (i.zero, i.size, i.bytes)) = some (some z, d.sz, bytes)) (hz : z.cells.size = d.sz) (hs0 : 0 < d.sz) (hb0 : 0 < bytes)
    (HO : Ow d e W F v xs) (y : α) (ys : Array Value) (H : Nat) {fr : Nat × Nat} {e' : TypeId} (hH : W.heap[H]? = some (.cells ys e' fr)) (Fy : Nat → Prop) (hy : d.rel W Fy y ys.toList) (hyF : ∀ k, Fy k → ¬ F k) (hyw : ∀ k, Fy k → k < W.heap.size) (hl : (xs.length + 1) * bytes ≤ 140737488355328)
    (hFG : ∀ k, F k → G k) (hyG : ∀ k, Fy k → G k) (hnG : ∀ k, W.heap.size ≤ k → G k) :
    ∃ v1 w1, (Builtin.append_ #[t, t] ty #[v, .slice (some ⟨H, 0, none⟩) 1 1]).run P W = .ok v1 w1 ∧ Ow d e w1 G v1 (xs ++ [y]) ∧ W.grownBy w1 v.ownBlock ∧ (v1.ownBlock = v.ownBlock ∨ ∃ b, v1.ownBlock = some b ∧ W.heap.size ≤ b) := by
  obtain ⟨cs, Fs, h1, h2, h3, h4, h5⟩ := HO
  obtain ⟨v1, w1, hr, ho, hg, hat⟩ := run_append_cells (P := P) (W := W) t ty e ht z d.sz bytes hinfo hz hs0 hb0 v xs.length cs h1 (some ⟨H, 0, none⟩) 1 1 ys.toList (by rw [d.len hy, Nat.one_mul])
    (fun _ => ⟨H, 0, rfl, fun j u hj => by
      simp only [World.cell?, hH, Nat.zero_add]
      simpa using hj⟩) (d.one hy) hl
  have hat' : v1.ownBlock = v.ownBlock ∨ ∃ b, v1.ownBlock = some b ∧ W.heap.size ≤ b := hat.imp_right fun h => ⟨_, h, Nat.le_refl _⟩
  exact ⟨v1, w1, hr, Ow.snoc hs0 h1 h2 h3 h4 h5 hy hyF hyw ho hg hat' hFG hyG hnG, hg, hat'⟩
/-- The arm at append(v, y). -/
theorem ow_append (hgd : o.guard = none) {s x : Operand} (t : TypeId) (ho : o.op = .call { callee := .builtin .append, args := #[s, x], argTypes := #[t, t] }) (ht : P.underlying t = some (.slice e)) (z : Value) (bytes : Nat)
    (hinfo : (P.info? e).map (fun i => (i.zero, i.size, i.bytes)) = some (some z, d.sz, bytes)) (hz : z.cells.size = d.sz) (hs0 : 0 < d.sz) (hb0 : 0 < bytes)
    (hs : a.eval s = v) (HO : Ow d e W F v xs) (y : α) (ys : Array Value) {H : Nat} (hx : a.eval x = .slice (some ⟨H, 0, none⟩) 1 1) {fr : Nat × Nat} {e' : TypeId} (hH : W.heap[H]? = some (.cells ys e' fr)) (Fy : Nat → Prop) (hy : d.rel W Fy y ys.toList) (hyF : ∀ k, Fy k → ¬ F k) (hyw : ∀ k, Fy k → k < W.heap.size) (hl : (xs.length + 1) * bytes ≤ 140737488355328)
    (G : Nat → Prop) (hFG : ∀ k, F k → G k) (hyG : ∀ k, Fy k → G k) (hnG : ∀ k, W.heap.size ≤ k → G k)
    (h : ∀ v1 w1, Ow d e w1 G v1 (xs ++ [y]) → W.grownBy w1 v.ownBlock → (v1.ownBlock = v.ownBlock ∨ ∃ b, v1.ownBlock = some b ∧ W.heap.size ≤ b) → wpList P ops Q rest (a.put o.dst v1) w1) :
    wpList P ops Q (o :: rest) a W :=
  wpList_plain hgd fun _ hK => by
    obtain ⟨v1, w1, hr, h1, h2, h3⟩ := ow_append_run (G := G) t o.type ht z bytes hinfo hz hs0 hb0 HO y ys H hH Fy hy hyF hyw hl hFG hyG hnG
    exact wp_of_append ho hs hx hr (hK _ _ (h v1 w1 h1 h2 h3))
/-- The same as one step of a region that draws. -/
theorem ow_append_step {E : Prop} (hgd : o.guard = none) {s x : Operand} (t : TypeId) (ho : o.op = .call { callee := .builtin .append, args := #[s, x], argTypes := #[t, t] }) (ht : P.underlying t = some (.slice e)) (z : Value) (bytes : Nat)
    (hinfo : (P.info? e).map (fun i => (i.zero, i.size, i.bytes)) = some (some z, d.sz, bytes)) (hz : z.cells.size = d.sz) (hs0 : 0 < d.sz) (hb0 : 0 < bytes)
    (hs : a.eval s = v) (HO : Ow d e W F v xs) (y : α) (ys : Array Value) {H : Nat} (hx : a.eval x = .slice (some ⟨H, 0, none⟩) 1 1) {fr : Nat × Nat} {e' : TypeId} (hH : W.heap[H]? = some (.cells ys e' fr)) (Fy : Nat → Prop) (hy : d.rel W Fy y ys.toList) (hyF : ∀ k, Fy k → ¬ F k) (hyw : ∀ k, Fy k → k < W.heap.size) (hl : (xs.length + 1) * bytes ≤ 140737488355328)
    (G : Nat → Prop) (hFG : ∀ k, F k → G k) (hyG : ∀ k, Fy k → G k) (hnG : ∀ k, W.heap.size ≤ k → G k)
    (h : ∀ v1 w1, Ow d e w1 G v1 (xs ++ [y]) → W.grownBy w1 v.ownBlock → (v1.ownBlock = v.ownBlock ∨ ∃ b, v1.ownBlock = some b ∧ W.heap.size ≤ b) → K (a.put o.dst v1) w1) :
    if Region.wanted o (yielded ops a.tmps) = true then Oper.wp P o a W K Q else E := by
  rw [if_pos (by simp [Region.wanted, hgd])]
  obtain ⟨v1, w1, hr, h1, h2, h3⟩ := ow_append_run (G := G) t o.type ht z bytes hinfo hz hs0 hb0 HO y ys H hH Fy hy hyF hyw hl hFG hyG hnG
  exact wp_of_append ho hs hx hr (h v1 w1 h1 h2 h3)
/-- The same at the bare operation. -/
theorem ow_append_wp {s x : Operand} (t : TypeId) (ho : o.op = .call { callee := .builtin .append, args := #[s, x], argTypes := #[t, t] }) (ht : P.underlying t = some (.slice e)) (z : Value) (bytes : Nat)
    (hinfo : (P.info? e).map (fun i => (i.zero, i.size, i.bytes)) = some (some z, d.sz, bytes)) (hz : z.cells.size = d.sz) (hs0 : 0 < d.sz) (hb0 : 0 < bytes)
    (hs : a.eval s = v) (HO : Ow d e W F v xs) (y : α) (ys : Array Value) {H : Nat} (hx : a.eval x = .slice (some ⟨H, 0, none⟩) 1 1) {fr : Nat × Nat} {e' : TypeId} (hH : W.heap[H]? = some (.cells ys e' fr)) (Fy : Nat → Prop) (hy : d.rel W Fy y ys.toList) (hyF : ∀ k, Fy k → ¬ F k) (hyw : ∀ k, Fy k → k < W.heap.size) (hl : (xs.length + 1) * bytes ≤ 140737488355328)
    (G : Nat → Prop) (hFG : ∀ k, F k → G k) (hyG : ∀ k, Fy k → G k) (hnG : ∀ k, W.heap.size ≤ k → G k)
    (h : ∀ v1 w1, Ow d e w1 G v1 (xs ++ [y]) → W.grownBy w1 v.ownBlock → (v1.ownBlock = v.ownBlock ∨ ∃ b, v1.ownBlock = some b ∧ W.heap.size ≤ b) → K (a.put o.dst v1) w1) :
    o.wp P a W K Q := by
  obtain ⟨v1, w1, hr, h1, h2, h3⟩ := ow_append_run (G := G) t o.type ht z bytes hinfo hz hs0 hb0 HO y ys H hH Fy hy hyF hyw hl hFG hyG hnG
  exact wp_of_append ho hs hx hr (h v1 w1 h1 h2 h3)
theorem flat_cells {cells : α → List Value} {sz : Nat} (hl : ∀ x, (cells x).length = sz) {b : Nat} : ∀ (ys : List α) (o : Nat), (∀ j x, ys[j]? = some x → ∀ i u, (cells x)[i]? = some u → W.cell? ⟨b, o + j * sz + i, none⟩ = some u) →
    ∀ j u, (ys.flatMap cells)[j]? = some u → W.cell? ⟨b, o + j, none⟩ = some u
  | [], _, _, j, u, hj => by simp at hj
  | y :: ys, o, h, j, u, hj => by
    rw [List.flatMap_cons] at hj
    rcases Nat.lt_or_ge j (cells y).length with hlt | hge
    · rw [List.getElem?_append_left hlt] at hj
      have := h 0 y rfl j u hj
      simpa using this
    · rw [List.getElem?_append_right hge] at hj
      have := flat_cells hl ys (o + sz) (fun j' x hj' i u hi => by
        have := h (j' + 1) x (by simpa using hj') i u hi
        rw [Nat.succ_mul] at this
        rw [show o + sz + j' * sz + i = o + (j' * sz + sz) + i from by omega]; exact this) _ u hj
      rw [hl y] at this hge
      rw [show o + j = o + sz + (j - sz) from by omega]; exact this
theorem Ow.flatRow {cells : α → List Value} {sz : Nat} {hl : ∀ x, (cells x).length = sz} {ho : ∀ x, ∀ u ∈ cells x, u.oneCell' = true} (h : Ow (flat cells sz hl ho) e W F v xs) : W.ownsRow 0 e sz v xs.length (xs.flatMap cells) := by
  obtain ⟨cs, Fs, h1, h2, h3, h4, h5⟩ := h
  have hcs : cs = xs.flatMap cells := by
    have hlen : cs.length = xs.length * sz := h1.1
    have h5' : ∀ j x, xs[j]? = some x → (cs.drop (j * sz)).take sz = cells x := h5
    clear h1 h2 h3 h4 h5
    induction xs generalizing cs with
    | nil => simpa using hlen
    | cons y ys ih =>
      have h0 := h5' 0 y rfl
      simp only [Nat.zero_mul, List.drop_zero] at h0
      have := ih (cs.drop sz) (by rw [List.length_drop, hlen, List.length_cons, Nat.succ_mul]; omega) (fun j x hj => by
        have := h5' (j + 1) x (by simpa using hj)
        rw [Nat.succ_mul, Nat.add_comm, ← List.drop_drop] at this
        exact this)
      rw [List.flatMap_cons, ← h0, ← this, List.take_append_drop]
  rw [hcs] at h1; exact h1
theorem flatMap_len {cells : α → List Value} {sz : Nat} (hl : ∀ x, (cells x).length = sz) (ys : List α) : (ys.flatMap cells).length = ys.length * sz := by
  induction ys with
  | nil => simp
  | cons y ys ih => rw [List.flatMap_cons, List.length_append, ih, hl, List.length_cons, Nat.succ_mul]; omega
/-- append(v, vy...), flat elements. -/
theorem ow_concat_run {cells : α → List Value} {sz : Nat} {hl : ∀ x, (cells x).length = sz} {ho1 : ∀ x, ∀ u ∈ cells x, u.oneCell' = true} (t ty : TypeId) (ht : P.underlying t = some (.slice e)) (z : Value) (bytes : Nat) (hinfo : (P.info? e).map (fun i => (i.zero, i.size, i.bytes)) = some (some z, sz, bytes)) (hz : z.cells.size = sz) (hs0 : 0 < sz) (hb0 : 0 < bytes)
    (HO : Ow (flat cells sz hl ho1) e W F v xs) {vy : Value} {ys : List α} {Fy : Nat → Prop} (hy : Rd (flat cells sz hl ho1) W Fy vy ys) (hb : (xs.length + ys.length) * bytes ≤ 140737488355328)
    (hFG : ∀ k, F k → G k) (hnG : ∀ k, W.heap.size ≤ k → G k) :
    ∃ v1 w1, (Builtin.append_ #[t, t] ty #[v, vy]).run P W = .ok v1 w1 ∧ Ow (flat cells sz hl ho1) e w1 G v1 (xs ++ ys) ∧ W.grownBy w1 v.ownBlock ∧ (v1.ownBlock = v.ownBlock ∨ ∃ b, v1.ownBlock = some b ∧ W.heap.size ≤ b) := by
  have h1 := HO.flatRow
  obtain ⟨A, c, rfl, hc, _, hA⟩ := hy
  obtain ⟨v1, w1, hr, hown, hg, hat⟩ := run_append_cells (P := P) (W := W) t ty e ht z sz bytes hinfo hz hs0 hb0 v xs.length _ h1 A ys.length c (ys.flatMap cells) (flatMap_len hl ys)
    (fun hp => by
      obtain ⟨b, o, hA', _, _, hcell⟩ := hA hp
      exact ⟨b, o, hA', flat_cells hl ys o (fun j x hj i u hi => by
        obtain ⟨cs, hcs, hu⟩ := hcell j x hj
        have hcs' : cs = cells x := hcs
        subst hcs'
        exact hu i u hi)⟩)
    (fun u hu => by obtain ⟨x, _, hx⟩ := List.mem_flatMap.1 hu; exact ho1 x u hx) hb
  have hat' : v1.ownBlock = v.ownBlock ∨ ∃ b, v1.ownBlock = some b ∧ W.heap.size ≤ b := hat.imp_right fun h => ⟨_, h, Nat.le_refl _⟩
  refine ⟨v1, w1, hr, Ow.of_flat (base := 0) (by rw [List.flatMap_append, List.length_append]; exact hown) (fun g hgg => ?_), hg, hat'⟩
  rcases hat' with hat' | ⟨b, hb', hlt⟩
  · exact hFG g (HO.inF (hat' ▸ hgg))
  · rw [hb'] at hgg; cases hgg; exact hnG _ hlt
theorem ow_concat {cells : α → List Value} {sz : Nat} {hl : ∀ x, (cells x).length = sz} {ho1 : ∀ x, ∀ u ∈ cells x, u.oneCell' = true} (hgd : o.guard = none) {s x : Operand} (t : TypeId) (ho : o.op = .call { callee := .builtin .append, args := #[s, x], argTypes := #[t, t] }) (ht : P.underlying t = some (.slice e)) (z : Value) (bytes : Nat)
    (hinfo : (P.info? e).map (fun i => (i.zero, i.size, i.bytes)) = some (some z, sz, bytes)) (hz : z.cells.size = sz) (hs0 : 0 < sz) (hb0 : 0 < bytes)
    (hs : a.eval s = v) (HO : Ow (flat cells sz hl ho1) e W F v xs) {vy : Value} (hx : a.eval x = vy) {ys : List α} {Fy : Nat → Prop} (hy : Rd (flat cells sz hl ho1) W Fy vy ys) (hb : (xs.length + ys.length) * bytes ≤ 140737488355328)
    (G : Nat → Prop) (hFG : ∀ k, F k → G k) (hnG : ∀ k, W.heap.size ≤ k → G k)
    (h : ∀ v1 w1, Ow (flat cells sz hl ho1) e w1 G v1 (xs ++ ys) → W.grownBy w1 v.ownBlock → (v1.ownBlock = v.ownBlock ∨ ∃ b, v1.ownBlock = some b ∧ W.heap.size ≤ b) → wpList P ops Q rest (a.put o.dst v1) w1) :
    wpList P ops Q (o :: rest) a W :=
  wpList_plain hgd fun _ hK => by
    obtain ⟨v1, w1, hr, h1, h2, h3⟩ := ow_concat_run (G := G) t o.type ht z bytes hinfo hz hs0 hb0 HO hy hb hFG hnG
    exact wp_of_append ho hs hx hr (hK _ _ (h v1 w1 h1 h2 h3))
theorem ow_concat_wp {cells : α → List Value} {sz : Nat} {hl : ∀ x, (cells x).length = sz} {ho1 : ∀ x, ∀ u ∈ cells x, u.oneCell' = true} {s x : Operand} (t : TypeId) (ho : o.op = .call { callee := .builtin .append, args := #[s, x], argTypes := #[t, t] }) (ht : P.underlying t = some (.slice e)) (z : Value) (bytes : Nat)
    (hinfo : (P.info? e).map (fun i => (i.zero, i.size, i.bytes)) = some (some z, sz, bytes)) (hz : z.cells.size = sz) (hs0 : 0 < sz) (hb0 : 0 < bytes)
    (hs : a.eval s = v) (HO : Ow (flat cells sz hl ho1) e W F v xs) {vy : Value} (hx : a.eval x = vy) {ys : List α} {Fy : Nat → Prop} (hy : Rd (flat cells sz hl ho1) W Fy vy ys) (hb : (xs.length + ys.length) * bytes ≤ 140737488355328)
    (G : Nat → Prop) (hFG : ∀ k, F k → G k) (hnG : ∀ k, W.heap.size ≤ k → G k)
    (h : ∀ v1 w1, Ow (flat cells sz hl ho1) e w1 G v1 (xs ++ ys) → W.grownBy w1 v.ownBlock → (v1.ownBlock = v.ownBlock ∨ ∃ b, v1.ownBlock = some b ∧ W.heap.size ≤ b) → K (a.put o.dst v1) w1) :
    o.wp P a W K Q := by
  obtain ⟨v1, w1, hr, h1, h2, h3⟩ := ow_concat_run (G := G) t o.type ht z bytes hinfo hz hs0 hb0 HO hy hb hFG hnG
  exact wp_of_append ho hs hx hr (h v1 w1 h1 h2 h3)
end
end Go.Proofs.YtbcemldiahghcaaGreat

namespace Go.Proofs.YtbcemldiahghcaaGreat
open Go.RowKit
section
variable {P : Program} {d : Nat} {xs ys : Array Value} {f : Field} {fs : List Field} {a b : Value} {r s : Bool} {w : World}
/-- The last field that counts. -/
theorem eqf_last (hn : (f.name == "_") = false) (ha : (part f.type xs f.offset).run P w = .ok a w) (hb : (part f.type ys f.offset).run P w = .ok b w) (he : (Op.equalIn d f.type a b).run P w = .ok r w) : (Op.eqFields d xs ys [f]).run P w = .ok r w := by
  have hn' : f.name ≠ "_" := by simpa using hn
  simp only [Op.eqFields, if_pos hn', Sem.run_bind, ha, hb, he, Result.andThen_ok]
  cases r <;> simp
theorem eqf_cons (hn : (f.name == "_") = false) (ha : (part f.type xs f.offset).run P w = .ok a w) (hb : (part f.type ys f.offset).run P w = .ok b w) (he : (Op.equalIn d f.type a b).run P w = .ok r w) (hr : (Op.eqFields d xs ys fs).run P w = .ok s w) : (Op.eqFields d xs ys (f :: fs)).run P w = .ok (r && s) w := by
  have hn' : f.name ≠ "_" := by simpa using hn
  rw [Op.eqFields]
  simp only [if_pos hn', Sem.run_bind, ha, hb, he, Result.andThen_ok]
  cases r
  · simp
  · simpa using hr
/-- The last that counts, behind it such as_ don't. -/
theorem eqf_end (hn : (f.name == "_") = false) (ha : (part f.type xs f.offset).run P w = .ok a w) (hb : (part f.type ys f.offset).run P w = .ok b w) (he : (Op.equalIn d f.type a b).run P w = .ok r w) (hr : (Op.eqFields d xs ys fs).run P w = .ok true w) : (Op.eqFields d xs ys (f :: fs)).run P w = .ok r w := by
  have h := eqf_cons hn ha hb he hr
  rwa [Bool.and_true] at h
/-- A field named _ doesn't count. -/
theorem eqf_skip (hn : (f.name == "_") = true) (hr : (Op.eqFields d xs ys fs).run P w = .ok s w) : (Op.eqFields d xs ys (f :: fs)).run P w = .ok s w := by
  have hn' : ¬ (f.name ≠ "_") := by simpa using hn
  rw [Op.eqFields, if_neg hn']
  exact hr
theorem eqf_nil : (Op.eqFields d xs ys []).run P w = .ok true w := by simp [Op.eqFields]
theorem eqA_of {t : TypeId} {fs : Array Field} (hu : P.underlying t = some (.struct fs)) (hp : P.stoodInHeld t = false) (h : (Op.eqFields d xs ys fs.toList).run P w = .ok r w) : (Op.equalIn (d + 1) t (.agg xs) (.agg ys)).run P w = .ok r w := by
  have hf : P.fieldsOf t = fs := by simp [Program.fieldsOf, hu]
  rw [run_equalIn_struct (P := P) w d t xs ys (by rw [hf]; exact hu) hp, hf]
  exact h
end
theorem eqv_St (d : Nat) (w : World) (x0 y0 x1 y1 x2 y2 : Int) :
    (Op.equalIn (d + 2) 49 (.agg #[.int .i64 x0, .int .i64 x1, .int .i64 x2]) (.agg #[.int .i64 y0, .int .i64 y1, .int .i64 y2])).run Tryz.prog w = .ok (x0 == y0 && (x1 == y1 && (x2 == y2))) w := by
  refine eqA_of Tryz.underlying49 (by kernel_rfl) ?_
  refine eqf_cons (by rfl) (by go_simp; rfl) (by go_simp; rfl) (by go_simp) ?_
  refine eqf_cons (by rfl) (by go_simp; rfl) (by go_simp; rfl) (by go_simp) ?_
  exact eqf_last (by rfl) (by go_simp; rfl) (by go_simp; rfl) (by go_simp)
theorem eqs_St (d : Nat) (w : World) (x y : StD) :
    (Op.equalIn (d + 2) 49 (.agg #[.int .i64 x.x, .int .i64 x.y, .int .i64 x.c]) (.agg #[.int .i64 y.x, .int .i64 y.y, .int .i64 y.c])).run Tryz.prog w = .ok (decide (x = y)) w := by
  rw [eqv_St]
  congr 1
  cases x; cases y
  rw [Bool.eq_iff_iff]
  simp
theorem eqv_Ev (d : Nat) (w : World) (x0 y0 x1 y1 x2 y2 x3 y3 x4 y4 x5 y5 x6 y6 : Int) :
    (Op.equalIn (d + 2) 80 (.agg #[.int .i64 x0, .int .i64 x1, .int .i64 x2, .int .i64 x3, .int .i64 x4, .int .i64 x5, .int .i64 x6]) (.agg #[.int .i64 y0, .int .i64 y1, .int .i64 y2, .int .i64 y3, .int .i64 y4, .int .i64 y5, .int .i64 y6])).run Tryz.prog w = .ok (x0 == y0 && (x1 == y1 && (x2 == y2 && (x3 == y3 && (x4 == y4 && (x5 == y5 && (x6 == y6))))))) w := by
  refine eqA_of Tryz.underlying80 (by kernel_rfl) ?_
  refine eqf_cons (by rfl) (by go_simp; rfl) (by go_simp; rfl) (by go_simp) ?_
  refine eqf_cons (by rfl) (by go_simp; rfl) (by go_simp; rfl) (by go_simp) ?_
  refine eqf_cons (by rfl) (by go_simp; rfl) (by go_simp; rfl) (by go_simp) ?_
  refine eqf_cons (by rfl) (by go_simp; rfl) (by go_simp; rfl) (by go_simp) ?_
  refine eqf_cons (by rfl) (by go_simp; rfl) (by go_simp; rfl) (by go_simp) ?_
  refine eqf_cons (by rfl) (by go_simp; rfl) (by go_simp; rfl) (by go_simp) ?_
  exact eqf_last (by rfl) (by go_simp; rfl) (by go_simp; rfl) (by go_simp)
theorem eqs_Ev (d : Nat) (w : World) (x y : EvD) :
    (Op.equalIn (d + 2) 80 (.agg #[.int .i64 x.time, .int .i64 x.to, .int .i64 x.from_, .int .i64 x.count, .int .i64 x.n, .int .i64 x.kind, .int .i64 x.arg]) (.agg #[.int .i64 y.time, .int .i64 y.to, .int .i64 y.from_, .int .i64 y.count, .int .i64 y.n, .int .i64 y.kind, .int .i64 y.arg])).run Tryz.prog w = .ok (decide (x = y)) w := by
  rw [eqv_Ev]
  congr 1
  cases x; cases y
  rw [Bool.eq_iff_iff]
  simp
theorem eqv_Out (d : Nat) (w : World) (x0 y0 x1 y1 x2 y2 x3 y3 x4 y4 : Int) :
    (Op.equalIn (d + 2) 128 (.agg #[.int .i64 x0, .int .i64 x1, .int .i64 x2, .int .i64 x3, .int .i64 x4]) (.agg #[.int .i64 y0, .int .i64 y1, .int .i64 y2, .int .i64 y3, .int .i64 y4])).run Tryz.prog w = .ok (x0 == y0 && (x1 == y1 && (x2 == y2 && (x3 == y3 && (x4 == y4))))) w := by
  refine eqA_of Tryz.underlying128 (by kernel_rfl) ?_
  refine eqf_cons (by rfl) (by go_simp; rfl) (by go_simp; rfl) (by go_simp) ?_
  refine eqf_cons (by rfl) (by go_simp; rfl) (by go_simp; rfl) (by go_simp) ?_
  refine eqf_cons (by rfl) (by go_simp; rfl) (by go_simp; rfl) (by go_simp) ?_
  refine eqf_cons (by rfl) (by go_simp; rfl) (by go_simp; rfl) (by go_simp) ?_
  exact eqf_last (by rfl) (by go_simp; rfl) (by go_simp; rfl) (by go_simp)
theorem eqs_Out (d : Nat) (w : World) (x y : OutD) :
    (Op.equalIn (d + 2) 128 (.agg #[.int .i64 x.time, .int .i64 x.proc, .int .i64 x.count, .int .i64 x.n, .int .i64 x.value]) (.agg #[.int .i64 y.time, .int .i64 y.proc, .int .i64 y.count, .int .i64 y.n, .int .i64 y.value])).run Tryz.prog w = .ok (decide (x = y)) w := by
  rw [eqv_Out]
  congr 1
  cases x; cases y
  rw [Bool.eq_iff_iff]
  simp
theorem eqv_Op (d : Nat) (w : World) (x0 y0 x1 y1 x2 y2 x3 y3 x4 y4 : Int) :
    (Op.equalIn (d + 2) 150 (.agg #[.int .i64 x0, .int .i64 x1, .int .i64 x2, .int .i64 x3, .int .i64 x4]) (.agg #[.int .i64 y0, .int .i64 y1, .int .i64 y2, .int .i64 y3, .int .i64 y4])).run Tryz.prog w = .ok (x0 == y0 && (x1 == y1 && (x2 == y2 && (x3 == y3 && (x4 == y4))))) w := by
  refine eqA_of Tryz.underlying150 (by kernel_rfl) ?_
  refine eqf_cons (by rfl) (by go_simp; rfl) (by go_simp; rfl) (by go_simp) ?_
  refine eqf_cons (by rfl) (by go_simp; rfl) (by go_simp; rfl) (by go_simp) ?_
  refine eqf_cons (by rfl) (by go_simp; rfl) (by go_simp; rfl) (by go_simp) ?_
  refine eqf_cons (by rfl) (by go_simp; rfl) (by go_simp; rfl) (by go_simp) ?_
  exact eqf_last (by rfl) (by go_simp; rfl) (by go_simp; rfl) (by go_simp)
theorem eqs_Op (d : Nat) (w : World) (x y : OpD) :
    (Op.equalIn (d + 2) 150 (.agg #[.int .i64 x.d, .int .i64 x.a, .int .i64 x.b, .int .i64 x.c, .int .i64 x.e]) (.agg #[.int .i64 y.d, .int .i64 y.a, .int .i64 y.b, .int .i64 y.c, .int .i64 y.e])).run Tryz.prog w = .ok (decide (x = y)) w := by
  rw [eqv_Op]
  congr 1
  cases x; cases y
  rw [Bool.eq_iff_iff]
  simp
attribute [go_sem high] eqs_St eqs_Ev eqs_Out eqs_Op
end Go.Proofs.YtbcemldiahghcaaGreat

namespace Go.Proofs.YtbcemldiahghcaaGreat
set_option linter.unusedVariables false
set_option linter.unusedSimpArgs false
open Go.RowKit
set_option maxHeartbeats 400000 in
theorem l6In_c (a l h : Int) (w : World) : Calls Tryz.prog 78 #[.int .i64 a, .int .i64 l, .int .i64 h] w fun e w' => e = .returned (.bool (inn a l h)) ∧ w' = w := by
  by_cases h1 : l ≤ a <;> by_cases h2 : a ≤ h
  all_goals
    go_enter Tryz.func78, Tryz.ntmps78
    go_wp2
    go_ret
    exact ⟨by simp [inn, h1, h2], rfl⟩
set_option maxHeartbeats 400000 in
theorem l1Num_c (a : Int) (w : World) : Calls Tryz.prog 142 #[.int .i64 a] w fun e w' => e = .returned (.bool (inn a 0 999)) ∧ w' = w := by
  go_enter Tryz.func142, Tryz.ntmps142
  go_wp2_with (go_at_call 78; refine (l6In_c _ _ _ _).mono ?_; rintro e w' ⟨rfl, rfl⟩)
  go_ret
  exact ⟨rfl, rfl⟩
set_option maxHeartbeats 400000 in
theorem l1Proc_c (a : Int) (w : World) : Calls Tryz.prog 94 #[.int .i64 a] w fun e w' => e = .returned (.bool (inn a 0 3)) ∧ w' = w := by
  go_enter Tryz.func94, Tryz.ntmps94
  go_wp2_with (go_at_call 78; refine (l6In_c _ _ _ _).mono ?_; rintro e w' ⟨rfl, rfl⟩)
  go_ret
  exact ⟨rfl, rfl⟩
set_option maxHeartbeats 400000 in
theorem l1Reg_c (a : Int) (w : World) : Calls Tryz.prog 151 #[.int .i64 a] w fun e w' => e = .returned (.bool (inn a 0 1)) ∧ w' = w := by
  go_enter Tryz.func151, Tryz.ntmps151
  go_wp2_with (go_at_call 78; refine (l6In_c _ _ _ _).mono ?_; rintro e w' ⟨rfl, rfl⟩)
  go_ret
  exact ⟨rfl, rfl⟩
def OpD.val (o : OpD) : Value := .agg #[.int .i64 o.d, .int .i64 o.a, .int .i64 o.b, .int .i64 o.c, .int .i64 o.e]
set_option maxHeartbeats 2000000 in
theorem l1OpOk_c (d a b c e : Int) (w : World) : Calls Tryz.prog 125 #[.agg #[.int .i64 d, .int .i64 a, .int .i64 b, .int .i64 c, .int .i64 e]] w fun r w' => r = .returned (.bool (opOk ⟨d, a, b, c, e⟩)) ∧ Below w.heap.size w w' := by
  by_cases k : d = 1 ∨ d = 2 ∨ d = 3 ∨ d = 4 ∨ d = 5 ∨ d = 6 ∨ d = 7
  · rcases k with rfl | rfl | rfl | rfl | rfl | rfl | rfl
    all_goals
      go_enter Tryz.func125, Tryz.ntmps125
      go_wp2_with (first | (go_at_call 151; refine (l1Reg_c _ _).mono ?_; rintro e w' ⟨rfl, rfl⟩) | (go_at_call 142; refine (l1Num_c _ _).mono ?_; rintro e w' ⟨rfl, rfl⟩) | (go_at_call 94; refine (l1Proc_c _ _).mono ?_; rintro e w' ⟨rfl, rfl⟩) | (go_at_call 78; refine (l6In_c _ _ _ _).mono ?_; rintro e w' ⟨rfl, rfl⟩))
      all_goals
        go_ret
        exact ⟨by simp [opOk, *], balloc (Below.refl _ _) _⟩
  · have k1 : (d == 1) = false := by simp; omega
    have k2 : (d == 2) = false := by simp; omega
    have k3 : (d == 3) = false := by simp; omega
    have k4 : (d == 4) = false := by simp; omega
    have k5 : (d == 5) = false := by simp; omega
    have k6 : (d == 6) = false := by simp; omega
    have k7 : (d == 7) = false := by simp; omega
    have hf : opOk ⟨d, a, b, c, e⟩ = false := by simp only [opOk]; rw [if_neg (by omega), if_neg (by omega), if_neg (by omega), if_neg (by omega), if_neg (by omega)]
    clear k
    go_enter Tryz.func125, Tryz.ntmps125
    go_wp2_with (first | (go_at_call 151; refine (l1Reg_c _ _).mono ?_; rintro e w' ⟨rfl, rfl⟩) | (go_at_call 142; refine (l1Num_c _ _).mono ?_; rintro e w' ⟨rfl, rfl⟩) | (go_at_call 94; refine (l1Proc_c _ _).mono ?_; rintro e w' ⟨rfl, rfl⟩) | (go_at_call 78; refine (l6In_c _ _ _ _).mono ?_; rintro e w' ⟨rfl, rfl⟩))
    all_goals
      go_ret
      exact ⟨by simp [hf], balloc (Below.refl _ _) _⟩
end Go.Proofs.YtbcemldiahghcaaGreat
