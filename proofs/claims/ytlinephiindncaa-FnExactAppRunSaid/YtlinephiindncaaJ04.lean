/- Texts joined: Store, Ex2, Heap. -/
import Derived.Test.YtlinephiindncaaJ03
import Derived.Test.YtlinephiindncaaJ02
import Derived.Deep.MidRow
import Derived.OwnWalk
namespace Go.Proofs.Ytlinephiindncaa
set_option linter.unusedVariables false
set_option linter.unusedSimpArgs false
set_option linter.unusedSectionVars false
open Go.RowKit
def ovw (l : List Value) : Nat → List Value → List Value
  | _, [] => l
  | o, v :: r => ovw (l.set o v) (o + 1) r
theorem ovw_len : ∀ (vs l : List Value) (o : Nat), (ovw l o vs).length = l.length
  | [], _, _ => rfl
  | v :: r, l, o => by rw [ovw, ovw_len r]; simp
theorem ovw_mid : ∀ (vs b a c : List Value), b.length = vs.length → ovw (a ++ b ++ c) a.length vs = a ++ vs ++ c
  | [], b, a, c, h => by
    have : b = [] := by simpa using h
    subst this; rfl
  | v :: r, [], a, c, h => by simp at h
  | v :: r, u :: b, a, c, h => by
    have := ovw_mid r b (a ++ [v]) c (by simpa using h)
    rw [ovw, show (a ++ u :: b ++ c).set a.length v = (a ++ [v]) ++ b ++ c by simp [List.set_append], ← (by simp : (a ++ [v]).length = a.length + 1), this]
    simp
theorem ovw_take : ∀ (vs l : List Value) (o n : Nat), (ovw l o vs).take n = ovw (l.take n) o vs
  | [], _, _, _ => rfl
  | v :: r, l, o, n => by rw [ovw, ovw, ovw_take r, List.take_set]
theorem blk_ovw {g : Nat} {t : TypeId} {fr : Nat × Nat} : ∀ (vs : List Value) (o : Nat) (w : World) (cur : List Value), w.heap[g]? = some (.cells cur.toArray t fr) → (w.setCells g o vs).heap[g]? = some (.cells (ovw cur o vs).toArray t fr)
  | [], _, _, _, h => h
  | v :: r, o, w, cur, h => by
    rw [World.setCells, ovw]
    exact blk_ovw r (o + 1) _ _ (by rw [blk_set h]; simp)
theorem Ch.setCells {S : Nat → Prop} {w : World} {g : Nat} : ∀ (vs : List Value) (o : Nat) (w1 : World), Ch S w w1 → (S g ∨ w.heap.size ≤ g) → Ch S w (w1.setCells g o vs)
  | [], _, _, h, _ => h
  | v :: r, o, w1, h, hg => Ch.setCells r (o + 1) _ (h.setCell (p := ⟨g, o, none⟩) hg v) hg
theorem size_setCells {g : Nat} : ∀ (vs : List Value) (o : Nat) (w : World), (w.setCells g o vs).heap.size = w.heap.size
  | [], _, _ => rfl
  | v :: r, o, w => by rw [World.setCells, size_setCells r]; simp
theorem flat_ovw {α : Type} {cells : α → List Value} {sz : Nat} (hl : ∀ x, (cells x).length = sz) (xs : List α) (j : Nat) (hj : j < xs.length) (x : α) : ovw (xs.flatMap cells) (j * sz) (cells x) = (xs.set j x).flatMap cells := by
  have h1 : xs = xs.take j ++ xs[j] :: xs.drop (j + 1) := by simp
  have h2 : ((xs.take j).flatMap cells).length = j * sz := by rw [flatMap_len hl, List.length_take, Nat.min_eq_left (by omega)]
  have h3 : xs.set j x = xs.take j ++ x :: xs.drop (j + 1) := by rw [List.set_eq_take_append_cons_drop, if_pos hj]
  rw [h3]
  conv => lhs; rw [h1]
  simp only [List.flatMap_append, List.flatMap_cons, ← h2, ← List.append_assoc]
  exact ovw_mid (cells x) (cells xs[j]) _ _ (by rw [hl, hl])
theorem Ow.setAt {α : Type} {cells : α → List Value} {sz : Nat} {hl : ∀ x, (cells x).length = sz} {ho : ∀ x, ∀ u ∈ cells x, u.oneCell' = true} {e : TypeId} {w : World} {F : Nat → Prop} {v : Value} {xs : List α}
    (h : Ow (flat cells sz hl ho) e w F v xs) {g : Nat} (hv : v.ownBlock = some g) (j : Nat) (hj : j < xs.length) (x : α) :
    w.there g (j * sz) sz ∧ Ow (flat cells sz hl ho) e (w.setCells g (j * sz) (cells x)) F v (xs.set j x) ∧ Ch (fun k => k = g) w (w.setCells g (j * sz) (cells x)) := by
  have hr := h.flatRow
  have hF : ∀ k, v.ownBlock = some k → F k := fun k hk => h.inF hk
  obtain ⟨h1, h2⟩ := hr
  rcases h2 with ⟨rfl, h2⟩ | ⟨g', cap, cur, rfl, hb, hh, hc1, hc2, hc3, hc4⟩
  · simp [Value.ownBlock] at hv
  · simp only [Value.ownBlock, Option.some.injEq] at hv
    subst hv
    have hjn : (j + 1) * sz ≤ cur.size := by rw [hc3]; exact Nat.mul_le_mul_right _ (by omega)
    rw [Nat.add_mul, Nat.one_mul] at hjn
    refine ⟨fun i hi => ?_, ?_, Ch.setCells _ _ _ (Ch.refl _ _) (.inl rfl)⟩
    · have hlt : j * sz + i < cur.size := by omega
      exact ⟨by simp [World.cell?, hh, hlt], by simp [World.frozen?, hh]⟩
    · refine Ow.of_flat (base := 0) ⟨?_, .inr ⟨g', cap, (ovw cur.toList (j * sz) (cells x)).toArray, ?_, Nat.zero_le _, ?_, ?_, hc2, ?_, ?_⟩⟩ hF
      · rw [flatMap_len hl]
      · rw [List.length_set]
      · exact blk_ovw _ _ _ _ hh
      · simpa using hc1
      · simp [ovw_len, hc3]
      · rw [List.length_set, ovw_take, hc4]
        exact flat_ovw hl xs j hj x
variable {P : Program} {ops : Array Oper} {rest : List Oper} {o : Oper} {a : Act} {W : World} {Q : Exit → Act → World → Prop} {K : Act → World → Prop}
/-- The arm at a store of a whole element. -/
theorem ow_store {α : Type} {cells : α → List Value} {sz : Nat} {hl : ∀ x, (cells x).length = sz} {ho1 : ∀ x, ∀ u ∈ cells x, u.oneCell' = true} {e : TypeId} {F : Nat → Prop} {v : Value} {xs : List α} (hgd : o.guard = none) (ty : TypeId) (x y : Operand) (ho : o.op = .store ty x y)
    (HO : Ow (flat cells sz hl ho1) e W F v xs) {g : Nat} (hv : v.ownBlock = some g) (j : Nat) (hj : j < xs.length) (z : α) (hx : a.eval x = .pointer (some ⟨g, j * sz, none⟩)) (hy : a.eval y = .agg (cells z).toArray)
    (hi : (P.info? ty).map (·.size) = some sz)
    (h : ∀ w1, Ow (flat cells sz hl ho1) e w1 F v (xs.set j z) → Ch (fun k => k = g) W w1 → wpList P ops Q rest (a.put o.dst undef) w1) : wpList P ops Q (o :: rest) a W := by
  obtain ⟨h1, h2, h3⟩ := HO.setAt hv j hj z
  refine wpList_store_mid hgd ty x y ho g (j * sz) (cells z).toArray hx hy (by simpa [hl] using h1) (by simpa [hl] using hi) (all_oneCell_toArray (ho1 z)) ?_
  exact h _ h2 h3
end Go.Proofs.Ytlinephiindncaa

namespace Go.Proofs.Ytlinephiindncaa
set_option linter.unusedVariables false
set_option linter.unusedSimpArgs false
set_option linter.unusedSectionVars false
set_option maxRecDepth 100000
open Go.RowKit
/-- A place that may not be filled yet. -/
def opt {α : Type} (d : Ty α) : Ty (Option α) where
  sz := d.sz
  rel := fun w F ox cs => match ox with | some x => d.rel w F x cs | none => cs.length = d.sz ∧ ∀ u ∈ cs, u.oneCell' = true
  len := fun {w F x cs} h => by
    cases x with
    | none => exact h.1
    | some x => exact d.len h
  one := fun {w F x cs} h => by
    cases x with
    | none => exact h.2
    | some x => exact d.one h
  mono := fun {w F F' x cs} hF h => by
    cases x with
    | none => exact h
    | some x => exact d.mono hF h
  move := fun {w w' F x cs} hm h => by
    cases x with
    | none => exact h
    | some x => exact d.move hm h
  bound := fun {w F x cs} h => by
    cases x with
    | none => exact h
    | some x => exact d.bound h
theorem Ow.filled {α : Type} {d : Ty α} {e : TypeId} {w : World} {F : Nat → Prop} {v : Value} {xs : List α} (h : Ow (opt d) e w F v (xs.map some)) : Ow d e w F v xs := by
  obtain ⟨cs, Fs, h1, h2, h3, h4, h5⟩ := h
  have h1' : w.ownsRow 0 e d.sz v (xs.map some).length cs := h1
  rw [List.length_map] at h1'
  refine ⟨cs, Fs, h1', h2, h3, h4, fun j x hj => ?_⟩
  have := h5 j (some x) (by simp [hj])
  exact this
theorem ovw_out : ∀ (vs l : List Value) (o q : Nat), (q < o ∨ o + vs.length ≤ q) → (ovw l o vs)[q]? = l[q]?
  | [], _, _, _, _ => rfl
  | v :: r, l, o, q, h => by
    simp only [List.length_cons] at h
    rw [ovw, ovw_out r _ _ _ (by omega), List.getElem?_set_ne (by omega)]
theorem madeCells_one {zs : Array Value} (hz : ∀ u ∈ zs.toList, u.oneCell' = true) (h0 : 0 < zs.size) (m : Nat) : ∀ u ∈ (madeCells zs m).toList, u.oneCell' = true := by
  intro u hu
  simp only [madeCells, Array.toList_map, List.mem_map] at hu
  obtain ⟨i, _, rfl⟩ := hu
  have : i % zs.size < zs.size := Nat.mod_lt _ h0
  rw [getElem!_pos zs _ this]
  exact hz _ (by simp)
/-- A whole element is laid into an own row. -/
theorem Ow.setElem {α : Type} {d : Ty α} {e : TypeId} {w : World} {F : Nat → Prop} {v : Value} {xs : List α} (h : Ow d e w F v xs) {g : Nat} (hv : v.ownBlock = some g) (j : Nat) (hj : j < xs.length) (x' : α) (cs' : List Value) (F' G : Nat → Prop)
    (hr : d.rel w F' x' cs') (hF' : ∀ k, F' k → ¬ F k) (hG : ∀ k, F k → G k) (hG' : ∀ k, F' k → G k) :
    w.there g (j * d.sz) d.sz ∧ Ow d e (w.setCells g (j * d.sz) cs') G v (xs.set j x') ∧ Ch (fun k => k = g) w (w.setCells g (j * d.sz) cs') := by
  have hC : Ch (fun k => k = g) w (w.setCells g (j * d.sz) cs') := Ch.setCells _ _ _ (Ch.refl _ _) (.inl rfl)
  have hgF : F g := h.inF hv
  have hgl := h.block_lt hv
  obtain ⟨cs, Fs, h1, h2, h3, h4, h5⟩ := h.bound
  have hlen := h1.1
  have hl' := d.len hr
  rcases h1.2 with ⟨rfl, _⟩ | ⟨g', cap, cur, rfl, hb, hh, hc1, hc2, hc3, hc4⟩
  · simp [Value.ownBlock] at hv
  · simp only [Value.ownBlock, Option.some.injEq] at hv
    subst hv
    have hjn : (j + 1) * d.sz ≤ xs.length * d.sz := Nat.mul_le_mul_right _ (by omega)
    have hjc : xs.length * d.sz ≤ cap * d.sz := Nat.mul_le_mul_right _ hc1
    rw [Nat.add_mul, Nat.one_mul] at hjn
    refine ⟨fun i hi => ?_, ⟨ovw cs (j * d.sz) cs', fun q k => if q = j then F' k ∧ k < w.heap.size else Fs q k, ⟨by rw [ovw_len, hlen, List.length_set], .inr ⟨g', cap, (ovw cur.toList (j * d.sz) cs').toArray, by rw [List.length_set], Nat.zero_le _, ?_, by simpa using hc1, hc2, by simpa [ovw_len] using hc3, ?_⟩⟩, fun k hk => ?_, ?_, ?_, ?_⟩, hC⟩
    · have hlt : j * d.sz + i < cur.size := by omega
      exact ⟨by simp [World.cell?, hh, hlt], by simp [World.frozen?, hh]⟩
    · exact blk_ovw _ _ _ _ hh
    · rw [List.length_set, ovw_take, hc4]
    · exact hG _ (h2 k hk).1
    · intro q k hq
      by_cases hqj : q = j
      · subst hqj
        simp only [if_true] at hq
        exact ⟨hG' k hq.1, fun e1 => by simp [Value.ownBlock] at e1; subst e1; exact hF' _ hq.1 hgF⟩
      · simp only [if_neg hqj] at hq
        exact ⟨hG k (h3 q k hq).1.1, (h3 q k hq).2⟩
    · intro a b k hab ha hb'
      by_cases haj : a = j
      · subst haj
        simp only [if_true, if_neg (Ne.symm hab)] at ha hb'
        exact hF' k ha.1 (h3 b k hb').1.1
      · by_cases hbj : b = j
        · subst hbj
          simp only [if_true, if_neg haj] at ha hb'
          exact hF' k hb'.1 (h3 a k ha).1.1
        · simp only [if_neg haj, if_neg hbj] at ha hb'
          exact h4 a b k hab ha hb'
    · intro q x hq
      by_cases hqj : q = j
      · subst hqj
        simp only [List.getElem?_set_self hj, Option.some.injEq] at hq
        subst hq
        simp only [if_true]
        have hsplit : ((ovw cs (q * d.sz) cs').drop (q * d.sz)).take d.sz = cs' := by
          have e1 : cs = cs.take (q * d.sz) ++ (cs.drop (q * d.sz)).take d.sz ++ (cs.drop (q * d.sz)).drop d.sz := by
            rw [List.append_assoc, List.take_append_drop, List.take_append_drop]
          have hta : (cs.take (q * d.sz)).length = q * d.sz := by rw [List.length_take]; omega
          have hmid : ((cs.drop (q * d.sz)).take d.sz).length = cs'.length := by rw [List.length_take, List.length_drop]; omega
          have e2 := ovw_mid cs' ((cs.drop (q * d.sz)).take d.sz) (cs.take (q * d.sz)) ((cs.drop (q * d.sz)).drop d.sz) hmid
          rw [hta, ← e1] at e2
          rw [e2, List.append_assoc, List.drop_left' hta, ← hl', List.take_left]
        rw [hsplit]
        exact d.move (fun k hk => hC.block k hk.2 (fun e1 => hF' k hk.1 (e1 ▸ hgF))) (d.bound hr)
      · rw [List.getElem?_set_ne (Ne.symm hqj)] at hq
        simp only [if_neg hqj]
        have h6 := h5 q x hq
        have hqn : (q + 1) * d.sz ≤ xs.length * d.sz := Nat.mul_le_mul_right _ (by have := (List.getElem?_eq_some_iff.1 hq).1; omega)
        have h7 : ((ovw cs (j * d.sz) cs').drop (q * d.sz)).take d.sz = (cs.drop (q * d.sz)).take d.sz := by
          apply List.ext_getElem?
          intro i
          rw [List.getElem?_take, List.getElem?_take]
          by_cases hi : i < d.sz
          · simp only [if_pos hi, List.getElem?_drop]
            refine ovw_out _ _ _ _ ?_
            by_cases hlt : q < j
            · have : (q + 1) * d.sz ≤ j * d.sz := Nat.mul_le_mul_right _ hlt
              rw [Nat.add_mul, Nat.one_mul] at this
              left; omega
            · have : (j + 1) * d.sz ≤ q * d.sz := Nat.mul_le_mul_right _ (by omega)
              rw [Nat.add_mul, Nat.one_mul] at this
              right; rw [hl']; omega
          · simp only [if_neg hi]
        rw [h7]
        refine d.move (fun k hk' => hC.block k (h3 q k hk').1.2 (fun e1 => (h3 q k hk').2 (by rw [e1]; rfl))) h6
section
variable {P : Program} {ops : Array Oper} {rest : List Oper} {o : Oper} {a : Act} {W : World} {Q : Exit → Act → World → Prop}
/-- The arm at a store of a whole element, whatever hangs on it. -/
theorem ow_store_any {α : Type} {d : Ty α} {e : TypeId} {F : Nat → Prop} {v : Value} {xs : List α} (hgd : o.guard = none) (ty : TypeId) (x y : Operand) (ho : o.op = .store ty x y)
    (HO : Ow d e W F v xs) {g : Nat} (hv : v.ownBlock = some g) (j : Nat) (hj : j < xs.length) (z : α) (cs' : List Value) (F' G : Nat → Prop) (hr : d.rel W F' z cs') (hF' : ∀ k, F' k → ¬ F k) (hG : ∀ k, F k → G k) (hG' : ∀ k, F' k → G k)
    (hx : a.eval x = .pointer (some ⟨g, j * d.sz, none⟩)) (hy : a.eval y = .agg cs'.toArray) (hi : (P.info? ty).map (·.size) = some d.sz)
    (h : ∀ w1, Ow d e w1 G v (xs.set j z) → Ch (fun k => k = g) W w1 → wpList P ops Q rest (a.put o.dst undef) w1) : wpList P ops Q (o :: rest) a W := by
  obtain ⟨h1, h2, h3⟩ := HO.setElem hv j hj z cs' F' G hr hF' hG hG'
  have hl := d.len hr
  refine wpList_store_mid hgd ty x y ho g (j * d.sz) cs'.toArray hx hy (by simpa [hl] using h1) (by simpa [hl] using hi) (all_oneCell_toArray (d.one hr)) ?_
  exact h _ h2 h3
/-- make([]T, n, n) -/
theorem ow_full {α : Type} {d : Ty α} {e : TypeId} (hg : o.guard = none) (l c : Operand) (t : TypeId) (hop : o.op = Op.makeSlice t l c) (ht : P.underlying t = some (.slice e)) (z : Value) (bytes : Nat)
    (hinfo : (P.info? e).map (fun i => (i.zero, i.size, i.bytes)) = some (some z, d.sz, bytes)) (hz : ∀ u ∈ z.cells.toList, u.oneCell' = true) (hz0 : z.cells.size = d.sz) (hs : 0 < d.sz) (kl kc : IntKind) (n : Nat) (hl : a.eval l = .int kl (n : Int)) (hc : a.eval c = .int kc (n : Int)) (hb : bytes * n ≤ 281474976710656) (hn : n ≤ 9223372036854775807)
    (h : ∀ w1, Ow (opt d) e w1 (fun k => W.heap.size ≤ k) (.slice (some ⟨W.heap.size, 0, none⟩) n n) (List.replicate n none) → Below W.heap.size W w1 → wpList P ops Q rest (a.put o.dst (.slice (some ⟨W.heap.size, 0, none⟩) n n)) w1) : wpList P ops Q (o :: rest) a W := by
  obtain ⟨i, h2, h3, h4, h5⟩ := info_parts hinfo
  refine wpList_plain hg fun K hK' => ?_
  obtain ⟨w', hrun, r1, r2⟩ := run_make_full (P := P) (w := W) 0 t e i z d.sz ht h2 h3 h4 kl kc n (by rw [h5]; exact hb) (by unfold maxLen; omega) (Nat.zero_le _)
  unfold Oper.wp
  simp only [execOp, hop, hl, hc]
  rw [Sem.run_bind, hrun]
  simp only [Result.andThen_ok, Sem.run_pure, Oper.upon_value]
  refine hK' _ _ (h w' ⟨_, fun _ _ => False, by rw [List.length_replicate]; exact r1, fun g hg => by simp [Value.ownBlock] at hg; subst hg; exact Nat.le_refl _, fun _ _ h => h.elim, fun _ _ _ _ h => h.elim, fun j x hj => ?_⟩ ((Ch.refl _ W).grown r2 (fun k hk => by cases hk)).below0)
  have hjn : j < n := by have := (List.getElem?_eq_some_iff.1 hj).1; simpa using this
  have hx : x = none := by
    have := hj
    rw [List.getElem?_replicate, if_pos hjn] at this
    exact (Option.some.inj this).symm
  subst hx
  have hlen := r1.1
  have hj1 : (j + 1) * d.sz ≤ n * d.sz := Nat.mul_le_mul_right _ hjn
  rw [Nat.add_mul, Nat.one_mul] at hj1
  show List.length _ = d.sz ∧ _
  refine ⟨?_, fun u hu => madeCells_one hz (by rw [hz0]; exact hs) _ u (List.mem_of_mem_drop (List.mem_of_mem_take hu))⟩
  rw [List.length_take, List.length_drop, hlen]
  show min d.sz (n * d.sz - j * d.sz) = d.sz
  omega
end
end Go.Proofs.Ytlinephiindncaa

namespace Go.Proofs.Ytlinephiindncaa
set_option linter.unusedVariables false
set_option linter.unusedSectionVars false
/-- A strict order in which two that are not told apart are the same. -/
structure StrictOrd {α : Type} (lt : α → α → Bool) : Prop where
  asymm : ∀ a b, lt a b = true → lt b a = false
  trans : ∀ a b c, lt a b = true → lt b c = true → lt a c = true
  total : ∀ a b, lt a b = false → lt b a = false → a = b
section
variable {α : Type} [Inhabited α] {lt : α → α → Bool}
theorem StrictOrd.le_trans (O : StrictOrd lt) {a b c : α} (h1 : lt b a = false) (h2 : lt c b = false) : lt c a = false := by
  cases h3 : lt a b with
  | true =>
    cases h4 : lt c a with
    | true => have := O.trans c a b h4 h3; rw [this] at h2; cases h2
    | false => rfl
  | false =>
    have := O.total a b h3 h1
    subst this
    exact h2
theorem StrictOrd.irrefl (O : StrictOrd lt) (a : α) : lt a a = false := by
  cases h : lt a a with
  | true => have := O.asymm a a h; rw [h] at this; cases this
  | false => rfl
/-- The thing at a place. -/
def nth (l : List α) (i : Nat) : α := l.getD i default
theorem nth_eq {l : List α} {i : Nat} (h : i < l.length) : nth l i = l[i] := by simp [nth, List.getD, h]
/-- Two things change places. -/
def swp (l : List α) (i j : Nat) : List α := (l.set i (nth l j)).set j (nth l i)
theorem swp_len (l : List α) (i j : Nat) : (swp l i j).length = l.length := by simp [swp]
theorem nth_set (l : List α) (i : Nat) (x : α) (k : Nat) (hi : i < l.length) : nth (l.set i x) k = if k = i then x else nth l k := by
  unfold nth List.getD
  by_cases h : k = i
  · subst h; simp [hi]
  · rw [List.getElem?_set_ne (Ne.symm h), if_neg h]
theorem nth_swp (l : List α) (i j k : Nat) (hi : i < l.length) (hj : j < l.length) : nth (swp l i j) k = if k = j then nth l i else if k = i then nth l j else nth l k := by
  unfold swp
  rw [nth_set _ _ _ _ (by simpa using hj), nth_set _ _ _ _ hi]
theorem swp_perm (l : List α) (i j : Nat) (hi : i < l.length) (hj : j < l.length) : (swp l i j).Perm l := by
  unfold swp
  rw [nth_eq hi, nth_eq hj]
  exact List.set_set_perm hi hj
variable (lt)
def hup : Nat → List α → Nat → List α
  | 0, l, _ => l
  | n + 1, l, k => if k = 0 then l else if lt (nth l k) (nth l ((k - 1) / 2)) = true then hup n (swp l k ((k - 1) / 2)) ((k - 1) / 2) else l
def hpush (l : List α) (x : α) : List α := hup lt l.length (l ++ [x]) l.length
/-- The lesser child of a place. -/
def child (l : List α) (k : Nat) : Nat := if 2 * k + 1 + 1 < l.length ∧ lt (nth l (2 * k + 1 + 1)) (nth l (2 * k + 1)) = true then 2 * k + 1 + 1 else 2 * k + 1
def hdown : Nat → List α → Nat → List α
  | 0, l, _ => l
  | n + 1, l, k => if l.length ≤ 2 * k + 1 then l else if lt (nth l (child lt l k)) (nth l k) = true then hdown n (swp l k (child lt l k)) (child lt l k) else l
/-- What is left when the least thing is taken. -/
def hrest (l : List α) : List α := hdown lt l.length ((l.set 0 (nth l (l.length - 1))).take (l.length - 1)) 0
def hdrain : Nat → List α → List α
  | 0, _ => []
  | n + 1, l => if l.length = 0 then [] else nth l 0 :: hdrain n (hrest lt l)
variable {lt}
def IsHeap (lt : α → α → Bool) (l : List α) : Prop := ∀ i, 0 < i → i < l.length → lt (nth l i) (nth l ((i - 1) / 2)) = false
theorem hup_fuel : ∀ (n m : Nat) (l : List α) (k : Nat), k ≤ n → k ≤ m → hup lt n l k = hup lt m l k
  | 0, 0, _, _, _, _ => rfl
  | 0, m + 1, l, k, h, _ => by obtain rfl : k = 0 := by omega
                               simp [hup]
  | n + 1, 0, l, k, _, h => by obtain rfl : k = 0 := by omega
                               simp [hup]
  | n + 1, m + 1, l, k, h1, h2 => by
    simp only [hup]
    split
    · rfl
    · split
      · exact hup_fuel n m _ _ (by omega) (by omega)
      · rfl
theorem hup_perm : ∀ (n : Nat) (l : List α) (k : Nat), k < l.length → (hup lt n l k).Perm l
  | 0, l, k, _ => List.Perm.refl _
  | n + 1, l, k, h => by
    simp only [hup]
    split
    · exact List.Perm.refl _
    · split
      · exact (hup_perm n _ _ (by rw [swp_len]; omega)).trans (swp_perm l _ _ h (by omega))
      · exact List.Perm.refl _
theorem hup_heap (O : StrictOrd lt) : ∀ (n : Nat) (l : List α) (k : Nat), k ≤ n → k < l.length →
    (∀ i, 0 < i → i < l.length → i ≠ k → lt (nth l i) (nth l ((i - 1) / 2)) = false) → (∀ c, c < l.length → 0 < c → (c - 1) / 2 = k → 0 < k → lt (nth l c) (nth l ((k - 1) / 2)) = false) → IsHeap lt (hup lt n l k)
  | 0, l, k, hn, hk, h1, h2 => by
    obtain rfl : k = 0 := by omega
    exact fun i h0 hi => h1 i h0 hi (by omega)
  | n + 1, l, k, hn, hk, h1, h2 => by
    simp only [hup]
    split
    · rename_i h0; subst h0; exact fun i h0 hi => h1 i h0 hi (by omega)
    · rename_i hk0
      split
      · rename_i hlt
        have hp : (k - 1) / 2 < l.length := by omega
        have hpk : (k - 1) / 2 < k := by omega
        refine hup_heap O n _ _ (by omega) (by rw [swp_len]; omega) (fun i hi0 hi hne => ?_) (fun c hc hc0 hcp hp0 => ?_)
        · rw [swp_len] at hi
          rw [nth_swp l _ _ _ hk hp, nth_swp l _ _ _ hk hp]
          by_cases e1 : i = k
          · subst e1
            rw [if_neg hne, if_pos rfl, if_pos rfl]
            exact O.asymm _ _ hlt
          · rw [if_neg hne, if_neg e1]
            by_cases e2 : (i - 1) / 2 = (k - 1) / 2
            · rw [if_pos e2]
              have h3 := h1 i hi0 hi e1
              rw [e2] at h3
              exact O.le_trans (O.asymm _ _ hlt) h3
            · rw [if_neg e2]
              by_cases e3 : (i - 1) / 2 = k
              · rw [if_pos e3]; exact h2 i hi hi0 e3 (by omega)
              · rw [if_neg e3]; exact h1 i hi0 hi e1
        · rw [swp_len] at hc
          rw [nth_swp l _ _ _ hk hp, nth_swp l _ _ _ hk hp, if_neg (by omega : ¬ c = (k - 1) / 2), if_neg (by omega : ¬ ((k - 1) / 2 - 1) / 2 = (k - 1) / 2), if_neg (by omega : ¬ ((k - 1) / 2 - 1) / 2 = k)]
          have h4 := h1 ((k - 1) / 2) hp0 hp (by omega)
          by_cases e1 : c = k
          · rw [if_pos e1]; exact h4
          · rw [if_neg e1]
            have h3 := h1 c hc0 hc e1
            rw [hcp] at h3
            exact O.le_trans h4 h3
      · rename_i hlt
        intro i h0 hi
        by_cases e : i = k
        · subst e; simpa using hlt
        · exact h1 i h0 hi e
theorem nth_append (l : List α) (x : α) (i : Nat) (h : i < l.length) : nth (l ++ [x]) i = nth l i := by
  unfold nth List.getD; rw [List.getElem?_append_left h]
theorem hpush_perm (l : List α) (x : α) : (hpush lt l x).Perm (l ++ [x]) := hup_perm _ _ _ (by simp)
theorem hpush_heap (O : StrictOrd lt) {l : List α} (h : IsHeap lt l) (x : α) : IsHeap lt (hpush lt l x) := by
  refine hup_heap O _ _ _ (Nat.le_refl _) (by simp) (fun i hi0 hi hne => ?_) (fun c hc hc0 hcp _ => ?_)
  · simp only [List.length_append, List.length_singleton] at hi
    rw [nth_append _ _ _ (by omega), nth_append _ _ _ (by omega)]
    exact h i hi0 (by omega)
  · simp only [List.length_append, List.length_singleton] at hc; omega
theorem child_lt {l : List α} {k : Nat} (h : ¬ l.length ≤ 2 * k + 1) : child lt l k < l.length := by unfold child; split <;> omega
theorem child_par (l : List α) (k : Nat) : 0 < child lt l k ∧ (child lt l k - 1) / 2 = k ∧ k < child lt l k := by unfold child; split <;> omega
theorem child_le (O : StrictOrd lt) {l : List α} {k c : Nat} (hc : c < l.length) (h0 : 0 < c) (hp : (c - 1) / 2 = k) : lt (nth l c) (nth l (child lt l k)) = false := by
  have hcc : c = 2 * k + 1 ∨ c = 2 * k + 1 + 1 := by omega
  unfold child
  split
  · rename_i h
    rcases hcc with rfl | rfl
    · exact O.asymm _ _ h.2
    · exact O.irrefl _
  · rename_i h
    rcases hcc with rfl | rfl
    · exact O.irrefl _
    · cases h2 : lt (nth l (2 * k + 1 + 1)) (nth l (2 * k + 1)) with
      | true => exact absurd ⟨hc, h2⟩ h
      | false => rfl
theorem hdown_perm : ∀ (n : Nat) (l : List α) (k : Nat), k < l.length → (hdown lt n l k).Perm l
  | 0, l, k, _ => List.Perm.refl _
  | n + 1, l, k, h => by
    simp only [hdown]
    split
    · exact List.Perm.refl _
    · rename_i hk
      split
      · exact (hdown_perm n _ _ (by rw [swp_len]; exact child_lt hk)).trans (swp_perm l _ _ h (child_lt hk))
      · exact List.Perm.refl _
theorem hdown_nil (n k : Nat) : hdown lt n ([] : List α) k = [] := by cases n <;> simp [hdown]
theorem hdown_fuel : ∀ (n m : Nat) (l : List α) (k : Nat), l.length ≤ k + n → l.length ≤ k + m → hdown lt n l k = hdown lt m l k
  | 0, 0, _, _, _, _ => rfl
  | 0, m + 1, l, k, h, _ => by
    simp only [hdown]; rw [if_pos (by omega)]
  | n + 1, 0, l, k, _, h => by
    simp only [hdown]; rw [if_pos (by omega)]
  | n + 1, m + 1, l, k, h1, h2 => by
    simp only [hdown]
    split
    · rfl
    · split
      · have := (child_par (lt := lt) l k).2.2
        exact hdown_fuel n m _ _ (by rw [swp_len]; omega) (by rw [swp_len]; omega)
      · rfl
theorem hdown_heap (O : StrictOrd lt) : ∀ (n : Nat) (l : List α) (k : Nat), l.length ≤ k + n → k < l.length →
    (∀ i, 0 < i → i < l.length → (i - 1) / 2 ≠ k → lt (nth l i) (nth l ((i - 1) / 2)) = false) → (∀ c, c < l.length → 0 < c → (c - 1) / 2 = k → 0 < k → lt (nth l c) (nth l ((k - 1) / 2)) = false) → IsHeap lt (hdown lt n l k)
  | 0, l, k, hn, hk, h1, h2 => by omega
  | n + 1, l, k, hn, hk, h1, h2 => by
    simp only [hdown]
    split
    · rename_i hle
      exact fun i h0 hi => h1 i h0 hi (by omega)
    · rename_i hle
      obtain ⟨hc0, hcp, hck⟩ := child_par (lt := lt) l k
      have hcl := child_lt (lt := lt) hle
      split
      · rename_i hlt
        have hmin := fun (c : Nat) (hc : c < l.length) (h0 : 0 < c) (hp : (c - 1) / 2 = k) => child_le O (lt := lt) hc h0 hp
        generalize child lt l k = d at *
        refine hdown_heap O n _ _ (by rw [swp_len]; omega) (by rw [swp_len]; omega) (fun i hi0 hi hne => ?_) (fun c hc hc0' hcp' hd0 => ?_)
        · rw [swp_len] at hi
          rw [nth_swp l _ _ _ hk hcl, nth_swp l _ _ _ hk hcl]
          by_cases e1 : i = d
          · subst e1
            rw [if_pos rfl, hcp, if_neg (by omega), if_pos rfl]
            exact O.asymm _ _ hlt
          · rw [if_neg e1]
            by_cases e2 : i = k
            · subst e2
              rw [if_pos rfl, if_neg hne, if_neg (by omega)]
              exact h2 d hcl hc0 hcp (by omega)
            · rw [if_neg e2, if_neg hne]
              by_cases e3 : (i - 1) / 2 = k
              · rw [if_pos e3]; exact hmin i hi hi0 e3
              · rw [if_neg e3]; exact h1 i hi0 hi e3
        · rw [swp_len] at hc
          rw [nth_swp l _ _ _ hk hcl, nth_swp l _ _ _ hk hcl, if_neg (by omega : ¬ c = d), if_neg (by omega : ¬ c = k), hcp, if_neg (by omega), if_pos rfl]
          have h3 := h1 c hc0' hc (by omega)
          rw [hcp'] at h3
          exact h3
      · rename_i hlt
        intro i h0 hi
        by_cases e : (i - 1) / 2 = k
        · rw [e]
          have h3 := child_le O (lt := lt) hi h0 e
          have h4 : lt (nth l (child lt l k)) (nth l k) = false := by simpa using hlt
          exact O.le_trans h4 h3
        · exact h1 i h0 hi e
theorem heap_min (O : StrictOrd lt) {l : List α} (h : IsHeap lt l) : ∀ (i : Nat), i < l.length → lt (nth l i) (nth l 0) = false := by
  intro i
  induction i using Nat.strongRecOn with
  | _ i ih =>
    intro hi
    by_cases h0 : i = 0
    · subst h0; exact O.irrefl _
    · exact O.le_trans (ih ((i - 1) / 2) (by omega) (by omega)) (h i (by omega) hi)
theorem nth_take (l : List α) (n i : Nat) (h : i < n) : nth (l.take n) i = nth l i := by
  unfold nth List.getD; rw [List.getElem?_take, if_pos h]
theorem hrest_len (l : List α) (h : 0 < l.length) : (hrest lt l).length = l.length - 1 := by
  unfold hrest
  by_cases h1 : l.length = 1
  · have : (l.set 0 (nth l (l.length - 1))).take (l.length - 1) = [] := by simp [h1]
    rw [this, hdown_nil]; simp [h1]
  · rw [(hdown_perm _ _ _ (by simp; omega)).length_eq]; simp
theorem hrest_perm (l : List α) (h : 0 < l.length) : (nth l 0 :: hrest lt l).Perm l := by
  unfold hrest
  have key : (nth l 0 :: (l.set 0 (nth l (l.length - 1))).take (l.length - 1)).Perm l := by
    have h1 := swp_perm l 0 (l.length - 1) h (by omega)
    have h2 : swp l 0 (l.length - 1) = (l.set 0 (nth l (l.length - 1))).take (l.length - 1) ++ [nth l 0] := by
      refine List.ext_getElem? fun i => ?_
      by_cases hi : i < l.length - 1
      · rw [List.getElem?_append_left (by simp; omega), List.getElem?_take, if_pos hi]
        unfold swp
        rw [List.getElem?_set_ne (by omega)]
      · by_cases hi2 : i = l.length - 1
        · subst hi2
          rw [List.getElem?_append_right (by simp)]
          unfold swp
          rw [List.getElem?_set_self (by simp; omega)]
          simp
        · rw [List.getElem?_eq_none (by rw [swp_len]; omega), List.getElem?_eq_none (by simp; omega)]
    rw [h2] at h1
    exact List.perm_append_singleton .. |>.symm.trans h1
  refine List.Perm.trans ?_ key
  refine List.Perm.cons _ ?_
  by_cases h1 : l.length = 1
  · have : (l.set 0 (nth l (l.length - 1))).take (l.length - 1) = [] := by simp [h1]
    rw [this, hdown_nil]
  · exact hdown_perm _ _ _ (by simp; omega)
theorem hrest_heap (O : StrictOrd lt) {l : List α} (hh : IsHeap lt l) (h : 0 < l.length) : IsHeap lt (hrest lt l) := by
  by_cases h1 : l.length = 1
  · intro i h0 hi
    rw [hrest_len l h] at hi; omega
  · unfold hrest
    refine hdown_heap O _ _ _ (by simp) (by simp; omega) (fun i hi0 hi hne => ?_) (fun c _ _ _ h0 => by omega)
    simp only [List.length_take, List.length_set] at hi
    rw [nth_take _ _ _ (by omega), nth_take _ _ _ (by omega), nth_set _ _ _ _ h, nth_set _ _ _ _ h, if_neg (by omega), if_neg hne]
    exact hh i hi0 (by omega)
theorem hdrain_perm : ∀ (n : Nat) (l : List α), l.length ≤ n → (hdrain lt n l).Perm l
  | 0, l, h => by obtain rfl : l = [] := List.length_eq_zero_iff.1 (by omega)
                  exact List.Perm.refl _
  | n + 1, l, h => by
    simp only [hdrain]
    split
    · rename_i h0; obtain rfl : l = [] := List.length_eq_zero_iff.1 h0; exact List.Perm.refl _
    · rename_i h0
      exact ((hdrain_perm n _ (by rw [hrest_len _ (by omega)]; omega)).cons _).trans (hrest_perm l (by omega))
theorem hdrain_sorted (O : StrictOrd lt) : ∀ (n : Nat) (l : List α), l.length ≤ n → IsHeap lt l → (hdrain lt n l).Pairwise (fun a b => lt b a = false)
  | 0, l, h, _ => List.Pairwise.nil
  | n + 1, l, h, hh => by
    simp only [hdrain]
    split
    · exact List.Pairwise.nil
    · rename_i h0
      refine List.pairwise_cons.2 ⟨fun b hb => ?_, hdrain_sorted O n _ (by rw [hrest_len _ (by omega)]; omega) (hrest_heap O hh (by omega))⟩
      have hb2 : b ∈ l := (hrest_perm (lt := lt) l (by omega)).mem_iff.1 (List.mem_cons_of_mem _ ((hdrain_perm n _ (by rw [hrest_len _ (by omega)]; omega)).mem_iff.1 hb))
      obtain ⟨i, hi, rfl⟩ := List.getElem_of_mem hb2
      rw [← nth_eq hi]
      exact heap_min O hh i hi
/-- Two rows in order of the same things are the same. -/
theorem sorted_eq (O : StrictOrd lt) {l m : List α} (h1 : l.Pairwise (fun a b => lt b a = false)) (h2 : m.Pairwise (fun a b => lt b a = false)) (hp : l.Perm m) : l = m :=
  hp.eq_of_pairwise (fun a b _ _ ha hb => O.total a b hb ha) h1 h2
/-- All that was put in, one by one. -/
def heapOf (lt : α → α → Bool) (l : List α) : List α := l.foldl (hpush lt) []
theorem heapOf_ok (O : StrictOrd lt) (l : List α) : IsHeap lt (heapOf lt l) ∧ (heapOf lt l).Perm l := by
  unfold heapOf
  have key : ∀ (l m : List α), IsHeap lt m → IsHeap lt (l.foldl (hpush lt) m) ∧ (l.foldl (hpush lt) m).Perm (m ++ l) := by
    intro l
    induction l with
    | nil => intro m hm; exact ⟨hm, by simp⟩
    | cons x l ih =>
      intro m hm
      obtain ⟨h1, h2⟩ := ih (hpush lt m x) (hpush_heap O hm x)
      refine ⟨h1, h2.trans ?_⟩
      have := (hpush_perm (lt := lt) m x).append_right l
      simpa using this
  obtain ⟨h1, h2⟩ := key l [] (fun i _ hi => by simp at hi)
  exact ⟨h1, by simpa using h2⟩
end
end Go.Proofs.Ytlinephiindncaa
