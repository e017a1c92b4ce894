/- Texts joined: Draw1, Draw2, Nest. -/
import Derived.Test.YtbcemldiahghcaaGreatJ02
namespace Go.Proofs.YtbcemldiahghcaaGreat
set_option linter.unusedVariables false
set_option linter.unusedSimpArgs false
set_option maxRecDepth 100000
open Go.RowKit

theorem chg_cells {w w' : World} {g : Nat} (h : Ch (fun k => k = g) w w') : (∀ b o, b < w.heap.size → ¬ b = g → w'.cell? ⟨b, o, none⟩ = w.cell? ⟨b, o, none⟩) ∧ (∀ b o, b < w.heap.size → ¬ b = g → w'.frozen? ⟨b, o, none⟩ = w.frozen? ⟨b, o, none⟩) :=
  h.cells
theorem Rd.take {α : Type} {d : Ty α} {w : World} {F : Nat → Prop} {A : Option Addr} {n c : Nat} {xs : List α} (h : Rd d w F (.slice A n c) xs) (k : Nat) (hk : k ≤ xs.length) : Rd d w F (.slice A k c) (xs.take k) := by
  obtain ⟨A', c', he, h1, h2, h3⟩ := h
  injection he with hA hn hc
  subst hA hc
  have hl : (xs.take k).length = k := by simp; omega
  refine ⟨A, c, by rw [hl], by omega, by omega, fun hp => ?_⟩
  obtain ⟨b, o, rfl, hF, hlt, hc⟩ := h3 (by omega)
  refine ⟨b, o, rfl, hF, hlt, fun j x hj => hc j x ?_⟩
  rw [List.getElem?_take] at hj
  split at hj
  · exact hj
  · cases hj
theorem cells5 {w : World} {s : Nat} {t : TypeId} {a b c d e : Value} (h : w.heap[s]? = some (.cells #[a, b, c, d, e] t (0, 0))) :
    w.cell? ⟨s, 0, none⟩ = some a ∧ w.cell? ⟨s, 1, none⟩ = some b ∧ w.cell? ⟨s, 2, none⟩ = some c ∧ w.cell? ⟨s, 3, none⟩ = some d ∧ w.cell? ⟨s, 4, none⟩ = some e ∧ ∀ i, w.frozen? ⟨s, i, none⟩ = false :=
  ⟨blk_cell h 0, blk_cell h 1, blk_cell h 2, blk_cell h 3, blk_cell h 4, blk_frozen h⟩
def opAgg (o : OpD) : Value := .agg #[.int .i64 o.d, .int .i64 o.a, .int .i64 o.b, .int .i64 o.c, .int .i64 o.e]
theorem store5 {w1 : World} {s : Nat} {t : TypeId} {z0 z1 z2 z3 z4 : Value} (hb : w1.heap[s]? = some (.cells #[z0, z1, z2, z3, z4] t (0, 0))) (a b c d e : Int) :
    (((((w1.setCell ⟨s, 0, none⟩ (.int .i64 a)).setCell ⟨s, 1, none⟩ (.int .i64 b)).setCell ⟨s, 2, none⟩ (.int .i64 c)).setCell ⟨s, 3, none⟩ (.int .i64 d)).setCell ⟨s, 4, none⟩ (.int .i64 e)).heap[s]? = some (.cells #[.int .i64 a, .int .i64 b, .int .i64 c, .int .i64 d, .int .i64 e] t (0, 0)) :=
  blk_set (blk_set (blk_set (blk_set (blk_set hb 0 _) 1 _) 2 _) 3 _) 4 _
end Go.Proofs.YtbcemldiahghcaaGreat

namespace Go.Proofs.YtbcemldiahghcaaGreat
set_option linter.unusedVariables false
set_option linter.unusedSimpArgs false
set_option maxRecDepth 100000
open Go.RowKit

theorem below_heap {B k : Nat} {w w' : World} {o : Obj} (h : Below B w w') (hk : k < B) (ho : w.heap[k]? = some o) : w'.heap[k]? = some o := (h.block k hk).trans ho
def evAgg (e : EvD) : Value := .agg #[.int .i64 e.time, .int .i64 e.to, .int .i64 e.from_, .int .i64 e.count, .int .i64 e.n, .int .i64 e.kind, .int .i64 e.arg]
theorem cells7 {w : World} {s : Nat} {t : TypeId} {a b c d e f g : Value} (h : w.heap[s]? = some (.cells #[a, b, c, d, e, f, g] t (0, 0))) :
    (w.cell? ⟨s, 0, none⟩ = some a ∧ w.cell? ⟨s, 1, none⟩ = some b ∧ w.cell? ⟨s, 2, none⟩ = some c ∧ w.cell? ⟨s, 3, none⟩ = some d ∧ w.cell? ⟨s, 4, none⟩ = some e ∧ w.cell? ⟨s, 5, none⟩ = some f ∧ w.cell? ⟨s, 6, none⟩ = some g) ∧ ∀ i, w.frozen? ⟨s, i, none⟩ = false :=
  ⟨⟨blk_cell h 0, blk_cell h 1, blk_cell h 2, blk_cell h 3, blk_cell h 4, blk_cell h 5, blk_cell h 6⟩, blk_frozen h⟩
theorem store7 {w1 : World} {s : Nat} {t : TypeId} {z0 z1 z2 z3 z4 z5 z6 : Value} (hb : w1.heap[s]? = some (.cells #[z0, z1, z2, z3, z4, z5, z6] t (0, 0))) (a b c d e f u : Int) :
    (((((((w1.setCell ⟨s, 0, none⟩ (.int .i64 a)).setCell ⟨s, 1, none⟩ (.int .i64 b)).setCell ⟨s, 2, none⟩ (.int .i64 c)).setCell ⟨s, 3, none⟩ (.int .i64 d)).setCell ⟨s, 4, none⟩ (.int .i64 e)).setCell ⟨s, 5, none⟩ (.int .i64 f)).setCell ⟨s, 6, none⟩ (.int .i64 u)).heap[s]? = some (.cells #[.int .i64 a, .int .i64 b, .int .i64 c, .int .i64 d, .int .i64 e, .int .i64 f, .int .i64 u] t (0, 0)) := by
  have h0 := blk_set hb 0 (.int .i64 a)
  simp only [List.setIfInBounds_toArray, List.set_cons_zero, List.set_cons_succ] at h0
  have h1 := blk_set h0 1 (.int .i64 b)
  simp only [List.setIfInBounds_toArray, List.set_cons_zero, List.set_cons_succ] at h1
  have h2 := blk_set h1 2 (.int .i64 c)
  simp only [List.setIfInBounds_toArray, List.set_cons_zero, List.set_cons_succ] at h2
  have h3 := blk_set h2 3 (.int .i64 d)
  simp only [List.setIfInBounds_toArray, List.set_cons_zero, List.set_cons_succ] at h3
  have h4 := blk_set h3 4 (.int .i64 e)
  simp only [List.setIfInBounds_toArray, List.set_cons_zero, List.set_cons_succ] at h4
  have h5 := blk_set h4 5 (.int .i64 f)
  simp only [List.setIfInBounds_toArray, List.set_cons_zero, List.set_cons_succ] at h5
  have h6 := blk_set h5 6 (.int .i64 u)
  simp only [List.setIfInBounds_toArray, List.set_cons_zero, List.set_cons_succ] at h6
  exact h6
end Go.Proofs.YtbcemldiahghcaaGreat

namespace Go.Proofs.YtbcemldiahghcaaGreat
set_option linter.unusedVariables false
set_option linter.unusedSimpArgs false
set_option maxRecDepth 100000
open Go.RowKit

theorem Ow.oneCell {α : Type} {d : Ty α} {e : TypeId} {w : World} {F : Nat → Prop} {v : Value} {xs : List α} (h : Ow d e w F v xs) : v.oneCell' = true := by
  obtain ⟨A, c, rfl, _⟩ := h.shape
  rfl
def oRule : Ty RuleD where
  sz := 2
  rel := fun w F x cs => ∃ v, cs = [.int .i64 x.kind, v] ∧ Ow tOp 150 w F v x.ops
  len := fun ⟨v, h, _⟩ => by rw [h]; rfl
  one := fun ⟨v, h, hr⟩ u hu => by
    have h1 := hr.oneCell
    rw [h] at hu; simp at hu; rcases hu with rfl | rfl
    · rfl
    · exact h1
  mono := fun hF ⟨v, h, hr⟩ => ⟨v, h, hr.mono hF⟩
  move := fun hm ⟨v, h, hr⟩ => ⟨v, h, hr.move hm⟩
  bound := fun ⟨v, h, hr⟩ => ⟨v, h, hr.bound⟩
def oApp : Ty AppD where
  sz := 1
  rel := fun w F x cs => ∃ v, cs = [v] ∧ Ow oRule 120 w F v x.rules
  len := fun ⟨v, h, _⟩ => by rw [h]; rfl
  one := fun ⟨v, h, hr⟩ u hu => by
    have h1 := hr.oneCell
    rw [h] at hu; simp at hu; rcases hu with rfl; exact h1
  mono := fun hF ⟨v, h, hr⟩ => ⟨v, h, hr.mono hF⟩
  move := fun hm ⟨v, h, hr⟩ => ⟨v, h, hr.move hm⟩
  bound := fun ⟨v, h, hr⟩ => ⟨v, h, hr.bound⟩
theorem Rd.map {α : Type} {d d' : Ty α} {w : World} {F : Nat → Prop} {v : Value} {xs : List α} (hs : d.sz = d'.sz) (hr : ∀ x cs, d.rel w F x cs → d'.rel w F x cs) (h : Rd d w F v xs) : Rd d' w F v xs := by
  obtain ⟨A, c, rfl, h1, h2, h3⟩ := h
  refine ⟨A, c, rfl, h1, h2, fun hp => ?_⟩
  obtain ⟨b, o, rfl, hF, hlt, hc⟩ := h3 hp
  refine ⟨b, o, rfl, hF, hlt, fun j x hj => ?_⟩
  obtain ⟨cs, h4, h5⟩ := hc j x hj
  exact ⟨cs, hr x cs h4, by rw [← hs]; exact h5⟩
theorem Ow.rdRules {w : World} {F : Nat → Prop} {v : Value} {xs : List RuleD} {e : TypeId} (h : Ow oRule e w F v xs) : Rd tRule w F v xs :=
  Rd.map (d := oRule) rfl (fun x cs ⟨v, h1, h2⟩ => ⟨v, h1, h2.rd⟩) h.rd
theorem Ow.rdApps {w : World} {F : Nat → Prop} {v : Value} {xs : List AppD} {e : TypeId} (h : Ow oApp e w F v xs) : Rd tApp w F v xs :=
  Rd.map (d := oApp) rfl (fun x cs ⟨v, h1, h2⟩ => ⟨v, h1, h2.rdRules⟩) h.rd
/-- One cell of one element of an own row is turned, and what hangs on it. -/
theorem Ow.update {α : Type} {d : Ty α} {e : TypeId} {w : World} {F : Nat → Prop} {v : Value} {xs : List α} (h : Ow d e w F v xs) {g : Nat} (hv : v.ownBlock = some g) (j : Nat) (hj : j < xs.length) :
    ∃ (Fj : Nat → Prop) (csj : List Value), d.rel w Fj xs[j] csj ∧ (∀ k, Fj k → F k ∧ k ≠ g ∧ k < w.heap.size) ∧ (∀ i u, csj[i]? = some u → w.cell? ⟨g, j * d.sz + i, none⟩ = some u) ∧
      ∀ (w' : World) (x' : α) (i : Nat) (u : Value) (F' G : Nat → Prop), i < d.sz → w'.heap[g]? = (w.setCell ⟨g, j * d.sz + i, none⟩ u).heap[g]? → (∀ k, F k → k < w.heap.size → k ≠ g → ¬ Fj k → w'.heap[k]? = w.heap[k]?) →
        d.rel w' F' x' (csj.set i u) → (∀ k, F' k → Fj k ∨ w.heap.size ≤ k) → (∀ k, F k → G k) → (∀ k, w.heap.size ≤ k → G k) → Ow d e w' G v (xs.set j x') := by
  obtain ⟨cs, Fs, h1, h2, h3, h4, h5⟩ := h.bound
  have hlen := h1.1
  rcases h1.2 with ⟨rfl, _⟩ | ⟨g', cap, cur, rfl, hb, hh, hc1, hc2, hc3, hc4⟩
  · simp [Value.ownBlock] at hv
  · simp only [Value.ownBlock, Option.some.injEq] at hv
    subst hv
    have hlt := (h1.lt g' rfl).2
    refine ⟨Fs j, (cs.drop (j * d.sz)).take d.sz, h5 j _ (List.getElem?_eq_getElem hj), fun k hk => ⟨(h3 j k hk).1.1, fun e' => (h3 j k hk).2 (by rw [e']; rfl), (h3 j k hk).1.2⟩, fun i u hi => ?_, ?_⟩
    · rw [List.getElem?_take] at hi
      split at hi
      · rw [List.getElem?_drop] at hi
        have := h1.cells (g := g') rfl (j * d.sz + i) u hi
        have ha : (⟨g', 0, none⟩ : Addr).add (j * d.sz + i) = ⟨g', j * d.sz + i, none⟩ := by unfold Addr.add; split <;> simp_all
        rwa [ha] at this
      · cases hi
    · intro w' x' i u F' G hi hg hk hr hF' hG hGn
      refine ⟨cs.set (j * d.sz + i) u, fun q k => if q = j then F' k else Fs q k, ⟨by simp [hlen], .inr ⟨g', cap, cur.setIfInBounds (j * d.sz + i) u, by simp, hb, ?_, by simpa using hc1, hc2, by simpa using hc3, ?_⟩⟩, fun k hk' => ?_, ?_, ?_, ?_⟩
      · rw [hg]; exact blk_set hh _ _
      · simp [List.take_set, hc4]
      · simp [Value.ownBlock] at hk'; subst hk'; exact hG _ (h2 _ rfl).1
      · intro q k hq
        by_cases hqj : q = j
        · subst hqj
          simp only [if_true] at hq
          rcases hF' k hq with h' | h'
          · exact ⟨hG _ (h3 q k h').1.1, (h3 q k h').2⟩
          · exact ⟨hGn _ h', fun e' => by simp [Value.ownBlock] at e'; omega⟩
        · simp only [if_neg hqj] at hq
          exact ⟨hG _ (h3 q k hq).1.1, (h3 q k hq).2⟩
      · intro a b k hab ha hb'
        by_cases haj : a = j
        · subst haj
          simp only [if_true, if_neg (Ne.symm hab)] at ha hb'
          rcases hF' k ha with h' | h'
          · exact h4 a b k hab h' hb'
          · have := (h3 b k hb').1.2; omega
        · by_cases hbj : b = j
          · subst hbj
            simp only [if_true, if_neg haj] at ha hb'
            rcases hF' k hb' with h' | h'
            · exact h4 a b k hab ha h'
            · have := (h3 a k ha).1.2; omega
          · simp only [if_neg haj, if_neg hbj] at ha hb'
            exact h4 a b k hab ha hb'
      · intro q x hq
        by_cases hqj : q = j
        · subst hqj
          simp only [List.getElem?_set_self hj, Option.some.injEq] at hq
          subst hq
          simp only [if_true]
          rw [List.drop_set, if_neg (by omega), Nat.add_sub_cancel_left, List.take_set]
          exact hr
        · rw [List.getElem?_set_ne (Ne.symm hqj)] at hq
          simp only [if_neg hqj]
          have h6 := h5 q x hq
          have h7 : ((cs.set (j * d.sz + i) u).drop (q * d.sz)).take d.sz = (cs.drop (q * d.sz)).take d.sz := by
            rw [List.drop_set]
            by_cases hlt' : q < j
            · have : (q + 1) * d.sz ≤ j * d.sz := Nat.mul_le_mul_right _ hlt'
              rw [Nat.add_mul, Nat.one_mul] at this
              rw [if_neg (by omega), List.take_set_of_le (by omega)]
            · have : (j + 1) * d.sz ≤ q * d.sz := Nat.mul_le_mul_right _ (by omega)
              rw [Nat.add_mul, Nat.one_mul] at this
              rw [if_pos (by omega)]
          rw [h7]
          refine d.move (fun k hk' => hk k (h3 q k hk').1.1 (h3 q k hk').1.2 (fun e' => (h3 q k hk').2 (by rw [e']; rfl)) (fun hj' => h4 q j k hqj hk' hj')) h6
end Go.Proofs.YtbcemldiahghcaaGreat
