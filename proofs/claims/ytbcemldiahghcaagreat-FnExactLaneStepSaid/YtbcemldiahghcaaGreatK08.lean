/- Texts joined: Nest, Store, AppS. -/
import Derived.Test.YtbcemldiahghcaaGreatK05
import Derived.Test.YtbcemldiahghcaaGreatK04
import Derived.Deep.MidRow
import Derived.Test.YtbcemldiahghcaaGreatK06
import Derived.Test.YtbcemldiahghcaaGreatK00
namespace Go.Proofs.YtbcemldiahghcaaGreat
set_option linter.unusedVariables false
set_option linter.unusedSimpArgs false
set_option maxRecDepth 100000
open Go.RowKit

theorem Ow.oneCell {α : Type} {d : Ty α} {e : TypeId} {w : World} {F : Nat → Prop} {v : Value} {xs : List α} (h : Ow d e w F v xs) : v.oneCell' = true := by
  obtain ⟨A, c, rfl, _⟩ := h.shape
  rfl
def oRule : Ty RuleD where
  sz := 2
  rel := fun w F x cs => ∃ v, cs = [.int .i64 x.kind, v] ∧ Ow tOp 150 w F v x.ops
  len := fun ⟨v, h, _⟩ => by rw [h]; rfl
  one := fun ⟨v, h, hr⟩ u hu => by
    have h1 := hr.oneCell
    rw [h] at hu; simp at hu; rcases hu with rfl | rfl
    · rfl
    · exact h1
  mono := fun hF ⟨v, h, hr⟩ => ⟨v, h, hr.mono hF⟩
  move := fun hm ⟨v, h, hr⟩ => ⟨v, h, hr.move hm⟩
  bound := fun ⟨v, h, hr⟩ => ⟨v, h, hr.bound⟩
def oApp : Ty AppD where
  sz := 1
  rel := fun w F x cs => ∃ v, cs = [v] ∧ Ow oRule 120 w F v x.rules
  len := fun ⟨v, h, _⟩ => by rw [h]; rfl
  one := fun ⟨v, h, hr⟩ u hu => by
    have h1 := hr.oneCell
    rw [h] at hu; simp at hu; rcases hu with rfl; exact h1
  mono := fun hF ⟨v, h, hr⟩ => ⟨v, h, hr.mono hF⟩
  move := fun hm ⟨v, h, hr⟩ => ⟨v, h, hr.move hm⟩
  bound := fun ⟨v, h, hr⟩ => ⟨v, h, hr.bound⟩
theorem Rd.map {α : Type} {d d' : Ty α} {w : World} {F : Nat → Prop} {v : Value} {xs : List α} (hs : d.sz = d'.sz) (hr : ∀ x cs, d.rel w F x cs → d'.rel w F x cs) (h : Rd d w F v xs) : Rd d' w F v xs := by
  obtain ⟨A, c, rfl, h1, h2, h3⟩ := h
  refine ⟨A, c, rfl, h1, h2, fun hp => ?_⟩
  obtain ⟨b, o, rfl, hF, hlt, hc⟩ := h3 hp
  refine ⟨b, o, rfl, hF, hlt, fun j x hj => ?_⟩
  obtain ⟨cs, h4, h5⟩ := hc j x hj
  exact ⟨cs, hr x cs h4, by rw [← hs]; exact h5⟩
theorem Ow.rdRules {w : World} {F : Nat → Prop} {v : Value} {xs : List RuleD} {e : TypeId} (h : Ow oRule e w F v xs) : Rd tRule w F v xs :=
  Rd.map (d := oRule) rfl (fun x cs ⟨v, h1, h2⟩ => ⟨v, h1, h2.rd⟩) h.rd
end Go.Proofs.YtbcemldiahghcaaGreat

namespace Go.Proofs.YtbcemldiahghcaaGreat
set_option linter.unusedVariables false
set_option linter.unusedSimpArgs false
set_option linter.unusedSectionVars false
open Go.RowKit
def ovw (l : List Value) : Nat → List Value → List Value
  | _, [] => l
  | o, v :: r => ovw (l.set o v) (o + 1) r
theorem ovw_len : ∀ (vs l : List Value) (o : Nat), (ovw l o vs).length = l.length
  | [], _, _ => rfl
  | v :: r, l, o => by rw [ovw, ovw_len r]; simp
theorem ovw_mid : ∀ (vs b a c : List Value), b.length = vs.length → ovw (a ++ b ++ c) a.length vs = a ++ vs ++ c
  | [], b, a, c, h => by
    have : b = [] := by simpa using h
    subst this; rfl
  | v :: r, [], a, c, h => by simp at h
  | v :: r, u :: b, a, c, h => by
    have := ovw_mid r b (a ++ [v]) c (by simpa using h)
    rw [ovw, show (a ++ u :: b ++ c).set a.length v = (a ++ [v]) ++ b ++ c by simp [List.set_append], ← (by simp : (a ++ [v]).length = a.length + 1), this]
    simp
theorem ovw_take : ∀ (vs l : List Value) (o n : Nat), (ovw l o vs).take n = ovw (l.take n) o vs
  | [], _, _, _ => rfl
  | v :: r, l, o, n => by rw [ovw, ovw, ovw_take r, List.take_set]
theorem blk_ovw {g : Nat} {t : TypeId} {fr : Nat × Nat} : ∀ (vs : List Value) (o : Nat) (w : World) (cur : List Value), w.heap[g]? = some (.cells cur.toArray t fr) → (w.setCells g o vs).heap[g]? = some (.cells (ovw cur o vs).toArray t fr)
  | [], _, _, _, h => h
  | v :: r, o, w, cur, h => by
    rw [World.setCells, ovw]
    exact blk_ovw r (o + 1) _ _ (by rw [blk_set h]; simp)
theorem Ch.setCells {S : Nat → Prop} {w : World} {g : Nat} : ∀ (vs : List Value) (o : Nat) (w1 : World), Ch S w w1 → (S g ∨ w.heap.size ≤ g) → Ch S w (w1.setCells g o vs)
  | [], _, _, h, _ => h
  | v :: r, o, w1, h, hg => Ch.setCells r (o + 1) _ (h.setCell (p := ⟨g, o, none⟩) hg v) hg
theorem size_setCells {g : Nat} : ∀ (vs : List Value) (o : Nat) (w : World), (w.setCells g o vs).heap.size = w.heap.size
  | [], _, _ => rfl
  | v :: r, o, w => by rw [World.setCells, size_setCells r]; simp
theorem flat_ovw {α : Type} {cells : α → List Value} {sz : Nat} (hl : ∀ x, (cells x).length = sz) (xs : List α) (j : Nat) (hj : j < xs.length) (x : α) : ovw (xs.flatMap cells) (j * sz) (cells x) = (xs.set j x).flatMap cells := by
  have h1 : xs = xs.take j ++ xs[j] :: xs.drop (j + 1) := by simp
  have h2 : ((xs.take j).flatMap cells).length = j * sz := by rw [flatMap_len hl, List.length_take, Nat.min_eq_left (by omega)]
  have h3 : xs.set j x = xs.take j ++ x :: xs.drop (j + 1) := by rw [List.set_eq_take_append_cons_drop, if_pos hj]
  rw [h3]
  conv => lhs; rw [h1]
  simp only [List.flatMap_append, List.flatMap_cons, ← h2, ← List.append_assoc]
  exact ovw_mid (cells x) (cells xs[j]) _ _ (by rw [hl, hl])
theorem Ow.setAt {α : Type} {cells : α → List Value} {sz : Nat} {hl : ∀ x, (cells x).length = sz} {ho : ∀ x, ∀ u ∈ cells x, u.oneCell' = true} {e : TypeId} {w : World} {F : Nat → Prop} {v : Value} {xs : List α}
    (h : Ow (flat cells sz hl ho) e w F v xs) {g : Nat} (hv : v.ownBlock = some g) (j : Nat) (hj : j < xs.length) (x : α) :
    w.there g (j * sz) sz ∧ Ow (flat cells sz hl ho) e (w.setCells g (j * sz) (cells x)) F v (xs.set j x) ∧ Ch (fun k => k = g) w (w.setCells g (j * sz) (cells x)) := by
  have hr := h.flatRow
  have hF : ∀ k, v.ownBlock = some k → F k := fun k hk => h.inF hk
  obtain ⟨h1, h2⟩ := hr
  rcases h2 with ⟨rfl, h2⟩ | ⟨g', cap, cur, rfl, hb, hh, hc1, hc2, hc3, hc4⟩
  · simp [Value.ownBlock] at hv
  · simp only [Value.ownBlock, Option.some.injEq] at hv
    subst hv
    have hjn : (j + 1) * sz ≤ cur.size := by rw [hc3]; exact Nat.mul_le_mul_right _ (by omega)
    rw [Nat.add_mul, Nat.one_mul] at hjn
    refine ⟨fun i hi => ?_, ?_, Ch.setCells _ _ _ (Ch.refl _ _) (.inl rfl)⟩
    · have hlt : j * sz + i < cur.size := by omega
      exact ⟨by simp [World.cell?, hh, hlt], by simp [World.frozen?, hh]⟩
    · refine Ow.of_flat (base := 0) ⟨?_, .inr ⟨g', cap, (ovw cur.toList (j * sz) (cells x)).toArray, ?_, Nat.zero_le _, ?_, ?_, hc2, ?_, ?_⟩⟩ hF
      · rw [flatMap_len hl]
      · rw [List.length_set]
      · exact blk_ovw _ _ _ _ hh
      · simpa using hc1
      · simp [ovw_len, hc3]
      · rw [List.length_set, ovw_take, hc4]
        exact flat_ovw hl xs j hj x
variable {P : Program} {ops : Array Oper} {rest : List Oper} {o : Oper} {a : Act} {W : World} {Q : Exit → Act → World → Prop} {K : Act → World → Prop}
/-- The arm at a store of a whole element. -/
theorem ow_store {α : Type} {cells : α → List Value} {sz : Nat} {hl : ∀ x, (cells x).length = sz} {ho1 : ∀ x, ∀ u ∈ cells x, u.oneCell' = true} {e : TypeId} {F : Nat → Prop} {v : Value} {xs : List α} (hgd : o.guard = none) (ty : TypeId) (x y : Operand) (ho : o.op = .store ty x y)
    (HO : Ow (flat cells sz hl ho1) e W F v xs) {g : Nat} (hv : v.ownBlock = some g) (j : Nat) (hj : j < xs.length) (z : α) (hx : a.eval x = .pointer (some ⟨g, j * sz, none⟩)) (hy : a.eval y = .agg (cells z).toArray)
    (hi : (P.info? ty).map (·.size) = some sz)
    (h : ∀ w1, Ow (flat cells sz hl ho1) e w1 F v (xs.set j z) → Ch (fun k => k = g) W w1 → wpList P ops Q rest (a.put o.dst undef) w1) : wpList P ops Q (o :: rest) a W := by
  obtain ⟨h1, h2, h3⟩ := HO.setAt hv j hj z
  refine wpList_store_mid hgd ty x y ho g (j * sz) (cells z).toArray hx hy (by simpa [hl] using h1) (by simpa [hl] using hi) (all_oneCell_toArray (ho1 z)) ?_
  exact h _ h2 h3
end Go.Proofs.YtbcemldiahghcaaGreat

namespace Go.Proofs.YtbcemldiahghcaaGreat
set_option linter.unusedVariables false
set_option linter.unusedSimpArgs false
set_option maxRecDepth 100000
open Go.RowKit
theorem op_c (g B : Nat) (c : Int) (e : EvD) (r : RunD) (sv ov : Value) (o : OpD) (w : World) (h : RunAt w g B c e r sv ov) (hB : B ≤ w.heap.size) (hr : RunOk r) (he : evOk e = true) (hns : r.sends.length ≤ 1000) (hno : r.outs.length ≤ 1000) (ho : opOk o = true) :
    Calls Tryz.prog 100 #[.pointer (some ⟨g,0,none⟩), .agg #[.int .i64 o.d, .int .i64 o.a, .int .i64 o.b, .int .i64 o.c, .int .i64 o.e]] w (OpPost B g c e r o w) := by
  obtain ⟨d, a, b, cc, ee⟩ := o
  have hx := And.intro hr.x0 hr.x1
  have hy := And.intro hr.y0 hr.y1
  by_cases k : d = 1 ∨ d = 2 ∨ d = 3 ∨ d = 4 ∨ d = 5 ∨ d = 6 ∨ d = 7
  · rcases k with rfl | rfl | rfl | rfl | rfl | rfl | rfl
    · exact op1_c g B c e r sv ov a b cc ee w h hB hx hy he hns hno ho
    · exact op2_c g B c e r sv ov a b cc ee w h hB hx hy he hns hno ho
    · exact op3_c g B c e r sv ov a b cc ee w h hB hx hy he hns hno ho
    · exact op4_c g B c e r sv ov a b cc ee w h hB hx hy he hns hno ho
    · exact op5_c g B c e r sv ov a b cc ee w h hB hx hy he hns hno ho
    · exact op6_c g B c e r sv ov a b cc ee w h hB hx hy he hns hno ho
    · exact op7_c g B c e r sv ov a b cc ee w h hB hx hy he hns hno ho
  · have hf : opOk ⟨d, a, b, cc, ee⟩ = false := by simp only [opOk]; rw [if_neg (by omega), if_neg (by omega), if_neg (by omega), if_neg (by omega), if_neg (by omega)]
    rw [hf] at ho; cases ho
theorem rd4 {W : World} {F : Nat → Prop} {v : Value} {a : AppD} (h : Rd tRule W F v a.rules) {g : Nat} {t : TypeId} {fr : Nat × Nat} (hg : W.heap[g]? = some (.cells #[v, .slice none 0 0, .slice none 0 0, .slice none 0 0] t fr)) :
    Rd tApp W (fun _ => True) (.slice (some ⟨g, 0, none⟩) 4 4) [a, ⟨[]⟩, ⟨[]⟩, ⟨[]⟩] := by
  refine ⟨_, 4, rfl, by simp, by simp, fun _ => ⟨g, 0, rfl, trivial, (Array.getElem?_eq_some_iff.1 hg).1, fun j x hj => ?_⟩⟩
  have hn : Rd tRule W (fun _ => True) (.slice none 0 0) [] := Rd.nil _ _ _
  have h4 : j < 4 := by have := (List.getElem?_eq_some_iff.1 hj).1; simpa using this
  have cell : ∀ k, W.cell? ⟨g, k, none⟩ = #[v, Value.slice none 0 0, .slice none 0 0, .slice none 0 0][k]? := fun k => by simp [World.cell?, hg]
  match j, h4 with
  | 0, _ => obtain rfl : a = x := by simpa using hj
            exact ⟨[v], ⟨v, rfl, h.mono (fun _ _ => trivial)⟩, fun i u hi => by cases i with | zero => simp at hi; subst hi; exact cell 0 | succ i => simp at hi⟩
  | 1, _ => obtain rfl : (⟨[]⟩ : AppD) = x := by simpa using hj
            exact ⟨[_], ⟨_, rfl, hn⟩, fun i u hi => by cases i with | zero => simp at hi; subst hi; exact cell 1 | succ i => simp at hi⟩
  | 2, _ => obtain rfl : (⟨[]⟩ : AppD) = x := by simpa using hj
            exact ⟨[_], ⟨_, rfl, hn⟩, fun i u hi => by cases i with | zero => simp at hi; subst hi; exact cell 2 | succ i => simp at hi⟩
  | 3, _ => obtain rfl : (⟨[]⟩ : AppD) = x := by simpa using hj
            exact ⟨[_], ⟨_, rfl, hn⟩, fun i u hi => by cases i with | zero => simp at hi; subst hi; exact cell 3 | succ i => simp at hi⟩
theorem heap_old {W : World} {o : Obj} {k : Nat} (h : k < W.heap.size) : (W.alloc o).heap[k]? = W.heap[k]? := Below.heap_alloc W o k h
theorem Ow.empty {α : Type} (d : Ty α) {e : TypeId} {w : World} {F : Nat → Prop} {g : Nat} (hg : w.heap[g]? = some (.cells #[] e (0, 0))) (hF : F g) : Ow d e w F (.slice (some ⟨g, 0, none⟩) 0 0) [] :=
  ⟨[], fun _ _ => False, ⟨by simp, .inr ⟨g, 0, #[], rfl, Nat.zero_le _, hg, Nat.le_refl _, by simp [maxLen], by simp, by simp⟩⟩, fun k hk => by simp [Value.ownBlock] at hk; subst hk; exact hF, fun _ _ h => h.elim, fun _ _ _ _ h => h.elim, fun j x hj => by simp at hj⟩
/-- What a call of AppRun comes to. -/
def RunPost (a : AppD) (s : StD) (e : EvD) (w : World) (q : Ending) (w' : World) : Prop :=
  ∃ sv ov, q = .returned (.tuple #[.agg #[.int .i64 (appRun a s e).1.x, .int .i64 (appRun a s e).1.y, .int .i64 (appRun a s e).1.c], sv, ov]) ∧
    Ow tEv 80 w' (fun k => w.heap.size ≤ k) sv (appRun a s e).2.1 ∧ Ow tOut 128 w' (fun k => w.heap.size ≤ k) ov (appRun a s e).2.2 ∧ Below w.heap.size w w'
theorem run_fin {w wr : World} {g B rb : Nat} {c : Int} {e : EvD} {r : RunD} {sv ov : Value} {z : Array Value} (hR : RunAt wr g B c e r sv ov) (hB3 : wr.heap[rb]? = some (.cells z 49 (0, 0))) (hne : ¬ g = rb) (hB : w.heap.size ≤ B) (hrb : w.heap.size ≤ rb) (hb : Below w.heap.size w wr) (u a b d : Value) :
    Ow tEv 80 (((((wr.setCell ⟨g, 2, none⟩ u).drew).setCell ⟨rb, 0, none⟩ a).setCell ⟨rb, 1, none⟩ b).setCell ⟨rb, 2, none⟩ d) (fun k => w.heap.size ≤ k) sv r.sends ∧
    Ow tOut 128 (((((wr.setCell ⟨g, 2, none⟩ u).drew).setCell ⟨rb, 0, none⟩ a).setCell ⟨rb, 1, none⟩ b).setCell ⟨rb, 2, none⟩ d) (fun k => w.heap.size ≤ k) ov r.outs ∧
    Below w.heap.size w (((((wr.setCell ⟨g, 2, none⟩ u).drew).setCell ⟨rb, 0, none⟩ a).setCell ⟨rb, 1, none⟩ b).setCell ⟨rb, 2, none⟩ d) := by
  have h0 : (wr.setCell ⟨g, 2, none⟩ u).drew.heap[rb]? = some (.cells z 49 (0, 0)) := (Below.heap_setCell wr ⟨g, 2, none⟩ u rb (fun e' => hne e'.symm)).trans hB3
  have h1 := blk_set h0 0 a
  have h2 := blk_set h1 1 b
  have hge := hR.ge
  refine ⟨?_, ?_, ((((hb.setCell (by show _ ≤ g; omega) _).drew).setCell hrb _).setCell hrb _).setCell hrb _⟩
  · have o1 : Ow tEv 80 (wr.setCell ⟨g, 2, none⟩ u).drew _ sv r.sends := (hR.sends.setCell hR.blk (by decide) u).below (Below.refl _ _).drew
    exact (((o1.setCell h0 (by decide) a).setCell h1 (by decide) b).setCell h2 (by decide) d).mono (fun k hk => by omega)
  · have o1 : Ow tOut 128 (wr.setCell ⟨g, 2, none⟩ u).drew _ ov r.outs := (hR.outs.setCell hR.blk (by decide) u).below (Below.refl _ _).drew
    exact (((o1.setCell h0 (by decide) a).setCell h1 (by decide) b).setCell h2 (by decide) d).mono (fun k hk => by omega)
theorem post_empty {a : AppD} {s s' : StD} {e : EvD} {w W : World} {H1 H2 : Nat} {sv : Value} (hf : appRun a s e = (s', [], [])) (hB : Below w.heap.size w W) (hs : sv = .agg #[.int .i64 s'.x, .int .i64 s'.y, .int .i64 s'.c]) (h1 : H1 = W.heap.size) (h2 : H2 = W.heap.size + 1) :
    RunPost a s e w (.returned (.tuple #[sv, .slice (some ⟨H1, 0, none⟩) 0 0, .slice (some ⟨H2, 0, none⟩) 0 0])) ((W.alloc (.cells #[] 80)).alloc (.cells #[] 128)) := by
  subst h1 h2 hs
  have hsz := hB.size
  refine ⟨_, _, by rw [hf], ?_, ?_, balloc (balloc hB _) _⟩
  · rw [hf]
    refine (Ow.empty tEv (F := fun k => w.heap.size ≤ k) (w := W.alloc (.cells #[] 80)) (heap_at rfl) hsz).alloc _
  · rw [hf]
    exact Ow.empty tOut (heap_at (by simp)) (by omega)
set_option maxHeartbeats 8000000 in
theorem specAppRun_c (v : Value) (a : AppD) (s : StD) (e : EvD) (F : Nat → Prop) (w : World) (h : Rd tRule w F v a.rules) :
    Calls Tryz.prog 52 #[.agg #[v], .agg #[.int .i64 s.x, .int .i64 s.y, .int .i64 s.c], .agg #[.int .i64 e.time, .int .i64 e.to, .int .i64 e.from_, .int .i64 e.count, .int .i64 e.n, .int .i64 e.kind, .int .i64 e.arg]] w (RunPost a s e w) := by
  obtain ⟨A, cp, rfl, -, hlen, -⟩ := id h
  have h := h.bound
  by_cases q1 : appOk a = true
  · have q1' := q1
    by_cases q2 : stOk ⟨s.x, s.y, s.c⟩ = true
    · have q2' := q2
      by_cases q3 : evOk ⟨e.time, e.to, e.from_, e.count, e.n, e.kind, e.arg⟩ = true
      · have q3' := q3
        have hc := hid (show 0 ≤ s.c ∧ s.c ≤ 12 by simp [stOk, inn] at q2; exact q2.2)
        by_cases q4 : s.c = 12
        · have hf : appRun a s e = (s, [], []) := by
            have h2 : stOk s = true := q2
            have h3 : evOk e = true := q3
            simp [appRun, q1, h2, h3, q4]
          have HF := hid hf; clear hf q1 q2 q3
          have hge : decide (12 ≤ s.c) = true := by simp; omega
          clear q4
          go_enter Tryz.func52, Tryz.ntmps52
          go_wp2_with (first | (go_at_call 35; refine (AppOk_c _ [a, ⟨[]⟩, ⟨[]⟩, ⟨[]⟩] _ _ (rd4 (h.below (by repeat (first | exact Below.refl _ _ | refine balloc ?_ _))) (heap_at (by simp)))).mono ?_; rintro q w1 ⟨he, hb1⟩; rw [appsOk_one, q1'] at he; subst he; obtain ⟨kc1, kf1⟩ := bcell hb1; have z1_0 : w.heap.size < w1.heap.size := (by have := hb1.size; simp only [World.size_alloc] at this; omega); have z1_1 : w.heap.size + 1 < w1.heap.size := (by have := hb1.size; simp only [World.size_alloc] at this; omega); have z1_2 : w.heap.size + 1 + 1 < w1.heap.size := (by have := hb1.size; simp only [World.size_alloc] at this; omega); have z1_3 : w.heap.size + 1 + 1 + 1 < w1.heap.size := (by have := hb1.size; simp only [World.size_alloc] at this; omega)) | (go_at_call 95; refine (l1StateOk_c _ _ _ _).mono ?_; rintro q w2 ⟨he, hb2⟩; rw [q2'] at he; subst he; obtain ⟨kc2, kf2⟩ := bcell hb2; have z2_0 : w.heap.size < w2.heap.size := (by have := hb2.size; omega); have z2_1 : w.heap.size + 1 < w2.heap.size := (by have := hb2.size; omega); have z2_2 : w.heap.size + 1 + 1 < w2.heap.size := (by have := hb2.size; omega); have z2_3 : w.heap.size + 1 + 1 + 1 < w2.heap.size := (by have := hb2.size; omega)) | (go_at_call 99; refine (l1EventOk_c _ _ _ _ _ _ _ _).mono ?_; rintro q w3 ⟨he, hb3⟩; rw [q3'] at he; subst he; obtain ⟨kc3, kf3⟩ := bcell hb3; have z3_0 : w.heap.size < w3.heap.size := (by have := hb3.size; omega); have z3_1 : w.heap.size + 1 < w3.heap.size := (by have := hb3.size; omega); have z3_2 : w.heap.size + 1 + 1 < w3.heap.size := (by have := hb3.size; omega); have z3_3 : w.heap.size + 1 + 1 + 1 < w3.heap.size := (by have := hb3.size; omega)))
          refine bodyPost_ret (v := .tuple #[.agg #[.int .i64 s.x, .int .i64 s.y, .int .i64 s.c], .slice (some ⟨w3.heap.size, 0, none⟩) 0 0, .slice (some ⟨w3.heap.size + 1, 0, none⟩) 0 0]) (by simp [results, Tryz.results52, go_sem, kc1, kf1, z1_0, z1_1, z1_2, z1_3, kc2, kf2, z2_0, z2_1, z2_2, z2_3, kc3, kf3, z3_0, z3_1, z3_2, z3_3]) rfl ?_
          exact post_empty HF.out ((((bthen' (bthen' (bthen' (by repeat (first | exact Below.refl _ _ | refine balloc ?_ _)) hb1) hb2) hb3).setCell (by simp; omega) _).setCell (by simp; omega) _).setCell (by simp; omega) _) rfl (by simp) (by simp)
        · have hlt : s.c < 12 := by have := hc.out; omega
          have hge : decide (12 ≤ s.c) = false := by simp; omega
          have hcc := hc.out
          have hf : appRun a s e = (let r := doRules e s.c a.rules ⟨s.x, s.y, [], []⟩; (⟨r.x, r.y, s.c + 1⟩, r.sends, r.outs)) := by
            have h2 : stOk s = true := q2
            have h3 : evOk e = true := q3
            simp [appRun, q1, h2, h3, q4]
          have HF := hid hf; clear hf
          have hrun0 := stOk_run (s := s) q2
          have hrl := appOk_len q1
          have HA := hid q1
          have HE := hid (show evOk e = true from q3)
          clear q1 q2 q3 q4 hc
          go_enter Tryz.func52, Tryz.ntmps52
          go_wp2_with (first | (go_at_call 35; refine (AppOk_c _ [a, ⟨[]⟩, ⟨[]⟩, ⟨[]⟩] _ _ (rd4 (h.below (by repeat (first | exact Below.refl _ _ | refine balloc ?_ _))) (heap_at (by simp)))).mono ?_; rintro q w1 ⟨he, hb1⟩; rw [appsOk_one, q1'] at he; subst he; obtain ⟨kc1, kf1⟩ := bcell hb1; have z1_0 : w.heap.size < w1.heap.size := (by have := hb1.size; simp only [World.size_alloc] at this; omega); have z1_1 : w.heap.size + 1 < w1.heap.size := (by have := hb1.size; simp only [World.size_alloc] at this; omega); have z1_2 : w.heap.size + 1 + 1 < w1.heap.size := (by have := hb1.size; simp only [World.size_alloc] at this; omega); have z1_3 : w.heap.size + 1 + 1 + 1 < w1.heap.size := (by have := hb1.size; simp only [World.size_alloc] at this; omega)) | (go_at_call 95; refine (l1StateOk_c _ _ _ _).mono ?_; rintro q w2 ⟨he, hb2⟩; rw [q2'] at he; subst he; obtain ⟨kc2, kf2⟩ := bcell hb2; have z2_0 : w.heap.size < w2.heap.size := (by have := hb2.size; omega); have z2_1 : w.heap.size + 1 < w2.heap.size := (by have := hb2.size; omega); have z2_2 : w.heap.size + 1 + 1 < w2.heap.size := (by have := hb2.size; omega); have z2_3 : w.heap.size + 1 + 1 + 1 < w2.heap.size := (by have := hb2.size; omega)) | (go_at_call 99; refine (l1EventOk_c _ _ _ _ _ _ _ _).mono ?_; rintro q w3 ⟨he, hb3⟩; rw [q3'] at he; subst he; obtain ⟨kc3, kf3⟩ := bcell hb3; have z3_0 : w.heap.size < w3.heap.size := (by have := hb3.size; omega); have z3_1 : w.heap.size + 1 < w3.heap.size := (by have := hb3.size; omega); have z3_2 : w.heap.size + 1 + 1 < w3.heap.size := (by have := hb3.size; omega); have z3_3 : w.heap.size + 1 + 1 + 1 < w3.heap.size := (by have := hb3.size; omega)))
          have B0 : w3.heap[w.heap.size]? = some (.cells #[.slice A a.rules.length cp] 57 (0, 0)) := (hb3.block _ z2_0).trans ((hb2.block _ z1_0).trans ((hb1.block _ (by simp only [World.size_alloc]; omega)).trans ((heap_old (by simp only [World.size_alloc]; omega)).trans ((heap_old (by simp only [World.size_alloc]; omega)).trans ((heap_old (by simp only [World.size_alloc]; omega)).trans ((heap_old (by simp only [World.size_alloc]; omega)).trans (heap_at rfl)))))))
          have B2 : w3.heap[w.heap.size + 1 + 1]? = some (.cells #[.int .i64 e.time, .int .i64 e.to, .int .i64 e.from_, .int .i64 e.count, .int .i64 e.n, .int .i64 e.kind, .int .i64 e.arg] 80 (0, 0)) := (hb3.block _ z2_2).trans ((hb2.block _ z1_2).trans ((hb1.block _ (by simp only [World.size_alloc]; omega)).trans ((heap_old (by simp only [World.size_alloc]; omega)).trans ((heap_old (by simp only [World.size_alloc]; omega)).trans (heap_at (by simp only [World.size_alloc]))))))
          have B3 : w3.heap[w.heap.size + 1 + 1 + 1]? = some (.cells #[.int .i64 0, .int .i64 0, .int .i64 0] 49 (0, 0)) := (hb3.block _ z2_3).trans ((hb2.block _ z1_3).trans ((hb1.block _ (by simp only [World.size_alloc]; omega)).trans ((heap_old (by simp only [World.size_alloc]; omega)).trans (heap_at (by simp only [World.size_alloc])))))
          have c0 := blk_cell B0 0
          have c5 := blk_cell B2 5
          simp at c0 c5
          have hb03 : Below w.heap.size w w3 := (bthen' (bthen' (bthen' (by repeat (first | exact Below.refl _ _ | refine balloc ?_ _)) hb1) hb2) hb3)
          have HB3 := hid B3; clear B0 B2 B3
          go_loopw [10] (fun i wr => ∃ (k : Nat) (r : RunD) (sv ov : Value), i = .int .i64 k ∧ k ≤ a.rules.length ∧ RunAt wr (w3.heap.size + 1 + 1) w3.heap.size s.c e r sv ov ∧ Hid (doRules e s.c (a.rules.take k) ⟨s.x, s.y, [], []⟩ = r) ∧ RunOk r ∧ r.sends.length ≤ 20 * k ∧ r.outs.length ≤ 20 * k ∧ Below w3.heap.size w3 wr) (fun i _ => a.rules.length - (intOf i).toNat)
          case atStart =>
            refine ⟨0, ⟨s.x, s.y, [], []⟩, _, _, rfl, Nat.zero_le _, ⟨heap_at (by simp), by omega, ?_, ?_⟩, rfl, hrun0, by simp, by simp, by repeat (first | exact Below.refl _ _ | refine balloc ?_ _)⟩
            · exact ((Ow.empty tEv (F := fun k => w3.heap.size ≤ k) (w := w3.alloc (.cells #[] 80)) (heap_at rfl) (Nat.le_refl _)).alloc _).alloc _
            · exact (Ow.empty tOut (F := fun k => w3.heap.size ≤ k) (w := (w3.alloc (.cells #[] 80)).alloc (.cells #[] 128)) (heap_at (by simp)) (by omega)).alloc _
          case round =>
            obtain ⟨k, r, sv, ov, rfl, hk, hR, hD, hO, hns, hno, hb⟩ := hrel
            have d0 : wr.cell? ⟨w.heap.size, 0, none⟩ = some (.slice A a.rules.length cp) := (hb.cell (p := ⟨w.heap.size, 0, none⟩) z3_0).trans c0
            have d5 : wr.cell? ⟨w.heap.size + 1 + 1, 5, none⟩ = some (.int .i64 e.kind) := (hb.cell (p := ⟨w.heap.size + 1 + 1, 5, none⟩) z3_2).trans c5
            by_cases hkl : k < a.rules.length
            · have hrd : Rd tRule wr (fun k => F k ∧ k < w.heap.size) (.slice A a.rules.length cp) a.rules := (h.below hb03).keep (fun b hF _ => hb.block b (by have := hF.2; omega))
              obtain ⟨b1, o1, A2, c2, hA1, hbb1, k0, k1, hop⟩ := rule_at hrd k hkl
              subst hA1
              have hops := appOk_rule HA.out hkl
              have hol := opsOk_len hops
              have HO := hid hops; clear hops
              by_cases hke : a.rules[k].kind = e.kind
              · have hkb : (a.rules[k].kind != e.kind) = false := by simp [hke]
                have hds := hid (doRules_snoc e s.c a.rules ⟨s.x, s.y, [], []⟩ hkl)
                have HK := hid hke; clear hke
                go_wp2
                go_quiet (fail)
                go_wp2
                obtain ⟨wo, hwo⟩ : ∃ wo, wo = wr.drewN nq := ⟨_, rfl⟩
                go_loopw [12] (fun q w2 => ∃ (j : Nat) (r' : RunD) (sv ov : Value), q = .int .i64 j ∧ j ≤ a.rules[k].ops.length + 8 ∧ RunAt w2 (w3.heap.size + 1 + 1) w3.heap.size s.c e r' sv ov ∧ Hid (doOps e s.c a.rules[k].ops.length a.rules[k].ops r = doOps e s.c a.rules[k].ops.length (a.rules[k].ops.drop j) r') ∧ RunOk r' ∧ r'.sends.length ≤ 20 * k + j ∧ r'.outs.length ≤ 20 * k + j ∧ Below w3.heap.size wo w2) (fun q _ => a.rules[k].ops.length + 20 - (intOf q).toNat)
                case atStart => subst hwo; exact ⟨0, r, sv, ov, rfl, by omega, hR.below (bdrewN (Below.refl _ _) _), rfl, hO, by omega, by omega, Below.refl _ _⟩
                case round =>
                  obtain ⟨j, r', sv', ov', rfl, hj, hR', hD', hO', hns', hno', hb'⟩ := hrel
                  subst hwo
                  by_cases hjl : j < a.rules[k].ops.length
                  · have hop2 : Rd tOp wr (fun k => F k ∧ k < w.heap.size) (.slice A2 a.rules[k].ops.length c2) a.rules[k].ops := hop.keep (fun b hF hlt2 => hb'.block b (by have := hF.2; omega))
                    obtain ⟨b4, o4, rfl, hb40, a0, a1, a2, a3, a4⟩ := op_at hop2 j hjl
                    have hBle : w3.heap.size ≤ wr.heap.size := by have := blk_lt hR'.blk; omega
                    have hoo := opsOk_op HO.out hjl
                    obtain ⟨hs1, hs2⟩ := doOp_skip (e := e) (c := s.c) (r := r') hoo
                    have HSt := hid (doOps_step e s.c a.rules[k].ops.length r' hjl (Nat.le_refl _))
                    obtain ⟨hl1, hl2⟩ := doOp_len e s.c a.rules[k].ops[j] r'
                    have hok1 := doOp_ok (e := e) (c := s.c) (o := a.rules[k].ops[j]) hO'
                    generalize hsk : (doOp e s.c a.rules[k].ops[j] r').2 = sk at *
                    have HSK := hid hsk; clear hsk
                    go_wp2_with (go_at_call 100; refine (op_c _ _ s.c e r' sv' ov' a.rules[k].ops[j] _ hR' hBle hO' HE.out (by omega) (by omega) hoo).mono ?_; rintro q w4 ⟨hq, ⟨sv2, ov2, hR2⟩, hb4⟩; rw [HSK.out] at hq; subst hq)
                    go_roundw
                    case rel => exact ⟨j + sk.toNat + 1, _, sv2, ov2, by rw [show ((j + sk.toNat + 1 : Nat) : Int) = (j : Int) + sk + 1 by omega], by omega, hR2, hid (hD'.out.trans HSt.out), hok1, by omega, by omega, hb'.trans hb4⟩
                    case measure => simp [intOf]; omega
                  · have hend := doOps_end e s.c a.rules[k].ops.length r' (Nat.le_of_not_lt hjl)
                    have HD2 := hid (show doRules e s.c (a.rules.take (k + 1)) ⟨s.x, s.y, [], []⟩ = r' by rw [hds.out, if_pos HK.out, hD.out, hD'.out, hend])
                    clear hend
                    go_wp2
                    go_roundw
                    case rel => exact ⟨k + 1, r', sv', ov', by go_num, by omega, hR', HD2, hO', by omega, by omega, (bdrewN hb _).trans hb'⟩
                    case measure => simp [intOf]; omega
              · have hkb : (a.rules[k].kind != e.kind) = true := by simp [hke]
                have HD2 := hid (show doRules e s.c (a.rules.take (k + 1)) ⟨s.x, s.y, [], []⟩ = r by rw [doRules_snoc e s.c a.rules ⟨s.x, s.y, [], []⟩ hkl, if_neg hke]; exact hD.out)
                clear hke
                go_wp2
                go_quiet (fail)
                go_wp2
                go_roundw
                case rel => exact ⟨k + 1, r, sv, ov, by go_num, by omega, hR.below (bdrewN (Below.refl _ _) _), HD2, hO, by omega, by omega, bdrewN hb _⟩
                case measure => simp [intOf]; omega
            · have hkk : k = a.rules.length := by omega
              have hD2 := hD.out
              rw [hkk, List.take_length] at hD2
              have HD2 := hid hD2; clear hD2 hD hkk
              obtain ⟨A5, c5', rfl, hl5⟩ := hR.sends.shape
              obtain ⟨A6, c6', rfl, hl6⟩ := hR.outs.shape
              have B3 : wr.heap[w.heap.size + 1 + 1 + 1]? = some (.cells #[.int .i64 0, .int .i64 0, .int .i64 0] 49 (0, 0)) := (hb.block _ z3_3).trans HB3.out
              have m0 := blk_cell B3 0
              have m1 := blk_cell B3 1
              have m2 := blk_cell B3 2
              have n0 := blk_frozen B3 0
              have n1 := blk_frozen B3 1
              have n2 := blk_frozen B3 2
              have x0 := blk_cell hR.blk 0
              have x1 := blk_cell hR.blk 1
              have x2 := blk_cell hR.blk 2
              have x10 := blk_cell hR.blk 10
              have x11 := blk_cell hR.blk 11
              have y2 := blk_frozen hR.blk 2
              simp [runCells] at x0 x1 x2 x10 x11 m0 m1 m2
              have hgsz : w3.heap.size + 1 + 1 < wr.heap.size := blk_lt hR.blk
              have hgq : ¬ w3.heap.size = w.heap.size + 1 := by omega
              have hgr : ¬ w.heap.size + 1 + 1 + 1 = w3.heap.size + 1 + 1 := by omega
              have hgr' : ¬ w3.heap.size + 1 + 1 = w.heap.size + 1 + 1 + 1 := by omega
              go_wp2
              refine region_plan (fun w' => Ch (fun k => k = w.heap.size + 1 + 1 + 1) (wr.setCell ⟨w3.heap.size + 1 + 1, 2, none⟩ (.int .i64 (s.c + 1))) w') [(0, true), (1, true), (2, true), (3, true), (4, true), (5, true), (6, true), (7, true), (8, true), (9, true), (10, true), (11, true), (12, false), (13, true), (14, true)] (by kernel_rfl) (by kernel_rfl) (fun _ _ d _ _ h => by cases d <;> exact h) ?_
              have HS := (Ch.refl (fun k => k = w.heap.size + 1 + 1 + 1) (wr.setCell ⟨w3.heap.size + 1 + 1, 2, none⟩ (.int .i64 (s.c + 1)))).drew
              iterate 12 (first | (refine seq_take (v := ?_) (by rfl) HS (by rfl) ?_ ?_; rotate_left; (focus (intro wS hS; obtain ⟨kc, kf⟩ := hS.cells; go_simp; (try (with_reducible rfl)); done)); (intro K hK; go_simp; refine hK _ ?_; clear hK K)) | (refine seq_skip (by rfl) HS (by rfl) ?_; (intro K hK; go_simp; refine hK _ ?_; clear hK K)))
              refine seq_do (by rfl) (by rfl) (fun K hK => ?_)
              go_simp
              have HS1 := ((HS.setCell (p := ⟨w.heap.size + 1 + 1 + 1, 0, none⟩) (Or.inl rfl) (.int .i64 r.x)).setCell (p := ⟨w.heap.size + 1 + 1 + 1, 1, none⟩) (Or.inl rfl) (.int .i64 r.y)).setCell (p := ⟨w.heap.size + 1 + 1 + 1, 2, none⟩) (Or.inl rfl) (.int .i64 (s.c + 1))
              refine hK _ _ (Or.inr HS1) ?_; clear hK K HS; have HS := HS1; clear HS1
              iterate 2 (first | (refine seq_take (v := ?_) (by rfl) HS (by rfl) ?_ ?_; rotate_left; (focus (intro wS hS; obtain ⟨kc, kf⟩ := hS.cells; go_simp; (try (with_reducible rfl)); done)); (intro K hK; go_simp; refine hK _ ?_; clear hK K)) | (refine seq_skip (by rfl) HS (by rfl) ?_; (intro K hK; go_simp; refine hK _ ?_; clear hK K)))
              simp only [wpSeq]
              go_wp2
              refine bodyPost_ret (v := .tuple #[.agg #[.int .i64 r.x, .int .i64 r.y, .int .i64 (s.c + 1)], .slice A5 r.sends.length c5', .slice A6 r.outs.length c6']) (by simp [results, Tryz.results52, go_sem, m0, m1, m2]) rfl ?_
              have hsw : w.heap.size ≤ w3.heap.size := hb03.size
              obtain ⟨j1, j2, j3⟩ := run_fin (B := w3.heap.size) hR B3 hgr' hsw (by omega) (bthen' hb03 hb) (.int .i64 (s.c + 1)) (.int .i64 r.x) (.int .i64 r.y) (.int .i64 (s.c + 1))
              refine ⟨_, _, by rw [HF.out, HD2.out], ?_, ?_, j3⟩
              · rw [HF.out, HD2.out]; exact j1
              · rw [HF.out, HD2.out]; exact j2
      · have q3' : evOk ⟨e.time, e.to, e.from_, e.count, e.n, e.kind, e.arg⟩ = false := by simpa using q3
        have hf : appRun a s e = (st0, [], []) := by
          have h3 : evOk e = false := q3'
          simp [appRun, h3]
        have HF := hid hf; clear hf q1 q2 q3
        go_enter Tryz.func52, Tryz.ntmps52
        go_wp2_with (first | (go_at_call 35; refine (AppOk_c _ [a, ⟨[]⟩, ⟨[]⟩, ⟨[]⟩] _ _ (rd4 (h.below (by repeat (first | exact Below.refl _ _ | refine balloc ?_ _))) (heap_at (by simp)))).mono ?_; rintro q w1 ⟨he, hb1⟩; rw [appsOk_one, q1'] at he; subst he; obtain ⟨kc1, kf1⟩ := bcell hb1; have z1_0 : w.heap.size < w1.heap.size := (by have := hb1.size; simp only [World.size_alloc] at this; omega); have z1_1 : w.heap.size + 1 < w1.heap.size := (by have := hb1.size; simp only [World.size_alloc] at this; omega); have z1_2 : w.heap.size + 1 + 1 < w1.heap.size := (by have := hb1.size; simp only [World.size_alloc] at this; omega); have z1_3 : w.heap.size + 1 + 1 + 1 < w1.heap.size := (by have := hb1.size; simp only [World.size_alloc] at this; omega)) | (go_at_call 95; refine (l1StateOk_c _ _ _ _).mono ?_; rintro q w2 ⟨he, hb2⟩; rw [q2'] at he; subst he; obtain ⟨kc2, kf2⟩ := bcell hb2; have z2_0 : w.heap.size < w2.heap.size := (by have := hb2.size; omega); have z2_1 : w.heap.size + 1 < w2.heap.size := (by have := hb2.size; omega); have z2_2 : w.heap.size + 1 + 1 < w2.heap.size := (by have := hb2.size; omega); have z2_3 : w.heap.size + 1 + 1 + 1 < w2.heap.size := (by have := hb2.size; omega)) | (go_at_call 99; refine (l1EventOk_c _ _ _ _ _ _ _ _).mono ?_; rintro q w3 ⟨he, hb3⟩; rw [q3'] at he; subst he; obtain ⟨kc3, kf3⟩ := bcell hb3; have z3_0 : w.heap.size < w3.heap.size := (by have := hb3.size; omega); have z3_1 : w.heap.size + 1 < w3.heap.size := (by have := hb3.size; omega); have z3_2 : w.heap.size + 1 + 1 < w3.heap.size := (by have := hb3.size; omega); have z3_3 : w.heap.size + 1 + 1 + 1 < w3.heap.size := (by have := hb3.size; omega)))
        refine bodyPost_ret (v := .tuple #[.agg #[.int .i64 0, .int .i64 0, .int .i64 0], .slice (some ⟨w3.heap.size, 0, none⟩) 0 0, .slice (some ⟨w3.heap.size + 1, 0, none⟩) 0 0]) (by simp [results, Tryz.results52, go_sem, kc1, kf1, z1_0, z1_1, z1_2, z1_3, kc2, kf2, z2_0, z2_1, z2_2, z2_3, kc3, kf3, z3_0, z3_1, z3_2, z3_3]) rfl ?_
        exact post_empty HF.out ((((bthen' (bthen' (bthen' (by repeat (first | exact Below.refl _ _ | refine balloc ?_ _)) hb1) hb2) hb3).setCell (by simp; omega) _).setCell (by simp; omega) _).setCell (by simp; omega) _) rfl (by simp) (by simp)
    · have q2' : stOk ⟨s.x, s.y, s.c⟩ = false := by simpa using q2
      have hf : appRun a s e = (st0, [], []) := by
        have h2 : stOk s = false := q2'
        simp [appRun, h2]
      have HF := hid hf; clear hf q1 q2
      go_enter Tryz.func52, Tryz.ntmps52
      go_wp2_with (first | (go_at_call 35; refine (AppOk_c _ [a, ⟨[]⟩, ⟨[]⟩, ⟨[]⟩] _ _ (rd4 (h.below (by repeat (first | exact Below.refl _ _ | refine balloc ?_ _))) (heap_at (by simp)))).mono ?_; rintro q w1 ⟨he, hb1⟩; rw [appsOk_one, q1'] at he; subst he; obtain ⟨kc1, kf1⟩ := bcell hb1; have z1_0 : w.heap.size < w1.heap.size := (by have := hb1.size; simp only [World.size_alloc] at this; omega); have z1_1 : w.heap.size + 1 < w1.heap.size := (by have := hb1.size; simp only [World.size_alloc] at this; omega); have z1_2 : w.heap.size + 1 + 1 < w1.heap.size := (by have := hb1.size; simp only [World.size_alloc] at this; omega); have z1_3 : w.heap.size + 1 + 1 + 1 < w1.heap.size := (by have := hb1.size; simp only [World.size_alloc] at this; omega)) | (go_at_call 95; refine (l1StateOk_c _ _ _ _).mono ?_; rintro q w2 ⟨he, hb2⟩; rw [q2'] at he; subst he; obtain ⟨kc2, kf2⟩ := bcell hb2; have z2_0 : w.heap.size < w2.heap.size := (by have := hb2.size; omega); have z2_1 : w.heap.size + 1 < w2.heap.size := (by have := hb2.size; omega); have z2_2 : w.heap.size + 1 + 1 < w2.heap.size := (by have := hb2.size; omega); have z2_3 : w.heap.size + 1 + 1 + 1 < w2.heap.size := (by have := hb2.size; omega)))
      refine bodyPost_ret (v := .tuple #[.agg #[.int .i64 0, .int .i64 0, .int .i64 0], .slice (some ⟨w2.heap.size, 0, none⟩) 0 0, .slice (some ⟨w2.heap.size + 1, 0, none⟩) 0 0]) (by simp [results, Tryz.results52, go_sem, kc1, kf1, z1_0, z1_1, z1_2, z1_3, kc2, kf2, z2_0, z2_1, z2_2, z2_3]) rfl ?_
      exact post_empty HF.out ((((bthen' (bthen' (by repeat (first | exact Below.refl _ _ | refine balloc ?_ _)) hb1) hb2).setCell (by simp; omega) _).setCell (by simp; omega) _).setCell (by simp; omega) _) rfl (by simp) (by simp)
  · have q1' : appOk a = false := by simpa using q1
    have hf : appRun a s e = (st0, [], []) := by simp [appRun, q1']
    have HF := hid hf; clear hf q1
    go_enter Tryz.func52, Tryz.ntmps52
    go_wp2_with (first | (go_at_call 35; refine (AppOk_c _ [a, ⟨[]⟩, ⟨[]⟩, ⟨[]⟩] _ _ (rd4 (h.below (by repeat (first | exact Below.refl _ _ | refine balloc ?_ _))) (heap_at (by simp)))).mono ?_; rintro q w1 ⟨he, hb1⟩; rw [appsOk_one, q1'] at he; subst he; obtain ⟨kc1, kf1⟩ := bcell hb1; have z1_0 : w.heap.size < w1.heap.size := (by have := hb1.size; simp only [World.size_alloc] at this; omega); have z1_1 : w.heap.size + 1 < w1.heap.size := (by have := hb1.size; simp only [World.size_alloc] at this; omega); have z1_2 : w.heap.size + 1 + 1 < w1.heap.size := (by have := hb1.size; simp only [World.size_alloc] at this; omega); have z1_3 : w.heap.size + 1 + 1 + 1 < w1.heap.size := (by have := hb1.size; simp only [World.size_alloc] at this; omega)))
    refine bodyPost_ret (v := .tuple #[.agg #[.int .i64 0, .int .i64 0, .int .i64 0], .slice (some ⟨w1.heap.size, 0, none⟩) 0 0, .slice (some ⟨w1.heap.size + 1, 0, none⟩) 0 0]) (by simp [results, Tryz.results52, go_sem, kc1, kf1, z1_0, z1_1, z1_2, z1_3]) rfl ?_
    exact post_empty HF.out ((((bthen' (by repeat (first | exact Below.refl _ _ | refine balloc ?_ _)) hb1).setCell (by simp; omega) _).setCell (by simp; omega) _).setCell (by simp; omega) _) rfl (by simp) (by simp)
end Go.Proofs.YtbcemldiahghcaaGreat
