/- Texts joined: SimW, Ey1, Ex2. -/
import Derived.Test.YtbcemldiahghcaaGreatJ10
import Derived.Test.YtbcemldiahghcaaGreatJ11
import Derived.Deep.DeepCutAuto
import Derived.Test.YtbcemldiahghcaaGreatJ04
import Derived.Test.YtbcemldiahghcaaGreatJ03
import Derived.Test.YtbcemldiahghcaaGreatJ09
import Derived.OwnWalk
namespace Go.Proofs.YtbcemldiahghcaaGreat
set_option linter.unusedVariables false
set_option linter.unusedSimpArgs false
set_option linter.unusedSectionVars false
open Go.RowKit
theorem info_st : (Tryz.prog.info? 49).map (fun i => (i.zero, i.size, i.bytes)) = some (some (.agg #[.int .i64 0, .int .i64 0, .int .i64 0]), 3, 24) := by kernel_rfl
/-- What the operations of a region come to, by their numbers. -/
abbrev Held := Value → World → (Nat → Prop) → Prop
def NN (l : List (Nat × Held)) (j : Nat) (v : Value) (w : World) (F : Nat → Prop) : Prop := match l with | [] => True | (i, p) :: r => if j = i then p v w F else NN r j v w F
def Moves (p : Held) : Prop := ∀ v w w' F, p v w F → (∀ k, F k → w'.heap[k]? = w.heap[k]?) → p v w' F
def MovesL : List (Nat × Held) → Prop | [] => True | p :: r => Moves p.2 ∧ MovesL r
theorem NN_move : ∀ (l : List (Nat × Held)), MovesL l → ∀ j v w w' F, NN l j v w F → (∀ k, F k → w'.heap[k]? = w.heap[k]?) → NN l j v w' F
  | [], _, _, _, _, _, _, _, _ => trivial
  | (i, p) :: r, hl, j, v, w, w', F, h, hm => by
    unfold NN at h ⊢
    split
    · rename_i hj; rw [if_pos hj] at h; exact hl.1 v w w' F h hm
    · rename_i hj; rw [if_neg hj] at h; exact NN_move r hl.2 j v w w' F h hm
def rowH {α : Type} (d : Ty α) (e : TypeId) (xs : List α) : Held := fun v w F => Ow d e w F v xs
theorem rowH_moves {α : Type} (d : Ty α) (e : TypeId) (xs : List α) : Moves (rowH d e xs) := fun v w w' F h hm => Ow.move hm h
def valH (p : Value → Prop) : Held := fun v _ _ => p v
theorem valH_moves (p : Value → Prop) : Moves (valH p) := fun v w w' F h _ => h
/-- A machine that is read. -/
structure SimRd (w : World) (F : Nat → Prop) (vs vq vo : Value) (s : SimD) : Prop where
  st : Rd tSt w F vs s.states
  qu : Rd tEv w F vq s.queue
  ou : Rd tOut w F vo s.outs
/-- A machine of the call's own. -/
structure SimOw (w : World) (F : Nat → Prop) (vs vq vo : Value) (s : SimD) : Prop where
  st : Ow tSt 49 w F vs s.states
  qu : Ow tEv 80 w F vq s.queue
  ou : Ow tOut 128 w F vo s.outs
section
variable {w w' : World} {F F' : Nat → Prop} {vs vq vo : Value} {s : SimD}
theorem SimRd.mono (h : SimRd w F vs vq vo s) (hF : ∀ k, F k → F' k) : SimRd w F' vs vq vo s := ⟨h.st.mono hF, h.qu.mono hF, h.ou.mono hF⟩
theorem SimRd.below (h : SimRd w F vs vq vo s) (hb : Below w.heap.size w w') : SimRd w' F vs vq vo s := ⟨h.st.below hb, h.qu.below hb, h.ou.below hb⟩
theorem SimRd.ch {S : Nat → Prop} (h : SimRd w F vs vq vo s) (hc : Ch S w w') (hS : ∀ k, F k → ¬ S k) : SimRd w' F vs vq vo s := ⟨h.st.ch hc hS, h.qu.ch hc hS, h.ou.ch hc hS⟩
theorem SimRd.move (h : SimRd w F vs vq vo s) (hm : ∀ k, F k → w'.heap[k]? = w.heap[k]?) : SimRd w' F vs vq vo s := ⟨h.st.move hm, h.qu.move hm, h.ou.move hm⟩
theorem SimOw.mono (h : SimOw w F vs vq vo s) (hF : ∀ k, F k → F' k) : SimOw w F' vs vq vo s := ⟨h.st.mono hF, h.qu.mono hF, h.ou.mono hF⟩
theorem SimOw.below (h : SimOw w F vs vq vo s) (hb : Below w.heap.size w w') : SimOw w' F vs vq vo s := ⟨h.st.below hb, h.qu.below hb, h.ou.below hb⟩
theorem SimOw.ch {S : Nat → Prop} (h : SimOw w F vs vq vo s) (hc : Ch S w w') (hS : ∀ k, F k → ¬ S k) : SimOw w' F vs vq vo s := ⟨h.st.ch hc hS, h.qu.ch hc hS, h.ou.ch hc hS⟩
theorem SimOw.move (h : SimOw w F vs vq vo s) (hm : ∀ k, F k → w'.heap[k]? = w.heap[k]?) : SimOw w' F vs vq vo s := ⟨h.st.move hm, h.qu.move hm, h.ou.move hm⟩
theorem SimOw.rd (h : SimOw w F vs vq vo s) : SimRd w F vs vq vo s := ⟨h.st.rd, h.qu.rd, h.ou.rd⟩
end
/-- Behind an append, as a step of a region. -/
theorem grown_step {α : Type} {cells : α → List Value} {sz : Nat} {hl : ∀ x, (cells x).length = sz} {ho : ∀ x, ∀ u ∈ cells x, u.oneCell' = true} {e : TypeId} {W w1 : World} {F G : Nat → Prop} {v v1 : Value} {xs ys : List α}
    (HO : Ow (flat cells sz hl ho) e W F v xs) (hO1 : Ow (flat cells sz hl ho) e w1 G v1 ys) (hG1 : W.grownBy w1 v.ownBlock) (hat1 : v1.ownBlock = v.ownBlock ∨ ∃ b, v1.ownBlock = some b ∧ W.heap.size ≤ b) :
    Ch F W w1 ∧ Ow (flat cells sz hl ho) e w1 (fun k => v1.ownBlock = some k) v1 ys ∧ ∀ k, v1.ownBlock = some k → (F k ∨ W.heap.size ≤ k) ∧ k < w1.heap.size := by
  refine ⟨(Ch.refl _ _).grown hG1 fun k hk => .inl (HO.inF hk), hO1.tight, fun k hk => ⟨?_, hO1.block_lt hk⟩⟩
  rcases hat1 with h | ⟨b, hb, hlt⟩
  · exact .inl (HO.inF (h ▸ hk))
  · rw [hb] at hk; cases hk; exact .inr hlt
/-- xs[k:] -/
theorem Rd.dropO {α : Type} {d : Ty α} {w : World} {F : Nat → Prop} {xs : List α} {A : Option Addr} {n c : Nat} (h : Rd d w F (.slice A n c) xs) (k : Nat) (hk : k ≤ xs.length) : Rd d w F (.slice (if c = k then A else A.map fun x => x.add (k * d.sz)) (n - k) (c - k)) (xs.drop k) := by
  obtain ⟨A1, c', he, h1, h2, h3⟩ := h
  injection he with e1 e2 e3
  subst e1 e2 e3
  have hl : (xs.drop k).length = xs.length - k := by simp
  refine ⟨_, c - k, by rw [hl], by omega, by omega, fun hp => ?_⟩
  obtain ⟨b, o, rfl, hb, hlt, hc⟩ := h3 (by omega)
  rw [if_neg (by omega)]
  refine ⟨b, o + k * d.sz, by simp [Addr.add], hb, hlt, fun j x hj => ?_⟩
  rw [List.getElem?_drop] at hj
  obtain ⟨cs, hr, hu⟩ := hc (k + j) x hj
  refine ⟨cs, hr, fun i u hi => ?_⟩
  have := hu i u hi
  rw [Nat.add_mul, ← Nat.add_assoc] at this
  exact this
theorem Rd.capLe {α : Type} {d : Ty α} {w : World} {F : Nat → Prop} {xs : List α} {A : Option Addr} {n c : Nat} (h : Rd d w F (.slice A n c) xs) : xs.length ≤ c := by
  obtain ⟨A1, c', he, h1, h2, h3⟩ := h
  injection he with e1 e2 e3
  omega
theorem Rd.shape {α : Type} {d : Ty α} {w : World} {F : Nat → Prop} {v : Value} {xs : List α} (h : Rd d w F v xs) : ∃ A c, v = .slice A xs.length c ∧ xs.length ≤ 9223372036854775807 := by
  obtain ⟨A, c, rfl, _, h2, _⟩ := h
  exact ⟨A, c, rfl, h2⟩
/-- A machine of the call's own is stored into a block. -/
theorem sim_store {w w1 : World} {g : Nat} {us uq uo vs vq vo : Value} {s : SimD} {B : Nat} {fr : Nat × Nat} (h : w1.heap[g]? = some (.cells #[us, uq, uo] 28 fr)) (n : SimOw w1 (fun k => B ≤ k) vs vq vo s) (hg : w.heap.size ≤ g) (hb : Below w.heap.size w w1) (v1 v2 v3 : Value) (e1 : v1 = vs) (e2 : v2 = vq) (e3 : v3 = vo) :
    (((w1.setCell ⟨g, 0, none⟩ v1).setCell ⟨g, 1, none⟩ v2).setCell ⟨g, 2, none⟩ v3).heap[g]? = some (.cells #[v1, v2, v3] 28 fr) ∧ SimOw (((w1.setCell ⟨g, 0, none⟩ v1).setCell ⟨g, 1, none⟩ v2).setCell ⟨g, 2, none⟩ v3) (fun k => B ≤ k) v1 v2 v3 s ∧ Below w.heap.size w (((w1.setCell ⟨g, 0, none⟩ v1).setCell ⟨g, 1, none⟩ v2).setCell ⟨g, 2, none⟩ v3) := by
  subst e1 e2 e3
  have h1 := blk_set h 0 v1
  have h2 := blk_set h1 1 v2
  have h3 := blk_set h2 2 v3
  refine ⟨by simpa using h3, ⟨?_, ?_, ?_⟩, ?_⟩
  · exact ((n.st.setCell h (by decide) v1).setCell h1 (by decide) v2).setCell h2 (by decide) v3
  · exact ((n.qu.setCell h (by decide) v1).setCell h1 (by decide) v2).setCell h2 (by decide) v3
  · exact ((n.ou.setCell h (by decide) v1).setCell h1 (by decide) v2).setCell h2 (by decide) v3
  · exact ((hb.setCell (p := ⟨g, 0, none⟩) hg v1).setCell (p := ⟨g, 1, none⟩) hg v2).setCell (p := ⟨g, 2, none⟩) hg v3
end Go.Proofs.YtbcemldiahghcaaGreat

namespace Go.Proofs.YtbcemldiahghcaaGreat
set_option linter.unusedVariables false
set_option linter.unusedSimpArgs false
set_option maxRecDepth 100000
open Go.RowKit
theorem szTo_neg {left n t : Int} (h : szTo left n = t) (ht : t < 0) (hl : 0 ≤ left) : left - n < 0 ∧ t = -1 := by
  unfold szTo at h; split at h <;> omega
theorem szTo_pos {left n t : Int} (h : szTo left n = t) (ht : ¬ t < 0) : t = left - n ∧ 0 ≤ t := by
  unfold szTo at h; split at h <;> omega
theorem szTo_is {left n : Int} (h : left - n < 0) : szTo left n = -1 := by unfold szTo; rw [if_pos h]
theorem szTo_at {left n : Int} (h : 0 ≤ left - n) : szTo left n = left - n := by unfold szTo; rw [if_neg (by omega)]
set_option maxHeartbeats 1000000 in
theorem szStateS_c (v : Value) (n : Nat) (left : Int) (w : World) (hv : ∃ A c, v = .slice A n c) (hn : n ≤ 9223372036854775807) (h0 : 0 ≤ left) (h1 : left ≤ 1048576) :
    Calls Tryz.prog 69 #[v, .int .i64 left] w fun q w' => q = .returned (.int .i64 (szTo left n)) ∧ Below w.heap.size w w' := by
  obtain ⟨A, c, rfl⟩ := hv
  have hW : IntKind.i64.wrap (left - n) = left - n := IntWalk.i64_in _ (by omega)
  by_cases h : left - (n : Int) < 0
  · have hd : decide (left - (n : Int) < 0) = true := decide_eq_true h
    have HF := hid (show szTo left n = -1 by simp [szTo, h])
    clear h
    go_enter Tryz.func69, Tryz.ntmps69
    go_wp2_with fail
    go_ret
    exact ⟨by rw [HF.out]; rfl, Below.refl _ _⟩
  · have hd : decide (left - (n : Int) < 0) = false := decide_eq_false h
    have HF := hid (show szTo left n = left - n by simp [szTo, h])
    clear h
    go_enter Tryz.func69, Tryz.ntmps69
    go_wp2_with fail
    go_ret
    exact ⟨by rw [HF.out]; rfl, Below.refl _ _⟩
set_option maxHeartbeats 1000000 in
theorem szEventS_c (v : Value) (n : Nat) (left : Int) (w : World) (hv : ∃ A c, v = .slice A n c) (hn : n ≤ 9223372036854775807) (h0 : 0 ≤ left) (h1 : left ≤ 1048576) :
    Calls Tryz.prog 17 #[v, .int .i64 left] w fun q w' => q = .returned (.int .i64 (szTo left n)) ∧ Below w.heap.size w w' := by
  obtain ⟨A, c, rfl⟩ := hv
  have hW : IntKind.i64.wrap (left - n) = left - n := IntWalk.i64_in _ (by omega)
  by_cases h : left - (n : Int) < 0
  · have hd : decide (left - (n : Int) < 0) = true := decide_eq_true h
    have HF := hid (show szTo left n = -1 by simp [szTo, h])
    clear h
    go_enter Tryz.func17, Tryz.ntmps17
    go_wp2_with fail
    go_ret
    exact ⟨by rw [HF.out]; rfl, Below.refl _ _⟩
  · have hd : decide (left - (n : Int) < 0) = false := decide_eq_false h
    have HF := hid (show szTo left n = left - n by simp [szTo, h])
    clear h
    go_enter Tryz.func17, Tryz.ntmps17
    go_wp2_with fail
    go_ret
    exact ⟨by rw [HF.out]; rfl, Below.refl _ _⟩
set_option maxHeartbeats 1000000 in
theorem szOutS_c (v : Value) (n : Nat) (left : Int) (w : World) (hv : ∃ A c, v = .slice A n c) (hn : n ≤ 9223372036854775807) (h0 : 0 ≤ left) (h1 : left ≤ 1048576) :
    Calls Tryz.prog 70 #[v, .int .i64 left] w fun q w' => q = .returned (.int .i64 (szTo left n)) ∧ Below w.heap.size w w' := by
  obtain ⟨A, c, rfl⟩ := hv
  have hW : IntKind.i64.wrap (left - n) = left - n := IntWalk.i64_in _ (by omega)
  by_cases h : left - (n : Int) < 0
  · have hd : decide (left - (n : Int) < 0) = true := decide_eq_true h
    have HF := hid (show szTo left n = -1 by simp [szTo, h])
    clear h
    go_enter Tryz.func70, Tryz.ntmps70
    go_wp2_with fail
    go_ret
    exact ⟨by rw [HF.out]; rfl, Below.refl _ _⟩
  · have hd : decide (left - (n : Int) < 0) = false := decide_eq_false h
    have HF := hid (show szTo left n = left - n by simp [szTo, h])
    clear h
    go_enter Tryz.func70, Tryz.ntmps70
    go_wp2_with fail
    go_ret
    exact ⟨by rw [HF.out]; rfl, Below.refl _ _⟩
set_option maxHeartbeats 1000000 in
theorem szSim_c (s : SimD) (vs vq vo : Value) (left : Int) (F : Nat → Prop) (w : World) (h : SimRd w F vs vq vo s) (h0 : 0 ≤ left) (h1 : left ≤ 1048576) :
    Calls Tryz.prog 30 #[.agg #[vs, vq, vo], .int .i64 left] w fun q w' => q = .returned (.int .i64 (szTo left ((s.states.length : Int) + (s.queue.length : Int) + (s.outs.length : Int)))) ∧ Below w.heap.size w w' := by
  obtain ⟨A1, c1, rfl, -, n1, -⟩ := id h.st
  obtain ⟨A2, c2, rfl, -, n2, -⟩ := id h.qu
  obtain ⟨A3, c3, rfl, -, n3, -⟩ := id h.ou
  have HW : Below w.heap.size w (w.alloc (.cells #[.slice A1 s.states.length c1, .slice A2 s.queue.length c2, .slice A3 s.outs.length c3] 71)) := balloc (Below.refl _ _) _
  have Z : (w.alloc (.cells #[.slice A1 s.states.length c1, .slice A2 s.queue.length c2, .slice A3 s.outs.length c3] 71)).heap[w.heap.size]? = some (.cells #[.slice A1 s.states.length c1, .slice A2 s.queue.length c2, .slice A3 s.outs.length c3] 71 (0, 0)) := heap_at rfl
  go_enter Tryz.func30, Tryz.ntmps30
  go_wp2_with fail
  generalize w.alloc (.cells #[.slice A1 s.states.length c1, .slice A2 s.queue.length c2, .slice A3 s.outs.length c3] 71) = W at *
  obtain ⟨t1, ht1⟩ : ∃ t, szTo left ((s.states.length : Int)) = t := ⟨_, rfl⟩
  refine (szStateS_c _ s.states.length left _ ⟨_, _, rfl⟩ n1 h0 h1).mono ?_
  rintro q w1 ⟨rfl, hb1⟩
  (try rw [ht1])
  have HT1 := hid ht1
  clear ht1
  have HB1 := bthen HW hb1 (Below.size HW)
  have Z1 := below_heap hb1 (blk_lt Z) Z
  have d1_0 : w1.cell? ⟨w.heap.size, 0, none⟩ = some (.slice A1 s.states.length c1) := blk_cell Z1 0
  have d1_1 : w1.cell? ⟨w.heap.size, 1, none⟩ = some (.slice A2 s.queue.length c2) := blk_cell Z1 1
  have d1_2 : w1.cell? ⟨w.heap.size, 2, none⟩ = some (.slice A3 s.outs.length c3) := blk_cell Z1 2
  apply_assumption
  by_cases g1 : t1 < 0
  · have hd : decide (t1 < 0) = true := decide_eq_true g1
    have HF := hid (show szTo left ((s.states.length : Int) + (s.queue.length : Int) + (s.outs.length : Int)) = -1 from szTo_is (by have h4 := szTo_neg HT1.out g1 h0; omega))
    clear g1
    go_wp2_with fail
    go_ret
    exact ⟨by rw [HF.out]; rfl, HB1⟩
  have hd1 : decide (t1 < 0) = false := decide_eq_false g1
  have HM1 := hid (show t1 = left - ((s.states.length : Int)) ∧ 0 ≤ t1 by have h4 := szTo_pos HT1.out g1; omega)
  have p1 : 0 ≤ t1 := HM1.out.2
  have q1 : t1 ≤ 1048576 := by have := HM1.out; omega
  clear g1 HT1
  go_wp2_with fail
  obtain ⟨t2, ht2⟩ : ∃ t, szTo t1 ((s.queue.length : Int)) = t := ⟨_, rfl⟩
  refine (szEventS_c _ s.queue.length t1 _ ⟨_, _, rfl⟩ n2 p1 q1).mono ?_
  rintro q w2 ⟨rfl, hb2⟩
  (try rw [ht2])
  have HT2 := hid ht2
  clear ht2
  have HB2 := bthen HB1 hb2 (Below.size HB1)
  have Z2 := below_heap hb2 (blk_lt Z1) Z1
  have d2_0 : w2.cell? ⟨w.heap.size, 0, none⟩ = some (.slice A1 s.states.length c1) := blk_cell Z2 0
  have d2_1 : w2.cell? ⟨w.heap.size, 1, none⟩ = some (.slice A2 s.queue.length c2) := blk_cell Z2 1
  have d2_2 : w2.cell? ⟨w.heap.size, 2, none⟩ = some (.slice A3 s.outs.length c3) := blk_cell Z2 2
  apply_assumption
  by_cases g2 : t2 < 0
  · have hd : decide (t2 < 0) = true := decide_eq_true g2
    have HF := hid (show szTo left ((s.states.length : Int) + (s.queue.length : Int) + (s.outs.length : Int)) = -1 from szTo_is (by have h4 := szTo_neg HT2.out g2 p1; have h5 := HM1.out; omega))
    clear g2
    go_wp2_with fail
    go_ret
    exact ⟨by rw [HF.out]; rfl, HB2⟩
  have hd2 : decide (t2 < 0) = false := decide_eq_false g2
  have HM2 := hid (show t2 = left - ((s.states.length : Int) + (s.queue.length : Int)) ∧ 0 ≤ t2 by have h4 := szTo_pos HT2.out g2; have h5 := HM1.out; omega)
  have p2 : 0 ≤ t2 := HM2.out.2
  have q2 : t2 ≤ 1048576 := by have := HM2.out; have h5 := HM1.out; omega
  clear g2 HT2
  go_wp2_with fail
  obtain ⟨t3, ht3⟩ : ∃ t, szTo t2 ((s.outs.length : Int)) = t := ⟨_, rfl⟩
  refine (szOutS_c _ s.outs.length t2 _ ⟨_, _, rfl⟩ n3 p2 q2).mono ?_
  rintro q w3 ⟨rfl, hb3⟩
  (try rw [ht3])
  have HT3 := hid ht3
  clear ht3
  have HB3 := bthen HB2 hb3 (Below.size HB2)
  have Z3 := below_heap hb3 (blk_lt Z2) Z2
  have d3_0 : w3.cell? ⟨w.heap.size, 0, none⟩ = some (.slice A1 s.states.length c1) := blk_cell Z3 0
  have d3_1 : w3.cell? ⟨w.heap.size, 1, none⟩ = some (.slice A2 s.queue.length c2) := blk_cell Z3 1
  have d3_2 : w3.cell? ⟨w.heap.size, 2, none⟩ = some (.slice A3 s.outs.length c3) := blk_cell Z3 2
  apply_assumption
  by_cases g3 : t3 < 0
  · have hd : decide (t3 < 0) = true := decide_eq_true g3
    have HF := hid (show szTo left ((s.states.length : Int) + (s.queue.length : Int) + (s.outs.length : Int)) = -1 from szTo_is (by have h4 := szTo_neg HT3.out g3 p2; have h5 := HM2.out; omega))
    clear g3
    go_wp2_with fail
    go_ret
    exact ⟨by rw [HF.out]; rfl, HB3⟩
  have hd3 : decide (t3 < 0) = false := decide_eq_false g3
  have HM3 := hid (show t3 = left - ((s.states.length : Int) + (s.queue.length : Int) + (s.outs.length : Int)) ∧ 0 ≤ t3 by have h4 := szTo_pos HT3.out g3; have h5 := HM2.out; omega)
  have p3 : 0 ≤ t3 := HM3.out.2
  have q3 : t3 ≤ 1048576 := by have := HM3.out; have h5 := HM2.out; omega
  clear g3 HT3
  have HF := hid (show szTo left ((s.states.length : Int) + (s.queue.length : Int) + (s.outs.length : Int)) = t3 by have h4 := HM3.out; rw [szTo_at (by omega)]; omega)
  go_wp2_with fail
  go_ret
  exact ⟨by rw [HF.out]; rfl, HB3⟩
def appsSz : List AppD → Int
  | [] => 0
  | r :: rs => (r.rules.length + rulesSz r.rules) + appsSz rs
theorem appsSz_nonneg : ∀ rs, 0 ≤ appsSz rs
  | [] => Int.le_refl _
  | r :: rs => by have := appsSz_nonneg rs; have h2 : 0 ≤ (r.rules.length + rulesSz r.rules) := (by have := rulesSz_nonneg r.rules; omega); simp only [appsSz]; omega
theorem appsSz_take : ∀ (rs : List AppD) (k : Nat) (h : k < rs.length), appsSz (rs.take (k + 1)) = appsSz (rs.take k) + (rs[k].rules.length + rulesSz rs[k].rules)
  | r :: rs, 0, h => by simp [appsSz]
  | r :: rs, k + 1, h => by
    have := appsSz_take rs k (by simpa using h)
    simp only [List.take_succ_cons, appsSz, List.getElem_cons_succ] at this ⊢
    omega
theorem appsSz_le : ∀ (rs : List AppD) (k : Nat), appsSz (rs.take k) ≤ appsSz rs
  | [], k => by simp
  | r :: rs, 0 => by simpa [appsSz] using appsSz_nonneg (r :: rs)
  | r :: rs, k + 1 => by have := appsSz_le rs k; simp only [List.take_succ_cons, appsSz]; omega
theorem appsSz_mem : ∀ (rs : List AppD) (r : AppD), r ∈ rs → (r.rules.length + rulesSz r.rules) ≤ appsSz rs
  | r' :: rs, r, h => by
    rcases List.mem_cons.1 h with rfl | h
    · have := appsSz_nonneg rs; simp only [appsSz]; omega
    · have := appsSz_mem rs r h
      have h2 : 0 ≤ (fun r : AppD => ((r.rules.length + rulesSz r.rules) : Int)) r' := (fun r : AppD => (show 0 ≤ ((r.rules.length + rulesSz r.rules) : Int) from (by have := rulesSz_nonneg r.rules; omega))) r'
      simp only [appsSz] at h2 ⊢; omega
set_option maxHeartbeats 1000000 in
theorem szAppS_c (v : Value) (rs : List AppD) (left : Int) (F : Nat → Prop) (w : World) (h : Rd tApp w F v rs) (h0 : 0 ≤ left) (h1 : left ≤ 1048576) :
    Calls Tryz.prog 6 #[v, .int .i64 left] w fun q w' => q = .returned (.int .i64 (szTo left (rs.length + appsSz rs))) ∧ Below w.heap.size w w' := by
  obtain ⟨A, c, rfl, -, hn, -⟩ := id h
  have hW : IntKind.i64.wrap (left - rs.length) = left - rs.length := IntWalk.i64_in _ (by omega)
  have hnn := appsSz_nonneg rs
  by_cases hneg : left - (rs.length : Int) < 0
  · have hd : decide (left - (rs.length : Int) < 0) = true := decide_eq_true hneg
    have HF := hid (show szTo left (rs.length + appsSz rs) = -1 by unfold szTo; rw [if_pos (by omega)])
    clear hneg
    go_enter Tryz.func6, Tryz.ntmps6
    go_wp2_with fail
    go_ret
    exact ⟨by rw [HF.out]; rfl, Below.refl _ _⟩
  · have hd : decide (left - (rs.length : Int) < 0) = false := decide_eq_false hneg
    have HN := hid hneg
    clear hneg
    go_enter Tryz.func6, Tryz.ntmps6
    go_wp2_with fail
    go_loopw [1, 5] (fun l i wr => ∃ (k : Nat) (m : Int), i = .int .i64 k ∧ k ≤ rs.length ∧ l = .int .i64 m ∧ Hid (m = left - (rs.length + appsSz (rs.take k)) ∧ 0 ≤ m) ∧ Below w.heap.size w wr) (fun _ i _ => rs.length - (intOf i).toNat)
    case atStart => exact ⟨0, _, rfl, Nat.zero_le _, rfl, ⟨by simp [appsSz], by have := HN.out; omega⟩, Below.refl _ _⟩
    case round =>
      obtain ⟨k, m, rfl, hk, rfl, HM, hb⟩ := hrel
      by_cases hlt : k < rs.length
      · obtain ⟨b, o, A1, c1, rfl, hbl, z0, hr⟩ := app_at (h.below hb) k hlt
        have p0 : (k : Int) < (rs.length : Int) := by omega
        have hm0 := HM.out.2
        have hm1 : m ≤ 1048576 := by have := HM.out.1; have := appsSz_nonneg (rs.take k); omega
        obtain ⟨t, ht⟩ : ∃ t, szTo m ((rs[k].rules.length : Int) + rulesSz rs[k].rules) = t := ⟨_, rfl⟩
        have HT := hid ht
        go_wp2_with fail
        refine (szApp_c rs[k] _ m _ wr hr hm0 hm1).mono ?_
        rintro q w1 ⟨rfl, hb1⟩
        rw [ht]
        have HB := bthen hb hb1 hb.size
        apply_assumption
        by_cases hneg : t < 0
        · have hd2 : decide (t < 0) = true := decide_eq_true hneg
          have HF := hid (show szTo left (rs.length + appsSz rs) = -1 from szTo_is (by
            have h3 := HM.out.1
            have h4 := szTo_neg HT.out hneg hm0
            have h5 := appsSz_take rs k hlt
            have h6 := appsSz_le rs (k + 1)
            omega))
          clear hneg ht
          go_wp2_with fail
          go_ret
          exact ⟨by rw [HF.out]; rfl, HB⟩
        · have hd2 : decide (t < 0) = false := decide_eq_false hneg
          have HM' := hid (show t = left - (rs.length + appsSz (rs.take (k + 1))) ∧ 0 ≤ t by
            have h3 := HM.out.1
            have h4 := szTo_pos HT.out hneg
            have h5 := appsSz_take rs k hlt
            omega)
          clear hneg ht
          go_wp2_with fail
          go_roundw
          case rel => exact ⟨k + 1, t, by go_num, by omega, rfl, HM', HB⟩
          case measure => simp [intOf]; omega
      · have hkl : k = rs.length := by omega
        subst hkl
        have HF := hid (show szTo left (rs.length + appsSz rs) = m by
          have h3 := HM.out
          rw [List.take_length] at h3
          rw [szTo_at (by omega)]
          omega)
        go_wp2_with fail
        go_ret
        exact ⟨by rw [HF.out]; rfl, hb⟩
end Go.Proofs.YtbcemldiahghcaaGreat

namespace Go.Proofs.YtbcemldiahghcaaGreat
set_option linter.unusedVariables false
set_option linter.unusedSimpArgs false
set_option linter.unusedSectionVars false
set_option maxRecDepth 100000
open Go.RowKit
/-- A place that may not be filled yet. -/
def opt {α : Type} (d : Ty α) : Ty (Option α) where
  sz := d.sz
  rel := fun w F ox cs => match ox with | some x => d.rel w F x cs | none => cs.length = d.sz ∧ ∀ u ∈ cs, u.oneCell' = true
  len := fun {w F x cs} h => by
    cases x with
    | none => exact h.1
    | some x => exact d.len h
  one := fun {w F x cs} h => by
    cases x with
    | none => exact h.2
    | some x => exact d.one h
  mono := fun {w F F' x cs} hF h => by
    cases x with
    | none => exact h
    | some x => exact d.mono hF h
  move := fun {w w' F x cs} hm h => by
    cases x with
    | none => exact h
    | some x => exact d.move hm h
  bound := fun {w F x cs} h => by
    cases x with
    | none => exact h
    | some x => exact d.bound h
theorem Ow.filled {α : Type} {d : Ty α} {e : TypeId} {w : World} {F : Nat → Prop} {v : Value} {xs : List α} (h : Ow (opt d) e w F v (xs.map some)) : Ow d e w F v xs := by
  obtain ⟨cs, Fs, h1, h2, h3, h4, h5⟩ := h
  have h1' : w.ownsRow 0 e d.sz v (xs.map some).length cs := h1
  rw [List.length_map] at h1'
  refine ⟨cs, Fs, h1', h2, h3, h4, fun j x hj => ?_⟩
  have := h5 j (some x) (by simp [hj])
  exact this
theorem ovw_out : ∀ (vs l : List Value) (o q : Nat), (q < o ∨ o + vs.length ≤ q) → (ovw l o vs)[q]? = l[q]?
  | [], _, _, _, _ => rfl
  | v :: r, l, o, q, h => by
    simp only [List.length_cons] at h
    rw [ovw, ovw_out r _ _ _ (by omega), List.getElem?_set_ne (by omega)]
theorem madeCells_one {zs : Array Value} (hz : ∀ u ∈ zs.toList, u.oneCell' = true) (h0 : 0 < zs.size) (m : Nat) : ∀ u ∈ (madeCells zs m).toList, u.oneCell' = true := by
  intro u hu
  simp only [madeCells, Array.toList_map, List.mem_map] at hu
  obtain ⟨i, _, rfl⟩ := hu
  have : i % zs.size < zs.size := Nat.mod_lt _ h0
  rw [getElem!_pos zs _ this]
  exact hz _ (by simp)
/-- A whole element is laid into an own row. -/
theorem Ow.setElem {α : Type} {d : Ty α} {e : TypeId} {w : World} {F : Nat → Prop} {v : Value} {xs : List α} (h : Ow d e w F v xs) {g : Nat} (hv : v.ownBlock = some g) (j : Nat) (hj : j < xs.length) (x' : α) (cs' : List Value) (F' G : Nat → Prop)
    (hr : d.rel w F' x' cs') (hF' : ∀ k, F' k → ¬ F k) (hG : ∀ k, F k → G k) (hG' : ∀ k, F' k → G k) :
    w.there g (j * d.sz) d.sz ∧ Ow d e (w.setCells g (j * d.sz) cs') G v (xs.set j x') ∧ Ch (fun k => k = g) w (w.setCells g (j * d.sz) cs') := by
  have hC : Ch (fun k => k = g) w (w.setCells g (j * d.sz) cs') := Ch.setCells _ _ _ (Ch.refl _ _) (.inl rfl)
  have hgF : F g := h.inF hv
  have hgl := h.block_lt hv
  obtain ⟨cs, Fs, h1, h2, h3, h4, h5⟩ := h.bound
  have hlen := h1.1
  have hl' := d.len hr
  rcases h1.2 with ⟨rfl, _⟩ | ⟨g', cap, cur, rfl, hb, hh, hc1, hc2, hc3, hc4⟩
  · simp [Value.ownBlock] at hv
  · simp only [Value.ownBlock, Option.some.injEq] at hv
    subst hv
    have hjn : (j + 1) * d.sz ≤ xs.length * d.sz := Nat.mul_le_mul_right _ (by omega)
    have hjc : xs.length * d.sz ≤ cap * d.sz := Nat.mul_le_mul_right _ hc1
    rw [Nat.add_mul, Nat.one_mul] at hjn
    refine ⟨fun i hi => ?_, ⟨ovw cs (j * d.sz) cs', fun q k => if q = j then F' k ∧ k < w.heap.size else Fs q k, ⟨by rw [ovw_len, hlen, List.length_set], .inr ⟨g', cap, (ovw cur.toList (j * d.sz) cs').toArray, by rw [List.length_set], Nat.zero_le _, ?_, by simpa using hc1, hc2, by simpa [ovw_len] using hc3, ?_⟩⟩, fun k hk => ?_, ?_, ?_, ?_⟩, hC⟩
    · have hlt : j * d.sz + i < cur.size := by omega
      exact ⟨by simp [World.cell?, hh, hlt], by simp [World.frozen?, hh]⟩
    · exact blk_ovw _ _ _ _ hh
    · rw [List.length_set, ovw_take, hc4]
    · exact hG _ (h2 k hk).1
    · intro q k hq
      by_cases hqj : q = j
      · subst hqj
        simp only [if_true] at hq
        exact ⟨hG' k hq.1, fun e1 => by simp [Value.ownBlock] at e1; subst e1; exact hF' _ hq.1 hgF⟩
      · simp only [if_neg hqj] at hq
        exact ⟨hG k (h3 q k hq).1.1, (h3 q k hq).2⟩
    · intro a b k hab ha hb'
      by_cases haj : a = j
      · subst haj
        simp only [if_true, if_neg (Ne.symm hab)] at ha hb'
        exact hF' k ha.1 (h3 b k hb').1.1
      · by_cases hbj : b = j
        · subst hbj
          simp only [if_true, if_neg haj] at ha hb'
          exact hF' k hb'.1 (h3 a k ha).1.1
        · simp only [if_neg haj, if_neg hbj] at ha hb'
          exact h4 a b k hab ha hb'
    · intro q x hq
      by_cases hqj : q = j
      · subst hqj
        simp only [List.getElem?_set_self hj, Option.some.injEq] at hq
        subst hq
        simp only [if_true]
        have hsplit : ((ovw cs (q * d.sz) cs').drop (q * d.sz)).take d.sz = cs' := by
          have e1 : cs = cs.take (q * d.sz) ++ (cs.drop (q * d.sz)).take d.sz ++ (cs.drop (q * d.sz)).drop d.sz := by
            rw [List.append_assoc, List.take_append_drop, List.take_append_drop]
          have hta : (cs.take (q * d.sz)).length = q * d.sz := by rw [List.length_take]; omega
          have hmid : ((cs.drop (q * d.sz)).take d.sz).length = cs'.length := by rw [List.length_take, List.length_drop]; omega
          have e2 := ovw_mid cs' ((cs.drop (q * d.sz)).take d.sz) (cs.take (q * d.sz)) ((cs.drop (q * d.sz)).drop d.sz) hmid
          rw [hta, ← e1] at e2
          rw [e2, List.append_assoc, List.drop_left' hta, ← hl', List.take_left]
        rw [hsplit]
        exact d.move (fun k hk => hC.block k hk.2 (fun e1 => hF' k hk.1 (e1 ▸ hgF))) (d.bound hr)
      · rw [List.getElem?_set_ne (Ne.symm hqj)] at hq
        simp only [if_neg hqj]
        have h6 := h5 q x hq
        have hqn : (q + 1) * d.sz ≤ xs.length * d.sz := Nat.mul_le_mul_right _ (by have := (List.getElem?_eq_some_iff.1 hq).1; omega)
        have h7 : ((ovw cs (j * d.sz) cs').drop (q * d.sz)).take d.sz = (cs.drop (q * d.sz)).take d.sz := by
          apply List.ext_getElem?
          intro i
          rw [List.getElem?_take, List.getElem?_take]
          by_cases hi : i < d.sz
          · simp only [if_pos hi, List.getElem?_drop]
            refine ovw_out _ _ _ _ ?_
            by_cases hlt : q < j
            · have : (q + 1) * d.sz ≤ j * d.sz := Nat.mul_le_mul_right _ hlt
              rw [Nat.add_mul, Nat.one_mul] at this
              left; omega
            · have : (j + 1) * d.sz ≤ q * d.sz := Nat.mul_le_mul_right _ (by omega)
              rw [Nat.add_mul, Nat.one_mul] at this
              right; rw [hl']; omega
          · simp only [if_neg hi]
        rw [h7]
        refine d.move (fun k hk' => hC.block k (h3 q k hk').1.2 (fun e1 => (h3 q k hk').2 (by rw [e1]; rfl))) h6
section
variable {P : Program} {ops : Array Oper} {rest : List Oper} {o : Oper} {a : Act} {W : World} {Q : Exit → Act → World → Prop}
/-- The arm at a store of a whole element, whatever hangs on it. -/
theorem ow_store_any {α : Type} {d : Ty α} {e : TypeId} {F : Nat → Prop} {v : Value} {xs : List α} (hgd : o.guard = none) (ty : TypeId) (x y : Operand) (ho : o.op = .store ty x y)
    (HO : Ow d e W F v xs) {g : Nat} (hv : v.ownBlock = some g) (j : Nat) (hj : j < xs.length) (z : α) (cs' : List Value) (F' G : Nat → Prop) (hr : d.rel W F' z cs') (hF' : ∀ k, F' k → ¬ F k) (hG : ∀ k, F k → G k) (hG' : ∀ k, F' k → G k)
    (hx : a.eval x = .pointer (some ⟨g, j * d.sz, none⟩)) (hy : a.eval y = .agg cs'.toArray) (hi : (P.info? ty).map (·.size) = some d.sz)
    (h : ∀ w1, Ow d e w1 G v (xs.set j z) → Ch (fun k => k = g) W w1 → wpList P ops Q rest (a.put o.dst undef) w1) : wpList P ops Q (o :: rest) a W := by
  obtain ⟨h1, h2, h3⟩ := HO.setElem hv j hj z cs' F' G hr hF' hG hG'
  have hl := d.len hr
  refine wpList_store_mid hgd ty x y ho g (j * d.sz) cs'.toArray hx hy (by simpa [hl] using h1) (by simpa [hl] using hi) (all_oneCell_toArray (d.one hr)) ?_
  exact h _ h2 h3
/-- make([]T, n, n) -/
theorem ow_full {α : Type} {d : Ty α} {e : TypeId} (hg : o.guard = none) (l c : Operand) (t : TypeId) (hop : o.op = Op.makeSlice t l c) (ht : P.underlying t = some (.slice e)) (z : Value) (bytes : Nat)
    (hinfo : (P.info? e).map (fun i => (i.zero, i.size, i.bytes)) = some (some z, d.sz, bytes)) (hz : ∀ u ∈ z.cells.toList, u.oneCell' = true) (hz0 : z.cells.size = d.sz) (hs : 0 < d.sz) (kl kc : IntKind) (n : Nat) (hl : a.eval l = .int kl (n : Int)) (hc : a.eval c = .int kc (n : Int)) (hb : bytes * n ≤ 281474976710656) (hn : n ≤ 9223372036854775807)
    (h : ∀ w1, Ow (opt d) e w1 (fun k => W.heap.size ≤ k) (.slice (some ⟨W.heap.size, 0, none⟩) n n) (List.replicate n none) → Below W.heap.size W w1 → wpList P ops Q rest (a.put o.dst (.slice (some ⟨W.heap.size, 0, none⟩) n n)) w1) : wpList P ops Q (o :: rest) a W := by
  obtain ⟨i, h2, h3, h4, h5⟩ := info_parts hinfo
  refine wpList_plain hg fun K hK' => ?_
  obtain ⟨w', hrun, r1, r2⟩ := run_make_full (P := P) (w := W) 0 t e i z d.sz ht h2 h3 h4 kl kc n (by rw [h5]; exact hb) (by unfold maxLen; omega) (Nat.zero_le _)
  unfold Oper.wp
  simp only [execOp, hop, hl, hc]
  rw [Sem.run_bind, hrun]
  simp only [Result.andThen_ok, Sem.run_pure, Oper.upon_value]
  refine hK' _ _ (h w' ⟨_, fun _ _ => False, by rw [List.length_replicate]; exact r1, fun g hg => by simp [Value.ownBlock] at hg; subst hg; exact Nat.le_refl _, fun _ _ h => h.elim, fun _ _ _ _ h => h.elim, fun j x hj => ?_⟩ ((Ch.refl _ W).grown r2 (fun k hk => by cases hk)).below0)
  have hjn : j < n := by have := (List.getElem?_eq_some_iff.1 hj).1; simpa using this
  have hx : x = none := by
    have := hj
    rw [List.getElem?_replicate, if_pos hjn] at this
    exact (Option.some.inj this).symm
  subst hx
  have hlen := r1.1
  have hj1 : (j + 1) * d.sz ≤ n * d.sz := Nat.mul_le_mul_right _ hjn
  rw [Nat.add_mul, Nat.one_mul] at hj1
  show List.length _ = d.sz ∧ _
  refine ⟨?_, fun u hu => madeCells_one hz (by rw [hz0]; exact hs) _ u (List.mem_of_mem_drop (List.mem_of_mem_take hu))⟩
  rw [List.length_take, List.length_drop, hlen]
  show min d.sz (n * d.sz - j * d.sz) = d.sz
  omega
end
end Go.Proofs.YtbcemldiahghcaaGreat
