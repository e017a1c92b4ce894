/- Texts joined: Sub, SimW, Cmp. -/
import Derived.Test.YtmnccekljombmaaJ00
import Derived.Test.YtmnccekljombmaaJ10
import Derived.Deep.DeepCutAuto
import Derived.Test.YtmnccekljombmaaJ04
namespace Go.Proofs.Ytmnccekljombmaa
set_option linter.unusedVariables false
set_option linter.unusedSimpArgs false
set_option linter.unusedSectionVars false
open Go.RowKit
section
variable {α : Type} {d : Ty α} {w : World} {F : Nat → Prop} {xs : List α} {A : Option Addr} {n c : Nat}
theorem Rd.takeP (h : Rd d w F (.slice A n c) xs) (k : Nat) (hk : k ≤ xs.length) : Rd d w F (.slice A k c) (xs.take k) := by
  obtain ⟨A', c', he, h1, h2, h3⟩ := h
  injection he with e1 e2 e3
  subst e1 e2 e3
  have hl : (xs.take k).length = k := by simp; omega
  refine ⟨A, c, by rw [hl], by omega, by omega, fun hp => ?_⟩
  obtain ⟨b, o, rfl, hb, hlt, hc⟩ := h3 (by omega)
  refine ⟨b, o, rfl, hb, hlt, fun j x hj => ?_⟩
  rw [List.getElem?_take] at hj
  split at hj
  · exact hc j x hj
  · cases hj
theorem Rd.dropP {b o : Nat} (h : Rd d w F (.slice (some ⟨b, o, none⟩) n c) xs) (k : Nat) (hk : k ≤ xs.length) (A' : Option Addr) (hA : k < xs.length → A' = some ⟨b, o + k * d.sz, none⟩) : Rd d w F (.slice A' (n - k) (c - k)) (xs.drop k) := by
  obtain ⟨A1, c', he, h1, h2, h3⟩ := h
  injection he with e1 e2 e3
  subst e1 e2 e3
  have hl : (xs.drop k).length = xs.length - k := by simp
  refine ⟨A', c - k, by rw [hl], by omega, by omega, fun hp => ?_⟩
  obtain ⟨b', o', hbo, hb, hlt, hc⟩ := h3 (by omega)
  injection hbo with hbo
  injection hbo with e1 e2 _
  subst e1 e2
  refine ⟨b, o + k * d.sz, hA (by omega), hb, hlt, fun j x hj => ?_⟩
  rw [List.getElem?_drop] at hj
  obtain ⟨cs, hr, hu⟩ := hc (k + j) x hj
  refine ⟨cs, hr, fun i u hi => ?_⟩
  have := hu i u hi
  rw [Nat.add_mul, ← Nat.add_assoc] at this
  exact this
end
end Go.Proofs.Ytmnccekljombmaa

namespace Go.Proofs.Ytmnccekljombmaa
set_option linter.unusedVariables false
set_option linter.unusedSimpArgs false
set_option linter.unusedSectionVars false
open Go.RowKit
theorem info_st : (Try.prog.info? 27).map (fun i => (i.zero, i.size, i.bytes)) = some (some (.agg #[.int .i64 0, .int .i64 0, .int .i64 0]), 3, 24) := by kernel_rfl
/-- What the operations of a region come to, by their numbers. -/
abbrev Held := Value → World → (Nat → Prop) → Prop
def NN (l : List (Nat × Held)) (j : Nat) (v : Value) (w : World) (F : Nat → Prop) : Prop := match l with | [] => True | (i, p) :: r => if j = i then p v w F else NN r j v w F
def Moves (p : Held) : Prop := ∀ v w w' F, p v w F → (∀ k, F k → w'.heap[k]? = w.heap[k]?) → p v w' F
def MovesL : List (Nat × Held) → Prop | [] => True | p :: r => Moves p.2 ∧ MovesL r
theorem NN_move : ∀ (l : List (Nat × Held)), MovesL l → ∀ j v w w' F, NN l j v w F → (∀ k, F k → w'.heap[k]? = w.heap[k]?) → NN l j v w' F
  | [], _, _, _, _, _, _, _, _ => trivial
  | (i, p) :: r, hl, j, v, w, w', F, h, hm => by
    unfold NN at h ⊢
    split
    · rename_i hj; rw [if_pos hj] at h; exact hl.1 v w w' F h hm
    · rename_i hj; rw [if_neg hj] at h; exact NN_move r hl.2 j v w w' F h hm
def rowH {α : Type} (d : Ty α) (e : TypeId) (xs : List α) : Held := fun v w F => Ow d e w F v xs
theorem rowH_moves {α : Type} (d : Ty α) (e : TypeId) (xs : List α) : Moves (rowH d e xs) := fun v w w' F h hm => Ow.move hm h
def valH (p : Value → Prop) : Held := fun v _ _ => p v
theorem valH_moves (p : Value → Prop) : Moves (valH p) := fun v w w' F h _ => h
/-- A machine that is read. -/
structure SimRd (w : World) (F : Nat → Prop) (vs vq vo : Value) (s : SimD) : Prop where
  st : Rd tSt w F vs s.states
  qu : Rd tEv w F vq s.queue
  ou : Rd tOut w F vo s.outs
/-- A machine of the call's own. -/
structure SimOw (w : World) (F : Nat → Prop) (vs vq vo : Value) (s : SimD) : Prop where
  st : Ow tSt 27 w F vs s.states
  qu : Ow tEv 29 w F vq s.queue
  ou : Ow tOut 43 w F vo s.outs
section
variable {w w' : World} {F F' : Nat → Prop} {vs vq vo : Value} {s : SimD}
theorem SimRd.mono (h : SimRd w F vs vq vo s) (hF : ∀ k, F k → F' k) : SimRd w F' vs vq vo s := ⟨h.st.mono hF, h.qu.mono hF, h.ou.mono hF⟩
theorem SimRd.below (h : SimRd w F vs vq vo s) (hb : Below w.heap.size w w') : SimRd w' F vs vq vo s := ⟨h.st.below hb, h.qu.below hb, h.ou.below hb⟩
theorem SimRd.ch {S : Nat → Prop} (h : SimRd w F vs vq vo s) (hc : Ch S w w') (hS : ∀ k, F k → ¬ S k) : SimRd w' F vs vq vo s := ⟨h.st.ch hc hS, h.qu.ch hc hS, h.ou.ch hc hS⟩
theorem SimRd.move (h : SimRd w F vs vq vo s) (hm : ∀ k, F k → w'.heap[k]? = w.heap[k]?) : SimRd w' F vs vq vo s := ⟨h.st.move hm, h.qu.move hm, h.ou.move hm⟩
theorem SimOw.mono (h : SimOw w F vs vq vo s) (hF : ∀ k, F k → F' k) : SimOw w F' vs vq vo s := ⟨h.st.mono hF, h.qu.mono hF, h.ou.mono hF⟩
theorem SimOw.below (h : SimOw w F vs vq vo s) (hb : Below w.heap.size w w') : SimOw w' F vs vq vo s := ⟨h.st.below hb, h.qu.below hb, h.ou.below hb⟩
theorem SimOw.ch {S : Nat → Prop} (h : SimOw w F vs vq vo s) (hc : Ch S w w') (hS : ∀ k, F k → ¬ S k) : SimOw w' F vs vq vo s := ⟨h.st.ch hc hS, h.qu.ch hc hS, h.ou.ch hc hS⟩
theorem SimOw.move (h : SimOw w F vs vq vo s) (hm : ∀ k, F k → w'.heap[k]? = w.heap[k]?) : SimOw w' F vs vq vo s := ⟨h.st.move hm, h.qu.move hm, h.ou.move hm⟩
theorem SimOw.rd (h : SimOw w F vs vq vo s) : SimRd w F vs vq vo s := ⟨h.st.rd, h.qu.rd, h.ou.rd⟩
end
/-- Behind an append, as a step of a region. -/
theorem grown_step {α : Type} {cells : α → List Value} {sz : Nat} {hl : ∀ x, (cells x).length = sz} {ho : ∀ x, ∀ u ∈ cells x, u.oneCell' = true} {e : TypeId} {W w1 : World} {F G : Nat → Prop} {v v1 : Value} {xs ys : List α}
    (HO : Ow (flat cells sz hl ho) e W F v xs) (hO1 : Ow (flat cells sz hl ho) e w1 G v1 ys) (hG1 : W.grownBy w1 v.ownBlock) (hat1 : v1.ownBlock = v.ownBlock ∨ ∃ b, v1.ownBlock = some b ∧ W.heap.size ≤ b) :
    Ch F W w1 ∧ Ow (flat cells sz hl ho) e w1 (fun k => v1.ownBlock = some k) v1 ys ∧ ∀ k, v1.ownBlock = some k → (F k ∨ W.heap.size ≤ k) ∧ k < w1.heap.size := by
  refine ⟨(Ch.refl _ _).grown hG1 fun k hk => .inl (HO.inF hk), hO1.tight, fun k hk => ⟨?_, hO1.block_lt hk⟩⟩
  rcases hat1 with h | ⟨b, hb, hlt⟩
  · exact .inl (HO.inF (h ▸ hk))
  · rw [hb] at hk; cases hk; exact .inr hlt
/-- xs[k:] -/
theorem Rd.dropO {α : Type} {d : Ty α} {w : World} {F : Nat → Prop} {xs : List α} {A : Option Addr} {n c : Nat} (h : Rd d w F (.slice A n c) xs) (k : Nat) (hk : k ≤ xs.length) : Rd d w F (.slice (if c = k then A else A.map fun x => x.add (k * d.sz)) (n - k) (c - k)) (xs.drop k) := by
  obtain ⟨A1, c', he, h1, h2, h3⟩ := h
  injection he with e1 e2 e3
  subst e1 e2 e3
  have hl : (xs.drop k).length = xs.length - k := by simp
  refine ⟨_, c - k, by rw [hl], by omega, by omega, fun hp => ?_⟩
  obtain ⟨b, o, rfl, hb, hlt, hc⟩ := h3 (by omega)
  rw [if_neg (by omega)]
  refine ⟨b, o + k * d.sz, by simp [Addr.add], hb, hlt, fun j x hj => ?_⟩
  rw [List.getElem?_drop] at hj
  obtain ⟨cs, hr, hu⟩ := hc (k + j) x hj
  refine ⟨cs, hr, fun i u hi => ?_⟩
  have := hu i u hi
  rw [Nat.add_mul, ← Nat.add_assoc] at this
  exact this
theorem Rd.capLe {α : Type} {d : Ty α} {w : World} {F : Nat → Prop} {xs : List α} {A : Option Addr} {n c : Nat} (h : Rd d w F (.slice A n c) xs) : xs.length ≤ c := by
  obtain ⟨A1, c', he, h1, h2, h3⟩ := h
  injection he with e1 e2 e3
  omega
theorem Rd.shape {α : Type} {d : Ty α} {w : World} {F : Nat → Prop} {v : Value} {xs : List α} (h : Rd d w F v xs) : ∃ A c, v = .slice A xs.length c ∧ xs.length ≤ 9223372036854775807 := by
  obtain ⟨A, c, rfl, _, h2, _⟩ := h
  exact ⟨A, c, rfl, h2⟩
/-- A machine of the call's own is stored into a block. -/
theorem sim_store {w w1 : World} {g : Nat} {us uq uo vs vq vo : Value} {s : SimD} {B : Nat} {fr : Nat × Nat} (h : w1.heap[g]? = some (.cells #[us, uq, uo] 64 fr)) (n : SimOw w1 (fun k => B ≤ k) vs vq vo s) (hg : w.heap.size ≤ g) (hb : Below w.heap.size w w1) (v1 v2 v3 : Value) (e1 : v1 = vs) (e2 : v2 = vq) (e3 : v3 = vo) :
    (((w1.setCell ⟨g, 0, none⟩ v1).setCell ⟨g, 1, none⟩ v2).setCell ⟨g, 2, none⟩ v3).heap[g]? = some (.cells #[v1, v2, v3] 64 fr) ∧ SimOw (((w1.setCell ⟨g, 0, none⟩ v1).setCell ⟨g, 1, none⟩ v2).setCell ⟨g, 2, none⟩ v3) (fun k => B ≤ k) v1 v2 v3 s ∧ Below w.heap.size w (((w1.setCell ⟨g, 0, none⟩ v1).setCell ⟨g, 1, none⟩ v2).setCell ⟨g, 2, none⟩ v3) := by
  subst e1 e2 e3
  have h1 := blk_set h 0 v1
  have h2 := blk_set h1 1 v2
  have h3 := blk_set h2 2 v3
  refine ⟨by simpa using h3, ⟨?_, ?_, ?_⟩, ?_⟩
  · exact ((n.st.setCell h (by decide) v1).setCell h1 (by decide) v2).setCell h2 (by decide) v3
  · exact ((n.qu.setCell h (by decide) v1).setCell h1 (by decide) v2).setCell h2 (by decide) v3
  · exact ((n.ou.setCell h (by decide) v1).setCell h1 (by decide) v2).setCell h2 (by decide) v3
  · exact ((hb.setCell (p := ⟨g, 0, none⟩) hg v1).setCell (p := ⟨g, 1, none⟩) hg v2).setCell (p := ⟨g, 2, none⟩) hg v3
end Go.Proofs.Ytmnccekljombmaa

namespace Go.Proofs.Ytmnccekljombmaa
set_option linter.unusedVariables false
set_option linter.unusedSimpArgs false
set_option maxRecDepth 100000
open Go.RowKit
theorem isNaN_c (x : Int) (w : World) : Calls Try.prog 125 #[.int .i64 x] w fun e w' => e = .returned (.bool false) ∧ w' = w := by
  have h : (x != x) = false := by simp
  go_enter Try.func125, Try.ntmps125
  go_wp2_with fail
  go_ret
  exact ⟨rfl, rfl⟩
def cmp1 (x y : Int) : Int := if x < y then -1 else if y < x then 1 else 0
theorem compare_c (x y : Int) (w : World) : Calls Try.prog 105 #[.int .i64 x, .int .i64 y] w fun e w' => e = .returned (.int .i64 (cmp1 x y)) ∧ w' = w := by
  by_cases h1 : x < y
  · have hd : decide (x < y) = true := decide_eq_true h1
    have HE := hid (show cmp1 x y = -1 by simp [cmp1, h1])
    go_enter Try.func105, Try.ntmps105
    go_wp2_with (go_at_call 125; refine (isNaN_c _ _).mono ?_; rintro e w' ⟨rfl, rfl⟩)
    go_ret
    exact ⟨by rw [HE.out]; rfl, rfl⟩
  · have hd : decide (x < y) = false := decide_eq_false h1
    by_cases h2 : y < x
    · have hd2 : decide (y < x) = true := decide_eq_true h2
      have HE := hid (show cmp1 x y = 1 by simp [cmp1, h1, h2])
      go_enter Try.func105, Try.ntmps105
      go_wp2_with (go_at_call 125; refine (isNaN_c _ _).mono ?_; rintro e w' ⟨rfl, rfl⟩)
      go_ret
      exact ⟨by rw [HE.out]; rfl, rfl⟩
    · have hd2 : decide (y < x) = false := decide_eq_false h2
      have HE := hid (show cmp1 x y = 0 by simp [cmp1, h1, h2])
      go_enter Try.func105, Try.ntmps105
      go_wp2_with (go_at_call 125; refine (isNaN_c _ _).mono ?_; rintro e w' ⟨rfl, rfl⟩)
      go_ret
      exact ⟨by rw [HE.out]; rfl, rfl⟩
def cmpV : List Int → List Int → Int
  | a :: l, b :: m => if cmp1 a b = 0 then cmpV l m else cmp1 a b
  | _, _ => 0
theorem cmp1_zero {x y : Int} : cmp1 x y = 0 ↔ x = y := by unfold cmp1; split <;> (try split) <;> omega
theorem cmpV_lt : ∀ (l m : List Int), decide (cmpV l m < 0) = lexLt l m
  | [], m => by simp [cmpV, lexLt]
  | _ :: _, [] => by simp [cmpV, lexLt]
  | a :: l, b :: m => by
    simp only [cmpV, lexLt]
    by_cases h : a = b
    · simp only [if_pos (cmp1_zero.2 h), if_pos h]
      exact cmpV_lt l m
    · simp only [if_neg (fun e => h (cmp1_zero.1 e)), if_neg h]
      refine decide_eq_decide.2 ?_
      unfold cmp1
      split
      · omega
      · split <;> omega
theorem cmpV_drop {xs ys : List Int} {k : Nat} (h : k < xs.length) (h2 : k < ys.length) : cmpV (xs.drop k) (ys.drop k) = if cmp1 xs[k] ys[k] = 0 then cmpV (xs.drop (k + 1)) (ys.drop (k + 1)) else cmp1 xs[k] ys[k] := by
  rw [List.drop_eq_getElem_cons h, List.drop_eq_getElem_cons h2]; simp only [cmpV]
theorem int_at {w : World} {F : Nat → Prop} {A : Option Addr} {n c : Nat} {xs : List Int} (h : Rd (tInt .i64) w F (.slice A n c) xs) (j : Nat) (hj : j < xs.length) :
    ∃ b o, A = some ⟨b, o, none⟩ ∧ F b ∧ b < w.heap.size ∧ w.cell? ⟨b, o + j, none⟩ = some (.int .i64 xs[j]) := by
  obtain ⟨b, o, cs, rfl, hF, hlt, hr, hu⟩ := h.at_ j hj
  have hr' : cs = [.int .i64 xs[j]] := hr
  subst hr'
  have := hu 0 _ rfl
  exact ⟨b, o, rfl, hF, hlt, by simpa [tInt, flat] using this⟩
set_option maxHeartbeats 1000000 in
theorem sCompare_c (v0 v1 : Value) (xs ys : List Int) (F : Nat → Prop) (w : World) (h0 : Rd (tInt .i64) w F v0 xs) (h1 : Rd (tInt .i64) w F v1 ys) (hl : xs.length = ys.length) :
    Calls Try.prog 73 #[v0, v1] w fun e w' => e = .returned (.int .i64 (cmpV xs ys)) ∧ w' = w := by
  obtain ⟨A0, c0, rfl, -, l0, -⟩ := id h0
  obtain ⟨A1, c1, rfl, -, l1, -⟩ := id h1
  have hle : xs.length ≤ ys.length := by omega
  have hge : ys.length ≤ xs.length := by omega
  have hd9 : decide ((xs.length : Int) < (ys.length : Int)) = false := decide_eq_false (by omega)
  clear hl
  go_enter Try.func73, Try.ntmps73
  go_wp2_with fail
  go_loop [11] (fun i => ∃ k : Nat, i = .int .i64 k ∧ k ≤ xs.length ∧ Hid (cmpV xs ys = cmpV (xs.drop k) (ys.drop k))) (fun i => xs.length - (intOf i).toNat)
  case atStart => exact ⟨0, rfl, Nat.zero_le _, hid rfl⟩
  case round =>
    obtain ⟨k, rfl, hk, HE⟩ := hrel
    by_cases hlt : k < xs.length
    · obtain ⟨b0, o0, rfl, _, _, a0⟩ := int_at h0 k hlt
      obtain ⟨b1, o1, rfl, _, _, a1⟩ := int_at h1 k (by omega)
      have hlt2 : k < ys.length := by omega
      have hg : decide ((ys.length : Int) ≤ (k : Int)) = false := decide_eq_false (by omega)
      have hc := cmpV_drop hlt hlt2
      by_cases he : cmp1 xs[k] ys[k] = 0
      · rw [if_pos he] at hc
        have HC := hid (HE.out.trans hc); clear hc
        have hn : (cmp1 xs[k] ys[k] != 0) = false := by simp [he]
        clear he
        go_wp2_with (go_at_call 105; refine (compare_c _ _ _).mono ?_; rintro e w' ⟨rfl, rfl⟩)
        go_round
        case rel => exact ⟨k + 1, by go_num, by omega, HC⟩
        case measure => simp [intOf]; omega
      · rw [if_neg he] at hc
        have HC := hid (HE.out.trans hc); clear hc
        have hn : (cmp1 xs[k] ys[k] != 0) = true := by simp [he]
        clear he
        go_wp2_with (go_at_call 105; refine (compare_c _ _ _).mono ?_; rintro e w' ⟨rfl, rfl⟩)
        go_ret
        exact ⟨by rw [HC.out]; rfl, rfl⟩
    · have HC := hid (show cmpV xs ys = 0 by rw [HE.out, List.drop_eq_nil_of_le (by omega), List.drop_eq_nil_of_le (by omega)]; rfl)
      go_wp2_with fail
      go_ret
      exact ⟨by rw [HC.out]; rfl, rfl⟩
end Go.Proofs.Ytmnccekljombmaa
