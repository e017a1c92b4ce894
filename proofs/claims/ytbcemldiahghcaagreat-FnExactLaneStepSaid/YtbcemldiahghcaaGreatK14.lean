/- Texts joined: Imp1, Par2, Imp2, Imp3. -/
import Derived.Test.YtbcemldiahghcaaGreatK10
import Derived.Test.YtbcemldiahghcaaGreatK13
import Derived.Test.YtbcemldiahghcaaGreatK06
import Derived.Test.YtbcemldiahghcaaGreatK08
namespace Go.Proofs.YtbcemldiahghcaaGreat
set_option linter.unusedVariables false
set_option linter.unusedSimpArgs false
set_option maxRecDepth 100000
open Go.RowKit
set_option maxHeartbeats 1000000 in
theorem event_c (e : EvD) (w : World) : Calls Tryz.prog 135 #[evAgg e] w fun q w' => q = .returned (evAgg e) ∧ Below w.heap.size w w' := by
  unfold evAgg
  go_enter Tryz.func135, Tryz.ntmps135
  go_wp2_with fail
  refine bodyPost_ret (v := .agg #[.int .i64 e.time, .int .i64 e.to, .int .i64 e.from_, .int .i64 e.count, .int .i64 e.n, .int .i64 e.kind, .int .i64 e.arg]) (by simp [results, Tryz.results135, go_sem]) rfl ⟨rfl, ?_⟩
  exact Ch.below0 (by repeat (first | (with_reducible exact Ch.refl _ _) | (with_reducible refine Ch.setCell ?_ (Or.inr (by simp)) _) | (with_reducible refine Ch.drew ?_) | (with_reducible refine Ch.alloc ?_ _)))
end Go.Proofs.YtbcemldiahghcaaGreat

namespace Go.Proofs.YtbcemldiahghcaaGreat
set_option linter.unusedVariables false
set_option linter.unusedSimpArgs false
set_option linter.unusedSectionVars false
open Go.RowKit
/-- number, the numbers it hangs on, what is known -/
abbrev Known := Nat × List Nat × (List Value → Value → Prop)
def PPL (l : List Known) (j : Nat) (u : Nat → Value) : Prop := match l with | [] => True | (i, ds, p) :: r => if j = i then p (ds.map u) (u j) else PPL r j u
def PPok (ops : Array Oper) : List Known → Bool | [] => true | (i, ds, _) :: r => ds.all (fun d => waits ops i d) && PPok ops r
theorem PPL_upd {ops : Array Oper} : ∀ (l : List Known), PPok ops l = true → ∀ j i u v, PPL l j u → i ≠ j → waits ops j i = false → PPL l j (updV u i v)
  | [], _, _, _, _, _, _, _, _ => trivial
  | (k, ds, p) :: r, h, j, i, u, v, hp, hij, hw => by
    simp only [PPok, Bool.and_eq_true] at h
    unfold PPL at hp ⊢
    split
    · rename_i hjk
      rw [if_pos hjk] at hp
      have h1 : updV u i v j = u j := by simp [updV, Ne.symm hij]
      have h2 : ds.map (updV u i v) = ds.map u := List.map_congr_left fun d hd => by
        have h3 := List.all_eq_true.1 h.1 d hd
        have : d ≠ i := fun e => by subst e; subst hjk; rw [hw] at h3; cases h3
        simp [updV, this]
      rw [h1, h2]; exact hp
    · rename_i hjk
      rw [if_neg hjk] at hp
      exact PPL_upd r h.2 j i u v hp hij hw
/-- number, the numbers it hangs on, what it holds -/
abbrev HeldD := Nat × List Nat × (List Value → Value → World → (Nat → Prop) → Prop)
def NL (l : List HeldD) (j : Nat) (u : Nat → Value) (w : World) (F : Nat → Prop) : Prop := match l with | [] => True | (i, ds, p) :: r => if j = i then p (ds.map u) (u j) w F else NL r j u w F
def NLok (ops : Array Oper) : List HeldD → Bool | [] => true | (i, ds, _) :: r => ds.all (fun d => waits ops i d) && NLok ops r
theorem NL_upd {ops : Array Oper} : ∀ (l : List HeldD), NLok ops l = true → ∀ j i u v w F, NL l j u w F → i ≠ j → waits ops j i = false → NL l j (updV u i v) w F
  | [], _, _, _, _, _, _, _, _, _, _ => trivial
  | (k, ds, p) :: r, h, j, i, u, v, w, F, hp, hij, hw => by
    simp only [NLok, Bool.and_eq_true] at h
    unfold NL at hp ⊢
    split
    · rename_i hjk
      rw [if_pos hjk] at hp
      have h1 : updV u i v j = u j := by simp [updV, Ne.symm hij]
      have h2 : ds.map (updV u i v) = ds.map u := List.map_congr_left fun d hd => by
        have h3 := List.all_eq_true.1 h.1 d hd
        have : d ≠ i := fun e => by subst e; subst hjk; rw [hw] at h3; cases h3
        simp [updV, this]
      rw [h1, h2]; exact hp
    · rename_i hjk
      rw [if_neg hjk] at hp
      exact NL_upd r h.2 j i u v w F hp hij hw
def MovesD (p : List Value → Value → World → (Nat → Prop) → Prop) : Prop := ∀ ds v w w' F, p ds v w F → (∀ k, F k → w'.heap[k]? = w.heap[k]?) → p ds v w' F
def MovesDL : List HeldD → Prop | [] => True | p :: r => MovesD p.2.2 ∧ MovesDL r
theorem NL_move : ∀ (l : List HeldD), MovesDL l → ∀ j u w w' F, NL l j u w F → (∀ k, F k → w'.heap[k]? = w.heap[k]?) → NL l j u w' F
  | [], _, _, _, _, _, _, _, _ => trivial
  | (i, ds, p) :: r, hl, j, u, w, w', F, h, hm => by
    unfold NL at h ⊢
    split
    · rename_i hj; rw [if_pos hj] at h; exact hl.1 _ _ w w' F h hm
    · rename_i hj; rw [if_neg hj] at h; exact NL_move r hl.2 j u w w' F h hm
theorem there_of_block {w : World} {g n : Nat} {cs : Array Value} {t : TypeId} (h : w.heap[g]? = some (.cells cs t (0, 0))) (hn : n ≤ cs.size) : w.there g 0 n := fun i hi => by
  have hlt : i < cs.size := by omega
  exact ⟨by simp [World.cell?, h, hlt], by simp [World.frozen?, h]⟩
section
variable {P : Program} {o : Oper} {a : Act} {w : World} {K : Act → World → Prop} {Q : Exit → Act → World → Prop}
theorem wp_move {x : Operand} (ho : o.op = .move x ∨ o.op = .assign x) (h : K (a.put o.dst (a.eval x)) w) : o.wp P a w K Q := by
  unfold Oper.wp execOp
  rcases ho with ho | ho
  all_goals
    simp only [ho, Sem.run_pure]
    exact h
theorem wp_extract {x : Operand} {n : Nat} {vs : Array Value} {v : Value} (ho : o.op = .extract x n) (hx : a.eval x = .tuple vs) (hv : vs[n]? = some v) (h : K (a.put o.dst v) w) : o.wp P a w K Q := by
  unfold Oper.wp execOp
  simp only [ho, hx, Instr.extract, hv, Sem.run_bind, Sem.run_pure, Result.andThen_ok]
  exact h
end
/- A slot behind many puts. -/
def dlOut (k : Nat) : List (Nat × Option Tmp) → Bool | [] => true | p :: r => p.2 != some k && dlOut k r
def dlIn (k i : Nat) : List (Nat × Option Tmp) → Bool | [] => false | p :: r => if p.2 == some k then p.1 == i && dlOut k r else dlIn k i r
theorem put_tmp_ne (a : Act) (d : Option Tmp) (v : Value) (k : Nat) (h : d ≠ some k) : (a.put d v).tmps[k]? = a.tmps[k]? := by
  cases d with
  | none => rfl
  | some d =>
    simp only [Act.put]
    rw [Array.getElem?_setIfInBounds_ne (fun e => h (by rw [e]))]
theorem putL_out {k : Nat} : ∀ (dl : List (Nat × Option Tmp)) (a : Act) (u : Nat → Value), dlOut k dl = true → (putL dl a u).tmps[k]? = a.tmps[k]?
  | [], _, _, _ => rfl
  | (i, d) :: r, a, u, h => by
    simp only [dlOut, Bool.and_eq_true, bne_iff_ne] at h
    rw [putL_cons, putL_out r _ u h.2, put_tmp_ne _ _ _ _ h.1]
theorem put_size (a : Act) (d : Option Tmp) (v : Value) : (a.put d v).tmps.size = a.tmps.size := by
  cases d with
  | none => rfl
  | some d => simp [Act.put]
theorem putL_in {k i : Nat} : ∀ (dl : List (Nat × Option Tmp)) (a : Act) (u : Nat → Value), dlIn k i dl = true → k < a.tmps.size → (putL dl a u).tmps[k]? = some (u i)
  | [], _, _, h, _ => by cases h
  | (j, d) :: r, a, u, h, hk => by
    unfold dlIn at h
    split at h
    · rename_i hd
      simp only [Bool.and_eq_true, beq_iff_eq] at h hd
      rw [putL_cons, putL_out r _ u h.2]
      subst hd
      rw [h.1]
      simp only [Act.put]
      rw [Array.getElem?_setIfInBounds_self_of_lt hk]
    · rw [putL_cons, putL_in r _ u h (by rw [put_size]; exact hk)]
theorem eval_of {a : Act} {k : Nat} {v : Value} (h : a.tmps[k]? = some v) : a.eval (.tmp k) = v := by
  show a.tmps.getD k undef = v
  rw [Array.getD_eq_getD_getElem?, h]; rfl
theorem wp_move' {P : Program} {o : Oper} {a : Act} {w : World} {K : Act → World → Prop} {Q : Exit → Act → World → Prop} {x : Operand} {v : Value} (ho : o.op = .move x ∨ o.op = .assign x) (hx : a.eval x = v) (h : K (a.put o.dst v) w) : o.wp P a w K Q := by
  subst hx; exact wp_move ho h
theorem grown_below {W w1 : World} {B : Nat} {v : Value} (hb : Below B W W) (hG : W.grownBy w1 v.ownBlock) (hv : ∀ k, v.ownBlock = some k → B ≤ k) (hB : B ≤ W.heap.size) : Below B W w1 :=
  ⟨hG.os, hG.tape, hG.output, hG.size, fun k hk => hG.block k (by omega) (fun e => by have := hv k e.symm; omega)⟩
end Go.Proofs.YtbcemldiahghcaaGreat

namespace Go.Proofs.YtbcemldiahghcaaGreat
set_option linter.unusedVariables false
set_option linter.unusedSimpArgs false
set_option maxRecDepth 100000
open Go.RowKit
set_option maxHeartbeats 1000000 in
theorem cloneEv_c (v : Value) (xs : List EvD) (F : Nat → Prop) (w : World) (h : Rd tEv w F v xs) (hl : xs.length ≤ 1000) :
    Calls Tryz.prog 123 #[v] w fun q w' => ∃ u, q = .returned u ∧ Ow tEv 80 w' (fun k => w.heap.size ≤ k) u xs ∧ Below w.heap.size w w' := by
  obtain ⟨A, c, rfl, m0⟩ := h.shape
  cases A with
  | none =>
    have h0 : xs = [] := by
      obtain ⟨A', c', he, _, _, h3⟩ := h
      injection he with e1 e2 e3
      subst e1
      cases xs with
      | nil => rfl
      | cons x xs => obtain ⟨b, o, hb, _⟩ := h3 (by simp); cases hb
    subst h0
    have hnil : ∀ w, (binOp .eql 25 (.slice none 0 c) (.slice none 0 0)).run Tryz.prog w = .ok (.bool true) w := fun w => Lib.run_eql_slice_nil w 25 80 none 0 c 0 0 Tryz.underlying25
    go_enter Tryz.func123, Tryz.ntmps123
    go_wp2_with fail
    go_ret
    exact ⟨_, rfl, Ow.nil _ _ _ _, by repeat (first | exact Below.refl _ _ | refine balloc ?_ _)⟩
  | some a =>
    have hnil : ∀ w, (binOp .eql 25 (.slice (some a) xs.length c) (.slice none 0 0)).run Tryz.prog w = .ok (.bool false) w := fun w => Lib.run_eql_slice_nil w 25 80 (some a) xs.length c 0 0 Tryz.underlying25
    go_enter Tryz.func123, Tryz.ntmps123
    go_wp2_with (at_builtin; refine ow_concat rfl 25 rfl Tryz.underlying25 _ 56 info_ev rfl (by decide) (by decide) rfl (Ow.empty tEv (F := fun k => w.heap.size ≤ k) (heap_at rfl) (Nat.le_refl _)) rfl (h.below (balloc (Below.refl _ _) _)) (by first | omega | (simp; done) | (simp; omega)) (fun k => w.heap.size ≤ k) (fun _ hk => hk) (fun k hk => by first | omega | (simp at hk; omega)) ?_; intro v9 w9 hO9 hG9 hat9; have hb9 : Below w.heap.size w w9 := (balloc (Below.refl _ _) _).trans (grown_below (Below.refl _ _) hG9 (fun k hk => Nat.le_of_eq (Option.some.inj hk)) (by first | omega | simp)))
    go_ret
    rw [List.nil_append] at hO9
    exact ⟨_, rfl, hO9, hb9⟩
set_option maxHeartbeats 1000000 in
theorem cloneOut_c (v : Value) (xs : List OutD) (F : Nat → Prop) (w : World) (h : Rd tOut w F v xs) (hl : xs.length ≤ 1000) :
    Calls Tryz.prog 124 #[v] w fun q w' => ∃ u, q = .returned u ∧ Ow tOut 128 w' (fun k => w.heap.size ≤ k) u xs ∧ Below w.heap.size w w' := by
  obtain ⟨A, c, rfl, m0⟩ := h.shape
  cases A with
  | none =>
    have h0 : xs = [] := by
      obtain ⟨A', c', he, _, _, h3⟩ := h
      injection he with e1 e2 e3
      subst e1
      cases xs with
      | nil => rfl
      | cons x xs => obtain ⟨b, o, hb, _⟩ := h3 (by simp); cases hb
    subst h0
    have hnil : ∀ w, (binOp .eql 26 (.slice none 0 c) (.slice none 0 0)).run Tryz.prog w = .ok (.bool true) w := fun w => Lib.run_eql_slice_nil w 26 128 none 0 c 0 0 Tryz.underlying26
    go_enter Tryz.func124, Tryz.ntmps124
    go_wp2_with fail
    go_ret
    exact ⟨_, rfl, Ow.nil _ _ _ _, by repeat (first | exact Below.refl _ _ | refine balloc ?_ _)⟩
  | some a =>
    have hnil : ∀ w, (binOp .eql 26 (.slice (some a) xs.length c) (.slice none 0 0)).run Tryz.prog w = .ok (.bool false) w := fun w => Lib.run_eql_slice_nil w 26 128 (some a) xs.length c 0 0 Tryz.underlying26
    go_enter Tryz.func124, Tryz.ntmps124
    go_wp2_with (at_builtin; refine ow_concat rfl 26 rfl Tryz.underlying26 _ 40 info_out rfl (by decide) (by decide) rfl (Ow.empty tOut (F := fun k => w.heap.size ≤ k) (heap_at rfl) (Nat.le_refl _)) rfl (h.below (balloc (Below.refl _ _) _)) (by first | omega | (simp; done) | (simp; omega)) (fun k => w.heap.size ≤ k) (fun _ hk => hk) (fun k hk => by first | omega | (simp at hk; omega)) ?_; intro v9 w9 hO9 hG9 hat9; have hb9 : Below w.heap.size w w9 := (balloc (Below.refl _ _) _).trans (grown_below (Below.refl _ _) hG9 (fun k hk => Nat.le_of_eq (Option.some.inj hk)) (by first | omega | simp)))
    go_ret
    rw [List.nil_append] at hO9
    exact ⟨_, rfl, hO9, hb9⟩
end Go.Proofs.YtbcemldiahghcaaGreat

namespace Go.Proofs.YtbcemldiahghcaaGreat
set_option linter.unusedVariables false
set_option linter.unusedSimpArgs false
set_option maxRecDepth 100000
open Go.RowKit
end Go.Proofs.YtbcemldiahghcaaGreat
