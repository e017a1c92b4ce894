/- Texts joined: Ey1, Par2, Ey4. -/
import Derived.Test.YtlinephiindncaaJ15
import Derived.Test.YtlinephiindncaaJ11
import Derived.Test.YtlinephiindncaaJ04
namespace Go.Proofs.Ytlinephiindncaa
set_option linter.unusedVariables false
set_option linter.unusedSimpArgs false
set_option maxRecDepth 100000
open Go.RowKit
theorem szTo_neg {left n t : Int} (h : szTo left n = t) (ht : t < 0) (hl : 0 ≤ left) : left - n < 0 ∧ t = -1 := by
  unfold szTo at h; split at h <;> omega
theorem szTo_pos {left n t : Int} (h : szTo left n = t) (ht : ¬ t < 0) : t = left - n ∧ 0 ≤ t := by
  unfold szTo at h; split at h <;> omega
theorem szTo_is {left n : Int} (h : left - n < 0) : szTo left n = -1 := by unfold szTo; rw [if_pos h]
theorem szTo_at {left n : Int} (h : 0 ≤ left - n) : szTo left n = left - n := by unfold szTo; rw [if_neg (by omega)]
def appsSz : List AppD → Int
  | [] => 0
  | r :: rs => (r.rules.length + rulesSz r.rules) + appsSz rs
theorem appsSz_nonneg : ∀ rs, 0 ≤ appsSz rs
  | [] => Int.le_refl _
  | r :: rs => by have := appsSz_nonneg rs; have h2 : 0 ≤ (r.rules.length + rulesSz r.rules) := (by have := rulesSz_nonneg r.rules; omega); simp only [appsSz]; omega
theorem appsSz_take : ∀ (rs : List AppD) (k : Nat) (h : k < rs.length), appsSz (rs.take (k + 1)) = appsSz (rs.take k) + (fun r : AppD => ((r.rules.length + rulesSz r.rules) : Int)) rs[k]
  | r :: rs, 0, h => by simp [appsSz]
  | r :: rs, k + 1, h => by
    have := appsSz_take rs k (by simpa using h)
    simp only [List.take_succ_cons, appsSz, List.getElem_cons_succ] at this ⊢
    omega
theorem appsSz_le : ∀ (rs : List AppD) (k : Nat), appsSz (rs.take k) ≤ appsSz rs
  | [], k => by simp
  | r :: rs, 0 => by simpa [appsSz] using appsSz_nonneg (r :: rs)
  | r :: rs, k + 1 => by have := appsSz_le rs k; simp only [List.take_succ_cons, appsSz]; omega
theorem appsSz_mem : ∀ (rs : List AppD) (r : AppD), r ∈ rs → (r.rules.length + rulesSz r.rules) ≤ appsSz rs
  | r' :: rs, r, h => by
    rcases List.mem_cons.1 h with rfl | h
    · have := appsSz_nonneg rs; simp only [appsSz]; omega
    · have := appsSz_mem rs r h
      have h2 : 0 ≤ (fun r : AppD => ((r.rules.length + rulesSz r.rules) : Int)) r' := (fun r : AppD => (show 0 ≤ ((r.rules.length + rulesSz r.rules) : Int) from (by have := rulesSz_nonneg r.rules; omega))) r'
      simp only [appsSz] at h2 ⊢; omega
end Go.Proofs.Ytlinephiindncaa

namespace Go.Proofs.Ytlinephiindncaa
set_option linter.unusedVariables false
set_option linter.unusedSimpArgs false
set_option linter.unusedSectionVars false
open Go.RowKit
/-- number, the numbers it hangs on, what is known -/
abbrev Known := Nat × List Nat × (List Value → Value → Prop)
def PPL (l : List Known) (j : Nat) (u : Nat → Value) : Prop := match l with | [] => True | (i, ds, p) :: r => if j = i then p (ds.map u) (u j) else PPL r j u
def PPok (ops : Array Oper) : List Known → Bool | [] => true | (i, ds, _) :: r => ds.all (fun d => waits ops i d) && PPok ops r
theorem PPL_upd {ops : Array Oper} : ∀ (l : List Known), PPok ops l = true → ∀ j i u v, PPL l j u → i ≠ j → waits ops j i = false → PPL l j (updV u i v)
  | [], _, _, _, _, _, _, _, _ => trivial
  | (k, ds, p) :: r, h, j, i, u, v, hp, hij, hw => by
    simp only [PPok, Bool.and_eq_true] at h
    unfold PPL at hp ⊢
    split
    · rename_i hjk
      rw [if_pos hjk] at hp
      have h1 : updV u i v j = u j := by simp [updV, Ne.symm hij]
      have h2 : ds.map (updV u i v) = ds.map u := List.map_congr_left fun d hd => by
        have h3 := List.all_eq_true.1 h.1 d hd
        have : d ≠ i := fun e => by subst e; subst hjk; rw [hw] at h3; cases h3
        simp [updV, this]
      rw [h1, h2]; exact hp
    · rename_i hjk
      rw [if_neg hjk] at hp
      exact PPL_upd r h.2 j i u v hp hij hw
/-- number, the numbers it hangs on, what it holds -/
abbrev HeldD := Nat × List Nat × (List Value → Value → World → (Nat → Prop) → Prop)
def NL (l : List HeldD) (j : Nat) (u : Nat → Value) (w : World) (F : Nat → Prop) : Prop := match l with | [] => True | (i, ds, p) :: r => if j = i then p (ds.map u) (u j) w F else NL r j u w F
def NLok (ops : Array Oper) : List HeldD → Bool | [] => true | (i, ds, _) :: r => ds.all (fun d => waits ops i d) && NLok ops r
theorem NL_upd {ops : Array Oper} : ∀ (l : List HeldD), NLok ops l = true → ∀ j i u v w F, NL l j u w F → i ≠ j → waits ops j i = false → NL l j (updV u i v) w F
  | [], _, _, _, _, _, _, _, _, _, _ => trivial
  | (k, ds, p) :: r, h, j, i, u, v, w, F, hp, hij, hw => by
    simp only [NLok, Bool.and_eq_true] at h
    unfold NL at hp ⊢
    split
    · rename_i hjk
      rw [if_pos hjk] at hp
      have h1 : updV u i v j = u j := by simp [updV, Ne.symm hij]
      have h2 : ds.map (updV u i v) = ds.map u := List.map_congr_left fun d hd => by
        have h3 := List.all_eq_true.1 h.1 d hd
        have : d ≠ i := fun e => by subst e; subst hjk; rw [hw] at h3; cases h3
        simp [updV, this]
      rw [h1, h2]; exact hp
    · rename_i hjk
      rw [if_neg hjk] at hp
      exact NL_upd r h.2 j i u v w F hp hij hw
def MovesD (p : List Value → Value → World → (Nat → Prop) → Prop) : Prop := ∀ ds v w w' F, p ds v w F → (∀ k, F k → w'.heap[k]? = w.heap[k]?) → p ds v w' F
def MovesDL : List HeldD → Prop | [] => True | p :: r => MovesD p.2.2 ∧ MovesDL r
theorem NL_move : ∀ (l : List HeldD), MovesDL l → ∀ j u w w' F, NL l j u w F → (∀ k, F k → w'.heap[k]? = w.heap[k]?) → NL l j u w' F
  | [], _, _, _, _, _, _, _, _ => trivial
  | (i, ds, p) :: r, hl, j, u, w, w', F, h, hm => by
    unfold NL at h ⊢
    split
    · rename_i hj; rw [if_pos hj] at h; exact hl.1 _ _ w w' F h hm
    · rename_i hj; rw [if_neg hj] at h; exact NL_move r hl.2 j u w w' F h hm
theorem there_of_block {w : World} {g n : Nat} {cs : Array Value} {t : TypeId} (h : w.heap[g]? = some (.cells cs t (0, 0))) (hn : n ≤ cs.size) : w.there g 0 n := fun i hi => by
  have hlt : i < cs.size := by omega
  exact ⟨by simp [World.cell?, h, hlt], by simp [World.frozen?, h]⟩
section
variable {P : Program} {o : Oper} {a : Act} {w : World} {K : Act → World → Prop} {Q : Exit → Act → World → Prop}
theorem wp_move {x : Operand} (ho : o.op = .move x ∨ o.op = .assign x) (h : K (a.put o.dst (a.eval x)) w) : o.wp P a w K Q := by
  unfold Oper.wp execOp
  rcases ho with ho | ho
  all_goals
    simp only [ho, Sem.run_pure]
    exact h
theorem wp_extract {x : Operand} {n : Nat} {vs : Array Value} {v : Value} (ho : o.op = .extract x n) (hx : a.eval x = .tuple vs) (hv : vs[n]? = some v) (h : K (a.put o.dst v) w) : o.wp P a w K Q := by
  unfold Oper.wp execOp
  simp only [ho, hx, Instr.extract, hv, Sem.run_bind, Sem.run_pure, Result.andThen_ok]
  exact h
end
/- A slot behind many puts. -/
def dlOut (k : Nat) : List (Nat × Option Tmp) → Bool | [] => true | p :: r => p.2 != some k && dlOut k r
def dlIn (k i : Nat) : List (Nat × Option Tmp) → Bool | [] => false | p :: r => if p.2 == some k then p.1 == i && dlOut k r else dlIn k i r
theorem put_tmp_ne (a : Act) (d : Option Tmp) (v : Value) (k : Nat) (h : d ≠ some k) : (a.put d v).tmps[k]? = a.tmps[k]? := by
  cases d with
  | none => rfl
  | some d =>
    simp only [Act.put]
    rw [Array.getElem?_setIfInBounds_ne (fun e => h (by rw [e]))]
theorem putL_out {k : Nat} : ∀ (dl : List (Nat × Option Tmp)) (a : Act) (u : Nat → Value), dlOut k dl = true → (putL dl a u).tmps[k]? = a.tmps[k]?
  | [], _, _, _ => rfl
  | (i, d) :: r, a, u, h => by
    simp only [dlOut, Bool.and_eq_true, bne_iff_ne] at h
    rw [putL_cons, putL_out r _ u h.2, put_tmp_ne _ _ _ _ h.1]
theorem put_size (a : Act) (d : Option Tmp) (v : Value) : (a.put d v).tmps.size = a.tmps.size := by
  cases d with
  | none => rfl
  | some d => simp [Act.put]
theorem putL_in {k i : Nat} : ∀ (dl : List (Nat × Option Tmp)) (a : Act) (u : Nat → Value), dlIn k i dl = true → k < a.tmps.size → (putL dl a u).tmps[k]? = some (u i)
  | [], _, _, h, _ => by cases h
  | (j, d) :: r, a, u, h, hk => by
    unfold dlIn at h
    split at h
    · rename_i hd
      simp only [Bool.and_eq_true, beq_iff_eq] at h hd
      rw [putL_cons, putL_out r _ u h.2]
      subst hd
      rw [h.1]
      simp only [Act.put]
      rw [Array.getElem?_setIfInBounds_self_of_lt hk]
    · rw [putL_cons, putL_in r _ u h (by rw [put_size]; exact hk)]
theorem eval_of {a : Act} {k : Nat} {v : Value} (h : a.tmps[k]? = some v) : a.eval (.tmp k) = v := by
  show a.tmps.getD k undef = v
  rw [Array.getD_eq_getD_getElem?, h]; rfl
theorem z_name {P : Program} {ops : Array Oper} {Q : Exit → Act → World → Prop} {S : World → Prop} {r : Pz} {a : Act} {w : World} (h : ∀ a0, a0 = a → wpZ P ops Q S r a0 w) : wpZ P ops Q S r a w := h a rfl
theorem wp_move' {P : Program} {o : Oper} {a : Act} {w : World} {K : Act → World → Prop} {Q : Exit → Act → World → Prop} {x : Operand} {v : Value} (ho : o.op = .move x ∨ o.op = .assign x) (hx : a.eval x = v) (h : K (a.put o.dst v) w) : o.wp P a w K Q := by
  subst hx; exact wp_move ho h
/-- A row of another type stays where one row is written. -/
theorem Ow.chApart {α β : Type} {d : Ty α} {e e' : TypeId} {cells : β → List Value} {sz : Nat} {hl : ∀ x, (cells x).length = sz} {ho : ∀ x, ∀ u ∈ cells x, u.oneCell' = true} {w w8 : World} {F F' : Nat → Prop} {v v' : Value} {xs : List α} {ys : List β} {g : Nat}
    (h : Ow d e w F v xs) (hg : v.ownBlock = some g) (h' : Ow (flat cells sz hl ho) e' w F' v' ys) (hne : e ≠ e') (hC : Ch (fun k => k = g) w w8) : Ow (flat cells sz hl ho) e' w8 F' v' ys :=
  (h'.tight.ch hC (fun k hk e1 => h.apart h' hne g hg (e1 ▸ hk))).mono (fun k hk => h'.inF hk)
theorem Ow.blkApart {α : Type} {d : Ty α} {e t : TypeId} {w w8 : World} {F : Nat → Prop} {v : Value} {xs : List α} {g k : Nat} {cs : Array Value} {fr : Nat × Nat}
    (h : Ow d e w F v xs) (hg : v.ownBlock = some g) (hne : e ≠ t) (hk : w.heap[k]? = some (.cells cs t fr)) (hC : Ch (fun k => k = g) w w8) : w8.heap[k]? = some (.cells cs t fr) :=
  hC.heap hk (fun e1 => h.type_ne hk hne (by rw [e1]; exact hg))
theorem grown_below {W w1 : World} {B : Nat} {v : Value} (hb : Below B W W) (hG : W.grownBy w1 v.ownBlock) (hv : ∀ k, v.ownBlock = some k → B ≤ k) (hB : B ≤ W.heap.size) : Below B W w1 :=
  ⟨hG.os, hG.tape, hG.output, hG.size, fun k hk => hG.block k (by omega) (fun e => by have := hv k e.symm; omega)⟩
end Go.Proofs.Ytlinephiindncaa

namespace Go.Proofs.Ytlinephiindncaa
set_option linter.unusedVariables false
set_option linter.unusedSimpArgs false
set_option maxRecDepth 100000
open Go.RowKit
/-- A row of another type stays where one row is written (the row may be none). -/
theorem Ow.chOther {α β : Type} {d : Ty α} {e e' : TypeId} {cells : β → List Value} {sz : Nat} {hl : ∀ x, (cells x).length = sz} {ho : ∀ x, ∀ u ∈ cells x, u.oneCell' = true} {w w8 : World} {F F' : Nat → Prop} {v v' : Value} {xs : List α} {ys : List β}
    (h : Ow d e w F v xs) (h' : Ow (flat cells sz hl ho) e' w F' v' ys) (hne : e ≠ e') (hC : Ch (fun q => v.ownBlock = some q) w w8) : Ow (flat cells sz hl ho) e' w8 F' v' ys :=
  (h'.tight.ch hC (fun k hk e1 => h.apart h' hne k e1 hk)).mono (fun k hk => h'.inF hk)
/-- An own row's elements, each with its own memory. -/
theorem Ow.elems {α : Type} {d : Ty α} {e : TypeId} {w : World} {F : Nat → Prop} {v : Value} {xs : List α} (h : Ow d e w F v xs) :
    ∃ Fs : Nat → Nat → Prop, (∀ j q, Fs j q → F q ∧ some q ≠ v.ownBlock) ∧ (∀ i j q, i ≠ j → Fs i q → Fs j q → False) ∧
      ∀ (j : Nat) (hj : j < xs.length), ∃ csj, d.rel w (Fs j) xs[j] csj ∧ ∀ g, v.ownBlock = some g → ∀ i u, csj[i]? = some u → w.cell? ⟨g, j * d.sz + i, none⟩ = some u := by
  obtain ⟨cs, Fs, h1, h2, h3, h4, h5⟩ := h
  refine ⟨Fs, h3, h4, fun j hj => ⟨_, h5 j _ (List.getElem?_eq_getElem hj), fun g hg i u hi => ?_⟩⟩
  rw [List.getElem?_take] at hi
  split at hi
  · rw [List.getElem?_drop] at hi
    have := h1.cells hg (j * d.sz + i) u hi
    have ha : (⟨g, 0, none⟩ : Addr).add (j * d.sz + i) = ⟨g, j * d.sz + i, none⟩ := by unfold Addr.add; split <;> simp_all
    rwa [ha] at this
  · cases hi
def mkSt (m : Int) : StD := ⟨m, m + 1, m + 1 + 1⟩
def appsMk : List AppD → Int
  | [] => 0
  | r :: rs => ((r.rules.length : Int) + 5 * rulesSz r.rules) + appsMk rs
theorem appsMk_nonneg : ∀ rs, 0 ≤ appsMk rs
  | [] => Int.le_refl _
  | r :: rs => by have := appsMk_nonneg rs; have h2 : 0 ≤ ((r.rules.length : Int) + 5 * rulesSz r.rules) := (by have := rulesSz_nonneg r.rules; omega); simp only [appsMk]; omega
theorem appsMk_take : ∀ (rs : List AppD) (k : Nat) (h : k < rs.length), appsMk (rs.take (k + 1)) = appsMk (rs.take k) + (fun r : AppD => (((r.rules.length : Int) + 5 * rulesSz r.rules) : Int)) rs[k]
  | r :: rs, 0, h => by simp [appsMk]
  | r :: rs, k + 1, h => by
    have := appsMk_take rs k (by simpa using h)
    simp only [List.take_succ_cons, appsMk, List.getElem_cons_succ] at this ⊢
    omega
theorem appsMk_le : ∀ (rs : List AppD) (k : Nat), appsMk (rs.take k) ≤ appsMk rs
  | [], k => by simp
  | r :: rs, 0 => by simpa [appsMk] using appsMk_nonneg (r :: rs)
  | r :: rs, k + 1 => by have := appsMk_le rs k; simp only [List.take_succ_cons, appsMk]; omega
theorem appsMk_mem : ∀ (rs : List AppD) (r : AppD), r ∈ rs → ((r.rules.length : Int) + 5 * rulesSz r.rules) ≤ appsMk rs
  | r' :: rs, r, h => by
    rcases List.mem_cons.1 h with rfl | h
    · have := appsMk_nonneg rs; simp only [appsMk]; omega
    · have := appsMk_mem rs r h
      have h2 : 0 ≤ (fun r : AppD => (((r.rules.length : Int) + 5 * rulesSz r.rules) : Int)) r' := (fun r : AppD => (show 0 ≤ (((r.rules.length : Int) + 5 * rulesSz r.rules) : Int) from (by have := rulesSz_nonneg r.rules; omega))) r'
      simp only [appsMk] at h2 ⊢; omega
theorem appsMk_bd : ∀ rs, appsMk rs ≤ 5 * appsSz rs
  | [] => Int.le_refl _
  | r :: rs => by have := appsMk_bd rs; have := rulesSz_nonneg r.rules; simp only [appsMk, appsSz]; omega
def mkSim (m : Int) (a b c : Nat) : SimD := ⟨mkRow mkSt 3 m a, mkRow mkEv 7 (m + 3 * a) b, mkRow mkOut 5 (m + 3 * a + 7 * b) c⟩
end Go.Proofs.Ytlinephiindncaa
