/- Texts joined: Par2, Ey4, SimQ. -/
import Derived.Test.YtbcemldiahghcaaGreatJ11
import Derived.Test.YtbcemldiahghcaaGreatJ09
import Derived.Test.YtbcemldiahghcaaGreatJ17
import Derived.Test.YtbcemldiahghcaaGreatJ12
import Derived.Test.YtbcemldiahghcaaGreatJ06
namespace Go.Proofs.YtbcemldiahghcaaGreat
set_option linter.unusedVariables false
set_option linter.unusedSimpArgs false
set_option linter.unusedSectionVars false
open Go.RowKit
/-- number, the numbers it hangs on, what is known -/
abbrev Known := Nat × List Nat × (List Value → Value → Prop)
def PPL (l : List Known) (j : Nat) (u : Nat → Value) : Prop := match l with | [] => True | (i, ds, p) :: r => if j = i then p (ds.map u) (u j) else PPL r j u
def PPok (ops : Array Oper) : List Known → Bool | [] => true | (i, ds, _) :: r => ds.all (fun d => waits ops i d) && PPok ops r
theorem PPL_upd {ops : Array Oper} : ∀ (l : List Known), PPok ops l = true → ∀ j i u v, PPL l j u → i ≠ j → waits ops j i = false → PPL l j (updV u i v)
  | [], _, _, _, _, _, _, _, _ => trivial
  | (k, ds, p) :: r, h, j, i, u, v, hp, hij, hw => by
    simp only [PPok, Bool.and_eq_true] at h
    unfold PPL at hp ⊢
    split
    · rename_i hjk
      rw [if_pos hjk] at hp
      have h1 : updV u i v j = u j := by simp [updV, Ne.symm hij]
      have h2 : ds.map (updV u i v) = ds.map u := List.map_congr_left fun d hd => by
        have h3 := List.all_eq_true.1 h.1 d hd
        have : d ≠ i := fun e => by subst e; subst hjk; rw [hw] at h3; cases h3
        simp [updV, this]
      rw [h1, h2]; exact hp
    · rename_i hjk
      rw [if_neg hjk] at hp
      exact PPL_upd r h.2 j i u v hp hij hw
/-- number, the numbers it hangs on, what it holds -/
abbrev HeldD := Nat × List Nat × (List Value → Value → World → (Nat → Prop) → Prop)
def NL (l : List HeldD) (j : Nat) (u : Nat → Value) (w : World) (F : Nat → Prop) : Prop := match l with | [] => True | (i, ds, p) :: r => if j = i then p (ds.map u) (u j) w F else NL r j u w F
def NLok (ops : Array Oper) : List HeldD → Bool | [] => true | (i, ds, _) :: r => ds.all (fun d => waits ops i d) && NLok ops r
theorem NL_upd {ops : Array Oper} : ∀ (l : List HeldD), NLok ops l = true → ∀ j i u v w F, NL l j u w F → i ≠ j → waits ops j i = false → NL l j (updV u i v) w F
  | [], _, _, _, _, _, _, _, _, _, _ => trivial
  | (k, ds, p) :: r, h, j, i, u, v, w, F, hp, hij, hw => by
    simp only [NLok, Bool.and_eq_true] at h
    unfold NL at hp ⊢
    split
    · rename_i hjk
      rw [if_pos hjk] at hp
      have h1 : updV u i v j = u j := by simp [updV, Ne.symm hij]
      have h2 : ds.map (updV u i v) = ds.map u := List.map_congr_left fun d hd => by
        have h3 := List.all_eq_true.1 h.1 d hd
        have : d ≠ i := fun e => by subst e; subst hjk; rw [hw] at h3; cases h3
        simp [updV, this]
      rw [h1, h2]; exact hp
    · rename_i hjk
      rw [if_neg hjk] at hp
      exact NL_upd r h.2 j i u v w F hp hij hw
def MovesD (p : List Value → Value → World → (Nat → Prop) → Prop) : Prop := ∀ ds v w w' F, p ds v w F → (∀ k, F k → w'.heap[k]? = w.heap[k]?) → p ds v w' F
def MovesDL : List HeldD → Prop | [] => True | p :: r => MovesD p.2.2 ∧ MovesDL r
theorem NL_move : ∀ (l : List HeldD), MovesDL l → ∀ j u w w' F, NL l j u w F → (∀ k, F k → w'.heap[k]? = w.heap[k]?) → NL l j u w' F
  | [], _, _, _, _, _, _, _, _ => trivial
  | (i, ds, p) :: r, hl, j, u, w, w', F, h, hm => by
    unfold NL at h ⊢
    split
    · rename_i hj; rw [if_pos hj] at h; exact hl.1 _ _ w w' F h hm
    · rename_i hj; rw [if_neg hj] at h; exact NL_move r hl.2 j u w w' F h hm
theorem there_of_block {w : World} {g n : Nat} {cs : Array Value} {t : TypeId} (h : w.heap[g]? = some (.cells cs t (0, 0))) (hn : n ≤ cs.size) : w.there g 0 n := fun i hi => by
  have hlt : i < cs.size := by omega
  exact ⟨by simp [World.cell?, h, hlt], by simp [World.frozen?, h]⟩
section
variable {P : Program} {o : Oper} {a : Act} {w : World} {K : Act → World → Prop} {Q : Exit → Act → World → Prop}
theorem wp_move {x : Operand} (ho : o.op = .move x ∨ o.op = .assign x) (h : K (a.put o.dst (a.eval x)) w) : o.wp P a w K Q := by
  unfold Oper.wp execOp
  rcases ho with ho | ho
  all_goals
    simp only [ho, Sem.run_pure]
    exact h
theorem wp_extract {x : Operand} {n : Nat} {vs : Array Value} {v : Value} (ho : o.op = .extract x n) (hx : a.eval x = .tuple vs) (hv : vs[n]? = some v) (h : K (a.put o.dst v) w) : o.wp P a w K Q := by
  unfold Oper.wp execOp
  simp only [ho, hx, Instr.extract, hv, Sem.run_bind, Sem.run_pure, Result.andThen_ok]
  exact h
end
/- A slot behind many puts. -/
def dlOut (k : Nat) : List (Nat × Option Tmp) → Bool | [] => true | p :: r => p.2 != some k && dlOut k r
def dlIn (k i : Nat) : List (Nat × Option Tmp) → Bool | [] => false | p :: r => if p.2 == some k then p.1 == i && dlOut k r else dlIn k i r
theorem put_tmp_ne (a : Act) (d : Option Tmp) (v : Value) (k : Nat) (h : d ≠ some k) : (a.put d v).tmps[k]? = a.tmps[k]? := by
  cases d with
  | none => rfl
  | some d =>
    simp only [Act.put]
    rw [Array.getElem?_setIfInBounds_ne (fun e => h (by rw [e]))]
theorem putL_out {k : Nat} : ∀ (dl : List (Nat × Option Tmp)) (a : Act) (u : Nat → Value), dlOut k dl = true → (putL dl a u).tmps[k]? = a.tmps[k]?
  | [], _, _, _ => rfl
  | (i, d) :: r, a, u, h => by
    simp only [dlOut, Bool.and_eq_true, bne_iff_ne] at h
    rw [putL_cons, putL_out r _ u h.2, put_tmp_ne _ _ _ _ h.1]
theorem put_size (a : Act) (d : Option Tmp) (v : Value) : (a.put d v).tmps.size = a.tmps.size := by
  cases d with
  | none => rfl
  | some d => simp [Act.put]
theorem putL_in {k i : Nat} : ∀ (dl : List (Nat × Option Tmp)) (a : Act) (u : Nat → Value), dlIn k i dl = true → k < a.tmps.size → (putL dl a u).tmps[k]? = some (u i)
  | [], _, _, h, _ => by cases h
  | (j, d) :: r, a, u, h, hk => by
    unfold dlIn at h
    split at h
    · rename_i hd
      simp only [Bool.and_eq_true, beq_iff_eq] at h hd
      rw [putL_cons, putL_out r _ u h.2]
      subst hd
      rw [h.1]
      simp only [Act.put]
      rw [Array.getElem?_setIfInBounds_self_of_lt hk]
    · rw [putL_cons, putL_in r _ u h (by rw [put_size]; exact hk)]
theorem eval_of {a : Act} {k : Nat} {v : Value} (h : a.tmps[k]? = some v) : a.eval (.tmp k) = v := by
  show a.tmps.getD k undef = v
  rw [Array.getD_eq_getD_getElem?, h]; rfl
theorem z_name {P : Program} {ops : Array Oper} {Q : Exit → Act → World → Prop} {S : World → Prop} {r : Pz} {a : Act} {w : World} (h : ∀ a0, a0 = a → wpZ P ops Q S r a0 w) : wpZ P ops Q S r a w := h a rfl
theorem wp_move' {P : Program} {o : Oper} {a : Act} {w : World} {K : Act → World → Prop} {Q : Exit → Act → World → Prop} {x : Operand} {v : Value} (ho : o.op = .move x ∨ o.op = .assign x) (hx : a.eval x = v) (h : K (a.put o.dst v) w) : o.wp P a w K Q := by
  subst hx; exact wp_move ho h
/-- A row of another type stays where one row is written. -/
theorem Ow.chApart {α β : Type} {d : Ty α} {e e' : TypeId} {cells : β → List Value} {sz : Nat} {hl : ∀ x, (cells x).length = sz} {ho : ∀ x, ∀ u ∈ cells x, u.oneCell' = true} {w w8 : World} {F F' : Nat → Prop} {v v' : Value} {xs : List α} {ys : List β} {g : Nat}
    (h : Ow d e w F v xs) (hg : v.ownBlock = some g) (h' : Ow (flat cells sz hl ho) e' w F' v' ys) (hne : e ≠ e') (hC : Ch (fun k => k = g) w w8) : Ow (flat cells sz hl ho) e' w8 F' v' ys :=
  (h'.tight.ch hC (fun k hk e1 => h.apart h' hne g hg (e1 ▸ hk))).mono (fun k hk => h'.inF hk)
theorem Ow.blkApart {α : Type} {d : Ty α} {e t : TypeId} {w w8 : World} {F : Nat → Prop} {v : Value} {xs : List α} {g k : Nat} {cs : Array Value} {fr : Nat × Nat}
    (h : Ow d e w F v xs) (hg : v.ownBlock = some g) (hne : e ≠ t) (hk : w.heap[k]? = some (.cells cs t fr)) (hC : Ch (fun k => k = g) w w8) : w8.heap[k]? = some (.cells cs t fr) :=
  hC.heap hk (fun e1 => h.type_ne hk hne (by rw [e1]; exact hg))
theorem grown_below {W w1 : World} {B : Nat} {v : Value} (hb : Below B W W) (hG : W.grownBy w1 v.ownBlock) (hv : ∀ k, v.ownBlock = some k → B ≤ k) (hB : B ≤ W.heap.size) : Below B W w1 :=
  ⟨hG.os, hG.tape, hG.output, hG.size, fun k hk => hG.block k (by omega) (fun e => by have := hv k e.symm; omega)⟩
end Go.Proofs.YtbcemldiahghcaaGreat

namespace Go.Proofs.YtbcemldiahghcaaGreat
set_option linter.unusedVariables false
set_option linter.unusedSimpArgs false
set_option maxRecDepth 100000
open Go.RowKit
/-- A row of another type stays where one row is written (the row may be none). -/
theorem Ow.chOther {α β : Type} {d : Ty α} {e e' : TypeId} {cells : β → List Value} {sz : Nat} {hl : ∀ x, (cells x).length = sz} {ho : ∀ x, ∀ u ∈ cells x, u.oneCell' = true} {w w8 : World} {F F' : Nat → Prop} {v v' : Value} {xs : List α} {ys : List β}
    (h : Ow d e w F v xs) (h' : Ow (flat cells sz hl ho) e' w F' v' ys) (hne : e ≠ e') (hC : Ch (fun q => v.ownBlock = some q) w w8) : Ow (flat cells sz hl ho) e' w8 F' v' ys :=
  (h'.tight.ch hC (fun k hk e1 => h.apart h' hne k e1 hk)).mono (fun k hk => h'.inF hk)
/-- An own row's elements, each with its own memory. -/
theorem Ow.elems {α : Type} {d : Ty α} {e : TypeId} {w : World} {F : Nat → Prop} {v : Value} {xs : List α} (h : Ow d e w F v xs) :
    ∃ Fs : Nat → Nat → Prop, (∀ j q, Fs j q → F q ∧ some q ≠ v.ownBlock) ∧ (∀ i j q, i ≠ j → Fs i q → Fs j q → False) ∧
      ∀ (j : Nat) (hj : j < xs.length), ∃ csj, d.rel w (Fs j) xs[j] csj ∧ ∀ g, v.ownBlock = some g → ∀ i u, csj[i]? = some u → w.cell? ⟨g, j * d.sz + i, none⟩ = some u := by
  obtain ⟨cs, Fs, h1, h2, h3, h4, h5⟩ := h
  refine ⟨Fs, h3, h4, fun j hj => ⟨_, h5 j _ (List.getElem?_eq_getElem hj), fun g hg i u hi => ?_⟩⟩
  rw [List.getElem?_take] at hi
  split at hi
  · rw [List.getElem?_drop] at hi
    have := h1.cells hg (j * d.sz + i) u hi
    have ha : (⟨g, 0, none⟩ : Addr).add (j * d.sz + i) = ⟨g, j * d.sz + i, none⟩ := by unfold Addr.add; split <;> simp_all
    rwa [ha] at this
  · cases hi
def mkSt (m : Int) : StD := ⟨m, m + 1, m + 1 + 1⟩
set_option maxHeartbeats 1000000 in
theorem heldStateS_c (v : Value) (n : Nat) (m : Int) (F : Nat → Prop) (w : World) (h : Rd tSt w F v (mkRow mkSt 3 m n)) (hm0 : 0 ≤ m) (hm1 : m ≤ 1000000000) (hn : n ≤ 1048576) :
    Calls Tryz.prog 44 #[v, .int .i64 m] w fun q w' => q = .returned (.int .i64 (m + 3 * n)) ∧ Below w.heap.size w w' := by
  obtain ⟨A, c, rfl, -⟩ := h.shape
  have hlen : (mkRow mkSt 3 m n).length = n := mkRow_len _ _ _ _
  rw [hlen] at h ⊢
  go_enter Tryz.func44, Tryz.ntmps44
  go_wp2_with fail
  go_loopw [1, 5] (fun l i wr => ∃ (k : Nat) (t : Int), i = .int .i64 k ∧ k ≤ n ∧ l = .int .i64 t ∧ Hid (t = m + 3 * k) ∧ Below w.heap.size w wr) (fun _ i _ => n - (intOf i).toNat)
  case atStart => exact ⟨0, m, rfl, Nat.zero_le _, rfl, by show m = m + 3 * ((0 : Nat) : Int); omega, Below.refl _ _⟩
  case round =>
    obtain ⟨k, t, rfl, hk, rfl, HT, hB⟩ := hrel
    by_cases hlt : k < n
    · obtain ⟨b0, o0, rfl, hb0, z0, z1, z2⟩ := st_at (h.below hB) k (by rw [hlen]; exact hlt)
      have hg : (mkRow mkSt 3 m n)[k]'(by rw [hlen]; exact hlt) = mkSt t := by
        have := mkRow_get mkSt 3 m n k hlt
        rw [List.getElem?_eq_getElem (by rw [hlen]; exact hlt)] at this
        rw [HT.out]
        exact Option.some.inj this
      rw [hg] at z0 z1 z2
      simp only [mkSt] at z0 z1 z2
      have p0 : (k : Int) < (n : Int) := by omega
      have ht0 : 0 ≤ t := by have := HT.out; omega
      have ht1 : t ≤ 2000000000 := by have := HT.out; omega
      have HT' := hid (show t + 1 + 1 + 1 = m + 3 * ((k + 1 : Nat) : Int) by have := HT.out; push_cast; omega)
      clear hg
      go_wp2_with fail
      go_roundw
      case rel => exact ⟨k + 1, _, by go_num, by omega, rfl, HT', hB⟩
      case measure => simp [intOf]; omega
    · have hkl : k = n := by omega
      subst hkl
      go_wp2_with fail
      go_ret
      exact ⟨by rw [HT.out]; rfl, hB⟩
set_option maxHeartbeats 1000000 in
theorem markStateS_c (v : Value) (xs : List StD) (m : Int) (F : Nat → Prop) (w : World) (h : Ow tSt 49 w F v xs) (hm0 : 0 ≤ m) (hm1 : m ≤ 1000000000) (hn : xs.length ≤ 1048576) :
    Calls Tryz.prog 42 #[v, .int .i64 m] w fun q w' => q = .returned (.int .i64 (m + 3 * xs.length)) ∧ Ow tSt 49 w' F v (mkRow mkSt 3 m xs.length) ∧ Ch (fun q => v.ownBlock = some q) w w' := by
  obtain ⟨A, c, rfl, -⟩ := h.shape
  go_enter Tryz.func42, Tryz.ntmps42
  go_wp2_with fail
  go_loopw [1, 5] (fun l i wr => ∃ (k : Nat) (t : Int), i = .int .i64 k ∧ k ≤ xs.length ∧ l = .int .i64 t ∧ Hid (t = m + 3 * k) ∧ Ow tSt 49 wr F (.slice A xs.length c) (mkRow mkSt 3 m k ++ xs.drop k) ∧ Ch (fun q => (Value.slice A xs.length c).ownBlock = some q) w wr) (fun _ i _ => xs.length - (intOf i).toNat)
  case atStart => exact ⟨0, m, rfl, Nat.zero_le _, rfl, by show m = m + 3 * ((0 : Nat) : Int); omega, by simpa [mkRow] using h, Ch.refl _ _⟩
  case round =>
    obtain ⟨k, t, rfl, hk, rfl, HT, hO, hC⟩ := hrel
    by_cases hlt : k < xs.length
    · have hfl := mkRow_flen mkSt 3 m xs k hk
      obtain ⟨g, c', cur, hv, hF, hgl, hblk⟩ := hO.head (by omega)
      injection hv with hv1 hv2 hv3
      subst hv1 hv3
      have hkl : k < (mkRow mkSt 3 m k ++ xs.drop k).length := by omega
      obtain ⟨b0, o0, hA, hb0, z0, z1, z2⟩ := st_at hO.rd k hkl
      injection hA with hA
      injection hA with hA1 hA2 _
      subst hA1 hA2
      simp only [Nat.zero_add] at z0 z1 z2
      obtain ⟨el, hel⟩ : ∃ el, (mkRow mkSt 3 m k ++ xs.drop k)[k] = el := ⟨_, rfl⟩
      rw [hel] at z0 z1 z2
      clear hel
      have f0 := blk_frozen hblk (k * 3)
      have f1 := blk_frozen hblk (k * 3 + 1)
      have f2 := blk_frozen hblk (k * 3 + 2)
      have hset := hO.setAt (g := g) rfl k hkl (mkSt t)
      have hrow : (mkRow mkSt 3 m k ++ xs.drop k).set k (mkSt t) = mkRow mkSt 3 m (k + 1) ++ xs.drop (k + 1) := by rw [HT.out]; exact mkRow_set _ _ _ _ _ hlt
      have hO2 : Ow tSt 49 (((wr.setCell ⟨g, k * 3, none⟩ (.int .i64 (t))).setCell ⟨g, k * 3 + 1, none⟩ (.int .i64 (t + 1))).setCell ⟨g, k * 3 + 2, none⟩ (.int .i64 (t + 1 + 1))) F (.slice (some ⟨g, 0, none⟩) xs.length c) (mkRow mkSt 3 m (k + 1) ++ xs.drop (k + 1)) := by rw [← hrow]; exact hset.2.1
      have hC2 : Ch (fun q => (Value.slice (some ⟨g, 0, none⟩) xs.length c).ownBlock = some q) w (((wr.setCell ⟨g, k * 3, none⟩ (.int .i64 (t))).setCell ⟨g, k * 3 + 1, none⟩ (.int .i64 (t + 1))).setCell ⟨g, k * 3 + 2, none⟩ (.int .i64 (t + 1 + 1))) := hC.trans (hset.2.2.mono (fun q hq => by simp [Value.ownBlock, hq]))
      have p0 : (k : Int) < (xs.length : Int) := by omega
      have ht0 : 0 ≤ t := by have := HT.out; omega
      have ht1 : t ≤ 2000000000 := by have := HT.out; omega
      have HT' := hid (show t + 1 + 1 + 1 = m + 3 * ((k + 1 : Nat) : Int) by have := HT.out; push_cast; omega)
      clear hset hrow hfl hO hC hblk hkl hv2
      have HO2 := hid hO2
      have HC2 := hid hC2
      clear hO2 hC2
      go_wp2_with fail
      go_roundw
      case rel => exact ⟨k + 1, _, by go_num, by omega, rfl, HT', HO2.out, HC2.out⟩
      case measure => simp [intOf]; omega
    · have hkl : k = xs.length := by omega
      subst hkl
      have hO2 : Ow tSt 49 wr F (.slice A xs.length c) (mkRow mkSt 3 m xs.length) := by
        have := hO
        rwa [List.drop_length, List.append_nil] at this
      go_wp2_with fail
      go_ret
      exact ⟨by rw [HT.out]; rfl, hO2, hC⟩
def appsMk : List AppD → Int
  | [] => 0
  | r :: rs => ((r.rules.length : Int) + 5 * rulesSz r.rules) + appsMk rs
theorem appsMk_nonneg : ∀ rs, 0 ≤ appsMk rs
  | [] => Int.le_refl _
  | r :: rs => by have := appsMk_nonneg rs; have h2 : 0 ≤ ((r.rules.length : Int) + 5 * rulesSz r.rules) := (by have := rulesSz_nonneg r.rules; omega); simp only [appsMk]; omega
theorem appsMk_take : ∀ (rs : List AppD) (k : Nat) (h : k < rs.length), appsMk (rs.take (k + 1)) = appsMk (rs.take k) + ((rs[k].rules.length : Int) + 5 * rulesSz rs[k].rules)
  | r :: rs, 0, h => by simp [appsMk]
  | r :: rs, k + 1, h => by
    have := appsMk_take rs k (by simpa using h)
    simp only [List.take_succ_cons, appsMk, List.getElem_cons_succ] at this ⊢
    omega
theorem appsMk_le : ∀ (rs : List AppD) (k : Nat), appsMk (rs.take k) ≤ appsMk rs
  | [], k => by simp
  | r :: rs, 0 => by simpa [appsMk] using appsMk_nonneg (r :: rs)
  | r :: rs, k + 1 => by have := appsMk_le rs k; simp only [List.take_succ_cons, appsMk]; omega
theorem appsMk_mem : ∀ (rs : List AppD) (r : AppD), r ∈ rs → ((r.rules.length : Int) + 5 * rulesSz r.rules) ≤ appsMk rs
  | r' :: rs, r, h => by
    rcases List.mem_cons.1 h with rfl | h
    · have := appsMk_nonneg rs; simp only [appsMk]; omega
    · have := appsMk_mem rs r h
      have h2 : 0 ≤ (fun r : AppD => (((r.rules.length : Int) + 5 * rulesSz r.rules) : Int)) r' := (fun r : AppD => (show 0 ≤ (((r.rules.length : Int) + 5 * rulesSz r.rules) : Int) from (by have := rulesSz_nonneg r.rules; omega))) r'
      simp only [appsMk] at h2 ⊢; omega
theorem appsMk_bd : ∀ rs, appsMk rs ≤ 5 * appsSz rs
  | [] => Int.le_refl _
  | r :: rs => by have := appsMk_bd rs; have := rulesSz_nonneg r.rules; simp only [appsMk, appsSz]; omega
set_option maxHeartbeats 1000000 in
theorem markAppS_c (v : Value) (rs : List AppD) (m : Int) (F : Nat → Prop) (w : World) (h : Ow oApp 57 w F v rs) (hm0 : 0 ≤ m) (hm1 : m ≤ 10000000) (hn : (rs.length : Int) + appsSz rs ≤ 1048576) :
    Calls Tryz.prog 12 #[v, .int .i64 m] w fun q w' => q = .returned (.int .i64 (m + appsMk rs)) ∧ Ch F w w' := by
  obtain ⟨A, c, rfl, -⟩ := h.shape
  obtain ⟨Fs, f1, f2, fe⟩ := h.elems
  have hnn := appsMk_bd rs
  have hnz := appsSz_nonneg rs
  go_enter Tryz.func12, Tryz.ntmps12
  go_wp2_with fail
  go_loopw [1, 5] (fun l i wr => ∃ (k : Nat) (t : Int), i = .int .i64 k ∧ k ≤ rs.length ∧ l = .int .i64 t ∧ Hid (t = m + appsMk (rs.take k)) ∧ Ch (fun q => ∃ j, j < k ∧ Fs j q) w wr) (fun _ i _ => rs.length - (intOf i).toNat)
  case atStart => exact ⟨0, m, rfl, Nat.zero_le _, rfl, by show m = m + appsMk (rs.take 0); simp [appsMk], Ch.refl _ _⟩
  case round =>
    obtain ⟨k, t, rfl, hk, rfl, HT, hC⟩ := hrel
    by_cases hlt : k < rs.length
    · obtain ⟨g, c', cur, hv, hF, hgl, hblk⟩ := h.head (by omega)
      injection hv with hv1 hv2 hv3
      subst hv1 hv3
      obtain ⟨csj, ⟨vv, hcs, hOp⟩, hcj⟩ := fe k hlt
      subst hcs
      obtain ⟨A2, c2, rfl, -⟩ := hOp.shape
      have z0 := hcj g rfl 0 _ rfl
      have hz : oApp.sz = 1 := rfl
      rw [hz] at z0
      simp only [Nat.add_zero, Nat.mul_one] at z0
      have z1 := (hC.cell (p := ⟨g, k, none⟩) hgl (fun ⟨j, _, hj⟩ => (f1 j g hj).2 rfl)).trans z0
      have hO2 := hOp.ch hC (fun q hq ⟨j, hjk, hj⟩ => f2 j k q (by omega) hj hq)
      have ht0 : 0 ≤ t := by have := HT.out; have := appsMk_nonneg (rs.take k); omega
      have ht1 : t ≤ 100000000 := by have := HT.out; have := appsMk_bd rs; have := appsMk_nonneg rs; have := appsMk_bd (rs.take k); have := appsSz_le rs k; omega
      have hb : (rs[k].rules.length : Int) + rulesSz rs[k].rules ≤ 1048576 := by have := appsSz_mem rs rs[k] (List.getElem_mem _); omega
      have p0 : (k : Int) < (rs.length : Int) := by omega
      obtain ⟨el, hel⟩ : ∃ el, rs[k] = el := ⟨_, rfl⟩
      rw [hel] at hO2 hb z1
      have HEL := hid hel
      clear hcj z0 hz hOp hv2 hel hblk
      go_wp2_with fail
      refine (markRuleS_c _ el.rules t (Fs k) _ hO2 ht0 ht1 hb).mono ?_
      rintro q w2 ⟨rfl, hC2⟩
      have hCn : Ch (fun q => ∃ j, j < k + 1 ∧ Fs j q) w w2 := (hC.mono (fun q ⟨j, h1, h2⟩ => ⟨j, by omega, h2⟩)).trans (hC2.mono (fun q hq => ⟨k, by omega, hq⟩))
      have HT' := hid (show t + el.rules.length + 5 * rulesSz el.rules = m + appsMk (rs.take (k + 1)) by
        have h1 := HT.out
        have h2 := appsMk_take rs k hlt
        have h3 := HEL.out
        rw [h3] at h2
        omega)
      clear hC hC2 hO2
      have HCN := hid hCn
      clear hCn
      apply_assumption
      go_wp2_with fail
      go_roundw
      case rel => exact ⟨k + 1, _, by go_num, by omega, rfl, HT', HCN.out⟩
      case measure => simp [intOf]; omega
    · have hkl : k = rs.length := by omega
      subst hkl
      go_wp2_with fail
      go_ret
      exact ⟨by rw [HT.out, List.take_length]; rfl, hC.mono (fun q ⟨j, _, hj⟩ => (f1 j q hj).1)⟩
def mkSim (m : Int) (a b c : Nat) : SimD := ⟨mkRow mkSt 3 m a, mkRow mkEv 7 (m + 3 * a) b, mkRow mkOut 5 (m + 3 * a + 7 * b) c⟩
set_option maxHeartbeats 2000000 in
theorem markSim_c (s : SimD) (vs vq vo : Value) (m : Int) (F : Nat → Prop) (w : World) (h : SimOw w F vs vq vo s) (hm0 : 0 ≤ m) (hm1 : m ≤ 900000000) (n1 : s.states.length ≤ 1048576) (n2 : s.queue.length ≤ 1048576) (n3 : s.outs.length ≤ 1048576) :
    Calls Tryz.prog 13 #[.agg #[vs, vq, vo], .int .i64 m] w fun q w' => q = .returned (.int .i64 (m + 3 * s.states.length + 7 * s.queue.length + 5 * s.outs.length)) ∧ SimOw w' F vs vq vo (mkSim m s.states.length s.queue.length s.outs.length) ∧ Ch F w w' := by
  obtain ⟨A1, c1, rfl, -⟩ := h.st.shape
  obtain ⟨A2, c2, rfl, -⟩ := h.qu.shape
  obtain ⟨A3, c3, rfl, -⟩ := h.ou.shape
  have HB0 : Below w.heap.size w (w.alloc (.cells #[.slice A1 s.states.length c1, .slice A2 s.queue.length c2, .slice A3 s.outs.length c3] 28)) := balloc (Below.refl _ _) _
  have Z : (w.alloc (.cells #[.slice A1 s.states.length c1, .slice A2 s.queue.length c2, .slice A3 s.outs.length c3] 28)).heap[w.heap.size]? = some (.cells #[.slice A1 s.states.length c1, .slice A2 s.queue.length c2, .slice A3 s.outs.length c3] 28 (0, 0)) := heap_at rfl
  go_enter Tryz.func13, Tryz.ntmps13
  go_wp2_with fail
  generalize w.alloc (.cells #[.slice A1 s.states.length c1, .slice A2 s.queue.length c2, .slice A3 s.outs.length c3] 28) = W at *
  have o1 := h.st.below HB0
  have o2 := h.qu.below HB0
  have o3 := h.ou.below HB0
  have hC0 : Ch F w W := Ch.of_below HB0
  have l1 := fun q hq => h.st.block_lt (g := q) hq
  have l2 := fun q hq => h.qu.block_lt (g := q) hq
  have l3 := fun q hq => h.ou.block_lt (g := q) hq
  have i1 := fun q hq => h.st.inF (g := q) hq
  have i2 := fun q hq => h.qu.inF (g := q) hq
  have i3 := fun q hq => h.ou.inF (g := q) hq
  refine (markStateS_c _ s.states m F _ o1 hm0 (by omega) n1).mono ?_
  rintro q w1 ⟨rfl, p1, hC1⟩
  have Z1 := hC1.heap Z (fun hq => Nat.lt_irrefl _ (l1 _ hq))
  have p2 := o1.chOther o2 (by decide) hC1
  have p3 := o1.chOther o3 (by decide) hC1
  have d1 : w1.cell? ⟨w.heap.size, 1, none⟩ = some (.slice A2 s.queue.length c2) := blk_cell Z1 1
  have d2 : w1.cell? ⟨w.heap.size, 2, none⟩ = some (.slice A3 s.outs.length c3) := blk_cell Z1 2
  have hCa := hid (hC0.trans (hC1.mono i1))
  clear o1 o2 o3 Z hC1 hC0
  apply_assumption
  go_wp2_with fail
  refine (markEventS_c _ s.queue _ F _ p2 (by omega) (by omega) n2).mono ?_
  rintro q w2 ⟨rfl, r2, hC2⟩
  have Z2 := hC2.heap Z1 (fun hq => Nat.lt_irrefl _ (l2 _ hq))
  have r1 := p2.chOther p1 (by decide) hC2
  have r3 := p2.chOther p3 (by decide) hC2
  have d3 : w2.cell? ⟨w.heap.size, 2, none⟩ = some (.slice A3 s.outs.length c3) := blk_cell Z2 2
  have hCb := hid (hCa.out.trans (hC2.mono i2))
  clear p1 p2 p3 Z1 hC2 d1 d2
  apply_assumption
  go_wp2_with fail
  refine (markOutS_c _ s.outs _ F _ r3 (by omega) (by omega) n3).mono ?_
  rintro q w3 ⟨rfl, t3, hC3⟩
  have t1 := r3.chOther r1 (by decide) hC3
  have t2 := r3.chOther r2 (by decide) hC3
  have hCc := hid (hCb.out.trans (hC3.mono i3))
  have HS := hid (SimOw.mk (s := mkSim m s.states.length s.queue.length s.outs.length) t1 t2 t3)
  clear r1 r2 r3 hC3 t1 t2 t3 Z2 d3
  apply_assumption
  go_wp2_with fail
  go_ret
  exact ⟨rfl, HS.out, hCc.out⟩
set_option maxHeartbeats 2000000 in
theorem heldSim_c (vs vq vo : Value) (m : Int) (a b c : Nat) (F : Nat → Prop) (w : World) (h : SimRd w F vs vq vo (mkSim m a b c)) (hm0 : 0 ≤ m) (hm1 : m ≤ 900000000) (n1 : a ≤ 1048576) (n2 : b ≤ 1048576) (n3 : c ≤ 1048576) :
    Calls Tryz.prog 14 #[.agg #[vs, vq, vo], .int .i64 m] w fun q w' => q = .returned (.int .i64 (m + 3 * a + 7 * b + 5 * c)) ∧ Below w.heap.size w w' := by
  obtain ⟨h1, h2, h3⟩ := h
  have h1 : Rd tSt w F vs (mkRow mkSt 3 m a) := h1
  have h2 : Rd tEv w F vq (mkRow mkEv 7 (m + 3 * a) b) := h2
  have h3 : Rd tOut w F vo (mkRow mkOut 5 (m + 3 * a + 7 * b) c) := h3
  obtain ⟨A1, c1, e1, -⟩ := h1.shape
  obtain ⟨A2, c2, e2, -⟩ := h2.shape
  obtain ⟨A3, c3, e3, -⟩ := h3.shape
  rw [mkRow_len] at e1 e2 e3
  subst e1 e2 e3
  have HB0 : Below w.heap.size w (w.alloc (.cells #[.slice A1 a c1, .slice A2 b c2, .slice A3 c c3] 28)) := balloc (Below.refl _ _) _
  have Z : (w.alloc (.cells #[.slice A1 a c1, .slice A2 b c2, .slice A3 c c3] 28)).heap[w.heap.size]? = some (.cells #[.slice A1 a c1, .slice A2 b c2, .slice A3 c c3] 28 (0, 0)) := heap_at rfl
  have g1 : decide (m + 3 * (a : Int) < 0) = false := decide_eq_false (by omega)
  have g2 : decide (m + 3 * (a : Int) + 7 * (b : Int) < 0) = false := decide_eq_false (by omega)
  have g3 : decide (m + 3 * (a : Int) + 7 * (b : Int) + 5 * (c : Int) < 0) = false := decide_eq_false (by omega)
  go_enter Tryz.func14, Tryz.ntmps14
  go_wp2_with fail
  generalize w.alloc (.cells #[.slice A1 a c1, .slice A2 b c2, .slice A3 c c3] 28) = W at *
  refine (heldStateS_c _ a m F _ (h1.below HB0) hm0 (by omega) n1).mono ?_
  rintro q w1 ⟨rfl, hb1⟩
  have HB1 := bthen HB0 hb1 HB0.size
  have Z1 := below_heap hb1 (blk_lt Z) Z
  have d1 : w1.cell? ⟨w.heap.size, 1, none⟩ = some (.slice A2 b c2) := blk_cell Z1 1
  have d2 : w1.cell? ⟨w.heap.size, 2, none⟩ = some (.slice A3 c c3) := blk_cell Z1 2
  clear Z hb1
  apply_assumption
  go_wp2_with fail
  refine (heldEventS_c _ b _ F _ (h2.below HB1) (by omega) (by omega) n2).mono ?_
  rintro q w2 ⟨rfl, hb2⟩
  have HB2 := bthen HB1 hb2 HB1.size
  have Z2 := below_heap hb2 (blk_lt Z1) Z1
  have d3 : w2.cell? ⟨w.heap.size, 2, none⟩ = some (.slice A3 c c3) := blk_cell Z2 2
  clear Z1 hb2 d1 d2
  apply_assumption
  go_wp2_with fail
  refine (heldOutS_c _ c _ F _ (h3.below HB2) (by omega) (by omega) n3).mono ?_
  rintro q w3 ⟨rfl, hb3⟩
  have HB3 := bthen HB2 hb3 HB2.size
  clear Z2 hb3 d3
  apply_assumption
  go_wp2_with fail
  go_ret
  exact ⟨rfl, HB3⟩
end Go.Proofs.YtbcemldiahghcaaGreat

namespace Go.Proofs.YtbcemldiahghcaaGreat
set_option linter.unusedVariables false
set_option linter.unusedSectionVars false
def bud (l : List StD) : Int := (l.map (fun t => 12 - t.c)).sum
theorem bud_set : ∀ (l : List StD) (i : Nat) (x : StD) (h : i < l.length), bud (l.set i x) = bud l + l[i].c - x.c
  | [], i, x, h => by simp at h
  | t :: l, 0, x, h => by simp [bud]; omega
  | t :: l, i + 1, x, h => by
    have := bud_set l i x (by simpa using h)
    simp [bud] at this ⊢; omega
theorem bud_nonneg : ∀ (l : List StD), (∀ t ∈ l, stOk t = true) → 0 ≤ bud l
  | [], _ => by simp [bud]
  | t :: l, h => by
    have h1 := bud_nonneg l (fun x hx => h x (List.mem_cons_of_mem _ hx))
    have h2 := h t (List.mem_cons_self ..)
    simp [stOk, inn] at h2
    simp [bud] at h1 ⊢; omega
structure SInv (s : SimD) : Prop where
  len : s.states.length = 4
  st : ∀ t ∈ s.states, stOk t = true
  q : ∀ e ∈ s.queue, evOk e = true
  qs : s.queue.Pairwise (fun a b => evLess a b = true)
  o : ∀ o ∈ s.outs, outOk o = true
  os : s.outs.Pairwise (fun a b => outLess a b = true)
  qn : (s.queue.length : Int) + 2 * bud s.states ≤ 100
  on : (s.outs.length : Int) + 2 * bud s.states ≤ 96
  oc : ∀ o ∈ s.outs, ∀ t, s.states[o.proc.toNat]? = some t → o.count < t.c
theorem SInv.ok {s : SimD} (h : SInv s) : simOk s = true := by
  have hb := bud_nonneg _ h.st
  have h1 := h.qn
  have h2 := h.on
  simp only [simOk, evsOk, outsOk, Bool.and_eq_true, decide_eq_true_eq]
  exact ⟨h.len, List.all_eq_true.2 h.st, ⟨by omega, List.all_eq_true.2 h.q, (ascB_iff ev_ord _).2 h.qs⟩, by omega, List.all_eq_true.2 h.o, (ascB_iff out_ord _).2 h.os⟩
theorem SInv.start : SInv simStart := by
  refine ⟨rfl, by decide, by decide, ?_, by simp [simStart], by simp [simStart], by decide, by decide, by simp [simStart]⟩
  exact (ascB_iff ev_ord _).1 (by decide)
theorem strict_of {l : List OutD} (h : l.Pairwise (fun a b => outLess b a = false)) (hn : l.Nodup) : l.Pairwise (fun a b => outLess a b = true) := by
  refine (List.pairwise_and_iff.2 ⟨h, hn⟩).imp (fun {a b} hab => ?_)
  cases hc : outLess a b with
  | true => rfl
  | false => exact absurd (out_ord.total a b hc hab.1) hab.2
structure Next (apps : List AppD) (s : SimD) (e : EvD) (rest : List EvD) (x : SimD) : Prop where
  inv : SInv x
  less : (x.queue.length : Int) + 2 * bud x.states < (s.queue.length : Int) + 2 * bud s.states
  later : ∀ q ∈ x.queue, e.time ≤ q.time ∧ q ≠ e
  outs : ∃ new : List OutD, x.outs = outSort (s.outs ++ new) ∧ ∀ o ∈ new, o.time = e.time
  qlen : s.queue.length - 1 ≤ x.queue.length
  states : ∀ p, p ≠ e.to.toNat → x.states[p]? = s.states[p]?
  count : ∀ t t', s.states[e.to.toNat]? = some t → x.states[e.to.toNat]? = some t' → (t.c = 12 ∧ t' = t) ∨ (t.c < 12 ∧ t'.c = t.c + 1)
  to_ : 0 ≤ e.to ∧ e.to ≤ 3
theorem evLess_time {a b : EvD} (h : evLess a b = true) : a.time ≤ b.time := by
  simp only [evLess, EvD.key, lexLt] at h
  split at h
  · omega
  · simp at h; omega
theorem len_mono : ∀ {l m : List EvD}, l.Nodup → (∀ x ∈ l, x ∈ m) → l.length ≤ m.length
  | [], m, _, _ => Nat.zero_le _
  | a :: l, m, h, hs => by
    obtain ⟨h1, h2⟩ := List.nodup_cons.1 h
    have ham : a ∈ m := hs a (List.mem_cons_self ..)
    have h3 := len_mono (l := l) (m := m.erase a) h2 (fun x hx => (List.mem_erase_of_ne (fun e' => by subst e'; exact h1 hx)).2 (hs x (List.mem_cons_of_mem _ hx)))
    rw [List.length_erase_of_mem ham] at h3
    have := List.length_pos_of_mem ham
    simp only [List.length_cons]; omega
theorem simNext_ok {apps : List AppD} {s : SimD} (ha : appsOk apps = true) (h : SInv s) {e : EvD} {rest : List EvD} (hq : s.queue = e :: rest) : Next apps s e rest (simNext apps s) := by
  have he : evOk e = true := h.q e (by rw [hq]; exact List.mem_cons_self ..)
  have hev := he
  simp only [evOk, inn, Bool.and_eq_true, decide_eq_true_eq] at hev
  have hto : 0 ≤ e.to ∧ e.to ≤ 3 := ⟨by omega, by omega⟩
  have hi : e.to.toNat < s.states.length := by have := h.len; omega
  have hal : apps.length = 4 := by simp only [appsOk, Bool.and_eq_true, decide_eq_true_eq] at ha; exact ha.1
  have hia : e.to.toNat < apps.length := by omega
  have hA : appOk (apps.getD e.to.toNat ⟨[]⟩) = true := by
    simp only [appsOk, Bool.and_eq_true] at ha
    simp only [List.getD, List.getElem?_eq_getElem hia, Option.getD_some]
    exact List.all_eq_true.1 ha.2 _ (List.getElem_mem _)
  have hS : s.states.getD e.to.toNat st0 = s.states[e.to.toNat] := by simp [List.getD, hi]
  have hst := h.st _ (List.getElem_mem hi)
  have hC := appRun_comes hA hst he
  have hx : simNext apps s = ⟨s.states.set e.to.toNat (appRun (apps.getD e.to.toNat ⟨[]⟩) s.states[e.to.toNat] e).1, evSort (rest ++ (appRun (apps.getD e.to.toNat ⟨[]⟩) s.states[e.to.toNat] e).2.1), outSort (s.outs ++ (appRun (apps.getD e.to.toNat ⟨[]⟩) s.states[e.to.toNat] e).2.2)⟩ := by
    unfold simNext; rw [hq]; simp only [hS]
  rw [hx]
  generalize appRun (apps.getD e.to.toNat ⟨[]⟩) s.states[e.to.toNat] e = r at hC
  obtain ⟨t', sd, ou⟩ := r
  obtain ⟨c1, c2, c3, c4, c5⟩ := hC
  simp only at c1 c2 c3 c4 c5
  obtain ⟨q1, q2⟩ := sortOnce_ok ev_ord (rest ++ sd)
  obtain ⟨o1, o2⟩ := sortAll_ok out_ord (s.outs ++ ou)
  have hqs := h.qs
  rw [hq] at hqs
  obtain ⟨hq1, hq2⟩ := List.pairwise_cons.1 hqs
  have hqnd : (evSort (rest ++ sd)).Nodup := q1.imp (fun h' e' => by subst e'; rw [ev_ord.irrefl] at h'; cases h')
  have hql : (evSort (rest ++ sd)).length ≤ rest.length + sd.length := by
    have := len_mono hqnd (m := rest ++ sd) (fun x hx => (q2 x).1 hx)
    simpa using this
  have hql2 : rest.length ≤ (evSort (rest ++ sd)).length := by
    have hnd : rest.Nodup := hq2.imp (fun h' e' => by subst e'; rw [ev_ord.irrefl] at h'; cases h')
    exact len_mono hnd (fun x hx => (q2 x).2 (List.mem_append_left _ hx))
  have hol : (outSort (s.outs ++ ou)).length = s.outs.length + ou.length := by
    have := o2.length_eq; unfold outSort; simpa using this
  have hbud := bud_set s.states e.to.toNat t' hi
  have hsl : (s.queue.length : Int) = rest.length + 1 := by rw [hq]; simp
  have hcc : (s.states[e.to.toNat].c = 12 ∧ t' = s.states[e.to.toNat] ∧ sd = [] ∧ ou = []) ∨ (s.states[e.to.toNat].c < 12 ∧ t'.c = s.states[e.to.toNat].c + 1 ∧ sd.length ≤ 2 ∧ ou.length ≤ 2) := by
    rcases c2 with ⟨k1, k2⟩ | k
    · simp only [Prod.mk.injEq] at k2; exact Or.inl ⟨k1, k2.1, k2.2.1, k2.2.2⟩
    · exact Or.inr k
  have hond : (s.outs ++ ou).Nodup := by
    refine List.nodup_append.2 ⟨h.os.imp (fun h' e' => by subst e'; rw [out_ord.irrefl] at h'; cases h'), c5, fun a ha b hb e' => ?_⟩
    subst e'
    obtain ⟨_, _, k3, k4⟩ := c4 a hb
    have := h.oc a ha s.states[e.to.toNat] (by rw [k3]; exact List.getElem?_eq_getElem hi)
    omega
  have hqn := h.qn
  have hon := h.on
  refine ⟨⟨by simpa using h.len, fun t ht => ?_, fun q hqq => ?_, q1, fun o hoo => ?_, strict_of o1 (o2.nodup_iff.2 hond), ?_, ?_, fun o hoo t ht => ?_⟩, ?_, fun q hqq => ?_, ⟨ou, rfl, fun o hoo => (c4 o hoo).2.1⟩, ?_, fun p hp => ?_, fun t t2 ht ht2 => ?_, hto⟩
  · rcases List.mem_or_eq_of_mem_set ht with ht | rfl
    · exact h.st t ht
    · exact c1
  · rcases List.mem_append.1 ((q2 q).1 hqq) with h1 | h1
    · exact h.q q (by rw [hq]; exact List.mem_cons_of_mem _ h1)
    · exact (c3 q h1).1
  · rcases List.mem_append.1 (o2.mem_iff.1 hoo) with h1 | h1
    · exact h.o o h1
    · exact (c4 o h1).1
  · rw [hbud]
    rcases hcc with ⟨k1, k2, k3, k4⟩ | ⟨k1, k2, k3, k4⟩
    · subst k2 k3 k4
      simp only [List.length_nil] at hql
      show ((evSort (rest ++ [])).length : Int) + _ ≤ _
      omega
    · show ((evSort (rest ++ sd)).length : Int) + _ ≤ _
      omega
  · rw [hbud]
    show ((outSort (s.outs ++ ou)).length : Int) + _ ≤ _
    rw [hol]
    rcases hcc with ⟨k1, k2, k3, k4⟩ | ⟨k1, k2, k3, k4⟩
    · subst k2 k3 k4; simp; omega
    · omega
  · rcases List.mem_append.1 (o2.mem_iff.1 hoo) with h1 | h1
    · by_cases hp : o.proc.toNat = e.to.toNat
      · rw [hp] at ht
        simp only [List.getElem?_set_self hi, Option.some.injEq] at ht
        subst ht
        have := h.oc o h1 s.states[e.to.toNat] (by rw [hp]; exact List.getElem?_eq_getElem hi)
        rcases hcc with ⟨k1, k2, k3, k4⟩ | ⟨k1, k2, k3, k4⟩
        · rw [k2]; exact this
        · omega
      · rw [List.getElem?_set_ne (Ne.symm hp)] at ht
        exact h.oc o h1 t ht
    · obtain ⟨_, _, k3, k4⟩ := c4 o h1
      rw [k3, List.getElem?_set_self hi] at ht
      simp only [Option.some.injEq] at ht
      subst ht
      rcases hcc with ⟨j1, j2, j3, j4⟩ | ⟨j1, j2, j3, j4⟩
      · subst j4; cases h1
      · omega
  · rw [hbud, hsl]
    rcases hcc with ⟨k1, k2, k3, k4⟩ | ⟨k1, k2, k3, k4⟩
    · subst k2 k3 k4
      simp only [List.length_nil] at hql
      show ((evSort (rest ++ [])).length : Int) + _ < _
      omega
    · show ((evSort (rest ++ sd)).length : Int) + _ < _
      omega
  · rcases List.mem_append.1 ((q2 q).1 hqq) with h1 | h1
    · have hl := hq1 q h1
      exact ⟨evLess_time hl, fun e' => by subst e'; rw [ev_ord.irrefl] at hl; cases hl⟩
    · have := (c3 q h1).2
      exact ⟨by omega, fun e' => by subst e'; omega⟩
  · have : s.queue.length - 1 = rest.length := by rw [hq]; simp
    rw [this]; exact hql2
  · exact List.getElem?_set_ne (Ne.symm hp)
  · rw [List.getElem?_eq_getElem hi] at ht
    simp only [List.getElem?_set_self hi, Option.some.injEq] at ht ht2
    subst ht ht2
    rcases hcc with ⟨k1, k2, k3, k4⟩ | ⟨k1, k2, k3, k4⟩
    · exact Or.inl ⟨k1, k2⟩
    · exact Or.inr ⟨k1, k2⟩
end Go.Proofs.YtbcemldiahghcaaGreat
