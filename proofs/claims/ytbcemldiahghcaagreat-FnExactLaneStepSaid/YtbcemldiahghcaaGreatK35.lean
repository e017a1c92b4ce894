/- Texts joined: Ez4, Ez5. -/
import Derived.Test.YtbcemldiahghcaaGreatK34
namespace Go.Proofs.YtbcemldiahghcaaGreat
set_option linter.unusedVariables false
set_option linter.unusedSimpArgs false
set_option maxRecDepth 100000
open Go.RowKit
/-- The first cells of one element of an own row are turned, and what hangs on it. -/
theorem Ow.updatePre {α : Type} {d : Ty α} {e : TypeId} {w : World} {F : Nat → Prop} {v : Value} {xs : List α} (h : Ow d e w F v xs) {g : Nat} (hv : v.ownBlock = some g) (j : Nat) (hj : j < xs.length) :
    ∃ (Fj : Nat → Prop) (csj : List Value), d.rel w Fj xs[j] csj ∧ (∀ k, Fj k → F k ∧ k ≠ g ∧ k < w.heap.size) ∧ (∀ i u, csj[i]? = some u → w.cell? ⟨g, j * d.sz + i, none⟩ = some u) ∧
      ∀ (w' : World) (x' : α) (pre : List Value) (F' G : Nat → Prop), pre.length ≤ d.sz → w'.heap[g]? = (w.setCells g (j * d.sz) pre).heap[g]? → (∀ k, F k → k < w.heap.size → k ≠ g → ¬ Fj k → w'.heap[k]? = w.heap[k]?) →
        d.rel w' F' x' (pre ++ csj.drop pre.length) → (∀ k, F' k → Fj k) → (∀ k, F k → G k) → Ow d e w' G v (xs.set j x') := by
  obtain ⟨cs, Fs, h1, h2, h3, h4, h5⟩ := h.bound
  have hlen := h1.1
  rcases h1.2 with ⟨rfl, _⟩ | ⟨g', cap, cur, rfl, hb, hh, hc1, hc2, hc3, hc4⟩
  · simp [Value.ownBlock] at hv
  · simp only [Value.ownBlock, Option.some.injEq] at hv
    subst hv
    have hlt := (h1.lt g' rfl).2
    have hjn : (j + 1) * d.sz ≤ xs.length * d.sz := Nat.mul_le_mul_right _ (by omega)
    have hjc : xs.length * d.sz ≤ cap * d.sz := Nat.mul_le_mul_right _ hc1
    rw [Nat.add_mul, Nat.one_mul] at hjn
    refine ⟨Fs j, (cs.drop (j * d.sz)).take d.sz, h5 j _ (List.getElem?_eq_getElem hj), fun k hk => ⟨(h3 j k hk).1.1, fun e' => (h3 j k hk).2 (by rw [e']; rfl), (h3 j k hk).1.2⟩, fun i u hi => ?_, ?_⟩
    · rw [List.getElem?_take] at hi
      split at hi
      · rw [List.getElem?_drop] at hi
        have := h1.cells (g := g') rfl (j * d.sz + i) u hi
        have ha : (⟨g', 0, none⟩ : Addr).add (j * d.sz + i) = ⟨g', j * d.sz + i, none⟩ := by unfold Addr.add; split <;> simp_all
        rwa [ha] at this
      · cases hi
    · intro w' x' pre F' G hi hg hk hr hF' hG
      refine ⟨ovw cs (j * d.sz) pre, fun q k => if q = j then F' k else Fs q k, ⟨by rw [ovw_len, hlen, List.length_set], .inr ⟨g', cap, (ovw cur.toList (j * d.sz) pre).toArray, by rw [List.length_set], hb, ?_, by simpa using hc1, hc2, by simpa [ovw_len] using hc3, ?_⟩⟩, fun k hk' => ?_, ?_, ?_, ?_⟩
      · rw [hg]; exact blk_ovw _ _ _ _ hh
      · rw [List.length_set, ovw_take, hc4]
      · simp [Value.ownBlock] at hk'; subst hk'; exact hG _ (h2 _ rfl).1
      · intro q k hq
        by_cases hqj : q = j
        · subst hqj
          simp only [if_true] at hq
          have h' := hF' k hq
          exact ⟨hG _ (h3 q k h').1.1, (h3 q k h').2⟩
        · simp only [if_neg hqj] at hq
          exact ⟨hG _ (h3 q k hq).1.1, (h3 q k hq).2⟩
      · intro a b k hab ha hb'
        by_cases haj : a = j
        · subst haj
          simp only [if_true, if_neg (Ne.symm hab)] at ha hb'
          exact h4 a b k hab (hF' k ha) hb'
        · by_cases hbj : b = j
          · subst hbj
            simp only [if_true, if_neg haj] at ha hb'
            exact h4 a b k hab ha (hF' k hb')
          · simp only [if_neg haj, if_neg hbj] at ha hb'
            exact h4 a b k hab ha hb'
      · intro q x hq
        by_cases hqj : q = j
        · subst hqj
          simp only [List.getElem?_set_self hj, Option.some.injEq] at hq
          subst hq
          simp only [if_true]
          have hsplit : ((ovw cs (q * d.sz) pre).drop (q * d.sz)).take d.sz = pre ++ ((cs.drop (q * d.sz)).take d.sz).drop pre.length := by
            have e1 : cs = cs.take (q * d.sz) ++ (cs.drop (q * d.sz)).take pre.length ++ (cs.drop (q * d.sz)).drop pre.length := by
              rw [List.append_assoc, List.take_append_drop, List.take_append_drop]
            have hta : (cs.take (q * d.sz)).length = q * d.sz := by rw [List.length_take]; omega
            have hmid : ((cs.drop (q * d.sz)).take pre.length).length = pre.length := by rw [List.length_take, List.length_drop]; omega
            have e2 := ovw_mid pre ((cs.drop (q * d.sz)).take pre.length) (cs.take (q * d.sz)) ((cs.drop (q * d.sz)).drop pre.length) hmid
            rw [hta, ← e1] at e2
            rw [e2, List.append_assoc, List.drop_left' hta, List.drop_take, List.take_append, List.take_of_length_le hi]
          rw [hsplit]
          exact hr
        · rw [List.getElem?_set_ne (Ne.symm hqj)] at hq
          simp only [if_neg hqj]
          have h6 := h5 q x hq
          have h7 : ((ovw cs (j * d.sz) pre).drop (q * d.sz)).take d.sz = (cs.drop (q * d.sz)).take d.sz := by
            apply List.ext_getElem?
            intro i
            rw [List.getElem?_take, List.getElem?_take]
            by_cases hi : i < d.sz
            · simp only [if_pos hi, List.getElem?_drop]
              refine ovw_out _ _ _ _ ?_
              by_cases hlt : q < j
              · have : (q + 1) * d.sz ≤ j * d.sz := Nat.mul_le_mul_right _ hlt
                rw [Nat.add_mul, Nat.one_mul] at this
                left; omega
              · have : (j + 1) * d.sz ≤ q * d.sz := Nat.mul_le_mul_right _ (by omega)
                rw [Nat.add_mul, Nat.one_mul] at this
                right; omega
            · simp only [if_neg hi]
          rw [h7]
          refine d.move (fun k hk' => hk k (h3 q k hk').1.1 (h3 q k hk').1.2 (fun e' => (h3 q k hk').2 (by rw [e']; rfl)) (fun hj' => h4 q j k hqj hk' hj')) h6
def mkPast (m : Int) (a b : Nat) : PastD := ⟨mkEv m, mkSt (m + 1 + 1 + 1 + 1 + 1 + 1 + 1), mkRow mkEv 7 (m + 1 + 1 + 1 + 1 + 1 + 1 + 1 + 1 + 1 + 1) a, mkRow mkOut 5 (m + 1 + 1 + 1 + 1 + 1 + 1 + 1 + 1 + 1 + 1 + 7 * a) b⟩
def pastsMk : List PastD → Int
  | [] => 0
  | r :: rs => (10 + 7 * (r.sends.length : Int) + 5 * (r.outs.length : Int)) + pastsMk rs
theorem pastsMk_nonneg : ∀ rs, 0 ≤ pastsMk rs
  | [] => Int.le_refl _
  | r :: rs => by have := pastsMk_nonneg rs; have h2 : 0 ≤ (10 + 7 * (r.sends.length : Int) + 5 * (r.outs.length : Int)) := (by omega); simp only [pastsMk]; omega
theorem pastsMk_take : ∀ (rs : List PastD) (k : Nat) (h : k < rs.length), pastsMk (rs.take (k + 1)) = pastsMk (rs.take k) + (10 + 7 * (rs[k].sends.length : Int) + 5 * (rs[k].outs.length : Int))
  | r :: rs, 0, h => by simp [pastsMk]
  | r :: rs, k + 1, h => by
    have := pastsMk_take rs k (by simpa using h)
    simp only [List.take_succ_cons, pastsMk, List.getElem_cons_succ] at this ⊢
    omega
theorem pastsMk_le : ∀ (rs : List PastD) (k : Nat), pastsMk (rs.take k) ≤ pastsMk rs
  | [], k => by simp
  | r :: rs, 0 => by simpa [pastsMk] using pastsMk_nonneg (r :: rs)
  | r :: rs, k + 1 => by have := pastsMk_le rs k; simp only [List.take_succ_cons, pastsMk]; omega
theorem pastsMk_bd : ∀ rs, pastsMk rs ≤ 10 * (rs.length : Int) + 7 * pastsSz rs
  | [] => Int.le_refl _
  | r :: rs => by have := pastsMk_bd rs; simp only [pastsMk, pastsSz, List.length_cons]; push_cast; omega
def mkPasts (m : Int) : List PastD → List PastD
  | [] => []
  | x :: xs => mkPast m x.sends.length x.outs.length :: mkPasts (m + (10 + 7 * (x.sends.length : Int) + 5 * (x.outs.length : Int))) xs
theorem mkPasts_len : ∀ (xs : List PastD) (m : Int), (mkPasts m xs).length = xs.length
  | [], _ => rfl
  | x :: xs, m => by simp [mkPasts, mkPasts_len xs]
theorem mkPasts_get : ∀ (xs : List PastD) (m : Int) (j : Nat) (h : j < xs.length), (mkPasts m xs)[j]? = some (mkPast (m + pastsMk (xs.take j)) xs[j].sends.length xs[j].outs.length)
  | x :: xs, m, 0, h => by simp [mkPasts, pastsMk]
  | x :: xs, m, j + 1, h => by
    have := mkPasts_get xs (m + (10 + 7 * (x.sends.length : Int) + 5 * (x.outs.length : Int))) j (by simpa using h)
    simp only [mkPasts, List.getElem?_cons_succ, List.take_succ_cons, pastsMk, List.getElem_cons_succ]
    rw [this, Int.add_assoc m]
theorem mkPasts_app : ∀ (xs ys : List PastD) (m : Int), mkPasts m (xs ++ ys) = mkPasts m xs ++ mkPasts (m + pastsMk xs) ys
  | [], ys, m => by simp [mkPasts, pastsMk]
  | x :: xs, ys, m => by simp only [List.cons_append, mkPasts, mkPasts_app xs, pastsMk, Int.add_assoc]
theorem mkPasts_set (xs : List PastD) (m t : Int) (k : Nat) (h : k < xs.length) (ht : t = m + pastsMk (xs.take k)) : (mkPasts m (xs.take k) ++ xs.drop k).set k (mkPast t xs[k].sends.length xs[k].outs.length) = mkPasts m (xs.take (k + 1)) ++ xs.drop (k + 1) := by
  have hl : (mkPasts m (xs.take k)).length = k := by rw [mkPasts_len, List.length_take]; omega
  rw [List.set_append_right _ _ (by omega), hl, Nat.sub_self, List.drop_eq_getElem_cons h, List.set_cons_zero, List.take_succ_eq_append_getElem h, mkPasts_app, List.append_assoc, ht]
  rfl
theorem mkPasts_flen (xs : List PastD) (m : Int) (k : Nat) (h : k ≤ xs.length) : (mkPasts m (xs.take k) ++ xs.drop k).length = xs.length := by
  rw [List.length_append, mkPasts_len, List.length_take, List.length_drop]; omega
theorem mkPasts_at (xs : List PastD) (m : Int) (k : Nat) (h : k < xs.length) (h' : k < (mkPasts m (xs.take k) ++ xs.drop k).length) : (mkPasts m (xs.take k) ++ xs.drop k)[k] = xs[k] := by
  have hl : (mkPasts m (xs.take k)).length = k := by rw [mkPasts_len, List.length_take]; omega
  apply Option.some.inj
  rw [← List.getElem?_eq_getElem, List.getElem?_append_right (by omega), hl, Nat.sub_self, List.getElem?_drop, Nat.add_zero, List.getElem?_eq_getElem h]
theorem pastsSz_bound (rs : List PastD) (k : Nat) (h : k < rs.length) : 0 ≤ pastsSz (rs.take k) ∧ pastsSz (rs.take k) + ((rs[k].sends.length : Int) + (rs[k].outs.length : Int)) ≤ pastsSz rs :=
  ⟨pastsSz_nonneg _, by rw [← pastsSz_take rs k h]; exact pastsSz_le _ _⟩
theorem pastsMk_bound (rs : List PastD) (k : Nat) (h : k ≤ rs.length) : 0 ≤ pastsMk (rs.take k) ∧ pastsMk (rs.take k) ≤ 10 * (rs.length : Int) + 7 * pastsSz rs :=
  ⟨pastsMk_nonneg _, Int.le_trans (pastsMk_le _ _) (pastsMk_bd _)⟩
set_option maxHeartbeats 2000000 in
theorem markPastS_c (v : Value) (xs : List PastD) (m : Int) (F : Nat → Prop) (w : World) (h : Ow oPast 98 w F v xs) (hm0 : 0 ≤ m) (hm1 : m ≤ 500000000) (hn : (xs.length : Int) + pastsSz xs ≤ 1048576) :
    Calls Tryz.prog 67 #[v, .int .i64 m] w fun q w' => q = .returned (.int .i64 (m + pastsMk xs)) ∧ Ow oPast 98 w' F v (mkPasts m xs) ∧ Ch F w w' := by
  obtain ⟨A, c, rfl, -⟩ := h.shape
  have hnn := pastsSz_nonneg xs
  go_enter Tryz.func67, Tryz.ntmps67
  go_wp2_with fail
  go_loopw [1, 5] (fun l i wr => ∃ (k : Nat) (t : Int), i = .int .i64 k ∧ k ≤ xs.length ∧ l = .int .i64 t ∧ Hid (t = m + pastsMk (xs.take k)) ∧ Ow oPast 98 wr F (.slice A xs.length c) (mkPasts m (xs.take k) ++ xs.drop k) ∧ Ch F w wr) (fun _ i _ => xs.length - (intOf i).toNat)
  case atStart => exact ⟨0, m, rfl, Nat.zero_le _, rfl, by show m = m + pastsMk (xs.take 0); simp [pastsMk], by simpa [mkPasts] using h, Ch.refl _ _⟩
  case round =>
    clear h
    obtain ⟨k, t, rfl, hk, rfl, HT, hO, hC⟩ := hrel
    by_cases hlt : k < xs.length
    · have hfl := mkPasts_flen xs m k hk
      obtain ⟨g, c', cur, hv, hF, hgl, hblk⟩ := hO.head (by omega)
      injection hv with hv1 hv2 hv3
      subst hv1 hv3
      have hkl : k < (mkPasts m (xs.take k) ++ xs.drop k).length := by omega
      obtain ⟨Fj, csj, ⟨vs, vo, hcs, hOs, hOo⟩, hFj, hcj, hup⟩ := hO.updatePre (g := g) rfl k hkl
      subst hcs
      rw [mkPasts_at xs m k hlt hkl] at hOs hOo hcj hup
      obtain ⟨A1, c1, rfl, -⟩ := hOs.shape
      obtain ⟨A2, c2, rfl, -⟩ := hOo.shape
      have hz : oPast.sz = 12 := rfl
      simp only [hz] at hcj hup
      have z0 := hcj 0 _ rfl
      have z1 := hcj 1 _ rfl
      have z2 := hcj 2 _ rfl
      have z3 := hcj 3 _ rfl
      have z4 := hcj 4 _ rfl
      have z5 := hcj 5 _ rfl
      have z6 := hcj 6 _ rfl
      have z7 := hcj 7 _ rfl
      have z8 := hcj 8 _ rfl
      have z9 := hcj 9 _ rfl
      have z10 := hcj 10 _ rfl
      have z11 := hcj 11 _ rfl
      simp only [Nat.add_zero] at z0
      have f0 := blk_frozen hblk (k * 12)
      have f1 := blk_frozen hblk (k * 12 + 1)
      have f2 := blk_frozen hblk (k * 12 + 2)
      have f3 := blk_frozen hblk (k * 12 + 3)
      have f4 := blk_frozen hblk (k * 12 + 4)
      have f5 := blk_frozen hblk (k * 12 + 5)
      have f6 := blk_frozen hblk (k * 12 + 6)
      have f7 := blk_frozen hblk (k * 12 + 7)
      have f8 := blk_frozen hblk (k * 12 + 8)
      have f9 := blk_frozen hblk (k * 12 + 9)
      have hb := pastsSz_bound xs k hlt
      have hbm := pastsMk_bound xs k hk
      have ht0 : 0 ≤ t := by have := HT.out; omega
      have ht1 : t ≤ 600000000 := by have := HT.out; omega
      have hl1 : xs[k].sends.length ≤ 1048576 := by have := hb.1; omega
      have hl2 : xs[k].outs.length ≤ 1048576 := by have := hb.1; omega
      have hW : Ch (fun q => q = g) wr ((((((((((wr.setCell ⟨g, k * 12, none⟩ (.int .i64 (t))).setCell ⟨g, k * 12 + 1, none⟩ (.int .i64 (t + 1))).setCell ⟨g, k * 12 + 2, none⟩ (.int .i64 (t + 1 + 1))).setCell ⟨g, k * 12 + 3, none⟩ (.int .i64 (t + 1 + 1 + 1))).setCell ⟨g, k * 12 + 4, none⟩ (.int .i64 (t + 1 + 1 + 1 + 1))).setCell ⟨g, k * 12 + 5, none⟩ (.int .i64 (t + 1 + 1 + 1 + 1 + 1))).setCell ⟨g, k * 12 + 6, none⟩ (.int .i64 (t + 1 + 1 + 1 + 1 + 1 + 1))).setCell ⟨g, k * 12 + 7, none⟩ (.int .i64 (t + 1 + 1 + 1 + 1 + 1 + 1 + 1))).setCell ⟨g, k * 12 + 8, none⟩ (.int .i64 (t + 1 + 1 + 1 + 1 + 1 + 1 + 1 + 1))).setCell ⟨g, k * 12 + 9, none⟩ (.int .i64 (t + 1 + 1 + 1 + 1 + 1 + 1 + 1 + 1 + 1))) := (Ch.setCell (p := ⟨g, k * 12 + 9, none⟩) (Ch.setCell (p := ⟨g, k * 12 + 8, none⟩) (Ch.setCell (p := ⟨g, k * 12 + 7, none⟩) (Ch.setCell (p := ⟨g, k * 12 + 6, none⟩) (Ch.setCell (p := ⟨g, k * 12 + 5, none⟩) (Ch.setCell (p := ⟨g, k * 12 + 4, none⟩) (Ch.setCell (p := ⟨g, k * 12 + 3, none⟩) (Ch.setCell (p := ⟨g, k * 12 + 2, none⟩) (Ch.setCell (p := ⟨g, k * 12 + 1, none⟩) (Ch.setCell (p := ⟨g, k * 12, none⟩) (Ch.refl (fun q => q = g) _) (Or.inl rfl) _) (Or.inl rfl) _) (Or.inl rfl) _) (Or.inl rfl) _) (Or.inl rfl) _) (Or.inl rfl) _) (Or.inl rfl) _) (Or.inl rfl) _) (Or.inl rfl) _) (Or.inl rfl) _)
      have hOs2 := hOs.ch hW (fun q hq e1 => (hFj q hq).2.1 e1)
      have hOo2 := hOo.ch hW (fun q hq e1 => (hFj q hq).2.1 e1)
      have hB1 : ((((((((((wr.setCell ⟨g, k * 12, none⟩ (.int .i64 (t))).setCell ⟨g, k * 12 + 1, none⟩ (.int .i64 (t + 1))).setCell ⟨g, k * 12 + 2, none⟩ (.int .i64 (t + 1 + 1))).setCell ⟨g, k * 12 + 3, none⟩ (.int .i64 (t + 1 + 1 + 1))).setCell ⟨g, k * 12 + 4, none⟩ (.int .i64 (t + 1 + 1 + 1 + 1))).setCell ⟨g, k * 12 + 5, none⟩ (.int .i64 (t + 1 + 1 + 1 + 1 + 1))).setCell ⟨g, k * 12 + 6, none⟩ (.int .i64 (t + 1 + 1 + 1 + 1 + 1 + 1))).setCell ⟨g, k * 12 + 7, none⟩ (.int .i64 (t + 1 + 1 + 1 + 1 + 1 + 1 + 1))).setCell ⟨g, k * 12 + 8, none⟩ (.int .i64 (t + 1 + 1 + 1 + 1 + 1 + 1 + 1 + 1))).setCell ⟨g, k * 12 + 9, none⟩ (.int .i64 (t + 1 + 1 + 1 + 1 + 1 + 1 + 1 + 1 + 1))).heap[g]? = some (.cells (ovw cur.toList (k * 12) [.int .i64 (t), .int .i64 (t + 1), .int .i64 (t + 1 + 1), .int .i64 (t + 1 + 1 + 1), .int .i64 (t + 1 + 1 + 1 + 1), .int .i64 (t + 1 + 1 + 1 + 1 + 1), .int .i64 (t + 1 + 1 + 1 + 1 + 1 + 1), .int .i64 (t + 1 + 1 + 1 + 1 + 1 + 1 + 1), .int .i64 (t + 1 + 1 + 1 + 1 + 1 + 1 + 1 + 1), .int .i64 (t + 1 + 1 + 1 + 1 + 1 + 1 + 1 + 1 + 1)]).toArray 98 (0, 0)) := blk_ovw [.int .i64 (t), .int .i64 (t + 1), .int .i64 (t + 1 + 1), .int .i64 (t + 1 + 1 + 1), .int .i64 (t + 1 + 1 + 1 + 1), .int .i64 (t + 1 + 1 + 1 + 1 + 1), .int .i64 (t + 1 + 1 + 1 + 1 + 1 + 1), .int .i64 (t + 1 + 1 + 1 + 1 + 1 + 1 + 1), .int .i64 (t + 1 + 1 + 1 + 1 + 1 + 1 + 1 + 1), .int .i64 (t + 1 + 1 + 1 + 1 + 1 + 1 + 1 + 1 + 1)] (k * 12) wr cur.toList (by simpa using hblk)
      have hsz1 : ((((((((((wr.setCell ⟨g, k * 12, none⟩ (.int .i64 (t))).setCell ⟨g, k * 12 + 1, none⟩ (.int .i64 (t + 1))).setCell ⟨g, k * 12 + 2, none⟩ (.int .i64 (t + 1 + 1))).setCell ⟨g, k * 12 + 3, none⟩ (.int .i64 (t + 1 + 1 + 1))).setCell ⟨g, k * 12 + 4, none⟩ (.int .i64 (t + 1 + 1 + 1 + 1))).setCell ⟨g, k * 12 + 5, none⟩ (.int .i64 (t + 1 + 1 + 1 + 1 + 1))).setCell ⟨g, k * 12 + 6, none⟩ (.int .i64 (t + 1 + 1 + 1 + 1 + 1 + 1))).setCell ⟨g, k * 12 + 7, none⟩ (.int .i64 (t + 1 + 1 + 1 + 1 + 1 + 1 + 1))).setCell ⟨g, k * 12 + 8, none⟩ (.int .i64 (t + 1 + 1 + 1 + 1 + 1 + 1 + 1 + 1))).setCell ⟨g, k * 12 + 9, none⟩ (.int .i64 (t + 1 + 1 + 1 + 1 + 1 + 1 + 1 + 1 + 1))).heap.size = wr.heap.size := by simp
      have y11 : ((((((((((wr.setCell ⟨g, k * 12, none⟩ (.int .i64 (t))).setCell ⟨g, k * 12 + 1, none⟩ (.int .i64 (t + 1))).setCell ⟨g, k * 12 + 2, none⟩ (.int .i64 (t + 1 + 1))).setCell ⟨g, k * 12 + 3, none⟩ (.int .i64 (t + 1 + 1 + 1))).setCell ⟨g, k * 12 + 4, none⟩ (.int .i64 (t + 1 + 1 + 1 + 1))).setCell ⟨g, k * 12 + 5, none⟩ (.int .i64 (t + 1 + 1 + 1 + 1 + 1))).setCell ⟨g, k * 12 + 6, none⟩ (.int .i64 (t + 1 + 1 + 1 + 1 + 1 + 1))).setCell ⟨g, k * 12 + 7, none⟩ (.int .i64 (t + 1 + 1 + 1 + 1 + 1 + 1 + 1))).setCell ⟨g, k * 12 + 8, none⟩ (.int .i64 (t + 1 + 1 + 1 + 1 + 1 + 1 + 1 + 1))).setCell ⟨g, k * 12 + 9, none⟩ (.int .i64 (t + 1 + 1 + 1 + 1 + 1 + 1 + 1 + 1 + 1))).cell? ⟨g, k * 12 + 11, none⟩ = some (.slice A2 xs[k].outs.length c2) := by
        rw [blk_cell hB1, List.getElem?_toArray, ovw_out _ _ _ _ (Or.inr (by simp only [List.length_cons, List.length_nil]; omega)), Array.getElem?_toList, ← blk_cell hblk]
        exact z11
      have y10 : ((((((((((wr.setCell ⟨g, k * 12, none⟩ (.int .i64 (t))).setCell ⟨g, k * 12 + 1, none⟩ (.int .i64 (t + 1))).setCell ⟨g, k * 12 + 2, none⟩ (.int .i64 (t + 1 + 1))).setCell ⟨g, k * 12 + 3, none⟩ (.int .i64 (t + 1 + 1 + 1))).setCell ⟨g, k * 12 + 4, none⟩ (.int .i64 (t + 1 + 1 + 1 + 1))).setCell ⟨g, k * 12 + 5, none⟩ (.int .i64 (t + 1 + 1 + 1 + 1 + 1))).setCell ⟨g, k * 12 + 6, none⟩ (.int .i64 (t + 1 + 1 + 1 + 1 + 1 + 1))).setCell ⟨g, k * 12 + 7, none⟩ (.int .i64 (t + 1 + 1 + 1 + 1 + 1 + 1 + 1))).setCell ⟨g, k * 12 + 8, none⟩ (.int .i64 (t + 1 + 1 + 1 + 1 + 1 + 1 + 1 + 1))).setCell ⟨g, k * 12 + 9, none⟩ (.int .i64 (t + 1 + 1 + 1 + 1 + 1 + 1 + 1 + 1 + 1))).cell? ⟨g, k * 12 + 10, none⟩ = some (.slice A1 xs[k].sends.length c1) := by
        rw [blk_cell hB1, List.getElem?_toArray, ovw_out _ _ _ _ (Or.inr (by simp only [List.length_cons, List.length_nil]; omega)), Array.getElem?_toList, ← blk_cell hblk]
        exact z10
      have p0 : (k : Int) < (xs.length : Int) := by omega
      have hMS := hid (mkPasts_set xs m t k hlt HT.out)
      have HTK := hid (show t + (10 + 7 * (xs[k].sends.length : Int) + 5 * (xs[k].outs.length : Int)) = m + pastsMk (xs.take (k + 1)) by
        have h1 := HT.out
        have h2 := pastsMk_take xs k hlt
        omega)
      obtain ⟨el, hel⟩ : ∃ el, xs[k] = el := ⟨_, rfl⟩
      rw [hel] at hMS HTK hOs2 hOo2 hl1 hl2 y10 y11 hup z0 z1 z2 z3 z4 z5 z6 z7 z8 z9 z10 z11
      have HUP := hid hup
      have HW := hid hW
      have HSZ1 := hid hsz1
      have HFL := hid hfl
      have HB1 := hid hB1
      have HY := hid y11
      have HF := hid hF
      have HO := hid hO
      clear hup hcj hz hOs hOo hv2 hel hblk hb hbm hB1 y11 y10 hW hsz1 hfl hkl hO z11
      go_wp2_with fail
      refine (markEventS_c _ el.sends (t + 1 + 1 + 1 + 1 + 1 + 1 + 1 + 1 + 1 + 1) Fj _ hOs2 (by omega) (by omega) hl1).mono ?_
      rintro q w2 ⟨rfl, nS, hC2⟩
      have own1 : ∀ q, (Value.slice A1 el.sends.length c1).ownBlock = some q → Fj q := fun q hq => nS.inF hq
      have nO := hOs2.chOther hOo2 (by decide) hC2
      have hB2 := hC2.heap HB1.out (fun hq => (hFj g (own1 g hq)).2.1 rfl)
      have x11 : w2.cell? ⟨g, k * 12 + 11, none⟩ = some (.slice A2 el.outs.length c2) := (blk_cell hB2 _).trans ((blk_cell HB1.out _).symm.trans HY.out)
      have HC2 := hid hC2
      have HB2 := hid hB2
      clear hC2 hB2 hOs2 hOo2 z0 z1 z2 z3 z4 z5 z6 z7 z8 z9 z10 f0 f1 f2 f3 f4 f5 f6 f7 f8 f9
      apply_assumption
      go_wp2_with fail
      refine (markOutS_c _ el.outs _ Fj _ nO (by omega) (by omega) hl2).mono ?_
      rintro q w3 ⟨rfl, nO3, hC3⟩
      have own2 : ∀ q, (Value.slice A2 el.outs.length c2).ownBlock = some q → Fj q := fun q hq => nO3.inF hq
      have nS3 := nO.chOther nS (by decide) hC3
      have hOn : Ow oPast 98 w3 F (.slice (some ⟨g, 0, none⟩) xs.length c) (mkPasts m (xs.take (k + 1)) ++ xs.drop (k + 1)) := by
        rw [← hMS.out]
        have hgs : g < w2.heap.size := blk_lt HB2.out
        have hg1 : g < ((((((((((wr.setCell ⟨g, k * 12, none⟩ (.int .i64 (t))).setCell ⟨g, k * 12 + 1, none⟩ (.int .i64 (t + 1))).setCell ⟨g, k * 12 + 2, none⟩ (.int .i64 (t + 1 + 1))).setCell ⟨g, k * 12 + 3, none⟩ (.int .i64 (t + 1 + 1 + 1))).setCell ⟨g, k * 12 + 4, none⟩ (.int .i64 (t + 1 + 1 + 1 + 1))).setCell ⟨g, k * 12 + 5, none⟩ (.int .i64 (t + 1 + 1 + 1 + 1 + 1))).setCell ⟨g, k * 12 + 6, none⟩ (.int .i64 (t + 1 + 1 + 1 + 1 + 1 + 1))).setCell ⟨g, k * 12 + 7, none⟩ (.int .i64 (t + 1 + 1 + 1 + 1 + 1 + 1 + 1))).setCell ⟨g, k * 12 + 8, none⟩ (.int .i64 (t + 1 + 1 + 1 + 1 + 1 + 1 + 1 + 1))).setCell ⟨g, k * 12 + 9, none⟩ (.int .i64 (t + 1 + 1 + 1 + 1 + 1 + 1 + 1 + 1 + 1))).heap.size := by rw [HSZ1.out]; exact hgl
        have := HUP.out w3 (mkPast t el.sends.length el.outs.length) [.int .i64 (t), .int .i64 (t + 1), .int .i64 (t + 1 + 1), .int .i64 (t + 1 + 1 + 1), .int .i64 (t + 1 + 1 + 1 + 1), .int .i64 (t + 1 + 1 + 1 + 1 + 1), .int .i64 (t + 1 + 1 + 1 + 1 + 1 + 1), .int .i64 (t + 1 + 1 + 1 + 1 + 1 + 1 + 1), .int .i64 (t + 1 + 1 + 1 + 1 + 1 + 1 + 1 + 1), .int .i64 (t + 1 + 1 + 1 + 1 + 1 + 1 + 1 + 1 + 1)] Fj F (by simp) ((hC3.block g hgs (fun hq => (hFj g (own2 g hq)).2.1 rfl)).trans (HC2.out.block g hg1 (fun hq => (hFj g (own1 g hq)).2.1 rfl)))
          (fun q hq hql hqg hqj => (hC3.block q (Nat.lt_of_lt_of_le (by rw [HSZ1.out]; exact hql) HC2.out.size) (fun e1 => hqj (own2 q e1))).trans ((HC2.out.block q (by rw [HSZ1.out]; exact hql) (fun e1 => hqj (own1 q e1))).trans (HW.out.block q hql hqg)))
          ⟨_, _, rfl, nS3, nO3⟩ (fun _ hq => hq) (fun _ hq => hq)
        exact this
      have hCn : Ch F w w3 := hC.trans ((HW.out.mono (fun q hq => by rw [hq]; exact HF.out)).trans ((HC2.out.mono (fun q hq => (hFj q (own1 q hq)).1)).trans (hC3.mono (fun q hq => (hFj q (own2 q hq)).1))))
      have HT' := hid (show t + 1 + 1 + 1 + 1 + 1 + 1 + 1 + 1 + 1 + 1 + 7 * (el.sends.length : Int) + 5 * (el.outs.length : Int) = m + pastsMk (xs.take (k + 1)) by have := HTK.out; omega)
      have HN := hid hOn
      have HCN := hid hCn
      clear hOn hCn hC nS nO nO3 nS3 hC3 x11
      apply_assumption
      go_wp2_with fail
      go_roundw
      case rel => exact ⟨k + 1, _, by go_num, by omega, rfl, HT', HN.out, HCN.out⟩
      case measure => simp [intOf]; omega
    · have hkl : k = xs.length := by omega
      subst hkl
      have hO2 : Ow oPast 98 wr F (.slice A xs.length c) (mkPasts m xs) := by
        have := hO
        rwa [List.drop_length, List.append_nil, List.take_length] at this
      go_wp2_with fail
      go_ret
      exact ⟨by rw [HT.out, List.take_length]; rfl, hO2, hC⟩
end Go.Proofs.YtbcemldiahghcaaGreat

namespace Go.Proofs.YtbcemldiahghcaaGreat
set_option linter.unusedVariables false
set_option linter.unusedSimpArgs false
set_option maxRecDepth 100000
open Go.RowKit
set_option maxHeartbeats 2000000 in
theorem heldPastS_c (v : Value) (xs : List PastD) (m : Int) (F : Nat → Prop) (w : World) (h : Rd tPast w F v (mkPasts m xs)) (hm0 : 0 ≤ m) (hm1 : m ≤ 500000000) (hn : (xs.length : Int) + pastsSz xs ≤ 1048576) :
    Calls Tryz.prog 68 #[v, .int .i64 m] w fun q w' => q = .returned (.int .i64 (m + pastsMk xs)) ∧ Below w.heap.size w w' := by
  obtain ⟨A, c, rfl, -⟩ := h.shape
  have hlen : (mkPasts m xs).length = xs.length := mkPasts_len _ _
  rw [hlen] at h ⊢
  have hnn := pastsSz_nonneg xs
  go_enter Tryz.func68, Tryz.ntmps68
  go_wp2_with fail
  go_loopw [1, 5] (fun l i wr => ∃ (k : Nat) (t : Int), i = .int .i64 k ∧ k ≤ xs.length ∧ l = .int .i64 t ∧ Hid (t = m + pastsMk (xs.take k)) ∧ Below w.heap.size w wr) (fun _ i _ => xs.length - (intOf i).toNat)
  case atStart => exact ⟨0, m, rfl, Nat.zero_le _, rfl, by show m = m + pastsMk (xs.take 0); simp [pastsMk], Below.refl _ _⟩
  case round =>
    obtain ⟨k, t, rfl, hk, rfl, HT, hB⟩ := hrel
    by_cases hlt : k < xs.length
    · have hkm : k < (mkPasts m xs).length := by rw [hlen]; exact hlt
      obtain ⟨b0, o0, A1, c1, A2, c2, rfl, hb0, ⟨z0, z1, z2, z3, z4, z5, z6⟩, ⟨z7, z8, z9⟩, z10, z11, r1, r2⟩ := past_at (h.below hB) k hkm
      have hg : (mkPasts m xs)[k]'hkm = mkPast t xs[k].sends.length xs[k].outs.length := by
        have := mkPasts_get xs m k hlt
        rw [List.getElem?_eq_getElem hkm] at this
        rw [HT.out]
        exact Option.some.inj this
      rw [hg] at z0 z1 z2 z3 z4 z5 z6 z7 z8 z9 z10 z11 r1 r2
      simp only [mkPast, mkEv, mkSt, mkRow_len] at z0 z1 z2 z3 z4 z5 z6 z7 z8 z9 z10 z11 r1 r2
      have hb := pastsSz_bound xs k hlt
      have hbm := pastsMk_bound xs k hk
      have p0 : (k : Int) < (xs.length : Int) := by omega
      have ht0 : 0 ≤ t := by have := HT.out; omega
      have ht1 : t ≤ 600000000 := by have := HT.out; omega
      have HTK := hid (show t + 1 + 1 + 1 + 1 + 1 + 1 + 1 + 1 + 1 + 1 + 7 * (xs[k].sends.length : Int) + 5 * (xs[k].outs.length : Int) = m + pastsMk (xs.take (k + 1)) by
        have h1 := HT.out
        have h2 := pastsMk_take xs k hlt
        omega)
      have hl1 : xs[k].sends.length ≤ 1048576 := by have := hb.1; omega
      have hl2 : xs[k].outs.length ≤ 1048576 := by have := hb.1; omega
      obtain ⟨na, hna⟩ : ∃ n, xs[k].sends.length = n := ⟨_, rfl⟩
      obtain ⟨nb, hnb⟩ : ∃ n, xs[k].outs.length = n := ⟨_, rfl⟩
      rw [hna] at z10 r1 r2 hl1 HTK
      rw [hnb] at z11 r2 hl2 HTK
      have e1 : decide (t + 1 + 1 + 1 + 1 + 1 + 1 + 1 + 1 + 1 + 1 + 7 * (na : Int) < 0) = false := decide_eq_false (by omega)
      have e2 : decide (t + 1 + 1 + 1 + 1 + 1 + 1 + 1 + 1 + 1 + 1 + 7 * (na : Int) + 5 * (nb : Int) < 0) = false := decide_eq_false (by omega)
      clear hg hna hnb hb hbm
      go_wp2_with fail
      refine (heldEventS_c _ na (t + 1 + 1 + 1 + 1 + 1 + 1 + 1 + 1 + 1 + 1) F _ r1 (by omega) (by omega) hl1).mono ?_
      rintro q w1 ⟨rfl, hb1⟩
      have hB1 := bthen hB hb1 hB.size
      have y11 := (bcell hb1).1 _ (o0 + k * 12 + 11) hb0
      rw [z11] at y11
      have r3 := r2.below hb1
      apply_assumption
      go_wp2_with fail
      refine (heldOutS_c _ nb _ F _ r3 (by omega) (by omega) hl2).mono ?_
      rintro q w2 ⟨rfl, hb2⟩
      have hB2 := bthen hB1 hb2 hB1.size
      apply_assumption
      go_wp2_with fail
      go_roundw
      case rel => exact ⟨k + 1, _, by go_num, by omega, rfl, HTK, hB2⟩
      case measure => simp [intOf]; omega
    · have hkl : k = xs.length := by omega
      subst hkl
      go_wp2_with fail
      go_ret
      exact ⟨by rw [HT.out, List.take_length]; rfl, hB⟩
set_option maxHeartbeats 1000000 in
theorem markLane_c (v : Value) (l : LaneD) (m : Int) (F : Nat → Prop) (w : World) (h : Ow oPast 98 w F v l.done) (hm0 : 0 ≤ m) (hm1 : m ≤ 500000000) (hn : (l.done.length : Int) + pastsSz l.done ≤ 1048576) :
    Calls Tryz.prog 27 #[.agg #[.int .i64 l.proc, .int .i64 l.base.x, .int .i64 l.base.y, .int .i64 l.base.c, v], .int .i64 m] w fun q w' => q = .returned (.int .i64 (m + pastsMk l.done)) ∧ Ow oPast 98 w' F v (mkPasts m l.done) ∧ Ch F w w' := by
  obtain ⟨A, c, rfl, -⟩ := h.shape
  have hb := balloc (Below.refl w.heap.size w) (.cells #[.int .i64 l.proc, .int .i64 l.base.x, .int .i64 l.base.y, .int .i64 l.base.c, .slice A l.done.length c] 52)
  have h1 := h.below hb
  go_enter Tryz.func27, Tryz.ntmps27
  go_wp2_with fail
  refine (markPastS_c _ l.done m F _ h1 hm0 hm1 hn).mono ?_
  rintro q w1 ⟨rfl, hO, hC⟩
  have hC1 : Ch F w w1 := (Ch.of_below hb).trans hC
  apply_assumption
  go_wp2_with fail
  go_ret
  exact ⟨rfl, hO, hC1⟩
set_option maxHeartbeats 1000000 in
theorem heldLane_c (v : Value) (p : Int) (s : StD) (xs : List PastD) (m : Int) (F : Nat → Prop) (w : World) (h : Rd tPast w F v (mkPasts m xs)) (hm0 : 0 ≤ m) (hm1 : m ≤ 500000000) (hn : (xs.length : Int) + pastsSz xs ≤ 1048576) :
    Calls Tryz.prog 29 #[.agg #[.int .i64 p, .int .i64 s.x, .int .i64 s.y, .int .i64 s.c, v], .int .i64 m] w fun q w' => q = .returned (.int .i64 (m + pastsMk xs)) ∧ Below w.heap.size w w' := by
  obtain ⟨A, c, rfl, -⟩ := h.shape
  rw [mkPasts_len] at h ⊢
  have hb := balloc (Below.refl w.heap.size w) (.cells #[.int .i64 p, .int .i64 s.x, .int .i64 s.y, .int .i64 s.c, .slice A xs.length c] 52)
  have h1 := h.below hb
  have e1 : decide (m + pastsMk xs < 0) = false := decide_eq_false (by have := pastsMk_nonneg xs; omega)
  go_enter Tryz.func29, Tryz.ntmps29
  go_wp2_with fail
  refine (heldPastS_c _ xs m F _ h1 hm0 hm1 hn).mono ?_
  rintro q w1 ⟨rfl, hb1⟩
  have hB := bthen' hb hb1
  apply_assumption
  go_wp2_with fail
  go_ret
  exact ⟨rfl, hB⟩
end Go.Proofs.YtbcemldiahghcaaGreat
