/- Texts joined: Ex5, Ex1, Ex6. -/
import Derived.Test.YtbcemldiahghcaaGreatK32
import Derived.Test.YtbcemldiahghcaaGreatK08
namespace Go.Proofs.YtbcemldiahghcaaGreat
set_option linter.unusedVariables false
set_option linter.unusedSimpArgs false
set_option maxRecDepth 100000
open Go.RowKit
/-- Elements that are numbered through. -/
def mkRow {α : Type} (f : Int → α) (s : Int) (m : Int) : Nat → List α
  | 0 => []
  | n + 1 => mkRow f s m n ++ [f (m + s * n)]
theorem mkRow_len {α : Type} (f : Int → α) (s m : Int) : ∀ n, (mkRow f s m n).length = n
  | 0 => rfl
  | n + 1 => by simp [mkRow, mkRow_len f s m n]
theorem mkRow_get {α : Type} (f : Int → α) (s m : Int) : ∀ (n j : Nat) (h : j < n), (mkRow f s m n)[j]? = some (f (m + s * j))
  | 0, j, h => by omega
  | n + 1, j, h => by
    rw [mkRow]
    by_cases hj : j < n
    · rw [List.getElem?_append_left (by rw [mkRow_len]; exact hj), mkRow_get f s m n j hj]
    · have : j = n := by omega
      subst this
      rw [List.getElem?_append_right (by rw [mkRow_len]; omega), mkRow_len]
      simp
theorem mkRow_set {α : Type} (f : Int → α) (s m : Int) (xs : List α) (j : Nat) (h : j < xs.length) : (mkRow f s m j ++ xs.drop j).set j (f (m + s * j)) = mkRow f s m (j + 1) ++ xs.drop (j + 1) := by
  rw [List.set_append_right _ _ (by rw [mkRow_len]; omega), mkRow_len, Nat.sub_self, List.drop_eq_getElem_cons h, List.set_cons_zero, mkRow, List.append_assoc]
  rfl
theorem mkRow_flen {α : Type} (f : Int → α) (s m : Int) (xs : List α) (j : Nat) (h : j ≤ xs.length) : (mkRow f s m j ++ xs.drop j).length = xs.length := by
  rw [List.length_append, mkRow_len, List.length_drop]; omega
def mkEv (m : Int) : EvD := ⟨m, m + 1, m + 1 + 1, m + 1 + 1 + 1, m + 1 + 1 + 1 + 1, m + 1 + 1 + 1 + 1 + 1, m + 1 + 1 + 1 + 1 + 1 + 1⟩
set_option maxHeartbeats 1000000 in
theorem heldEventS_c (v : Value) (n : Nat) (m : Int) (F : Nat → Prop) (w : World) (h : Rd tEv w F v (mkRow mkEv 7 m n)) (hm0 : 0 ≤ m) (hm1 : m ≤ 1000000000) (hn : n ≤ 1048576) :
    Calls Tryz.prog 45 #[v, .int .i64 m] w fun q w' => q = .returned (.int .i64 (m + 7 * n)) ∧ Below w.heap.size w w' := by
  obtain ⟨A, c, rfl, -⟩ := h.shape
  have hlen : (mkRow mkEv 7 m n).length = n := mkRow_len _ _ _ _
  rw [hlen] at h ⊢
  go_enter Tryz.func45, Tryz.ntmps45
  go_wp2_with fail
  go_loopw [1, 5] (fun l i wr => ∃ (k : Nat) (t : Int), i = .int .i64 k ∧ k ≤ n ∧ l = .int .i64 t ∧ Hid (t = m + 7 * k) ∧ Below w.heap.size w wr) (fun _ i _ => n - (intOf i).toNat)
  case atStart => exact ⟨0, m, rfl, Nat.zero_le _, rfl, by show m = m + 7 * ((0 : Nat) : Int); omega, Below.refl _ _⟩
  case round =>
    obtain ⟨k, t, rfl, hk, rfl, HT, hB⟩ := hrel
    by_cases hlt : k < n
    · obtain ⟨b0, o0, rfl, hb0, z0, z1, z2, z3, z4, z5, z6⟩ := ev_at (h.below hB) k (by rw [hlen]; exact hlt)
      have hg : (mkRow mkEv 7 m n)[k]'(by rw [hlen]; exact hlt) = mkEv t := by
        have := mkRow_get mkEv 7 m n k hlt
        rw [List.getElem?_eq_getElem (by rw [hlen]; exact hlt)] at this
        rw [HT.out]
        exact Option.some.inj this
      rw [hg] at z0 z1 z2 z3 z4 z5 z6
      simp only [mkEv] at z0 z1 z2 z3 z4 z5 z6
      have p0 : (k : Int) < (n : Int) := by omega
      have ht0 : 0 ≤ t := by have := HT.out; omega
      have ht1 : t ≤ 2000000000 := by have := HT.out; omega
      have HT' := hid (show t + 1 + 1 + 1 + 1 + 1 + 1 + 1 = m + 7 * ((k + 1 : Nat) : Int) by have := HT.out; push_cast; omega)
      clear hg
      go_wp2_with fail
      go_roundw
      case rel => exact ⟨k + 1, _, by go_num, by omega, rfl, HT', hB⟩
      case measure => simp [intOf]; omega
    · have hkl : k = n := by omega
      subst hkl
      go_wp2_with fail
      go_ret
      exact ⟨by rw [HT.out]; rfl, hB⟩
set_option maxHeartbeats 1000000 in
theorem markEventS_c (v : Value) (xs : List EvD) (m : Int) (F : Nat → Prop) (w : World) (h : Ow tEv 80 w F v xs) (hm0 : 0 ≤ m) (hm1 : m ≤ 1000000000) (hn : xs.length ≤ 1048576) :
    Calls Tryz.prog 28 #[v, .int .i64 m] w fun q w' => q = .returned (.int .i64 (m + 7 * xs.length)) ∧ Ow tEv 80 w' F v (mkRow mkEv 7 m xs.length) ∧ Ch (fun q => v.ownBlock = some q) w w' := by
  obtain ⟨A, c, rfl, -⟩ := h.shape
  go_enter Tryz.func28, Tryz.ntmps28
  go_wp2_with fail
  go_loopw [1, 5] (fun l i wr => ∃ (k : Nat) (t : Int), i = .int .i64 k ∧ k ≤ xs.length ∧ l = .int .i64 t ∧ Hid (t = m + 7 * k) ∧ Ow tEv 80 wr F (.slice A xs.length c) (mkRow mkEv 7 m k ++ xs.drop k) ∧ Ch (fun q => (Value.slice A xs.length c).ownBlock = some q) w wr) (fun _ i _ => xs.length - (intOf i).toNat)
  case atStart => exact ⟨0, m, rfl, Nat.zero_le _, rfl, by show m = m + 7 * ((0 : Nat) : Int); omega, by simpa [mkRow] using h, Ch.refl _ _⟩
  case round =>
    obtain ⟨k, t, rfl, hk, rfl, HT, hO, hC⟩ := hrel
    by_cases hlt : k < xs.length
    · have hfl := mkRow_flen mkEv 7 m xs k hk
      obtain ⟨g, c', cur, hv, hF, hgl, hblk⟩ := hO.head (by omega)
      injection hv with hv1 hv2 hv3
      subst hv1 hv3
      have hkl : k < (mkRow mkEv 7 m k ++ xs.drop k).length := by omega
      obtain ⟨b0, o0, hA, hb0, z0, z1, z2, z3, z4, z5, z6⟩ := ev_at hO.rd k hkl
      injection hA with hA
      injection hA with hA1 hA2 _
      subst hA1 hA2
      simp only [Nat.zero_add] at z0 z1 z2 z3 z4 z5 z6
      obtain ⟨el, hel⟩ : ∃ el, (mkRow mkEv 7 m k ++ xs.drop k)[k] = el := ⟨_, rfl⟩
      rw [hel] at z0 z1 z2 z3 z4 z5 z6
      clear hel
      have f0 := blk_frozen hblk (k * 7)
      have f1 := blk_frozen hblk (k * 7 + 1)
      have f2 := blk_frozen hblk (k * 7 + 2)
      have f3 := blk_frozen hblk (k * 7 + 3)
      have f4 := blk_frozen hblk (k * 7 + 4)
      have f5 := blk_frozen hblk (k * 7 + 5)
      have f6 := blk_frozen hblk (k * 7 + 6)
      have hset := hO.setAt (g := g) rfl k hkl (mkEv t)
      have hrow : (mkRow mkEv 7 m k ++ xs.drop k).set k (mkEv t) = mkRow mkEv 7 m (k + 1) ++ xs.drop (k + 1) := by rw [HT.out]; exact mkRow_set _ _ _ _ _ hlt
      have hO2 : Ow tEv 80 (((((((wr.setCell ⟨g, k * 7, none⟩ (.int .i64 (t))).setCell ⟨g, k * 7 + 1, none⟩ (.int .i64 (t + 1))).setCell ⟨g, k * 7 + 2, none⟩ (.int .i64 (t + 1 + 1))).setCell ⟨g, k * 7 + 3, none⟩ (.int .i64 (t + 1 + 1 + 1))).setCell ⟨g, k * 7 + 4, none⟩ (.int .i64 (t + 1 + 1 + 1 + 1))).setCell ⟨g, k * 7 + 5, none⟩ (.int .i64 (t + 1 + 1 + 1 + 1 + 1))).setCell ⟨g, k * 7 + 6, none⟩ (.int .i64 (t + 1 + 1 + 1 + 1 + 1 + 1))) F (.slice (some ⟨g, 0, none⟩) xs.length c) (mkRow mkEv 7 m (k + 1) ++ xs.drop (k + 1)) := by rw [← hrow]; exact hset.2.1
      have hC2 : Ch (fun q => (Value.slice (some ⟨g, 0, none⟩) xs.length c).ownBlock = some q) w (((((((wr.setCell ⟨g, k * 7, none⟩ (.int .i64 (t))).setCell ⟨g, k * 7 + 1, none⟩ (.int .i64 (t + 1))).setCell ⟨g, k * 7 + 2, none⟩ (.int .i64 (t + 1 + 1))).setCell ⟨g, k * 7 + 3, none⟩ (.int .i64 (t + 1 + 1 + 1))).setCell ⟨g, k * 7 + 4, none⟩ (.int .i64 (t + 1 + 1 + 1 + 1))).setCell ⟨g, k * 7 + 5, none⟩ (.int .i64 (t + 1 + 1 + 1 + 1 + 1))).setCell ⟨g, k * 7 + 6, none⟩ (.int .i64 (t + 1 + 1 + 1 + 1 + 1 + 1))) := hC.trans (hset.2.2.mono (fun q hq => by simp [Value.ownBlock, hq]))
      have p0 : (k : Int) < (xs.length : Int) := by omega
      have ht0 : 0 ≤ t := by have := HT.out; omega
      have ht1 : t ≤ 2000000000 := by have := HT.out; omega
      have HT' := hid (show t + 1 + 1 + 1 + 1 + 1 + 1 + 1 = m + 7 * ((k + 1 : Nat) : Int) by have := HT.out; push_cast; omega)
      clear hset hrow hfl hO hC hblk hkl hv2
      have HO2 := hid hO2
      have HC2 := hid hC2
      clear hO2 hC2
      go_wp2_with fail
      go_roundw
      case rel => exact ⟨k + 1, _, by go_num, by omega, rfl, HT', HO2.out, HC2.out⟩
      case measure => simp [intOf]; omega
    · have hkl : k = xs.length := by omega
      subst hkl
      have hO2 : Ow tEv 80 wr F (.slice A xs.length c) (mkRow mkEv 7 m xs.length) := by
        have := hO
        rwa [List.drop_length, List.append_nil] at this
      go_wp2_with fail
      go_ret
      exact ⟨by rw [HT.out]; rfl, hO2, hC⟩
def mkOut (m : Int) : OutD := ⟨m, m + 1, m + 1 + 1, m + 1 + 1 + 1, m + 1 + 1 + 1 + 1⟩
set_option maxHeartbeats 1000000 in
theorem heldOutS_c (v : Value) (n : Nat) (m : Int) (F : Nat → Prop) (w : World) (h : Rd tOut w F v (mkRow mkOut 5 m n)) (hm0 : 0 ≤ m) (hm1 : m ≤ 1000000000) (hn : n ≤ 1048576) :
    Calls Tryz.prog 46 #[v, .int .i64 m] w fun q w' => q = .returned (.int .i64 (m + 5 * n)) ∧ Below w.heap.size w w' := by
  obtain ⟨A, c, rfl, -⟩ := h.shape
  have hlen : (mkRow mkOut 5 m n).length = n := mkRow_len _ _ _ _
  rw [hlen] at h ⊢
  go_enter Tryz.func46, Tryz.ntmps46
  go_wp2_with fail
  go_loopw [1, 5] (fun l i wr => ∃ (k : Nat) (t : Int), i = .int .i64 k ∧ k ≤ n ∧ l = .int .i64 t ∧ Hid (t = m + 5 * k) ∧ Below w.heap.size w wr) (fun _ i _ => n - (intOf i).toNat)
  case atStart => exact ⟨0, m, rfl, Nat.zero_le _, rfl, by show m = m + 5 * ((0 : Nat) : Int); omega, Below.refl _ _⟩
  case round =>
    obtain ⟨k, t, rfl, hk, rfl, HT, hB⟩ := hrel
    by_cases hlt : k < n
    · obtain ⟨b0, o0, rfl, hb0, z0, z1, z2, z3, z4⟩ := out_at (h.below hB) k (by rw [hlen]; exact hlt)
      have hg : (mkRow mkOut 5 m n)[k]'(by rw [hlen]; exact hlt) = mkOut t := by
        have := mkRow_get mkOut 5 m n k hlt
        rw [List.getElem?_eq_getElem (by rw [hlen]; exact hlt)] at this
        rw [HT.out]
        exact Option.some.inj this
      rw [hg] at z0 z1 z2 z3 z4
      simp only [mkOut] at z0 z1 z2 z3 z4
      have p0 : (k : Int) < (n : Int) := by omega
      have ht0 : 0 ≤ t := by have := HT.out; omega
      have ht1 : t ≤ 2000000000 := by have := HT.out; omega
      have HT' := hid (show t + 1 + 1 + 1 + 1 + 1 = m + 5 * ((k + 1 : Nat) : Int) by have := HT.out; push_cast; omega)
      clear hg
      go_wp2_with fail
      go_roundw
      case rel => exact ⟨k + 1, _, by go_num, by omega, rfl, HT', hB⟩
      case measure => simp [intOf]; omega
    · have hkl : k = n := by omega
      subst hkl
      go_wp2_with fail
      go_ret
      exact ⟨by rw [HT.out]; rfl, hB⟩
set_option maxHeartbeats 1000000 in
theorem markOutS_c (v : Value) (xs : List OutD) (m : Int) (F : Nat → Prop) (w : World) (h : Ow tOut 128 w F v xs) (hm0 : 0 ≤ m) (hm1 : m ≤ 1000000000) (hn : xs.length ≤ 1048576) :
    Calls Tryz.prog 43 #[v, .int .i64 m] w fun q w' => q = .returned (.int .i64 (m + 5 * xs.length)) ∧ Ow tOut 128 w' F v (mkRow mkOut 5 m xs.length) ∧ Ch (fun q => v.ownBlock = some q) w w' := by
  obtain ⟨A, c, rfl, -⟩ := h.shape
  go_enter Tryz.func43, Tryz.ntmps43
  go_wp2_with fail
  go_loopw [1, 5] (fun l i wr => ∃ (k : Nat) (t : Int), i = .int .i64 k ∧ k ≤ xs.length ∧ l = .int .i64 t ∧ Hid (t = m + 5 * k) ∧ Ow tOut 128 wr F (.slice A xs.length c) (mkRow mkOut 5 m k ++ xs.drop k) ∧ Ch (fun q => (Value.slice A xs.length c).ownBlock = some q) w wr) (fun _ i _ => xs.length - (intOf i).toNat)
  case atStart => exact ⟨0, m, rfl, Nat.zero_le _, rfl, by show m = m + 5 * ((0 : Nat) : Int); omega, by simpa [mkRow] using h, Ch.refl _ _⟩
  case round =>
    obtain ⟨k, t, rfl, hk, rfl, HT, hO, hC⟩ := hrel
    by_cases hlt : k < xs.length
    · have hfl := mkRow_flen mkOut 5 m xs k hk
      obtain ⟨g, c', cur, hv, hF, hgl, hblk⟩ := hO.head (by omega)
      injection hv with hv1 hv2 hv3
      subst hv1 hv3
      have hkl : k < (mkRow mkOut 5 m k ++ xs.drop k).length := by omega
      obtain ⟨b0, o0, hA, hb0, z0, z1, z2, z3, z4⟩ := out_at hO.rd k hkl
      injection hA with hA
      injection hA with hA1 hA2 _
      subst hA1 hA2
      simp only [Nat.zero_add] at z0 z1 z2 z3 z4
      obtain ⟨el, hel⟩ : ∃ el, (mkRow mkOut 5 m k ++ xs.drop k)[k] = el := ⟨_, rfl⟩
      rw [hel] at z0 z1 z2 z3 z4
      clear hel
      have f0 := blk_frozen hblk (k * 5)
      have f1 := blk_frozen hblk (k * 5 + 1)
      have f2 := blk_frozen hblk (k * 5 + 2)
      have f3 := blk_frozen hblk (k * 5 + 3)
      have f4 := blk_frozen hblk (k * 5 + 4)
      have hset := hO.setAt (g := g) rfl k hkl (mkOut t)
      have hrow : (mkRow mkOut 5 m k ++ xs.drop k).set k (mkOut t) = mkRow mkOut 5 m (k + 1) ++ xs.drop (k + 1) := by rw [HT.out]; exact mkRow_set _ _ _ _ _ hlt
      have hO2 : Ow tOut 128 (((((wr.setCell ⟨g, k * 5, none⟩ (.int .i64 (t))).setCell ⟨g, k * 5 + 1, none⟩ (.int .i64 (t + 1))).setCell ⟨g, k * 5 + 2, none⟩ (.int .i64 (t + 1 + 1))).setCell ⟨g, k * 5 + 3, none⟩ (.int .i64 (t + 1 + 1 + 1))).setCell ⟨g, k * 5 + 4, none⟩ (.int .i64 (t + 1 + 1 + 1 + 1))) F (.slice (some ⟨g, 0, none⟩) xs.length c) (mkRow mkOut 5 m (k + 1) ++ xs.drop (k + 1)) := by rw [← hrow]; exact hset.2.1
      have hC2 : Ch (fun q => (Value.slice (some ⟨g, 0, none⟩) xs.length c).ownBlock = some q) w (((((wr.setCell ⟨g, k * 5, none⟩ (.int .i64 (t))).setCell ⟨g, k * 5 + 1, none⟩ (.int .i64 (t + 1))).setCell ⟨g, k * 5 + 2, none⟩ (.int .i64 (t + 1 + 1))).setCell ⟨g, k * 5 + 3, none⟩ (.int .i64 (t + 1 + 1 + 1))).setCell ⟨g, k * 5 + 4, none⟩ (.int .i64 (t + 1 + 1 + 1 + 1))) := hC.trans (hset.2.2.mono (fun q hq => by simp [Value.ownBlock, hq]))
      have p0 : (k : Int) < (xs.length : Int) := by omega
      have ht0 : 0 ≤ t := by have := HT.out; omega
      have ht1 : t ≤ 2000000000 := by have := HT.out; omega
      have HT' := hid (show t + 1 + 1 + 1 + 1 + 1 = m + 5 * ((k + 1 : Nat) : Int) by have := HT.out; push_cast; omega)
      clear hset hrow hfl hO hC hblk hkl hv2
      have HO2 := hid hO2
      have HC2 := hid hC2
      clear hO2 hC2
      go_wp2_with fail
      go_roundw
      case rel => exact ⟨k + 1, _, by go_num, by omega, rfl, HT', HO2.out, HC2.out⟩
      case measure => simp [intOf]; omega
    · have hkl : k = xs.length := by omega
      subst hkl
      have hO2 : Ow tOut 128 wr F (.slice A xs.length c) (mkRow mkOut 5 m xs.length) := by
        have := hO
        rwa [List.drop_length, List.append_nil] at this
      go_wp2_with fail
      go_ret
      exact ⟨by rw [HT.out]; rfl, hO2, hC⟩
def mkOp (m : Int) : OpD := ⟨m, m + 1, m + 1 + 1, m + 1 + 1 + 1, m + 1 + 1 + 1 + 1⟩
set_option maxHeartbeats 1000000 in
theorem markOpS_c (v : Value) (xs : List OpD) (m : Int) (F : Nat → Prop) (w : World) (h : Ow tOp 150 w F v xs) (hm0 : 0 ≤ m) (hm1 : m ≤ 1000000000) (hn : xs.length ≤ 1048576) :
    Calls Tryz.prog 89 #[v, .int .i64 m] w fun q w' => q = .returned (.int .i64 (m + 5 * xs.length)) ∧ Ow tOp 150 w' F v (mkRow mkOp 5 m xs.length) ∧ Ch (fun q => v.ownBlock = some q) w w' := by
  obtain ⟨A, c, rfl, -⟩ := h.shape
  go_enter Tryz.func89, Tryz.ntmps89
  go_wp2_with fail
  go_loopw [1, 5] (fun l i wr => ∃ (k : Nat) (t : Int), i = .int .i64 k ∧ k ≤ xs.length ∧ l = .int .i64 t ∧ Hid (t = m + 5 * k) ∧ Ow tOp 150 wr F (.slice A xs.length c) (mkRow mkOp 5 m k ++ xs.drop k) ∧ Ch (fun q => (Value.slice A xs.length c).ownBlock = some q) w wr) (fun _ i _ => xs.length - (intOf i).toNat)
  case atStart => exact ⟨0, m, rfl, Nat.zero_le _, rfl, by show m = m + 5 * ((0 : Nat) : Int); omega, by simpa [mkRow] using h, Ch.refl _ _⟩
  case round =>
    obtain ⟨k, t, rfl, hk, rfl, HT, hO, hC⟩ := hrel
    by_cases hlt : k < xs.length
    · have hfl := mkRow_flen mkOp 5 m xs k hk
      obtain ⟨g, c', cur, hv, hF, hgl, hblk⟩ := hO.head (by omega)
      injection hv with hv1 hv2 hv3
      subst hv1 hv3
      have hkl : k < (mkRow mkOp 5 m k ++ xs.drop k).length := by omega
      obtain ⟨b0, o0, hA, hb0, z0, z1, z2, z3, z4⟩ := op_at hO.rd k hkl
      injection hA with hA
      injection hA with hA1 hA2 _
      subst hA1 hA2
      simp only [Nat.zero_add] at z0 z1 z2 z3 z4
      obtain ⟨el, hel⟩ : ∃ el, (mkRow mkOp 5 m k ++ xs.drop k)[k] = el := ⟨_, rfl⟩
      rw [hel] at z0 z1 z2 z3 z4
      clear hel
      have f0 := blk_frozen hblk (k * 5)
      have f1 := blk_frozen hblk (k * 5 + 1)
      have f2 := blk_frozen hblk (k * 5 + 2)
      have f3 := blk_frozen hblk (k * 5 + 3)
      have f4 := blk_frozen hblk (k * 5 + 4)
      have hset := hO.setAt (g := g) rfl k hkl (mkOp t)
      have hrow : (mkRow mkOp 5 m k ++ xs.drop k).set k (mkOp t) = mkRow mkOp 5 m (k + 1) ++ xs.drop (k + 1) := by rw [HT.out]; exact mkRow_set _ _ _ _ _ hlt
      have hO2 : Ow tOp 150 (((((wr.setCell ⟨g, k * 5, none⟩ (.int .i64 (t))).setCell ⟨g, k * 5 + 1, none⟩ (.int .i64 (t + 1))).setCell ⟨g, k * 5 + 2, none⟩ (.int .i64 (t + 1 + 1))).setCell ⟨g, k * 5 + 3, none⟩ (.int .i64 (t + 1 + 1 + 1))).setCell ⟨g, k * 5 + 4, none⟩ (.int .i64 (t + 1 + 1 + 1 + 1))) F (.slice (some ⟨g, 0, none⟩) xs.length c) (mkRow mkOp 5 m (k + 1) ++ xs.drop (k + 1)) := by rw [← hrow]; exact hset.2.1
      have hC2 : Ch (fun q => (Value.slice (some ⟨g, 0, none⟩) xs.length c).ownBlock = some q) w (((((wr.setCell ⟨g, k * 5, none⟩ (.int .i64 (t))).setCell ⟨g, k * 5 + 1, none⟩ (.int .i64 (t + 1))).setCell ⟨g, k * 5 + 2, none⟩ (.int .i64 (t + 1 + 1))).setCell ⟨g, k * 5 + 3, none⟩ (.int .i64 (t + 1 + 1 + 1))).setCell ⟨g, k * 5 + 4, none⟩ (.int .i64 (t + 1 + 1 + 1 + 1))) := hC.trans (hset.2.2.mono (fun q hq => by simp [Value.ownBlock, hq]))
      have p0 : (k : Int) < (xs.length : Int) := by omega
      have ht0 : 0 ≤ t := by have := HT.out; omega
      have ht1 : t ≤ 2000000000 := by have := HT.out; omega
      have HT' := hid (show t + 1 + 1 + 1 + 1 + 1 = m + 5 * ((k + 1 : Nat) : Int) by have := HT.out; push_cast; omega)
      clear hset hrow hfl hO hC hblk hkl hv2
      have HO2 := hid hO2
      have HC2 := hid hC2
      clear hO2 hC2
      go_wp2_with fail
      go_roundw
      case rel => exact ⟨k + 1, _, by go_num, by omega, rfl, HT', HO2.out, HC2.out⟩
      case measure => simp [intOf]; omega
    · have hkl : k = xs.length := by omega
      subst hkl
      have hO2 : Ow tOp 150 wr F (.slice A xs.length c) (mkRow mkOp 5 m xs.length) := by
        have := hO
        rwa [List.drop_length, List.append_nil] at this
      go_wp2_with fail
      go_ret
      exact ⟨by rw [HT.out]; rfl, hO2, hC⟩
end Go.Proofs.YtbcemldiahghcaaGreat

namespace Go.Proofs.YtbcemldiahghcaaGreat
set_option linter.unusedVariables false
set_option linter.unusedSimpArgs false
set_option maxRecDepth 100000
open Go.RowKit
def szTo (left n : Int) : Int := if left - n < 0 then -1 else left - n
def rulesSz : List RuleD → Int
  | [] => 0
  | r :: rs => r.ops.length + rulesSz rs
theorem rulesSz_nonneg : ∀ rs, 0 ≤ rulesSz rs
  | [] => Int.le_refl _
  | r :: rs => by have := rulesSz_nonneg rs; simp only [rulesSz]; omega
theorem rulesSz_take : ∀ (rs : List RuleD) (k : Nat) (h : k < rs.length), rulesSz (rs.take (k + 1)) = rulesSz (rs.take k) + rs[k].ops.length
  | r :: rs, 0, h => by simp [rulesSz]
  | r :: rs, k + 1, h => by
    have := rulesSz_take rs k (by simpa using h)
    simp only [List.take_succ_cons, rulesSz, List.getElem_cons_succ]
    omega
theorem rulesSz_le : ∀ (rs : List RuleD) (k : Nat), rulesSz (rs.take k) ≤ rulesSz rs
  | [], k => by simp
  | r :: rs, 0 => by simpa [rulesSz] using rulesSz_nonneg (r :: rs)
  | r :: rs, k + 1 => by have := rulesSz_le rs k; simp only [List.take_succ_cons, rulesSz]; omega
/-- Each row within the count. -/
theorem rulesSz_mem : ∀ (rs : List RuleD) (r : RuleD), r ∈ rs → (r.ops.length : Int) ≤ rulesSz rs
  | r' :: rs, r, h => by
    rcases List.mem_cons.1 h with rfl | h
    · have := rulesSz_nonneg rs; simp only [rulesSz]; omega
    · have := rulesSz_mem rs r h; simp only [rulesSz]; omega
set_option maxHeartbeats 1000000 in
theorem szOpS_c (v : Value) (n : Nat) (left : Int) (w : World) (hv : ∃ A c, v = .slice A n c) (hn : n ≤ 9223372036854775807) (h0 : 0 ≤ left) (h1 : left ≤ 1048576) :
    Calls Tryz.prog 141 #[v, .int .i64 left] w fun q w' => q = .returned (.int .i64 (szTo left n)) ∧ Below w.heap.size w w' := by
  obtain ⟨A, c, rfl⟩ := hv
  have hW : IntKind.i64.wrap (left - n) = left - n := IntWalk.i64_in _ (by omega)
  by_cases h : left - (n : Int) < 0
  · have hd : decide (left - (n : Int) < 0) = true := decide_eq_true h
    have HF := hid (show szTo left n = -1 by simp [szTo, h])
    clear h
    go_enter Tryz.func141, Tryz.ntmps141
    go_wp2_with fail
    go_ret
    exact ⟨by rw [HF.out]; rfl, Below.refl _ _⟩
  · have hd : decide (left - (n : Int) < 0) = false := decide_eq_false h
    have HF := hid (show szTo left n = left - n by simp [szTo, h])
    clear h
    go_enter Tryz.func141, Tryz.ntmps141
    go_wp2_with fail
    go_ret
    exact ⟨by rw [HF.out]; rfl, Below.refl _ _⟩
set_option maxHeartbeats 1000000 in
theorem szRule_c (r : RuleD) (v : Value) (left : Int) (F : Nat → Prop) (w : World) (h : Rd tOp w F v r.ops) (h0 : 0 ≤ left) (h1 : left ≤ 1048576) :
    Calls Tryz.prog 90 #[.agg #[.int .i64 r.kind, v], .int .i64 left] w fun q w' => q = .returned (.int .i64 (szTo left r.ops.length)) ∧ Below w.heap.size w w' := by
  obtain ⟨A, c, rfl, -, hn, -⟩ := id h
  obtain ⟨t, ht⟩ : ∃ t, szTo left r.ops.length = t := ⟨_, rfl⟩
  have hb := balloc (Below.refl w.heap.size w) (.cells #[.int .i64 r.kind, .slice A r.ops.length c] 134)
  by_cases hneg : t < 0
  · have hd : decide (t < 0) = true := decide_eq_true hneg
    have hm : t = -1 := by rw [← ht] at hneg ⊢; unfold szTo at hneg ⊢; split at hneg <;> simp_all
    have HM := hid hm
    clear hneg hm
    go_enter Tryz.func90, Tryz.ntmps90
    go_wp2_with fail
    refine (szOpS_c _ r.ops.length left _ ⟨_, _, rfl⟩ hn h0 h1).mono ?_
    rintro q w1 ⟨rfl, hb1⟩
    rw [ht]
    have HB := bthen' hb hb1
    apply_assumption
    go_wp2_with fail
    go_ret
    exact ⟨by rw [ht, HM.out]; rfl, HB⟩
  · have hd : decide (t < 0) = false := decide_eq_false hneg
    clear hneg
    go_enter Tryz.func90, Tryz.ntmps90
    go_wp2_with fail
    refine (szOpS_c _ r.ops.length left _ ⟨_, _, rfl⟩ hn h0 h1).mono ?_
    rintro q w1 ⟨rfl, hb1⟩
    rw [ht]
    have HB := bthen' hb hb1
    apply_assumption
    go_wp2_with fail
    go_ret
    exact ⟨by rw [ht]; rfl, HB⟩
set_option maxHeartbeats 1000000 in
theorem szRuleS_c (v : Value) (rs : List RuleD) (left : Int) (F : Nat → Prop) (w : World) (h : Rd tRule w F v rs) (h0 : 0 ≤ left) (h1 : left ≤ 1048576) :
    Calls Tryz.prog 47 #[v, .int .i64 left] w fun q w' => q = .returned (.int .i64 (szTo left (rs.length + rulesSz rs))) ∧ Below w.heap.size w w' := by
  obtain ⟨A, c, rfl, -, hn, -⟩ := id h
  have hW : IntKind.i64.wrap (left - rs.length) = left - rs.length := IntWalk.i64_in _ (by omega)
  have hnn := rulesSz_nonneg rs
  by_cases hneg : left - (rs.length : Int) < 0
  · have hd : decide (left - (rs.length : Int) < 0) = true := decide_eq_true hneg
    have HF := hid (show szTo left (rs.length + rulesSz rs) = -1 by unfold szTo; rw [if_pos (by omega)])
    clear hneg
    go_enter Tryz.func47, Tryz.ntmps47
    go_wp2_with fail
    go_ret
    exact ⟨by rw [HF.out]; rfl, Below.refl _ _⟩
  · have hd : decide (left - (rs.length : Int) < 0) = false := decide_eq_false hneg
    have HN := hid hneg
    clear hneg
    go_enter Tryz.func47, Tryz.ntmps47
    go_wp2_with fail
    go_loopw [1, 5] (fun l i wr => ∃ (k : Nat) (m : Int), i = .int .i64 k ∧ k ≤ rs.length ∧ l = .int .i64 m ∧ Hid (m = left - (rs.length + rulesSz (rs.take k)) ∧ 0 ≤ m) ∧ Below w.heap.size w wr) (fun _ i _ => rs.length - (intOf i).toNat)
    case atStart => exact ⟨0, _, rfl, Nat.zero_le _, rfl, ⟨by simp [rulesSz], by have := HN.out; omega⟩, Below.refl _ _⟩
    case round =>
      obtain ⟨k, m, rfl, hk, rfl, HM, hb⟩ := hrel
      by_cases hlt : k < rs.length
      · obtain ⟨b, o, A1, c1, rfl, hbl, z0, z1, hr⟩ := rule_at (h.below hb) k hlt
        have p0 : (k : Int) < (rs.length : Int) := by omega
        have hm0 := HM.out.2
        have hm1 : m ≤ 1048576 := by have := HM.out.1; have := rulesSz_nonneg (rs.take k); omega
        obtain ⟨t, ht⟩ : ∃ t, szTo m rs[k].ops.length = t := ⟨_, rfl⟩
        have HT := hid ht
        go_wp2_with fail
        refine (szRule_c rs[k] _ m _ wr hr hm0 hm1).mono ?_
        rintro q w1 ⟨rfl, hb1⟩
        rw [ht]
        have HB := bthen hb hb1 hb.size
        apply_assumption
        by_cases hneg : t < 0
        · have hd2 : decide (t < 0) = true := decide_eq_true hneg
          have HF := hid (show szTo left (rs.length + rulesSz rs) = -1 by
            have h3 := HM.out.1
            have h4 := HT.out
            have h5 := rulesSz_take rs k hlt
            have h6 := rulesSz_le rs (k + 1)
            unfold szTo at h4 ⊢
            rw [if_pos]
            split at h4 <;> omega)
          clear hneg ht
          go_wp2_with fail
          go_ret
          exact ⟨by rw [HF.out]; rfl, HB⟩
        · have hd2 : decide (t < 0) = false := decide_eq_false hneg
          have HM' := hid (show t = left - (rs.length + rulesSz (rs.take (k + 1))) ∧ 0 ≤ t by
            have h3 := HM.out.1
            have h4 := HT.out
            have h5 := rulesSz_take rs k hlt
            unfold szTo at h4
            split at h4 <;> omega)
          clear hneg ht
          go_wp2_with fail
          go_roundw
          case rel => exact ⟨k + 1, t, by go_num, by omega, rfl, HM', HB⟩
          case measure => simp [intOf]; omega
      · have hkl : k = rs.length := by omega
        subst hkl
        have HF := hid (show szTo left (rs.length + rulesSz rs) = m by
          have h3 := HM.out
          rw [List.take_length] at h3
          unfold szTo
          rw [if_neg (by omega)]
          omega)
        go_wp2_with fail
        go_ret
        exact ⟨by rw [HF.out]; rfl, hb⟩
set_option maxHeartbeats 1000000 in
theorem szApp_c (a : AppD) (v : Value) (left : Int) (F : Nat → Prop) (w : World) (h : Rd tRule w F v a.rules) (h0 : 0 ≤ left) (h1 : left ≤ 1048576) :
    Calls Tryz.prog 15 #[.agg #[v], .int .i64 left] w fun q w' => q = .returned (.int .i64 (szTo left (a.rules.length + rulesSz a.rules))) ∧ Below w.heap.size w w' := by
  obtain ⟨A, c, rfl, -, hn, -⟩ := id h
  obtain ⟨t, ht⟩ : ∃ t, szTo left (a.rules.length + rulesSz a.rules) = t := ⟨_, rfl⟩
  have hb := balloc (Below.refl w.heap.size w) (.cells #[.slice A a.rules.length c] 39)
  have hr := h.below hb
  by_cases hneg : t < 0
  · have hd : decide (t < 0) = true := decide_eq_true hneg
    have hm : t = -1 := by rw [← ht] at hneg ⊢; unfold szTo at hneg ⊢; split at hneg <;> simp_all
    have HM := hid hm
    clear hneg hm
    go_enter Tryz.func15, Tryz.ntmps15
    go_wp2_with fail
    refine (szRuleS_c _ a.rules left _ _ hr h0 h1).mono ?_
    rintro q w1 ⟨rfl, hb1⟩
    rw [ht]
    have HB := bthen' hb hb1
    apply_assumption
    go_wp2_with fail
    go_ret
    exact ⟨by rw [ht, HM.out]; rfl, HB⟩
  · have hd : decide (t < 0) = false := decide_eq_false hneg
    clear hneg
    go_enter Tryz.func15, Tryz.ntmps15
    go_wp2_with fail
    refine (szRuleS_c _ a.rules left _ _ hr h0 h1).mono ?_
    rintro q w1 ⟨rfl, hb1⟩
    rw [ht]
    have HB := bthen' hb hb1
    apply_assumption
    go_wp2_with fail
    go_ret
    exact ⟨by rw [ht]; rfl, HB⟩
end Go.Proofs.YtbcemldiahghcaaGreat

namespace Go.Proofs.YtbcemldiahghcaaGreat
set_option linter.unusedVariables false
set_option linter.unusedSimpArgs false
set_option maxRecDepth 100000
open Go.RowKit
/-- One cell of one element of an own row is turned, and what hangs on it. -/
theorem Ow.updateIn {α : Type} {d : Ty α} {e : TypeId} {w : World} {F : Nat → Prop} {v : Value} {xs : List α} (h : Ow d e w F v xs) {g : Nat} (hv : v.ownBlock = some g) (j : Nat) (hj : j < xs.length) :
    ∃ (Fj : Nat → Prop) (csj : List Value), d.rel w Fj xs[j] csj ∧ (∀ k, Fj k → F k ∧ k ≠ g ∧ k < w.heap.size) ∧ (∀ i u, csj[i]? = some u → w.cell? ⟨g, j * d.sz + i, none⟩ = some u) ∧
      ∀ (w' : World) (x' : α) (i : Nat) (u : Value) (F' G : Nat → Prop), i < d.sz → w'.heap[g]? = (w.setCell ⟨g, j * d.sz + i, none⟩ u).heap[g]? → (∀ k, F k → k < w.heap.size → k ≠ g → ¬ Fj k → w'.heap[k]? = w.heap[k]?) →
        d.rel w' F' x' (csj.set i u) → (∀ k, F' k → Fj k) → (∀ k, F k → G k) → Ow d e w' G v (xs.set j x') := by
  obtain ⟨cs, Fs, h1, h2, h3, h4, h5⟩ := h.bound
  have hlen := h1.1
  rcases h1.2 with ⟨rfl, _⟩ | ⟨g', cap, cur, rfl, hb, hh, hc1, hc2, hc3, hc4⟩
  · simp [Value.ownBlock] at hv
  · simp only [Value.ownBlock, Option.some.injEq] at hv
    subst hv
    have hlt := (h1.lt g' rfl).2
    refine ⟨Fs j, (cs.drop (j * d.sz)).take d.sz, h5 j _ (List.getElem?_eq_getElem hj), fun k hk => ⟨(h3 j k hk).1.1, fun e' => (h3 j k hk).2 (by rw [e']; rfl), (h3 j k hk).1.2⟩, fun i u hi => ?_, ?_⟩
    · rw [List.getElem?_take] at hi
      split at hi
      · rw [List.getElem?_drop] at hi
        have := h1.cells (g := g') rfl (j * d.sz + i) u hi
        have ha : (⟨g', 0, none⟩ : Addr).add (j * d.sz + i) = ⟨g', j * d.sz + i, none⟩ := by unfold Addr.add; split <;> simp_all
        rwa [ha] at this
      · cases hi
    · intro w' x' i u F' G hi hg hk hr hF' hG
      refine ⟨cs.set (j * d.sz + i) u, fun q k => if q = j then F' k else Fs q k, ⟨by simp [hlen], .inr ⟨g', cap, cur.setIfInBounds (j * d.sz + i) u, by simp, hb, ?_, by simpa using hc1, hc2, by simpa using hc3, ?_⟩⟩, fun k hk' => ?_, ?_, ?_, ?_⟩
      · rw [hg]; exact blk_set hh _ _
      · simp [List.take_set, hc4]
      · simp [Value.ownBlock] at hk'; subst hk'; exact hG _ (h2 _ rfl).1
      · intro q k hq
        by_cases hqj : q = j
        · subst hqj
          simp only [if_true] at hq
          have h' := hF' k hq
          exact ⟨hG _ (h3 q k h').1.1, (h3 q k h').2⟩
        · simp only [if_neg hqj] at hq
          exact ⟨hG _ (h3 q k hq).1.1, (h3 q k hq).2⟩
      · intro a b k hab ha hb'
        by_cases haj : a = j
        · subst haj
          simp only [if_true, if_neg (Ne.symm hab)] at ha hb'
          exact h4 a b k hab (hF' k ha) hb'
        · by_cases hbj : b = j
          · subst hbj
            simp only [if_true, if_neg haj] at ha hb'
            exact h4 a b k hab ha (hF' k hb')
          · simp only [if_neg haj, if_neg hbj] at ha hb'
            exact h4 a b k hab ha hb'
      · intro q x hq
        by_cases hqj : q = j
        · subst hqj
          simp only [List.getElem?_set_self hj, Option.some.injEq] at hq
          subst hq
          simp only [if_true]
          rw [List.drop_set, if_neg (by omega), Nat.add_sub_cancel_left, List.take_set]
          exact hr
        · rw [List.getElem?_set_ne (Ne.symm hqj)] at hq
          simp only [if_neg hqj]
          have h6 := h5 q x hq
          have h7 : ((cs.set (j * d.sz + i) u).drop (q * d.sz)).take d.sz = (cs.drop (q * d.sz)).take d.sz := by
            rw [List.drop_set]
            by_cases hlt' : q < j
            · have : (q + 1) * d.sz ≤ j * d.sz := Nat.mul_le_mul_right _ hlt'
              rw [Nat.add_mul, Nat.one_mul] at this
              rw [if_neg (by omega), List.take_set_of_le (by omega)]
            · have : (j + 1) * d.sz ≤ q * d.sz := Nat.mul_le_mul_right _ (by omega)
              rw [Nat.add_mul, Nat.one_mul] at this
              rw [if_pos (by omega)]
          rw [h7]
          refine d.move (fun k hk' => hk k (h3 q k hk').1.1 (h3 q k hk').1.2 (fun e' => (h3 q k hk').2 (by rw [e']; rfl)) (fun hj' => h4 q j k hqj hk' hj')) h6

def sameOps (ys rs : List RuleD) : Prop := ys.length = rs.length ∧ ∀ j : Nat, (ys[j]?).map (fun r : RuleD => r.ops.length) = (rs[j]?).map (fun r : RuleD => r.ops.length)
theorem sameOps.set {ys rs : List RuleD} (h : sameOps ys rs) (j : Nat) (x : RuleD) (hx : (rs[j]?).map (fun r : RuleD => r.ops.length) = some x.ops.length) : sameOps (ys.set j x) rs := by
  refine ⟨by simpa using h.1, fun q => ?_⟩
  by_cases hq : q = j
  · subst hq
    have hl : q < ys.length := by
      rw [h.1]
      cases hr : rs[q]? with
      | none => rw [hr] at hx; cases hx
      | some r => exact (List.getElem?_eq_some_iff.1 hr).1
    rw [List.getElem?_set_self hl, hx]; rfl
  · rw [List.getElem?_set_ne (Ne.symm hq)]; exact h.2 q
theorem rulesSz_bound (rs : List RuleD) (k : Nat) (h : k < rs.length) : 0 ≤ rulesSz (rs.take k) ∧ rulesSz (rs.take k) + rs[k].ops.length ≤ rulesSz rs :=
  ⟨rulesSz_nonneg _, by rw [← rulesSz_take rs k h]; exact rulesSz_le _ _⟩
set_option maxHeartbeats 1000000 in
theorem markRuleS_c (v : Value) (rs : List RuleD) (m : Int) (F : Nat → Prop) (w : World) (h : Ow oRule 120 w F v rs) (hm0 : 0 ≤ m) (hm1 : m ≤ 100000000) (hn : (rs.length : Int) + rulesSz rs ≤ 1048576) :
    Calls Tryz.prog 41 #[v, .int .i64 m] w fun q w' => q = .returned (.int .i64 (m + rs.length + 5 * rulesSz rs)) ∧ Ch F w w' := by
  obtain ⟨A, c, rfl, -⟩ := h.shape
  have hnn := rulesSz_nonneg rs
  go_enter Tryz.func41, Tryz.ntmps41
  go_wp2_with fail
  go_loopw [1, 5] (fun l i wr => ∃ (k : Nat) (t : Int) (ys : List RuleD), i = .int .i64 k ∧ k ≤ rs.length ∧ l = .int .i64 t ∧ Hid (t = m + k + 5 * rulesSz (rs.take k)) ∧ Ow oRule 120 wr F (.slice A rs.length c) ys ∧ Hid (sameOps ys rs) ∧ Ch F w wr) (fun _ i _ => rs.length - (intOf i).toNat)
  case atStart => exact ⟨0, m, rs, rfl, Nat.zero_le _, rfl, by show m = m + ((0 : Nat) : Int) + 5 * rulesSz (rs.take 0); simp [rulesSz], h, ⟨rfl, fun _ => rfl⟩, Ch.refl _ _⟩
  case round =>
    clear h
    obtain ⟨k, t, ys, rfl, hk, rfl, HT, hO, HS, hC⟩ := hrel
    by_cases hlt : k < rs.length
    · have hlen : ys.length = rs.length := HS.out.1
      obtain ⟨g, c', cur, hv, hF, hgl, hblk⟩ := hO.head (by omega)
      injection hv with hv1 hv2 hv3
      subst hv1 hv3
      have hkl : k < ys.length := by omega
      obtain ⟨Fj, csj, ⟨vv, hcs, hOp⟩, hFj, hcj, hup⟩ := hO.updateIn (g := g) rfl k hkl
      subst hcs
      have hops : ys[k].ops.length = rs[k].ops.length := by
        have := HS.out.2 k
        rw [List.getElem?_eq_getElem hkl, List.getElem?_eq_getElem hlt] at this
        simpa using this
      obtain ⟨A2, c2, rfl, -⟩ := hOp.shape
      have z0 := hcj 0 _ rfl
      have z1 := hcj 1 _ rfl
      have hz : oRule.sz = 2 := rfl
      rw [hz] at z0 z1
      simp only [Nat.add_zero] at z0
      have f0 := blk_frozen hblk (k * 2)
      have hb := rulesSz_bound rs k hlt
      have ht0 : 0 ≤ t := by have := HT.out; omega
      have ht1 : t ≤ 200000000 := by have := HT.out; omega
      have hW : Ch (fun q => q = g) wr (wr.setCell ⟨g, k * 2, none⟩ (.int .i64 t)) := Ch.setCell (p := ⟨g, k * 2, none⟩) (Ch.refl (fun q => q = g) _) (Or.inl rfl) _
      have hOp2 := hOp.ch hW (fun q hq e1 => (hFj q hq).2.1 e1)
      have hsz : (wr.setCell ⟨g, k * 2, none⟩ (.int .i64 t)).heap.size = wr.heap.size := by simp
      have hopl : ys[k].ops.length ≤ 1048576 := by have := hb.1; omega
      have p0 : (k : Int) < (rs.length : Int) := by omega
      have HUP := hid hup
      have HOPS := hid hops
      have HLEN := hid hlen
      have HB := hid hb
      have HBLK := hid hblk
      obtain ⟨el, hel⟩ : ∃ el, ys[k] = el := ⟨_, rfl⟩
      rw [hel] at z0 z1 hOp2 hopl
      have HEL := hid hel
      clear hup hops hlen hb hblk hel hv2 hcj hOp hz hsz
      go_wp2_with fail
      refine (markOpS_c _ el.ops (t + 1) Fj _ hOp2 (by omega) (by omega) hopl).mono ?_
      rintro q w2 ⟨rfl, hO2, hC2⟩
      have hown : ∀ q, (Value.slice A2 el.ops.length c2).ownBlock = some q → Fj q := fun q hq => hO2.inF hq
      have hOn : Ow oRule 120 w2 F (.slice (some ⟨g, 0, none⟩) rs.length c) (ys.set k ⟨t, mkRow mkOp 5 (t + 1) el.ops.length⟩) := by
        refine HUP.out w2 ⟨t, mkRow mkOp 5 (t + 1) el.ops.length⟩ 0 (.int .i64 t) Fj F (by decide) ?_ ?_ ?_ (fun _ hq => hq) (fun _ hq => hq)
        · exact hC2.block g (by simpa using hgl) (fun hq => (hFj g (hown g hq)).2.1 rfl)
        · intro q hq hql hqg hqj
          exact (hC2.block q (by simpa using hql) (fun e1 => hqj (hown q e1))).trans (hW.block q hql hqg)
        · refine ⟨_, ?_, hO2⟩
          rw [HEL.out]
          rfl
      have hS2 := hid (HS.out.set k ⟨t, mkRow mkOp 5 (t + 1) el.ops.length⟩ (by rw [List.getElem?_eq_getElem hlt]; simp [mkRow_len, ← HEL.out, HOPS.out]))
      have hCn : Ch F w w2 := hC.trans (((hW.mono (fun q hq => by rw [hq]; exact hF)).trans (hC2.mono (fun q hq => (hFj q (hown q hq)).1))))
      have HT' := hid (show t + 1 + 5 * (el.ops.length : Int) = m + ((k + 1 : Nat) : Int) + 5 * rulesSz (rs.take (k + 1)) by
        have h1 := HT.out
        have h2 := rulesSz_take rs k hlt
        have h3 : el.ops.length = rs[k].ops.length := by rw [← HEL.out]; exact HOPS.out
        rw [h2, h3]; push_cast; omega)
      clear hO2 hC2 hW hOp2 z0 z1 f0 hO hC
      have HN := hid hOn
      have HCN := hid hCn
      clear hOn hCn
      apply_assumption
      go_wp2_with fail
      go_roundw
      case rel => exact ⟨k + 1, _, _, by go_num, by omega, rfl, HT', HN.out, hS2, HCN.out⟩
      case measure => simp [intOf]; omega
    · have hkl : k = rs.length := by omega
      subst hkl
      go_wp2_with fail
      go_ret
      exact ⟨by rw [HT.out, List.take_length]; rfl, hC⟩
set_option maxHeartbeats 1000000 in
theorem markApp_c (v : Value) (a : AppD) (m : Int) (F : Nat → Prop) (w : World) (h : Ow oRule 120 w F v a.rules) (hm0 : 0 ≤ m) (hm1 : m ≤ 100000000) (hn : (a.rules.length : Int) + rulesSz a.rules ≤ 1048576) :
    Calls Tryz.prog 26 #[.agg #[v], .int .i64 m] w fun q w' => q = .returned (.int .i64 (m + a.rules.length + 5 * rulesSz a.rules)) ∧ Ch F w w' := by
  obtain ⟨A, c, rfl, -⟩ := h.shape
  have hb := balloc (Below.refl w.heap.size w) (.cells #[.slice A a.rules.length c] 57)
  have h1 := h.below hb
  go_enter Tryz.func26, Tryz.ntmps26
  go_wp2_with fail
  refine (markRuleS_c _ a.rules m F _ h1 hm0 hm1 hn).mono ?_
  rintro q w1 ⟨rfl, hC⟩
  have hC1 : Ch F w w1 := (Ch.of_below hb).trans hC
  apply_assumption
  go_wp2_with fail
  go_ret
  exact ⟨rfl, hC1⟩
end Go.Proofs.YtbcemldiahghcaaGreat
