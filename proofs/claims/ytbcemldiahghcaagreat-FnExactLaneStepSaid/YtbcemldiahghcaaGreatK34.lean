/- Texts joined: Ey1, Ey4, Ez1. -/
import Derived.Test.YtbcemldiahghcaaGreatK33
import Derived.Test.YtbcemldiahghcaaGreatK10
import Derived.Test.YtbcemldiahghcaaGreatK14
import Derived.Test.YtbcemldiahghcaaGreatK11
namespace Go.Proofs.YtbcemldiahghcaaGreat
set_option linter.unusedVariables false
set_option linter.unusedSimpArgs false
set_option maxRecDepth 100000
open Go.RowKit
theorem szTo_neg {left n t : Int} (h : szTo left n = t) (ht : t < 0) (hl : 0 ≤ left) : left - n < 0 ∧ t = -1 := by
  unfold szTo at h; split at h <;> omega
theorem szTo_pos {left n t : Int} (h : szTo left n = t) (ht : ¬ t < 0) : t = left - n ∧ 0 ≤ t := by
  unfold szTo at h; split at h <;> omega
theorem szTo_is {left n : Int} (h : left - n < 0) : szTo left n = -1 := by unfold szTo; rw [if_pos h]
theorem szTo_at {left n : Int} (h : 0 ≤ left - n) : szTo left n = left - n := by unfold szTo; rw [if_neg (by omega)]
set_option maxHeartbeats 1000000 in
theorem szEventS_c (v : Value) (n : Nat) (left : Int) (w : World) (hv : ∃ A c, v = .slice A n c) (hn : n ≤ 9223372036854775807) (h0 : 0 ≤ left) (h1 : left ≤ 1048576) :
    Calls Tryz.prog 17 #[v, .int .i64 left] w fun q w' => q = .returned (.int .i64 (szTo left n)) ∧ Below w.heap.size w w' := by
  obtain ⟨A, c, rfl⟩ := hv
  have hW : IntKind.i64.wrap (left - n) = left - n := IntWalk.i64_in _ (by omega)
  by_cases h : left - (n : Int) < 0
  · have hd : decide (left - (n : Int) < 0) = true := decide_eq_true h
    have HF := hid (show szTo left n = -1 by simp [szTo, h])
    clear h
    go_enter Tryz.func17, Tryz.ntmps17
    go_wp2_with fail
    go_ret
    exact ⟨by rw [HF.out]; rfl, Below.refl _ _⟩
  · have hd : decide (left - (n : Int) < 0) = false := decide_eq_false h
    have HF := hid (show szTo left n = left - n by simp [szTo, h])
    clear h
    go_enter Tryz.func17, Tryz.ntmps17
    go_wp2_with fail
    go_ret
    exact ⟨by rw [HF.out]; rfl, Below.refl _ _⟩
set_option maxHeartbeats 1000000 in
theorem szOutS_c (v : Value) (n : Nat) (left : Int) (w : World) (hv : ∃ A c, v = .slice A n c) (hn : n ≤ 9223372036854775807) (h0 : 0 ≤ left) (h1 : left ≤ 1048576) :
    Calls Tryz.prog 70 #[v, .int .i64 left] w fun q w' => q = .returned (.int .i64 (szTo left n)) ∧ Below w.heap.size w w' := by
  obtain ⟨A, c, rfl⟩ := hv
  have hW : IntKind.i64.wrap (left - n) = left - n := IntWalk.i64_in _ (by omega)
  by_cases h : left - (n : Int) < 0
  · have hd : decide (left - (n : Int) < 0) = true := decide_eq_true h
    have HF := hid (show szTo left n = -1 by simp [szTo, h])
    clear h
    go_enter Tryz.func70, Tryz.ntmps70
    go_wp2_with fail
    go_ret
    exact ⟨by rw [HF.out]; rfl, Below.refl _ _⟩
  · have hd : decide (left - (n : Int) < 0) = false := decide_eq_false h
    have HF := hid (show szTo left n = left - n by simp [szTo, h])
    clear h
    go_enter Tryz.func70, Tryz.ntmps70
    go_wp2_with fail
    go_ret
    exact ⟨by rw [HF.out]; rfl, Below.refl _ _⟩
def appsSz : List AppD → Int
  | [] => 0
  | r :: rs => (r.rules.length + rulesSz r.rules) + appsSz rs
end Go.Proofs.YtbcemldiahghcaaGreat

namespace Go.Proofs.YtbcemldiahghcaaGreat
set_option linter.unusedVariables false
set_option linter.unusedSimpArgs false
set_option maxRecDepth 100000
open Go.RowKit
/-- A row of another type stays where one row is written (the row may be none). -/
theorem Ow.chOther {α β : Type} {d : Ty α} {e e' : TypeId} {cells : β → List Value} {sz : Nat} {hl : ∀ x, (cells x).length = sz} {ho : ∀ x, ∀ u ∈ cells x, u.oneCell' = true} {w w8 : World} {F F' : Nat → Prop} {v v' : Value} {xs : List α} {ys : List β}
    (h : Ow d e w F v xs) (h' : Ow (flat cells sz hl ho) e' w F' v' ys) (hne : e ≠ e') (hC : Ch (fun q => v.ownBlock = some q) w w8) : Ow (flat cells sz hl ho) e' w8 F' v' ys :=
  (h'.tight.ch hC (fun k hk e1 => h.apart h' hne k e1 hk)).mono (fun k hk => h'.inF hk)
def mkSt (m : Int) : StD := ⟨m, m + 1, m + 1 + 1⟩
def appsMk : List AppD → Int
  | [] => 0
  | r :: rs => ((r.rules.length : Int) + 5 * rulesSz r.rules) + appsMk rs
def mkSim (m : Int) (a b c : Nat) : SimD := ⟨mkRow mkSt 3 m a, mkRow mkEv 7 (m + 3 * a) b, mkRow mkOut 5 (m + 3 * a + 7 * b) c⟩
end Go.Proofs.YtbcemldiahghcaaGreat

namespace Go.Proofs.YtbcemldiahghcaaGreat
set_option linter.unusedVariables false
set_option linter.unusedSimpArgs false
set_option maxRecDepth 100000
open Go.RowKit
set_option maxHeartbeats 1000000 in
theorem szPast_c (x : PastD) (vs vo : Value) (left : Int) (F : Nat → Prop) (w : World) (g1 : Rd tEv w F vs x.sends) (g2 : Rd tOut w F vo x.outs) (h0 : 0 ≤ left) (h1 : left ≤ 1048576) :
    Calls Tryz.prog 91 #[.agg #[.int .i64 x.ev.time, .int .i64 x.ev.to, .int .i64 x.ev.from_, .int .i64 x.ev.count, .int .i64 x.ev.n, .int .i64 x.ev.kind, .int .i64 x.ev.arg, .int .i64 x.st.x, .int .i64 x.st.y, .int .i64 x.st.c, vs, vo], .int .i64 left] w fun q w' => q = .returned (.int .i64 (szTo left ((x.sends.length : Int) + (x.outs.length : Int)))) ∧ Below w.heap.size w w' := by
  obtain ⟨A1, c1, rfl, -, n1, -⟩ := id g1
  obtain ⟨A2, c2, rfl, -, n2, -⟩ := id g2
  have HW : Below w.heap.size w (w.alloc (.cells #[.int .i64 x.ev.time, .int .i64 x.ev.to, .int .i64 x.ev.from_, .int .i64 x.ev.count, .int .i64 x.ev.n, .int .i64 x.ev.kind, .int .i64 x.ev.arg, .int .i64 x.st.x, .int .i64 x.st.y, .int .i64 x.st.c, .slice A1 x.sends.length c1, .slice A2 x.outs.length c2] 137)) := balloc (Below.refl _ _) _
  have Z : (w.alloc (.cells #[.int .i64 x.ev.time, .int .i64 x.ev.to, .int .i64 x.ev.from_, .int .i64 x.ev.count, .int .i64 x.ev.n, .int .i64 x.ev.kind, .int .i64 x.ev.arg, .int .i64 x.st.x, .int .i64 x.st.y, .int .i64 x.st.c, .slice A1 x.sends.length c1, .slice A2 x.outs.length c2] 137)).heap[w.heap.size]? = some (.cells #[.int .i64 x.ev.time, .int .i64 x.ev.to, .int .i64 x.ev.from_, .int .i64 x.ev.count, .int .i64 x.ev.n, .int .i64 x.ev.kind, .int .i64 x.ev.arg, .int .i64 x.st.x, .int .i64 x.st.y, .int .i64 x.st.c, .slice A1 x.sends.length c1, .slice A2 x.outs.length c2] 137 (0, 0)) := heap_at rfl
  go_enter Tryz.func91, Tryz.ntmps91
  go_wp2_with fail
  generalize w.alloc (.cells #[.int .i64 x.ev.time, .int .i64 x.ev.to, .int .i64 x.ev.from_, .int .i64 x.ev.count, .int .i64 x.ev.n, .int .i64 x.ev.kind, .int .i64 x.ev.arg, .int .i64 x.st.x, .int .i64 x.st.y, .int .i64 x.st.c, .slice A1 x.sends.length c1, .slice A2 x.outs.length c2] 137) = W at *
  obtain ⟨t1, ht1⟩ : ∃ t, szTo left ((x.sends.length : Int)) = t := ⟨_, rfl⟩
  refine (szEventS_c _ x.sends.length left _ ⟨_, _, rfl⟩ n1 h0 h1).mono ?_
  rintro q w1 ⟨rfl, hb1⟩
  (try rw [ht1])
  have HT1 := hid ht1
  clear ht1
  have HB1 := bthen HW hb1 (Below.size HW)
  have Z1 := below_heap hb1 (blk_lt Z) Z
  have d1_0 : w1.cell? ⟨w.heap.size, 0, none⟩ = some (.int .i64 x.ev.time) := blk_cell Z1 0
  have d1_1 : w1.cell? ⟨w.heap.size, 1, none⟩ = some (.int .i64 x.ev.to) := blk_cell Z1 1
  have d1_2 : w1.cell? ⟨w.heap.size, 2, none⟩ = some (.int .i64 x.ev.from_) := blk_cell Z1 2
  have d1_3 : w1.cell? ⟨w.heap.size, 3, none⟩ = some (.int .i64 x.ev.count) := blk_cell Z1 3
  have d1_4 : w1.cell? ⟨w.heap.size, 4, none⟩ = some (.int .i64 x.ev.n) := blk_cell Z1 4
  have d1_5 : w1.cell? ⟨w.heap.size, 5, none⟩ = some (.int .i64 x.ev.kind) := blk_cell Z1 5
  have d1_6 : w1.cell? ⟨w.heap.size, 6, none⟩ = some (.int .i64 x.ev.arg) := blk_cell Z1 6
  have d1_7 : w1.cell? ⟨w.heap.size, 7, none⟩ = some (.int .i64 x.st.x) := blk_cell Z1 7
  have d1_8 : w1.cell? ⟨w.heap.size, 8, none⟩ = some (.int .i64 x.st.y) := blk_cell Z1 8
  have d1_9 : w1.cell? ⟨w.heap.size, 9, none⟩ = some (.int .i64 x.st.c) := blk_cell Z1 9
  have d1_10 : w1.cell? ⟨w.heap.size, 10, none⟩ = some (.slice A1 x.sends.length c1) := blk_cell Z1 10
  have d1_11 : w1.cell? ⟨w.heap.size, 11, none⟩ = some (.slice A2 x.outs.length c2) := blk_cell Z1 11
  apply_assumption
  by_cases g1 : t1 < 0
  · have hd : decide (t1 < 0) = true := decide_eq_true g1
    have HF := hid (show szTo left ((x.sends.length : Int) + (x.outs.length : Int)) = -1 from szTo_is (by have h4 := szTo_neg HT1.out g1 h0; omega))
    clear g1
    go_wp2_with fail
    go_ret
    exact ⟨by rw [HF.out]; rfl, HB1⟩
  have hd1 : decide (t1 < 0) = false := decide_eq_false g1
  have HM1 := hid (show t1 = left - ((x.sends.length : Int)) ∧ 0 ≤ t1 by have h4 := szTo_pos HT1.out g1; omega)
  have p1 : 0 ≤ t1 := HM1.out.2
  have q1 : t1 ≤ 1048576 := by have := HM1.out; omega
  clear g1 HT1
  go_wp2_with fail
  obtain ⟨t2, ht2⟩ : ∃ t, szTo t1 ((x.outs.length : Int)) = t := ⟨_, rfl⟩
  refine (szOutS_c _ x.outs.length t1 _ ⟨_, _, rfl⟩ n2 p1 q1).mono ?_
  rintro q w2 ⟨rfl, hb2⟩
  (try rw [ht2])
  have HT2 := hid ht2
  clear ht2
  have HB2 := bthen HB1 hb2 (Below.size HB1)
  have Z2 := below_heap hb2 (blk_lt Z1) Z1
  have d2_0 : w2.cell? ⟨w.heap.size, 0, none⟩ = some (.int .i64 x.ev.time) := blk_cell Z2 0
  have d2_1 : w2.cell? ⟨w.heap.size, 1, none⟩ = some (.int .i64 x.ev.to) := blk_cell Z2 1
  have d2_2 : w2.cell? ⟨w.heap.size, 2, none⟩ = some (.int .i64 x.ev.from_) := blk_cell Z2 2
  have d2_3 : w2.cell? ⟨w.heap.size, 3, none⟩ = some (.int .i64 x.ev.count) := blk_cell Z2 3
  have d2_4 : w2.cell? ⟨w.heap.size, 4, none⟩ = some (.int .i64 x.ev.n) := blk_cell Z2 4
  have d2_5 : w2.cell? ⟨w.heap.size, 5, none⟩ = some (.int .i64 x.ev.kind) := blk_cell Z2 5
  have d2_6 : w2.cell? ⟨w.heap.size, 6, none⟩ = some (.int .i64 x.ev.arg) := blk_cell Z2 6
  have d2_7 : w2.cell? ⟨w.heap.size, 7, none⟩ = some (.int .i64 x.st.x) := blk_cell Z2 7
  have d2_8 : w2.cell? ⟨w.heap.size, 8, none⟩ = some (.int .i64 x.st.y) := blk_cell Z2 8
  have d2_9 : w2.cell? ⟨w.heap.size, 9, none⟩ = some (.int .i64 x.st.c) := blk_cell Z2 9
  have d2_10 : w2.cell? ⟨w.heap.size, 10, none⟩ = some (.slice A1 x.sends.length c1) := blk_cell Z2 10
  have d2_11 : w2.cell? ⟨w.heap.size, 11, none⟩ = some (.slice A2 x.outs.length c2) := blk_cell Z2 11
  apply_assumption
  by_cases g2 : t2 < 0
  · have hd : decide (t2 < 0) = true := decide_eq_true g2
    have HF := hid (show szTo left ((x.sends.length : Int) + (x.outs.length : Int)) = -1 from szTo_is (by have h4 := szTo_neg HT2.out g2 p1; have h5 := HM1.out; omega))
    clear g2
    go_wp2_with fail
    go_ret
    exact ⟨by rw [HF.out]; rfl, HB2⟩
  have hd2 : decide (t2 < 0) = false := decide_eq_false g2
  have HM2 := hid (show t2 = left - ((x.sends.length : Int) + (x.outs.length : Int)) ∧ 0 ≤ t2 by have h4 := szTo_pos HT2.out g2; have h5 := HM1.out; omega)
  have p2 : 0 ≤ t2 := HM2.out.2
  have q2 : t2 ≤ 1048576 := by have := HM2.out; have h5 := HM1.out; omega
  clear g2 HT2
  have HF := hid (show szTo left ((x.sends.length : Int) + (x.outs.length : Int)) = t2 by have h4 := HM2.out; rw [szTo_at (by omega)]; omega)
  go_wp2_with fail
  go_ret
  exact ⟨by rw [HF.out]; rfl, HB2⟩
def pastsSz : List PastD → Int
  | [] => 0
  | r :: rs => ((r.sends.length : Int) + (r.outs.length : Int)) + pastsSz rs
theorem pastsSz_nonneg : ∀ rs, 0 ≤ pastsSz rs
  | [] => Int.le_refl _
  | r :: rs => by have := pastsSz_nonneg rs; have h2 : 0 ≤ ((r.sends.length : Int) + (r.outs.length : Int)) := (by omega); simp only [pastsSz]; omega
theorem pastsSz_take : ∀ (rs : List PastD) (k : Nat) (h : k < rs.length), pastsSz (rs.take (k + 1)) = pastsSz (rs.take k) + ((rs[k].sends.length : Int) + (rs[k].outs.length : Int))
  | r :: rs, 0, h => by simp [pastsSz]
  | r :: rs, k + 1, h => by
    have := pastsSz_take rs k (by simpa using h)
    simp only [List.take_succ_cons, pastsSz, List.getElem_cons_succ] at this ⊢
    omega
theorem pastsSz_le : ∀ (rs : List PastD) (k : Nat), pastsSz (rs.take k) ≤ pastsSz rs
  | [], k => by simp
  | r :: rs, 0 => by simpa [pastsSz] using pastsSz_nonneg (r :: rs)
  | r :: rs, k + 1 => by have := pastsSz_le rs k; simp only [List.take_succ_cons, pastsSz]; omega
theorem pastsSz_mem : ∀ (rs : List PastD) (r : PastD), r ∈ rs → ((r.sends.length : Int) + (r.outs.length : Int)) ≤ pastsSz rs
  | r' :: rs, r, h => by
    rcases List.mem_cons.1 h with rfl | h
    · have := pastsSz_nonneg rs; simp only [pastsSz]; omega
    · have := pastsSz_mem rs r h
      have h2 : 0 ≤ (fun r : PastD => (((r.sends.length : Int) + (r.outs.length : Int)) : Int)) r' := (fun r : PastD => (show 0 ≤ (((r.sends.length : Int) + (r.outs.length : Int)) : Int) from (by omega))) r'
      simp only [pastsSz] at h2 ⊢; omega
set_option maxHeartbeats 1000000 in
theorem szPastS_c (v : Value) (rs : List PastD) (left : Int) (F : Nat → Prop) (w : World) (h : Rd tPast w F v rs) (h0 : 0 ≤ left) (h1 : left ≤ 1048576) :
    Calls Tryz.prog 48 #[v, .int .i64 left] w fun q w' => q = .returned (.int .i64 (szTo left (rs.length + pastsSz rs))) ∧ Below w.heap.size w w' := by
  obtain ⟨A, c, rfl, -, hn, -⟩ := id h
  have hW : IntKind.i64.wrap (left - rs.length) = left - rs.length := IntWalk.i64_in _ (by omega)
  have hnn := pastsSz_nonneg rs
  by_cases hneg : left - (rs.length : Int) < 0
  · have hd : decide (left - (rs.length : Int) < 0) = true := decide_eq_true hneg
    have HF := hid (show szTo left (rs.length + pastsSz rs) = -1 by unfold szTo; rw [if_pos (by omega)])
    clear hneg
    go_enter Tryz.func48, Tryz.ntmps48
    go_wp2_with fail
    go_ret
    exact ⟨by rw [HF.out]; rfl, Below.refl _ _⟩
  · have hd : decide (left - (rs.length : Int) < 0) = false := decide_eq_false hneg
    have HN := hid hneg
    clear hneg
    go_enter Tryz.func48, Tryz.ntmps48
    go_wp2_with fail
    go_loopw [1, 5] (fun l i wr => ∃ (k : Nat) (m : Int), i = .int .i64 k ∧ k ≤ rs.length ∧ l = .int .i64 m ∧ Hid (m = left - (rs.length + pastsSz (rs.take k)) ∧ 0 ≤ m) ∧ Below w.heap.size w wr) (fun _ i _ => rs.length - (intOf i).toNat)
    case atStart => exact ⟨0, _, rfl, Nat.zero_le _, rfl, ⟨by simp [pastsSz], by have := HN.out; omega⟩, Below.refl _ _⟩
    case round =>
      obtain ⟨k, m, rfl, hk, rfl, HM, hb⟩ := hrel
      by_cases hlt : k < rs.length
      · obtain ⟨b, o, A1, c1, A2, c2, rfl, hbl, ⟨z0, z1, z2, z3, z4, z5, z6⟩, ⟨z7, z8, z9⟩, z10, z11, hr1, hr2⟩ := past_at (h.below hb) k hlt
        have p0 : (k : Int) < (rs.length : Int) := by omega
        have hm0 := HM.out.2
        have hm1 : m ≤ 1048576 := by have := HM.out.1; have := pastsSz_nonneg (rs.take k); omega
        obtain ⟨t, ht⟩ : ∃ t, szTo m ((rs[k].sends.length : Int) + (rs[k].outs.length : Int)) = t := ⟨_, rfl⟩
        have HT := hid ht
        go_wp2_with fail
        refine (szPast_c rs[k] _ _ m _ wr hr1 hr2 hm0 hm1).mono ?_
        rintro q w1 ⟨rfl, hb1⟩
        rw [ht]
        have HB := bthen hb hb1 hb.size
        apply_assumption
        by_cases hneg : t < 0
        · have hd2 : decide (t < 0) = true := decide_eq_true hneg
          have HF := hid (show szTo left (rs.length + pastsSz rs) = -1 from szTo_is (by
            have h3 := HM.out.1
            have h4 := szTo_neg HT.out hneg hm0
            have h5 := pastsSz_take rs k hlt
            have h6 := pastsSz_le rs (k + 1)
            omega))
          clear hneg ht
          go_wp2_with fail
          go_ret
          exact ⟨by rw [HF.out]; rfl, HB⟩
        · have hd2 : decide (t < 0) = false := decide_eq_false hneg
          have HM' := hid (show t = left - (rs.length + pastsSz (rs.take (k + 1))) ∧ 0 ≤ t by
            have h3 := HM.out.1
            have h4 := szTo_pos HT.out hneg
            have h5 := pastsSz_take rs k hlt
            omega)
          clear hneg ht
          go_wp2_with fail
          go_roundw
          case rel => exact ⟨k + 1, t, by go_num, by omega, rfl, HM', HB⟩
          case measure => simp [intOf]; omega
      · have hkl : k = rs.length := by omega
        subst hkl
        have HF := hid (show szTo left (rs.length + pastsSz rs) = m by
          have h3 := HM.out
          rw [List.take_length] at h3
          rw [szTo_at (by omega)]
          omega)
        go_wp2_with fail
        go_ret
        exact ⟨by rw [HF.out]; rfl, hb⟩
set_option maxHeartbeats 1000000 in
theorem szLane_c (l : LaneD) (v : Value) (left : Int) (F : Nat → Prop) (w : World) (h : Rd tPast w F v l.done) (h0 : 0 ≤ left) (h1 : left ≤ 1048576) :
    Calls Tryz.prog 16 #[.agg #[.int .i64 l.proc, .int .i64 l.base.x, .int .i64 l.base.y, .int .i64 l.base.c, v], .int .i64 left] w fun q w' => q = .returned (.int .i64 (szTo left (((l.done.length : Int) + pastsSz l.done)))) ∧ Below w.heap.size w w' := by
  obtain ⟨A1, c1, rfl, -⟩ := h.shape
  have hnn := pastsSz_nonneg l.done
  have HW : Below w.heap.size w (w.alloc (.cells #[.int .i64 l.proc, .int .i64 l.base.x, .int .i64 l.base.y, .int .i64 l.base.c, .slice A1 l.done.length c1] 44)) := balloc (Below.refl _ _) _
  have Z : (w.alloc (.cells #[.int .i64 l.proc, .int .i64 l.base.x, .int .i64 l.base.y, .int .i64 l.base.c, .slice A1 l.done.length c1] 44)).heap[w.heap.size]? = some (.cells #[.int .i64 l.proc, .int .i64 l.base.x, .int .i64 l.base.y, .int .i64 l.base.c, .slice A1 l.done.length c1] 44 (0, 0)) := heap_at rfl
  go_enter Tryz.func16, Tryz.ntmps16
  go_wp2_with fail
  generalize w.alloc (.cells #[.int .i64 l.proc, .int .i64 l.base.x, .int .i64 l.base.y, .int .i64 l.base.c, .slice A1 l.done.length c1] 44) = W at *
  obtain ⟨t1, ht1⟩ : ∃ t, szTo left (((l.done.length : Int) + pastsSz l.done)) = t := ⟨_, rfl⟩
  refine (szPastS_c _ l.done left _ _ (h.below HW) h0 h1).mono ?_
  rintro q w1 ⟨rfl, hb1⟩
  (try rw [ht1])
  have HT1 := hid ht1
  clear ht1
  have HB1 := bthen HW hb1 (Below.size HW)
  have Z1 := below_heap hb1 (blk_lt Z) Z
  have d1_0 : w1.cell? ⟨w.heap.size, 0, none⟩ = some (.int .i64 l.proc) := blk_cell Z1 0
  have d1_1 : w1.cell? ⟨w.heap.size, 1, none⟩ = some (.int .i64 l.base.x) := blk_cell Z1 1
  have d1_2 : w1.cell? ⟨w.heap.size, 2, none⟩ = some (.int .i64 l.base.y) := blk_cell Z1 2
  have d1_3 : w1.cell? ⟨w.heap.size, 3, none⟩ = some (.int .i64 l.base.c) := blk_cell Z1 3
  have d1_4 : w1.cell? ⟨w.heap.size, 4, none⟩ = some (.slice A1 l.done.length c1) := blk_cell Z1 4
  apply_assumption
  by_cases g1 : t1 < 0
  · have hd : decide (t1 < 0) = true := decide_eq_true g1
    have HF := hid (show szTo left (((l.done.length : Int) + pastsSz l.done)) = -1 from szTo_is (by have h4 := szTo_neg HT1.out g1 h0; omega))
    clear g1
    go_wp2_with fail
    go_ret
    exact ⟨by rw [HF.out]; rfl, HB1⟩
  have hd1 : decide (t1 < 0) = false := decide_eq_false g1
  have HM1 := hid (show t1 = left - (((l.done.length : Int) + pastsSz l.done)) ∧ 0 ≤ t1 by have h4 := szTo_pos HT1.out g1; omega)
  have p1 : 0 ≤ t1 := HM1.out.2
  have q1 : t1 ≤ 1048576 := by have := HM1.out; omega
  clear g1 HT1
  have HF := hid (show szTo left (((l.done.length : Int) + pastsSz l.done)) = t1 by have h4 := HM1.out; rw [szTo_at (by omega)]; omega)
  go_wp2_with fail
  go_ret
  exact ⟨by rw [HF.out]; rfl, HB1⟩
end Go.Proofs.YtbcemldiahghcaaGreat
