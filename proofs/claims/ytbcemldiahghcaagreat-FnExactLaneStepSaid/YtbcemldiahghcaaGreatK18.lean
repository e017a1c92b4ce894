/- Texts joined: Ez6. -/
import Derived.Test.YtbcemldiahghcaaGreatK11
import Derived.Test.YtbcemldiahghcaaGreatK13
import Derived.Test.YtbcemldiahghcaaGreatK07
import Derived.Test.YtbcemldiahghcaaGreatK17
import Derived.Test.YtbcemldiahghcaaGreatK06
namespace Go.Proofs.YtbcemldiahghcaaGreat
set_option linter.unusedVariables false
set_option linter.unusedSimpArgs false
set_option maxRecDepth 100000
open Go.RowKit
set_option maxHeartbeats 1000000 in
theorem l21PastOk_c (p : PastD) (vs vo : Value) (pr : Int) (F : Nat → Prop) (w : World) (g1 : Rd tEv w F vs p.sends) (g2 : Rd tOut w F vo p.outs) :
    Calls Tryz.prog 97 #[.agg #[.int .i64 p.ev.time, .int .i64 p.ev.to, .int .i64 p.ev.from_, .int .i64 p.ev.count, .int .i64 p.ev.n, .int .i64 p.ev.kind, .int .i64 p.ev.arg, .int .i64 p.st.x, .int .i64 p.st.y, .int .i64 p.st.c, vs, vo], .int .i64 pr] w fun q w' => q = .returned (.bool (pastOk p pr)) ∧ Below w.heap.size w w' := by
  obtain ⟨A1, c1, rfl, -⟩ := g1.shape
  obtain ⟨A2, c2, rfl, -⟩ := g2.shape
  have HB : Below w.heap.size w (w.alloc (.cells #[.int .i64 p.ev.time, .int .i64 p.ev.to, .int .i64 p.ev.from_, .int .i64 p.ev.count, .int .i64 p.ev.n, .int .i64 p.ev.kind, .int .i64 p.ev.arg, .int .i64 p.st.x, .int .i64 p.st.y, .int .i64 p.st.c, .slice A1 p.sends.length c1, .slice A2 p.outs.length c2] 98)) := balloc (Below.refl _ _) _
  have Z : (w.alloc (.cells #[.int .i64 p.ev.time, .int .i64 p.ev.to, .int .i64 p.ev.from_, .int .i64 p.ev.count, .int .i64 p.ev.n, .int .i64 p.ev.kind, .int .i64 p.ev.arg, .int .i64 p.st.x, .int .i64 p.st.y, .int .i64 p.st.c, .slice A1 p.sends.length c1, .slice A2 p.outs.length c2] 98)).heap[w.heap.size]? = some (.cells #[.int .i64 p.ev.time, .int .i64 p.ev.to, .int .i64 p.ev.from_, .int .i64 p.ev.count, .int .i64 p.ev.n, .int .i64 p.ev.kind, .int .i64 p.ev.arg, .int .i64 p.st.x, .int .i64 p.st.y, .int .i64 p.st.c, .slice A1 p.sends.length c1, .slice A2 p.outs.length c2] 98 (0, 0)) := heap_at rfl
  go_enter Tryz.func97, Tryz.ntmps97
  go_wp2_with fail
  generalize w.alloc (.cells #[.int .i64 p.ev.time, .int .i64 p.ev.to, .int .i64 p.ev.from_, .int .i64 p.ev.count, .int .i64 p.ev.n, .int .i64 p.ev.kind, .int .i64 p.ev.arg, .int .i64 p.st.x, .int .i64 p.st.y, .int .i64 p.st.c, .slice A1 p.sends.length c1, .slice A2 p.outs.length c2] 98) = W at *
  replace g1 := g1.below HB
  replace g2 := g2.below HB
  refine (l1EventOk_c _ _ _ _ _ _ _ _).mono ?_
  rintro q w1 ⟨rfl, hb⟩
  replace HB := bthen HB hb HB.size
  replace Z := below_heap hb (blk_lt Z) Z
  replace g1 := g1.below hb
  replace g2 := g2.below hb
  clear hb
  obtain ⟨t1, ht⟩ : ∃ t, evOk ⟨p.ev.time, p.ev.to, p.ev.from_, p.ev.count, p.ev.n, p.ev.kind, p.ev.arg⟩ = t := ⟨_, rfl⟩
  have HT1 := hid (show evOk p.ev = t1 from ht)
  rw [ht]
  clear ht
  have c1_0 : w1.cell? ⟨w.heap.size, 0, none⟩ = some (.int .i64 p.ev.time) := blk_cell Z 0
  have c1_1 : w1.cell? ⟨w.heap.size, 1, none⟩ = some (.int .i64 p.ev.to) := blk_cell Z 1
  have c1_2 : w1.cell? ⟨w.heap.size, 2, none⟩ = some (.int .i64 p.ev.from_) := blk_cell Z 2
  have c1_3 : w1.cell? ⟨w.heap.size, 3, none⟩ = some (.int .i64 p.ev.count) := blk_cell Z 3
  have c1_4 : w1.cell? ⟨w.heap.size, 4, none⟩ = some (.int .i64 p.ev.n) := blk_cell Z 4
  have c1_5 : w1.cell? ⟨w.heap.size, 5, none⟩ = some (.int .i64 p.ev.kind) := blk_cell Z 5
  have c1_6 : w1.cell? ⟨w.heap.size, 6, none⟩ = some (.int .i64 p.ev.arg) := blk_cell Z 6
  have c1_7 : w1.cell? ⟨w.heap.size, 7, none⟩ = some (.int .i64 p.st.x) := blk_cell Z 7
  have c1_8 : w1.cell? ⟨w.heap.size, 8, none⟩ = some (.int .i64 p.st.y) := blk_cell Z 8
  have c1_9 : w1.cell? ⟨w.heap.size, 9, none⟩ = some (.int .i64 p.st.c) := blk_cell Z 9
  have c1_10 : w1.cell? ⟨w.heap.size, 10, none⟩ = some (.slice A1 p.sends.length c1) := blk_cell Z 10
  have c1_11 : w1.cell? ⟨w.heap.size, 11, none⟩ = some (.slice A2 p.outs.length c2) := blk_cell Z 11
  apply_assumption
  cases t1
  case false =>
    have HF := hid (show pastOk p pr = false by simp [pastOk, HT1.out])
    go_wp2_with fail
    go_ret
    exact ⟨by rw [HF.out]; rfl, HB⟩
  by_cases hto : p.ev.to = pr
  case neg =>
    have HF := hid (show pastOk p pr = false by simp [pastOk, hto])
    have e0 : (p.ev.to == pr) = false := by simpa using hto
    have e1 : decide (p.ev.to = pr) = false := by simpa using hto
    clear hto
    go_wp2_with fail
    go_ret
    exact ⟨by rw [HF.out]; rfl, HB⟩
  have HTO := hid hto
  have e0 : (p.ev.to == pr) = true := by simpa using hto
  have e1 : decide (p.ev.to = pr) = true := by simpa using hto
  clear hto
  go_wp2_with fail
  refine (l1StateOk_c _ _ _ _).mono ?_
  rintro q w2 ⟨rfl, hb⟩
  replace HB := bthen HB hb HB.size
  replace Z := below_heap hb (blk_lt Z) Z
  replace g1 := g1.below hb
  replace g2 := g2.below hb
  clear hb
  obtain ⟨t2, ht⟩ : ∃ t, stOk ⟨p.st.x, p.st.y, p.st.c⟩ = t := ⟨_, rfl⟩
  have HT2 := hid (show stOk p.st = t2 from ht)
  rw [ht]
  clear ht
  have c2_0 : w2.cell? ⟨w.heap.size, 0, none⟩ = some (.int .i64 p.ev.time) := blk_cell Z 0
  have c2_1 : w2.cell? ⟨w.heap.size, 1, none⟩ = some (.int .i64 p.ev.to) := blk_cell Z 1
  have c2_2 : w2.cell? ⟨w.heap.size, 2, none⟩ = some (.int .i64 p.ev.from_) := blk_cell Z 2
  have c2_3 : w2.cell? ⟨w.heap.size, 3, none⟩ = some (.int .i64 p.ev.count) := blk_cell Z 3
  have c2_4 : w2.cell? ⟨w.heap.size, 4, none⟩ = some (.int .i64 p.ev.n) := blk_cell Z 4
  have c2_5 : w2.cell? ⟨w.heap.size, 5, none⟩ = some (.int .i64 p.ev.kind) := blk_cell Z 5
  have c2_6 : w2.cell? ⟨w.heap.size, 6, none⟩ = some (.int .i64 p.ev.arg) := blk_cell Z 6
  have c2_7 : w2.cell? ⟨w.heap.size, 7, none⟩ = some (.int .i64 p.st.x) := blk_cell Z 7
  have c2_8 : w2.cell? ⟨w.heap.size, 8, none⟩ = some (.int .i64 p.st.y) := blk_cell Z 8
  have c2_9 : w2.cell? ⟨w.heap.size, 9, none⟩ = some (.int .i64 p.st.c) := blk_cell Z 9
  have c2_10 : w2.cell? ⟨w.heap.size, 10, none⟩ = some (.slice A1 p.sends.length c1) := blk_cell Z 10
  have c2_11 : w2.cell? ⟨w.heap.size, 11, none⟩ = some (.slice A2 p.outs.length c2) := blk_cell Z 11
  apply_assumption
  cases t2
  case false =>
    have HF := hid (show pastOk p pr = false by simp [pastOk, HT2.out])
    go_wp2_with fail
    go_ret
    exact ⟨by rw [HF.out]; rfl, HB⟩
  go_wp2_with fail
  refine (l2Events_c _ p.sends _ F _ g1).mono ?_
  rintro q w3 ⟨rfl, hb⟩
  replace HB := bthen HB hb HB.size
  replace Z := below_heap hb (blk_lt Z) Z
  replace g1 := g1.below hb
  replace g2 := g2.below hb
  clear hb
  obtain ⟨t3, ht⟩ : ∃ t, evsOk p.sends 2 = t := ⟨_, rfl⟩
  have HT3 := hid (show evsOk p.sends 2 = t3 from ht)
  rw [ht]
  clear ht
  have c3_0 : w3.cell? ⟨w.heap.size, 0, none⟩ = some (.int .i64 p.ev.time) := blk_cell Z 0
  have c3_1 : w3.cell? ⟨w.heap.size, 1, none⟩ = some (.int .i64 p.ev.to) := blk_cell Z 1
  have c3_2 : w3.cell? ⟨w.heap.size, 2, none⟩ = some (.int .i64 p.ev.from_) := blk_cell Z 2
  have c3_3 : w3.cell? ⟨w.heap.size, 3, none⟩ = some (.int .i64 p.ev.count) := blk_cell Z 3
  have c3_4 : w3.cell? ⟨w.heap.size, 4, none⟩ = some (.int .i64 p.ev.n) := blk_cell Z 4
  have c3_5 : w3.cell? ⟨w.heap.size, 5, none⟩ = some (.int .i64 p.ev.kind) := blk_cell Z 5
  have c3_6 : w3.cell? ⟨w.heap.size, 6, none⟩ = some (.int .i64 p.ev.arg) := blk_cell Z 6
  have c3_7 : w3.cell? ⟨w.heap.size, 7, none⟩ = some (.int .i64 p.st.x) := blk_cell Z 7
  have c3_8 : w3.cell? ⟨w.heap.size, 8, none⟩ = some (.int .i64 p.st.y) := blk_cell Z 8
  have c3_9 : w3.cell? ⟨w.heap.size, 9, none⟩ = some (.int .i64 p.st.c) := blk_cell Z 9
  have c3_10 : w3.cell? ⟨w.heap.size, 10, none⟩ = some (.slice A1 p.sends.length c1) := blk_cell Z 10
  have c3_11 : w3.cell? ⟨w.heap.size, 11, none⟩ = some (.slice A2 p.outs.length c2) := blk_cell Z 11
  apply_assumption
  cases t3
  case false =>
    have HF := hid (show pastOk p pr = false by simp [pastOk, HT3.out])
    go_wp2_with fail
    go_ret
    exact ⟨by rw [HF.out]; rfl, HB⟩
  go_wp2_with fail
  refine (l2Outs_c _ p.outs _ F _ g2).mono ?_
  rintro q w4 ⟨rfl, hb⟩
  replace HB := bthen HB hb HB.size
  replace Z := below_heap hb (blk_lt Z) Z
  replace g1 := g1.below hb
  replace g2 := g2.below hb
  clear hb
  obtain ⟨t4, ht⟩ : ∃ t, outsOk p.outs 2 = t := ⟨_, rfl⟩
  have HT4 := hid (show outsOk p.outs 2 = t4 from ht)
  rw [ht]
  clear ht
  have c4_0 : w4.cell? ⟨w.heap.size, 0, none⟩ = some (.int .i64 p.ev.time) := blk_cell Z 0
  have c4_1 : w4.cell? ⟨w.heap.size, 1, none⟩ = some (.int .i64 p.ev.to) := blk_cell Z 1
  have c4_2 : w4.cell? ⟨w.heap.size, 2, none⟩ = some (.int .i64 p.ev.from_) := blk_cell Z 2
  have c4_3 : w4.cell? ⟨w.heap.size, 3, none⟩ = some (.int .i64 p.ev.count) := blk_cell Z 3
  have c4_4 : w4.cell? ⟨w.heap.size, 4, none⟩ = some (.int .i64 p.ev.n) := blk_cell Z 4
  have c4_5 : w4.cell? ⟨w.heap.size, 5, none⟩ = some (.int .i64 p.ev.kind) := blk_cell Z 5
  have c4_6 : w4.cell? ⟨w.heap.size, 6, none⟩ = some (.int .i64 p.ev.arg) := blk_cell Z 6
  have c4_7 : w4.cell? ⟨w.heap.size, 7, none⟩ = some (.int .i64 p.st.x) := blk_cell Z 7
  have c4_8 : w4.cell? ⟨w.heap.size, 8, none⟩ = some (.int .i64 p.st.y) := blk_cell Z 8
  have c4_9 : w4.cell? ⟨w.heap.size, 9, none⟩ = some (.int .i64 p.st.c) := blk_cell Z 9
  have c4_10 : w4.cell? ⟨w.heap.size, 10, none⟩ = some (.slice A1 p.sends.length c1) := blk_cell Z 10
  have c4_11 : w4.cell? ⟨w.heap.size, 11, none⟩ = some (.slice A2 p.outs.length c2) := blk_cell Z 11
  apply_assumption
  cases t4
  case false =>
    have HF := hid (show pastOk p pr = false by simp [pastOk, HT4.out])
    go_wp2_with fail
    go_ret
    exact ⟨by rw [HF.out]; rfl, HB⟩
  have HF := hid (show pastOk p pr = true by simp [pastOk, HT1.out, HT2.out, HT3.out, HT4.out, HTO.out])
  go_wp2_with fail
  go_ret
  exact ⟨by rw [HF.out]; rfl, HB⟩
set_option maxHeartbeats 1000000 in
theorem pastOkI_c (p : PastD) (vs vo : Value) (pr : Int) (F : Nat → Prop) (w : World) (g1 : Rd tEv w F vs p.sends) (g2 : Rd tOut w F vo p.outs) :
    Calls Tryz.prog 106 #[.agg #[.int .i64 p.ev.time, .int .i64 p.ev.to, .int .i64 p.ev.from_, .int .i64 p.ev.count, .int .i64 p.ev.n, .int .i64 p.ev.kind, .int .i64 p.ev.arg, .int .i64 p.st.x, .int .i64 p.st.y, .int .i64 p.st.c, vs, vo], .int .i64 pr] w fun q w' => q = .returned (.bool (pastOk p pr)) ∧ Below w.heap.size w w' := by
  obtain ⟨A1, c1, rfl, -⟩ := g1.shape
  obtain ⟨A2, c2, rfl, -⟩ := g2.shape
  have HB : Below w.heap.size w (w.alloc (.cells #[.int .i64 p.ev.time, .int .i64 p.ev.to, .int .i64 p.ev.from_, .int .i64 p.ev.count, .int .i64 p.ev.n, .int .i64 p.ev.kind, .int .i64 p.ev.arg, .int .i64 p.st.x, .int .i64 p.st.y, .int .i64 p.st.c, .slice A1 p.sends.length c1, .slice A2 p.outs.length c2] 98)) := balloc (Below.refl _ _) _
  have Z : (w.alloc (.cells #[.int .i64 p.ev.time, .int .i64 p.ev.to, .int .i64 p.ev.from_, .int .i64 p.ev.count, .int .i64 p.ev.n, .int .i64 p.ev.kind, .int .i64 p.ev.arg, .int .i64 p.st.x, .int .i64 p.st.y, .int .i64 p.st.c, .slice A1 p.sends.length c1, .slice A2 p.outs.length c2] 98)).heap[w.heap.size]? = some (.cells #[.int .i64 p.ev.time, .int .i64 p.ev.to, .int .i64 p.ev.from_, .int .i64 p.ev.count, .int .i64 p.ev.n, .int .i64 p.ev.kind, .int .i64 p.ev.arg, .int .i64 p.st.x, .int .i64 p.st.y, .int .i64 p.st.c, .slice A1 p.sends.length c1, .slice A2 p.outs.length c2] 98 (0, 0)) := heap_at rfl
  go_enter Tryz.func106, Tryz.ntmps106
  go_wp2_with fail
  generalize w.alloc (.cells #[.int .i64 p.ev.time, .int .i64 p.ev.to, .int .i64 p.ev.from_, .int .i64 p.ev.count, .int .i64 p.ev.n, .int .i64 p.ev.kind, .int .i64 p.ev.arg, .int .i64 p.st.x, .int .i64 p.st.y, .int .i64 p.st.c, .slice A1 p.sends.length c1, .slice A2 p.outs.length c2] 98) = W at *
  replace g1 := g1.below HB
  replace g2 := g2.below HB
  refine (eventOk_c _ _ _ _ _ _ _ _).mono ?_
  rintro q w1 ⟨rfl, hb⟩
  replace HB := bthen HB hb HB.size
  replace Z := below_heap hb (blk_lt Z) Z
  replace g1 := g1.below hb
  replace g2 := g2.below hb
  clear hb
  obtain ⟨t1, ht⟩ : ∃ t, evOk ⟨p.ev.time, p.ev.to, p.ev.from_, p.ev.count, p.ev.n, p.ev.kind, p.ev.arg⟩ = t := ⟨_, rfl⟩
  have HT1 := hid (show evOk p.ev = t1 from ht)
  rw [ht]
  clear ht
  have c1_0 : w1.cell? ⟨w.heap.size, 0, none⟩ = some (.int .i64 p.ev.time) := blk_cell Z 0
  have c1_1 : w1.cell? ⟨w.heap.size, 1, none⟩ = some (.int .i64 p.ev.to) := blk_cell Z 1
  have c1_2 : w1.cell? ⟨w.heap.size, 2, none⟩ = some (.int .i64 p.ev.from_) := blk_cell Z 2
  have c1_3 : w1.cell? ⟨w.heap.size, 3, none⟩ = some (.int .i64 p.ev.count) := blk_cell Z 3
  have c1_4 : w1.cell? ⟨w.heap.size, 4, none⟩ = some (.int .i64 p.ev.n) := blk_cell Z 4
  have c1_5 : w1.cell? ⟨w.heap.size, 5, none⟩ = some (.int .i64 p.ev.kind) := blk_cell Z 5
  have c1_6 : w1.cell? ⟨w.heap.size, 6, none⟩ = some (.int .i64 p.ev.arg) := blk_cell Z 6
  have c1_7 : w1.cell? ⟨w.heap.size, 7, none⟩ = some (.int .i64 p.st.x) := blk_cell Z 7
  have c1_8 : w1.cell? ⟨w.heap.size, 8, none⟩ = some (.int .i64 p.st.y) := blk_cell Z 8
  have c1_9 : w1.cell? ⟨w.heap.size, 9, none⟩ = some (.int .i64 p.st.c) := blk_cell Z 9
  have c1_10 : w1.cell? ⟨w.heap.size, 10, none⟩ = some (.slice A1 p.sends.length c1) := blk_cell Z 10
  have c1_11 : w1.cell? ⟨w.heap.size, 11, none⟩ = some (.slice A2 p.outs.length c2) := blk_cell Z 11
  apply_assumption
  cases t1
  case false =>
    have HF := hid (show pastOk p pr = false by simp [pastOk, HT1.out])
    go_wp2_with fail
    go_ret
    exact ⟨by rw [HF.out]; rfl, HB⟩
  by_cases hto : p.ev.to = pr
  case neg =>
    have HF := hid (show pastOk p pr = false by simp [pastOk, hto])
    have e0 : (p.ev.to == pr) = false := by simpa using hto
    have e1 : decide (p.ev.to = pr) = false := by simpa using hto
    clear hto
    go_wp2_with fail
    go_ret
    exact ⟨by rw [HF.out]; rfl, HB⟩
  have HTO := hid hto
  have e0 : (p.ev.to == pr) = true := by simpa using hto
  have e1 : decide (p.ev.to = pr) = true := by simpa using hto
  clear hto
  go_wp2_with fail
  refine (stateOk_c _ _ _ _).mono ?_
  rintro q w2 ⟨rfl, hb⟩
  replace HB := bthen HB hb HB.size
  replace Z := below_heap hb (blk_lt Z) Z
  replace g1 := g1.below hb
  replace g2 := g2.below hb
  clear hb
  obtain ⟨t2, ht⟩ : ∃ t, stOk ⟨p.st.x, p.st.y, p.st.c⟩ = t := ⟨_, rfl⟩
  have HT2 := hid (show stOk p.st = t2 from ht)
  rw [ht]
  clear ht
  have c2_0 : w2.cell? ⟨w.heap.size, 0, none⟩ = some (.int .i64 p.ev.time) := blk_cell Z 0
  have c2_1 : w2.cell? ⟨w.heap.size, 1, none⟩ = some (.int .i64 p.ev.to) := blk_cell Z 1
  have c2_2 : w2.cell? ⟨w.heap.size, 2, none⟩ = some (.int .i64 p.ev.from_) := blk_cell Z 2
  have c2_3 : w2.cell? ⟨w.heap.size, 3, none⟩ = some (.int .i64 p.ev.count) := blk_cell Z 3
  have c2_4 : w2.cell? ⟨w.heap.size, 4, none⟩ = some (.int .i64 p.ev.n) := blk_cell Z 4
  have c2_5 : w2.cell? ⟨w.heap.size, 5, none⟩ = some (.int .i64 p.ev.kind) := blk_cell Z 5
  have c2_6 : w2.cell? ⟨w.heap.size, 6, none⟩ = some (.int .i64 p.ev.arg) := blk_cell Z 6
  have c2_7 : w2.cell? ⟨w.heap.size, 7, none⟩ = some (.int .i64 p.st.x) := blk_cell Z 7
  have c2_8 : w2.cell? ⟨w.heap.size, 8, none⟩ = some (.int .i64 p.st.y) := blk_cell Z 8
  have c2_9 : w2.cell? ⟨w.heap.size, 9, none⟩ = some (.int .i64 p.st.c) := blk_cell Z 9
  have c2_10 : w2.cell? ⟨w.heap.size, 10, none⟩ = some (.slice A1 p.sends.length c1) := blk_cell Z 10
  have c2_11 : w2.cell? ⟨w.heap.size, 11, none⟩ = some (.slice A2 p.outs.length c2) := blk_cell Z 11
  apply_assumption
  cases t2
  case false =>
    have HF := hid (show pastOk p pr = false by simp [pastOk, HT2.out])
    go_wp2_with fail
    go_ret
    exact ⟨by rw [HF.out]; rfl, HB⟩
  go_wp2_with fail
  refine (eventsOkI_c _ p.sends _ F _ g1).mono ?_
  rintro q w3 ⟨rfl, hb⟩
  replace HB := bthen HB hb HB.size
  replace Z := below_heap hb (blk_lt Z) Z
  replace g1 := g1.below hb
  replace g2 := g2.below hb
  clear hb
  obtain ⟨t3, ht⟩ : ∃ t, evsOk p.sends 2 = t := ⟨_, rfl⟩
  have HT3 := hid (show evsOk p.sends 2 = t3 from ht)
  rw [ht]
  clear ht
  have c3_0 : w3.cell? ⟨w.heap.size, 0, none⟩ = some (.int .i64 p.ev.time) := blk_cell Z 0
  have c3_1 : w3.cell? ⟨w.heap.size, 1, none⟩ = some (.int .i64 p.ev.to) := blk_cell Z 1
  have c3_2 : w3.cell? ⟨w.heap.size, 2, none⟩ = some (.int .i64 p.ev.from_) := blk_cell Z 2
  have c3_3 : w3.cell? ⟨w.heap.size, 3, none⟩ = some (.int .i64 p.ev.count) := blk_cell Z 3
  have c3_4 : w3.cell? ⟨w.heap.size, 4, none⟩ = some (.int .i64 p.ev.n) := blk_cell Z 4
  have c3_5 : w3.cell? ⟨w.heap.size, 5, none⟩ = some (.int .i64 p.ev.kind) := blk_cell Z 5
  have c3_6 : w3.cell? ⟨w.heap.size, 6, none⟩ = some (.int .i64 p.ev.arg) := blk_cell Z 6
  have c3_7 : w3.cell? ⟨w.heap.size, 7, none⟩ = some (.int .i64 p.st.x) := blk_cell Z 7
  have c3_8 : w3.cell? ⟨w.heap.size, 8, none⟩ = some (.int .i64 p.st.y) := blk_cell Z 8
  have c3_9 : w3.cell? ⟨w.heap.size, 9, none⟩ = some (.int .i64 p.st.c) := blk_cell Z 9
  have c3_10 : w3.cell? ⟨w.heap.size, 10, none⟩ = some (.slice A1 p.sends.length c1) := blk_cell Z 10
  have c3_11 : w3.cell? ⟨w.heap.size, 11, none⟩ = some (.slice A2 p.outs.length c2) := blk_cell Z 11
  apply_assumption
  cases t3
  case false =>
    have HF := hid (show pastOk p pr = false by simp [pastOk, HT3.out])
    go_wp2_with fail
    go_ret
    exact ⟨by rw [HF.out]; rfl, HB⟩
  go_wp2_with fail
  refine (outsOkI_c _ p.outs _ F _ g2).mono ?_
  rintro q w4 ⟨rfl, hb⟩
  replace HB := bthen HB hb HB.size
  replace Z := below_heap hb (blk_lt Z) Z
  replace g1 := g1.below hb
  replace g2 := g2.below hb
  clear hb
  obtain ⟨t4, ht⟩ : ∃ t, outsOk p.outs 2 = t := ⟨_, rfl⟩
  have HT4 := hid (show outsOk p.outs 2 = t4 from ht)
  rw [ht]
  clear ht
  have c4_0 : w4.cell? ⟨w.heap.size, 0, none⟩ = some (.int .i64 p.ev.time) := blk_cell Z 0
  have c4_1 : w4.cell? ⟨w.heap.size, 1, none⟩ = some (.int .i64 p.ev.to) := blk_cell Z 1
  have c4_2 : w4.cell? ⟨w.heap.size, 2, none⟩ = some (.int .i64 p.ev.from_) := blk_cell Z 2
  have c4_3 : w4.cell? ⟨w.heap.size, 3, none⟩ = some (.int .i64 p.ev.count) := blk_cell Z 3
  have c4_4 : w4.cell? ⟨w.heap.size, 4, none⟩ = some (.int .i64 p.ev.n) := blk_cell Z 4
  have c4_5 : w4.cell? ⟨w.heap.size, 5, none⟩ = some (.int .i64 p.ev.kind) := blk_cell Z 5
  have c4_6 : w4.cell? ⟨w.heap.size, 6, none⟩ = some (.int .i64 p.ev.arg) := blk_cell Z 6
  have c4_7 : w4.cell? ⟨w.heap.size, 7, none⟩ = some (.int .i64 p.st.x) := blk_cell Z 7
  have c4_8 : w4.cell? ⟨w.heap.size, 8, none⟩ = some (.int .i64 p.st.y) := blk_cell Z 8
  have c4_9 : w4.cell? ⟨w.heap.size, 9, none⟩ = some (.int .i64 p.st.c) := blk_cell Z 9
  have c4_10 : w4.cell? ⟨w.heap.size, 10, none⟩ = some (.slice A1 p.sends.length c1) := blk_cell Z 10
  have c4_11 : w4.cell? ⟨w.heap.size, 11, none⟩ = some (.slice A2 p.outs.length c2) := blk_cell Z 11
  apply_assumption
  cases t4
  case false =>
    have HF := hid (show pastOk p pr = false by simp [pastOk, HT4.out])
    go_wp2_with fail
    go_ret
    exact ⟨by rw [HF.out]; rfl, HB⟩
  have HF := hid (show pastOk p pr = true by simp [pastOk, HT1.out, HT2.out, HT3.out, HT4.out, HTO.out])
  go_wp2_with fail
  go_ret
  exact ⟨by rw [HF.out]; rfl, HB⟩
theorem laneOk_f1 {l : LaneD} (h : inn l.proc 0 3 = false) : laneOk l = false := by simp [laneOk, h]
theorem laneOk_f2 {l : LaneD} (h : stOk l.base = false) : laneOk l = false := by simp [laneOk, h]
theorem laneOk_f3 {l : LaneD} (h : ¬ l.done.length ≤ 100) : laneOk l = false := by simp [laneOk, h]
theorem laneOk_f4 {l : LaneD} {k : Nat} (hk : k < l.done.length) (h : pastOk l.done[k] l.proc = false) : laneOk l = false := by
  have : l.done.all (fun p => pastOk p l.proc) = false := all_false (p := fun p => pastOk p l.proc) hk h
  simp [laneOk, this]
theorem laneOk_f5 {l : LaneD} {k : Nat} (h : ascB pastLess (l.done.take k) = false) : laneOk l = false := by simp [laneOk, ascB_take _ h]
theorem laneOk_t {l : LaneD} (h1 : inn l.proc 0 3 = true) (h2 : stOk l.base = true) (h3 : l.done.length ≤ 100) (h4 : l.done.all (fun p => pastOk p l.proc) = true) (h5 : ascB pastLess l.done = true) : laneOk l = true := by simp [laneOk, h1, h2, h3, h4, h5]
set_option maxHeartbeats 1000000 in
theorem LaneOk_c (l : LaneD) (v : Value) (F : Nat → Prop) (w : World) (h : Rd tPast w F v l.done) :
    Calls Tryz.prog 50 #[.agg #[.int .i64 l.proc, .int .i64 l.base.x, .int .i64 l.base.y, .int .i64 l.base.c, v]] w fun q w' => q = .returned (.bool (laneOk l)) ∧ Below w.heap.size w w' := by
  obtain ⟨A, c, rfl, -, hlen, -⟩ := id h
  have HW : Below w.heap.size w (w.alloc (.cells #[.int .i64 l.proc, .int .i64 l.base.x, .int .i64 l.base.y, .int .i64 l.base.c, .slice A l.done.length c] 52)) := balloc (Below.refl _ _) _
  have Z : (w.alloc (.cells #[.int .i64 l.proc, .int .i64 l.base.x, .int .i64 l.base.y, .int .i64 l.base.c, .slice A l.done.length c] 52)).heap[w.heap.size]? = some (.cells #[.int .i64 l.proc, .int .i64 l.base.x, .int .i64 l.base.y, .int .i64 l.base.c, .slice A l.done.length c] 52 (0, 0)) := heap_at rfl
  go_enter Tryz.func50, Tryz.ntmps50
  go_upto_region 1 with fail
  generalize w.alloc (.cells #[.int .i64 l.proc, .int .i64 l.base.x, .int .i64 l.base.y, .int .i64 l.base.c, .slice A l.done.length c] 52) = W at *
  replace h := h.below HW
  have hsz := blk_lt Z
  have c0 : W.cell? ⟨w.heap.size, 0, none⟩ = some (.int .i64 l.proc) := blk_cell Z 0
  have c1 : W.cell? ⟨w.heap.size, 1, none⟩ = some (.int .i64 l.base.x) := blk_cell Z 1
  have c2 : W.cell? ⟨w.heap.size, 2, none⟩ = some (.int .i64 l.base.y) := blk_cell Z 2
  have c3 : W.cell? ⟨w.heap.size, 3, none⟩ = some (.int .i64 l.base.c) := blk_cell Z 3
  have c4 : W.cell? ⟨w.heap.size, 4, none⟩ = some (.slice A l.done.length c) := blk_cell Z 4
  by_cases q1 : inn l.proc 0 3 = true
  case neg =>
    replace q1 : inn l.proc 0 3 = false := by simpa using q1
    have HF := hid (laneOk_f1 q1)
    refine region_sg [.rd [0, 1], .mid 2, .rd [3, 4, 5, 6], .mid 7, .rd [8, 9, 10, 11, 12, 13], .mid 14] [15, 16] (by kernel_rfl) (by kernel_rfl) (fun _ _ d _ _ h => by cases d <;> exact h) ?_
    refine sg_rd (fun N hN => ?_)
    simp only [pickO, List.getElem?_toArray, List.getElem?_cons_zero, List.getElem?_cons_succ]
    go_wp2_with fail
    refine rd_next (hN _ ?_)
    clear hN N
    refine sg_mid (fun N hN => ?_)
    simp only [pickO, List.getElem?_toArray, List.getElem?_cons_zero, List.getElem?_cons_succ]
    go_wp2_with fail
    refine (l1Proc_c _ _).mono ?_
    rintro e w1 ⟨he, hw⟩
    subst w1
    rw [q1] at he
    subst he
    apply_assumption
    refine mid_next (Agree.of_below (Below.refl _ _)) (hN _ _ ?_)
    clear hN
    refine sg_rd (fun N hN => ?_)
    simp only [pickO, List.getElem?_toArray, List.getElem?_cons_zero, List.getElem?_cons_succ]
    go_wp2_with fail
    refine rd_next (hN _ ?_)
    clear hN N
    refine sg_mid (fun N hN => ?_)
    simp only [pickO, List.getElem?_toArray, List.getElem?_cons_zero, List.getElem?_cons_succ]
    go_wp2_with fail
    refine mid_next (Agree.of_below (Below.refl _ _)) (hN _ _ ?_)
    clear hN
    refine sg_rd (fun N hN => ?_)
    simp only [pickO, List.getElem?_toArray, List.getElem?_cons_zero, List.getElem?_cons_succ]
    go_wp2_with fail
    refine rd_next (hN _ ?_)
    clear hN N
    refine sg_mid (fun N hN => ?_)
    simp only [pickO, List.getElem?_toArray, List.getElem?_cons_zero, List.getElem?_cons_succ]
    go_wp2_with fail
    refine mid_next (Agree.of_below (Below.refl _ _)) (hN _ _ ?_)
    clear hN
    refine sg_fin ?_
    simp only [pickO, List.getElem?_toArray, List.getElem?_cons_zero, List.getElem?_cons_succ]
    have HB2 : Below W.heap.size W W.drew := (Below.refl W.heap.size W).drew
    go_wp2_with fail
    go_ret
    exact ⟨by rw [HF.out]; rfl, bthen HW HB2 HW.size⟩
  by_cases q2 : stOk l.base = true
  case neg =>
    replace q2 : stOk l.base = false := by simpa using q2
    have HF := hid (laneOk_f2 q2)
    refine region_sg [.rd [0, 1], .mid 2, .rd [3, 4, 5, 6], .mid 7, .rd [8, 9, 10, 11, 12, 13], .mid 14] [15, 16] (by kernel_rfl) (by kernel_rfl) (fun _ _ d _ _ h => by cases d <;> exact h) ?_
    refine sg_rd (fun N hN => ?_)
    simp only [pickO, List.getElem?_toArray, List.getElem?_cons_zero, List.getElem?_cons_succ]
    go_wp2_with fail
    refine rd_next (hN _ ?_)
    clear hN N
    refine sg_mid (fun N hN => ?_)
    simp only [pickO, List.getElem?_toArray, List.getElem?_cons_zero, List.getElem?_cons_succ]
    go_wp2_with fail
    refine (l1Proc_c _ _).mono ?_
    rintro e w1 ⟨he, hw⟩
    subst w1
    rw [q1] at he
    subst he
    apply_assumption
    refine mid_next (Agree.of_below (Below.refl _ _)) (hN _ _ ?_)
    clear hN
    refine sg_rd (fun N hN => ?_)
    simp only [pickO, List.getElem?_toArray, List.getElem?_cons_zero, List.getElem?_cons_succ]
    go_wp2_with fail
    refine rd_next (hN _ ?_)
    clear hN N
    refine sg_mid (fun N hN => ?_)
    simp only [pickO, List.getElem?_toArray, List.getElem?_cons_zero, List.getElem?_cons_succ]
    go_wp2_with fail
    refine (l1StateOk_c _ _ _ _).mono ?_
    rintro e w2 ⟨he, hb2⟩
    rw [show stOk ⟨l.base.x, l.base.y, l.base.c⟩ = _ from q2] at he
    subst he
    apply_assumption
    refine mid_next (Agree.of_below hb2) (hN _ _ ?_)
    clear hN
    refine sg_rd (fun N hN => ?_)
    simp only [pickO, List.getElem?_toArray, List.getElem?_cons_zero, List.getElem?_cons_succ]
    go_wp2_with fail
    refine rd_next (hN _ ?_)
    clear hN N
    refine sg_mid (fun N hN => ?_)
    simp only [pickO, List.getElem?_toArray, List.getElem?_cons_zero, List.getElem?_cons_succ]
    go_wp2_with fail
    refine mid_next (Agree.of_below hb2) (hN _ _ ?_)
    clear hN
    refine sg_fin ?_
    simp only [pickO, List.getElem?_toArray, List.getElem?_cons_zero, List.getElem?_cons_succ]
    have HB2 : Below W.heap.size W w2 := bthen' (Below.refl W.heap.size W).drew hb2
    clear hb2
    go_wp2_with fail
    go_ret
    exact ⟨by rw [HF.out]; rfl, bthen HW HB2 HW.size⟩
  by_cases q3 : l.done.length ≤ 100
  case neg =>
    have HF := hid (laneOk_f3 q3)
    have q4 : decide ((l.done.length : Int) > 100) = true := decide_eq_true (by omega)
    clear q3
    refine region_sg [.rd [0, 1], .mid 2, .rd [3, 4, 5, 6], .mid 7, .rd [8, 9, 10, 11, 12, 13], .mid 14] [15, 16] (by kernel_rfl) (by kernel_rfl) (fun _ _ d _ _ h => by cases d <;> exact h) ?_
    refine sg_rd (fun N hN => ?_)
    simp only [pickO, List.getElem?_toArray, List.getElem?_cons_zero, List.getElem?_cons_succ]
    go_wp2_with fail
    refine rd_next (hN _ ?_)
    clear hN N
    refine sg_mid (fun N hN => ?_)
    simp only [pickO, List.getElem?_toArray, List.getElem?_cons_zero, List.getElem?_cons_succ]
    go_wp2_with fail
    refine (l1Proc_c _ _).mono ?_
    rintro e w1 ⟨he, hw⟩
    subst w1
    rw [q1] at he
    subst he
    apply_assumption
    refine mid_next (Agree.of_below (Below.refl _ _)) (hN _ _ ?_)
    clear hN
    refine sg_rd (fun N hN => ?_)
    simp only [pickO, List.getElem?_toArray, List.getElem?_cons_zero, List.getElem?_cons_succ]
    go_wp2_with fail
    refine rd_next (hN _ ?_)
    clear hN N
    refine sg_mid (fun N hN => ?_)
    simp only [pickO, List.getElem?_toArray, List.getElem?_cons_zero, List.getElem?_cons_succ]
    go_wp2_with fail
    refine (l1StateOk_c _ _ _ _).mono ?_
    rintro e w2 ⟨he, hb2⟩
    rw [show stOk ⟨l.base.x, l.base.y, l.base.c⟩ = _ from q2] at he
    subst he
    apply_assumption
    refine mid_next (Agree.of_below hb2) (hN _ _ ?_)
    clear hN
    refine sg_rd (fun N hN => ?_)
    simp only [pickO, List.getElem?_toArray, List.getElem?_cons_zero, List.getElem?_cons_succ]
    go_wp2_with fail
    refine rd_next (hN _ ?_)
    clear hN N
    refine sg_mid (fun N hN => ?_)
    simp only [pickO, List.getElem?_toArray, List.getElem?_cons_zero, List.getElem?_cons_succ]
    go_wp2_with fail
    refine (l2Most_c _).mono ?_
    rintro e w3 ⟨rfl, hw⟩
    subst w3
    apply_assumption
    refine mid_next (Agree.of_below hb2) (hN _ _ ?_)
    clear hN
    refine sg_fin ?_
    simp only [pickO, List.getElem?_toArray, List.getElem?_cons_zero, List.getElem?_cons_succ]
    have HB2 : Below W.heap.size W w2 := bthen' (Below.refl W.heap.size W).drew hb2
    clear hb2
    go_wp2_with fail
    go_ret
    exact ⟨by rw [HF.out]; rfl, bthen HW HB2 HW.size⟩
  have q4 : decide ((l.done.length : Int) > 100) = false := decide_eq_false (by omega)
  have Q3 := hid q3
  clear q3
  refine region_sg [.rd [0, 1], .mid 2, .rd [3, 4, 5, 6], .mid 7, .rd [8, 9, 10, 11, 12, 13], .mid 14] [15, 16] (by kernel_rfl) (by kernel_rfl) (fun _ _ d _ _ h => by cases d <;> exact h) ?_
  refine sg_rd (fun N hN => ?_)
  simp only [pickO, List.getElem?_toArray, List.getElem?_cons_zero, List.getElem?_cons_succ]
  go_wp2_with fail
  refine rd_next (hN _ ?_)
  clear hN N
  refine sg_mid (fun N hN => ?_)
  simp only [pickO, List.getElem?_toArray, List.getElem?_cons_zero, List.getElem?_cons_succ]
  go_wp2_with fail
  refine (l1Proc_c _ _).mono ?_
  rintro e w1 ⟨he, hw⟩
  subst w1
  rw [q1] at he
  subst he
  apply_assumption
  refine mid_next (Agree.of_below (Below.refl _ _)) (hN _ _ ?_)
  clear hN
  refine sg_rd (fun N hN => ?_)
  simp only [pickO, List.getElem?_toArray, List.getElem?_cons_zero, List.getElem?_cons_succ]
  go_wp2_with fail
  refine rd_next (hN _ ?_)
  clear hN N
  refine sg_mid (fun N hN => ?_)
  simp only [pickO, List.getElem?_toArray, List.getElem?_cons_zero, List.getElem?_cons_succ]
  go_wp2_with fail
  refine (l1StateOk_c _ _ _ _).mono ?_
  rintro e w2 ⟨he, hb2⟩
  rw [show stOk ⟨l.base.x, l.base.y, l.base.c⟩ = _ from q2] at he
  subst he
  apply_assumption
  refine mid_next (Agree.of_below hb2) (hN _ _ ?_)
  clear hN
  refine sg_rd (fun N hN => ?_)
  simp only [pickO, List.getElem?_toArray, List.getElem?_cons_zero, List.getElem?_cons_succ]
  go_wp2_with fail
  refine rd_next (hN _ ?_)
  clear hN N
  refine sg_mid (fun N hN => ?_)
  simp only [pickO, List.getElem?_toArray, List.getElem?_cons_zero, List.getElem?_cons_succ]
  go_wp2_with fail
  refine (l2Most_c _).mono ?_
  rintro e w3 ⟨rfl, hw⟩
  subst w3
  apply_assumption
  refine mid_next (Agree.of_below hb2) (hN _ _ ?_)
  clear hN
  refine sg_fin ?_
  simp only [pickO, List.getElem?_toArray, List.getElem?_cons_zero, List.getElem?_cons_succ]
  have HB2 : Below W.heap.size W w2 := bthen' (Below.refl W.heap.size W).drew hb2
  clear hb2
  go_wp2_with fail
  replace h := h.below HB2
  have Z2 := below_heap HB2 hsz Z
  have hsz2 := blk_lt Z2
  have HB := bthen HW HB2 HW.size
  clear c0 c1 c2 c3 c4
  go_loopw [3] (fun i wr => ∃ k : Nat, i = .int .i64 k ∧ k ≤ l.done.length ∧ Hid ((l.done.take k).all (fun p => pastOk p l.proc) = true) ∧ Hid (ascB pastLess (l.done.take k) = true) ∧ Below w2.heap.size w2 wr) (fun i _ => l.done.length - (intOf i).toNat)
  case atStart => exact ⟨0, rfl, Nat.zero_le _, rfl, rfl, Below.refl _ _⟩
  case round =>
    obtain ⟨k, rfl, hk, hal, has, hb⟩ := hrel
    have Zr := below_heap hb hsz2 Z2
    have hr := h.below hb
    have HBr := bthen HB hb HB.size
    have hszr := blk_lt Zr
    have e0 : wr.cell? ⟨w.heap.size, 0, none⟩ = some (.int .i64 l.proc) := blk_cell Zr 0
    have e1 : wr.cell? ⟨w.heap.size, 1, none⟩ = some (.int .i64 l.base.x) := blk_cell Zr 1
    have e2 : wr.cell? ⟨w.heap.size, 2, none⟩ = some (.int .i64 l.base.y) := blk_cell Zr 2
    have e3 : wr.cell? ⟨w.heap.size, 3, none⟩ = some (.int .i64 l.base.c) := blk_cell Zr 3
    have e4 : wr.cell? ⟨w.heap.size, 4, none⟩ = some (.slice A l.done.length c) := blk_cell Zr 4
    by_cases hlt : k < l.done.length
    · obtain ⟨b0, o0, A1, c1, A2, c2, rfl, hb0, ⟨y0, y1, y2, y3, y4, y5, y6⟩, ⟨y7, y8, y9⟩, y10, y11, r1, r2⟩ := past_at hr k hlt
      have p0 : (k : Int) < (l.done.length : Int) := by omega
      go_upto_region 6 with fail
      have hrW := hr
      have hbW := HBr
      by_cases q5 : pastOk l.done[k] l.proc = true
      case neg =>
        replace q5 : pastOk l.done[k] l.proc = false := by simpa using q5
        have HF := hid (laneOk_f4 hlt q5)
        refine region_sg [.rd [0, 1, 2, 3, 4, 5, 6], .mid 7, .rd [8, 9, 10, 11, 12, 13, 14, 15, 16, 17, 18, 19, 20, 21, 22, 23, 24, 25]] [26, 27, 28, 29] (by kernel_rfl) (by kernel_rfl) (fun _ _ d _ _ h => by cases d <;> exact h) ?_
        refine sg_rd (fun N hN => ?_)
        simp only [pickO, List.getElem?_toArray, List.getElem?_cons_zero, List.getElem?_cons_succ]
        go_wp2_with fail
        refine rd_next (hN _ ?_)
        clear hN N
        refine sg_mid (fun N hN => ?_)
        simp only [pickO, List.getElem?_toArray, List.getElem?_cons_zero, List.getElem?_cons_succ]
        go_wp2_with fail
        refine (l21PastOk_c l.done[k] _ _ l.proc F _ (r1.below (Below.refl _ _).drew) (r2.below (Below.refl _ _).drew)).mono ?_
        rintro e w5 ⟨he, hb5⟩
        rw [q5] at he
        subst he
        apply_assumption
        refine mid_next (Agree.of_below hb5) (hN _ _ ?_)
        clear hN
        refine sg_rd (fun N hN => ?_)
        simp only [pickO, List.getElem?_toArray, List.getElem?_cons_zero, List.getElem?_cons_succ]
        go_wp2_with fail
        refine rd_next (hN _ ?_)
        clear hN N
        refine sg_fin ?_
        simp only [pickO, List.getElem?_toArray, List.getElem?_cons_zero, List.getElem?_cons_succ]
        have hb5W := bthen hbW (bthen' (Below.refl wr.heap.size wr).drew hb5) hbW.size
        have hbQ := bthen hb (bthen' (Below.refl wr.heap.size wr).drew hb5) hb.size
        go_wp2_with fail
        go_ret
        exact ⟨by rw [HF.out]; rfl, hb5W⟩
      have al := hid (all_snoc (p := fun p => pastOk p l.proc) hlt hal.out q5)
      by_cases q6 : k = 0
      · have as9 := hid (show ascB pastLess (l.done.take (k + 1)) = true by rw [ascB_step _ hlt, has.out, if_pos q6]; rfl)
        have hkd : decide ((k : Int) > 0) = false := by simp; omega
        have hkn : decide (0 < k) = false := by simp; omega
        clear q6
        refine region_sg [.rd [0, 1, 2, 3, 4, 5, 6], .mid 7, .rd [8, 9, 10, 11, 12, 13, 14, 15, 16, 17, 18, 19, 20, 21, 22, 23, 24, 25]] [26, 27, 28, 29] (by kernel_rfl) (by kernel_rfl) (fun _ _ d _ _ h => by cases d <;> exact h) ?_
        refine sg_rd (fun N hN => ?_)
        simp only [pickO, List.getElem?_toArray, List.getElem?_cons_zero, List.getElem?_cons_succ]
        go_wp2_with fail
        refine rd_next (hN _ ?_)
        clear hN N
        refine sg_mid (fun N hN => ?_)
        simp only [pickO, List.getElem?_toArray, List.getElem?_cons_zero, List.getElem?_cons_succ]
        go_wp2_with fail
        refine (l21PastOk_c l.done[k] _ _ l.proc F _ (r1.below (Below.refl _ _).drew) (r2.below (Below.refl _ _).drew)).mono ?_
        rintro e w5 ⟨he, hb5⟩
        rw [q5] at he
        subst he
        apply_assumption
        refine mid_next (Agree.of_below hb5) (hN _ _ ?_)
        clear hN
        refine sg_rd (fun N hN => ?_)
        simp only [pickO, List.getElem?_toArray, List.getElem?_cons_zero, List.getElem?_cons_succ]
        go_wp2_with fail
        refine rd_next (hN _ ?_)
        clear hN N
        refine sg_fin ?_
        simp only [pickO, List.getElem?_toArray, List.getElem?_cons_zero, List.getElem?_cons_succ]
        have hb5W := bthen hbW (bthen' (Below.refl wr.heap.size wr).drew hb5) hbW.size
        have hbQ := bthen hb (bthen' (Below.refl wr.heap.size wr).drew hb5) hb.size
        go_wp2_with fail
        go_roundw
        case rel => exact ⟨k + 1, by go_num, by omega, al, as9, hbQ⟩
        case measure => simp [intOf]; omega
      · have hkd : decide ((k : Int) > 0) = true := by simp; omega
        have hkn : decide (0 < k) = true := by simp; omega
        have p1 : (0 : Int) ≤ (k : Int) - 1 := by omega
        have p2 : (k : Int) - 1 < (l.done.length : Int) := by omega
        have p3 : (1 : Int) ≤ (k : Int) := by omega
        have p4 : 1 ≤ k := by omega
        have hck : ((k : Int) - 1).toNat = k - 1 := by omega
        obtain ⟨b2, o2, A3, c3, A4, c4, hA2, hbb2, ⟨x0, x1, x2, x3, x4, x5, x6⟩, -, -, -, -, -⟩ := past_at hrW (k - 1) (by omega)
        injection hA2 with hA2
        injection hA2 with u1 u2 _
        subst u1 u2
        obtain ⟨t2, q7⟩ : ∃ t, evLess l.done[k-1].ev l.done[k].ev = t := ⟨_, rfl⟩
        have hT := hid (show ascB pastLess (l.done.take (k + 1)) = t2 by rw [ascB_step _ hlt, has.out, if_neg (by omega)]; simpa [pastLess] using q7)
        clear q6
        refine region_sg [.rd [0, 1, 2, 3, 4, 5, 6], .mid 7, .rd [8, 9, 10, 11, 12, 13, 14, 15, 16, 17, 18, 19, 20, 21, 22, 23, 24, 25]] [26, 27, 28, 29] (by kernel_rfl) (by kernel_rfl) (fun _ _ d _ _ h => by cases d <;> exact h) ?_
        refine sg_rd (fun N hN => ?_)
        simp only [pickO, List.getElem?_toArray, List.getElem?_cons_zero, List.getElem?_cons_succ]
        go_wp2_with fail
        refine rd_next (hN _ ?_)
        clear hN N
        refine sg_mid (fun N hN => ?_)
        simp only [pickO, List.getElem?_toArray, List.getElem?_cons_zero, List.getElem?_cons_succ]
        go_wp2_with fail
        refine (l21PastOk_c l.done[k] _ _ l.proc F _ (r1.below (Below.refl _ _).drew) (r2.below (Below.refl _ _).drew)).mono ?_
        rintro e w5 ⟨he, hb5⟩
        rw [q5] at he
        subst he
        apply_assumption
        refine mid_next (Agree.of_below hb5) (hN _ _ ?_)
        clear hN
        refine sg_rd (fun N hN => ?_)
        simp only [pickO, List.getElem?_toArray, List.getElem?_cons_zero, List.getElem?_cons_succ]
        go_wp2_with fail
        refine rd_next (hN _ ?_)
        clear hN N
        refine sg_fin ?_
        simp only [pickO, List.getElem?_toArray, List.getElem?_cons_zero, List.getElem?_cons_succ]
        have hb5W := bthen hbW (bthen' (Below.refl wr.heap.size wr).drew hb5) hbW.size
        have hbQ := bthen hb (bthen' (Below.refl wr.heap.size wr).drew hb5) hb.size
        go_wp2_with fail
        refine (EventLess_c l.done[k-1].ev l.done[k].ev _).mono ?_
        rintro e w6 ⟨he, hb6⟩
        rw [q7] at he
        subst he
        apply_assumption
        have hbE := bthen hbQ hb6 hbQ.size
        have hbR := bthen hb5W hb6 hb5W.size
        cases t2
        case true =>
          go_wp2_with fail
          go_roundw
          case rel => exact ⟨k + 1, by go_num, by omega, al, hT, hbE⟩
          case measure => simp [intOf]; omega
        case false =>
          have HF := hid (laneOk_f5 hT.out)
          go_wp2_with fail
          go_ret
          exact ⟨by rw [HF.out]; rfl, hbR⟩
    · have hkl : k = l.done.length := by omega
      subst hkl
      have HF := hid (laneOk_t q1 q2 Q3.out (by have := hal.out; rwa [List.take_length] at this) (by have := has.out; rwa [List.take_length] at this))
      go_wp2_with fail
      go_ret
      exact ⟨by rw [HF.out]; rfl, HBr⟩
set_option maxHeartbeats 1000000 in
theorem LaneOkI_c (l : LaneD) (v : Value) (F : Nat → Prop) (w : World) (h : Rd tPast w F v l.done) :
    Calls Tryz.prog 60 #[.agg #[.int .i64 l.proc, .int .i64 l.base.x, .int .i64 l.base.y, .int .i64 l.base.c, v]] w fun q w' => q = .returned (.bool (laneOk l)) ∧ Below w.heap.size w w' := by
  obtain ⟨A, c, rfl, -, hlen, -⟩ := id h
  have HW : Below w.heap.size w (w.alloc (.cells #[.int .i64 l.proc, .int .i64 l.base.x, .int .i64 l.base.y, .int .i64 l.base.c, .slice A l.done.length c] 52)) := balloc (Below.refl _ _) _
  have Z : (w.alloc (.cells #[.int .i64 l.proc, .int .i64 l.base.x, .int .i64 l.base.y, .int .i64 l.base.c, .slice A l.done.length c] 52)).heap[w.heap.size]? = some (.cells #[.int .i64 l.proc, .int .i64 l.base.x, .int .i64 l.base.y, .int .i64 l.base.c, .slice A l.done.length c] 52 (0, 0)) := heap_at rfl
  go_enter Tryz.func60, Tryz.ntmps60
  go_upto_region 1 with fail
  generalize w.alloc (.cells #[.int .i64 l.proc, .int .i64 l.base.x, .int .i64 l.base.y, .int .i64 l.base.c, .slice A l.done.length c] 52) = W at *
  replace h := h.below HW
  have hsz := blk_lt Z
  have c0 : W.cell? ⟨w.heap.size, 0, none⟩ = some (.int .i64 l.proc) := blk_cell Z 0
  have c1 : W.cell? ⟨w.heap.size, 1, none⟩ = some (.int .i64 l.base.x) := blk_cell Z 1
  have c2 : W.cell? ⟨w.heap.size, 2, none⟩ = some (.int .i64 l.base.y) := blk_cell Z 2
  have c3 : W.cell? ⟨w.heap.size, 3, none⟩ = some (.int .i64 l.base.c) := blk_cell Z 3
  have c4 : W.cell? ⟨w.heap.size, 4, none⟩ = some (.slice A l.done.length c) := blk_cell Z 4
  by_cases q1 : inn l.proc 0 3 = true
  case neg =>
    replace q1 : inn l.proc 0 3 = false := by simpa using q1
    have HF := hid (laneOk_f1 q1)
    go_wp2_with fail
    refine (isProc_c _ _).mono ?_
    rintro e w1 ⟨he, hw⟩
    subst w1
    rw [q1] at he
    subst he
    apply_assumption
    go_wp2_with fail
    have HB2 : Below W.heap.size W W := Below.refl _ _
    go_ret
    exact ⟨by rw [HF.out]; rfl, bthen HW HB2 HW.size⟩
  by_cases q2 : stOk l.base = true
  case neg =>
    replace q2 : stOk l.base = false := by simpa using q2
    have HF := hid (laneOk_f2 q2)
    go_wp2_with fail
    refine (isProc_c _ _).mono ?_
    rintro e w1 ⟨he, hw⟩
    subst w1
    rw [q1] at he
    subst he
    apply_assumption
    go_wp2_with fail
    refine (stateOk_c _ _ _ _).mono ?_
    rintro e w2 ⟨he, HB2⟩
    rw [show stOk ⟨l.base.x, l.base.y, l.base.c⟩ = _ from q2] at he
    subst he
    have Z2 := below_heap HB2 hsz Z
    have d0 : w2.cell? ⟨w.heap.size, 0, none⟩ = some (.int .i64 l.proc) := blk_cell Z2 0
    have d1 : w2.cell? ⟨w.heap.size, 1, none⟩ = some (.int .i64 l.base.x) := blk_cell Z2 1
    have d2 : w2.cell? ⟨w.heap.size, 2, none⟩ = some (.int .i64 l.base.y) := blk_cell Z2 2
    have d3 : w2.cell? ⟨w.heap.size, 3, none⟩ = some (.int .i64 l.base.c) := blk_cell Z2 3
    have d4 : w2.cell? ⟨w.heap.size, 4, none⟩ = some (.slice A l.done.length c) := blk_cell Z2 4
    apply_assumption
    go_wp2_with fail
    go_ret
    exact ⟨by rw [HF.out]; rfl, bthen HW HB2 HW.size⟩
  by_cases q3 : l.done.length ≤ 100
  case neg =>
    have HF := hid (laneOk_f3 q3)
    have q4 : decide ((l.done.length : Int) > 100) = true := decide_eq_true (by omega)
    clear q3
    go_wp2_with fail
    refine (isProc_c _ _).mono ?_
    rintro e w1 ⟨he, hw⟩
    subst w1
    rw [q1] at he
    subst he
    apply_assumption
    go_wp2_with fail
    refine (stateOk_c _ _ _ _).mono ?_
    rintro e w2 ⟨he, HB2⟩
    rw [show stOk ⟨l.base.x, l.base.y, l.base.c⟩ = _ from q2] at he
    subst he
    have Z2 := below_heap HB2 hsz Z
    have d0 : w2.cell? ⟨w.heap.size, 0, none⟩ = some (.int .i64 l.proc) := blk_cell Z2 0
    have d1 : w2.cell? ⟨w.heap.size, 1, none⟩ = some (.int .i64 l.base.x) := blk_cell Z2 1
    have d2 : w2.cell? ⟨w.heap.size, 2, none⟩ = some (.int .i64 l.base.y) := blk_cell Z2 2
    have d3 : w2.cell? ⟨w.heap.size, 3, none⟩ = some (.int .i64 l.base.c) := blk_cell Z2 3
    have d4 : w2.cell? ⟨w.heap.size, 4, none⟩ = some (.slice A l.done.length c) := blk_cell Z2 4
    apply_assumption
    go_wp2_with fail
    go_ret
    exact ⟨by rw [HF.out]; rfl, bthen HW HB2 HW.size⟩
  have q4 : decide ((l.done.length : Int) > 100) = false := decide_eq_false (by omega)
  have Q3 := hid q3
  clear q3
  go_wp2_with fail
  refine (isProc_c _ _).mono ?_
  rintro e w1 ⟨he, hw⟩
  subst w1
  rw [q1] at he
  subst he
  apply_assumption
  go_wp2_with fail
  refine (stateOk_c _ _ _ _).mono ?_
  rintro e w2 ⟨he, HB2⟩
  rw [show stOk ⟨l.base.x, l.base.y, l.base.c⟩ = _ from q2] at he
  subst he
  have Z2 := below_heap HB2 hsz Z
  have d0 : w2.cell? ⟨w.heap.size, 0, none⟩ = some (.int .i64 l.proc) := blk_cell Z2 0
  have d1 : w2.cell? ⟨w.heap.size, 1, none⟩ = some (.int .i64 l.base.x) := blk_cell Z2 1
  have d2 : w2.cell? ⟨w.heap.size, 2, none⟩ = some (.int .i64 l.base.y) := blk_cell Z2 2
  have d3 : w2.cell? ⟨w.heap.size, 3, none⟩ = some (.int .i64 l.base.c) := blk_cell Z2 3
  have d4 : w2.cell? ⟨w.heap.size, 4, none⟩ = some (.slice A l.done.length c) := blk_cell Z2 4
  apply_assumption
  go_wp2_with fail
  replace h := h.below HB2
  have hsz2 := blk_lt Z2
  have HB := bthen HW HB2 HW.size
  clear c0 c1 c2 c3 c4
  go_loopw [24] (fun i wr => ∃ k : Nat, i = .int .i64 k ∧ k ≤ l.done.length ∧ Hid ((l.done.take k).all (fun p => pastOk p l.proc) = true) ∧ Hid (ascB pastLess (l.done.take k) = true) ∧ Below w2.heap.size w2 wr) (fun i _ => l.done.length - (intOf i).toNat)
  case atStart => exact ⟨0, rfl, Nat.zero_le _, rfl, rfl, Below.refl _ _⟩
  case round =>
    obtain ⟨k, rfl, hk, hal, has, hb⟩ := hrel
    have Zr := below_heap hb hsz2 Z2
    have hr := h.below hb
    have HBr := bthen HB hb HB.size
    have hszr := blk_lt Zr
    have e0 : wr.cell? ⟨w.heap.size, 0, none⟩ = some (.int .i64 l.proc) := blk_cell Zr 0
    have e1 : wr.cell? ⟨w.heap.size, 1, none⟩ = some (.int .i64 l.base.x) := blk_cell Zr 1
    have e2 : wr.cell? ⟨w.heap.size, 2, none⟩ = some (.int .i64 l.base.y) := blk_cell Zr 2
    have e3 : wr.cell? ⟨w.heap.size, 3, none⟩ = some (.int .i64 l.base.c) := blk_cell Zr 3
    have e4 : wr.cell? ⟨w.heap.size, 4, none⟩ = some (.slice A l.done.length c) := blk_cell Zr 4
    by_cases hlt : k < l.done.length
    · obtain ⟨b0, o0, A1, c1, A2, c2, rfl, hb0, ⟨y0, y1, y2, y3, y4, y5, y6⟩, ⟨y7, y8, y9⟩, y10, y11, r1, r2⟩ := past_at hr k hlt
      have p0 : (k : Int) < (l.done.length : Int) := by omega
      go_upto_region 6 with fail
      have hbx := balloc (Below.refl wr.heap.size wr) (.cells #[.int .i64 l.done[k].ev.time, .int .i64 l.done[k].ev.to, .int .i64 l.done[k].ev.from_, .int .i64 l.done[k].ev.count, .int .i64 l.done[k].ev.n, .int .i64 l.done[k].ev.kind, .int .i64 l.done[k].ev.arg, .int .i64 l.done[k].st.x, .int .i64 l.done[k].st.y, .int .i64 l.done[k].st.c, .slice A1 l.done[k].sends.length c1, .slice A2 l.done[k].outs.length c2] 98)
      have Y : (wr.alloc (.cells #[.int .i64 l.done[k].ev.time, .int .i64 l.done[k].ev.to, .int .i64 l.done[k].ev.from_, .int .i64 l.done[k].ev.count, .int .i64 l.done[k].ev.n, .int .i64 l.done[k].ev.kind, .int .i64 l.done[k].ev.arg, .int .i64 l.done[k].st.x, .int .i64 l.done[k].st.y, .int .i64 l.done[k].st.c, .slice A1 l.done[k].sends.length c1, .slice A2 l.done[k].outs.length c2] 98)).heap[wr.heap.size]? = some (.cells #[.int .i64 l.done[k].ev.time, .int .i64 l.done[k].ev.to, .int .i64 l.done[k].ev.from_, .int .i64 l.done[k].ev.count, .int .i64 l.done[k].ev.n, .int .i64 l.done[k].ev.kind, .int .i64 l.done[k].ev.arg, .int .i64 l.done[k].st.x, .int .i64 l.done[k].st.y, .int .i64 l.done[k].st.c, .slice A1 l.done[k].sends.length c1, .slice A2 l.done[k].outs.length c2] 98 (0, 0)) := heap_at rfl
      have hrW := hr.below hbx
      have hbW := bthen HBr hbx HBr.size
      have ZW := below_heap hbx hszr Zr
      have hb2W := bthen hb hbx hb.size
      have r1 := r1.below hbx
      have r2 := r2.below hbx
      obtain ⟨g, hgg⟩ : ∃ g, g = wr.heap.size := ⟨_, rfl⟩
      rw [← hgg] at Y
      simp only [← hgg]
      generalize wr.alloc (.cells #[.int .i64 l.done[k].ev.time, .int .i64 l.done[k].ev.to, .int .i64 l.done[k].ev.from_, .int .i64 l.done[k].ev.count, .int .i64 l.done[k].ev.n, .int .i64 l.done[k].ev.kind, .int .i64 l.done[k].ev.arg, .int .i64 l.done[k].st.x, .int .i64 l.done[k].st.y, .int .i64 l.done[k].st.c, .slice A1 l.done[k].sends.length c1, .slice A2 l.done[k].outs.length c2] 98) = WE at *
      clear hgg y0 y1 y2 y3 y4 y5 y6 y7 y8 y9 y10 y11 e0 e1 e2 e3 e4
      have e0 : WE.cell? ⟨w.heap.size, 0, none⟩ = some (.int .i64 l.proc) := blk_cell ZW 0
      have e1 : WE.cell? ⟨w.heap.size, 1, none⟩ = some (.int .i64 l.base.x) := blk_cell ZW 1
      have e2 : WE.cell? ⟨w.heap.size, 2, none⟩ = some (.int .i64 l.base.y) := blk_cell ZW 2
      have e3 : WE.cell? ⟨w.heap.size, 3, none⟩ = some (.int .i64 l.base.c) := blk_cell ZW 3
      have e4 : WE.cell? ⟨w.heap.size, 4, none⟩ = some (.slice (some ⟨b0, o0, none⟩) l.done.length c) := blk_cell ZW 4
      have y0 : WE.cell? ⟨g, 0, none⟩ = some (.int .i64 l.done[k].ev.time) := blk_cell Y 0
      have y1 : WE.cell? ⟨g, 1, none⟩ = some (.int .i64 l.done[k].ev.to) := blk_cell Y 1
      have y2 : WE.cell? ⟨g, 2, none⟩ = some (.int .i64 l.done[k].ev.from_) := blk_cell Y 2
      have y3 : WE.cell? ⟨g, 3, none⟩ = some (.int .i64 l.done[k].ev.count) := blk_cell Y 3
      have y4 : WE.cell? ⟨g, 4, none⟩ = some (.int .i64 l.done[k].ev.n) := blk_cell Y 4
      have y5 : WE.cell? ⟨g, 5, none⟩ = some (.int .i64 l.done[k].ev.kind) := blk_cell Y 5
      have y6 : WE.cell? ⟨g, 6, none⟩ = some (.int .i64 l.done[k].ev.arg) := blk_cell Y 6
      have y7 : WE.cell? ⟨g, 7, none⟩ = some (.int .i64 l.done[k].st.x) := blk_cell Y 7
      have y8 : WE.cell? ⟨g, 8, none⟩ = some (.int .i64 l.done[k].st.y) := blk_cell Y 8
      have y9 : WE.cell? ⟨g, 9, none⟩ = some (.int .i64 l.done[k].st.c) := blk_cell Y 9
      have y10 : WE.cell? ⟨g, 10, none⟩ = some (.slice A1 l.done[k].sends.length c1) := blk_cell Y 10
      have y11 : WE.cell? ⟨g, 11, none⟩ = some (.slice A2 l.done[k].outs.length c2) := blk_cell Y 11
      by_cases q5 : pastOk l.done[k] l.proc = true
      case neg =>
        replace q5 : pastOk l.done[k] l.proc = false := by simpa using q5
        have HF := hid (laneOk_f4 hlt q5)
        refine region_sg [.rd [0, 1, 2], .mid 3, .rd [4, 5, 6, 7, 8, 9, 10, 11, 12, 13, 14, 15, 16, 17]] [18, 19, 20, 21] (by kernel_rfl) (by kernel_rfl) (fun _ _ d _ _ h => by cases d <;> exact h) ?_
        refine sg_rd (fun N hN => ?_)
        simp only [pickO, List.getElem?_toArray, List.getElem?_cons_zero, List.getElem?_cons_succ]
        go_wp2_with fail
        refine rd_next (hN _ ?_)
        clear hN N
        refine sg_mid (fun N hN => ?_)
        simp only [pickO, List.getElem?_toArray, List.getElem?_cons_zero, List.getElem?_cons_succ]
        go_wp2_with fail
        refine (pastOkI_c l.done[k] _ _ l.proc F _ (r1.below (Below.refl _ _).drew) (r2.below (Below.refl _ _).drew)).mono ?_
        rintro e w5 ⟨he, hb5⟩
        rw [q5] at he
        subst he
        apply_assumption
        refine mid_next (Agree.of_below hb5) (hN _ _ ?_)
        clear hN
        refine sg_rd (fun N hN => ?_)
        simp only [pickO, List.getElem?_toArray, List.getElem?_cons_zero, List.getElem?_cons_succ]
        go_wp2_with fail
        refine rd_next (hN _ ?_)
        clear hN N
        refine sg_fin ?_
        simp only [pickO, List.getElem?_toArray, List.getElem?_cons_zero, List.getElem?_cons_succ]
        have hb5W := bthen hbW (bthen' (Below.refl WE.heap.size WE).drew hb5) hbW.size
        have hbQ := bthen hb2W (bthen' (Below.refl WE.heap.size WE).drew hb5) hb2W.size
        go_wp2_with fail
        go_ret
        exact ⟨by rw [HF.out]; rfl, hb5W⟩
      have al := hid (all_snoc (p := fun p => pastOk p l.proc) hlt hal.out q5)
      by_cases q6 : k = 0
      · have as9 := hid (show ascB pastLess (l.done.take (k + 1)) = true by rw [ascB_step _ hlt, has.out, if_pos q6]; rfl)
        have hkd : decide ((k : Int) > 0) = false := by simp; omega
        have hkn : decide (0 < k) = false := by simp; omega
        clear q6
        refine region_sg [.rd [0, 1, 2], .mid 3, .rd [4, 5, 6, 7, 8, 9, 10, 11, 12, 13, 14, 15, 16, 17]] [18, 19, 20, 21] (by kernel_rfl) (by kernel_rfl) (fun _ _ d _ _ h => by cases d <;> exact h) ?_
        refine sg_rd (fun N hN => ?_)
        simp only [pickO, List.getElem?_toArray, List.getElem?_cons_zero, List.getElem?_cons_succ]
        go_wp2_with fail
        refine rd_next (hN _ ?_)
        clear hN N
        refine sg_mid (fun N hN => ?_)
        simp only [pickO, List.getElem?_toArray, List.getElem?_cons_zero, List.getElem?_cons_succ]
        go_wp2_with fail
        refine (pastOkI_c l.done[k] _ _ l.proc F _ (r1.below (Below.refl _ _).drew) (r2.below (Below.refl _ _).drew)).mono ?_
        rintro e w5 ⟨he, hb5⟩
        rw [q5] at he
        subst he
        apply_assumption
        refine mid_next (Agree.of_below hb5) (hN _ _ ?_)
        clear hN
        refine sg_rd (fun N hN => ?_)
        simp only [pickO, List.getElem?_toArray, List.getElem?_cons_zero, List.getElem?_cons_succ]
        go_wp2_with fail
        refine rd_next (hN _ ?_)
        clear hN N
        refine sg_fin ?_
        simp only [pickO, List.getElem?_toArray, List.getElem?_cons_zero, List.getElem?_cons_succ]
        have hb5W := bthen hbW (bthen' (Below.refl WE.heap.size WE).drew hb5) hbW.size
        have hbQ := bthen hb2W (bthen' (Below.refl WE.heap.size WE).drew hb5) hb2W.size
        go_wp2_with fail
        go_roundw
        case rel => exact ⟨k + 1, by go_num, by omega, al, as9, hbQ⟩
        case measure => simp [intOf]; omega
      · have hkd : decide ((k : Int) > 0) = true := by simp; omega
        have hkn : decide (0 < k) = true := by simp; omega
        have p1 : (0 : Int) ≤ (k : Int) - 1 := by omega
        have p2 : (k : Int) - 1 < (l.done.length : Int) := by omega
        have p3 : (1 : Int) ≤ (k : Int) := by omega
        have p4 : 1 ≤ k := by omega
        have hck : ((k : Int) - 1).toNat = k - 1 := by omega
        obtain ⟨b2, o2, A3, c3, A4, c4, hA2, hbb2, ⟨x0, x1, x2, x3, x4, x5, x6⟩, -, -, -, -, -⟩ := past_at hrW (k - 1) (by omega)
        injection hA2 with hA2
        injection hA2 with u1 u2 _
        subst u1 u2
        obtain ⟨t2, q7⟩ : ∃ t, evLess l.done[k-1].ev l.done[k].ev = t := ⟨_, rfl⟩
        have hT := hid (show ascB pastLess (l.done.take (k + 1)) = t2 by rw [ascB_step _ hlt, has.out, if_neg (by omega)]; simpa [pastLess] using q7)
        clear q6
        refine region_sg [.rd [0, 1, 2], .mid 3, .rd [4, 5, 6, 7, 8, 9, 10, 11, 12, 13, 14, 15, 16, 17]] [18, 19, 20, 21] (by kernel_rfl) (by kernel_rfl) (fun _ _ d _ _ h => by cases d <;> exact h) ?_
        refine sg_rd (fun N hN => ?_)
        simp only [pickO, List.getElem?_toArray, List.getElem?_cons_zero, List.getElem?_cons_succ]
        go_wp2_with fail
        refine rd_next (hN _ ?_)
        clear hN N
        refine sg_mid (fun N hN => ?_)
        simp only [pickO, List.getElem?_toArray, List.getElem?_cons_zero, List.getElem?_cons_succ]
        go_wp2_with fail
        refine (pastOkI_c l.done[k] _ _ l.proc F _ (r1.below (Below.refl _ _).drew) (r2.below (Below.refl _ _).drew)).mono ?_
        rintro e w5 ⟨he, hb5⟩
        rw [q5] at he
        subst he
        apply_assumption
        refine mid_next (Agree.of_below hb5) (hN _ _ ?_)
        clear hN
        refine sg_rd (fun N hN => ?_)
        simp only [pickO, List.getElem?_toArray, List.getElem?_cons_zero, List.getElem?_cons_succ]
        go_wp2_with fail
        refine rd_next (hN _ ?_)
        clear hN N
        refine sg_fin ?_
        simp only [pickO, List.getElem?_toArray, List.getElem?_cons_zero, List.getElem?_cons_succ]
        have hb5W := bthen hbW (bthen' (Below.refl WE.heap.size WE).drew hb5) hbW.size
        have hbQ := bthen hb2W (bthen' (Below.refl WE.heap.size WE).drew hb5) hb2W.size
        go_wp2_with fail
        refine (EventLessI_c l.done[k-1].ev l.done[k].ev _).mono ?_
        rintro e w6 ⟨he, hb6⟩
        rw [q7] at he
        subst he
        apply_assumption
        have hbE := bthen hbQ hb6 hbQ.size
        have hbR := bthen hb5W hb6 hb5W.size
        cases t2
        case true =>
          go_wp2_with fail
          go_roundw
          case rel => exact ⟨k + 1, by go_num, by omega, al, hT, hbE⟩
          case measure => simp [intOf]; omega
        case false =>
          have HF := hid (laneOk_f5 hT.out)
          go_wp2_with fail
          go_ret
          exact ⟨by rw [HF.out]; rfl, hbR⟩
    · have hkl : k = l.done.length := by omega
      subst hkl
      have HF := hid (laneOk_t q1 q2 Q3.out (by have := hal.out; rwa [List.take_length] at this) (by have := has.out; rwa [List.take_length] at this))
      go_wp2_with fail
      go_ret
      exact ⟨by rw [HF.out]; rfl, HBr⟩
end Go.Proofs.YtbcemldiahghcaaGreat
