/- Texts joined: Cmp, Cmp2, Ex3. -/
import Derived.Test.YtbcemldiahghcaaGreatJ05
import Derived.Test.YtbcemldiahghcaaGreatJ11
import Derived.Test.YtbcemldiahghcaaGreatJ10
import Derived.Test.YtbcemldiahghcaaGreatJ12
namespace Go.Proofs.YtbcemldiahghcaaGreat
set_option linter.unusedVariables false
set_option linter.unusedSimpArgs false
set_option maxRecDepth 100000
open Go.RowKit
theorem isNaN_c (x : Int) (w : World) : Calls Tryz.prog 161 #[.int .i64 x] w fun e w' => e = .returned (.bool false) ∧ w' = w := by
  have h : (x != x) = false := by simp
  go_enter Tryz.func161, Tryz.ntmps161
  go_wp2_with fail
  go_ret
  exact ⟨rfl, rfl⟩
def cmp1 (x y : Int) : Int := if x < y then -1 else if y < x then 1 else 0
theorem compare_c (x y : Int) (w : World) : Calls Tryz.prog 160 #[.int .i64 x, .int .i64 y] w fun e w' => e = .returned (.int .i64 (cmp1 x y)) ∧ w' = w := by
  by_cases h1 : x < y
  · have hd : decide (x < y) = true := decide_eq_true h1
    have HE := hid (show cmp1 x y = -1 by simp [cmp1, h1])
    go_enter Tryz.func160, Tryz.ntmps160
    go_wp2_with (go_at_call 161; refine (isNaN_c _ _).mono ?_; rintro e w' ⟨rfl, rfl⟩)
    go_ret
    exact ⟨by rw [HE.out]; rfl, rfl⟩
  · have hd : decide (x < y) = false := decide_eq_false h1
    by_cases h2 : y < x
    · have hd2 : decide (y < x) = true := decide_eq_true h2
      have HE := hid (show cmp1 x y = 1 by simp [cmp1, h1, h2])
      go_enter Tryz.func160, Tryz.ntmps160
      go_wp2_with (go_at_call 161; refine (isNaN_c _ _).mono ?_; rintro e w' ⟨rfl, rfl⟩)
      go_ret
      exact ⟨by rw [HE.out]; rfl, rfl⟩
    · have hd2 : decide (y < x) = false := decide_eq_false h2
      have HE := hid (show cmp1 x y = 0 by simp [cmp1, h1, h2])
      go_enter Tryz.func160, Tryz.ntmps160
      go_wp2_with (go_at_call 161; refine (isNaN_c _ _).mono ?_; rintro e w' ⟨rfl, rfl⟩)
      go_ret
      exact ⟨by rw [HE.out]; rfl, rfl⟩
def cmpV : List Int → List Int → Int
  | a :: l, b :: m => if cmp1 a b = 0 then cmpV l m else cmp1 a b
  | _, _ => 0
theorem cmp1_zero {x y : Int} : cmp1 x y = 0 ↔ x = y := by unfold cmp1; split <;> (try split) <;> omega
theorem cmpV_lt : ∀ (l m : List Int), decide (cmpV l m < 0) = lexLt l m
  | [], m => by simp [cmpV, lexLt]
  | _ :: _, [] => by simp [cmpV, lexLt]
  | a :: l, b :: m => by
    simp only [cmpV, lexLt]
    by_cases h : a = b
    · simp only [if_pos (cmp1_zero.2 h), if_pos h]
      exact cmpV_lt l m
    · simp only [if_neg (fun e => h (cmp1_zero.1 e)), if_neg h]
      refine decide_eq_decide.2 ?_
      unfold cmp1
      split
      · omega
      · split <;> omega
theorem cmpV_drop {xs ys : List Int} {k : Nat} (h : k < xs.length) (h2 : k < ys.length) : cmpV (xs.drop k) (ys.drop k) = if cmp1 xs[k] ys[k] = 0 then cmpV (xs.drop (k + 1)) (ys.drop (k + 1)) else cmp1 xs[k] ys[k] := by
  rw [List.drop_eq_getElem_cons h, List.drop_eq_getElem_cons h2]; simp only [cmpV]
theorem int_at {w : World} {F : Nat → Prop} {A : Option Addr} {n c : Nat} {xs : List Int} (h : Rd (tInt .i64) w F (.slice A n c) xs) (j : Nat) (hj : j < xs.length) :
    ∃ b o, A = some ⟨b, o, none⟩ ∧ F b ∧ b < w.heap.size ∧ w.cell? ⟨b, o + j, none⟩ = some (.int .i64 xs[j]) := by
  obtain ⟨b, o, cs, rfl, hF, hlt, hr, hu⟩ := h.at_ j hj
  have hr' : cs = [.int .i64 xs[j]] := hr
  subst hr'
  have := hu 0 _ rfl
  exact ⟨b, o, rfl, hF, hlt, by simpa [tInt, flat] using this⟩
set_option maxHeartbeats 1000000 in
theorem sCompare_c (v0 v1 : Value) (xs ys : List Int) (F : Nat → Prop) (w : World) (h0 : Rd (tInt .i64) w F v0 xs) (h1 : Rd (tInt .i64) w F v1 ys) (hl : xs.length = ys.length) :
    Calls Tryz.prog 154 #[v0, v1] w fun e w' => e = .returned (.int .i64 (cmpV xs ys)) ∧ w' = w := by
  obtain ⟨A0, c0, rfl, -, l0, -⟩ := id h0
  obtain ⟨A1, c1, rfl, -, l1, -⟩ := id h1
  have hle : xs.length ≤ ys.length := by omega
  have hge : ys.length ≤ xs.length := by omega
  have hd9 : decide ((xs.length : Int) < (ys.length : Int)) = false := decide_eq_false (by omega)
  clear hl
  go_enter Tryz.func154, Tryz.ntmps154
  go_wp2_with fail
  go_loop [11] (fun i => ∃ k : Nat, i = .int .i64 k ∧ k ≤ xs.length ∧ Hid (cmpV xs ys = cmpV (xs.drop k) (ys.drop k))) (fun i => xs.length - (intOf i).toNat)
  case atStart => exact ⟨0, rfl, Nat.zero_le _, hid rfl⟩
  case round =>
    obtain ⟨k, rfl, hk, HE⟩ := hrel
    by_cases hlt : k < xs.length
    · obtain ⟨b0, o0, rfl, _, _, a0⟩ := int_at h0 k hlt
      obtain ⟨b1, o1, rfl, _, _, a1⟩ := int_at h1 k (by omega)
      have hlt2 : k < ys.length := by omega
      have hg : decide ((ys.length : Int) ≤ (k : Int)) = false := decide_eq_false (by omega)
      have hc := cmpV_drop hlt hlt2
      by_cases he : cmp1 xs[k] ys[k] = 0
      · rw [if_pos he] at hc
        have HC := hid (HE.out.trans hc); clear hc
        have hn : (cmp1 xs[k] ys[k] != 0) = false := by simp [he]
        clear he
        go_wp2_with (go_at_call 160; refine (compare_c _ _ _).mono ?_; rintro e w' ⟨rfl, rfl⟩)
        go_round
        case rel => exact ⟨k + 1, by go_num, by omega, HC⟩
        case measure => simp [intOf]; omega
      · rw [if_neg he] at hc
        have HC := hid (HE.out.trans hc); clear hc
        have hn : (cmp1 xs[k] ys[k] != 0) = true := by simp [he]
        clear he
        go_wp2_with (go_at_call 160; refine (compare_c _ _ _).mono ?_; rintro e w' ⟨rfl, rfl⟩)
        go_ret
        exact ⟨by rw [HC.out]; rfl, rfl⟩
    · have HC := hid (show cmpV xs ys = 0 by rw [HE.out, List.drop_eq_nil_of_le (by omega), List.drop_eq_nil_of_le (by omega)]; rfl)
      go_wp2_with fail
      go_ret
      exact ⟨by rw [HC.out]; rfl, rfl⟩
end Go.Proofs.YtbcemldiahghcaaGreat

namespace Go.Proofs.YtbcemldiahghcaaGreat
set_option linter.unusedVariables false
set_option linter.unusedSimpArgs false
set_option maxRecDepth 100000
open Go.RowKit
theorem rd_block {W : World} {K : Nat} {t : TypeId} {fr : Nat × Nat} {ys : Array Value} (xs : List Int) (hx : xs.length ≤ 9223372036854775807) (h : W.heap[K]? = some (.cells ys t fr)) (hy : ys.toList = xs.map (.int .i64)) : Rd (tInt .i64) W (fun k => k = K) (.slice (some ⟨K, 0, none⟩) xs.length xs.length) xs := by
  refine ⟨_, xs.length, rfl, Nat.le_refl _, hx, fun _ => ⟨K, 0, rfl, rfl, blk_lt h, fun j x hj => ⟨_, rfl, fun i u hi => ?_⟩⟩⟩
  have hz : (tInt .i64).sz = 1 := rfl
  cases i with
  | zero =>
    obtain rfl : Value.int .i64 x = u := by simpa using hi
    rw [blk_cell h, hz]
    have : ys.toList[j]? = some (Value.int .i64 x) := by rw [hy, List.getElem?_map, hj]; rfl
    simpa using this
  | succ i => simp at hi
theorem bdrew0 {B : Nat} {w W : World} (h : Below B w W) : Below B w W.drew := ⟨h.os, h.tape, h.output, h.size, h.block⟩
theorem keyOf_c (a : EvD) (w : World) : Calls Tryz.prog 132 #[evAgg a] w fun q w' => q = .returned (evAgg a) ∧ Below w.heap.size w w' := by
  unfold evAgg
  go_enter Tryz.func132, Tryz.ntmps132
  go_wp2_with fail
  have B : Below w.heap.size w _ := balloc (balloc (Below.refl _ _) (.cells #[.int .i64 a.time, .int .i64 a.to, .int .i64 a.from_, .int .i64 a.count, .int .i64 a.n, .int .i64 a.kind, .int .i64 a.arg] 80)) (.cells #[.int .i64 a.time, .int .i64 a.to, .int .i64 a.from_, .int .i64 a.count, .int .i64 a.n, .int .i64 a.kind, .int .i64 a.arg] 181)
  exact bodyPost_ret (v := .agg #[.int .i64 a.time, .int .i64 a.to, .int .i64 a.from_, .int .i64 a.count, .int .i64 a.n, .int .i64 a.kind, .int .i64 a.arg]) (by simp [results, Tryz.results132, go_sem]) rfl ⟨rfl, B⟩
set_option maxHeartbeats 1000000 in
theorem keyLess_c (a b : EvD) (w : World) : Calls Tryz.prog 131 #[evAgg a, evAgg b] w fun q w' => q = .returned (.bool (evLess a b)) ∧ Below w.heap.size w w' := by
  have HE := hid (show decide (cmpV a.key b.key < 0) = evLess a b from cmpV_lt _ _)
  have h1 : Rd (tInt .i64) ((w.alloc (.cells #[.int .i64 a.time, .int .i64 a.to, .int .i64 a.from_, .int .i64 a.count, .int .i64 a.n, .int .i64 a.kind, .int .i64 a.arg] 181)).alloc (.cells #[.int .i64 b.time, .int .i64 b.to, .int .i64 b.from_, .int .i64 b.count, .int .i64 b.n, .int .i64 b.kind, .int .i64 b.arg] 181)) (fun _ => True) (.slice (some ⟨w.heap.size, 0, none⟩) 7 7) a.key := (rd_block (W := (w.alloc (.cells #[.int .i64 a.time, .int .i64 a.to, .int .i64 a.from_, .int .i64 a.count, .int .i64 a.n, .int .i64 a.kind, .int .i64 a.arg] 181)).alloc (.cells #[.int .i64 b.time, .int .i64 b.to, .int .i64 b.from_, .int .i64 b.count, .int .i64 b.n, .int .i64 b.kind, .int .i64 b.arg] 181)) a.key (by simp [EvD.key]) ((heap_old (by simp)).trans (heap_at rfl)) rfl).mono (fun _ _ => trivial)
  have h2 : Rd (tInt .i64) ((w.alloc (.cells #[.int .i64 a.time, .int .i64 a.to, .int .i64 a.from_, .int .i64 a.count, .int .i64 a.n, .int .i64 a.kind, .int .i64 a.arg] 181)).alloc (.cells #[.int .i64 b.time, .int .i64 b.to, .int .i64 b.from_, .int .i64 b.count, .int .i64 b.n, .int .i64 b.kind, .int .i64 b.arg] 181)) (fun _ => True) (.slice (some ⟨w.heap.size + 1, 0, none⟩) 7 7) b.key := (rd_block b.key (by simp [EvD.key]) (heap_at (by simp)) rfl).mono (fun _ _ => trivial)
  have B : Below w.heap.size w ((w.alloc (.cells #[.int .i64 a.time, .int .i64 a.to, .int .i64 a.from_, .int .i64 a.count, .int .i64 a.n, .int .i64 a.kind, .int .i64 a.arg] 181)).alloc (.cells #[.int .i64 b.time, .int .i64 b.to, .int .i64 b.from_, .int .i64 b.count, .int .i64 b.n, .int .i64 b.kind, .int .i64 b.arg] 181)) := balloc (balloc (Below.refl _ _) _) _
  unfold evAgg
  go_enter Tryz.func131, Tryz.ntmps131
  go_wp2_with fail
  generalize hW : (w.alloc (.cells #[.int .i64 a.time, .int .i64 a.to, .int .i64 a.from_, .int .i64 a.count, .int .i64 a.n, .int .i64 a.kind, .int .i64 a.arg] 181)).alloc (.cells #[.int .i64 b.time, .int .i64 b.to, .int .i64 b.from_, .int .i64 b.count, .int .i64 b.n, .int .i64 b.kind, .int .i64 b.arg] 181) = W at *
  clear hW
  refine region_plan (fun w' => w' = W.drew) [(0, true), (1, true), (2, false), (3, true), (4, true)] (by kernel_rfl) (by kernel_rfl) (fun _ _ d _ _ h => by cases d <;> exact h) ?_
  have HS := (rfl : W.drew = W.drew)
  iterate 2 (first | (refine seq_take (v := ?_) (by rfl) HS (by rfl) ?_ ?_; rotate_left; (focus (intro wS hS; obtain ⟨kc, kf⟩ := (And.intro True.intro True.intro); go_simp; (try (with_reducible rfl)); done)); (intro K hK; go_simp; refine hK _ ?_; clear hK K)) | (refine seq_skip (by rfl) HS (by rfl) ?_; (intro K hK; go_simp; refine hK _ ?_; clear hK K)))
  refine seq_do (by rfl) (by rfl) (fun K hK => ?_)
  go_simp
  refine (sCompare_c _ _ a.key b.key (fun _ => True) W.drew (Rd.move (w := W) (fun _ _ => rfl) h1) (Rd.move (w := W) (fun _ _ => rfl) h2) rfl).mono ?_
  rintro q w' ⟨rfl, rfl⟩
  refine hK _ _ (Or.inr HS) ?_; clear hK K
  iterate 2 (first | (refine seq_take (v := ?_) (by rfl) HS (by rfl) ?_ ?_; rotate_left; (focus (intro wS hS; obtain ⟨kc, kf⟩ := (And.intro True.intro True.intro); go_simp; (try (with_reducible rfl)); done)); (intro K hK; go_simp; refine hK _ ?_; clear hK K)) | (refine seq_skip (by rfl) HS (by rfl) ?_; (intro K hK; go_simp; refine hK _ ?_; clear hK K)))
  simp only [wpSeq]
  go_wp2_with fail
  go_ret
  exact ⟨by rw [HE.out]; rfl, bdrew0 B⟩
set_option maxHeartbeats 1000000 in
theorem EventLessI_c (a b : EvD) (w : World) : Calls Tryz.prog 107 #[evAgg a, evAgg b] w fun q w' => q = .returned (.bool (evLess a b)) ∧ Below w.heap.size w w' := by
  have B : Below w.heap.size w ((w.alloc (.cells #[.int .i64 a.time, .int .i64 a.to, .int .i64 a.from_, .int .i64 a.count, .int .i64 a.n, .int .i64 a.kind, .int .i64 a.arg] 80)).alloc (.cells #[.int .i64 b.time, .int .i64 b.to, .int .i64 b.from_, .int .i64 b.count, .int .i64 b.n, .int .i64 b.kind, .int .i64 b.arg] 80)) := balloc (balloc (Below.refl _ _) _) _
  have Z1 : ((w.alloc (.cells #[.int .i64 a.time, .int .i64 a.to, .int .i64 a.from_, .int .i64 a.count, .int .i64 a.n, .int .i64 a.kind, .int .i64 a.arg] 80)).alloc (.cells #[.int .i64 b.time, .int .i64 b.to, .int .i64 b.from_, .int .i64 b.count, .int .i64 b.n, .int .i64 b.kind, .int .i64 b.arg] 80)).heap[w.heap.size]? = some (.cells #[.int .i64 a.time, .int .i64 a.to, .int .i64 a.from_, .int .i64 a.count, .int .i64 a.n, .int .i64 a.kind, .int .i64 a.arg] 80 (0, 0)) := (heap_old (by simp)).trans (heap_at rfl)
  have Z2 : ((w.alloc (.cells #[.int .i64 a.time, .int .i64 a.to, .int .i64 a.from_, .int .i64 a.count, .int .i64 a.n, .int .i64 a.kind, .int .i64 a.arg] 80)).alloc (.cells #[.int .i64 b.time, .int .i64 b.to, .int .i64 b.from_, .int .i64 b.count, .int .i64 b.n, .int .i64 b.kind, .int .i64 b.arg] 80)).heap[w.heap.size + 1]? = some (.cells #[.int .i64 b.time, .int .i64 b.to, .int .i64 b.from_, .int .i64 b.count, .int .i64 b.n, .int .i64 b.kind, .int .i64 b.arg] 80 (0, 0)) := heap_at (by simp)
  unfold evAgg
  go_enter Tryz.func107, Tryz.ntmps107
  go_wp2_with fail
  generalize hW : (w.alloc (.cells #[.int .i64 a.time, .int .i64 a.to, .int .i64 a.from_, .int .i64 a.count, .int .i64 a.n, .int .i64 a.kind, .int .i64 a.arg] 80)).alloc (.cells #[.int .i64 b.time, .int .i64 b.to, .int .i64 b.from_, .int .i64 b.count, .int .i64 b.n, .int .i64 b.kind, .int .i64 b.arg] 80) = W at *
  clear hW
  obtain ⟨⟨p0, p1, p2, p3, p4, p5, p6⟩, -⟩ := cells7 Z1
  obtain ⟨⟨q0, q1, q2, q3, q4, q5, q6⟩, -⟩ := cells7 Z2
  have z1 := blk_lt Z1
  have z2 := blk_lt Z2
  refine region_plan (fun w' => Ch (fun _ => False) W w') [(0, true), (2, true), (1, false), (3, false), (4, false), (5, true)] (by kernel_rfl) (by kernel_rfl) (fun _ _ d _ _ h => by cases d <;> exact h) ?_
  have HS := (Ch.refl (fun _ => False) W).drew
  iterate 2 (first | (refine seq_take (v := ?_) (by rfl) HS (by rfl) ?_ ?_; rotate_left; (focus (intro wS hS; obtain ⟨kc, kf⟩ := hS.cells; go_simp; (try (with_reducible rfl)); done)); (intro K hK; go_simp; refine hK _ ?_; clear hK K)) | (refine seq_skip (by rfl) HS (by rfl) ?_; (intro K hK; go_simp; refine hK _ ?_; clear hK K)))
  refine seq_do (by rfl) (by rfl) (fun K hK => ?_)
  go_simp
  refine (keyOf_c a _).mono ?_
  rintro q w3 ⟨rfl, hb3⟩
  have HS := HS.trans (Ch.of_below hb3)
  refine hK _ _ (Or.inr HS) ?_; clear hK K
  refine seq_do (by rfl) (by rfl) (fun K hK => ?_)
  go_simp
  refine (keyOf_c b _).mono ?_
  rintro q w4 ⟨rfl, hb4⟩
  have HS := HS.trans (Ch.of_below hb4)
  refine hK _ _ (Or.inr HS) ?_; clear hK K
  refine seq_do (by rfl) (by rfl) (fun K hK => ?_)
  go_simp
  refine (keyLess_c a b _).mono ?_
  rintro q w5 ⟨rfl, hb5⟩
  have HS := HS.trans (Ch.of_below hb5)
  refine hK _ _ (Or.inr HS) ?_; clear hK K
  iterate 1 (first | (refine seq_take (v := ?_) (by rfl) HS (by rfl) ?_ ?_; rotate_left; (focus (intro wS hS; obtain ⟨kc, kf⟩ := hS.cells; go_simp; (try (with_reducible rfl)); done)); (intro K hK; go_simp; refine hK _ ?_; clear hK K)) | (refine seq_skip (by rfl) HS (by rfl) ?_; (intro K hK; go_simp; refine hK _ ?_; clear hK K)))
  simp only [wpSeq]
  go_wp2_with fail
  go_ret
  exact ⟨rfl, bthen' B HS.below0⟩
set_option maxHeartbeats 1000000 in
theorem OutLessI_c (a b : OutD) (w : World) : Calls Tryz.prog 137 #[outAgg a, outAgg b] w fun q w' => q = .returned (.bool (outLess a b)) ∧ Below w.heap.size w w' := by
  have HE := hid (show decide (cmpV a.key b.key < 0) = outLess a b from cmpV_lt _ _)
  unfold outAgg
  go_enter Tryz.func137, Tryz.ntmps137
  go_wp2_with fail
  have B : Below w.heap.size w ((((w.alloc (.cells #[.int .i64 a.time, .int .i64 a.proc, .int .i64 a.count, .int .i64 a.n, .int .i64 a.value] 128)).alloc (.cells #[.int .i64 b.time, .int .i64 b.proc, .int .i64 b.count, .int .i64 b.n, .int .i64 b.value] 128)).alloc (.cells #[.int .i64 a.time, .int .i64 a.proc, .int .i64 a.count, .int .i64 a.n, .int .i64 a.value] 222)).alloc (.cells #[.int .i64 b.time, .int .i64 b.proc, .int .i64 b.count, .int .i64 b.n, .int .i64 b.value] 222)) := balloc (balloc (balloc (balloc (Below.refl _ _) _) _) _) _
  have h1 : Rd (tInt .i64) ((((w.alloc (.cells #[.int .i64 a.time, .int .i64 a.proc, .int .i64 a.count, .int .i64 a.n, .int .i64 a.value] 128)).alloc (.cells #[.int .i64 b.time, .int .i64 b.proc, .int .i64 b.count, .int .i64 b.n, .int .i64 b.value] 128)).alloc (.cells #[.int .i64 a.time, .int .i64 a.proc, .int .i64 a.count, .int .i64 a.n, .int .i64 a.value] 222)).alloc (.cells #[.int .i64 b.time, .int .i64 b.proc, .int .i64 b.count, .int .i64 b.n, .int .i64 b.value] 222)) (fun _ => True) (.slice (some ⟨w.heap.size + 1 + 1, 0, none⟩) 5 5) a.key := (rd_block (W := (((w.alloc (.cells #[.int .i64 a.time, .int .i64 a.proc, .int .i64 a.count, .int .i64 a.n, .int .i64 a.value] 128)).alloc (.cells #[.int .i64 b.time, .int .i64 b.proc, .int .i64 b.count, .int .i64 b.n, .int .i64 b.value] 128)).alloc (.cells #[.int .i64 a.time, .int .i64 a.proc, .int .i64 a.count, .int .i64 a.n, .int .i64 a.value] 222)).alloc (.cells #[.int .i64 b.time, .int .i64 b.proc, .int .i64 b.count, .int .i64 b.n, .int .i64 b.value] 222)) a.key (by simp [OutD.key]) ((heap_old (by simp)).trans (heap_at (by simp))) rfl).mono (fun _ _ => trivial)
  have h2 : Rd (tInt .i64) ((((w.alloc (.cells #[.int .i64 a.time, .int .i64 a.proc, .int .i64 a.count, .int .i64 a.n, .int .i64 a.value] 128)).alloc (.cells #[.int .i64 b.time, .int .i64 b.proc, .int .i64 b.count, .int .i64 b.n, .int .i64 b.value] 128)).alloc (.cells #[.int .i64 a.time, .int .i64 a.proc, .int .i64 a.count, .int .i64 a.n, .int .i64 a.value] 222)).alloc (.cells #[.int .i64 b.time, .int .i64 b.proc, .int .i64 b.count, .int .i64 b.n, .int .i64 b.value] 222)) (fun _ => True) (.slice (some ⟨w.heap.size + 1 + 1 + 1, 0, none⟩) 5 5) b.key := (rd_block b.key (by simp [OutD.key]) (heap_at (by simp)) rfl).mono (fun _ _ => trivial)
  generalize hW : (((w.alloc (.cells #[.int .i64 a.time, .int .i64 a.proc, .int .i64 a.count, .int .i64 a.n, .int .i64 a.value] 128)).alloc (.cells #[.int .i64 b.time, .int .i64 b.proc, .int .i64 b.count, .int .i64 b.n, .int .i64 b.value] 128)).alloc (.cells #[.int .i64 a.time, .int .i64 a.proc, .int .i64 a.count, .int .i64 a.n, .int .i64 a.value] 222)).alloc (.cells #[.int .i64 b.time, .int .i64 b.proc, .int .i64 b.count, .int .i64 b.n, .int .i64 b.value] 222) = W at *
  clear hW
  refine region_plan (fun w' => w' = W.drew) [(0, true), (1, true), (2, false), (3, true), (4, true)] (by kernel_rfl) (by kernel_rfl) (fun _ _ d _ _ h => by cases d <;> exact h) ?_
  have HS := (rfl : W.drew = W.drew)
  iterate 2 (first | (refine seq_take (v := ?_) (by rfl) HS (by rfl) ?_ ?_; rotate_left; (focus (intro wS hS; obtain ⟨kc, kf⟩ := (And.intro True.intro True.intro); go_simp; (try (with_reducible rfl)); done)); (intro K hK; go_simp; refine hK _ ?_; clear hK K)) | (refine seq_skip (by rfl) HS (by rfl) ?_; (intro K hK; go_simp; refine hK _ ?_; clear hK K)))
  refine seq_do (by rfl) (by rfl) (fun K hK => ?_)
  go_simp
  refine (sCompare_c _ _ a.key b.key (fun _ => True) W.drew (Rd.move (w := W) (fun _ _ => rfl) h1) (Rd.move (w := W) (fun _ _ => rfl) h2) rfl).mono ?_
  rintro q w' ⟨rfl, rfl⟩
  refine hK _ _ (Or.inr HS) ?_; clear hK K
  iterate 2 (first | (refine seq_take (v := ?_) (by rfl) HS (by rfl) ?_ ?_; rotate_left; (focus (intro wS hS; obtain ⟨kc, kf⟩ := (And.intro True.intro True.intro); go_simp; (try (with_reducible rfl)); done)); (intro K hK; go_simp; refine hK _ ?_; clear hK K)) | (refine seq_skip (by rfl) HS (by rfl) ?_; (intro K hK; go_simp; refine hK _ ?_; clear hK K)))
  simp only [wpSeq]
  go_wp2_with fail
  go_ret
  exact ⟨by rw [HE.out]; rfl, bdrew0 B⟩
end Go.Proofs.YtbcemldiahghcaaGreat

namespace Go.Proofs.YtbcemldiahghcaaGreat
set_option linter.unusedVariables false
set_option linter.unusedSimpArgs false
set_option maxRecDepth 100000
open Go.RowKit
theorem fill_set {α : Type} (xs : List α) (k : Nat) (h : k < xs.length) : ((xs.take k).map some ++ List.replicate (xs.length - k) none).set k (some xs[k]) = (xs.take (k + 1)).map some ++ List.replicate (xs.length - (k + 1)) (none : Option α) := by
  have h1 : xs.length - k = (xs.length - (k + 1)) + 1 := by omega
  have h2 : ((xs.take k).map some).length = k := by simp; omega
  rw [h1, List.replicate_succ, List.set_append_right _ _ (by omega), h2, Nat.sub_self, List.set_cons_zero]
  have h3 : xs.take (k + 1) = xs.take k ++ [xs[k]] := List.take_succ_eq_append_getElem h
  rw [h3, List.map_append, List.append_assoc]
  rfl
theorem fill_len {α : Type} (xs : List α) (k : Nat) (h : k ≤ xs.length) : ((xs.take k).map some ++ List.replicate (xs.length - k) (none : Option α)).length = xs.length := by simp; omega
set_option maxHeartbeats 1000000 in
theorem toOp_c (x : OpD) (w : World) : Calls Tryz.prog 157 #[.agg #[.int .i64 x.d, .int .i64 x.a, .int .i64 x.b, .int .i64 x.c, .int .i64 x.e]] w fun q w' => q = .returned (.agg #[.int .i64 x.d, .int .i64 x.a, .int .i64 x.b, .int .i64 x.c, .int .i64 x.e]) ∧ Below w.heap.size w w' := by
  go_enter Tryz.func157, Tryz.ntmps157
  go_wp2_with fail
  refine bodyPost_ret (v := .agg #[.int .i64 x.d, .int .i64 x.a, .int .i64 x.b, .int .i64 x.c, .int .i64 x.e]) (by simp only [results, Tryz.results157]; go_simp) rfl ⟨rfl, ?_⟩
  refine Ch.below0 ?_
  repeat (first | (with_reducible exact Ch.refl _ _) | (with_reducible refine Ch.alloc ?_ _) | (refine Ch.setCell ?_ (Or.inr (by simp only [World.size_alloc]; omega)) _))
set_option maxHeartbeats 1000000 in
theorem toState_c (s : StD) (w : World) : Calls Tryz.prog 57 #[.agg #[.int .i64 s.x, .int .i64 s.y, .int .i64 s.c]] w fun q w' => q = .returned (.agg #[.int .i64 s.x, .int .i64 s.y, .int .i64 s.c]) ∧ Below w.heap.size w w' := by
  go_enter Tryz.func57, Tryz.ntmps57
  go_wp2_with fail
  refine bodyPost_ret (v := .agg #[.int .i64 s.x, .int .i64 s.y, .int .i64 s.c]) (by simp only [results, Tryz.results57]; go_simp) rfl ⟨rfl, ?_⟩
  refine Ch.below0 ?_
  repeat (first | (with_reducible exact Ch.refl _ _) | (with_reducible refine Ch.alloc ?_ _) | (refine Ch.setCell ?_ (Or.inr (by simp only [World.size_alloc]; omega)) _))
set_option maxHeartbeats 1000000 in
theorem toEvent_c (x : EvD) (w : World) : Calls Tryz.prog 59 #[.agg #[.int .i64 x.time, .int .i64 x.to, .int .i64 x.from_, .int .i64 x.count, .int .i64 x.n, .int .i64 x.kind, .int .i64 x.arg]] w fun q w' => q = .returned (.agg #[.int .i64 x.time, .int .i64 x.to, .int .i64 x.from_, .int .i64 x.count, .int .i64 x.n, .int .i64 x.kind, .int .i64 x.arg]) ∧ Below w.heap.size w w' := by
  go_enter Tryz.func59, Tryz.ntmps59
  go_wp2_with fail
  refine bodyPost_ret (v := .agg #[.int .i64 x.time, .int .i64 x.to, .int .i64 x.from_, .int .i64 x.count, .int .i64 x.n, .int .i64 x.kind, .int .i64 x.arg]) (by simp only [results, Tryz.results59]; go_simp) rfl ⟨rfl, ?_⟩
  refine Ch.below0 ?_
  repeat (first | (with_reducible exact Ch.refl _ _) | (with_reducible refine Ch.alloc ?_ _) | (refine Ch.setCell ?_ (Or.inr (by simp only [World.size_alloc]; omega)) _))
set_option maxHeartbeats 1000000 in
theorem toOpS_c (v : Value) (xs : List OpD) (F : Nat → Prop) (w : World) (h : Rd tOp w F v xs) (hn : xs.length ≤ 1048576) :
    Calls Tryz.prog 145 #[v] w fun q w' => ∃ v', q = .returned v' ∧ Ow tOp 150 w' (fun k => w.heap.size ≤ k) v' xs ∧ Below w.heap.size w w' := by
  obtain ⟨A, c, rfl, -, -, -⟩ := id h
  go_enter Tryz.func145, Tryz.ntmps145
  go_wp2_with (refine ow_full (d := tOp) (e := 150) rfl _ _ _ rfl Tryz.underlying118 (.agg #[.int .i64 0, .int .i64 0, .int .i64 0, .int .i64 0, .int .i64 0]) 40 (by kernel_rfl) (by decide) rfl (by decide) _ _ xs.length rfl rfl (by omega) (by omega) ?_; intro w1 hO1 hb1)
  obtain ⟨g, hg⟩ : ∃ g, g = w.heap.size := ⟨_, rfl⟩
  rw [← hg] at hO1
  simp only [← hg]
  have HG := hid hg
  clear hg
  go_loopw [4] (fun i wr => ∃ k : Nat, i = .int .i64 k ∧ k ≤ xs.length ∧ Ow (opt tOp) 150 wr (fun k => g ≤ k) (.slice (some ⟨g, 0, none⟩) xs.length xs.length) ((xs.take k).map some ++ List.replicate (xs.length - k) none) ∧ Below g w wr) (fun i _ => xs.length - (intOf i).toNat)
  case atStart => exact ⟨0, rfl, Nat.zero_le _, by simpa using hO1, by rw [HG.out]; exact hb1⟩
  case round =>
    clear hO1 hb1
    obtain ⟨k, rfl, hk, hO, hb⟩ := hrel
    have hb' : Below w.heap.size w wr := by rw [← HG.out]; exact hb
    have hgl := hO.block_lt rfl
    by_cases hlt : k < xs.length
    · have hr := h.below hb'
      obtain ⟨b0, o0, rfl, hb0, z0, z1, z2, z3, z4⟩ := op_at hr k hlt
      have p0 : (k : Int) < (xs.length : Int) := by omega
      have p1 : (0 : Int) ≤ (k : Int) := by omega
      clear hb'
      go_wp2_with fail
      refine (toOp_c xs[k] wr).mono ?_
      rintro q w2 ⟨rfl, hb2⟩
      skip
      have hB2 := hb.trans (hb2.mono (Nat.le_of_lt hgl))
      have hO2 := hO.bound.below hb2
      have hkl : k < ((xs.take k).map some ++ List.replicate (xs.length - k) (none : Option OpD)).length := by rw [fill_len xs k hk]; exact hlt
      clear hO
      apply_assumption
      go_wp2_with (refine ow_store_any (d := opt tOp) rfl _ _ _ rfl hO2 (g := g) rfl k hkl (some xs[k]) (OpD.cells xs[k]) (fun _ => False) (fun q => g ≤ q) (by first | rfl | exact hnew) (by first | exact fun _ hf => hf.elim | exact fun q hq hq' => by have h3 : wr.heap.size ≤ q := hq; omega) (fun _ hq => hq.1) (by first | exact fun _ hf => hf.elim | exact fun q hq => by have h3 : wr.heap.size ≤ q := hq; omega) (by first | rfl | simp [opt, tOp, tSt, tEv, tOut, oRule, oApp, flat]) (by first | rfl | simp [OpD.cells, StD.cells, EvD.cells, OutD.cells]) (by kernel_rfl) ?_; intro w3 hO3 hC3)
      rw [fill_set xs k hlt] at hO3
      have hB3 := hB2.trans (hC3.below (B := g) (fun q hq => by omega) (by have := hb2.size; omega))
      go_roundw
      case rel => exact ⟨k + 1, by go_num, by omega, hO3, hB3⟩
      case measure => simp [intOf]; omega
    · have hkl : k = xs.length := by omega
      subst hkl
      have hO4 : Ow tOp 150 wr (fun k => w.heap.size ≤ k) (.slice (some ⟨g, 0, none⟩) xs.length xs.length) xs := by
        have := hO
        rw [List.take_length, Nat.sub_self, List.replicate_zero, List.append_nil] at this
        rw [← HG.out]
        exact this.filled
      go_wp2_with fail
      go_ret
      exact ⟨_, rfl, hO4, hb'⟩
set_option maxHeartbeats 1000000 in
theorem toRule_c (x : RuleD) (v : Value) (F : Nat → Prop) (w : World) (h : Rd tOp w F v x.ops) (hn : x.ops.length ≤ 1048576) :
    Calls Tryz.prog 102 #[.agg #[.int .i64 x.kind, v]] w fun q w' => ∃ v', q = .returned (.agg #[.int .i64 x.kind, v']) ∧ Ow tOp 150 w' (fun k => w.heap.size ≤ k) v' x.ops ∧ Below w.heap.size w w' := by
  obtain ⟨A, c, rfl, -⟩ := h.shape
  go_enter Tryz.func102, Tryz.ntmps102
  go_wp2_with fail
  have HW : Below w.heap.size w (((w.alloc (.cells #[.int .i64 x.kind, .slice A x.ops.length c] 134)).alloc (.cells #[.int .i64 0, .slice none 0 0] 120)).alloc (.cells #[.int .i64 x.kind, .slice none 0 0] 120)) := balloc (balloc (balloc (Below.refl _ _) _) _) _
  have Z1 : (((w.alloc (.cells #[.int .i64 x.kind, .slice A x.ops.length c] 134)).alloc (.cells #[.int .i64 0, .slice none 0 0] 120)).alloc (.cells #[.int .i64 x.kind, .slice none 0 0] 120)).heap[w.heap.size + 1]? = some (.cells #[.int .i64 0, .slice none 0 0] 120 (0, 0)) := (heap_old (by simp)).trans (heap_at (by simp))
  have Z2 : (((w.alloc (.cells #[.int .i64 x.kind, .slice A x.ops.length c] 134)).alloc (.cells #[.int .i64 0, .slice none 0 0] 120)).alloc (.cells #[.int .i64 x.kind, .slice none 0 0] 120)).heap[w.heap.size + 1 + 1]? = some (.cells #[.int .i64 x.kind, .slice none 0 0] 120 (0, 0)) := heap_at (by simp)
  generalize ((w.alloc (.cells #[.int .i64 x.kind, .slice A x.ops.length c] 134)).alloc (.cells #[.int .i64 0, .slice none 0 0] 120)).alloc (.cells #[.int .i64 x.kind, .slice none 0 0] 120) = W at *
  refine (toOpS_c _ x.ops F W (h.below HW) hn).mono ?_
  rintro q w1 ⟨v', rfl, hO, hb1⟩
  obtain ⟨B, b, rfl, -⟩ := hO.shape
  have Y1 := below_heap hb1 (blk_lt Z1) Z1
  have Y2 := below_heap hb1 (blk_lt Z2) Z2
  have hz := blk_lt Z2
  have hb1' := bthen HW hb1 HW.size
  have a0 : w1.cell? ⟨w.heap.size + 1, 0, none⟩ = some (.int .i64 0) := blk_cell Y1 0
  have f0 := blk_frozen Y1 0
  have a1 : w1.cell? ⟨w.heap.size + 1, 1, none⟩ = some (.slice none 0 0) := blk_cell Y1 1
  have f1 := blk_frozen Y1 1
  have b0 : w1.cell? ⟨w.heap.size + 1 + 1, 0, none⟩ = some (.int .i64 x.kind) := blk_cell Y2 0
  have g0 := blk_frozen Y2 0
  have b1 : w1.cell? ⟨w.heap.size + 1 + 1, 1, none⟩ = some (.slice none 0 0) := blk_cell Y2 1
  have g1 := blk_frozen Y2 1
  apply_assumption
  go_wp2_with fail
  have HP : Ch (fun k => k = w.heap.size + 1 + 1) w1 (w1.setCell ⟨w.heap.size + 1 + 1, 1, none⟩ (.slice B x.ops.length b)) := Ch.setCell (p := ⟨w.heap.size + 1 + 1, 1, none⟩) (Ch.refl (fun k => k = w.heap.size + 1 + 1) _) (Or.inl rfl) _
  have BW := (blk_set (blk_set (HP.heap Y1 (fun e1 => by omega)) 0 (.int .i64 x.kind)) 1 (.slice B x.ops.length b))
  simp only [List.setIfInBounds_toArray, List.set_cons_zero, List.set_cons_succ] at BW
  have HQ : Ch (fun k => k = w.heap.size + 1 + 1 ∨ k = w.heap.size + 1) w1 (((w1.setCell ⟨w.heap.size + 1 + 1, 1, none⟩ (.slice B x.ops.length b)).setCell ⟨w.heap.size + 1, 0, none⟩ (.int .i64 x.kind)).setCell ⟨w.heap.size + 1, 1, none⟩ (.slice B x.ops.length b)) := by
    repeat (first | (with_reducible exact Ch.refl _ _) | (refine Ch.setCell ?_ (Or.inl (Or.inr rfl)) _) | (refine Ch.setCell ?_ (Or.inl (Or.inl rfl)) _))
  have hO2 := (hO.ch HQ (fun k hk e1 => by have h3 : W.heap.size ≤ k := hk; omega)).mono (F' := fun k => w.heap.size ≤ k) (fun k hk => by have h3 : W.heap.size ≤ k := hk; show w.heap.size ≤ k; omega)
  have hb2 := hb1'.trans (HQ.below (B := w.heap.size) (fun k hk => by omega) hb1'.size)
  generalize (((w1.setCell ⟨w.heap.size + 1 + 1, 1, none⟩ (.slice B x.ops.length b)).setCell ⟨w.heap.size + 1, 0, none⟩ (.int .i64 x.kind)).setCell ⟨w.heap.size + 1, 1, none⟩ (.slice B x.ops.length b)) = W9 at *
  have s0 : W9.cell? ⟨w.heap.size + 1, 0, none⟩ = some (.int .i64 x.kind) := blk_cell BW 0
  have s1 : W9.cell? ⟨w.heap.size + 1, 1, none⟩ = some (.slice B x.ops.length b) := blk_cell BW 1
  refine bodyPost_ret (v := .agg #[.int .i64 x.kind, .slice B x.ops.length b]) (by simp only [results, Tryz.results102]; go_simp) rfl ⟨_, rfl, hO2, hb2⟩
set_option maxHeartbeats 1000000 in
theorem toRuleS_c (v : Value) (xs : List RuleD) (F : Nat → Prop) (w : World) (h : Rd tRule w F v xs) (hn : xs.length ≤ 1048576) (hops : ∀ r ∈ xs, r.ops.length ≤ 1048576) :
    Calls Tryz.prog 56 #[v] w fun q w' => ∃ v', q = .returned v' ∧ Ow oRule 120 w' (fun k => w.heap.size ≤ k) v' xs ∧ Below w.heap.size w w' := by
  obtain ⟨A, c, rfl, -, -, -⟩ := id h
  go_enter Tryz.func56, Tryz.ntmps56
  go_wp2_with (refine ow_full (d := oRule) (e := 120) rfl _ _ _ rfl Tryz.underlying55 (.agg #[.int .i64 0, .slice none 0 0]) 32 (by kernel_rfl) (by decide) rfl (by decide) _ _ xs.length rfl rfl (by omega) (by omega) ?_; intro w1 hO1 hb1)
  obtain ⟨g, hg⟩ : ∃ g, g = w.heap.size := ⟨_, rfl⟩
  rw [← hg] at hO1
  simp only [← hg]
  have HG := hid hg
  clear hg
  go_loopw [4] (fun i wr => ∃ k : Nat, i = .int .i64 k ∧ k ≤ xs.length ∧ Ow (opt oRule) 120 wr (fun k => g ≤ k) (.slice (some ⟨g, 0, none⟩) xs.length xs.length) ((xs.take k).map some ++ List.replicate (xs.length - k) none) ∧ Below g w wr) (fun i _ => xs.length - (intOf i).toNat)
  case atStart => exact ⟨0, rfl, Nat.zero_le _, by simpa using hO1, by rw [HG.out]; exact hb1⟩
  case round =>
    clear hO1 hb1
    obtain ⟨k, rfl, hk, hO, hb⟩ := hrel
    have hb' : Below w.heap.size w wr := by rw [← HG.out]; exact hb
    have hgl := hO.block_lt rfl
    by_cases hlt : k < xs.length
    · have hr := h.below hb'
      obtain ⟨b0, o0, A1, c1, rfl, hb0, z0, z1, hrO⟩ := rule_at hr k hlt
      have p0 : (k : Int) < (xs.length : Int) := by omega
      have p1 : (0 : Int) ≤ (k : Int) := by omega
      clear hb'
      go_wp2_with fail
      refine (toRule_c xs[k] _ _ wr hrO (hops _ (List.getElem_mem _))).mono ?_
      rintro q w2 ⟨v', rfl, hOe, hb2⟩
      obtain ⟨B, b, rfl, -⟩ := hOe.shape
      have hnew : (opt oRule).rel w2 (fun q => wr.heap.size ≤ q) (some xs[k]) [.int .i64 xs[k].kind, .slice B xs[k].ops.length b] := ⟨_, rfl, hOe⟩
      have hB2 := hb.trans (hb2.mono (Nat.le_of_lt hgl))
      have hO2 := hO.bound.below hb2
      have hkl : k < ((xs.take k).map some ++ List.replicate (xs.length - k) (none : Option RuleD)).length := by rw [fill_len xs k hk]; exact hlt
      clear hO
      apply_assumption
      go_wp2_with (refine ow_store_any (d := opt oRule) rfl _ _ _ rfl hO2 (g := g) rfl k hkl (some xs[k]) [.int .i64 xs[k].kind, .slice B xs[k].ops.length b] (fun q => wr.heap.size ≤ q) (fun q => g ≤ q) (by first | rfl | exact hnew) (by first | exact fun _ hf => hf.elim | exact fun q hq hq' => by have h3 : wr.heap.size ≤ q := hq; omega) (fun _ hq => hq.1) (by first | exact fun _ hf => hf.elim | exact fun q hq => by have h3 : wr.heap.size ≤ q := hq; omega) (by first | rfl | simp [opt, tOp, tSt, tEv, tOut, oRule, oApp, flat]) (by first | rfl | simp [OpD.cells, StD.cells, EvD.cells, OutD.cells]) (by kernel_rfl) ?_; intro w3 hO3 hC3)
      rw [fill_set xs k hlt] at hO3
      have hB3 := hB2.trans (hC3.below (B := g) (fun q hq => by omega) (by have := hb2.size; omega))
      go_roundw
      case rel => exact ⟨k + 1, by go_num, by omega, hO3, hB3⟩
      case measure => simp [intOf]; omega
    · have hkl : k = xs.length := by omega
      subst hkl
      have hO4 : Ow oRule 120 wr (fun k => w.heap.size ≤ k) (.slice (some ⟨g, 0, none⟩) xs.length xs.length) xs := by
        have := hO
        rw [List.take_length, Nat.sub_self, List.replicate_zero, List.append_nil] at this
        rw [← HG.out]
        exact this.filled
      go_wp2_with fail
      go_ret
      exact ⟨_, rfl, hO4, hb'⟩
set_option maxHeartbeats 1000000 in
theorem toApp_c (x : AppD) (v : Value) (F : Nat → Prop) (w : World) (h : Rd tRule w F v x.rules) (hn : x.rules.length ≤ 1048576) (hops : ∀ r ∈ x.rules, r.ops.length ≤ 1048576) :
    Calls Tryz.prog 19 #[.agg #[v]] w fun q w' => ∃ v', q = .returned (.agg #[v']) ∧ Ow oRule 120 w' (fun k => w.heap.size ≤ k) v' x.rules ∧ Below w.heap.size w w' := by
  obtain ⟨A, c, rfl, -⟩ := h.shape
  go_enter Tryz.func19, Tryz.ntmps19
  go_wp2_with fail
  have HW : Below w.heap.size w (((w.alloc (.cells #[.slice A x.rules.length c] 39)).alloc (.cells #[.slice none 0 0] 57)).alloc (.cells #[.slice none 0 0] 57)) := balloc (balloc (balloc (Below.refl _ _) _) _) _
  have Z1 : (((w.alloc (.cells #[.slice A x.rules.length c] 39)).alloc (.cells #[.slice none 0 0] 57)).alloc (.cells #[.slice none 0 0] 57)).heap[w.heap.size + 1]? = some (.cells #[.slice none 0 0] 57 (0, 0)) := (heap_old (by simp)).trans (heap_at (by simp))
  have Z2 : (((w.alloc (.cells #[.slice A x.rules.length c] 39)).alloc (.cells #[.slice none 0 0] 57)).alloc (.cells #[.slice none 0 0] 57)).heap[w.heap.size + 1 + 1]? = some (.cells #[.slice none 0 0] 57 (0, 0)) := heap_at (by simp)
  generalize ((w.alloc (.cells #[.slice A x.rules.length c] 39)).alloc (.cells #[.slice none 0 0] 57)).alloc (.cells #[.slice none 0 0] 57) = W at *
  refine (toRuleS_c _ x.rules F W (h.below HW) hn hops).mono ?_
  rintro q w1 ⟨v', rfl, hO, hb1⟩
  obtain ⟨B, b, rfl, -⟩ := hO.shape
  have Y1 := below_heap hb1 (blk_lt Z1) Z1
  have Y2 := below_heap hb1 (blk_lt Z2) Z2
  have hz := blk_lt Z2
  have hb1' := bthen HW hb1 HW.size
  have a0 : w1.cell? ⟨w.heap.size + 1, 0, none⟩ = some (.slice none 0 0) := blk_cell Y1 0
  have f0 := blk_frozen Y1 0
  have b0 : w1.cell? ⟨w.heap.size + 1 + 1, 0, none⟩ = some (.slice none 0 0) := blk_cell Y2 0
  have g0 := blk_frozen Y2 0
  apply_assumption
  go_wp2_with fail
  have HP : Ch (fun k => k = w.heap.size + 1 + 1) w1 (w1.setCell ⟨w.heap.size + 1 + 1, 0, none⟩ (.slice B x.rules.length b)) := Ch.setCell (p := ⟨w.heap.size + 1 + 1, 0, none⟩) (Ch.refl (fun k => k = w.heap.size + 1 + 1) _) (Or.inl rfl) _
  have BW := (blk_set (HP.heap Y1 (fun e1 => by omega)) 0 (.slice B x.rules.length b))
  simp only [List.setIfInBounds_toArray, List.set_cons_zero, List.set_cons_succ] at BW
  have HQ : Ch (fun k => k = w.heap.size + 1 + 1 ∨ k = w.heap.size + 1) w1 ((w1.setCell ⟨w.heap.size + 1 + 1, 0, none⟩ (.slice B x.rules.length b)).setCell ⟨w.heap.size + 1, 0, none⟩ (.slice B x.rules.length b)) := by
    repeat (first | (with_reducible exact Ch.refl _ _) | (refine Ch.setCell ?_ (Or.inl (Or.inr rfl)) _) | (refine Ch.setCell ?_ (Or.inl (Or.inl rfl)) _))
  have hO2 := (hO.ch HQ (fun k hk e1 => by have h3 : W.heap.size ≤ k := hk; omega)).mono (F' := fun k => w.heap.size ≤ k) (fun k hk => by have h3 : W.heap.size ≤ k := hk; show w.heap.size ≤ k; omega)
  have hb2 := hb1'.trans (HQ.below (B := w.heap.size) (fun k hk => by omega) hb1'.size)
  generalize ((w1.setCell ⟨w.heap.size + 1 + 1, 0, none⟩ (.slice B x.rules.length b)).setCell ⟨w.heap.size + 1, 0, none⟩ (.slice B x.rules.length b)) = W9 at *
  have s0 : W9.cell? ⟨w.heap.size + 1, 0, none⟩ = some (.slice B x.rules.length b) := blk_cell BW 0
  refine bodyPost_ret (v := .agg #[.slice B x.rules.length b]) (by simp only [results, Tryz.results19]; go_simp) rfl ⟨_, rfl, hO2, hb2⟩
end Go.Proofs.YtbcemldiahghcaaGreat
