/- Texts joined: Cmp2, Imp1, Par2. -/
import Derived.Test.YtmnccekljombmaaJ11
import Derived.Test.YtmnccekljombmaaJ09
import Derived.Test.YtmnccekljombmaaJ06
import Derived.Test.YtmnccekljombmaaJ10
namespace Go.Proofs.Ytmnccekljombmaa
set_option linter.unusedVariables false
set_option linter.unusedSimpArgs false
set_option maxRecDepth 100000
open Go.RowKit
theorem rd_block {W : World} {K : Nat} {t : TypeId} {fr : Nat × Nat} {ys : Array Value} (xs : List Int) (hx : xs.length ≤ 9223372036854775807) (h : W.heap[K]? = some (.cells ys t fr)) (hy : ys.toList = xs.map (.int .i64)) : Rd (tInt .i64) W (fun k => k = K) (.slice (some ⟨K, 0, none⟩) xs.length xs.length) xs := by
  refine ⟨_, xs.length, rfl, Nat.le_refl _, hx, fun _ => ⟨K, 0, rfl, rfl, blk_lt h, fun j x hj => ⟨_, rfl, fun i u hi => ?_⟩⟩⟩
  have hz : (tInt .i64).sz = 1 := rfl
  cases i with
  | zero =>
    obtain rfl : Value.int .i64 x = u := by simpa using hi
    rw [blk_cell h, hz]
    have : ys.toList[j]? = some (Value.int .i64 x) := by rw [hy, List.getElem?_map, hj]; rfl
    simpa using this
  | succ i => simp at hi
theorem bdrew0 {B : Nat} {w W : World} (h : Below B w W) : Below B w W.drew := ⟨h.os, h.tape, h.output, h.size, h.block⟩
theorem keyOf_c (a : EvD) (w : World) : Calls Try.prog 75 #[evAgg a] w fun q w' => q = .returned (evAgg a) ∧ Below w.heap.size w w' := by
  unfold evAgg
  go_enter Try.func75, Try.ntmps75
  go_wp2_with fail
  have B : Below w.heap.size w _ := balloc (balloc (Below.refl _ _) (.cells #[.int .i64 a.time, .int .i64 a.to, .int .i64 a.from_, .int .i64 a.count, .int .i64 a.n, .int .i64 a.kind, .int .i64 a.arg] 29)) (.cells #[.int .i64 a.time, .int .i64 a.to, .int .i64 a.from_, .int .i64 a.count, .int .i64 a.n, .int .i64 a.kind, .int .i64 a.arg] 115)
  exact bodyPost_ret (v := .agg #[.int .i64 a.time, .int .i64 a.to, .int .i64 a.from_, .int .i64 a.count, .int .i64 a.n, .int .i64 a.kind, .int .i64 a.arg]) (by simp [results, Try.results75, go_sem]) rfl ⟨rfl, B⟩
set_option maxHeartbeats 1000000 in
theorem keyLess_c (a b : EvD) (w : World) : Calls Try.prog 74 #[evAgg a, evAgg b] w fun q w' => q = .returned (.bool (evLess a b)) ∧ Below w.heap.size w w' := by
  have HE := hid (show decide (cmpV a.key b.key < 0) = evLess a b from cmpV_lt _ _)
  have h1 : Rd (tInt .i64) ((w.alloc (.cells #[.int .i64 a.time, .int .i64 a.to, .int .i64 a.from_, .int .i64 a.count, .int .i64 a.n, .int .i64 a.kind, .int .i64 a.arg] 115)).alloc (.cells #[.int .i64 b.time, .int .i64 b.to, .int .i64 b.from_, .int .i64 b.count, .int .i64 b.n, .int .i64 b.kind, .int .i64 b.arg] 115)) (fun _ => True) (.slice (some ⟨w.heap.size, 0, none⟩) 7 7) a.key := (rd_block (W := (w.alloc (.cells #[.int .i64 a.time, .int .i64 a.to, .int .i64 a.from_, .int .i64 a.count, .int .i64 a.n, .int .i64 a.kind, .int .i64 a.arg] 115)).alloc (.cells #[.int .i64 b.time, .int .i64 b.to, .int .i64 b.from_, .int .i64 b.count, .int .i64 b.n, .int .i64 b.kind, .int .i64 b.arg] 115)) a.key (by simp [EvD.key]) ((heap_old (by simp)).trans (heap_at rfl)) rfl).mono (fun _ _ => trivial)
  have h2 : Rd (tInt .i64) ((w.alloc (.cells #[.int .i64 a.time, .int .i64 a.to, .int .i64 a.from_, .int .i64 a.count, .int .i64 a.n, .int .i64 a.kind, .int .i64 a.arg] 115)).alloc (.cells #[.int .i64 b.time, .int .i64 b.to, .int .i64 b.from_, .int .i64 b.count, .int .i64 b.n, .int .i64 b.kind, .int .i64 b.arg] 115)) (fun _ => True) (.slice (some ⟨w.heap.size + 1, 0, none⟩) 7 7) b.key := (rd_block b.key (by simp [EvD.key]) (heap_at (by simp)) rfl).mono (fun _ _ => trivial)
  have B : Below w.heap.size w ((w.alloc (.cells #[.int .i64 a.time, .int .i64 a.to, .int .i64 a.from_, .int .i64 a.count, .int .i64 a.n, .int .i64 a.kind, .int .i64 a.arg] 115)).alloc (.cells #[.int .i64 b.time, .int .i64 b.to, .int .i64 b.from_, .int .i64 b.count, .int .i64 b.n, .int .i64 b.kind, .int .i64 b.arg] 115)) := balloc (balloc (Below.refl _ _) _) _
  unfold evAgg
  go_enter Try.func74, Try.ntmps74
  go_wp2_with fail
  generalize hW : (w.alloc (.cells #[.int .i64 a.time, .int .i64 a.to, .int .i64 a.from_, .int .i64 a.count, .int .i64 a.n, .int .i64 a.kind, .int .i64 a.arg] 115)).alloc (.cells #[.int .i64 b.time, .int .i64 b.to, .int .i64 b.from_, .int .i64 b.count, .int .i64 b.n, .int .i64 b.kind, .int .i64 b.arg] 115) = W at *
  clear hW
  refine region_plan (fun w' => w' = W.drew) [(0, true), (1, true), (2, false), (3, true), (4, true)] (by kernel_rfl) (by kernel_rfl) (fun _ _ d _ _ h => by cases d <;> exact h) ?_
  have HS := (rfl : W.drew = W.drew)
  iterate 2 (first | (refine seq_take (v := ?_) (by rfl) HS (by rfl) ?_ ?_; rotate_left; (focus (intro wS hS; obtain ⟨kc, kf⟩ := (And.intro True.intro True.intro); go_simp; (try (with_reducible rfl)); done)); (intro K hK; go_simp; refine hK _ ?_; clear hK K)) | (refine seq_skip (by rfl) HS (by rfl) ?_; (intro K hK; go_simp; refine hK _ ?_; clear hK K)))
  refine seq_do (by rfl) (by rfl) (fun K hK => ?_)
  go_simp
  refine (sCompare_c _ _ a.key b.key (fun _ => True) W.drew (Rd.move (w := W) (fun _ _ => rfl) h1) (Rd.move (w := W) (fun _ _ => rfl) h2) rfl).mono ?_
  rintro q w' ⟨rfl, rfl⟩
  refine hK _ _ (Or.inr HS) ?_; clear hK K
  iterate 2 (first | (refine seq_take (v := ?_) (by rfl) HS (by rfl) ?_ ?_; rotate_left; (focus (intro wS hS; obtain ⟨kc, kf⟩ := (And.intro True.intro True.intro); go_simp; (try (with_reducible rfl)); done)); (intro K hK; go_simp; refine hK _ ?_; clear hK K)) | (refine seq_skip (by rfl) HS (by rfl) ?_; (intro K hK; go_simp; refine hK _ ?_; clear hK K)))
  simp only [wpSeq]
  go_wp2_with fail
  go_ret
  exact ⟨by rw [HE.out]; rfl, bdrew0 B⟩
set_option maxHeartbeats 1000000 in
theorem EventLessI_c (a b : EvD) (w : World) : Calls Try.prog 42 #[evAgg a, evAgg b] w fun q w' => q = .returned (.bool (evLess a b)) ∧ Below w.heap.size w w' := by
  have B : Below w.heap.size w ((w.alloc (.cells #[.int .i64 a.time, .int .i64 a.to, .int .i64 a.from_, .int .i64 a.count, .int .i64 a.n, .int .i64 a.kind, .int .i64 a.arg] 29)).alloc (.cells #[.int .i64 b.time, .int .i64 b.to, .int .i64 b.from_, .int .i64 b.count, .int .i64 b.n, .int .i64 b.kind, .int .i64 b.arg] 29)) := balloc (balloc (Below.refl _ _) _) _
  have Z1 : ((w.alloc (.cells #[.int .i64 a.time, .int .i64 a.to, .int .i64 a.from_, .int .i64 a.count, .int .i64 a.n, .int .i64 a.kind, .int .i64 a.arg] 29)).alloc (.cells #[.int .i64 b.time, .int .i64 b.to, .int .i64 b.from_, .int .i64 b.count, .int .i64 b.n, .int .i64 b.kind, .int .i64 b.arg] 29)).heap[w.heap.size]? = some (.cells #[.int .i64 a.time, .int .i64 a.to, .int .i64 a.from_, .int .i64 a.count, .int .i64 a.n, .int .i64 a.kind, .int .i64 a.arg] 29 (0, 0)) := (heap_old (by simp)).trans (heap_at rfl)
  have Z2 : ((w.alloc (.cells #[.int .i64 a.time, .int .i64 a.to, .int .i64 a.from_, .int .i64 a.count, .int .i64 a.n, .int .i64 a.kind, .int .i64 a.arg] 29)).alloc (.cells #[.int .i64 b.time, .int .i64 b.to, .int .i64 b.from_, .int .i64 b.count, .int .i64 b.n, .int .i64 b.kind, .int .i64 b.arg] 29)).heap[w.heap.size + 1]? = some (.cells #[.int .i64 b.time, .int .i64 b.to, .int .i64 b.from_, .int .i64 b.count, .int .i64 b.n, .int .i64 b.kind, .int .i64 b.arg] 29 (0, 0)) := heap_at (by simp)
  unfold evAgg
  go_enter Try.func42, Try.ntmps42
  go_wp2_with fail
  generalize hW : (w.alloc (.cells #[.int .i64 a.time, .int .i64 a.to, .int .i64 a.from_, .int .i64 a.count, .int .i64 a.n, .int .i64 a.kind, .int .i64 a.arg] 29)).alloc (.cells #[.int .i64 b.time, .int .i64 b.to, .int .i64 b.from_, .int .i64 b.count, .int .i64 b.n, .int .i64 b.kind, .int .i64 b.arg] 29) = W at *
  clear hW
  obtain ⟨⟨p0, p1, p2, p3, p4, p5, p6⟩, -⟩ := cells7 Z1
  obtain ⟨⟨q0, q1, q2, q3, q4, q5, q6⟩, -⟩ := cells7 Z2
  have z1 := blk_lt Z1
  have z2 := blk_lt Z2
  refine region_plan (fun w' => Ch (fun _ => False) W w') [(0, true), (2, true), (1, false), (3, false), (4, false), (5, true)] (by kernel_rfl) (by kernel_rfl) (fun _ _ d _ _ h => by cases d <;> exact h) ?_
  have HS := (Ch.refl (fun _ => False) W).drew
  iterate 2 (first | (refine seq_take (v := ?_) (by rfl) HS (by rfl) ?_ ?_; rotate_left; (focus (intro wS hS; obtain ⟨kc, kf⟩ := hS.cells; go_simp; (try (with_reducible rfl)); done)); (intro K hK; go_simp; refine hK _ ?_; clear hK K)) | (refine seq_skip (by rfl) HS (by rfl) ?_; (intro K hK; go_simp; refine hK _ ?_; clear hK K)))
  refine seq_do (by rfl) (by rfl) (fun K hK => ?_)
  go_simp
  refine (keyOf_c a _).mono ?_
  rintro q w3 ⟨rfl, hb3⟩
  have HS := HS.trans (Ch.of_below hb3)
  refine hK _ _ (Or.inr HS) ?_; clear hK K
  refine seq_do (by rfl) (by rfl) (fun K hK => ?_)
  go_simp
  refine (keyOf_c b _).mono ?_
  rintro q w4 ⟨rfl, hb4⟩
  have HS := HS.trans (Ch.of_below hb4)
  refine hK _ _ (Or.inr HS) ?_; clear hK K
  refine seq_do (by rfl) (by rfl) (fun K hK => ?_)
  go_simp
  refine (keyLess_c a b _).mono ?_
  rintro q w5 ⟨rfl, hb5⟩
  have HS := HS.trans (Ch.of_below hb5)
  refine hK _ _ (Or.inr HS) ?_; clear hK K
  iterate 1 (first | (refine seq_take (v := ?_) (by rfl) HS (by rfl) ?_ ?_; rotate_left; (focus (intro wS hS; obtain ⟨kc, kf⟩ := hS.cells; go_simp; (try (with_reducible rfl)); done)); (intro K hK; go_simp; refine hK _ ?_; clear hK K)) | (refine seq_skip (by rfl) HS (by rfl) ?_; (intro K hK; go_simp; refine hK _ ?_; clear hK K)))
  simp only [wpSeq]
  go_wp2_with fail
  go_ret
  exact ⟨rfl, bthen' B HS.below0⟩
set_option maxHeartbeats 1000000 in
theorem OutLessI_c (a b : OutD) (w : World) : Calls Try.prog 41 #[outAgg a, outAgg b] w fun q w' => q = .returned (.bool (outLess a b)) ∧ Below w.heap.size w w' := by
  have HE := hid (show decide (cmpV a.key b.key < 0) = outLess a b from cmpV_lt _ _)
  unfold outAgg
  go_enter Try.func41, Try.ntmps41
  go_wp2_with fail
  have B : Below w.heap.size w ((((w.alloc (.cells #[.int .i64 a.time, .int .i64 a.proc, .int .i64 a.count, .int .i64 a.n, .int .i64 a.value] 43)).alloc (.cells #[.int .i64 b.time, .int .i64 b.proc, .int .i64 b.count, .int .i64 b.n, .int .i64 b.value] 43)).alloc (.cells #[.int .i64 a.time, .int .i64 a.proc, .int .i64 a.count, .int .i64 a.n, .int .i64 a.value] 111)).alloc (.cells #[.int .i64 b.time, .int .i64 b.proc, .int .i64 b.count, .int .i64 b.n, .int .i64 b.value] 111)) := balloc (balloc (balloc (balloc (Below.refl _ _) _) _) _) _
  have h1 : Rd (tInt .i64) ((((w.alloc (.cells #[.int .i64 a.time, .int .i64 a.proc, .int .i64 a.count, .int .i64 a.n, .int .i64 a.value] 43)).alloc (.cells #[.int .i64 b.time, .int .i64 b.proc, .int .i64 b.count, .int .i64 b.n, .int .i64 b.value] 43)).alloc (.cells #[.int .i64 a.time, .int .i64 a.proc, .int .i64 a.count, .int .i64 a.n, .int .i64 a.value] 111)).alloc (.cells #[.int .i64 b.time, .int .i64 b.proc, .int .i64 b.count, .int .i64 b.n, .int .i64 b.value] 111)) (fun _ => True) (.slice (some ⟨w.heap.size + 1 + 1, 0, none⟩) 5 5) a.key := (rd_block (W := (((w.alloc (.cells #[.int .i64 a.time, .int .i64 a.proc, .int .i64 a.count, .int .i64 a.n, .int .i64 a.value] 43)).alloc (.cells #[.int .i64 b.time, .int .i64 b.proc, .int .i64 b.count, .int .i64 b.n, .int .i64 b.value] 43)).alloc (.cells #[.int .i64 a.time, .int .i64 a.proc, .int .i64 a.count, .int .i64 a.n, .int .i64 a.value] 111)).alloc (.cells #[.int .i64 b.time, .int .i64 b.proc, .int .i64 b.count, .int .i64 b.n, .int .i64 b.value] 111)) a.key (by simp [OutD.key]) ((heap_old (by simp)).trans (heap_at (by simp))) rfl).mono (fun _ _ => trivial)
  have h2 : Rd (tInt .i64) ((((w.alloc (.cells #[.int .i64 a.time, .int .i64 a.proc, .int .i64 a.count, .int .i64 a.n, .int .i64 a.value] 43)).alloc (.cells #[.int .i64 b.time, .int .i64 b.proc, .int .i64 b.count, .int .i64 b.n, .int .i64 b.value] 43)).alloc (.cells #[.int .i64 a.time, .int .i64 a.proc, .int .i64 a.count, .int .i64 a.n, .int .i64 a.value] 111)).alloc (.cells #[.int .i64 b.time, .int .i64 b.proc, .int .i64 b.count, .int .i64 b.n, .int .i64 b.value] 111)) (fun _ => True) (.slice (some ⟨w.heap.size + 1 + 1 + 1, 0, none⟩) 5 5) b.key := (rd_block b.key (by simp [OutD.key]) (heap_at (by simp)) rfl).mono (fun _ _ => trivial)
  generalize hW : (((w.alloc (.cells #[.int .i64 a.time, .int .i64 a.proc, .int .i64 a.count, .int .i64 a.n, .int .i64 a.value] 43)).alloc (.cells #[.int .i64 b.time, .int .i64 b.proc, .int .i64 b.count, .int .i64 b.n, .int .i64 b.value] 43)).alloc (.cells #[.int .i64 a.time, .int .i64 a.proc, .int .i64 a.count, .int .i64 a.n, .int .i64 a.value] 111)).alloc (.cells #[.int .i64 b.time, .int .i64 b.proc, .int .i64 b.count, .int .i64 b.n, .int .i64 b.value] 111) = W at *
  clear hW
  refine region_plan (fun w' => w' = W.drew) [(0, true), (1, true), (2, false), (3, true), (4, true)] (by kernel_rfl) (by kernel_rfl) (fun _ _ d _ _ h => by cases d <;> exact h) ?_
  have HS := (rfl : W.drew = W.drew)
  iterate 2 (first | (refine seq_take (v := ?_) (by rfl) HS (by rfl) ?_ ?_; rotate_left; (focus (intro wS hS; obtain ⟨kc, kf⟩ := (And.intro True.intro True.intro); go_simp; (try (with_reducible rfl)); done)); (intro K hK; go_simp; refine hK _ ?_; clear hK K)) | (refine seq_skip (by rfl) HS (by rfl) ?_; (intro K hK; go_simp; refine hK _ ?_; clear hK K)))
  refine seq_do (by rfl) (by rfl) (fun K hK => ?_)
  go_simp
  refine (sCompare_c _ _ a.key b.key (fun _ => True) W.drew (Rd.move (w := W) (fun _ _ => rfl) h1) (Rd.move (w := W) (fun _ _ => rfl) h2) rfl).mono ?_
  rintro q w' ⟨rfl, rfl⟩
  refine hK _ _ (Or.inr HS) ?_; clear hK K
  iterate 2 (first | (refine seq_take (v := ?_) (by rfl) HS (by rfl) ?_ ?_; rotate_left; (focus (intro wS hS; obtain ⟨kc, kf⟩ := (And.intro True.intro True.intro); go_simp; (try (with_reducible rfl)); done)); (intro K hK; go_simp; refine hK _ ?_; clear hK K)) | (refine seq_skip (by rfl) HS (by rfl) ?_; (intro K hK; go_simp; refine hK _ ?_; clear hK K)))
  simp only [wpSeq]
  go_wp2_with fail
  go_ret
  exact ⟨by rw [HE.out]; rfl, bdrew0 B⟩
end Go.Proofs.Ytmnccekljombmaa

namespace Go.Proofs.Ytmnccekljombmaa
set_option linter.unusedVariables false
set_option linter.unusedSimpArgs false
set_option maxRecDepth 100000
open Go.RowKit
set_option maxHeartbeats 1000000 in
theorem AppFirstI_c (p : Int) (w : World) : Calls Try.prog 95 #[.int .i64 p] w fun q w' => q = .returned (evAgg (appFirst p)) ∧ Below w.heap.size w w' := by
  obtain ⟨t, ht⟩ : ∃ t, inn p 0 3 = t := ⟨_, rfl⟩
  cases t
  all_goals
    go_enter Try.func95, Try.ntmps95
    go_wp2_with (go_at_call 99; refine (isProc_c _ _).mono ?_; rintro e w1 ⟨he, rfl⟩; rw [ht] at he; subst he)
    refine bodyPost_ret (v := evAgg (appFirst p)) (by simp [results, Try.results95, go_sem, evAgg, appFirst, ht]) rfl ⟨rfl, ?_⟩
    exact Ch.below0 (by repeat (first | (with_reducible exact Ch.refl _ _) | (with_reducible refine Ch.setCell ?_ (Or.inr (Nat.le_refl _)) _) | (with_reducible refine Ch.drew ?_) | (with_reducible refine Ch.alloc ?_ _)))
set_option maxHeartbeats 1000000 in
theorem event_c (e : EvD) (w : World) : Calls Try.prog 119 #[evAgg e] w fun q w' => q = .returned (evAgg e) ∧ Below w.heap.size w w' := by
  unfold evAgg
  go_enter Try.func119, Try.ntmps119
  go_wp2_with fail
  refine bodyPost_ret (v := .agg #[.int .i64 e.time, .int .i64 e.to, .int .i64 e.from_, .int .i64 e.count, .int .i64 e.n, .int .i64 e.kind, .int .i64 e.arg]) (by simp [results, Try.results119, go_sem]) rfl ⟨rfl, ?_⟩
  exact Ch.below0 (by repeat (first | (with_reducible exact Ch.refl _ _) | (with_reducible refine Ch.setCell ?_ (Or.inr (by simp)) _) | (with_reducible refine Ch.drew ?_) | (with_reducible refine Ch.alloc ?_ _)))
end Go.Proofs.Ytmnccekljombmaa

namespace Go.Proofs.Ytmnccekljombmaa
set_option linter.unusedVariables false
set_option linter.unusedSimpArgs false
set_option linter.unusedSectionVars false
open Go.RowKit
/-- number, the numbers it hangs on, what is known -/
abbrev Known := Nat × List Nat × (List Value → Value → Prop)
def PPL (l : List Known) (j : Nat) (u : Nat → Value) : Prop := match l with | [] => True | (i, ds, p) :: r => if j = i then p (ds.map u) (u j) else PPL r j u
def PPok (ops : Array Oper) : List Known → Bool | [] => true | (i, ds, _) :: r => ds.all (fun d => waits ops i d) && PPok ops r
theorem PPL_upd {ops : Array Oper} : ∀ (l : List Known), PPok ops l = true → ∀ j i u v, PPL l j u → i ≠ j → waits ops j i = false → PPL l j (updV u i v)
  | [], _, _, _, _, _, _, _, _ => trivial
  | (k, ds, p) :: r, h, j, i, u, v, hp, hij, hw => by
    simp only [PPok, Bool.and_eq_true] at h
    unfold PPL at hp ⊢
    split
    · rename_i hjk
      rw [if_pos hjk] at hp
      have h1 : updV u i v j = u j := by simp [updV, Ne.symm hij]
      have h2 : ds.map (updV u i v) = ds.map u := List.map_congr_left fun d hd => by
        have h3 := List.all_eq_true.1 h.1 d hd
        have : d ≠ i := fun e => by subst e; subst hjk; rw [hw] at h3; cases h3
        simp [updV, this]
      rw [h1, h2]; exact hp
    · rename_i hjk
      rw [if_neg hjk] at hp
      exact PPL_upd r h.2 j i u v hp hij hw
/-- number, the numbers it hangs on, what it holds -/
abbrev HeldD := Nat × List Nat × (List Value → Value → World → (Nat → Prop) → Prop)
def NL (l : List HeldD) (j : Nat) (u : Nat → Value) (w : World) (F : Nat → Prop) : Prop := match l with | [] => True | (i, ds, p) :: r => if j = i then p (ds.map u) (u j) w F else NL r j u w F
def NLok (ops : Array Oper) : List HeldD → Bool | [] => true | (i, ds, _) :: r => ds.all (fun d => waits ops i d) && NLok ops r
theorem NL_upd {ops : Array Oper} : ∀ (l : List HeldD), NLok ops l = true → ∀ j i u v w F, NL l j u w F → i ≠ j → waits ops j i = false → NL l j (updV u i v) w F
  | [], _, _, _, _, _, _, _, _, _, _ => trivial
  | (k, ds, p) :: r, h, j, i, u, v, w, F, hp, hij, hw => by
    simp only [NLok, Bool.and_eq_true] at h
    unfold NL at hp ⊢
    split
    · rename_i hjk
      rw [if_pos hjk] at hp
      have h1 : updV u i v j = u j := by simp [updV, Ne.symm hij]
      have h2 : ds.map (updV u i v) = ds.map u := List.map_congr_left fun d hd => by
        have h3 := List.all_eq_true.1 h.1 d hd
        have : d ≠ i := fun e => by subst e; subst hjk; rw [hw] at h3; cases h3
        simp [updV, this]
      rw [h1, h2]; exact hp
    · rename_i hjk
      rw [if_neg hjk] at hp
      exact NL_upd r h.2 j i u v w F hp hij hw
def MovesD (p : List Value → Value → World → (Nat → Prop) → Prop) : Prop := ∀ ds v w w' F, p ds v w F → (∀ k, F k → w'.heap[k]? = w.heap[k]?) → p ds v w' F
def MovesDL : List HeldD → Prop | [] => True | p :: r => MovesD p.2.2 ∧ MovesDL r
theorem NL_move : ∀ (l : List HeldD), MovesDL l → ∀ j u w w' F, NL l j u w F → (∀ k, F k → w'.heap[k]? = w.heap[k]?) → NL l j u w' F
  | [], _, _, _, _, _, _, _, _ => trivial
  | (i, ds, p) :: r, hl, j, u, w, w', F, h, hm => by
    unfold NL at h ⊢
    split
    · rename_i hj; rw [if_pos hj] at h; exact hl.1 _ _ w w' F h hm
    · rename_i hj; rw [if_neg hj] at h; exact NL_move r hl.2 j u w w' F h hm
theorem there_of_block {w : World} {g n : Nat} {cs : Array Value} {t : TypeId} (h : w.heap[g]? = some (.cells cs t (0, 0))) (hn : n ≤ cs.size) : w.there g 0 n := fun i hi => by
  have hlt : i < cs.size := by omega
  exact ⟨by simp [World.cell?, h, hlt], by simp [World.frozen?, h]⟩
section
variable {P : Program} {o : Oper} {a : Act} {w : World} {K : Act → World → Prop} {Q : Exit → Act → World → Prop}
theorem wp_move {x : Operand} (ho : o.op = .move x ∨ o.op = .assign x) (h : K (a.put o.dst (a.eval x)) w) : o.wp P a w K Q := by
  unfold Oper.wp execOp
  rcases ho with ho | ho
  all_goals
    simp only [ho, Sem.run_pure]
    exact h
theorem wp_extract {x : Operand} {n : Nat} {vs : Array Value} {v : Value} (ho : o.op = .extract x n) (hx : a.eval x = .tuple vs) (hv : vs[n]? = some v) (h : K (a.put o.dst v) w) : o.wp P a w K Q := by
  unfold Oper.wp execOp
  simp only [ho, hx, Instr.extract, hv, Sem.run_bind, Sem.run_pure, Result.andThen_ok]
  exact h
end
/- A slot behind many puts. -/
def dlOut (k : Nat) : List (Nat × Option Tmp) → Bool | [] => true | p :: r => p.2 != some k && dlOut k r
def dlIn (k i : Nat) : List (Nat × Option Tmp) → Bool | [] => false | p :: r => if p.2 == some k then p.1 == i && dlOut k r else dlIn k i r
theorem put_tmp_ne (a : Act) (d : Option Tmp) (v : Value) (k : Nat) (h : d ≠ some k) : (a.put d v).tmps[k]? = a.tmps[k]? := by
  cases d with
  | none => rfl
  | some d =>
    simp only [Act.put]
    rw [Array.getElem?_setIfInBounds_ne (fun e => h (by rw [e]))]
theorem putL_out {k : Nat} : ∀ (dl : List (Nat × Option Tmp)) (a : Act) (u : Nat → Value), dlOut k dl = true → (putL dl a u).tmps[k]? = a.tmps[k]?
  | [], _, _, _ => rfl
  | (i, d) :: r, a, u, h => by
    simp only [dlOut, Bool.and_eq_true, bne_iff_ne] at h
    rw [putL_cons, putL_out r _ u h.2, put_tmp_ne _ _ _ _ h.1]
theorem put_size (a : Act) (d : Option Tmp) (v : Value) : (a.put d v).tmps.size = a.tmps.size := by
  cases d with
  | none => rfl
  | some d => simp [Act.put]
theorem putL_in {k i : Nat} : ∀ (dl : List (Nat × Option Tmp)) (a : Act) (u : Nat → Value), dlIn k i dl = true → k < a.tmps.size → (putL dl a u).tmps[k]? = some (u i)
  | [], _, _, h, _ => by cases h
  | (j, d) :: r, a, u, h, hk => by
    unfold dlIn at h
    split at h
    · rename_i hd
      simp only [Bool.and_eq_true, beq_iff_eq] at h hd
      rw [putL_cons, putL_out r _ u h.2]
      subst hd
      rw [h.1]
      simp only [Act.put]
      rw [Array.getElem?_setIfInBounds_self_of_lt hk]
    · rw [putL_cons, putL_in r _ u h (by rw [put_size]; exact hk)]
theorem eval_of {a : Act} {k : Nat} {v : Value} (h : a.tmps[k]? = some v) : a.eval (.tmp k) = v := by
  show a.tmps.getD k undef = v
  rw [Array.getD_eq_getD_getElem?, h]; rfl
theorem z_name {P : Program} {ops : Array Oper} {Q : Exit → Act → World → Prop} {S : World → Prop} {r : Pz} {a : Act} {w : World} (h : ∀ a0, a0 = a → wpZ P ops Q S r a0 w) : wpZ P ops Q S r a w := h a rfl
theorem wp_move' {P : Program} {o : Oper} {a : Act} {w : World} {K : Act → World → Prop} {Q : Exit → Act → World → Prop} {x : Operand} {v : Value} (ho : o.op = .move x ∨ o.op = .assign x) (hx : a.eval x = v) (h : K (a.put o.dst v) w) : o.wp P a w K Q := by
  subst hx; exact wp_move ho h
/-- A row of another type stays where one row is written. -/
theorem Ow.chApart {α β : Type} {d : Ty α} {e e' : TypeId} {cells : β → List Value} {sz : Nat} {hl : ∀ x, (cells x).length = sz} {ho : ∀ x, ∀ u ∈ cells x, u.oneCell' = true} {w w8 : World} {F F' : Nat → Prop} {v v' : Value} {xs : List α} {ys : List β} {g : Nat}
    (h : Ow d e w F v xs) (hg : v.ownBlock = some g) (h' : Ow (flat cells sz hl ho) e' w F' v' ys) (hne : e ≠ e') (hC : Ch (fun k => k = g) w w8) : Ow (flat cells sz hl ho) e' w8 F' v' ys :=
  (h'.tight.ch hC (fun k hk e1 => h.apart h' hne g hg (e1 ▸ hk))).mono (fun k hk => h'.inF hk)
theorem Ow.blkApart {α : Type} {d : Ty α} {e t : TypeId} {w w8 : World} {F : Nat → Prop} {v : Value} {xs : List α} {g k : Nat} {cs : Array Value} {fr : Nat × Nat}
    (h : Ow d e w F v xs) (hg : v.ownBlock = some g) (hne : e ≠ t) (hk : w.heap[k]? = some (.cells cs t fr)) (hC : Ch (fun k => k = g) w w8) : w8.heap[k]? = some (.cells cs t fr) :=
  hC.heap hk (fun e1 => h.type_ne hk hne (by rw [e1]; exact hg))
theorem grown_below {W w1 : World} {B : Nat} {v : Value} (hb : Below B W W) (hG : W.grownBy w1 v.ownBlock) (hv : ∀ k, v.ownBlock = some k → B ≤ k) (hB : B ≤ W.heap.size) : Below B W w1 :=
  ⟨hG.os, hG.tape, hG.output, hG.size, fun k hk => hG.block k (by omega) (fun e => by have := hv k e.symm; omega)⟩
end Go.Proofs.Ytmnccekljombmaa
