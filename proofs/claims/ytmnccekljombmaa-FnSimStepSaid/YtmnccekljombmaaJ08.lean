/- Texts joined: Spc3, Ins, Nest. -/
import Derived.Test.YtmnccekljombmaaJ07
import Derived.Test.YtmnccekljombmaaJ04
import Derived.Test.YtmnccekljombmaaJ03
namespace Go.Proofs.Ytmnccekljombmaa
set_option linter.unusedVariables false
set_option linter.unusedSimpArgs false
set_option maxRecDepth 100000
open Go.RowKit
theorem Rd.alloc {α : Type} {d : Ty α} {w : World} {F : Nat → Prop} {v : Value} {xs : List α} (h : Rd d w F v xs) (o : Obj) : Rd d (w.alloc o) F v xs := h.below (balloc (Below.refl _ _) o)
theorem simOk_false1 {s : SimD} (h : ¬ s.states.length = 4) : simOk s = false := by simp [simOk, h]
theorem simOk_false2 {s : SimD} (h : evsOk s.queue 100 = false) : simOk s = false := by simp [simOk, h]
theorem simOk_false3 {s : SimD} (h : outsOk s.outs 96 = false) : simOk s = false := by simp [simOk, h]
theorem simOk_false4 {s : SimD} {k : Nat} (hk : k < s.states.length) (h : stOk s.states[k] = false) : simOk s = false := by simp [simOk, all_false hk h]
set_option maxHeartbeats 2000000 in
theorem SimOk_c (vs vq vo : Value) (s : SimD) (F : Nat → Prop) (w : World) (hs : Rd tSt w F vs s.states) (hq : Rd tEv w F vq s.queue) (ho : Rd tOut w F vo s.outs) :
    Calls Try.prog 46 #[.agg #[vs, vq, vo]] w fun e w' => e = .returned (.bool (simOk s)) ∧ Below w.heap.size w w' := by
  obtain ⟨A, cp, rfl, -, hlen, -⟩ := id hs
  by_cases q1 : s.states.length = 4
  · have hn : ((s.states.length : Int) != 4) = false := by simp [q1]
    have Q1 := hid q1
    have hl4 : s.states.length ≤ 4 := by omega
    clear q1
    by_cases q2 : evsOk s.queue 100 = true
    · by_cases q3 : outsOk s.outs 96 = true
      · go_enter Try.func46, Try.ntmps46
        go_wp2
        refine region_plan (fun w' => Below (w.alloc (.cells #[.slice A s.states.length cp, vq, vo] 64)).heap.size (w.alloc (.cells #[.slice A s.states.length cp, vq, vo] 64)) w') [(0, true), (1, true), (2, true), (3, true), (4, true), (5, true), (6, true), (7, false), (8, false), (9, true), (10, true), (11, true), (12, true), (13, true), (14, false), (15, true), (16, true)] (by kernel_rfl) (by kernel_rfl) (fun _ _ d _ _ h => by cases d <;> exact h) ?_
        have HS := (Below.refl (w.alloc (.cells #[.slice A s.states.length cp, vq, vo] 64)).heap.size (w.alloc (.cells #[.slice A s.states.length cp, vq, vo] 64))).drew
        iterate 7 (first | (refine seq_take (v := ?_) (by rfl) HS (by rfl) ?_ ?_; rotate_left; (focus (intro wS hS; obtain ⟨kc, kf⟩ := bcell hS; go_simp; (try (with_reducible rfl)); done)); (intro K hK; go_simp; refine hK _ ?_; clear hK K)) | (refine seq_skip (by rfl) HS (by rfl) ?_; (intro K hK; go_simp; refine hK _ ?_; clear hK K)))
        refine seq_do (by rfl) (by rfl) (fun K hK => ?_)
        go_simp; refine (l2Most_c _).mono ?_; rintro e w1 ⟨rfl, rfl⟩; refine hK _ _ (Or.inr HS) ?_; clear hK K
        refine seq_do (by rfl) (by rfl) (fun K hK => ?_)
        go_simp; refine (l2Events_c _ s.queue _ F _ ((hq.alloc _).below HS)).mono ?_; rintro e w1 ⟨he, hb1⟩; rw [q2] at he; subst he; have HS1 := bthen' HS hb1; refine hK _ _ (Or.inr HS1) ?_; clear hK K HS; have HS := HS1; clear HS1
        iterate 5 (first | (refine seq_take (v := ?_) (by rfl) HS (by rfl) ?_ ?_; rotate_left; (focus (intro wS hS; obtain ⟨kc, kf⟩ := bcell hS; go_simp; (try (with_reducible rfl)); done)); (intro K hK; go_simp; refine hK _ ?_; clear hK K)) | (refine seq_skip (by rfl) HS (by rfl) ?_; (intro K hK; go_simp; refine hK _ ?_; clear hK K)))
        refine seq_do (by rfl) (by rfl) (fun K hK => ?_)
        go_simp; refine (l2Outs_c _ s.outs _ F _ ((ho.alloc _).below HS)).mono ?_; rintro e w1 ⟨he, hb1⟩; rw [q3] at he; subst he; have HS1 := bthen' HS hb1; refine hK _ _ (Or.inr HS1) ?_; clear hK K HS; have HS := HS1; clear HS1
        iterate 2 (first | (refine seq_take (v := ?_) (by rfl) HS (by rfl) ?_ ?_; rotate_left; (focus (intro wS hS; obtain ⟨kc, kf⟩ := bcell hS; go_simp; (try (with_reducible rfl)); done)); (intro K hK; go_simp; refine hK _ ?_; clear hK K)) | (refine seq_skip (by rfl) HS (by rfl) ?_; (intro K hK; go_simp; refine hK _ ?_; clear hK K)))
        simp only [wpSeq]
        go_wp2
        go_loopw [3] (fun i wr => ∃ k : Nat, i = .int .i64 k ∧ k ≤ s.states.length ∧ Hid ((s.states.take k).all stOk = true) ∧ Below (w.heap.size + 1) (w.alloc (.cells #[.slice A s.states.length cp, vq, vo] 64)) wr) (fun i _ => s.states.length - (intOf i).toNat)
        case atStart => exact ⟨0, rfl, Nat.zero_le _, rfl, by simpa using HS⟩
        case round =>
          obtain ⟨k, rfl, hk, hal, hb⟩ := hrel
          have hc0 : wr.cell? ⟨w.heap.size, 0, none⟩ = some (.slice A s.states.length cp) := by rw [hb.cell (by simp)]; simp
          have hsz : w.heap.size < wr.heap.size := by have := hb.size; simp at this; omega
          by_cases hlt : k < s.states.length
          · have hrd : Rd tSt wr F (.slice A s.states.length cp) s.states := (hs.alloc _).below (by simpa using hb)
            obtain ⟨b0, o0, rfl, hb0, a0, a1, a2⟩ := st_at hrd k hlt
            by_cases t0 : stOk s.states[k] = true
            · have al := hid (all_snoc hlt hal.out t0)
              have t0' : stOk ⟨s.states[k].x, s.states[k].y, s.states[k].c⟩ = true := t0
              clear t0
              go_wp2_with (go_at_call 51; refine (l1StateOk_c _ _ _ _).mono ?_; rintro e w1 ⟨rfl, hb1⟩)
              go_roundw
              case rel => exact ⟨k + 1, by go_num, by omega, al, bthen hb hb1 hsz⟩
              case measure => simp [intOf]; omega
            · replace t0 : stOk s.states[k] = false := by simpa using t0
              have t0' : stOk ⟨s.states[k].x, s.states[k].y, s.states[k].c⟩ = false := t0
              have HF := hid (simOk_false4 hlt t0)
              clear t0
              go_wp2_with (go_at_call 51; refine (l1StateOk_c _ _ _ _).mono ?_; rintro e w1 ⟨rfl, hb1⟩)
              go_ret
              exact ⟨by rw [HF.out]; rfl, ((Below.refl _ _).alloc (Nat.le_refl _) _).trans ((bthen hb hb1 hsz).mono (by simp))⟩
          · have hkl : k = s.states.length := by omega
            subst hkl
            have hall' := hal.out
            rw [List.take_length] at hall'
            have HF := hid (show simOk s = true by simp [simOk, hall', Q1.out, q2, q3])
            clear hall'
            go_wp2
            go_ret
            exact ⟨by rw [HF.out]; rfl, ((Below.refl _ _).alloc (Nat.le_refl _) _).trans (hb.mono (by simp))⟩
      · replace q3 : outsOk s.outs 96 = false := by simpa using q3
        have HF := hid (simOk_false3 q3)
        go_enter Try.func46, Try.ntmps46
        go_wp2
        refine region_plan (fun w' => Below (w.alloc (.cells #[.slice A s.states.length cp, vq, vo] 64)).heap.size (w.alloc (.cells #[.slice A s.states.length cp, vq, vo] 64)) w') [(0, true), (1, true), (2, true), (3, true), (4, true), (5, true), (6, true), (7, false), (8, false), (9, true), (10, true), (11, true), (12, true), (13, true), (14, false), (15, true), (16, true)] (by kernel_rfl) (by kernel_rfl) (fun _ _ d _ _ h => by cases d <;> exact h) ?_
        have HS := (Below.refl (w.alloc (.cells #[.slice A s.states.length cp, vq, vo] 64)).heap.size (w.alloc (.cells #[.slice A s.states.length cp, vq, vo] 64))).drew
        iterate 7 (first | (refine seq_take (v := ?_) (by rfl) HS (by rfl) ?_ ?_; rotate_left; (focus (intro wS hS; obtain ⟨kc, kf⟩ := bcell hS; go_simp; (try (with_reducible rfl)); done)); (intro K hK; go_simp; refine hK _ ?_; clear hK K)) | (refine seq_skip (by rfl) HS (by rfl) ?_; (intro K hK; go_simp; refine hK _ ?_; clear hK K)))
        refine seq_do (by rfl) (by rfl) (fun K hK => ?_)
        go_simp; refine (l2Most_c _).mono ?_; rintro e w1 ⟨rfl, rfl⟩; refine hK _ _ (Or.inr HS) ?_; clear hK K
        refine seq_do (by rfl) (by rfl) (fun K hK => ?_)
        go_simp; refine (l2Events_c _ s.queue _ F _ ((hq.alloc _).below HS)).mono ?_; rintro e w1 ⟨he, hb1⟩; rw [q2] at he; subst he; have HS1 := bthen' HS hb1; refine hK _ _ (Or.inr HS1) ?_; clear hK K HS; have HS := HS1; clear HS1
        iterate 5 (first | (refine seq_take (v := ?_) (by rfl) HS (by rfl) ?_ ?_; rotate_left; (focus (intro wS hS; obtain ⟨kc, kf⟩ := bcell hS; go_simp; (try (with_reducible rfl)); done)); (intro K hK; go_simp; refine hK _ ?_; clear hK K)) | (refine seq_skip (by rfl) HS (by rfl) ?_; (intro K hK; go_simp; refine hK _ ?_; clear hK K)))
        refine seq_do (by rfl) (by rfl) (fun K hK => ?_)
        go_simp; refine (l2Outs_c _ s.outs _ F _ ((ho.alloc _).below HS)).mono ?_; rintro e w1 ⟨he, hb1⟩; rw [q3] at he; subst he; have HS1 := bthen' HS hb1; refine hK _ _ (Or.inr HS1) ?_; clear hK K HS; have HS := HS1; clear HS1
        iterate 2 (first | (refine seq_take (v := ?_) (by rfl) HS (by rfl) ?_ ?_; rotate_left; (focus (intro wS hS; obtain ⟨kc, kf⟩ := bcell hS; go_simp; (try (with_reducible rfl)); done)); (intro K hK; go_simp; refine hK _ ?_; clear hK K)) | (refine seq_skip (by rfl) HS (by rfl) ?_; (intro K hK; go_simp; refine hK _ ?_; clear hK K)))
        simp only [wpSeq]
        go_wp2
        go_ret
        exact ⟨by rw [HF.out]; rfl, bthen' (balloc (Below.refl _ _) _) HS⟩
    · replace q2 : evsOk s.queue 100 = false := by simpa using q2
      have HF := hid (simOk_false2 q2)
      go_enter Try.func46, Try.ntmps46
      go_wp2
      refine region_plan (fun w' => Below (w.alloc (.cells #[.slice A s.states.length cp, vq, vo] 64)).heap.size (w.alloc (.cells #[.slice A s.states.length cp, vq, vo] 64)) w') [(0, true), (1, true), (2, true), (3, true), (4, true), (5, true), (6, true), (7, false), (8, false), (9, true), (10, true), (11, true), (12, true), (13, true), (14, false), (15, true), (16, true)] (by kernel_rfl) (by kernel_rfl) (fun _ _ d _ _ h => by cases d <;> exact h) ?_
      have HS := (Below.refl (w.alloc (.cells #[.slice A s.states.length cp, vq, vo] 64)).heap.size (w.alloc (.cells #[.slice A s.states.length cp, vq, vo] 64))).drew
      iterate 7 (first | (refine seq_take (v := ?_) (by rfl) HS (by rfl) ?_ ?_; rotate_left; (focus (intro wS hS; obtain ⟨kc, kf⟩ := bcell hS; go_simp; (try (with_reducible rfl)); done)); (intro K hK; go_simp; refine hK _ ?_; clear hK K)) | (refine seq_skip (by rfl) HS (by rfl) ?_; (intro K hK; go_simp; refine hK _ ?_; clear hK K)))
      refine seq_do (by rfl) (by rfl) (fun K hK => ?_)
      go_simp; refine (l2Most_c _).mono ?_; rintro e w1 ⟨rfl, rfl⟩; refine hK _ _ (Or.inr HS) ?_; clear hK K
      refine seq_do (by rfl) (by rfl) (fun K hK => ?_)
      go_simp; refine (l2Events_c _ s.queue _ F _ ((hq.alloc _).below HS)).mono ?_; rintro e w1 ⟨he, hb1⟩; rw [q2] at he; subst he; have HS1 := bthen' HS hb1; refine hK _ _ (Or.inr HS1) ?_; clear hK K HS; have HS := HS1; clear HS1
      iterate 5 (first | (refine seq_take (v := ?_) (by rfl) HS (by rfl) ?_ ?_; rotate_left; (focus (intro wS hS; obtain ⟨kc, kf⟩ := bcell hS; go_simp; (try (with_reducible rfl)); done)); (intro K hK; go_simp; refine hK _ ?_; clear hK K)) | (refine seq_skip (by rfl) HS (by rfl) ?_; (intro K hK; go_simp; refine hK _ ?_; clear hK K)))
      refine seq_dont (by rfl) (by rfl) (fun K hK => ?_); go_simp; refine hK _ _ (Or.inr HS) ?_; clear hK K
      iterate 2 (first | (refine seq_take (v := ?_) (by rfl) HS (by rfl) ?_ ?_; rotate_left; (focus (intro wS hS; obtain ⟨kc, kf⟩ := bcell hS; go_simp; (try (with_reducible rfl)); done)); (intro K hK; go_simp; refine hK _ ?_; clear hK K)) | (refine seq_skip (by rfl) HS (by rfl) ?_; (intro K hK; go_simp; refine hK _ ?_; clear hK K)))
      simp only [wpSeq]
      go_wp2
      go_ret
      exact ⟨by rw [HF.out]; rfl, bthen' (balloc (Below.refl _ _) _) HS⟩
  · have HF := hid (simOk_false1 q1)
    have hn : ((s.states.length : Int) != 4) = true := by simp; omega
    clear q1
    go_enter Try.func46, Try.ntmps46
    go_wp2
    refine region_plan (fun w' => Below (w.alloc (.cells #[.slice A s.states.length cp, vq, vo] 64)).heap.size (w.alloc (.cells #[.slice A s.states.length cp, vq, vo] 64)) w') [(0, true), (1, true), (2, true), (3, true), (4, true), (5, true), (6, true), (7, false), (8, false), (9, true), (10, true), (11, true), (12, true), (13, true), (14, false), (15, true), (16, true)] (by kernel_rfl) (by kernel_rfl) (fun _ _ d _ _ h => by cases d <;> exact h) ?_
    have HS := (Below.refl (w.alloc (.cells #[.slice A s.states.length cp, vq, vo] 64)).heap.size (w.alloc (.cells #[.slice A s.states.length cp, vq, vo] 64))).drew
    iterate 7 (first | (refine seq_take (v := ?_) (by rfl) HS (by rfl) ?_ ?_; rotate_left; (focus (intro wS hS; obtain ⟨kc, kf⟩ := bcell hS; go_simp; (try (with_reducible rfl)); done)); (intro K hK; go_simp; refine hK _ ?_; clear hK K)) | (refine seq_skip (by rfl) HS (by rfl) ?_; (intro K hK; go_simp; refine hK _ ?_; clear hK K)))
    refine seq_dont (by rfl) (by rfl) (fun K hK => ?_); go_simp; refine hK _ _ (Or.inr HS) ?_; clear hK K
    refine seq_dont (by rfl) (by rfl) (fun K hK => ?_); go_simp; refine hK _ _ (Or.inr HS) ?_; clear hK K
    iterate 5 (first | (refine seq_take (v := ?_) (by rfl) HS (by rfl) ?_ ?_; rotate_left; (focus (intro wS hS; obtain ⟨kc, kf⟩ := bcell hS; go_simp; (try (with_reducible rfl)); done)); (intro K hK; go_simp; refine hK _ ?_; clear hK K)) | (refine seq_skip (by rfl) HS (by rfl) ?_; (intro K hK; go_simp; refine hK _ ?_; clear hK K)))
    refine seq_dont (by rfl) (by rfl) (fun K hK => ?_); go_simp; refine hK _ _ (Or.inr HS) ?_; clear hK K
    iterate 2 (first | (refine seq_take (v := ?_) (by rfl) HS (by rfl) ?_ ?_; rotate_left; (focus (intro wS hS; obtain ⟨kc, kf⟩ := bcell hS; go_simp; (try (with_reducible rfl)); done)); (intro K hK; go_simp; refine hK _ ?_; clear hK K)) | (refine seq_skip (by rfl) HS (by rfl) ?_; (intro K hK; go_simp; refine hK _ ?_; clear hK K)))
    simp only [wpSeq]
    go_wp2
    go_ret
    exact ⟨by rw [HF.out]; rfl, bthen' (balloc (Below.refl _ _) _) HS⟩
end Go.Proofs.Ytmnccekljombmaa

namespace Go.Proofs.Ytmnccekljombmaa
set_option linter.unusedVariables false
set_option linter.unusedSimpArgs false
set_option linter.unusedSectionVars false
section
variable {α : Type} [Inhabited α] {lt : α → α → Bool}
def shf (l : List α) (x : α) (n : Nat) : List α := (l ++ [x]).take (n + 1) ++ l.drop n
theorem shf_last (l : List α) (x : α) : shf l x l.length = l ++ [x] := by
  rw [shf, List.take_of_length_le (by simp), List.drop_length, List.append_nil]
theorem shf_len (l : List α) (x : α) {n : Nat} (h : n ≤ l.length) : (shf l x n).length = l.length + 1 := by
  simp [shf]; omega
theorem shf_at (l : List α) (x : α) {n : Nat} (h0 : 0 < n) (h : n ≤ l.length) (h2 : n - 1 < (shf l x n).length) : (shf l x n)[n - 1] = nth l (n - 1) := by
  rw [nth_eq (by omega)]
  simp only [shf]
  rw [List.getElem_append_left (by simp; omega), List.getElem_take, List.getElem_append_left (by omega)]
theorem shf_step (l : List α) (x : α) {n : Nat} (h0 : 0 < n) (h : n ≤ l.length) : (shf l x n).set n (nth l (n - 1)) = shf l x (n - 1) := by
  obtain ⟨m, rfl⟩ : ∃ m, n = m + 1 := ⟨n - 1, by omega⟩
  simp only [Nat.add_sub_cancel]
  rw [nth_eq (by omega)]
  have h1 : (l ++ [x]).take (m + 1 + 1) = (l ++ [x]).take (m + 1) ++ [(l ++ [x])[m + 1]'(by simp; omega)] := by rw [List.take_succ_eq_append_getElem]
  have h2 : ((l ++ [x]).take (m + 1)).length = m + 1 := by simp; omega
  have h3 : l.drop m = l[m] :: l.drop (m + 1) := by rw [List.drop_eq_getElem_cons (by omega)]
  rw [shf, shf, h1, h3, List.append_assoc, List.set_append, if_neg (by omega), h2]
  simp
theorem shf_end (l : List α) (x : α) {k : Nat} (h : k ≤ l.length) : (shf l x k).set k x = insAt l x k := by
  have h1 : (l ++ [x]).take (k + 1) = l.take k ++ [(l ++ [x])[k]'(by simp; omega)] := by
    rw [List.take_succ_eq_append_getElem (by simp; omega), List.take_append_of_le_length h]
  have h2 : (l.take k).length = k := by simp; omega
  rw [shf, h1, insAt, List.append_assoc, List.set_append, if_neg (by omega), h2]
  simp
theorem place_go {l : List α} {x : α} {k : Nat} (h0 : 0 < k) (h : lt x (nth l (k - 1)) = true) : place lt l x k = place lt l x (k - 1) := by
  obtain ⟨m, rfl⟩ : ∃ m, k = m + 1 := ⟨k - 1, by omega⟩
  simp only [Nat.add_sub_cancel] at h ⊢
  rw [place, if_pos h]
theorem place_stop {l : List α} {x : α} {k : Nat} (h : 0 < k → lt x (nth l (k - 1)) = false) : place lt l x k = k := by
  cases k with
  | zero => rfl
  | succ m =>
    have := h (by omega)
    simp only [Nat.add_sub_cancel] at this
    rw [place, if_neg (by simp [this])]
theorem fold_snoc {β : Type} (f : List α → α → List α) {l : List α} {k : Nat} (h : k < l.length) : (l.take (k + 1)).foldl f [] = f ((l.take k).foldl f []) l[k] := by
  rw [List.take_succ_eq_append_getElem h, List.foldl_append]
  rfl
theorem insOnce_len [DecidableEq α] (l : List α) (x : α) : (insOnce lt l x).length ≤ l.length + 1 := by
  unfold insOnce
  split
  · omega
  · have := place_le (lt := lt) l x l.length
    simp [insAt]; omega
theorem sortOnce_len [DecidableEq α] (xs : List α) : ∀ k, k ≤ xs.length → ((xs.take k).foldl (insOnce lt) []).length ≤ k
  | 0, _ => by simp
  | k + 1, h => by
    rw [fold_snoc (β := α) _ (by omega)]
    have := insOnce_len (lt := lt) ((xs.take k).foldl (insOnce lt) []) (xs[k]'(by omega))
    have := sortOnce_len xs k (by omega)
    omega
theorem sortAll_len (xs : List α) : ∀ k, k ≤ xs.length → ((xs.take k).foldl (insAll lt) []).length = k
  | 0, _ => by simp
  | k + 1, h => by
    rw [fold_snoc (β := α) _ (by omega)]
    have h1 := sortAll_len xs k (by omega)
    have := place_le (lt := lt) ((xs.take k).foldl (insAll lt) []) (xs[k]'(by omega)) ((xs.take k).foldl (insAll lt) []).length
    simp [insAll, insAt]; omega
end
end Go.Proofs.Ytmnccekljombmaa

namespace Go.Proofs.Ytmnccekljombmaa
set_option linter.unusedVariables false
set_option linter.unusedSimpArgs false
set_option maxRecDepth 100000
open Go.RowKit

theorem Ow.oneCell {α : Type} {d : Ty α} {e : TypeId} {w : World} {F : Nat → Prop} {v : Value} {xs : List α} (h : Ow d e w F v xs) : v.oneCell' = true := by
  obtain ⟨A, c, rfl, _⟩ := h.shape
  rfl
def oRule : Ty RuleD where
  sz := 2
  rel := fun w F x cs => ∃ v, cs = [.int .i64 x.kind, v] ∧ Ow tOp 90 w F v x.ops
  len := fun ⟨v, h, _⟩ => by rw [h]; rfl
  one := fun ⟨v, h, hr⟩ u hu => by
    have h1 := hr.oneCell
    rw [h] at hu; simp at hu; rcases hu with rfl | rfl
    · rfl
    · exact h1
  mono := fun hF ⟨v, h, hr⟩ => ⟨v, h, hr.mono hF⟩
  move := fun hm ⟨v, h, hr⟩ => ⟨v, h, hr.move hm⟩
  bound := fun ⟨v, h, hr⟩ => ⟨v, h, hr.bound⟩
def oApp : Ty AppD where
  sz := 1
  rel := fun w F x cs => ∃ v, cs = [v] ∧ Ow oRule 38 w F v x.rules
  len := fun ⟨v, h, _⟩ => by rw [h]; rfl
  one := fun ⟨v, h, hr⟩ u hu => by
    have h1 := hr.oneCell
    rw [h] at hu; simp at hu; rcases hu with rfl; exact h1
  mono := fun hF ⟨v, h, hr⟩ => ⟨v, h, hr.mono hF⟩
  move := fun hm ⟨v, h, hr⟩ => ⟨v, h, hr.move hm⟩
  bound := fun ⟨v, h, hr⟩ => ⟨v, h, hr.bound⟩
theorem Rd.map {α : Type} {d d' : Ty α} {w : World} {F : Nat → Prop} {v : Value} {xs : List α} (hs : d.sz = d'.sz) (hr : ∀ x cs, d.rel w F x cs → d'.rel w F x cs) (h : Rd d w F v xs) : Rd d' w F v xs := by
  obtain ⟨A, c, rfl, h1, h2, h3⟩ := h
  refine ⟨A, c, rfl, h1, h2, fun hp => ?_⟩
  obtain ⟨b, o, rfl, hF, hlt, hc⟩ := h3 hp
  refine ⟨b, o, rfl, hF, hlt, fun j x hj => ?_⟩
  obtain ⟨cs, h4, h5⟩ := hc j x hj
  exact ⟨cs, hr x cs h4, by rw [← hs]; exact h5⟩
theorem Ow.rdRules {w : World} {F : Nat → Prop} {v : Value} {xs : List RuleD} {e : TypeId} (h : Ow oRule e w F v xs) : Rd tRule w F v xs :=
  Rd.map (d := oRule) rfl (fun x cs ⟨v, h1, h2⟩ => ⟨v, h1, h2.rd⟩) h.rd
theorem Ow.rdApps {w : World} {F : Nat → Prop} {v : Value} {xs : List AppD} {e : TypeId} (h : Ow oApp e w F v xs) : Rd tApp w F v xs :=
  Rd.map (d := oApp) rfl (fun x cs ⟨v, h1, h2⟩ => ⟨v, h1, h2.rdRules⟩) h.rd
/-- One cell of one element of an own row is turned, and what hangs on it. -/
theorem Ow.update {α : Type} {d : Ty α} {e : TypeId} {w : World} {F : Nat → Prop} {v : Value} {xs : List α} (h : Ow d e w F v xs) {g : Nat} (hv : v.ownBlock = some g) (j : Nat) (hj : j < xs.length) :
    ∃ (Fj : Nat → Prop) (csj : List Value), d.rel w Fj xs[j] csj ∧ (∀ k, Fj k → F k ∧ k ≠ g ∧ k < w.heap.size) ∧ (∀ i u, csj[i]? = some u → w.cell? ⟨g, j * d.sz + i, none⟩ = some u) ∧
      ∀ (w' : World) (x' : α) (i : Nat) (u : Value) (F' G : Nat → Prop), i < d.sz → w'.heap[g]? = (w.setCell ⟨g, j * d.sz + i, none⟩ u).heap[g]? → (∀ k, F k → k < w.heap.size → k ≠ g → ¬ Fj k → w'.heap[k]? = w.heap[k]?) →
        d.rel w' F' x' (csj.set i u) → (∀ k, F' k → Fj k ∨ w.heap.size ≤ k) → (∀ k, F k → G k) → (∀ k, w.heap.size ≤ k → G k) → Ow d e w' G v (xs.set j x') := by
  obtain ⟨cs, Fs, h1, h2, h3, h4, h5⟩ := h.bound
  have hlen := h1.1
  rcases h1.2 with ⟨rfl, _⟩ | ⟨g', cap, cur, rfl, hb, hh, hc1, hc2, hc3, hc4⟩
  · simp [Value.ownBlock] at hv
  · simp only [Value.ownBlock, Option.some.injEq] at hv
    subst hv
    have hlt := (h1.lt g' rfl).2
    refine ⟨Fs j, (cs.drop (j * d.sz)).take d.sz, h5 j _ (List.getElem?_eq_getElem hj), fun k hk => ⟨(h3 j k hk).1.1, fun e' => (h3 j k hk).2 (by rw [e']; rfl), (h3 j k hk).1.2⟩, fun i u hi => ?_, ?_⟩
    · rw [List.getElem?_take] at hi
      split at hi
      · rw [List.getElem?_drop] at hi
        have := h1.cells (g := g') rfl (j * d.sz + i) u hi
        have ha : (⟨g', 0, none⟩ : Addr).add (j * d.sz + i) = ⟨g', j * d.sz + i, none⟩ := by unfold Addr.add; split <;> simp_all
        rwa [ha] at this
      · cases hi
    · intro w' x' i u F' G hi hg hk hr hF' hG hGn
      refine ⟨cs.set (j * d.sz + i) u, fun q k => if q = j then F' k else Fs q k, ⟨by simp [hlen], .inr ⟨g', cap, cur.setIfInBounds (j * d.sz + i) u, by simp, hb, ?_, by simpa using hc1, hc2, by simpa using hc3, ?_⟩⟩, fun k hk' => ?_, ?_, ?_, ?_⟩
      · rw [hg]; exact blk_set hh _ _
      · simp [List.take_set, hc4]
      · simp [Value.ownBlock] at hk'; subst hk'; exact hG _ (h2 _ rfl).1
      · intro q k hq
        by_cases hqj : q = j
        · subst hqj
          simp only [if_true] at hq
          rcases hF' k hq with h' | h'
          · exact ⟨hG _ (h3 q k h').1.1, (h3 q k h').2⟩
          · exact ⟨hGn _ h', fun e' => by simp [Value.ownBlock] at e'; omega⟩
        · simp only [if_neg hqj] at hq
          exact ⟨hG _ (h3 q k hq).1.1, (h3 q k hq).2⟩
      · intro a b k hab ha hb'
        by_cases haj : a = j
        · subst haj
          simp only [if_true, if_neg (Ne.symm hab)] at ha hb'
          rcases hF' k ha with h' | h'
          · exact h4 a b k hab h' hb'
          · have := (h3 b k hb').1.2; omega
        · by_cases hbj : b = j
          · subst hbj
            simp only [if_true, if_neg haj] at ha hb'
            rcases hF' k hb' with h' | h'
            · exact h4 a b k hab ha h'
            · have := (h3 a k ha).1.2; omega
          · simp only [if_neg haj, if_neg hbj] at ha hb'
            exact h4 a b k hab ha hb'
      · intro q x hq
        by_cases hqj : q = j
        · subst hqj
          simp only [List.getElem?_set_self hj, Option.some.injEq] at hq
          subst hq
          simp only [if_true]
          rw [List.drop_set, if_neg (by omega), Nat.add_sub_cancel_left, List.take_set]
          exact hr
        · rw [List.getElem?_set_ne (Ne.symm hqj)] at hq
          simp only [if_neg hqj]
          have h6 := h5 q x hq
          have h7 : ((cs.set (j * d.sz + i) u).drop (q * d.sz)).take d.sz = (cs.drop (q * d.sz)).take d.sz := by
            rw [List.drop_set]
            by_cases hlt' : q < j
            · have : (q + 1) * d.sz ≤ j * d.sz := Nat.mul_le_mul_right _ hlt'
              rw [Nat.add_mul, Nat.one_mul] at this
              rw [if_neg (by omega), List.take_set_of_le (by omega)]
            · have : (j + 1) * d.sz ≤ q * d.sz := Nat.mul_le_mul_right _ (by omega)
              rw [Nat.add_mul, Nat.one_mul] at this
              rw [if_pos (by omega)]
          rw [h7]
          refine d.move (fun k hk' => hk k (h3 q k hk').1.1 (h3 q k hk').1.2 (fun e' => (h3 q k hk').2 (by rw [e']; rfl)) (fun hj' => h4 q j k hqj hk' hj')) h6
end Go.Proofs.Ytmnccekljombmaa
