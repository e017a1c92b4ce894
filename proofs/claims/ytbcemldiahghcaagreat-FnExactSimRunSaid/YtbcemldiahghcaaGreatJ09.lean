/- Texts joined: Spc3, Ins, Store. -/
import Derived.Test.YtbcemldiahghcaaGreatJ08
import Derived.Test.YtbcemldiahghcaaGreatJ04
import Derived.Test.YtbcemldiahghcaaGreatJ03
import Derived.Test.YtbcemldiahghcaaGreatJ02
import Derived.Deep.MidRow
namespace Go.Proofs.YtbcemldiahghcaaGreat
set_option linter.unusedVariables false
set_option linter.unusedSimpArgs false
set_option maxRecDepth 100000
open Go.RowKit
theorem Rd.alloc {α : Type} {d : Ty α} {w : World} {F : Nat → Prop} {v : Value} {xs : List α} (h : Rd d w F v xs) (o : Obj) : Rd d (w.alloc o) F v xs := h.below (balloc (Below.refl _ _) o)
theorem simOk_false1 {s : SimD} (h : ¬ s.states.length = 4) : simOk s = false := by simp [simOk, h]
theorem simOk_false2 {s : SimD} (h : evsOk s.queue 100 = false) : simOk s = false := by simp [simOk, h]
theorem simOk_false3 {s : SimD} (h : outsOk s.outs 96 = false) : simOk s = false := by simp [simOk, h]
theorem simOk_false4 {s : SimD} {k : Nat} (hk : k < s.states.length) (h : stOk s.states[k] = false) : simOk s = false := by simp [simOk, all_false hk h]
set_option maxHeartbeats 2000000 in
theorem SimOk_c (vs vq vo : Value) (s : SimD) (F : Nat → Prop) (w : World) (hs : Rd tSt w F vs s.states) (hq : Rd tEv w F vq s.queue) (ho : Rd tOut w F vo s.outs) :
    Calls Tryz.prog 71 #[.agg #[vs, vq, vo]] w fun e w' => e = .returned (.bool (simOk s)) ∧ Below w.heap.size w w' := by
  obtain ⟨A, cp, rfl, -, hlen, -⟩ := id hs
  by_cases q1 : s.states.length = 4
  · have hn : ((s.states.length : Int) != 4) = false := by simp [q1]
    have Q1 := hid q1
    have hl4 : s.states.length ≤ 4 := by omega
    clear q1
    by_cases q2 : evsOk s.queue 100 = true
    · by_cases q3 : outsOk s.outs 96 = true
      · go_enter Tryz.func71, Tryz.ntmps71
        go_wp2
        refine region_plan (fun w' => Below (w.alloc (.cells #[.slice A s.states.length cp, vq, vo] 28)).heap.size (w.alloc (.cells #[.slice A s.states.length cp, vq, vo] 28)) w') [(0, true), (1, true), (2, true), (3, true), (4, true), (5, true), (6, true), (7, false), (8, false), (9, true), (10, true), (11, true), (12, true), (13, true), (14, false), (15, true), (16, true)] (by kernel_rfl) (by kernel_rfl) (fun _ _ d _ _ h => by cases d <;> exact h) ?_
        have HS := (Below.refl (w.alloc (.cells #[.slice A s.states.length cp, vq, vo] 28)).heap.size (w.alloc (.cells #[.slice A s.states.length cp, vq, vo] 28))).drew
        iterate 7 (first | (refine seq_take (v := ?_) (by rfl) HS (by rfl) ?_ ?_; rotate_left; (focus (intro wS hS; obtain ⟨kc, kf⟩ := bcell hS; go_simp; (try (with_reducible rfl)); done)); (intro K hK; go_simp; refine hK _ ?_; clear hK K)) | (refine seq_skip (by rfl) HS (by rfl) ?_; (intro K hK; go_simp; refine hK _ ?_; clear hK K)))
        refine seq_do (by rfl) (by rfl) (fun K hK => ?_)
        go_simp; refine (l2Most_c _).mono ?_; rintro e w1 ⟨rfl, rfl⟩; refine hK _ _ (Or.inr HS) ?_; clear hK K
        refine seq_do (by rfl) (by rfl) (fun K hK => ?_)
        go_simp; refine (l2Events_c _ s.queue _ F _ ((hq.alloc _).below HS)).mono ?_; rintro e w1 ⟨he, hb1⟩; rw [q2] at he; subst he; have HS1 := bthen' HS hb1; refine hK _ _ (Or.inr HS1) ?_; clear hK K HS; have HS := HS1; clear HS1
        iterate 5 (first | (refine seq_take (v := ?_) (by rfl) HS (by rfl) ?_ ?_; rotate_left; (focus (intro wS hS; obtain ⟨kc, kf⟩ := bcell hS; go_simp; (try (with_reducible rfl)); done)); (intro K hK; go_simp; refine hK _ ?_; clear hK K)) | (refine seq_skip (by rfl) HS (by rfl) ?_; (intro K hK; go_simp; refine hK _ ?_; clear hK K)))
        refine seq_do (by rfl) (by rfl) (fun K hK => ?_)
        go_simp; refine (l2Outs_c _ s.outs _ F _ ((ho.alloc _).below HS)).mono ?_; rintro e w1 ⟨he, hb1⟩; rw [q3] at he; subst he; have HS1 := bthen' HS hb1; refine hK _ _ (Or.inr HS1) ?_; clear hK K HS; have HS := HS1; clear HS1
        iterate 2 (first | (refine seq_take (v := ?_) (by rfl) HS (by rfl) ?_ ?_; rotate_left; (focus (intro wS hS; obtain ⟨kc, kf⟩ := bcell hS; go_simp; (try (with_reducible rfl)); done)); (intro K hK; go_simp; refine hK _ ?_; clear hK K)) | (refine seq_skip (by rfl) HS (by rfl) ?_; (intro K hK; go_simp; refine hK _ ?_; clear hK K)))
        simp only [wpSeq]
        go_wp2
        go_loopw [3] (fun i wr => ∃ k : Nat, i = .int .i64 k ∧ k ≤ s.states.length ∧ Hid ((s.states.take k).all stOk = true) ∧ Below (w.heap.size + 1) (w.alloc (.cells #[.slice A s.states.length cp, vq, vo] 28)) wr) (fun i _ => s.states.length - (intOf i).toNat)
        case atStart => exact ⟨0, rfl, Nat.zero_le _, rfl, by simpa using HS⟩
        case round =>
          obtain ⟨k, rfl, hk, hal, hb⟩ := hrel
          have hc0 : wr.cell? ⟨w.heap.size, 0, none⟩ = some (.slice A s.states.length cp) := by rw [hb.cell (by simp)]; simp
          have hsz : w.heap.size < wr.heap.size := by have := hb.size; simp at this; omega
          by_cases hlt : k < s.states.length
          · have hrd : Rd tSt wr F (.slice A s.states.length cp) s.states := (hs.alloc _).below (by simpa using hb)
            obtain ⟨b0, o0, rfl, hb0, a0, a1, a2⟩ := st_at hrd k hlt
            by_cases t0 : stOk s.states[k] = true
            · have al := hid (all_snoc hlt hal.out t0)
              have t0' : stOk ⟨s.states[k].x, s.states[k].y, s.states[k].c⟩ = true := t0
              clear t0
              go_wp2_with (go_at_call 95; refine (l1StateOk_c _ _ _ _).mono ?_; rintro e w1 ⟨rfl, hb1⟩)
              go_roundw
              case rel => exact ⟨k + 1, by go_num, by omega, al, bthen hb hb1 hsz⟩
              case measure => simp [intOf]; omega
            · replace t0 : stOk s.states[k] = false := by simpa using t0
              have t0' : stOk ⟨s.states[k].x, s.states[k].y, s.states[k].c⟩ = false := t0
              have HF := hid (simOk_false4 hlt t0)
              clear t0
              go_wp2_with (go_at_call 95; refine (l1StateOk_c _ _ _ _).mono ?_; rintro e w1 ⟨rfl, hb1⟩)
              go_ret
              exact ⟨by rw [HF.out]; rfl, ((Below.refl _ _).alloc (Nat.le_refl _) _).trans ((bthen hb hb1 hsz).mono (by simp))⟩
          · have hkl : k = s.states.length := by omega
            subst hkl
            have hall' := hal.out
            rw [List.take_length] at hall'
            have HF := hid (show simOk s = true by simp [simOk, hall', Q1.out, q2, q3])
            clear hall'
            go_wp2
            go_ret
            exact ⟨by rw [HF.out]; rfl, ((Below.refl _ _).alloc (Nat.le_refl _) _).trans (hb.mono (by simp))⟩
      · replace q3 : outsOk s.outs 96 = false := by simpa using q3
        have HF := hid (simOk_false3 q3)
        go_enter Tryz.func71, Tryz.ntmps71
        go_wp2
        refine region_plan (fun w' => Below (w.alloc (.cells #[.slice A s.states.length cp, vq, vo] 28)).heap.size (w.alloc (.cells #[.slice A s.states.length cp, vq, vo] 28)) w') [(0, true), (1, true), (2, true), (3, true), (4, true), (5, true), (6, true), (7, false), (8, false), (9, true), (10, true), (11, true), (12, true), (13, true), (14, false), (15, true), (16, true)] (by kernel_rfl) (by kernel_rfl) (fun _ _ d _ _ h => by cases d <;> exact h) ?_
        have HS := (Below.refl (w.alloc (.cells #[.slice A s.states.length cp, vq, vo] 28)).heap.size (w.alloc (.cells #[.slice A s.states.length cp, vq, vo] 28))).drew
        iterate 7 (first | (refine seq_take (v := ?_) (by rfl) HS (by rfl) ?_ ?_; rotate_left; (focus (intro wS hS; obtain ⟨kc, kf⟩ := bcell hS; go_simp; (try (with_reducible rfl)); done)); (intro K hK; go_simp; refine hK _ ?_; clear hK K)) | (refine seq_skip (by rfl) HS (by rfl) ?_; (intro K hK; go_simp; refine hK _ ?_; clear hK K)))
        refine seq_do (by rfl) (by rfl) (fun K hK => ?_)
        go_simp; refine (l2Most_c _).mono ?_; rintro e w1 ⟨rfl, rfl⟩; refine hK _ _ (Or.inr HS) ?_; clear hK K
        refine seq_do (by rfl) (by rfl) (fun K hK => ?_)
        go_simp; refine (l2Events_c _ s.queue _ F _ ((hq.alloc _).below HS)).mono ?_; rintro e w1 ⟨he, hb1⟩; rw [q2] at he; subst he; have HS1 := bthen' HS hb1; refine hK _ _ (Or.inr HS1) ?_; clear hK K HS; have HS := HS1; clear HS1
        iterate 5 (first | (refine seq_take (v := ?_) (by rfl) HS (by rfl) ?_ ?_; rotate_left; (focus (intro wS hS; obtain ⟨kc, kf⟩ := bcell hS; go_simp; (try (with_reducible rfl)); done)); (intro K hK; go_simp; refine hK _ ?_; clear hK K)) | (refine seq_skip (by rfl) HS (by rfl) ?_; (intro K hK; go_simp; refine hK _ ?_; clear hK K)))
        refine seq_do (by rfl) (by rfl) (fun K hK => ?_)
        go_simp; refine (l2Outs_c _ s.outs _ F _ ((ho.alloc _).below HS)).mono ?_; rintro e w1 ⟨he, hb1⟩; rw [q3] at he; subst he; have HS1 := bthen' HS hb1; refine hK _ _ (Or.inr HS1) ?_; clear hK K HS; have HS := HS1; clear HS1
        iterate 2 (first | (refine seq_take (v := ?_) (by rfl) HS (by rfl) ?_ ?_; rotate_left; (focus (intro wS hS; obtain ⟨kc, kf⟩ := bcell hS; go_simp; (try (with_reducible rfl)); done)); (intro K hK; go_simp; refine hK _ ?_; clear hK K)) | (refine seq_skip (by rfl) HS (by rfl) ?_; (intro K hK; go_simp; refine hK _ ?_; clear hK K)))
        simp only [wpSeq]
        go_wp2
        go_ret
        exact ⟨by rw [HF.out]; rfl, bthen' (balloc (Below.refl _ _) _) HS⟩
    · replace q2 : evsOk s.queue 100 = false := by simpa using q2
      have HF := hid (simOk_false2 q2)
      go_enter Tryz.func71, Tryz.ntmps71
      go_wp2
      refine region_plan (fun w' => Below (w.alloc (.cells #[.slice A s.states.length cp, vq, vo] 28)).heap.size (w.alloc (.cells #[.slice A s.states.length cp, vq, vo] 28)) w') [(0, true), (1, true), (2, true), (3, true), (4, true), (5, true), (6, true), (7, false), (8, false), (9, true), (10, true), (11, true), (12, true), (13, true), (14, false), (15, true), (16, true)] (by kernel_rfl) (by kernel_rfl) (fun _ _ d _ _ h => by cases d <;> exact h) ?_
      have HS := (Below.refl (w.alloc (.cells #[.slice A s.states.length cp, vq, vo] 28)).heap.size (w.alloc (.cells #[.slice A s.states.length cp, vq, vo] 28))).drew
      iterate 7 (first | (refine seq_take (v := ?_) (by rfl) HS (by rfl) ?_ ?_; rotate_left; (focus (intro wS hS; obtain ⟨kc, kf⟩ := bcell hS; go_simp; (try (with_reducible rfl)); done)); (intro K hK; go_simp; refine hK _ ?_; clear hK K)) | (refine seq_skip (by rfl) HS (by rfl) ?_; (intro K hK; go_simp; refine hK _ ?_; clear hK K)))
      refine seq_do (by rfl) (by rfl) (fun K hK => ?_)
      go_simp; refine (l2Most_c _).mono ?_; rintro e w1 ⟨rfl, rfl⟩; refine hK _ _ (Or.inr HS) ?_; clear hK K
      refine seq_do (by rfl) (by rfl) (fun K hK => ?_)
      go_simp; refine (l2Events_c _ s.queue _ F _ ((hq.alloc _).below HS)).mono ?_; rintro e w1 ⟨he, hb1⟩; rw [q2] at he; subst he; have HS1 := bthen' HS hb1; refine hK _ _ (Or.inr HS1) ?_; clear hK K HS; have HS := HS1; clear HS1
      iterate 5 (first | (refine seq_take (v := ?_) (by rfl) HS (by rfl) ?_ ?_; rotate_left; (focus (intro wS hS; obtain ⟨kc, kf⟩ := bcell hS; go_simp; (try (with_reducible rfl)); done)); (intro K hK; go_simp; refine hK _ ?_; clear hK K)) | (refine seq_skip (by rfl) HS (by rfl) ?_; (intro K hK; go_simp; refine hK _ ?_; clear hK K)))
      refine seq_dont (by rfl) (by rfl) (fun K hK => ?_); go_simp; refine hK _ _ (Or.inr HS) ?_; clear hK K
      iterate 2 (first | (refine seq_take (v := ?_) (by rfl) HS (by rfl) ?_ ?_; rotate_left; (focus (intro wS hS; obtain ⟨kc, kf⟩ := bcell hS; go_simp; (try (with_reducible rfl)); done)); (intro K hK; go_simp; refine hK _ ?_; clear hK K)) | (refine seq_skip (by rfl) HS (by rfl) ?_; (intro K hK; go_simp; refine hK _ ?_; clear hK K)))
      simp only [wpSeq]
      go_wp2
      go_ret
      exact ⟨by rw [HF.out]; rfl, bthen' (balloc (Below.refl _ _) _) HS⟩
  · have HF := hid (simOk_false1 q1)
    have hn : ((s.states.length : Int) != 4) = true := by simp; omega
    clear q1
    go_enter Tryz.func71, Tryz.ntmps71
    go_wp2
    refine region_plan (fun w' => Below (w.alloc (.cells #[.slice A s.states.length cp, vq, vo] 28)).heap.size (w.alloc (.cells #[.slice A s.states.length cp, vq, vo] 28)) w') [(0, true), (1, true), (2, true), (3, true), (4, true), (5, true), (6, true), (7, false), (8, false), (9, true), (10, true), (11, true), (12, true), (13, true), (14, false), (15, true), (16, true)] (by kernel_rfl) (by kernel_rfl) (fun _ _ d _ _ h => by cases d <;> exact h) ?_
    have HS := (Below.refl (w.alloc (.cells #[.slice A s.states.length cp, vq, vo] 28)).heap.size (w.alloc (.cells #[.slice A s.states.length cp, vq, vo] 28))).drew
    iterate 7 (first | (refine seq_take (v := ?_) (by rfl) HS (by rfl) ?_ ?_; rotate_left; (focus (intro wS hS; obtain ⟨kc, kf⟩ := bcell hS; go_simp; (try (with_reducible rfl)); done)); (intro K hK; go_simp; refine hK _ ?_; clear hK K)) | (refine seq_skip (by rfl) HS (by rfl) ?_; (intro K hK; go_simp; refine hK _ ?_; clear hK K)))
    refine seq_dont (by rfl) (by rfl) (fun K hK => ?_); go_simp; refine hK _ _ (Or.inr HS) ?_; clear hK K
    refine seq_dont (by rfl) (by rfl) (fun K hK => ?_); go_simp; refine hK _ _ (Or.inr HS) ?_; clear hK K
    iterate 5 (first | (refine seq_take (v := ?_) (by rfl) HS (by rfl) ?_ ?_; rotate_left; (focus (intro wS hS; obtain ⟨kc, kf⟩ := bcell hS; go_simp; (try (with_reducible rfl)); done)); (intro K hK; go_simp; refine hK _ ?_; clear hK K)) | (refine seq_skip (by rfl) HS (by rfl) ?_; (intro K hK; go_simp; refine hK _ ?_; clear hK K)))
    refine seq_dont (by rfl) (by rfl) (fun K hK => ?_); go_simp; refine hK _ _ (Or.inr HS) ?_; clear hK K
    iterate 2 (first | (refine seq_take (v := ?_) (by rfl) HS (by rfl) ?_ ?_; rotate_left; (focus (intro wS hS; obtain ⟨kc, kf⟩ := bcell hS; go_simp; (try (with_reducible rfl)); done)); (intro K hK; go_simp; refine hK _ ?_; clear hK K)) | (refine seq_skip (by rfl) HS (by rfl) ?_; (intro K hK; go_simp; refine hK _ ?_; clear hK K)))
    simp only [wpSeq]
    go_wp2
    go_ret
    exact ⟨by rw [HF.out]; rfl, bthen' (balloc (Below.refl _ _) _) HS⟩
end Go.Proofs.YtbcemldiahghcaaGreat

namespace Go.Proofs.YtbcemldiahghcaaGreat
set_option linter.unusedVariables false
set_option linter.unusedSimpArgs false
set_option linter.unusedSectionVars false
section
variable {α : Type} [Inhabited α] {lt : α → α → Bool}
def shf (l : List α) (x : α) (n : Nat) : List α := (l ++ [x]).take (n + 1) ++ l.drop n
theorem shf_last (l : List α) (x : α) : shf l x l.length = l ++ [x] := by
  rw [shf, List.take_of_length_le (by simp), List.drop_length, List.append_nil]
theorem shf_len (l : List α) (x : α) {n : Nat} (h : n ≤ l.length) : (shf l x n).length = l.length + 1 := by
  simp [shf]; omega
theorem shf_at (l : List α) (x : α) {n : Nat} (h0 : 0 < n) (h : n ≤ l.length) (h2 : n - 1 < (shf l x n).length) : (shf l x n)[n - 1] = nth l (n - 1) := by
  rw [nth_eq (by omega)]
  simp only [shf]
  rw [List.getElem_append_left (by simp; omega), List.getElem_take, List.getElem_append_left (by omega)]
theorem shf_step (l : List α) (x : α) {n : Nat} (h0 : 0 < n) (h : n ≤ l.length) : (shf l x n).set n (nth l (n - 1)) = shf l x (n - 1) := by
  obtain ⟨m, rfl⟩ : ∃ m, n = m + 1 := ⟨n - 1, by omega⟩
  simp only [Nat.add_sub_cancel]
  rw [nth_eq (by omega)]
  have h1 : (l ++ [x]).take (m + 1 + 1) = (l ++ [x]).take (m + 1) ++ [(l ++ [x])[m + 1]'(by simp; omega)] := by rw [List.take_succ_eq_append_getElem]
  have h2 : ((l ++ [x]).take (m + 1)).length = m + 1 := by simp; omega
  have h3 : l.drop m = l[m] :: l.drop (m + 1) := by rw [List.drop_eq_getElem_cons (by omega)]
  rw [shf, shf, h1, h3, List.append_assoc, List.set_append, if_neg (by omega), h2]
  simp
theorem shf_end (l : List α) (x : α) {k : Nat} (h : k ≤ l.length) : (shf l x k).set k x = insAt l x k := by
  have h1 : (l ++ [x]).take (k + 1) = l.take k ++ [(l ++ [x])[k]'(by simp; omega)] := by
    rw [List.take_succ_eq_append_getElem (by simp; omega), List.take_append_of_le_length h]
  have h2 : (l.take k).length = k := by simp; omega
  rw [shf, h1, insAt, List.append_assoc, List.set_append, if_neg (by omega), h2]
  simp
theorem place_go {l : List α} {x : α} {k : Nat} (h0 : 0 < k) (h : lt x (nth l (k - 1)) = true) : place lt l x k = place lt l x (k - 1) := by
  obtain ⟨m, rfl⟩ : ∃ m, k = m + 1 := ⟨k - 1, by omega⟩
  simp only [Nat.add_sub_cancel] at h ⊢
  rw [place, if_pos h]
theorem place_stop {l : List α} {x : α} {k : Nat} (h : 0 < k → lt x (nth l (k - 1)) = false) : place lt l x k = k := by
  cases k with
  | zero => rfl
  | succ m =>
    have := h (by omega)
    simp only [Nat.add_sub_cancel] at this
    rw [place, if_neg (by simp [this])]
theorem fold_snoc {β : Type} (f : List α → α → List α) {l : List α} {k : Nat} (h : k < l.length) : (l.take (k + 1)).foldl f [] = f ((l.take k).foldl f []) l[k] := by
  rw [List.take_succ_eq_append_getElem h, List.foldl_append]
  rfl
theorem insOnce_len [DecidableEq α] (l : List α) (x : α) : (insOnce lt l x).length ≤ l.length + 1 := by
  unfold insOnce
  split
  · omega
  · have := place_le (lt := lt) l x l.length
    simp [insAt]; omega
theorem sortOnce_len [DecidableEq α] (xs : List α) : ∀ k, k ≤ xs.length → ((xs.take k).foldl (insOnce lt) []).length ≤ k
  | 0, _ => by simp
  | k + 1, h => by
    rw [fold_snoc (β := α) _ (by omega)]
    have := insOnce_len (lt := lt) ((xs.take k).foldl (insOnce lt) []) (xs[k]'(by omega))
    have := sortOnce_len xs k (by omega)
    omega
theorem sortAll_len (xs : List α) : ∀ k, k ≤ xs.length → ((xs.take k).foldl (insAll lt) []).length = k
  | 0, _ => by simp
  | k + 1, h => by
    rw [fold_snoc (β := α) _ (by omega)]
    have h1 := sortAll_len xs k (by omega)
    have := place_le (lt := lt) ((xs.take k).foldl (insAll lt) []) (xs[k]'(by omega)) ((xs.take k).foldl (insAll lt) []).length
    simp [insAll, insAt]; omega
end
end Go.Proofs.YtbcemldiahghcaaGreat

namespace Go.Proofs.YtbcemldiahghcaaGreat
set_option linter.unusedVariables false
set_option linter.unusedSimpArgs false
set_option linter.unusedSectionVars false
open Go.RowKit
def ovw (l : List Value) : Nat → List Value → List Value
  | _, [] => l
  | o, v :: r => ovw (l.set o v) (o + 1) r
theorem ovw_len : ∀ (vs l : List Value) (o : Nat), (ovw l o vs).length = l.length
  | [], _, _ => rfl
  | v :: r, l, o => by rw [ovw, ovw_len r]; simp
theorem ovw_mid : ∀ (vs b a c : List Value), b.length = vs.length → ovw (a ++ b ++ c) a.length vs = a ++ vs ++ c
  | [], b, a, c, h => by
    have : b = [] := by simpa using h
    subst this; rfl
  | v :: r, [], a, c, h => by simp at h
  | v :: r, u :: b, a, c, h => by
    have := ovw_mid r b (a ++ [v]) c (by simpa using h)
    rw [ovw, show (a ++ u :: b ++ c).set a.length v = (a ++ [v]) ++ b ++ c by simp [List.set_append], ← (by simp : (a ++ [v]).length = a.length + 1), this]
    simp
theorem ovw_take : ∀ (vs l : List Value) (o n : Nat), (ovw l o vs).take n = ovw (l.take n) o vs
  | [], _, _, _ => rfl
  | v :: r, l, o, n => by rw [ovw, ovw, ovw_take r, List.take_set]
theorem blk_ovw {g : Nat} {t : TypeId} {fr : Nat × Nat} : ∀ (vs : List Value) (o : Nat) (w : World) (cur : List Value), w.heap[g]? = some (.cells cur.toArray t fr) → (w.setCells g o vs).heap[g]? = some (.cells (ovw cur o vs).toArray t fr)
  | [], _, _, _, h => h
  | v :: r, o, w, cur, h => by
    rw [World.setCells, ovw]
    exact blk_ovw r (o + 1) _ _ (by rw [blk_set h]; simp)
theorem Ch.setCells {S : Nat → Prop} {w : World} {g : Nat} : ∀ (vs : List Value) (o : Nat) (w1 : World), Ch S w w1 → (S g ∨ w.heap.size ≤ g) → Ch S w (w1.setCells g o vs)
  | [], _, _, h, _ => h
  | v :: r, o, w1, h, hg => Ch.setCells r (o + 1) _ (h.setCell (p := ⟨g, o, none⟩) hg v) hg
theorem size_setCells {g : Nat} : ∀ (vs : List Value) (o : Nat) (w : World), (w.setCells g o vs).heap.size = w.heap.size
  | [], _, _ => rfl
  | v :: r, o, w => by rw [World.setCells, size_setCells r]; simp
theorem flat_ovw {α : Type} {cells : α → List Value} {sz : Nat} (hl : ∀ x, (cells x).length = sz) (xs : List α) (j : Nat) (hj : j < xs.length) (x : α) : ovw (xs.flatMap cells) (j * sz) (cells x) = (xs.set j x).flatMap cells := by
  have h1 : xs = xs.take j ++ xs[j] :: xs.drop (j + 1) := by simp
  have h2 : ((xs.take j).flatMap cells).length = j * sz := by rw [flatMap_len hl, List.length_take, Nat.min_eq_left (by omega)]
  have h3 : xs.set j x = xs.take j ++ x :: xs.drop (j + 1) := by rw [List.set_eq_take_append_cons_drop, if_pos hj]
  rw [h3]
  conv => lhs; rw [h1]
  simp only [List.flatMap_append, List.flatMap_cons, ← h2, ← List.append_assoc]
  exact ovw_mid (cells x) (cells xs[j]) _ _ (by rw [hl, hl])
theorem Ow.setAt {α : Type} {cells : α → List Value} {sz : Nat} {hl : ∀ x, (cells x).length = sz} {ho : ∀ x, ∀ u ∈ cells x, u.oneCell' = true} {e : TypeId} {w : World} {F : Nat → Prop} {v : Value} {xs : List α}
    (h : Ow (flat cells sz hl ho) e w F v xs) {g : Nat} (hv : v.ownBlock = some g) (j : Nat) (hj : j < xs.length) (x : α) :
    w.there g (j * sz) sz ∧ Ow (flat cells sz hl ho) e (w.setCells g (j * sz) (cells x)) F v (xs.set j x) ∧ Ch (fun k => k = g) w (w.setCells g (j * sz) (cells x)) := by
  have hr := h.flatRow
  have hF : ∀ k, v.ownBlock = some k → F k := fun k hk => h.inF hk
  obtain ⟨h1, h2⟩ := hr
  rcases h2 with ⟨rfl, h2⟩ | ⟨g', cap, cur, rfl, hb, hh, hc1, hc2, hc3, hc4⟩
  · simp [Value.ownBlock] at hv
  · simp only [Value.ownBlock, Option.some.injEq] at hv
    subst hv
    have hjn : (j + 1) * sz ≤ cur.size := by rw [hc3]; exact Nat.mul_le_mul_right _ (by omega)
    rw [Nat.add_mul, Nat.one_mul] at hjn
    refine ⟨fun i hi => ?_, ?_, Ch.setCells _ _ _ (Ch.refl _ _) (.inl rfl)⟩
    · have hlt : j * sz + i < cur.size := by omega
      exact ⟨by simp [World.cell?, hh, hlt], by simp [World.frozen?, hh]⟩
    · refine Ow.of_flat (base := 0) ⟨?_, .inr ⟨g', cap, (ovw cur.toList (j * sz) (cells x)).toArray, ?_, Nat.zero_le _, ?_, ?_, hc2, ?_, ?_⟩⟩ hF
      · rw [flatMap_len hl]
      · rw [List.length_set]
      · exact blk_ovw _ _ _ _ hh
      · simpa using hc1
      · simp [ovw_len, hc3]
      · rw [List.length_set, ovw_take, hc4]
        exact flat_ovw hl xs j hj x
variable {P : Program} {ops : Array Oper} {rest : List Oper} {o : Oper} {a : Act} {W : World} {Q : Exit → Act → World → Prop} {K : Act → World → Prop}
/-- The arm at a store of a whole element. -/
theorem ow_store {α : Type} {cells : α → List Value} {sz : Nat} {hl : ∀ x, (cells x).length = sz} {ho1 : ∀ x, ∀ u ∈ cells x, u.oneCell' = true} {e : TypeId} {F : Nat → Prop} {v : Value} {xs : List α} (hgd : o.guard = none) (ty : TypeId) (x y : Operand) (ho : o.op = .store ty x y)
    (HO : Ow (flat cells sz hl ho1) e W F v xs) {g : Nat} (hv : v.ownBlock = some g) (j : Nat) (hj : j < xs.length) (z : α) (hx : a.eval x = .pointer (some ⟨g, j * sz, none⟩)) (hy : a.eval y = .agg (cells z).toArray)
    (hi : (P.info? ty).map (·.size) = some sz)
    (h : ∀ w1, Ow (flat cells sz hl ho1) e w1 F v (xs.set j z) → Ch (fun k => k = g) W w1 → wpList P ops Q rest (a.put o.dst undef) w1) : wpList P ops Q (o :: rest) a W := by
  obtain ⟨h1, h2, h3⟩ := HO.setAt hv j hj z
  refine wpList_store_mid hgd ty x y ho g (j * sz) (cells z).toArray hx hy (by simpa [hl] using h1) (by simpa [hl] using hi) (all_oneCell_toArray (ho1 z)) ?_
  exact h _ h2 h3
end Go.Proofs.YtbcemldiahghcaaGreat
