/- Texts joined: Sort, Spc1, Pure1. -/
import Derived.Test.YtmnccekljombmaaJ00
import Derived.Test.YtmnccekljombmaaJ03
namespace Go.Proofs.Ytmnccekljombmaa
set_option linter.unusedVariables false
set_option linter.unusedSectionVars false
def lexLt : List Int → List Int → Bool
  | a :: l, b :: m => if a = b then lexLt l m else decide (a < b)
  | _, _ => false
theorem lexLt_asymm : ∀ (l m : List Int), lexLt l m = true → lexLt m l = false
  | [], _, h => by simp [lexLt] at h
  | _ :: _, [], h => by simp [lexLt] at h
  | a :: l, b :: m, h => by
    simp only [lexLt] at h ⊢
    by_cases e : a = b
    · subst e; rw [if_pos rfl] at h ⊢; exact lexLt_asymm l m h
    · rw [if_neg e] at h; rw [if_neg (Ne.symm e)]; simp at h ⊢; omega
theorem lexLt_trans : ∀ (l m n : List Int), lexLt l m = true → lexLt m n = true → lexLt l n = true
  | [], _, _, h, _ => by simp [lexLt] at h
  | _ :: _, [], _, h, _ => by simp [lexLt] at h
  | _ :: _, _ :: _, [], _, h => by simp [lexLt] at h
  | a :: l, b :: m, c :: n, h1, h2 => by
    simp only [lexLt] at h1 h2 ⊢
    by_cases e : a = b
    · subst e
      rw [if_pos rfl] at h1
      by_cases e2 : a = c
      · subst e2; rw [if_pos rfl] at h2 ⊢; exact lexLt_trans l m n h1 h2
      · rw [if_neg e2] at h2 ⊢; exact h2
    · rw [if_neg e] at h1
      simp only [decide_eq_true_eq] at h1
      by_cases e2 : b = c
      · subst e2; rw [if_neg e]; simpa using h1
      · rw [if_neg e2] at h2
        simp only [decide_eq_true_eq] at h2
        rw [if_neg (by omega)]
        simp; omega
theorem lexLt_total : ∀ (l m : List Int), l.length = m.length → lexLt l m = false → lexLt m l = false → l = m
  | [], [], _, _, _ => rfl
  | [], _ :: _, h, _, _ => by simp at h
  | _ :: _, [], h, _, _ => by simp at h
  | a :: l, b :: m, h, h1, h2 => by
    simp only [lexLt] at h1 h2
    by_cases e : a = b
    · subst e; rw [if_pos rfl] at h1 h2; rw [lexLt_total l m (by simpa using h) h1 h2]
    · rw [if_neg e] at h1; rw [if_neg (Ne.symm e)] at h2; simp at h1 h2; omega
def EvD.key (e : EvD) : List Int := [e.time, e.to, e.from_, e.count, e.n, e.kind, e.arg]
def OutD.key (o : OutD) : List Int := [o.time, o.proc, o.count, o.n, o.value]
def evLess (a b : EvD) : Bool := lexLt a.key b.key
def outLess (a b : OutD) : Bool := lexLt a.key b.key
theorem ev_ord : StrictOrd evLess where
  asymm a b := lexLt_asymm _ _
  trans a b c := lexLt_trans _ _ _
  total a b h1 h2 := by
    have := lexLt_total a.key b.key rfl h1 h2
    cases a; cases b; simpa [EvD.key] using this
theorem out_ord : StrictOrd outLess where
  asymm a b := lexLt_asymm _ _
  trans a b c := lexLt_trans _ _ _
  total a b h1 h2 := by
    have := lexLt_total a.key b.key rfl h1 h2
    cases a; cases b; simpa [OutD.key] using this
section
variable {α : Type} [Inhabited α] (lt : α → α → Bool)
/-- The place of x in a row in order, sought from place k down. -/
def place (l : List α) (x : α) : Nat → Nat
  | 0 => 0
  | k + 1 => if lt x (nth l k) = true then place l x k else k + 1
def insAt (l : List α) (x : α) (k : Nat) : List α := l.take k ++ x :: l.drop k
def insOnce [DecidableEq α] (l : List α) (x : α) : List α := if 0 < place lt l x l.length ∧ nth l (place lt l x l.length - 1) = x then l else insAt l x (place lt l x l.length)
def sortOnce [DecidableEq α] (l : List α) : List α := l.foldl (insOnce lt) []
def insAll (l : List α) (x : α) : List α := insAt l x (place lt l x l.length)
def sortAll (l : List α) : List α := l.foldl (insAll lt) []
variable {lt}
theorem place_le (l : List α) (x : α) : ∀ k, place lt l x k ≤ k
  | 0 => Nat.le_refl _
  | k + 1 => by
    simp only [place]; split
    · have := place_le l x k; omega
    · exact Nat.le_refl _
theorem place_above (l : List α) (x : α) : ∀ k j, place lt l x k ≤ j → j < k → lt x (nth l j) = true
  | 0, j, _, h => by omega
  | k + 1, j, h1, h2 => by
    simp only [place] at h1
    split at h1
    · rename_i hl
      by_cases e : j = k
      · subst e; exact hl
      · exact place_above l x k j h1 (by omega)
    · omega
theorem place_below (l : List α) (x : α) : ∀ k, 0 < place lt l x k → lt x (nth l (place lt l x k - 1)) = false
  | 0, h => by simp [place] at h
  | k + 1, h => by
    simp only [place] at h ⊢
    split
    · rename_i hl; rw [if_pos hl] at h; exact place_below l x k h
    · rename_i hl; simpa using hl
theorem insAt_perm (l : List α) (x : α) (k : Nat) : (insAt l x k).Perm (l ++ [x]) := by
  unfold insAt
  have h1 : (l.take k ++ x :: l.drop k).Perm (x :: (l.take k ++ l.drop k)) := List.perm_middle
  rw [List.take_append_drop] at h1
  exact h1.trans (List.perm_append_singleton x l).symm
theorem nth_mem_take {l : List α} {k : Nat} {a : α} (h : a ∈ l.take k) : ∃ i, i < k ∧ i < l.length ∧ a = nth l i := by
  obtain ⟨i, hi, rfl⟩ := List.getElem_of_mem h
  simp only [List.length_take] at hi
  exact ⟨i, by omega, by omega, by rw [nth_eq (by omega)]; simp⟩
theorem nth_mem_drop {l : List α} {k : Nat} {a : α} (h : a ∈ l.drop k) : ∃ i, k ≤ i ∧ i < l.length ∧ a = nth l i := by
  obtain ⟨i, hi, rfl⟩ := List.getElem_of_mem h
  simp only [List.length_drop] at hi
  exact ⟨k + i, by omega, by omega, by rw [nth_eq (by omega)]; simp⟩
/-- In order: nothing behind comes ahead. -/
theorem insAll_sorted (O : StrictOrd lt) {l : List α} (h : l.Pairwise (fun a b => lt b a = false)) (x : α) : (insAll lt l x).Pairwise (fun a b => lt b a = false) := by
  unfold insAll insAt
  have hp := List.pairwise_iff_getElem.1 h
  have hle : ∀ a ∈ l.take (place lt l x l.length), lt x a = false := by
    intro a ha
    obtain ⟨i, hi, hil, rfl⟩ := nth_mem_take ha
    have hb := place_below (lt := lt) l x l.length (by omega)
    have hpl := place_le (lt := lt) l x l.length
    by_cases e : i = place lt l x l.length - 1
    · rw [e]; exact hb
    · have h3 := hp i (place lt l x l.length - 1) hil (by omega) (by omega)
      rw [← nth_eq, ← nth_eq] at h3
      exact O.le_trans h3 hb
  have hge : ∀ a ∈ l.drop (place lt l x l.length), lt a x = false := by
    intro a ha
    obtain ⟨i, hi, hil, rfl⟩ := nth_mem_drop ha
    exact O.asymm _ _ (place_above l x l.length i hi hil)
  refine List.pairwise_append.2 ⟨h.sublist (List.take_sublist _ _), List.pairwise_cons.2 ⟨hge, h.sublist (List.drop_sublist _ _)⟩, fun a ha b hb => ?_⟩
  rcases List.mem_cons.1 hb with rfl | hb
  · exact hle a ha
  · exact O.le_trans (hle a ha) (hge b hb)
theorem sortAll_ok (O : StrictOrd lt) (l : List α) : (sortAll lt l).Pairwise (fun a b => lt b a = false) ∧ (sortAll lt l).Perm l := by
  unfold sortAll
  have key : ∀ (l m : List α), m.Pairwise (fun a b => lt b a = false) → (l.foldl (insAll lt) m).Pairwise (fun a b => lt b a = false) ∧ (l.foldl (insAll lt) m).Perm (m ++ l) := by
    intro l
    induction l with
    | nil => intro m hm; exact ⟨hm, by simp⟩
    | cons x l ih =>
      intro m hm
      obtain ⟨h1, h2⟩ := ih (insAll lt m x) (insAll_sorted O hm x)
      refine ⟨h1, h2.trans ?_⟩
      have := (insAt_perm m x (place lt m x m.length)).append_right l
      unfold insAll
      simpa using this
  obtain ⟨h1, h2⟩ := key l [] List.Pairwise.nil
  exact ⟨h1, by simpa using h2⟩
/-- The heap's way and the reference's come to the same. -/
theorem drain_sortAll (O : StrictOrd lt) (l : List α) : hdrain lt l.length (heapOf lt l) = sortAll lt l := by
  obtain ⟨h1, h2⟩ := heapOf_ok O l
  obtain ⟨s1, s2⟩ := sortAll_ok O l
  have hlen : (heapOf lt l).length ≤ l.length := by rw [h2.length_eq]; exact Nat.le_refl _
  exact sorted_eq O (hdrain_sorted O _ _ hlen h1) s1 (((hdrain_perm _ _ hlen).trans h2).trans s2.symm)
variable [DecidableEq α]
/-- Each thing once, as they first come. -/
def once (l : List α) : List α := l.foldl (fun m x => if x ∈ m then m else m ++ [x]) []
theorem once_snoc (l : List α) (x : α) : once (l ++ [x]) = if x ∈ l then once l else once l ++ [x] := by
  have hm : ∀ y, y ∈ once l ↔ y ∈ l := by
    intro y
    have key : ∀ (l m : List α), y ∈ l.foldl (fun m x => if x ∈ m then m else m ++ [x]) m ↔ y ∈ m ∨ y ∈ l := by
      intro l
      induction l with
      | nil => intro m; simp
      | cons a l ih =>
        intro m
        simp only [List.foldl_cons]
        rw [ih]
        by_cases h : a ∈ m
        · rw [if_pos h]; simp only [List.mem_cons]
          constructor
          · rintro (h1 | h1)
            · exact Or.inl h1
            · exact Or.inr (Or.inr h1)
          · rintro (h1 | rfl | h1)
            · exact Or.inl h1
            · exact Or.inl h
            · exact Or.inr h1
        · rw [if_neg h]; simp [or_assoc]
    have := key l []
    unfold once
    simpa using this
  unfold once at hm ⊢
  rw [List.foldl_append]
  simp only [List.foldl_cons, List.foldl_nil]
  by_cases h : x ∈ l
  · rw [if_pos ((hm x).2 h), if_pos h]
  · rw [if_neg (fun h2 => h ((hm x).1 h2)), if_neg h]
theorem mem_once (l : List α) (y : α) : y ∈ once l ↔ y ∈ l := by
  have key : ∀ n, ∀ l : List α, l.length = n → (y ∈ once l ↔ y ∈ l) := by
    intro n
    induction n with
    | zero => intro l h; obtain rfl := List.length_eq_zero_iff.1 h; simp [once]
    | succ n ih =>
      intro l h
      have hne : l ≠ [] := fun e => by rw [e] at h; simp at h
      rw [← List.dropLast_concat_getLast hne, once_snoc]
      have h2 := ih l.dropLast (by simp [h])
      split
      · rename_i hx
        rw [h2]; simp only [List.mem_append, List.mem_singleton]
        constructor
        · exact Or.inl
        · rintro (h3 | rfl)
          · exact h3
          · exact hx
      · simp only [List.mem_append, h2]
  exact key _ l rfl
theorem nodup_once (l : List α) : (once l).Nodup := by
  have key : ∀ n, ∀ l : List α, l.length = n → (once l).Nodup := by
    intro n
    induction n with
    | zero => intro l h; obtain rfl := List.length_eq_zero_iff.1 h; simp [once]
    | succ n ih =>
      intro l h
      have hne : l ≠ [] := fun e => by rw [e] at h; simp at h
      rw [← List.dropLast_concat_getLast hne, once_snoc]
      have h2 := ih l.dropLast (by simp [h])
      split
      · exact h2
      · rename_i hx
        refine List.nodup_append.2 ⟨h2, by simp, fun a ha b hb => ?_⟩
        simp only [List.mem_singleton] at hb
        subst hb
        intro e; subst e
        exact hx ((mem_once _ _).1 ha)
  exact key _ l rfl
theorem insOnce_ok (O : StrictOrd lt) {l : List α} (h : l.Pairwise (fun a b => lt a b = true)) (x : α) : (insOnce lt l x).Pairwise (fun a b => lt a b = true) ∧ ∀ y, y ∈ insOnce lt l x ↔ y ∈ l ∨ y = x := by
  have hp := List.pairwise_iff_getElem.1 h
  have hpl := place_le (lt := lt) l x l.length
  unfold insOnce
  split
  · rename_i hx
    refine ⟨h, fun y => ⟨Or.inl, ?_⟩⟩
    rintro (h1 | rfl)
    · exact h1
    · rw [← hx.2, nth_eq (by omega)]; exact List.getElem_mem _
  · rename_i hx
    refine ⟨?_, fun y => ?_⟩
    · unfold insAt
      have hle : ∀ a ∈ l.take (place lt l x l.length), lt a x = true := by
        intro a ha
        obtain ⟨i, hi, hil, rfl⟩ := nth_mem_take ha
        have hb := place_below (lt := lt) l x l.length (by omega)
        have hlast : lt (nth l (place lt l x l.length - 1)) x = true := by
          cases hc : lt (nth l (place lt l x l.length - 1)) x with
          | true => rfl
          | false => exact absurd ⟨by omega, O.total _ _ hc hb⟩ hx
        by_cases e : i = place lt l x l.length - 1
        · rw [e]; exact hlast
        · have h3 := hp i (place lt l x l.length - 1) hil (by omega) (by omega)
          rw [← nth_eq, ← nth_eq] at h3
          exact O.trans _ _ _ h3 hlast
      have hge : ∀ a ∈ l.drop (place lt l x l.length), lt x a = true := by
        intro a ha
        obtain ⟨i, hi, hil, rfl⟩ := nth_mem_drop ha
        exact place_above l x l.length i hi hil
      refine List.pairwise_append.2 ⟨h.sublist (List.take_sublist _ _), List.pairwise_cons.2 ⟨hge, h.sublist (List.drop_sublist _ _)⟩, fun a ha b hb => ?_⟩
      rcases List.mem_cons.1 hb with rfl | hb
      · exact hle a ha
      · exact O.trans _ _ _ (hle a ha) (hge b hb)
    · rw [(insAt_perm l x _).mem_iff]; simp
theorem sortOnce_ok (O : StrictOrd lt) (l : List α) : (sortOnce lt l).Pairwise (fun a b => lt a b = true) ∧ ∀ y, y ∈ sortOnce lt l ↔ y ∈ l := by
  unfold sortOnce
  have key : ∀ (l m : List α), m.Pairwise (fun a b => lt a b = true) → (l.foldl (insOnce lt) m).Pairwise (fun a b => lt a b = true) ∧ ∀ y, y ∈ l.foldl (insOnce lt) m ↔ y ∈ m ∨ y ∈ l := by
    intro l
    induction l with
    | nil => intro m hm; exact ⟨hm, fun y => by simp⟩
    | cons x l ih =>
      intro m hm
      obtain ⟨k1, k2⟩ := insOnce_ok O hm x
      obtain ⟨h1, h2⟩ := ih (insOnce lt m x) k1
      refine ⟨h1, fun y => ?_⟩
      rw [List.foldl_cons, h2, k2]
      simp [or_assoc]
  obtain ⟨h1, h2⟩ := key l [] List.Pairwise.nil
  exact ⟨h1, fun y => by simpa using h2 y⟩
/-- The heap's way over each thing once, and the reference's, come to the same. -/
theorem drain_sortOnce (O : StrictOrd lt) (l : List α) : hdrain lt (once l).length (heapOf lt (once l)) = sortOnce lt l := by
  obtain ⟨h1, h2⟩ := heapOf_ok O (once l)
  obtain ⟨s1, s2⟩ := sortOnce_ok O l
  have hlen : (heapOf lt (once l)).length ≤ (once l).length := by rw [h2.length_eq]; exact Nat.le_refl _
  have hs : (sortOnce lt l).Pairwise (fun a b => lt b a = false) := s1.imp (fun h => O.asymm _ _ h)
  have hnd : (sortOnce lt l).Nodup := s1.imp (fun h e => by subst e; rw [O.irrefl] at h; cases h)
  have hperm : (once l).Perm (sortOnce lt l) := (List.perm_ext_iff_of_nodup (nodup_once l) hnd).2 (fun y => by rw [mem_once, s2])
  exact sorted_eq O (hdrain_sorted O _ _ hlen h1) hs (((hdrain_perm _ _ hlen).trans h2).trans hperm)
end
def evSort (l : List EvD) : List EvD := sortOnce evLess l
def outSort (l : List OutD) : List OutD := sortAll outLess l
end Go.Proofs.Ytmnccekljombmaa

namespace Go.Proofs.Ytmnccekljombmaa
set_option linter.unusedVariables false
set_option linter.unusedSimpArgs false
set_option maxRecDepth 100000
open Go.RowKit
def outAgg (o : OutD) : Value := .agg #[.int .i64 o.time, .int .i64 o.proc, .int .i64 o.count, .int .i64 o.n, .int .i64 o.value]
set_option maxHeartbeats 2000000 in
theorem EventLess_c (a b : EvD) (w : World) : Calls Try.prog 109 #[evAgg a, evAgg b] w fun q w' => q = .returned (.bool (evLess a b)) ∧ Below w.heap.size w w' := by
  unfold evAgg
  by_cases h0 : a.time = b.time
  · have g0 : (a.time != b.time) = false := by simp [h0]
    by_cases h1 : a.to = b.to
    · have g1 : (a.to != b.to) = false := by simp [h1]
      by_cases h2 : a.from_ = b.from_
      · have g2 : (a.from_ != b.from_) = false := by simp [h2]
        by_cases h3 : a.count = b.count
        · have g3 : (a.count != b.count) = false := by simp [h3]
          by_cases h4 : a.n = b.n
          · have g4 : (a.n != b.n) = false := by simp [h4]
            by_cases h5 : a.kind = b.kind
            · have g5 : (a.kind != b.kind) = false := by simp [h5]
              have HE := hid (show evLess a b = decide (a.arg < b.arg) by simp [evLess, EvD.key, lexLt, h0, h1, h2, h3, h4, h5]; intro e; omega)
              clear h0 h1 h2 h3 h4 h5
              go_enter Try.func109, Try.ntmps109
              go_wp2_with fail
              go_ret
              exact ⟨by rw [HE.out]; rfl, by repeat (first | exact Below.refl _ _ | refine balloc ?_ _)⟩
            · have g5 : (a.kind != b.kind) = true := by simp [h5]
              have HE := hid (show evLess a b = decide (a.kind < b.kind) by simp [evLess, EvD.key, lexLt, h0, h1, h2, h3, h4, h5])
              clear h0 h1 h2 h3 h4 h5
              go_enter Try.func109, Try.ntmps109
              go_wp2_with fail
              go_ret
              exact ⟨by rw [HE.out]; rfl, by repeat (first | exact Below.refl _ _ | refine balloc ?_ _)⟩
          · have g4 : (a.n != b.n) = true := by simp [h4]
            have HE := hid (show evLess a b = decide (a.n < b.n) by simp [evLess, EvD.key, lexLt, h0, h1, h2, h3, h4])
            clear h0 h1 h2 h3 h4
            go_enter Try.func109, Try.ntmps109
            go_wp2_with fail
            go_ret
            exact ⟨by rw [HE.out]; rfl, by repeat (first | exact Below.refl _ _ | refine balloc ?_ _)⟩
        · have g3 : (a.count != b.count) = true := by simp [h3]
          have HE := hid (show evLess a b = decide (a.count < b.count) by simp [evLess, EvD.key, lexLt, h0, h1, h2, h3])
          clear h0 h1 h2 h3
          go_enter Try.func109, Try.ntmps109
          go_wp2_with fail
          go_ret
          exact ⟨by rw [HE.out]; rfl, by repeat (first | exact Below.refl _ _ | refine balloc ?_ _)⟩
      · have g2 : (a.from_ != b.from_) = true := by simp [h2]
        have HE := hid (show evLess a b = decide (a.from_ < b.from_) by simp [evLess, EvD.key, lexLt, h0, h1, h2])
        clear h0 h1 h2
        go_enter Try.func109, Try.ntmps109
        go_wp2_with fail
        go_ret
        exact ⟨by rw [HE.out]; rfl, by repeat (first | exact Below.refl _ _ | refine balloc ?_ _)⟩
    · have g1 : (a.to != b.to) = true := by simp [h1]
      have HE := hid (show evLess a b = decide (a.to < b.to) by simp [evLess, EvD.key, lexLt, h0, h1])
      clear h0 h1
      go_enter Try.func109, Try.ntmps109
      go_wp2_with fail
      go_ret
      exact ⟨by rw [HE.out]; rfl, by repeat (first | exact Below.refl _ _ | refine balloc ?_ _)⟩
  · have g0 : (a.time != b.time) = true := by simp [h0]
    have HE := hid (show evLess a b = decide (a.time < b.time) by simp [evLess, EvD.key, lexLt, h0])
    clear h0
    go_enter Try.func109, Try.ntmps109
    go_wp2_with fail
    go_ret
    exact ⟨by rw [HE.out]; rfl, by repeat (first | exact Below.refl _ _ | refine balloc ?_ _)⟩
set_option maxHeartbeats 2000000 in
theorem OutLess_c (a b : OutD) (w : World) : Calls Try.prog 110 #[outAgg a, outAgg b] w fun q w' => q = .returned (.bool (outLess a b)) ∧ Below w.heap.size w w' := by
  unfold outAgg
  by_cases h0 : a.time = b.time
  · have g0 : (a.time != b.time) = false := by simp [h0]
    by_cases h1 : a.proc = b.proc
    · have g1 : (a.proc != b.proc) = false := by simp [h1]
      by_cases h2 : a.count = b.count
      · have g2 : (a.count != b.count) = false := by simp [h2]
        by_cases h3 : a.n = b.n
        · have g3 : (a.n != b.n) = false := by simp [h3]
          have HE := hid (show outLess a b = decide (a.value < b.value) by simp [outLess, OutD.key, lexLt, h0, h1, h2, h3]; intro e; omega)
          clear h0 h1 h2 h3
          go_enter Try.func110, Try.ntmps110
          go_wp2_with fail
          go_ret
          exact ⟨by rw [HE.out]; rfl, by repeat (first | exact Below.refl _ _ | refine balloc ?_ _)⟩
        · have g3 : (a.n != b.n) = true := by simp [h3]
          have HE := hid (show outLess a b = decide (a.n < b.n) by simp [outLess, OutD.key, lexLt, h0, h1, h2, h3])
          clear h0 h1 h2 h3
          go_enter Try.func110, Try.ntmps110
          go_wp2_with fail
          go_ret
          exact ⟨by rw [HE.out]; rfl, by repeat (first | exact Below.refl _ _ | refine balloc ?_ _)⟩
      · have g2 : (a.count != b.count) = true := by simp [h2]
        have HE := hid (show outLess a b = decide (a.count < b.count) by simp [outLess, OutD.key, lexLt, h0, h1, h2])
        clear h0 h1 h2
        go_enter Try.func110, Try.ntmps110
        go_wp2_with fail
        go_ret
        exact ⟨by rw [HE.out]; rfl, by repeat (first | exact Below.refl _ _ | refine balloc ?_ _)⟩
    · have g1 : (a.proc != b.proc) = true := by simp [h1]
      have HE := hid (show outLess a b = decide (a.proc < b.proc) by simp [outLess, OutD.key, lexLt, h0, h1])
      clear h0 h1
      go_enter Try.func110, Try.ntmps110
      go_wp2_with fail
      go_ret
      exact ⟨by rw [HE.out]; rfl, by repeat (first | exact Below.refl _ _ | refine balloc ?_ _)⟩
  · have g0 : (a.time != b.time) = true := by simp [h0]
    have HE := hid (show outLess a b = decide (a.time < b.time) by simp [outLess, OutD.key, lexLt, h0])
    clear h0
    go_enter Try.func110, Try.ntmps110
    go_wp2_with fail
    go_ret
    exact ⟨by rw [HE.out]; rfl, by repeat (first | exact Below.refl _ _ | refine balloc ?_ _)⟩
end Go.Proofs.Ytmnccekljombmaa

namespace Go.Proofs.Ytmnccekljombmaa
structure RunOk (r : RunD) : Prop where
  x0 : 0 ≤ r.x
  x1 : r.x ≤ 999
  y0 : 0 ≤ r.y
  y1 : r.y ≤ 999
theorem RunOk.put {r : RunD} (h : RunOk r) (k v : Int) : RunOk (r.put k v) := by
  obtain ⟨h1, h2, h3, h4⟩ := h
  unfold RunD.put
  split
  · exact ⟨by show 0 ≤ v % 1000; omega, by show v % 1000 ≤ 999; omega, h3, h4⟩
  · exact ⟨h1, h2, by show 0 ≤ v % 1000; omega, by show v % 1000 ≤ 999; omega⟩
theorem RunD.put_sends (r : RunD) (k v : Int) : (r.put k v).sends = r.sends := by unfold RunD.put; split <;> rfl
theorem RunD.put_outs (r : RunD) (k v : Int) : (r.put k v).outs = r.outs := by unfold RunD.put; split <;> rfl
theorem doOp_ok {e : EvD} {c : Int} {o : OpD} {r : RunD} (h : RunOk r) : RunOk (doOp e c o r).1 := by
  unfold doOp
  repeat' (split <;> first | exact h | exact h.put _ _ | skip)
  all_goals exact ⟨h.x0, h.x1, h.y0, h.y1⟩
theorem doOp_len (e : EvD) (c : Int) (o : OpD) (r : RunD) : (doOp e c o r).1.sends.length ≤ r.sends.length + 1 ∧ (doOp e c o r).1.outs.length ≤ r.outs.length + 1 := by
  unfold doOp
  repeat' (split <;> first | (rw [RunD.put_sends, RunD.put_outs]; omega) | skip)
  all_goals simp
theorem doOp_skip {e : EvD} {c : Int} {o : OpD} {r : RunD} (h : opOk o = true) : 0 ≤ (doOp e c o r).2 ∧ (doOp e c o r).2 ≤ 8 := by
  unfold doOp
  unfold opOk at h
  repeat' split
  all_goals first
    | (simp; done)
    | (rename_i h5 _; simp [*, inn] at h; have := h.2.2.1; simp; omega)
theorem doOps_fuel (e : EvD) (c : Int) : ∀ (n m : Nat) (l : List OpD) (r : RunD), l.length ≤ n → l.length ≤ m → doOps e c n l r = doOps e c m l r := by
  intro n
  induction n with
  | zero => intro m l r h1 h2; cases l with
    | nil => cases m <;> rfl
    | cons a l => simp at h1
  | succ n ih => intro m l r h1 h2; cases l with
    | nil => cases m <;> rfl
    | cons a l =>
      cases m with
      | zero => simp at h2
      | succ m =>
        simp only [List.length_cons] at h1 h2
        simp only [doOps]
        exact ih m _ _ (by simp; omega) (by simp; omega)
theorem doOps_step (e : EvD) (c : Int) (n : Nat) {ops : List OpD} {k : Nat} (r : RunD) (h : k < ops.length) (hn : ops.length ≤ n) :
    doOps e c n (ops.drop k) r = doOps e c n (ops.drop (k + (doOp e c ops[k] r).2.toNat + 1)) (doOp e c ops[k] r).1 := by
  rw [List.drop_eq_getElem_cons h]
  cases n with
  | zero => omega
  | succ n =>
    simp only [doOps]
    rw [List.drop_drop]
    rw [show k + 1 + (doOp e c ops[k] r).2.toNat = k + (doOp e c ops[k] r).2.toNat + 1 by omega]
    exact doOps_fuel e c _ _ _ _ (by simp; omega) (by simp; omega)
theorem doOps_end (e : EvD) (c : Int) (n : Nat) {ops : List OpD} {k : Nat} (r : RunD) (h : ops.length ≤ k) : doOps e c n (ops.drop k) r = r := by
  rw [List.drop_eq_nil_of_le h]; cases n <;> rfl
theorem appsOk_one (a : AppD) : appsOk [a, ⟨[]⟩, ⟨[]⟩, ⟨[]⟩] = appOk a := by
  have h0 : appOk ⟨[]⟩ = true := by decide
  simp [appsOk, h0]
theorem appOk_rule {a : AppD} (h : appOk a = true) {i : Nat} (hi : i < a.rules.length) : opsOk a.rules[i].ops = true := by
  simp only [appOk, Bool.and_eq_true] at h
  have := List.all_eq_true.1 h.1.2 a.rules[i] (List.getElem_mem hi)
  simp only [ruleOk, Bool.and_eq_true] at this
  exact this.2
theorem opsOk_op {l : List OpD} (h : opsOk l = true) {i : Nat} (hi : i < l.length) : opOk l[i] = true := by
  simp only [opsOk, Bool.and_eq_true] at h
  exact List.all_eq_true.1 h.1.1.1 l[i] (List.getElem_mem hi)
theorem opsOk_len {l : List OpD} (h : opsOk l = true) : l.length ≤ 8 := by
  simp only [opsOk, Bool.and_eq_true, decide_eq_true_eq] at h; exact h.1.1.2
theorem appOk_len {a : AppD} (h : appOk a = true) : a.rules.length ≤ 4 := by
  simp only [appOk, Bool.and_eq_true, decide_eq_true_eq] at h; exact h.1.1
theorem doRules_snoc (e : EvD) (c : Int) (l : List RuleD) (r : RunD) {k : Nat} (h : k < l.length) :
    doRules e c (l.take (k + 1)) r = (if l[k].kind = e.kind then doOps e c l[k].ops.length l[k].ops (doRules e c (l.take k) r) else doRules e c (l.take k) r) := by
  rw [List.take_succ_eq_append_getElem h]
  unfold doRules
  rw [List.foldl_append]
  rfl
theorem stOk_run {s : StD} (h : stOk s = true) : RunOk ⟨s.x, s.y, [], []⟩ := by
  simp [stOk, inn] at h
  exact ⟨h.1.1.1, h.1.1.2, h.1.2.1, h.1.2.2⟩
end Go.Proofs.Ytmnccekljombmaa
