/- Texts joined: Heap, Sort, SimP. -/
import Derived.Test.YtbcemldiahghcaaGreatK00
namespace Go.Proofs.YtbcemldiahghcaaGreat
set_option linter.unusedVariables false
set_option linter.unusedSectionVars false
/-- A strict order in which two that are not told apart are the same. -/
structure StrictOrd {α : Type} (lt : α → α → Bool) : Prop where
  asymm : ∀ a b, lt a b = true → lt b a = false
  trans : ∀ a b c, lt a b = true → lt b c = true → lt a c = true
  total : ∀ a b, lt a b = false → lt b a = false → a = b
section
variable {α : Type} [Inhabited α] {lt : α → α → Bool}
theorem StrictOrd.le_trans (O : StrictOrd lt) {a b c : α} (h1 : lt b a = false) (h2 : lt c b = false) : lt c a = false := by
  cases h3 : lt a b with
  | true =>
    cases h4 : lt c a with
    | true => have := O.trans c a b h4 h3; rw [this] at h2; cases h2
    | false => rfl
  | false =>
    have := O.total a b h3 h1
    subst this
    exact h2
theorem StrictOrd.irrefl (O : StrictOrd lt) (a : α) : lt a a = false := by
  cases h : lt a a with
  | true => have := O.asymm a a h; rw [h] at this; cases this
  | false => rfl
/-- The thing at a place. -/
def nth (l : List α) (i : Nat) : α := l.getD i default
theorem nth_eq {l : List α} {i : Nat} (h : i < l.length) : nth l i = l[i] := by simp [nth, List.getD, h]
/-- Two things change places. -/
def swp (l : List α) (i j : Nat) : List α := (l.set i (nth l j)).set j (nth l i)
theorem swp_len (l : List α) (i j : Nat) : (swp l i j).length = l.length := by simp [swp]
theorem nth_set (l : List α) (i : Nat) (x : α) (k : Nat) (hi : i < l.length) : nth (l.set i x) k = if k = i then x else nth l k := by
  unfold nth List.getD
  by_cases h : k = i
  · subst h; simp [hi]
  · rw [List.getElem?_set_ne (Ne.symm h), if_neg h]
theorem nth_swp (l : List α) (i j k : Nat) (hi : i < l.length) (hj : j < l.length) : nth (swp l i j) k = if k = j then nth l i else if k = i then nth l j else nth l k := by
  unfold swp
  rw [nth_set _ _ _ _ (by simpa using hj), nth_set _ _ _ _ hi]
theorem swp_perm (l : List α) (i j : Nat) (hi : i < l.length) (hj : j < l.length) : (swp l i j).Perm l := by
  unfold swp
  rw [nth_eq hi, nth_eq hj]
  exact List.set_set_perm hi hj
variable (lt)
def hup : Nat → List α → Nat → List α
  | 0, l, _ => l
  | n + 1, l, k => if k = 0 then l else if lt (nth l k) (nth l ((k - 1) / 2)) = true then hup n (swp l k ((k - 1) / 2)) ((k - 1) / 2) else l
def hpush (l : List α) (x : α) : List α := hup lt l.length (l ++ [x]) l.length
/-- The lesser child of a place. -/
def child (l : List α) (k : Nat) : Nat := if 2 * k + 1 + 1 < l.length ∧ lt (nth l (2 * k + 1 + 1)) (nth l (2 * k + 1)) = true then 2 * k + 1 + 1 else 2 * k + 1
def hdown : Nat → List α → Nat → List α
  | 0, l, _ => l
  | n + 1, l, k => if l.length ≤ 2 * k + 1 then l else if lt (nth l (child lt l k)) (nth l k) = true then hdown n (swp l k (child lt l k)) (child lt l k) else l
/-- What is left when the least thing is taken. -/
def hrest (l : List α) : List α := hdown lt l.length ((l.set 0 (nth l (l.length - 1))).take (l.length - 1)) 0
def hdrain : Nat → List α → List α
  | 0, _ => []
  | n + 1, l => if l.length = 0 then [] else nth l 0 :: hdrain n (hrest lt l)
variable {lt}
def IsHeap (lt : α → α → Bool) (l : List α) : Prop := ∀ i, 0 < i → i < l.length → lt (nth l i) (nth l ((i - 1) / 2)) = false
theorem hup_fuel : ∀ (n m : Nat) (l : List α) (k : Nat), k ≤ n → k ≤ m → hup lt n l k = hup lt m l k
  | 0, 0, _, _, _, _ => rfl
  | 0, m + 1, l, k, h, _ => by obtain rfl : k = 0 := by omega
                               simp [hup]
  | n + 1, 0, l, k, _, h => by obtain rfl : k = 0 := by omega
                               simp [hup]
  | n + 1, m + 1, l, k, h1, h2 => by
    simp only [hup]
    split
    · rfl
    · split
      · exact hup_fuel n m _ _ (by omega) (by omega)
      · rfl
theorem hup_perm : ∀ (n : Nat) (l : List α) (k : Nat), k < l.length → (hup lt n l k).Perm l
  | 0, l, k, _ => List.Perm.refl _
  | n + 1, l, k, h => by
    simp only [hup]
    split
    · exact List.Perm.refl _
    · split
      · exact (hup_perm n _ _ (by rw [swp_len]; omega)).trans (swp_perm l _ _ h (by omega))
      · exact List.Perm.refl _
theorem hup_heap (O : StrictOrd lt) : ∀ (n : Nat) (l : List α) (k : Nat), k ≤ n → k < l.length →
    (∀ i, 0 < i → i < l.length → i ≠ k → lt (nth l i) (nth l ((i - 1) / 2)) = false) → (∀ c, c < l.length → 0 < c → (c - 1) / 2 = k → 0 < k → lt (nth l c) (nth l ((k - 1) / 2)) = false) → IsHeap lt (hup lt n l k)
  | 0, l, k, hn, hk, h1, h2 => by
    obtain rfl : k = 0 := by omega
    exact fun i h0 hi => h1 i h0 hi (by omega)
  | n + 1, l, k, hn, hk, h1, h2 => by
    simp only [hup]
    split
    · rename_i h0; subst h0; exact fun i h0 hi => h1 i h0 hi (by omega)
    · rename_i hk0
      split
      · rename_i hlt
        have hp : (k - 1) / 2 < l.length := by omega
        have hpk : (k - 1) / 2 < k := by omega
        refine hup_heap O n _ _ (by omega) (by rw [swp_len]; omega) (fun i hi0 hi hne => ?_) (fun c hc hc0 hcp hp0 => ?_)
        · rw [swp_len] at hi
          rw [nth_swp l _ _ _ hk hp, nth_swp l _ _ _ hk hp]
          by_cases e1 : i = k
          · subst e1
            rw [if_neg hne, if_pos rfl, if_pos rfl]
            exact O.asymm _ _ hlt
          · rw [if_neg hne, if_neg e1]
            by_cases e2 : (i - 1) / 2 = (k - 1) / 2
            · rw [if_pos e2]
              have h3 := h1 i hi0 hi e1
              rw [e2] at h3
              exact O.le_trans (O.asymm _ _ hlt) h3
            · rw [if_neg e2]
              by_cases e3 : (i - 1) / 2 = k
              · rw [if_pos e3]; exact h2 i hi hi0 e3 (by omega)
              · rw [if_neg e3]; exact h1 i hi0 hi e1
        · rw [swp_len] at hc
          rw [nth_swp l _ _ _ hk hp, nth_swp l _ _ _ hk hp, if_neg (by omega : ¬ c = (k - 1) / 2), if_neg (by omega : ¬ ((k - 1) / 2 - 1) / 2 = (k - 1) / 2), if_neg (by omega : ¬ ((k - 1) / 2 - 1) / 2 = k)]
          have h4 := h1 ((k - 1) / 2) hp0 hp (by omega)
          by_cases e1 : c = k
          · rw [if_pos e1]; exact h4
          · rw [if_neg e1]
            have h3 := h1 c hc0 hc e1
            rw [hcp] at h3
            exact O.le_trans h4 h3
      · rename_i hlt
        intro i h0 hi
        by_cases e : i = k
        · subst e; simpa using hlt
        · exact h1 i h0 hi e
theorem nth_append (l : List α) (x : α) (i : Nat) (h : i < l.length) : nth (l ++ [x]) i = nth l i := by
  unfold nth List.getD; rw [List.getElem?_append_left h]
theorem hpush_perm (l : List α) (x : α) : (hpush lt l x).Perm (l ++ [x]) := hup_perm _ _ _ (by simp)
theorem hpush_heap (O : StrictOrd lt) {l : List α} (h : IsHeap lt l) (x : α) : IsHeap lt (hpush lt l x) := by
  refine hup_heap O _ _ _ (Nat.le_refl _) (by simp) (fun i hi0 hi hne => ?_) (fun c hc hc0 hcp _ => ?_)
  · simp only [List.length_append, List.length_singleton] at hi
    rw [nth_append _ _ _ (by omega), nth_append _ _ _ (by omega)]
    exact h i hi0 (by omega)
  · simp only [List.length_append, List.length_singleton] at hc; omega
theorem child_lt {l : List α} {k : Nat} (h : ¬ l.length ≤ 2 * k + 1) : child lt l k < l.length := by unfold child; split <;> omega
theorem child_par (l : List α) (k : Nat) : 0 < child lt l k ∧ (child lt l k - 1) / 2 = k ∧ k < child lt l k := by unfold child; split <;> omega
theorem child_le (O : StrictOrd lt) {l : List α} {k c : Nat} (hc : c < l.length) (h0 : 0 < c) (hp : (c - 1) / 2 = k) : lt (nth l c) (nth l (child lt l k)) = false := by
  have hcc : c = 2 * k + 1 ∨ c = 2 * k + 1 + 1 := by omega
  unfold child
  split
  · rename_i h
    rcases hcc with rfl | rfl
    · exact O.asymm _ _ h.2
    · exact O.irrefl _
  · rename_i h
    rcases hcc with rfl | rfl
    · exact O.irrefl _
    · cases h2 : lt (nth l (2 * k + 1 + 1)) (nth l (2 * k + 1)) with
      | true => exact absurd ⟨hc, h2⟩ h
      | false => rfl
theorem hdown_perm : ∀ (n : Nat) (l : List α) (k : Nat), k < l.length → (hdown lt n l k).Perm l
  | 0, l, k, _ => List.Perm.refl _
  | n + 1, l, k, h => by
    simp only [hdown]
    split
    · exact List.Perm.refl _
    · rename_i hk
      split
      · exact (hdown_perm n _ _ (by rw [swp_len]; exact child_lt hk)).trans (swp_perm l _ _ h (child_lt hk))
      · exact List.Perm.refl _
theorem hdown_nil (n k : Nat) : hdown lt n ([] : List α) k = [] := by cases n <;> simp [hdown]
theorem hdown_fuel : ∀ (n m : Nat) (l : List α) (k : Nat), l.length ≤ k + n → l.length ≤ k + m → hdown lt n l k = hdown lt m l k
  | 0, 0, _, _, _, _ => rfl
  | 0, m + 1, l, k, h, _ => by
    simp only [hdown]; rw [if_pos (by omega)]
  | n + 1, 0, l, k, _, h => by
    simp only [hdown]; rw [if_pos (by omega)]
  | n + 1, m + 1, l, k, h1, h2 => by
    simp only [hdown]
    split
    · rfl
    · split
      · have := (child_par (lt := lt) l k).2.2
        exact hdown_fuel n m _ _ (by rw [swp_len]; omega) (by rw [swp_len]; omega)
      · rfl
theorem hdown_heap (O : StrictOrd lt) : ∀ (n : Nat) (l : List α) (k : Nat), l.length ≤ k + n → k < l.length →
    (∀ i, 0 < i → i < l.length → (i - 1) / 2 ≠ k → lt (nth l i) (nth l ((i - 1) / 2)) = false) → (∀ c, c < l.length → 0 < c → (c - 1) / 2 = k → 0 < k → lt (nth l c) (nth l ((k - 1) / 2)) = false) → IsHeap lt (hdown lt n l k)
  | 0, l, k, hn, hk, h1, h2 => by omega
  | n + 1, l, k, hn, hk, h1, h2 => by
    simp only [hdown]
    split
    · rename_i hle
      exact fun i h0 hi => h1 i h0 hi (by omega)
    · rename_i hle
      obtain ⟨hc0, hcp, hck⟩ := child_par (lt := lt) l k
      have hcl := child_lt (lt := lt) hle
      split
      · rename_i hlt
        have hmin := fun (c : Nat) (hc : c < l.length) (h0 : 0 < c) (hp : (c - 1) / 2 = k) => child_le O (lt := lt) hc h0 hp
        generalize child lt l k = d at *
        refine hdown_heap O n _ _ (by rw [swp_len]; omega) (by rw [swp_len]; omega) (fun i hi0 hi hne => ?_) (fun c hc hc0' hcp' hd0 => ?_)
        · rw [swp_len] at hi
          rw [nth_swp l _ _ _ hk hcl, nth_swp l _ _ _ hk hcl]
          by_cases e1 : i = d
          · subst e1
            rw [if_pos rfl, hcp, if_neg (by omega), if_pos rfl]
            exact O.asymm _ _ hlt
          · rw [if_neg e1]
            by_cases e2 : i = k
            · subst e2
              rw [if_pos rfl, if_neg hne, if_neg (by omega)]
              exact h2 d hcl hc0 hcp (by omega)
            · rw [if_neg e2, if_neg hne]
              by_cases e3 : (i - 1) / 2 = k
              · rw [if_pos e3]; exact hmin i hi hi0 e3
              · rw [if_neg e3]; exact h1 i hi0 hi e3
        · rw [swp_len] at hc
          rw [nth_swp l _ _ _ hk hcl, nth_swp l _ _ _ hk hcl, if_neg (by omega : ¬ c = d), if_neg (by omega : ¬ c = k), hcp, if_neg (by omega), if_pos rfl]
          have h3 := h1 c hc0' hc (by omega)
          rw [hcp'] at h3
          exact h3
      · rename_i hlt
        intro i h0 hi
        by_cases e : (i - 1) / 2 = k
        · rw [e]
          have h3 := child_le O (lt := lt) hi h0 e
          have h4 : lt (nth l (child lt l k)) (nth l k) = false := by simpa using hlt
          exact O.le_trans h4 h3
        · exact h1 i h0 hi e
theorem heap_min (O : StrictOrd lt) {l : List α} (h : IsHeap lt l) : ∀ (i : Nat), i < l.length → lt (nth l i) (nth l 0) = false := by
  intro i
  induction i using Nat.strongRecOn with
  | _ i ih =>
    intro hi
    by_cases h0 : i = 0
    · subst h0; exact O.irrefl _
    · exact O.le_trans (ih ((i - 1) / 2) (by omega) (by omega)) (h i (by omega) hi)
theorem nth_take (l : List α) (n i : Nat) (h : i < n) : nth (l.take n) i = nth l i := by
  unfold nth List.getD; rw [List.getElem?_take, if_pos h]
theorem hrest_len (l : List α) (h : 0 < l.length) : (hrest lt l).length = l.length - 1 := by
  unfold hrest
  by_cases h1 : l.length = 1
  · have : (l.set 0 (nth l (l.length - 1))).take (l.length - 1) = [] := by simp [h1]
    rw [this, hdown_nil]; simp [h1]
  · rw [(hdown_perm _ _ _ (by simp; omega)).length_eq]; simp
theorem hrest_perm (l : List α) (h : 0 < l.length) : (nth l 0 :: hrest lt l).Perm l := by
  unfold hrest
  have key : (nth l 0 :: (l.set 0 (nth l (l.length - 1))).take (l.length - 1)).Perm l := by
    have h1 := swp_perm l 0 (l.length - 1) h (by omega)
    have h2 : swp l 0 (l.length - 1) = (l.set 0 (nth l (l.length - 1))).take (l.length - 1) ++ [nth l 0] := by
      refine List.ext_getElem? fun i => ?_
      by_cases hi : i < l.length - 1
      · rw [List.getElem?_append_left (by simp; omega), List.getElem?_take, if_pos hi]
        unfold swp
        rw [List.getElem?_set_ne (by omega)]
      · by_cases hi2 : i = l.length - 1
        · subst hi2
          rw [List.getElem?_append_right (by simp)]
          unfold swp
          rw [List.getElem?_set_self (by simp; omega)]
          simp
        · rw [List.getElem?_eq_none (by rw [swp_len]; omega), List.getElem?_eq_none (by simp; omega)]
    rw [h2] at h1
    exact List.perm_append_singleton .. |>.symm.trans h1
  refine List.Perm.trans ?_ key
  refine List.Perm.cons _ ?_
  by_cases h1 : l.length = 1
  · have : (l.set 0 (nth l (l.length - 1))).take (l.length - 1) = [] := by simp [h1]
    rw [this, hdown_nil]
  · exact hdown_perm _ _ _ (by simp; omega)
theorem hrest_heap (O : StrictOrd lt) {l : List α} (hh : IsHeap lt l) (h : 0 < l.length) : IsHeap lt (hrest lt l) := by
  by_cases h1 : l.length = 1
  · intro i h0 hi
    rw [hrest_len l h] at hi; omega
  · unfold hrest
    refine hdown_heap O _ _ _ (by simp) (by simp; omega) (fun i hi0 hi hne => ?_) (fun c _ _ _ h0 => by omega)
    simp only [List.length_take, List.length_set] at hi
    rw [nth_take _ _ _ (by omega), nth_take _ _ _ (by omega), nth_set _ _ _ _ h, nth_set _ _ _ _ h, if_neg (by omega), if_neg hne]
    exact hh i hi0 (by omega)
theorem hdrain_perm : ∀ (n : Nat) (l : List α), l.length ≤ n → (hdrain lt n l).Perm l
  | 0, l, h => by obtain rfl : l = [] := List.length_eq_zero_iff.1 (by omega)
                  exact List.Perm.refl _
  | n + 1, l, h => by
    simp only [hdrain]
    split
    · rename_i h0; obtain rfl : l = [] := List.length_eq_zero_iff.1 h0; exact List.Perm.refl _
    · rename_i h0
      exact ((hdrain_perm n _ (by rw [hrest_len _ (by omega)]; omega)).cons _).trans (hrest_perm l (by omega))
theorem hdrain_sorted (O : StrictOrd lt) : ∀ (n : Nat) (l : List α), l.length ≤ n → IsHeap lt l → (hdrain lt n l).Pairwise (fun a b => lt b a = false)
  | 0, l, h, _ => List.Pairwise.nil
  | n + 1, l, h, hh => by
    simp only [hdrain]
    split
    · exact List.Pairwise.nil
    · rename_i h0
      refine List.pairwise_cons.2 ⟨fun b hb => ?_, hdrain_sorted O n _ (by rw [hrest_len _ (by omega)]; omega) (hrest_heap O hh (by omega))⟩
      have hb2 : b ∈ l := (hrest_perm (lt := lt) l (by omega)).mem_iff.1 (List.mem_cons_of_mem _ ((hdrain_perm n _ (by rw [hrest_len _ (by omega)]; omega)).mem_iff.1 hb))
      obtain ⟨i, hi, rfl⟩ := List.getElem_of_mem hb2
      rw [← nth_eq hi]
      exact heap_min O hh i hi
/-- Two rows in order of the same things are the same. -/
theorem sorted_eq (O : StrictOrd lt) {l m : List α} (h1 : l.Pairwise (fun a b => lt b a = false)) (h2 : m.Pairwise (fun a b => lt b a = false)) (hp : l.Perm m) : l = m :=
  hp.eq_of_pairwise (fun a b _ _ ha hb => O.total a b hb ha) h1 h2
/-- All that was put in, one by one. -/
def heapOf (lt : α → α → Bool) (l : List α) : List α := l.foldl (hpush lt) []
theorem heapOf_ok (O : StrictOrd lt) (l : List α) : IsHeap lt (heapOf lt l) ∧ (heapOf lt l).Perm l := by
  unfold heapOf
  have key : ∀ (l m : List α), IsHeap lt m → IsHeap lt (l.foldl (hpush lt) m) ∧ (l.foldl (hpush lt) m).Perm (m ++ l) := by
    intro l
    induction l with
    | nil => intro m hm; exact ⟨hm, by simp⟩
    | cons x l ih =>
      intro m hm
      obtain ⟨h1, h2⟩ := ih (hpush lt m x) (hpush_heap O hm x)
      refine ⟨h1, h2.trans ?_⟩
      have := (hpush_perm (lt := lt) m x).append_right l
      simpa using this
  obtain ⟨h1, h2⟩ := key l [] (fun i _ hi => by simp at hi)
  exact ⟨h1, by simpa using h2⟩
end
end Go.Proofs.YtbcemldiahghcaaGreat

namespace Go.Proofs.YtbcemldiahghcaaGreat
set_option linter.unusedVariables false
set_option linter.unusedSectionVars false
def lexLt : List Int → List Int → Bool
  | a :: l, b :: m => if a = b then lexLt l m else decide (a < b)
  | _, _ => false
theorem lexLt_asymm : ∀ (l m : List Int), lexLt l m = true → lexLt m l = false
  | [], _, h => by simp [lexLt] at h
  | _ :: _, [], h => by simp [lexLt] at h
  | a :: l, b :: m, h => by
    simp only [lexLt] at h ⊢
    by_cases e : a = b
    · subst e; rw [if_pos rfl] at h ⊢; exact lexLt_asymm l m h
    · rw [if_neg e] at h; rw [if_neg (Ne.symm e)]; simp at h ⊢; omega
theorem lexLt_trans : ∀ (l m n : List Int), lexLt l m = true → lexLt m n = true → lexLt l n = true
  | [], _, _, h, _ => by simp [lexLt] at h
  | _ :: _, [], _, h, _ => by simp [lexLt] at h
  | _ :: _, _ :: _, [], _, h => by simp [lexLt] at h
  | a :: l, b :: m, c :: n, h1, h2 => by
    simp only [lexLt] at h1 h2 ⊢
    by_cases e : a = b
    · subst e
      rw [if_pos rfl] at h1
      by_cases e2 : a = c
      · subst e2; rw [if_pos rfl] at h2 ⊢; exact lexLt_trans l m n h1 h2
      · rw [if_neg e2] at h2 ⊢; exact h2
    · rw [if_neg e] at h1
      simp only [decide_eq_true_eq] at h1
      by_cases e2 : b = c
      · subst e2; rw [if_neg e]; simpa using h1
      · rw [if_neg e2] at h2
        simp only [decide_eq_true_eq] at h2
        rw [if_neg (by omega)]
        simp; omega
theorem lexLt_total : ∀ (l m : List Int), l.length = m.length → lexLt l m = false → lexLt m l = false → l = m
  | [], [], _, _, _ => rfl
  | [], _ :: _, h, _, _ => by simp at h
  | _ :: _, [], h, _, _ => by simp at h
  | a :: l, b :: m, h, h1, h2 => by
    simp only [lexLt] at h1 h2
    by_cases e : a = b
    · subst e; rw [if_pos rfl] at h1 h2; rw [lexLt_total l m (by simpa using h) h1 h2]
    · rw [if_neg e] at h1; rw [if_neg (Ne.symm e)] at h2; simp at h1 h2; omega
def EvD.key (e : EvD) : List Int := [e.time, e.to, e.from_, e.count, e.n, e.kind, e.arg]
def OutD.key (o : OutD) : List Int := [o.time, o.proc, o.count, o.n, o.value]
def evLess (a b : EvD) : Bool := lexLt a.key b.key
def outLess (a b : OutD) : Bool := lexLt a.key b.key
theorem ev_ord : StrictOrd evLess where
  asymm a b := lexLt_asymm _ _
  trans a b c := lexLt_trans _ _ _
  total a b h1 h2 := by
    have := lexLt_total a.key b.key rfl h1 h2
    cases a; cases b; simpa [EvD.key] using this
theorem out_ord : StrictOrd outLess where
  asymm a b := lexLt_asymm _ _
  trans a b c := lexLt_trans _ _ _
  total a b h1 h2 := by
    have := lexLt_total a.key b.key rfl h1 h2
    cases a; cases b; simpa [OutD.key] using this
section
variable {α : Type} [Inhabited α] (lt : α → α → Bool)
/-- The place of x in a row in order, sought from place k down. -/
def place (l : List α) (x : α) : Nat → Nat
  | 0 => 0
  | k + 1 => if lt x (nth l k) = true then place l x k else k + 1
def insAt (l : List α) (x : α) (k : Nat) : List α := l.take k ++ x :: l.drop k
def insOnce [DecidableEq α] (l : List α) (x : α) : List α := if 0 < place lt l x l.length ∧ nth l (place lt l x l.length - 1) = x then l else insAt l x (place lt l x l.length)
def sortOnce [DecidableEq α] (l : List α) : List α := l.foldl (insOnce lt) []
def insAll (l : List α) (x : α) : List α := insAt l x (place lt l x l.length)
def sortAll (l : List α) : List α := l.foldl (insAll lt) []
variable {lt}
theorem place_le (l : List α) (x : α) : ∀ k, place lt l x k ≤ k
  | 0 => Nat.le_refl _
  | k + 1 => by
    simp only [place]; split
    · have := place_le l x k; omega
    · exact Nat.le_refl _
theorem place_above (l : List α) (x : α) : ∀ k j, place lt l x k ≤ j → j < k → lt x (nth l j) = true
  | 0, j, _, h => by omega
  | k + 1, j, h1, h2 => by
    simp only [place] at h1
    split at h1
    · rename_i hl
      by_cases e : j = k
      · subst e; exact hl
      · exact place_above l x k j h1 (by omega)
    · omega
theorem place_below (l : List α) (x : α) : ∀ k, 0 < place lt l x k → lt x (nth l (place lt l x k - 1)) = false
  | 0, h => by simp [place] at h
  | k + 1, h => by
    simp only [place] at h ⊢
    split
    · rename_i hl; rw [if_pos hl] at h; exact place_below l x k h
    · rename_i hl; simpa using hl
theorem insAt_perm (l : List α) (x : α) (k : Nat) : (insAt l x k).Perm (l ++ [x]) := by
  unfold insAt
  have h1 : (l.take k ++ x :: l.drop k).Perm (x :: (l.take k ++ l.drop k)) := List.perm_middle
  rw [List.take_append_drop] at h1
  exact h1.trans (List.perm_append_singleton x l).symm
theorem nth_mem_take {l : List α} {k : Nat} {a : α} (h : a ∈ l.take k) : ∃ i, i < k ∧ i < l.length ∧ a = nth l i := by
  obtain ⟨i, hi, rfl⟩ := List.getElem_of_mem h
  simp only [List.length_take] at hi
  exact ⟨i, by omega, by omega, by rw [nth_eq (by omega)]; simp⟩
theorem nth_mem_drop {l : List α} {k : Nat} {a : α} (h : a ∈ l.drop k) : ∃ i, k ≤ i ∧ i < l.length ∧ a = nth l i := by
  obtain ⟨i, hi, rfl⟩ := List.getElem_of_mem h
  simp only [List.length_drop] at hi
  exact ⟨k + i, by omega, by omega, by rw [nth_eq (by omega)]; simp⟩
/-- In order: nothing behind comes ahead. -/
theorem insAll_sorted (O : StrictOrd lt) {l : List α} (h : l.Pairwise (fun a b => lt b a = false)) (x : α) : (insAll lt l x).Pairwise (fun a b => lt b a = false) := by
  unfold insAll insAt
  have hp := List.pairwise_iff_getElem.1 h
  have hle : ∀ a ∈ l.take (place lt l x l.length), lt x a = false := by
    intro a ha
    obtain ⟨i, hi, hil, rfl⟩ := nth_mem_take ha
    have hb := place_below (lt := lt) l x l.length (by omega)
    have hpl := place_le (lt := lt) l x l.length
    by_cases e : i = place lt l x l.length - 1
    · rw [e]; exact hb
    · have h3 := hp i (place lt l x l.length - 1) hil (by omega) (by omega)
      rw [← nth_eq, ← nth_eq] at h3
      exact O.le_trans h3 hb
  have hge : ∀ a ∈ l.drop (place lt l x l.length), lt a x = false := by
    intro a ha
    obtain ⟨i, hi, hil, rfl⟩ := nth_mem_drop ha
    exact O.asymm _ _ (place_above l x l.length i hi hil)
  refine List.pairwise_append.2 ⟨h.sublist (List.take_sublist _ _), List.pairwise_cons.2 ⟨hge, h.sublist (List.drop_sublist _ _)⟩, fun a ha b hb => ?_⟩
  rcases List.mem_cons.1 hb with rfl | hb
  · exact hle a ha
  · exact O.le_trans (hle a ha) (hge b hb)
theorem sortAll_ok (O : StrictOrd lt) (l : List α) : (sortAll lt l).Pairwise (fun a b => lt b a = false) ∧ (sortAll lt l).Perm l := by
  unfold sortAll
  have key : ∀ (l m : List α), m.Pairwise (fun a b => lt b a = false) → (l.foldl (insAll lt) m).Pairwise (fun a b => lt b a = false) ∧ (l.foldl (insAll lt) m).Perm (m ++ l) := by
    intro l
    induction l with
    | nil => intro m hm; exact ⟨hm, by simp⟩
    | cons x l ih =>
      intro m hm
      obtain ⟨h1, h2⟩ := ih (insAll lt m x) (insAll_sorted O hm x)
      refine ⟨h1, h2.trans ?_⟩
      have := (insAt_perm m x (place lt m x m.length)).append_right l
      unfold insAll
      simpa using this
  obtain ⟨h1, h2⟩ := key l [] List.Pairwise.nil
  exact ⟨h1, by simpa using h2⟩
/-- The heap's way and the reference's come to the same. -/
theorem drain_sortAll (O : StrictOrd lt) (l : List α) : hdrain lt l.length (heapOf lt l) = sortAll lt l := by
  obtain ⟨h1, h2⟩ := heapOf_ok O l
  obtain ⟨s1, s2⟩ := sortAll_ok O l
  have hlen : (heapOf lt l).length ≤ l.length := by rw [h2.length_eq]; exact Nat.le_refl _
  exact sorted_eq O (hdrain_sorted O _ _ hlen h1) s1 (((hdrain_perm _ _ hlen).trans h2).trans s2.symm)
variable [DecidableEq α]
/-- Each thing once, as they first come. -/
def once (l : List α) : List α := l.foldl (fun m x => if x ∈ m then m else m ++ [x]) []
theorem once_snoc (l : List α) (x : α) : once (l ++ [x]) = if x ∈ l then once l else once l ++ [x] := by
  have hm : ∀ y, y ∈ once l ↔ y ∈ l := by
    intro y
    have key : ∀ (l m : List α), y ∈ l.foldl (fun m x => if x ∈ m then m else m ++ [x]) m ↔ y ∈ m ∨ y ∈ l := by
      intro l
      induction l with
      | nil => intro m; simp
      | cons a l ih =>
        intro m
        simp only [List.foldl_cons]
        rw [ih]
        by_cases h : a ∈ m
        · rw [if_pos h]; simp only [List.mem_cons]
          constructor
          · rintro (h1 | h1)
            · exact Or.inl h1
            · exact Or.inr (Or.inr h1)
          · rintro (h1 | rfl | h1)
            · exact Or.inl h1
            · exact Or.inl h
            · exact Or.inr h1
        · rw [if_neg h]; simp [or_assoc]
    have := key l []
    unfold once
    simpa using this
  unfold once at hm ⊢
  rw [List.foldl_append]
  simp only [List.foldl_cons, List.foldl_nil]
  by_cases h : x ∈ l
  · rw [if_pos ((hm x).2 h), if_pos h]
  · rw [if_neg (fun h2 => h ((hm x).1 h2)), if_neg h]
theorem mem_once (l : List α) (y : α) : y ∈ once l ↔ y ∈ l := by
  have key : ∀ n, ∀ l : List α, l.length = n → (y ∈ once l ↔ y ∈ l) := by
    intro n
    induction n with
    | zero => intro l h; obtain rfl := List.length_eq_zero_iff.1 h; simp [once]
    | succ n ih =>
      intro l h
      have hne : l ≠ [] := fun e => by rw [e] at h; simp at h
      rw [← List.dropLast_concat_getLast hne, once_snoc]
      have h2 := ih l.dropLast (by simp [h])
      split
      · rename_i hx
        rw [h2]; simp only [List.mem_append, List.mem_singleton]
        constructor
        · exact Or.inl
        · rintro (h3 | rfl)
          · exact h3
          · exact hx
      · simp only [List.mem_append, h2]
  exact key _ l rfl
theorem nodup_once (l : List α) : (once l).Nodup := by
  have key : ∀ n, ∀ l : List α, l.length = n → (once l).Nodup := by
    intro n
    induction n with
    | zero => intro l h; obtain rfl := List.length_eq_zero_iff.1 h; simp [once]
    | succ n ih =>
      intro l h
      have hne : l ≠ [] := fun e => by rw [e] at h; simp at h
      rw [← List.dropLast_concat_getLast hne, once_snoc]
      have h2 := ih l.dropLast (by simp [h])
      split
      · exact h2
      · rename_i hx
        refine List.nodup_append.2 ⟨h2, by simp, fun a ha b hb => ?_⟩
        simp only [List.mem_singleton] at hb
        subst hb
        intro e; subst e
        exact hx ((mem_once _ _).1 ha)
  exact key _ l rfl
theorem insOnce_ok (O : StrictOrd lt) {l : List α} (h : l.Pairwise (fun a b => lt a b = true)) (x : α) : (insOnce lt l x).Pairwise (fun a b => lt a b = true) ∧ ∀ y, y ∈ insOnce lt l x ↔ y ∈ l ∨ y = x := by
  have hp := List.pairwise_iff_getElem.1 h
  have hpl := place_le (lt := lt) l x l.length
  unfold insOnce
  split
  · rename_i hx
    refine ⟨h, fun y => ⟨Or.inl, ?_⟩⟩
    rintro (h1 | rfl)
    · exact h1
    · rw [← hx.2, nth_eq (by omega)]; exact List.getElem_mem _
  · rename_i hx
    refine ⟨?_, fun y => ?_⟩
    · unfold insAt
      have hle : ∀ a ∈ l.take (place lt l x l.length), lt a x = true := by
        intro a ha
        obtain ⟨i, hi, hil, rfl⟩ := nth_mem_take ha
        have hb := place_below (lt := lt) l x l.length (by omega)
        have hlast : lt (nth l (place lt l x l.length - 1)) x = true := by
          cases hc : lt (nth l (place lt l x l.length - 1)) x with
          | true => rfl
          | false => exact absurd ⟨by omega, O.total _ _ hc hb⟩ hx
        by_cases e : i = place lt l x l.length - 1
        · rw [e]; exact hlast
        · have h3 := hp i (place lt l x l.length - 1) hil (by omega) (by omega)
          rw [← nth_eq, ← nth_eq] at h3
          exact O.trans _ _ _ h3 hlast
      have hge : ∀ a ∈ l.drop (place lt l x l.length), lt x a = true := by
        intro a ha
        obtain ⟨i, hi, hil, rfl⟩ := nth_mem_drop ha
        exact place_above l x l.length i hi hil
      refine List.pairwise_append.2 ⟨h.sublist (List.take_sublist _ _), List.pairwise_cons.2 ⟨hge, h.sublist (List.drop_sublist _ _)⟩, fun a ha b hb => ?_⟩
      rcases List.mem_cons.1 hb with rfl | hb
      · exact hle a ha
      · exact O.trans _ _ _ (hle a ha) (hge b hb)
    · rw [(insAt_perm l x _).mem_iff]; simp
theorem sortOnce_ok (O : StrictOrd lt) (l : List α) : (sortOnce lt l).Pairwise (fun a b => lt a b = true) ∧ ∀ y, y ∈ sortOnce lt l ↔ y ∈ l := by
  unfold sortOnce
  have key : ∀ (l m : List α), m.Pairwise (fun a b => lt a b = true) → (l.foldl (insOnce lt) m).Pairwise (fun a b => lt a b = true) ∧ ∀ y, y ∈ l.foldl (insOnce lt) m ↔ y ∈ m ∨ y ∈ l := by
    intro l
    induction l with
    | nil => intro m hm; exact ⟨hm, fun y => by simp⟩
    | cons x l ih =>
      intro m hm
      obtain ⟨k1, k2⟩ := insOnce_ok O hm x
      obtain ⟨h1, h2⟩ := ih (insOnce lt m x) k1
      refine ⟨h1, fun y => ?_⟩
      rw [List.foldl_cons, h2, k2]
      simp [or_assoc]
  obtain ⟨h1, h2⟩ := key l [] List.Pairwise.nil
  exact ⟨h1, fun y => by simpa using h2 y⟩
/-- The heap's way over each thing once, and the reference's, come to the same. -/
theorem drain_sortOnce (O : StrictOrd lt) (l : List α) : hdrain lt (once l).length (heapOf lt (once l)) = sortOnce lt l := by
  obtain ⟨h1, h2⟩ := heapOf_ok O (once l)
  obtain ⟨s1, s2⟩ := sortOnce_ok O l
  have hlen : (heapOf lt (once l)).length ≤ (once l).length := by rw [h2.length_eq]; exact Nat.le_refl _
  have hs : (sortOnce lt l).Pairwise (fun a b => lt b a = false) := s1.imp (fun h => O.asymm _ _ h)
  have hnd : (sortOnce lt l).Nodup := s1.imp (fun h e => by subst e; rw [O.irrefl] at h; cases h)
  have hperm : (once l).Perm (sortOnce lt l) := (List.perm_ext_iff_of_nodup (nodup_once l) hnd).2 (fun y => by rw [mem_once, s2])
  exact sorted_eq O (hdrain_sorted O _ _ hlen h1) hs (((hdrain_perm _ _ hlen).trans h2).trans hperm)
end
def evSort (l : List EvD) : List EvD := sortOnce evLess l
def outSort (l : List OutD) : List OutD := sortAll outLess l
end Go.Proofs.YtbcemldiahghcaaGreat

namespace Go.Proofs.YtbcemldiahghcaaGreat
set_option linter.unusedVariables false
set_option linter.unusedSectionVars false
structure SimD where
  states : List StD
  queue : List EvD
  outs : List OutD
  deriving DecidableEq, Inhabited
def sim0 : SimD := ⟨[], [], []⟩
def appFirst (p : Int) : EvD := if inn p 0 3 = true then ⟨0, p, -1, 0, p, 0, p⟩ else ⟨0, 0, 0, 0, 0, 0, 0⟩
def simStart : SimD := ⟨[st0, st0, st0, st0], [appFirst 0, appFirst 1, appFirst 2, appFirst 3], []⟩
def ascB {α : Type} (lt : α → α → Bool) : List α → Bool
  | [] => true
  | [_] => true
  | a :: b :: l => lt a b && ascB lt (b :: l)
def evsOk (l : List EvD) (most : Int) : Bool := decide ((l.length : Int) ≤ most) && (l.all evOk && ascB evLess l)
def outsOk (l : List OutD) (most : Int) : Bool := decide ((l.length : Int) ≤ most) && (l.all outOk && ascB outLess l)
def simOk (s : SimD) : Bool := decide (s.states.length = 4) && (s.states.all stOk && (evsOk s.queue 100 && outsOk s.outs 96))
/-- The first event is done. -/
def simNext (apps : List AppD) (s : SimD) : SimD :=
  match s.queue with
  | [] => s
  | e :: rest =>
    ⟨s.states.set e.to.toNat (appRun (apps.getD e.to.toNat ⟨[]⟩) (s.states.getD e.to.toNat st0) e).1,
     evSort (rest ++ (appRun (apps.getD e.to.toNat ⟨[]⟩) (s.states.getD e.to.toNat st0) e).2.1),
     outSort (s.outs ++ (appRun (apps.getD e.to.toNat ⟨[]⟩) (s.states.getD e.to.toNat st0) e).2.2)⟩
def simStepV (apps : List AppD) (s : SimD) : SimD × Bool :=
  match s.queue with
  | [] => (s, false)
  | _ :: _ => if simOk (simNext apps s) = true then (simNext apps s, true) else (s, false)
def simStep (apps : List AppD) (s : SimD) : SimD × Bool := if simOk s = true ∧ appsOk apps = true then simStepV apps s else (sim0, false)
def simLoop (apps : List AppD) (u : Int) : Nat → SimD → SimD
  | 0, s => s
  | n + 1, s =>
    match s.queue with
    | [] => s
    | e :: _ => if e.time < u then (if (simStepV apps s).2 = true then simLoop apps u n (simStepV apps s).1 else s) else s
def simRun (apps : List AppD) (u : Int) : SimD := if appsOk apps = true then simLoop apps u 200 simStart else sim0

theorem ascB_snoc {α : Type} (lt : α → α → Bool) (l : List α) (a : α) : ascB lt (l ++ [a]) = (ascB lt l && match l.getLast? with | none => true | some b => lt b a) := by
  induction l with
  | nil => rfl
  | cons x l ih =>
    cases l with
    | nil => simp [ascB]
    | cons y l =>
      simp only [List.cons_append, ascB] at ih ⊢
      rw [ih, Bool.and_assoc]
      simp [List.getLast?_cons_cons]
theorem ascB_step {α : Type} (lt : α → α → Bool) {l : List α} {k : Nat} (h : k < l.length) : ascB lt (l.take (k + 1)) = (ascB lt (l.take k) && (if k = 0 then true else lt (l[k-1]'(by omega)) l[k])) := by
  rw [List.take_succ_eq_append_getElem h, ascB_snoc]
  congr 1
  by_cases hk : k = 0
  · subst hk; simp
  · rw [if_neg hk]
    have : (l.take k).getLast? = some (l[k-1]'(by omega)) := by
      rw [List.getLast?_eq_getElem?, List.getElem?_take]
      simp only [List.length_take]
      rw [Nat.min_eq_left (by omega), if_pos (by omega), List.getElem?_eq_getElem]
    rw [this]
theorem ascB_take {α : Type} (lt : α → α → Bool) {l : List α} {k : Nat} (h : ascB lt (l.take k) = false) : ascB lt l = false := by
  induction hn : l.length - k generalizing k with
  | zero => rw [List.take_of_length_le (by omega)] at h; exact h
  | succ n ih =>
    have hk : k < l.length := by omega
    refine ih (k := k + 1) ?_ (by omega)
    rw [ascB_step lt hk, h]; rfl
theorem ascB_iff {α : Type} {lt : α → α → Bool} (O : StrictOrd lt) (l : List α) : ascB lt l = true ↔ l.Pairwise (fun a b => lt a b = true) := by
  induction l with
  | nil => simp [ascB]
  | cons a l ih =>
    cases l with
    | nil => simp [ascB]
    | cons b l =>
      simp only [ascB, Bool.and_eq_true, ih]
      constructor
      · rintro ⟨h1, h2⟩
        refine List.pairwise_cons.2 ⟨fun q hq => ?_, h2⟩
        rcases List.mem_cons.1 hq with rfl | hq
        · exact h1
        · exact O.trans _ _ _ h1 ((List.pairwise_cons.1 h2).1 q hq)
      · intro h
        obtain ⟨h1, h2⟩ := List.pairwise_cons.1 h
        exact ⟨h1 b (List.mem_cons_self ..), h2⟩
/-- What is sent and let out is in form, told apart by its number. -/
structure Made (e : EvD) (c : Int) (r : RunD) : Prop where
  good : Good e c r
  sends : ∀ q ∈ r.sends, (0 ≤ q.to ∧ q.to ≤ 3) ∧ (0 ≤ q.n) ∧ (0 ≤ q.kind ∧ q.kind ≤ 3) ∧ (0 ≤ q.arg ∧ q.arg ≤ 999)
  outs : ∀ (i : Nat) o, r.outs[i]? = some o → o.n = i ∧ o.count = c
  sn : ∀ (i : Nat) q, r.sends[i]? = some q → q.n = i
theorem doOp_made {e : EvD} {c : Int} {o : OpD} {r : RunD} (h : Made e c r) (ho : opOk o = true) : Made e c (doOp e c o r).1 := by
  refine ⟨doOp_good h.good ho, ?_, ?_, ?_⟩
  · rw [doOp_sends]
    split
    · rename_i h6
      intro q hq
      rcases List.mem_append.1 hq with hq | hq
      · exact h.sends q hq
      · simp only [List.mem_singleton] at hq
        subst hq
        have h3 := ho
        simp [opOk, inn, h6.1] at h3
        have h4 := h.good.run.get o.e
        exact ⟨⟨h3.1.1, h3.1.2⟩, by simp, ⟨h3.2.1.1, h3.2.1.2⟩, h4⟩
    · exact h.sends
  · rw [doOp_outs]
    split
    · intro i q hq
      rw [List.getElem?_append] at hq
      split at hq
      · exact h.outs i q hq
      · rename_i hge
        have hi : i = r.outs.length := by have := (List.getElem?_eq_some_iff.1 hq).1; simp at this; omega
        subst hi
        simp only [Nat.sub_self, List.getElem?_cons_zero, Option.some.injEq] at hq
        subst hq
        exact ⟨rfl, rfl⟩
    · exact h.outs
  · rw [doOp_sends]
    split
    · intro i q hq
      rw [List.getElem?_append] at hq
      split at hq
      · exact h.sn i q hq
      · rename_i hge
        have hi : i = r.sends.length := by have := (List.getElem?_eq_some_iff.1 hq).1; simp at this; omega
        subst hi
        simp only [Nat.sub_self, List.getElem?_cons_zero, Option.some.injEq] at hq
        subst hq
        rfl
    · exact h.sn
theorem doOps_made {e : EvD} {c : Int} : ∀ (n : Nat) (l : List OpD) (r : RunD), (∀ o ∈ l, opOk o = true) → Made e c r → Made e c (doOps e c n l r)
  | 0, _, r, _, h => by simpa [doOps] using h
  | n + 1, [], r, _, h => by simpa [doOps] using h
  | n + 1, o :: l, r, hl, h => by
    simp only [doOps]
    exact doOps_made n _ _ (fun q hq => hl q (List.mem_cons_of_mem _ (List.mem_of_mem_drop hq))) (doOp_made h (hl o (List.mem_cons_self ..)))
/-- What comes of an event that is in form, by a program that is. -/
structure Comes (s : StD) (e : EvD) (r : StD × List EvD × List OutD) : Prop where
  st : stOk r.1 = true
  way : (s.c = 12 ∧ r = (s, [], [])) ∨ (s.c < 12 ∧ r.1.c = s.c + 1 ∧ r.2.1.length ≤ 2 ∧ r.2.2.length ≤ 2)
  sends : ∀ q ∈ r.2.1, evOk q = true ∧ e.time < q.time
  outs : ∀ o ∈ r.2.2, outOk o = true ∧ o.time = e.time ∧ o.proc = e.to ∧ o.count = s.c
  nodup : r.2.2.Nodup
theorem appRun_comes {a : AppD} {s : StD} {e : EvD} (ha : appOk a = true) (hs : stOk s = true) (he : evOk e = true) : Comes s e (appRun a s e) := by
  have hr0 := stOk_run hs
  have hc : 0 ≤ s.c ∧ s.c ≤ 12 := by simp [stOk, inn] at hs; exact hs.2
  have hev := he
  simp only [evOk, inn, Bool.and_eq_true, decide_eq_true_eq] at hev
  unfold appRun
  rw [if_pos (by simp [ha, hs, he])]
  split
  · rename_i h12
    exact ⟨hs, Or.inl ⟨h12, rfl⟩, by simp, by simp, by simp⟩
  · rename_i h12
    have hm0 : Made e s.c ⟨s.x, s.y, [], []⟩ := ⟨⟨hr0, by simp, by simp⟩, by simp, by simp, by simp⟩
    have hasc : ascR a.rules = true := by simp only [appOk, Bool.and_eq_true] at ha; exact ha.2
    have key : Made e s.c (doRules e s.c a.rules ⟨s.x, s.y, [], []⟩) ∧ (doRules e s.c a.rules ⟨s.x, s.y, [], []⟩).sends.length ≤ 2 ∧ (doRules e s.c a.rules ⟨s.x, s.y, [], []⟩).outs.length ≤ 2 := by
      rcases doRules_one e s.c a.rules ⟨s.x, s.y, [], []⟩ hasc with h1 | ⟨q, hq, _, h1⟩
      · rw [h1]; exact ⟨hm0, by simp, by simp⟩
      · rw [h1]
        have ho : opsOk q.ops = true := by
          simp only [appOk, Bool.and_eq_true] at ha
          have := List.all_eq_true.1 ha.1.2 q hq
          simp only [ruleOk, Bool.and_eq_true] at this
          exact this.2
        have ho' := ho
        simp only [opsOk, Bool.and_eq_true, decide_eq_true_eq] at ho'
        obtain ⟨c1, c2⟩ := doOps_cnt e s.c q.ops.length q.ops ⟨s.x, s.y, [], []⟩
        simp only [List.length_nil] at c1 c2
        exact ⟨doOps_made _ _ _ (fun o ho2 => List.all_eq_true.1 ho'.1.1.1 o ho2) hm0, by omega, by omega⟩
    generalize doRules e s.c a.rules ⟨s.x, s.y, [], []⟩ = r at key
    obtain ⟨km, k1, k2⟩ := key
    show Comes s e (⟨r.x, r.y, s.c + 1⟩, r.sends, r.outs)
    refine ⟨?_, Or.inr ⟨by omega, rfl, k1, k2⟩, fun q (hq : q ∈ r.sends) => ?_, fun o (ho : o ∈ r.outs) => ?_, ?_⟩
    · have := km.good.run
      simp only [stOk, inn, Bool.and_eq_true, decide_eq_true_eq]
      exact ⟨⟨⟨this.x0, this.x1⟩, this.y0, this.y1⟩, by omega, by omega⟩
    · obtain ⟨g1, g2, g3, g4⟩ := km.good.sends q hq
      obtain ⟨m1, m2, m3, m4⟩ := km.sends q hq
      obtain ⟨i, hi, rfl⟩ := List.getElem_of_mem hq
      have hn := km.sn i _ (List.getElem?_eq_getElem hi)
      refine ⟨?_, g1⟩
      simp only [evOk, inn, Bool.and_eq_true, decide_eq_true_eq]
      rw [g2, g3, hn]
      omega
    · obtain ⟨g1, g2, g3, g4⟩ := km.good.outs o ho
      obtain ⟨i, hi, rfl⟩ := List.getElem_of_mem ho
      obtain ⟨hn, hcn⟩ := km.outs i _ (List.getElem?_eq_getElem hi)
      refine ⟨?_, g1, g2, hcn⟩
      simp only [outOk, inn, Bool.and_eq_true, decide_eq_true_eq]
      rw [g1, g2, hcn, hn]
      omega
    · refine List.pairwise_iff_getElem.2 fun i j hi hj hij e' => ?_
      have h1 := (km.outs i _ (List.getElem?_eq_getElem hi)).1
      have h2 := (km.outs j _ (List.getElem?_eq_getElem hj)).1
      rw [e', h2] at h1
      omega
end Go.Proofs.YtbcemldiahghcaaGreat
