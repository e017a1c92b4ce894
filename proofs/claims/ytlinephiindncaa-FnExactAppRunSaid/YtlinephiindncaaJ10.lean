/- Texts joined: Ins, Spc4, Spc5. -/
import Derived.Test.YtlinephiindncaaJ05
import Derived.Test.YtlinephiindncaaJ09
import Derived.Test.YtlinephiindncaaJ04
import Derived.Test.YtlinephiindncaaJ07
import Derived.Deep.DeepCutAuto
namespace Go.Proofs.Ytlinephiindncaa
set_option linter.unusedVariables false
set_option linter.unusedSimpArgs false
set_option linter.unusedSectionVars false
section
variable {α : Type} [Inhabited α] {lt : α → α → Bool}
def shf (l : List α) (x : α) (n : Nat) : List α := (l ++ [x]).take (n + 1) ++ l.drop n
theorem shf_last (l : List α) (x : α) : shf l x l.length = l ++ [x] := by
  rw [shf, List.take_of_length_le (by simp), List.drop_length, List.append_nil]
theorem shf_len (l : List α) (x : α) {n : Nat} (h : n ≤ l.length) : (shf l x n).length = l.length + 1 := by
  simp [shf]; omega
theorem shf_at (l : List α) (x : α) {n : Nat} (h0 : 0 < n) (h : n ≤ l.length) (h2 : n - 1 < (shf l x n).length) : (shf l x n)[n - 1] = nth l (n - 1) := by
  rw [nth_eq (by omega)]
  simp only [shf]
  rw [List.getElem_append_left (by simp; omega), List.getElem_take, List.getElem_append_left (by omega)]
theorem shf_step (l : List α) (x : α) {n : Nat} (h0 : 0 < n) (h : n ≤ l.length) : (shf l x n).set n (nth l (n - 1)) = shf l x (n - 1) := by
  obtain ⟨m, rfl⟩ : ∃ m, n = m + 1 := ⟨n - 1, by omega⟩
  simp only [Nat.add_sub_cancel]
  rw [nth_eq (by omega)]
  have h1 : (l ++ [x]).take (m + 1 + 1) = (l ++ [x]).take (m + 1) ++ [(l ++ [x])[m + 1]'(by simp; omega)] := by rw [List.take_succ_eq_append_getElem]
  have h2 : ((l ++ [x]).take (m + 1)).length = m + 1 := by simp; omega
  have h3 : l.drop m = l[m] :: l.drop (m + 1) := by rw [List.drop_eq_getElem_cons (by omega)]
  rw [shf, shf, h1, h3, List.append_assoc, List.set_append, if_neg (by omega), h2]
  simp
theorem shf_end (l : List α) (x : α) {k : Nat} (h : k ≤ l.length) : (shf l x k).set k x = insAt l x k := by
  have h1 : (l ++ [x]).take (k + 1) = l.take k ++ [(l ++ [x])[k]'(by simp; omega)] := by
    rw [List.take_succ_eq_append_getElem (by simp; omega), List.take_append_of_le_length h]
  have h2 : (l.take k).length = k := by simp; omega
  rw [shf, h1, insAt, List.append_assoc, List.set_append, if_neg (by omega), h2]
  simp
theorem place_go {l : List α} {x : α} {k : Nat} (h0 : 0 < k) (h : lt x (nth l (k - 1)) = true) : place lt l x k = place lt l x (k - 1) := by
  obtain ⟨m, rfl⟩ : ∃ m, k = m + 1 := ⟨k - 1, by omega⟩
  simp only [Nat.add_sub_cancel] at h ⊢
  rw [place, if_pos h]
theorem place_stop {l : List α} {x : α} {k : Nat} (h : 0 < k → lt x (nth l (k - 1)) = false) : place lt l x k = k := by
  cases k with
  | zero => rfl
  | succ m =>
    have := h (by omega)
    simp only [Nat.add_sub_cancel] at this
    rw [place, if_neg (by simp [this])]
theorem fold_snoc {β : Type} (f : List α → α → List α) {l : List α} {k : Nat} (h : k < l.length) : (l.take (k + 1)).foldl f [] = f ((l.take k).foldl f []) l[k] := by
  rw [List.take_succ_eq_append_getElem h, List.foldl_append]
  rfl
theorem insOnce_len [DecidableEq α] (l : List α) (x : α) : (insOnce lt l x).length ≤ l.length + 1 := by
  unfold insOnce
  split
  · omega
  · have := place_le (lt := lt) l x l.length
    simp [insAt]; omega
theorem sortOnce_len [DecidableEq α] (xs : List α) : ∀ k, k ≤ xs.length → ((xs.take k).foldl (insOnce lt) []).length ≤ k
  | 0, _ => by simp
  | k + 1, h => by
    rw [fold_snoc (β := α) _ (by omega)]
    have := insOnce_len (lt := lt) ((xs.take k).foldl (insOnce lt) []) (xs[k]'(by omega))
    have := sortOnce_len xs k (by omega)
    omega
theorem sortAll_len (xs : List α) : ∀ k, k ≤ xs.length → ((xs.take k).foldl (insAll lt) []).length = k
  | 0, _ => by simp
  | k + 1, h => by
    rw [fold_snoc (β := α) _ (by omega)]
    have h1 := sortAll_len xs k (by omega)
    have := place_le (lt := lt) ((xs.take k).foldl (insAll lt) []) (xs[k]'(by omega)) ((xs.take k).foldl (insAll lt) []).length
    simp [insAll, insAt]; omega
end
end Go.Proofs.Ytlinephiindncaa

namespace Go.Proofs.Ytlinephiindncaa
set_option linter.unusedVariables false
set_option linter.unusedSimpArgs false
set_option maxRecDepth 100000
open Go.RowKit
end Go.Proofs.Ytlinephiindncaa

namespace Go.Proofs.Ytlinephiindncaa
set_option linter.unusedVariables false
set_option linter.unusedSimpArgs false
set_option maxRecDepth 100000
open Go.RowKit
end Go.Proofs.Ytlinephiindncaa
