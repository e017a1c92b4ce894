/- Texts joined: Sort, Spc1, Reg2. -/
import Derived.Test.YtlinephiindncaaJ00
import Derived.Test.YtlinephiindncaaJ04
import Derived.Test.YtlinephiindncaaJ03
import Derived.Test.YtlinephiindncaaJ02
namespace Go.Proofs.Ytlinephiindncaa
set_option linter.unusedVariables false
set_option linter.unusedSectionVars false
def lexLt : List Int → List Int → Bool
  | a :: l, b :: m => if a = b then lexLt l m else decide (a < b)
  | _, _ => false
theorem lexLt_asymm : ∀ (l m : List Int), lexLt l m = true → lexLt m l = false
  | [], _, h => by simp [lexLt] at h
  | _ :: _, [], h => by simp [lexLt] at h
  | a :: l, b :: m, h => by
    simp only [lexLt] at h ⊢
    by_cases e : a = b
    · subst e; rw [if_pos rfl] at h ⊢; exact lexLt_asymm l m h
    · rw [if_neg e] at h; rw [if_neg (Ne.symm e)]; simp at h ⊢; omega
theorem lexLt_trans : ∀ (l m n : List Int), lexLt l m = true → lexLt m n = true → lexLt l n = true
  | [], _, _, h, _ => by simp [lexLt] at h
  | _ :: _, [], _, h, _ => by simp [lexLt] at h
  | _ :: _, _ :: _, [], _, h => by simp [lexLt] at h
  | a :: l, b :: m, c :: n, h1, h2 => by
    simp only [lexLt] at h1 h2 ⊢
    by_cases e : a = b
    · subst e
      rw [if_pos rfl] at h1
      by_cases e2 : a = c
      · subst e2; rw [if_pos rfl] at h2 ⊢; exact lexLt_trans l m n h1 h2
      · rw [if_neg e2] at h2 ⊢; exact h2
    · rw [if_neg e] at h1
      simp only [decide_eq_true_eq] at h1
      by_cases e2 : b = c
      · subst e2; rw [if_neg e]; simpa using h1
      · rw [if_neg e2] at h2
        simp only [decide_eq_true_eq] at h2
        rw [if_neg (by omega)]
        simp; omega
theorem lexLt_total : ∀ (l m : List Int), l.length = m.length → lexLt l m = false → lexLt m l = false → l = m
  | [], [], _, _, _ => rfl
  | [], _ :: _, h, _, _ => by simp at h
  | _ :: _, [], h, _, _ => by simp at h
  | a :: l, b :: m, h, h1, h2 => by
    simp only [lexLt] at h1 h2
    by_cases e : a = b
    · subst e; rw [if_pos rfl] at h1 h2; rw [lexLt_total l m (by simpa using h) h1 h2]
    · rw [if_neg e] at h1; rw [if_neg (Ne.symm e)] at h2; simp at h1 h2; omega
def EvD.key (e : EvD) : List Int := [e.time, e.to, e.from_, e.count, e.n, e.kind, e.arg]
def OutD.key (o : OutD) : List Int := [o.time, o.proc, o.count, o.n, o.value]
def evLess (a b : EvD) : Bool := lexLt a.key b.key
def outLess (a b : OutD) : Bool := lexLt a.key b.key
theorem ev_ord : StrictOrd evLess where
  asymm a b := lexLt_asymm _ _
  trans a b c := lexLt_trans _ _ _
  total a b h1 h2 := by
    have := lexLt_total a.key b.key rfl h1 h2
    cases a; cases b; simpa [EvD.key] using this
theorem out_ord : StrictOrd outLess where
  asymm a b := lexLt_asymm _ _
  trans a b c := lexLt_trans _ _ _
  total a b h1 h2 := by
    have := lexLt_total a.key b.key rfl h1 h2
    cases a; cases b; simpa [OutD.key] using this
section
variable {α : Type} [Inhabited α] (lt : α → α → Bool)
/-- The place of x in a row in order, sought from place k down. -/
def place (l : List α) (x : α) : Nat → Nat
  | 0 => 0
  | k + 1 => if lt x (nth l k) = true then place l x k else k + 1
def insAt (l : List α) (x : α) (k : Nat) : List α := l.take k ++ x :: l.drop k
def insOnce [DecidableEq α] (l : List α) (x : α) : List α := if 0 < place lt l x l.length ∧ nth l (place lt l x l.length - 1) = x then l else insAt l x (place lt l x l.length)
def sortOnce [DecidableEq α] (l : List α) : List α := l.foldl (insOnce lt) []
def insAll (l : List α) (x : α) : List α := insAt l x (place lt l x l.length)
def sortAll (l : List α) : List α := l.foldl (insAll lt) []
variable {lt}
theorem place_le (l : List α) (x : α) : ∀ k, place lt l x k ≤ k
  | 0 => Nat.le_refl _
  | k + 1 => by
    simp only [place]; split
    · have := place_le l x k; omega
    · exact Nat.le_refl _
theorem place_above (l : List α) (x : α) : ∀ k j, place lt l x k ≤ j → j < k → lt x (nth l j) = true
  | 0, j, _, h => by omega
  | k + 1, j, h1, h2 => by
    simp only [place] at h1
    split at h1
    · rename_i hl
      by_cases e : j = k
      · subst e; exact hl
      · exact place_above l x k j h1 (by omega)
    · omega
theorem place_below (l : List α) (x : α) : ∀ k, 0 < place lt l x k → lt x (nth l (place lt l x k - 1)) = false
  | 0, h => by simp [place] at h
  | k + 1, h => by
    simp only [place] at h ⊢
    split
    · rename_i hl; rw [if_pos hl] at h; exact place_below l x k h
    · rename_i hl; simpa using hl
theorem insAt_perm (l : List α) (x : α) (k : Nat) : (insAt l x k).Perm (l ++ [x]) := by
  unfold insAt
  have h1 : (l.take k ++ x :: l.drop k).Perm (x :: (l.take k ++ l.drop k)) := List.perm_middle
  rw [List.take_append_drop] at h1
  exact h1.trans (List.perm_append_singleton x l).symm
theorem nth_mem_take {l : List α} {k : Nat} {a : α} (h : a ∈ l.take k) : ∃ i, i < k ∧ i < l.length ∧ a = nth l i := by
  obtain ⟨i, hi, rfl⟩ := List.getElem_of_mem h
  simp only [List.length_take] at hi
  exact ⟨i, by omega, by omega, by rw [nth_eq (by omega)]; simp⟩
theorem nth_mem_drop {l : List α} {k : Nat} {a : α} (h : a ∈ l.drop k) : ∃ i, k ≤ i ∧ i < l.length ∧ a = nth l i := by
  obtain ⟨i, hi, rfl⟩ := List.getElem_of_mem h
  simp only [List.length_drop] at hi
  exact ⟨k + i, by omega, by omega, by rw [nth_eq (by omega)]; simp⟩
/-- In order: nothing behind comes ahead. -/
theorem insAll_sorted (O : StrictOrd lt) {l : List α} (h : l.Pairwise (fun a b => lt b a = false)) (x : α) : (insAll lt l x).Pairwise (fun a b => lt b a = false) := by
  unfold insAll insAt
  have hp := List.pairwise_iff_getElem.1 h
  have hle : ∀ a ∈ l.take (place lt l x l.length), lt x a = false := by
    intro a ha
    obtain ⟨i, hi, hil, rfl⟩ := nth_mem_take ha
    have hb := place_below (lt := lt) l x l.length (by omega)
    have hpl := place_le (lt := lt) l x l.length
    by_cases e : i = place lt l x l.length - 1
    · rw [e]; exact hb
    · have h3 := hp i (place lt l x l.length - 1) hil (by omega) (by omega)
      rw [← nth_eq, ← nth_eq] at h3
      exact O.le_trans h3 hb
  have hge : ∀ a ∈ l.drop (place lt l x l.length), lt a x = false := by
    intro a ha
    obtain ⟨i, hi, hil, rfl⟩ := nth_mem_drop ha
    exact O.asymm _ _ (place_above l x l.length i hi hil)
  refine List.pairwise_append.2 ⟨h.sublist (List.take_sublist _ _), List.pairwise_cons.2 ⟨hge, h.sublist (List.drop_sublist _ _)⟩, fun a ha b hb => ?_⟩
  rcases List.mem_cons.1 hb with rfl | hb
  · exact hle a ha
  · exact O.le_trans (hle a ha) (hge b hb)
theorem sortAll_ok (O : StrictOrd lt) (l : List α) : (sortAll lt l).Pairwise (fun a b => lt b a = false) ∧ (sortAll lt l).Perm l := by
  unfold sortAll
  have key : ∀ (l m : List α), m.Pairwise (fun a b => lt b a = false) → (l.foldl (insAll lt) m).Pairwise (fun a b => lt b a = false) ∧ (l.foldl (insAll lt) m).Perm (m ++ l) := by
    intro l
    induction l with
    | nil => intro m hm; exact ⟨hm, by simp⟩
    | cons x l ih =>
      intro m hm
      obtain ⟨h1, h2⟩ := ih (insAll lt m x) (insAll_sorted O hm x)
      refine ⟨h1, h2.trans ?_⟩
      have := (insAt_perm m x (place lt m x m.length)).append_right l
      unfold insAll
      simpa using this
  obtain ⟨h1, h2⟩ := key l [] List.Pairwise.nil
  exact ⟨h1, by simpa using h2⟩
/-- The heap's way and the reference's come to the same. -/
theorem drain_sortAll (O : StrictOrd lt) (l : List α) : hdrain lt l.length (heapOf lt l) = sortAll lt l := by
  obtain ⟨h1, h2⟩ := heapOf_ok O l
  obtain ⟨s1, s2⟩ := sortAll_ok O l
  have hlen : (heapOf lt l).length ≤ l.length := by rw [h2.length_eq]; exact Nat.le_refl _
  exact sorted_eq O (hdrain_sorted O _ _ hlen h1) s1 (((hdrain_perm _ _ hlen).trans h2).trans s2.symm)
variable [DecidableEq α]
/-- Each thing once, as they first come. -/
def once (l : List α) : List α := l.foldl (fun m x => if x ∈ m then m else m ++ [x]) []
theorem once_snoc (l : List α) (x : α) : once (l ++ [x]) = if x ∈ l then once l else once l ++ [x] := by
  have hm : ∀ y, y ∈ once l ↔ y ∈ l := by
    intro y
    have key : ∀ (l m : List α), y ∈ l.foldl (fun m x => if x ∈ m then m else m ++ [x]) m ↔ y ∈ m ∨ y ∈ l := by
      intro l
      induction l with
      | nil => intro m; simp
      | cons a l ih =>
        intro m
        simp only [List.foldl_cons]
        rw [ih]
        by_cases h : a ∈ m
        · rw [if_pos h]; simp only [List.mem_cons]
          constructor
          · rintro (h1 | h1)
            · exact Or.inl h1
            · exact Or.inr (Or.inr h1)
          · rintro (h1 | rfl | h1)
            · exact Or.inl h1
            · exact Or.inl h
            · exact Or.inr h1
        · rw [if_neg h]; simp [or_assoc]
    have := key l []
    unfold once
    simpa using this
  unfold once at hm ⊢
  rw [List.foldl_append]
  simp only [List.foldl_cons, List.foldl_nil]
  by_cases h : x ∈ l
  · rw [if_pos ((hm x).2 h), if_pos h]
  · rw [if_neg (fun h2 => h ((hm x).1 h2)), if_neg h]
theorem mem_once (l : List α) (y : α) : y ∈ once l ↔ y ∈ l := by
  have key : ∀ n, ∀ l : List α, l.length = n → (y ∈ once l ↔ y ∈ l) := by
    intro n
    induction n with
    | zero => intro l h; obtain rfl := List.length_eq_zero_iff.1 h; simp [once]
    | succ n ih =>
      intro l h
      have hne : l ≠ [] := fun e => by rw [e] at h; simp at h
      rw [← List.dropLast_concat_getLast hne, once_snoc]
      have h2 := ih l.dropLast (by simp [h])
      split
      · rename_i hx
        rw [h2]; simp only [List.mem_append, List.mem_singleton]
        constructor
        · exact Or.inl
        · rintro (h3 | rfl)
          · exact h3
          · exact hx
      · simp only [List.mem_append, h2]
  exact key _ l rfl
theorem nodup_once (l : List α) : (once l).Nodup := by
  have key : ∀ n, ∀ l : List α, l.length = n → (once l).Nodup := by
    intro n
    induction n with
    | zero => intro l h; obtain rfl := List.length_eq_zero_iff.1 h; simp [once]
    | succ n ih =>
      intro l h
      have hne : l ≠ [] := fun e => by rw [e] at h; simp at h
      rw [← List.dropLast_concat_getLast hne, once_snoc]
      have h2 := ih l.dropLast (by simp [h])
      split
      · exact h2
      · rename_i hx
        refine List.nodup_append.2 ⟨h2, by simp, fun a ha b hb => ?_⟩
        simp only [List.mem_singleton] at hb
        subst hb
        intro e; subst e
        exact hx ((mem_once _ _).1 ha)
  exact key _ l rfl
theorem insOnce_ok (O : StrictOrd lt) {l : List α} (h : l.Pairwise (fun a b => lt a b = true)) (x : α) : (insOnce lt l x).Pairwise (fun a b => lt a b = true) ∧ ∀ y, y ∈ insOnce lt l x ↔ y ∈ l ∨ y = x := by
  have hp := List.pairwise_iff_getElem.1 h
  have hpl := place_le (lt := lt) l x l.length
  unfold insOnce
  split
  · rename_i hx
    refine ⟨h, fun y => ⟨Or.inl, ?_⟩⟩
    rintro (h1 | rfl)
    · exact h1
    · rw [← hx.2, nth_eq (by omega)]; exact List.getElem_mem _
  · rename_i hx
    refine ⟨?_, fun y => ?_⟩
    · unfold insAt
      have hle : ∀ a ∈ l.take (place lt l x l.length), lt a x = true := by
        intro a ha
        obtain ⟨i, hi, hil, rfl⟩ := nth_mem_take ha
        have hb := place_below (lt := lt) l x l.length (by omega)
        have hlast : lt (nth l (place lt l x l.length - 1)) x = true := by
          cases hc : lt (nth l (place lt l x l.length - 1)) x with
          | true => rfl
          | false => exact absurd ⟨by omega, O.total _ _ hc hb⟩ hx
        by_cases e : i = place lt l x l.length - 1
        · rw [e]; exact hlast
        · have h3 := hp i (place lt l x l.length - 1) hil (by omega) (by omega)
          rw [← nth_eq, ← nth_eq] at h3
          exact O.trans _ _ _ h3 hlast
      have hge : ∀ a ∈ l.drop (place lt l x l.length), lt x a = true := by
        intro a ha
        obtain ⟨i, hi, hil, rfl⟩ := nth_mem_drop ha
        exact place_above l x l.length i hi hil
      refine List.pairwise_append.2 ⟨h.sublist (List.take_sublist _ _), List.pairwise_cons.2 ⟨hge, h.sublist (List.drop_sublist _ _)⟩, fun a ha b hb => ?_⟩
      rcases List.mem_cons.1 hb with rfl | hb
      · exact hle a ha
      · exact O.trans _ _ _ (hle a ha) (hge b hb)
    · rw [(insAt_perm l x _).mem_iff]; simp
theorem sortOnce_ok (O : StrictOrd lt) (l : List α) : (sortOnce lt l).Pairwise (fun a b => lt a b = true) ∧ ∀ y, y ∈ sortOnce lt l ↔ y ∈ l := by
  unfold sortOnce
  have key : ∀ (l m : List α), m.Pairwise (fun a b => lt a b = true) → (l.foldl (insOnce lt) m).Pairwise (fun a b => lt a b = true) ∧ ∀ y, y ∈ l.foldl (insOnce lt) m ↔ y ∈ m ∨ y ∈ l := by
    intro l
    induction l with
    | nil => intro m hm; exact ⟨hm, fun y => by simp⟩
    | cons x l ih =>
      intro m hm
      obtain ⟨k1, k2⟩ := insOnce_ok O hm x
      obtain ⟨h1, h2⟩ := ih (insOnce lt m x) k1
      refine ⟨h1, fun y => ?_⟩
      rw [List.foldl_cons, h2, k2]
      simp [or_assoc]
  obtain ⟨h1, h2⟩ := key l [] List.Pairwise.nil
  exact ⟨h1, fun y => by simpa using h2 y⟩
/-- The heap's way over each thing once, and the reference's, come to the same. -/
theorem drain_sortOnce (O : StrictOrd lt) (l : List α) : hdrain lt (once l).length (heapOf lt (once l)) = sortOnce lt l := by
  obtain ⟨h1, h2⟩ := heapOf_ok O (once l)
  obtain ⟨s1, s2⟩ := sortOnce_ok O l
  have hlen : (heapOf lt (once l)).length ≤ (once l).length := by rw [h2.length_eq]; exact Nat.le_refl _
  have hs : (sortOnce lt l).Pairwise (fun a b => lt b a = false) := s1.imp (fun h => O.asymm _ _ h)
  have hnd : (sortOnce lt l).Nodup := s1.imp (fun h e => by subst e; rw [O.irrefl] at h; cases h)
  have hperm : (once l).Perm (sortOnce lt l) := (List.perm_ext_iff_of_nodup (nodup_once l) hnd).2 (fun y => by rw [mem_once, s2])
  exact sorted_eq O (hdrain_sorted O _ _ hlen h1) hs (((hdrain_perm _ _ hlen).trans h2).trans hperm)
end
def evSort (l : List EvD) : List EvD := sortOnce evLess l
def outSort (l : List OutD) : List OutD := sortAll outLess l
end Go.Proofs.Ytlinephiindncaa

namespace Go.Proofs.Ytlinephiindncaa
set_option linter.unusedVariables false
set_option linter.unusedSimpArgs false
set_option maxRecDepth 100000
open Go.RowKit
def outAgg (o : OutD) : Value := .agg #[.int .i64 o.time, .int .i64 o.proc, .int .i64 o.count, .int .i64 o.n, .int .i64 o.value]
end Go.Proofs.Ytlinephiindncaa

namespace Go.Proofs.Ytlinephiindncaa
set_option linter.unusedVariables false
set_option linter.unusedSimpArgs false
open Go.RowKit
inductive Pl where
  | nil
  | take (i : Nat) (p : Pl)
  | one (i : Nat) (p : Pl)
  | two (i : Nat) (p : Pl) (j : Nat) (q : Pl)
section
variable {P : Program} {ops : Array Oper} {Q : Exit → Act → World → Prop} {S : World → Prop}
def wpTree (P : Program) (ops : Array Oper) (Q : Exit → Act → World → Prop) (S : World → Prop) : Pl → Act → World → Prop
  | .nil, a, w => Q .normal a w
  | .take i r, a, w => ∃ o v, ops[i]? = some o ∧ YieldsIf P ops S o v a ∧ S w ∧ wpTree P ops Q S r (a.put o.dst v) w
  | .one i r, a, w => wpOp P ops Q i (fun a' w' => (lastOp ops i = true ∨ S w') ∧ wpTree P ops Q S r a' w') a w
  | .two i p j q, a, w => wpOp P ops Q i (fun a' w' => (lastOp ops i = true ∨ S w') ∧ wpTree P ops Q S p a' w') a w ∧ wpOp P ops Q j (fun a' w' => (lastOp ops j = true ∨ S w') ∧ wpTree P ops Q S q a' w') a w
def treeOk (ops : Array Oper) : Nat → Pl → Array Bool → Bool
  | 0, .nil, l => (Region.ready .any ops l).isEmpty
  | n + 1, .take i r, l => Region.free .any ops l i && (Region.ready .any ops l).contains i && treeOk ops n r (l.setIfInBounds i true)
  | n + 1, .one i r, l => (Region.ready .any ops l == [i]) && treeOk ops n r (l.setIfInBounds i true)
  | n + 1, .two i p j q, l => (Region.ready .any ops l == [i, j]) && treeOk ops n p (l.setIfInBounds i true) && treeOk ops n q (l.setIfInBounds j true)
  | _, _, _ => false
theorem wpAnyS_of_tree (hsel : Region.noSelect ops = true) (hQ : ∀ c a d v w, Q (.panic c) (Act.put a d v) w → Q (.panic c) a w) : ∀ (n : Nat) (plan : Pl) (listed : Array Bool) (a : Act) (w : World),
    Closed ops listed → treeOk ops n plan listed = true → wpTree P ops Q S plan a w → wpAnyS P ops Q S n listed a w
  | 0, .nil, listed, a, w, _, hp, h => ⟨by simpa [treeOk] using hp, h⟩
  | n + 1, .take i r, listed, a, w, hcl, hp, h => by
    simp only [treeOk, Bool.and_eq_true] at hp
    obtain ⟨o, v, hi, hy, hS, hr⟩ := h
    have hmem : i ∈ Region.ready .any ops listed := by simpa using hp.1.2
    exact wpAnyS_first hi (Region.noSelect_spec hsel) (fun c a w hq => hQ c a _ _ w hq) n listed a w hcl (Region.free_spec hi hp.1.1) hmem hy hS
      (wpAnyS_of_tree hsel hQ n r _ _ w (hcl.set hmem) hp.2 hr)
  | n + 1, .one i r, listed, a, w, hcl, hp, h => by
    simp only [treeOk, Bool.and_eq_true, beq_iff_eq] at hp
    refine ⟨fun h0 => (by rw [hp.1] at h0; cases h0), fun j hj => ?_⟩
    have hji : j = i := by rw [hp.1] at hj; simpa using hj
    subst hji
    exact wpOp_mono (fun a' w' h' => ⟨h'.1, wpAnyS_of_tree hsel hQ n r _ a' w' (hcl.set hj) hp.2 h'.2⟩) h
  | n + 1, .two i p k q, listed, a, w, hcl, hp, h => by
    simp only [treeOk, Bool.and_eq_true, beq_iff_eq] at hp
    refine ⟨fun h0 => (by rw [hp.1.1] at h0; cases h0), fun j hj => ?_⟩
    have hji : j = i ∨ j = k := by rw [hp.1.1] at hj; simpa using hj
    rcases hji with rfl | rfl
    · exact wpOp_mono (fun a' w' h' => ⟨h'.1, wpAnyS_of_tree hsel hQ n p _ a' w' (hcl.set hj) hp.1.2 h'.2⟩) h.1
    · exact wpOp_mono (fun a' w' h' => ⟨h'.1, wpAnyS_of_tree hsel hQ n q _ a' w' (hcl.set hj) hp.2 h'.2⟩) h.2
  | 0, .take _ _, _, _, _, _, hp, _ => by simp [treeOk] at hp
  | 0, .one _ _, _, _, _, _, hp, _ => by simp [treeOk] at hp
  | 0, .two _ _ _ _, _, _, _, _, hp, _ => by simp [treeOk] at hp
  | n + 1, .nil, _, _, _, _, hp, _ => by simp [treeOk] at hp
theorem region_tree {id : Nat} {a : Act} {w : World} {l : List Oper} (S : World → Prop) (plan : Pl) (hm : P.follows .mixedOrders = true)
    (hk : (Region.noSelect l.toArray && treeOk l.toArray l.toArray.size plan (Array.replicate l.toArray.size false)) = true)
    (hQ : ∀ c a d v w, Q (.panic c) (Act.put a d v) w → Q (.panic c) a w) (h : wpTree P l.toArray Q S plan a w.drew) : (Code.region id l.toArray true).wp P Q a w := by
  simp only [Bool.and_eq_true] at hk
  exact wp_region_any hm (wpAny_of_S _ _ _ _ (wpAnyS_of_tree hk.1 hQ _ plan _ a w.drew (Closed.start _) hk.2 h))
theorem tree_take {a : Act} {w : World} {i : Nat} {o : Oper} {v : Value} {r : Pl} (hi : ops[i]? = some o) (hS : S w) (hw : Region.wanted o (yielded ops a.tmps) = true)
    (hy : ∀ w, S w → (execOp a.eval o).run P w = .ok (.value v) w) (h : ∀ K : Act → Prop, (∀ a', wpTree P ops Q S r a' w → K a') → K (a.put o.dst v)) : wpTree P ops Q S (.take i r) a w := ⟨o, v, hi, .inl ⟨hw, hy⟩, hS, h _ fun _ h => h⟩
theorem tree_do {a : Act} {w : World} {i : Nat} {o : Oper} {r : Pl} (hi : ops[i]? = some o) (hw : Region.wanted o (yielded ops a.tmps) = true)
    (h : ∀ K : Act → World → Prop, (∀ a' w', (lastOp ops i = true ∨ S w') → wpTree P ops Q S r a' w' → K a' w') → o.wp P a w K Q) : wpTree P ops Q S (.one i r) a w := by
  show wpOp P ops Q i _ a w
  unfold wpOp
  simp only [hi, hw, if_true]
  exact Or.inl (h (fun a' w' => (lastOp ops i = true ∨ S w') ∧ wpTree P ops Q S r a' w') fun a' w' hS h' => ⟨hS, h'⟩)
theorem tree_two {a : Act} {w : World} {i j : Nat} {p q : Pl} (h1 : wpTree P ops Q S (.one i p) a w) (h2 : wpTree P ops Q S (.one j q) a w) : wpTree P ops Q S (.two i p j q) a w := ⟨h1, h2⟩
end
def noPanic (Q : Exit → Act → World → Prop) : Exit → Act → World → Prop
  | .panic _, _, _ => False
  | e, a, w => Q e a w
theorem noPanic_le {Q : Exit → Act → World → Prop} : ∀ e a w, noPanic Q e a w → Q e a w
  | .panic _, _, _, h => h.elim
  | .normal, _, _, h => h
  | .ret, _, _, h => h
  | .outgrown, _, _, h => h
  | .goto _, _, _, h => h
  | .exit _, _, _, h => h
theorem region_plan_np {P : Program} {Q : Exit → Act → World → Prop} {id : Nat} {a : Act} {w : World} {l : List Oper} (S : World → Prop) (plan : List (Nat × Bool)) (hm : P.follows .mixedOrders = true)
    (hk : (Region.noSelect l.toArray && plan.length == l.toArray.size && planOk l.toArray plan (Array.replicate l.toArray.size false)) = true)
    (h : wpSeq P l.toArray (noPanic Q) S plan a w.drew) : (Code.region id l.toArray true).wp P Q a w :=
  wp_mono (region_plan S plan hm hk (fun _ _ _ _ _ h => h) h) noPanic_le
end Go.Proofs.Ytlinephiindncaa
