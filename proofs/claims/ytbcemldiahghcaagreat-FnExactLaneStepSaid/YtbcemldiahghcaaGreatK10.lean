/- Texts joined: Par, Sub, SimW. -/
import Derived.Test.YtbcemldiahghcaaGreatK09
import Derived.Test.YtbcemldiahghcaaGreatK03
import Derived.Test.YtbcemldiahghcaaGreatK02
import Derived.Deep.DeepCutAuto
namespace Go.Proofs.YtbcemldiahghcaaGreat
set_option linter.unusedVariables false
set_option linter.unusedSimpArgs false
set_option linter.unusedSectionVars false
open Go.RowKit
section
variable {P : Program} {ops : Array Oper} {Q : Exit → Act → World → Prop} {S : World → Prop}
def dstOf (ops : Array Oper) (i : Nat) : Option Tmp := (ops[i]?).bind (·.dst)
def putAll (ops : Array Oper) (D : List Nat) (a : Act) (u : Nat → Value) : Act := D.foldl (fun a i => a.put (dstOf ops i) (u i)) a
def updV (u : Nat → Value) (i : Nat) (v : Value) : Nat → Value := fun j => if j = i then v else u j
def apartD (ops : Array Oper) (i j : Nat) : Prop := i ≠ j ∧ ∀ d, dstOf ops i = some d → dstOf ops j ≠ some d
theorem putAll_out {D : List Nat} {a : Act} {u : Nat → Value} {x : Option Tmp} {v : Value} (h : ∀ j ∈ D, ∀ d, x = some d → dstOf ops j ≠ some d) : (putAll ops D a u).put x v = putAll ops D (a.put x v) u := by
  induction D generalizing a with
  | nil => rfl
  | cons j D ih =>
    show (putAll ops D (a.put (dstOf ops j) (u j)) u).put x v = putAll ops D ((a.put x v).put (dstOf ops j) (u j)) u
    rw [ih (fun k hk => h k (List.mem_cons_of_mem _ hk)), Act.put_comm a (x := x) (y := dstOf ops j) v (u j) (h j (List.mem_cons_self ..))]
theorem putAll_upd {D : List Nat} {a : Act} {u : Nat → Value} {i : Nat} {v : Value} (h : i ∉ D) : putAll ops D a (updV u i v) = putAll ops D a u := by
  induction D generalizing a with
  | nil => rfl
  | cons j D ih =>
    show putAll ops D (a.put (dstOf ops j) (updV u i v j)) (updV u i v) = putAll ops D (a.put (dstOf ops j) (u j)) u
    have hij : j ≠ i := fun e => h (by rw [e]; exact List.mem_cons_self ..)
    rw [ih (fun hm => h (List.mem_cons_of_mem _ hm)), updV, if_neg hij]
theorem put_put (a : Act) (x : Option Tmp) (v u : Value) : (a.put x v).put x u = a.put x u := by
  cases x with
  | none => rfl
  | some d => simp [Act.put, Array.setIfInBounds_setIfInBounds]
theorem putAll_put {D : List Nat} {a : Act} {u : Nat → Value} {i : Nat} {v : Value} (hD : D.Pairwise (apartD ops)) (hi : i ∈ D) : (putAll ops D a u).put (dstOf ops i) v = putAll ops D a (updV u i v) := by
  induction D generalizing a with
  | nil => cases hi
  | cons j D ih =>
    obtain ⟨h1, h2⟩ := List.pairwise_cons.1 hD
    by_cases hij : i = j
    · subst hij
      show (putAll ops D (a.put (dstOf ops i) (u i)) u).put (dstOf ops i) v = putAll ops D (a.put (dstOf ops i) (updV u i v i)) (updV u i v)
      rw [putAll_out (fun k hk => (h1 k hk).2), put_put, putAll_upd (fun hm => (h1 i hm).1 rfl), updV, if_pos rfl]
    · have hi' : i ∈ D := by rcases List.mem_cons.1 hi with h | h; exact absurd h hij; exact h
      show (putAll ops D (a.put (dstOf ops j) (u j)) u).put (dstOf ops i) v = putAll ops D (a.put (dstOf ops j) (updV u i v j)) (updV u i v)
      rw [ih h2 hi', updV, if_neg (Ne.symm hij)]
theorem putAll_ext {D : List Nat} {a : Act} {u u' : Nat → Value} (h : ∀ i ∈ D, u i = u' i) : putAll ops D a u = putAll ops D a u' := by
  induction D generalizing a with
  | nil => rfl
  | cons j D ih =>
    show putAll ops D (a.put (dstOf ops j) (u j)) u = putAll ops D (a.put (dstOf ops j) (u' j)) u'
    rw [h j (List.mem_cons_self ..), ih (fun i hi => h i (List.mem_cons_of_mem _ hi))]
def slotOf (ops : Array Oper) (a : Act) (i : Nat) : Value := match dstOf ops i with | some d => a.tmps.getD d undef | none => undef
theorem putAll_self {D : List Nat} {a : Act} : putAll ops D a (slotOf ops a) = a := by
  induction D with
  | nil => rfl
  | cons j D ih =>
    have h : a.put (dstOf ops j) (slotOf ops a j) = a := by
      unfold slotOf
      cases hd : dstOf ops j with
      | none => rfl
      | some d =>
        simp only [Act.put]
        have : a.tmps.setIfInBounds d (a.tmps.getD d undef) = a.tmps := by
          apply Array.ext_getElem?
          intro k
          rw [Array.getElem?_setIfInBounds]
          split
          · rename_i hk
            subst hk
            split
            · rename_i hlt; simp [hlt]
            · rename_i hge; simp [Nat.not_lt.1 hge]
          · rfl
        rw [this]
    show putAll ops D (a.put (dstOf ops j) (slotOf ops a j)) (slotOf ops a) = a
    rw [h, ih]

def waits (ops : Array Oper) (j i : Nat) : Bool := match ops[j]? with | none => false | some o => o.after.any fun e => Region.binds .any e && e.on == i
theorem waits_spec {j i : Nat} (h : waits ops j i = true) : ∃ o, ops[j]? = some o ∧ ∃ e ∈ o.after, Region.binds .any e = true ∧ e.on = i := by
  unfold waits at h
  cases ho : ops[j]? with
  | none => rw [ho] at h; cases h
  | some o =>
    rw [ho] at h
    simp only [Array.any_eq_true] at h
    obtain ⟨k, hk, h⟩ := h
    simp only [Bool.and_eq_true, beq_iff_eq] at h
    exact ⟨o, rfl, o.after[k], Array.getElem_mem hk, h.1, h.2⟩
theorem not_ready {listed : Array Bool} {j i : Nat} (h : waits ops j i = true) (hl : listed.getD i false = false) : j ∉ Region.ready .any ops listed := by
  intro hr
  obtain ⟨o, ho, e, he, hb, rfl⟩ := waits_spec h
  obtain ⟨_, o', ho', hall⟩ := mem_ready.1 hr
  obtain rfl : o = o' := Option.some.inj (ho.symm.trans ho')
  have := hall e he hb
  rw [hl] at this; cases this
def topoOk (ops : Array Oper) (l0 : Array Bool) : List Nat → List Nat → Bool
  | _, [] => true
  | done, i :: r => (match ops[i]? with | none => false | some o => o.after.all fun e => !Region.binds .any e || l0.getD e.on false || done.contains e.on) && !(l0.getD i true) && topoOk ops l0 (done ++ [i]) r
theorem topoOk_at {l0 : Array Bool} : ∀ (D done : List Nat) (s i : Nat), topoOk ops l0 done D = true → D[s]? = some i →
    (∃ o, ops[i]? = some o ∧ ∀ e ∈ o.after, Region.binds .any e = true → l0.getD e.on false = true ∨ e.on ∈ done ++ D.take s) ∧ l0.getD i true = false
  | [], _, _, _, _, hs => by simp at hs
  | j :: r, done, 0, i, h, hs => by
    have hji : j = i := by simpa using hs
    subst hji
    simp only [topoOk, Bool.and_eq_true] at h
    obtain ⟨⟨h1, h2⟩, _⟩ := h
    refine ⟨?_, by simpa using h2⟩
    cases ho : ops[j]? with
    | none => rw [ho] at h1; cases h1
    | some o =>
      rw [ho] at h1
      refine ⟨o, rfl, fun e he hb => ?_⟩
      have h4 := (Array.all_eq_true_iff_forall_mem.1 h1) e he
      simp only [hb, Bool.not_true, Bool.false_or, Bool.or_eq_true, List.contains_iff_mem] at h4
      simpa using h4
  | j :: r, done, s + 1, i, h, hs => by
    simp only [topoOk, Bool.and_eq_true] at h
    have := topoOk_at r (done ++ [j]) s i h.2 (by simpa using hs)
    simpa [List.append_assoc] using this
def pairB (ops : Array Oper) : List Nat → Bool
  | [] => true
  | i :: r => r.all (fun j => i != j && match dstOf ops i with | none => true | some d => dstOf ops j != some d) && pairB ops r
theorem pairB_spec : ∀ {D : List Nat}, pairB ops D = true → D.Pairwise (apartD ops)
  | [], _ => .nil
  | i :: r, h => by
    simp only [pairB, Bool.and_eq_true] at h
    refine List.pairwise_cons.2 ⟨fun j hj => ?_, pairB_spec h.2⟩
    have := List.all_eq_true.1 h.1 j hj
    simp only [Bool.and_eq_true, bne_iff_ne] at this
    refine ⟨this.1, fun d hd => ?_⟩
    have h2 := this.2
    rw [hd] at h2
    simpa using h2
/-- What number j waits for, directly. -/
def waitL (ops : Array Oper) (j : Nat) : List Nat := match ops[j]? with | none => [] | some o => (o.after.toList.filter fun e => Region.binds .any e).map (·.on)
theorem waitL_spec {j i : Nat} (h : i ∈ waitL ops j) : ∃ o, ops[j]? = some o ∧ ∃ e ∈ o.after, Region.binds .any e = true ∧ e.on = i := by
  unfold waitL at h
  cases ho : ops[j]? with
  | none => rw [ho] at h; cases h
  | some o =>
    rw [ho] at h
    obtain ⟨e, he, rfl⟩ := List.mem_map.1 h
    obtain ⟨h1, h2⟩ := List.mem_filter.1 he
    exact ⟨o, rfl, e, by simpa using h1, h2, rfl⟩
/-- What of D comes ahead of j (D from its last on). -/
def cover (ops : Array Oper) : List Nat → List Nat → List Nat
  | S, [] => S
  | S, i :: r => cover ops (if S.contains i then waitL ops i ++ S else S) r
theorem cover_listed {listed : Array Bool} (hcl : Closed ops listed) : ∀ (D S : List Nat), (∀ i ∈ S, listed.getD i false = true) → ∀ i ∈ cover ops S D, listed.getD i false = true
  | [], S, h => h
  | j :: r, S, h => by
    refine cover_listed hcl r _ fun i hi => ?_
    split at hi
    · rename_i hc
      have hj := h j (by simpa using hc)
      rcases List.mem_append.1 hi with hi | hi
      · obtain ⟨o, ho, e, he, hb, rfl⟩ := waitL_spec hi
        exact hcl.closed j o ho hj e he hb
      · exact h i hi
    · exact h i hi
def parOk (ops : Array Oper) (l0 : Array Bool) (D : List (Nat × List Nat)) (R : List Nat) : Bool :=
  pairB ops (D.map (·.1)) && topoOk ops l0 [] (D.map (·.1)) && R.all (fun r => decide (ops.size ≤ r)) && D.all (fun p => p.2.all fun q => R.contains q || (waits ops p.1 q && (D.map (·.1)).contains q)) &&
  D.all (fun p => D.all fun q => p.1 == q.1 || p.2.all fun x => !q.2.contains x) &&
  (List.range ops.size).all fun j => l0.getD j false || (D.map (·.1)).contains j || (List.range ops.size).any (fun q => waits ops j q && !(l0.getD q false) && !(D.map (·.1)).contains q) || (D.map (·.1)).all (fun i => (cover ops (waitL ops j) (D.map (·.1)).reverse).contains i)

/-- One operation's step: it takes over the memory of those of I; PP: what is known of values for good. -/
def stepP (P : Program) (ops : Array Oper) (Q : Exit → Act → World → Prop) (D : List Nat) (a0 : Act) (w0 : World) (A : Nat → Prop) (N : Nat → (Nat → Value) → World → (Nat → Prop) → Prop) (PP : Nat → (Nat → Value) → Prop) (i : Nat) (I : List Nat) : Prop :=
  ∀ (u : Nat → Value) (w : World) (F : Nat → Nat → Prop), Ch A w0 w → (∀ j ∈ D, waits ops i j = true → PP j u) → (∀ j ∈ I, N j u w (F j)) → (∀ j ∈ I, ∀ k, F j k → (A k ∨ w0.heap.size ≤ k) ∧ k < w.heap.size) → (∀ j ∈ I, ∀ j' ∈ I, ∀ k, j ≠ j' → F j k → F j' k → False) →
      wpOp P ops Q i (fun a' w' => ∃ v F', a' = (putAll ops D a0 u).put (dstOf ops i) v ∧ Ch (fun k => ∃ j ∈ I, F j k) w w' ∧ N i (updV u i v) w' F' ∧ (∀ k, F' k → ((∃ j ∈ I, F j k) ∨ w.heap.size ≤ k) ∧ k < w'.heap.size) ∧ PP i (updV u i v)) (putAll ops D a0 u) w
def parP (P : Program) (ops : Array Oper) (Q : Exit → Act → World → Prop) (D : List Nat) (a0 : Act) (w0 : World) (A : Nat → Prop) (N : Nat → (Nat → Value) → World → (Nat → Prop) → Prop) (PP : Nat → (Nat → Value) → Prop) : List (Nat × List Nat) → Prop
  | [] => True
  | (i, I) :: r => stepP P ops Q D a0 w0 A N PP i I ∧ parP P ops Q D a0 w0 A N PP r
theorem parP_at {D0 : List Nat} {a0 : Act} {w0 : World} {A : Nat → Prop} {N : Nat → (Nat → Value) → World → (Nat → Prop) → Prop} {PP : Nat → (Nat → Value) → Prop} : ∀ (D : List (Nat × List Nat)) (p : Nat × List Nat), parP P ops Q D0 a0 w0 A N PP D → p ∈ D → stepP P ops Q D0 a0 w0 A N PP p.1 p.2
  | (i, I) :: r, p, h, hp => by
    rcases List.mem_cons.1 hp with rfl | hp
    · exact h.1
    · exact parP_at r p h.2 hp
def todo (listed : Array Bool) (D : List Nat) : Nat := D.countP fun i => !listed.getD i false
theorem todo_set {listed : Array Bool} {i : Nat} (hl : listed.getD i false = false) (hlt : i < listed.size) : ∀ {D : List Nat}, D.Nodup → (todo (listed.setIfInBounds i true) D + if i ∈ D then 1 else 0) = todo listed D
  | [], _ => rfl
  | j :: D, h => by
    obtain ⟨h1, h2⟩ := List.nodup_cons.1 h
    have ih := todo_set hl hlt h2
    unfold todo at ih ⊢
    rw [List.countP_cons, List.countP_cons]
    by_cases hij : j = i
    · subst hij
      rw [if_neg h1] at ih
      have h3 : (listed.setIfInBounds j true).getD j false = true := by simp [hlt]
      rw [h3, hl, if_pos (List.mem_cons_self ..)]
      simp at ih ⊢
      omega
    · rw [getD_set_ne false (Ne.symm hij)]
      have : (i ∈ j :: D) ↔ i ∈ D := by simp [Ne.symm hij]
      by_cases hm : i ∈ D
      · rw [if_pos hm] at ih; rw [if_pos (this.2 hm)]; omega
      · rw [if_neg hm] at ih; rw [if_neg (fun h => hm (this.1 h))]; omega
/-- What holds memory now: it is there, and nobody has taken it over. -/
def Avail (D : List (Nat × List Nat)) (R : List Nat) (listed : Array Bool) (j : Nat) : Prop := (j ∈ R ∨ (j ∈ D.map (·.1) ∧ listed.getD j false = true)) ∧ ∀ p ∈ D, listed.getD p.1 false = true → j ∉ p.2
def setAll (D : List Nat) (l0 : Array Bool) : Array Bool := D.foldl (fun l i => l.setIfInBounds i true) l0
theorem setAll_size : ∀ (D : List Nat) (l : Array Bool), (setAll D l).size = l.size := by
  intro D
  induction D with
  | nil => intro l; rfl
  | cons j D ih => intro l; rw [setAll, List.foldl_cons]; exact (ih _).trans (by simp)
theorem setAll_get : ∀ (D : List Nat) (l : Array Bool) (i : Nat), i < l.size → (setAll D l).getD i false = (decide (i ∈ D) || l.getD i false) := by
  intro D
  induction D with
  | nil => intro l i hi; simp [setAll]
  | cons j D ih =>
    intro l i hi
    have := ih (l.setIfInBounds j true) i (by simpa using hi)
    rw [setAll, List.foldl_cons]
    rw [setAll] at this
    rw [this]
    by_cases hij : j = i
    · subst hij; simp [hi]
    · rw [getD_set_ne false hij]; simp [Ne.symm hij]
theorem wpAnyS_par {D : List (Nat × List Nat)} {R : List Nat} {l0 : Array Bool} {a0 : Act} {w0 : World} {A : Nat → Prop} {N : Nat → (Nat → Value) → World → (Nat → Prop) → Prop} (hs0 : l0.size = ops.size) {PP : Nat → (Nat → Value) → Prop} (hk : parOk ops l0 D R = true) (hPP : ∀ j i u v, PP j u → i ≠ j → waits ops j i = false → PP j (updV u i v))
    (hNu : ∀ j i u v w F, N j u w F → i ≠ j → waits ops j i = false → N j (updV u i v) w F) (hSt : ∀ j v w w' F, N j v w F → (∀ k, F k → w'.heap[k]? = w.heap[k]?) → N j v w' F) (hS : ∀ w', Ch A w0 w' → S w')
    (hP : parP P ops Q (D.map (·.1)) a0 w0 A N PP D) (m : Nat)
    (hend : ∀ u w' (F : Nat → Nat → Prop) listed, listed = setAll (D.map (·.1)) l0 → Ch A w0 w' → (∀ j j' k, Avail D R listed j → Avail D R listed j' → j ≠ j' → F j k → F j' k → False) → (∀ j k, Avail D R listed j → F j k → (A k ∨ w0.heap.size ≤ k) ∧ k < w'.heap.size) →
      (∀ j, Avail D R listed j → N j u w' (F j)) → (∀ j ∈ D.map (·.1), PP j u) → Closed ops listed → wpAnyS P ops Q S m listed (putAll ops (D.map (·.1)) a0 u) w') :
    ∀ (n : Nat) (listed : Array Bool) (w : World) (u : Nat → Value) (F : Nat → Nat → Prop), todo listed (D.map (·.1)) = n → Closed ops listed → (∀ i, i ∉ D.map (·.1) → listed.getD i false = l0.getD i false) → Ch A w0 w →
      (∀ j, Avail D R listed j → N j u w (F j)) → (∀ j k, Avail D R listed j → F j k → (A k ∨ w0.heap.size ≤ k) ∧ k < w.heap.size) → (∀ j j' k, Avail D R listed j → Avail D R listed j' → j ≠ j' → F j k → F j' k → False) → (∀ j ∈ D.map (·.1), listed.getD j false = true → PP j u) →
      wpAnyS P ops Q S (n + m) listed (putAll ops (D.map (·.1)) a0 u) w := by
  simp only [parOk, Bool.and_eq_true] at hk
  obtain ⟨⟨⟨⟨⟨hk1, hk2⟩, hkR⟩, hkI⟩, hkU⟩, hk3⟩ := hk
  have hD := pairB_spec hk1
  have hnd : (D.map (·.1)).Nodup := hD.imp fun h => h.1
  have hR : ∀ r ∈ R, ops.size ≤ r := fun r hr => by simpa using List.all_eq_true.1 hkR r hr
  have hI : ∀ p ∈ D, ∀ q ∈ p.2, q ∈ R ∨ (waits ops p.1 q = true ∧ q ∈ D.map (·.1)) := fun p hp q hq => by
    have := List.all_eq_true.1 (List.all_eq_true.1 hkI p hp) q hq
    simp only [Bool.or_eq_true, Bool.and_eq_true, List.contains_iff_mem] at this
    exact this
  have hU : ∀ p ∈ D, ∀ q ∈ D, p.1 ≠ q.1 → ∀ x ∈ p.2, x ∉ q.2 := fun p hp q hq hne x hx => by
    have := List.all_eq_true.1 (List.all_eq_true.1 hkU p hp) q hq
    simp only [Bool.or_eq_true, beq_iff_eq] at this
    rcases this with h | h
    · exact absurd h hne
    · have := List.all_eq_true.1 h x hx
      simpa using this
  intro n
  induction n with
  | zero =>
    intro listed w u F hn hcl hout hC hN hF hdis hpp
    have hall : ∀ i ∈ D.map (·.1), listed.getD i false = true := fun i hi => by
      have := List.countP_eq_zero.1 hn i hi
      simpa using this
    have hl : listed = setAll (D.map (·.1)) l0 := by
      apply Array.ext
      · rw [setAll_size, hcl.size, hs0]
      · intro i h1 h2
        have h3 := setAll_get (D.map (·.1)) l0 i (by rw [hs0, ← hcl.size]; exact h1)
        have h4 : listed.getD i false = (decide (i ∈ D.map (·.1)) || l0.getD i false) := by
          by_cases hm : i ∈ D.map (·.1)
          · rw [hall i hm]; simp only [hm, decide_true, Bool.true_or]
          · rw [hout i hm]; simp only [hm, decide_false, Bool.false_or]
        rw [← h4] at h3
        simpa [Array.getD_eq_getD_getElem?, h1, h2] using h3.symm
    rw [Nat.zero_add]
    exact hend u w F listed hl hC hdis hF hN (fun j hj => hpp j hj (hall j hj)) hcl
  | succ n ih =>
    intro listed w u F hn hcl hout hC hN hF hdis hpp
    rw [show n + 1 + m = (n + m) + 1 from by omega]
    have hopen : ∃ i ∈ D.map (·.1), listed.getD i false = false := by
      have h0 : 0 < (D.map (·.1)).countP (fun i => !listed.getD i false) := by have := hn; unfold todo at this; omega
      obtain ⟨i, hi, hu⟩ := List.countP_pos_iff.1 h0
      exact ⟨i, hi, by simpa using hu⟩
    refine ⟨fun h0 => ?_, fun i hi => ?_⟩
    · have key : ∀ (s i : Nat), (D.map (·.1))[s]? = some i → listed.getD i false = false → False := by
        intro s
        induction s using Nat.strongRecOn with
        | _ s ihs =>
          intro i hs hun
          obtain ⟨⟨o, ho, hedge⟩, _⟩ := topoOk_at (D.map (·.1)) [] s i hk2 hs
          have hlt' : i < listed.size := by rw [hcl.size]; exact (Array.getElem?_eq_some_iff.1 ho).1
          by_cases hex : ∃ s' j, s' < s ∧ (D.map (·.1))[s']? = some j ∧ listed.getD j false = false
          · obtain ⟨s', j, hlt, hj, hju⟩ := hex
            exact ihs s' hlt j hj hju
          · have hmem : i ∈ Region.ready .any ops listed := by
              refine mem_ready.2 ⟨by simpa [Array.getD_eq_getD_getElem?, hlt'] using hun, o, ho, fun e he hb => ?_⟩
              rcases hedge e he hb with h | h
              · by_cases hm : e.on ∈ D.map (·.1)
                · obtain ⟨p2, hp2, hpe⟩ := List.getElem_of_mem hm
                  obtain ⟨_, h5⟩ := topoOk_at (D.map (·.1)) [] p2 e.on hk2 (by rw [← hpe]; exact List.getElem?_eq_getElem hp2)
                  exfalso
                  have : e.on < l0.size := by
                    rcases Nat.lt_or_ge e.on l0.size with hh | hh
                    · exact hh
                    · simp [Array.getD_eq_getD_getElem?, Array.getElem?_eq_none hh] at h
                  simp [Array.getD_eq_getD_getElem?, this] at h h5
                  rw [h] at h5; cases h5
                · rw [hout _ hm]; exact h
              · simp only [List.nil_append] at h
                obtain ⟨p, hp', he'⟩ := List.getElem_of_mem h
                have hpl : p < s := by simp at hp'; omega
                rw [List.getElem_take] at he'
                have hpe : (D.map (·.1))[p]? = some e.on := by rw [← he']; exact List.getElem?_eq_getElem _
                cases hq : listed.getD e.on false with
                | true => rfl
                | false => exact absurd ⟨p, e.on, hpl, hpe, hq⟩ hex
            rw [h0] at hmem; cases hmem
      obtain ⟨i, hi, hun⟩ := hopen
      obtain ⟨s, hs, rfl⟩ := List.getElem_of_mem hi
      exact (key s _ (List.getElem?_eq_getElem hs) hun).elim
    · have hun : listed.getD i false = false := by
        have h1 := (mem_ready.1 hi).1
        rw [Array.getD_eq_getD_getElem?] at h1 ⊢
        cases hq : listed[i]? with
        | none => simp [hq] at h1
        | some b => simp [hq] at h1 ⊢; exact h1
      obtain ⟨_, oi, hoi, hedges⟩ := mem_ready.1 hi
      have hisz : i < ops.size := (Array.getElem?_eq_some_iff.1 hoi).1
      have hmem : i ∈ D.map (·.1) := by
        refine Classical.byContradiction fun hm => ?_
        have h1 := List.all_eq_true.1 hk3 i (List.mem_range.2 hisz)
        have hl0 : l0.getD i false = false := by rw [← hout i hm]; exact hun
        have hm' : (D.map (·.1)).contains i = false := by simpa using hm
        rw [hl0, hm'] at h1
        simp only [Bool.false_or, Bool.or_eq_true] at h1
        rcases h1 with h1 | h1
        · obtain ⟨q, _, hq⟩ := List.any_eq_true.1 h1
          simp only [Bool.and_eq_true, Bool.not_eq_true'] at hq
          exact not_ready hq.1.1 (by rw [hout q (by simpa using hq.2)]; exact hq.1.2) hi
        · obtain ⟨j, hj, hju⟩ := hopen
          have h2 := List.all_eq_true.1 h1 j hj
          have h3 := cover_listed hcl (D.map (·.1)).reverse (waitL ops i) (fun q hq => by
            obtain ⟨o, ho, e, he, hb, rfl⟩ := waitL_spec hq
            obtain rfl : o = oi := Option.some.inj (ho.symm.trans hoi)
            exact hedges e he hb) j (by simpa using h2)
          rw [hju] at h3; cases h3
      obtain ⟨p, hp, hpi⟩ := List.mem_map.1 hmem
      subst hpi
      have hself : ∀ j ∈ p.2, j ∈ R ∨ (j ∈ D.map (·.1) ∧ listed.getD j false = true) := fun j hj => by
        rcases hI p hp j hj with h | ⟨hw, h⟩
        · exact .inl h
        · refine .inr ⟨h, ?_⟩
          obtain ⟨o, ho, e, he, hb, rfl⟩ := waits_spec hw
          obtain rfl : o = oi := Option.some.inj (ho.symm.trans hoi)
          exact hedges e he hb
      have hav : ∀ j ∈ p.2, Avail D R listed j := fun j hj => ⟨hself j hj, fun q hq hql hjq => by
        by_cases hpq : p.1 = q.1
        · rw [← hpq, hun] at hql; cases hql
        · exact hU p hp q hq hpq j hj hjq⟩
      have hwl : ∀ j, waits ops p.1 j = true → listed.getD j false = true := fun j hw => by
        obtain ⟨o, ho, e, he, hb, rfl⟩ := waits_spec hw
        obtain rfl : o = oi := Option.some.inj (ho.symm.trans hoi)
        exact hedges e he hb
      have htri := parP_at D p hP hp u w F hC (fun j hj hw => hpp j hj (hwl j hw)) (fun j hj => hN j (hav j hj)) (fun j hj k => hF j k (hav j hj)) (fun j hj j' hj' k hne => hdis j j' k (hav j hj) (hav j' hj') hne)
      refine wpOp_mono (fun a' w' h' => ?_) htri
      obtain ⟨v, F', rfl, hC', hN', hF', hpn⟩ := h'
      have hC2 : Ch A w0 w' := hC.then hC' fun k hk => by obtain ⟨j, hj, hjk⟩ := hk; exact (hF j k (hav j hj) hjk).1
      refine ⟨.inr (hS w' hC2), ?_⟩
      rw [putAll_put hD hmem]
      have hisz' : p.1 < listed.size := by rw [hcl.size]; exact hisz
      have hback : ∀ j, Avail D R (listed.setIfInBounds p.1 true) j → j ≠ p.1 → Avail D R listed j ∧ j ∉ p.2 := fun j hj hne => by
        obtain ⟨h1, h2⟩ := hj
        refine ⟨⟨?_, fun q hq hql => h2 q hq ?_⟩, h2 p hp (by simp [hisz'])⟩
        · rcases h1 with h1 | ⟨h1, h3⟩
          · exact .inl h1
          · rw [getD_set_ne false (Ne.symm hne)] at h3; exact .inr ⟨h1, h3⟩
        · by_cases hqp : p.1 = q.1
          · rw [← hqp]; simp [hisz']
          · rw [getD_set_ne false hqp]; exact hql
      refine ih (listed.setIfInBounds p.1 true) w' (updV u p.1 v) (fun q => if q = p.1 then F' else F q) ?_ (hcl.set hi) ?_ hC2 ?_ ?_ ?_ ?_
      · have := todo_set hun hisz' hnd
        rw [if_pos hmem] at this
        omega
      · intro j hj
        have hij : p.1 ≠ j := fun e' => hj (e' ▸ hmem)
        rw [getD_set_ne false hij]; exact hout j hj
      · intro j hj
        by_cases hjp : j = p.1
        · subst hjp; simp only [if_true]; exact hN'
        · obtain ⟨h1, h2⟩ := hback j hj hjp
          simp only [if_neg hjp]
          have hwf : waits ops j p.1 = false := by
            cases hw : waits ops j p.1 with
            | false => rfl
            | true =>
              exfalso
              obtain ⟨o, ho, e, he, hb, hon⟩ := waits_spec hw
              rcases h1.1 with h3 | h3
              · have := hR j h3
                have := (Array.getElem?_eq_some_iff.1 ho).1
                omega
              · have := hcl.closed j o ho h3.2 e he hb
                rw [hon, hun] at this; cases this
          refine hSt j _ w w' (F j) (hNu j p.1 u v w (F j) (hN j h1) (Ne.symm hjp) hwf) fun k hk => hC'.block k (hF j k h1 hk).2 ?_
          rintro ⟨q, hq, hqk⟩
          exact hdis j q k h1 (hav q hq) (fun e' => h2 (e' ▸ hq)) hk hqk
      · intro j k hj hk
        by_cases hjp : j = p.1
        · subst hjp
          simp only [if_true] at hk
          obtain ⟨h1, h2⟩ := hF' k hk
          refine ⟨?_, h2⟩
          rcases h1 with ⟨q, hq, hqk⟩ | h1
          · exact (hF q k (hav q hq) hqk).1
          · exact .inr (Nat.le_trans hC.size h1)
        · simp only [if_neg hjp] at hk
          obtain ⟨h1, _⟩ := hback j hj hjp
          exact ⟨(hF j k h1 hk).1, Nat.lt_of_lt_of_le (hF j k h1 hk).2 hC'.size⟩
      · intro j j' k hj hj' hne hk hk'
        have aux : ∀ q, Avail D R (listed.setIfInBounds p.1 true) q → q ≠ p.1 → F' k → F q k → False := fun q hq hqp h1 h2 => by
          obtain ⟨h3, h4⟩ := hback q hq hqp
          rcases (hF' k h1).1 with ⟨x, hx, hxk⟩ | h5
          · exact hdis x q k (hav x hx) h3 (fun e' => h4 (e' ▸ hx)) hxk h2
          · have := (hF q k h3 h2).2; omega
        by_cases hjp : j = p.1
        · subst hjp
          simp only [if_true] at hk
          simp only [if_neg (Ne.symm hne)] at hk'
          exact aux j' hj' (Ne.symm hne) hk hk'
        · simp only [if_neg hjp] at hk
          by_cases hjp' : j' = p.1
          · subst hjp'
            simp only [if_true] at hk'
            exact aux j hj hjp hk' hk
          · simp only [if_neg hjp'] at hk'
            obtain ⟨h1, _⟩ := hback j hj hjp
            obtain ⟨h2, _⟩ := hback j' hj' hjp'
            exact hdis j j' k h1 h2 hne hk hk'
      · intro j hj hl
        by_cases hjp : j = p.1
        · subst hjp; exact hpn
        · rw [getD_set_ne false (Ne.symm hjp)] at hl
          refine hPP j p.1 u v (hpp j hj hl) (Ne.symm hjp) ?_
          cases hw : waits ops j p.1 with
          | false => rfl
          | true =>
            exfalso
            obtain ⟨o, ho, e, he, hb, hon⟩ := waits_spec hw
            have := hcl.closed j o ho hl e he hb
            rw [hon, hun] at this; cases this

inductive Pz where
  | nil
  | take (i : Nat) (p : Pz)
  | one (i : Nat) (p : Pz)
  | par (D : List (Nat × List Nat)) (R : List Nat) (p : Pz)
def Pz.len : Pz → Nat
  | .nil => 0
  | .take _ p => p.len + 1
  | .one _ p => p.len + 1
  | .par D _ p => D.length + p.len
def Pz.takes : List Nat → Pz → Pz
  | [], p => p
  | i :: r, p => .take i (Pz.takes r p)
/-- What holds memory at the end. -/
def EndAv (D : List (Nat × List Nat)) (R : List Nat) (j : Nat) : Bool := (R.contains j || (D.map (·.1)).contains j) && D.all fun p => !p.2.contains j
def wpZ (P : Program) (ops : Array Oper) (Q : Exit → Act → World → Prop) (S : World → Prop) : Pz → Act → World → Prop
  | .nil, a, w => Q .normal a w
  | .take i r, a, w => ∃ o v, ops[i]? = some o ∧ YieldsIf P ops S o v a ∧ S w ∧ wpZ P ops Q S r (a.put o.dst v) w
  | .one i r, a, w => wpOp P ops Q i (fun a' w' => (lastOp ops i = true ∨ S w') ∧ wpZ P ops Q S r a' w') a w
  | .par D R r, a, w => ∃ (A : Nat → Prop) (N : Nat → (Nat → Value) → World → (Nat → Prop) → Prop) (PP : Nat → (Nat → Value) → Prop) (F0 : Nat → Nat → Prop), (∀ j i u v, PP j u → i ≠ j → waits ops j i = false → PP j (updV u i v)) ∧ (∀ j i u v w F, N j u w F → i ≠ j → waits ops j i = false → N j (updV u i v) w F) ∧ (∀ j v w w' F, N j v w F → (∀ k, F k → w'.heap[k]? = w.heap[k]?) → N j v w' F) ∧ (∀ w', Ch A w w' → S w') ∧
      (∀ j ∈ R, ∀ u : Nat → Value, u j = undef → N j u w (F0 j)) ∧ (∀ j ∈ R, ∀ k, F0 j k → A k ∧ k < w.heap.size) ∧ (∀ j ∈ R, ∀ j' ∈ R, ∀ k, j ≠ j' → F0 j k → F0 j' k → False) ∧ parP P ops Q (D.map (·.1)) a w A N PP D ∧
      ∀ u w' (F : Nat → Nat → Prop), Ch A w w' → (∀ j j' k, EndAv D R j = true → EndAv D R j' = true → j ≠ j' → F j k → F j' k → False) → (∀ j k, EndAv D R j = true → F j k → (A k ∨ w.heap.size ≤ k) ∧ k < w'.heap.size) → (∀ j, EndAv D R j = true → N j u w' (F j)) → (∀ j ∈ D.map (·.1), PP j u) → wpZ P ops Q S r (putAll ops (D.map (·.1)) a u) w'
def zOk (ops : Array Oper) : Pz → Array Bool → Bool
  | .nil, l => (Region.ready .any ops l).isEmpty
  | .take i r, l => Region.free .any ops l i && (Region.ready .any ops l).contains i && zOk ops r (l.setIfInBounds i true)
  | .one i r, l => (Region.ready .any ops l == [i]) && zOk ops r (l.setIfInBounds i true)
  | .par D R r, l => parOk ops l D R && zOk ops r (setAll (D.map (·.1)) l)
theorem todo_all {D : List Nat} {l0 : Array Bool} (h : ∀ i ∈ D, l0.getD i false = false) : todo l0 D = D.length := by
  unfold todo
  rw [List.countP_eq_length]
  intro i hi
  simp [h i hi]
theorem wpAnyS_of_z (hsel : Region.noSelect ops = true) (hQ : ∀ c a d v w, Q (.panic c) (Act.put a d v) w → Q (.panic c) a w) : ∀ (plan : Pz) (listed : Array Bool) (a : Act) (w : World),
    Closed ops listed → zOk ops plan listed = true → wpZ P ops Q S plan a w → wpAnyS P ops Q S plan.len listed a w
  | .nil, listed, a, w, _, hp, h => ⟨by simpa [zOk] using hp, h⟩
  | .take i r, listed, a, w, hcl, hp, h => by
    simp only [zOk, Bool.and_eq_true] at hp
    obtain ⟨o, v, hi, hy, hS, hr⟩ := h
    have hmem : i ∈ Region.ready .any ops listed := by simpa using hp.1.2
    exact wpAnyS_first hi (Region.noSelect_spec hsel) (fun c a w hq => hQ c a _ _ w hq) r.len listed a w hcl (Region.free_spec hi hp.1.1) hmem hy hS
      (wpAnyS_of_z hsel hQ r _ _ w (hcl.set hmem) hp.2 hr)
  | .one i r, listed, a, w, hcl, hp, h => by
    simp only [zOk, Bool.and_eq_true, beq_iff_eq] at hp
    refine ⟨fun h0 => (by rw [hp.1] at h0; cases h0), fun j hj => ?_⟩
    have hji : j = i := by rw [hp.1] at hj; simpa using hj
    subst hji
    exact wpOp_mono (fun a' w' h' => ⟨h'.1, wpAnyS_of_z hsel hQ r _ a' w' (hcl.set hj) hp.2 h'.2⟩) h
  | .par D R r, listed, a, w, hcl, hp, h => by
    simp only [zOk, Bool.and_eq_true] at hp
    obtain ⟨A, N, PP, F0, hPP, hNu, hSt, hS, h0, hF0, hd0, hP, hend⟩ := h
    have hk := hp.1
    have hunl : ∀ i ∈ D.map (·.1), listed.getD i false = false := fun i hi => by
      simp only [parOk, Bool.and_eq_true] at hk
      obtain ⟨s, hs, rfl⟩ := List.getElem_of_mem hi
      obtain ⟨_, h1⟩ := topoOk_at (D.map (·.1)) [] s _ hk.1.1.1.1.2 (List.getElem?_eq_getElem hs)
      generalize (D.map (·.1))[s] = i at h1
      rw [Array.getD_eq_getD_getElem?] at h1 ⊢
      cases hq : listed[i]? with
      | none => rfl
      | some b => simp [hq] at h1 ⊢; exact h1
    have hRd : ∀ j ∈ R, j ∉ D.map (·.1) := fun j hj hjd => by
      simp only [parOk, Bool.and_eq_true] at hk
      have h1 : ops.size ≤ j := by simpa using List.all_eq_true.1 hk.1.1.1.2 j hj
      obtain ⟨s, hs, rfl⟩ := List.getElem_of_mem hjd
      obtain ⟨⟨o, ho, _⟩, _⟩ := topoOk_at (D.map (·.1)) [] s _ hk.1.1.1.1.2 (List.getElem?_eq_getElem hs)
      have := (Array.getElem?_eq_some_iff.1 ho).1
      omega
    have hav0 : ∀ j, Avail D R listed j → j ∈ R := fun j hj => by
      rcases hj.1 with h1 | ⟨h1, h2⟩
      · exact h1
      · rw [hunl j h1] at h2; cases h2
    have hin : ∀ i ∈ D.map (·.1), i < ops.size := fun i hi => by
      simp only [parOk, Bool.and_eq_true] at hk
      obtain ⟨s, hs, rfl⟩ := List.getElem_of_mem hi
      obtain ⟨⟨o, ho, _⟩, _⟩ := topoOk_at (D.map (·.1)) [] s _ hk.1.1.1.1.2 (List.getElem?_eq_getElem hs)
      exact (Array.getElem?_eq_some_iff.1 ho).1
    have hset : ∀ i ∈ D.map (·.1), (setAll (D.map (·.1)) listed).getD i false = true := fun i hi => by
      rw [setAll_get _ _ _ (by rw [hcl.size]; exact hin i hi)]
      simp only [hi, decide_true, Bool.true_or]
    have hend' : ∀ j, EndAv D R j = true ↔ Avail D R (setAll (D.map (·.1)) listed) j := fun j => by
      simp only [EndAv, Bool.and_eq_true, Bool.or_eq_true, List.contains_iff_mem, List.all_eq_true, Bool.not_eq_true']
      constructor
      · rintro ⟨h1, h2⟩
        refine ⟨h1.imp_right fun h => ⟨h, hset j h⟩, fun p hp _ hj => ?_⟩
        have := h2 p hp
        rw [List.contains_eq_mem, decide_eq_false_iff_not] at this
        exact this hj
      · rintro ⟨h1, h2⟩
        refine ⟨h1.imp_right fun h => h.1, fun p hp => ?_⟩
        rw [List.contains_eq_mem, decide_eq_false_iff_not]
        exact h2 p hp (hset p.1 (List.mem_map_of_mem hp))
    have key := wpAnyS_par (P := P) (Q := Q) (S := S) (a0 := a) hcl.size hk hPP hNu hSt hS hP r.len (fun u w' F l hl hC hdis hF hN hpe hcl' => by
        subst hl
        exact wpAnyS_of_z hsel hQ r _ _ w' hcl' hp.2 (hend u w' F hC (fun j j' k hj hj' => hdis j j' k ((hend' j).1 hj) ((hend' j').1 hj')) (fun j k hj => hF j k ((hend' j).1 hj)) (fun j hj => hN j ((hend' j).1 hj)) hpe))
      (D.map (·.1)).length listed w (fun i => if i ∈ R then undef else slotOf ops a i) F0 (todo_all hunl) hcl (fun i _ => rfl) (Ch.refl _ _)
      (fun j hj => h0 j (hav0 j hj) _ (by simp only [if_pos (hav0 j hj)])) (fun j k hj hk => ⟨.inl (hF0 j (hav0 j hj) k hk).1, (hF0 j (hav0 j hj) k hk).2⟩) (fun j j' k hj hj' => hd0 j (hav0 j hj) j' (hav0 j' hj') k) (fun j hj hl => by rw [hunl j hj] at hl; cases hl)
    have hput : putAll ops (D.map (·.1)) a (fun i => if i ∈ R then undef else slotOf ops a i) = a := by
      rw [putAll_ext (u' := slotOf ops a) (fun i hi => if_neg (fun hr => hRd i hr hi)), putAll_self]
    rw [hput] at key
    show wpAnyS P ops Q S (D.length + r.len) listed a w
    have hlen : (D.map (·.1)).length = D.length := List.length_map ..
    rw [hlen] at key
    exact key
theorem region_z {id : Nat} {a : Act} {w : World} {l : List Oper} (S : World → Prop) (plan : Pz) (hm : P.follows .mixedOrders = true)
    (hk : (Region.noSelect l.toArray && plan.len == l.toArray.size && zOk l.toArray plan (Array.replicate l.toArray.size false)) = true)
    (hQ : ∀ c a d v w, Q (.panic c) (Act.put a d v) w → Q (.panic c) a w) (h : wpZ P l.toArray Q S plan a w.drew) : (Code.region id l.toArray true).wp P Q a w := by
  simp only [Bool.and_eq_true, beq_iff_eq] at hk
  have h1 := wpAny_of_S _ _ _ _ (wpAnyS_of_z hk.1.1 hQ plan _ a w.drew (Closed.start _) hk.2 h)
  rw [hk.1.2] at h1
  exact wp_region_any hm h1
theorem z_take {a : Act} {w : World} {i : Nat} {o : Oper} {v : Value} {r : Pz} (hi : ops[i]? = some o) (hS : S w) (hw : Region.wanted o (yielded ops a.tmps) = true)
    (hy : ∀ w, S w → (execOp a.eval o).run P w = .ok (.value v) w) (h : ∀ K : Act → Prop, (∀ a', wpZ P ops Q S r a' w → K a') → K (a.put o.dst v)) : wpZ P ops Q S (.take i r) a w := ⟨o, v, hi, .inl ⟨hw, hy⟩, hS, h _ fun _ h => h⟩
theorem z_skip {a : Act} {w : World} {i : Nat} {o : Oper} {r : Pz} (hi : ops[i]? = some o) (hS : S w) (hw : Region.wanted o (yielded ops a.tmps) = false)
    (h : ∀ K : Act → Prop, (∀ a', wpZ P ops Q S r a' w → K a') → K (a.put o.dst undef)) : wpZ P ops Q S (.take i r) a w := ⟨o, undef, hi, .inr ⟨hw, rfl⟩, hS, h _ fun _ h => h⟩
theorem z_do {a : Act} {w : World} {i : Nat} {o : Oper} {r : Pz} (hi : ops[i]? = some o) (hw : Region.wanted o (yielded ops a.tmps) = true)
    (h : ∀ K : Act → World → Prop, (∀ a' w', (lastOp ops i = true ∨ S w') → wpZ P ops Q S r a' w' → K a' w') → o.wp P a w K Q) : wpZ P ops Q S (.one i r) a w := by
  show wpOp P ops Q i _ a w
  unfold wpOp
  simp only [hi, hw, if_true]
  exact .inl (h _ fun a' w' hS h' => ⟨hS, h'⟩)
def putL (dl : List (Nat × Option Tmp)) (a : Act) (u : Nat → Value) : Act := dl.foldl (fun a p => a.put p.2 (u p.1)) a
theorem putL_cons (i : Nat) (d : Option Tmp) (r : List (Nat × Option Tmp)) (a : Act) (u : Nat → Value) : putL ((i, d) :: r) a u = putL r (a.put d (u i)) u := rfl
theorem putL_nil (a : Act) (u : Nat → Value) : putL [] a u = a := rfl
theorem putAll_putL {u : Nat → Value} : ∀ (D : List (Nat × List Nat)) (a : Act), putAll ops (D.map (·.1)) a u = putL (D.map fun p => (p.1, dstOf ops p.1)) a u
  | [], a => rfl
  | p :: D, a => by
    show putAll ops (D.map (·.1)) (a.put (dstOf ops p.1) (u p.1)) u = putL (D.map fun p => (p.1, dstOf ops p.1)) (a.put (dstOf ops p.1) (u p.1)) u
    exact putAll_putL D _
/-- One operation, by itself: I are those whose memory it takes over. -/
def stepS (P : Program) (ops : Array Oper) (Q : Exit → Act → World → Prop) (dl : List (Nat × Option Tmp)) (a0 : Act) (w0 : World) (A : Nat → Prop) (N : Nat → (Nat → Value) → World → (Nat → Prop) → Prop) (PP : Nat → (Nat → Value) → Prop) (i : Nat) (I : List Nat) : Prop :=
  ∃ o, ops[i]? = some o ∧ o.guard.isNone = true ∧ ∀ (u : Nat → Value) (w : World) (F : Nat → Nat → Prop), Ch A w0 w → (∀ j ∈ dl.map (·.1), waits ops i j = true → PP j u) → (∀ j ∈ I, N j u w (F j)) → (∀ j ∈ I, ∀ k, F j k → (A k ∨ w0.heap.size ≤ k) ∧ k < w.heap.size) → (∀ j ∈ I, ∀ j' ∈ I, ∀ k, j ≠ j' → F j k → F j' k → False) →
    ∀ K : Act → World → Prop, (∀ a' v w' (F' : Nat → Prop), a' = (putL dl a0 u).put o.dst v → Ch (fun k => ∃ j ∈ I, F j k) w w' → N i (updV u i v) w' F' → (∀ k, F' k → ((∃ j ∈ I, F j k) ∨ w.heap.size ≤ k) ∧ k < w'.heap.size) → PP i (updV u i v) → K a' w') → o.wp P (putL dl a0 u) w K Q
def parS (P : Program) (ops : Array Oper) (Q : Exit → Act → World → Prop) (dl : List (Nat × Option Tmp)) (a0 : Act) (w0 : World) (A : Nat → Prop) (N : Nat → (Nat → Value) → World → (Nat → Prop) → Prop) (PP : Nat → (Nat → Value) → Prop) : List (Nat × List Nat) → Prop
  | [] => True
  | p :: r => stepS P ops Q dl a0 w0 A N PP p.1 p.2 ∧ parS P ops Q dl a0 w0 A N PP r
section
variable {dl : List (Nat × Option Tmp)} {a0 : Act} {w0 : World} {A : Nat → Prop} {N : Nat → (Nat → Value) → World → (Nat → Prop) → Prop} {PP : Nat → (Nat → Value) → Prop} {i : Nat} {I : List Nat} {o : Oper} {r : List (Nat × List Nat)}
theorem parS_cons (h : stepS P ops Q dl a0 w0 A N PP i I) (k : parS P ops Q dl a0 w0 A N PP r) : parS P ops Q dl a0 w0 A N PP ((i, I) :: r) := ⟨h, k⟩
theorem parS_nil : parS P ops Q dl a0 w0 A N PP [] := trivial
theorem stepG_mk (ho : ops[i]? = some o) (hg : o.guard.isNone = true)
    (h : ∀ (u : Nat → Value) (w : World) (F : Nat → Nat → Prop), Ch A w0 w → (∀ j ∈ dl.map (·.1), waits ops i j = true → PP j u) → (∀ j ∈ I, N j u w (F j)) → (∀ j ∈ I, ∀ k, F j k → (A k ∨ w0.heap.size ≤ k) ∧ k < w.heap.size) → (∀ j ∈ I, ∀ j' ∈ I, ∀ k, j ≠ j' → F j k → F j' k → False) →
      ∀ K : Act → World → Prop, (∀ a' v w' (F' : Nat → Prop), a' = (putL dl a0 u).put o.dst v → Ch (fun k => ∃ j ∈ I, F j k) w w' → N i (updV u i v) w' F' → (∀ k, F' k → ((∃ j ∈ I, F j k) ∨ w.heap.size ≤ k) ∧ k < w'.heap.size) → PP i (updV u i v) → K a' w') → o.wp P (putL dl a0 u) w K Q) : stepS P ops Q dl a0 w0 A N PP i I := ⟨o, ho, hg, h⟩
/-- An operation that only reckons: what it yields is known for good. -/
theorem stepG_pure (ho : ops[i]? = some o) (hg : o.guard.isNone = true) (hN : ∀ u w, N i u w (fun _ => False))
    (h : ∀ (u : Nat → Value) (w : World), Ch A w0 w → (∀ j ∈ dl.map (·.1), waits ops i j = true → PP j u) → ∃ v, (∀ K : Act → World → Prop, K ((putL dl a0 u).put o.dst v) w → o.wp P (putL dl a0 u) w K Q) ∧ PP i (updV u i v)) : stepS P ops Q dl a0 w0 A N PP i [] :=
  ⟨o, ho, hg, fun u w F hC hp _ _ _ K hK => by
    obtain ⟨v, h1, h2⟩ := h u w hC hp
    exact h1 K (hK _ v w (fun _ => False) rfl (Ch.refl _ _) (hN _ w) (fun _ hf => hf.elim) h2)⟩
/-- What hangs on the operation's own value alone. -/
def ofVal (N : Nat → Value → World → (Nat → Prop) → Prop) : Nat → (Nat → Value) → World → (Nat → Prop) → Prop := fun j u w F => N j (u j) w F
theorem stepS_mk {N : Nat → Value → World → (Nat → Prop) → Prop} (ho : ops[i]? = some o) (hg : o.guard.isNone = true)
    (h : ∀ (u : Nat → Value) (w : World) (F : Nat → Nat → Prop), Ch A w0 w → (∀ j ∈ I, N j (u j) w (F j)) → (∀ j ∈ I, ∀ k, F j k → (A k ∨ w0.heap.size ≤ k) ∧ k < w.heap.size) → (∀ j ∈ I, ∀ j' ∈ I, ∀ k, j ≠ j' → F j k → F j' k → False) →
      ∀ K : Act → World → Prop, (∀ a' v w' (F' : Nat → Prop), a' = (putL dl a0 u).put o.dst v → Ch (fun k => ∃ j ∈ I, F j k) w w' → N i v w' F' → (∀ k, F' k → ((∃ j ∈ I, F j k) ∨ w.heap.size ≤ k) ∧ k < w'.heap.size) → K a' w') → o.wp P (putL dl a0 u) w K Q) : stepS P ops Q dl a0 w0 A (ofVal N) (fun _ _ => True) i I :=
  ⟨o, ho, hg, fun u w F h1 _ h2 h3 h4 K hK => h u w F h1 h2 h3 h4 K fun a' v w' F' e1 e2 e3 e4 => hK a' v w' F' e1 e2 (by unfold ofVal; simpa [updV] using e3) e4 trivial⟩
end
theorem parP_of_S {D0 : List (Nat × List Nat)} {dl : List (Nat × Option Tmp)} (hdl : D0.map (fun p => (p.1, dstOf ops p.1)) = dl) {a0 : Act} {w0 : World} {A : Nat → Prop} {N : Nat → (Nat → Value) → World → (Nat → Prop) → Prop} {PP : Nat → (Nat → Value) → Prop} :
    ∀ (D : List (Nat × List Nat)), parS P ops Q dl a0 w0 A N PP D → parP P ops Q (D0.map (·.1)) a0 w0 A N PP D
  | [], _ => trivial
  | (i, I) :: r, h => by
    refine ⟨fun u w F hC hp hN hF hd => ?_, parP_of_S hdl r h.2⟩
    obtain ⟨o, ho, hg, h1⟩ := h.1
    have hdm : dl.map (·.1) = D0.map (·.1) := by rw [← hdl, List.map_map]; rfl
    rw [putAll_putL (u := u), hdl]
    unfold wpOp
    have hw : Region.wanted o (yielded ops (putL dl a0 u).tmps) = true := by
      cases hgg : o.guard with
      | none => simp [Region.wanted, hgg]
      | some g => rw [hgg] at hg; cases hg
    simp only [ho, hw, if_true]
    exact .inl (h1 u w F hC (fun j hj => hp j (hdm ▸ hj)) hN hF hd _ fun a' v w' F' e1 e2 e3 e4 e5 => ⟨v, F', by rw [e1]; simp [dstOf, ho], e2, e3, e4, e5⟩)
theorem z_parG {a : Act} {w : World} {D : List (Nat × List Nat)} {R : List Nat} {r : Pz} (dl : List (Nat × Option Tmp)) (hdl : D.map (fun p => (p.1, dstOf ops p.1)) = dl) (A : Nat → Prop) (N : Nat → (Nat → Value) → World → (Nat → Prop) → Prop) (PP : Nat → (Nat → Value) → Prop) (F0 : Nat → Nat → Prop)
    (hPP : ∀ j i u v, PP j u → i ≠ j → waits ops j i = false → PP j (updV u i v)) (hNu : ∀ j i u v w F, N j u w F → i ≠ j → waits ops j i = false → N j (updV u i v) w F) (hSt : ∀ j v w w' F, N j v w F → (∀ k, F k → w'.heap[k]? = w.heap[k]?) → N j v w' F) (hS : ∀ w', Ch A w w' → S w')
    (h0 : ∀ j ∈ R, ∀ u : Nat → Value, u j = undef → N j u w (F0 j)) (h1 : ∀ j ∈ R, ∀ k, F0 j k → A k ∧ k < w.heap.size) (h2 : ∀ j ∈ R, ∀ j' ∈ R, ∀ k, j ≠ j' → F0 j k → F0 j' k → False) (hP : parS P ops Q dl a w A N PP D)
    (hend : ∀ K : Act → World → Prop, (∀ a' w', wpZ P ops Q S r a' w' → K a' w') → ∀ u w' (F : Nat → Nat → Prop), Ch A w w' → (∀ j j' k, EndAv D R j = true → EndAv D R j' = true → j ≠ j' → F j k → F j' k → False) → (∀ j k, EndAv D R j = true → F j k → (A k ∨ w.heap.size ≤ k) ∧ k < w'.heap.size) → (∀ j, EndAv D R j = true → N j u w' (F j)) → (∀ j ∈ D.map (·.1), PP j u) → K (putL dl a u) w') :
    wpZ P ops Q S (.par D R r) a w :=
  ⟨A, N, PP, F0, hPP, hNu, hSt, hS, h0, h1, h2, parP_of_S hdl D hP, fun u w' F e1 e2 e3 e4 e5 => by rw [putAll_putL (u := u), hdl]; exact hend _ (fun _ _ h => h) u w' F e1 e2 e3 e4 e5⟩
theorem z_par {a : Act} {w : World} {D : List (Nat × List Nat)} {R : List Nat} {r : Pz} (dl : List (Nat × Option Tmp)) (hdl : D.map (fun p => (p.1, dstOf ops p.1)) = dl) (A : Nat → Prop) (N : Nat → Value → World → (Nat → Prop) → Prop) (F0 : Nat → Nat → Prop)
    (hSt : ∀ j v w w' F, N j v w F → (∀ k, F k → w'.heap[k]? = w.heap[k]?) → N j v w' F) (hS : ∀ w', Ch A w w' → S w')
    (h0 : ∀ j ∈ R, N j undef w (F0 j)) (h1 : ∀ j ∈ R, ∀ k, F0 j k → A k ∧ k < w.heap.size) (h2 : ∀ j ∈ R, ∀ j' ∈ R, ∀ k, j ≠ j' → F0 j k → F0 j' k → False) (hP : parS P ops Q dl a w A (ofVal N) (fun _ _ => True) D)
    (hend : ∀ K : Act → World → Prop, (∀ a' w', wpZ P ops Q S r a' w' → K a' w') → ∀ u w' (F : Nat → Nat → Prop), Ch A w w' → (∀ j j' k, EndAv D R j = true → EndAv D R j' = true → j ≠ j' → F j k → F j' k → False) → (∀ j k, EndAv D R j = true → F j k → (A k ∨ w.heap.size ≤ k) ∧ k < w'.heap.size) → (∀ j, EndAv D R j = true → N j (u j) w' (F j)) → K (putL dl a u) w') :
    wpZ P ops Q S (.par D R r) a w :=
  z_parG dl hdl A (ofVal N) (fun _ _ => True) F0 (fun _ _ _ _ _ _ _ => trivial) (fun j i u v w F h hij _ => by unfold ofVal at h ⊢; simpa [updV, Ne.symm hij] using h) (fun j u w w' F h hm => hSt j (u j) w w' F h hm) hS (fun j hj u hu => by unfold ofVal; rw [hu]; exact h0 j hj) h1 h2 hP fun K hK u w' F e1 e2 e3 e4 _ => hend K hK u w' F e1 e2 e3 e4
end
end Go.Proofs.YtbcemldiahghcaaGreat

namespace Go.Proofs.YtbcemldiahghcaaGreat
set_option linter.unusedVariables false
set_option linter.unusedSimpArgs false
set_option linter.unusedSectionVars false
open Go.RowKit
section
variable {α : Type} {d : Ty α} {w : World} {F : Nat → Prop} {xs : List α} {A : Option Addr} {n c : Nat}
theorem Rd.takeP (h : Rd d w F (.slice A n c) xs) (k : Nat) (hk : k ≤ xs.length) : Rd d w F (.slice A k c) (xs.take k) := by
  obtain ⟨A', c', he, h1, h2, h3⟩ := h
  injection he with e1 e2 e3
  subst e1 e2 e3
  have hl : (xs.take k).length = k := by simp; omega
  refine ⟨A, c, by rw [hl], by omega, by omega, fun hp => ?_⟩
  obtain ⟨b, o, rfl, hb, hlt, hc⟩ := h3 (by omega)
  refine ⟨b, o, rfl, hb, hlt, fun j x hj => ?_⟩
  rw [List.getElem?_take] at hj
  split at hj
  · exact hc j x hj
  · cases hj
end
end Go.Proofs.YtbcemldiahghcaaGreat

namespace Go.Proofs.YtbcemldiahghcaaGreat
set_option linter.unusedVariables false
set_option linter.unusedSimpArgs false
set_option linter.unusedSectionVars false
open Go.RowKit
/-- What the operations of a region come to, by their numbers. -/
abbrev Held := Value → World → (Nat → Prop) → Prop
def NN (l : List (Nat × Held)) (j : Nat) (v : Value) (w : World) (F : Nat → Prop) : Prop := match l with | [] => True | (i, p) :: r => if j = i then p v w F else NN r j v w F
def Moves (p : Held) : Prop := ∀ v w w' F, p v w F → (∀ k, F k → w'.heap[k]? = w.heap[k]?) → p v w' F
def MovesL : List (Nat × Held) → Prop | [] => True | p :: r => Moves p.2 ∧ MovesL r
theorem NN_move : ∀ (l : List (Nat × Held)), MovesL l → ∀ j v w w' F, NN l j v w F → (∀ k, F k → w'.heap[k]? = w.heap[k]?) → NN l j v w' F
  | [], _, _, _, _, _, _, _, _ => trivial
  | (i, p) :: r, hl, j, v, w, w', F, h, hm => by
    unfold NN at h ⊢
    split
    · rename_i hj; rw [if_pos hj] at h; exact hl.1 v w w' F h hm
    · rename_i hj; rw [if_neg hj] at h; exact NN_move r hl.2 j v w w' F h hm
def rowH {α : Type} (d : Ty α) (e : TypeId) (xs : List α) : Held := fun v w F => Ow d e w F v xs
theorem rowH_moves {α : Type} (d : Ty α) (e : TypeId) (xs : List α) : Moves (rowH d e xs) := fun v w w' F h hm => Ow.move hm h
def valH (p : Value → Prop) : Held := fun v _ _ => p v
/-- A machine that is read. -/
structure SimRd (w : World) (F : Nat → Prop) (vs vq vo : Value) (s : SimD) : Prop where
  st : Rd tSt w F vs s.states
  qu : Rd tEv w F vq s.queue
  ou : Rd tOut w F vo s.outs
/-- A machine of the call's own. -/
structure SimOw (w : World) (F : Nat → Prop) (vs vq vo : Value) (s : SimD) : Prop where
  st : Ow tSt 49 w F vs s.states
  qu : Ow tEv 80 w F vq s.queue
  ou : Ow tOut 128 w F vo s.outs
section
variable {w w' : World} {F F' : Nat → Prop} {vs vq vo : Value} {s : SimD}
theorem SimRd.mono (h : SimRd w F vs vq vo s) (hF : ∀ k, F k → F' k) : SimRd w F' vs vq vo s := ⟨h.st.mono hF, h.qu.mono hF, h.ou.mono hF⟩
theorem SimRd.below (h : SimRd w F vs vq vo s) (hb : Below w.heap.size w w') : SimRd w' F vs vq vo s := ⟨h.st.below hb, h.qu.below hb, h.ou.below hb⟩
theorem SimRd.ch {S : Nat → Prop} (h : SimRd w F vs vq vo s) (hc : Ch S w w') (hS : ∀ k, F k → ¬ S k) : SimRd w' F vs vq vo s := ⟨h.st.ch hc hS, h.qu.ch hc hS, h.ou.ch hc hS⟩
theorem SimRd.move (h : SimRd w F vs vq vo s) (hm : ∀ k, F k → w'.heap[k]? = w.heap[k]?) : SimRd w' F vs vq vo s := ⟨h.st.move hm, h.qu.move hm, h.ou.move hm⟩
theorem SimOw.mono (h : SimOw w F vs vq vo s) (hF : ∀ k, F k → F' k) : SimOw w F' vs vq vo s := ⟨h.st.mono hF, h.qu.mono hF, h.ou.mono hF⟩
theorem SimOw.below (h : SimOw w F vs vq vo s) (hb : Below w.heap.size w w') : SimOw w' F vs vq vo s := ⟨h.st.below hb, h.qu.below hb, h.ou.below hb⟩
theorem SimOw.ch {S : Nat → Prop} (h : SimOw w F vs vq vo s) (hc : Ch S w w') (hS : ∀ k, F k → ¬ S k) : SimOw w' F vs vq vo s := ⟨h.st.ch hc hS, h.qu.ch hc hS, h.ou.ch hc hS⟩
theorem SimOw.move (h : SimOw w F vs vq vo s) (hm : ∀ k, F k → w'.heap[k]? = w.heap[k]?) : SimOw w' F vs vq vo s := ⟨h.st.move hm, h.qu.move hm, h.ou.move hm⟩
theorem SimOw.rd (h : SimOw w F vs vq vo s) : SimRd w F vs vq vo s := ⟨h.st.rd, h.qu.rd, h.ou.rd⟩
end
/-- Behind an append, as a step of a region. -/
theorem grown_step {α : Type} {cells : α → List Value} {sz : Nat} {hl : ∀ x, (cells x).length = sz} {ho : ∀ x, ∀ u ∈ cells x, u.oneCell' = true} {e : TypeId} {W w1 : World} {F G : Nat → Prop} {v v1 : Value} {xs ys : List α}
    (HO : Ow (flat cells sz hl ho) e W F v xs) (hO1 : Ow (flat cells sz hl ho) e w1 G v1 ys) (hG1 : W.grownBy w1 v.ownBlock) (hat1 : v1.ownBlock = v.ownBlock ∨ ∃ b, v1.ownBlock = some b ∧ W.heap.size ≤ b) :
    Ch F W w1 ∧ Ow (flat cells sz hl ho) e w1 (fun k => v1.ownBlock = some k) v1 ys ∧ ∀ k, v1.ownBlock = some k → (F k ∨ W.heap.size ≤ k) ∧ k < w1.heap.size := by
  refine ⟨(Ch.refl _ _).grown hG1 fun k hk => .inl (HO.inF hk), hO1.tight, fun k hk => ⟨?_, hO1.block_lt hk⟩⟩
  rcases hat1 with h | ⟨b, hb, hlt⟩
  · exact .inl (HO.inF (h ▸ hk))
  · rw [hb] at hk; cases hk; exact .inr hlt
/-- xs[k:] -/
theorem Rd.dropO {α : Type} {d : Ty α} {w : World} {F : Nat → Prop} {xs : List α} {A : Option Addr} {n c : Nat} (h : Rd d w F (.slice A n c) xs) (k : Nat) (hk : k ≤ xs.length) : Rd d w F (.slice (if c = k then A else A.map fun x => x.add (k * d.sz)) (n - k) (c - k)) (xs.drop k) := by
  obtain ⟨A1, c', he, h1, h2, h3⟩ := h
  injection he with e1 e2 e3
  subst e1 e2 e3
  have hl : (xs.drop k).length = xs.length - k := by simp
  refine ⟨_, c - k, by rw [hl], by omega, by omega, fun hp => ?_⟩
  obtain ⟨b, o, rfl, hb, hlt, hc⟩ := h3 (by omega)
  rw [if_neg (by omega)]
  refine ⟨b, o + k * d.sz, by simp [Addr.add], hb, hlt, fun j x hj => ?_⟩
  rw [List.getElem?_drop] at hj
  obtain ⟨cs, hr, hu⟩ := hc (k + j) x hj
  refine ⟨cs, hr, fun i u hi => ?_⟩
  have := hu i u hi
  rw [Nat.add_mul, ← Nat.add_assoc] at this
  exact this
theorem Rd.capLe {α : Type} {d : Ty α} {w : World} {F : Nat → Prop} {xs : List α} {A : Option Addr} {n c : Nat} (h : Rd d w F (.slice A n c) xs) : xs.length ≤ c := by
  obtain ⟨A1, c', he, h1, h2, h3⟩ := h
  injection he with e1 e2 e3
  omega
theorem Rd.shape {α : Type} {d : Ty α} {w : World} {F : Nat → Prop} {v : Value} {xs : List α} (h : Rd d w F v xs) : ∃ A c, v = .slice A xs.length c ∧ xs.length ≤ 9223372036854775807 := by
  obtain ⟨A, c, rfl, _, h2, _⟩ := h
  exact ⟨A, c, rfl, h2⟩
end Go.Proofs.YtbcemldiahghcaaGreat
