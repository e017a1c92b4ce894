/- Texts joined: Ln1, Late. -/
import Derived.Test.YtbcemldiahghcaaGreatK02
import Derived.Test.YtbcemldiahghcaaGreatK10
import Derived.Test.YtbcemldiahghcaaGreatK08
namespace Go.Proofs.YtbcemldiahghcaaGreat
set_option linter.unusedVariables false
set_option linter.unusedSimpArgs false
open Go.RowKit
structure PastD where
  ev : EvD
  st : StD
  sends : List EvD
  outs : List OutD
deriving DecidableEq
structure LaneD where
  proc : Int
  base : StD
  done : List PastD
deriving DecidableEq
def lane0 : LaneD := ⟨0, ⟨0, 0, 0⟩, []⟩
def pastOk (p : PastD) (proc : Int) : Bool := evOk p.ev && (decide (p.ev.to = proc) && (stOk p.st && (evsOk p.sends 2 && outsOk p.outs 2)))
def pastLess (p q : PastD) : Bool := evLess p.ev q.ev
def laneOk (l : LaneD) : Bool := inn l.proc 0 3 && (stOk l.base && (decide (l.done.length ≤ 100) && (l.done.all (fun p => pastOk p l.proc) && ascB pastLess l.done)))
def laneNow (l : LaneD) : StD := match l.done.getLast? with | some p => p.st | none => l.base
/-- How many of what was done agree with what has come. -/
def laneSame : List PastD → List EvD → Nat
  | p :: ps, e :: es => if p.ev = e then laneSame ps es + 1 else 0
  | _, _ => 0
def cameOk (l : LaneD) (came : List EvD) : Bool := evsOk came 100 && came.all (fun e => decide (e.to = l.proc))
/-- The first event that is not done, of a lane that is in form. -/
def laneNext (l : LaneD) (came : List EvD) : Option EvD := if laneSame l.done came < l.done.length then none else came[laneSame l.done came]?
def laneDo (a : AppD) (l : LaneD) (e : EvD) : LaneD :=
  { l with done := l.done ++ [⟨e, (appRun a (laneNow l) e).1, evSort (appRun a (laneNow l) e).2.1, outSort (appRun a (laneNow l) e).2.2⟩] }
def laneStep (a : AppD) (l : LaneD) (came : List EvD) : LaneD × Bool :=
  if laneOk l = true then
    (if cameOk l came = true ∧ appOk a = true then (match laneNext l came with | some e => (laneDo a l e, true) | none => (l, false)) else (l, false))
  else (lane0, false)
def pastCells (p : PastD) (vs vo : Value) : List Value :=
  [.int .i64 p.ev.time, .int .i64 p.ev.to, .int .i64 p.ev.from_, .int .i64 p.ev.count, .int .i64 p.ev.n, .int .i64 p.ev.kind, .int .i64 p.ev.arg, .int .i64 p.st.x, .int .i64 p.st.y, .int .i64 p.st.c, vs, vo]
def tPast : Ty PastD where
  sz := 12
  rel := fun w F x cs => ∃ vs vo, cs = pastCells x vs vo ∧ Rd tEv w F vs x.sends ∧ Rd tOut w F vo x.outs
  len := fun ⟨vs, vo, h, _⟩ => by rw [h]; rfl
  one := fun ⟨vs, vo, h, h1, h2⟩ u hu => by
    obtain ⟨A, c, rfl, _⟩ := h1
    obtain ⟨A', c', rfl, _⟩ := h2
    rw [h] at hu; simp only [pastCells, List.mem_cons, List.not_mem_nil, or_false] at hu
    rcases hu with rfl | rfl | rfl | rfl | rfl | rfl | rfl | rfl | rfl | rfl | rfl | rfl <;> rfl
  mono := fun hF ⟨vs, vo, h, h1, h2⟩ => ⟨vs, vo, h, h1.mono hF, h2.mono hF⟩
  move := fun hm ⟨vs, vo, h, h1, h2⟩ => ⟨vs, vo, h, h1.move hm, h2.move hm⟩
  bound := fun ⟨vs, vo, h, h1, h2⟩ => ⟨vs, vo, h, h1.bound, h2.bound⟩
def oPast : Ty PastD where
  sz := 12
  rel := fun w F x cs => ∃ vs vo, cs = pastCells x vs vo ∧ Ow tEv 80 w F vs x.sends ∧ Ow tOut 128 w F vo x.outs
  len := fun ⟨vs, vo, h, _⟩ => by rw [h]; rfl
  one := fun ⟨vs, vo, h, h1, h2⟩ u hu => by
    have g1 := h1.oneCell
    have g2 := h2.oneCell
    rw [h] at hu; simp only [pastCells, List.mem_cons, List.not_mem_nil, or_false] at hu
    rcases hu with rfl | rfl | rfl | rfl | rfl | rfl | rfl | rfl | rfl | rfl | rfl | rfl <;> first | rfl | assumption
  mono := fun hF ⟨vs, vo, h, h1, h2⟩ => ⟨vs, vo, h, h1.mono hF, h2.mono hF⟩
  move := fun hm ⟨vs, vo, h, h1, h2⟩ => ⟨vs, vo, h, h1.move hm, h2.move hm⟩
  bound := fun ⟨vs, vo, h, h1, h2⟩ => ⟨vs, vo, h, h1.bound, h2.bound⟩
theorem Ow.rdPasts {w : World} {F : Nat → Prop} {v : Value} {xs : List PastD} {e : TypeId} (h : Ow oPast e w F v xs) : Rd tPast w F v xs :=
  Rd.map (d := oPast) rfl (fun x cs ⟨vs, vo, h1, h2, h3⟩ => ⟨vs, vo, h1, h2.rd, h3.rd⟩) h.rd
theorem past_at {w : World} {F : Nat → Prop} {A : Option Addr} {n c : Nat} {xs : List PastD} (h : Rd tPast w F (.slice A n c) xs) (j : Nat) (hj : j < xs.length) :
    ∃ b o A1 c1 A2 c2, A = some ⟨b, o, none⟩ ∧ b < w.heap.size ∧ (w.cell? ⟨b, o + j * 12, none⟩ = some (.int .i64 xs[j].ev.time) ∧ w.cell? ⟨b, o + j * 12 + 1, none⟩ = some (.int .i64 xs[j].ev.to) ∧ w.cell? ⟨b, o + j * 12 + 2, none⟩ = some (.int .i64 xs[j].ev.from_) ∧ w.cell? ⟨b, o + j * 12 + 3, none⟩ = some (.int .i64 xs[j].ev.count) ∧ w.cell? ⟨b, o + j * 12 + 4, none⟩ = some (.int .i64 xs[j].ev.n) ∧ w.cell? ⟨b, o + j * 12 + 5, none⟩ = some (.int .i64 xs[j].ev.kind) ∧ w.cell? ⟨b, o + j * 12 + 6, none⟩ = some (.int .i64 xs[j].ev.arg)) ∧
      (w.cell? ⟨b, o + j * 12 + 7, none⟩ = some (.int .i64 xs[j].st.x) ∧ w.cell? ⟨b, o + j * 12 + 8, none⟩ = some (.int .i64 xs[j].st.y) ∧ w.cell? ⟨b, o + j * 12 + 9, none⟩ = some (.int .i64 xs[j].st.c)) ∧
      w.cell? ⟨b, o + j * 12 + 10, none⟩ = some (.slice A1 xs[j].sends.length c1) ∧ w.cell? ⟨b, o + j * 12 + 11, none⟩ = some (.slice A2 xs[j].outs.length c2) ∧ Rd tEv w F (.slice A1 xs[j].sends.length c1) xs[j].sends ∧ Rd tOut w F (.slice A2 xs[j].outs.length c2) xs[j].outs := by
  obtain ⟨b, o, cs, rfl, _, hlt, ⟨vs, vo, rfl, hr, hs⟩, hu⟩ := h.at_ j hj
  obtain ⟨A1, c1, rfl, _⟩ := id hr
  obtain ⟨A2, c2, rfl, _⟩ := id hs
  exact ⟨b, o, A1, c1, A2, c2, rfl, hlt, ⟨hu 0 _ rfl, hu 1 _ rfl, hu 2 _ rfl, hu 3 _ rfl, hu 4 _ rfl, hu 5 _ rfl, hu 6 _ rfl⟩, ⟨hu 7 _ rfl, hu 8 _ rfl, hu 9 _ rfl⟩, hu 10 _ rfl, hu 11 _ rfl, hr, hs⟩
theorem cl1 {w : World} {g : Nat} {v0 : Value} {t : TypeId} {fr : Nat × Nat} (h : w.heap[g]? = some (.cells #[v0] t fr)) : w.cell? ⟨g, 0, none⟩ = some v0 := blk_cell h 0
theorem cl3 {w : World} {g : Nat} {v0 v1 v2 : Value} {t : TypeId} {fr : Nat × Nat} (h : w.heap[g]? = some (.cells #[v0, v1, v2] t fr)) : w.cell? ⟨g, 0, none⟩ = some v0 ∧ w.cell? ⟨g, 1, none⟩ = some v1 ∧ w.cell? ⟨g, 2, none⟩ = some v2 := ⟨blk_cell h 0, blk_cell h 1, blk_cell h 2⟩
theorem cl5 {w : World} {g : Nat} {v0 v1 v2 v3 v4 : Value} {t : TypeId} {fr : Nat × Nat} (h : w.heap[g]? = some (.cells #[v0, v1, v2, v3, v4] t fr)) : w.cell? ⟨g, 0, none⟩ = some v0 ∧ w.cell? ⟨g, 1, none⟩ = some v1 ∧ w.cell? ⟨g, 2, none⟩ = some v2 ∧ w.cell? ⟨g, 3, none⟩ = some v3 ∧ w.cell? ⟨g, 4, none⟩ = some v4 := ⟨blk_cell h 0, blk_cell h 1, blk_cell h 2, blk_cell h 3, blk_cell h 4⟩
theorem cl7 {w : World} {g : Nat} {v0 v1 v2 v3 v4 v5 v6 : Value} {t : TypeId} {fr : Nat × Nat} (h : w.heap[g]? = some (.cells #[v0, v1, v2, v3, v4, v5, v6] t fr)) : w.cell? ⟨g, 0, none⟩ = some v0 ∧ w.cell? ⟨g, 1, none⟩ = some v1 ∧ w.cell? ⟨g, 2, none⟩ = some v2 ∧ w.cell? ⟨g, 3, none⟩ = some v3 ∧ w.cell? ⟨g, 4, none⟩ = some v4 ∧ w.cell? ⟨g, 5, none⟩ = some v5 ∧ w.cell? ⟨g, 6, none⟩ = some v6 := ⟨blk_cell h 0, blk_cell h 1, blk_cell h 2, blk_cell h 3, blk_cell h 4, blk_cell h 5, blk_cell h 6⟩
theorem cl12 {w : World} {g : Nat} {v0 v1 v2 v3 v4 v5 v6 v7 v8 v9 v10 v11 : Value} {t : TypeId} {fr : Nat × Nat} (h : w.heap[g]? = some (.cells #[v0, v1, v2, v3, v4, v5, v6, v7, v8, v9, v10, v11] t fr)) : w.cell? ⟨g, 0, none⟩ = some v0 ∧ w.cell? ⟨g, 1, none⟩ = some v1 ∧ w.cell? ⟨g, 2, none⟩ = some v2 ∧ w.cell? ⟨g, 3, none⟩ = some v3 ∧ w.cell? ⟨g, 4, none⟩ = some v4 ∧ w.cell? ⟨g, 5, none⟩ = some v5 ∧ w.cell? ⟨g, 6, none⟩ = some v6 ∧ w.cell? ⟨g, 7, none⟩ = some v7 ∧ w.cell? ⟨g, 8, none⟩ = some v8 ∧ w.cell? ⟨g, 9, none⟩ = some v9 ∧ w.cell? ⟨g, 10, none⟩ = some v10 ∧ w.cell? ⟨g, 11, none⟩ = some v11 := ⟨blk_cell h 0, blk_cell h 1, blk_cell h 2, blk_cell h 3, blk_cell h 4, blk_cell h 5, blk_cell h 6, blk_cell h 7, blk_cell h 8, blk_cell h 9, blk_cell h 10, blk_cell h 11⟩
end Go.Proofs.YtbcemldiahghcaaGreat

namespace Go.Proofs.YtbcemldiahghcaaGreat
set_option linter.unusedVariables false
set_option linter.unusedSimpArgs false
set_option linter.unusedSectionVars false
open Go.RowKit
section
variable {P : Program} {ops : Array Oper} {Q : Exit → Act → World → Prop} {S : World → Prop} {L : List Nat}
/-- Number j comes up behind all of L. -/
def late (ops : Array Oper) (L : List Nat) (j : Nat) : Bool := L.all fun i => (cover ops (waitL ops j) (List.range ops.size).reverse).contains i
theorem late_listed {listed : Array Bool} {j i : Nat} (hcl : Closed ops listed) (hl : late ops L j = true) (hj : j ∈ Region.ready .any ops listed) (hi : i ∈ L) : listed.getD i false = true := by
  have h1 := List.all_eq_true.1 hl i hi
  obtain ⟨_, oj, hoj, hall⟩ := mem_ready.1 hj
  refine cover_listed hcl _ (waitL ops j) (fun q hq => ?_) i (by simpa using h1)
  obtain ⟨o, ho, e, he, hb, rfl⟩ := waitL_spec hq
  obtain rfl : o = oj := Option.some.inj (ho.symm.trans hoj)
  exact hall e he hb
def wpAnyE (P : Program) (ops : Array Oper) (Q : Exit → Act → World → Prop) (S : World → Prop) (L : List Nat) : Nat → Array Bool → Act → World → Prop
  | 0, listed, a, w => Region.ready .any ops listed = [] ∧ Q .normal a w
  | fuel + 1, listed, a, w =>
    (Region.ready .any ops listed = [] → Q .normal a w) ∧
    ∀ i ∈ Region.ready .any ops listed, wpOp P ops Q i (fun a' w' => (late ops L i = true ∨ (S w → S w')) ∧ wpAnyE P ops Q S L fuel (listed.setIfInBounds i true) a' w') a w
theorem wpAny_of_E : ∀ (fuel : Nat) (listed : Array Bool) (a : Act) (w : World), wpAnyE P ops Q S L fuel listed a w → wpAny P .any ops Q fuel listed a w
  | 0, _, _, _, h => h
  | fuel + 1, _, _, _, h => ⟨h.1, fun i hi => wpOp_mono (fun a' w' h' => wpAny_of_E fuel _ a' w' h'.2) (h.2 i hi)⟩
/-- T: what the operation needs; it is there as long as the operation has not come up. -/
theorem wpAnyE_first {T : World → Prop} {i : Nat} {oi : Oper} {v : Value} (hi : ops[i]? = some oi) (hsel : ∀ (j : Nat) (o : Oper) cs b, ops[j]? = some o → o.op ≠ .select cs b)
    (hQ : ∀ c a w, Q (.panic c) (a.put oi.dst v) w → Q (.panic c) a w) (hST : ∀ w, S w → T w) :
    ∀ (fuel : Nat) (listed : Array Bool) (a : Act) (w : World), Closed ops listed →
      (∀ j oj, ops[j]? = some oj → j ≠ i → listed.getD j true = false → (∀ e ∈ oj.after, Region.binds .any e = true → e.on ≠ i) → oi.apart ops oj = true) →
      i ∈ Region.ready .any ops listed → YieldsIf P ops T oi v a → ((i ∈ L ∧ S w) ∨ ∀ w, T w) →
      wpAnyE P ops Q S L fuel (listed.setIfInBounds i true) (a.put oi.dst v) w → wpAnyE P ops Q S L (fuel + 1) listed a w := by
  intro fuel
  induction fuel with
  | zero =>
    intro listed a w hcl _ hr hy hS H
    refine ⟨fun h => (by rw [h] at hr; cases hr), fun j hj => ?_⟩
    by_cases hji : j = i
    · subst hji; exact hy.wpOp hi (by rcases hS with hS | hS; exact hST _ hS.2; exact hS _) ⟨.inr id, H⟩
    · have := ready_mono hj hji
      rw [H.1] at this
      cases this
  | succ fuel ih =>
    intro listed a w hcl hfree hr hy hS H
    refine ⟨fun h => (by rw [h] at hr; cases hr), fun j hj => ?_⟩
    by_cases hji : j = i
    · subst hji; exact hy.wpOp hi (by rcases hS with hS | hS; exact hST _ hS.2; exact hS _) ⟨.inr id, H⟩
    · have h1 := H.2 j (ready_mono hj hji)
      obtain ⟨hjun, oj, hoj, hall⟩ := mem_ready.1 hj
      have hun : listed.getD i false = false := by
        have h0 := (mem_ready.1 hr).1
        have hii : i < ops.size := (Array.getElem?_eq_some_iff.1 hi).1
        have h' : i < listed.size := by rw [hcl.size]; exact hii
        simpa [h'] using h0
      have hnot : ∀ e ∈ oj.after, Region.binds .any e = true → e.on ≠ i := fun e he hb heq => by
        have h1 := hall e he hb
        rw [heq, hun] at h1; cases h1
      have hir := ready_mono hr (Ne.symm hji)
      have h2 := wpOp_putIf hoj (hfree j oj hoj hji hjun hnot) (fun cs b => hsel i oi cs b hi) (fun cs b => hsel j oj cs b hoj) hQ hy h1
      have hfree' : ∀ k ok, ops[k]? = some ok → k ≠ i → (listed.setIfInBounds j true).getD k true = false →
          (∀ e ∈ ok.after, Region.binds .any e = true → e.on ≠ i) → oi.apart ops ok = true := fun k ok hk hki hun hno => by
        refine hfree k ok hk hki ?_ hno
        by_cases hjk : j = k
        · subst hjk; exact hjun
        · rw [getD_set_ne true hjk] at hun; exact hun
      refine wpOp_mono (fun a' w' h3 => ?_) h2
      obtain ⟨hy', hS', hw'⟩ := h3
      refine ⟨hS', ?_⟩
      have hcl' := hcl.set hj
      refine ih (listed.setIfInBounds j true) a' w' hcl' hfree' hir hy' ?_ ?_
      · rcases hS with ⟨hiL, hS⟩ | hTa
        · refine .inl ⟨hiL, ?_⟩
          rcases hS' with hl | hS'
          · have := late_listed hcl hl hj hiL
            rw [hun] at this; cases this
          · exact hS' hS
        · exact .inr hTa
      · rw [Array.setIfInBounds_comm _ _ hji]
        exact hw'
theorem wpAnyE_par {D : List (Nat × List Nat)} {R : List Nat} {l0 : Array Bool} {a0 : Act} {w0 : World} {A : Nat → Prop} {N : Nat → (Nat → Value) → World → (Nat → Prop) → Prop} (hs0 : l0.size = ops.size) {PP : Nat → (Nat → Value) → Prop} (hk : parOk ops l0 D R = true) (hPP : ∀ j i u v, PP j u → i ≠ j → waits ops j i = false → PP j (updV u i v))
    (hNu : ∀ j i u v w F, N j u w F → i ≠ j → waits ops j i = false → N j (updV u i v) w F) (hSt : ∀ j v w w' F, N j v w F → (∀ k, F k → w'.heap[k]? = w.heap[k]?) → N j v w' F) (hS : ∀ w', Ch A w0 w' → S w')
    (hP : parP P ops Q (D.map (·.1)) a0 w0 A N PP D) (m : Nat)
    (hend : ∀ u w' (F : Nat → Nat → Prop) listed, listed = setAll (D.map (·.1)) l0 → Ch A w0 w' → (∀ j j' k, Avail D R listed j → Avail D R listed j' → j ≠ j' → F j k → F j' k → False) → (∀ j k, Avail D R listed j → F j k → (A k ∨ w0.heap.size ≤ k) ∧ k < w'.heap.size) →
      (∀ j, Avail D R listed j → N j u w' (F j)) → (∀ j ∈ D.map (·.1), PP j u) → Closed ops listed → wpAnyE P ops Q S L m listed (putAll ops (D.map (·.1)) a0 u) w') :
    ∀ (n : Nat) (listed : Array Bool) (w : World) (u : Nat → Value) (F : Nat → Nat → Prop), todo listed (D.map (·.1)) = n → Closed ops listed → (∀ i, i ∉ D.map (·.1) → listed.getD i false = l0.getD i false) → Ch A w0 w →
      (∀ j, Avail D R listed j → N j u w (F j)) → (∀ j k, Avail D R listed j → F j k → (A k ∨ w0.heap.size ≤ k) ∧ k < w.heap.size) → (∀ j j' k, Avail D R listed j → Avail D R listed j' → j ≠ j' → F j k → F j' k → False) → (∀ j ∈ D.map (·.1), listed.getD j false = true → PP j u) →
      wpAnyE P ops Q S L (n + m) listed (putAll ops (D.map (·.1)) a0 u) w := by
  simp only [parOk, Bool.and_eq_true] at hk
  obtain ⟨⟨⟨⟨⟨hk1, hk2⟩, hkR⟩, hkI⟩, hkU⟩, hk3⟩ := hk
  have hD := pairB_spec hk1
  have hnd : (D.map (·.1)).Nodup := hD.imp fun h => h.1
  have hR : ∀ r ∈ R, ops.size ≤ r := fun r hr => by simpa using List.all_eq_true.1 hkR r hr
  have hI : ∀ p ∈ D, ∀ q ∈ p.2, q ∈ R ∨ (waits ops p.1 q = true ∧ q ∈ D.map (·.1)) := fun p hp q hq => by
    have := List.all_eq_true.1 (List.all_eq_true.1 hkI p hp) q hq
    simp only [Bool.or_eq_true, Bool.and_eq_true, List.contains_iff_mem] at this
    exact this
  have hU : ∀ p ∈ D, ∀ q ∈ D, p.1 ≠ q.1 → ∀ x ∈ p.2, x ∉ q.2 := fun p hp q hq hne x hx => by
    have := List.all_eq_true.1 (List.all_eq_true.1 hkU p hp) q hq
    simp only [Bool.or_eq_true, beq_iff_eq] at this
    rcases this with h | h
    · exact absurd h hne
    · have := List.all_eq_true.1 h x hx
      simpa using this
  intro n
  induction n with
  | zero =>
    intro listed w u F hn hcl hout hC hN hF hdis hpp
    have hall : ∀ i ∈ D.map (·.1), listed.getD i false = true := fun i hi => by
      have := List.countP_eq_zero.1 hn i hi
      simpa using this
    have hl : listed = setAll (D.map (·.1)) l0 := by
      apply Array.ext
      · rw [setAll_size, hcl.size, hs0]
      · intro i h1 h2
        have h3 := setAll_get (D.map (·.1)) l0 i (by rw [hs0, ← hcl.size]; exact h1)
        have h4 : listed.getD i false = (decide (i ∈ D.map (·.1)) || l0.getD i false) := by
          by_cases hm : i ∈ D.map (·.1)
          · rw [hall i hm]; simp only [hm, decide_true, Bool.true_or]
          · rw [hout i hm]; simp only [hm, decide_false, Bool.false_or]
        rw [← h4] at h3
        simpa [Array.getD_eq_getD_getElem?, h1, h2] using h3.symm
    rw [Nat.zero_add]
    exact hend u w F listed hl hC hdis hF hN (fun j hj => hpp j hj (hall j hj)) hcl
  | succ n ih =>
    intro listed w u F hn hcl hout hC hN hF hdis hpp
    rw [show n + 1 + m = (n + m) + 1 from by omega]
    have hopen : ∃ i ∈ D.map (·.1), listed.getD i false = false := by
      have h0 : 0 < (D.map (·.1)).countP (fun i => !listed.getD i false) := by have := hn; unfold todo at this; omega
      obtain ⟨i, hi, hu⟩ := List.countP_pos_iff.1 h0
      exact ⟨i, hi, by simpa using hu⟩
    refine ⟨fun h0 => ?_, fun i hi => ?_⟩
    · have key : ∀ (s i : Nat), (D.map (·.1))[s]? = some i → listed.getD i false = false → False := by
        intro s
        induction s using Nat.strongRecOn with
        | _ s ihs =>
          intro i hs hun
          obtain ⟨⟨o, ho, hedge⟩, _⟩ := topoOk_at (D.map (·.1)) [] s i hk2 hs
          have hlt' : i < listed.size := by rw [hcl.size]; exact (Array.getElem?_eq_some_iff.1 ho).1
          by_cases hex : ∃ s' j, s' < s ∧ (D.map (·.1))[s']? = some j ∧ listed.getD j false = false
          · obtain ⟨s', j, hlt, hj, hju⟩ := hex
            exact ihs s' hlt j hj hju
          · have hmem : i ∈ Region.ready .any ops listed := by
              refine mem_ready.2 ⟨by simpa [Array.getD_eq_getD_getElem?, hlt'] using hun, o, ho, fun e he hb => ?_⟩
              rcases hedge e he hb with h | h
              · by_cases hm : e.on ∈ D.map (·.1)
                · obtain ⟨p2, hp2, hpe⟩ := List.getElem_of_mem hm
                  obtain ⟨_, h5⟩ := topoOk_at (D.map (·.1)) [] p2 e.on hk2 (by rw [← hpe]; exact List.getElem?_eq_getElem hp2)
                  exfalso
                  have : e.on < l0.size := by
                    rcases Nat.lt_or_ge e.on l0.size with hh | hh
                    · exact hh
                    · simp [Array.getD_eq_getD_getElem?, Array.getElem?_eq_none hh] at h
                  simp [Array.getD_eq_getD_getElem?, this] at h h5
                  rw [h] at h5; cases h5
                · rw [hout _ hm]; exact h
              · simp only [List.nil_append] at h
                obtain ⟨p, hp', he'⟩ := List.getElem_of_mem h
                have hpl : p < s := by simp at hp'; omega
                rw [List.getElem_take] at he'
                have hpe : (D.map (·.1))[p]? = some e.on := by rw [← he']; exact List.getElem?_eq_getElem _
                cases hq : listed.getD e.on false with
                | true => rfl
                | false => exact absurd ⟨p, e.on, hpl, hpe, hq⟩ hex
            rw [h0] at hmem; cases hmem
      obtain ⟨i, hi, hun⟩ := hopen
      obtain ⟨s, hs, rfl⟩ := List.getElem_of_mem hi
      exact (key s _ (List.getElem?_eq_getElem hs) hun).elim
    · have hun : listed.getD i false = false := by
        have h1 := (mem_ready.1 hi).1
        rw [Array.getD_eq_getD_getElem?] at h1 ⊢
        cases hq : listed[i]? with
        | none => simp [hq] at h1
        | some b => simp [hq] at h1 ⊢; exact h1
      obtain ⟨_, oi, hoi, hedges⟩ := mem_ready.1 hi
      have hisz : i < ops.size := (Array.getElem?_eq_some_iff.1 hoi).1
      have hmem : i ∈ D.map (·.1) := by
        refine Classical.byContradiction fun hm => ?_
        have h1 := List.all_eq_true.1 hk3 i (List.mem_range.2 hisz)
        have hl0 : l0.getD i false = false := by rw [← hout i hm]; exact hun
        have hm' : (D.map (·.1)).contains i = false := by simpa using hm
        rw [hl0, hm'] at h1
        simp only [Bool.false_or, Bool.or_eq_true] at h1
        rcases h1 with h1 | h1
        · obtain ⟨q, _, hq⟩ := List.any_eq_true.1 h1
          simp only [Bool.and_eq_true, Bool.not_eq_true'] at hq
          exact not_ready hq.1.1 (by rw [hout q (by simpa using hq.2)]; exact hq.1.2) hi
        · obtain ⟨j, hj, hju⟩ := hopen
          have h2 := List.all_eq_true.1 h1 j hj
          have h3 := cover_listed hcl (D.map (·.1)).reverse (waitL ops i) (fun q hq => by
            obtain ⟨o, ho, e, he, hb, rfl⟩ := waitL_spec hq
            obtain rfl : o = oi := Option.some.inj (ho.symm.trans hoi)
            exact hedges e he hb) j (by simpa using h2)
          rw [hju] at h3; cases h3
      obtain ⟨p, hp, hpi⟩ := List.mem_map.1 hmem
      subst hpi
      have hself : ∀ j ∈ p.2, j ∈ R ∨ (j ∈ D.map (·.1) ∧ listed.getD j false = true) := fun j hj => by
        rcases hI p hp j hj with h | ⟨hw, h⟩
        · exact .inl h
        · refine .inr ⟨h, ?_⟩
          obtain ⟨o, ho, e, he, hb, rfl⟩ := waits_spec hw
          obtain rfl : o = oi := Option.some.inj (ho.symm.trans hoi)
          exact hedges e he hb
      have hav : ∀ j ∈ p.2, Avail D R listed j := fun j hj => ⟨hself j hj, fun q hq hql hjq => by
        by_cases hpq : p.1 = q.1
        · rw [← hpq, hun] at hql; cases hql
        · exact hU p hp q hq hpq j hj hjq⟩
      have hwl : ∀ j, waits ops p.1 j = true → listed.getD j false = true := fun j hw => by
        obtain ⟨o, ho, e, he, hb, rfl⟩ := waits_spec hw
        obtain rfl : o = oi := Option.some.inj (ho.symm.trans hoi)
        exact hedges e he hb
      have htri := parP_at D p hP hp u w F hC (fun j hj hw => hpp j hj (hwl j hw)) (fun j hj => hN j (hav j hj)) (fun j hj k => hF j k (hav j hj)) (fun j hj j' hj' k hne => hdis j j' k (hav j hj) (hav j' hj') hne)
      refine wpOp_mono (fun a' w' h' => ?_) htri
      obtain ⟨v, F', rfl, hC', hN', hF', hpn⟩ := h'
      have hC2 : Ch A w0 w' := hC.then hC' fun k hk => by obtain ⟨j, hj, hjk⟩ := hk; exact (hF j k (hav j hj) hjk).1
      refine ⟨.inr fun _ => hS w' hC2, ?_⟩
      rw [putAll_put hD hmem]
      have hisz' : p.1 < listed.size := by rw [hcl.size]; exact hisz
      have hback : ∀ j, Avail D R (listed.setIfInBounds p.1 true) j → j ≠ p.1 → Avail D R listed j ∧ j ∉ p.2 := fun j hj hne => by
        obtain ⟨h1, h2⟩ := hj
        refine ⟨⟨?_, fun q hq hql => h2 q hq ?_⟩, h2 p hp (by simp [hisz'])⟩
        · rcases h1 with h1 | ⟨h1, h3⟩
          · exact .inl h1
          · rw [getD_set_ne false (Ne.symm hne)] at h3; exact .inr ⟨h1, h3⟩
        · by_cases hqp : p.1 = q.1
          · rw [← hqp]; simp [hisz']
          · rw [getD_set_ne false hqp]; exact hql
      refine ih (listed.setIfInBounds p.1 true) w' (updV u p.1 v) (fun q => if q = p.1 then F' else F q) ?_ (hcl.set hi) ?_ hC2 ?_ ?_ ?_ ?_
      · have := todo_set hun hisz' hnd
        rw [if_pos hmem] at this
        omega
      · intro j hj
        have hij : p.1 ≠ j := fun e' => hj (e' ▸ hmem)
        rw [getD_set_ne false hij]; exact hout j hj
      · intro j hj
        by_cases hjp : j = p.1
        · subst hjp; simp only [if_true]; exact hN'
        · obtain ⟨h1, h2⟩ := hback j hj hjp
          simp only [if_neg hjp]
          have hwf : waits ops j p.1 = false := by
            cases hw : waits ops j p.1 with
            | false => rfl
            | true =>
              exfalso
              obtain ⟨o, ho, e, he, hb, hon⟩ := waits_spec hw
              rcases h1.1 with h3 | h3
              · have := hR j h3
                have := (Array.getElem?_eq_some_iff.1 ho).1
                omega
              · have := hcl.closed j o ho h3.2 e he hb
                rw [hon, hun] at this; cases this
          refine hSt j _ w w' (F j) (hNu j p.1 u v w (F j) (hN j h1) (Ne.symm hjp) hwf) fun k hk => hC'.block k (hF j k h1 hk).2 ?_
          rintro ⟨q, hq, hqk⟩
          exact hdis j q k h1 (hav q hq) (fun e' => h2 (e' ▸ hq)) hk hqk
      · intro j k hj hk
        by_cases hjp : j = p.1
        · subst hjp
          simp only [if_true] at hk
          obtain ⟨h1, h2⟩ := hF' k hk
          refine ⟨?_, h2⟩
          rcases h1 with ⟨q, hq, hqk⟩ | h1
          · exact (hF q k (hav q hq) hqk).1
          · exact .inr (Nat.le_trans hC.size h1)
        · simp only [if_neg hjp] at hk
          obtain ⟨h1, _⟩ := hback j hj hjp
          exact ⟨(hF j k h1 hk).1, Nat.lt_of_lt_of_le (hF j k h1 hk).2 hC'.size⟩
      · intro j j' k hj hj' hne hk hk'
        have aux : ∀ q, Avail D R (listed.setIfInBounds p.1 true) q → q ≠ p.1 → F' k → F q k → False := fun q hq hqp h1 h2 => by
          obtain ⟨h3, h4⟩ := hback q hq hqp
          rcases (hF' k h1).1 with ⟨x, hx, hxk⟩ | h5
          · exact hdis x q k (hav x hx) h3 (fun e' => h4 (e' ▸ hx)) hxk h2
          · have := (hF q k h3 h2).2; omega
        by_cases hjp : j = p.1
        · subst hjp
          simp only [if_true] at hk
          simp only [if_neg (Ne.symm hne)] at hk'
          exact aux j' hj' (Ne.symm hne) hk hk'
        · simp only [if_neg hjp] at hk
          by_cases hjp' : j' = p.1
          · subst hjp'
            simp only [if_true] at hk'
            exact aux j hj hjp hk' hk
          · simp only [if_neg hjp'] at hk'
            obtain ⟨h1, _⟩ := hback j hj hjp
            obtain ⟨h2, _⟩ := hback j' hj' hjp'
            exact hdis j j' k h1 h2 hne hk hk'
      · intro j hj hl
        by_cases hjp : j = p.1
        · subst hjp; exact hpn
        · rw [getD_set_ne false (Ne.symm hjp)] at hl
          refine hPP j p.1 u v (hpp j hj hl) (Ne.symm hjp) ?_
          cases hw : waits ops j p.1 with
          | false => rfl
          | true =>
            exfalso
            obtain ⟨o, ho, e, he, hb, hon⟩ := waits_spec hw
            have := hcl.closed j o ho hl e he hb
            rw [hon, hun] at this; cases this

inductive Pe where
  | nil
  | take (i : Nat) (p : Pe)
  | pure (i : Nat) (p : Pe)
  | one (i : Nat) (p : Pe)
  | par (D : List (Nat × List Nat)) (R : List Nat) (p : Pe)
def Pe.len : Pe → Nat
  | .nil => 0
  | .take _ p => p.len + 1
  | .pure _ p => p.len + 1
  | .one _ p => p.len + 1
  | .par D _ p => D.length + p.len
def Pe.takes : Pe → List Nat
  | .nil => []
  | .take i p => i :: p.takes
  | .pure _ p => p.takes
  | .one _ p => p.takes
  | .par _ _ p => p.takes
def wpE (P : Program) (ops : Array Oper) (Q : Exit → Act → World → Prop) (S : World → Prop) (L : List Nat) : Pe → Act → World → Prop
  | .nil, a, w => Q .normal a w
  | .take i r, a, w => ∃ o v, ops[i]? = some o ∧ YieldsIf P ops S o v a ∧ S w ∧ wpE P ops Q S L r (a.put o.dst v) w
  | .pure i r, a, w => ∃ o v, ops[i]? = some o ∧ YieldsIf P ops (fun _ => True) o v a ∧ wpE P ops Q S L r (a.put o.dst v) w
  | .one i r, a, w => wpOp P ops Q i (fun a' w' => (late ops L i = true ∨ (S w → S w')) ∧ wpE P ops Q S L r a' w') a w
  | .par D R r, a, w => ∃ (A : Nat → Prop) (N : Nat → (Nat → Value) → World → (Nat → Prop) → Prop) (PP : Nat → (Nat → Value) → Prop) (F0 : Nat → Nat → Prop), (∀ j i u v, PP j u → i ≠ j → waits ops j i = false → PP j (updV u i v)) ∧ (∀ j i u v w F, N j u w F → i ≠ j → waits ops j i = false → N j (updV u i v) w F) ∧ (∀ j v w w' F, N j v w F → (∀ k, F k → w'.heap[k]? = w.heap[k]?) → N j v w' F) ∧ (∀ w', Ch A w w' → S w') ∧
      (∀ j ∈ R, ∀ u : Nat → Value, u j = undef → N j u w (F0 j)) ∧ (∀ j ∈ R, ∀ k, F0 j k → A k ∧ k < w.heap.size) ∧ (∀ j ∈ R, ∀ j' ∈ R, ∀ k, j ≠ j' → F0 j k → F0 j' k → False) ∧ parP P ops Q (D.map (·.1)) a w A N PP D ∧
      ∀ u w' (F : Nat → Nat → Prop), Ch A w w' → (∀ j j' k, EndAv D R j = true → EndAv D R j' = true → j ≠ j' → F j k → F j' k → False) → (∀ j k, EndAv D R j = true → F j k → (A k ∨ w.heap.size ≤ k) ∧ k < w'.heap.size) → (∀ j, EndAv D R j = true → N j u w' (F j)) → (∀ j ∈ D.map (·.1), PP j u) → wpE P ops Q S L r (putAll ops (D.map (·.1)) a u) w'
def eOk (ops : Array Oper) (L : List Nat) : Pe → Array Bool → Bool
  | .nil, l => (Region.ready .any ops l).isEmpty
  | .take i r, l => L.contains i && Region.free .any ops l i && (Region.ready .any ops l).contains i && eOk ops L r (l.setIfInBounds i true)
  | .pure i r, l => Region.free .any ops l i && (Region.ready .any ops l).contains i && eOk ops L r (l.setIfInBounds i true)
  | .one i r, l => (Region.ready .any ops l == [i]) && eOk ops L r (l.setIfInBounds i true)
  | .par D R r, l => parOk ops l D R && eOk ops L r (setAll (D.map (·.1)) l)
theorem wpAnyE_of (hsel : Region.noSelect ops = true) (hQ : ∀ c a d v w, Q (.panic c) (Act.put a d v) w → Q (.panic c) a w) : ∀ (plan : Pe) (listed : Array Bool) (a : Act) (w : World),
    Closed ops listed → eOk ops L plan listed = true → wpE P ops Q S L plan a w → wpAnyE P ops Q S L plan.len listed a w
  | .nil, listed, a, w, _, hp, h => ⟨by simpa [eOk] using hp, h⟩
  | .take i r, listed, a, w, hcl, hp, h => by
    simp only [eOk, Bool.and_eq_true] at hp
    obtain ⟨o, v, hi, hy, hS, hr⟩ := h
    have hmem : i ∈ Region.ready .any ops listed := by simpa using hp.1.2
    exact wpAnyE_first (T := S) hi (Region.noSelect_spec hsel) (fun c a w hq => hQ c a _ _ w hq) (fun _ h => h) r.len listed a w hcl (Region.free_spec hi hp.1.1.2) hmem hy (.inl ⟨by simpa using hp.1.1.1, hS⟩)
      (wpAnyE_of hsel hQ r _ _ w (hcl.set hmem) hp.2 hr)
  | .pure i r, listed, a, w, hcl, hp, h => by
    simp only [eOk, Bool.and_eq_true] at hp
    obtain ⟨o, v, hi, hy, hr⟩ := h
    have hmem : i ∈ Region.ready .any ops listed := by simpa using hp.1.2
    exact wpAnyE_first (T := fun _ => True) hi (Region.noSelect_spec hsel) (fun c a w hq => hQ c a _ _ w hq) (fun _ _ => trivial) r.len listed a w hcl (Region.free_spec hi hp.1.1) hmem hy (.inr fun _ => trivial)
      (wpAnyE_of hsel hQ r _ _ w (hcl.set hmem) hp.2 hr)
  | .one i r, listed, a, w, hcl, hp, h => by
    simp only [eOk, Bool.and_eq_true, beq_iff_eq] at hp
    refine ⟨fun h0 => (by rw [hp.1] at h0; cases h0), fun j hj => ?_⟩
    have hji : j = i := by rw [hp.1] at hj; simpa using hj
    subst hji
    exact wpOp_mono (fun a' w' h' => ⟨h'.1, wpAnyE_of hsel hQ r _ a' w' (hcl.set hj) hp.2 h'.2⟩) h
  | .par D R r, listed, a, w, hcl, hp, h => by
    simp only [eOk, Bool.and_eq_true] at hp
    obtain ⟨A, N, PP, F0, hPP, hNu, hSt, hS, h0, hF0, hd0, hP, hend⟩ := h
    have hk := hp.1
    have hunl : ∀ i ∈ D.map (·.1), listed.getD i false = false := fun i hi => by
      simp only [parOk, Bool.and_eq_true] at hk
      obtain ⟨s, hs, rfl⟩ := List.getElem_of_mem hi
      obtain ⟨_, h1⟩ := topoOk_at (D.map (·.1)) [] s _ hk.1.1.1.1.2 (List.getElem?_eq_getElem hs)
      generalize (D.map (·.1))[s] = i at h1
      rw [Array.getD_eq_getD_getElem?] at h1 ⊢
      cases hq : listed[i]? with
      | none => rfl
      | some b => simp [hq] at h1 ⊢; exact h1
    have hRd : ∀ j ∈ R, j ∉ D.map (·.1) := fun j hj hjd => by
      simp only [parOk, Bool.and_eq_true] at hk
      have h1 : ops.size ≤ j := by simpa using List.all_eq_true.1 hk.1.1.1.2 j hj
      obtain ⟨s, hs, rfl⟩ := List.getElem_of_mem hjd
      obtain ⟨⟨o, ho, _⟩, _⟩ := topoOk_at (D.map (·.1)) [] s _ hk.1.1.1.1.2 (List.getElem?_eq_getElem hs)
      have := (Array.getElem?_eq_some_iff.1 ho).1
      omega
    have hav0 : ∀ j, Avail D R listed j → j ∈ R := fun j hj => by
      rcases hj.1 with h1 | ⟨h1, h2⟩
      · exact h1
      · rw [hunl j h1] at h2; cases h2
    have hin : ∀ i ∈ D.map (·.1), i < ops.size := fun i hi => by
      simp only [parOk, Bool.and_eq_true] at hk
      obtain ⟨s, hs, rfl⟩ := List.getElem_of_mem hi
      obtain ⟨⟨o, ho, _⟩, _⟩ := topoOk_at (D.map (·.1)) [] s _ hk.1.1.1.1.2 (List.getElem?_eq_getElem hs)
      exact (Array.getElem?_eq_some_iff.1 ho).1
    have hset : ∀ i ∈ D.map (·.1), (setAll (D.map (·.1)) listed).getD i false = true := fun i hi => by
      rw [setAll_get _ _ _ (by rw [hcl.size]; exact hin i hi)]
      simp only [hi, decide_true, Bool.true_or]
    have hend' : ∀ j, EndAv D R j = true ↔ Avail D R (setAll (D.map (·.1)) listed) j := fun j => by
      simp only [EndAv, Bool.and_eq_true, Bool.or_eq_true, List.contains_iff_mem, List.all_eq_true, Bool.not_eq_true']
      constructor
      · rintro ⟨h1, h2⟩
        refine ⟨h1.imp_right fun h => ⟨h, hset j h⟩, fun p hp _ hj => ?_⟩
        have := h2 p hp
        rw [List.contains_eq_mem, decide_eq_false_iff_not] at this
        exact this hj
      · rintro ⟨h1, h2⟩
        refine ⟨h1.imp_right fun h => h.1, fun p hp => ?_⟩
        rw [List.contains_eq_mem, decide_eq_false_iff_not]
        exact h2 p hp (hset p.1 (List.mem_map_of_mem hp))
    have key := wpAnyE_par (P := P) (Q := Q) (S := S) (L := L) (a0 := a) hcl.size hk hPP hNu hSt hS hP r.len (fun u w' F l hl hC hdis hF hN hpe hcl' => by
        subst hl
        exact wpAnyE_of hsel hQ r _ _ w' hcl' hp.2 (hend u w' F hC (fun j j' k hj hj' => hdis j j' k ((hend' j).1 hj) ((hend' j').1 hj')) (fun j k hj => hF j k ((hend' j).1 hj)) (fun j hj => hN j ((hend' j).1 hj)) hpe))
      (D.map (·.1)).length listed w (fun i => if i ∈ R then undef else slotOf ops a i) F0 (todo_all hunl) hcl (fun i _ => rfl) (Ch.refl _ _)
      (fun j hj => h0 j (hav0 j hj) _ (by simp only [if_pos (hav0 j hj)])) (fun j k hj hk => ⟨.inl (hF0 j (hav0 j hj) k hk).1, (hF0 j (hav0 j hj) k hk).2⟩) (fun j j' k hj hj' => hd0 j (hav0 j hj) j' (hav0 j' hj') k) (fun j hj hl => by rw [hunl j hj] at hl; cases hl)
    have hput : putAll ops (D.map (·.1)) a (fun i => if i ∈ R then undef else slotOf ops a i) = a := by
      rw [putAll_ext (u' := slotOf ops a) (fun i hi => if_neg (fun hr => hRd i hr hi)), putAll_self]
    rw [hput] at key
    show wpAnyE P ops Q S L (D.length + r.len) listed a w
    have hlen : (D.map (·.1)).length = D.length := List.length_map ..
    rw [hlen] at key
    exact key
theorem region_e {id : Nat} {a : Act} {w : World} {l : List Oper} (S : World → Prop) (L : List Nat) (plan : Pe) (hm : P.follows .mixedOrders = true)
    (hk : (Region.noSelect l.toArray && plan.len == l.toArray.size && eOk l.toArray L plan (Array.replicate l.toArray.size false)) = true)
    (hQ : ∀ c a d v w, Q (.panic c) (Act.put a d v) w → Q (.panic c) a w) (h : wpE P l.toArray Q S L plan a w.drew) : (Code.region id l.toArray true).wp P Q a w := by
  simp only [Bool.and_eq_true, beq_iff_eq] at hk
  have h1 := wpAny_of_E _ _ _ _ (wpAnyE_of hk.1.1 hQ plan _ a w.drew (Closed.start _) hk.2 h)
  rw [hk.1.2] at h1
  exact wp_region_any hm h1
theorem e_take {a : Act} {w : World} {i : Nat} {o : Oper} {v : Value} {r : Pe} (hi : ops[i]? = some o) (hS : S w) (hw : Region.wanted o (yielded ops a.tmps) = true)
    (hy : ∀ w, S w → (execOp a.eval o).run P w = .ok (.value v) w) (h : ∀ K : Act → Prop, (∀ a', wpE P ops Q S L r a' w → K a') → K (a.put o.dst v)) : wpE P ops Q S L (.take i r) a w := ⟨o, v, hi, .inl ⟨hw, hy⟩, hS, h _ fun _ h => h⟩
theorem e_pure {a : Act} {w : World} {i : Nat} {o : Oper} {v : Value} {r : Pe} (hi : ops[i]? = some o) (hw : Region.wanted o (yielded ops a.tmps) = true)
    (hy : ∀ w, (execOp a.eval o).run P w = .ok (.value v) w) (h : ∀ K : Act → Prop, (∀ a', wpE P ops Q S L r a' w → K a') → K (a.put o.dst v)) : wpE P ops Q S L (.pure i r) a w := ⟨o, v, hi, .inl ⟨hw, fun w _ => hy w⟩, h _ fun _ h => h⟩
theorem e_do {a : Act} {w : World} {i : Nat} {o : Oper} {r : Pe} (hi : ops[i]? = some o) (hw : Region.wanted o (yielded ops a.tmps) = true)
    (h : ∀ K : Act → World → Prop, (∀ a' w', (late ops L i = true ∨ (S w → S w')) → wpE P ops Q S L r a' w' → K a' w') → o.wp P a w K Q) : wpE P ops Q S L (.one i r) a w := by
  show wpOp P ops Q i _ a w
  unfold wpOp
  simp only [hi, hw, if_true]
  exact .inl (h _ fun a' w' hS h' => ⟨hS, h'⟩)
end
end Go.Proofs.YtbcemldiahghcaaGreat
