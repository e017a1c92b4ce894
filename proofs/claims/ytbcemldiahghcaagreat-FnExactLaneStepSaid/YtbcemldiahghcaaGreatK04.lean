/- Texts joined: Sc, Reg, Run, Rdr. -/
import Derived.Test.YtbcemldiahghcaaGreatK03
import Derived.OrdersHeld
import Derived.StillTail
import Derived.WalkKit
import Derived.Deep.RegionLaw
import Derived.StillTailTactics
import Derived.BigRegion
import Derived.IntWalk
namespace Go.Proofs.YtbcemldiahghcaaGreat
set_option linter.unusedVariables false
set_option linter.unusedSimpArgs false
open Go.RowKit
set_option maxHeartbeats 400000 in
theorem l6In_c (a l h : Int) (w : World) : Calls Tryz.prog 78 #[.int .i64 a, .int .i64 l, .int .i64 h] w fun e w' => e = .returned (.bool (inn a l h)) ∧ w' = w := by
  by_cases h1 : l ≤ a <;> by_cases h2 : a ≤ h
  all_goals
    go_enter Tryz.func78, Tryz.ntmps78
    go_wp2
    go_ret
    exact ⟨by simp [inn, h1, h2], rfl⟩
set_option maxHeartbeats 400000 in
theorem l1Num_c (a : Int) (w : World) : Calls Tryz.prog 142 #[.int .i64 a] w fun e w' => e = .returned (.bool (inn a 0 999)) ∧ w' = w := by
  go_enter Tryz.func142, Tryz.ntmps142
  go_wp2_with (go_at_call 78; refine (l6In_c _ _ _ _).mono ?_; rintro e w' ⟨rfl, rfl⟩)
  go_ret
  exact ⟨rfl, rfl⟩
set_option maxHeartbeats 400000 in
theorem l1Proc_c (a : Int) (w : World) : Calls Tryz.prog 94 #[.int .i64 a] w fun e w' => e = .returned (.bool (inn a 0 3)) ∧ w' = w := by
  go_enter Tryz.func94, Tryz.ntmps94
  go_wp2_with (go_at_call 78; refine (l6In_c _ _ _ _).mono ?_; rintro e w' ⟨rfl, rfl⟩)
  go_ret
  exact ⟨rfl, rfl⟩
set_option maxHeartbeats 400000 in
theorem l1Reg_c (a : Int) (w : World) : Calls Tryz.prog 151 #[.int .i64 a] w fun e w' => e = .returned (.bool (inn a 0 1)) ∧ w' = w := by
  go_enter Tryz.func151, Tryz.ntmps151
  go_wp2_with (go_at_call 78; refine (l6In_c _ _ _ _).mono ?_; rintro e w' ⟨rfl, rfl⟩)
  go_ret
  exact ⟨rfl, rfl⟩
def OpD.val (o : OpD) : Value := .agg #[.int .i64 o.d, .int .i64 o.a, .int .i64 o.b, .int .i64 o.c, .int .i64 o.e]
set_option maxHeartbeats 2000000 in
theorem l1OpOk_c (d a b c e : Int) (w : World) : Calls Tryz.prog 125 #[.agg #[.int .i64 d, .int .i64 a, .int .i64 b, .int .i64 c, .int .i64 e]] w fun r w' => r = .returned (.bool (opOk ⟨d, a, b, c, e⟩)) ∧ Below w.heap.size w w' := by
  by_cases k : d = 1 ∨ d = 2 ∨ d = 3 ∨ d = 4 ∨ d = 5 ∨ d = 6 ∨ d = 7
  · rcases k with rfl | rfl | rfl | rfl | rfl | rfl | rfl
    all_goals
      go_enter Tryz.func125, Tryz.ntmps125
      go_wp2_with (first | (go_at_call 151; refine (l1Reg_c _ _).mono ?_; rintro e w' ⟨rfl, rfl⟩) | (go_at_call 142; refine (l1Num_c _ _).mono ?_; rintro e w' ⟨rfl, rfl⟩) | (go_at_call 94; refine (l1Proc_c _ _).mono ?_; rintro e w' ⟨rfl, rfl⟩) | (go_at_call 78; refine (l6In_c _ _ _ _).mono ?_; rintro e w' ⟨rfl, rfl⟩))
      all_goals
        go_ret
        exact ⟨by simp [opOk, *], balloc (Below.refl _ _) _⟩
  · have k1 : (d == 1) = false := by simp; omega
    have k2 : (d == 2) = false := by simp; omega
    have k3 : (d == 3) = false := by simp; omega
    have k4 : (d == 4) = false := by simp; omega
    have k5 : (d == 5) = false := by simp; omega
    have k6 : (d == 6) = false := by simp; omega
    have k7 : (d == 7) = false := by simp; omega
    have hf : opOk ⟨d, a, b, c, e⟩ = false := by simp only [opOk]; rw [if_neg (by omega), if_neg (by omega), if_neg (by omega), if_neg (by omega), if_neg (by omega)]
    clear k
    go_enter Tryz.func125, Tryz.ntmps125
    go_wp2_with (first | (go_at_call 151; refine (l1Reg_c _ _).mono ?_; rintro e w' ⟨rfl, rfl⟩) | (go_at_call 142; refine (l1Num_c _ _).mono ?_; rintro e w' ⟨rfl, rfl⟩) | (go_at_call 94; refine (l1Proc_c _ _).mono ?_; rintro e w' ⟨rfl, rfl⟩) | (go_at_call 78; refine (l6In_c _ _ _ _).mono ?_; rintro e w' ⟨rfl, rfl⟩))
    all_goals
      go_ret
      exact ⟨by simp [hf], balloc (Below.refl _ _) _⟩
end Go.Proofs.YtbcemldiahghcaaGreat

namespace Go.Proofs.YtbcemldiahghcaaGreat
set_option linter.unusedVariables false
set_option linter.unusedSimpArgs false
open Go.RowKit
section
variable {P : Program} {ops : Array Oper} {Q : Exit → Act → World → Prop} {S : World → Prop}
/-- The last operation, which all others come ahead of. -/
def lastOp (ops : Array Oper) (j : Nat) : Bool := j == ops.size - 1 && Region.sinkB .any ops (ops.size - 1)
structure Closed (ops : Array Oper) (listed : Array Bool) : Prop where
  size : listed.size = ops.size
  closed : ∀ j oj, ops[j]? = some oj → listed.getD j false = true → ∀ e ∈ oj.after, Region.binds .any e = true → listed.getD e.on false = true
theorem Closed.set {listed : Array Bool} {i : Nat} (inv : Closed ops listed) (hi : i ∈ Region.ready .any ops listed) : Closed ops (listed.setIfInBounds i true) := by
  obtain ⟨_, oi, hoi, hall⟩ := mem_ready.1 hi
  refine ⟨by simp [inv.size], fun j oj hj hl e he hb => ?_⟩
  by_cases hij : i = j
  · subst hij
    have : oj = oi := Option.some.inj (hj.symm.trans hoi)
    subst this
    exact getD_set_true (hall e he hb)
  · rw [getD_set_ne false hij] at hl
    exact getD_set_true (inv.closed j oj hj hl e he hb)
theorem Closed.start (ops : Array Oper) : Closed ops (Array.replicate ops.size false) := ⟨by simp, fun j oj _ hl => (by rw [getD_replicate_false] at hl; cases hl)⟩
/-- When the last one comes up, no other is left. -/
theorem lastOp_alone {listed : Array Bool} {i j : Nat} (inv : Closed ops listed) (hj : lastOp ops j = true) (hr : j ∈ Region.ready .any ops listed) (hij : i ≠ j) (hi : i < ops.size) : listed.getD i false = true := by
  simp only [lastOp, Bool.and_eq_true, beq_iff_eq] at hj
  obtain ⟨hj1, hs⟩ := hj
  obtain ⟨_, oj, hoj, hall⟩ := mem_ready.1 hr
  have key : ∀ d i, ops.size - 1 - i = d → i < ops.size - 1 → listed.getD i false = true := by
    intro d
    induction d using Nat.strongRecOn with
    | _ d ih =>
      intro i hd hi
      have h1 := List.all_eq_true.1 hs i (List.mem_range.2 hi)
      obtain ⟨m, hm, hm2⟩ := List.any_eq_true.1 h1
      simp only [Bool.and_eq_true, decide_eq_true_eq] at hm2
      obtain ⟨om, hom, e, he, hb, hon⟩ := Region.waitsFor_spec hm2.2
      have hmle : m ≤ ops.size - 1 := by have := List.mem_range.1 hm; omega
      by_cases hml : m = ops.size - 1
      · have : om = oj := Option.some.inj (hom.symm.trans (by rw [hml, ← hj1]; exact hoj))
        subst this
        rw [← hon]; exact hall e he hb
      · rw [← hon]; exact inv.closed m om hom (ih _ (by omega) m rfl (by omega)) e he hb
  exact key _ i rfl (by omega)
def wpAnyS (P : Program) (ops : Array Oper) (Q : Exit → Act → World → Prop) (S : World → Prop) : Nat → Array Bool → Act → World → Prop
  | 0, listed, a, w => Region.ready .any ops listed = [] ∧ Q .normal a w
  | fuel + 1, listed, a, w =>
    (Region.ready .any ops listed = [] → Q .normal a w) ∧
    ∀ i ∈ Region.ready .any ops listed, wpOp P ops Q i (fun a' w' => (lastOp ops i = true ∨ S w') ∧ wpAnyS P ops Q S fuel (listed.setIfInBounds i true) a' w') a w
theorem wpAny_of_S : ∀ (fuel : Nat) (listed : Array Bool) (a : Act) (w : World), wpAnyS P ops Q S fuel listed a w → wpAny P .any ops Q fuel listed a w
  | 0, _, _, _, h => h
  | fuel + 1, _, _, _, h => ⟨h.1, fun i hi => wpOp_mono (fun a' w' h' => wpAny_of_S fuel _ a' w' h'.2) (h.2 i hi)⟩
theorem wpAnyS_first {i : Nat} {oi : Oper} {v : Value} (hi : ops[i]? = some oi) (hsel : ∀ (j : Nat) (o : Oper) cs b, ops[j]? = some o → o.op ≠ .select cs b)
    (hQ : ∀ c a w, Q (.panic c) (a.put oi.dst v) w → Q (.panic c) a w) :
    ∀ (fuel : Nat) (listed : Array Bool) (a : Act) (w : World), Closed ops listed →
      (∀ j oj, ops[j]? = some oj → j ≠ i → listed.getD j true = false → (∀ e ∈ oj.after, Region.binds .any e = true → e.on ≠ i) → oi.apart ops oj = true) →
      i ∈ Region.ready .any ops listed → YieldsIf P ops S oi v a → S w →
      wpAnyS P ops Q S fuel (listed.setIfInBounds i true) (a.put oi.dst v) w → wpAnyS P ops Q S (fuel + 1) listed a w := by
  intro fuel
  induction fuel with
  | zero =>
    intro listed a w hcl _ hr hy hS H
    refine ⟨fun h => (by rw [h] at hr; cases hr), fun j hj => ?_⟩
    by_cases hji : j = i
    · subst hji; exact hy.wpOp hi hS ⟨.inr hS, H⟩
    · have := ready_mono hj hji
      rw [H.1] at this
      cases this
  | succ fuel ih =>
    intro listed a w hcl hfree hr hy hS H
    refine ⟨fun h => (by rw [h] at hr; cases hr), fun j hj => ?_⟩
    by_cases hji : j = i
    · subst hji; exact hy.wpOp hi hS ⟨.inr hS, H⟩
    · have h1 := H.2 j (ready_mono hj hji)
      obtain ⟨hjun, oj, hoj, hall⟩ := mem_ready.1 hj
      have hnot : ∀ e ∈ oj.after, Region.binds .any e = true → e.on ≠ i := fun e he hb heq => by
        have h1 := hall e he hb
        have h0 := (mem_ready.1 hr).1
        rw [heq] at h1
        rcases Nat.lt_or_ge i listed.size with h' | h'
        · simp [h'] at h0 h1; rw [h0] at h1; cases h1
        · simp [Array.getElem?_eq_none h'] at h1
      have hnl : ¬ lastOp ops j = true := fun hl => by
        have hii : i < ops.size := (Array.getElem?_eq_some_iff.1 hi).1
        have h1 := lastOp_alone hcl hl hj (Ne.symm hji) hii
        have h0 := (mem_ready.1 hr).1
        have h' : i < listed.size := by rw [hcl.size]; exact hii
        simp [h'] at h0 h1; rw [h0] at h1; cases h1
      have hir := ready_mono hr (Ne.symm hji)
      have h2 := wpOp_putIf hoj (hfree j oj hoj hji hjun hnot) (fun cs b => hsel i oi cs b hi) (fun cs b => hsel j oj cs b hoj) hQ hy h1
      have hfree' : ∀ k ok, ops[k]? = some ok → k ≠ i → (listed.setIfInBounds j true).getD k true = false →
          (∀ e ∈ ok.after, Region.binds .any e = true → e.on ≠ i) → oi.apart ops ok = true := fun k ok hk hki hun hno => by
        refine hfree k ok hk hki ?_ hno
        by_cases hjk : j = k
        · subst hjk; exact hjun
        · rw [getD_set_ne true hjk] at hun; exact hun
      refine wpOp_mono (fun a' w' h3 => ?_) h2
      obtain ⟨hy', hS', hw'⟩ := h3
      have hS'' := hS'.resolve_left hnl
      refine ⟨.inr hS'', ih (listed.setIfInBounds j true) a' w' (hcl.set hj) hfree' hir hy' hS'' ?_⟩
      rw [Array.setIfInBounds_comm _ _ hji]
      exact hw'
/-- The walk by a plan: (i, true): number i is taken first; (i, false): number i comes up alone. -/
def wpSeq (P : Program) (ops : Array Oper) (Q : Exit → Act → World → Prop) (S : World → Prop) : List (Nat × Bool) → Act → World → Prop
  | [], a, w => Q .normal a w
  | (i, true) :: r, a, w => ∃ o v, ops[i]? = some o ∧ YieldsIf P ops S o v a ∧ S w ∧ wpSeq P ops Q S r (a.put o.dst v) w
  | (i, false) :: r, a, w => wpOp P ops Q i (fun a' w' => (lastOp ops i = true ∨ S w') ∧ wpSeq P ops Q S r a' w') a w
def planOk (ops : Array Oper) : List (Nat × Bool) → Array Bool → Bool
  | [], l => (Region.ready .any ops l).isEmpty
  | (i, true) :: r, l => Region.free .any ops l i && (Region.ready .any ops l).contains i && planOk ops r (l.setIfInBounds i true)
  | (i, false) :: r, l => (Region.ready .any ops l == [i]) && planOk ops r (l.setIfInBounds i true)
theorem wpAnyS_of_seq (hsel : Region.noSelect ops = true) (hQ : ∀ c a d v w, Q (.panic c) (Act.put a d v) w → Q (.panic c) a w) : ∀ (plan : List (Nat × Bool)) (listed : Array Bool) (a : Act) (w : World),
    Closed ops listed → planOk ops plan listed = true → wpSeq P ops Q S plan a w → wpAnyS P ops Q S plan.length listed a w
  | [], listed, a, w, _, hp, h => ⟨by simpa [planOk] using hp, h⟩
  | (i, true) :: r, listed, a, w, hcl, hp, h => by
    simp only [planOk, Bool.and_eq_true] at hp
    obtain ⟨o, v, hi, hy, hS, hr⟩ := h
    have hmem : i ∈ Region.ready .any ops listed := by simpa using hp.1.2
    exact wpAnyS_first hi (Region.noSelect_spec hsel) (fun c a w hq => hQ c a _ _ w hq) r.length listed a w hcl (Region.free_spec hi hp.1.1) hmem hy hS
      (wpAnyS_of_seq hsel hQ r _ _ w (hcl.set hmem) hp.2 hr)
  | (i, false) :: r, listed, a, w, hcl, hp, h => by
    simp only [planOk, Bool.and_eq_true, beq_iff_eq] at hp
    refine ⟨fun h0 => (by rw [hp.1] at h0; cases h0), fun j hj => ?_⟩
    have hji : j = i := by rw [hp.1] at hj; simpa using hj
    subst hji
    exact wpOp_mono (fun a' w' h' => ⟨h'.1, wpAnyS_of_seq hsel hQ r _ a' w' (hcl.set hj) hp.2 h'.2⟩) h
theorem region_plan {id : Nat} {a : Act} {w : World} {l : List Oper} (S : World → Prop) (plan : List (Nat × Bool)) (hm : P.follows .mixedOrders = true)
    (hk : (Region.noSelect l.toArray && plan.length == l.toArray.size && planOk l.toArray plan (Array.replicate l.toArray.size false)) = true)
    (hQ : ∀ c a d v w, Q (.panic c) (Act.put a d v) w → Q (.panic c) a w) (h : wpSeq P l.toArray Q S plan a w.drew) : (Code.region id l.toArray true).wp P Q a w := by
  simp only [Bool.and_eq_true, beq_iff_eq] at hk
  have h1 := wpAny_of_S _ _ _ _ (wpAnyS_of_seq hk.1.1 hQ plan _ a w.drew (Closed.start _) hk.2 h)
  rw [hk.1.2] at h1
  exact wp_region_any hm h1
theorem seq_take {a : Act} {w : World} {i : Nat} {o : Oper} {v : Value} {r : List (Nat × Bool)} (hi : ops[i]? = some o) (hS : S w) (hw : Region.wanted o (yielded ops a.tmps) = true)
    (hy : ∀ w, S w → (execOp a.eval o).run P w = .ok (.value v) w) (h : ∀ K : Act → Prop, (∀ a', wpSeq P ops Q S r a' w → K a') → K (a.put o.dst v)) : wpSeq P ops Q S ((i, true) :: r) a w := ⟨o, v, hi, .inl ⟨hw, hy⟩, hS, h _ fun _ h => h⟩
theorem seq_skip {a : Act} {w : World} {i : Nat} {o : Oper} {r : List (Nat × Bool)} (hi : ops[i]? = some o) (hS : S w) (hw : Region.wanted o (yielded ops a.tmps) = false)
    (h : ∀ K : Act → Prop, (∀ a', wpSeq P ops Q S r a' w → K a') → K (a.put o.dst undef)) : wpSeq P ops Q S ((i, true) :: r) a w := ⟨o, undef, hi, .inr ⟨hw, rfl⟩, hS, h _ fun _ h => h⟩
theorem seq_dont {a : Act} {w : World} {i : Nat} {o : Oper} {r : List (Nat × Bool)} (hi : ops[i]? = some o) (hw : Region.wanted o (yielded ops a.tmps) = false)
    (h : ∀ K : Act → World → Prop, (∀ a' w', (lastOp ops i = true ∨ S w') → wpSeq P ops Q S r a' w' → K a' w') → K (a.put o.dst undef) w) : wpSeq P ops Q S ((i, false) :: r) a w := by
  show wpOp P ops Q i _ a w
  unfold wpOp
  simp only [hi, hw, Bool.false_eq_true, if_false]
  exact h (fun a' w' => (lastOp ops i = true ∨ S w') ∧ wpSeq P ops Q S r a' w') fun a' w' hS h' => ⟨hS, h'⟩
theorem seq_do {a : Act} {w : World} {i : Nat} {o : Oper} {r : List (Nat × Bool)} (hi : ops[i]? = some o) (hw : Region.wanted o (yielded ops a.tmps) = true)
    (h : ∀ K : Act → World → Prop, (∀ a' w', (lastOp ops i = true ∨ S w') → wpSeq P ops Q S r a' w' → K a' w') → o.wp P a w K Q) : wpSeq P ops Q S ((i, false) :: r) a w := by
  show wpOp P ops Q i _ a w
  unfold wpOp
  simp only [hi, hw, if_true]
  exact .inl (h _ fun a' w' hS h' => ⟨hS, h'⟩)
end
end Go.Proofs.YtbcemldiahghcaaGreat

namespace Go.Proofs.YtbcemldiahghcaaGreat
set_option linter.unusedVariables false
set_option linter.unusedSimpArgs false
set_option maxRecDepth 100000
open Go.RowKit
/-- A region that draws: n operations that only read, then a tail in one order. -/
theorem region_tail {P : Program} {id : Nat} {Q : Exit → Act → World → Prop} {a : Act} {w : World} {l : List Oper} (n : Nat) (hm : P.follows .mixedOrders = true) (hB : Region.lexTailB .any l.toArray n = true)
    (h : wpStill P l.toArray w.drew (fun a' => wpList P l.toArray Q (l.drop n) a' w.drew) (l.take n) a) : (Code.region id l.toArray true).wp P Q a w := wp_region_still_tail n hm hB h
theorem heap_at {W : World} {o : Obj} {H : Nat} (h : H = W.heap.size) : (W.alloc o).heap[H]? = some o := by subst h; exact heap_alloc_new W o
theorem Ow.tight {α : Type} {cells : α → List Value} {sz : Nat} {hl : ∀ x, (cells x).length = sz} {ho : ∀ x, ∀ u ∈ cells x, u.oneCell' = true} {e : TypeId} {w : World} {F : Nat → Prop} {v : Value} {xs : List α}
    (h : Ow (flat cells sz hl ho) e w F v xs) : Ow (flat cells sz hl ho) e w (fun k => v.ownBlock = some k) v xs := Ow.of_flat h.flatRow (fun g hg => hg)
/-- An own row lies in a block of its type. -/
theorem Ow.type_ne {α : Type} {d : Ty α} {e t : TypeId} {w : World} {F : Nat → Prop} {v : Value} {xs : List α} (h : Ow d e w F v xs) {g : Nat} {cs : Array Value} {fr : Nat × Nat} (hg : w.heap[g]? = some (.cells cs t fr)) (hne : e ≠ t) : v.ownBlock ≠ some g := by
  obtain ⟨_, _, h1, _⟩ := h
  intro hv
  rcases h1.2 with ⟨rfl, _⟩ | ⟨g', cap, cur, rfl, _, hh, _⟩
  · simp [Value.ownBlock] at hv
  · have : g' = g := by simpa [Value.ownBlock] using hv
    subst this
    rw [hh] at hg; injection hg with hg; injection hg with _ ht; exact hne ht
theorem Ow.apart {α β : Type} {d : Ty α} {d' : Ty β} {e e' : TypeId} {w : World} {F F' : Nat → Prop} {v v' : Value} {xs : List α} {ys : List β} (h : Ow d e w F v xs) (h' : Ow d' e' w F' v' ys) (hne : e ≠ e') : ∀ g, v.ownBlock = some g → v'.ownBlock ≠ some g := by
  intro g hg
  obtain ⟨_, _, h1, _⟩ := h
  rcases h1.2 with ⟨rfl, _⟩ | ⟨g', cap, cur, rfl, _, hh, _⟩
  · simp [Value.ownBlock] at hg
  · have : g' = g := by simpa [Value.ownBlock] using hg
    subst this
    exact h'.type_ne hh (fun e => hne e.symm)

def runCells (c : Int) (e : EvD) (r : RunD) (sv ov : Value) : Array Value :=
  #[.int .i64 r.x, .int .i64 r.y, .int .i64 c, .int .i64 e.time, .int .i64 e.to, .int .i64 e.from_, .int .i64 e.count, .int .i64 e.n, .int .i64 e.kind, .int .i64 e.arg, sv, ov]
structure RunAt (w : World) (g B : Nat) (c : Int) (e : EvD) (r : RunD) (sv ov : Value) : Prop where
  blk : w.heap[g]? = some (.cells (runCells c e r sv ov) 147 (0, 0))
  ge : B ≤ g
  sends : Ow tEv 80 w (fun k => B ≤ k) sv r.sends
  outs : Ow tOut 128 w (fun k => B ≤ k) ov r.outs
theorem blk_cell {w : World} {g : Nat} {cs : Array Value} {t : TypeId} {fr : Nat × Nat} (h : w.heap[g]? = some (.cells cs t fr)) (i : Nat) : w.cell? ⟨g, i, none⟩ = cs[i]? := by simp [World.cell?, h]
theorem blk_frozen {w : World} {g : Nat} {cs : Array Value} {t : TypeId} (h : w.heap[g]? = some (.cells cs t (0, 0))) (i : Nat) : w.frozen? ⟨g, i, none⟩ = false := by simp [World.frozen?, h]
theorem blk_lt {w : World} {g : Nat} {o : Obj} (h : w.heap[g]? = some o) : g < w.heap.size := (Array.getElem?_eq_some_iff.1 h).1
theorem blk_set {w : World} {g : Nat} {cs : Array Value} {t : TypeId} {fr : Nat × Nat} (h : w.heap[g]? = some (.cells cs t fr)) (i : Nat) (u : Value) : (w.setCell ⟨g, i, none⟩ u).heap[g]? = some (.cells (cs.setIfInBounds i u) t fr) := by
  simp [World.setCell, Array.getElem?_modify, h]
theorem RunAt.set {w : World} {g B : Nat} {c : Int} {e : EvD} {r r' : RunD} {sv ov : Value} (h : RunAt w g B c e r sv ov) (i : Nat) (u : Value) (hc : (runCells c e r sv ov).setIfInBounds i u = runCells c e r' sv ov) (hs : r'.sends = r.sends) (ho : r'.outs = r.outs) : RunAt (w.setCell ⟨g, i, none⟩ u) g B c e r' sv ov := by
  refine ⟨by rw [blk_set h.blk, hc], h.ge, ?_, ?_⟩
  · rw [hs]
    exact (h.sends.tight.keep (fun k hk hlt => Below.heap_setCell _ _ _ _ (fun e' => h.sends.type_ne h.blk (by decide) (by have e2 : k = g := e'; subst e2; exact hk)))).mono (fun k hk => h.sends.inF hk)
  · rw [ho]
    exact (h.outs.tight.keep (fun k hk hlt => Below.heap_setCell _ _ _ _ (fun e' => h.outs.type_ne h.blk (by decide) (by have e2 : k = g := e'; subst e2; exact hk)))).mono (fun k hk => h.outs.inF hk)

set_option maxHeartbeats 400000 in
theorem get_c (g B : Nat) (c : Int) (e : EvD) (r : RunD) (sv ov : Value) (k : Int) (w : World) (h : RunAt w g B c e r sv ov) :
    Calls Tryz.prog 144 #[.pointer (some ⟨g,0,none⟩), .int .i64 k] w fun q w' => q = .returned (.int .i64 (r.get k)) ∧ w' = w := by
  have h0 : w.cell? ⟨g, 0, none⟩ = some (.int .i64 r.x) := blk_cell h.blk 0
  have h1 : w.cell? ⟨g, 1, none⟩ = some (.int .i64 r.y) := blk_cell h.blk 1
  by_cases hk : k = 0
  · subst hk
    go_enter Tryz.func144, Tryz.ntmps144
    go_wp2
    go_ret
    exact ⟨rfl, rfl⟩
  · have hk' : (k == 0) = false := by simpa using hk
    have e1 : r.get k = r.y := by simp [RunD.get, hk]
    go_enter Tryz.func144, Tryz.ntmps144
    go_wp2
    go_ret
    exact ⟨by rw [e1]; rfl, rfl⟩
set_option maxHeartbeats 400000 in
theorem put_c (g B : Nat) (c : Int) (e : EvD) (r : RunD) (sv ov : Value) (k n : Int) (w : World) (h : RunAt w g B c e r sv ov) (hn : 0 ≤ n) :
    Calls Tryz.prog 143 #[.pointer (some ⟨g,0,none⟩), .int .i64 k, .int .i64 n] w fun q w' => q = .returned (.tuple #[]) ∧ RunAt w' g B c e (r.put k n) sv ov ∧ Below B w w' := by
  have h0 : w.cell? ⟨g, 0, none⟩ = some (.int .i64 r.x) := blk_cell h.blk 0
  have h1 : w.cell? ⟨g, 1, none⟩ = some (.int .i64 r.y) := blk_cell h.blk 1
  have f0 := blk_frozen h.blk 0
  have f1 := blk_frozen h.blk 1
  by_cases hk : k = 0
  · subst hk
    go_enter Tryz.func143, Tryz.ntmps143
    go_wp2
    go_end0
    exact ⟨rfl, h.set 0 _ rfl rfl rfl, (Below.refl _ _).setCell h.ge _⟩
  · have hk' : (k == 0) = false := by simpa using hk
    have e1 : r.put k n = { r with y := n % 1000 } := by simp [RunD.put, hk]
    go_enter Tryz.func143, Tryz.ntmps143
    go_wp2
    go_end0
    exact ⟨rfl, by rw [e1]; exact h.set 1 _ rfl rfl rfl, (Below.refl _ _).setCell h.ge _⟩

theorem RunAt.below {w w' : World} {g B : Nat} {c : Int} {e : EvD} {r : RunD} {sv ov : Value} (h : RunAt w g B c e r sv ov) (hb : Below w.heap.size w w') : RunAt w' g B c e r sv ov :=
  ⟨(hb.block g (blk_lt h.blk)).trans h.blk, h.ge, h.sends.below hb, h.outs.below hb⟩
theorem get_bounds {r : RunD} (hx : 0 ≤ r.x ∧ r.x ≤ 999) (hy : 0 ≤ r.y ∧ r.y ≤ 999) (k : Int) : 0 ≤ r.get k ∧ r.get k ≤ 999 := by unfold RunD.get; split <;> assumption
abbrev opArgs (g : Nat) (o : OpD) : Array Value := #[.pointer (some ⟨g,0,none⟩), .agg #[.int .i64 o.d, .int .i64 o.a, .int .i64 o.b, .int .i64 o.c, .int .i64 o.e]]
def OpPost (B g : Nat) (c : Int) (e : EvD) (r : RunD) (o : OpD) (w : World) (q : Ending) (w' : World) : Prop :=
  q = .returned (.int .i64 (doOp e c o r).2) ∧ (∃ sv ov, RunAt w' g B c e (doOp e c o r).1 sv ov) ∧ Below B w w'
theorem info_ev : (Tryz.prog.info? 80).map (fun i => (i.zero, i.size, i.bytes)) = some (some (.agg #[.int .i64 0, .int .i64 0, .int .i64 0, .int .i64 0, .int .i64 0, .int .i64 0, .int .i64 0]), 7, 56) := by kernel_rfl
theorem info_out : (Tryz.prog.info? 128).map (fun i => (i.zero, i.size, i.bytes)) = some (some (.agg #[.int .i64 0, .int .i64 0, .int .i64 0, .int .i64 0, .int .i64 0]), 5, 40) := by kernel_rfl
set_option maxHeartbeats 2000000 in
theorem op1_c (g B : Nat) (c : Int) (e : EvD) (r : RunD) (sv ov : Value) (a b cc ee : Int) (w : World) (h : RunAt w g B c e r sv ov) (hB : B ≤ w.heap.size) (hx : 0 ≤ r.x ∧ r.x ≤ 999) (hy : 0 ≤ r.y ∧ r.y ≤ 999) (he : evOk e = true) (hns : r.sends.length ≤ 1000) (hno : r.outs.length ≤ 1000) (ho : opOk ⟨1, a, b, cc, ee⟩ = true) :
    Calls Tryz.prog 100 #[.pointer (some ⟨g,0,none⟩), .agg #[.int .i64 1, .int .i64 a, .int .i64 b, .int .i64 cc, .int .i64 ee]] w (OpPost B g c e r ⟨1, a, b, cc, ee⟩ w) := by
  simp [opOk, inn] at ho
  have hr := h.below (balloc (Below.refl _ _) (.cells #[.int .i64 1, .int .i64 a, .int .i64 b, .int .i64 cc, .int .i64 ee] 150))
  have hr' := hr.below (Below.refl _ _).drew
  have hb := ho.2.1.1
  clear ho
  go_enter Tryz.func100, Tryz.ntmps100
  go_wp2_with (go_at_call 143; refine (put_c g B c e r sv ov _ _ _ hr (by omega)).mono ?_; rintro q w1 ⟨rfl, h1, h2⟩)
  go_ret
  exact ⟨rfl, ⟨sv, ov, h1⟩, ((Below.refl _ _).alloc hB _).trans h2⟩
set_option maxHeartbeats 2000000 in
theorem op2_c (g B : Nat) (c : Int) (e : EvD) (r : RunD) (sv ov : Value) (a b cc ee : Int) (w : World) (h : RunAt w g B c e r sv ov) (hB : B ≤ w.heap.size) (hx : 0 ≤ r.x ∧ r.x ≤ 999) (hy : 0 ≤ r.y ∧ r.y ≤ 999) (he : evOk e = true) (hns : r.sends.length ≤ 1000) (hno : r.outs.length ≤ 1000) (ho : opOk ⟨2, a, b, cc, ee⟩ = true) :
    Calls Tryz.prog 100 #[.pointer (some ⟨g,0,none⟩), .agg #[.int .i64 2, .int .i64 a, .int .i64 b, .int .i64 cc, .int .i64 ee]] w (OpPost B g c e r ⟨2, a, b, cc, ee⟩ w) := by
  simp [opOk, inn] at ho
  have hr := h.below (balloc (Below.refl _ _) (.cells #[.int .i64 2, .int .i64 a, .int .i64 b, .int .i64 cc, .int .i64 ee] 150))
  have hr' := hr.below (Below.refl _ _).drew
  have b1 := get_bounds hx hy a
  have b2 := get_bounds hx hy b
  clear ho
  go_enter Tryz.func100, Tryz.ntmps100
  go_wp2_with fail
  refine region_tail 12 (by kernel_rfl) (by kernel_rfl) ?_
  simp only [List.take_succ_cons, List.take_zero, List.drop_succ_cons, List.drop_zero]
  iterate 6 still_step
  still_call (get_c g B c e r sv ov _ _ hr')
  iterate 3 still_step
  still_call (get_c g B c e r sv ov _ _ hr')
  still_step
  refine wpStill_nil ?_
  go_wp2_with (go_at_call 143; refine (put_c g B c e r sv ov _ _ _ hr' (by omega)).mono ?_; rintro q w1 ⟨rfl, h1, h2⟩)
  go_ret
  exact ⟨rfl, ⟨sv, ov, h1⟩, (((Below.refl _ _).alloc hB _).drew).trans h2⟩
set_option maxHeartbeats 2000000 in
theorem op3_c (g B : Nat) (c : Int) (e : EvD) (r : RunD) (sv ov : Value) (a b cc ee : Int) (w : World) (h : RunAt w g B c e r sv ov) (hB : B ≤ w.heap.size) (hx : 0 ≤ r.x ∧ r.x ≤ 999) (hy : 0 ≤ r.y ∧ r.y ≤ 999) (he : evOk e = true) (hns : r.sends.length ≤ 1000) (hno : r.outs.length ≤ 1000) (ho : opOk ⟨3, a, b, cc, ee⟩ = true) :
    Calls Tryz.prog 100 #[.pointer (some ⟨g,0,none⟩), .agg #[.int .i64 3, .int .i64 a, .int .i64 b, .int .i64 cc, .int .i64 ee]] w (OpPost B g c e r ⟨3, a, b, cc, ee⟩ w) := by
  simp [opOk, inn] at ho
  have hr := h.below (balloc (Below.refl _ _) (.cells #[.int .i64 3, .int .i64 a, .int .i64 b, .int .i64 cc, .int .i64 ee] 150))
  have hr' := hr.below (Below.refl _ _).drew
  have b1 := get_bounds hx hy a
  have hb := ho.2.1.1
  have hb2 := ho.2.1.2
  clear ho
  go_enter Tryz.func100, Tryz.ntmps100
  go_wp2_with fail
  refine region_tail 10 (by kernel_rfl) (by kernel_rfl) ?_
  simp only [List.take_succ_cons, List.take_zero, List.drop_succ_cons, List.drop_zero]
  iterate 6 still_step
  still_call (get_c g B c e r sv ov _ _ hr')
  iterate 3 still_step
  refine wpStill_nil ?_
  go_wp2_with (go_at_call 143; refine (put_c g B c e r sv ov _ _ _ hr' (by omega)).mono ?_; rintro q w1 ⟨rfl, h1, h2⟩)
  go_ret
  exact ⟨rfl, ⟨sv, ov, h1⟩, (((Below.refl _ _).alloc hB _).drew).trans h2⟩
set_option maxHeartbeats 2000000 in
theorem op4_c (g B : Nat) (c : Int) (e : EvD) (r : RunD) (sv ov : Value) (a b cc ee : Int) (w : World) (h : RunAt w g B c e r sv ov) (hB : B ≤ w.heap.size) (hx : 0 ≤ r.x ∧ r.x ≤ 999) (hy : 0 ≤ r.y ∧ r.y ≤ 999) (he : evOk e = true) (hns : r.sends.length ≤ 1000) (hno : r.outs.length ≤ 1000) (ho : opOk ⟨4, a, b, cc, ee⟩ = true) :
    Calls Tryz.prog 100 #[.pointer (some ⟨g,0,none⟩), .agg #[.int .i64 4, .int .i64 a, .int .i64 b, .int .i64 cc, .int .i64 ee]] w (OpPost B g c e r ⟨4, a, b, cc, ee⟩ w) := by
  simp [opOk, inn] at ho
  have hr := h.below (balloc (Below.refl _ _) (.cells #[.int .i64 4, .int .i64 a, .int .i64 b, .int .i64 cc, .int .i64 ee] 150))
  have hr' := hr.below (Below.refl _ _).drew
  have c0 := blk_cell hr.blk 9
  simp [runCells] at c0
  simp [evOk, inn] at he
  have ha := he.2.1
  clear ho
  go_enter Tryz.func100, Tryz.ntmps100
  go_wp2_with fail
  refine region_tail 8 (by kernel_rfl) (by kernel_rfl) ?_
  simp only [List.take_succ_cons, List.take_zero, List.drop_succ_cons, List.drop_zero]
  iterate 8 still_step
  refine wpStill_nil ?_
  go_wp2_with (go_at_call 143; refine (put_c g B c e r sv ov _ _ _ hr' (by omega)).mono ?_; rintro q w1 ⟨rfl, h1, h2⟩)
  go_ret
  exact ⟨rfl, ⟨sv, ov, h1⟩, (((Below.refl _ _).alloc hB _).drew).trans h2⟩
set_option maxHeartbeats 2000000 in
theorem op5_c (g B : Nat) (c : Int) (e : EvD) (r : RunD) (sv ov : Value) (a b cc ee : Int) (w : World) (h : RunAt w g B c e r sv ov) (hB : B ≤ w.heap.size) (hx : 0 ≤ r.x ∧ r.x ≤ 999) (hy : 0 ≤ r.y ∧ r.y ≤ 999) (he : evOk e = true) (hns : r.sends.length ≤ 1000) (hno : r.outs.length ≤ 1000) (ho : opOk ⟨5, a, b, cc, ee⟩ = true) :
    Calls Tryz.prog 100 #[.pointer (some ⟨g,0,none⟩), .agg #[.int .i64 5, .int .i64 a, .int .i64 b, .int .i64 cc, .int .i64 ee]] w (OpPost B g c e r ⟨5, a, b, cc, ee⟩ w) := by
  simp [opOk, inn] at ho
  have hr := h.below (balloc (Below.refl _ _) (.cells #[.int .i64 5, .int .i64 a, .int .i64 b, .int .i64 cc, .int .i64 ee] 150))
  have hr' := hr.below (Below.refl _ _).drew
  have b1 := get_bounds hx hy a
  clear ho
  go_enter Tryz.func100, Tryz.ntmps100
  go_wp2_with fail
  refine region_tail 6 (by kernel_rfl) (by kernel_rfl) ?_
  simp only [List.take_succ_cons, List.take_zero, List.drop_succ_cons, List.drop_zero]
  iterate 3 still_step
  still_call (get_c g B c e r sv ov _ _ hr')
  iterate 2 still_step
  refine wpStill_nil ?_
  by_cases hlt : r.get a < b
  · have e1 : doOp e c ⟨5, a, b, cc, ee⟩ r = (r, cc) := by simp [doOp, hlt]
    go_wp2
    go_ret
    exact ⟨by rw [e1]; rfl, ⟨sv, ov, by rw [e1]; exact hr'⟩, ((Below.refl _ _).alloc hB _).drew⟩
  · have e1 : doOp e c ⟨5, a, b, cc, ee⟩ r = (r, 0) := by simp [doOp, hlt]
    go_wp2
    go_ret
    exact ⟨by rw [e1]; rfl, ⟨sv, ov, by rw [e1]; exact hr'⟩, ((Below.refl _ _).alloc hB _).drew⟩
theorem RunAt.grown_sends {w w1 : World} {g B : Nat} {c : Int} {e : EvD} {r : RunD} {sv ov : Value} (h : RunAt w g B c e r sv ov) (hG : w.grownBy w1 sv.ownBlock) :
    w1.heap[g]? = some (.cells (runCells c e r sv ov) 147 (0, 0)) ∧ Ow tOut 128 w1 (fun k => B ≤ k) ov r.outs :=
  ⟨(hG.block g (blk_lt h.blk) (fun e' => h.sends.type_ne h.blk (by decide) e'.symm)).trans h.blk,
   (h.outs.tight.keep (fun k hk hlt => hG.block k hlt (fun e' => h.outs.apart h.sends (by decide) k hk e'.symm))).mono (fun k hk => h.outs.inF hk)⟩
theorem RunAt.grown_outs {w w1 : World} {g B : Nat} {c : Int} {e : EvD} {r : RunD} {sv ov : Value} (h : RunAt w g B c e r sv ov) (hG : w.grownBy w1 ov.ownBlock) :
    w1.heap[g]? = some (.cells (runCells c e r sv ov) 147 (0, 0)) ∧ Ow tEv 80 w1 (fun k => B ≤ k) sv r.sends :=
  ⟨(hG.block g (blk_lt h.blk) (fun e' => h.outs.type_ne h.blk (by decide) e'.symm)).trans h.blk,
   (h.sends.tight.keep (fun k hk hlt => hG.block k hlt (fun e' => h.sends.apart h.outs (by decide) k hk e'.symm))).mono (fun k hk => h.sends.inF hk)⟩
theorem Ow.setCell {α : Type} {cells : α → List Value} {sz : Nat} {hl : ∀ x, (cells x).length = sz} {ho : ∀ x, ∀ u ∈ cells x, u.oneCell' = true} {e t : TypeId} {w : World} {F : Nat → Prop} {v : Value} {xs : List α}
    (h : Ow (flat cells sz hl ho) e w F v xs) {g i : Nat} {cs : Array Value} {fr : Nat × Nat} (hg : w.heap[g]? = some (.cells cs t fr)) (hne : e ≠ t) (u : Value) : Ow (flat cells sz hl ho) e (w.setCell ⟨g, i, none⟩ u) F v xs :=
  (h.tight.keep (fun k hk hlt => Below.heap_setCell _ _ _ _ (fun e' => h.type_ne hg hne (by have e2 : k = g := e'; subst e2; exact hk)))).mono (fun k hk => h.inF hk)
theorem op_end6 {w w1 W : World} {g B : Nat} {c : Int} {e : EvD} {r r' : RunD} {sv ov v1 : Value} {o : OpD} {box : Obj} (hd : doOp e c o r = (r', 0)) (hG1 : w1.heap[g]? = some (.cells (runCells c e r sv ov) 147 (0, 0)) ∧ Ow tOut 128 w1 (fun k => B ≤ k) ov r.outs)
    (hO : Ow tEv 80 w1 (fun k => B ≤ k) v1 r'.sends) (hG : W.grownBy w1 sv.ownBlock) (HS : Ch (fun k => sv.ownBlock = some k) (w.alloc box) w1) (hB : B ≤ w.heap.size) (hsv : ∀ k, sv.ownBlock = some k → B ≤ k) (hgB : B ≤ g) (hx : r'.x = r.x) (hy : r'.y = r.y) (ho : r'.outs = r.outs) :
    OpPost B g c e r o w (.returned (.int .i64 0)) (w1.setCell ⟨g, 10, none⟩ v1) := by
  refine ⟨by rw [hd], ⟨v1, ov, ?_, hgB, ?_, ?_⟩, ?_⟩
  · rw [blk_set hG1.1, hd]
    simp [runCells, hx, hy]
  · rw [hd]; exact hO.setCell hG1.1 (by decide) _
  · rw [hd]; simp only [ho]; exact hG1.2.setCell hG1.1 (by decide) _
  · exact (((Below.refl _ _).alloc hB _).trans (HS.below (fun k hk => hsv k hk) (by simp; omega))).setCell hgB _
theorem op_end7 {w w1 W : World} {g B : Nat} {c : Int} {e : EvD} {r r' : RunD} {sv ov v1 : Value} {o : OpD} {box : Obj} (hd : doOp e c o r = (r', 0)) (hG1 : w1.heap[g]? = some (.cells (runCells c e r sv ov) 147 (0, 0)) ∧ Ow tEv 80 w1 (fun k => B ≤ k) sv r.sends)
    (hO : Ow tOut 128 w1 (fun k => B ≤ k) v1 r'.outs) (hG : W.grownBy w1 ov.ownBlock) (HS : Ch (fun k => ov.ownBlock = some k) (w.alloc box) w1) (hB : B ≤ w.heap.size) (hsv : ∀ k, ov.ownBlock = some k → B ≤ k) (hgB : B ≤ g) (hx : r'.x = r.x) (hy : r'.y = r.y) (ho : r'.sends = r.sends) :
    OpPost B g c e r o w (.returned (.int .i64 0)) (w1.setCell ⟨g, 11, none⟩ v1) := by
  refine ⟨by rw [hd], ⟨sv, v1, ?_, hgB, ?_, ?_⟩, ?_⟩
  · rw [blk_set hG1.1, hd]
    simp [runCells, hx, hy]
  · rw [hd]; simp only [ho]; exact hG1.2.setCell hG1.1 (by decide) _
  · rw [hd]; exact hO.setCell hG1.1 (by decide) _
  · exact (((Below.refl _ _).alloc hB _).trans (HS.below (fun k hk => hsv k hk) (by simp; omega))).setCell hgB _
set_option maxHeartbeats 8000000 in
theorem op6_c (g B : Nat) (c : Int) (e : EvD) (r : RunD) (sv ov : Value) (a b cc ee : Int) (w : World) (h : RunAt w g B c e r sv ov) (hB : B ≤ w.heap.size) (hx : 0 ≤ r.x ∧ r.x ≤ 999) (hy : 0 ≤ r.y ∧ r.y ≤ 999) (he : evOk e = true) (hns : r.sends.length ≤ 1000) (hno : r.outs.length ≤ 1000) (ho : opOk ⟨6, a, b, cc, ee⟩ = true) :
    Calls Tryz.prog 100 #[.pointer (some ⟨g,0,none⟩), .agg #[.int .i64 6, .int .i64 a, .int .i64 b, .int .i64 cc, .int .i64 ee]] w (OpPost B g c e r ⟨6, a, b, cc, ee⟩ w) := by
  simp [opOk, inn] at ho
  simp [evOk, inn] at he
  obtain ⟨A, cp, rfl, hl⟩ := h.sends.shape
  have hr := h.below (balloc (Below.refl _ _) (.cells #[.int .i64 6, .int .i64 a, .int .i64 b, .int .i64 cc, .int .i64 ee] 150))
  have c2 := blk_cell hr.blk 2
  have c3 := blk_cell hr.blk 3
  have c4 := blk_cell hr.blk 4
  have c10 := blk_cell hr.blk 10
  simp [runCells] at c2 c3 c4 c10
  have f10 := blk_frozen hr.blk 10
  have t1 := he.1.1.1.1.1.1
  have k1 := ho.2.2.1
  clear he ho
  have hne := h.sends.type_ne h.blk (by decide)
  have hg := blk_lt h.blk
  have hne2 : (Value.slice A r.sends.length cp).ownBlock ≠ some w.heap.size := fun h' => by have := h.sends.block_lt h'; omega
  have hg' : g < w.heap.size + 1 := by omega
  by_cases hle : e.time + cc ≤ 40
  · have hd : decide (e.time + cc ≤ 40) = true := decide_eq_true hle
    have e1 : doOp e c ⟨6, a, b, cc, ee⟩ r = ({ r with sends := r.sends ++ [⟨e.time + cc, a, e.to, c, (r.sends.length : Int), b, r.get ee⟩] }, 0) := by simp [doOp, hle]
    have E1 := hid e1; clear e1
    go_enter Tryz.func100, Tryz.ntmps100
    go_wp2_with fail
    go_quiet (fail)
    go_wp2_with fail
    have hw : IntKind.i64.wrap (e.time + cc) = e.time + cc := IntWalk.i64_in _ (by omega)
    refine region_plan (fun w' => Ch (fun k => (Value.slice A r.sends.length cp).ownBlock = some k) (w.alloc (.cells #[.int .i64 6, .int .i64 a, .int .i64 b, .int .i64 cc, .int .i64 ee] 150)) w') [(0, true), (1, true), (2, true), (3, true), (4, true), (5, true), (6, true), (7, true), (8, true), (9, true), (10, true), (11, true), (12, true), (13, true), (14, true), (15, true), (16, true), (17, true), (18, true), (19, true), (20, true), (21, true), (22, true), (23, true), (24, true), (25, true), (26, true), (27, true), (28, true), (29, true), (30, true), (31, true), (32, true), (33, true), (34, true), (35, false), (36, true), (37, false), (38, false), (39, true), (40, true), (41, false)] (by kernel_rfl) (by kernel_rfl) (fun _ _ d _ _ h => by cases d <;> exact h) ?_
    have HS := ((Ch.refl (fun k => (Value.slice A r.sends.length cp).ownBlock = some k) (w.alloc (.cells #[.int .i64 6, .int .i64 a, .int .i64 b, .int .i64 cc, .int .i64 ee] 150))).drewN nq).drew
    iterate 35 (refine seq_take (v := ?_) (by rfl) HS (by rfl) ?_ ?_; rotate_left; (focus (intro wS hS; obtain ⟨kc, kf⟩ := hS.cells; go_simp; (try (with_reducible rfl)); done)); (intro K hK; go_simp; refine hK _ ?_; clear hK K))
    refine seq_do (by rfl) (by rfl) (fun K hK => ?_)
    go_simp
    refine (get_c g B c e r _ _ _ _ (hr.below (by repeat (first | exact Below.refl _ _ | refine balloc ?_ _ | refine bdrewN ?_ _ | refine Below.drew ?_)))).mono ?_
    rintro q w1 ⟨rfl, rfl⟩
    refine hK _ _ (Or.inr HS) ?_; clear hK K
    iterate 1 (refine seq_take (v := ?_) (by rfl) HS (by rfl) ?_ ?_; rotate_left; (focus (intro wS hS; obtain ⟨kc, kf⟩ := hS.cells; go_simp; (try (with_reducible rfl)); done)); (intro K hK; go_simp; refine hK _ ?_; clear hK K))
    refine seq_do (by rfl) (by rfl) (fun K hK => ?_)
    go_simp
    refine hK _ _ (Or.inr (HS.alloc _)) ?_; clear hK K
    refine seq_do (by rfl) (by rfl) (fun K hK => ?_)
    refine ow_append_wp (d := tEv) 25 rfl Tryz.underlying25 _ 56 info_ev rfl (by decide) (by decide) rfl (hr.below (by repeat (first | exact Below.refl _ _ | refine balloc ?_ _ | refine bdrewN ?_ _ | refine Below.drew ?_))).sends ⟨e.time + cc, a, e.to, c, (r.sends.length : Int), b, r.get ee⟩ _ rfl (heap_at (by simp)) (fun _ => False) rfl (fun _ hf => hf.elim) (fun _ hf => hf.elim) (by omega) (fun k => B ≤ k) (fun _ hk => hk) (fun _ hf => hf.elim) (fun k hk => by simp at hk; omega) ?_
    intro v1 w1 hO hG hat
    have HS1 := (HS.alloc _).grown hG (fun k hk => .inl hk)
    have hrG := RunAt.grown_sends (hr.below (by repeat (first | exact Below.refl _ _ | refine balloc ?_ _ | refine bdrewN ?_ _ | refine Below.drew ?_))) hG
    obtain ⟨A1, cp1, rfl, hl1⟩ := hO.shape
    simp only [List.length_append, List.length_singleton] at hO
    have q10 := blk_cell hrG.1 10
    have p10 := blk_frozen hrG.1 10
    simp [runCells] at q10
    refine hK _ _ (Or.inr HS1) ?_; clear hK K HS
    have HS := HS1; clear HS1
    iterate 2 (refine seq_take (v := ?_) (by rfl) HS (by rfl) ?_ ?_; rotate_left; (focus (intro wS hS; obtain ⟨kc, kf⟩ := hS.cells; go_simp; (try (with_reducible rfl)); done)); (intro K hK; go_simp; refine hK _ ?_; clear hK K))
    refine seq_do (by rfl) (by rfl) (fun K hK => ?_)
    go_simp
    refine hK _ _ (Or.inl (by kernel_rfl)) ?_; clear hK K
    simp only [wpSeq]
    go_wp2
    go_ret
    exact op_end6 (sv := (Value.slice A r.sends.length cp)) E1.out hrG hO hG HS hB (fun k hk => h.sends.inF hk) h.ge rfl rfl rfl
  · have hd : decide (e.time + cc ≤ 40) = false := decide_eq_false hle
    have e1 : doOp e c ⟨6, a, b, cc, ee⟩ r = (r, 0) := by simp [doOp, hle]
    go_enter Tryz.func100, Tryz.ntmps100
    go_wp2_with fail
    go_quiet (fail)
    go_wp2_with fail
    go_ret
    exact ⟨by rw [e1]; rfl, ⟨_, _, by rw [e1]; exact hr.below (bdrewN (Below.refl _ _) _)⟩, bdrewN ((Below.refl _ _).alloc hB _) _⟩
set_option maxHeartbeats 8000000 in
theorem op7_c (g B : Nat) (c : Int) (e : EvD) (r : RunD) (sv ov : Value) (a b cc ee : Int) (w : World) (h : RunAt w g B c e r sv ov) (hB : B ≤ w.heap.size) (hx : 0 ≤ r.x ∧ r.x ≤ 999) (hy : 0 ≤ r.y ∧ r.y ≤ 999) (he : evOk e = true) (hns : r.sends.length ≤ 1000) (hno : r.outs.length ≤ 1000) (ho : opOk ⟨7, a, b, cc, ee⟩ = true) :
    Calls Tryz.prog 100 #[.pointer (some ⟨g,0,none⟩), .agg #[.int .i64 7, .int .i64 a, .int .i64 b, .int .i64 cc, .int .i64 ee]] w (OpPost B g c e r ⟨7, a, b, cc, ee⟩ w) := by
  simp [opOk, inn] at ho
  simp [evOk, inn] at he
  obtain ⟨A, cp, rfl, hl⟩ := h.outs.shape
  have hr := h.below (balloc (Below.refl _ _) (.cells #[.int .i64 7, .int .i64 a, .int .i64 b, .int .i64 cc, .int .i64 ee] 150))
  have c2 := blk_cell hr.blk 2
  have c3 := blk_cell hr.blk 3
  have c4 := blk_cell hr.blk 4
  have c11 := blk_cell hr.blk 11
  simp [runCells] at c2 c3 c4 c11
  have f11 := blk_frozen hr.blk 11
  clear he ho
  have hne := h.outs.type_ne h.blk (by decide)
  have hg := blk_lt h.blk
  have hne2 : (Value.slice A r.outs.length cp).ownBlock ≠ some w.heap.size := fun h' => by have := h.outs.block_lt h'; omega
  have hg' : g < w.heap.size + 1 := by omega
  go_enter Tryz.func100, Tryz.ntmps100
  go_wp2_with fail
  refine region_plan (fun w' => Ch (fun k => (Value.slice A r.outs.length cp).ownBlock = some k) (w.alloc (.cells #[.int .i64 7, .int .i64 a, .int .i64 b, .int .i64 cc, .int .i64 ee] 150)) w') [(0, true), (1, true), (2, true), (3, true), (4, true), (5, true), (6, true), (7, true), (8, true), (9, true), (10, true), (11, true), (12, true), (13, true), (14, true), (15, true), (16, true), (17, true), (18, true), (19, true), (20, true), (21, true), (22, true), (23, true), (24, true), (25, true), (26, true), (27, true), (28, false), (29, true), (30, false), (31, false), (32, true), (33, true), (34, false)] (by kernel_rfl) (by kernel_rfl) (fun _ _ d _ _ h => by cases d <;> exact h) ?_
  have HS := (Ch.refl (fun k => (Value.slice A r.outs.length cp).ownBlock = some k) (w.alloc (.cells #[.int .i64 7, .int .i64 a, .int .i64 b, .int .i64 cc, .int .i64 ee] 150))).drew
  iterate 28 (refine seq_take (v := ?_) (by rfl) HS (by rfl) ?_ ?_; rotate_left; (focus (intro wS hS; obtain ⟨kc, kf⟩ := hS.cells; go_simp; (try (with_reducible rfl)); done)); (intro K hK; go_simp; refine hK _ ?_; clear hK K))
  refine seq_do (by rfl) (by rfl) (fun K hK => ?_)
  go_simp
  refine (get_c g B c e r _ _ _ _ (hr.below (by repeat (first | exact Below.refl _ _ | refine balloc ?_ _ | refine bdrewN ?_ _ | refine Below.drew ?_)))).mono ?_
  rintro q w1 ⟨rfl, rfl⟩
  refine hK _ _ (Or.inr HS) ?_; clear hK K
  iterate 1 (refine seq_take (v := ?_) (by rfl) HS (by rfl) ?_ ?_; rotate_left; (focus (intro wS hS; obtain ⟨kc, kf⟩ := hS.cells; go_simp; (try (with_reducible rfl)); done)); (intro K hK; go_simp; refine hK _ ?_; clear hK K))
  refine seq_do (by rfl) (by rfl) (fun K hK => ?_)
  go_simp
  refine hK _ _ (Or.inr (HS.alloc _)) ?_; clear hK K
  refine seq_do (by rfl) (by rfl) (fun K hK => ?_)
  refine ow_append_wp (d := tOut) 26 rfl Tryz.underlying26 _ 40 info_out rfl (by decide) (by decide) rfl (hr.below (by repeat (first | exact Below.refl _ _ | refine balloc ?_ _ | refine bdrewN ?_ _ | refine Below.drew ?_))).outs ⟨e.time, e.to, c, (r.outs.length : Int), r.get a⟩ _ rfl (heap_at (by simp)) (fun _ => False) rfl (fun _ hf => hf.elim) (fun _ hf => hf.elim) (by omega) (fun k => B ≤ k) (fun _ hk => hk) (fun _ hf => hf.elim) (fun k hk => by simp at hk; omega) ?_
  intro v1 w1 hO hG hat
  have HS1 := (HS.alloc _).grown hG (fun k hk => .inl hk)
  have hrG := RunAt.grown_outs (hr.below (by repeat (first | exact Below.refl _ _ | refine balloc ?_ _ | refine bdrewN ?_ _ | refine Below.drew ?_))) hG
  obtain ⟨A1, cp1, rfl, hl1⟩ := hO.shape
  simp only [List.length_append, List.length_singleton] at hO
  have q10 := blk_cell hrG.1 11
  have p10 := blk_frozen hrG.1 11
  simp [runCells] at q10
  refine hK _ _ (Or.inr HS1) ?_; clear hK K HS
  have HS := HS1; clear HS1
  iterate 2 (refine seq_take (v := ?_) (by rfl) HS (by rfl) ?_ ?_; rotate_left; (focus (intro wS hS; obtain ⟨kc, kf⟩ := hS.cells; go_simp; (try (with_reducible rfl)); done)); (intro K hK; go_simp; refine hK _ ?_; clear hK K))
  refine seq_do (by rfl) (by rfl) (fun K hK => ?_)
  go_simp
  refine hK _ _ (Or.inl (by kernel_rfl)) ?_; clear hK K
  simp only [wpSeq]
  go_wp2
  go_ret
  exact op_end7 (ov := (Value.slice A r.outs.length cp)) rfl hrG hO hG HS hB (fun k hk => h.outs.inF hk) h.ge rfl rfl rfl
end Go.Proofs.YtbcemldiahghcaaGreat

namespace Go.Proofs.YtbcemldiahghcaaGreat
set_option linter.unusedVariables false
set_option linter.unusedSimpArgs false
set_option maxRecDepth 100000
open Go.RowKit

end Go.Proofs.YtbcemldiahghcaaGreat
