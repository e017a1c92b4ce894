/- A rule that is done by the reference: l1Run's put, get, op. -/
import Derived.Test.YtmnccekljombmaaApp
import Derived.Test.YtmnccekljombmaaSc
import Derived.Deep.RegionLaw
import Derived.StillTailTactics
import Derived.BigRegion
import Derived.IntWalk
import Derived.Test.YtmnccekljombmaaReg
set_option linter.unusedVariables false
set_option linter.unusedSimpArgs false
set_option maxRecDepth 100000
namespace Go.Proofs.Ytmnccekljombmaa
open Go.RowKit
/-- A region that draws: n operations that only read, then a tail in one order. -/
theorem region_tail {P : Program} {id : Nat} {Q : Exit → Act → World → Prop} {a : Act} {w : World} {l : List Oper} (n : Nat) (hm : P.follows .mixedOrders = true) (hB : Region.lexTailB .any l.toArray n = true)
    (h : wpStill P l.toArray w.drew (fun a' => wpList P l.toArray Q (l.drop n) a' w.drew) (l.take n) a) : (Code.region id l.toArray true).wp P Q a w := wp_region_still_tail n hm hB h
theorem heap_at {W : World} {o : Obj} {H : Nat} (h : H = W.heap.size) : (W.alloc o).heap[H]? = some o := by subst h; exact heap_alloc_new W o
theorem Ow.tight {α : Type} {cells : α → List Value} {sz : Nat} {hl : ∀ x, (cells x).length = sz} {ho : ∀ x, ∀ u ∈ cells x, u.oneCell' = true} {e : TypeId} {w : World} {F : Nat → Prop} {v : Value} {xs : List α}
    (h : Ow (flat cells sz hl ho) e w F v xs) : Ow (flat cells sz hl ho) e w (fun k => v.ownBlock = some k) v xs := Ow.of_flat h.flatRow (fun g hg => hg)
/-- An own row lies in a block of its type. -/
theorem Ow.type_ne {α : Type} {d : Ty α} {e t : TypeId} {w : World} {F : Nat → Prop} {v : Value} {xs : List α} (h : Ow d e w F v xs) {g : Nat} {cs : Array Value} {fr : Nat × Nat} (hg : w.heap[g]? = some (.cells cs t fr)) (hne : e ≠ t) : v.ownBlock ≠ some g := by
  obtain ⟨_, _, h1, _⟩ := h
  intro hv
  rcases h1.2 with ⟨rfl, _⟩ | ⟨g', cap, cur, rfl, _, hh, _⟩
  · simp [Value.ownBlock] at hv
  · have : g' = g := by simpa [Value.ownBlock] using hv
    subst this
    rw [hh] at hg; injection hg with hg; injection hg with _ ht; exact hne ht
theorem Ow.apart {α β : Type} {d : Ty α} {d' : Ty β} {e e' : TypeId} {w : World} {F F' : Nat → Prop} {v v' : Value} {xs : List α} {ys : List β} (h : Ow d e w F v xs) (h' : Ow d' e' w F' v' ys) (hne : e ≠ e') : ∀ g, v.ownBlock = some g → v'.ownBlock ≠ some g := by
  intro g hg
  obtain ⟨_, _, h1, _⟩ := h
  rcases h1.2 with ⟨rfl, _⟩ | ⟨g', cap, cur, rfl, _, hh, _⟩
  · simp [Value.ownBlock] at hg
  · have : g' = g := by simpa [Value.ownBlock] using hg
    subst this
    exact h'.type_ne hh (fun e => hne e.symm)

def runCells (c : Int) (e : EvD) (r : RunD) (sv ov : Value) : Array Value :=
  #[.int .i64 r.x, .int .i64 r.y, .int .i64 c, .int .i64 e.time, .int .i64 e.to, .int .i64 e.from_, .int .i64 e.count, .int .i64 e.n, .int .i64 e.kind, .int .i64 e.arg, sv, ov]
structure RunAt (w : World) (g B : Nat) (c : Int) (e : EvD) (r : RunD) (sv ov : Value) : Prop where
  blk : w.heap[g]? = some (.cells (runCells c e r sv ov) 87 (0, 0))
  ge : B ≤ g
  sends : Ow tEv 29 w (fun k => B ≤ k) sv r.sends
  outs : Ow tOut 43 w (fun k => B ≤ k) ov r.outs
theorem blk_cell {w : World} {g : Nat} {cs : Array Value} {t : TypeId} {fr : Nat × Nat} (h : w.heap[g]? = some (.cells cs t fr)) (i : Nat) : w.cell? ⟨g, i, none⟩ = cs[i]? := by simp [World.cell?, h]
theorem blk_frozen {w : World} {g : Nat} {cs : Array Value} {t : TypeId} (h : w.heap[g]? = some (.cells cs t (0, 0))) (i : Nat) : w.frozen? ⟨g, i, none⟩ = false := by simp [World.frozen?, h]
theorem blk_lt {w : World} {g : Nat} {o : Obj} (h : w.heap[g]? = some o) : g < w.heap.size := (Array.getElem?_eq_some_iff.1 h).1
theorem blk_set {w : World} {g : Nat} {cs : Array Value} {t : TypeId} {fr : Nat × Nat} (h : w.heap[g]? = some (.cells cs t fr)) (i : Nat) (u : Value) : (w.setCell ⟨g, i, none⟩ u).heap[g]? = some (.cells (cs.setIfInBounds i u) t fr) := by
  simp [World.setCell, Array.getElem?_modify, h]
theorem RunAt.set {w : World} {g B : Nat} {c : Int} {e : EvD} {r r' : RunD} {sv ov : Value} (h : RunAt w g B c e r sv ov) (i : Nat) (u : Value) (hc : (runCells c e r sv ov).setIfInBounds i u = runCells c e r' sv ov) (hs : r'.sends = r.sends) (ho : r'.outs = r.outs) : RunAt (w.setCell ⟨g, i, none⟩ u) g B c e r' sv ov := by
  refine ⟨by rw [blk_set h.blk, hc], h.ge, ?_, ?_⟩
  · rw [hs]
    exact (h.sends.tight.keep (fun k hk hlt => Below.heap_setCell _ _ _ _ (fun e' => h.sends.type_ne h.blk (by decide) (by have e2 : k = g := e'; subst e2; exact hk)))).mono (fun k hk => h.sends.inF hk)
  · rw [ho]
    exact (h.outs.tight.keep (fun k hk hlt => Below.heap_setCell _ _ _ _ (fun e' => h.outs.type_ne h.blk (by decide) (by have e2 : k = g := e'; subst e2; exact hk)))).mono (fun k hk => h.outs.inF hk)

set_option maxHeartbeats 400000 in
theorem get_c (g B : Nat) (c : Int) (e : EvD) (r : RunD) (sv ov : Value) (k : Int) (w : World) (h : RunAt w g B c e r sv ov) :
    Calls Try.prog 88 #[.pointer (some ⟨g,0,none⟩), .int .i64 k] w fun q w' => q = .returned (.int .i64 (r.get k)) ∧ w' = w := by
  have h0 : w.cell? ⟨g, 0, none⟩ = some (.int .i64 r.x) := blk_cell h.blk 0
  have h1 : w.cell? ⟨g, 1, none⟩ = some (.int .i64 r.y) := blk_cell h.blk 1
  by_cases hk : k = 0
  · subst hk
    go_enter Try.func88, Try.ntmps88
    go_wp2
    go_ret
    exact ⟨rfl, rfl⟩
  · have hk' : (k == 0) = false := by simpa using hk
    have e1 : r.get k = r.y := by simp [RunD.get, hk]
    go_enter Try.func88, Try.ntmps88
    go_wp2
    go_ret
    exact ⟨by rw [e1]; rfl, rfl⟩
set_option maxHeartbeats 400000 in
theorem put_c (g B : Nat) (c : Int) (e : EvD) (r : RunD) (sv ov : Value) (k n : Int) (w : World) (h : RunAt w g B c e r sv ov) (hn : 0 ≤ n) :
    Calls Try.prog 87 #[.pointer (some ⟨g,0,none⟩), .int .i64 k, .int .i64 n] w fun q w' => q = .returned (.tuple #[]) ∧ RunAt w' g B c e (r.put k n) sv ov ∧ Below B w w' := by
  have h0 : w.cell? ⟨g, 0, none⟩ = some (.int .i64 r.x) := blk_cell h.blk 0
  have h1 : w.cell? ⟨g, 1, none⟩ = some (.int .i64 r.y) := blk_cell h.blk 1
  have f0 := blk_frozen h.blk 0
  have f1 := blk_frozen h.blk 1
  by_cases hk : k = 0
  · subst hk
    go_enter Try.func87, Try.ntmps87
    go_wp2
    go_end0
    exact ⟨rfl, h.set 0 _ rfl rfl rfl, (Below.refl _ _).setCell h.ge _⟩
  · have hk' : (k == 0) = false := by simpa using hk
    have e1 : r.put k n = { r with y := n % 1000 } := by simp [RunD.put, hk]
    go_enter Try.func87, Try.ntmps87
    go_wp2
    go_end0
    exact ⟨rfl, by rw [e1]; exact h.set 1 _ rfl rfl rfl, (Below.refl _ _).setCell h.ge _⟩

theorem RunAt.below {w w' : World} {g B : Nat} {c : Int} {e : EvD} {r : RunD} {sv ov : Value} (h : RunAt w g B c e r sv ov) (hb : Below w.heap.size w w') : RunAt w' g B c e r sv ov :=
  ⟨(hb.block g (blk_lt h.blk)).trans h.blk, h.ge, h.sends.below hb, h.outs.below hb⟩
theorem get_bounds {r : RunD} (hx : 0 ≤ r.x ∧ r.x ≤ 999) (hy : 0 ≤ r.y ∧ r.y ≤ 999) (k : Int) : 0 ≤ r.get k ∧ r.get k ≤ 999 := by unfold RunD.get; split <;> assumption
abbrev opArgs (g : Nat) (o : OpD) : Array Value := #[.pointer (some ⟨g,0,none⟩), .agg #[.int .i64 o.d, .int .i64 o.a, .int .i64 o.b, .int .i64 o.c, .int .i64 o.e]]
def OpPost (B g : Nat) (c : Int) (e : EvD) (r : RunD) (o : OpD) (w : World) (q : Ending) (w' : World) : Prop :=
  q = .returned (.int .i64 (doOp e c o r).2) ∧ (∃ sv ov, RunAt w' g B c e (doOp e c o r).1 sv ov) ∧ Below B w w'
theorem info_ev : (Try.prog.info? 29).map (fun i => (i.zero, i.size, i.bytes)) = some (some (.agg #[.int .i64 0, .int .i64 0, .int .i64 0, .int .i64 0, .int .i64 0, .int .i64 0, .int .i64 0]), 7, 56) := by kernel_rfl
theorem info_out : (Try.prog.info? 43).map (fun i => (i.zero, i.size, i.bytes)) = some (some (.agg #[.int .i64 0, .int .i64 0, .int .i64 0, .int .i64 0, .int .i64 0]), 5, 40) := by kernel_rfl
set_option maxHeartbeats 2000000 in
theorem op1_c (g B : Nat) (c : Int) (e : EvD) (r : RunD) (sv ov : Value) (a b cc ee : Int) (w : World) (h : RunAt w g B c e r sv ov) (hB : B ≤ w.heap.size) (hx : 0 ≤ r.x ∧ r.x ≤ 999) (hy : 0 ≤ r.y ∧ r.y ≤ 999) (he : evOk e = true) (hns : r.sends.length ≤ 1000) (hno : r.outs.length ≤ 1000) (ho : opOk ⟨1, a, b, cc, ee⟩ = true) :
    Calls Try.prog 53 #[.pointer (some ⟨g,0,none⟩), .agg #[.int .i64 1, .int .i64 a, .int .i64 b, .int .i64 cc, .int .i64 ee]] w (OpPost B g c e r ⟨1, a, b, cc, ee⟩ w) := by
  simp [opOk, inn] at ho
  have hr := h.below (balloc (Below.refl _ _) (.cells #[.int .i64 1, .int .i64 a, .int .i64 b, .int .i64 cc, .int .i64 ee] 90))
  have hr' := hr.below (Below.refl _ _).drew
  have hb := ho.2.1.1
  clear ho
  go_enter Try.func53, Try.ntmps53
  go_wp2_with (go_at_call 87; refine (put_c g B c e r sv ov _ _ _ hr (by omega)).mono ?_; rintro q w1 ⟨rfl, h1, h2⟩)
  go_ret
  exact ⟨rfl, ⟨sv, ov, h1⟩, ((Below.refl _ _).alloc hB _).trans h2⟩
set_option maxHeartbeats 2000000 in
theorem op2_c (g B : Nat) (c : Int) (e : EvD) (r : RunD) (sv ov : Value) (a b cc ee : Int) (w : World) (h : RunAt w g B c e r sv ov) (hB : B ≤ w.heap.size) (hx : 0 ≤ r.x ∧ r.x ≤ 999) (hy : 0 ≤ r.y ∧ r.y ≤ 999) (he : evOk e = true) (hns : r.sends.length ≤ 1000) (hno : r.outs.length ≤ 1000) (ho : opOk ⟨2, a, b, cc, ee⟩ = true) :
    Calls Try.prog 53 #[.pointer (some ⟨g,0,none⟩), .agg #[.int .i64 2, .int .i64 a, .int .i64 b, .int .i64 cc, .int .i64 ee]] w (OpPost B g c e r ⟨2, a, b, cc, ee⟩ w) := by
  simp [opOk, inn] at ho
  have hr := h.below (balloc (Below.refl _ _) (.cells #[.int .i64 2, .int .i64 a, .int .i64 b, .int .i64 cc, .int .i64 ee] 90))
  have hr' := hr.below (Below.refl _ _).drew
  have b1 := get_bounds hx hy a
  have b2 := get_bounds hx hy b
  clear ho
  go_enter Try.func53, Try.ntmps53
  go_wp2_with fail
  refine region_tail 12 (by kernel_rfl) (by kernel_rfl) ?_
  simp only [List.take_succ_cons, List.take_zero, List.drop_succ_cons, List.drop_zero]
  iterate 6 still_step
  still_call (get_c g B c e r sv ov _ _ hr')
  iterate 3 still_step
  still_call (get_c g B c e r sv ov _ _ hr')
  still_step
  refine wpStill_nil ?_
  go_wp2_with (go_at_call 87; refine (put_c g B c e r sv ov _ _ _ hr' (by omega)).mono ?_; rintro q w1 ⟨rfl, h1, h2⟩)
  go_ret
  exact ⟨rfl, ⟨sv, ov, h1⟩, (((Below.refl _ _).alloc hB _).drew).trans h2⟩
set_option maxHeartbeats 2000000 in
theorem op3_c (g B : Nat) (c : Int) (e : EvD) (r : RunD) (sv ov : Value) (a b cc ee : Int) (w : World) (h : RunAt w g B c e r sv ov) (hB : B ≤ w.heap.size) (hx : 0 ≤ r.x ∧ r.x ≤ 999) (hy : 0 ≤ r.y ∧ r.y ≤ 999) (he : evOk e = true) (hns : r.sends.length ≤ 1000) (hno : r.outs.length ≤ 1000) (ho : opOk ⟨3, a, b, cc, ee⟩ = true) :
    Calls Try.prog 53 #[.pointer (some ⟨g,0,none⟩), .agg #[.int .i64 3, .int .i64 a, .int .i64 b, .int .i64 cc, .int .i64 ee]] w (OpPost B g c e r ⟨3, a, b, cc, ee⟩ w) := by
  simp [opOk, inn] at ho
  have hr := h.below (balloc (Below.refl _ _) (.cells #[.int .i64 3, .int .i64 a, .int .i64 b, .int .i64 cc, .int .i64 ee] 90))
  have hr' := hr.below (Below.refl _ _).drew
  have b1 := get_bounds hx hy a
  have hb := ho.2.1.1
  have hb2 := ho.2.1.2
  clear ho
  go_enter Try.func53, Try.ntmps53
  go_wp2_with fail
  refine region_tail 10 (by kernel_rfl) (by kernel_rfl) ?_
  simp only [List.take_succ_cons, List.take_zero, List.drop_succ_cons, List.drop_zero]
  iterate 6 still_step
  still_call (get_c g B c e r sv ov _ _ hr')
  iterate 3 still_step
  refine wpStill_nil ?_
  go_wp2_with (go_at_call 87; refine (put_c g B c e r sv ov _ _ _ hr' (by omega)).mono ?_; rintro q w1 ⟨rfl, h1, h2⟩)
  go_ret
  exact ⟨rfl, ⟨sv, ov, h1⟩, (((Below.refl _ _).alloc hB _).drew).trans h2⟩
set_option maxHeartbeats 2000000 in
theorem op4_c (g B : Nat) (c : Int) (e : EvD) (r : RunD) (sv ov : Value) (a b cc ee : Int) (w : World) (h : RunAt w g B c e r sv ov) (hB : B ≤ w.heap.size) (hx : 0 ≤ r.x ∧ r.x ≤ 999) (hy : 0 ≤ r.y ∧ r.y ≤ 999) (he : evOk e = true) (hns : r.sends.length ≤ 1000) (hno : r.outs.length ≤ 1000) (ho : opOk ⟨4, a, b, cc, ee⟩ = true) :
    Calls Try.prog 53 #[.pointer (some ⟨g,0,none⟩), .agg #[.int .i64 4, .int .i64 a, .int .i64 b, .int .i64 cc, .int .i64 ee]] w (OpPost B g c e r ⟨4, a, b, cc, ee⟩ w) := by
  simp [opOk, inn] at ho
  have hr := h.below (balloc (Below.refl _ _) (.cells #[.int .i64 4, .int .i64 a, .int .i64 b, .int .i64 cc, .int .i64 ee] 90))
  have hr' := hr.below (Below.refl _ _).drew
  have c0 := blk_cell hr.blk 9
  simp [runCells] at c0
  simp [evOk, inn] at he
  have ha := he.2.1
  clear ho
  go_enter Try.func53, Try.ntmps53
  go_wp2_with fail
  refine region_tail 8 (by kernel_rfl) (by kernel_rfl) ?_
  simp only [List.take_succ_cons, List.take_zero, List.drop_succ_cons, List.drop_zero]
  iterate 8 still_step
  refine wpStill_nil ?_
  go_wp2_with (go_at_call 87; refine (put_c g B c e r sv ov _ _ _ hr' (by omega)).mono ?_; rintro q w1 ⟨rfl, h1, h2⟩)
  go_ret
  exact ⟨rfl, ⟨sv, ov, h1⟩, (((Below.refl _ _).alloc hB _).drew).trans h2⟩
set_option maxHeartbeats 2000000 in
theorem op5_c (g B : Nat) (c : Int) (e : EvD) (r : RunD) (sv ov : Value) (a b cc ee : Int) (w : World) (h : RunAt w g B c e r sv ov) (hB : B ≤ w.heap.size) (hx : 0 ≤ r.x ∧ r.x ≤ 999) (hy : 0 ≤ r.y ∧ r.y ≤ 999) (he : evOk e = true) (hns : r.sends.length ≤ 1000) (hno : r.outs.length ≤ 1000) (ho : opOk ⟨5, a, b, cc, ee⟩ = true) :
    Calls Try.prog 53 #[.pointer (some ⟨g,0,none⟩), .agg #[.int .i64 5, .int .i64 a, .int .i64 b, .int .i64 cc, .int .i64 ee]] w (OpPost B g c e r ⟨5, a, b, cc, ee⟩ w) := by
  simp [opOk, inn] at ho
  have hr := h.below (balloc (Below.refl _ _) (.cells #[.int .i64 5, .int .i64 a, .int .i64 b, .int .i64 cc, .int .i64 ee] 90))
  have hr' := hr.below (Below.refl _ _).drew
  have b1 := get_bounds hx hy a
  clear ho
  go_enter Try.func53, Try.ntmps53
  go_wp2_with fail
  refine region_tail 6 (by kernel_rfl) (by kernel_rfl) ?_
  simp only [List.take_succ_cons, List.take_zero, List.drop_succ_cons, List.drop_zero]
  iterate 3 still_step
  still_call (get_c g B c e r sv ov _ _ hr')
  iterate 2 still_step
  refine wpStill_nil ?_
  by_cases hlt : r.get a < b
  · have e1 : doOp e c ⟨5, a, b, cc, ee⟩ r = (r, cc) := by simp [doOp, hlt]
    go_wp2
    go_ret
    exact ⟨by rw [e1]; rfl, ⟨sv, ov, by rw [e1]; exact hr'⟩, ((Below.refl _ _).alloc hB _).drew⟩
  · have e1 : doOp e c ⟨5, a, b, cc, ee⟩ r = (r, 0) := by simp [doOp, hlt]
    go_wp2
    go_ret
    exact ⟨by rw [e1]; rfl, ⟨sv, ov, by rw [e1]; exact hr'⟩, ((Below.refl _ _).alloc hB _).drew⟩
theorem RunAt.grown_sends {w w1 : World} {g B : Nat} {c : Int} {e : EvD} {r : RunD} {sv ov : Value} (h : RunAt w g B c e r sv ov) (hG : w.grownBy w1 sv.ownBlock) :
    w1.heap[g]? = some (.cells (runCells c e r sv ov) 87 (0, 0)) ∧ Ow tOut 43 w1 (fun k => B ≤ k) ov r.outs :=
  ⟨(hG.block g (blk_lt h.blk) (fun e' => h.sends.type_ne h.blk (by decide) e'.symm)).trans h.blk,
   (h.outs.tight.keep (fun k hk hlt => hG.block k hlt (fun e' => h.outs.apart h.sends (by decide) k hk e'.symm))).mono (fun k hk => h.outs.inF hk)⟩
theorem RunAt.grown_outs {w w1 : World} {g B : Nat} {c : Int} {e : EvD} {r : RunD} {sv ov : Value} (h : RunAt w g B c e r sv ov) (hG : w.grownBy w1 ov.ownBlock) :
    w1.heap[g]? = some (.cells (runCells c e r sv ov) 87 (0, 0)) ∧ Ow tEv 29 w1 (fun k => B ≤ k) sv r.sends :=
  ⟨(hG.block g (blk_lt h.blk) (fun e' => h.outs.type_ne h.blk (by decide) e'.symm)).trans h.blk,
   (h.sends.tight.keep (fun k hk hlt => hG.block k hlt (fun e' => h.sends.apart h.outs (by decide) k hk e'.symm))).mono (fun k hk => h.sends.inF hk)⟩
theorem Ow.setCell {α : Type} {cells : α → List Value} {sz : Nat} {hl : ∀ x, (cells x).length = sz} {ho : ∀ x, ∀ u ∈ cells x, u.oneCell' = true} {e t : TypeId} {w : World} {F : Nat → Prop} {v : Value} {xs : List α}
    (h : Ow (flat cells sz hl ho) e w F v xs) {g i : Nat} {cs : Array Value} {fr : Nat × Nat} (hg : w.heap[g]? = some (.cells cs t fr)) (hne : e ≠ t) (u : Value) : Ow (flat cells sz hl ho) e (w.setCell ⟨g, i, none⟩ u) F v xs :=
  (h.tight.keep (fun k hk hlt => Below.heap_setCell _ _ _ _ (fun e' => h.type_ne hg hne (by have e2 : k = g := e'; subst e2; exact hk)))).mono (fun k hk => h.inF hk)
theorem op_end6 {w w1 W : World} {g B : Nat} {c : Int} {e : EvD} {r r' : RunD} {sv ov v1 : Value} {o : OpD} {box : Obj} (hd : doOp e c o r = (r', 0)) (hG1 : w1.heap[g]? = some (.cells (runCells c e r sv ov) 87 (0, 0)) ∧ Ow tOut 43 w1 (fun k => B ≤ k) ov r.outs)
    (hO : Ow tEv 29 w1 (fun k => B ≤ k) v1 r'.sends) (hG : W.grownBy w1 sv.ownBlock) (HS : Ch (fun k => sv.ownBlock = some k) (w.alloc box) w1) (hB : B ≤ w.heap.size) (hsv : ∀ k, sv.ownBlock = some k → B ≤ k) (hgB : B ≤ g) (hx : r'.x = r.x) (hy : r'.y = r.y) (ho : r'.outs = r.outs) :
    OpPost B g c e r o w (.returned (.int .i64 0)) (w1.setCell ⟨g, 10, none⟩ v1) := by
  refine ⟨by rw [hd], ⟨v1, ov, ?_, hgB, ?_, ?_⟩, ?_⟩
  · rw [blk_set hG1.1, hd]
    simp [runCells, hx, hy]
  · rw [hd]; exact hO.setCell hG1.1 (by decide) _
  · rw [hd]; simp only [ho]; exact hG1.2.setCell hG1.1 (by decide) _
  · exact (((Below.refl _ _).alloc hB _).trans (HS.below (fun k hk => hsv k hk) (by simp; omega))).setCell hgB _
theorem op_end7 {w w1 W : World} {g B : Nat} {c : Int} {e : EvD} {r r' : RunD} {sv ov v1 : Value} {o : OpD} {box : Obj} (hd : doOp e c o r = (r', 0)) (hG1 : w1.heap[g]? = some (.cells (runCells c e r sv ov) 87 (0, 0)) ∧ Ow tEv 29 w1 (fun k => B ≤ k) sv r.sends)
    (hO : Ow tOut 43 w1 (fun k => B ≤ k) v1 r'.outs) (hG : W.grownBy w1 ov.ownBlock) (HS : Ch (fun k => ov.ownBlock = some k) (w.alloc box) w1) (hB : B ≤ w.heap.size) (hsv : ∀ k, ov.ownBlock = some k → B ≤ k) (hgB : B ≤ g) (hx : r'.x = r.x) (hy : r'.y = r.y) (ho : r'.sends = r.sends) :
    OpPost B g c e r o w (.returned (.int .i64 0)) (w1.setCell ⟨g, 11, none⟩ v1) := by
  refine ⟨by rw [hd], ⟨sv, v1, ?_, hgB, ?_, ?_⟩, ?_⟩
  · rw [blk_set hG1.1, hd]
    simp [runCells, hx, hy]
  · rw [hd]; simp only [ho]; exact hG1.2.setCell hG1.1 (by decide) _
  · rw [hd]; exact hO.setCell hG1.1 (by decide) _
  · exact (((Below.refl _ _).alloc hB _).trans (HS.below (fun k hk => hsv k hk) (by simp; omega))).setCell hgB _
set_option maxHeartbeats 8000000 in
theorem op6_c (g B : Nat) (c : Int) (e : EvD) (r : RunD) (sv ov : Value) (a b cc ee : Int) (w : World) (h : RunAt w g B c e r sv ov) (hB : B ≤ w.heap.size) (hx : 0 ≤ r.x ∧ r.x ≤ 999) (hy : 0 ≤ r.y ∧ r.y ≤ 999) (he : evOk e = true) (hns : r.sends.length ≤ 1000) (hno : r.outs.length ≤ 1000) (ho : opOk ⟨6, a, b, cc, ee⟩ = true) :
    Calls Try.prog 53 #[.pointer (some ⟨g,0,none⟩), .agg #[.int .i64 6, .int .i64 a, .int .i64 b, .int .i64 cc, .int .i64 ee]] w (OpPost B g c e r ⟨6, a, b, cc, ee⟩ w) := by
  simp [opOk, inn] at ho
  simp [evOk, inn] at he
  obtain ⟨A, cp, rfl, hl⟩ := h.sends.shape
  have hr := h.below (balloc (Below.refl _ _) (.cells #[.int .i64 6, .int .i64 a, .int .i64 b, .int .i64 cc, .int .i64 ee] 90))
  have c2 := blk_cell hr.blk 2
  have c3 := blk_cell hr.blk 3
  have c4 := blk_cell hr.blk 4
  have c10 := blk_cell hr.blk 10
  simp [runCells] at c2 c3 c4 c10
  have f10 := blk_frozen hr.blk 10
  have t1 := he.1.1.1.1.1.1
  have k1 := ho.2.2.1
  clear he ho
  have hne := h.sends.type_ne h.blk (by decide)
  have hg := blk_lt h.blk
  have hne2 : (Value.slice A r.sends.length cp).ownBlock ≠ some w.heap.size := fun h' => by have := h.sends.block_lt h'; omega
  have hg' : g < w.heap.size + 1 := by omega
  by_cases hle : e.time + cc ≤ 40
  · have hd : decide (e.time + cc ≤ 40) = true := decide_eq_true hle
    have e1 : doOp e c ⟨6, a, b, cc, ee⟩ r = ({ r with sends := r.sends ++ [⟨e.time + cc, a, e.to, c, (r.sends.length : Int), b, r.get ee⟩] }, 0) := by simp [doOp, hle]
    have E1 := hid e1; clear e1
    go_enter Try.func53, Try.ntmps53
    go_wp2_with fail
    go_quiet (fail)
    go_wp2_with fail
    have hw : IntKind.i64.wrap (e.time + cc) = e.time + cc := IntWalk.i64_in _ (by omega)
    refine region_plan (fun w' => Ch (fun k => (Value.slice A r.sends.length cp).ownBlock = some k) (w.alloc (.cells #[.int .i64 6, .int .i64 a, .int .i64 b, .int .i64 cc, .int .i64 ee] 90)) w') [(0, true), (1, true), (2, true), (3, true), (4, true), (5, true), (6, true), (7, true), (8, true), (9, true), (10, true), (11, true), (12, true), (13, true), (14, true), (15, true), (16, true), (17, true), (18, true), (19, true), (20, true), (21, true), (22, true), (23, true), (24, true), (25, true), (26, true), (27, true), (28, true), (29, true), (30, true), (31, true), (32, true), (33, true), (34, true), (35, false), (36, true), (37, false), (38, false), (39, true), (40, true), (41, false)] (by kernel_rfl) (by kernel_rfl) (fun _ _ d _ _ h => by cases d <;> exact h) ?_
    have HS := ((Ch.refl (fun k => (Value.slice A r.sends.length cp).ownBlock = some k) (w.alloc (.cells #[.int .i64 6, .int .i64 a, .int .i64 b, .int .i64 cc, .int .i64 ee] 90))).drewN nq).drew
    iterate 35 (refine seq_take (v := ?_) (by rfl) HS (by rfl) ?_ ?_; rotate_left; (focus (intro wS hS; obtain ⟨kc, kf⟩ := hS.cells; go_simp; (try (with_reducible rfl)); done)); (intro K hK; go_simp; refine hK _ ?_; clear hK K))
    refine seq_do (by rfl) (by rfl) (fun K hK => ?_)
    go_simp
    refine (get_c g B c e r _ _ _ _ (hr.below (by repeat (first | exact Below.refl _ _ | refine balloc ?_ _ | refine bdrewN ?_ _ | refine Below.drew ?_)))).mono ?_
    rintro q w1 ⟨rfl, rfl⟩
    refine hK _ _ (Or.inr HS) ?_; clear hK K
    iterate 1 (refine seq_take (v := ?_) (by rfl) HS (by rfl) ?_ ?_; rotate_left; (focus (intro wS hS; obtain ⟨kc, kf⟩ := hS.cells; go_simp; (try (with_reducible rfl)); done)); (intro K hK; go_simp; refine hK _ ?_; clear hK K))
    refine seq_do (by rfl) (by rfl) (fun K hK => ?_)
    go_simp
    refine hK _ _ (Or.inr (HS.alloc _)) ?_; clear hK K
    refine seq_do (by rfl) (by rfl) (fun K hK => ?_)
    refine ow_append_wp (d := tEv) 32 rfl Try.underlying32 _ 56 info_ev rfl (by decide) (by decide) rfl (hr.below (by repeat (first | exact Below.refl _ _ | refine balloc ?_ _ | refine bdrewN ?_ _ | refine Below.drew ?_))).sends ⟨e.time + cc, a, e.to, c, (r.sends.length : Int), b, r.get ee⟩ _ rfl (heap_at (by simp)) (fun _ => False) rfl (fun _ hf => hf.elim) (fun _ hf => hf.elim) (by omega) (fun k => B ≤ k) (fun _ hk => hk) (fun _ hf => hf.elim) (fun k hk => by simp at hk; omega) ?_
    intro v1 w1 hO hG hat
    have HS1 := (HS.alloc _).grown hG (fun k hk => .inl hk)
    have hrG := RunAt.grown_sends (hr.below (by repeat (first | exact Below.refl _ _ | refine balloc ?_ _ | refine bdrewN ?_ _ | refine Below.drew ?_))) hG
    obtain ⟨A1, cp1, rfl, hl1⟩ := hO.shape
    simp only [List.length_append, List.length_singleton] at hO
    have q10 := blk_cell hrG.1 10
    have p10 := blk_frozen hrG.1 10
    simp [runCells] at q10
    refine hK _ _ (Or.inr HS1) ?_; clear hK K HS
    have HS := HS1; clear HS1
    iterate 2 (refine seq_take (v := ?_) (by rfl) HS (by rfl) ?_ ?_; rotate_left; (focus (intro wS hS; obtain ⟨kc, kf⟩ := hS.cells; go_simp; (try (with_reducible rfl)); done)); (intro K hK; go_simp; refine hK _ ?_; clear hK K))
    refine seq_do (by rfl) (by rfl) (fun K hK => ?_)
    go_simp
    refine hK _ _ (Or.inl (by kernel_rfl)) ?_; clear hK K
    simp only [wpSeq]
    go_wp2
    go_ret
    exact op_end6 (sv := (Value.slice A r.sends.length cp)) E1.out hrG hO hG HS hB (fun k hk => h.sends.inF hk) h.ge rfl rfl rfl
  · have hd : decide (e.time + cc ≤ 40) = false := decide_eq_false hle
    have e1 : doOp e c ⟨6, a, b, cc, ee⟩ r = (r, 0) := by simp [doOp, hle]
    go_enter Try.func53, Try.ntmps53
    go_wp2_with fail
    go_quiet (fail)
    go_wp2_with fail
    go_ret
    exact ⟨by rw [e1]; rfl, ⟨_, _, by rw [e1]; exact hr.below (bdrewN (Below.refl _ _) _)⟩, bdrewN ((Below.refl _ _).alloc hB _) _⟩
set_option maxHeartbeats 8000000 in
theorem op7_c (g B : Nat) (c : Int) (e : EvD) (r : RunD) (sv ov : Value) (a b cc ee : Int) (w : World) (h : RunAt w g B c e r sv ov) (hB : B ≤ w.heap.size) (hx : 0 ≤ r.x ∧ r.x ≤ 999) (hy : 0 ≤ r.y ∧ r.y ≤ 999) (he : evOk e = true) (hns : r.sends.length ≤ 1000) (hno : r.outs.length ≤ 1000) (ho : opOk ⟨7, a, b, cc, ee⟩ = true) :
    Calls Try.prog 53 #[.pointer (some ⟨g,0,none⟩), .agg #[.int .i64 7, .int .i64 a, .int .i64 b, .int .i64 cc, .int .i64 ee]] w (OpPost B g c e r ⟨7, a, b, cc, ee⟩ w) := by
  simp [opOk, inn] at ho
  simp [evOk, inn] at he
  obtain ⟨A, cp, rfl, hl⟩ := h.outs.shape
  have hr := h.below (balloc (Below.refl _ _) (.cells #[.int .i64 7, .int .i64 a, .int .i64 b, .int .i64 cc, .int .i64 ee] 90))
  have c2 := blk_cell hr.blk 2
  have c3 := blk_cell hr.blk 3
  have c4 := blk_cell hr.blk 4
  have c11 := blk_cell hr.blk 11
  simp [runCells] at c2 c3 c4 c11
  have f11 := blk_frozen hr.blk 11
  clear he ho
  have hne := h.outs.type_ne h.blk (by decide)
  have hg := blk_lt h.blk
  have hne2 : (Value.slice A r.outs.length cp).ownBlock ≠ some w.heap.size := fun h' => by have := h.outs.block_lt h'; omega
  have hg' : g < w.heap.size + 1 := by omega
  go_enter Try.func53, Try.ntmps53
  go_wp2_with fail
  refine region_plan (fun w' => Ch (fun k => (Value.slice A r.outs.length cp).ownBlock = some k) (w.alloc (.cells #[.int .i64 7, .int .i64 a, .int .i64 b, .int .i64 cc, .int .i64 ee] 90)) w') [(0, true), (1, true), (2, true), (3, true), (4, true), (5, true), (6, true), (7, true), (8, true), (9, true), (10, true), (11, true), (12, true), (13, true), (14, true), (15, true), (16, true), (17, true), (18, true), (19, true), (20, true), (21, true), (22, true), (23, true), (24, true), (25, true), (26, true), (27, true), (28, false), (29, true), (30, false), (31, false), (32, true), (33, true), (34, false)] (by kernel_rfl) (by kernel_rfl) (fun _ _ d _ _ h => by cases d <;> exact h) ?_
  have HS := (Ch.refl (fun k => (Value.slice A r.outs.length cp).ownBlock = some k) (w.alloc (.cells #[.int .i64 7, .int .i64 a, .int .i64 b, .int .i64 cc, .int .i64 ee] 90))).drew
  iterate 28 (refine seq_take (v := ?_) (by rfl) HS (by rfl) ?_ ?_; rotate_left; (focus (intro wS hS; obtain ⟨kc, kf⟩ := hS.cells; go_simp; (try (with_reducible rfl)); done)); (intro K hK; go_simp; refine hK _ ?_; clear hK K))
  refine seq_do (by rfl) (by rfl) (fun K hK => ?_)
  go_simp
  refine (get_c g B c e r _ _ _ _ (hr.below (by repeat (first | exact Below.refl _ _ | refine balloc ?_ _ | refine bdrewN ?_ _ | refine Below.drew ?_)))).mono ?_
  rintro q w1 ⟨rfl, rfl⟩
  refine hK _ _ (Or.inr HS) ?_; clear hK K
  iterate 1 (refine seq_take (v := ?_) (by rfl) HS (by rfl) ?_ ?_; rotate_left; (focus (intro wS hS; obtain ⟨kc, kf⟩ := hS.cells; go_simp; (try (with_reducible rfl)); done)); (intro K hK; go_simp; refine hK _ ?_; clear hK K))
  refine seq_do (by rfl) (by rfl) (fun K hK => ?_)
  go_simp
  refine hK _ _ (Or.inr (HS.alloc _)) ?_; clear hK K
  refine seq_do (by rfl) (by rfl) (fun K hK => ?_)
  refine ow_append_wp (d := tOut) 33 rfl Try.underlying33 _ 40 info_out rfl (by decide) (by decide) rfl (hr.below (by repeat (first | exact Below.refl _ _ | refine balloc ?_ _ | refine bdrewN ?_ _ | refine Below.drew ?_))).outs ⟨e.time, e.to, c, (r.outs.length : Int), r.get a⟩ _ rfl (heap_at (by simp)) (fun _ => False) rfl (fun _ hf => hf.elim) (fun _ hf => hf.elim) (by omega) (fun k => B ≤ k) (fun _ hk => hk) (fun _ hf => hf.elim) (fun k hk => by simp at hk; omega) ?_
  intro v1 w1 hO hG hat
  have HS1 := (HS.alloc _).grown hG (fun k hk => .inl hk)
  have hrG := RunAt.grown_outs (hr.below (by repeat (first | exact Below.refl _ _ | refine balloc ?_ _ | refine bdrewN ?_ _ | refine Below.drew ?_))) hG
  obtain ⟨A1, cp1, rfl, hl1⟩ := hO.shape
  simp only [List.length_append, List.length_singleton] at hO
  have q10 := blk_cell hrG.1 11
  have p10 := blk_frozen hrG.1 11
  simp [runCells] at q10
  refine hK _ _ (Or.inr HS1) ?_; clear hK K HS
  have HS := HS1; clear HS1
  iterate 2 (refine seq_take (v := ?_) (by rfl) HS (by rfl) ?_ ?_; rotate_left; (focus (intro wS hS; obtain ⟨kc, kf⟩ := hS.cells; go_simp; (try (with_reducible rfl)); done)); (intro K hK; go_simp; refine hK _ ?_; clear hK K))
  refine seq_do (by rfl) (by rfl) (fun K hK => ?_)
  go_simp
  refine hK _ _ (Or.inl (by kernel_rfl)) ?_; clear hK K
  simp only [wpSeq]
  go_wp2
  go_ret
  exact op_end7 (ov := (Value.slice A r.outs.length cp)) rfl hrG hO hG HS hB (fun k hk => h.outs.inF hk) h.ge rfl rfl rfl
end Go.Proofs.Ytmnccekljombmaa
