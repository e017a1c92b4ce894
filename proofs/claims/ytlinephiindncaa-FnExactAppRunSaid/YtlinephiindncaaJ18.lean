/- Texts joined: Spc9, Spc10, Do. -/
import Derived.Test.YtlinephiindncaaJ17
import Derived.Test.YtlinephiindncaaJ04
import Derived.Test.YtlinephiindncaaJ16
import Derived.Test.YtlinephiindncaaJ07
namespace Go.Proofs.Ytlinephiindncaa
set_option linter.unusedVariables false
set_option linter.unusedSimpArgs false
set_option maxRecDepth 100000
open Go.RowKit
/-- What a step comes to. -/
def StepPost (apps : List AppD) (s : SimD) (w : World) (q : Ending) (w' : World) : Prop :=
  ∃ us uq uo, q = .returned (.tuple #[.agg #[us, uq, uo], .bool (simStep apps s).2]) ∧ SimOw w' (fun k => w.heap.size ≤ k) us uq uo (simStep apps s).1 ∧ Below w.heap.size w w'
theorem simOk_len {s : SimD} (h : simOk s = true) : s.states.length ≤ 1000 ∧ s.queue.length ≤ 1000 ∧ s.outs.length ≤ 1000 := by
  simp only [simOk, evsOk, outsOk, Bool.and_eq_true, decide_eq_true_eq] at h
  omega
end Go.Proofs.Ytlinephiindncaa

namespace Go.Proofs.Ytlinephiindncaa
set_option linter.unusedVariables false
set_option linter.unusedSimpArgs false
set_option maxRecDepth 100000
open Go.RowKit
def stAgg3 (s : StD) : Value := .agg #[.int .i64 s.x, .int .i64 s.y, .int .i64 s.c]
/-- What the call of AppRun, and what hangs on it, hold. -/
def runN (t : TypeId) (xs : StD) (sends : List EvD) (outs : List OutD) : List HeldD :=
  [(12, [], fun _ v w F => ∃ sv ov, v = .tuple #[stAgg3 xs, sv, ov] ∧ Ow tEv 40 w F sv sends ∧ Ow tOut 77 w F ov outs),
   (17, [], fun _ v w F => ∃ g, v = .pointer (some ⟨g, 0, none⟩) ∧ F g ∧ w.heap[g]? = some (.cells #[.int .i64 0, .int .i64 0, .int .i64 0] t (0, 0))),
   (18, [17], fun ds _ w F => ∃ g, ds = [.pointer (some ⟨g, 0, none⟩)] ∧ F g ∧ w.heap[g]? = some (.cells #[.int .i64 xs.x, .int .i64 xs.y, .int .i64 xs.c] t (0, 0)))]
theorem runN_moves (t : TypeId) (xs : StD) (sends : List EvD) (outs : List OutD) : MovesDL (runN t xs sends outs) :=
  ⟨fun ds v w w' F ⟨sv, ov, h1, h2, h3⟩ hm => ⟨sv, ov, h1, Ow.move hm h2, Ow.move hm h3⟩, fun ds v w w' F ⟨g, h1, h2, h3⟩ hm => ⟨g, h1, h2, (hm g h2).trans h3⟩, fun ds v w w' F ⟨g, h1, h2, h3⟩ hm => ⟨g, h1, h2, (hm g h2).trans h3⟩, trivial⟩
theorem run_call (v : Value) (a : AppD) (s : StD) (e : EvD) (F : Nat → Prop) (w : World) (h : Rd tRule w F v a.rules) {xs : StD} {sends : List EvD} {outs : List OutD} (hr : appRun a s e = (xs, sends, outs)) :
    Calls Try.prog 5 #[.agg #[v], .agg #[.int .i64 s.x, .int .i64 s.y, .int .i64 s.c], .agg #[.int .i64 e.time, .int .i64 e.to, .int .i64 e.from_, .int .i64 e.count, .int .i64 e.n, .int .i64 e.kind, .int .i64 e.arg]] w fun q w' => ∃ sv ov, q = .returned (.tuple #[stAgg3 xs, sv, ov]) ∧ Ow tEv 40 w' (fun k => w.heap.size ≤ k) sv sends ∧ Ow tOut 77 w' (fun k => w.heap.size ≤ k) ov outs ∧ Below w.heap.size w w' := by
  refine (specAppRun_c v a s e F w h).mono ?_
  rintro q w' ⟨sv, ov, h1, h2, h3, h4⟩
  rw [hr] at h1 h2 h3
  exact ⟨sv, ov, h1, h2, h3, h4⟩
def tup3 (X v : Value) : Prop := ∃ b c, v = .tuple #[X, b, c]
def runP (X : Value) : List Known := [(12, [], fun _ v => tup3 X v), (13, [12], fun ds v => ds = [v] ∧ tup3 X v), (14, [13], fun _ v => v = X), (15, [13], fun ds v => ∀ a b c, ds = [.tuple #[a, b, c]] → v = b), (16, [13], fun ds v => ∀ a b c, ds = [.tuple #[a, b, c]] → v = c), (19, [15], fun ds v => ds = [v]), (20, [16], fun ds v => ds = [v])]
theorem simOk_len2 {s : SimD} (h : simOk s = true) : s.states.length ≤ 4 ∧ s.queue.length ≤ 100 ∧ s.outs.length ≤ 96 := by
  simp only [simOk, evsOk, outsOk, Bool.and_eq_true, decide_eq_true_eq] at h
  omega
end Go.Proofs.Ytlinephiindncaa

namespace Go.Proofs.Ytlinephiindncaa
set_option linter.unusedVariables false
set_option linter.unusedSimpArgs false
set_option maxRecDepth 100000
open Go.RowKit
def doCells (c : Int) (e : EvD) (r : RunD) (sv ov : Value) : Array Value :=
  #[.int .i64 r.x, .int .i64 r.y, .int .i64 e.time, .int .i64 e.to, .int .i64 e.from_, .int .i64 e.count, .int .i64 e.n, .int .i64 e.kind, .int .i64 e.arg, .int .i64 c, sv, ov]
structure DoAt (w : World) (g B : Nat) (c : Int) (e : EvD) (r : RunD) (sv ov : Value) : Prop where
  blk : w.heap[g]? = some (.cells (doCells c e r sv ov) 68 (0, 0))
  ge : B ≤ g
  sends : Ow tEv 40 w (fun k => B ≤ k) sv r.sends
  outs : Ow tOut 77 w (fun k => B ≤ k) ov r.outs
theorem DoAt.set {w : World} {g B : Nat} {c : Int} {e : EvD} {r r' : RunD} {sv ov : Value} (h : DoAt w g B c e r sv ov) (i : Nat) (u : Value) (hc : (doCells c e r sv ov).setIfInBounds i u = doCells c e r' sv ov) (hs : r'.sends = r.sends) (ho : r'.outs = r.outs) : DoAt (w.setCell ⟨g, i, none⟩ u) g B c e r' sv ov := by
  refine ⟨by rw [blk_set h.blk, hc], h.ge, ?_, ?_⟩
  · rw [hs]
    exact (h.sends.tight.keep (fun k hk hlt => Below.heap_setCell _ _ _ _ (fun e' => h.sends.type_ne h.blk (by decide) (by have e2 : k = g := e'; subst e2; exact hk)))).mono (fun k hk => h.sends.inF hk)
  · rw [ho]
    exact (h.outs.tight.keep (fun k hk hlt => Below.heap_setCell _ _ _ _ (fun e' => h.outs.type_ne h.blk (by decide) (by have e2 : k = g := e'; subst e2; exact hk)))).mono (fun k hk => h.outs.inF hk)

theorem DoAt.below {w w' : World} {g B : Nat} {c : Int} {e : EvD} {r : RunD} {sv ov : Value} (h : DoAt w g B c e r sv ov) (hb : Below w.heap.size w w') : DoAt w' g B c e r sv ov :=
  ⟨(hb.block g (blk_lt h.blk)).trans h.blk, h.ge, h.sends.below hb, h.outs.below hb⟩
def DoPost (B g : Nat) (c : Int) (e : EvD) (r : RunD) (sv ov : Value) (o : OpD) (w : World) (q : Ending) (w' : World) : Prop :=
  q = .returned (.int .i64 (doOp e c o r).2) ∧ (∃ sv ov, DoAt w' g B c e (doOp e c o r).1 sv ov) ∧ Ch (fun k => k = g ∨ sv.ownBlock = some k ∨ ov.ownBlock = some k) w w'
theorem DoAt.grown_sends {w w1 : World} {g B : Nat} {c : Int} {e : EvD} {r : RunD} {sv ov : Value} (h : DoAt w g B c e r sv ov) (hG : w.grownBy w1 sv.ownBlock) :
    w1.heap[g]? = some (.cells (doCells c e r sv ov) 68 (0, 0)) ∧ Ow tOut 77 w1 (fun k => B ≤ k) ov r.outs :=
  ⟨(hG.block g (blk_lt h.blk) (fun e' => h.sends.type_ne h.blk (by decide) e'.symm)).trans h.blk,
   (h.outs.tight.keep (fun k hk hlt => hG.block k hlt (fun e' => h.outs.apart h.sends (by decide) k hk e'.symm))).mono (fun k hk => h.outs.inF hk)⟩
theorem DoAt.grown_outs {w w1 : World} {g B : Nat} {c : Int} {e : EvD} {r : RunD} {sv ov : Value} (h : DoAt w g B c e r sv ov) (hG : w.grownBy w1 ov.ownBlock) :
    w1.heap[g]? = some (.cells (doCells c e r sv ov) 68 (0, 0)) ∧ Ow tEv 40 w1 (fun k => B ≤ k) sv r.sends :=
  ⟨(hG.block g (blk_lt h.blk) (fun e' => h.outs.type_ne h.blk (by decide) e'.symm)).trans h.blk,
   (h.sends.tight.keep (fun k hk hlt => hG.block k hlt (fun e' => h.sends.apart h.outs (by decide) k hk e'.symm))).mono (fun k hk => h.sends.inF hk)⟩
set_option maxHeartbeats 400000 in
theorem dput_c (g B : Nat) (c : Int) (e : EvD) (r : RunD) (sv ov : Value) (k n : Int) (w : World) (h : DoAt w g B c e r sv ov) (hk : k = 0 ∨ k = 1) (hn : 0 ≤ n) :
    Calls Try.prog 74 #[.pointer (some ⟨g,0,none⟩), .int .i64 k, .int .i64 n] w fun q w' => q = .returned (.tuple #[]) ∧ DoAt w' g B c e (r.put k n) sv ov ∧ Ch (fun k => k = g ∨ sv.ownBlock = some k ∨ ov.ownBlock = some k) w w' := by
  have h0 := blk_cell h.blk 0
  have h1 := blk_cell h.blk 1
  simp [doCells] at h0 h1
  have f0 := blk_frozen h.blk 0
  have f1 := blk_frozen h.blk 1
  rcases hk with rfl | rfl
  · go_enter Try.func74, Try.ntmps74
    go_wp2
    go_end0
    exact ⟨rfl, h.set 0 _ rfl rfl rfl, Ch.setCell (p := ⟨g, 0, none⟩) (Ch.refl _ _) (Or.inl (Or.inl rfl)) _⟩
  · go_enter Try.func74, Try.ntmps74
    go_wp2
    go_end0
    exact ⟨rfl, h.set 1 _ rfl rfl rfl, Ch.setCell (p := ⟨g, 1, none⟩) (Ch.refl _ _) (Or.inl (Or.inl rfl)) _⟩
set_option maxHeartbeats 2000000 in
theorem raise3_c (g B : Nat) (c : Int) (e : EvD) (r : RunD) (sv ov : Value) (a b cc ee : Int) (w : World) (h : DoAt w g B c e r sv ov) (hB : B ≤ w.heap.size) (hr : RunOk r) (he : evOk e = true) (hns : r.sends.length ≤ 1000) (hno : r.outs.length ≤ 1000) (ha : a = 0 ∨ a = 1) (hb0 : 0 ≤ b ∧ b ≤ 999) :
    Calls Try.prog 75 #[.agg #[.int .i64 a, .int .i64 b, .bool false], .pointer (some ⟨g,0,none⟩)] w (DoPost B g c e r sv ov ⟨3, a, b, cc, ee⟩ w) := by
  have hx := And.intro hr.x0 hr.x1
  have hy := And.intro hr.y0 hr.y1
  have hb1 := hb0.1
  have hb2 := hb0.2
  have hR := h.below (balloc (Below.refl _ _) (.cells #[.int .i64 a, .int .i64 b, .bool false] 94))
  have c0 := blk_cell hR.blk 0
  have c1 := blk_cell hR.blk 1
  simp [doCells] at c0 c1
  rcases ha with rfl | rfl
  · go_enter Try.func75, Try.ntmps75
    go_wp2_with fail
    refine region_tail 13 (by kernel_rfl) (by kernel_rfl) ?_
    simp only [List.take_succ_cons, List.take_zero, List.drop_succ_cons, List.drop_zero]
    iterate 13 still_step
    refine wpStill_nil ?_
    go_wp2_with (go_at_call 74; refine (dput_c g B c e r sv ov _ _ _ (hR.below (Below.refl _ _).drew) (by simp) (by omega)).mono ?_; rintro q w1 ⟨rfl, h1, h2⟩)
    go_ret
    exact ⟨rfl, ⟨sv, ov, h1⟩, (((Ch.refl _ _).alloc _).drew).trans h2⟩
  · go_enter Try.func75, Try.ntmps75
    go_wp2_with fail
    refine region_tail 13 (by kernel_rfl) (by kernel_rfl) ?_
    simp only [List.take_succ_cons, List.take_zero, List.drop_succ_cons, List.drop_zero]
    iterate 13 still_step
    refine wpStill_nil ?_
    go_wp2_with (go_at_call 74; refine (dput_c g B c e r sv ov _ _ _ (hR.below (Below.refl _ _).drew) (by simp) (by omega)).mono ?_; rintro q w1 ⟨rfl, h1, h2⟩)
    go_ret
    exact ⟨rfl, ⟨sv, ov, h1⟩, (((Ch.refl _ _).alloc _).drew).trans h2⟩
set_option maxHeartbeats 2000000 in
theorem join_c (g B : Nat) (c : Int) (e : EvD) (r : RunD) (sv ov : Value) (a b cc ee : Int) (w : World) (h : DoAt w g B c e r sv ov) (hB : B ≤ w.heap.size) (hr : RunOk r) (he : evOk e = true) (hns : r.sends.length ≤ 1000) (hno : r.outs.length ≤ 1000) (ha : a = 0 ∨ a = 1) (hb0 : b = 0 ∨ b = 1) :
    Calls Try.prog 76 #[.agg #[.int .i64 a, .int .i64 b], .pointer (some ⟨g,0,none⟩)] w (DoPost B g c e r sv ov ⟨2, a, b, cc, ee⟩ w) := by
  have hx := And.intro hr.x0 hr.x1
  have hy := And.intro hr.y0 hr.y1
  have hR := h.below (balloc (Below.refl _ _) (.cells #[.int .i64 a, .int .i64 b] 96))
  have c0 := blk_cell hR.blk 0
  have c1 := blk_cell hR.blk 1
  simp [doCells] at c0 c1
  rcases ha with rfl | rfl <;> rcases hb0 with rfl | rfl
  · go_enter Try.func76, Try.ntmps76
    go_wp2_with fail
    refine region_tail 18 (by kernel_rfl) (by kernel_rfl) ?_
    simp only [List.take_succ_cons, List.take_zero, List.drop_succ_cons, List.drop_zero]
    iterate 18 still_step
    refine wpStill_nil ?_
    go_wp2_with (go_at_call 74; refine (dput_c g B c e r sv ov _ _ _ (hR.below (Below.refl _ _).drew) (by simp) (by omega)).mono ?_; rintro q w1 ⟨rfl, h1, h2⟩)
    go_ret
    exact ⟨rfl, ⟨sv, ov, h1⟩, (((Ch.refl _ _).alloc _).drew).trans h2⟩
  · go_enter Try.func76, Try.ntmps76
    go_wp2_with fail
    refine region_tail 18 (by kernel_rfl) (by kernel_rfl) ?_
    simp only [List.take_succ_cons, List.take_zero, List.drop_succ_cons, List.drop_zero]
    iterate 18 still_step
    refine wpStill_nil ?_
    go_wp2_with (go_at_call 74; refine (dput_c g B c e r sv ov _ _ _ (hR.below (Below.refl _ _).drew) (by simp) (by omega)).mono ?_; rintro q w1 ⟨rfl, h1, h2⟩)
    go_ret
    exact ⟨rfl, ⟨sv, ov, h1⟩, (((Ch.refl _ _).alloc _).drew).trans h2⟩
  · go_enter Try.func76, Try.ntmps76
    go_wp2_with fail
    refine region_tail 18 (by kernel_rfl) (by kernel_rfl) ?_
    simp only [List.take_succ_cons, List.take_zero, List.drop_succ_cons, List.drop_zero]
    iterate 18 still_step
    refine wpStill_nil ?_
    go_wp2_with (go_at_call 74; refine (dput_c g B c e r sv ov _ _ _ (hR.below (Below.refl _ _).drew) (by simp) (by omega)).mono ?_; rintro q w1 ⟨rfl, h1, h2⟩)
    go_ret
    exact ⟨rfl, ⟨sv, ov, h1⟩, (((Ch.refl _ _).alloc _).drew).trans h2⟩
  · go_enter Try.func76, Try.ntmps76
    go_wp2_with fail
    refine region_tail 18 (by kernel_rfl) (by kernel_rfl) ?_
    simp only [List.take_succ_cons, List.take_zero, List.drop_succ_cons, List.drop_zero]
    iterate 18 still_step
    refine wpStill_nil ?_
    go_wp2_with (go_at_call 74; refine (dput_c g B c e r sv ov _ _ _ (hR.below (Below.refl _ _).drew) (by simp) (by omega)).mono ?_; rintro q w1 ⟨rfl, h1, h2⟩)
    go_ret
    exact ⟨rfl, ⟨sv, ov, h1⟩, (((Ch.refl _ _).alloc _).drew).trans h2⟩
set_option maxHeartbeats 2000000 in
theorem take_c (g B : Nat) (c : Int) (e : EvD) (r : RunD) (sv ov : Value) (a b cc ee : Int) (w : World) (h : DoAt w g B c e r sv ov) (hB : B ≤ w.heap.size) (hr : RunOk r) (he : evOk e = true) (hns : r.sends.length ≤ 1000) (hno : r.outs.length ≤ 1000) (ha : a = 0 ∨ a = 1) :
    Calls Try.prog 77 #[.agg #[.int .i64 a], .pointer (some ⟨g,0,none⟩)] w (DoPost B g c e r sv ov ⟨4, a, b, cc, ee⟩ w) := by
  have hx := And.intro hr.x0 hr.x1
  have hy := And.intro hr.y0 hr.y1
  simp [evOk, inn] at he
  have hg := he.2.1
  clear he
  have hR := h.below (balloc (Below.refl _ _) (.cells #[.int .i64 a] 98))
  have c8 := blk_cell hR.blk 8
  simp [doCells] at c8
  rcases ha with rfl | rfl
  · go_enter Try.func77, Try.ntmps77
    go_wp2_with fail
    refine region_tail 8 (by kernel_rfl) (by kernel_rfl) ?_
    simp only [List.take_succ_cons, List.take_zero, List.drop_succ_cons, List.drop_zero]
    iterate 8 still_step
    refine wpStill_nil ?_
    go_wp2_with (go_at_call 74; refine (dput_c g B c e r sv ov _ _ _ (hR.below (Below.refl _ _).drew) (by simp) (by omega)).mono ?_; rintro q w1 ⟨rfl, h1, h2⟩)
    go_ret
    exact ⟨rfl, ⟨sv, ov, h1⟩, (((Ch.refl _ _).alloc _).drew).trans h2⟩
  · go_enter Try.func77, Try.ntmps77
    go_wp2_with fail
    refine region_tail 8 (by kernel_rfl) (by kernel_rfl) ?_
    simp only [List.take_succ_cons, List.take_zero, List.drop_succ_cons, List.drop_zero]
    iterate 8 still_step
    refine wpStill_nil ?_
    go_wp2_with (go_at_call 74; refine (dput_c g B c e r sv ov _ _ _ (hR.below (Below.refl _ _).drew) (by simp) (by omega)).mono ?_; rintro q w1 ⟨rfl, h1, h2⟩)
    go_ret
    exact ⟨rfl, ⟨sv, ov, h1⟩, (((Ch.refl _ _).alloc _).drew).trans h2⟩
set_option maxHeartbeats 2000000 in
theorem leap_c (g B : Nat) (c : Int) (e : EvD) (r : RunD) (sv ov : Value) (a b cc ee : Int) (w : World) (h : DoAt w g B c e r sv ov) (hB : B ≤ w.heap.size) (hr : RunOk r) (he : evOk e = true) (hns : r.sends.length ≤ 1000) (hno : r.outs.length ≤ 1000) (ha : a = 0 ∨ a = 1) :
    Calls Try.prog 78 #[.agg #[.int .i64 a, .int .i64 b, .int .i64 cc], .pointer (some ⟨g,0,none⟩)] w (DoPost B g c e r sv ov ⟨5, a, b, cc, ee⟩ w) := by
  have hx := And.intro hr.x0 hr.x1
  have hy := And.intro hr.y0 hr.y1
  have hR := h.below (balloc (Below.refl _ _) (.cells #[.int .i64 a, .int .i64 b, .int .i64 cc] 100))
  have c0 := blk_cell hR.blk 0
  have c1 := blk_cell hR.blk 1
  simp [doCells] at c0 c1
  rcases ha with rfl | rfl
  · by_cases hlt : r.get 0 < b
    · have e1 : doOp e c ⟨5, 0, b, cc, ee⟩ r = (r, cc) := by simp [doOp, hlt]
      have hd : decide (r.x < b) = true := decide_eq_true hlt
      have E1 := hid e1; clear e1 hlt
      go_enter Try.func78, Try.ntmps78
      go_wp2_with fail
      go_quiet (fail)
      go_wp2
      go_ret
      exact ⟨by rw [E1.out]; rfl, ⟨sv, ov, by rw [E1.out]; exact hR.below (bdrewN (Below.refl _ _) _)⟩, ((Ch.refl _ _).alloc _).drewN _⟩
    · have e1 : doOp e c ⟨5, 0, b, cc, ee⟩ r = (r, 0) := by simp [doOp, hlt]
      have hd : decide (r.x < b) = false := decide_eq_false hlt
      have E1 := hid e1; clear e1 hlt
      go_enter Try.func78, Try.ntmps78
      go_wp2_with fail
      go_quiet (fail)
      go_wp2
      go_ret
      exact ⟨by rw [E1.out]; rfl, ⟨sv, ov, by rw [E1.out]; exact hR.below (bdrewN (Below.refl _ _) _)⟩, ((Ch.refl _ _).alloc _).drewN _⟩
  · by_cases hlt : r.get 1 < b
    · have e1 : doOp e c ⟨5, 1, b, cc, ee⟩ r = (r, cc) := by simp [doOp, hlt]
      have hd : decide (r.y < b) = true := decide_eq_true hlt
      have E1 := hid e1; clear e1 hlt
      go_enter Try.func78, Try.ntmps78
      go_wp2_with fail
      go_quiet (fail)
      go_wp2
      go_ret
      exact ⟨by rw [E1.out]; rfl, ⟨sv, ov, by rw [E1.out]; exact hR.below (bdrewN (Below.refl _ _) _)⟩, ((Ch.refl _ _).alloc _).drewN _⟩
    · have e1 : doOp e c ⟨5, 1, b, cc, ee⟩ r = (r, 0) := by simp [doOp, hlt]
      have hd : decide (r.y < b) = false := decide_eq_false hlt
      have E1 := hid e1; clear e1 hlt
      go_enter Try.func78, Try.ntmps78
      go_wp2_with fail
      go_quiet (fail)
      go_wp2
      go_ret
      exact ⟨by rw [E1.out]; rfl, ⟨sv, ov, by rw [E1.out]; exact hR.below (bdrewN (Below.refl _ _) _)⟩, ((Ch.refl _ _).alloc _).drewN _⟩
end Go.Proofs.Ytlinephiindncaa
