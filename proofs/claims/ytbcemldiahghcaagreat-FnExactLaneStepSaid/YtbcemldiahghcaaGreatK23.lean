/- Texts joined: Do2, Act, Upd. -/
import Derived.Test.YtbcemldiahghcaaGreatK22
import Derived.RegionTactic
import Derived.Test.YtbcemldiahghcaaGreatK08
namespace Go.Proofs.YtbcemldiahghcaaGreat
set_option linter.unusedVariables false
set_option linter.unusedSimpArgs false
set_option maxRecDepth 100000
open Go.RowKit
theorem do_end6 {w w1 W : World} {g B : Nat} {c : Int} {e : EvD} {r r' : RunD} {sv ov v1 : Value} {o : OpD} {box : Obj} (hd : doOp e c o r = (r', 0)) (hG1 : w1.heap[g]? = some (.cells (doCells c e r sv ov) 169 (0, 0)) ∧ Ow tOut 128 w1 (fun k => B ≤ k) ov r.outs)
    (hO : Ow tEv 80 w1 (fun k => B ≤ k) v1 r'.sends) (hG : W.grownBy w1 sv.ownBlock) (HS : Ch (fun k => sv.ownBlock = some k) (w.alloc box) w1) (hB : B ≤ w.heap.size) (hsv : ∀ k, sv.ownBlock = some k → B ≤ k) (hgB : B ≤ g) (hx : r'.x = r.x) (hy : r'.y = r.y) (ho : r'.outs = r.outs) :
    DoPost B g c e r sv ov o w (.returned (.int .i64 0)) (w1.setCell ⟨g, 10, none⟩ v1) := by
  refine ⟨by rw [hd], ⟨v1, ov, ?_, hgB, ?_, ?_⟩, ?_⟩
  · rw [blk_set hG1.1, hd]
    simp [doCells, hx, hy]
  · rw [hd]; exact hO.setCell hG1.1 (by decide) _
  · rw [hd]; simp only [ho]; exact hG1.2.setCell hG1.1 (by decide) _
  · exact Ch.setCell (S := fun k => k = g ∨ sv.ownBlock = some k ∨ ov.ownBlock = some k) (p := ⟨g, 10, none⟩) (((Ch.refl _ _).alloc _).trans (HS.mono (fun k hk => Or.inr (Or.inl hk)))) (Or.inl (Or.inl rfl)) _
theorem do_end7 {w w1 W : World} {g B : Nat} {c : Int} {e : EvD} {r r' : RunD} {sv ov v1 : Value} {o : OpD} {box : Obj} (hd : doOp e c o r = (r', 0)) (hG1 : w1.heap[g]? = some (.cells (doCells c e r sv ov) 169 (0, 0)) ∧ Ow tEv 80 w1 (fun k => B ≤ k) sv r.sends)
    (hO : Ow tOut 128 w1 (fun k => B ≤ k) v1 r'.outs) (hG : W.grownBy w1 ov.ownBlock) (HS : Ch (fun k => ov.ownBlock = some k) (w.alloc box) w1) (hB : B ≤ w.heap.size) (hsv : ∀ k, ov.ownBlock = some k → B ≤ k) (hgB : B ≤ g) (hx : r'.x = r.x) (hy : r'.y = r.y) (ho : r'.sends = r.sends) :
    DoPost B g c e r sv ov o w (.returned (.int .i64 0)) (w1.setCell ⟨g, 11, none⟩ v1) := by
  refine ⟨by rw [hd], ⟨sv, v1, ?_, hgB, ?_, ?_⟩, ?_⟩
  · rw [blk_set hG1.1, hd]
    simp [doCells, hx, hy]
  · rw [hd]; simp only [ho]; exact hG1.2.setCell hG1.1 (by decide) _
  · rw [hd]; exact hO.setCell hG1.1 (by decide) _
  · exact Ch.setCell (S := fun k => k = g ∨ sv.ownBlock = some k ∨ ov.ownBlock = some k) (p := ⟨g, 11, none⟩) (((Ch.refl _ _).alloc _).trans (HS.mono (fun k hk => Or.inr (Or.inr hk)))) (Or.inl (Or.inl rfl)) _
theorem put_zero (r : RunD) (a b : Int) : (r.put a 0).put a b = r.put a b := by unfold RunD.put; split <;> rfl
set_option maxHeartbeats 2000000 in
theorem raise1_c (g B : Nat) (c : Int) (e : EvD) (r : RunD) (sv ov : Value) (a b cc ee : Int) (w : World) (h : DoAt w g B c e r sv ov) (hB : B ≤ w.heap.size) (hr : RunOk r) (he : evOk e = true) (hns : r.sends.length ≤ 1000) (hno : r.outs.length ≤ 1000) (ha : a = 0 ∨ a = 1) (hb0 : 0 ≤ b ∧ b ≤ 999) :
    Calls Tryz.prog 178 #[.agg #[.int .i64 a, .int .i64 b, .bool true], .pointer (some ⟨g,0,none⟩)] w (DoPost B g c e r sv ov ⟨1, a, b, cc, ee⟩ w) := by
  have hx := And.intro hr.x0 hr.x1
  have hy := And.intro hr.y0 hr.y1
  have hb1 := hb0.1
  have hb2 := hb0.2
  have hR := h.below (balloc (Below.refl _ _) (.cells #[.int .i64 a, .int .i64 b, .bool true] 208))
  have c0 := blk_cell hR.blk 0
  have c1 := blk_cell hR.blk 1
  simp [doCells] at c0 c1
  rcases ha with rfl | rfl
  · have f0 := blk_frozen hR.blk 0
    have hgl := blk_lt h.blk
    have hgn : ¬ g = w.heap.size := by omega
    have hgn' : ¬ w.heap.size = g := by omega
    go_enter Tryz.func178, Tryz.ntmps178
    go_wp2_with fail
    refine region_tail 5 (by kernel_rfl) (by kernel_rfl) ?_
    simp only [List.take_succ_cons, List.take_zero, List.drop_succ_cons, List.drop_zero]
    iterate 5 still_step
    refine wpStill_nil ?_
    have hR1 := DoAt.set (r' := r.put 0 0) h 0 (.int .i64 0) rfl rfl rfl
    have d0 := blk_cell hR1.blk 0
    have d1 := blk_cell hR1.blk 1
    simp [doCells, RunD.put] at d0 d1
    have k0 : (w.setCell ⟨g, 0, none⟩ (.int .i64 0)).cell? ⟨g, 0, none⟩ = some (.int .i64 0) := blk_cell (blk_set h.blk 0 (.int .i64 0)) 0
    go_wp2_with fail
    refine region_tail 13 (by kernel_rfl) (by kernel_rfl) ?_
    simp only [List.take_succ_cons, List.take_zero, List.drop_succ_cons, List.drop_zero]
    iterate 13 still_step
    refine wpStill_nil ?_
    go_wp2_with (go_at_call 177; refine (dput_c g B c e _ sv ov _ _ _ (hR1.below (by repeat (first | exact Below.refl _ _ | refine balloc ?_ _ | refine Below.drew ?_))) (by simp) (by omega)).mono ?_; rintro q w1 ⟨rfl, h1, h2⟩)
    go_ret
    exact ⟨rfl, ⟨sv, ov, by rw [put_zero] at h1; exact h1⟩, (by refine Ch.trans ?_ h2; repeat (first | (with_reducible exact Ch.refl _ _) | (with_reducible refine Ch.drew ?_) | (with_reducible refine Ch.alloc ?_ _) | (with_reducible refine Ch.setCell ?_ (Or.inl (Or.inl rfl)) _)))⟩
  · have f1 := blk_frozen hR.blk 1
    have hgl := blk_lt h.blk
    have hgn : ¬ g = w.heap.size := by omega
    have hgn' : ¬ w.heap.size = g := by omega
    go_enter Tryz.func178, Tryz.ntmps178
    go_wp2_with fail
    refine region_tail 5 (by kernel_rfl) (by kernel_rfl) ?_
    simp only [List.take_succ_cons, List.take_zero, List.drop_succ_cons, List.drop_zero]
    iterate 5 still_step
    refine wpStill_nil ?_
    have hR1 := DoAt.set (r' := r.put 1 0) h 1 (.int .i64 0) rfl rfl rfl
    have d0 := blk_cell hR1.blk 0
    have d1 := blk_cell hR1.blk 1
    simp [doCells, RunD.put] at d0 d1
    have k0 : (w.setCell ⟨g, 1, none⟩ (.int .i64 0)).cell? ⟨g, 1, none⟩ = some (.int .i64 0) := blk_cell (blk_set h.blk 1 (.int .i64 0)) 1
    go_wp2_with fail
    refine region_tail 13 (by kernel_rfl) (by kernel_rfl) ?_
    simp only [List.take_succ_cons, List.take_zero, List.drop_succ_cons, List.drop_zero]
    iterate 13 still_step
    refine wpStill_nil ?_
    go_wp2_with (go_at_call 177; refine (dput_c g B c e _ sv ov _ _ _ (hR1.below (by repeat (first | exact Below.refl _ _ | refine balloc ?_ _ | refine Below.drew ?_))) (by simp) (by omega)).mono ?_; rintro q w1 ⟨rfl, h1, h2⟩)
    go_ret
    exact ⟨rfl, ⟨sv, ov, by rw [put_zero] at h1; exact h1⟩, (by refine Ch.trans ?_ h2; repeat (first | (with_reducible exact Ch.refl _ _) | (with_reducible refine Ch.drew ?_) | (with_reducible refine Ch.alloc ?_ _) | (with_reducible refine Ch.setCell ?_ (Or.inl (Or.inl rfl)) _)))⟩
set_option maxHeartbeats 2000000 in
theorem send_c (g B : Nat) (c : Int) (e : EvD) (r : RunD) (sv ov : Value) (a b cc ee : Int) (w : World) (h : DoAt w g B c e r sv ov) (hB : B ≤ w.heap.size) (hr : RunOk r) (he : evOk e = true) (hns : r.sends.length ≤ 1000) (hno : r.outs.length ≤ 1000) (hcc : 1 ≤ cc ∧ cc ≤ 40) (hee : ee = 0 ∨ ee = 1) :
    Calls Tryz.prog 182 #[.agg #[.int .i64 a, .int .i64 b, .int .i64 cc, .int .i64 ee], .pointer (some ⟨g,0,none⟩)] w (DoPost B g c e r sv ov ⟨6, a, b, cc, ee⟩ w) := by
  have hx := And.intro hr.x0 hr.x1
  have hy := And.intro hr.y0 hr.y1
  simp [evOk, inn] at he
  have t1 := he.1.1.1.1.1.1
  clear he
  obtain ⟨A, cp, rfl, hl⟩ := h.sends.shape
  have hR := h.below (balloc (Below.refl _ _) (.cells #[.int .i64 a, .int .i64 b, .int .i64 cc, .int .i64 ee] 216))
  have c0 := blk_cell hR.blk 0
  have c1 := blk_cell hR.blk 1
  have c2 := blk_cell hR.blk 2
  have c3 := blk_cell hR.blk 3
  have c9 := blk_cell hR.blk 9
  have c10 := blk_cell hR.blk 10
  simp [doCells] at c0 c1 c2 c3 c9 c10
  have f10 := blk_frozen hR.blk 10
  have k1 := hcc
  have hne := h.sends.type_ne h.blk (by decide)
  have hg := blk_lt h.blk
  have hne2 : (Value.slice A r.sends.length cp).ownBlock ≠ some w.heap.size := fun h' => by have := h.sends.block_lt h'; omega
  have hg' : g < w.heap.size + 1 := by omega
  rcases hee with rfl | rfl
  · by_cases hle : e.time + cc ≤ 40
    · have hd : decide (e.time + cc ≤ 40) = true := decide_eq_true hle
      have e1 : doOp e c ⟨6, a, b, cc, 0⟩ r = ({ r with sends := r.sends ++ [⟨e.time + cc, a, e.to, c, (r.sends.length : Int), b, r.get 0⟩] }, 0) := by simp [doOp, hle]
      have E1 := hid e1; clear e1
      go_enter Tryz.func182, Tryz.ntmps182
      go_wp2_with fail
      go_quiet (fail)
      go_wp2_with fail
      have hw : IntKind.i64.wrap (e.time + cc) = e.time + cc := IntWalk.i64_in _ (by omega)
      refine region_plan (fun w' => Ch (fun k => (Value.slice A r.sends.length cp).ownBlock = some k) (w.alloc (.cells #[.int .i64 a, .int .i64 b, .int .i64 cc, .int .i64 0] 216)) w') [(0, true), (1, true), (2, true), (3, true), (4, true), (5, true), (6, true), (7, true), (8, true), (9, true), (10, true), (11, true), (12, true), (13, true), (14, true), (15, true), (16, true), (17, true), (18, true), (19, true), (20, true), (21, true), (22, true), (23, true), (24, true), (25, true), (26, true), (27, true), (28, true), (29, true), (30, true), (31, true), (32, false), (33, false), (34, true), (35, true), (36, false)] (by kernel_rfl) (by kernel_rfl) (fun _ _ d _ _ h => by cases d <;> exact h) ?_
      have HS := ((Ch.refl (fun k => (Value.slice A r.sends.length cp).ownBlock = some k) (w.alloc (.cells #[.int .i64 a, .int .i64 b, .int .i64 cc, .int .i64 0] 216))).drewN nq).drew
      iterate 32 (refine seq_take (v := ?_) (by rfl) HS (by rfl) ?_ ?_; rotate_left; (focus (intro wS hS; obtain ⟨kc, kf⟩ := hS.cells; go_simp; (try (with_reducible rfl)); done)); (intro K hK; go_simp; refine hK _ ?_; clear hK K))
      refine seq_do (by rfl) (by rfl) (fun K hK => ?_)
      go_simp
      refine hK _ _ (Or.inr (HS.alloc _)) ?_; clear hK K
      refine seq_do (by rfl) (by rfl) (fun K hK => ?_)
      refine ow_append_wp (d := tEv) 25 rfl Tryz.underlying25 _ 56 info_ev rfl (by decide) (by decide) rfl (hR.below (by repeat (first | exact Below.refl _ _ | refine balloc ?_ _ | refine bdrewN ?_ _ | refine Below.drew ?_))).sends ⟨e.time + cc, a, e.to, c, (r.sends.length : Int), b, r.get 0⟩ _ rfl (heap_at (by simp)) (fun _ => False) rfl (fun _ hf => hf.elim) (fun _ hf => hf.elim) (by omega) (fun k => B ≤ k) (fun _ hk => hk) (fun _ hf => hf.elim) (fun k hk => by simp at hk; omega) ?_
      intro v1 w1 hO hG hat
      have HS1 := (HS.alloc _).grown hG (fun k hk => .inl hk)
      have hrG := DoAt.grown_sends (hR.below (by repeat (first | exact Below.refl _ _ | refine balloc ?_ _ | refine bdrewN ?_ _ | refine Below.drew ?_))) hG
      obtain ⟨A1, cp1, rfl, hl1⟩ := hO.shape
      simp only [List.length_append, List.length_singleton] at hO
      have q10 := blk_cell hrG.1 10
      have p10 := blk_frozen hrG.1 10
      simp [doCells] at q10
      refine hK _ _ (Or.inr HS1) ?_; clear hK K HS
      have HS := HS1; clear HS1
      iterate 2 (refine seq_take (v := ?_) (by rfl) HS (by rfl) ?_ ?_; rotate_left; (focus (intro wS hS; obtain ⟨kc, kf⟩ := hS.cells; go_simp; (try (with_reducible rfl)); done)); (intro K hK; go_simp; refine hK _ ?_; clear hK K))
      refine seq_do (by rfl) (by rfl) (fun K hK => ?_)
      go_simp
      refine hK _ _ (Or.inl (by kernel_rfl)) ?_; clear hK K
      simp only [wpSeq]
      go_wp2
      go_ret
      exact do_end6 (sv := (Value.slice A r.sends.length cp)) E1.out hrG hO hG HS hB (fun k hk => h.sends.inF hk) h.ge rfl rfl rfl
    · have hd : decide (e.time + cc ≤ 40) = false := decide_eq_false hle
      have e1 : doOp e c ⟨6, a, b, cc, 0⟩ r = (r, 0) := by simp [doOp, hle]
      have E1 := hid e1; clear e1
      go_enter Tryz.func182, Tryz.ntmps182
      go_wp2_with fail
      go_quiet (fail)
      go_wp2_with fail
      go_ret
      exact ⟨by rw [E1.out]; rfl, ⟨_, _, by rw [E1.out]; exact hR.below (bdrewN (Below.refl _ _) _)⟩, ((Ch.refl _ _).alloc _).drewN _⟩
  · by_cases hle : e.time + cc ≤ 40
    · have hd : decide (e.time + cc ≤ 40) = true := decide_eq_true hle
      have e1 : doOp e c ⟨6, a, b, cc, 1⟩ r = ({ r with sends := r.sends ++ [⟨e.time + cc, a, e.to, c, (r.sends.length : Int), b, r.get 1⟩] }, 0) := by simp [doOp, hle]
      have E1 := hid e1; clear e1
      go_enter Tryz.func182, Tryz.ntmps182
      go_wp2_with fail
      go_quiet (fail)
      go_wp2_with fail
      have hw : IntKind.i64.wrap (e.time + cc) = e.time + cc := IntWalk.i64_in _ (by omega)
      refine region_plan (fun w' => Ch (fun k => (Value.slice A r.sends.length cp).ownBlock = some k) (w.alloc (.cells #[.int .i64 a, .int .i64 b, .int .i64 cc, .int .i64 1] 216)) w') [(0, true), (1, true), (2, true), (3, true), (4, true), (5, true), (6, true), (7, true), (8, true), (9, true), (10, true), (11, true), (12, true), (13, true), (14, true), (15, true), (16, true), (17, true), (18, true), (19, true), (20, true), (21, true), (22, true), (23, true), (24, true), (25, true), (26, true), (27, true), (28, true), (29, true), (30, true), (31, true), (32, false), (33, false), (34, true), (35, true), (36, false)] (by kernel_rfl) (by kernel_rfl) (fun _ _ d _ _ h => by cases d <;> exact h) ?_
      have HS := ((Ch.refl (fun k => (Value.slice A r.sends.length cp).ownBlock = some k) (w.alloc (.cells #[.int .i64 a, .int .i64 b, .int .i64 cc, .int .i64 1] 216))).drewN nq).drew
      iterate 32 (refine seq_take (v := ?_) (by rfl) HS (by rfl) ?_ ?_; rotate_left; (focus (intro wS hS; obtain ⟨kc, kf⟩ := hS.cells; go_simp; (try (with_reducible rfl)); done)); (intro K hK; go_simp; refine hK _ ?_; clear hK K))
      refine seq_do (by rfl) (by rfl) (fun K hK => ?_)
      go_simp
      refine hK _ _ (Or.inr (HS.alloc _)) ?_; clear hK K
      refine seq_do (by rfl) (by rfl) (fun K hK => ?_)
      refine ow_append_wp (d := tEv) 25 rfl Tryz.underlying25 _ 56 info_ev rfl (by decide) (by decide) rfl (hR.below (by repeat (first | exact Below.refl _ _ | refine balloc ?_ _ | refine bdrewN ?_ _ | refine Below.drew ?_))).sends ⟨e.time + cc, a, e.to, c, (r.sends.length : Int), b, r.get 1⟩ _ rfl (heap_at (by simp)) (fun _ => False) rfl (fun _ hf => hf.elim) (fun _ hf => hf.elim) (by omega) (fun k => B ≤ k) (fun _ hk => hk) (fun _ hf => hf.elim) (fun k hk => by simp at hk; omega) ?_
      intro v1 w1 hO hG hat
      have HS1 := (HS.alloc _).grown hG (fun k hk => .inl hk)
      have hrG := DoAt.grown_sends (hR.below (by repeat (first | exact Below.refl _ _ | refine balloc ?_ _ | refine bdrewN ?_ _ | refine Below.drew ?_))) hG
      obtain ⟨A1, cp1, rfl, hl1⟩ := hO.shape
      simp only [List.length_append, List.length_singleton] at hO
      have q10 := blk_cell hrG.1 10
      have p10 := blk_frozen hrG.1 10
      simp [doCells] at q10
      refine hK _ _ (Or.inr HS1) ?_; clear hK K HS
      have HS := HS1; clear HS1
      iterate 2 (refine seq_take (v := ?_) (by rfl) HS (by rfl) ?_ ?_; rotate_left; (focus (intro wS hS; obtain ⟨kc, kf⟩ := hS.cells; go_simp; (try (with_reducible rfl)); done)); (intro K hK; go_simp; refine hK _ ?_; clear hK K))
      refine seq_do (by rfl) (by rfl) (fun K hK => ?_)
      go_simp
      refine hK _ _ (Or.inl (by kernel_rfl)) ?_; clear hK K
      simp only [wpSeq]
      go_wp2
      go_ret
      exact do_end6 (sv := (Value.slice A r.sends.length cp)) E1.out hrG hO hG HS hB (fun k hk => h.sends.inF hk) h.ge rfl rfl rfl
    · have hd : decide (e.time + cc ≤ 40) = false := decide_eq_false hle
      have e1 : doOp e c ⟨6, a, b, cc, 1⟩ r = (r, 0) := by simp [doOp, hle]
      have E1 := hid e1; clear e1
      go_enter Tryz.func182, Tryz.ntmps182
      go_wp2_with fail
      go_quiet (fail)
      go_wp2_with fail
      go_ret
      exact ⟨by rw [E1.out]; rfl, ⟨_, _, by rw [E1.out]; exact hR.below (bdrewN (Below.refl _ _) _)⟩, ((Ch.refl _ _).alloc _).drewN _⟩
set_option maxHeartbeats 2000000 in
theorem let_c (g B : Nat) (c : Int) (e : EvD) (r : RunD) (sv ov : Value) (a b cc ee : Int) (w : World) (h : DoAt w g B c e r sv ov) (hB : B ≤ w.heap.size) (hr : RunOk r) (he : evOk e = true) (hns : r.sends.length ≤ 1000) (hno : r.outs.length ≤ 1000) (ha : a = 0 ∨ a = 1) :
    Calls Tryz.prog 183 #[.agg #[.int .i64 a], .pointer (some ⟨g,0,none⟩)] w (DoPost B g c e r sv ov ⟨7, a, b, cc, ee⟩ w) := by
  have hx := And.intro hr.x0 hr.x1
  have hy := And.intro hr.y0 hr.y1
  obtain ⟨A, cp, rfl, hl⟩ := h.outs.shape
  have hR := h.below (balloc (Below.refl _ _) (.cells #[.int .i64 a] 217))
  have c0 := blk_cell hR.blk 0
  have c1 := blk_cell hR.blk 1
  have c2 := blk_cell hR.blk 2
  have c3 := blk_cell hR.blk 3
  have c9 := blk_cell hR.blk 9
  have c11 := blk_cell hR.blk 11
  simp [doCells] at c0 c1 c2 c3 c9 c11
  have f11 := blk_frozen hR.blk 11
  have hne := h.outs.type_ne h.blk (by decide)
  have hg := blk_lt h.blk
  have hne2 : (Value.slice A r.outs.length cp).ownBlock ≠ some w.heap.size := fun h' => by have := h.outs.block_lt h'; omega
  have hg' : g < w.heap.size + 1 := by omega
  rcases ha with rfl | rfl
  · go_enter Tryz.func183, Tryz.ntmps183
    go_wp2_with fail
    refine region_plan (fun w' => Ch (fun k => (Value.slice A r.outs.length cp).ownBlock = some k) (w.alloc (.cells #[.int .i64 0] 217)) w') [(0, true), (1, true), (2, true), (3, true), (4, true), (5, true), (6, true), (7, true), (8, true), (9, true), (10, true), (11, true), (12, true), (13, true), (14, true), (15, true), (16, true), (17, true), (18, true), (19, true), (20, true), (21, true), (22, true), (23, true), (24, true), (25, true), (26, true), (27, true), (28, true), (29, true), (30, true), (31, true), (32, false), (33, false), (34, true), (35, true), (36, false)] (by kernel_rfl) (by kernel_rfl) (fun _ _ d _ _ h => by cases d <;> exact h) ?_
    have HS := (Ch.refl (fun k => (Value.slice A r.outs.length cp).ownBlock = some k) (w.alloc (.cells #[.int .i64 0] 217))).drew
    iterate 32 (refine seq_take (v := ?_) (by rfl) HS (by rfl) ?_ ?_; rotate_left; (focus (intro wS hS; obtain ⟨kc, kf⟩ := hS.cells; go_simp; (try (with_reducible rfl)); done)); (intro K hK; go_simp; refine hK _ ?_; clear hK K))
    refine seq_do (by rfl) (by rfl) (fun K hK => ?_)
    go_simp
    refine hK _ _ (Or.inr (HS.alloc _)) ?_; clear hK K
    refine seq_do (by rfl) (by rfl) (fun K hK => ?_)
    refine ow_append_wp (d := tOut) 26 rfl Tryz.underlying26 _ 40 info_out rfl (by decide) (by decide) rfl (hR.below (by repeat (first | exact Below.refl _ _ | refine balloc ?_ _ | refine bdrewN ?_ _ | refine Below.drew ?_))).outs ⟨e.time, e.to, c, (r.outs.length : Int), r.get 0⟩ _ rfl (heap_at (by simp)) (fun _ => False) rfl (fun _ hf => hf.elim) (fun _ hf => hf.elim) (by omega) (fun k => B ≤ k) (fun _ hk => hk) (fun _ hf => hf.elim) (fun k hk => by simp at hk; omega) ?_
    intro v1 w1 hO hG hat
    have HS1 := (HS.alloc _).grown hG (fun k hk => .inl hk)
    have hrG := DoAt.grown_outs (hR.below (by repeat (first | exact Below.refl _ _ | refine balloc ?_ _ | refine bdrewN ?_ _ | refine Below.drew ?_))) hG
    obtain ⟨A1, cp1, rfl, hl1⟩ := hO.shape
    simp only [List.length_append, List.length_singleton] at hO
    have q10 := blk_cell hrG.1 11
    have p10 := blk_frozen hrG.1 11
    simp [doCells] at q10
    refine hK _ _ (Or.inr HS1) ?_; clear hK K HS
    have HS := HS1; clear HS1
    iterate 2 (refine seq_take (v := ?_) (by rfl) HS (by rfl) ?_ ?_; rotate_left; (focus (intro wS hS; obtain ⟨kc, kf⟩ := hS.cells; go_simp; (try (with_reducible rfl)); done)); (intro K hK; go_simp; refine hK _ ?_; clear hK K))
    refine seq_do (by rfl) (by rfl) (fun K hK => ?_)
    go_simp
    refine hK _ _ (Or.inl (by kernel_rfl)) ?_; clear hK K
    simp only [wpSeq]
    go_wp2
    go_ret
    exact do_end7 (ov := (Value.slice A r.outs.length cp)) rfl hrG hO hG HS hB (fun k hk => h.outs.inF hk) h.ge rfl rfl rfl
  · go_enter Tryz.func183, Tryz.ntmps183
    go_wp2_with fail
    refine region_plan (fun w' => Ch (fun k => (Value.slice A r.outs.length cp).ownBlock = some k) (w.alloc (.cells #[.int .i64 1] 217)) w') [(0, true), (1, true), (2, true), (3, true), (4, true), (5, true), (6, true), (7, true), (8, true), (9, true), (10, true), (11, true), (12, true), (13, true), (14, true), (15, true), (16, true), (17, true), (18, true), (19, true), (20, true), (21, true), (22, true), (23, true), (24, true), (25, true), (26, true), (27, true), (28, true), (29, true), (30, true), (31, true), (32, false), (33, false), (34, true), (35, true), (36, false)] (by kernel_rfl) (by kernel_rfl) (fun _ _ d _ _ h => by cases d <;> exact h) ?_
    have HS := (Ch.refl (fun k => (Value.slice A r.outs.length cp).ownBlock = some k) (w.alloc (.cells #[.int .i64 1] 217))).drew
    iterate 32 (refine seq_take (v := ?_) (by rfl) HS (by rfl) ?_ ?_; rotate_left; (focus (intro wS hS; obtain ⟨kc, kf⟩ := hS.cells; go_simp; (try (with_reducible rfl)); done)); (intro K hK; go_simp; refine hK _ ?_; clear hK K))
    refine seq_do (by rfl) (by rfl) (fun K hK => ?_)
    go_simp
    refine hK _ _ (Or.inr (HS.alloc _)) ?_; clear hK K
    refine seq_do (by rfl) (by rfl) (fun K hK => ?_)
    refine ow_append_wp (d := tOut) 26 rfl Tryz.underlying26 _ 40 info_out rfl (by decide) (by decide) rfl (hR.below (by repeat (first | exact Below.refl _ _ | refine balloc ?_ _ | refine bdrewN ?_ _ | refine Below.drew ?_))).outs ⟨e.time, e.to, c, (r.outs.length : Int), r.get 1⟩ _ rfl (heap_at (by simp)) (fun _ => False) rfl (fun _ hf => hf.elim) (fun _ hf => hf.elim) (by omega) (fun k => B ≤ k) (fun _ hk => hk) (fun _ hf => hf.elim) (fun k hk => by simp at hk; omega) ?_
    intro v1 w1 hO hG hat
    have HS1 := (HS.alloc _).grown hG (fun k hk => .inl hk)
    have hrG := DoAt.grown_outs (hR.below (by repeat (first | exact Below.refl _ _ | refine balloc ?_ _ | refine bdrewN ?_ _ | refine Below.drew ?_))) hG
    obtain ⟨A1, cp1, rfl, hl1⟩ := hO.shape
    simp only [List.length_append, List.length_singleton] at hO
    have q10 := blk_cell hrG.1 11
    have p10 := blk_frozen hrG.1 11
    simp [doCells] at q10
    refine hK _ _ (Or.inr HS1) ?_; clear hK K HS
    have HS := HS1; clear HS1
    iterate 2 (refine seq_take (v := ?_) (by rfl) HS (by rfl) ?_ ?_; rotate_left; (focus (intro wS hS; obtain ⟨kc, kf⟩ := hS.cells; go_simp; (try (with_reducible rfl)); done)); (intro K hK; go_simp; refine hK _ ?_; clear hK K))
    refine seq_do (by rfl) (by rfl) (fun K hK => ?_)
    go_simp
    refine hK _ _ (Or.inl (by kernel_rfl)) ?_; clear hK K
    simp only [wpSeq]
    go_wp2
    go_ret
    exact do_end7 (ov := (Value.slice A r.outs.length cp)) rfl hrG hO hG HS hB (fun k hk => h.outs.inF hk) h.ge rfl rfl rfl
end Go.Proofs.YtbcemldiahghcaaGreat

namespace Go.Proofs.YtbcemldiahghcaaGreat
set_option linter.unusedVariables false
set_option linter.unusedSimpArgs false
set_option maxRecDepth 100000
open Go.RowKit
theorem bdrew {B : Nat} {w W : World} (h : Below B w W) : Below B w W.drew := ⟨h.os, h.tape, h.output, h.size, h.block⟩
theorem meth_raise (n : Nat) (x : Value) (w : World) : (method (n + 1) 208 x "loop.example/slackwater/impl.do").run Tryz.prog w = .ok (178, x) w := by kernel_rfl
theorem meth_join (n : Nat) (x : Value) (w : World) : (method (n + 1) 210 x "loop.example/slackwater/impl.do").run Tryz.prog w = .ok (179, x) w := by kernel_rfl
theorem meth_take (n : Nat) (x : Value) (w : World) : (method (n + 1) 212 x "loop.example/slackwater/impl.do").run Tryz.prog w = .ok (180, x) w := by kernel_rfl
theorem meth_leap (n : Nat) (x : Value) (w : World) : (method (n + 1) 214 x "loop.example/slackwater/impl.do").run Tryz.prog w = .ok (181, x) w := by kernel_rfl
theorem meth_send (n : Nat) (x : Value) (w : World) : (method (n + 1) 216 x "loop.example/slackwater/impl.do").run Tryz.prog w = .ok (182, x) w := by kernel_rfl
theorem meth_let (n : Nat) (x : Value) (w : World) : (method (n + 1) 217 x "loop.example/slackwater/impl.do").run Tryz.prog w = .ok (183, x) w := by kernel_rfl
set_option maxHeartbeats 2000000 in
theorem actionOf_1 (a b c e : Int) (w : World) :
    Calls Tryz.prog 130 #[.agg #[.int .i64 1, .int .i64 a, .int .i64 b, .int .i64 c, .int .i64 e]] w fun q w' => q = .returned (.iface 208 (.agg #[.int .i64 a, .int .i64 b, .bool true])) ∧ Below w.heap.size w w' := by
  go_enter Tryz.func130, Tryz.ntmps130
  go_wp2_with fail
  go_region
  all_goals go_wp2_with fail
  all_goals go_ret
  all_goals exact ⟨rfl, by repeat (first | exact Below.refl _ _ | refine bdrew ?_ | refine balloc ?_ _)⟩
set_option maxHeartbeats 2000000 in
theorem actionOf_2 (a b c e : Int) (w : World) :
    Calls Tryz.prog 130 #[.agg #[.int .i64 2, .int .i64 a, .int .i64 b, .int .i64 c, .int .i64 e]] w fun q w' => q = .returned (.iface 210 (.agg #[.int .i64 a, .int .i64 b])) ∧ Below w.heap.size w w' := by
  go_enter Tryz.func130, Tryz.ntmps130
  go_wp2_with fail
  all_goals go_ret
  all_goals exact ⟨rfl, by repeat (first | exact Below.refl _ _ | refine bdrew ?_ | refine balloc ?_ _)⟩
set_option maxHeartbeats 2000000 in
theorem actionOf_3 (a b c e : Int) (w : World) :
    Calls Tryz.prog 130 #[.agg #[.int .i64 3, .int .i64 a, .int .i64 b, .int .i64 c, .int .i64 e]] w fun q w' => q = .returned (.iface 208 (.agg #[.int .i64 a, .int .i64 b, .bool false])) ∧ Below w.heap.size w w' := by
  go_enter Tryz.func130, Tryz.ntmps130
  go_wp2_with fail
  go_region
  all_goals go_wp2_with fail
  all_goals go_ret
  all_goals exact ⟨rfl, by repeat (first | exact Below.refl _ _ | refine bdrew ?_ | refine balloc ?_ _)⟩
set_option maxHeartbeats 2000000 in
theorem actionOf_4 (a b c e : Int) (w : World) :
    Calls Tryz.prog 130 #[.agg #[.int .i64 4, .int .i64 a, .int .i64 b, .int .i64 c, .int .i64 e]] w fun q w' => q = .returned (.iface 212 (.agg #[.int .i64 a])) ∧ Below w.heap.size w w' := by
  go_enter Tryz.func130, Tryz.ntmps130
  go_wp2_with fail
  all_goals go_ret
  all_goals exact ⟨rfl, by repeat (first | exact Below.refl _ _ | refine bdrew ?_ | refine balloc ?_ _)⟩
set_option maxHeartbeats 2000000 in
theorem actionOf_5 (a b c e : Int) (w : World) :
    Calls Tryz.prog 130 #[.agg #[.int .i64 5, .int .i64 a, .int .i64 b, .int .i64 c, .int .i64 e]] w fun q w' => q = .returned (.iface 214 (.agg #[.int .i64 a, .int .i64 b, .int .i64 c])) ∧ Below w.heap.size w w' := by
  go_enter Tryz.func130, Tryz.ntmps130
  go_wp2_with fail
  all_goals go_ret
  all_goals exact ⟨rfl, by repeat (first | exact Below.refl _ _ | refine bdrew ?_ | refine balloc ?_ _)⟩
set_option maxHeartbeats 2000000 in
theorem actionOf_6 (a b c e : Int) (w : World) :
    Calls Tryz.prog 130 #[.agg #[.int .i64 6, .int .i64 a, .int .i64 b, .int .i64 c, .int .i64 e]] w fun q w' => q = .returned (.iface 216 (.agg #[.int .i64 a, .int .i64 b, .int .i64 c, .int .i64 e])) ∧ Below w.heap.size w w' := by
  go_enter Tryz.func130, Tryz.ntmps130
  go_wp2_with fail
  all_goals go_ret
  all_goals exact ⟨rfl, by repeat (first | exact Below.refl _ _ | refine bdrew ?_ | refine balloc ?_ _)⟩
set_option maxHeartbeats 2000000 in
theorem actionOf_7 (a b c e : Int) (w : World) :
    Calls Tryz.prog 130 #[.agg #[.int .i64 7, .int .i64 a, .int .i64 b, .int .i64 c, .int .i64 e]] w fun q w' => q = .returned (.iface 217 (.agg #[.int .i64 a])) ∧ Below w.heap.size w w' := by
  go_enter Tryz.func130, Tryz.ntmps130
  go_wp2_with fail
  all_goals go_ret
  all_goals exact ⟨rfl, by repeat (first | exact Below.refl _ _ | refine bdrew ?_ | refine balloc ?_ _)⟩
end Go.Proofs.YtbcemldiahghcaaGreat

namespace Go.Proofs.YtbcemldiahghcaaGreat
set_option linter.unusedVariables false
set_option linter.unusedSimpArgs false
open Go.RowKit
theorem Rd.drop {α : Type} {d : Ty α} {w : World} {F : Nat → Prop} {b o n c : Nat} {xs : List α} (h : Rd d w F (.slice (some ⟨b, o, none⟩) n c) xs) (k m c' : Nat) (hk : k ≤ xs.length) (hm : m = xs.length - k) (hc : m ≤ c') : Rd d w F (.slice (some ⟨b, o + k * d.sz, none⟩) m c') (xs.drop k) := by
  obtain ⟨A', c1, he, h1, h2, h3⟩ := h
  injection he with hA _ _
  subst hA
  have hl : (xs.drop k).length = m := by simp [hm]
  refine ⟨_, c', by rw [hl], by rw [hl]; exact hc, by simp; omega, fun hp => ?_⟩
  obtain ⟨b', o', he', hF, hlt, hc⟩ := h3 (by simp at hp; omega)
  simp only [Option.some.injEq, Addr.mk.injEq, and_true] at he'
  obtain ⟨rfl, rfl⟩ := he'
  refine ⟨b, o + k * d.sz, rfl, hF, hlt, fun j x hj => ?_⟩
  rw [List.getElem?_drop] at hj
  obtain ⟨cs, hr, hu⟩ := hc _ x hj
  refine ⟨cs, hr, fun i u hi => ?_⟩
  have := hu i u hi
  rwa [Nat.add_mul, ← Nat.add_assoc] at this
end Go.Proofs.YtbcemldiahghcaaGreat
