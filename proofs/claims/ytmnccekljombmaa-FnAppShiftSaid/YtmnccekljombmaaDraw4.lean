/- What the drawn programs are, some spoilt. -/
import Derived.Test.YtmnccekljombmaaUpd
import Derived.Test.YtmnccekljombmaaDraw3
set_option linter.unusedVariables false
set_option linter.unusedSimpArgs false
set_option maxRecDepth 100000
namespace Go.Proofs.Ytmnccekljombmaa
open Go.RowKit
def DrawnApps (g B : Nat) (m : Int) (w : World) (q : Ending) (w' : World) : Prop :=
  ∃ v xs, q = .returned v ∧ Rd tApp w' (fun k => w.heap.size ≤ k) v xs ∧ (xs.length = 3 ∨ xs.length = 4) ∧ (∀ x ∈ xs, x.rules.length ≤ 4) ∧ Rdr w' g B (m + 410) ∧ Ch (fun k => k = g) w w'
theorem dec_eq_t {a b : Int} (h : a = b) : (a == b) = true := by simp [h]
theorem dec_eq_f {a b : Int} (h : a ≠ b) : (a == b) = false := by simp [h]
theorem put_cells {w3 w11 : World} {b p : Nat} {cur : Array Value} {t : TypeId} {vp u : Value} (h3 : w3.heap[b]? = some (.cells cur t (0, 0))) (h11 : w11.heap[b]? = some (.cells cur t (0, 0))) (hc : w3.cell? ⟨b, p, none⟩ = some vp) :
    (∀ o, o ≠ p → (w11.setCell ⟨b, p, none⟩ u).cell? ⟨b, o, none⟩ = w3.cell? ⟨b, o, none⟩) ∧ (w11.setCell ⟨b, p, none⟩ u).cell? ⟨b, p, none⟩ = some u := by
  have hs := blk_set h11 p u
  rw [blk_cell h3] at hc
  have hp : p < cur.size := (Array.getElem?_eq_some_iff.1 hc).1
  refine ⟨fun o ho => ?_, ?_⟩
  · rw [blk_cell hs, blk_cell h3, Array.getElem?_setIfInBounds_ne (Ne.symm ho)]
  · rw [blk_cell hs, Array.getElem?_setIfInBounds_self_of_lt hp]
/-- What a store into a block of one's own leaves. -/
theorem own_put {w w3 w11 : World} {g b : Nat} {S : Nat → Prop} (hC : Ch (fun k => k = g) w w3) (hS : Ch S w3 w11) (hSw : ∀ k, S k → k = g ∨ w.heap.size ≤ k) (hb : w.heap.size ≤ b) (p : Nat) (u : Value) : Ch (fun k => k = g) w (w11.setCell ⟨b, p, none⟩ u) :=
  Ch.setCell (S := fun k => k = g) (p := ⟨b, p, none⟩) (hC.then hS hSw) (Or.inr hb) u
theorem rd_two {W : World} {K : Nat} {t : TypeId} {fr : Nat × Nat} (y z : OpD) (h : W.heap[K]? = some (.cells #[.int .i64 y.d, .int .i64 y.a, .int .i64 y.b, .int .i64 y.c, .int .i64 y.e, .int .i64 z.d, .int .i64 z.a, .int .i64 z.b, .int .i64 z.c, .int .i64 z.e] t fr)) :
    Rd tOp W (fun k => k = K) (.slice (some ⟨K, 0, none⟩) 2 2) [y, z] := by
  refine ⟨_, 2, rfl, Nat.le_refl _, by simp, fun _ => ⟨K, 0, rfl, rfl, blk_lt h, fun j x hj => ?_⟩⟩
  have hz : tOp.sz = 5 := rfl
  match j with
  | 0 =>
    obtain rfl : y = x := by simpa using hj
    refine ⟨_, rfl, fun i u hi => ?_⟩
    have hi5 : i < 5 := (List.getElem?_eq_some_iff.1 hi).1
    rw [blk_cell h, hz]
    rcases (show i = 0 ∨ i = 1 ∨ i = 2 ∨ i = 3 ∨ i = 4 by omega) with rfl | rfl | rfl | rfl | rfl <;> exact hi
  | 1 =>
    obtain rfl : z = x := by simpa using hj
    refine ⟨_, rfl, fun i u hi => ?_⟩
    have hi5 : i < 5 := (List.getElem?_eq_some_iff.1 hi).1
    rw [blk_cell h, hz]
    rcases (show i = 0 ∨ i = 1 ∨ i = 2 ∨ i = 3 ∨ i = 4 by omega) with rfl | rfl | rfl | rfl | rfl <;> exact hi
  | j + 2 => simp at hj
set_option maxHeartbeats 2000000 in
theorem l72Apps_c (g B : Nat) (m : Int) (w : World) (h : Rdr w g B m) (hm : m ≤ 700000) :
    Calls Try.prog 48 #[.pointer (some ⟨g, 0, none⟩)] w (DrawnApps g B m w) := by
  have hgl := h.lt
  go_enter Try.func48, Try.ntmps48
  go_wp2_with (go_at_call 84; refine (l71Apps_c g B _ _ h (by omega)).mono ?_; rintro e w1 ⟨v, xs, rfl, hO, hl, hx, hR, hC⟩; obtain ⟨b, cp, cur, rfl, hFb, hbl, hbk⟩ := hO.head (by omega); have hsz := hC.size; have hcp := hO.rd.len_.2.1; have hx4 : 4 ≤ xs.length := (by omega); have hx4' : xs.length ≤ 4 := (by omega); have hcp1 : ¬ 1 = cp := (by omega); have hcp2 : ¬ cp = 1 := (by omega); have HL := hid hl; clear hl)
  (refine (pick_c g B _ _ _ (Rdr.ch (S := fun k => g < k) hR (by repeat (first | (with_reducible exact Ch.refl _ _) | (with_reducible refine Ch.drew ?_) | (with_reducible refine Ch.alloc ?_ _) | with_reducible refine Ch.setCell ?_ (Or.inl (by simp only; omega)) _)) (fun k hk hk' => absurd hk (Nat.not_le.2 hk'))) (by omega) (by omega)).mono ?_; rintro e w2 ⟨p, rfl, hp, hR2, hC2⟩)
  apply_assumption
  go_wp2_with fail
  (refine (pick_c g B _ _ _ (Rdr.ch (S := fun k => g < k) hR2 (by repeat (first | (with_reducible exact Ch.refl _ _) | (with_reducible refine Ch.drew ?_) | (with_reducible refine Ch.alloc ?_ _) | with_reducible refine Ch.setCell ?_ (Or.inl (by simp only; omega)) _)) (fun k hk hk' => absurd hk (Nat.not_le.2 hk'))) (by omega) (by omega)).mono ?_; rintro e w3 ⟨d, rfl, hd, hR3, hC3⟩)
  apply_assumption
  have hC3' := hC2.trans hC3
  have hO3 := hO.ch hC3' (fun k hk hk' => by have h1 : w.heap.size ≤ k := hk; have h2 : k = g := hk'; omega)
  have hpl : p < xs.length := by omega
  have hbg : ¬ b = g := by have h1 : w.heap.size ≤ b := hFb; omega
  have hb3 := hC3'.heap hbk hbg
  have hz3 := hC3'.size
  have hbl3 : b < w3.heap.size := by omega
  have hgl3 : g < w3.heap.size := by omega
  obtain ⟨Fj, vp, hOp, hFj, hcp, hU⟩ := Ow.appAt hO3 rfl p hpl
  have hr3 := (hx xs[p] (List.getElem_mem _)).1
  have hr3a : xs[p].rules.length ≤ 3 := by omega
  have hr3b : 3 ≤ xs[p].rules.length := by omega
  have HR3 := hid hr3; clear hr3
  have hnF : ¬ Fj b := fun hf => (hFj b hf).2.1 rfl
  have hf3 := blk_frozen hb3 p
  have hpi : (p : Int) < xs.length := by omega
  rcases (show d = 0 ∨ d = 1 ∨ d = 2 ∨ d = 3 ∨ d = 4 ∨ 5 ≤ d by omega) with rfl | rfl | rfl | rfl | rfl | hd5
  · go_wp2_with fail
    go_ret
    exact ⟨_, xs.drop 1, rfl, Rd.drop (((hO.rdApps).ch hC3' (fun k hk hk' => by have h1 : w.heap.size ≤ k := hk; have h2 : k = g := hk'; omega)).mono (fun _ hk => hk)) 1 (xs.length - 1) (cp - 1) (by omega) rfl (by omega), Or.inl (by simp; omega), fun x hx' => by have := (hx x (List.mem_of_mem_drop hx')).1; omega, hR3.move rfl (fun _ _ => rfl) (by omega), hC.trans hC3'⟩
  · go_wp2_with fail
    obtain ⟨Ap, cpp, rfl, hlp⟩ := hOp.shape
    refine region_plan (fun w' => Ch (fun k => k = g ∨ Fj k) w3 w') [(0, true), (1, true), (2, true), (3, true), (4, true), (5, true), (6, true), (7, true), (8, false), (9, true), (10, false), (11, false), (12, true), (13, true), (14, false)] (by kernel_rfl) (by kernel_rfl) (fun _ _ d _ _ h => by cases d <;> exact h) ?_
    have HS := (Ch.refl (fun k => k = g ∨ Fj k) w3).drew
    iterate 8 (first | (refine seq_take (v := ?_) (by rfl) HS (by rfl) ?_ ?_; rotate_left; (focus (intro wS hS; obtain ⟨kc, kf⟩ := hS.cells; go_simp; (try (with_reducible rfl)); done)); (intro K hK; go_simp; refine hK _ ?_; clear hK K)) | (refine seq_skip (by rfl) HS (by rfl) ?_; (intro K hK; go_simp; refine hK _ ?_; clear hK K)))
    refine seq_do (by rfl) (by rfl) (fun K hK => ?_)
    go_simp
    refine (pick_c g B _ _ _ (Rdr.ch (S := fun k => g < k) hR3 (by repeat (first | (with_reducible exact Ch.refl _ _) | (with_reducible refine Ch.drew ?_) | (with_reducible refine Ch.alloc ?_ _) | with_reducible refine Ch.setCell ?_ (Or.inl (by simp only; omega)) _)) (fun k hk hk' => absurd hk (Nat.not_le.2 hk'))) (by omega) (by omega)).mono ?_; rintro e w4 ⟨n, rfl, hn, hR4, hC4⟩
    have HS := HS.trans (hC4.mono (fun k hk => Or.inl hk))
    refine hK _ _ (Or.inr HS) ?_; clear hK K
    iterate 1 (first | (refine seq_take (v := ?_) (by rfl) HS (by rfl) ?_ ?_; rotate_left; (focus (intro wS hS; obtain ⟨kc, kf⟩ := hS.cells; go_simp; (try (with_reducible rfl)); done)); (intro K hK; go_simp; refine hK _ ?_; clear hK K)) | (refine seq_skip (by rfl) HS (by rfl) ?_; (intro K hK; go_simp; refine hK _ ?_; clear hK K)))
    refine seq_do (by rfl) (by rfl) (fun K hK => ?_)
    go_simp
    refine hK _ _ (Or.inr (HS.alloc _)) ?_; clear hK K
    have HS := HS.alloc (.cells #[.int .i64 n, .slice none 0 0] 38)
    have hOp4 := (hOp.ch (S := fun k => k = g) (((Ch.refl _ _).drew).trans hC4) (fun k hk hk' => by have h1 := (hFj k hk).1; have h2 : w.heap.size ≤ k := h1; have h3 : k = g := hk'; omega)).alloc (.cells #[.int .i64 n, .slice none 0 0] 38)
    refine seq_do (by rfl) (by rfl) (fun K hK => ?_)
    refine ow_append_wp (d := oRule) 23 rfl Try.underlying23 _ 32 info_rule rfl (by decide) (by decide) rfl hOp4 ⟨n, []⟩ _ rfl (heap_at rfl) (fun _ => False) ⟨_, rfl, Ow.nil _ _ _ _⟩ (fun _ hf => hf.elim) (fun _ hf => hf.elim) (by omega) (fun k => Fj k ∨ w3.heap.size ≤ k) (fun _ hk => Or.inl hk) (fun _ hf => hf.elim) (fun k hk => Or.inr (by have h3 := HS.size; simp at hk h3; omega)) ?_
    intro v11 w11 hO11 hG11 hat11
    have HS4 := Ch.grown (S := fun k => g < k) ((Ch.refl _ w4).alloc (.cells #[.int .i64 n, .slice none 0 0] 38)) hG11 (fun k hk => Or.inl (by have h1 : w.heap.size ≤ k := (hFj k (hOp4.inF hk)).1; omega))
    have HS := HS.grown hG11 (fun k hk => Or.inl (Or.inr (hOp4.inF hk)))
    obtain ⟨A11, c11, hv11, hl11⟩ := hO11.shape
    obtain rfl : v11 = .slice A11 (xs[p].rules.length + 1) c11 := by simpa using hv11
    clear hv11
    refine hK _ _ (Or.inr HS) ?_; clear hK K
    iterate 2 (first | (refine seq_take (v := ?_) (by rfl) HS (by rfl) ?_ ?_; rotate_left; (focus (intro wS hS; obtain ⟨kc, kf⟩ := hS.cells; go_simp; (try (with_reducible rfl)); done)); (intro K hK; go_simp; refine hK _ ?_; clear hK K)) | (refine seq_skip (by rfl) HS (by rfl) ?_; (intro K hK; go_simp; refine hK _ ?_; clear hK K)))
    refine seq_do (by rfl) (by rfl) (fun K hK => ?_)
    have hbk11 := HS.heap hb3 (fun hk => hk.elim hbg hnF)
    have hcE := (HS.cell (p := ⟨b, p, none⟩) hbl3 (fun hk => hk.elim hbg hnF)).trans hcp
    have hfE := blk_frozen hbk11 p
    go_simp
    refine hK _ _ (Or.inl (by kernel_rfl)) ?_; clear hK K
    simp only [wpSeq]
    go_wp2_with fail
    go_ret
    obtain ⟨pc1, pc2⟩ := put_cells (u := .slice A11 (xs[p].rules.length + 1) c11) hb3 hbk11 hcp
    have hRE := hR4.ch (Ch.setCell (S := fun k => g < k) (p := ⟨b, p, none⟩) HS4 (Or.inl (by have h1 : w.heap.size ≤ b := hFb; simp; omega)) (.slice A11 (xs[p].rules.length + 1) c11)) (fun k hk hk' => absurd hk (Nat.not_le.2 hk'))
    have hsE := HS.size
    exact ⟨_, xs.set p ⟨xs[p].rules ++ [(⟨(n : Int), []⟩ : RuleD)]⟩, rfl, hU _ _ _ (fun k => w.heap.size ≤ k) (by simp; omega) pc1 pc2 (fun k hk hlt hkb hnf => (Below.heap_setCell _ _ _ _ (fun e' => hkb e')).trans (HS.block k hlt (fun hs => hs.elim (fun h1 => by have h2 : w.heap.size ≤ k := hk; omega) hnf)))
      (Rd.mono (fun k hk => hk.elim (fun hk => (hFj k hk).1) (fun hk => by omega)) ((hO11.keep (fun k hk _ => Below.heap_setCell w11 ⟨b, p, none⟩ (.slice A11 (xs[p].rules.length + 1) c11) k (fun e' => hk.elim (fun hk => (hFj k hk).2.1 e') (fun hk => by have : k = b := e'; omega)))).rdRules)) (fun _ hk => hk), Or.inr (by simp; omega), fun x hx' => by { rcases List.mem_or_eq_of_mem_set hx' with hx' | rfl; have := (hx x hx').1; omega; simp; omega },
      hRE.move rfl (fun _ _ => rfl) (by omega), own_put (hC.trans hC3') HS (fun k hk => hk.imp id (fun hk => (hFj k hk).1)) hFb p _⟩
  · obtain ⟨b2, cp2, cur2, rfl, hFb2, hbl2, hbk2⟩ := hOp.head (by omega)
    obtain ⟨Fo, vo, hOo, hFo, hk0, hco, hUo⟩ := Ow.ruleAt hOp rfl 0 (by omega)
    obtain ⟨Ao, co, rfl, hlo⟩ := hOo.shape
    have hol : (xs[p].rules[0]'(by omega)).ops.length ≤ 6 := (hx xs[p] (List.getElem_mem _)).2 _ (List.getElem_mem _)
    have hwb2 : w.heap.size ≤ b2 := (hFj b2 hFb2).1
    have hb2g : ¬ b2 = g := by omega
    have hoF : ¬ Fo b := fun hf => hnF (hFo b hf).1
    have hoF2 : ¬ Fo b2 := fun hf => (hFo b2 hf).2.1 rfl
    have hbb : ¬ b = b2 := fun e' => by subst e'; exact hnF hFb2
    have hq0 : (0 : Int) < xs[p].rules.length := by omega
    have hq1 : 0 < xs[p].rules.length := by omega
    have hq2 : ¬ xs[p].rules = [] := fun e' => by rw [e'] at hq1; simp at hq1
    have hf2 := blk_frozen hbk2 1
    have hco' : w3.cell? ⟨b2, 1, none⟩ = some (.slice Ao (xs[p].rules[0]'(by omega)).ops.length co) := hco
    go_wp2_with fail
    refine region_plan (fun w' => Ch (fun k => k = g ∨ Fo k) w3 w') [(0, true), (1, true), (2, true), (3, true), (4, true), (5, true), (6, true), (7, true), (8, true), (9, true), (10, true), (11, true), (12, true), (13, true), (15, true), (17, true), (21, true), (23, true), (14, false), (16, false), (18, false), (19, true), (20, true), (22, false), (24, false), (25, true), (26, false), (27, false), (28, true), (29, true), (30, false)] (by kernel_rfl) (by kernel_rfl) (fun _ _ d _ _ h => by cases d <;> exact h) ?_
    have HC := (Ch.refl (fun k => k = g) w3).drew
    have HS := (Ch.refl (fun k => k = g ∨ Fo k) w3).drew
    iterate 18 (first | (refine seq_take (v := ?_) (by rfl) HS (by rfl) ?_ ?_; rotate_left; (focus (intro wS hS; obtain ⟨kc, kf⟩ := hS.cells; go_simp; (try (with_reducible rfl)); done)); (intro K hK; go_simp; refine hK _ ?_; clear hK K)) | (refine seq_skip (by rfl) HS (by rfl) ?_; (intro K hK; go_simp; refine hK _ ?_; clear hK K)))
    refine seq_do (by rfl) (by rfl) (fun K hK => ?_)
    go_simp
    refine (pick_c g B _ _ _ (Rdr.ch (S := fun k => g < k) hR3 (by repeat (first | (with_reducible exact Ch.refl _ _) | (with_reducible refine Ch.drew ?_) | (with_reducible refine Ch.alloc ?_ _) | with_reducible refine Ch.setCell ?_ (Or.inl (by simp only; omega)) _)) (fun k hk hk' => absurd hk (Nat.not_le.2 hk'))) (by omega) (by omega)).mono ?_; rintro e w4 ⟨n1, rfl, hn1, hR4, hC4⟩
    have HS := HS.trans (hC4.mono (fun k hk => Or.inl hk))
    have HC := HC.trans hC4
    refine hK _ _ (Or.inr HS) ?_; clear hK K
    refine seq_do (by rfl) (by rfl) (fun K hK => ?_)
    go_simp
    refine (pick_c g B _ _ _ (Rdr.ch (S := fun k => g < k) hR4 (by repeat (first | (with_reducible exact Ch.refl _ _) | (with_reducible refine Ch.drew ?_) | (with_reducible refine Ch.alloc ?_ _) | with_reducible refine Ch.setCell ?_ (Or.inl (by simp only; omega)) _)) (fun k hk hk' => absurd hk (Nat.not_le.2 hk'))) (by omega) (by omega)).mono ?_; rintro e w5 ⟨n2, rfl, hn2, hR5, hC5⟩
    have HS := HS.trans (hC5.mono (fun k hk => Or.inl hk))
    have HC := HC.trans hC5
    refine hK _ _ (Or.inr HS) ?_; clear hK K
    refine seq_do (by rfl) (by rfl) (fun K hK => ?_)
    go_simp
    refine (pick_c g B _ _ _ (Rdr.ch (S := fun k => g < k) hR5 (by repeat (first | (with_reducible exact Ch.refl _ _) | (with_reducible refine Ch.drew ?_) | (with_reducible refine Ch.alloc ?_ _) | with_reducible refine Ch.setCell ?_ (Or.inl (by simp only; omega)) _)) (fun k hk hk' => absurd hk (Nat.not_le.2 hk'))) (by omega) (by omega)).mono ?_; rintro e w6 ⟨n3, rfl, hn3, hR6, hC6⟩
    have HS := HS.trans (hC6.mono (fun k hk => Or.inl hk))
    have HC := HC.trans hC6
    refine hK _ _ (Or.inr HS) ?_; clear hK K
    iterate 2 (first | (refine seq_take (v := ?_) (by rfl) HS (by rfl) ?_ ?_; rotate_left; (focus (intro wS hS; obtain ⟨kc, kf⟩ := hS.cells; go_simp; (try (with_reducible rfl)); done)); (intro K hK; go_simp; refine hK _ ?_; clear hK K)) | (refine seq_skip (by rfl) HS (by rfl) ?_; (intro K hK; go_simp; refine hK _ ?_; clear hK K)))
    refine seq_do (by rfl) (by rfl) (fun K hK => ?_)
    go_simp
    refine (pick_c g B _ _ _ (Rdr.ch (S := fun k => g < k) hR6 (by repeat (first | (with_reducible exact Ch.refl _ _) | (with_reducible refine Ch.drew ?_) | (with_reducible refine Ch.alloc ?_ _) | with_reducible refine Ch.setCell ?_ (Or.inl (by simp only; omega)) _)) (fun k hk hk' => absurd hk (Nat.not_le.2 hk'))) (by omega) (by omega)).mono ?_; rintro e w7 ⟨n4, rfl, hn4, hR7, hC7⟩
    have HS := HS.trans (hC7.mono (fun k hk => Or.inl hk))
    have HC := HC.trans hC7
    refine hK _ _ (Or.inr HS) ?_; clear hK K
    refine seq_do (by rfl) (by rfl) (fun K hK => ?_)
    go_simp
    refine (pick_c g B _ _ _ (Rdr.ch (S := fun k => g < k) hR7 (by repeat (first | (with_reducible exact Ch.refl _ _) | (with_reducible refine Ch.drew ?_) | (with_reducible refine Ch.alloc ?_ _) | with_reducible refine Ch.setCell ?_ (Or.inl (by simp only; omega)) _)) (fun k hk hk' => absurd hk (Nat.not_le.2 hk'))) (by omega) (by omega)).mono ?_; rintro e w8 ⟨n5, rfl, hn5, hR8, hC8⟩
    have HS := HS.trans (hC8.mono (fun k hk => Or.inl hk))
    have HC := HC.trans hC8
    refine hK _ _ (Or.inr HS) ?_; clear hK K
    iterate 1 (first | (refine seq_take (v := ?_) (by rfl) HS (by rfl) ?_ ?_; rotate_left; (focus (intro wS hS; obtain ⟨kc, kf⟩ := hS.cells; go_simp; (try (with_reducible rfl)); done)); (intro K hK; go_simp; refine hK _ ?_; clear hK K)) | (refine seq_skip (by rfl) HS (by rfl) ?_; (intro K hK; go_simp; refine hK _ ?_; clear hK K)))
    refine seq_do (by rfl) (by rfl) (fun K hK => ?_)
    go_simp
    refine hK _ _ (Or.inr (HS.alloc _)) ?_; clear hK K
    have HS := HS.alloc (.cells #[.int .i64 n1, .int .i64 n2, .int .i64 (IntKind.i64.wrap ((IntKind.i64.wrap ((n3 : Int) * 999)).tdiv 2)), .int .i64 n4, .int .i64 n5] 90)
    have hOo8 := (hOo.ch (S := fun k => k = g) HC (fun k hk hk' => by have h2 : w.heap.size ≤ k := (hFj k (hFo k hk).1).1; have h3 : k = g := hk'; omega)).alloc (.cells #[.int .i64 n1, .int .i64 n2, .int .i64 (IntKind.i64.wrap ((IntKind.i64.wrap ((n3 : Int) * 999)).tdiv 2)), .int .i64 n4, .int .i64 n5] 90)
    refine seq_do (by rfl) (by rfl) (fun K hK => ?_)
    refine ow_append_wp (d := tOp) 36 rfl Try.underlying36 _ 40 info_op rfl (by decide) (by decide) rfl hOo8 ⟨n1, n2, IntKind.i64.wrap ((IntKind.i64.wrap ((n3 : Int) * 999)).tdiv 2), n4, n5⟩ _ rfl (heap_at rfl) (fun _ => False) rfl (fun _ hf => hf.elim) (fun _ hf => hf.elim) (by omega) (fun k => Fo k ∨ w3.heap.size ≤ k) (fun _ hk => Or.inl hk) (fun _ hf => hf.elim) (fun k hk => Or.inr (by have h3 := HS.size; simp at hk h3; omega)) ?_
    intro v11 w11 hO11 hG11 hat11
    have HS4 := Ch.grown (S := fun k => g < k) ((Ch.refl _ w8).alloc (.cells #[.int .i64 n1, .int .i64 n2, .int .i64 (IntKind.i64.wrap ((IntKind.i64.wrap ((n3 : Int) * 999)).tdiv 2)), .int .i64 n4, .int .i64 n5] 90)) hG11 (fun k hk => Or.inl (by have h1 : w.heap.size ≤ k := (hFj k (hFo k (hOo8.inF hk)).1).1; omega))
    have HS := HS.grown hG11 (fun k hk => Or.inl (Or.inr (hOo8.inF hk)))
    obtain ⟨A11, c11, hv11, hl11⟩ := hO11.shape
    obtain rfl : v11 = .slice A11 ((xs[p].rules[0]'(by omega)).ops.length + 1) c11 := by simpa using hv11
    clear hv11
    refine hK _ _ (Or.inr HS) ?_; clear hK K
    iterate 2 (first | (refine seq_take (v := ?_) (by rfl) HS (by rfl) ?_ ?_; rotate_left; (focus (intro wS hS; obtain ⟨kc, kf⟩ := hS.cells; go_simp; (try (with_reducible rfl)); done)); (intro K hK; go_simp; refine hK _ ?_; clear hK K)) | (refine seq_skip (by rfl) HS (by rfl) ?_; (intro K hK; go_simp; refine hK _ ?_; clear hK K)))
    refine seq_do (by rfl) (by rfl) (fun K hK => ?_)
    have hbk11 := HS.heap hb3 (fun hk => hk.elim hbg hoF)
    have hbk12 := HS.heap hbk2 (fun hk => hk.elim hb2g hoF2)
    have hcE : w11.cell? ⟨b2, 1, none⟩ = _ := (HS.cell (p := ⟨b2, 1, none⟩) hbl2 (fun hk => hk.elim hb2g hoF2)).trans hco
    have hfE := blk_frozen hbk12 1
    go_simp
    refine hK _ _ (Or.inl (by kernel_rfl)) ?_; clear hK K
    simp only [wpSeq]
    go_wp2_with fail
    go_ret
    obtain ⟨pc1, pc2⟩ := put_cells (u := (.slice A11 ((xs[p].rules[0]'(by omega)).ops.length + 1) c11)) hbk2 hbk12 hco
    have hRE := hR8.ch (Ch.setCell (S := fun k => g < k) (p := ⟨b2, 1, none⟩) HS4 (Or.inl (by simp; omega)) (.slice A11 ((xs[p].rules[0]'(by omega)).ops.length + 1) c11)) (fun k hk hk' => absurd hk (Nat.not_le.2 hk'))
    have hsE := HS.size
    have hWb : (w11.setCell ⟨b2, 1, none⟩ (.slice A11 ((xs[p].rules[0]'(by omega)).ops.length + 1) c11)).heap[b]? = w3.heap[b]? := (Below.heap_setCell _ _ _ _ hbb).trans (HS.block b hbl3 (fun hk => hk.elim hbg hoF))
    have hRR : Rd tRule (w11.setCell ⟨b2, 1, none⟩ (.slice A11 ((xs[p].rules[0]'(by omega)).ops.length + 1) c11)) (fun k => w.heap.size ≤ k) (.slice (some ⟨b2, 0, none⟩) xs[p].rules.length cp2) (xs[p].rules.set 0 ⟨(xs[p].rules[0]'(by omega)).kind, (xs[p].rules[0]'(by omega)).ops ++ [(⟨n1, n2, IntKind.i64.wrap ((IntKind.i64.wrap ((n3 : Int) * 999)).tdiv 2), n4, n5⟩ : OpD)]⟩) :=
      hUo _ _ _ (fun k => w.heap.size ≤ k) (by simp; omega) pc1 pc2 (fun k hk hlt hkb hnf => (Below.heap_setCell _ _ _ _ (fun e' => hkb e')).trans (HS.block k hlt (fun hs => hs.elim (fun h1 => by have h2 : w.heap.size ≤ k := (hFj k hk).1; omega) hnf)))
        (Rd.mono (fun k hk => hk.elim (fun hk => (hFj k (hFo k hk).1).1) (fun hk => by omega)) ((hO11.keep (fun k hk _ => Below.heap_setCell w11 ⟨b2, 1, none⟩ (.slice A11 ((xs[p].rules[0]'(by omega)).ops.length + 1) c11) k (fun e' => hk.elim (fun hk => (hFo k hk).2.1 e') (fun hk => by have : k = b2 := e'; omega)))).rd)) (fun k hk => (hFj k hk).1)
    exact ⟨_, xs.set p ⟨xs[p].rules.set 0 ⟨(xs[p].rules[0]'(by omega)).kind, (xs[p].rules[0]'(by omega)).ops ++ [(⟨n1, n2, IntKind.i64.wrap ((IntKind.i64.wrap ((n3 : Int) * 999)).tdiv 2), n4, n5⟩ : OpD)]⟩⟩, rfl, hU _ _ _ (fun k => w.heap.size ≤ k) (by simp; omega) (fun o _ => World.cell?_of_block hWb) ((World.cell?_of_block hWb).trans hcp) (fun k hk hlt hkb hnf => (Below.heap_setCell _ _ _ _ (fun e' => hnf (by have e2 : k = b2 := e'; subst e2; exact hFb2))).trans (HS.block k hlt (fun hs => hs.elim (fun h1 => by have h2 : w.heap.size ≤ k := hk; omega) (fun hf => hnf (hFo k hf).1))))
      hRR (fun _ hk => hk), Or.inr (by simp; omega), fun x hx' => by { rcases List.mem_or_eq_of_mem_set hx' with hx' | rfl; have := (hx x hx').1; omega; simp; omega },
      hRE.move rfl (fun _ _ => rfl) (by omega), own_put (hC.trans hC3') HS (fun k hk => hk.imp id (fun hk => (hFj k (hFo k hk).1).1)) hwb2 1 _⟩
  · obtain ⟨b2, cp2, cur2, rfl, hFb2, hbl2, hbk2⟩ := hOp.head (by omega)
    obtain ⟨Fo, vo, hOo, hFo, hk0, hco, hUo⟩ := Ow.ruleAt hOp rfl 1 (by omega)
    obtain ⟨Ao, co, rfl, hlo⟩ := hOo.shape
    have hol : (xs[p].rules[1]'(by omega)).ops.length ≤ 6 := (hx xs[p] (List.getElem_mem _)).2 _ (List.getElem_mem _)
    have hwb2 : w.heap.size ≤ b2 := (hFj b2 hFb2).1
    have hb2g : ¬ b2 = g := by omega
    have hoF : ¬ Fo b := fun hf => hnF (hFo b hf).1
    have hoF2 : ¬ Fo b2 := fun hf => (hFo b2 hf).2.1 rfl
    have hbb : ¬ b = b2 := fun e' => by subst e'; exact hnF hFb2
    have hq0 : (1 : Int) < xs[p].rules.length := by omega
    have hq1 : 0 < xs[p].rules.length := by omega
    have hq2 : ¬ xs[p].rules = [] := fun e' => by rw [e'] at hq1; simp at hq1
    have hf2 := blk_frozen hbk2 3
    have hco' : w3.cell? ⟨b2, 3, none⟩ = some (.slice Ao (xs[p].rules[1]'(by omega)).ops.length co) := hco
    go_wp2_with fail
    refine region_plan (fun w' => Ch (fun k => k = g ∨ Fo k) w3 w') [(0, true), (1, true), (2, true), (3, true), (4, true), (5, true), (6, true), (7, true), (8, true), (9, true), (10, true), (11, true), (12, true), (13, true), (14, true), (15, false), (16, false), (17, true), (18, true), (19, false)] (by kernel_rfl) (by kernel_rfl) (fun _ _ d _ _ h => by cases d <;> exact h) ?_
    have HS := (Ch.refl (fun k => k = g ∨ Fo k) w3).drew
    iterate 15 (first | (refine seq_take (v := ?_) (by rfl) HS (by rfl) ?_ ?_; rotate_left; (focus (intro wS hS; obtain ⟨kc, kf⟩ := hS.cells; go_simp; (try (with_reducible rfl)); done)); (intro K hK; go_simp; refine hK _ ?_; clear hK K)) | (refine seq_skip (by rfl) HS (by rfl) ?_; (intro K hK; go_simp; refine hK _ ?_; clear hK K)))
    refine seq_do (by rfl) (by rfl) (fun K hK => ?_)
    go_simp
    refine hK _ _ (Or.inr (HS.alloc _)) ?_; clear hK K
    have HS := HS.alloc (.cells #[.int .i64 6, .int .i64 1, .int .i64 0, .int .i64 1, .int .i64 0, .int .i64 6, .int .i64 0, .int .i64 0, .int .i64 40, .int .i64 0] 90)
    have hOo8 := (hOo.drewN 1).alloc (.cells #[.int .i64 6, .int .i64 1, .int .i64 0, .int .i64 1, .int .i64 0, .int .i64 6, .int .i64 0, .int .i64 0, .int .i64 40, .int .i64 0] 90)
    refine seq_do (by rfl) (by rfl) (fun K hK => ?_)
    refine ow_concat_wp 36 rfl Try.underlying36 _ 40 info_op rfl (by decide) (by decide) rfl hOo8 rfl (rd_two ⟨6, 1, 0, 1, 0⟩ ⟨6, 0, 0, 40, 0⟩ (heap_at rfl)) (by simp; omega) (fun k => Fo k ∨ w3.heap.size ≤ k) (fun _ hk => Or.inl hk) (fun k hk => Or.inr (by have h3 := HS.size; simp at hk h3; omega)) ?_
    intro v11 w11 hO11 hG11 hat11
    have HS4 := Ch.grown (S := fun k => g < k) ((Ch.refl _ w3).drew.alloc (.cells #[.int .i64 6, .int .i64 1, .int .i64 0, .int .i64 1, .int .i64 0, .int .i64 6, .int .i64 0, .int .i64 0, .int .i64 40, .int .i64 0] 90)) hG11 (fun k hk => Or.inl (by have h1 : w.heap.size ≤ k := (hFj k (hFo k (hOo8.inF hk)).1).1; omega))
    have HS := HS.grown hG11 (fun k hk => Or.inl (Or.inr (hOo8.inF hk)))
    obtain ⟨A11, c11, hv11, hl11⟩ := hO11.shape
    obtain rfl : v11 = .slice A11 ((xs[p].rules[1]'(by omega)).ops.length + 2) c11 := by simpa using hv11
    clear hv11
    refine hK _ _ (Or.inr HS) ?_; clear hK K
    iterate 2 (first | (refine seq_take (v := ?_) (by rfl) HS (by rfl) ?_ ?_; rotate_left; (focus (intro wS hS; obtain ⟨kc, kf⟩ := hS.cells; go_simp; (try (with_reducible rfl)); done)); (intro K hK; go_simp; refine hK _ ?_; clear hK K)) | (refine seq_skip (by rfl) HS (by rfl) ?_; (intro K hK; go_simp; refine hK _ ?_; clear hK K)))
    refine seq_do (by rfl) (by rfl) (fun K hK => ?_)
    have hbk11 := HS.heap hb3 (fun hk => hk.elim hbg hoF)
    have hbk12 := HS.heap hbk2 (fun hk => hk.elim hb2g hoF2)
    have hcE : w11.cell? ⟨b2, 3, none⟩ = _ := (HS.cell (p := ⟨b2, 3, none⟩) hbl2 (fun hk => hk.elim hb2g hoF2)).trans hco
    have hfE := blk_frozen hbk12 3
    go_simp
    refine hK _ _ (Or.inl (by kernel_rfl)) ?_; clear hK K
    simp only [wpSeq]
    go_wp2_with fail
    go_ret
    obtain ⟨pc1, pc2⟩ := put_cells (u := (.slice A11 ((xs[p].rules[1]'(by omega)).ops.length + 2) c11)) hbk2 hbk12 hco
    have hRE := hR3.ch (Ch.setCell (S := fun k => g < k) (p := ⟨b2, 3, none⟩) HS4 (Or.inl (by simp; omega)) (.slice A11 ((xs[p].rules[1]'(by omega)).ops.length + 2) c11)) (fun k hk hk' => absurd hk (Nat.not_le.2 hk'))
    have hsE := HS.size
    have hWb : (w11.setCell ⟨b2, 3, none⟩ (.slice A11 ((xs[p].rules[1]'(by omega)).ops.length + 2) c11)).heap[b]? = w3.heap[b]? := (Below.heap_setCell _ _ _ _ hbb).trans (HS.block b hbl3 (fun hk => hk.elim hbg hoF))
    have hRR : Rd tRule (w11.setCell ⟨b2, 3, none⟩ (.slice A11 ((xs[p].rules[1]'(by omega)).ops.length + 2) c11)) (fun k => w.heap.size ≤ k) (.slice (some ⟨b2, 0, none⟩) xs[p].rules.length cp2) (xs[p].rules.set 1 ⟨(xs[p].rules[1]'(by omega)).kind, (xs[p].rules[1]'(by omega)).ops ++ [(⟨6, 1, 0, 1, 0⟩ : OpD), ⟨6, 0, 0, 40, 0⟩]⟩) :=
      hUo _ _ _ (fun k => w.heap.size ≤ k) (by simp; omega) pc1 pc2 (fun k hk hlt hkb hnf => (Below.heap_setCell _ _ _ _ (fun e' => hkb e')).trans (HS.block k hlt (fun hs => hs.elim (fun h1 => by have h2 : w.heap.size ≤ k := (hFj k hk).1; omega) hnf)))
        (Rd.mono (fun k hk => hk.elim (fun hk => (hFj k (hFo k hk).1).1) (fun hk => by omega)) ((hO11.keep (fun k hk _ => Below.heap_setCell w11 ⟨b2, 3, none⟩ (.slice A11 ((xs[p].rules[1]'(by omega)).ops.length + 2) c11) k (fun e' => hk.elim (fun hk => (hFo k hk).2.1 e') (fun hk => by have : k = b2 := e'; omega)))).rd)) (fun k hk => (hFj k hk).1)
    exact ⟨_, xs.set p ⟨xs[p].rules.set 1 ⟨(xs[p].rules[1]'(by omega)).kind, (xs[p].rules[1]'(by omega)).ops ++ [(⟨6, 1, 0, 1, 0⟩ : OpD), ⟨6, 0, 0, 40, 0⟩]⟩⟩, rfl, hU _ _ _ (fun k => w.heap.size ≤ k) (by simp; omega) (fun o _ => World.cell?_of_block hWb) ((World.cell?_of_block hWb).trans hcp) (fun k hk hlt hkb hnf => (Below.heap_setCell _ _ _ _ (fun e' => hnf (by have e2 : k = b2 := e'; subst e2; exact hFb2))).trans (HS.block k hlt (fun hs => hs.elim (fun h1 => by have h2 : w.heap.size ≤ k := hk; omega) (fun hf => hnf (hFo k hf).1))))
      hRR (fun _ hk => hk), Or.inr (by simp; omega), fun x hx' => by { rcases List.mem_or_eq_of_mem_set hx' with hx' | rfl; have := (hx x hx').1; omega; simp; omega },
      hRE.move rfl (fun _ _ => rfl) (by omega), own_put (hC.trans hC3') HS (fun k hk => hk.imp id (fun hk => (hFj k (hFo k hk).1).1)) hwb2 3 _⟩
  · obtain ⟨b2, cp2, cur2, rfl, hFb2, hbl2, hbk2⟩ := hOp.head (by omega)
    have hq1 := hOp.rd.len_.2.1
    have hq2 : ¬ 1 = cp2 := by omega
    have hq3 : ¬ cp2 = 1 := by omega
    have hq4 : (1 : Int) ≤ xs[p].rules.length := by omega
    go_wp2_with fail
    go_ret
    obtain ⟨pc1, pc2⟩ := put_cells (u := .slice (some ⟨b2, 2, none⟩) (xs[p].rules.length - 1) (cp2 - 1)) hb3 hb3 hcp
    exact ⟨_, xs.set p ⟨xs[p].rules.drop 1⟩, rfl, hU _ _ _ (fun k => w.heap.size ≤ k) (by simpa using hbl3) pc1 pc2 (fun k hk hlt hkb hnf => Below.heap_setCell _ _ _ _ (fun e' => hkb e'))
      (Rd.drop (d := tRule) (Rd.mono (fun k hk => (hFj k hk).1) ((hOp.keep (fun k hk _ => Below.heap_setCell w3 ⟨b, p, none⟩ (.slice (some ⟨b2, 2, none⟩) (xs[p].rules.length - 1) (cp2 - 1)) k (fun e' => (hFj k hk).2.1 e'))).rdRules)) 1 _ _ (by omega) rfl (by omega)) (fun _ hk => hk), Or.inr (by simp; omega), fun x hx' => by { rcases List.mem_or_eq_of_mem_set hx' with hx' | rfl; have := (hx x hx').1; omega; simp; omega },
      (hR3.ch (Ch.setCell (S := fun k => g < k) (p := ⟨b, p, none⟩) (Ch.refl _ _) (Or.inl (by have h1 : w.heap.size ≤ b := hFb; simp; omega)) _) (fun k hk hk' => absurd hk (Nat.not_le.2 hk'))).move rfl (fun _ _ => rfl) (by omega), own_put (hC.trans hC3') (Ch.refl (fun k => k = g) w3) (fun k hk => Or.inl hk) hFb p _⟩
  · have hd0 : (((d : Nat) : Int) == 0) = false := by simp; omega
    have hd1 : (((d : Nat) : Int) == 1) = false := by simp; omega
    have hd2 : (((d : Nat) : Int) == 2) = false := by simp; omega
    have hd3 : (((d : Nat) : Int) == 3) = false := by simp; omega
    have hd4 : (((d : Nat) : Int) == 4) = false := by simp; omega
    go_wp2_with fail
    go_ret
    exact ⟨_, xs, rfl, (hO.rdApps).ch hC3' (fun k hk hk' => by have h1 : w.heap.size ≤ k := hk; have h2 : k = g := hk'; omega), Or.inr HL.out, fun x hx' => by have := (hx x hx').1; omega, hR3.move rfl (fun _ _ => rfl) (by omega), hC.trans hC3'⟩
end Go.Proofs.Ytmnccekljombmaa
