/- What DrawAppRun draws: a program, what is known, an event. -/
import Derived.Test.YtmnccekljombmaaDraw4
import Derived.Deep.DeepCutAuto
set_option linter.unusedVariables false
set_option linter.unusedSimpArgs false
set_option maxRecDepth 100000
namespace Go.Proofs.Ytmnccekljombmaa
open Go.RowKit
theorem cells3 {w : World} {s : Nat} {t : TypeId} {a b c : Value} (h : w.heap[s]? = some (.cells #[a, b, c] t (0, 0))) :
    w.cell? ⟨s, 0, none⟩ = some a ∧ w.cell? ⟨s, 1, none⟩ = some b ∧ w.cell? ⟨s, 2, none⟩ = some c ∧ ∀ i, w.frozen? ⟨s, i, none⟩ = false :=
  ⟨blk_cell h 0, blk_cell h 1, blk_cell h 2, blk_frozen h⟩
theorem store3 {w1 : World} {s : Nat} {t : TypeId} {z0 z1 z2 : Value} (hb : w1.heap[s]? = some (.cells #[z0, z1, z2] t (0, 0))) (a b c : Value) :
    (((w1.setCell ⟨s, 0, none⟩ a).setCell ⟨s, 1, none⟩ b).setCell ⟨s, 2, none⟩ c).heap[s]? = some (.cells #[a, b, c] t (0, 0)) :=
  blk_set (blk_set (blk_set hb 0 _) 1 _) 2 _
def stAgg (s : StD) : Value := .agg #[.int .i64 s.x, .int .i64 s.y, .int .i64 s.c]
def DrawnRun (w : World) (q : Ending) (w' : World) : Prop :=
  ∃ (v : Value) (a : AppD) (s : StD) (e : EvD), q = .returned (.tuple #[.agg #[v], stAgg s, evAgg e]) ∧ Rd tRule w' (fun k => w.heap.size ≤ k) v a.rules ∧ a.rules.length ≤ 4 ∧ (0 ≤ s.c ∧ s.c ≤ 12) ∧ Below w.heap.size w w'
set_option maxHeartbeats 2000000 in
theorem DrawAppRun_c (A : Option Addr) (c : Nat) (bs : List Int) (w : World) (h : Rd (tInt .u8) w (fun k => k < w.heap.size) (.slice A bs.length c) bs) (hb : ∀ x ∈ bs, 0 ≤ x ∧ x ≤ 255) :
    Calls Try.prog 15 #[.slice A bs.length c] w (DrawnRun w) := by
  go_enter Try.func15, Try.ntmps15
  go_wp2_with fail
  refine (l6Open_c A c bs _ ((h.below (by repeat (first | exact Below.refl _ _ | refine balloc ?_ _))).mono (fun k hk => by simp; omega)) hb).mono ?_
  rintro e w1 ⟨rfl, hR1, hB1⟩
  have B0 : w1.heap[w.heap.size]? = some (.cells #[.slice none 0 0] 25 (0, 0)) := (hB1.block w.heap.size (by simp only [World.size_alloc]; omega)).trans ((heap_old (by simp only [World.size_alloc]; omega)).trans ((heap_old (by simp)).trans (heap_at rfl)))
  have B1 : w1.heap[w.heap.size + 1]? = some (.cells #[.int .i64 0, .int .i64 0, .int .i64 0] 27 (0, 0)) := (hB1.block (w.heap.size + 1) (by simp)).trans ((heap_old (by simp)).trans (heap_at (by simp)))
  have B2 : w1.heap[w.heap.size + 1 + 1]? = some (.cells #[.int .i64 0, .int .i64 0, .int .i64 0, .int .i64 0, .int .i64 0, .int .i64 0, .int .i64 0] 29 (0, 0)) := (hB1.block (w.heap.size + 1 + 1) (by simp)).trans (heap_at (by simp))
  have B3 : Below w.heap.size w w1 := bthen' (by repeat (first | exact Below.refl _ _ | refine balloc ?_ _)) hB1
  simp only [World.size_alloc] at hR1 ⊢
  obtain ⟨g, hg⟩ : ∃ g, g = w.heap.size + 1 + 1 + 1 := ⟨_, rfl⟩
  have hg1 : w.heap.size + 2 < g := by omega
  simp only [← hg] at hR1 ⊢
  clear hg hB1
  apply_assumption
  go_wp2_with fail
  refine (l72Apps_c g g 0 _ hR1 (by omega)).mono ?_
  rintro e w2 ⟨v, xs, rfl, hRd, hl, hx, hR2, HC⟩
  obtain ⟨b, o, cp, rfl, hFb⟩ : ∃ b o cp, v = .slice (some ⟨b, o, none⟩) xs.length cp ∧ w1.heap.size ≤ b := by
    obtain ⟨A', c', rfl, _, _, h3⟩ := hRd
    obtain ⟨b, o, rfl, hFb, _⟩ := h3 (by omega)
    exact ⟨b, o, c', rfl, hFb⟩
  have hg2 := hR1.lt
  have hg3 := HC.size
  apply_assumption
  go_wp2_with fail
  refine (pick_c g g _ _ _ (Rdr.ch (S := fun k => g < k) hR2 (by repeat (first | (with_reducible exact Ch.refl _ _) | (with_reducible refine Ch.drew ?_) | (with_reducible refine Ch.alloc ?_ _) | with_reducible refine Ch.setCell ?_ (Or.inl (by simp only; omega)) _)) (fun k hk hk' => absurd hk (Nat.not_le.2 hk'))) (by omega) (by omega)).mono ?_; rintro e w3 ⟨n3, rfl, hn3, hR3, hC3⟩
  have HC := HC.trans hC3
  apply_assumption
  go_wp2_with fail
  refine (pick_c g g _ _ _ (Rdr.ch (S := fun k => g < k) hR3 (by repeat (first | (with_reducible exact Ch.refl _ _) | (with_reducible refine Ch.drew ?_) | (with_reducible refine Ch.alloc ?_ _) | with_reducible refine Ch.setCell ?_ (Or.inl (by simp only; omega)) _)) (fun k hk hk' => absurd hk (Nat.not_le.2 hk'))) (by omega) (by omega)).mono ?_; rintro e w4 ⟨n4, rfl, hn4, hR4, hC4⟩
  have HC := HC.trans hC4
  apply_assumption
  go_wp2_with fail
  refine (pick_c g g _ _ _ (Rdr.ch (S := fun k => g < k) hR4 (by repeat (first | (with_reducible exact Ch.refl _ _) | (with_reducible refine Ch.drew ?_) | (with_reducible refine Ch.alloc ?_ _) | with_reducible refine Ch.setCell ?_ (Or.inl (by simp only; omega)) _)) (fun k hk hk' => absurd hk (Nat.not_le.2 hk'))) (by omega) (by omega)).mono ?_; rintro e w5 ⟨n5, rfl, hn5, hR5, hC5⟩
  have HC := HC.trans hC5
  apply_assumption
  go_wp2_with fail
  refine (pick_c g g _ _ _ (Rdr.ch (S := fun k => g < k) hR5 (by repeat (first | (with_reducible exact Ch.refl _ _) | (with_reducible refine Ch.drew ?_) | (with_reducible refine Ch.alloc ?_ _) | with_reducible refine Ch.setCell ?_ (Or.inl (by simp only; omega)) _)) (fun k hk hk' => absurd hk (Nat.not_le.2 hk'))) (by omega) (by omega)).mono ?_; rintro e w6 ⟨n6, rfl, hn6, hR6, hC6⟩
  have HC := (HC.alloc (.cells #[.int .i64 n3, .int .i64 n4, .int .i64 n5] 27)).trans hC6
  have hz5 := hC3.size
  have hz6 := hC4.size
  have hz7 := hC5.size
  have hz8 := hC6.size
  simp only [World.size_alloc] at hz8
  have B7 : w6.heap[w5.heap.size]? = some (.cells #[.int .i64 n3, .int .i64 n4, .int .i64 n5] 27 (0, 0)) := hC6.heap (heap_at rfl) (fun hk => by have : w5.heap.size = g := hk; omega)
  apply_assumption
  go_upto_if 21 with fail
  go_cut [] (fun wc => ∃ sx : Int, wc.heap[w5.heap.size]? = some (.cells #[.int .i64 sx, .int .i64 n4, .int .i64 n5] 27 (0, 0)) ∧ Rdr wc g g 415 ∧ Ch (fun k => k = g ∨ k = w5.heap.size) w6 wc)
  case first =>
    by_cases hx6 : n6 = 0
    · have hd : ((n6 : Int) == 0) = true := by simp [hx6]
      clear hx6
      go_wp2_with fail
      refine (pick_c g g _ _ _ (Rdr.ch (S := fun k => g < k) hR6 (by repeat (first | (with_reducible exact Ch.refl _ _) | (with_reducible refine Ch.drew ?_) | (with_reducible refine Ch.alloc ?_ _) | with_reducible refine Ch.setCell ?_ (Or.inl (by simp only; omega)) _)) (fun k hk hk' => absurd hk (Nat.not_le.2 hk'))) (by omega) (by omega)).mono ?_; rintro e w7 ⟨n7, rfl, hn7, hR7, hC7⟩
      have hrow := hC7.heap (heap_at rfl) (fun hk => by have : w6.heap.size = g := hk; omega)
      have B7b := hC7.heap (below_heap (balloc (Below.refl w6.heap.size w6) _) (blk_lt B7) B7) (fun hk => by have : w5.heap.size = g := hk; omega)
      obtain ⟨sv, hsv⟩ : ∃ sv, w7.cell? ⟨w6.heap.size, n7, none⟩ = some (.int .i64 sv) := by
        rcases (show n7 = 0 ∨ n7 = 1 by omega) with rfl | rfl <;> exact ⟨_, blk_cell hrow _⟩
      have b70 := blk_cell B7b 0
      have b7f := blk_frozen B7b 0
      simp at b70
      have hq7 : (n7 : Int) < 2 := by omega
      have s7 := blk_set B7b 0 (.int .i64 sv)
      have HCF := Ch.setCell (S := fun k => k = g ∨ k = w5.heap.size) (p := ⟨w5.heap.size, 0, none⟩) (((Ch.refl _ _).alloc _).trans (hC7.mono (fun k hk => Or.inl hk))) (Or.inl (Or.inr rfl)) (.int .i64 sv)
      apply_assumption
      go_wp2_with fail
      go_meet
      exact ⟨sv, s7, (hR7.ch (Ch.setCell (S := fun k => g < k) (p := ⟨w5.heap.size, 0, none⟩) (Ch.refl _ _) (Or.inl (by simp; omega)) _) (fun k hk hk' => absurd hk (Nat.not_le.2 hk'))).move rfl (fun _ _ => rfl) (by omega), HCF⟩
    · have hd : ((n6 : Int) == 0) = false := by simp; omega
      go_wp2_with fail
      go_meet
      exact ⟨n3, B7, hR6.move rfl (fun _ _ => rfl) (by omega), Ch.refl _ _⟩
  case rest =>
    obtain ⟨sx, B7c, hRc, hCc⟩ := hcut
    have HCc := HC.mono (S' := fun k => k = g ∨ k = w5.heap.size) (fun k hk => Or.inl hk) |>.trans hCc
    have hRdc := Rd.ch hRd.bound (hc := (((hC3.trans hC4).trans hC5).mono (S' := fun k => k = g ∨ w2.heap.size ≤ k) (fun k hk => Or.inl hk) |>.alloc (.cells #[.int .i64 n3, .int .i64 n4, .int .i64 n5] 27) |>.trans (hC6.mono (fun k hk => Or.inl hk)) |>.trans (hCc.mono (fun k hk => hk.imp id (fun hk => by have : k = w5.heap.size := hk; omega))))) (fun k hk hk' => by
      have h1 : w1.heap.size ≤ k := hk.1
      have h2 : k < w2.heap.size := hk.2
      rcases hk' with h3 | h3
      · have h4 : k = g := h3; omega
      · have h4 : w2.heap.size ≤ k := h3; omega)
    have hzc := hCc.size
    have hne0 : ∀ k, k < g → ¬ (k = g ∨ k = w5.heap.size) := fun k hk hk' => by omega
    have B0c := HCc.heap B0 (hne0 _ (by omega))
    have B1c := HCc.heap B1 (hne0 _ (by omega))
    have B2c := HCc.heap B2 (hne0 _ (by omega))
    have hgc := hRc.lt
    have hb5c := blk_lt B7c
    have hng5 : ¬ w5.heap.size = g := by omega
    have hng6 : ¬ (w.heap.size ≤ w5.heap.size ∧ w5.heap.size < g) := by omega
    have hbg8 : ¬ b = g := by omega
    have hbg9 : ¬ (w.heap.size ≤ b ∧ b < g) := by omega
    have t0 : wc.cell? ⟨w5.heap.size, 0, none⟩ = some (.int .i64 sx) := blk_cell B7c 0
    have t1 : wc.cell? ⟨w5.heap.size, 1, none⟩ = some (.int .i64 n4) := blk_cell B7c 1
    have t2 : wc.cell? ⟨w5.heap.size, 2, none⟩ = some (.int .i64 n5) := blk_cell B7c 2
    clear B0 B1 B2 B7 hRd hR1 hR2 hR3 hR4 hR5 hR6 HC hC3 hC4 hC5 hC6 hCc h hb
    go_wp2_with fail
    refine region_plan (fun w' => Ch (fun k => k = g ∨ (w.heap.size ≤ k ∧ k < g)) wc w') [(0, true), (1, true), (2, true), (3, true), (7, true), (8, true), (4, false), (5, true), (6, true), (9, false), (10, false), (11, false), (12, false)] (by kernel_rfl) (by kernel_rfl) (fun _ _ d _ _ h => by cases d <;> exact h) ?_
    have HC := (Ch.refl (fun k => k = g) wc).drew
    have HS := (Ch.refl (fun k => k = g ∨ (w.heap.size ≤ k ∧ k < g)) wc).drew
    iterate 6 (first | (refine seq_take (v := ?_) (by rfl) HS (by rfl) ?_ ?_; rotate_left; (focus (intro wS hS; obtain ⟨kc, kf⟩ := hS.cells; go_simp; (try (with_reducible rfl)); done)); (intro K hK; go_simp; refine hK _ ?_; clear hK K)) | (refine seq_skip (by rfl) HS (by rfl) ?_; (intro K hK; go_simp; refine hK _ ?_; clear hK K)))
    refine seq_do (by rfl) (by rfl) (fun K hK => ?_)
    go_simp
    refine (pick_c g g _ _ _ (Rdr.ch (S := fun k => g < k) hRc (by repeat (first | (with_reducible exact Ch.refl _ _) | (with_reducible refine Ch.drew ?_) | (with_reducible refine Ch.alloc ?_ _) | with_reducible refine Ch.setCell ?_ (Or.inl (by simp only; omega)) _)) (fun k hk hk' => absurd hk (Nat.not_le.2 hk'))) (by omega) (by omega)).mono ?_; rintro e w8 ⟨n8, rfl, hn8, hR8, hC8⟩
    have HS := HS.trans (hC8.mono (fun k hk => Or.inl hk))
    have HC := HC.trans hC8
    obtain ⟨b', o', A1, c1, hbo, hbl, hce, hRr⟩ := app_at hRdc n8 (by omega)
    simp only [Option.some.injEq, Addr.mk.injEq, and_true] at hbo
    obtain ⟨rfl, rfl⟩ := hbo
    have hq8 : (n8 : Int) < xs.length := by omega
    refine hK _ _ (Or.inr HS) ?_; clear hK K
    iterate 2 (first | (refine seq_take (v := ?_) (by rfl) HS (by rfl) ?_ ?_; rotate_left; (focus (intro wS hS; obtain ⟨kc, kf⟩ := hS.cells; go_simp; (try (with_reducible rfl)); done)); (intro K hK; go_simp; refine hK _ ?_; clear hK K)) | (refine seq_skip (by rfl) HS (by rfl) ?_; (intro K hK; go_simp; refine hK _ ?_; clear hK K)))
    refine seq_do (by rfl) (by rfl) (fun K hK => ?_)
    go_simp
    refine (l72Event_c g g _ _ hR8 (by omega)).mono ?_
    rintro e w9 ⟨ev, rfl, hR9, hC9⟩
    have HS := HS.trans (hC9.mono (fun k hk => Or.inl hk))
    have HC := HC.trans hC9
    unfold evAgg
    refine hK _ _ (Or.inr HS) ?_; clear hK K
    refine seq_do (by rfl) (by rfl) (fun K hK => ?_)
    have B0d := HC.heap B0c (fun hk => by have : w.heap.size = g := hk; omega)
    have B1d := HC.heap B1c (fun hk => by have : w.heap.size + 1 = g := hk; omega)
    have B2d := HC.heap B2c (fun hk => by have : w.heap.size + 1 + 1 = g := hk; omega)
    have u0 := blk_cell B0d 0
    have uf := blk_frozen B0d 0
    simp at u0
    go_simp
    have HS := HS.setCell (p := ⟨w.heap.size, 0, none⟩) (Or.inl (Or.inr (by simp only; omega))) (.slice A1 xs[n8].rules.length c1)
    refine hK _ _ (Or.inr HS) ?_; clear hK K
    refine seq_do (by rfl) (by rfl) (fun K hK => ?_)
    have B1e := (Below.heap_setCell w9 ⟨w.heap.size, 0, none⟩ (.slice A1 xs[n8].rules.length c1) (w.heap.size + 1) (by simp only; omega)).trans B1d
    have B2e := (Below.heap_setCell w9 ⟨w.heap.size, 0, none⟩ (.slice A1 xs[n8].rules.length c1) (w.heap.size + 1 + 1) (by simp only; omega)).trans B2d
    have B0e := blk_set B0d 0 (.slice A1 xs[n8].rules.length c1)
    obtain ⟨y0, y1, y2, yf⟩ := cells3 B1e
    go_simp
    have HS := ((HS.setCell (p := ⟨w.heap.size + 1, 0, none⟩) (Or.inl (Or.inr (by simp only; omega))) (.int .i64 sx)).setCell (p := ⟨w.heap.size + 1, 1, none⟩) (Or.inl (Or.inr (by simp only; omega))) (.int .i64 n4)).setCell (p := ⟨w.heap.size + 1, 2, none⟩) (Or.inl (Or.inr (by simp only; omega))) (.int .i64 n5)
    refine hK _ _ (Or.inr HS) ?_; clear hK K
    refine seq_do (by rfl) (by rfl) (fun K hK => ?_)
    have B1f := store3 B1e (.int .i64 sx) (.int .i64 n4) (.int .i64 n5)
    have B0f := (Below.heap_setCell _ ⟨w.heap.size + 1, 2, none⟩ (.int .i64 n5) w.heap.size (by simp only; omega)).trans ((Below.heap_setCell _ ⟨w.heap.size + 1, 1, none⟩ (.int .i64 n4) w.heap.size (by simp only; omega)).trans ((Below.heap_setCell _ ⟨w.heap.size + 1, 0, none⟩ (.int .i64 sx) w.heap.size (by simp only; omega)).trans B0e))
    have B2f := (Below.heap_setCell _ ⟨w.heap.size + 1, 2, none⟩ (.int .i64 n5) (w.heap.size + 1 + 1) (by simp only; omega)).trans ((Below.heap_setCell _ ⟨w.heap.size + 1, 1, none⟩ (.int .i64 n4) (w.heap.size + 1 + 1) (by simp only; omega)).trans ((Below.heap_setCell _ ⟨w.heap.size + 1, 0, none⟩ (.int .i64 sx) (w.heap.size + 1 + 1) (by simp only; omega)).trans B2e))
    obtain ⟨⟨x0, x1, x2, x3, x4, x5, x6⟩, xf⟩ := cells7 B2f
    generalize hWQ : (((w9.setCell ⟨w.heap.size, 0, none⟩ (.slice A1 xs[n8].rules.length c1)).setCell ⟨w.heap.size + 1, 0, none⟩ (.int .i64 sx)).setCell ⟨w.heap.size + 1, 1, none⟩ (.int .i64 n4)).setCell ⟨w.heap.size + 1, 2, none⟩ (.int .i64 n5) = wq at *
    clear hWQ
    go_simp
    refine hK _ _ (Or.inl (by kernel_rfl)) ?_; clear hK K
    simp only [wpSeq]
    have B2g := store7 B2f ev.time ev.to ev.from_ ev.count ev.n ev.kind ev.arg
    have keep : ∀ (u : World) (k q : Nat) (x : Value), k ≠ w.heap.size + 1 + 1 → (u.setCell ⟨w.heap.size + 1 + 1, q, none⟩ x).heap[k]? = u.heap[k]? := fun u k q x hk => Below.heap_setCell _ _ _ _ hk
    have K0 : ∀ u : World, u.heap[w.heap.size]? = wq.heap[w.heap.size]? → ∀ q x, (u.setCell ⟨w.heap.size + 1 + 1, q, none⟩ x).heap[w.heap.size]? = wq.heap[w.heap.size]? := fun u hu q x => (keep u _ q x (by omega)).trans hu
    have K1 : ∀ u : World, u.heap[w.heap.size + 1]? = wq.heap[w.heap.size + 1]? → ∀ q x, (u.setCell ⟨w.heap.size + 1 + 1, q, none⟩ x).heap[w.heap.size + 1]? = wq.heap[w.heap.size + 1]? := fun u hu q x => (keep u _ q x (by omega)).trans hu
    have B0g := (K0 _ (K0 _ (K0 _ (K0 _ (K0 _ (K0 _ (K0 _ rfl 0 (.int .i64 ev.time)) 1 (.int .i64 ev.to)) 2 (.int .i64 ev.from_)) 3 (.int .i64 ev.count)) 4 (.int .i64 ev.n)) 5 (.int .i64 ev.kind)) 6 (.int .i64 ev.arg)).trans B0f
    have B1g := (K1 _ (K1 _ (K1 _ (K1 _ (K1 _ (K1 _ (K1 _ rfl 0 (.int .i64 ev.time)) 1 (.int .i64 ev.to)) 2 (.int .i64 ev.from_)) 3 (.int .i64 ev.count)) 4 (.int .i64 ev.n)) 5 (.int .i64 ev.kind)) 6 (.int .i64 ev.arg)).trans B1f
    have HSF : ∀ u : World, Ch (fun k => k = g ∨ (w.heap.size ≤ k ∧ k < g)) wc u → ∀ q x, Ch (fun k => k = g ∨ (w.heap.size ≤ k ∧ k < g)) wc (u.setCell ⟨w.heap.size + 1 + 1, q, none⟩ x) := fun u hu q x => hu.setCell (p := ⟨w.heap.size + 1 + 1, q, none⟩) (Or.inl (Or.inr (by simp only; omega))) x
    have HS7 := HSF _ (HSF _ (HSF _ (HSF _ (HSF _ (HSF _ (HSF _ HS 0 (.int .i64 ev.time)) 1 (.int .i64 ev.to)) 2 (.int .i64 ev.from_)) 3 (.int .i64 ev.count)) 4 (.int .i64 ev.n)) 5 (.int .i64 ev.kind)) 6 (.int .i64 ev.arg)
    clear keep K0 K1 HSF
    go_wp2_with fail
    generalize hWQ : (((((((wq.setCell ⟨w.heap.size + 1 + 1, 0, none⟩ (.int .i64 ev.time)).setCell ⟨w.heap.size + 1 + 1, 1, none⟩ (.int .i64 ev.to)).setCell ⟨w.heap.size + 1 + 1, 2, none⟩ (.int .i64 ev.from_)).setCell ⟨w.heap.size + 1 + 1, 3, none⟩ (.int .i64 ev.count)).setCell ⟨w.heap.size + 1 + 1, 4, none⟩ (.int .i64 ev.n)).setCell ⟨w.heap.size + 1 + 1, 5, none⟩ (.int .i64 ev.kind)).setCell ⟨w.heap.size + 1 + 1, 6, none⟩ (.int .i64 ev.arg)) = wz at *
    clear hWQ
    have r0 := blk_cell B0g 0
    simp at r0
    obtain ⟨r1, r2, r3, -⟩ := cells3 B1g
    obtain ⟨⟨r4, r5, r6, r7, r8, r9, r10⟩, -⟩ := cells7 B2g
    refine bodyPost_ret (v := .tuple #[.agg #[.slice A1 xs[n8].rules.length c1], stAgg ⟨sx, n4, n5⟩, evAgg ev]) (by simp [results, Try.results15, go_sem, r0, r1, r2, r3, r4, r5, r6, r7, r8, r9, r10, stAgg, evAgg]) rfl ?_
    have hz1 := B3.size
    refine ⟨_, xs[n8], ⟨sx, n4, n5⟩, ev, rfl, (hRr.ch HS7 (fun k hk hk' => ?_)).mono (fun k hk => Nat.le_trans hz1 hk.1), hx _ (List.getElem_mem _), ⟨by simp only; omega, by simp only; omega⟩, ?_⟩
    · have h1 : w1.heap.size ≤ k := hk.1
      omega
    · exact (((Ch.of_below (S := fun k => w.heap.size ≤ k) B3).trans (HCc.mono (fun k hk => by omega))).trans (HS7.mono (fun k hk => by omega))).below (fun k hk => hk) (Nat.le_refl _)
end Go.Proofs.Ytmnccekljombmaa
