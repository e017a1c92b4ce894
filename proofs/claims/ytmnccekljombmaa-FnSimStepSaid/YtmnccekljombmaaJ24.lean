/- Texts joined: Draw5, Rec, AppI. -/
import Derived.Test.YtmnccekljombmaaJ23
import Derived.Deep.DeepCutAuto
import Derived.Test.YtmnccekljombmaaJ22
import Derived.Defers
import Derived.Recover
import Derived.Laws.Pointers
import Derived.Test.YtmnccekljombmaaJ10
namespace Go.Proofs.Ytmnccekljombmaa
set_option linter.unusedVariables false
set_option linter.unusedSimpArgs false
set_option maxRecDepth 100000
open Go.RowKit
theorem cells3 {w : World} {s : Nat} {t : TypeId} {a b c : Value} (h : w.heap[s]? = some (.cells #[a, b, c] t (0, 0))) :
    w.cell? ⟨s, 0, none⟩ = some a ∧ w.cell? ⟨s, 1, none⟩ = some b ∧ w.cell? ⟨s, 2, none⟩ = some c ∧ ∀ i, w.frozen? ⟨s, i, none⟩ = false :=
  ⟨blk_cell h 0, blk_cell h 1, blk_cell h 2, blk_frozen h⟩
theorem store3 {w1 : World} {s : Nat} {t : TypeId} {z0 z1 z2 : Value} (hb : w1.heap[s]? = some (.cells #[z0, z1, z2] t (0, 0))) (a b c : Value) :
    (((w1.setCell ⟨s, 0, none⟩ a).setCell ⟨s, 1, none⟩ b).setCell ⟨s, 2, none⟩ c).heap[s]? = some (.cells #[a, b, c] t (0, 0)) :=
  blk_set (blk_set (blk_set hb 0 _) 1 _) 2 _
def stAgg (s : StD) : Value := .agg #[.int .i64 s.x, .int .i64 s.y, .int .i64 s.c]
def DrawnRun (w : World) (q : Ending) (w' : World) : Prop :=
  ∃ (v : Value) (a : AppD) (s : StD) (e : EvD), q = .returned (.tuple #[.agg #[v], stAgg s, evAgg e]) ∧ Rd tRule w' (fun k => w.heap.size ≤ k) v a.rules ∧ a.rules.length ≤ 4 ∧ (0 ≤ s.c ∧ s.c ≤ 12) ∧ Below w.heap.size w w'
set_option maxHeartbeats 2000000 in
theorem DrawAppRun_c (A : Option Addr) (c : Nat) (bs : List Int) (w : World) (h : Rd (tInt .u8) w (fun k => k < w.heap.size) (.slice A bs.length c) bs) (hb : ∀ x ∈ bs, 0 ≤ x ∧ x ≤ 255) :
    Calls Try.prog 15 #[.slice A bs.length c] w (DrawnRun w) := by
  go_enter Try.func15, Try.ntmps15
  go_wp2_with fail
  refine (l6Open_c A c bs _ ((h.below (by repeat (first | exact Below.refl _ _ | refine balloc ?_ _))).mono (fun k hk => by simp; omega)) hb).mono ?_
  rintro e w1 ⟨rfl, hR1, hB1⟩
  have B0 : w1.heap[w.heap.size]? = some (.cells #[.slice none 0 0] 25 (0, 0)) := (hB1.block w.heap.size (by simp only [World.size_alloc]; omega)).trans ((heap_old (by simp only [World.size_alloc]; omega)).trans ((heap_old (by simp)).trans (heap_at rfl)))
  have B1 : w1.heap[w.heap.size + 1]? = some (.cells #[.int .i64 0, .int .i64 0, .int .i64 0] 27 (0, 0)) := (hB1.block (w.heap.size + 1) (by simp)).trans ((heap_old (by simp)).trans (heap_at (by simp)))
  have B2 : w1.heap[w.heap.size + 1 + 1]? = some (.cells #[.int .i64 0, .int .i64 0, .int .i64 0, .int .i64 0, .int .i64 0, .int .i64 0, .int .i64 0] 29 (0, 0)) := (hB1.block (w.heap.size + 1 + 1) (by simp)).trans (heap_at (by simp))
  have B3 : Below w.heap.size w w1 := bthen' (by repeat (first | exact Below.refl _ _ | refine balloc ?_ _)) hB1
  simp only [World.size_alloc] at hR1 ⊢
  obtain ⟨g, hg⟩ : ∃ g, g = w.heap.size + 1 + 1 + 1 := ⟨_, rfl⟩
  have hg1 : w.heap.size + 2 < g := by omega
  simp only [← hg] at hR1 ⊢
  clear hg hB1
  apply_assumption
  go_wp2_with fail
  refine (l72Apps_c g g 0 _ hR1 (by omega)).mono ?_
  rintro e w2 ⟨v, xs, rfl, hRd, hl, hx, hR2, HC⟩
  obtain ⟨b, o, cp, rfl, hFb⟩ : ∃ b o cp, v = .slice (some ⟨b, o, none⟩) xs.length cp ∧ w1.heap.size ≤ b := by
    obtain ⟨A', c', rfl, _, _, h3⟩ := hRd
    obtain ⟨b, o, rfl, hFb, _⟩ := h3 (by omega)
    exact ⟨b, o, c', rfl, hFb⟩
  have hg2 := hR1.lt
  have hg3 := HC.size
  apply_assumption
  go_wp2_with fail
  refine (pick_c g g _ _ _ (Rdr.ch (S := fun k => g < k) hR2 (by repeat (first | (with_reducible exact Ch.refl _ _) | (with_reducible refine Ch.drew ?_) | (with_reducible refine Ch.alloc ?_ _) | with_reducible refine Ch.setCell ?_ (Or.inl (by simp only; omega)) _)) (fun k hk hk' => absurd hk (Nat.not_le.2 hk'))) (by omega) (by omega)).mono ?_; rintro e w3 ⟨n3, rfl, hn3, hR3, hC3⟩
  have HC := HC.trans hC3
  apply_assumption
  go_wp2_with fail
  refine (pick_c g g _ _ _ (Rdr.ch (S := fun k => g < k) hR3 (by repeat (first | (with_reducible exact Ch.refl _ _) | (with_reducible refine Ch.drew ?_) | (with_reducible refine Ch.alloc ?_ _) | with_reducible refine Ch.setCell ?_ (Or.inl (by simp only; omega)) _)) (fun k hk hk' => absurd hk (Nat.not_le.2 hk'))) (by omega) (by omega)).mono ?_; rintro e w4 ⟨n4, rfl, hn4, hR4, hC4⟩
  have HC := HC.trans hC4
  apply_assumption
  go_wp2_with fail
  refine (pick_c g g _ _ _ (Rdr.ch (S := fun k => g < k) hR4 (by repeat (first | (with_reducible exact Ch.refl _ _) | (with_reducible refine Ch.drew ?_) | (with_reducible refine Ch.alloc ?_ _) | with_reducible refine Ch.setCell ?_ (Or.inl (by simp only; omega)) _)) (fun k hk hk' => absurd hk (Nat.not_le.2 hk'))) (by omega) (by omega)).mono ?_; rintro e w5 ⟨n5, rfl, hn5, hR5, hC5⟩
  have HC := HC.trans hC5
  apply_assumption
  go_wp2_with fail
  refine (pick_c g g _ _ _ (Rdr.ch (S := fun k => g < k) hR5 (by repeat (first | (with_reducible exact Ch.refl _ _) | (with_reducible refine Ch.drew ?_) | (with_reducible refine Ch.alloc ?_ _) | with_reducible refine Ch.setCell ?_ (Or.inl (by simp only; omega)) _)) (fun k hk hk' => absurd hk (Nat.not_le.2 hk'))) (by omega) (by omega)).mono ?_; rintro e w6 ⟨n6, rfl, hn6, hR6, hC6⟩
  have HC := (HC.alloc (.cells #[.int .i64 n3, .int .i64 n4, .int .i64 n5] 27)).trans hC6
  have hz5 := hC3.size
  have hz6 := hC4.size
  have hz7 := hC5.size
  have hz8 := hC6.size
  simp only [World.size_alloc] at hz8
  have B7 : w6.heap[w5.heap.size]? = some (.cells #[.int .i64 n3, .int .i64 n4, .int .i64 n5] 27 (0, 0)) := hC6.heap (heap_at rfl) (fun hk => by have : w5.heap.size = g := hk; omega)
  apply_assumption
  go_upto_if 21 with fail
  go_cut [] (fun wc => ∃ sx : Int, wc.heap[w5.heap.size]? = some (.cells #[.int .i64 sx, .int .i64 n4, .int .i64 n5] 27 (0, 0)) ∧ Rdr wc g g 415 ∧ Ch (fun k => k = g ∨ k = w5.heap.size) w6 wc)
  case first =>
    by_cases hx6 : n6 = 0
    · have hd : ((n6 : Int) == 0) = true := by simp [hx6]
      clear hx6
      go_wp2_with fail
      refine (pick_c g g _ _ _ (Rdr.ch (S := fun k => g < k) hR6 (by repeat (first | (with_reducible exact Ch.refl _ _) | (with_reducible refine Ch.drew ?_) | (with_reducible refine Ch.alloc ?_ _) | with_reducible refine Ch.setCell ?_ (Or.inl (by simp only; omega)) _)) (fun k hk hk' => absurd hk (Nat.not_le.2 hk'))) (by omega) (by omega)).mono ?_; rintro e w7 ⟨n7, rfl, hn7, hR7, hC7⟩
      have hrow := hC7.heap (heap_at rfl) (fun hk => by have : w6.heap.size = g := hk; omega)
      have B7b := hC7.heap (below_heap (balloc (Below.refl w6.heap.size w6) _) (blk_lt B7) B7) (fun hk => by have : w5.heap.size = g := hk; omega)
      obtain ⟨sv, hsv⟩ : ∃ sv, w7.cell? ⟨w6.heap.size, n7, none⟩ = some (.int .i64 sv) := by
        rcases (show n7 = 0 ∨ n7 = 1 by omega) with rfl | rfl <;> exact ⟨_, blk_cell hrow _⟩
      have b70 := blk_cell B7b 0
      have b7f := blk_frozen B7b 0
      simp at b70
      have hq7 : (n7 : Int) < 2 := by omega
      have s7 := blk_set B7b 0 (.int .i64 sv)
      have HCF := Ch.setCell (S := fun k => k = g ∨ k = w5.heap.size) (p := ⟨w5.heap.size, 0, none⟩) (((Ch.refl _ _).alloc _).trans (hC7.mono (fun k hk => Or.inl hk))) (Or.inl (Or.inr rfl)) (.int .i64 sv)
      apply_assumption
      go_wp2_with fail
      go_meet
      exact ⟨sv, s7, (hR7.ch (Ch.setCell (S := fun k => g < k) (p := ⟨w5.heap.size, 0, none⟩) (Ch.refl _ _) (Or.inl (by simp; omega)) _) (fun k hk hk' => absurd hk (Nat.not_le.2 hk'))).move rfl (fun _ _ => rfl) (by omega), HCF⟩
    · have hd : ((n6 : Int) == 0) = false := by simp; omega
      go_wp2_with fail
      go_meet
      exact ⟨n3, B7, hR6.move rfl (fun _ _ => rfl) (by omega), Ch.refl _ _⟩
  case rest =>
    obtain ⟨sx, B7c, hRc, hCc⟩ := hcut
    have HCc := HC.mono (S' := fun k => k = g ∨ k = w5.heap.size) (fun k hk => Or.inl hk) |>.trans hCc
    have hRdc := Rd.ch hRd.bound (hc := (((hC3.trans hC4).trans hC5).mono (S' := fun k => k = g ∨ w2.heap.size ≤ k) (fun k hk => Or.inl hk) |>.alloc (.cells #[.int .i64 n3, .int .i64 n4, .int .i64 n5] 27) |>.trans (hC6.mono (fun k hk => Or.inl hk)) |>.trans (hCc.mono (fun k hk => hk.imp id (fun hk => by have : k = w5.heap.size := hk; omega))))) (fun k hk hk' => by
      have h1 : w1.heap.size ≤ k := hk.1
      have h2 : k < w2.heap.size := hk.2
      rcases hk' with h3 | h3
      · have h4 : k = g := h3; omega
      · have h4 : w2.heap.size ≤ k := h3; omega)
    have hzc := hCc.size
    have hne0 : ∀ k, k < g → ¬ (k = g ∨ k = w5.heap.size) := fun k hk hk' => by omega
    have B0c := HCc.heap B0 (hne0 _ (by omega))
    have B1c := HCc.heap B1 (hne0 _ (by omega))
    have B2c := HCc.heap B2 (hne0 _ (by omega))
    have hgc := hRc.lt
    have hb5c := blk_lt B7c
    have hng5 : ¬ w5.heap.size = g := by omega
    have hng6 : ¬ (w.heap.size ≤ w5.heap.size ∧ w5.heap.size < g) := by omega
    have hbg8 : ¬ b = g := by omega
    have hbg9 : ¬ (w.heap.size ≤ b ∧ b < g) := by omega
    have t0 : wc.cell? ⟨w5.heap.size, 0, none⟩ = some (.int .i64 sx) := blk_cell B7c 0
    have t1 : wc.cell? ⟨w5.heap.size, 1, none⟩ = some (.int .i64 n4) := blk_cell B7c 1
    have t2 : wc.cell? ⟨w5.heap.size, 2, none⟩ = some (.int .i64 n5) := blk_cell B7c 2
    clear B0 B1 B2 B7 hRd hR1 hR2 hR3 hR4 hR5 hR6 HC hC3 hC4 hC5 hC6 hCc h hb
    go_wp2_with fail
    refine region_plan (fun w' => Ch (fun k => k = g ∨ (w.heap.size ≤ k ∧ k < g)) wc w') [(0, true), (1, true), (2, true), (3, true), (7, true), (8, true), (4, false), (5, true), (6, true), (9, false), (10, false), (11, false), (12, false)] (by kernel_rfl) (by kernel_rfl) (fun _ _ d _ _ h => by cases d <;> exact h) ?_
    have HC := (Ch.refl (fun k => k = g) wc).drew
    have HS := (Ch.refl (fun k => k = g ∨ (w.heap.size ≤ k ∧ k < g)) wc).drew
    iterate 6 (first | (refine seq_take (v := ?_) (by rfl) HS (by rfl) ?_ ?_; rotate_left; (focus (intro wS hS; obtain ⟨kc, kf⟩ := hS.cells; go_simp; (try (with_reducible rfl)); done)); (intro K hK; go_simp; refine hK _ ?_; clear hK K)) | (refine seq_skip (by rfl) HS (by rfl) ?_; (intro K hK; go_simp; refine hK _ ?_; clear hK K)))
    refine seq_do (by rfl) (by rfl) (fun K hK => ?_)
    go_simp
    refine (pick_c g g _ _ _ (Rdr.ch (S := fun k => g < k) hRc (by repeat (first | (with_reducible exact Ch.refl _ _) | (with_reducible refine Ch.drew ?_) | (with_reducible refine Ch.alloc ?_ _) | with_reducible refine Ch.setCell ?_ (Or.inl (by simp only; omega)) _)) (fun k hk hk' => absurd hk (Nat.not_le.2 hk'))) (by omega) (by omega)).mono ?_; rintro e w8 ⟨n8, rfl, hn8, hR8, hC8⟩
    have HS := HS.trans (hC8.mono (fun k hk => Or.inl hk))
    have HC := HC.trans hC8
    obtain ⟨b', o', A1, c1, hbo, hbl, hce, hRr⟩ := app_at hRdc n8 (by omega)
    simp only [Option.some.injEq, Addr.mk.injEq, and_true] at hbo
    obtain ⟨rfl, rfl⟩ := hbo
    have hq8 : (n8 : Int) < xs.length := by omega
    refine hK _ _ (Or.inr HS) ?_; clear hK K
    iterate 2 (first | (refine seq_take (v := ?_) (by rfl) HS (by rfl) ?_ ?_; rotate_left; (focus (intro wS hS; obtain ⟨kc, kf⟩ := hS.cells; go_simp; (try (with_reducible rfl)); done)); (intro K hK; go_simp; refine hK _ ?_; clear hK K)) | (refine seq_skip (by rfl) HS (by rfl) ?_; (intro K hK; go_simp; refine hK _ ?_; clear hK K)))
    refine seq_do (by rfl) (by rfl) (fun K hK => ?_)
    go_simp
    refine (l72Event_c g g _ _ hR8 (by omega)).mono ?_
    rintro e w9 ⟨ev, rfl, hR9, hC9⟩
    have HS := HS.trans (hC9.mono (fun k hk => Or.inl hk))
    have HC := HC.trans hC9
    unfold evAgg
    refine hK _ _ (Or.inr HS) ?_; clear hK K
    refine seq_do (by rfl) (by rfl) (fun K hK => ?_)
    have B0d := HC.heap B0c (fun hk => by have : w.heap.size = g := hk; omega)
    have B1d := HC.heap B1c (fun hk => by have : w.heap.size + 1 = g := hk; omega)
    have B2d := HC.heap B2c (fun hk => by have : w.heap.size + 1 + 1 = g := hk; omega)
    have u0 := blk_cell B0d 0
    have uf := blk_frozen B0d 0
    simp at u0
    go_simp
    have HS := HS.setCell (p := ⟨w.heap.size, 0, none⟩) (Or.inl (Or.inr (by simp only; omega))) (.slice A1 xs[n8].rules.length c1)
    refine hK _ _ (Or.inr HS) ?_; clear hK K
    refine seq_do (by rfl) (by rfl) (fun K hK => ?_)
    have B1e := (Below.heap_setCell w9 ⟨w.heap.size, 0, none⟩ (.slice A1 xs[n8].rules.length c1) (w.heap.size + 1) (by simp only; omega)).trans B1d
    have B2e := (Below.heap_setCell w9 ⟨w.heap.size, 0, none⟩ (.slice A1 xs[n8].rules.length c1) (w.heap.size + 1 + 1) (by simp only; omega)).trans B2d
    have B0e := blk_set B0d 0 (.slice A1 xs[n8].rules.length c1)
    obtain ⟨y0, y1, y2, yf⟩ := cells3 B1e
    go_simp
    have HS := ((HS.setCell (p := ⟨w.heap.size + 1, 0, none⟩) (Or.inl (Or.inr (by simp only; omega))) (.int .i64 sx)).setCell (p := ⟨w.heap.size + 1, 1, none⟩) (Or.inl (Or.inr (by simp only; omega))) (.int .i64 n4)).setCell (p := ⟨w.heap.size + 1, 2, none⟩) (Or.inl (Or.inr (by simp only; omega))) (.int .i64 n5)
    refine hK _ _ (Or.inr HS) ?_; clear hK K
    refine seq_do (by rfl) (by rfl) (fun K hK => ?_)
    have B1f := store3 B1e (.int .i64 sx) (.int .i64 n4) (.int .i64 n5)
    have B0f := (Below.heap_setCell _ ⟨w.heap.size + 1, 2, none⟩ (.int .i64 n5) w.heap.size (by simp only; omega)).trans ((Below.heap_setCell _ ⟨w.heap.size + 1, 1, none⟩ (.int .i64 n4) w.heap.size (by simp only; omega)).trans ((Below.heap_setCell _ ⟨w.heap.size + 1, 0, none⟩ (.int .i64 sx) w.heap.size (by simp only; omega)).trans B0e))
    have B2f := (Below.heap_setCell _ ⟨w.heap.size + 1, 2, none⟩ (.int .i64 n5) (w.heap.size + 1 + 1) (by simp only; omega)).trans ((Below.heap_setCell _ ⟨w.heap.size + 1, 1, none⟩ (.int .i64 n4) (w.heap.size + 1 + 1) (by simp only; omega)).trans ((Below.heap_setCell _ ⟨w.heap.size + 1, 0, none⟩ (.int .i64 sx) (w.heap.size + 1 + 1) (by simp only; omega)).trans B2e))
    obtain ⟨⟨x0, x1, x2, x3, x4, x5, x6⟩, xf⟩ := cells7 B2f
    generalize hWQ : (((w9.setCell ⟨w.heap.size, 0, none⟩ (.slice A1 xs[n8].rules.length c1)).setCell ⟨w.heap.size + 1, 0, none⟩ (.int .i64 sx)).setCell ⟨w.heap.size + 1, 1, none⟩ (.int .i64 n4)).setCell ⟨w.heap.size + 1, 2, none⟩ (.int .i64 n5) = wq at *
    clear hWQ
    go_simp
    refine hK _ _ (Or.inl (by kernel_rfl)) ?_; clear hK K
    simp only [wpSeq]
    have B2g := store7 B2f ev.time ev.to ev.from_ ev.count ev.n ev.kind ev.arg
    have keep : ∀ (u : World) (k q : Nat) (x : Value), k ≠ w.heap.size + 1 + 1 → (u.setCell ⟨w.heap.size + 1 + 1, q, none⟩ x).heap[k]? = u.heap[k]? := fun u k q x hk => Below.heap_setCell _ _ _ _ hk
    have K0 : ∀ u : World, u.heap[w.heap.size]? = wq.heap[w.heap.size]? → ∀ q x, (u.setCell ⟨w.heap.size + 1 + 1, q, none⟩ x).heap[w.heap.size]? = wq.heap[w.heap.size]? := fun u hu q x => (keep u _ q x (by omega)).trans hu
    have K1 : ∀ u : World, u.heap[w.heap.size + 1]? = wq.heap[w.heap.size + 1]? → ∀ q x, (u.setCell ⟨w.heap.size + 1 + 1, q, none⟩ x).heap[w.heap.size + 1]? = wq.heap[w.heap.size + 1]? := fun u hu q x => (keep u _ q x (by omega)).trans hu
    have B0g := (K0 _ (K0 _ (K0 _ (K0 _ (K0 _ (K0 _ (K0 _ rfl 0 (.int .i64 ev.time)) 1 (.int .i64 ev.to)) 2 (.int .i64 ev.from_)) 3 (.int .i64 ev.count)) 4 (.int .i64 ev.n)) 5 (.int .i64 ev.kind)) 6 (.int .i64 ev.arg)).trans B0f
    have B1g := (K1 _ (K1 _ (K1 _ (K1 _ (K1 _ (K1 _ (K1 _ rfl 0 (.int .i64 ev.time)) 1 (.int .i64 ev.to)) 2 (.int .i64 ev.from_)) 3 (.int .i64 ev.count)) 4 (.int .i64 ev.n)) 5 (.int .i64 ev.kind)) 6 (.int .i64 ev.arg)).trans B1f
    have HSF : ∀ u : World, Ch (fun k => k = g ∨ (w.heap.size ≤ k ∧ k < g)) wc u → ∀ q x, Ch (fun k => k = g ∨ (w.heap.size ≤ k ∧ k < g)) wc (u.setCell ⟨w.heap.size + 1 + 1, q, none⟩ x) := fun u hu q x => hu.setCell (p := ⟨w.heap.size + 1 + 1, q, none⟩) (Or.inl (Or.inr (by simp only; omega))) x
    have HS7 := HSF _ (HSF _ (HSF _ (HSF _ (HSF _ (HSF _ (HSF _ HS 0 (.int .i64 ev.time)) 1 (.int .i64 ev.to)) 2 (.int .i64 ev.from_)) 3 (.int .i64 ev.count)) 4 (.int .i64 ev.n)) 5 (.int .i64 ev.kind)) 6 (.int .i64 ev.arg)
    clear keep K0 K1 HSF
    go_wp2_with fail
    generalize hWQ : (((((((wq.setCell ⟨w.heap.size + 1 + 1, 0, none⟩ (.int .i64 ev.time)).setCell ⟨w.heap.size + 1 + 1, 1, none⟩ (.int .i64 ev.to)).setCell ⟨w.heap.size + 1 + 1, 2, none⟩ (.int .i64 ev.from_)).setCell ⟨w.heap.size + 1 + 1, 3, none⟩ (.int .i64 ev.count)).setCell ⟨w.heap.size + 1 + 1, 4, none⟩ (.int .i64 ev.n)).setCell ⟨w.heap.size + 1 + 1, 5, none⟩ (.int .i64 ev.kind)).setCell ⟨w.heap.size + 1 + 1, 6, none⟩ (.int .i64 ev.arg)) = wz at *
    clear hWQ
    have r0 := blk_cell B0g 0
    simp at r0
    obtain ⟨r1, r2, r3, -⟩ := cells3 B1g
    obtain ⟨⟨r4, r5, r6, r7, r8, r9, r10⟩, -⟩ := cells7 B2g
    refine bodyPost_ret (v := .tuple #[.agg #[.slice A1 xs[n8].rules.length c1], stAgg ⟨sx, n4, n5⟩, evAgg ev]) (by simp [results, Try.results15, go_sem, r0, r1, r2, r3, r4, r5, r6, r7, r8, r9, r10, stAgg, evAgg]) rfl ?_
    have hz1 := B3.size
    refine ⟨_, xs[n8], ⟨sx, n4, n5⟩, ev, rfl, (hRr.ch HS7 (fun k hk hk' => ?_)).mono (fun k hk => Nat.le_trans hz1 hk.1), hx _ (List.getElem_mem _), ⟨by simp only; omega, by simp only; omega⟩, ?_⟩
    · have h1 : w1.heap.size ≤ k := hk.1
      omega
    · exact (((Ch.of_below (S := fun k => w.heap.size ≤ k) B3).trans (HCc.mono (fun k hk => by omega))).trans (HS7.mono (fun k hk => by omega))).below (fun k hk => hk) (Nat.le_refl _)
end Go.Proofs.Ytmnccekljombmaa

namespace Go.Proofs.Ytmnccekljombmaa
set_option linter.unusedVariables false
set_option linter.unusedSimpArgs false
set_option maxRecDepth 100000
open Go.RowKit
def Checked (a : AppD) (s : StD) (e : EvD) (w : World) (q : Ending) (w' : World) : Prop :=
  (((appOk a && stOk s && evOk e) = true ∧ q = .returned (.tuple #[])) ∨ ((appOk a && stOk s && evOk e) = false ∧ ∃ k : Int, q = .panicked [{ v := .iface 128 (.agg #[.int .i64 k]), recovered := false }])) ∧ Below w.heap.size w w'
set_option maxHeartbeats 2000000 in
theorem checkRun_c (v : Value) (a : AppD) (s : StD) (e : EvD) (F : Nat → Prop) (w : World) (h : Rd tRule w F v a.rules) :
    Calls Try.prog 55 #[.agg #[v], .agg #[.int .i64 s.x, .int .i64 s.y, .int .i64 s.c], .agg #[.int .i64 e.time, .int .i64 e.to, .int .i64 e.from_, .int .i64 e.count, .int .i64 e.n, .int .i64 e.kind, .int .i64 e.arg]] w (Checked a s e w) := by
  obtain ⟨A, cp, rfl, -⟩ := id h
  go_enter Try.func55, Try.ntmps55
  go_wp2_with fail
  refine (appOk_c _ a _ _ (h.below (by repeat (first | exact Below.refl _ _ | refine balloc ?_ _)))).mono ?_
  rintro q w1 ⟨rfl, hb1⟩
  have B1 : w1.heap[w.heap.size + 1]? = some (.cells #[.int .i64 s.x, .int .i64 s.y, .int .i64 s.c] 27 (0, 0)) := (hb1.block (w.heap.size + 1) (by simp)).trans ((heap_old (by simp)).trans (heap_at (by simp)))
  have B2 : w1.heap[w.heap.size + 1 + 1]? = some (.cells #[.int .i64 e.time, .int .i64 e.to, .int .i64 e.from_, .int .i64 e.count, .int .i64 e.n, .int .i64 e.kind, .int .i64 e.arg] 29 (0, 0)) := (hb1.block (w.heap.size + 1 + 1) (by simp)).trans (heap_at (by simp))
  have B3 : Below w.heap.size w w1 := bthen' (by repeat (first | exact Below.refl _ _ | refine balloc ?_ _)) hb1
  clear hb1 h
  apply_assumption
  obtain ⟨a0, a1, a2, af⟩ := cells3 B1
  cases q1 : appOk a with
  | false =>
    go_wp2_with fail
    exact ⟨rfl, Or.inr ⟨by simp [q1], 1, rfl⟩, B3⟩
  | true =>
    go_wp2_with fail
    refine (stateOk_c s.x s.y s.c _).mono ?_
    rintro q w2 ⟨rfl, hb2⟩
    have B4 := (hb2.block (w.heap.size + 1 + 1) (blk_lt B2)).trans B2
    have B5 := bthen' B3 hb2
    clear B1 B2 B3 a0 a1 a2 af hb2
    apply_assumption
    obtain ⟨⟨b0, b1, b2, b3, b4, b5, b6⟩, bf⟩ := cells7 B4
    rw [show stOk ⟨s.x, s.y, s.c⟩ = stOk s from rfl]
    cases q2 : stOk s with
    | false =>
      go_wp2_with fail
      exact ⟨rfl, Or.inr ⟨by simp [q1, q2], 2, rfl⟩, B5⟩
    | true =>
      go_wp2_with fail
      refine (eventOk_c e.time e.to e.from_ e.count e.n e.kind e.arg _).mono ?_
      rintro q w3 ⟨rfl, hb3⟩
      have B6 := bthen' B5 hb3
      clear hb3 B4 b0 b1 b2 b3 b4 b5 b6 bf
      apply_assumption
      rw [show evOk ⟨e.time, e.to, e.from_, e.count, e.n, e.kind, e.arg⟩ = evOk e from rfl]
      cases q3 : evOk e with
      | false =>
        go_wp2_with fail
        exact ⟨rfl, Or.inr ⟨by simp [q1, q2, q3], 3, rfl⟩, B6⟩
      | true =>
        go_wp2_with fail
        go_end0
        exact ⟨Or.inl ⟨by simp [q1, q2, q3], rfl⟩, B6⟩
def wiped (w : World) (p q r : Nat) : World := ((((w.setCell ⟨p, 0, none⟩ (.int .i64 0)).setCell ⟨p, 1, none⟩ (.int .i64 0)).setCell ⟨p, 2, none⟩ (.int .i64 0)).setCell ⟨q, 0, none⟩ (.slice none 0 0)).setCell ⟨r, 0, none⟩ (.slice none 0 0)
theorem catch_panicking (p q r : Nat) (x y z v1 v2 : Value) (u : TypeId) (pv : Value) (older : List PanicEntry) (w : World) (hp : w.heap[p]? = some (.cells #[x, y, z] 27 (0, 0))) (hq : w.heap[q]? = some (.cells #[v1] 32 (0, 0))) (hr : w.heap[r]? = some (.cells #[v2] 33 (0, 0)))
    (hpq : p ≠ q) (hpr : p ≠ r) (hqr : q ≠ r) :
    CallsD Try.prog 54 #[.pointer (some ⟨p, 0, none⟩), .pointer (some ⟨q, 0, none⟩), .pointer (some ⟨r, 0, none⟩)] (.panicking ({ v := .iface u pv, recovered := false } :: older)) w fun e u' w' =>
      e = .returned (.tuple #[]) ∧ u' = .panicking ({ v := .iface u pv, recovered := true } :: older) ∧ w' = wiped w p q r := by
  refine callsD_of_wpS Try.func54 rfl fun c₀ cs hu => ?_
  apply wpS_seq
  apply wpS_region
  simp [wpOpsS, go_sem, recoverD, hu, Try.ntmps54, Exit.thenS]
  refine wpS_cond (t := true) (by simp [Act.eval, Array.replicate]) ?_
  simp only [if_true]
  refine wpS_of_wp ?_
  obtain ⟨p0, p1, p2, pf⟩ := cells3 hp
  have q0 := blk_cell hq 0
  have qf := blk_frozen hq 0
  have r0 := blk_cell hr 0
  have rf := blk_frozen hr 0
  simp at q0 r0
  have e1 : ¬ p = q := hpq
  have e2 : ¬ q = p := fun h => hpq h.symm
  have e3 : ¬ p = r := hpr
  have e4 : ¬ r = p := fun h => hpr h.symm
  have e5 : ¬ q = r := hqr
  have e6 : ¬ r = q := fun h => hqr h.symm
  go_wp2_with fail
  simp [bodyPostS, results, Try.results54, wiped]

theorem catch_idle (p q r : Value) (w : World) :
    CallsD Try.prog 54 #[p, q, r] .returning w fun e u' w' => e = .returned (.tuple #[]) ∧ u' = .returning ∧ w' = w := by
  refine callsD_of_wpS Try.func54 rfl fun c₀ cs hu => ?_
  apply wpS_seq
  apply wpS_region
  simp [wpOpsS, go_sem, recoverD, hu, Try.ntmps54, Exit.thenS]
  refine wpS_cond (t := false) (by simp [Act.eval, Array.replicate]) ?_
  simp only [Bool.false_eq_true, if_false]
  refine wpS_of_wp (wp_skip ?_)
  cases c₀
  simp_all [bodyPostS, results, Try.results54]
end Go.Proofs.Ytmnccekljombmaa

namespace Go.Proofs.Ytmnccekljombmaa
set_option linter.unusedVariables false
set_option linter.unusedSimpArgs false
set_option maxRecDepth 100000
open Go.RowKit
def resW (w : World) (p q r : Nat) (x y z sv ov : Value) : World := ((((w.setCell ⟨p, 0, none⟩ x).setCell ⟨p, 1, none⟩ y).setCell ⟨p, 2, none⟩ z).setCell ⟨q, 0, none⟩ sv).setCell ⟨r, 0, none⟩ ov
theorem resW_heap {w : World} {p q r : Nat} {x y z sv ov : Value} (k : Nat) (h1 : k ≠ p) (h2 : k ≠ q) (h3 : k ≠ r) : (resW w p q r x y z sv ov).heap[k]? = w.heap[k]? :=
  (Below.heap_setCell _ ⟨r, 0, none⟩ ov k h3).trans ((Below.heap_setCell _ ⟨q, 0, none⟩ sv k h2).trans ((Below.heap_setCell _ ⟨p, 2, none⟩ z k h1).trans ((Below.heap_setCell _ ⟨p, 1, none⟩ y k h1).trans (Below.heap_setCell _ ⟨p, 0, none⟩ x k h1))))
theorem resW_cells {w : World} {p q r : Nat} {x y z v1 v2 x' y' z' sv ov : Value} (hp : w.heap[p]? = some (.cells #[x, y, z] 27 (0, 0))) (hq : w.heap[q]? = some (.cells #[v1] 32 (0, 0))) (hr : w.heap[r]? = some (.cells #[v2] 33 (0, 0)))
    (hpq : p ≠ q) (hpr : p ≠ r) (hqr : q ≠ r) :
    (resW w p q r x' y' z' sv ov).cell? ⟨p, 0, none⟩ = some x' ∧ (resW w p q r x' y' z' sv ov).cell? ⟨p, 1, none⟩ = some y' ∧ (resW w p q r x' y' z' sv ov).cell? ⟨p, 2, none⟩ = some z' ∧ (resW w p q r x' y' z' sv ov).cell? ⟨q, 0, none⟩ = some sv ∧ (resW w p q r x' y' z' sv ov).cell? ⟨r, 0, none⟩ = some ov := by
  have hp3 := store3 hp x' y' z'
  have hp4 := (Below.heap_setCell _ ⟨r, 0, none⟩ ov p hpr).trans ((Below.heap_setCell _ ⟨q, 0, none⟩ sv p hpq).trans hp3)
  have hq3 := (Below.heap_setCell _ ⟨p, 2, none⟩ z' q (Ne.symm hpq)).trans ((Below.heap_setCell _ ⟨p, 1, none⟩ y' q (Ne.symm hpq)).trans ((Below.heap_setCell _ ⟨p, 0, none⟩ x' q (Ne.symm hpq)).trans hq))
  have hq4 := blk_set hq3 0 sv
  have hq5 := (Below.heap_setCell _ ⟨r, 0, none⟩ ov q hqr).trans hq4
  have hr3 := (Below.heap_setCell _ ⟨q, 0, none⟩ sv r (Ne.symm hqr)).trans ((Below.heap_setCell _ ⟨p, 2, none⟩ z' r (Ne.symm hpr)).trans ((Below.heap_setCell _ ⟨p, 1, none⟩ y' r (Ne.symm hpr)).trans ((Below.heap_setCell _ ⟨p, 0, none⟩ x' r (Ne.symm hpr)).trans hr)))
  have hr4 := blk_set hr3 0 ov
  exact ⟨blk_cell hp4 0, blk_cell hp4 1, blk_cell hp4 2, blk_cell hq5 0, blk_cell hr4 0⟩
theorem resW_below {w w1 : World} {p q r : Nat} {x y z sv ov : Value} (h : Below w.heap.size w w1) (hp : w.heap.size ≤ p) (hq : w.heap.size ≤ q) (hr : w.heap.size ≤ r) : Below w.heap.size w (resW w1 p q r x y z sv ov) :=
  ((((h.setCell (p := ⟨p, 0, none⟩) hp _).setCell (p := ⟨p, 1, none⟩) hp _).setCell (p := ⟨p, 2, none⟩) hp _).setCell (p := ⟨q, 0, none⟩) hq _).setCell (p := ⟨r, 0, none⟩) hr _
theorem wiped_cells {w : World} {p q r : Nat} {x y z v1 v2 : Value} (hp : w.heap[p]? = some (.cells #[x, y, z] 27 (0, 0))) (hq : w.heap[q]? = some (.cells #[v1] 32 (0, 0))) (hr : w.heap[r]? = some (.cells #[v2] 33 (0, 0)))
    (hpq : p ≠ q) (hpr : p ≠ r) (hqr : q ≠ r) :
    (wiped w p q r).cell? ⟨p, 0, none⟩ = some (.int .i64 0) ∧ (wiped w p q r).cell? ⟨p, 1, none⟩ = some (.int .i64 0) ∧ (wiped w p q r).cell? ⟨p, 2, none⟩ = some (.int .i64 0) ∧ (wiped w p q r).cell? ⟨q, 0, none⟩ = some (.slice none 0 0) ∧ (wiped w p q r).cell? ⟨r, 0, none⟩ = some (.slice none 0 0) := by
  have hp3 := store3 hp (.int .i64 0) (.int .i64 0) (.int .i64 0)
  have hp4 := (Below.heap_setCell _ ⟨r, 0, none⟩ (.slice none 0 0) p hpr).trans ((Below.heap_setCell _ ⟨q, 0, none⟩ (.slice none 0 0) p hpq).trans hp3)
  have hq3 := (Below.heap_setCell _ ⟨p, 2, none⟩ (.int .i64 0) q (Ne.symm hpq)).trans ((Below.heap_setCell _ ⟨p, 1, none⟩ (.int .i64 0) q (Ne.symm hpq)).trans ((Below.heap_setCell _ ⟨p, 0, none⟩ (.int .i64 0) q (Ne.symm hpq)).trans hq))
  have hq4 := blk_set hq3 0 (.slice none 0 0)
  have hq5 := (Below.heap_setCell _ ⟨r, 0, none⟩ (.slice none 0 0) q hqr).trans hq4
  have hr3 := (Below.heap_setCell _ ⟨q, 0, none⟩ (.slice none 0 0) r (Ne.symm hqr)).trans ((Below.heap_setCell _ ⟨p, 2, none⟩ (.int .i64 0) r (Ne.symm hpr)).trans ((Below.heap_setCell _ ⟨p, 1, none⟩ (.int .i64 0) r (Ne.symm hpr)).trans ((Below.heap_setCell _ ⟨p, 0, none⟩ (.int .i64 0) r (Ne.symm hpr)).trans hr)))
  have hr4 := blk_set hr3 0 (.slice none 0 0)
  exact ⟨blk_cell hp4 0, blk_cell hp4 1, blk_cell hp4 2, blk_cell hq5 0, blk_cell hr4 0⟩
theorem wiped_below {w w1 : World} {p q r : Nat} (h : Below w.heap.size w w1) (hp : w.heap.size ≤ p) (hq : w.heap.size ≤ q) (hr : w.heap.size ≤ r) : Below w.heap.size w (wiped w1 p q r) :=
  ((((h.setCell (p := ⟨p, 0, none⟩) hp _).setCell (p := ⟨p, 1, none⟩) hp _).setCell (p := ⟨p, 2, none⟩) hp _).setCell (p := ⟨q, 0, none⟩) hq _).setCell (p := ⟨r, 0, none⟩) hr _
set_option maxHeartbeats 4000000 in
theorem AppRun_c (v : Value) (a : AppD) (s : StD) (e : EvD) (F : Nat → Prop) (w : World) (h : Rd tRule w F v a.rules) :
    Calls Try.prog 17 #[.agg #[v], .agg #[.int .i64 s.x, .int .i64 s.y, .int .i64 s.c], .agg #[.int .i64 e.time, .int .i64 e.to, .int .i64 e.from_, .int .i64 e.count, .int .i64 e.n, .int .i64 e.kind, .int .i64 e.arg]] w (RunPost a s e w) := by
  obtain ⟨A, cp, rfl, -, hlen, -⟩ := id h
  have h := h.bound
  have hmf : ∀ (fn : Fn) (first cap : Array Value) (w : World), (Instr.makeFunc fn first cap).run Try.prog w = .ok (.func fn first cap) w := fun _ _ _ _ => rfl
  go_enter_defers Try.func17, Try.ntmps17
  go_wp2_with fail
  refine (checkRun_c _ a s e _ _ (h.below (by repeat (first | exact Below.refl _ _ | refine balloc ?_ _)))).mono ?_
  rintro q w1 ⟨hq, hb1⟩
  have Z0 : w1.heap[w.heap.size]? = some (.cells #[.slice A a.rules.length cp] 25 (0, 0)) := (hb1.block _ (by simp only [World.size_alloc]; try omega)).trans ((heap_old (by simp only [World.size_alloc]; try omega)).trans ((heap_old (by simp only [World.size_alloc]; try omega)).trans ((heap_old (by simp only [World.size_alloc]; try omega)).trans ((heap_old (by simp only [World.size_alloc]; try omega)).trans ((heap_old (by simp only [World.size_alloc]; try omega)).trans (heap_at rfl))))))
  have Z1 : w1.heap[w.heap.size + 1]? = some (.cells #[.int .i64 s.x, .int .i64 s.y, .int .i64 s.c] 27 (0, 0)) := (hb1.block _ (by simp only [World.size_alloc]; try omega)).trans ((heap_old (by simp only [World.size_alloc]; try omega)).trans ((heap_old (by simp only [World.size_alloc]; try omega)).trans ((heap_old (by simp only [World.size_alloc]; try omega)).trans ((heap_old (by simp only [World.size_alloc]; try omega)).trans (heap_at (by simp only [World.size_alloc]; try omega))))))
  have Z2 : w1.heap[w.heap.size + 1 + 1]? = some (.cells #[.int .i64 e.time, .int .i64 e.to, .int .i64 e.from_, .int .i64 e.count, .int .i64 e.n, .int .i64 e.kind, .int .i64 e.arg] 29 (0, 0)) := (hb1.block _ (by simp only [World.size_alloc]; try omega)).trans ((heap_old (by simp only [World.size_alloc]; try omega)).trans ((heap_old (by simp only [World.size_alloc]; try omega)).trans ((heap_old (by simp only [World.size_alloc]; try omega)).trans (heap_at (by simp only [World.size_alloc]; try omega)))))
  have Z3 : w1.heap[w.heap.size + 1 + 1 + 1]? = some (.cells #[.int .i64 0, .int .i64 0, .int .i64 0] 27 (0, 0)) := (hb1.block _ (by simp only [World.size_alloc]; try omega)).trans ((heap_old (by simp only [World.size_alloc]; try omega)).trans ((heap_old (by simp only [World.size_alloc]; try omega)).trans (heap_at (by simp only [World.size_alloc]; try omega))))
  have Z4 : w1.heap[w.heap.size + 1 + 1 + 1 + 1]? = some (.cells #[.slice none 0 0] 32 (0, 0)) := (hb1.block _ (by simp only [World.size_alloc]; try omega)).trans ((heap_old (by simp only [World.size_alloc]; try omega)).trans (heap_at (by simp only [World.size_alloc]; try omega)))
  have Z5 : w1.heap[w.heap.size + 1 + 1 + 1 + 1 + 1]? = some (.cells #[.slice none 0 0] 33 (0, 0)) := (hb1.block _ (by simp only [World.size_alloc]; try omega)).trans (heap_at (by simp only [World.size_alloc]; try omega))
  have hB : Below w.heap.size w w1 := bthen' (by repeat (first | exact Below.refl _ _ | refine balloc ?_ _)) hb1
  have hz := hb1.size
  simp only [World.size_alloc] at hz
  clear hb1
  rcases hq with ⟨hok, rfl⟩ | ⟨hok, k, rfl⟩
  · apply_assumption
    have hc12 : 0 ≤ s.c ∧ s.c ≤ 12 := by simp [stOk, inn] at hok; omega
    obtain ⟨a0, a1, a2, af⟩ := cells3 Z1
    obtain ⟨p0, p1, p2, pf⟩ := cells3 Z3
    have q0 := blk_cell Z4 0
    have qf := blk_frozen Z4 0
    have r0 := blk_cell Z5 0
    have rf := blk_frozen Z5 0
    simp at q0 r0
    obtain ⟨⟨b0, b1, b2, b3, b4, b5, b6⟩, bf⟩ := cells7 Z2
    have d0 := blk_cell Z0 0
    simp at d0
    have n0 : ¬ w.heap.size = w1.heap.size := by omega
    have z0 : w.heap.size < w1.heap.size := by omega
    have n1 : ¬ w.heap.size + 1 = w1.heap.size := by omega
    have z1 : w.heap.size + 1 < w1.heap.size := by omega
    have n2 : ¬ w.heap.size + 1 + 1 = w1.heap.size := by omega
    have z2 : w.heap.size + 1 + 1 < w1.heap.size := by omega
    have n3 : ¬ w.heap.size + 1 + 1 + 1 = w1.heap.size := by omega
    have z3 : w.heap.size + 1 + 1 + 1 < w1.heap.size := by omega
    have n4 : ¬ w.heap.size + 1 + 1 + 1 + 1 = w1.heap.size := by omega
    have z4 : w.heap.size + 1 + 1 + 1 + 1 < w1.heap.size := by omega
    have n5 : ¬ w.heap.size + 1 + 1 + 1 + 1 + 1 = w1.heap.size := by omega
    have z5 : w.heap.size + 1 + 1 + 1 + 1 + 1 < w1.heap.size := by omega
    by_cases q4 : s.c = 12
    · have q5 : (s.c == 12) = true := by simp [q4]
      clear q4
      go_wp2_with fail
      refine leaves_cons (f := 54) (args := #[.pointer (some ⟨w.heap.size + 1 + 1 + 1, 0, none⟩), .pointer (some ⟨w.heap.size + 1 + 1 + 1 + 1, 0, none⟩), .pointer (some ⟨w.heap.size + 1 + 1 + 1 + 1 + 1, 0, none⟩)]) (by simp) (by simp [go_sem]) ?_
      refine (catch_idle _ _ _ _).mono ?_
      rintro e' u' w'' ⟨rfl, rfl, rfl⟩
      obtain ⟨c0, c1, c2, c3, c4⟩ := resW_cells (x' := .int .i64 s.x) (y' := .int .i64 s.y) (z' := .int .i64 s.c) (sv := .slice none 0 0) (ov := .slice none 0 0) Z3 Z4 Z5 (by omega) (by omega) (by omega)
      have hBw := resW_below (x := .int .i64 s.x) (y := .int .i64 s.y) (z := .int .i64 s.c) (sv := .slice none 0 0) (ov := .slice none 0 0) hB (p := w.heap.size + 1 + 1 + 1) (q := w.heap.size + 1 + 1 + 1 + 1) (r := w.heap.size + 1 + 1 + 1 + 1 + 1) (by omega) (by omega) (by omega)
      have hf : appRun a s e = (s, [], []) := by unfold appRun; rw [hok, if_pos rfl, if_pos (by simpa using q5)]
      have HP : RunPost a s e w (.returned (.tuple #[.agg #[.int .i64 s.x, .int .i64 s.y, .int .i64 s.c], .slice none 0 0, .slice none 0 0])) (resW w1 (w.heap.size + 1 + 1 + 1) (w.heap.size + 1 + 1 + 1 + 1) (w.heap.size + 1 + 1 + 1 + 1 + 1) (.int .i64 s.x) (.int .i64 s.y) (.int .i64 s.c) (.slice none 0 0) (.slice none 0 0)) :=
        ⟨_, _, by rw [hf], by rw [hf]; exact Ow.nil _ _ _ _, by rw [hf]; exact Ow.nil _ _ _ _, hBw⟩
      have HP := hid HP
      unfold resW at c0 c1 c2 c3 c4 HP
      simp [Leaves, settle, results, Try.results17, go_sem, c0, c1, c2, c3, c4]
      exact HP.out
    · have q5 : (s.c == 12) = false := by simp [q4]
      have hf : appRun a s e = (let r := doRules e s.c a.rules ⟨s.x, s.y, [], []⟩; (⟨r.x, r.y, s.c + 1⟩, r.sends, r.outs)) := by
        unfold appRun; rw [hok, if_pos rfl, if_neg q4]
      have HF := hid hf; clear hf
      have q1 : appOk a = true := by simp at hok; exact hok.1.1
      have q2 : stOk s = true := by simp at hok; exact hok.1.2
      have q3 : evOk e = true := by simp at hok; exact hok.2
      have hrun0 := stOk_run (s := s) q2
      have hrl := appOk_len q1
      have HA := hid q1
      have HE := hid q3
      have hlt : s.c < 12 := by omega
      clear q1 q2 q3 q4 hok
      go_wp2_with fail
      go_loopw [34] (fun i wr => ∃ (k : Nat) (r : RunD) (sv ov : Value), i = .int .i64 k ∧ k ≤ a.rules.length ∧ DoAt wr w1.heap.size w1.heap.size s.c e r sv ov ∧ Hid (doRules e s.c (a.rules.take k) ⟨s.x, s.y, [], []⟩ = r) ∧ RunOk r ∧ r.sends.length ≤ 20 * k ∧ r.outs.length ≤ 20 * k ∧ Below w1.heap.size w1 wr) (fun i _ => a.rules.length - (intOf i).toNat)
      case atStart => exact ⟨0, ⟨s.x, s.y, [], []⟩, _, _, rfl, Nat.zero_le _, ⟨heap_at rfl, Nat.le_refl _, Ow.nil _ _ _ _, Ow.nil _ _ _ _⟩, rfl, hrun0, by simp, by simp, balloc (Below.refl _ _) _⟩
      case round =>
        obtain ⟨k, r, sv, ov, rfl, hk, hR, hD, hO, hns, hno, hb⟩ := hrel
        obtain ⟨wo, rfl⟩ : ∃ x, x = wr := ⟨_, rfl⟩
        have x5 : wo.cell? ⟨w.heap.size + 1 + 1, 5, none⟩ = some (.int .i64 e.kind) := (hb.cell (p := ⟨w.heap.size + 1 + 1, 5, none⟩) z2).trans b5
        have hzr := blk_lt hR.blk
        have m2 : ¬ w.heap.size + 1 + 1 = wo.heap.size := by omega
        have y2 : w.heap.size + 1 + 1 < wo.heap.size := by omega
        by_cases hkl : k < a.rules.length
        · have hrd : Rd tRule wo (fun k => F k ∧ k < w.heap.size) (.slice A a.rules.length cp) a.rules := (h.below hB).keep (fun b hF _ => hb.block b (by have := hF.2; omega))
          obtain ⟨b1', o1, A2, c2, hA1, hbb1, k0, k1, hop⟩ := rule_at hrd k hkl
          subst hA1
          have hops := appOk_rule HA.out hkl
          have hol := opsOk_len hops
          have HO := hid hops; clear hops
          have m3 : ¬ b1' = wo.heap.size := by omega
          by_cases hke : a.rules[k].kind = e.kind
          · have hkb : (a.rules[k].kind != e.kind) = false := by simp [hke]
            have hds := hid (doRules_snoc e s.c a.rules ⟨s.x, s.y, [], []⟩ hkl)
            have HK := hid hke; clear hke
            go_wp2_with fail
            go_loopw [12] (fun q w2 => ∃ (j : Nat) (r' : RunD) (sv ov : Value), q = .int .i64 j ∧ j ≤ a.rules[k].ops.length + 8 ∧ DoAt w2 w1.heap.size w1.heap.size s.c e r' sv ov ∧ Hid (doOps e s.c a.rules[k].ops.length a.rules[k].ops r = doOps e s.c a.rules[k].ops.length (a.rules[k].ops.drop j) r') ∧ RunOk r' ∧ r'.sends.length ≤ 20 * k + j ∧ r'.outs.length ≤ 20 * k + j ∧ Below w1.heap.size w1 w2 ∧ w2.heap[wo.heap.size]? = some (.cells #[.int .i64 a.rules[k].kind, .slice A2 a.rules[k].ops.length c2] 38 (0, 0))) (fun q _ => a.rules[k].ops.length + 20 - (intOf q).toNat)
            case atStart => exact ⟨0, r, sv, ov, rfl, by omega, hR.below (balloc (Below.refl _ _) _), rfl, hO, by omega, by omega, bthen hb (balloc (Below.refl _ _) _) (by omega), heap_at rfl⟩
            case round =>
              obtain ⟨j, r', sv', ov', rfl, hj, hR', hD', hO', hns', hno', hb', hV⟩ := hrel
              obtain ⟨w2, rfl⟩ : ∃ x, x = wr := ⟨_, rfl⟩
              have v0 := blk_cell hV 0
              have v1 := blk_cell hV 1
              simp at v0 v1
              by_cases hjl : j < a.rules[k].ops.length
              · have hop2 : Rd tOp w2 (fun k => F k ∧ k < w.heap.size) (.slice A2 a.rules[k].ops.length c2) a.rules[k].ops := hop.keep (fun b hF hlt2 => by rw [hb'.block b (by have := hF.2; omega), hb.block b (by have := hF.2; omega)])
                obtain ⟨b4', o4, rfl, hb40, t0, t1, t2, t3, t4⟩ := op_at hop2 j hjl
                have hBle : w1.heap.size < w2.heap.size := blk_lt hR'.blk
                have hoo := opsOk_op HO.out hjl
                obtain ⟨hs1, hs2⟩ := doOp_skip (e := e) (c := s.c) (r := r') hoo
                have HSt := hid (doOps_step e s.c a.rules[k].ops.length r' hjl (Nat.le_refl _))
                obtain ⟨hl1, hl2⟩ := doOp_len e s.c a.rules[k].ops[j] r'
                have hok1 := doOp_ok (e := e) (c := s.c) (o := a.rules[k].ops[j]) hO'
                generalize a.rules[k].ops[j] = op at *
                generalize hsk : (doOp e s.c op r').2 = sk at *
                have HSK := hid hsk; clear hsk
                obtain ⟨od, oa, ob, oc, oe⟩ := op
                simp only at t0 t1 t2 t3 t4
                have hod : od = 1 ∨ od = 2 ∨ od = 3 ∨ od = 4 ∨ od = 5 ∨ od = 6 ∨ od = 7 := by
                  refine Decidable.byContradiction fun hn => ?_
                  have hf : opOk ⟨od, oa, ob, oc, oe⟩ = false := by simp only [opOk]; rw [if_neg (by omega), if_neg (by omega), if_neg (by omega), if_neg (by omega), if_neg (by omega)]
                  rw [hf] at hoo; cases hoo
                rcases hod with rfl | rfl | rfl | rfl | rfl | rfl | rfl
                · have hq : (oa = 0 ∨ oa = 1) ∧ (0 ≤ ob ∧ ob ≤ 999) := by simp [opOk, inn] at hoo; omega
                  have ha := hq.1
                  have hb0 := hq.2
                  have hme := meth_raise
                  go_wp2_with (first | (go_at_call 56; refine (actionOf_1 oa ob oc oe _).mono ?_; rintro q w3 ⟨rfl, hb3⟩; have hR3 := hR'.below hb3; have hsz3 := hb3.size; have hV3 := (hb3.block _ (blk_lt hV)).trans hV) | (go_at_call 148; refine (raise1_c _ _ s.c e r' sv' ov' oa ob oc oe _ hR3 (by omega) hO' HE.out (by omega) (by omega) ha hb0).mono ?_; rintro q w4 ⟨hq4, ⟨sv2, ov2, hR2⟩, hb4⟩; rw [HSK.out] at hq4; subst hq4))
                  have hV4 := hb4.heap hV3 (fun hk => by { rcases hk with hk | hk | hk; omega; exact hR3.sends.type_ne hV3 (by decide) hk; exact hR3.outs.type_ne hV3 (by decide) hk })
                  have hB4 := hb4.below (B := w1.heap.size) (fun k hk => by { rcases hk with hk | hk | hk; omega; exact hR3.sends.inF hk; exact hR3.outs.inF hk }) (by omega)
                  go_roundw
                  case rel => exact ⟨j + sk.toNat + 1, _, sv2, ov2, by rw [show ((j + sk.toNat + 1 : Nat) : Int) = (j : Int) + sk + 1 by omega], by omega, hR2, hid (hD'.out.trans HSt.out), hok1, by omega, by omega, (bthen hb' hb3 (by omega)).trans hB4, hV4⟩
                  case measure => simp [intOf]; omega
                · have hq : (oa = 0 ∨ oa = 1) ∧ (ob = 0 ∨ ob = 1) := by simp [opOk, inn] at hoo; omega
                  have ha := hq.1
                  have hb0 := hq.2
                  have hme := meth_join
                  go_wp2_with (first | (go_at_call 56; refine (actionOf_2 oa ob oc oe _).mono ?_; rintro q w3 ⟨rfl, hb3⟩; have hR3 := hR'.below hb3; have hsz3 := hb3.size; have hV3 := (hb3.block _ (blk_lt hV)).trans hV) | (go_at_call 149; refine (join_c _ _ s.c e r' sv' ov' oa ob oc oe _ hR3 (by omega) hO' HE.out (by omega) (by omega) ha hb0).mono ?_; rintro q w4 ⟨hq4, ⟨sv2, ov2, hR2⟩, hb4⟩; rw [HSK.out] at hq4; subst hq4))
                  have hV4 := hb4.heap hV3 (fun hk => by { rcases hk with hk | hk | hk; omega; exact hR3.sends.type_ne hV3 (by decide) hk; exact hR3.outs.type_ne hV3 (by decide) hk })
                  have hB4 := hb4.below (B := w1.heap.size) (fun k hk => by { rcases hk with hk | hk | hk; omega; exact hR3.sends.inF hk; exact hR3.outs.inF hk }) (by omega)
                  go_roundw
                  case rel => exact ⟨j + sk.toNat + 1, _, sv2, ov2, by rw [show ((j + sk.toNat + 1 : Nat) : Int) = (j : Int) + sk + 1 by omega], by omega, hR2, hid (hD'.out.trans HSt.out), hok1, by omega, by omega, (bthen hb' hb3 (by omega)).trans hB4, hV4⟩
                  case measure => simp [intOf]; omega
                · have hq : (oa = 0 ∨ oa = 1) ∧ (0 ≤ ob ∧ ob ≤ 999) := by simp [opOk, inn] at hoo; omega
                  have ha := hq.1
                  have hb0 := hq.2
                  have hme := meth_raise
                  go_wp2_with (first | (go_at_call 56; refine (actionOf_3 oa ob oc oe _).mono ?_; rintro q w3 ⟨rfl, hb3⟩; have hR3 := hR'.below hb3; have hsz3 := hb3.size; have hV3 := (hb3.block _ (blk_lt hV)).trans hV) | (go_at_call 148; refine (raise3_c _ _ s.c e r' sv' ov' oa ob oc oe _ hR3 (by omega) hO' HE.out (by omega) (by omega) ha hb0).mono ?_; rintro q w4 ⟨hq4, ⟨sv2, ov2, hR2⟩, hb4⟩; rw [HSK.out] at hq4; subst hq4))
                  have hV4 := hb4.heap hV3 (fun hk => by { rcases hk with hk | hk | hk; omega; exact hR3.sends.type_ne hV3 (by decide) hk; exact hR3.outs.type_ne hV3 (by decide) hk })
                  have hB4 := hb4.below (B := w1.heap.size) (fun k hk => by { rcases hk with hk | hk | hk; omega; exact hR3.sends.inF hk; exact hR3.outs.inF hk }) (by omega)
                  go_roundw
                  case rel => exact ⟨j + sk.toNat + 1, _, sv2, ov2, by rw [show ((j + sk.toNat + 1 : Nat) : Int) = (j : Int) + sk + 1 by omega], by omega, hR2, hid (hD'.out.trans HSt.out), hok1, by omega, by omega, (bthen hb' hb3 (by omega)).trans hB4, hV4⟩
                  case measure => simp [intOf]; omega
                · have ha : oa = 0 ∨ oa = 1 := by simp [opOk, inn] at hoo; omega
                  have hme := meth_take
                  go_wp2_with (first | (go_at_call 56; refine (actionOf_4 oa ob oc oe _).mono ?_; rintro q w3 ⟨rfl, hb3⟩; have hR3 := hR'.below hb3; have hsz3 := hb3.size; have hV3 := (hb3.block _ (blk_lt hV)).trans hV) | (go_at_call 150; refine (take_c _ _ s.c e r' sv' ov' oa ob oc oe _ hR3 (by omega) hO' HE.out (by omega) (by omega) ha).mono ?_; rintro q w4 ⟨hq4, ⟨sv2, ov2, hR2⟩, hb4⟩; rw [HSK.out] at hq4; subst hq4))
                  have hV4 := hb4.heap hV3 (fun hk => by { rcases hk with hk | hk | hk; omega; exact hR3.sends.type_ne hV3 (by decide) hk; exact hR3.outs.type_ne hV3 (by decide) hk })
                  have hB4 := hb4.below (B := w1.heap.size) (fun k hk => by { rcases hk with hk | hk | hk; omega; exact hR3.sends.inF hk; exact hR3.outs.inF hk }) (by omega)
                  go_roundw
                  case rel => exact ⟨j + sk.toNat + 1, _, sv2, ov2, by rw [show ((j + sk.toNat + 1 : Nat) : Int) = (j : Int) + sk + 1 by omega], by omega, hR2, hid (hD'.out.trans HSt.out), hok1, by omega, by omega, (bthen hb' hb3 (by omega)).trans hB4, hV4⟩
                  case measure => simp [intOf]; omega
                · have ha : oa = 0 ∨ oa = 1 := by simp [opOk, inn] at hoo; omega
                  have hme := meth_leap
                  go_wp2_with (first | (go_at_call 56; refine (actionOf_5 oa ob oc oe _).mono ?_; rintro q w3 ⟨rfl, hb3⟩; have hR3 := hR'.below hb3; have hsz3 := hb3.size; have hV3 := (hb3.block _ (blk_lt hV)).trans hV) | (go_at_call 151; refine (leap_c _ _ s.c e r' sv' ov' oa ob oc oe _ hR3 (by omega) hO' HE.out (by omega) (by omega) ha).mono ?_; rintro q w4 ⟨hq4, ⟨sv2, ov2, hR2⟩, hb4⟩; rw [HSK.out] at hq4; subst hq4))
                  have hV4 := hb4.heap hV3 (fun hk => by { rcases hk with hk | hk | hk; omega; exact hR3.sends.type_ne hV3 (by decide) hk; exact hR3.outs.type_ne hV3 (by decide) hk })
                  have hB4 := hb4.below (B := w1.heap.size) (fun k hk => by { rcases hk with hk | hk | hk; omega; exact hR3.sends.inF hk; exact hR3.outs.inF hk }) (by omega)
                  go_roundw
                  case rel => exact ⟨j + sk.toNat + 1, _, sv2, ov2, by rw [show ((j + sk.toNat + 1 : Nat) : Int) = (j : Int) + sk + 1 by omega], by omega, hR2, hid (hD'.out.trans HSt.out), hok1, by omega, by omega, (bthen hb' hb3 (by omega)).trans hB4, hV4⟩
                  case measure => simp [intOf]; omega
                · have hq : (1 ≤ oc ∧ oc ≤ 40) ∧ (oe = 0 ∨ oe = 1) := by simp [opOk, inn] at hoo; omega
                  have hcc := hq.1
                  have hee := hq.2
                  have hme := meth_send
                  go_wp2_with (first | (go_at_call 56; refine (actionOf_6 oa ob oc oe _).mono ?_; rintro q w3 ⟨rfl, hb3⟩; have hR3 := hR'.below hb3; have hsz3 := hb3.size; have hV3 := (hb3.block _ (blk_lt hV)).trans hV) | (go_at_call 152; refine (send_c _ _ s.c e r' sv' ov' oa ob oc oe _ hR3 (by omega) hO' HE.out (by omega) (by omega) hcc hee).mono ?_; rintro q w4 ⟨hq4, ⟨sv2, ov2, hR2⟩, hb4⟩; rw [HSK.out] at hq4; subst hq4))
                  have hV4 := hb4.heap hV3 (fun hk => by { rcases hk with hk | hk | hk; omega; exact hR3.sends.type_ne hV3 (by decide) hk; exact hR3.outs.type_ne hV3 (by decide) hk })
                  have hB4 := hb4.below (B := w1.heap.size) (fun k hk => by { rcases hk with hk | hk | hk; omega; exact hR3.sends.inF hk; exact hR3.outs.inF hk }) (by omega)
                  go_roundw
                  case rel => exact ⟨j + sk.toNat + 1, _, sv2, ov2, by rw [show ((j + sk.toNat + 1 : Nat) : Int) = (j : Int) + sk + 1 by omega], by omega, hR2, hid (hD'.out.trans HSt.out), hok1, by omega, by omega, (bthen hb' hb3 (by omega)).trans hB4, hV4⟩
                  case measure => simp [intOf]; omega
                · have ha : oa = 0 ∨ oa = 1 := by simp [opOk, inn] at hoo; omega
                  have hme := meth_let
                  go_wp2_with (first | (go_at_call 56; refine (actionOf_7 oa ob oc oe _).mono ?_; rintro q w3 ⟨rfl, hb3⟩; have hR3 := hR'.below hb3; have hsz3 := hb3.size; have hV3 := (hb3.block _ (blk_lt hV)).trans hV) | (go_at_call 153; refine (let_c _ _ s.c e r' sv' ov' oa ob oc oe _ hR3 (by omega) hO' HE.out (by omega) (by omega) ha).mono ?_; rintro q w4 ⟨hq4, ⟨sv2, ov2, hR2⟩, hb4⟩; rw [HSK.out] at hq4; subst hq4))
                  have hV4 := hb4.heap hV3 (fun hk => by { rcases hk with hk | hk | hk; omega; exact hR3.sends.type_ne hV3 (by decide) hk; exact hR3.outs.type_ne hV3 (by decide) hk })
                  have hB4 := hb4.below (B := w1.heap.size) (fun k hk => by { rcases hk with hk | hk | hk; omega; exact hR3.sends.inF hk; exact hR3.outs.inF hk }) (by omega)
                  go_roundw
                  case rel => exact ⟨j + sk.toNat + 1, _, sv2, ov2, by rw [show ((j + sk.toNat + 1 : Nat) : Int) = (j : Int) + sk + 1 by omega], by omega, hR2, hid (hD'.out.trans HSt.out), hok1, by omega, by omega, (bthen hb' hb3 (by omega)).trans hB4, hV4⟩
                  case measure => simp [intOf]; omega
              · have hend := doOps_end e s.c a.rules[k].ops.length r' (Nat.le_of_not_lt hjl)
                have HD2 := hid (show doRules e s.c (a.rules.take (k + 1)) ⟨s.x, s.y, [], []⟩ = r' by rw [hds.out, if_pos HK.out, hD.out, hD'.out, hend])
                clear hend
                go_wp2_with fail
                go_roundw
                case rel => exact ⟨k + 1, r', sv', ov', by go_num, by omega, hR', HD2, hO', by omega, by omega, hb'⟩
                case measure => simp [intOf]; omega
          · have hkb : (a.rules[k].kind != e.kind) = true := by simp [hke]
            have HD2 := hid (show doRules e s.c (a.rules.take (k + 1)) ⟨s.x, s.y, [], []⟩ = r by rw [doRules_snoc e s.c a.rules ⟨s.x, s.y, [], []⟩ hkl, if_neg hke]; exact hD.out)
            clear hke
            go_wp2_with fail
            go_roundw
            case rel => exact ⟨k + 1, r, sv, ov, by go_num, by omega, hR.below (balloc (Below.refl _ _) _), HD2, hO, by omega, by omega, bthen hb (balloc (Below.refl _ _) _) (by omega)⟩
            case measure => simp [intOf]; omega
        · have hkk : k = a.rules.length := by omega
          have hD2 := hD.out
          rw [hkk, List.take_length] at hD2
          have HD2 := hid hD2; clear hD2 hD hkk
          obtain ⟨A5, c5', rfl, hl5⟩ := hR.sends.shape
          obtain ⟨A6, c6', rfl, hl6⟩ := hR.outs.shape
          have Z3b := (hb.block _ z3).trans Z3
          have Z4b := (hb.block _ z4).trans Z4
          have Z5b := (hb.block _ z5).trans Z5
          have x0 : wo.cell? ⟨w1.heap.size, 0, none⟩ = some (.int .i64 r.x) := blk_cell hR.blk 0
          have x1 : wo.cell? ⟨w1.heap.size, 1, none⟩ = some (.int .i64 r.y) := blk_cell hR.blk 1
          have x10 : wo.cell? ⟨w1.heap.size, 10, none⟩ = some (.slice A5 r.sends.length c5') := blk_cell hR.blk 10
          have x11 : wo.cell? ⟨w1.heap.size, 11, none⟩ = some (.slice A6 r.outs.length c6') := blk_cell hR.blk 11
          have xs2 : wo.cell? ⟨w.heap.size + 1, 2, none⟩ = some (.int .i64 s.c) := (hb.cell (p := ⟨w.heap.size + 1, 2, none⟩) z1).trans a2
          have m31 : ¬ (w.heap.size + 1 + 1 + 1 ≤ w.heap.size + 1 ∧ w.heap.size + 1 < w1.heap.size) := by omega
          have m32 : ¬ (w.heap.size + 1 + 1 + 1 ≤ w1.heap.size ∧ w1.heap.size < w1.heap.size) := by omega
          have m33 : w.heap.size + 1 < wo.heap.size := by omega
          have hVS : ∀ k, w.heap.size + 1 + 1 + 1 ≤ k ∧ k < w1.heap.size → k < w1.heap.size := fun k hk => hk.2
          have hWc : IntKind.i64.wrap (s.c + 1) = s.c + 1 := IntWalk.i64_in _ (by omega)
          go_wp2_with fail
          refine region_plan_np (fun w' => Ch (fun k => w.heap.size + 1 + 1 + 1 ≤ k ∧ k < w1.heap.size) wo w') [(0, true), (1, true), (2, true), (3, true), (4, true), (5, true), (6, true), (7, true), (8, true), (9, true), (10, true), (11, true), (12, true), (13, true), (14, false), (15, false), (16, false)] (by kernel_rfl) (by kernel_rfl) ?_
          have HS := (Ch.refl (fun k => w.heap.size + 1 + 1 + 1 ≤ k ∧ k < w1.heap.size) wo).drew
          have Z3d : wo.drew.heap[w.heap.size + 1 + 1 + 1]? = _ := Z3b
          have Z4d : wo.drew.heap[w.heap.size + 1 + 1 + 1 + 1]? = _ := Z4b
          have Z5d : wo.drew.heap[w.heap.size + 1 + 1 + 1 + 1 + 1]? = _ := Z5b
          have hRd : DoAt wo.drew w1.heap.size w1.heap.size s.c e r _ _ := hR.below (bdrewN (Below.refl _ _) 1)
          have hbd : Below w1.heap.size w1 wo.drew := bdrewN hb 1
          generalize wo.drew = wd at HS Z3d Z4d Z5d hRd hbd ⊢
          iterate 14 (first | (refine seq_take (v := ?_) (by rfl) HS (by rfl) ?_ ?_; rotate_left; (focus (intro wS hS; obtain ⟨kc, kf⟩ := hS.cells; go_simp; (try (with_reducible rfl)); done)); (intro K hK; go_simp; refine hK _ ?_; clear hK K)) | (refine seq_skip (by rfl) HS (by rfl) ?_; (intro K hK; go_simp; refine hK _ ?_; clear hK K)))
          refine seq_do (by rfl) (by rfl) (fun K hK => ?_)
          obtain ⟨y0, y1, y2, yf⟩ := cells3 Z3d
          go_simp
          have HS := ((HS.setCell (p := ⟨w.heap.size + 1 + 1 + 1, 0, none⟩) (Or.inl (by simp only; omega)) (.int .i64 r.x)).setCell (p := ⟨w.heap.size + 1 + 1 + 1, 1, none⟩) (Or.inl (by simp only; omega)) (.int .i64 r.y)).setCell (p := ⟨w.heap.size + 1 + 1 + 1, 2, none⟩) (Or.inl (by simp only; omega)) (.int .i64 (s.c + 1))
          refine hK _ _ (Or.inr HS) ?_; clear hK K
          refine seq_do (by rfl) (by rfl) (fun K hK => ?_)
          have Z4c := (Below.heap_setCell _ ⟨w.heap.size + 1 + 1 + 1, 2, none⟩ (.int .i64 (s.c + 1)) (w.heap.size + 1 + 1 + 1 + 1) (by simp only; omega)).trans ((Below.heap_setCell _ ⟨w.heap.size + 1 + 1 + 1, 1, none⟩ (.int .i64 r.y) (w.heap.size + 1 + 1 + 1 + 1) (by simp only; omega)).trans ((Below.heap_setCell _ ⟨w.heap.size + 1 + 1 + 1, 0, none⟩ (.int .i64 r.x) (w.heap.size + 1 + 1 + 1 + 1) (by simp only; omega)).trans Z4d))
          have y0 := blk_cell Z4c 0
          have yf := blk_frozen Z4c 0
          simp at y0
          go_simp
          have HS := HS.setCell (p := ⟨w.heap.size + 1 + 1 + 1 + 1, 0, none⟩) (Or.inl (by simp only; omega)) (.slice A5 r.sends.length c5')
          refine hK _ _ (Or.inr HS) ?_; clear hK K
          refine seq_do (by rfl) (by rfl) (fun K hK => ?_)
          have Z5c := (Below.heap_setCell _ ⟨w.heap.size + 1 + 1 + 1 + 1, 0, none⟩ (.slice A5 r.sends.length c5') (w.heap.size + 1 + 1 + 1 + 1 + 1) (by simp only; omega)).trans ((Below.heap_setCell _ ⟨w.heap.size + 1 + 1 + 1, 2, none⟩ (.int .i64 (s.c + 1)) (w.heap.size + 1 + 1 + 1 + 1 + 1) (by simp only; omega)).trans ((Below.heap_setCell _ ⟨w.heap.size + 1 + 1 + 1, 1, none⟩ (.int .i64 r.y) (w.heap.size + 1 + 1 + 1 + 1 + 1) (by simp only; omega)).trans ((Below.heap_setCell _ ⟨w.heap.size + 1 + 1 + 1, 0, none⟩ (.int .i64 r.x) (w.heap.size + 1 + 1 + 1 + 1 + 1) (by simp only; omega)).trans Z5d)))
          have y0 := blk_cell Z5c 0
          have yf := blk_frozen Z5c 0
          simp at y0
          go_simp
          refine hK _ _ (Or.inl (by kernel_rfl)) ?_; clear hK K
          simp only [wpSeq, noPanic]
          go_wp2_with fail
          refine leaves_cons (f := 54) (args := #[.pointer (some ⟨w.heap.size + 1 + 1 + 1, 0, none⟩), .pointer (some ⟨w.heap.size + 1 + 1 + 1 + 1, 0, none⟩), .pointer (some ⟨w.heap.size + 1 + 1 + 1 + 1 + 1, 0, none⟩)]) (by simp) (by simp [go_sem]) ?_
          refine (catch_idle _ _ _ _).mono ?_
          rintro e' u' w'' ⟨rfl, rfl, rfl⟩
          obtain ⟨c0, c1, c2, c3, c4⟩ := resW_cells (w := wd) (x' := .int .i64 r.x) (y' := .int .i64 r.y) (z' := .int .i64 (s.c + 1)) (sv := .slice A5 r.sends.length c5') (ov := .slice A6 r.outs.length c6') Z3d Z4d Z5d (by omega) (by omega) (by omega)
          have hBo := bthen (B := w.heap.size) hB hbd (by omega)
          have hBw := resW_below (x := .int .i64 r.x) (y := .int .i64 r.y) (z := .int .i64 (s.c + 1)) (sv := .slice A5 r.sends.length c5') (ov := .slice A6 r.outs.length c6') hBo (p := w.heap.size + 1 + 1 + 1) (q := w.heap.size + 1 + 1 + 1 + 1) (r := w.heap.size + 1 + 1 + 1 + 1 + 1) (by omega) (by omega) (by omega)
          have hf := HF.out
          rw [HD2.out] at hf
          have hrow : ∀ k, w1.heap.size ≤ k → (resW wd (w.heap.size + 1 + 1 + 1) (w.heap.size + 1 + 1 + 1 + 1) (w.heap.size + 1 + 1 + 1 + 1 + 1) (.int .i64 r.x) (.int .i64 r.y) (.int .i64 (s.c + 1)) (.slice A5 r.sends.length c5') (.slice A6 r.outs.length c6')).heap[k]? = wd.heap[k]? := fun k hk => resW_heap k (by omega) (by omega) (by omega)
          have HP : RunPost a s e w (.returned (.tuple #[.agg #[.int .i64 r.x, .int .i64 r.y, .int .i64 (s.c + 1)], .slice A5 r.sends.length c5', .slice A6 r.outs.length c6'])) (resW wd (w.heap.size + 1 + 1 + 1) (w.heap.size + 1 + 1 + 1 + 1) (w.heap.size + 1 + 1 + 1 + 1 + 1) (.int .i64 r.x) (.int .i64 r.y) (.int .i64 (s.c + 1)) (.slice A5 r.sends.length c5') (.slice A6 r.outs.length c6')) :=
            ⟨_, _, by rw [hf], by rw [hf]; exact (hRd.sends.move (fun k hk => hrow k hk)).mono (fun k hk => by omega), by rw [hf]; exact (hRd.outs.move (fun k hk => hrow k hk)).mono (fun k hk => by omega), hBw⟩
          have HP := hid HP
          unfold resW at c0 c1 c2 c3 c4 HP
          clear hf hrow
          simp [Leaves, settle, results, Try.results17, go_sem, c0, c1, c2, c3, c4]
          exact HP.out
  · simp only
    refine leaves_cons (f := 54) (args := #[.pointer (some ⟨w.heap.size + 1 + 1 + 1, 0, none⟩), .pointer (some ⟨w.heap.size + 1 + 1 + 1 + 1, 0, none⟩), .pointer (some ⟨w.heap.size + 1 + 1 + 1 + 1 + 1, 0, none⟩)]) (by simp) (by simp [go_sem]) ?_
    refine (catch_panicking _ _ _ _ _ _ _ _ _ _ [] _ Z3 Z4 Z5 (by omega) (by omega) (by omega)).mono ?_
    rintro e' u' w'' ⟨rfl, rfl, rfl⟩
    obtain ⟨c0, c1, c2, c3, c4⟩ := wiped_cells Z3 Z4 Z5 (by omega) (by omega) (by omega)
    have hBw := wiped_below hB (p := w.heap.size + 1 + 1 + 1) (q := w.heap.size + 1 + 1 + 1 + 1) (r := w.heap.size + 1 + 1 + 1 + 1 + 1) (by omega) (by omega) (by omega)
    have hf : appRun a s e = (st0, [], []) := by unfold appRun; rw [hok]; rfl
    have HP : RunPost a s e w (.returned (.tuple #[.agg #[.int .i64 0, .int .i64 0, .int .i64 0], .slice none 0 0, .slice none 0 0])) (wiped w1 (w.heap.size + 1 + 1 + 1) (w.heap.size + 1 + 1 + 1 + 1) (w.heap.size + 1 + 1 + 1 + 1 + 1)) :=
      ⟨_, _, by rw [hf]; rfl, by rw [hf]; exact Ow.nil _ _ _ _, by rw [hf]; exact Ow.nil _ _ _ _, hBw⟩
    have HP := hid HP
    simp [Leaves, settle, results, Try.results17, go_sem, c0, c1, c2, c3, c4]
    exact HP.out
end Go.Proofs.Ytmnccekljombmaa
