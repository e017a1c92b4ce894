/- The reader that the draws read from: l6Open makes it, pick reads on. What a pick gives is told as a range, no more. -/
import Derived.Test.YtmnccekljombmaaRun
set_option linter.unusedVariables false
set_option linter.unusedSimpArgs false
set_option maxRecDepth 100000
namespace Go.Proofs.Ytmnccekljombmaa
open Go.RowKit

/-- A reader lies in block g; the bytes that it reads lie below B; it has read at most m times. -/
def Rdr (w : World) (g B : Nat) (m : Int) : Prop :=
  ∃ A c xs p, w.heap[g]? = some (.cells #[.slice A xs.length c, .int .i64 p] 123 (0, 0)) ∧ B ≤ g ∧ Rd (tInt .u8) w (fun k => k < B) (.slice A xs.length c) xs ∧
    (∀ x ∈ xs, 0 ≤ x ∧ x ≤ 255) ∧ xs.length ≤ 2000 ∧ 0 ≤ p ∧ p ≤ m
theorem Rdr.move {w w' : World} {g B : Nat} {m m' : Int} (h : Rdr w g B m) (hg : w'.heap[g]? = w.heap[g]?) (hb : ∀ k, k < B → w'.heap[k]? = w.heap[k]?) (hm : m ≤ m') : Rdr w' g B m' := by
  obtain ⟨A, c, xs, p, h1, h2, h3, h4, h5, h6, h7⟩ := h
  exact ⟨A, c, xs, p, hg.trans h1, h2, h3.move (fun k hk => hb k hk), h4, h5, h6, by omega⟩
theorem Rdr.lt {w : World} {g B : Nat} {m : Int} (h : Rdr w g B m) : g < w.heap.size := by
  obtain ⟨A, c, xs, p, h1, _⟩ := h
  exact blk_lt h1
theorem Rdr.ge {w : World} {g B : Nat} {m : Int} (h : Rdr w g B m) : B ≤ g := by
  obtain ⟨A, c, xs, p, h1, h2, _⟩ := h
  exact h2
theorem Rdr.ch {w w' : World} {g B : Nat} {m : Int} {S : Nat → Prop} (h : Rdr w g B m) (hc : Ch S w w') (hS : ∀ k, k ≤ g → ¬ S k) : Rdr w' g B m := by
  have h1 := h.lt
  have h2 := h.ge
  exact h.move (hc.block g h1 (hS g (Nat.le_refl _))) (fun k hk => hc.block k (by omega) (hS k (by omega))) (by omega)
def PickPost (w : World) (g B : Nat) (m n : Int) (q : Ending) (w' : World) : Prop :=
  ∃ x : Nat, q = .returned (.int .i64 (x : Int)) ∧ (x : Int) < n ∧ Rdr w' g B (m + 1) ∧ Ch (fun k => k = g) w w'
theorem pick_post {w w' : World} {g B : Nat} {m n x : Int} {q : Ending} (hq : q = .returned (.int .i64 x)) (h0 : 0 ≤ x) (h1 : x < n) (hR : Rdr w' g B (m + 1)) (hC : Ch (fun k => k = g) w w') : PickPost w g B m n q w' := by
  obtain ⟨j, rfl⟩ := Int.eq_ofNat_of_zero_le h0
  exact ⟨j, hq, h1, hR, hC⟩
theorem byte_at {w : World} {F : Nat → Prop} {A : Option Addr} {n c : Nat} {xs : List Int} (h : Rd (tInt .u8) w F (.slice A n c) xs) (j : Nat) (hj : j < xs.length) :
    ∃ b o, A = some ⟨b, o, none⟩ ∧ F b ∧ b < w.heap.size ∧ w.cell? ⟨b, o + j, none⟩ = some (.int .u8 xs[j]) := by
  obtain ⟨b, o, cs, rfl, hF, hlt, hr, hu⟩ := h.at_ j hj
  have hr' : cs = [.int .u8 xs[j]] := hr
  subst hr'
  have := hu 0 _ rfl
  exact ⟨b, o, rfl, hF, hlt, by simpa [tInt, flat] using this⟩
theorem xor_nonneg (x y : Int) (hx : 0 ≤ x ∧ x < 9223372036854775808) (hy : 0 ≤ y ∧ y < 9223372036854775808) : 0 ≤ bits .xor .i64 x y := by
  obtain ⟨a, rfl⟩ := Int.eq_ofNat_of_zero_le hx.1
  obtain ⟨b, rfl⟩ := Int.eq_ofNat_of_zero_le hy.1
  have hl : a ^^^ b < 2 ^ 63 := Nat.xor_lt_two_pow (by omega) (by omega)
  show 0 ≤ IntKind.i64.wrap ((BitVec.ofInt 64 (a : Int) ^^^ BitVec.ofInt 64 (b : Int)).toNat : Int)
  have h1 : (BitVec.ofInt 64 (a : Int)).toNat = a := by rw [BitVec.ofInt_natCast, BitVec.toNat_ofNat]; exact Nat.mod_eq_of_lt (by omega)
  have h2 : (BitVec.ofInt 64 (b : Int)).toNat = b := by rw [BitVec.ofInt_natCast, BitVec.toNat_ofNat]; exact Nat.mod_eq_of_lt (by omega)
  rw [BitVec.toNat_xor, h1, h2, IntWalk.i64_in _ (by omega)]
  omega
set_option maxHeartbeats 2000000 in
theorem pick_c (g B : Nat) (m n : Int) (w : World) (h : Rdr w g B m) (hm : m ≤ 1000000) (hn : 1 ≤ n ∧ n ≤ 1000000) :
    Calls Try.prog 49 #[.pointer (some ⟨g, 0, none⟩), .int .i64 n] w (PickPost w g B m n) := by
  obtain ⟨A, c, xs, p, hblk, hge, hrd, hby, hl, hp0, hp1⟩ := h
  have hn1 := hn.1
  have hn2 := hn.2
  have hgl := blk_lt hblk
  have c0 := blk_cell hblk 0
  have c1 := blk_cell hblk 1
  have f1 := blk_frozen hblk 1
  simp at c0 c1
  have hW : IntKind.i64.wrap (p + 1) = p + 1 := IntWalk.i64_in _ (by omega)
  have hW2 : IntKind.i64.wrap (p + 1 - 1) = p := by rw [show p + 1 - 1 = p by omega]; exact IntWalk.i64_in _ (by omega)
  have s0 := blk_set hblk 1 (.int .i64 (p + 1))
  have d0 : (w.setCell ⟨g, 1, none⟩ (.int .i64 (p + 1))).cell? ⟨g, 0, none⟩ = some (.slice A xs.length c) := blk_cell s0 0
  have d1 : (w.setCell ⟨g, 1, none⟩ (.int .i64 (p + 1))).cell? ⟨g, 1, none⟩ = some (.int .i64 (p + 1)) := blk_cell s0 1
  have hC : Ch (fun k => k = g) w (w.setCell ⟨g, 1, none⟩ (.int .i64 (p + 1))) := Ch.setCell (S := fun k => k = g) (p := ⟨g, 1, none⟩) (Ch.refl _ _) (.inl rfl) _
  have hrd1 := hrd.move (w' := w.setCell ⟨g, 1, none⟩ (.int .i64 (p + 1))) (fun k hk => Below.heap_setCell _ _ _ _ (fun e' => by have : k = g := e'; omega))
  have hR : Rdr (w.setCell ⟨g, 1, none⟩ (.int .i64 (p + 1))) g B (m + 1) := ⟨A, c, xs, p + 1, s0, hge, hrd1, hby, hl, by omega, by omega⟩
  have hn0 : decide (n < 1) = false := decide_eq_false (by omega)
  by_cases h0 : xs.length = 0
  · have hl0 : ((xs.length : Int) == 0) = true := by simp [h0]
    have hl0' : (xs.length == 0) = true := by simp [h0]
    go_enter Try.func49, Try.ntmps49
    go_wp2_with fail
    all_goals go_ret
    all_goals exact pick_post rfl (Int.le_refl 0) (by omega) hR hC
  · have hl0 : ((xs.length : Int) == 0) = false := by simp [h0]
    have hl0' : (xs.length == 0) = false := by simp [h0]
    by_cases hk : p < xs.length
    · have hkd : decide (p < (xs.length : Int)) = true := decide_eq_true hk
      obtain ⟨j, rfl⟩ := Int.eq_ofNat_of_zero_le hp0
      have hj : j < xs.length := by omega
      obtain ⟨b, o, rfl, hF, hlt, hc⟩ := byte_at hrd1 j hj
      go_enter Try.func49, Try.ntmps49
      go_wp2_with fail
      go_ret
      have hx := hby xs[j] (List.getElem_mem _)
      have hx2 : IntKind.i64.wrap xs[j] = xs[j] := IntWalk.i64_in _ (by omega)
      have hx3 : wrap64 xs[j] = xs[j] := IntWalk.wrap64_in _ (by omega)
      refine pick_post rfl ?_ ?_ hR hC
      · rw [hx3]; exact Int.tmod_nonneg _ hx.1
      · rw [hx3]; exact Int.tmod_lt_of_pos _ (by omega)
    · have hkd : decide (p < (xs.length : Int)) = false := decide_eq_false hk
      obtain ⟨j, rfl⟩ := Int.eq_ofNat_of_zero_le hp0
      have hpos : 0 < xs.length := by omega
      have e1 : ((j : Nat) : Int).tmod (xs.length : Int) = ((j % xs.length : Nat) : Int) := Int.ofNat_tmod _ _ |>.symm
      have e2 : (((j : Nat) : Int) * 7 + 3).tmod (xs.length : Int) = (((j * 7 + 3) % xs.length : Nat) : Int) := by
        rw [show (((j : Nat) : Int) * 7 + 3) = ((j * 7 + 3 : Nat) : Int) by omega]; exact Int.ofNat_tmod _ _ |>.symm
      have e3 : ((j : Nat) : Int).tdiv (xs.length : Int) = ((j / xs.length : Nat) : Int) := Int.ofNat_tdiv _ _ |>.symm
      have v1 : IntKind.i64.wrap (((j : Nat) : Int) * 7) = (j : Int) * 7 := IntWalk.i64_in _ (by omega)
      have v2 : IntKind.i64.wrap (((j : Nat) : Int) * 7 + 3) = (j : Int) * 7 + 3 := IntWalk.i64_in _ (by omega)
      have hj1 : j % xs.length < xs.length := Nat.mod_lt _ hpos
      have hj2 : (j * 7 + 3) % xs.length < xs.length := Nat.mod_lt _ hpos
      have hj3 : j / xs.length ≤ j := Nat.div_le_self _ _
      generalize hq1 : j % xs.length = j1 at *
      generalize hq2 : (j * 7 + 3) % xs.length = j2 at *
      generalize hq3 : j / xs.length = j3 at *
      have hx1 := hby xs[j1] (List.getElem_mem _)
      have hx2 := hby xs[j2] (List.getElem_mem _)
      have x1 : IntKind.i64.wrap xs[j1] = xs[j1] := IntWalk.i64_in _ (by omega)
      have x2 : IntKind.i64.wrap xs[j2] = xs[j2] := IntWalk.i64_in _ (by omega)
      have x3 : IntKind.i64.wrap (xs[j1] * 131) = xs[j1] * 131 := IntWalk.i64_in _ (by omega)
      have x4 : IntKind.i64.wrap (xs[j2] * 1117) = xs[j2] * 1117 := IntWalk.i64_in _ (by omega)
      have x5 : IntKind.i64.wrap (xs[j1] * 131 + xs[j2] * 1117) = xs[j1] * 131 + xs[j2] * 1117 := IntWalk.i64_in _ (by omega)
      have x6 : IntKind.i64.wrap ((j : Int) * 29) = (j : Int) * 29 := IntWalk.i64_in _ (by omega)
      have x7 : IntKind.i64.wrap (xs[j1] * 131 + xs[j2] * 1117 + (j : Int) * 29) = xs[j1] * 131 + xs[j2] * 1117 + (j : Int) * 29 := IntWalk.i64_in _ (by omega)
      have x8 : IntKind.i64.wrap ((j3 : Int) * 53) = (j3 : Int) * 53 := IntWalk.i64_in _ (by omega)
      have x9 : IntKind.i64.wrap (xs[j1] * 131 + xs[j2] * 1117 + (j : Int) * 29 + (j3 : Int) * 53) = xs[j1] * 131 + xs[j2] * 1117 + (j : Int) * 29 + (j3 : Int) * 53 := IntWalk.i64_in _ (by omega)
      have x10 : IntKind.i64.wrap (j3 : Int) = (j3 : Int) := IntWalk.i64_in _ (by omega)
      obtain ⟨b, o, rfl, hF, hlt, hc1⟩ := byte_at hrd1 j1 hj1
      obtain ⟨b', o', hAe, hF', hlt', hc2⟩ := byte_at hrd1 j2 hj2
      simp only [Option.some.injEq, Addr.mk.injEq, and_true] at hAe
      obtain ⟨rfl, rfl⟩ := hAe
      go_enter Try.func49, Try.ntmps49
      go_wp2_with fail
      go_quiet (fail)
      go_wp2_with fail
      go_ret
      refine pick_post rfl ?_ ?_ (hR.move rfl (fun _ _ => rfl) (Int.le_refl _)) (hC.drewN _)
      · exact Int.tmod_nonneg _ (xor_nonneg _ _ (by omega) (by omega))
      · exact Int.tmod_lt_of_pos _ (by omega)
end Go.Proofs.Ytmnccekljombmaa
