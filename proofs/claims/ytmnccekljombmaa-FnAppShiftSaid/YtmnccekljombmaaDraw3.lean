/- What the drawn programs are. -/
import Derived.Test.YtmnccekljombmaaNest
import Derived.Test.YtmnccekljombmaaReg2
import Derived.Test.YtmnccekljombmaaOk1
import Derived.Test.YtmnccekljombmaaAppS
import Derived.OwnWalk
import Derived.Deep.DeepCutAuto
set_option linter.unusedVariables false
set_option linter.unusedSimpArgs false
set_option maxRecDepth 100000
namespace Go.Proofs.Ytmnccekljombmaa
open Go.RowKit

theorem chf_cells {w w' : World} (h : Ch (fun _ => False) w w') : (∀ b o, b < w.heap.size → w'.cell? ⟨b, o, none⟩ = w.cell? ⟨b, o, none⟩) ∧ (∀ b o, b < w.heap.size → w'.frozen? ⟨b, o, none⟩ = w.frozen? ⟨b, o, none⟩) :=
  ⟨fun b o hb => h.cells.1 b o hb (fun hf => hf), fun b o hb => h.cells.2 b o hb (fun hf => hf)⟩
theorem info_op : (Try.prog.info? 90).map (fun i => (i.zero, i.size, i.bytes)) = some (some (.agg #[.int .i64 0, .int .i64 0, .int .i64 0, .int .i64 0, .int .i64 0]), 5, 40) := by kernel_rfl
theorem info_rule : (Try.prog.info? 38).map (fun i => (i.zero, i.size, i.bytes)) = some (some (.agg #[.int .i64 0, .slice none 0 0]), 2, 32) := by kernel_rfl
theorem info_app : (Try.prog.info? 25).map (fun i => (i.zero, i.size, i.bytes)) = some (some (.agg #[.slice none 0 0]), 1, 24) := by kernel_rfl
def RuleBig (r : RuleD) : Prop := r.ops.length ≤ 6
def AppBig (a : AppD) : Prop := a.rules.length = 3 ∧ ∀ r ∈ a.rules, RuleBig r
set_option maxHeartbeats 4000000 in
theorem l71Apps_c (g B : Nat) (m : Int) (w : World) (h : Rdr w g B m) (hm : m ≤ 800000) :
    Calls Try.prog 84 #[.pointer (some ⟨g, 0, none⟩)] w fun q w' => ∃ v xs, q = .returned v ∧ Ow oApp 25 w' (fun k => w.heap.size ≤ k) v xs ∧ xs.length = 4 ∧ (∀ x ∈ xs, AppBig x) ∧ Rdr w' g B (m + 400) ∧ Ch (fun k => k = g) w w' := by
  have hgl := h.lt
  go_enter Try.func84, Try.ntmps84
  go_wp2
  go_loopw [3, 4] (fun v i wr => ∃ (p : Nat) (xs : List AppD), i = .int .i64 p ∧ p ≤ 4 ∧ Ow oApp 25 wr (fun k => w.heap.size ≤ k) v xs ∧ xs.length = p ∧ (∀ x ∈ xs, AppBig x) ∧ Rdr wr g B (m + 93 * p) ∧ Ch (fun k => k = g) w wr) (fun _ i _ => 4 - (intOf i).toNat)
  case atStart => exact ⟨0, [], rfl, by omega, Ow.empty oApp (heap_at rfl) (Nat.le_refl _), rfl, by simp, (h.ch (S := fun k => g < k) ((Ch.refl _ _).alloc _) (fun k hk hk' => absurd hk (Nat.not_le.2 hk'))).move rfl (fun _ _ => rfl) (by omega), (Ch.refl _ _).alloc _⟩
  case round =>
    obtain ⟨p, xs, rfl, hp, hO, hl, hx, hR, hC⟩ := hrel
    obtain ⟨wA, rfl⟩ : ∃ x, x = wr := ⟨_, rfl⟩
    have hgl1 := hR.lt
    have hszr := hC.size
    by_cases hpl : p < 4
    · have hpd : decide ((p : Int) < 4) = true := by simp; omega
      go_wp2
      clear hpd
      go_loopw [6] (fun i w2 => ∃ (k : Nat) (rs : List RuleD) (v5 : Value), i = .int .i64 k ∧ k ≤ 3 ∧ w2.heap[wA.heap.size]? = some (.cells #[v5] 25 (0, 0)) ∧ Ow oRule 38 w2 (fun q => wA.heap.size < q) v5 rs ∧ rs.length = k ∧ (∀ r ∈ rs, RuleBig r) ∧ Rdr w2 g B (m + 93 * p + 31 * k) ∧ Ch (fun k => k = g) wA w2) (fun i _ => 3 - (intOf i).toNat)
      case atStart => exact ⟨0, [], _, rfl, by omega, heap_at rfl, Ow.nil _ _ _ _, rfl, by simp, (hR.ch (S := fun k => g < k) ((Ch.refl _ _).alloc _) (fun k hk hk' => absurd hk (Nat.not_le.2 hk'))).move rfl (fun _ _ => rfl) (by omega), (Ch.refl _ _).alloc _⟩
      case round =>
        obtain ⟨k, rs, v5, rfl, hk, hb5, hO5, hl5, hr5, hR5, hC5⟩ := hrel
        obtain ⟨wB, rfl⟩ : ∃ x, x = wr := ⟨_, rfl⟩
        have hgl5 := hR5.lt
        have hsz5 := hC5.size
        by_cases hkl : k < 3
        · go_wp2_with (go_at_call 49; refine (pick_c g B _ _ _ (Rdr.ch (S := fun k => g < k) (by with_reducible assumption) (by repeat (first | (with_reducible exact Ch.refl _ _) | (with_reducible refine Ch.drew ?_) | (with_reducible refine Ch.alloc ?_ _) | with_reducible refine Ch.setCell ?_ (Or.inl (by simp only; omega)) _)) (fun k hk hk' => absurd hk (Nat.not_le.2 hk'))) (by omega) (by omega)).mono ?_; rintro e w6 ⟨n0, rfl, hn0, hR6, hC6⟩)
          have hb7 := hC6.heap (k := wB.heap.size) (heap_at rfl) (fun hk => by have : wB.heap.size = g := hk; omega)
          have hb5' := hC6.heap (k := wA.heap.size) (below_heap (balloc (Below.refl wB.heap.size wB) _) (blk_lt hb5) hb5) (fun hk => by have : wA.heap.size = g := hk; omega)
          have hsz6 := hC6.size
          simp only [World.size_alloc] at hsz6
          have hC6' : Ch (fun k => k = g) wB w6 := Ch.trans (S := fun k => k = g) ((Ch.refl _ _).alloc _) hC6
          have hs7g : ¬ wB.heap.size = g := by omega
          go_loopw [8] (fun i w3 => ∃ (n : Nat) (os : List OpD) (v7 : Value), i = .int .i64 n ∧ n ≤ 6 ∧ w3.heap[wB.heap.size]? = some (.cells #[.int .i64 k, v7] 38 (0, 0)) ∧ Ow tOp 90 w3 (fun q => wB.heap.size < q) v7 os ∧ os.length + n ≤ 6 ∧ Rdr w3 g B (m + 93 * p + 31 * k + 31 - 5 * n) ∧ Ch (fun k => k = g) wB w3) (fun i _ => (intOf i).toNat)
          case atStart => exact ⟨2 + n0, [], _, by simp; try omega, by omega, hb7, Ow.nil _ _ _ _, by simp; omega, hR6.move rfl (fun _ _ => rfl) (by omega), hC6'⟩
          case round =>
            obtain ⟨n, os, v7, rfl, hn, hb3, hO3, hl3, hR3, hC3⟩ := hrel
            obtain ⟨wC, rfl⟩ : ∃ x, x = wr := ⟨_, rfl⟩
            have hgl3 := hR3.lt
            have hsz3 := hC3.size
            by_cases hnl : 0 < n
            · go_upto_region 14 with (go_at_call 111; refine (l71Op_c g B _ _ (Rdr.ch (S := fun k => g < k) (by with_reducible assumption) (by repeat (first | (with_reducible exact Ch.refl _ _) | (with_reducible refine Ch.drew ?_) | (with_reducible refine Ch.alloc ?_ _) | with_reducible refine Ch.setCell ?_ (Or.inl (by simp only; omega)) _)) (fun k hk hk' => absurd hk (Nat.not_le.2 hk'))) (by omega)).mono ?_; rintro e w8 ⟨od, rfl, hR8, hC8⟩; unfold opAgg)
              obtain ⟨A7, c7, rfl, hl7⟩ := hO3.shape
              have hb8 := hC8.heap hb3 (fun hk => hs7g hk)
              have hsz8 := hC8.size
              have hO8 := (hO3.ch hC8 (fun k hk hk' => by have h1 : wB.heap.size < k := hk; have h2 : k = g := hk'; omega)).alloc (.cells #[.int .i64 od.d, .int .i64 od.a, .int .i64 od.b, .int .i64 od.c, .int .i64 od.e] 90)
              have hb14 := below_heap (balloc (Below.refl w8.heap.size w8) (.cells #[.int .i64 od.d, .int .i64 od.a, .int .i64 od.b, .int .i64 od.c, .int .i64 od.e] 90)) (blk_lt hb8) hb8
              have d1 := blk_cell hb14 1
              have d2 : w8.cell? ⟨wB.heap.size, 1, none⟩ = some (.slice A7 os.length c7) := blk_cell hb8 1
              simp at d1
              have z8 : wB.heap.size < w8.heap.size := blk_lt hb8
              have z9 : wB.heap.size < w8.heap.size + 1 := by omega
              have n8 : ¬ wB.heap.size = w8.heap.size := by omega
              go_cut [40] (fun t wc => t = .bool (opsOk (os ++ [od])) ∧ Ch (fun _ => False) (w8.alloc (.cells #[.int .i64 od.d, .int .i64 od.a, .int .i64 od.b, .int .i64 od.c, .int .i64 od.e] 90)) wc)
              case first =>
                refine region_tree (fun w' => Ch (fun _ => False) (w8.alloc (.cells #[.int .i64 od.d, .int .i64 od.a, .int .i64 od.b, .int .i64 od.c, .int .i64 od.e] 90)) w') (.take 0 (.take 2 (.take 3 (.take 5 (.two 1 (.two 4 (.one 6 (.one 7 (.one 8 (.one 9 .nil)))) 6 (.one 4 (.one 7 (.one 8 (.one 9 .nil))))) 6 (.one 1 (.one 4 (.one 7 (.one 8 (.one 9 .nil)))))))))) (by kernel_rfl) (by kernel_rfl) (fun _ _ d _ _ h => by cases d <;> exact h) ?_
                have HS := (Ch.refl (fun _ => False) (w8.alloc (.cells #[.int .i64 od.d, .int .i64 od.a, .int .i64 od.b, .int .i64 od.c, .int .i64 od.e] 90))).drew
                iterate 4 (refine tree_take (v := ?_) (by rfl) HS (by rfl) ?_ ?_; rotate_left; (focus (intro wS hS; obtain ⟨kc, kf⟩ := chf_cells hS; go_simp; (try (with_reducible rfl)); done)); (intro K hK; go_simp; refine hK _ ?_; clear hK K))
                refine tree_two ?_ ?_
                · refine tree_do (by rfl) (by rfl) (fun K hK => ?_)
                  go_simp
                  refine hK _ _ (Or.inr (HS.alloc _)) ?_; clear hK K
                  have HS := HS.alloc (.cells #[] 90)
                  refine tree_two ?_ ?_
                  · have hE := Ow.empty (w := ((w8.alloc (.cells #[.int .i64 od.d, .int .i64 od.a, .int .i64 od.b, .int .i64 od.c, .int .i64 od.e] 90)).drew).alloc (.cells #[] 90)) (g := w8.heap.size + 1) tOp (e := 90) (F := fun k => k = w8.heap.size + 1) (heap_at (by simp)) rfl
                    refine tree_do (by rfl) (by rfl) (fun K hK => ?_)
                    refine ow_concat_wp 36 rfl Try.underlying36 _ 40 info_op rfl (by decide) (by decide) rfl hE rfl (hO8.rd.ch (S := fun _ => False) HS (fun _ _ hf => hf)) (by simp; omega) (fun k => w8.heap.size < k) (fun k hk => by have h3 : k = w8.heap.size + 1 := hk; omega) (fun k hk => by simp at hk; omega) ?_
                    intro v9 w9 hO9 hG9 hat9
                    have HS9 := HS.grown hG9 (fun k hk => .inr (by have h3 : k = w8.heap.size + 1 := hE.inF hk; simp; omega))
                    refine hK _ _ (Or.inr HS9) ?_; clear hK K HS
                    have HS := HS9; clear HS9
                    refine tree_do (by rfl) (by rfl) (fun K hK => ?_)
                    go_simp
                    refine hK _ _ (Or.inr (HS.alloc _)) ?_; clear hK K
                    have HS := HS.alloc (.cells #[.int .i64 od.d, .int .i64 od.a, .int .i64 od.b, .int .i64 od.c, .int .i64 od.e] 90)
                    have HE : ((w9).alloc (.cells #[.int .i64 od.d, .int .i64 od.a, .int .i64 od.b, .int .i64 od.c, .int .i64 od.e] 90)).heap[w9.heap.size]? = some (.cells #[.int .i64 od.d, .int .i64 od.a, .int .i64 od.b, .int .i64 od.c, .int .i64 od.e] 90) := heap_at (by simp)
                    have hO9 := hO9.alloc (.cells #[.int .i64 od.d, .int .i64 od.a, .int .i64 od.b, .int .i64 od.c, .int .i64 od.e] 90)
                    refine tree_do (by rfl) (by rfl) (fun K hK => ?_)
                    refine ow_append_wp (d := tOp) 36 rfl Try.underlying36 _ 40 info_op rfl (by decide) (by decide) rfl hO9 od _ rfl HE (fun _ => False) rfl (fun _ hf => hf.elim) (fun _ hf => hf.elim) (by simp; omega) (fun k => w8.heap.size < k) (fun _ hk => hk) (fun _ hf => hf.elim) (fun k hk => by have h3 := HS.size; simp at hk h3; omega) ?_
                    intro vA wX hOA hGA hatA
                    have HS9 := HS.grown hGA (fun k hk => .inr (by have h3 := hO9.inF hk; simp at h3 ⊢; omega))
                    obtain ⟨AX, cX, rfl, hlX⟩ := hOA.shape
                    refine hK _ _ (Or.inr HS9) ?_; clear hK K HS
                    have HS := HS9; clear HS9
                    refine tree_do (by rfl) (by rfl) (fun K hK => ?_)
                    go_simp
                    refine hK _ _ (Or.inr HS) ?_; clear hK K
                    refine tree_do (by rfl) (by rfl) (fun K hK => ?_)
                    go_simp
                    have hRX : Rd tOp wX (fun k => w8.heap.size < k) (.slice AX (os.length + 1) cX) (os ++ [od]) := by have h3 := hOA.rd; simpa using h3
                    refine (l1RuleOk_c k _ (os ++ [od]) _ wX hRX).mono ?_
                    rintro q wY ⟨rfl, hbY⟩
                    refine hK _ _ (Or.inl (by kernel_rfl)) ?_; clear hK K
                    simp only [wpTree]
                    have hCY := HS.trans (Ch.of_below hbY)
                    go_wp2_with fail
                    go_meet
                    exact ⟨rfl, hCY⟩
                  · have hE := Ow.empty (w := ((w8.alloc (.cells #[.int .i64 od.d, .int .i64 od.a, .int .i64 od.b, .int .i64 od.c, .int .i64 od.e] 90)).drew).alloc (.cells #[] 90)) (g := w8.heap.size + 1) tOp (e := 90) (F := fun k => k = w8.heap.size + 1) (heap_at (by simp)) rfl
                    refine tree_do (by rfl) (by rfl) (fun K hK => ?_)
                    go_simp
                    refine hK _ _ (Or.inr (HS.alloc _)) ?_; clear hK K
                    have HS := HS.alloc (.cells #[.int .i64 od.d, .int .i64 od.a, .int .i64 od.b, .int .i64 od.c, .int .i64 od.e] 90)
                    have HE : ((((w8.alloc (.cells #[.int .i64 od.d, .int .i64 od.a, .int .i64 od.b, .int .i64 od.c, .int .i64 od.e] 90)).drew).alloc (.cells #[] 90)).alloc (.cells #[.int .i64 od.d, .int .i64 od.a, .int .i64 od.b, .int .i64 od.c, .int .i64 od.e] 90)).heap[w8.heap.size + 2]? = some (.cells #[.int .i64 od.d, .int .i64 od.a, .int .i64 od.b, .int .i64 od.c, .int .i64 od.e] 90) := heap_at (by simp)
                    have hE := hE.alloc (.cells #[.int .i64 od.d, .int .i64 od.a, .int .i64 od.b, .int .i64 od.c, .int .i64 od.e] 90)
                    refine tree_do (by rfl) (by rfl) (fun K hK => ?_)
                    refine ow_concat_wp 36 rfl Try.underlying36 _ 40 info_op rfl (by decide) (by decide) rfl hE rfl (hO8.rd.ch (S := fun _ => False) HS (fun _ _ hf => hf)) (by simp; omega) (fun k => w8.heap.size < k) (fun k hk => by have h3 : k = w8.heap.size + 1 := hk; omega) (fun k hk => by simp at hk; omega) ?_
                    intro v9 w9 hO9 hG9 hat9
                    have HS9 := HS.grown hG9 (fun k hk => .inr (by have h3 : k = w8.heap.size + 1 := hE.inF hk; simp; omega))
                    have HE := (hG9.block (w8.heap.size + 2) (blk_lt HE) (fun h => by have h4 : some (w8.heap.size + 2) = some (w8.heap.size + 1) := h; simp at h4; try omega)).trans HE
                    refine hK _ _ (Or.inr HS9) ?_; clear hK K HS
                    have HS := HS9; clear HS9
                    refine tree_do (by rfl) (by rfl) (fun K hK => ?_)
                    refine ow_append_wp (d := tOp) 36 rfl Try.underlying36 _ 40 info_op rfl (by decide) (by decide) rfl hO9 od _ rfl HE (fun _ => False) rfl (fun _ hf => hf.elim) (fun _ hf => hf.elim) (by simp; omega) (fun k => w8.heap.size < k) (fun _ hk => hk) (fun _ hf => hf.elim) (fun k hk => by have h3 := HS.size; simp at hk h3; omega) ?_
                    intro vA wX hOA hGA hatA
                    have HS9 := HS.grown hGA (fun k hk => .inr (by have h3 := hO9.inF hk; simp at h3 ⊢; omega))
                    obtain ⟨AX, cX, rfl, hlX⟩ := hOA.shape
                    refine hK _ _ (Or.inr HS9) ?_; clear hK K HS
                    have HS := HS9; clear HS9
                    refine tree_do (by rfl) (by rfl) (fun K hK => ?_)
                    go_simp
                    refine hK _ _ (Or.inr HS) ?_; clear hK K
                    refine tree_do (by rfl) (by rfl) (fun K hK => ?_)
                    go_simp
                    have hRX : Rd tOp wX (fun k => w8.heap.size < k) (.slice AX (os.length + 1) cX) (os ++ [od]) := by have h3 := hOA.rd; simpa using h3
                    refine (l1RuleOk_c k _ (os ++ [od]) _ wX hRX).mono ?_
                    rintro q wY ⟨rfl, hbY⟩
                    refine hK _ _ (Or.inl (by kernel_rfl)) ?_; clear hK K
                    simp only [wpTree]
                    have hCY := HS.trans (Ch.of_below hbY)
                    go_wp2_with fail
                    go_meet
                    exact ⟨rfl, hCY⟩
                · refine tree_do (by rfl) (by rfl) (fun K hK => ?_)
                  go_simp
                  refine hK _ _ (Or.inr (HS.alloc _)) ?_; clear hK K
                  have HS := HS.alloc (.cells #[.int .i64 od.d, .int .i64 od.a, .int .i64 od.b, .int .i64 od.c, .int .i64 od.e] 90)
                  have HE : (((w8.alloc (.cells #[.int .i64 od.d, .int .i64 od.a, .int .i64 od.b, .int .i64 od.c, .int .i64 od.e] 90)).drew).alloc (.cells #[.int .i64 od.d, .int .i64 od.a, .int .i64 od.b, .int .i64 od.c, .int .i64 od.e] 90)).heap[w8.heap.size + 1]? = some (.cells #[.int .i64 od.d, .int .i64 od.a, .int .i64 od.b, .int .i64 od.c, .int .i64 od.e] 90) := heap_at (by simp)
                  refine tree_do (by rfl) (by rfl) (fun K hK => ?_)
                  go_simp
                  refine hK _ _ (Or.inr (HS.alloc _)) ?_; clear hK K
                  have HS := HS.alloc (.cells #[] 90)
                  have hE := Ow.empty (w := (((w8.alloc (.cells #[.int .i64 od.d, .int .i64 od.a, .int .i64 od.b, .int .i64 od.c, .int .i64 od.e] 90)).drew).alloc (.cells #[.int .i64 od.d, .int .i64 od.a, .int .i64 od.b, .int .i64 od.c, .int .i64 od.e] 90)).alloc (.cells #[] 90)) (g := w8.heap.size + 2) tOp (e := 90) (F := fun k => k = w8.heap.size + 2) (heap_at (by simp)) rfl
                  have HE := below_heap (balloc (Below.refl _ _) (.cells #[] 90)) (blk_lt HE) HE
                  refine tree_do (by rfl) (by rfl) (fun K hK => ?_)
                  refine ow_concat_wp 36 rfl Try.underlying36 _ 40 info_op rfl (by decide) (by decide) rfl hE rfl (hO8.rd.ch (S := fun _ => False) HS (fun _ _ hf => hf)) (by simp; omega) (fun k => w8.heap.size < k) (fun k hk => by have h3 : k = w8.heap.size + 2 := hk; omega) (fun k hk => by simp at hk; omega) ?_
                  intro v9 w9 hO9 hG9 hat9
                  have HS9 := HS.grown hG9 (fun k hk => .inr (by have h3 : k = w8.heap.size + 2 := hE.inF hk; simp; omega))
                  have HE := (hG9.block (w8.heap.size + 1) (blk_lt HE) (fun h => by have h4 : some (w8.heap.size + 1) = some (w8.heap.size + 2) := h; simp at h4; try omega)).trans HE
                  refine hK _ _ (Or.inr HS9) ?_; clear hK K HS
                  have HS := HS9; clear HS9
                  refine tree_do (by rfl) (by rfl) (fun K hK => ?_)
                  refine ow_append_wp (d := tOp) 36 rfl Try.underlying36 _ 40 info_op rfl (by decide) (by decide) rfl hO9 od _ rfl HE (fun _ => False) rfl (fun _ hf => hf.elim) (fun _ hf => hf.elim) (by simp; omega) (fun k => w8.heap.size < k) (fun _ hk => hk) (fun _ hf => hf.elim) (fun k hk => by have h3 := HS.size; simp at hk h3; omega) ?_
                  intro vA wX hOA hGA hatA
                  have HS9 := HS.grown hGA (fun k hk => .inr (by have h3 := hO9.inF hk; simp at h3 ⊢; omega))
                  obtain ⟨AX, cX, rfl, hlX⟩ := hOA.shape
                  refine hK _ _ (Or.inr HS9) ?_; clear hK K HS
                  have HS := HS9; clear HS9
                  refine tree_do (by rfl) (by rfl) (fun K hK => ?_)
                  go_simp
                  refine hK _ _ (Or.inr HS) ?_; clear hK K
                  refine tree_do (by rfl) (by rfl) (fun K hK => ?_)
                  go_simp
                  have hRX : Rd tOp wX (fun k => w8.heap.size < k) (.slice AX (os.length + 1) cX) (os ++ [od]) := by have h3 := hOA.rd; simpa using h3
                  refine (l1RuleOk_c k _ (os ++ [od]) _ wX hRX).mono ?_
                  rintro q wY ⟨rfl, hbY⟩
                  refine hK _ _ (Or.inl (by kernel_rfl)) ?_; clear hK K
                  simp only [wpTree]
                  have hCY := HS.trans (Ch.of_below hbY)
                  go_wp2_with fail
                  go_meet
                  exact ⟨rfl, hCY⟩
              case rest =>
                obtain ⟨ht, hCY⟩ := hcut
                have hbYs := hCY.heap hb14 (fun hf => hf)
                have y1 : wc.cell? ⟨wB.heap.size, 1, none⟩ = some (.slice A7 os.length c7) := blk_cell hbYs 1
                have yf := blk_frozen hbYs 1
                have hbYo := hCY.heap (heap_at rfl) (fun hf => hf)
                obtain ⟨x0, x1, x2, x3, x4, xf⟩ := cells5 hbYo
                have zY := hCY.size
                simp only [World.size_alloc] at zY
                by_cases hok : opsOk (os ++ [od]) = true
                · rw [hok] at ht; subst ht
                  have hOY := (hO8.ch hCY (fun _ _ hf => hf)).alloc (.cells #[.int .i64 od.d, .int .i64 od.a, .int .i64 od.b, .int .i64 od.c, .int .i64 od.e] 90)
                  have hbYt := below_heap (balloc (Below.refl _ wc) (.cells #[.int .i64 od.d, .int .i64 od.a, .int .i64 od.b, .int .i64 od.c, .int .i64 od.e] 90)) (blk_lt hbYs) hbYs
                  go_wp2_with (at_builtin; refine ow_append (d := tOp) rfl 36 rfl Try.underlying36 _ 40 info_op rfl (by decide) (by decide) rfl hOY od _ rfl (heap_at rfl) (fun _ => False) rfl (fun _ hf => hf.elim) (fun _ hf => hf.elim) (by omega) (fun k => wB.heap.size < k) (fun _ hk => hk) (fun _ hf => hf.elim) (fun k hk => by simp at hk; omega) ?_; intro v15 w15 hO15 hG15 hat15; obtain ⟨A15, c15, hv15, hl15⟩ := hO15.shape; obtain rfl : v15 = .slice A15 (os.length + 1) c15 := (by simpa using hv15); have hb15 := (hG15.block _ (blk_lt hbYt) (fun h => by have h4 := hOY.inF h.symm; simp at h4)).trans hbYt; have cl15 : w15.cell? ⟨wB.heap.size, 1, none⟩ = some (.slice A7 os.length c7) := blk_cell hb15 1; have fr15 := blk_frozen hb15 1; clear hv15 hat15)
                  have s15 : (w15.setCell ⟨wB.heap.size, 1, none⟩ (.slice A15 (os.length + 1) c15)).heap[wB.heap.size]? = some (.cells #[.int .i64 k, .slice A15 (os.length + 1) c15] 38 (0, 0)) := blk_set hb15 1 _
                  have hCF : Ch (fun q => wB.heap.size ≤ q) w8 (w15.setCell ⟨wB.heap.size, 1, none⟩ (.slice A15 (os.length + 1) c15)) := Ch.setCell (S := fun q => wB.heap.size ≤ q) (p := ⟨wB.heap.size, 1, none⟩) (Ch.grown (S := fun q => wB.heap.size ≤ q) (Ch.alloc (Ch.trans ((Ch.refl _ _).alloc _) (hCY.mono (fun _ hf => hf.elim))) _) hG15 (fun q hq => .inl (by have h4 := hOY.inF hq; simp at h4 ⊢; omega))) (.inl (Nat.le_refl _)) _
                  exact ⟨⟨n - 1, os ++ [od], _, by congr 1; omega, by omega, s15, hO15.keep (fun q hq _ => Below.heap_setCell _ _ _ _ (fun e' => by have e1 : q = wB.heap.size := e'; have e2 : wB.heap.size < q := hq; omega)), by simp; omega, (hR8.ch hCF (fun q hq hq' => by have e2 : wB.heap.size ≤ q := hq'; omega)).move rfl (fun _ _ => rfl) (by omega), (hC3.trans hC8).then hCF (fun q hq => .inr hq)⟩, by simp [intOf]; omega⟩
                · have hok' : opsOk (os ++ [od]) = false := by simpa using hok
                  rw [hok'] at ht; subst ht
                  go_wp2
                  have hCF : Ch (fun _ => False) w8 wc := Ch.trans ((Ch.refl _ _).alloc _) hCY
                  exact ⟨⟨n - 1, os, _, by congr 1; omega, by omega, hbYs, (hO3.ch hC8 (fun k hk hk' => by have h1 : wB.heap.size < k := hk; have h2 : k = g := hk'; omega)).ch hCF (fun _ _ hf => hf), by omega, (hR8.ch hCF (fun q hq hq' => hq')).move rfl (fun _ _ => rfl) (by omega), (hC3.trans hC8).then hCF (fun q hq => hq.elim)⟩, by simp [intOf]; omega⟩
            · obtain rfl : n = 0 := by omega
              have hb5C := hC3.heap hb5 (fun hk => by have : wA.heap.size = g := hk; omega)
              have hO5C := ((hO5.bound.ch hC3 (fun q hq hq' => by have h1 : wA.heap.size < q := hq.1; have h2 : q = g := hq'; omega)).alloc (.cells #[.int .i64 k, v7] 38))
              have hO3C := hO3.bound.alloc (.cells #[.int .i64 k, v7] 38)
              have hb5D := below_heap (balloc (Below.refl _ wC) (.cells #[.int .i64 k, v7] 38)) (blk_lt hb5C) hb5C
              have e5 := blk_cell hb5C 0
              have e7 : wC.cell? ⟨wB.heap.size, 0, none⟩ = some (.int .i64 k) := blk_cell hb3 0
              have e8 : wC.cell? ⟨wB.heap.size, 1, none⟩ = some v7 := blk_cell hb3 1
              have e9 := blk_lt hb3
              have e10 := blk_lt hb5C
              have e11 := blk_lt hb5
              simp at e5
              obtain ⟨A7, c7, rfl, hl7⟩ := hO3.shape
              obtain ⟨A5, c5, rfl, hl8⟩ := hO5.shape
              have q5 : rs.length ≤ 3 := by omega
              have HL5 := hid hl5; clear hl5
              have HL := hid hl; clear hl
              go_wp2_with (at_builtin; go_loud (refine ow_append (d := oRule) rfl 23 rfl Try.underlying23 _ 32 info_rule rfl (by decide) (by decide) rfl hO5C ⟨k, os⟩ _ rfl (heap_at rfl) _ ⟨_, rfl, hO3C⟩ (fun q hq hq' => by omega) (fun q hq => by simp; omega) (by omega) (fun q => wA.heap.size < q) (fun _ hk => hk.1) (fun _ hk => by omega) (fun q hq => by simp at hq; omega) ?_); intro v15 w15 hO15 hG15 hat15; obtain ⟨A15, c15, hv15, hl15⟩ := hO15.shape; obtain rfl : v15 = .slice A15 (rs.length + 1) c15 := (by simpa using hv15); have hb15 := (hG15.block _ (blk_lt hb5D) (fun h => by have h4 := hO5C.inF h.symm; simp at h4)).trans hb5D; have cl15 : w15.cell? ⟨wA.heap.size, 0, none⟩ = some (.slice A5 rs.length c5) := blk_cell hb15 0; have fr15 := blk_frozen hb15 0; clear hv15 hat15)
              have s15 : (w15.setCell ⟨wA.heap.size, 0, none⟩ (.slice A15 (rs.length + 1) c15)).heap[wA.heap.size]? = some (.cells #[.slice A15 (rs.length + 1) c15] 25 (0, 0)) := blk_set hb15 0 _
              have hCF : Ch (fun q => wA.heap.size ≤ q) wC (w15.setCell ⟨wA.heap.size, 0, none⟩ (.slice A15 (rs.length + 1) c15)) := Ch.setCell (S := fun q => wA.heap.size ≤ q) (p := ⟨wA.heap.size, 0, none⟩) (Ch.grown (S := fun q => wA.heap.size ≤ q) ((Ch.refl _ _).alloc _) hG15 (fun q hq => .inl (by have h4 := hO5C.inF hq; simp at h4 ⊢; omega))) (.inl (Nat.le_refl _)) _
              exact ⟨⟨k + 1, rs ++ [⟨k, os⟩], _, by go_num, by omega, s15, hO15.keep (fun q hq _ => Below.heap_setCell _ _ _ _ (fun e' => by have e1 : q = wA.heap.size := e'; have e2 : wA.heap.size < q := hq; omega)), by simp [HL5.out], fun r hr => by { rcases List.mem_append.1 hr with hr | hr; exact hr5 r hr; simp at hr; subst hr; show os.length ≤ 6; omega }, (hR3.ch hCF (fun q hq hq' => by have e2 : wA.heap.size ≤ q := hq'; omega)).move rfl (fun _ _ => rfl) (by omega), (hC5.trans hC3).then hCF (fun q hq => .inr hq)⟩, by simp [intOf]; omega⟩
        · obtain rfl : k = 3 := by omega
          have hOC := ((hO.bound.ch hC5 (fun q hq hq' => by have h1 : w.heap.size ≤ q := hq.1; have h2 : q = g := hq'; omega)).alloc (.cells #[v5] 25))
          have hO5C := hO5.bound.alloc (.cells #[v5] 25)
          have e5 := blk_cell hb5 0
          have e9 := blk_lt hb5
          simp at e5
          obtain ⟨A5, c5, rfl, hl8⟩ := hO5.shape
          obtain ⟨A3, c3, rfl, hl9⟩ := hO.shape
          have q3 : xs.length ≤ 4 := by omega
          have HL5 := hid hl5; clear hl5
          have HL := hid hl; clear hl
          go_wp2_with (at_builtin; go_loud (refine ow_append (d := oApp) rfl 59 rfl Try.underlying59 _ 24 info_app rfl (by decide) (by decide) rfl hOC ⟨rs⟩ _ rfl (heap_at rfl) _ ⟨_, rfl, hO5C⟩ (fun q hq hq' => by omega) (fun q hq => by simp; omega) (by omega) (fun q => w.heap.size ≤ q) (fun _ hk => hk.1) (fun _ hk => by omega) (fun q hq => by simp at hq; omega) ?_); intro v15 w15 hO15 hG15 hat15; clear hat15)
          have hCF : Ch (fun q => w.heap.size ≤ q) wB w15 := Ch.grown (S := fun q => w.heap.size ≤ q) ((Ch.refl _ _).alloc _) hG15 (fun q hq => .inl (by have h4 := hOC.inF hq; simp at h4 ⊢; omega))
          exact ⟨⟨p + 1, xs ++ [⟨rs⟩], by go_num, by omega, hO15, by simp [HL.out], fun r hr => by { rcases List.mem_append.1 hr with hr | hr; exact hx r hr; simp at hr; subst hr; exact ⟨HL5.out, hr5⟩ }, (hR5.ch hCF (fun q hq hq' => by have e2 : w.heap.size ≤ q := hq'; omega)).move rfl (fun _ _ => rfl) (by omega), (hC.trans hC5).then hCF (fun q hq => .inr hq)⟩, by simp [intOf]; omega⟩
    · go_wp2
      go_ret
      exact ⟨_, xs, rfl, hO, by omega, hx, hR.move rfl (fun _ _ => rfl) (by omega), hC⟩
end Go.Proofs.Ytmnccekljombmaa
