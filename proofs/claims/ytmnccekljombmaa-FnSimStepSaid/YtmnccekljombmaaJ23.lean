/- Texts joined: Upd, Draw3, Draw4. -/
import Derived.Test.YtmnccekljombmaaJ08
import Derived.Test.YtmnccekljombmaaJ10
import Derived.Test.YtmnccekljombmaaJ06
import Derived.Test.YtmnccekljombmaaJ09
import Derived.OwnWalk
import Derived.Deep.DeepCutAuto
namespace Go.Proofs.Ytmnccekljombmaa
set_option linter.unusedVariables false
set_option linter.unusedSimpArgs false
open Go.RowKit
theorem Ow.updRd {α : Type} {d d' : Ty α} {e : TypeId} {w : World} {F : Nat → Prop} {v : Value} {xs : List α} (hs : d'.sz = d.sz) (hm : ∀ w F x cs, d.rel w F x cs → d'.rel w F x cs) (h : Ow d e w F v xs) {g : Nat} (hv : v.ownBlock = some g) (j : Nat) (hj : j < xs.length) :
    ∃ (Fj : Nat → Prop) (csj : List Value), d.rel w Fj xs[j] csj ∧ (∀ k, Fj k → F k ∧ k ≠ g ∧ k < w.heap.size) ∧ (∀ i u, csj[i]? = some u → w.cell? ⟨g, j * d.sz + i, none⟩ = some u) ∧
      ∀ (w' : World) (x' : α) (cs' : List Value) (G : Nat → Prop), g < w'.heap.size → (∀ o, (o < j * d.sz ∨ j * d.sz + d.sz ≤ o) → w'.cell? ⟨g, o, none⟩ = w.cell? ⟨g, o, none⟩) → (∀ i u, cs'[i]? = some u → w'.cell? ⟨g, j * d.sz + i, none⟩ = some u) →
        (∀ k, F k → k < w.heap.size → k ≠ g → ¬ Fj k → w'.heap[k]? = w.heap[k]?) → d'.rel w' G x' cs' → (∀ k, F k → G k) → Rd d' w' G v (xs.set j x') := by
  obtain ⟨cs, Fs, h1, h2, h3, h4, h5⟩ := h.bound
  have hlen := h1.1
  rcases h1.2 with ⟨rfl, _⟩ | ⟨g', cap, cur, rfl, hb, hh, hc1, hc2, hc3, hc4⟩
  · simp [Value.ownBlock] at hv
  · simp only [Value.ownBlock, Option.some.injEq] at hv
    subst hv
    have hat : ∀ q i u, ((cs.drop (q * d.sz)).take d.sz)[i]? = some u → i < d.sz ∧ w.cell? ⟨g', q * d.sz + i, none⟩ = some u := by
      intro q i u hi
      rw [List.getElem?_take] at hi
      split at hi
      · rename_i hlt
        rw [List.getElem?_drop] at hi
        have := h1.cells (g := g') rfl (q * d.sz + i) u hi
        have ha : (⟨g', 0, none⟩ : Addr).add (q * d.sz + i) = ⟨g', q * d.sz + i, none⟩ := by unfold Addr.add; split <;> simp_all
        rw [ha] at this
        exact ⟨hlt, this⟩
      · cases hi
    refine ⟨Fs j, (cs.drop (j * d.sz)).take d.sz, h5 j _ (List.getElem?_eq_getElem hj), fun k hk => ⟨(h3 j k hk).1.1, fun e' => (h3 j k hk).2 (by rw [e']; rfl), (h3 j k hk).1.2⟩, fun i u hi => (hat j i u hi).2, ?_⟩
    intro w' x' cs' G hlt' hcell hnew hfr hrel hFG
    refine ⟨some ⟨g', 0, none⟩, cap, by simp, by simpa using hc1, by simp only [maxLen] at hc2; simp; omega, fun _ => ⟨g', 0, rfl, hFG _ (h2 _ rfl).1, hlt', fun q x hq => ?_⟩⟩
    by_cases hqj : q = j
    · subst hqj
      have hx : x' = x := by simpa [List.getElem?_set_self hj] using hq
      subst hx
      refine ⟨cs', hrel, fun i u hi => ?_⟩
      rw [hs, Nat.zero_add]; exact hnew i u hi
    · rw [List.getElem?_set_ne (Ne.symm hqj)] at hq
      have h6 := h5 q x hq
      have h7 : d.rel w' (Fs q) x ((cs.drop (q * d.sz)).take d.sz) :=
        d.move (fun k hk' => hfr k (h3 q k hk').1.1 (h3 q k hk').1.2 (fun e' => (h3 q k hk').2 (by rw [e']; rfl)) (fun hj' => h4 q j k hqj hk' hj')) h6
      refine ⟨_, hm _ _ _ _ (d.mono (fun k hk' => hFG k (h3 q k hk').1.1) h7), fun i u hi => ?_⟩
      obtain ⟨hi1, hi2⟩ := hat q i u hi
      rw [hs, Nat.zero_add, hcell]
      · exact hi2
      · by_cases hlt : q < j
        · have : (q + 1) * d.sz ≤ j * d.sz := Nat.mul_le_mul_right _ hlt
          rw [Nat.add_mul, Nat.one_mul] at this
          left; omega
        · have : (j + 1) * d.sz ≤ q * d.sz := Nat.mul_le_mul_right _ (by omega)
          rw [Nat.add_mul, Nat.one_mul] at this
          right; omega
theorem Rd.drop {α : Type} {d : Ty α} {w : World} {F : Nat → Prop} {b o n c : Nat} {xs : List α} (h : Rd d w F (.slice (some ⟨b, o, none⟩) n c) xs) (k m c' : Nat) (hk : k ≤ xs.length) (hm : m = xs.length - k) (hc : m ≤ c') : Rd d w F (.slice (some ⟨b, o + k * d.sz, none⟩) m c') (xs.drop k) := by
  obtain ⟨A', c1, he, h1, h2, h3⟩ := h
  injection he with hA _ _
  subst hA
  have hl : (xs.drop k).length = m := by simp [hm]
  refine ⟨_, c', by rw [hl], by rw [hl]; exact hc, by simp; omega, fun hp => ?_⟩
  obtain ⟨b', o', he', hF, hlt, hc⟩ := h3 (by simp at hp; omega)
  simp only [Option.some.injEq, Addr.mk.injEq, and_true] at he'
  obtain ⟨rfl, rfl⟩ := he'
  refine ⟨b, o + k * d.sz, rfl, hF, hlt, fun j x hj => ?_⟩
  rw [List.getElem?_drop] at hj
  obtain ⟨cs, hr, hu⟩ := hc _ x hj
  refine ⟨cs, hr, fun i u hi => ?_⟩
  have := hu i u hi
  rwa [Nat.add_mul, ← Nat.add_assoc] at this
theorem oRule_t : ∀ w F x cs, oRule.rel w F x cs → tRule.rel w F x cs := fun w F x cs ⟨v, h1, h2⟩ => ⟨v, h1, h2.rd⟩
theorem oApp_t : ∀ w F x cs, oApp.rel w F x cs → tApp.rel w F x cs := fun w F x cs ⟨v, h1, h2⟩ => ⟨v, h1, h2.rdRules⟩
/-- The program at a place, its row of rules. -/
theorem Ow.appAt {e : TypeId} {w : World} {F : Nat → Prop} {v : Value} {xs : List AppD} (h : Ow oApp e w F v xs) {g : Nat} (hv : v.ownBlock = some g) (p : Nat) (hp : p < xs.length) :
    ∃ (Fj : Nat → Prop) (vp : Value), Ow oRule 38 w Fj vp xs[p].rules ∧ (∀ k, Fj k → F k ∧ k ≠ g ∧ k < w.heap.size) ∧ w.cell? ⟨g, p, none⟩ = some vp ∧
      ∀ (w' : World) (l' : List RuleD) (v' : Value) (G : Nat → Prop), g < w'.heap.size → (∀ o, o ≠ p → w'.cell? ⟨g, o, none⟩ = w.cell? ⟨g, o, none⟩) → w'.cell? ⟨g, p, none⟩ = some v' →
        (∀ k, F k → k < w.heap.size → k ≠ g → ¬ Fj k → w'.heap[k]? = w.heap[k]?) → Rd tRule w' G v' l' → (∀ k, F k → G k) → Rd tApp w' G v (xs.set p ⟨l'⟩) := by
  obtain ⟨Fj, csj, ⟨vp, hc, hr⟩, h2, h3, h4⟩ := Ow.updRd (d := oApp) (d' := tApp) rfl oApp_t h hv p hp
  subst hc
  have hz : oApp.sz = 1 := rfl
  rw [hz, Nat.mul_one] at h3 h4
  refine ⟨Fj, vp, hr, h2, by simpa using h3 0 vp rfl, fun w' l' v' G a1 a2 a3 a4 a5 a6 => h4 w' ⟨l'⟩ [v'] G a1 (fun o ho => a2 o (by omega)) (fun i u hi => ?_) a4 ⟨v', rfl, a5⟩ a6⟩
  cases i with
  | zero => simp at hi; subst hi; simpa using a3
  | succ i => simp at hi
/-- The rule at a place, its row of ops. -/
theorem Ow.ruleAt {e : TypeId} {w : World} {F : Nat → Prop} {v : Value} {xs : List RuleD} (h : Ow oRule e w F v xs) {g : Nat} (hv : v.ownBlock = some g) (p : Nat) (hp : p < xs.length) :
    ∃ (Fj : Nat → Prop) (vp : Value), Ow tOp 90 w Fj vp xs[p].ops ∧ (∀ k, Fj k → F k ∧ k ≠ g ∧ k < w.heap.size) ∧ w.cell? ⟨g, p * 2, none⟩ = some (.int .i64 xs[p].kind) ∧ w.cell? ⟨g, p * 2 + 1, none⟩ = some vp ∧
      ∀ (w' : World) (l' : List OpD) (v' : Value) (G : Nat → Prop), g < w'.heap.size → (∀ o, o ≠ p * 2 + 1 → w'.cell? ⟨g, o, none⟩ = w.cell? ⟨g, o, none⟩) → w'.cell? ⟨g, p * 2 + 1, none⟩ = some v' →
        (∀ k, F k → k < w.heap.size → k ≠ g → ¬ Fj k → w'.heap[k]? = w.heap[k]?) → Rd tOp w' G v' l' → (∀ k, F k → G k) → Rd tRule w' G v (xs.set p ⟨xs[p].kind, l'⟩) := by
  obtain ⟨Fj, csj, ⟨vp, hc, hr⟩, h2, h3, h4⟩ := Ow.updRd (d := oRule) (d' := tRule) rfl oRule_t h hv p hp
  subst hc
  have hz : oRule.sz = 2 := rfl
  rw [hz] at h3 h4
  have c0 := h3 0 _ rfl
  have c1 := h3 1 _ rfl
  refine ⟨Fj, vp, hr, h2, by simpa using c0, c1, fun w' l' v' G a1 a2 a3 a4 a5 a6 => h4 w' ⟨xs[p].kind, l'⟩ [.int .i64 xs[p].kind, v'] G a1 (fun o ho => a2 o (by omega)) (fun i u hi => ?_) a4 ⟨v', rfl, a5⟩ a6⟩
  match i with
  | 0 => simp at hi; subst hi; simp only [Nat.add_zero]; rw [a2 _ (by omega)]; simpa using c0
  | 1 => simp at hi; subst hi; exact a3
  | i + 2 => simp at hi
end Go.Proofs.Ytmnccekljombmaa

namespace Go.Proofs.Ytmnccekljombmaa
set_option linter.unusedVariables false
set_option linter.unusedSimpArgs false
set_option maxRecDepth 100000
open Go.RowKit

theorem chf_cells {w w' : World} (h : Ch (fun _ => False) w w') : (∀ b o, b < w.heap.size → w'.cell? ⟨b, o, none⟩ = w.cell? ⟨b, o, none⟩) ∧ (∀ b o, b < w.heap.size → w'.frozen? ⟨b, o, none⟩ = w.frozen? ⟨b, o, none⟩) :=
  ⟨fun b o hb => h.cells.1 b o hb (fun hf => hf), fun b o hb => h.cells.2 b o hb (fun hf => hf)⟩
theorem info_op : (Try.prog.info? 90).map (fun i => (i.zero, i.size, i.bytes)) = some (some (.agg #[.int .i64 0, .int .i64 0, .int .i64 0, .int .i64 0, .int .i64 0]), 5, 40) := by kernel_rfl
theorem info_rule : (Try.prog.info? 38).map (fun i => (i.zero, i.size, i.bytes)) = some (some (.agg #[.int .i64 0, .slice none 0 0]), 2, 32) := by kernel_rfl
theorem info_app : (Try.prog.info? 25).map (fun i => (i.zero, i.size, i.bytes)) = some (some (.agg #[.slice none 0 0]), 1, 24) := by kernel_rfl
def RuleBig (r : RuleD) : Prop := r.ops.length ≤ 6
def AppBig (a : AppD) : Prop := a.rules.length = 3 ∧ ∀ r ∈ a.rules, RuleBig r
set_option maxHeartbeats 4000000 in
theorem l71Apps_c (g B : Nat) (m : Int) (w : World) (h : Rdr w g B m) (hm : m ≤ 800000) :
    Calls Try.prog 84 #[.pointer (some ⟨g, 0, none⟩)] w fun q w' => ∃ v xs, q = .returned v ∧ Ow oApp 25 w' (fun k => w.heap.size ≤ k) v xs ∧ xs.length = 4 ∧ (∀ x ∈ xs, AppBig x) ∧ Rdr w' g B (m + 400) ∧ Ch (fun k => k = g) w w' := by
  have hgl := h.lt
  go_enter Try.func84, Try.ntmps84
  go_wp2
  go_loopw [3, 4] (fun v i wr => ∃ (p : Nat) (xs : List AppD), i = .int .i64 p ∧ p ≤ 4 ∧ Ow oApp 25 wr (fun k => w.heap.size ≤ k) v xs ∧ xs.length = p ∧ (∀ x ∈ xs, AppBig x) ∧ Rdr wr g B (m + 93 * p) ∧ Ch (fun k => k = g) w wr) (fun _ i _ => 4 - (intOf i).toNat)
  case atStart => exact ⟨0, [], rfl, by omega, Ow.empty oApp (heap_at rfl) (Nat.le_refl _), rfl, by simp, (h.ch (S := fun k => g < k) ((Ch.refl _ _).alloc _) (fun k hk hk' => absurd hk (Nat.not_le.2 hk'))).move rfl (fun _ _ => rfl) (by omega), (Ch.refl _ _).alloc _⟩
  case round =>
    obtain ⟨p, xs, rfl, hp, hO, hl, hx, hR, hC⟩ := hrel
    obtain ⟨wA, rfl⟩ : ∃ x, x = wr := ⟨_, rfl⟩
    have hgl1 := hR.lt
    have hszr := hC.size
    by_cases hpl : p < 4
    · have hpd : decide ((p : Int) < 4) = true := by simp; omega
      go_wp2
      clear hpd
      go_loopw [6] (fun i w2 => ∃ (k : Nat) (rs : List RuleD) (v5 : Value), i = .int .i64 k ∧ k ≤ 3 ∧ w2.heap[wA.heap.size]? = some (.cells #[v5] 25 (0, 0)) ∧ Ow oRule 38 w2 (fun q => wA.heap.size < q) v5 rs ∧ rs.length = k ∧ (∀ r ∈ rs, RuleBig r) ∧ Rdr w2 g B (m + 93 * p + 31 * k) ∧ Ch (fun k => k = g) wA w2) (fun i _ => 3 - (intOf i).toNat)
      case atStart => exact ⟨0, [], _, rfl, by omega, heap_at rfl, Ow.nil _ _ _ _, rfl, by simp, (hR.ch (S := fun k => g < k) ((Ch.refl _ _).alloc _) (fun k hk hk' => absurd hk (Nat.not_le.2 hk'))).move rfl (fun _ _ => rfl) (by omega), (Ch.refl _ _).alloc _⟩
      case round =>
        obtain ⟨k, rs, v5, rfl, hk, hb5, hO5, hl5, hr5, hR5, hC5⟩ := hrel
        obtain ⟨wB, rfl⟩ : ∃ x, x = wr := ⟨_, rfl⟩
        have hgl5 := hR5.lt
        have hsz5 := hC5.size
        by_cases hkl : k < 3
        · go_wp2_with (go_at_call 49; refine (pick_c g B _ _ _ (Rdr.ch (S := fun k => g < k) (by with_reducible assumption) (by repeat (first | (with_reducible exact Ch.refl _ _) | (with_reducible refine Ch.drew ?_) | (with_reducible refine Ch.alloc ?_ _) | with_reducible refine Ch.setCell ?_ (Or.inl (by simp only; omega)) _)) (fun k hk hk' => absurd hk (Nat.not_le.2 hk'))) (by omega) (by omega)).mono ?_; rintro e w6 ⟨n0, rfl, hn0, hR6, hC6⟩)
          have hb7 := hC6.heap (k := wB.heap.size) (heap_at rfl) (fun hk => by have : wB.heap.size = g := hk; omega)
          have hb5' := hC6.heap (k := wA.heap.size) (below_heap (balloc (Below.refl wB.heap.size wB) _) (blk_lt hb5) hb5) (fun hk => by have : wA.heap.size = g := hk; omega)
          have hsz6 := hC6.size
          simp only [World.size_alloc] at hsz6
          have hC6' : Ch (fun k => k = g) wB w6 := Ch.trans (S := fun k => k = g) ((Ch.refl _ _).alloc _) hC6
          have hs7g : ¬ wB.heap.size = g := by omega
          go_loopw [8] (fun i w3 => ∃ (n : Nat) (os : List OpD) (v7 : Value), i = .int .i64 n ∧ n ≤ 6 ∧ w3.heap[wB.heap.size]? = some (.cells #[.int .i64 k, v7] 38 (0, 0)) ∧ Ow tOp 90 w3 (fun q => wB.heap.size < q) v7 os ∧ os.length + n ≤ 6 ∧ Rdr w3 g B (m + 93 * p + 31 * k + 31 - 5 * n) ∧ Ch (fun k => k = g) wB w3) (fun i _ => (intOf i).toNat)
          case atStart => exact ⟨2 + n0, [], _, by simp; try omega, by omega, hb7, Ow.nil _ _ _ _, by simp; omega, hR6.move rfl (fun _ _ => rfl) (by omega), hC6'⟩
          case round =>
            obtain ⟨n, os, v7, rfl, hn, hb3, hO3, hl3, hR3, hC3⟩ := hrel
            obtain ⟨wC, rfl⟩ : ∃ x, x = wr := ⟨_, rfl⟩
            have hgl3 := hR3.lt
            have hsz3 := hC3.size
            by_cases hnl : 0 < n
            · go_upto_region 14 with (go_at_call 111; refine (l71Op_c g B _ _ (Rdr.ch (S := fun k => g < k) (by with_reducible assumption) (by repeat (first | (with_reducible exact Ch.refl _ _) | (with_reducible refine Ch.drew ?_) | (with_reducible refine Ch.alloc ?_ _) | with_reducible refine Ch.setCell ?_ (Or.inl (by simp only; omega)) _)) (fun k hk hk' => absurd hk (Nat.not_le.2 hk'))) (by omega)).mono ?_; rintro e w8 ⟨od, rfl, hR8, hC8⟩; unfold opAgg)
              obtain ⟨A7, c7, rfl, hl7⟩ := hO3.shape
              have hb8 := hC8.heap hb3 (fun hk => hs7g hk)
              have hsz8 := hC8.size
              have hO8 := (hO3.ch hC8 (fun k hk hk' => by have h1 : wB.heap.size < k := hk; have h2 : k = g := hk'; omega)).alloc (.cells #[.int .i64 od.d, .int .i64 od.a, .int .i64 od.b, .int .i64 od.c, .int .i64 od.e] 90)
              have hb14 := below_heap (balloc (Below.refl w8.heap.size w8) (.cells #[.int .i64 od.d, .int .i64 od.a, .int .i64 od.b, .int .i64 od.c, .int .i64 od.e] 90)) (blk_lt hb8) hb8
              have d1 := blk_cell hb14 1
              have d2 : w8.cell? ⟨wB.heap.size, 1, none⟩ = some (.slice A7 os.length c7) := blk_cell hb8 1
              simp at d1
              have z8 : wB.heap.size < w8.heap.size := blk_lt hb8
              have z9 : wB.heap.size < w8.heap.size + 1 := by omega
              have n8 : ¬ wB.heap.size = w8.heap.size := by omega
              go_cut [40] (fun t wc => t = .bool (opsOk (os ++ [od])) ∧ Ch (fun _ => False) (w8.alloc (.cells #[.int .i64 od.d, .int .i64 od.a, .int .i64 od.b, .int .i64 od.c, .int .i64 od.e] 90)) wc)
              case first =>
                refine region_tree (fun w' => Ch (fun _ => False) (w8.alloc (.cells #[.int .i64 od.d, .int .i64 od.a, .int .i64 od.b, .int .i64 od.c, .int .i64 od.e] 90)) w') (.take 0 (.take 2 (.take 3 (.take 5 (.two 1 (.two 4 (.one 6 (.one 7 (.one 8 (.one 9 .nil)))) 6 (.one 4 (.one 7 (.one 8 (.one 9 .nil))))) 6 (.one 1 (.one 4 (.one 7 (.one 8 (.one 9 .nil)))))))))) (by kernel_rfl) (by kernel_rfl) (fun _ _ d _ _ h => by cases d <;> exact h) ?_
                have HS := (Ch.refl (fun _ => False) (w8.alloc (.cells #[.int .i64 od.d, .int .i64 od.a, .int .i64 od.b, .int .i64 od.c, .int .i64 od.e] 90))).drew
                iterate 4 (refine tree_take (v := ?_) (by rfl) HS (by rfl) ?_ ?_; rotate_left; (focus (intro wS hS; obtain ⟨kc, kf⟩ := chf_cells hS; go_simp; (try (with_reducible rfl)); done)); (intro K hK; go_simp; refine hK _ ?_; clear hK K))
                refine tree_two ?_ ?_
                · refine tree_do (by rfl) (by rfl) (fun K hK => ?_)
                  go_simp
                  refine hK _ _ (Or.inr (HS.alloc _)) ?_; clear hK K
                  have HS := HS.alloc (.cells #[] 90)
                  refine tree_two ?_ ?_
                  · have hE := Ow.empty (w := ((w8.alloc (.cells #[.int .i64 od.d, .int .i64 od.a, .int .i64 od.b, .int .i64 od.c, .int .i64 od.e] 90)).drew).alloc (.cells #[] 90)) (g := w8.heap.size + 1) tOp (e := 90) (F := fun k => k = w8.heap.size + 1) (heap_at (by simp)) rfl
                    refine tree_do (by rfl) (by rfl) (fun K hK => ?_)
                    refine ow_concat_wp 36 rfl Try.underlying36 _ 40 info_op rfl (by decide) (by decide) rfl hE rfl (hO8.rd.ch (S := fun _ => False) HS (fun _ _ hf => hf)) (by simp; omega) (fun k => w8.heap.size < k) (fun k hk => by have h3 : k = w8.heap.size + 1 := hk; omega) (fun k hk => by simp at hk; omega) ?_
                    intro v9 w9 hO9 hG9 hat9
                    have HS9 := HS.grown hG9 (fun k hk => .inr (by have h3 : k = w8.heap.size + 1 := hE.inF hk; simp; omega))
                    refine hK _ _ (Or.inr HS9) ?_; clear hK K HS
                    have HS := HS9; clear HS9
                    refine tree_do (by rfl) (by rfl) (fun K hK => ?_)
                    go_simp
                    refine hK _ _ (Or.inr (HS.alloc _)) ?_; clear hK K
                    have HS := HS.alloc (.cells #[.int .i64 od.d, .int .i64 od.a, .int .i64 od.b, .int .i64 od.c, .int .i64 od.e] 90)
                    have HE : ((w9).alloc (.cells #[.int .i64 od.d, .int .i64 od.a, .int .i64 od.b, .int .i64 od.c, .int .i64 od.e] 90)).heap[w9.heap.size]? = some (.cells #[.int .i64 od.d, .int .i64 od.a, .int .i64 od.b, .int .i64 od.c, .int .i64 od.e] 90) := heap_at (by simp)
                    have hO9 := hO9.alloc (.cells #[.int .i64 od.d, .int .i64 od.a, .int .i64 od.b, .int .i64 od.c, .int .i64 od.e] 90)
                    refine tree_do (by rfl) (by rfl) (fun K hK => ?_)
                    refine ow_append_wp (d := tOp) 36 rfl Try.underlying36 _ 40 info_op rfl (by decide) (by decide) rfl hO9 od _ rfl HE (fun _ => False) rfl (fun _ hf => hf.elim) (fun _ hf => hf.elim) (by simp; omega) (fun k => w8.heap.size < k) (fun _ hk => hk) (fun _ hf => hf.elim) (fun k hk => by have h3 := HS.size; simp at hk h3; omega) ?_
                    intro vA wX hOA hGA hatA
                    have HS9 := HS.grown hGA (fun k hk => .inr (by have h3 := hO9.inF hk; simp at h3 ⊢; omega))
                    obtain ⟨AX, cX, rfl, hlX⟩ := hOA.shape
                    refine hK _ _ (Or.inr HS9) ?_; clear hK K HS
                    have HS := HS9; clear HS9
                    refine tree_do (by rfl) (by rfl) (fun K hK => ?_)
                    go_simp
                    refine hK _ _ (Or.inr HS) ?_; clear hK K
                    refine tree_do (by rfl) (by rfl) (fun K hK => ?_)
                    go_simp
                    have hRX : Rd tOp wX (fun k => w8.heap.size < k) (.slice AX (os.length + 1) cX) (os ++ [od]) := by have h3 := hOA.rd; simpa using h3
                    refine (l1RuleOk_c k _ (os ++ [od]) _ wX hRX).mono ?_
                    rintro q wY ⟨rfl, hbY⟩
                    refine hK _ _ (Or.inl (by kernel_rfl)) ?_; clear hK K
                    simp only [wpTree]
                    have hCY := HS.trans (Ch.of_below hbY)
                    go_wp2_with fail
                    go_meet
                    exact ⟨rfl, hCY⟩
                  · have hE := Ow.empty (w := ((w8.alloc (.cells #[.int .i64 od.d, .int .i64 od.a, .int .i64 od.b, .int .i64 od.c, .int .i64 od.e] 90)).drew).alloc (.cells #[] 90)) (g := w8.heap.size + 1) tOp (e := 90) (F := fun k => k = w8.heap.size + 1) (heap_at (by simp)) rfl
                    refine tree_do (by rfl) (by rfl) (fun K hK => ?_)
                    go_simp
                    refine hK _ _ (Or.inr (HS.alloc _)) ?_; clear hK K
                    have HS := HS.alloc (.cells #[.int .i64 od.d, .int .i64 od.a, .int .i64 od.b, .int .i64 od.c, .int .i64 od.e] 90)
                    have HE : ((((w8.alloc (.cells #[.int .i64 od.d, .int .i64 od.a, .int .i64 od.b, .int .i64 od.c, .int .i64 od.e] 90)).drew).alloc (.cells #[] 90)).alloc (.cells #[.int .i64 od.d, .int .i64 od.a, .int .i64 od.b, .int .i64 od.c, .int .i64 od.e] 90)).heap[w8.heap.size + 2]? = some (.cells #[.int .i64 od.d, .int .i64 od.a, .int .i64 od.b, .int .i64 od.c, .int .i64 od.e] 90) := heap_at (by simp)
                    have hE := hE.alloc (.cells #[.int .i64 od.d, .int .i64 od.a, .int .i64 od.b, .int .i64 od.c, .int .i64 od.e] 90)
                    refine tree_do (by rfl) (by rfl) (fun K hK => ?_)
                    refine ow_concat_wp 36 rfl Try.underlying36 _ 40 info_op rfl (by decide) (by decide) rfl hE rfl (hO8.rd.ch (S := fun _ => False) HS (fun _ _ hf => hf)) (by simp; omega) (fun k => w8.heap.size < k) (fun k hk => by have h3 : k = w8.heap.size + 1 := hk; omega) (fun k hk => by simp at hk; omega) ?_
                    intro v9 w9 hO9 hG9 hat9
                    have HS9 := HS.grown hG9 (fun k hk => .inr (by have h3 : k = w8.heap.size + 1 := hE.inF hk; simp; omega))
                    have HE := (hG9.block (w8.heap.size + 2) (blk_lt HE) (fun h => by have h4 : some (w8.heap.size + 2) = some (w8.heap.size + 1) := h; simp at h4; try omega)).trans HE
                    refine hK _ _ (Or.inr HS9) ?_; clear hK K HS
                    have HS := HS9; clear HS9
                    refine tree_do (by rfl) (by rfl) (fun K hK => ?_)
                    refine ow_append_wp (d := tOp) 36 rfl Try.underlying36 _ 40 info_op rfl (by decide) (by decide) rfl hO9 od _ rfl HE (fun _ => False) rfl (fun _ hf => hf.elim) (fun _ hf => hf.elim) (by simp; omega) (fun k => w8.heap.size < k) (fun _ hk => hk) (fun _ hf => hf.elim) (fun k hk => by have h3 := HS.size; simp at hk h3; omega) ?_
                    intro vA wX hOA hGA hatA
                    have HS9 := HS.grown hGA (fun k hk => .inr (by have h3 := hO9.inF hk; simp at h3 ⊢; omega))
                    obtain ⟨AX, cX, rfl, hlX⟩ := hOA.shape
                    refine hK _ _ (Or.inr HS9) ?_; clear hK K HS
                    have HS := HS9; clear HS9
                    refine tree_do (by rfl) (by rfl) (fun K hK => ?_)
                    go_simp
                    refine hK _ _ (Or.inr HS) ?_; clear hK K
                    refine tree_do (by rfl) (by rfl) (fun K hK => ?_)
                    go_simp
                    have hRX : Rd tOp wX (fun k => w8.heap.size < k) (.slice AX (os.length + 1) cX) (os ++ [od]) := by have h3 := hOA.rd; simpa using h3
                    refine (l1RuleOk_c k _ (os ++ [od]) _ wX hRX).mono ?_
                    rintro q wY ⟨rfl, hbY⟩
                    refine hK _ _ (Or.inl (by kernel_rfl)) ?_; clear hK K
                    simp only [wpTree]
                    have hCY := HS.trans (Ch.of_below hbY)
                    go_wp2_with fail
                    go_meet
                    exact ⟨rfl, hCY⟩
                · refine tree_do (by rfl) (by rfl) (fun K hK => ?_)
                  go_simp
                  refine hK _ _ (Or.inr (HS.alloc _)) ?_; clear hK K
                  have HS := HS.alloc (.cells #[.int .i64 od.d, .int .i64 od.a, .int .i64 od.b, .int .i64 od.c, .int .i64 od.e] 90)
                  have HE : (((w8.alloc (.cells #[.int .i64 od.d, .int .i64 od.a, .int .i64 od.b, .int .i64 od.c, .int .i64 od.e] 90)).drew).alloc (.cells #[.int .i64 od.d, .int .i64 od.a, .int .i64 od.b, .int .i64 od.c, .int .i64 od.e] 90)).heap[w8.heap.size + 1]? = some (.cells #[.int .i64 od.d, .int .i64 od.a, .int .i64 od.b, .int .i64 od.c, .int .i64 od.e] 90) := heap_at (by simp)
                  refine tree_do (by rfl) (by rfl) (fun K hK => ?_)
                  go_simp
                  refine hK _ _ (Or.inr (HS.alloc _)) ?_; clear hK K
                  have HS := HS.alloc (.cells #[] 90)
                  have hE := Ow.empty (w := (((w8.alloc (.cells #[.int .i64 od.d, .int .i64 od.a, .int .i64 od.b, .int .i64 od.c, .int .i64 od.e] 90)).drew).alloc (.cells #[.int .i64 od.d, .int .i64 od.a, .int .i64 od.b, .int .i64 od.c, .int .i64 od.e] 90)).alloc (.cells #[] 90)) (g := w8.heap.size + 2) tOp (e := 90) (F := fun k => k = w8.heap.size + 2) (heap_at (by simp)) rfl
                  have HE := below_heap (balloc (Below.refl _ _) (.cells #[] 90)) (blk_lt HE) HE
                  refine tree_do (by rfl) (by rfl) (fun K hK => ?_)
                  refine ow_concat_wp 36 rfl Try.underlying36 _ 40 info_op rfl (by decide) (by decide) rfl hE rfl (hO8.rd.ch (S := fun _ => False) HS (fun _ _ hf => hf)) (by simp; omega) (fun k => w8.heap.size < k) (fun k hk => by have h3 : k = w8.heap.size + 2 := hk; omega) (fun k hk => by simp at hk; omega) ?_
                  intro v9 w9 hO9 hG9 hat9
                  have HS9 := HS.grown hG9 (fun k hk => .inr (by have h3 : k = w8.heap.size + 2 := hE.inF hk; simp; omega))
                  have HE := (hG9.block (w8.heap.size + 1) (blk_lt HE) (fun h => by have h4 : some (w8.heap.size + 1) = some (w8.heap.size + 2) := h; simp at h4; try omega)).trans HE
                  refine hK _ _ (Or.inr HS9) ?_; clear hK K HS
                  have HS := HS9; clear HS9
                  refine tree_do (by rfl) (by rfl) (fun K hK => ?_)
                  refine ow_append_wp (d := tOp) 36 rfl Try.underlying36 _ 40 info_op rfl (by decide) (by decide) rfl hO9 od _ rfl HE (fun _ => False) rfl (fun _ hf => hf.elim) (fun _ hf => hf.elim) (by simp; omega) (fun k => w8.heap.size < k) (fun _ hk => hk) (fun _ hf => hf.elim) (fun k hk => by have h3 := HS.size; simp at hk h3; omega) ?_
                  intro vA wX hOA hGA hatA
                  have HS9 := HS.grown hGA (fun k hk => .inr (by have h3 := hO9.inF hk; simp at h3 ⊢; omega))
                  obtain ⟨AX, cX, rfl, hlX⟩ := hOA.shape
                  refine hK _ _ (Or.inr HS9) ?_; clear hK K HS
                  have HS := HS9; clear HS9
                  refine tree_do (by rfl) (by rfl) (fun K hK => ?_)
                  go_simp
                  refine hK _ _ (Or.inr HS) ?_; clear hK K
                  refine tree_do (by rfl) (by rfl) (fun K hK => ?_)
                  go_simp
                  have hRX : Rd tOp wX (fun k => w8.heap.size < k) (.slice AX (os.length + 1) cX) (os ++ [od]) := by have h3 := hOA.rd; simpa using h3
                  refine (l1RuleOk_c k _ (os ++ [od]) _ wX hRX).mono ?_
                  rintro q wY ⟨rfl, hbY⟩
                  refine hK _ _ (Or.inl (by kernel_rfl)) ?_; clear hK K
                  simp only [wpTree]
                  have hCY := HS.trans (Ch.of_below hbY)
                  go_wp2_with fail
                  go_meet
                  exact ⟨rfl, hCY⟩
              case rest =>
                obtain ⟨ht, hCY⟩ := hcut
                have hbYs := hCY.heap hb14 (fun hf => hf)
                have y1 : wc.cell? ⟨wB.heap.size, 1, none⟩ = some (.slice A7 os.length c7) := blk_cell hbYs 1
                have yf := blk_frozen hbYs 1
                have hbYo := hCY.heap (heap_at rfl) (fun hf => hf)
                obtain ⟨x0, x1, x2, x3, x4, xf⟩ := cells5 hbYo
                have zY := hCY.size
                simp only [World.size_alloc] at zY
                by_cases hok : opsOk (os ++ [od]) = true
                · rw [hok] at ht; subst ht
                  have hOY := (hO8.ch hCY (fun _ _ hf => hf)).alloc (.cells #[.int .i64 od.d, .int .i64 od.a, .int .i64 od.b, .int .i64 od.c, .int .i64 od.e] 90)
                  have hbYt := below_heap (balloc (Below.refl _ wc) (.cells #[.int .i64 od.d, .int .i64 od.a, .int .i64 od.b, .int .i64 od.c, .int .i64 od.e] 90)) (blk_lt hbYs) hbYs
                  go_wp2_with (at_builtin; refine ow_append (d := tOp) rfl 36 rfl Try.underlying36 _ 40 info_op rfl (by decide) (by decide) rfl hOY od _ rfl (heap_at rfl) (fun _ => False) rfl (fun _ hf => hf.elim) (fun _ hf => hf.elim) (by omega) (fun k => wB.heap.size < k) (fun _ hk => hk) (fun _ hf => hf.elim) (fun k hk => by simp at hk; omega) ?_; intro v15 w15 hO15 hG15 hat15; obtain ⟨A15, c15, hv15, hl15⟩ := hO15.shape; obtain rfl : v15 = .slice A15 (os.length + 1) c15 := (by simpa using hv15); have hb15 := (hG15.block _ (blk_lt hbYt) (fun h => by have h4 := hOY.inF h.symm; simp at h4)).trans hbYt; have cl15 : w15.cell? ⟨wB.heap.size, 1, none⟩ = some (.slice A7 os.length c7) := blk_cell hb15 1; have fr15 := blk_frozen hb15 1; clear hv15 hat15)
                  have s15 : (w15.setCell ⟨wB.heap.size, 1, none⟩ (.slice A15 (os.length + 1) c15)).heap[wB.heap.size]? = some (.cells #[.int .i64 k, .slice A15 (os.length + 1) c15] 38 (0, 0)) := blk_set hb15 1 _
                  have hCF : Ch (fun q => wB.heap.size ≤ q) w8 (w15.setCell ⟨wB.heap.size, 1, none⟩ (.slice A15 (os.length + 1) c15)) := Ch.setCell (S := fun q => wB.heap.size ≤ q) (p := ⟨wB.heap.size, 1, none⟩) (Ch.grown (S := fun q => wB.heap.size ≤ q) (Ch.alloc (Ch.trans ((Ch.refl _ _).alloc _) (hCY.mono (fun _ hf => hf.elim))) _) hG15 (fun q hq => .inl (by have h4 := hOY.inF hq; simp at h4 ⊢; omega))) (.inl (Nat.le_refl _)) _
                  exact ⟨⟨n - 1, os ++ [od], _, by congr 1; omega, by omega, s15, hO15.keep (fun q hq _ => Below.heap_setCell _ _ _ _ (fun e' => by have e1 : q = wB.heap.size := e'; have e2 : wB.heap.size < q := hq; omega)), by simp; omega, (hR8.ch hCF (fun q hq hq' => by have e2 : wB.heap.size ≤ q := hq'; omega)).move rfl (fun _ _ => rfl) (by omega), (hC3.trans hC8).then hCF (fun q hq => .inr hq)⟩, by simp [intOf]; omega⟩
                · have hok' : opsOk (os ++ [od]) = false := by simpa using hok
                  rw [hok'] at ht; subst ht
                  go_wp2
                  have hCF : Ch (fun _ => False) w8 wc := Ch.trans ((Ch.refl _ _).alloc _) hCY
                  exact ⟨⟨n - 1, os, _, by congr 1; omega, by omega, hbYs, (hO3.ch hC8 (fun k hk hk' => by have h1 : wB.heap.size < k := hk; have h2 : k = g := hk'; omega)).ch hCF (fun _ _ hf => hf), by omega, (hR8.ch hCF (fun q hq hq' => hq')).move rfl (fun _ _ => rfl) (by omega), (hC3.trans hC8).then hCF (fun q hq => hq.elim)⟩, by simp [intOf]; omega⟩
            · obtain rfl : n = 0 := by omega
              have hb5C := hC3.heap hb5 (fun hk => by have : wA.heap.size = g := hk; omega)
              have hO5C := ((hO5.bound.ch hC3 (fun q hq hq' => by have h1 : wA.heap.size < q := hq.1; have h2 : q = g := hq'; omega)).alloc (.cells #[.int .i64 k, v7] 38))
              have hO3C := hO3.bound.alloc (.cells #[.int .i64 k, v7] 38)
              have hb5D := below_heap (balloc (Below.refl _ wC) (.cells #[.int .i64 k, v7] 38)) (blk_lt hb5C) hb5C
              have e5 := blk_cell hb5C 0
              have e7 : wC.cell? ⟨wB.heap.size, 0, none⟩ = some (.int .i64 k) := blk_cell hb3 0
              have e8 : wC.cell? ⟨wB.heap.size, 1, none⟩ = some v7 := blk_cell hb3 1
              have e9 := blk_lt hb3
              have e10 := blk_lt hb5C
              have e11 := blk_lt hb5
              simp at e5
              obtain ⟨A7, c7, rfl, hl7⟩ := hO3.shape
              obtain ⟨A5, c5, rfl, hl8⟩ := hO5.shape
              have q5 : rs.length ≤ 3 := by omega
              have HL5 := hid hl5; clear hl5
              have HL := hid hl; clear hl
              go_wp2_with (at_builtin; go_loud (refine ow_append (d := oRule) rfl 23 rfl Try.underlying23 _ 32 info_rule rfl (by decide) (by decide) rfl hO5C ⟨k, os⟩ _ rfl (heap_at rfl) _ ⟨_, rfl, hO3C⟩ (fun q hq hq' => by omega) (fun q hq => by simp; omega) (by omega) (fun q => wA.heap.size < q) (fun _ hk => hk.1) (fun _ hk => by omega) (fun q hq => by simp at hq; omega) ?_); intro v15 w15 hO15 hG15 hat15; obtain ⟨A15, c15, hv15, hl15⟩ := hO15.shape; obtain rfl : v15 = .slice A15 (rs.length + 1) c15 := (by simpa using hv15); have hb15 := (hG15.block _ (blk_lt hb5D) (fun h => by have h4 := hO5C.inF h.symm; simp at h4)).trans hb5D; have cl15 : w15.cell? ⟨wA.heap.size, 0, none⟩ = some (.slice A5 rs.length c5) := blk_cell hb15 0; have fr15 := blk_frozen hb15 0; clear hv15 hat15)
              have s15 : (w15.setCell ⟨wA.heap.size, 0, none⟩ (.slice A15 (rs.length + 1) c15)).heap[wA.heap.size]? = some (.cells #[.slice A15 (rs.length + 1) c15] 25 (0, 0)) := blk_set hb15 0 _
              have hCF : Ch (fun q => wA.heap.size ≤ q) wC (w15.setCell ⟨wA.heap.size, 0, none⟩ (.slice A15 (rs.length + 1) c15)) := Ch.setCell (S := fun q => wA.heap.size ≤ q) (p := ⟨wA.heap.size, 0, none⟩) (Ch.grown (S := fun q => wA.heap.size ≤ q) ((Ch.refl _ _).alloc _) hG15 (fun q hq => .inl (by have h4 := hO5C.inF hq; simp at h4 ⊢; omega))) (.inl (Nat.le_refl _)) _
              exact ⟨⟨k + 1, rs ++ [⟨k, os⟩], _, by go_num, by omega, s15, hO15.keep (fun q hq _ => Below.heap_setCell _ _ _ _ (fun e' => by have e1 : q = wA.heap.size := e'; have e2 : wA.heap.size < q := hq; omega)), by simp [HL5.out], fun r hr => by { rcases List.mem_append.1 hr with hr | hr; exact hr5 r hr; simp at hr; subst hr; show os.length ≤ 6; omega }, (hR3.ch hCF (fun q hq hq' => by have e2 : wA.heap.size ≤ q := hq'; omega)).move rfl (fun _ _ => rfl) (by omega), (hC5.trans hC3).then hCF (fun q hq => .inr hq)⟩, by simp [intOf]; omega⟩
        · obtain rfl : k = 3 := by omega
          have hOC := ((hO.bound.ch hC5 (fun q hq hq' => by have h1 : w.heap.size ≤ q := hq.1; have h2 : q = g := hq'; omega)).alloc (.cells #[v5] 25))
          have hO5C := hO5.bound.alloc (.cells #[v5] 25)
          have e5 := blk_cell hb5 0
          have e9 := blk_lt hb5
          simp at e5
          obtain ⟨A5, c5, rfl, hl8⟩ := hO5.shape
          obtain ⟨A3, c3, rfl, hl9⟩ := hO.shape
          have q3 : xs.length ≤ 4 := by omega
          have HL5 := hid hl5; clear hl5
          have HL := hid hl; clear hl
          go_wp2_with (at_builtin; go_loud (refine ow_append (d := oApp) rfl 59 rfl Try.underlying59 _ 24 info_app rfl (by decide) (by decide) rfl hOC ⟨rs⟩ _ rfl (heap_at rfl) _ ⟨_, rfl, hO5C⟩ (fun q hq hq' => by omega) (fun q hq => by simp; omega) (by omega) (fun q => w.heap.size ≤ q) (fun _ hk => hk.1) (fun _ hk => by omega) (fun q hq => by simp at hq; omega) ?_); intro v15 w15 hO15 hG15 hat15; clear hat15)
          have hCF : Ch (fun q => w.heap.size ≤ q) wB w15 := Ch.grown (S := fun q => w.heap.size ≤ q) ((Ch.refl _ _).alloc _) hG15 (fun q hq => .inl (by have h4 := hOC.inF hq; simp at h4 ⊢; omega))
          exact ⟨⟨p + 1, xs ++ [⟨rs⟩], by go_num, by omega, hO15, by simp [HL.out], fun r hr => by { rcases List.mem_append.1 hr with hr | hr; exact hx r hr; simp at hr; subst hr; exact ⟨HL5.out, hr5⟩ }, (hR5.ch hCF (fun q hq hq' => by have e2 : w.heap.size ≤ q := hq'; omega)).move rfl (fun _ _ => rfl) (by omega), (hC.trans hC5).then hCF (fun q hq => .inr hq)⟩, by simp [intOf]; omega⟩
    · go_wp2
      go_ret
      exact ⟨_, xs, rfl, hO, by omega, hx, hR.move rfl (fun _ _ => rfl) (by omega), hC⟩
end Go.Proofs.Ytmnccekljombmaa

namespace Go.Proofs.Ytmnccekljombmaa
set_option linter.unusedVariables false
set_option linter.unusedSimpArgs false
set_option maxRecDepth 100000
open Go.RowKit
def DrawnApps (g B : Nat) (m : Int) (w : World) (q : Ending) (w' : World) : Prop :=
  ∃ v xs, q = .returned v ∧ Rd tApp w' (fun k => w.heap.size ≤ k) v xs ∧ (xs.length = 3 ∨ xs.length = 4) ∧ (∀ x ∈ xs, x.rules.length ≤ 4) ∧ Rdr w' g B (m + 410) ∧ Ch (fun k => k = g) w w'
theorem dec_eq_t {a b : Int} (h : a = b) : (a == b) = true := by simp [h]
theorem dec_eq_f {a b : Int} (h : a ≠ b) : (a == b) = false := by simp [h]
theorem put_cells {w3 w11 : World} {b p : Nat} {cur : Array Value} {t : TypeId} {vp u : Value} (h3 : w3.heap[b]? = some (.cells cur t (0, 0))) (h11 : w11.heap[b]? = some (.cells cur t (0, 0))) (hc : w3.cell? ⟨b, p, none⟩ = some vp) :
    (∀ o, o ≠ p → (w11.setCell ⟨b, p, none⟩ u).cell? ⟨b, o, none⟩ = w3.cell? ⟨b, o, none⟩) ∧ (w11.setCell ⟨b, p, none⟩ u).cell? ⟨b, p, none⟩ = some u := by
  have hs := blk_set h11 p u
  rw [blk_cell h3] at hc
  have hp : p < cur.size := (Array.getElem?_eq_some_iff.1 hc).1
  refine ⟨fun o ho => ?_, ?_⟩
  · rw [blk_cell hs, blk_cell h3, Array.getElem?_setIfInBounds_ne (Ne.symm ho)]
  · rw [blk_cell hs, Array.getElem?_setIfInBounds_self_of_lt hp]
/-- What a store into a block of one's own leaves. -/
theorem own_put {w w3 w11 : World} {g b : Nat} {S : Nat → Prop} (hC : Ch (fun k => k = g) w w3) (hS : Ch S w3 w11) (hSw : ∀ k, S k → k = g ∨ w.heap.size ≤ k) (hb : w.heap.size ≤ b) (p : Nat) (u : Value) : Ch (fun k => k = g) w (w11.setCell ⟨b, p, none⟩ u) :=
  Ch.setCell (S := fun k => k = g) (p := ⟨b, p, none⟩) (hC.then hS hSw) (Or.inr hb) u
theorem rd_two {W : World} {K : Nat} {t : TypeId} {fr : Nat × Nat} (y z : OpD) (h : W.heap[K]? = some (.cells #[.int .i64 y.d, .int .i64 y.a, .int .i64 y.b, .int .i64 y.c, .int .i64 y.e, .int .i64 z.d, .int .i64 z.a, .int .i64 z.b, .int .i64 z.c, .int .i64 z.e] t fr)) :
    Rd tOp W (fun k => k = K) (.slice (some ⟨K, 0, none⟩) 2 2) [y, z] := by
  refine ⟨_, 2, rfl, Nat.le_refl _, by simp, fun _ => ⟨K, 0, rfl, rfl, blk_lt h, fun j x hj => ?_⟩⟩
  have hz : tOp.sz = 5 := rfl
  match j with
  | 0 =>
    obtain rfl : y = x := by simpa using hj
    refine ⟨_, rfl, fun i u hi => ?_⟩
    have hi5 : i < 5 := (List.getElem?_eq_some_iff.1 hi).1
    rw [blk_cell h, hz]
    rcases (show i = 0 ∨ i = 1 ∨ i = 2 ∨ i = 3 ∨ i = 4 by omega) with rfl | rfl | rfl | rfl | rfl <;> exact hi
  | 1 =>
    obtain rfl : z = x := by simpa using hj
    refine ⟨_, rfl, fun i u hi => ?_⟩
    have hi5 : i < 5 := (List.getElem?_eq_some_iff.1 hi).1
    rw [blk_cell h, hz]
    rcases (show i = 0 ∨ i = 1 ∨ i = 2 ∨ i = 3 ∨ i = 4 by omega) with rfl | rfl | rfl | rfl | rfl <;> exact hi
  | j + 2 => simp at hj
set_option maxHeartbeats 2000000 in
theorem l72Apps_c (g B : Nat) (m : Int) (w : World) (h : Rdr w g B m) (hm : m ≤ 700000) :
    Calls Try.prog 48 #[.pointer (some ⟨g, 0, none⟩)] w (DrawnApps g B m w) := by
  have hgl := h.lt
  go_enter Try.func48, Try.ntmps48
  go_wp2_with (go_at_call 84; refine (l71Apps_c g B _ _ h (by omega)).mono ?_; rintro e w1 ⟨v, xs, rfl, hO, hl, hx, hR, hC⟩; obtain ⟨b, cp, cur, rfl, hFb, hbl, hbk⟩ := hO.head (by omega); have hsz := hC.size; have hcp := hO.rd.len_.2.1; have hx4 : 4 ≤ xs.length := (by omega); have hx4' : xs.length ≤ 4 := (by omega); have hcp1 : ¬ 1 = cp := (by omega); have hcp2 : ¬ cp = 1 := (by omega); have HL := hid hl; clear hl)
  (refine (pick_c g B _ _ _ (Rdr.ch (S := fun k => g < k) hR (by repeat (first | (with_reducible exact Ch.refl _ _) | (with_reducible refine Ch.drew ?_) | (with_reducible refine Ch.alloc ?_ _) | with_reducible refine Ch.setCell ?_ (Or.inl (by simp only; omega)) _)) (fun k hk hk' => absurd hk (Nat.not_le.2 hk'))) (by omega) (by omega)).mono ?_; rintro e w2 ⟨p, rfl, hp, hR2, hC2⟩)
  apply_assumption
  go_wp2_with fail
  (refine (pick_c g B _ _ _ (Rdr.ch (S := fun k => g < k) hR2 (by repeat (first | (with_reducible exact Ch.refl _ _) | (with_reducible refine Ch.drew ?_) | (with_reducible refine Ch.alloc ?_ _) | with_reducible refine Ch.setCell ?_ (Or.inl (by simp only; omega)) _)) (fun k hk hk' => absurd hk (Nat.not_le.2 hk'))) (by omega) (by omega)).mono ?_; rintro e w3 ⟨d, rfl, hd, hR3, hC3⟩)
  apply_assumption
  have hC3' := hC2.trans hC3
  have hO3 := hO.ch hC3' (fun k hk hk' => by have h1 : w.heap.size ≤ k := hk; have h2 : k = g := hk'; omega)
  have hpl : p < xs.length := by omega
  have hbg : ¬ b = g := by have h1 : w.heap.size ≤ b := hFb; omega
  have hb3 := hC3'.heap hbk hbg
  have hz3 := hC3'.size
  have hbl3 : b < w3.heap.size := by omega
  have hgl3 : g < w3.heap.size := by omega
  obtain ⟨Fj, vp, hOp, hFj, hcp, hU⟩ := Ow.appAt hO3 rfl p hpl
  have hr3 := (hx xs[p] (List.getElem_mem _)).1
  have hr3a : xs[p].rules.length ≤ 3 := by omega
  have hr3b : 3 ≤ xs[p].rules.length := by omega
  have HR3 := hid hr3; clear hr3
  have hnF : ¬ Fj b := fun hf => (hFj b hf).2.1 rfl
  have hf3 := blk_frozen hb3 p
  have hpi : (p : Int) < xs.length := by omega
  rcases (show d = 0 ∨ d = 1 ∨ d = 2 ∨ d = 3 ∨ d = 4 ∨ 5 ≤ d by omega) with rfl | rfl | rfl | rfl | rfl | hd5
  · go_wp2_with fail
    go_ret
    exact ⟨_, xs.drop 1, rfl, Rd.drop (((hO.rdApps).ch hC3' (fun k hk hk' => by have h1 : w.heap.size ≤ k := hk; have h2 : k = g := hk'; omega)).mono (fun _ hk => hk)) 1 (xs.length - 1) (cp - 1) (by omega) rfl (by omega), Or.inl (by simp; omega), fun x hx' => by have := (hx x (List.mem_of_mem_drop hx')).1; omega, hR3.move rfl (fun _ _ => rfl) (by omega), hC.trans hC3'⟩
  · go_wp2_with fail
    obtain ⟨Ap, cpp, rfl, hlp⟩ := hOp.shape
    refine region_plan (fun w' => Ch (fun k => k = g ∨ Fj k) w3 w') [(0, true), (1, true), (2, true), (3, true), (4, true), (5, true), (6, true), (7, true), (8, false), (9, true), (10, false), (11, false), (12, true), (13, true), (14, false)] (by kernel_rfl) (by kernel_rfl) (fun _ _ d _ _ h => by cases d <;> exact h) ?_
    have HS := (Ch.refl (fun k => k = g ∨ Fj k) w3).drew
    iterate 8 (first | (refine seq_take (v := ?_) (by rfl) HS (by rfl) ?_ ?_; rotate_left; (focus (intro wS hS; obtain ⟨kc, kf⟩ := hS.cells; go_simp; (try (with_reducible rfl)); done)); (intro K hK; go_simp; refine hK _ ?_; clear hK K)) | (refine seq_skip (by rfl) HS (by rfl) ?_; (intro K hK; go_simp; refine hK _ ?_; clear hK K)))
    refine seq_do (by rfl) (by rfl) (fun K hK => ?_)
    go_simp
    refine (pick_c g B _ _ _ (Rdr.ch (S := fun k => g < k) hR3 (by repeat (first | (with_reducible exact Ch.refl _ _) | (with_reducible refine Ch.drew ?_) | (with_reducible refine Ch.alloc ?_ _) | with_reducible refine Ch.setCell ?_ (Or.inl (by simp only; omega)) _)) (fun k hk hk' => absurd hk (Nat.not_le.2 hk'))) (by omega) (by omega)).mono ?_; rintro e w4 ⟨n, rfl, hn, hR4, hC4⟩
    have HS := HS.trans (hC4.mono (fun k hk => Or.inl hk))
    refine hK _ _ (Or.inr HS) ?_; clear hK K
    iterate 1 (first | (refine seq_take (v := ?_) (by rfl) HS (by rfl) ?_ ?_; rotate_left; (focus (intro wS hS; obtain ⟨kc, kf⟩ := hS.cells; go_simp; (try (with_reducible rfl)); done)); (intro K hK; go_simp; refine hK _ ?_; clear hK K)) | (refine seq_skip (by rfl) HS (by rfl) ?_; (intro K hK; go_simp; refine hK _ ?_; clear hK K)))
    refine seq_do (by rfl) (by rfl) (fun K hK => ?_)
    go_simp
    refine hK _ _ (Or.inr (HS.alloc _)) ?_; clear hK K
    have HS := HS.alloc (.cells #[.int .i64 n, .slice none 0 0] 38)
    have hOp4 := (hOp.ch (S := fun k => k = g) (((Ch.refl _ _).drew).trans hC4) (fun k hk hk' => by have h1 := (hFj k hk).1; have h2 : w.heap.size ≤ k := h1; have h3 : k = g := hk'; omega)).alloc (.cells #[.int .i64 n, .slice none 0 0] 38)
    refine seq_do (by rfl) (by rfl) (fun K hK => ?_)
    refine ow_append_wp (d := oRule) 23 rfl Try.underlying23 _ 32 info_rule rfl (by decide) (by decide) rfl hOp4 ⟨n, []⟩ _ rfl (heap_at rfl) (fun _ => False) ⟨_, rfl, Ow.nil _ _ _ _⟩ (fun _ hf => hf.elim) (fun _ hf => hf.elim) (by omega) (fun k => Fj k ∨ w3.heap.size ≤ k) (fun _ hk => Or.inl hk) (fun _ hf => hf.elim) (fun k hk => Or.inr (by have h3 := HS.size; simp at hk h3; omega)) ?_
    intro v11 w11 hO11 hG11 hat11
    have HS4 := Ch.grown (S := fun k => g < k) ((Ch.refl _ w4).alloc (.cells #[.int .i64 n, .slice none 0 0] 38)) hG11 (fun k hk => Or.inl (by have h1 : w.heap.size ≤ k := (hFj k (hOp4.inF hk)).1; omega))
    have HS := HS.grown hG11 (fun k hk => Or.inl (Or.inr (hOp4.inF hk)))
    obtain ⟨A11, c11, hv11, hl11⟩ := hO11.shape
    obtain rfl : v11 = .slice A11 (xs[p].rules.length + 1) c11 := by simpa using hv11
    clear hv11
    refine hK _ _ (Or.inr HS) ?_; clear hK K
    iterate 2 (first | (refine seq_take (v := ?_) (by rfl) HS (by rfl) ?_ ?_; rotate_left; (focus (intro wS hS; obtain ⟨kc, kf⟩ := hS.cells; go_simp; (try (with_reducible rfl)); done)); (intro K hK; go_simp; refine hK _ ?_; clear hK K)) | (refine seq_skip (by rfl) HS (by rfl) ?_; (intro K hK; go_simp; refine hK _ ?_; clear hK K)))
    refine seq_do (by rfl) (by rfl) (fun K hK => ?_)
    have hbk11 := HS.heap hb3 (fun hk => hk.elim hbg hnF)
    have hcE := (HS.cell (p := ⟨b, p, none⟩) hbl3 (fun hk => hk.elim hbg hnF)).trans hcp
    have hfE := blk_frozen hbk11 p
    go_simp
    refine hK _ _ (Or.inl (by kernel_rfl)) ?_; clear hK K
    simp only [wpSeq]
    go_wp2_with fail
    go_ret
    obtain ⟨pc1, pc2⟩ := put_cells (u := .slice A11 (xs[p].rules.length + 1) c11) hb3 hbk11 hcp
    have hRE := hR4.ch (Ch.setCell (S := fun k => g < k) (p := ⟨b, p, none⟩) HS4 (Or.inl (by have h1 : w.heap.size ≤ b := hFb; simp; omega)) (.slice A11 (xs[p].rules.length + 1) c11)) (fun k hk hk' => absurd hk (Nat.not_le.2 hk'))
    have hsE := HS.size
    exact ⟨_, xs.set p ⟨xs[p].rules ++ [(⟨(n : Int), []⟩ : RuleD)]⟩, rfl, hU _ _ _ (fun k => w.heap.size ≤ k) (by simp; omega) pc1 pc2 (fun k hk hlt hkb hnf => (Below.heap_setCell _ _ _ _ (fun e' => hkb e')).trans (HS.block k hlt (fun hs => hs.elim (fun h1 => by have h2 : w.heap.size ≤ k := hk; omega) hnf)))
      (Rd.mono (fun k hk => hk.elim (fun hk => (hFj k hk).1) (fun hk => by omega)) ((hO11.keep (fun k hk _ => Below.heap_setCell w11 ⟨b, p, none⟩ (.slice A11 (xs[p].rules.length + 1) c11) k (fun e' => hk.elim (fun hk => (hFj k hk).2.1 e') (fun hk => by have : k = b := e'; omega)))).rdRules)) (fun _ hk => hk), Or.inr (by simp; omega), fun x hx' => by { rcases List.mem_or_eq_of_mem_set hx' with hx' | rfl; have := (hx x hx').1; omega; simp; omega },
      hRE.move rfl (fun _ _ => rfl) (by omega), own_put (hC.trans hC3') HS (fun k hk => hk.imp id (fun hk => (hFj k hk).1)) hFb p _⟩
  · obtain ⟨b2, cp2, cur2, rfl, hFb2, hbl2, hbk2⟩ := hOp.head (by omega)
    obtain ⟨Fo, vo, hOo, hFo, hk0, hco, hUo⟩ := Ow.ruleAt hOp rfl 0 (by omega)
    obtain ⟨Ao, co, rfl, hlo⟩ := hOo.shape
    have hol : (xs[p].rules[0]'(by omega)).ops.length ≤ 6 := (hx xs[p] (List.getElem_mem _)).2 _ (List.getElem_mem _)
    have hwb2 : w.heap.size ≤ b2 := (hFj b2 hFb2).1
    have hb2g : ¬ b2 = g := by omega
    have hoF : ¬ Fo b := fun hf => hnF (hFo b hf).1
    have hoF2 : ¬ Fo b2 := fun hf => (hFo b2 hf).2.1 rfl
    have hbb : ¬ b = b2 := fun e' => by subst e'; exact hnF hFb2
    have hq0 : (0 : Int) < xs[p].rules.length := by omega
    have hq1 : 0 < xs[p].rules.length := by omega
    have hq2 : ¬ xs[p].rules = [] := fun e' => by rw [e'] at hq1; simp at hq1
    have hf2 := blk_frozen hbk2 1
    have hco' : w3.cell? ⟨b2, 1, none⟩ = some (.slice Ao (xs[p].rules[0]'(by omega)).ops.length co) := hco
    go_wp2_with fail
    refine region_plan (fun w' => Ch (fun k => k = g ∨ Fo k) w3 w') [(0, true), (1, true), (2, true), (3, true), (4, true), (5, true), (6, true), (7, true), (8, true), (9, true), (10, true), (11, true), (12, true), (13, true), (15, true), (17, true), (21, true), (23, true), (14, false), (16, false), (18, false), (19, true), (20, true), (22, false), (24, false), (25, true), (26, false), (27, false), (28, true), (29, true), (30, false)] (by kernel_rfl) (by kernel_rfl) (fun _ _ d _ _ h => by cases d <;> exact h) ?_
    have HC := (Ch.refl (fun k => k = g) w3).drew
    have HS := (Ch.refl (fun k => k = g ∨ Fo k) w3).drew
    iterate 18 (first | (refine seq_take (v := ?_) (by rfl) HS (by rfl) ?_ ?_; rotate_left; (focus (intro wS hS; obtain ⟨kc, kf⟩ := hS.cells; go_simp; (try (with_reducible rfl)); done)); (intro K hK; go_simp; refine hK _ ?_; clear hK K)) | (refine seq_skip (by rfl) HS (by rfl) ?_; (intro K hK; go_simp; refine hK _ ?_; clear hK K)))
    refine seq_do (by rfl) (by rfl) (fun K hK => ?_)
    go_simp
    refine (pick_c g B _ _ _ (Rdr.ch (S := fun k => g < k) hR3 (by repeat (first | (with_reducible exact Ch.refl _ _) | (with_reducible refine Ch.drew ?_) | (with_reducible refine Ch.alloc ?_ _) | with_reducible refine Ch.setCell ?_ (Or.inl (by simp only; omega)) _)) (fun k hk hk' => absurd hk (Nat.not_le.2 hk'))) (by omega) (by omega)).mono ?_; rintro e w4 ⟨n1, rfl, hn1, hR4, hC4⟩
    have HS := HS.trans (hC4.mono (fun k hk => Or.inl hk))
    have HC := HC.trans hC4
    refine hK _ _ (Or.inr HS) ?_; clear hK K
    refine seq_do (by rfl) (by rfl) (fun K hK => ?_)
    go_simp
    refine (pick_c g B _ _ _ (Rdr.ch (S := fun k => g < k) hR4 (by repeat (first | (with_reducible exact Ch.refl _ _) | (with_reducible refine Ch.drew ?_) | (with_reducible refine Ch.alloc ?_ _) | with_reducible refine Ch.setCell ?_ (Or.inl (by simp only; omega)) _)) (fun k hk hk' => absurd hk (Nat.not_le.2 hk'))) (by omega) (by omega)).mono ?_; rintro e w5 ⟨n2, rfl, hn2, hR5, hC5⟩
    have HS := HS.trans (hC5.mono (fun k hk => Or.inl hk))
    have HC := HC.trans hC5
    refine hK _ _ (Or.inr HS) ?_; clear hK K
    refine seq_do (by rfl) (by rfl) (fun K hK => ?_)
    go_simp
    refine (pick_c g B _ _ _ (Rdr.ch (S := fun k => g < k) hR5 (by repeat (first | (with_reducible exact Ch.refl _ _) | (with_reducible refine Ch.drew ?_) | (with_reducible refine Ch.alloc ?_ _) | with_reducible refine Ch.setCell ?_ (Or.inl (by simp only; omega)) _)) (fun k hk hk' => absurd hk (Nat.not_le.2 hk'))) (by omega) (by omega)).mono ?_; rintro e w6 ⟨n3, rfl, hn3, hR6, hC6⟩
    have HS := HS.trans (hC6.mono (fun k hk => Or.inl hk))
    have HC := HC.trans hC6
    refine hK _ _ (Or.inr HS) ?_; clear hK K
    iterate 2 (first | (refine seq_take (v := ?_) (by rfl) HS (by rfl) ?_ ?_; rotate_left; (focus (intro wS hS; obtain ⟨kc, kf⟩ := hS.cells; go_simp; (try (with_reducible rfl)); done)); (intro K hK; go_simp; refine hK _ ?_; clear hK K)) | (refine seq_skip (by rfl) HS (by rfl) ?_; (intro K hK; go_simp; refine hK _ ?_; clear hK K)))
    refine seq_do (by rfl) (by rfl) (fun K hK => ?_)
    go_simp
    refine (pick_c g B _ _ _ (Rdr.ch (S := fun k => g < k) hR6 (by repeat (first | (with_reducible exact Ch.refl _ _) | (with_reducible refine Ch.drew ?_) | (with_reducible refine Ch.alloc ?_ _) | with_reducible refine Ch.setCell ?_ (Or.inl (by simp only; omega)) _)) (fun k hk hk' => absurd hk (Nat.not_le.2 hk'))) (by omega) (by omega)).mono ?_; rintro e w7 ⟨n4, rfl, hn4, hR7, hC7⟩
    have HS := HS.trans (hC7.mono (fun k hk => Or.inl hk))
    have HC := HC.trans hC7
    refine hK _ _ (Or.inr HS) ?_; clear hK K
    refine seq_do (by rfl) (by rfl) (fun K hK => ?_)
    go_simp
    refine (pick_c g B _ _ _ (Rdr.ch (S := fun k => g < k) hR7 (by repeat (first | (with_reducible exact Ch.refl _ _) | (with_reducible refine Ch.drew ?_) | (with_reducible refine Ch.alloc ?_ _) | with_reducible refine Ch.setCell ?_ (Or.inl (by simp only; omega)) _)) (fun k hk hk' => absurd hk (Nat.not_le.2 hk'))) (by omega) (by omega)).mono ?_; rintro e w8 ⟨n5, rfl, hn5, hR8, hC8⟩
    have HS := HS.trans (hC8.mono (fun k hk => Or.inl hk))
    have HC := HC.trans hC8
    refine hK _ _ (Or.inr HS) ?_; clear hK K
    iterate 1 (first | (refine seq_take (v := ?_) (by rfl) HS (by rfl) ?_ ?_; rotate_left; (focus (intro wS hS; obtain ⟨kc, kf⟩ := hS.cells; go_simp; (try (with_reducible rfl)); done)); (intro K hK; go_simp; refine hK _ ?_; clear hK K)) | (refine seq_skip (by rfl) HS (by rfl) ?_; (intro K hK; go_simp; refine hK _ ?_; clear hK K)))
    refine seq_do (by rfl) (by rfl) (fun K hK => ?_)
    go_simp
    refine hK _ _ (Or.inr (HS.alloc _)) ?_; clear hK K
    have HS := HS.alloc (.cells #[.int .i64 n1, .int .i64 n2, .int .i64 (IntKind.i64.wrap ((IntKind.i64.wrap ((n3 : Int) * 999)).tdiv 2)), .int .i64 n4, .int .i64 n5] 90)
    have hOo8 := (hOo.ch (S := fun k => k = g) HC (fun k hk hk' => by have h2 : w.heap.size ≤ k := (hFj k (hFo k hk).1).1; have h3 : k = g := hk'; omega)).alloc (.cells #[.int .i64 n1, .int .i64 n2, .int .i64 (IntKind.i64.wrap ((IntKind.i64.wrap ((n3 : Int) * 999)).tdiv 2)), .int .i64 n4, .int .i64 n5] 90)
    refine seq_do (by rfl) (by rfl) (fun K hK => ?_)
    refine ow_append_wp (d := tOp) 36 rfl Try.underlying36 _ 40 info_op rfl (by decide) (by decide) rfl hOo8 ⟨n1, n2, IntKind.i64.wrap ((IntKind.i64.wrap ((n3 : Int) * 999)).tdiv 2), n4, n5⟩ _ rfl (heap_at rfl) (fun _ => False) rfl (fun _ hf => hf.elim) (fun _ hf => hf.elim) (by omega) (fun k => Fo k ∨ w3.heap.size ≤ k) (fun _ hk => Or.inl hk) (fun _ hf => hf.elim) (fun k hk => Or.inr (by have h3 := HS.size; simp at hk h3; omega)) ?_
    intro v11 w11 hO11 hG11 hat11
    have HS4 := Ch.grown (S := fun k => g < k) ((Ch.refl _ w8).alloc (.cells #[.int .i64 n1, .int .i64 n2, .int .i64 (IntKind.i64.wrap ((IntKind.i64.wrap ((n3 : Int) * 999)).tdiv 2)), .int .i64 n4, .int .i64 n5] 90)) hG11 (fun k hk => Or.inl (by have h1 : w.heap.size ≤ k := (hFj k (hFo k (hOo8.inF hk)).1).1; omega))
    have HS := HS.grown hG11 (fun k hk => Or.inl (Or.inr (hOo8.inF hk)))
    obtain ⟨A11, c11, hv11, hl11⟩ := hO11.shape
    obtain rfl : v11 = .slice A11 ((xs[p].rules[0]'(by omega)).ops.length + 1) c11 := by simpa using hv11
    clear hv11
    refine hK _ _ (Or.inr HS) ?_; clear hK K
    iterate 2 (first | (refine seq_take (v := ?_) (by rfl) HS (by rfl) ?_ ?_; rotate_left; (focus (intro wS hS; obtain ⟨kc, kf⟩ := hS.cells; go_simp; (try (with_reducible rfl)); done)); (intro K hK; go_simp; refine hK _ ?_; clear hK K)) | (refine seq_skip (by rfl) HS (by rfl) ?_; (intro K hK; go_simp; refine hK _ ?_; clear hK K)))
    refine seq_do (by rfl) (by rfl) (fun K hK => ?_)
    have hbk11 := HS.heap hb3 (fun hk => hk.elim hbg hoF)
    have hbk12 := HS.heap hbk2 (fun hk => hk.elim hb2g hoF2)
    have hcE : w11.cell? ⟨b2, 1, none⟩ = _ := (HS.cell (p := ⟨b2, 1, none⟩) hbl2 (fun hk => hk.elim hb2g hoF2)).trans hco
    have hfE := blk_frozen hbk12 1
    go_simp
    refine hK _ _ (Or.inl (by kernel_rfl)) ?_; clear hK K
    simp only [wpSeq]
    go_wp2_with fail
    go_ret
    obtain ⟨pc1, pc2⟩ := put_cells (u := (.slice A11 ((xs[p].rules[0]'(by omega)).ops.length + 1) c11)) hbk2 hbk12 hco
    have hRE := hR8.ch (Ch.setCell (S := fun k => g < k) (p := ⟨b2, 1, none⟩) HS4 (Or.inl (by simp; omega)) (.slice A11 ((xs[p].rules[0]'(by omega)).ops.length + 1) c11)) (fun k hk hk' => absurd hk (Nat.not_le.2 hk'))
    have hsE := HS.size
    have hWb : (w11.setCell ⟨b2, 1, none⟩ (.slice A11 ((xs[p].rules[0]'(by omega)).ops.length + 1) c11)).heap[b]? = w3.heap[b]? := (Below.heap_setCell _ _ _ _ hbb).trans (HS.block b hbl3 (fun hk => hk.elim hbg hoF))
    have hRR : Rd tRule (w11.setCell ⟨b2, 1, none⟩ (.slice A11 ((xs[p].rules[0]'(by omega)).ops.length + 1) c11)) (fun k => w.heap.size ≤ k) (.slice (some ⟨b2, 0, none⟩) xs[p].rules.length cp2) (xs[p].rules.set 0 ⟨(xs[p].rules[0]'(by omega)).kind, (xs[p].rules[0]'(by omega)).ops ++ [(⟨n1, n2, IntKind.i64.wrap ((IntKind.i64.wrap ((n3 : Int) * 999)).tdiv 2), n4, n5⟩ : OpD)]⟩) :=
      hUo _ _ _ (fun k => w.heap.size ≤ k) (by simp; omega) pc1 pc2 (fun k hk hlt hkb hnf => (Below.heap_setCell _ _ _ _ (fun e' => hkb e')).trans (HS.block k hlt (fun hs => hs.elim (fun h1 => by have h2 : w.heap.size ≤ k := (hFj k hk).1; omega) hnf)))
        (Rd.mono (fun k hk => hk.elim (fun hk => (hFj k (hFo k hk).1).1) (fun hk => by omega)) ((hO11.keep (fun k hk _ => Below.heap_setCell w11 ⟨b2, 1, none⟩ (.slice A11 ((xs[p].rules[0]'(by omega)).ops.length + 1) c11) k (fun e' => hk.elim (fun hk => (hFo k hk).2.1 e') (fun hk => by have : k = b2 := e'; omega)))).rd)) (fun k hk => (hFj k hk).1)
    exact ⟨_, xs.set p ⟨xs[p].rules.set 0 ⟨(xs[p].rules[0]'(by omega)).kind, (xs[p].rules[0]'(by omega)).ops ++ [(⟨n1, n2, IntKind.i64.wrap ((IntKind.i64.wrap ((n3 : Int) * 999)).tdiv 2), n4, n5⟩ : OpD)]⟩⟩, rfl, hU _ _ _ (fun k => w.heap.size ≤ k) (by simp; omega) (fun o _ => World.cell?_of_block hWb) ((World.cell?_of_block hWb).trans hcp) (fun k hk hlt hkb hnf => (Below.heap_setCell _ _ _ _ (fun e' => hnf (by have e2 : k = b2 := e'; subst e2; exact hFb2))).trans (HS.block k hlt (fun hs => hs.elim (fun h1 => by have h2 : w.heap.size ≤ k := hk; omega) (fun hf => hnf (hFo k hf).1))))
      hRR (fun _ hk => hk), Or.inr (by simp; omega), fun x hx' => by { rcases List.mem_or_eq_of_mem_set hx' with hx' | rfl; have := (hx x hx').1; omega; simp; omega },
      hRE.move rfl (fun _ _ => rfl) (by omega), own_put (hC.trans hC3') HS (fun k hk => hk.imp id (fun hk => (hFj k (hFo k hk).1).1)) hwb2 1 _⟩
  · obtain ⟨b2, cp2, cur2, rfl, hFb2, hbl2, hbk2⟩ := hOp.head (by omega)
    obtain ⟨Fo, vo, hOo, hFo, hk0, hco, hUo⟩ := Ow.ruleAt hOp rfl 1 (by omega)
    obtain ⟨Ao, co, rfl, hlo⟩ := hOo.shape
    have hol : (xs[p].rules[1]'(by omega)).ops.length ≤ 6 := (hx xs[p] (List.getElem_mem _)).2 _ (List.getElem_mem _)
    have hwb2 : w.heap.size ≤ b2 := (hFj b2 hFb2).1
    have hb2g : ¬ b2 = g := by omega
    have hoF : ¬ Fo b := fun hf => hnF (hFo b hf).1
    have hoF2 : ¬ Fo b2 := fun hf => (hFo b2 hf).2.1 rfl
    have hbb : ¬ b = b2 := fun e' => by subst e'; exact hnF hFb2
    have hq0 : (1 : Int) < xs[p].rules.length := by omega
    have hq1 : 0 < xs[p].rules.length := by omega
    have hq2 : ¬ xs[p].rules = [] := fun e' => by rw [e'] at hq1; simp at hq1
    have hf2 := blk_frozen hbk2 3
    have hco' : w3.cell? ⟨b2, 3, none⟩ = some (.slice Ao (xs[p].rules[1]'(by omega)).ops.length co) := hco
    go_wp2_with fail
    refine region_plan (fun w' => Ch (fun k => k = g ∨ Fo k) w3 w') [(0, true), (1, true), (2, true), (3, true), (4, true), (5, true), (6, true), (7, true), (8, true), (9, true), (10, true), (11, true), (12, true), (13, true), (14, true), (15, false), (16, false), (17, true), (18, true), (19, false)] (by kernel_rfl) (by kernel_rfl) (fun _ _ d _ _ h => by cases d <;> exact h) ?_
    have HS := (Ch.refl (fun k => k = g ∨ Fo k) w3).drew
    iterate 15 (first | (refine seq_take (v := ?_) (by rfl) HS (by rfl) ?_ ?_; rotate_left; (focus (intro wS hS; obtain ⟨kc, kf⟩ := hS.cells; go_simp; (try (with_reducible rfl)); done)); (intro K hK; go_simp; refine hK _ ?_; clear hK K)) | (refine seq_skip (by rfl) HS (by rfl) ?_; (intro K hK; go_simp; refine hK _ ?_; clear hK K)))
    refine seq_do (by rfl) (by rfl) (fun K hK => ?_)
    go_simp
    refine hK _ _ (Or.inr (HS.alloc _)) ?_; clear hK K
    have HS := HS.alloc (.cells #[.int .i64 6, .int .i64 1, .int .i64 0, .int .i64 1, .int .i64 0, .int .i64 6, .int .i64 0, .int .i64 0, .int .i64 40, .int .i64 0] 90)
    have hOo8 := (hOo.drewN 1).alloc (.cells #[.int .i64 6, .int .i64 1, .int .i64 0, .int .i64 1, .int .i64 0, .int .i64 6, .int .i64 0, .int .i64 0, .int .i64 40, .int .i64 0] 90)
    refine seq_do (by rfl) (by rfl) (fun K hK => ?_)
    refine ow_concat_wp 36 rfl Try.underlying36 _ 40 info_op rfl (by decide) (by decide) rfl hOo8 rfl (rd_two ⟨6, 1, 0, 1, 0⟩ ⟨6, 0, 0, 40, 0⟩ (heap_at rfl)) (by simp; omega) (fun k => Fo k ∨ w3.heap.size ≤ k) (fun _ hk => Or.inl hk) (fun k hk => Or.inr (by have h3 := HS.size; simp at hk h3; omega)) ?_
    intro v11 w11 hO11 hG11 hat11
    have HS4 := Ch.grown (S := fun k => g < k) ((Ch.refl _ w3).drew.alloc (.cells #[.int .i64 6, .int .i64 1, .int .i64 0, .int .i64 1, .int .i64 0, .int .i64 6, .int .i64 0, .int .i64 0, .int .i64 40, .int .i64 0] 90)) hG11 (fun k hk => Or.inl (by have h1 : w.heap.size ≤ k := (hFj k (hFo k (hOo8.inF hk)).1).1; omega))
    have HS := HS.grown hG11 (fun k hk => Or.inl (Or.inr (hOo8.inF hk)))
    obtain ⟨A11, c11, hv11, hl11⟩ := hO11.shape
    obtain rfl : v11 = .slice A11 ((xs[p].rules[1]'(by omega)).ops.length + 2) c11 := by simpa using hv11
    clear hv11
    refine hK _ _ (Or.inr HS) ?_; clear hK K
    iterate 2 (first | (refine seq_take (v := ?_) (by rfl) HS (by rfl) ?_ ?_; rotate_left; (focus (intro wS hS; obtain ⟨kc, kf⟩ := hS.cells; go_simp; (try (with_reducible rfl)); done)); (intro K hK; go_simp; refine hK _ ?_; clear hK K)) | (refine seq_skip (by rfl) HS (by rfl) ?_; (intro K hK; go_simp; refine hK _ ?_; clear hK K)))
    refine seq_do (by rfl) (by rfl) (fun K hK => ?_)
    have hbk11 := HS.heap hb3 (fun hk => hk.elim hbg hoF)
    have hbk12 := HS.heap hbk2 (fun hk => hk.elim hb2g hoF2)
    have hcE : w11.cell? ⟨b2, 3, none⟩ = _ := (HS.cell (p := ⟨b2, 3, none⟩) hbl2 (fun hk => hk.elim hb2g hoF2)).trans hco
    have hfE := blk_frozen hbk12 3
    go_simp
    refine hK _ _ (Or.inl (by kernel_rfl)) ?_; clear hK K
    simp only [wpSeq]
    go_wp2_with fail
    go_ret
    obtain ⟨pc1, pc2⟩ := put_cells (u := (.slice A11 ((xs[p].rules[1]'(by omega)).ops.length + 2) c11)) hbk2 hbk12 hco
    have hRE := hR3.ch (Ch.setCell (S := fun k => g < k) (p := ⟨b2, 3, none⟩) HS4 (Or.inl (by simp; omega)) (.slice A11 ((xs[p].rules[1]'(by omega)).ops.length + 2) c11)) (fun k hk hk' => absurd hk (Nat.not_le.2 hk'))
    have hsE := HS.size
    have hWb : (w11.setCell ⟨b2, 3, none⟩ (.slice A11 ((xs[p].rules[1]'(by omega)).ops.length + 2) c11)).heap[b]? = w3.heap[b]? := (Below.heap_setCell _ _ _ _ hbb).trans (HS.block b hbl3 (fun hk => hk.elim hbg hoF))
    have hRR : Rd tRule (w11.setCell ⟨b2, 3, none⟩ (.slice A11 ((xs[p].rules[1]'(by omega)).ops.length + 2) c11)) (fun k => w.heap.size ≤ k) (.slice (some ⟨b2, 0, none⟩) xs[p].rules.length cp2) (xs[p].rules.set 1 ⟨(xs[p].rules[1]'(by omega)).kind, (xs[p].rules[1]'(by omega)).ops ++ [(⟨6, 1, 0, 1, 0⟩ : OpD), ⟨6, 0, 0, 40, 0⟩]⟩) :=
      hUo _ _ _ (fun k => w.heap.size ≤ k) (by simp; omega) pc1 pc2 (fun k hk hlt hkb hnf => (Below.heap_setCell _ _ _ _ (fun e' => hkb e')).trans (HS.block k hlt (fun hs => hs.elim (fun h1 => by have h2 : w.heap.size ≤ k := (hFj k hk).1; omega) hnf)))
        (Rd.mono (fun k hk => hk.elim (fun hk => (hFj k (hFo k hk).1).1) (fun hk => by omega)) ((hO11.keep (fun k hk _ => Below.heap_setCell w11 ⟨b2, 3, none⟩ (.slice A11 ((xs[p].rules[1]'(by omega)).ops.length + 2) c11) k (fun e' => hk.elim (fun hk => (hFo k hk).2.1 e') (fun hk => by have : k = b2 := e'; omega)))).rd)) (fun k hk => (hFj k hk).1)
    exact ⟨_, xs.set p ⟨xs[p].rules.set 1 ⟨(xs[p].rules[1]'(by omega)).kind, (xs[p].rules[1]'(by omega)).ops ++ [(⟨6, 1, 0, 1, 0⟩ : OpD), ⟨6, 0, 0, 40, 0⟩]⟩⟩, rfl, hU _ _ _ (fun k => w.heap.size ≤ k) (by simp; omega) (fun o _ => World.cell?_of_block hWb) ((World.cell?_of_block hWb).trans hcp) (fun k hk hlt hkb hnf => (Below.heap_setCell _ _ _ _ (fun e' => hnf (by have e2 : k = b2 := e'; subst e2; exact hFb2))).trans (HS.block k hlt (fun hs => hs.elim (fun h1 => by have h2 : w.heap.size ≤ k := hk; omega) (fun hf => hnf (hFo k hf).1))))
      hRR (fun _ hk => hk), Or.inr (by simp; omega), fun x hx' => by { rcases List.mem_or_eq_of_mem_set hx' with hx' | rfl; have := (hx x hx').1; omega; simp; omega },
      hRE.move rfl (fun _ _ => rfl) (by omega), own_put (hC.trans hC3') HS (fun k hk => hk.imp id (fun hk => (hFj k (hFo k hk).1).1)) hwb2 3 _⟩
  · obtain ⟨b2, cp2, cur2, rfl, hFb2, hbl2, hbk2⟩ := hOp.head (by omega)
    have hq1 := hOp.rd.len_.2.1
    have hq2 : ¬ 1 = cp2 := by omega
    have hq3 : ¬ cp2 = 1 := by omega
    have hq4 : (1 : Int) ≤ xs[p].rules.length := by omega
    go_wp2_with fail
    go_ret
    obtain ⟨pc1, pc2⟩ := put_cells (u := .slice (some ⟨b2, 2, none⟩) (xs[p].rules.length - 1) (cp2 - 1)) hb3 hb3 hcp
    exact ⟨_, xs.set p ⟨xs[p].rules.drop 1⟩, rfl, hU _ _ _ (fun k => w.heap.size ≤ k) (by simpa using hbl3) pc1 pc2 (fun k hk hlt hkb hnf => Below.heap_setCell _ _ _ _ (fun e' => hkb e'))
      (Rd.drop (d := tRule) (Rd.mono (fun k hk => (hFj k hk).1) ((hOp.keep (fun k hk _ => Below.heap_setCell w3 ⟨b, p, none⟩ (.slice (some ⟨b2, 2, none⟩) (xs[p].rules.length - 1) (cp2 - 1)) k (fun e' => (hFj k hk).2.1 e'))).rdRules)) 1 _ _ (by omega) rfl (by omega)) (fun _ hk => hk), Or.inr (by simp; omega), fun x hx' => by { rcases List.mem_or_eq_of_mem_set hx' with hx' | rfl; have := (hx x hx').1; omega; simp; omega },
      (hR3.ch (Ch.setCell (S := fun k => g < k) (p := ⟨b, p, none⟩) (Ch.refl _ _) (Or.inl (by have h1 : w.heap.size ≤ b := hFb; simp; omega)) _) (fun k hk hk' => absurd hk (Nat.not_le.2 hk'))).move rfl (fun _ _ => rfl) (by omega), own_put (hC.trans hC3') (Ch.refl (fun k => k = g) w3) (fun k hk => Or.inl hk) hFb p _⟩
  · have hd0 : (((d : Nat) : Int) == 0) = false := by simp; omega
    have hd1 : (((d : Nat) : Int) == 1) = false := by simp; omega
    have hd2 : (((d : Nat) : Int) == 2) = false := by simp; omega
    have hd3 : (((d : Nat) : Int) == 3) = false := by simp; omega
    have hd4 : (((d : Nat) : Int) == 4) = false := by simp; omega
    go_wp2_with fail
    go_ret
    exact ⟨_, xs, rfl, (hO.rdApps).ch hC3' (fun k hk hk' => by have h1 : w.heap.size ≤ k := hk; have h2 : k = g := hk'; omega), Or.inr HL.out, fun x hx' => by have := (hx x hx').1; omega, hR3.move rfl (fun _ _ => rfl) (by omega), hC.trans hC3'⟩
end Go.Proofs.Ytmnccekljombmaa
