/- Texts joined: Spc4, Spc5, Reg2. -/
import Derived.Test.YtbcemldiahghcaaGreatK07
import Derived.Test.YtbcemldiahghcaaGreatK08
import Derived.Deep.DeepCutAuto
import Derived.Test.YtbcemldiahghcaaGreatK04
namespace Go.Proofs.YtbcemldiahghcaaGreat
set_option linter.unusedVariables false
set_option linter.unusedSimpArgs false
set_option maxRecDepth 100000
open Go.RowKit
set_option maxHeartbeats 4000000 in
theorem EventSort_c (v : Value) (xs : List EvD) (F : Nat → Prop) (w : World) (h : Rd tEv w F v xs) (hlen : xs.length ≤ 1000) :
    Calls Tryz.prog 54 #[v] w fun q w' => ∃ u, q = .returned u ∧ Ow tEv 80 w' (fun k => w.heap.size ≤ k) u (evSort xs) ∧ Below w.heap.size w w' := by
  obtain ⟨A, cp, rfl, -, -, -⟩ := id h
  go_enter Tryz.func54, Tryz.ntmps54
  go_wp2_with fail
  go_loopw [3, 4] (fun o i wr => ∃ k : Nat, i = .int .i64 k ∧ k ≤ xs.length ∧ Ow tEv 80 wr (fun q => w.heap.size ≤ q) o ((xs.take k).foldl (insOnce evLess) []) ∧ Below w.heap.size w wr) (fun _ i _ => xs.length - (intOf i).toNat)
  case atStart => exact ⟨0, rfl, Nat.zero_le _, Ow.empty tEv (heap_at (by simp)) (Nat.le_refl _), balloc (Below.refl _ _) _⟩
  case round =>
    obtain ⟨k, rfl, hk, HO, hb⟩ := hrel
    by_cases hlt : k < xs.length
    · have hrd : Rd tEv wr F (.slice A xs.length cp) xs := h.below hb
      have hll := sortOnce_len (lt := evLess) xs k hk
      have hin := hid (fold_snoc (β := EvD) (insOnce evLess) hlt)
      obtain ⟨l, hL⟩ : ∃ l, l = (xs.take k).foldl (insOnce evLess) [] := ⟨_, rfl⟩
      rw [← hL] at HO hll hin
      clear hL
      obtain ⟨A3, c3, rfl, hl3⟩ := HO.shape
      go_wp2_with fail
      obtain ⟨wo, hwo⟩ : ∃ wo, wo = wr := ⟨_, rfl⟩
      go_loopw [5] (fun j w2 => ∃ m : Nat, j = .int .i64 m ∧ m ≤ l.length ∧ Hid (place evLess l xs[k] l.length = place evLess l xs[k] m) ∧ Below wo.heap.size wo w2) (fun j _ => (intOf j).toNat)
      case atStart => subst hwo; exact ⟨l.length, rfl, Nat.le_refl _, rfl, Below.refl _ _⟩
      case round =>
        obtain ⟨m, rfl, hm, hpl, hb2⟩ := hrel
        subst hwo
        have HO2 := HO.below hb2
        have hrd2 := hrd.below hb2
        obtain ⟨b0, o0, rfl, hb0, a0, a1, a2, a3, a4, a5, a6⟩ := ev_at hrd2 k hlt
        go_upto_region 6 with fail
        go_cut [29] (fun t wc => ∃ bt, t = .bool bt ∧ Hid (decide (0 < m ∧ evLess xs[k] (nth l (m - 1)) = true) = bt) ∧ Below wr.heap.size wr wc)
        case first =>
          by_cases q3 : m = 0
          · have hkd : decide ((m : Int) > 0) = false := by simp; omega
            have hkn : decide (0 < m) = false := by simp; omega
            have HD := hid (show decide (0 < m ∧ evLess xs[k] (nth l (m - 1)) = true) = false by simp; omega)
            clear q3
            refine region_plan (fun w' => Below wr.heap.size wr w') [(0, true), (1, true), (2, true), (3, true), (4, true), (5, true), (6, true), (7, true), (8, true), (9, true), (10, true), (11, true), (12, false), (13, true)] (by kernel_rfl) (by kernel_rfl) (fun _ _ d _ _ h => by cases d <;> exact h) ?_
            have HS := (Below.refl wr.heap.size wr).drew
            iterate 12 (first | (refine seq_take (v := ?_) (by rfl) HS (by rfl) ?_ ?_; rotate_left; (focus (intro wS hS; obtain ⟨kc, kf⟩ := bcell hS; go_simp; (try (with_reducible rfl)); done)); (intro K hK; go_simp; refine hK _ ?_; clear hK K)) | (refine seq_skip (by rfl) HS (by rfl) ?_; (intro K hK; go_simp; refine hK _ ?_; clear hK K)))
            refine seq_dont (by rfl) (by rfl) (fun K hK => ?_); go_simp; refine hK _ _ (Or.inr HS) ?_; clear hK K
            iterate 1 (first | (refine seq_take (v := ?_) (by rfl) HS (by rfl) ?_ ?_; rotate_left; (focus (intro wS hS; obtain ⟨kc, kf⟩ := bcell hS; go_simp; (try (with_reducible rfl)); done)); (intro K hK; go_simp; refine hK _ ?_; clear hK K)) | (refine seq_skip (by rfl) HS (by rfl) ?_; (intro K hK; go_simp; refine hK _ ?_; clear hK K)))
            simp only [wpSeq]
            go_wp2_with fail
            go_meet
            exact ⟨_, rfl, HD, HS⟩
          · have hk0 : 0 < m := by omega
            have hkd : decide ((m : Int) > 0) = true := by simp; omega
            have hkn : decide (0 < m) = true := by simp; omega
            obtain ⟨b2, o2, rfl, hbb2, z0, z1, z2, z3, z4, z5, z6⟩ := ev_at HO2.rd (m - 1) (by omega)
            have hck : ((m : Int) - 1).toNat = m - 1 := by omega
            have p1 : (0 : Int) ≤ (m : Int) - 1 := by omega
            have p2 : (m : Int) - 1 < (l.length : Int) := by omega
            have p3 : (1 : Int) ≤ (m : Int) := by omega
            have p4 : 1 ≤ m := by omega
            have p5 : IntKind.i64.wrap ((m : Int) - 1) = (m : Int) - 1 := IntWalk.i64_in _ (by omega)
            obtain ⟨t, q4⟩ : ∃ t, evLess xs[k] (l[m-1]'(by omega)) = t := ⟨_, rfl⟩
            have HD := hid (show decide (0 < m ∧ evLess xs[k] (nth l (m - 1)) = true) = t by rw [nth_eq (by omega), q4]; cases t <;> simp [hk0])
            clear q3
            refine region_plan (fun w' => Below wr.heap.size wr w') [(0, true), (1, true), (2, true), (3, true), (4, true), (5, true), (6, true), (7, true), (8, true), (9, true), (10, true), (11, true), (12, false), (13, true)] (by kernel_rfl) (by kernel_rfl) (fun _ _ d _ _ h => by cases d <;> exact h) ?_
            have HS := (Below.refl wr.heap.size wr).drew
            iterate 12 (first | (refine seq_take (v := ?_) (by rfl) HS (by rfl) ?_ ?_; rotate_left; (focus (intro wS hS; obtain ⟨kc, kf⟩ := bcell hS; go_simp; (try (with_reducible rfl)); done)); (intro K hK; go_simp; refine hK _ ?_; clear hK K)) | (refine seq_skip (by rfl) HS (by rfl) ?_; (intro K hK; go_simp; refine hK _ ?_; clear hK K)))
            refine seq_do (by rfl) (by rfl) (fun K hK => ?_)
            go_simp; refine (EventLess_c xs[k] l[m-1] _).mono ?_; rintro e w1 ⟨he, hb1⟩; rw [q4] at he; subst he; have HS1 := bthen' HS hb1; refine hK _ _ (Or.inr HS1) ?_; clear hK K HS; have HS := HS1; clear HS1
            iterate 1 (first | (refine seq_take (v := ?_) (by rfl) HS (by rfl) ?_ ?_; rotate_left; (focus (intro wS hS; obtain ⟨kc, kf⟩ := bcell hS; go_simp; (try (with_reducible rfl)); done)); (intro K hK; go_simp; refine hK _ ?_; clear hK K)) | (refine seq_skip (by rfl) HS (by rfl) ?_; (intro K hK; go_simp; refine hK _ ?_; clear hK K)))
            simp only [wpSeq]
            go_wp2_with fail
            go_meet
            exact ⟨_, rfl, HD, HS⟩
        case rest =>
          obtain ⟨bt, rfl, HB, hc⟩ := hcut
          have hcw := bthen' hb2 hc
          cases bt
          case true =>
            have hgo := of_decide_eq_true HB.out
            have HP := hid (place_go (lt := evLess) hgo.1 hgo.2)
            have hm0 := hgo.1
            clear hgo HB
            go_wp2_with fail
            go_roundw
            case rel => exact ⟨m - 1, by go_num, by omega, by rw [hpl.out, HP.out]; rfl, hcw⟩
            case measure => simp [intOf]; omega
          case false =>
            have hgo := of_decide_eq_false HB.out
            have HPM := hid (show place evLess l xs[k] l.length = m by rw [hpl.out]; exact place_stop (lt := evLess) (fun h0 => by simpa [h0] using hgo))
            clear hgo HB
            have HO3 := HO2.below hc
            have hrd3 := hrd2.below hc
            obtain ⟨b3, o3, hA3, hb3, d0, d1, d2, d3, d4, d5, d6⟩ := ev_at hrd3 k hlt
            injection hA3 with hA3
            injection hA3 with e1 e2 _
            subst e1 e2
            go_upto_region 8 with fail
            go_cut [45] (fun t wd => ∃ bt, t = .bool bt ∧ Hid (decide (0 < m ∧ nth l (m - 1) = xs[k]) = bt) ∧ ∃ n, wd = wc.drewN n)
            case first =>
              by_cases q3 : m = 0
              · have hkd : decide ((m : Int) > 0) = false := by simp; omega
                have hkn : decide (0 < m) = false := by simp; omega
                have HD := hid (show decide (0 < m ∧ nth l (m - 1) = xs[k]) = false by simp; omega)
                clear q3
                go_quiet (fail)
                go_wp2_with fail
                go_meet
                exact ⟨_, rfl, HD, _, rfl⟩
              · have hk0 : 0 < m := by omega
                have hkd : decide ((m : Int) > 0) = true := by simp; omega
                have hkn : decide (0 < m) = true := by simp; omega
                obtain ⟨b2, o2, rfl, hbb2, z0, z1, z2, z3, z4, z5, z6⟩ := ev_at HO3.rd (m - 1) (by omega)
                have hck : ((m : Int) - 1).toNat = m - 1 := by omega
                have p1 : (0 : Int) ≤ (m : Int) - 1 := by omega
                have p2 : (m : Int) - 1 < (l.length : Int) := by omega
                have p3 : (1 : Int) ≤ (m : Int) := by omega
                have p4 : 1 ≤ m := by omega
                have p5 : IntKind.i64.wrap ((m : Int) - 1) = (m : Int) - 1 := IntWalk.i64_in _ (by omega)
                clear q3
                by_cases q4 : (l[m-1]'(by omega)) = xs[k]
                · have hd : decide ((l[m-1]'(by omega)) = xs[k]) = true := decide_eq_true q4
                  have HD := hid (show decide (0 < m ∧ nth l (m - 1) = xs[k]) = true by rw [nth_eq (by omega), q4]; simp [hk0])
                  clear q4
                  go_quiet (fail)
                  go_wp2_with fail
                  go_meet
                  exact ⟨_, rfl, HD, _, rfl⟩
                · have hd : decide ((l[m-1]'(by omega)) = xs[k]) = false := decide_eq_false q4
                  have HD := hid (show decide (0 < m ∧ nth l (m - 1) = xs[k]) = false by rw [nth_eq (by omega)]; simp [q4])
                  clear q4
                  go_quiet (fail)
                  go_wp2_with fail
                  go_meet
                  exact ⟨_, rfl, HD, _, rfl⟩
            case rest =>
              obtain ⟨bt, rfl, HB, n, rfl⟩ := hcut
              cases bt
              case true =>
                have HI := hid (show insOnce evLess l xs[k] = l by rw [insOnce, HPM.out, if_pos (of_decide_eq_true HB.out)])
                go_wp2_with fail
                go_roundw
                case rel => exact ⟨k + 1, by go_num, by omega, by rw [hin.out, HI.out]; exact HO3.drewN n, bthen hb (bdrewN hcw n) hb.size⟩
                case measure => simp [intOf]; omega
              case false =>
                have HI := hid (show insOnce evLess l xs[k] = insAt l xs[k] m by rw [insOnce, HPM.out, if_neg (of_decide_eq_false HB.out)])
                clear HB
                have HO4 := HO3.drewN n
                have hbV : Below w.heap.size w (wc.drewN n) := bthen hb (bdrewN hcw n) hb.size
                clear d0 d1 d2 d3 d4 d5 d6 a0 a1 a2 a3 a4 a5 a6 HO3 HO2 HO hrd hrd2 hrd3 hcw hc hb2 hb hb0 hb3
                generalize wc.drewN n = V at *
                obtain ⟨b5, o5, hA5, hb5, d0, d1, d2, d3, d4, d5, d6⟩ := ev_at (h.below hbV) k hlt
                injection hA5 with hA5
                injection hA5 with e1 e2 _
                subst e1 e2
                have hVs := hbV.size
                go_upto_region 10 with (at_builtin; refine ow_append (d := tEv) rfl 25 rfl Tryz.underlying25 _ 56 info_ev rfl (by decide) (by decide) rfl (HO4.alloc _) xs[k] _ rfl (heap_at rfl) (fun _ => False) rfl (fun _ hf => hf.elim) (fun _ hf => hf.elim) (by omega) (fun q => w.heap.size ≤ q) (fun _ hk => hk) (fun _ hf => hf.elim) (fun q hq => by simp at hq; omega) ?_; intro v1 w1 hO1 hG1 hat1; obtain ⟨g, c1, cur, rfl, hFg, hgl, hgb⟩ := hO1.head (by simp))
                have hb1 : Below w.heap.size w w1 := (((Ch.of_below (S := fun _ => False) hbV).alloc _).grown hG1 (fun q hq => .inr (HO4.inF hq))).below0
                have hsl : (l ++ [xs[k]]).length = l.length + 1 := by simp
                rw [hsl] at hO1
                rw [← shf_last l xs[k]] at hO1
                clear hG1 hat1 hgb cur d0 d1 d2 d3 d4 d5 d6 HO4 hbV hVs
                go_wp2_with fail
                go_loopw [6] (fun z w2 => ∃ n' : Nat, z = .int .i64 n' ∧ m ≤ n' ∧ n' ≤ l.length ∧ Ow tEv 80 w2 (fun q => w.heap.size ≤ q) (.slice (some ⟨g, 0, none⟩) (l.length + 1) c1) (shf l xs[k] n') ∧ Below w.heap.size w w2) (fun z _ => (intOf z).toNat)
                case atStart => exact ⟨l.length, by go_num, hm, Nat.le_refl _, hO1, hb1⟩
                case round =>
                  obtain ⟨n', rfl, hmn, hnl, HO5, hb6⟩ := hrel
                  by_cases hgt : m < n'
                  · have hgd : decide ((n' : Int) > (m : Int)) = true := by simp; omega
                    have hge : decide (m < n') = true := by simp; omega
                    have hln := shf_len l xs[k] hnl
                    obtain ⟨b2, o2, hA2, hbb2, z0, z1, z2, z3, z4, z5, z6⟩ := ev_at (j := n' - 1) (HO5.rd) (by omega)
                    injection hA2 with hA2
                    injection hA2 with e1 e2 _
                    subst e1 e2
                    rw [shf_at l xs[k] (by omega) hnl] at z0 z1 z2 z3 z4 z5 z6
                    simp only [Nat.zero_add] at z0 z1 z2 z3 z4 z5 z6
                    have hck : ((n' : Int) - 1).toNat = n' - 1 := by omega
                    have p1 : (0 : Int) ≤ (n' : Int) - 1 := by omega
                    have p2 : (n' : Int) - 1 < (l.length : Int) + 1 := by omega
                    have p3 : (1 : Int) ≤ (n' : Int) := by omega
                    have p4 : 1 ≤ n' := by omega
                    have p5 : IntKind.i64.wrap ((n' : Int) - 1) = (n' : Int) - 1 := IntWalk.i64_in _ (by omega)
                    have p6 : (n' : Int) < (l.length : Int) + 1 := by omega
                    have hst := hid (shf_step l xs[k] (by omega) hnl)
                    go_wp2_with (refine ow_store (cells := EvD.cells) (sz := 7) rfl _ _ _ rfl HO5 (g := g) rfl n' (by rw [shf_len l xs[k] hnl]; omega) (nth l (n' - 1)) (by first | rfl | simp) (by first | rfl | simp [EvD.cells]) (by kernel_rfl) ?_; intro w3 hO6 hC6)
                    rw [hst.out] at hO6
                    have hb7 : Below w.heap.size w w3 := hb6.trans (hC6.below (fun q hq => by rw [hq]; exact hFg) hb6.size)
                    go_roundw
                    case rel => exact ⟨n' - 1, by go_num, by omega, by omega, hO6, hb7⟩
                    case measure => simp [intOf]; omega
                  · have hnm : n' = m := by omega
                    subst hnm
                    have hgd : decide ((n' : Int) > (n' : Int)) = false := by simp
                    have hln := shf_len l xs[k] hnl
                    have hen := hid (shf_end l xs[k] hnl)
                    obtain ⟨b5, o5, hA5, hb5, d0, d1, d2, d3, d4, d5, d6⟩ := ev_at (h.below hb6) k hlt
                    injection hA5 with hA5
                    injection hA5 with e1 e2 _
                    subst e1 e2
                    have p6 : (n' : Int) < (l.length : Int) + 1 := by omega
                    go_wp2_with (refine ow_store (cells := EvD.cells) (sz := 7) rfl _ _ _ rfl HO5 (g := g) rfl n' (by rw [shf_len l xs[k] hnl]; omega) xs[k] (by first | rfl | simp) (by first | rfl | simp [EvD.cells]) (by kernel_rfl) ?_; intro w3 hO6 hC6)
                    rw [hen.out] at hO6
                    have hb7 : Below w.heap.size w w3 := hb6.trans (hC6.below (fun q hq => by rw [hq]; exact hFg) hb6.size)
                    go_roundw
                    case rel => exact ⟨k + 1, by go_num, by omega, by rw [hin.out, HI.out]; exact hO6, hb7⟩
                    case measure => simp [intOf]; omega
    · have hkl : k = xs.length := by omega
      subst hkl
      have HF := hid (show (xs.take xs.length).foldl (insOnce evLess) [] = evSort xs by rw [List.take_length]; rfl)
      rw [HF.out] at HO
      go_wp2_with fail
      go_ret
      exact ⟨_, rfl, HO, hb⟩
end Go.Proofs.YtbcemldiahghcaaGreat

namespace Go.Proofs.YtbcemldiahghcaaGreat
set_option linter.unusedVariables false
set_option linter.unusedSimpArgs false
set_option maxRecDepth 100000
open Go.RowKit
end Go.Proofs.YtbcemldiahghcaaGreat

namespace Go.Proofs.YtbcemldiahghcaaGreat
set_option linter.unusedVariables false
set_option linter.unusedSimpArgs false
open Go.RowKit
inductive Pl where
  | nil
  | take (i : Nat) (p : Pl)
  | one (i : Nat) (p : Pl)
  | two (i : Nat) (p : Pl) (j : Nat) (q : Pl)
section
variable {P : Program} {ops : Array Oper} {Q : Exit → Act → World → Prop} {S : World → Prop}
def wpTree (P : Program) (ops : Array Oper) (Q : Exit → Act → World → Prop) (S : World → Prop) : Pl → Act → World → Prop
  | .nil, a, w => Q .normal a w
  | .take i r, a, w => ∃ o v, ops[i]? = some o ∧ YieldsIf P ops S o v a ∧ S w ∧ wpTree P ops Q S r (a.put o.dst v) w
  | .one i r, a, w => wpOp P ops Q i (fun a' w' => (lastOp ops i = true ∨ S w') ∧ wpTree P ops Q S r a' w') a w
  | .two i p j q, a, w => wpOp P ops Q i (fun a' w' => (lastOp ops i = true ∨ S w') ∧ wpTree P ops Q S p a' w') a w ∧ wpOp P ops Q j (fun a' w' => (lastOp ops j = true ∨ S w') ∧ wpTree P ops Q S q a' w') a w
def treeOk (ops : Array Oper) : Nat → Pl → Array Bool → Bool
  | 0, .nil, l => (Region.ready .any ops l).isEmpty
  | n + 1, .take i r, l => Region.free .any ops l i && (Region.ready .any ops l).contains i && treeOk ops n r (l.setIfInBounds i true)
  | n + 1, .one i r, l => (Region.ready .any ops l == [i]) && treeOk ops n r (l.setIfInBounds i true)
  | n + 1, .two i p j q, l => (Region.ready .any ops l == [i, j]) && treeOk ops n p (l.setIfInBounds i true) && treeOk ops n q (l.setIfInBounds j true)
  | _, _, _ => false
end
def noPanic (Q : Exit → Act → World → Prop) : Exit → Act → World → Prop
  | .panic _, _, _ => False
  | e, a, w => Q e a w
theorem noPanic_le {Q : Exit → Act → World → Prop} : ∀ e a w, noPanic Q e a w → Q e a w
  | .panic _, _, _, h => h.elim
  | .normal, _, _, h => h
  | .ret, _, _, h => h
  | .outgrown, _, _, h => h
  | .goto _, _, _, h => h
  | .exit _, _, _, h => h
theorem region_plan_np {P : Program} {Q : Exit → Act → World → Prop} {id : Nat} {a : Act} {w : World} {l : List Oper} (S : World → Prop) (plan : List (Nat × Bool)) (hm : P.follows .mixedOrders = true)
    (hk : (Region.noSelect l.toArray && plan.length == l.toArray.size && planOk l.toArray plan (Array.replicate l.toArray.size false)) = true)
    (h : wpSeq P l.toArray (noPanic Q) S plan a w.drew) : (Code.region id l.toArray true).wp P Q a w :=
  wp_mono (region_plan S plan hm hk (fun _ _ _ _ _ h => h) h) noPanic_le
end Go.Proofs.YtbcemldiahghcaaGreat
