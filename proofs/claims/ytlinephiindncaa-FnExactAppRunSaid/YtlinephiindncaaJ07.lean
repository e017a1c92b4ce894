/- Texts joined: Ok3, Pure1, AppS. -/
import Derived.Test.YtlinephiindncaaJ06
import Derived.Test.YtlinephiindncaaJ00
import Derived.Test.YtlinephiindncaaJ02
namespace Go.Proofs.Ytlinephiindncaa
set_option linter.unusedVariables false
set_option linter.unusedSimpArgs false
set_option maxRecDepth 100000
open Go.RowKit
set_option maxHeartbeats 4000000 in
theorem ruleOk_c (kd : Int) (v : Value) (ops : List OpD) (F : Nat → Prop) (w : World) (h : Rd tOp w F v ops) :
    Calls Try.prog 48 #[.agg #[.int .i64 kd, v]] w fun e w' => e = .returned (.bool (ruleOk ⟨kd, ops⟩)) ∧ Below w.heap.size w w' := by
  obtain ⟨A, cp, rfl, -, hlen, -⟩ := id h
  go_enter Try.func48, Try.ntmps48
  go_wp2
  go_loopw [3, 4, 10] (fun s o i wr => ∃ k : Nat, i = .int .i64 k ∧ k ≤ ops.length ∧ s = .int .i64 (cnt 6 (ops.take k) : Nat) ∧ o = .int .i64 (cnt 7 (ops.take k) : Nat) ∧ Hid ((ops.take k).all opOk = true) ∧ Below (w.heap.size + 1) (w.alloc (.cells #[.int .i64 kd, .slice A ops.length cp] 60)) wr) (fun _ _ i _ => ops.length - (intOf i).toNat)
  case atStart => exact ⟨0, rfl, Nat.zero_le _, rfl, rfl, rfl, Below.refl _ _⟩
  case round =>
    obtain ⟨k, rfl, hk, rfl, rfl, hall, hb⟩ := hrel
    have hc0 : wr.cell? ⟨w.heap.size, 1, none⟩ = some (.slice A ops.length cp) := by rw [hb.cell (by simp)]; simp
    have hc1 : wr.cell? ⟨w.heap.size, 0, none⟩ = some (.int .i64 kd) := by rw [hb.cell (by simp)]; simp
    have hsz : w.heap.size < wr.heap.size := by have := hb.size; simp at this; omega
    by_cases hlt : k < ops.length
    · have hrd : Rd tOp wr F (.slice A ops.length cp) ops := (h.below (balloc (Below.refl _ _) _)).below (by simpa using hb)
      obtain ⟨b0, o0, rfl, hb0, a0, a1, a2, a3, a4⟩ := op_at hrd k hlt
      have n6 := cnt_le 6 ops k
      have n7 := cnt_le 7 ops k
      by_cases hop : opOk ops[k] = true
      · have hop' : opOk ⟨ops[k].d, ops[k].a, ops[k].b, ops[k].c, ops[k].e⟩ = true := hop
        clear hop
        have al := hid (all_snoc hlt hall.out hop')
        by_cases d6 : ops[k].d = 6
        · have s6 : cnt 6 (ops.take (k + 1)) = cnt 6 (ops.take k) + 1 := by rw [cnt_snoc 6 hlt, if_pos d6]
          have s7 : cnt 7 (ops.take (k + 1)) = cnt 7 (ops.take k) := by rw [cnt_snoc 7 hlt, if_neg (by omega)]; rfl
          have S6 := hid s6; have S7 := hid s7; clear s6 s7
          have e6 : (ops[k].d == 6) = true := by simpa using d6
          have e7 : (ops[k].d == 7) = false := by simp [d6]
          clear d6
          go_wp2_with (go_at_call 56; refine (opOk_c _ _ _ _ _ _).mono ?_; rintro e w1 ⟨rfl, hb1⟩; obtain ⟨kc, kf⟩ := bcell hb1)
          go_roundw
          case rel => exact ⟨k + 1, by go_num, by omega, by rw [S6.out]; go_num, by rw [S7.out], al, bthen hb (bthen' (balloc (Below.refl _ _) _) hb1) hsz⟩
          case measure => simp [intOf]; omega
        · by_cases d7 : ops[k].d = 7
          · have s6 : cnt 6 (ops.take (k + 1)) = cnt 6 (ops.take k) := by rw [cnt_snoc 6 hlt, if_neg d6]; rfl
            have s7 : cnt 7 (ops.take (k + 1)) = cnt 7 (ops.take k) + 1 := by rw [cnt_snoc 7 hlt, if_pos d7]
            have S6 := hid s6; have S7 := hid s7; clear s6 s7
            have e6 : (ops[k].d == 6) = false := by simpa using d6
            have e7 : (ops[k].d == 7) = true := by simp [d7]
            clear d6 d7
            go_wp2_with (go_at_call 56; refine (opOk_c _ _ _ _ _ _).mono ?_; rintro e w1 ⟨rfl, hb1⟩; obtain ⟨kc, kf⟩ := bcell hb1)
            go_roundw
            case rel => exact ⟨k + 1, by go_num, by omega, by rw [S6.out], by rw [S7.out]; go_num, al, bthen hb (bthen' (balloc (Below.refl _ _) _) hb1) hsz⟩
            case measure => simp [intOf]; omega
          · have s6 : cnt 6 (ops.take (k + 1)) = cnt 6 (ops.take k) := by rw [cnt_snoc 6 hlt, if_neg d6]; rfl
            have s7 : cnt 7 (ops.take (k + 1)) = cnt 7 (ops.take k) := by rw [cnt_snoc 7 hlt, if_neg d7]; rfl
            have S6 := hid s6; have S7 := hid s7; clear s6 s7
            have e6 : (ops[k].d == 6) = false := by simpa using d6
            have e7 : (ops[k].d == 7) = false := by simpa using d7
            clear d6 d7
            go_wp2_with (go_at_call 56; refine (opOk_c _ _ _ _ _ _).mono ?_; rintro e w1 ⟨rfl, hb1⟩; obtain ⟨kc, kf⟩ := bcell hb1)
            go_roundw
            case rel => exact ⟨k + 1, by go_num, by omega, by rw [S6.out], by rw [S7.out], al, bthen hb (bthen' (balloc (Below.refl _ _) _) hb1) hsz⟩
            case measure => simp [intOf]; omega
      · have hop' : opOk ⟨ops[k].d, ops[k].a, ops[k].b, ops[k].c, ops[k].e⟩ = false := by simpa using hop
        clear hop
        have hf : ruleOk ⟨kd, ops⟩ = false := by simp [ruleOk, opsOk, all_false hlt hop']
        have HF := hid hf; clear hf
        go_wp2_with (go_at_call 56; refine (opOk_c _ _ _ _ _ _).mono ?_; rintro e w1 ⟨rfl, hb1⟩; obtain ⟨kc, kf⟩ := bcell hb1)
        go_ret
        exact ⟨by rw [HF.out]; rfl, ((Below.refl _ _).alloc (Nat.le_refl _) _).trans ((bthen hb (bthen' (balloc (Below.refl _ _) _) hb1) hsz).mono (by simp))⟩
    · have hkl : k = ops.length := by omega
      subst hkl
      have hall' := hall.out
      rw [List.take_length] at hall'
      have hf : ruleOk ⟨kd, ops⟩ = (inn kd 0 3 && (decide (ops.length ≤ 8) && (decide (cnt 6 ops ≤ 2) && decide (cnt 7 ops ≤ 2)))) := by simp [ruleOk, opsOk, hall', Bool.and_assoc]
      have HF := hid hf; clear hf hall' hall
      simp only [List.take_length]
      have fin : ∀ e W', e = Ending.returned (.bool (inn kd 0 3 && (decide (ops.length ≤ 8) && (decide (cnt 6 ops ≤ 2) && decide (cnt 7 ops ≤ 2))))) → Below (w.heap.size + 1) (w.alloc (.cells #[.int .i64 kd, .slice A ops.length cp] 60)) W' → e = Ending.returned (.bool (ruleOk ⟨kd, ops⟩)) ∧ Below w.heap.size w W' :=
        fun e W' he hW => ⟨by rw [he, HF.out], ((Below.refl _ _).alloc (Nat.le_refl _) _).trans (hW.mono (by simp))⟩
      by_cases q0 : inn kd 0 3 = true
      · by_cases q1 : ops.length ≤ 8 <;> by_cases q2 : cnt 6 ops ≤ 2 <;> by_cases q3 : cnt 7 ops ≤ 2
        all_goals
          go_wp2_with (go_at_call 52; refine (isKind_c _ _).mono ?_; rintro e w1 ⟨rfl, rfl⟩)
          go_ret
          exact fin _ _ (by (simp [q0, q1, q2, q3]) <;> omega) hb
      · have q0' : inn kd 0 3 = false := by simpa using q0
        go_wp2_with (go_at_call 52; refine (isKind_c _ _).mono ?_; rintro e w1 ⟨rfl, rfl⟩)
        go_ret
        exact fin _ _ (by simp [q0']) hb
set_option maxHeartbeats 8000000 in
theorem appOk_c (v : Value) (a : AppD) (F : Nat → Prop) (w : World) (h : Rd tRule w F v a.rules) :
    Calls Try.prog 40 #[.agg #[v]] w fun e w' => e = .returned (.bool (appOk a)) ∧ Below w.heap.size w w' := by
  obtain ⟨A, cp, rfl, -, hlen, -⟩ := id h
  obtain ⟨rs⟩ := a
  simp only at h hlen ⊢
  by_cases h4 : rs.length ≤ 4
  · have hb4 : decide (((rs.length : Nat) : Int) > 4) = false := by simp; omega
    go_enter Try.func40, Try.ntmps40
    go_wp2
    go_loopw [12] (fun i wr => ∃ k : Nat, i = .int .i64 k ∧ k ≤ rs.length ∧ Hid ((rs.take k).all ruleOk = true) ∧ Hid (ascR (rs.take k) = true) ∧ Below (w.heap.size + 1) (w.alloc (.cells #[.slice A rs.length cp] 37)) wr) (fun i _ => rs.length - (intOf i).toNat)
    case atStart => exact ⟨0, rfl, Nat.zero_le _, rfl, rfl, Below.refl _ _⟩
    case round =>
      obtain ⟨k, rfl, hk, hal, has, hb⟩ := hrel
      have hc0 : wr.cell? ⟨w.heap.size, 0, none⟩ = some (.slice A rs.length cp) := by rw [hb.cell (by simp)]; simp
      have hsz : w.heap.size < wr.heap.size := by have := hb.size; simp at this; omega
      by_cases hkl : k < rs.length
      · have hrd : Rd tRule wr F (.slice A rs.length cp) rs := (h.below (balloc (Below.refl _ _) _)).below (by simpa using hb)
        obtain ⟨b1, o1, A2, c2, hA1, hbb1, k0, k1, hop0⟩ := rule_at hrd k hkl
        subst hA1
        have hc1 : (wr.alloc (.cells #[.int .i64 rs[k].kind, .slice A2 rs[k].ops.length c2] 60)).cell? ⟨w.heap.size, 0, none⟩ = some (.slice (some ⟨b1, o1, none⟩) rs.length cp) := by rw [(balloc (Below.refl _ _) _).cell hsz]; exact hc0
        have hop := hop0.below (balloc (Below.refl wr.heap.size wr) (.cells #[.int .i64 rs[k].kind, .slice A2 rs[k].ops.length c2] 60))
        clear hop0
        have hz1 : w.heap.size < wr.heap.size + 1 := by omega
        have hz2 : b1 < wr.heap.size + 1 := by omega
        have eta : (⟨rs[k].kind, rs[k].ops⟩ : RuleD) = rs[k] := rfl
        by_cases q2 : ruleOk ⟨rs[k].kind, rs[k].ops⟩ = true
        · have al := hid (all_snoc hkl hal.out q2)
          clear eta
          by_cases q3 : k = 0
          · have as' := hid (show ascR (rs.take (k + 1)) = true by rw [ascR_step hkl, has.out, if_pos q3]; rfl)
            have hkd : decide ((k : Int) > 0) = false := by simp; omega
            have hkn : decide (0 < k) = false := by simp; omega
            clear q3
            go_wp2
            refine region_plan (fun w' => Below (wr.alloc (.cells #[.int .i64 rs[k].kind, .slice A2 rs[k].ops.length c2] 60)).heap.size (wr.alloc (.cells #[.int .i64 rs[k].kind, .slice A2 rs[k].ops.length c2] 60)) w') [(0, true), (1, false), (2, true), (3, true), (4, true), (5, true), (6, true), (7, true), (8, true), (9, true), (10, true), (11, true), (12, true), (13, true), (14, true), (15, true), (16, true), (17, true), (18, true)] (by kernel_rfl) (by kernel_rfl) (fun _ _ d _ _ h => by cases d <;> exact h) ?_
            have HS := (Below.refl (wr.alloc (.cells #[.int .i64 rs[k].kind, .slice A2 rs[k].ops.length c2] 60)).heap.size (wr.alloc (.cells #[.int .i64 rs[k].kind, .slice A2 rs[k].ops.length c2] 60))).drew
            iterate 1 (first | (refine seq_take (v := ?_) (by rfl) HS (by rfl) ?_ ?_; rotate_left; (focus (intro wS hS; obtain ⟨kc, kf⟩ := bcell hS; go_simp; (try (with_reducible rfl)); done)); (intro K hK; go_simp; refine hK _ ?_; clear hK K)) | (refine seq_skip (by rfl) HS (by rfl) ?_; (intro K hK; go_simp; refine hK _ ?_; clear hK K)))
            refine seq_do (by rfl) (by rfl) (fun K hK => ?_)
            go_simp; refine (ruleOk_c _ _ _ F _ (hop.below HS)).mono ?_; rintro e w1 ⟨he, hb1⟩; rw [q2] at he; subst he; have HS1 := bthen' HS hb1; refine hK _ _ (Or.inr HS1) ?_; clear hK K HS; have HS := HS1; clear HS1
            iterate 17 (first | (refine seq_take (v := ?_) (by rfl) HS (by rfl) ?_ ?_; rotate_left; (focus (intro wS hS; obtain ⟨kc, kf⟩ := bcell hS; go_simp; (try (with_reducible rfl)); done)); (intro K hK; go_simp; refine hK _ ?_; clear hK K)) | (refine seq_skip (by rfl) HS (by rfl) ?_; (intro K hK; go_simp; refine hK _ ?_; clear hK K)))
            simp only [wpSeq]
            go_wp2
            go_roundw
            case rel => exact ⟨k + 1, by go_num, by omega, al, as', bthen hb (bthen' (balloc (Below.refl _ _) _) HS) hsz⟩
            case measure => simp [intOf]; omega
          · have hk0 : 0 < k := by omega
            have hkd : decide ((k : Int) > 0) = true := by simp; omega
            have hkn : decide (0 < k) = true := by simp; omega
            obtain ⟨b2, o2, A3, c3, hA2, hbb2, z0, z1, -⟩ := rule_at hrd (k - 1) (by omega)
            injection hA2 with hA2
            injection hA2 with e1 e2 _
            subst e1 e2
            have z0' : (wr.alloc (.cells #[.int .i64 rs[k].kind, .slice A2 rs[k].ops.length c2] 60)).cell? ⟨b1, o1 + (k - 1) * 2, none⟩ = some (.int .i64 (rs[k-1]'(by omega)).kind) := by rw [(balloc (Below.refl _ _) _).cell hbb1]; exact z0
            have hck : ((k : Int) - 1).toNat = k - 1 := by omega
            have p1 : (0 : Int) ≤ (k : Int) - 1 := by omega
            have p2 : (k : Int) - 1 < (rs.length : Int) := by omega
            have p3 : (1 : Int) ≤ (k : Int) := by omega
            have p4 : 1 ≤ k := by omega
            have p5 : IntKind.i64.wrap ((k : Int) - 1) = (k : Int) - 1 := IntWalk.i64_in _ (by omega)
            clear q3
            by_cases q4 : (rs[k-1]'(by omega)).kind < rs[k].kind
            · have as' := hid (show ascR (rs.take (k + 1)) = true by rw [ascR_step hkl, has.out, if_neg (by omega)]; simpa using q4)
              have hq : decide (rs[k].kind ≤ (rs[k-1]'(by omega)).kind) = false := by simp; omega
              go_wp2
              refine region_plan (fun w' => Below (wr.alloc (.cells #[.int .i64 rs[k].kind, .slice A2 rs[k].ops.length c2] 60)).heap.size (wr.alloc (.cells #[.int .i64 rs[k].kind, .slice A2 rs[k].ops.length c2] 60)) w') [(0, true), (1, false), (2, true), (3, true), (4, true), (5, true), (6, true), (7, true), (8, true), (9, true), (10, true), (11, true), (12, true), (13, true), (14, true), (15, true), (16, true), (17, true), (18, true)] (by kernel_rfl) (by kernel_rfl) (fun _ _ d _ _ h => by cases d <;> exact h) ?_
              have HS := (Below.refl (wr.alloc (.cells #[.int .i64 rs[k].kind, .slice A2 rs[k].ops.length c2] 60)).heap.size (wr.alloc (.cells #[.int .i64 rs[k].kind, .slice A2 rs[k].ops.length c2] 60))).drew
              iterate 1 (first | (refine seq_take (v := ?_) (by rfl) HS (by rfl) ?_ ?_; rotate_left; (focus (intro wS hS; obtain ⟨kc, kf⟩ := bcell hS; go_simp; (try (with_reducible rfl)); done)); (intro K hK; go_simp; refine hK _ ?_; clear hK K)) | (refine seq_skip (by rfl) HS (by rfl) ?_; (intro K hK; go_simp; refine hK _ ?_; clear hK K)))
              refine seq_do (by rfl) (by rfl) (fun K hK => ?_)
              go_simp; refine (ruleOk_c _ _ _ F _ (hop.below HS)).mono ?_; rintro e w1 ⟨he, hb1⟩; rw [q2] at he; subst he; have HS1 := bthen' HS hb1; refine hK _ _ (Or.inr HS1) ?_; clear hK K HS; have HS := HS1; clear HS1
              iterate 17 (first | (refine seq_take (v := ?_) (by rfl) HS (by rfl) ?_ ?_; rotate_left; (focus (intro wS hS; obtain ⟨kc, kf⟩ := bcell hS; go_simp; (try (with_reducible rfl)); done)); (intro K hK; go_simp; refine hK _ ?_; clear hK K)) | (refine seq_skip (by rfl) HS (by rfl) ?_; (intro K hK; go_simp; refine hK _ ?_; clear hK K)))
              simp only [wpSeq]
              go_wp2
              go_roundw
              case rel => exact ⟨k + 1, by go_num, by omega, al, as', bthen hb (bthen' (balloc (Below.refl _ _) _) HS) hsz⟩
              case measure => simp [intOf]; omega
            · have hf : appOk ⟨rs⟩ = false := by
                have h1 : ascR (rs.take (k + 1)) = false := by rw [ascR_step hkl, has.out, if_neg (by omega)]; simpa using q4
                simp [appOk, ascR_take h1]
              have HF := hid hf; clear hf
              have hq : decide (rs[k].kind ≤ (rs[k-1]'(by omega)).kind) = true := by simp; omega
              go_wp2
              refine region_plan (fun w' => Below (wr.alloc (.cells #[.int .i64 rs[k].kind, .slice A2 rs[k].ops.length c2] 60)).heap.size (wr.alloc (.cells #[.int .i64 rs[k].kind, .slice A2 rs[k].ops.length c2] 60)) w') [(0, true), (1, false), (2, true), (3, true), (4, true), (5, true), (6, true), (7, true), (8, true), (9, true), (10, true), (11, true), (12, true), (13, true), (14, true), (15, true), (16, true), (17, true), (18, true)] (by kernel_rfl) (by kernel_rfl) (fun _ _ d _ _ h => by cases d <;> exact h) ?_
              have HS := (Below.refl (wr.alloc (.cells #[.int .i64 rs[k].kind, .slice A2 rs[k].ops.length c2] 60)).heap.size (wr.alloc (.cells #[.int .i64 rs[k].kind, .slice A2 rs[k].ops.length c2] 60))).drew
              iterate 1 (first | (refine seq_take (v := ?_) (by rfl) HS (by rfl) ?_ ?_; rotate_left; (focus (intro wS hS; obtain ⟨kc, kf⟩ := bcell hS; go_simp; (try (with_reducible rfl)); done)); (intro K hK; go_simp; refine hK _ ?_; clear hK K)) | (refine seq_skip (by rfl) HS (by rfl) ?_; (intro K hK; go_simp; refine hK _ ?_; clear hK K)))
              refine seq_do (by rfl) (by rfl) (fun K hK => ?_)
              go_simp; refine (ruleOk_c _ _ _ F _ (hop.below HS)).mono ?_; rintro e w1 ⟨he, hb1⟩; rw [q2] at he; subst he; have HS1 := bthen' HS hb1; refine hK _ _ (Or.inr HS1) ?_; clear hK K HS; have HS := HS1; clear HS1
              iterate 17 (first | (refine seq_take (v := ?_) (by rfl) HS (by rfl) ?_ ?_; rotate_left; (focus (intro wS hS; obtain ⟨kc, kf⟩ := bcell hS; go_simp; (try (with_reducible rfl)); done)); (intro K hK; go_simp; refine hK _ ?_; clear hK K)) | (refine seq_skip (by rfl) HS (by rfl) ?_; (intro K hK; go_simp; refine hK _ ?_; clear hK K)))
              simp only [wpSeq]
              go_wp2
              go_ret
              exact ⟨by rw [HF.out]; rfl, ((Below.refl _ _).alloc (Nat.le_refl _) _).trans ((bthen hb (bthen' (balloc (Below.refl _ _) _) HS) hsz).mono (by simp))⟩
        · have q2' : ruleOk ⟨rs[k].kind, rs[k].ops⟩ = false := by simpa using q2
          clear q2
          have hf : appOk ⟨rs⟩ = false := by
            simp [appOk, all_false hkl q2']
          have HF := hid hf; clear hf eta
          go_wp2
          refine region_plan (fun w' => Below (wr.alloc (.cells #[.int .i64 rs[k].kind, .slice A2 rs[k].ops.length c2] 60)).heap.size (wr.alloc (.cells #[.int .i64 rs[k].kind, .slice A2 rs[k].ops.length c2] 60)) w') [(0, true), (1, false), (2, true), (3, true), (4, true), (5, true), (6, true), (7, true), (8, true), (9, true), (10, true), (11, true), (12, true), (13, true), (14, true), (15, true), (16, true), (17, true), (18, true)] (by kernel_rfl) (by kernel_rfl) (fun _ _ d _ _ h => by cases d <;> exact h) ?_
          have HS := (Below.refl (wr.alloc (.cells #[.int .i64 rs[k].kind, .slice A2 rs[k].ops.length c2] 60)).heap.size (wr.alloc (.cells #[.int .i64 rs[k].kind, .slice A2 rs[k].ops.length c2] 60))).drew
          iterate 1 (first | (refine seq_take (v := ?_) (by rfl) HS (by rfl) ?_ ?_; rotate_left; (focus (intro wS hS; obtain ⟨kc, kf⟩ := bcell hS; go_simp; (try (with_reducible rfl)); done)); (intro K hK; go_simp; refine hK _ ?_; clear hK K)) | (refine seq_skip (by rfl) HS (by rfl) ?_; (intro K hK; go_simp; refine hK _ ?_; clear hK K)))
          refine seq_do (by rfl) (by rfl) (fun K hK => ?_)
          go_simp; refine (ruleOk_c _ _ _ F _ (hop.below HS)).mono ?_; rintro e w1 ⟨he, hb1⟩; rw [q2'] at he; subst he; have HS1 := bthen' HS hb1; refine hK _ _ (Or.inr HS1) ?_; clear hK K HS; have HS := HS1; clear HS1
          iterate 17 (first | (refine seq_take (v := ?_) (by rfl) HS (by rfl) ?_ ?_; rotate_left; (focus (intro wS hS; obtain ⟨kc, kf⟩ := bcell hS; go_simp; (try (with_reducible rfl)); done)); (intro K hK; go_simp; refine hK _ ?_; clear hK K)) | (refine seq_skip (by rfl) HS (by rfl) ?_; (intro K hK; go_simp; refine hK _ ?_; clear hK K)))
          simp only [wpSeq]
          go_wp2
          go_ret
          exact ⟨by rw [HF.out]; rfl, ((Below.refl _ _).alloc (Nat.le_refl _) _).trans ((bthen hb (bthen' (balloc (Below.refl _ _) _) HS) hsz).mono (by simp))⟩
      · have hkk : k = rs.length := by omega
        have hal' := hal.out
        have has' := has.out
        rw [hkk, List.take_length] at hal' has'
        have hf : appOk ⟨rs⟩ = true := by simp [appOk, hal', has', h4]
        have HF := hid hf; clear hf hal' has' hkk
        go_wp2
        go_ret
        exact ⟨by rw [HF.out]; rfl, ((Below.refl _ _).alloc (Nat.le_refl _) _).trans (hb.mono (by simp))⟩
  · have hb4 : decide (((rs.length : Nat) : Int) > 4) = true := by simp; omega
    have hf : appOk ⟨rs⟩ = false := by simp [appOk, h4]
    go_enter Try.func40, Try.ntmps40
    go_wp2
    go_ret
    exact ⟨by rw [hf]; rfl, (Below.refl _ _).alloc (Nat.le_refl _) _⟩
end Go.Proofs.Ytlinephiindncaa

namespace Go.Proofs.Ytlinephiindncaa
structure RunOk (r : RunD) : Prop where
  x0 : 0 ≤ r.x
  x1 : r.x ≤ 999
  y0 : 0 ≤ r.y
  y1 : r.y ≤ 999
theorem RunOk.put {r : RunD} (h : RunOk r) (k v : Int) : RunOk (r.put k v) := by
  obtain ⟨h1, h2, h3, h4⟩ := h
  unfold RunD.put
  split
  · exact ⟨by show 0 ≤ v % 1000; omega, by show v % 1000 ≤ 999; omega, h3, h4⟩
  · exact ⟨h1, h2, by show 0 ≤ v % 1000; omega, by show v % 1000 ≤ 999; omega⟩
theorem RunD.put_sends (r : RunD) (k v : Int) : (r.put k v).sends = r.sends := by unfold RunD.put; split <;> rfl
theorem RunD.put_outs (r : RunD) (k v : Int) : (r.put k v).outs = r.outs := by unfold RunD.put; split <;> rfl
theorem doOp_ok {e : EvD} {c : Int} {o : OpD} {r : RunD} (h : RunOk r) : RunOk (doOp e c o r).1 := by
  unfold doOp
  repeat' (split <;> first | exact h | exact h.put _ _ | skip)
  all_goals exact ⟨h.x0, h.x1, h.y0, h.y1⟩
theorem doOp_len (e : EvD) (c : Int) (o : OpD) (r : RunD) : (doOp e c o r).1.sends.length ≤ r.sends.length + 1 ∧ (doOp e c o r).1.outs.length ≤ r.outs.length + 1 := by
  unfold doOp
  repeat' (split <;> first | (rw [RunD.put_sends, RunD.put_outs]; omega) | skip)
  all_goals simp
theorem doOp_skip {e : EvD} {c : Int} {o : OpD} {r : RunD} (h : opOk o = true) : 0 ≤ (doOp e c o r).2 ∧ (doOp e c o r).2 ≤ 8 := by
  unfold doOp
  unfold opOk at h
  repeat' split
  all_goals first
    | (simp; done)
    | (rename_i h5 _; simp [*, inn] at h; have := h.2.2.1; simp; omega)
theorem doOps_fuel (e : EvD) (c : Int) : ∀ (n m : Nat) (l : List OpD) (r : RunD), l.length ≤ n → l.length ≤ m → doOps e c n l r = doOps e c m l r := by
  intro n
  induction n with
  | zero => intro m l r h1 h2; cases l with
    | nil => cases m <;> rfl
    | cons a l => simp at h1
  | succ n ih => intro m l r h1 h2; cases l with
    | nil => cases m <;> rfl
    | cons a l =>
      cases m with
      | zero => simp at h2
      | succ m =>
        simp only [List.length_cons] at h1 h2
        simp only [doOps]
        exact ih m _ _ (by simp; omega) (by simp; omega)
theorem doOps_step (e : EvD) (c : Int) (n : Nat) {ops : List OpD} {k : Nat} (r : RunD) (h : k < ops.length) (hn : ops.length ≤ n) :
    doOps e c n (ops.drop k) r = doOps e c n (ops.drop (k + (doOp e c ops[k] r).2.toNat + 1)) (doOp e c ops[k] r).1 := by
  rw [List.drop_eq_getElem_cons h]
  cases n with
  | zero => omega
  | succ n =>
    simp only [doOps]
    rw [List.drop_drop]
    rw [show k + 1 + (doOp e c ops[k] r).2.toNat = k + (doOp e c ops[k] r).2.toNat + 1 by omega]
    exact doOps_fuel e c _ _ _ _ (by simp; omega) (by simp; omega)
theorem doOps_end (e : EvD) (c : Int) (n : Nat) {ops : List OpD} {k : Nat} (r : RunD) (h : ops.length ≤ k) : doOps e c n (ops.drop k) r = r := by
  rw [List.drop_eq_nil_of_le h]; cases n <;> rfl
theorem appsOk_one (a : AppD) : appsOk [a, ⟨[]⟩, ⟨[]⟩, ⟨[]⟩] = appOk a := by
  have h0 : appOk ⟨[]⟩ = true := by decide
  simp [appsOk, h0]
theorem appOk_rule {a : AppD} (h : appOk a = true) {i : Nat} (hi : i < a.rules.length) : opsOk a.rules[i].ops = true := by
  simp only [appOk, Bool.and_eq_true] at h
  have := List.all_eq_true.1 h.1.2 a.rules[i] (List.getElem_mem hi)
  simp only [ruleOk, Bool.and_eq_true] at this
  exact this.2
theorem opsOk_op {l : List OpD} (h : opsOk l = true) {i : Nat} (hi : i < l.length) : opOk l[i] = true := by
  simp only [opsOk, Bool.and_eq_true] at h
  exact List.all_eq_true.1 h.1.1.1 l[i] (List.getElem_mem hi)
theorem opsOk_len {l : List OpD} (h : opsOk l = true) : l.length ≤ 8 := by
  simp only [opsOk, Bool.and_eq_true, decide_eq_true_eq] at h; exact h.1.1.2
theorem appOk_len {a : AppD} (h : appOk a = true) : a.rules.length ≤ 4 := by
  simp only [appOk, Bool.and_eq_true, decide_eq_true_eq] at h; exact h.1.1
theorem doRules_snoc (e : EvD) (c : Int) (l : List RuleD) (r : RunD) {k : Nat} (h : k < l.length) :
    doRules e c (l.take (k + 1)) r = (if l[k].kind = e.kind then doOps e c l[k].ops.length l[k].ops (doRules e c (l.take k) r) else doRules e c (l.take k) r) := by
  rw [List.take_succ_eq_append_getElem h]
  unfold doRules
  rw [List.foldl_append]
  rfl
theorem stOk_run {s : StD} (h : stOk s = true) : RunOk ⟨s.x, s.y, [], []⟩ := by
  simp [stOk, inn] at h
  exact ⟨h.1.1.1, h.1.1.2, h.1.2.1, h.1.2.2⟩
end Go.Proofs.Ytlinephiindncaa

namespace Go.Proofs.Ytlinephiindncaa
set_option linter.unusedVariables false
set_option linter.unusedSimpArgs false
set_option maxRecDepth 100000
open Go.RowKit
theorem op_c (g B : Nat) (c : Int) (e : EvD) (r : RunD) (sv ov : Value) (o : OpD) (w : World) (h : RunAt w g B c e r sv ov) (hB : B ≤ w.heap.size) (hr : RunOk r) (he : evOk e = true) (hns : r.sends.length ≤ 1000) (hno : r.outs.length ≤ 1000) (ho : opOk o = true) :
    Calls Try.prog 23 #[.pointer (some ⟨g,0,none⟩), .agg #[.int .i64 o.d, .int .i64 o.a, .int .i64 o.b, .int .i64 o.c, .int .i64 o.e]] w (OpPost B g c e r o w) := by
  obtain ⟨d, a, b, cc, ee⟩ := o
  have hx := And.intro hr.x0 hr.x1
  have hy := And.intro hr.y0 hr.y1
  by_cases k : d = 1 ∨ d = 2 ∨ d = 3 ∨ d = 4 ∨ d = 5 ∨ d = 6 ∨ d = 7
  · rcases k with rfl | rfl | rfl | rfl | rfl | rfl | rfl
    · exact op1_c g B c e r sv ov a b cc ee w h hB hx hy he hns hno ho
    · exact op2_c g B c e r sv ov a b cc ee w h hB hx hy he hns hno ho
    · exact op3_c g B c e r sv ov a b cc ee w h hB hx hy he hns hno ho
    · exact op4_c g B c e r sv ov a b cc ee w h hB hx hy he hns hno ho
    · exact op5_c g B c e r sv ov a b cc ee w h hB hx hy he hns hno ho
    · exact op6_c g B c e r sv ov a b cc ee w h hB hx hy he hns hno ho
    · exact op7_c g B c e r sv ov a b cc ee w h hB hx hy he hns hno ho
  · have hf : opOk ⟨d, a, b, cc, ee⟩ = false := by simp only [opOk]; rw [if_neg (by omega), if_neg (by omega), if_neg (by omega), if_neg (by omega), if_neg (by omega)]
    rw [hf] at ho; cases ho
theorem rd4 {W : World} {F : Nat → Prop} {v : Value} {a : AppD} (h : Rd tRule W F v a.rules) {g : Nat} {t : TypeId} {fr : Nat × Nat} (hg : W.heap[g]? = some (.cells #[v, .slice none 0 0, .slice none 0 0, .slice none 0 0] t fr)) :
    Rd tApp W (fun _ => True) (.slice (some ⟨g, 0, none⟩) 4 4) [a, ⟨[]⟩, ⟨[]⟩, ⟨[]⟩] := by
  refine ⟨_, 4, rfl, by simp, by simp, fun _ => ⟨g, 0, rfl, trivial, (Array.getElem?_eq_some_iff.1 hg).1, fun j x hj => ?_⟩⟩
  have hn : Rd tRule W (fun _ => True) (.slice none 0 0) [] := Rd.nil _ _ _
  have h4 : j < 4 := by have := (List.getElem?_eq_some_iff.1 hj).1; simpa using this
  have cell : ∀ k, W.cell? ⟨g, k, none⟩ = #[v, Value.slice none 0 0, .slice none 0 0, .slice none 0 0][k]? := fun k => by simp [World.cell?, hg]
  match j, h4 with
  | 0, _ => obtain rfl : a = x := by simpa using hj
            exact ⟨[v], ⟨v, rfl, h.mono (fun _ _ => trivial)⟩, fun i u hi => by cases i with | zero => simp at hi; subst hi; exact cell 0 | succ i => simp at hi⟩
  | 1, _ => obtain rfl : (⟨[]⟩ : AppD) = x := by simpa using hj
            exact ⟨[_], ⟨_, rfl, hn⟩, fun i u hi => by cases i with | zero => simp at hi; subst hi; exact cell 1 | succ i => simp at hi⟩
  | 2, _ => obtain rfl : (⟨[]⟩ : AppD) = x := by simpa using hj
            exact ⟨[_], ⟨_, rfl, hn⟩, fun i u hi => by cases i with | zero => simp at hi; subst hi; exact cell 2 | succ i => simp at hi⟩
  | 3, _ => obtain rfl : (⟨[]⟩ : AppD) = x := by simpa using hj
            exact ⟨[_], ⟨_, rfl, hn⟩, fun i u hi => by cases i with | zero => simp at hi; subst hi; exact cell 3 | succ i => simp at hi⟩
theorem heap_old {W : World} {o : Obj} {k : Nat} (h : k < W.heap.size) : (W.alloc o).heap[k]? = W.heap[k]? := Below.heap_alloc W o k h
theorem Ow.empty {α : Type} (d : Ty α) {e : TypeId} {w : World} {F : Nat → Prop} {g : Nat} (hg : w.heap[g]? = some (.cells #[] e (0, 0))) (hF : F g) : Ow d e w F (.slice (some ⟨g, 0, none⟩) 0 0) [] :=
  ⟨[], fun _ _ => False, ⟨by simp, .inr ⟨g, 0, #[], rfl, Nat.zero_le _, hg, Nat.le_refl _, by simp [maxLen], by simp, by simp⟩⟩, fun k hk => by simp [Value.ownBlock] at hk; subst hk; exact hF, fun _ _ h => h.elim, fun _ _ _ _ h => h.elim, fun j x hj => by simp at hj⟩
/-- What a call of AppRun comes to. -/
def RunPost (a : AppD) (s : StD) (e : EvD) (w : World) (q : Ending) (w' : World) : Prop :=
  ∃ sv ov, q = .returned (.tuple #[.agg #[.int .i64 (appRun a s e).1.x, .int .i64 (appRun a s e).1.y, .int .i64 (appRun a s e).1.c], sv, ov]) ∧
    Ow tEv 40 w' (fun k => w.heap.size ≤ k) sv (appRun a s e).2.1 ∧ Ow tOut 77 w' (fun k => w.heap.size ≤ k) ov (appRun a s e).2.2 ∧ Below w.heap.size w w'
theorem run_fin {w wr : World} {g B rb : Nat} {c : Int} {e : EvD} {r : RunD} {sv ov : Value} {z : Array Value} (hR : RunAt wr g B c e r sv ov) (hB3 : wr.heap[rb]? = some (.cells z 30 (0, 0))) (hne : ¬ g = rb) (hB : w.heap.size ≤ B) (hrb : w.heap.size ≤ rb) (hb : Below w.heap.size w wr) (u a b d : Value) :
    Ow tEv 40 (((((wr.setCell ⟨g, 2, none⟩ u).drew).setCell ⟨rb, 0, none⟩ a).setCell ⟨rb, 1, none⟩ b).setCell ⟨rb, 2, none⟩ d) (fun k => w.heap.size ≤ k) sv r.sends ∧
    Ow tOut 77 (((((wr.setCell ⟨g, 2, none⟩ u).drew).setCell ⟨rb, 0, none⟩ a).setCell ⟨rb, 1, none⟩ b).setCell ⟨rb, 2, none⟩ d) (fun k => w.heap.size ≤ k) ov r.outs ∧
    Below w.heap.size w (((((wr.setCell ⟨g, 2, none⟩ u).drew).setCell ⟨rb, 0, none⟩ a).setCell ⟨rb, 1, none⟩ b).setCell ⟨rb, 2, none⟩ d) := by
  have h0 : (wr.setCell ⟨g, 2, none⟩ u).drew.heap[rb]? = some (.cells z 30 (0, 0)) := (Below.heap_setCell wr ⟨g, 2, none⟩ u rb (fun e' => hne e'.symm)).trans hB3
  have h1 := blk_set h0 0 a
  have h2 := blk_set h1 1 b
  have hge := hR.ge
  refine ⟨?_, ?_, ((((hb.setCell (by show _ ≤ g; omega) _).drew).setCell hrb _).setCell hrb _).setCell hrb _⟩
  · have o1 : Ow tEv 40 (wr.setCell ⟨g, 2, none⟩ u).drew _ sv r.sends := (hR.sends.setCell hR.blk (by decide) u).below (Below.refl _ _).drew
    exact (((o1.setCell h0 (by decide) a).setCell h1 (by decide) b).setCell h2 (by decide) d).mono (fun k hk => by omega)
  · have o1 : Ow tOut 77 (wr.setCell ⟨g, 2, none⟩ u).drew _ ov r.outs := (hR.outs.setCell hR.blk (by decide) u).below (Below.refl _ _).drew
    exact (((o1.setCell h0 (by decide) a).setCell h1 (by decide) b).setCell h2 (by decide) d).mono (fun k hk => by omega)
theorem post_empty {a : AppD} {s s' : StD} {e : EvD} {w W : World} {H1 H2 : Nat} {sv : Value} (hf : appRun a s e = (s', [], [])) (hB : Below w.heap.size w W) (hs : sv = .agg #[.int .i64 s'.x, .int .i64 s'.y, .int .i64 s'.c]) (h1 : H1 = W.heap.size) (h2 : H2 = W.heap.size + 1) :
    RunPost a s e w (.returned (.tuple #[sv, .slice (some ⟨H1, 0, none⟩) 0 0, .slice (some ⟨H2, 0, none⟩) 0 0])) ((W.alloc (.cells #[] 40)).alloc (.cells #[] 77)) := by
  subst h1 h2 hs
  have hsz := hB.size
  refine ⟨_, _, by rw [hf], ?_, ?_, balloc (balloc hB _) _⟩
  · rw [hf]
    refine (Ow.empty tEv (F := fun k => w.heap.size ≤ k) (w := W.alloc (.cells #[] 40)) (heap_at rfl) hsz).alloc _
  · rw [hf]
    exact Ow.empty tOut (heap_at (by simp)) (by omega)
set_option maxHeartbeats 8000000 in
theorem specAppRun_c (v : Value) (a : AppD) (s : StD) (e : EvD) (F : Nat → Prop) (w : World) (h : Rd tRule w F v a.rules) :
    Calls Try.prog 5 #[.agg #[v], .agg #[.int .i64 s.x, .int .i64 s.y, .int .i64 s.c], .agg #[.int .i64 e.time, .int .i64 e.to, .int .i64 e.from_, .int .i64 e.count, .int .i64 e.n, .int .i64 e.kind, .int .i64 e.arg]] w (RunPost a s e w) := by
  obtain ⟨A, cp, rfl, -, hlen, -⟩ := id h
  have h := h.bound
  by_cases q1 : appOk a = true
  · have q1' := q1
    by_cases q2 : stOk ⟨s.x, s.y, s.c⟩ = true
    · have q2' := q2
      by_cases q3 : evOk ⟨e.time, e.to, e.from_, e.count, e.n, e.kind, e.arg⟩ = true
      · have q3' := q3
        have hc := hid (show 0 ≤ s.c ∧ s.c ≤ 12 by simp [stOk, inn] at q2; exact q2.2)
        by_cases q4 : s.c = 12
        · have hf : appRun a s e = (s, [], []) := by
            have h2 : stOk s = true := q2
            have h3 : evOk e = true := q3
            simp [appRun, q1, h2, h3, q4]
          have HF := hid hf; clear hf q1 q2 q3
          have hge : decide (12 ≤ s.c) = true := by simp; omega
          clear q4
          go_enter Try.func5, Try.ntmps5
          go_wp2_with (first | (go_at_call 20; refine (AppOk_c _ [a, ⟨[]⟩, ⟨[]⟩, ⟨[]⟩] _ _ (rd4 (h.below (by repeat (first | exact Below.refl _ _ | refine balloc ?_ _))) (heap_at (by simp)))).mono ?_; rintro q w1 ⟨he, hb1⟩; rw [appsOk_one, q1'] at he; subst he; obtain ⟨kc1, kf1⟩ := bcell hb1; have z1_0 : w.heap.size < w1.heap.size := (by have := hb1.size; simp only [World.size_alloc] at this; omega); have z1_1 : w.heap.size + 1 < w1.heap.size := (by have := hb1.size; simp only [World.size_alloc] at this; omega); have z1_2 : w.heap.size + 1 + 1 < w1.heap.size := (by have := hb1.size; simp only [World.size_alloc] at this; omega); have z1_3 : w.heap.size + 1 + 1 + 1 < w1.heap.size := (by have := hb1.size; simp only [World.size_alloc] at this; omega)) | (go_at_call 21; refine (l1StateOk_c _ _ _ _).mono ?_; rintro q w2 ⟨he, hb2⟩; rw [q2'] at he; subst he; obtain ⟨kc2, kf2⟩ := bcell hb2; have z2_0 : w.heap.size < w2.heap.size := (by have := hb2.size; omega); have z2_1 : w.heap.size + 1 < w2.heap.size := (by have := hb2.size; omega); have z2_2 : w.heap.size + 1 + 1 < w2.heap.size := (by have := hb2.size; omega); have z2_3 : w.heap.size + 1 + 1 + 1 < w2.heap.size := (by have := hb2.size; omega)) | (go_at_call 22; refine (l1EventOk_c _ _ _ _ _ _ _ _).mono ?_; rintro q w3 ⟨he, hb3⟩; rw [q3'] at he; subst he; obtain ⟨kc3, kf3⟩ := bcell hb3; have z3_0 : w.heap.size < w3.heap.size := (by have := hb3.size; omega); have z3_1 : w.heap.size + 1 < w3.heap.size := (by have := hb3.size; omega); have z3_2 : w.heap.size + 1 + 1 < w3.heap.size := (by have := hb3.size; omega); have z3_3 : w.heap.size + 1 + 1 + 1 < w3.heap.size := (by have := hb3.size; omega)))
          refine bodyPost_ret (v := .tuple #[.agg #[.int .i64 s.x, .int .i64 s.y, .int .i64 s.c], .slice (some ⟨w3.heap.size, 0, none⟩) 0 0, .slice (some ⟨w3.heap.size + 1, 0, none⟩) 0 0]) (by simp [results, Try.results5, go_sem, kc1, kf1, z1_0, z1_1, z1_2, z1_3, kc2, kf2, z2_0, z2_1, z2_2, z2_3, kc3, kf3, z3_0, z3_1, z3_2, z3_3]) rfl ?_
          exact post_empty HF.out ((((bthen' (bthen' (bthen' (by repeat (first | exact Below.refl _ _ | refine balloc ?_ _)) hb1) hb2) hb3).setCell (by simp; omega) _).setCell (by simp; omega) _).setCell (by simp; omega) _) rfl (by simp) (by simp)
        · have hlt : s.c < 12 := by have := hc.out; omega
          have hge : decide (12 ≤ s.c) = false := by simp; omega
          have hcc := hc.out
          have hf : appRun a s e = (let r := doRules e s.c a.rules ⟨s.x, s.y, [], []⟩; (⟨r.x, r.y, s.c + 1⟩, r.sends, r.outs)) := by
            have h2 : stOk s = true := q2
            have h3 : evOk e = true := q3
            simp [appRun, q1, h2, h3, q4]
          have HF := hid hf; clear hf
          have hrun0 := stOk_run (s := s) q2
          have hrl := appOk_len q1
          have HA := hid q1
          have HE := hid (show evOk e = true from q3)
          clear q1 q2 q3 q4 hc
          go_enter Try.func5, Try.ntmps5
          go_wp2_with (first | (go_at_call 20; refine (AppOk_c _ [a, ⟨[]⟩, ⟨[]⟩, ⟨[]⟩] _ _ (rd4 (h.below (by repeat (first | exact Below.refl _ _ | refine balloc ?_ _))) (heap_at (by simp)))).mono ?_; rintro q w1 ⟨he, hb1⟩; rw [appsOk_one, q1'] at he; subst he; obtain ⟨kc1, kf1⟩ := bcell hb1; have z1_0 : w.heap.size < w1.heap.size := (by have := hb1.size; simp only [World.size_alloc] at this; omega); have z1_1 : w.heap.size + 1 < w1.heap.size := (by have := hb1.size; simp only [World.size_alloc] at this; omega); have z1_2 : w.heap.size + 1 + 1 < w1.heap.size := (by have := hb1.size; simp only [World.size_alloc] at this; omega); have z1_3 : w.heap.size + 1 + 1 + 1 < w1.heap.size := (by have := hb1.size; simp only [World.size_alloc] at this; omega)) | (go_at_call 21; refine (l1StateOk_c _ _ _ _).mono ?_; rintro q w2 ⟨he, hb2⟩; rw [q2'] at he; subst he; obtain ⟨kc2, kf2⟩ := bcell hb2; have z2_0 : w.heap.size < w2.heap.size := (by have := hb2.size; omega); have z2_1 : w.heap.size + 1 < w2.heap.size := (by have := hb2.size; omega); have z2_2 : w.heap.size + 1 + 1 < w2.heap.size := (by have := hb2.size; omega); have z2_3 : w.heap.size + 1 + 1 + 1 < w2.heap.size := (by have := hb2.size; omega)) | (go_at_call 22; refine (l1EventOk_c _ _ _ _ _ _ _ _).mono ?_; rintro q w3 ⟨he, hb3⟩; rw [q3'] at he; subst he; obtain ⟨kc3, kf3⟩ := bcell hb3; have z3_0 : w.heap.size < w3.heap.size := (by have := hb3.size; omega); have z3_1 : w.heap.size + 1 < w3.heap.size := (by have := hb3.size; omega); have z3_2 : w.heap.size + 1 + 1 < w3.heap.size := (by have := hb3.size; omega); have z3_3 : w.heap.size + 1 + 1 + 1 < w3.heap.size := (by have := hb3.size; omega)))
          have B0 : w3.heap[w.heap.size]? = some (.cells #[.slice A a.rules.length cp] 37 (0, 0)) := (hb3.block _ z2_0).trans ((hb2.block _ z1_0).trans ((hb1.block _ (by simp only [World.size_alloc]; omega)).trans ((heap_old (by simp only [World.size_alloc]; omega)).trans ((heap_old (by simp only [World.size_alloc]; omega)).trans ((heap_old (by simp only [World.size_alloc]; omega)).trans ((heap_old (by simp only [World.size_alloc]; omega)).trans (heap_at rfl)))))))
          have B2 : w3.heap[w.heap.size + 1 + 1]? = some (.cells #[.int .i64 e.time, .int .i64 e.to, .int .i64 e.from_, .int .i64 e.count, .int .i64 e.n, .int .i64 e.kind, .int .i64 e.arg] 40 (0, 0)) := (hb3.block _ z2_2).trans ((hb2.block _ z1_2).trans ((hb1.block _ (by simp only [World.size_alloc]; omega)).trans ((heap_old (by simp only [World.size_alloc]; omega)).trans ((heap_old (by simp only [World.size_alloc]; omega)).trans (heap_at (by simp only [World.size_alloc]))))))
          have B3 : w3.heap[w.heap.size + 1 + 1 + 1]? = some (.cells #[.int .i64 0, .int .i64 0, .int .i64 0] 30 (0, 0)) := (hb3.block _ z2_3).trans ((hb2.block _ z1_3).trans ((hb1.block _ (by simp only [World.size_alloc]; omega)).trans ((heap_old (by simp only [World.size_alloc]; omega)).trans (heap_at (by simp only [World.size_alloc])))))
          have c0 := blk_cell B0 0
          have c5 := blk_cell B2 5
          simp at c0 c5
          have hb03 : Below w.heap.size w w3 := (bthen' (bthen' (bthen' (by repeat (first | exact Below.refl _ _ | refine balloc ?_ _)) hb1) hb2) hb3)
          have HB3 := hid B3; clear B0 B2 B3
          go_loopw [10] (fun i wr => ∃ (k : Nat) (r : RunD) (sv ov : Value), i = .int .i64 k ∧ k ≤ a.rules.length ∧ RunAt wr (w3.heap.size + 1 + 1) w3.heap.size s.c e r sv ov ∧ Hid (doRules e s.c (a.rules.take k) ⟨s.x, s.y, [], []⟩ = r) ∧ RunOk r ∧ r.sends.length ≤ 20 * k ∧ r.outs.length ≤ 20 * k ∧ Below w3.heap.size w3 wr) (fun i _ => a.rules.length - (intOf i).toNat)
          case atStart =>
            refine ⟨0, ⟨s.x, s.y, [], []⟩, _, _, rfl, Nat.zero_le _, ⟨heap_at (by simp), by omega, ?_, ?_⟩, rfl, hrun0, by simp, by simp, by repeat (first | exact Below.refl _ _ | refine balloc ?_ _)⟩
            · exact ((Ow.empty tEv (F := fun k => w3.heap.size ≤ k) (w := w3.alloc (.cells #[] 40)) (heap_at rfl) (Nat.le_refl _)).alloc _).alloc _
            · exact (Ow.empty tOut (F := fun k => w3.heap.size ≤ k) (w := (w3.alloc (.cells #[] 40)).alloc (.cells #[] 77)) (heap_at (by simp)) (by omega)).alloc _
          case round =>
            obtain ⟨k, r, sv, ov, rfl, hk, hR, hD, hO, hns, hno, hb⟩ := hrel
            have d0 : wr.cell? ⟨w.heap.size, 0, none⟩ = some (.slice A a.rules.length cp) := (hb.cell (p := ⟨w.heap.size, 0, none⟩) z3_0).trans c0
            have d5 : wr.cell? ⟨w.heap.size + 1 + 1, 5, none⟩ = some (.int .i64 e.kind) := (hb.cell (p := ⟨w.heap.size + 1 + 1, 5, none⟩) z3_2).trans c5
            by_cases hkl : k < a.rules.length
            · have hrd : Rd tRule wr (fun k => F k ∧ k < w.heap.size) (.slice A a.rules.length cp) a.rules := (h.below hb03).keep (fun b hF _ => hb.block b (by have := hF.2; omega))
              obtain ⟨b1, o1, A2, c2, hA1, hbb1, k0, k1, hop⟩ := rule_at hrd k hkl
              subst hA1
              have hops := appOk_rule HA.out hkl
              have hol := opsOk_len hops
              have HO := hid hops; clear hops
              by_cases hke : a.rules[k].kind = e.kind
              · have hkb : (a.rules[k].kind != e.kind) = false := by simp [hke]
                have hds := hid (doRules_snoc e s.c a.rules ⟨s.x, s.y, [], []⟩ hkl)
                have HK := hid hke; clear hke
                go_wp2
                go_quiet (fail)
                go_wp2
                obtain ⟨wo, hwo⟩ : ∃ wo, wo = wr.drewN nq := ⟨_, rfl⟩
                go_loopw [12] (fun q w2 => ∃ (j : Nat) (r' : RunD) (sv ov : Value), q = .int .i64 j ∧ j ≤ a.rules[k].ops.length + 8 ∧ RunAt w2 (w3.heap.size + 1 + 1) w3.heap.size s.c e r' sv ov ∧ Hid (doOps e s.c a.rules[k].ops.length a.rules[k].ops r = doOps e s.c a.rules[k].ops.length (a.rules[k].ops.drop j) r') ∧ RunOk r' ∧ r'.sends.length ≤ 20 * k + j ∧ r'.outs.length ≤ 20 * k + j ∧ Below w3.heap.size wo w2) (fun q _ => a.rules[k].ops.length + 20 - (intOf q).toNat)
                case atStart => subst hwo; exact ⟨0, r, sv, ov, rfl, by omega, hR.below (bdrewN (Below.refl _ _) _), rfl, hO, by omega, by omega, Below.refl _ _⟩
                case round =>
                  obtain ⟨j, r', sv', ov', rfl, hj, hR', hD', hO', hns', hno', hb'⟩ := hrel
                  subst hwo
                  by_cases hjl : j < a.rules[k].ops.length
                  · have hop2 : Rd tOp wr (fun k => F k ∧ k < w.heap.size) (.slice A2 a.rules[k].ops.length c2) a.rules[k].ops := hop.keep (fun b hF hlt2 => hb'.block b (by have := hF.2; omega))
                    obtain ⟨b4, o4, rfl, hb40, a0, a1, a2, a3, a4⟩ := op_at hop2 j hjl
                    have hBle : w3.heap.size ≤ wr.heap.size := by have := blk_lt hR'.blk; omega
                    have hoo := opsOk_op HO.out hjl
                    obtain ⟨hs1, hs2⟩ := doOp_skip (e := e) (c := s.c) (r := r') hoo
                    have HSt := hid (doOps_step e s.c a.rules[k].ops.length r' hjl (Nat.le_refl _))
                    obtain ⟨hl1, hl2⟩ := doOp_len e s.c a.rules[k].ops[j] r'
                    have hok1 := doOp_ok (e := e) (c := s.c) (o := a.rules[k].ops[j]) hO'
                    generalize hsk : (doOp e s.c a.rules[k].ops[j] r').2 = sk at *
                    have HSK := hid hsk; clear hsk
                    go_wp2_with (go_at_call 23; refine (op_c _ _ s.c e r' sv' ov' a.rules[k].ops[j] _ hR' hBle hO' HE.out (by omega) (by omega) hoo).mono ?_; rintro q w4 ⟨hq, ⟨sv2, ov2, hR2⟩, hb4⟩; rw [HSK.out] at hq; subst hq)
                    go_roundw
                    case rel => exact ⟨j + sk.toNat + 1, _, sv2, ov2, by rw [show ((j + sk.toNat + 1 : Nat) : Int) = (j : Int) + sk + 1 by omega], by omega, hR2, hid (hD'.out.trans HSt.out), hok1, by omega, by omega, hb'.trans hb4⟩
                    case measure => simp [intOf]; omega
                  · have hend := doOps_end e s.c a.rules[k].ops.length r' (Nat.le_of_not_lt hjl)
                    have HD2 := hid (show doRules e s.c (a.rules.take (k + 1)) ⟨s.x, s.y, [], []⟩ = r' by rw [hds.out, if_pos HK.out, hD.out, hD'.out, hend])
                    clear hend
                    go_wp2
                    go_roundw
                    case rel => exact ⟨k + 1, r', sv', ov', by go_num, by omega, hR', HD2, hO', by omega, by omega, (bdrewN hb _).trans hb'⟩
                    case measure => simp [intOf]; omega
              · have hkb : (a.rules[k].kind != e.kind) = true := by simp [hke]
                have HD2 := hid (show doRules e s.c (a.rules.take (k + 1)) ⟨s.x, s.y, [], []⟩ = r by rw [doRules_snoc e s.c a.rules ⟨s.x, s.y, [], []⟩ hkl, if_neg hke]; exact hD.out)
                clear hke
                go_wp2
                go_quiet (fail)
                go_wp2
                go_roundw
                case rel => exact ⟨k + 1, r, sv, ov, by go_num, by omega, hR.below (bdrewN (Below.refl _ _) _), HD2, hO, by omega, by omega, bdrewN hb _⟩
                case measure => simp [intOf]; omega
            · have hkk : k = a.rules.length := by omega
              have hD2 := hD.out
              rw [hkk, List.take_length] at hD2
              have HD2 := hid hD2; clear hD2 hD hkk
              obtain ⟨A5, c5', rfl, hl5⟩ := hR.sends.shape
              obtain ⟨A6, c6', rfl, hl6⟩ := hR.outs.shape
              have B3 : wr.heap[w.heap.size + 1 + 1 + 1]? = some (.cells #[.int .i64 0, .int .i64 0, .int .i64 0] 30 (0, 0)) := (hb.block _ z3_3).trans HB3.out
              have m0 := blk_cell B3 0
              have m1 := blk_cell B3 1
              have m2 := blk_cell B3 2
              have n0 := blk_frozen B3 0
              have n1 := blk_frozen B3 1
              have n2 := blk_frozen B3 2
              have x0 := blk_cell hR.blk 0
              have x1 := blk_cell hR.blk 1
              have x2 := blk_cell hR.blk 2
              have x10 := blk_cell hR.blk 10
              have x11 := blk_cell hR.blk 11
              have y2 := blk_frozen hR.blk 2
              simp [runCells] at x0 x1 x2 x10 x11 m0 m1 m2
              have hgsz : w3.heap.size + 1 + 1 < wr.heap.size := blk_lt hR.blk
              have hgq : ¬ w3.heap.size = w.heap.size + 1 := by omega
              have hgr : ¬ w.heap.size + 1 + 1 + 1 = w3.heap.size + 1 + 1 := by omega
              have hgr' : ¬ w3.heap.size + 1 + 1 = w.heap.size + 1 + 1 + 1 := by omega
              go_wp2
              refine region_plan (fun w' => Ch (fun k => k = w.heap.size + 1 + 1 + 1) (wr.setCell ⟨w3.heap.size + 1 + 1, 2, none⟩ (.int .i64 (s.c + 1))) w') [(0, true), (1, true), (2, true), (3, true), (4, true), (5, true), (6, true), (7, true), (8, true), (9, true), (10, true), (11, true), (12, false), (13, true), (14, true)] (by kernel_rfl) (by kernel_rfl) (fun _ _ d _ _ h => by cases d <;> exact h) ?_
              have HS := (Ch.refl (fun k => k = w.heap.size + 1 + 1 + 1) (wr.setCell ⟨w3.heap.size + 1 + 1, 2, none⟩ (.int .i64 (s.c + 1)))).drew
              iterate 12 (first | (refine seq_take (v := ?_) (by rfl) HS (by rfl) ?_ ?_; rotate_left; (focus (intro wS hS; obtain ⟨kc, kf⟩ := hS.cells; go_simp; (try (with_reducible rfl)); done)); (intro K hK; go_simp; refine hK _ ?_; clear hK K)) | (refine seq_skip (by rfl) HS (by rfl) ?_; (intro K hK; go_simp; refine hK _ ?_; clear hK K)))
              refine seq_do (by rfl) (by rfl) (fun K hK => ?_)
              go_simp
              have HS1 := ((HS.setCell (p := ⟨w.heap.size + 1 + 1 + 1, 0, none⟩) (Or.inl rfl) (.int .i64 r.x)).setCell (p := ⟨w.heap.size + 1 + 1 + 1, 1, none⟩) (Or.inl rfl) (.int .i64 r.y)).setCell (p := ⟨w.heap.size + 1 + 1 + 1, 2, none⟩) (Or.inl rfl) (.int .i64 (s.c + 1))
              refine hK _ _ (Or.inr HS1) ?_; clear hK K HS; have HS := HS1; clear HS1
              iterate 2 (first | (refine seq_take (v := ?_) (by rfl) HS (by rfl) ?_ ?_; rotate_left; (focus (intro wS hS; obtain ⟨kc, kf⟩ := hS.cells; go_simp; (try (with_reducible rfl)); done)); (intro K hK; go_simp; refine hK _ ?_; clear hK K)) | (refine seq_skip (by rfl) HS (by rfl) ?_; (intro K hK; go_simp; refine hK _ ?_; clear hK K)))
              simp only [wpSeq]
              go_wp2
              refine bodyPost_ret (v := .tuple #[.agg #[.int .i64 r.x, .int .i64 r.y, .int .i64 (s.c + 1)], .slice A5 r.sends.length c5', .slice A6 r.outs.length c6']) (by simp [results, Try.results5, go_sem, m0, m1, m2]) rfl ?_
              have hsw : w.heap.size ≤ w3.heap.size := hb03.size
              obtain ⟨j1, j2, j3⟩ := run_fin (B := w3.heap.size) hR B3 hgr' hsw (by omega) (bthen' hb03 hb) (.int .i64 (s.c + 1)) (.int .i64 r.x) (.int .i64 r.y) (.int .i64 (s.c + 1))
              refine ⟨_, _, by rw [HF.out, HD2.out], ?_, ?_, j3⟩
              · rw [HF.out, HD2.out]; exact j1
              · rw [HF.out, HD2.out]; exact j2
      · have q3' : evOk ⟨e.time, e.to, e.from_, e.count, e.n, e.kind, e.arg⟩ = false := by simpa using q3
        have hf : appRun a s e = (st0, [], []) := by
          have h3 : evOk e = false := q3'
          simp [appRun, h3]
        have HF := hid hf; clear hf q1 q2 q3
        go_enter Try.func5, Try.ntmps5
        go_wp2_with (first | (go_at_call 20; refine (AppOk_c _ [a, ⟨[]⟩, ⟨[]⟩, ⟨[]⟩] _ _ (rd4 (h.below (by repeat (first | exact Below.refl _ _ | refine balloc ?_ _))) (heap_at (by simp)))).mono ?_; rintro q w1 ⟨he, hb1⟩; rw [appsOk_one, q1'] at he; subst he; obtain ⟨kc1, kf1⟩ := bcell hb1; have z1_0 : w.heap.size < w1.heap.size := (by have := hb1.size; simp only [World.size_alloc] at this; omega); have z1_1 : w.heap.size + 1 < w1.heap.size := (by have := hb1.size; simp only [World.size_alloc] at this; omega); have z1_2 : w.heap.size + 1 + 1 < w1.heap.size := (by have := hb1.size; simp only [World.size_alloc] at this; omega); have z1_3 : w.heap.size + 1 + 1 + 1 < w1.heap.size := (by have := hb1.size; simp only [World.size_alloc] at this; omega)) | (go_at_call 21; refine (l1StateOk_c _ _ _ _).mono ?_; rintro q w2 ⟨he, hb2⟩; rw [q2'] at he; subst he; obtain ⟨kc2, kf2⟩ := bcell hb2; have z2_0 : w.heap.size < w2.heap.size := (by have := hb2.size; omega); have z2_1 : w.heap.size + 1 < w2.heap.size := (by have := hb2.size; omega); have z2_2 : w.heap.size + 1 + 1 < w2.heap.size := (by have := hb2.size; omega); have z2_3 : w.heap.size + 1 + 1 + 1 < w2.heap.size := (by have := hb2.size; omega)) | (go_at_call 22; refine (l1EventOk_c _ _ _ _ _ _ _ _).mono ?_; rintro q w3 ⟨he, hb3⟩; rw [q3'] at he; subst he; obtain ⟨kc3, kf3⟩ := bcell hb3; have z3_0 : w.heap.size < w3.heap.size := (by have := hb3.size; omega); have z3_1 : w.heap.size + 1 < w3.heap.size := (by have := hb3.size; omega); have z3_2 : w.heap.size + 1 + 1 < w3.heap.size := (by have := hb3.size; omega); have z3_3 : w.heap.size + 1 + 1 + 1 < w3.heap.size := (by have := hb3.size; omega)))
        refine bodyPost_ret (v := .tuple #[.agg #[.int .i64 0, .int .i64 0, .int .i64 0], .slice (some ⟨w3.heap.size, 0, none⟩) 0 0, .slice (some ⟨w3.heap.size + 1, 0, none⟩) 0 0]) (by simp [results, Try.results5, go_sem, kc1, kf1, z1_0, z1_1, z1_2, z1_3, kc2, kf2, z2_0, z2_1, z2_2, z2_3, kc3, kf3, z3_0, z3_1, z3_2, z3_3]) rfl ?_
        exact post_empty HF.out ((((bthen' (bthen' (bthen' (by repeat (first | exact Below.refl _ _ | refine balloc ?_ _)) hb1) hb2) hb3).setCell (by simp; omega) _).setCell (by simp; omega) _).setCell (by simp; omega) _) rfl (by simp) (by simp)
    · have q2' : stOk ⟨s.x, s.y, s.c⟩ = false := by simpa using q2
      have hf : appRun a s e = (st0, [], []) := by
        have h2 : stOk s = false := q2'
        simp [appRun, h2]
      have HF := hid hf; clear hf q1 q2
      go_enter Try.func5, Try.ntmps5
      go_wp2_with (first | (go_at_call 20; refine (AppOk_c _ [a, ⟨[]⟩, ⟨[]⟩, ⟨[]⟩] _ _ (rd4 (h.below (by repeat (first | exact Below.refl _ _ | refine balloc ?_ _))) (heap_at (by simp)))).mono ?_; rintro q w1 ⟨he, hb1⟩; rw [appsOk_one, q1'] at he; subst he; obtain ⟨kc1, kf1⟩ := bcell hb1; have z1_0 : w.heap.size < w1.heap.size := (by have := hb1.size; simp only [World.size_alloc] at this; omega); have z1_1 : w.heap.size + 1 < w1.heap.size := (by have := hb1.size; simp only [World.size_alloc] at this; omega); have z1_2 : w.heap.size + 1 + 1 < w1.heap.size := (by have := hb1.size; simp only [World.size_alloc] at this; omega); have z1_3 : w.heap.size + 1 + 1 + 1 < w1.heap.size := (by have := hb1.size; simp only [World.size_alloc] at this; omega)) | (go_at_call 21; refine (l1StateOk_c _ _ _ _).mono ?_; rintro q w2 ⟨he, hb2⟩; rw [q2'] at he; subst he; obtain ⟨kc2, kf2⟩ := bcell hb2; have z2_0 : w.heap.size < w2.heap.size := (by have := hb2.size; omega); have z2_1 : w.heap.size + 1 < w2.heap.size := (by have := hb2.size; omega); have z2_2 : w.heap.size + 1 + 1 < w2.heap.size := (by have := hb2.size; omega); have z2_3 : w.heap.size + 1 + 1 + 1 < w2.heap.size := (by have := hb2.size; omega)))
      refine bodyPost_ret (v := .tuple #[.agg #[.int .i64 0, .int .i64 0, .int .i64 0], .slice (some ⟨w2.heap.size, 0, none⟩) 0 0, .slice (some ⟨w2.heap.size + 1, 0, none⟩) 0 0]) (by simp [results, Try.results5, go_sem, kc1, kf1, z1_0, z1_1, z1_2, z1_3, kc2, kf2, z2_0, z2_1, z2_2, z2_3]) rfl ?_
      exact post_empty HF.out ((((bthen' (bthen' (by repeat (first | exact Below.refl _ _ | refine balloc ?_ _)) hb1) hb2).setCell (by simp; omega) _).setCell (by simp; omega) _).setCell (by simp; omega) _) rfl (by simp) (by simp)
  · have q1' : appOk a = false := by simpa using q1
    have hf : appRun a s e = (st0, [], []) := by simp [appRun, q1']
    have HF := hid hf; clear hf q1
    go_enter Try.func5, Try.ntmps5
    go_wp2_with (first | (go_at_call 20; refine (AppOk_c _ [a, ⟨[]⟩, ⟨[]⟩, ⟨[]⟩] _ _ (rd4 (h.below (by repeat (first | exact Below.refl _ _ | refine balloc ?_ _))) (heap_at (by simp)))).mono ?_; rintro q w1 ⟨he, hb1⟩; rw [appsOk_one, q1'] at he; subst he; obtain ⟨kc1, kf1⟩ := bcell hb1; have z1_0 : w.heap.size < w1.heap.size := (by have := hb1.size; simp only [World.size_alloc] at this; omega); have z1_1 : w.heap.size + 1 < w1.heap.size := (by have := hb1.size; simp only [World.size_alloc] at this; omega); have z1_2 : w.heap.size + 1 + 1 < w1.heap.size := (by have := hb1.size; simp only [World.size_alloc] at this; omega); have z1_3 : w.heap.size + 1 + 1 + 1 < w1.heap.size := (by have := hb1.size; simp only [World.size_alloc] at this; omega)))
    refine bodyPost_ret (v := .tuple #[.agg #[.int .i64 0, .int .i64 0, .int .i64 0], .slice (some ⟨w1.heap.size, 0, none⟩) 0 0, .slice (some ⟨w1.heap.size + 1, 0, none⟩) 0 0]) (by simp [results, Try.results5, go_sem, kc1, kf1, z1_0, z1_1, z1_2, z1_3]) rfl ?_
    exact post_empty HF.out ((((bthen' (by repeat (first | exact Below.refl _ _ | refine balloc ?_ _)) hb1).setCell (by simp; omega) _).setCell (by simp; omega) _).setCell (by simp; omega) _) rfl (by simp) (by simp)
end Go.Proofs.Ytlinephiindncaa
