/- Texts joined: Ok1, Ok2, Ok3. -/
import Derived.Test.YtbcemldiahghcaaGreatK04
import Derived.Test.YtbcemldiahghcaaGreatK03
import Derived.IntWalk
namespace Go.Proofs.YtbcemldiahghcaaGreat
set_option linter.unusedVariables false
set_option linter.unusedSimpArgs false
set_option maxRecDepth 100000
open Go.RowKit
theorem cnt_snoc (d : Int) {l : List OpD} {k : Nat} (h : k < l.length) : cnt d (l.take (k + 1)) = cnt d (l.take k) + if l[k].d = d then 1 else 0 := by
  rw [List.take_succ_eq_append_getElem h]
  unfold cnt
  rw [List.filter_append, List.length_append]
  by_cases e : l[k].d = d <;> simp [e]
theorem cnt_le (d : Int) (l : List OpD) (k : Nat) : cnt d (l.take k) ≤ k := by
  unfold cnt
  exact Nat.le_trans (List.length_filter_le _ _) (List.length_take_le _ _)
theorem all_snoc {α : Type} {p : α → Bool} {l : List α} {k : Nat} (h : k < l.length) (ha : (l.take k).all p = true) (hp : p l[k] = true) : (l.take (k + 1)).all p = true := by
  rw [List.take_succ_eq_append_getElem h, List.all_append, ha]; simpa using hp
theorem all_false {α : Type} {p : α → Bool} {l : List α} {k : Nat} (h : k < l.length) (hp : p l[k] = false) : l.all p = false := by
  rw [Bool.eq_false_iff]; intro ha
  have := List.all_eq_true.1 ha l[k] (List.getElem_mem h)
  rw [hp] at this; cases this
set_option maxHeartbeats 2000000 in
theorem l1RuleOk_c (kd : Int) (v : Value) (ops : List OpD) (F : Nat → Prop) (w : World) (h : Rd tOp w F v ops) :
    Calls Tryz.prog 79 #[.agg #[.int .i64 kd, v]] w fun e w' => e = .returned (.bool (opsOk ops)) ∧ Below w.heap.size w w' := by
  obtain ⟨A, cp, rfl, -, hlen, -⟩ := id h
  go_enter Tryz.func79, Tryz.ntmps79
  go_wp2
  go_loopw [3, 4, 5] (fun s o i wr => ∃ k : Nat, i = .int .i64 k ∧ k ≤ ops.length ∧ s = .int .i64 (cnt 6 (ops.take k) : Nat) ∧ o = .int .i64 (cnt 7 (ops.take k) : Nat) ∧ Hid ((ops.take k).all opOk = true) ∧ Below (w.heap.size + 1) (w.alloc (.cells #[.int .i64 kd, .slice A ops.length cp] 120)) wr) (fun _ _ i _ => ops.length - (intOf i).toNat)
  case atStart => exact ⟨0, rfl, Nat.zero_le _, rfl, rfl, rfl, Below.refl _ _⟩
  case round =>
    obtain ⟨k, rfl, hk, rfl, rfl, hall, hb⟩ := hrel
    have hc0 : wr.cell? ⟨w.heap.size, 1, none⟩ = some (.slice A ops.length cp) := by rw [hb.cell (by simp)]; simp
    by_cases hlt : k < ops.length
    · have hrd : Rd tOp wr F (.slice A ops.length cp) ops := (h.below (balloc (Below.refl _ _) _)).below (by simpa using hb)
      obtain ⟨b0, o0, rfl, hb0, a0, a1, a2, a3, a4⟩ := op_at hrd k hlt
      have hsz : w.heap.size < wr.heap.size := by have := hb.size; simp at this; omega
      have n6 := cnt_le 6 ops k
      have n7 := cnt_le 7 ops k
      by_cases hop : opOk ops[k] = true
      · have hop' : opOk ⟨ops[k].d, ops[k].a, ops[k].b, ops[k].c, ops[k].e⟩ = true := hop
        clear hop
        have al := hid (all_snoc hlt hall.out hop')
        by_cases d6 : ops[k].d = 6
        · have s6 : cnt 6 (ops.take (k + 1)) = cnt 6 (ops.take k) + 1 := by rw [cnt_snoc 6 hlt, if_pos d6]
          have s7 : cnt 7 (ops.take (k + 1)) = cnt 7 (ops.take k) := by rw [cnt_snoc 7 hlt, if_neg (by omega)]; rfl
          have S6 := hid s6; have S7 := hid s7; clear s6 s7
          have e6 : (ops[k].d == 6) = true := by simpa using d6
          have e7 : (ops[k].d == 7) = false := by simp [d6]
          clear d6
          go_wp2_with (go_at_call 125; refine (l1OpOk_c _ _ _ _ _ _).mono ?_; rintro e w1 ⟨rfl, hb1⟩; obtain ⟨kc, kf⟩ := bcell hb1)
          go_roundw
          case rel => exact ⟨k + 1, by go_num, by omega, by rw [S6.out]; go_num, by rw [S7.out], al, bthen hb hb1 hsz⟩
          case measure => simp [intOf]; omega
        · by_cases d7 : ops[k].d = 7
          · have s6 : cnt 6 (ops.take (k + 1)) = cnt 6 (ops.take k) := by rw [cnt_snoc 6 hlt, if_neg d6]; rfl
            have s7 : cnt 7 (ops.take (k + 1)) = cnt 7 (ops.take k) + 1 := by rw [cnt_snoc 7 hlt, if_pos d7]
            have S6 := hid s6; have S7 := hid s7; clear s6 s7
            have e6 : (ops[k].d == 6) = false := by simpa using d6
            have e7 : (ops[k].d == 7) = true := by simp [d7]
            clear d6 d7
            go_wp2_with (go_at_call 125; refine (l1OpOk_c _ _ _ _ _ _).mono ?_; rintro e w1 ⟨rfl, hb1⟩; obtain ⟨kc, kf⟩ := bcell hb1)
            go_roundw
            case rel => exact ⟨k + 1, by go_num, by omega, by rw [S6.out], by rw [S7.out]; go_num, al, bthen hb hb1 hsz⟩
            case measure => simp [intOf]; omega
          · have s6 : cnt 6 (ops.take (k + 1)) = cnt 6 (ops.take k) := by rw [cnt_snoc 6 hlt, if_neg d6]; rfl
            have s7 : cnt 7 (ops.take (k + 1)) = cnt 7 (ops.take k) := by rw [cnt_snoc 7 hlt, if_neg d7]; rfl
            have S6 := hid s6; have S7 := hid s7; clear s6 s7
            have e6 : (ops[k].d == 6) = false := by simpa using d6
            have e7 : (ops[k].d == 7) = false := by simpa using d7
            clear d6 d7
            go_wp2_with (go_at_call 125; refine (l1OpOk_c _ _ _ _ _ _).mono ?_; rintro e w1 ⟨rfl, hb1⟩; obtain ⟨kc, kf⟩ := bcell hb1)
            go_roundw
            case rel => exact ⟨k + 1, by go_num, by omega, by rw [S6.out], by rw [S7.out], al, bthen hb hb1 hsz⟩
            case measure => simp [intOf]; omega
      · have hop' : opOk ⟨ops[k].d, ops[k].a, ops[k].b, ops[k].c, ops[k].e⟩ = false := by simpa using hop
        clear hop
        have hf : opsOk ops = false := by simp [opsOk, all_false hlt hop']
        have HF := hid hf; clear hf
        go_wp2_with (go_at_call 125; refine (l1OpOk_c _ _ _ _ _ _).mono ?_; rintro e w1 ⟨rfl, hb1⟩; obtain ⟨kc, kf⟩ := bcell hb1)
        go_ret
        exact ⟨by rw [HF.out]; rfl, ((Below.refl _ _).alloc (Nat.le_refl _) _).trans ((bthen hb hb1 hsz).mono (by simp))⟩
    · have hkl : k = ops.length := by omega
      subst hkl
      have hall' := hall.out
      rw [List.take_length] at hall'
      have hf : opsOk ops = (decide (ops.length ≤ 8) && (decide (cnt 6 ops ≤ 2) && decide (cnt 7 ops ≤ 2))) := by simp [opsOk, hall', Bool.and_assoc]
      have HF := hid hf; clear hf hall' hall
      simp only [List.take_length]
      by_cases q1 : ops.length ≤ 8 <;> by_cases q2 : cnt 6 ops ≤ 2 <;> by_cases q3 : cnt 7 ops ≤ 2
      all_goals
        go_wp2
        go_ret
        exact ⟨by rw [HF.out]; (simp [q1, q2, q3]) <;> omega, ((Below.refl _ _).alloc (Nat.le_refl _) _).trans (hb.mono (by simp))⟩
theorem ascR_step {l : List RuleD} {k : Nat} (h : k < l.length) : ascR (l.take (k + 1)) = (ascR (l.take k) && (if k = 0 then true else decide ((l[k-1]'(by omega)).kind < l[k].kind))) := by
  rw [List.take_succ_eq_append_getElem h, ascR_snoc]
  congr 1
  cases k with
  | zero => simp
  | succ k =>
    have h0 : k < l.length := by omega
    rw [List.take_succ_eq_append_getElem h0, List.getLast?_concat]
    simp
theorem ascR_take {l : List RuleD} {k : Nat} (h : ascR (l.take k) = false) : ascR l = false := by
  have key : ∀ (m : List RuleD) (n : List RuleD), ascR m = false → ascR (m ++ n) = false := by
    intro m n
    induction n generalizing m with
    | nil => intro hm; simpa using hm
    | cons a n ih => intro hm; rw [show m ++ a :: n = (m ++ [a]) ++ n by simp]; exact ih _ (by rw [ascR_snoc, hm]; rfl)
  have := key (l.take k) (l.drop k) h
  rwa [List.take_append_drop] at this
set_option maxHeartbeats 4000000 in
theorem AppOk_c (v : Value) (apps : List AppD) (F : Nat → Prop) (w : World) (h : Rd tApp w F v apps) :
    Calls Tryz.prog 35 #[v] w fun e w' => e = .returned (.bool (appsOk apps)) ∧ Below w.heap.size w w' := by
  obtain ⟨A, cp, rfl, -, hlen, -⟩ := id h
  by_cases h4 : apps.length = 4
  · have hb4 : (((apps.length : Nat) : Int) != 4) = false := by simp [h4]
    have H4 := hid h4
    have h4' : apps.length ≤ 4 := by omega
    clear h4
    go_enter Tryz.func35, Tryz.ntmps35
    go_wp2
    go_loopw [3] (fun i wr => ∃ i' : Nat, i = .int .i64 i' ∧ i' ≤ apps.length ∧ Hid ((apps.take i').all appOk = true) ∧ Below w.heap.size w wr) (fun i _ => apps.length - (intOf i).toNat)
    case atStart => exact ⟨0, rfl, Nat.zero_le _, rfl, Below.refl _ _⟩
    case round =>
      obtain ⟨i, rfl, hi, hall, hb0⟩ := hrel
      by_cases hlt : i < apps.length
      · have hrd : Rd tApp wr F (.slice A apps.length cp) apps := h.below hb0
        obtain ⟨b0, o0, A1, c1, rfl, hbb0, a0, hrr⟩ := app_at hrd i hlt
        obtain ⟨-, -, hl1⟩ := hrr.len_
        by_cases hr4 : apps[i].rules.length ≤ 4
        · have hg4 : decide ((apps[i].rules.length : Int) > 4) = false := by simp; omega
          go_wp2
          obtain ⟨wo, hwo⟩ : ∃ wo, wo = wr := ⟨_, rfl⟩
          go_loopw [5] (fun k w2 => ∃ k' : Nat, k = .int .i64 k' ∧ k' ≤ apps[i].rules.length ∧ Hid ((apps[i].rules.take k').all ruleOk = true) ∧ Hid (ascR (apps[i].rules.take k') = true) ∧ Below wo.heap.size wo w2) (fun k _ => apps[i].rules.length - (intOf k).toNat)
          case atStart => subst hwo; exact ⟨0, rfl, Nat.zero_le _, rfl, rfl, Below.refl _ _⟩
          case round =>
            obtain ⟨k, rfl, hk, hal, has, hb⟩ := hrel
            subst hwo
            by_cases hkl : k < apps[i].rules.length
            · have hrk := hrr.below hb
              obtain ⟨b1, o1, A2, c2, hA1, hbb1, k0, k1, hop⟩ := rule_at hrk k hkl
              subst hA1
              by_cases q1 : inn apps[i].rules[k].kind 0 3 = true
              · by_cases q2 : opsOk apps[i].rules[k].ops = true
                · have hrk2 : ruleOk apps[i].rules[k] = true := by simp [ruleOk, q1, q2]
                  have al := hid (all_snoc hkl hal.out hrk2)
                  clear hrk2
                  by_cases q3 : k = 0
                  · have as' := hid (show ascR (apps[i].rules.take (k + 1)) = true by rw [ascR_step hkl, has.out, if_pos q3]; rfl)
                    have hkd : decide ((k : Int) > 0) = false := by simp; omega
                    have hkn : decide (0 < k) = false := by simp; omega
                    clear q3
                    go_wp2
                    refine region_plan (fun w' => Below wr.heap.size wr w') [(0, true), (1, true), (2, true), (3, true), (4, true), (5, false), (6, true), (7, true), (8, true), (9, true), (10, true), (11, true), (12, false), (13, true), (14, true), (15, true), (16, true), (17, true), (18, true), (19, true), (20, true), (21, true), (22, true), (23, true), (24, true), (25, true), (26, true), (27, true), (28, true), (29, true), (30, true), (31, true), (32, true)] (by kernel_rfl) (by kernel_rfl) (fun _ _ d _ _ h => by cases d <;> exact h) ?_
                    have HS := (Below.refl wr.heap.size wr).drew
                    iterate 5 (first | (refine seq_take (v := ?_) (by rfl) HS (by rfl) ?_ ?_; rotate_left; (focus (intro wS hS; obtain ⟨kc, kf⟩ := bcell hS; go_simp; (try (with_reducible rfl)); done)); (intro K hK; go_simp; refine hK _ ?_; clear hK K)) | (refine seq_skip (by rfl) HS (by rfl) ?_; (intro K hK; go_simp; refine hK _ ?_; clear hK K)))
                    refine seq_do (by rfl) (by rfl) (fun K hK => ?_)
                    go_simp; refine (l6In_c _ _ _ _).mono ?_; rintro e w1 ⟨he, rfl⟩; rw [q1] at he; subst he; refine hK _ _ (Or.inr HS) ?_; clear hK K
                    iterate 6 (first | (refine seq_take (v := ?_) (by rfl) HS (by rfl) ?_ ?_; rotate_left; (focus (intro wS hS; obtain ⟨kc, kf⟩ := bcell hS; go_simp; (try (with_reducible rfl)); done)); (intro K hK; go_simp; refine hK _ ?_; clear hK K)) | (refine seq_skip (by rfl) HS (by rfl) ?_; (intro K hK; go_simp; refine hK _ ?_; clear hK K)))
                    refine seq_do (by rfl) (by rfl) (fun K hK => ?_)
                    go_simp; refine (l1RuleOk_c _ _ _ F _ (hop.below HS)).mono ?_; rintro e w1 ⟨he, hb1⟩; rw [q2] at he; subst he; have HS1 := bthen' HS hb1; refine hK _ _ (Or.inr HS1) ?_; clear hK K HS; have HS := HS1; clear HS1
                    iterate 20 (first | (refine seq_take (v := ?_) (by rfl) HS (by rfl) ?_ ?_; rotate_left; (focus (intro wS hS; obtain ⟨kc, kf⟩ := bcell hS; go_simp; (try (with_reducible rfl)); done)); (intro K hK; go_simp; refine hK _ ?_; clear hK K)) | (refine seq_skip (by rfl) HS (by rfl) ?_; (intro K hK; go_simp; refine hK _ ?_; clear hK K)))
                    simp only [wpSeq]
                    go_wp2
                    go_roundw
                    case rel => exact ⟨k + 1, by go_num, by omega, al, as', bthen' hb HS⟩
                    case measure => simp [intOf]; omega
                  · have hk0 : 0 < k := by omega
                    have hkd : decide ((k : Int) > 0) = true := by simp; omega
                    have hkn : decide (0 < k) = true := by simp; omega
                    obtain ⟨b2, o2, A3, c3, hA2, hbb2, z0, z1, -⟩ := rule_at hrk (k - 1) (by omega)
                    injection hA2 with hA2
                    injection hA2 with e1 e2 _
                    subst e1 e2
                    have hck : ((k : Int) - 1).toNat = k - 1 := by omega
                    have p1 : (0 : Int) ≤ (k : Int) - 1 := by omega
                    have p2 : (k : Int) - 1 < (apps[i].rules.length : Int) := by omega
                    have p3 : (1 : Int) ≤ (k : Int) := by omega
                    have p4 : 1 ≤ k := by omega
                    have p5 : IntKind.i64.wrap ((k : Int) - 1) = (k : Int) - 1 := IntWalk.i64_in _ (by omega)
                    clear q3
                    by_cases q4 : (apps[i].rules[k-1]'(by omega)).kind < apps[i].rules[k].kind
                    · have as' := hid (show ascR (apps[i].rules.take (k + 1)) = true by rw [ascR_step hkl, has.out, if_neg (by omega)]; simpa using q4)
                      have hq : decide (apps[i].rules[k].kind ≤ (apps[i].rules[k-1]'(by omega)).kind) = false := by simp; omega
                      go_wp2
                      refine region_plan (fun w' => Below wr.heap.size wr w') [(0, true), (1, true), (2, true), (3, true), (4, true), (5, false), (6, true), (7, true), (8, true), (9, true), (10, true), (11, true), (12, false), (13, true), (14, true), (15, true), (16, true), (17, true), (18, true), (19, true), (20, true), (21, true), (22, true), (23, true), (24, true), (25, true), (26, true), (27, true), (28, true), (29, true), (30, true), (31, true), (32, true)] (by kernel_rfl) (by kernel_rfl) (fun _ _ d _ _ h => by cases d <;> exact h) ?_
                      have HS := (Below.refl wr.heap.size wr).drew
                      iterate 5 (first | (refine seq_take (v := ?_) (by rfl) HS (by rfl) ?_ ?_; rotate_left; (focus (intro wS hS; obtain ⟨kc, kf⟩ := bcell hS; go_simp; (try (with_reducible rfl)); done)); (intro K hK; go_simp; refine hK _ ?_; clear hK K)) | (refine seq_skip (by rfl) HS (by rfl) ?_; (intro K hK; go_simp; refine hK _ ?_; clear hK K)))
                      refine seq_do (by rfl) (by rfl) (fun K hK => ?_)
                      go_simp; refine (l6In_c _ _ _ _).mono ?_; rintro e w1 ⟨he, rfl⟩; rw [q1] at he; subst he; refine hK _ _ (Or.inr HS) ?_; clear hK K
                      iterate 6 (first | (refine seq_take (v := ?_) (by rfl) HS (by rfl) ?_ ?_; rotate_left; (focus (intro wS hS; obtain ⟨kc, kf⟩ := bcell hS; go_simp; (try (with_reducible rfl)); done)); (intro K hK; go_simp; refine hK _ ?_; clear hK K)) | (refine seq_skip (by rfl) HS (by rfl) ?_; (intro K hK; go_simp; refine hK _ ?_; clear hK K)))
                      refine seq_do (by rfl) (by rfl) (fun K hK => ?_)
                      go_simp; refine (l1RuleOk_c _ _ _ F _ (hop.below HS)).mono ?_; rintro e w1 ⟨he, hb1⟩; rw [q2] at he; subst he; have HS1 := bthen' HS hb1; refine hK _ _ (Or.inr HS1) ?_; clear hK K HS; have HS := HS1; clear HS1
                      iterate 20 (first | (refine seq_take (v := ?_) (by rfl) HS (by rfl) ?_ ?_; rotate_left; (focus (intro wS hS; obtain ⟨kc, kf⟩ := bcell hS; go_simp; (try (with_reducible rfl)); done)); (intro K hK; go_simp; refine hK _ ?_; clear hK K)) | (refine seq_skip (by rfl) HS (by rfl) ?_; (intro K hK; go_simp; refine hK _ ?_; clear hK K)))
                      simp only [wpSeq]
                      go_wp2
                      go_roundw
                      case rel => exact ⟨k + 1, by go_num, by omega, al, as', bthen' hb HS⟩
                      case measure => simp [intOf]; omega
                    · have hf : appsOk apps = false := by
                        have h1 : ascR (apps[i].rules.take (k + 1)) = false := by rw [ascR_step hkl, has.out, if_neg (by omega)]; simpa using q4
                        simp [appsOk, all_false hlt (show appOk apps[i] = false by simp [appOk, ascR_take h1])]
                      have HF := hid hf; clear hf
                      have hq : decide (apps[i].rules[k].kind ≤ (apps[i].rules[k-1]'(by omega)).kind) = true := by simp; omega
                      go_wp2
                      refine region_plan (fun w' => Below wr.heap.size wr w') [(0, true), (1, true), (2, true), (3, true), (4, true), (5, false), (6, true), (7, true), (8, true), (9, true), (10, true), (11, true), (12, false), (13, true), (14, true), (15, true), (16, true), (17, true), (18, true), (19, true), (20, true), (21, true), (22, true), (23, true), (24, true), (25, true), (26, true), (27, true), (28, true), (29, true), (30, true), (31, true), (32, true)] (by kernel_rfl) (by kernel_rfl) (fun _ _ d _ _ h => by cases d <;> exact h) ?_
                      have HS := (Below.refl wr.heap.size wr).drew
                      iterate 5 (first | (refine seq_take (v := ?_) (by rfl) HS (by rfl) ?_ ?_; rotate_left; (focus (intro wS hS; obtain ⟨kc, kf⟩ := bcell hS; go_simp; (try (with_reducible rfl)); done)); (intro K hK; go_simp; refine hK _ ?_; clear hK K)) | (refine seq_skip (by rfl) HS (by rfl) ?_; (intro K hK; go_simp; refine hK _ ?_; clear hK K)))
                      refine seq_do (by rfl) (by rfl) (fun K hK => ?_)
                      go_simp; refine (l6In_c _ _ _ _).mono ?_; rintro e w1 ⟨he, rfl⟩; rw [q1] at he; subst he; refine hK _ _ (Or.inr HS) ?_; clear hK K
                      iterate 6 (first | (refine seq_take (v := ?_) (by rfl) HS (by rfl) ?_ ?_; rotate_left; (focus (intro wS hS; obtain ⟨kc, kf⟩ := bcell hS; go_simp; (try (with_reducible rfl)); done)); (intro K hK; go_simp; refine hK _ ?_; clear hK K)) | (refine seq_skip (by rfl) HS (by rfl) ?_; (intro K hK; go_simp; refine hK _ ?_; clear hK K)))
                      refine seq_do (by rfl) (by rfl) (fun K hK => ?_)
                      go_simp; refine (l1RuleOk_c _ _ _ F _ (hop.below HS)).mono ?_; rintro e w1 ⟨he, hb1⟩; rw [q2] at he; subst he; have HS1 := bthen' HS hb1; refine hK _ _ (Or.inr HS1) ?_; clear hK K HS; have HS := HS1; clear HS1
                      iterate 20 (first | (refine seq_take (v := ?_) (by rfl) HS (by rfl) ?_ ?_; rotate_left; (focus (intro wS hS; obtain ⟨kc, kf⟩ := bcell hS; go_simp; (try (with_reducible rfl)); done)); (intro K hK; go_simp; refine hK _ ?_; clear hK K)) | (refine seq_skip (by rfl) HS (by rfl) ?_; (intro K hK; go_simp; refine hK _ ?_; clear hK K)))
                      simp only [wpSeq]
                      go_wp2
                      go_ret
                      exact ⟨by rw [HF.out]; rfl, bthen' hb0 (bthen' hb HS)⟩
                · have q2' : opsOk apps[i].rules[k].ops = false := by simpa using q2
                  clear q2
                  have hf : appsOk apps = false := by
                    simp [appsOk, all_false hlt (show appOk apps[i] = false by simp [appOk, all_false hkl (show ruleOk apps[i].rules[k] = false by simp [ruleOk, q2'])])]
                  have HF := hid hf; clear hf
                  go_wp2
                  refine region_plan (fun w' => Below wr.heap.size wr w') [(0, true), (1, true), (2, true), (3, true), (4, true), (5, false), (6, true), (7, true), (8, true), (9, true), (10, true), (11, true), (12, false), (13, true), (14, true), (15, true), (16, true), (17, true), (18, true), (19, true), (20, true), (21, true), (22, true), (23, true), (24, true), (25, true), (26, true), (27, true), (28, true), (29, true), (30, true), (31, true), (32, true)] (by kernel_rfl) (by kernel_rfl) (fun _ _ d _ _ h => by cases d <;> exact h) ?_
                  have HS := (Below.refl wr.heap.size wr).drew
                  iterate 5 (first | (refine seq_take (v := ?_) (by rfl) HS (by rfl) ?_ ?_; rotate_left; (focus (intro wS hS; obtain ⟨kc, kf⟩ := bcell hS; go_simp; (try (with_reducible rfl)); done)); (intro K hK; go_simp; refine hK _ ?_; clear hK K)) | (refine seq_skip (by rfl) HS (by rfl) ?_; (intro K hK; go_simp; refine hK _ ?_; clear hK K)))
                  refine seq_do (by rfl) (by rfl) (fun K hK => ?_)
                  go_simp; refine (l6In_c _ _ _ _).mono ?_; rintro e w1 ⟨he, rfl⟩; rw [q1] at he; subst he; refine hK _ _ (Or.inr HS) ?_; clear hK K
                  iterate 6 (first | (refine seq_take (v := ?_) (by rfl) HS (by rfl) ?_ ?_; rotate_left; (focus (intro wS hS; obtain ⟨kc, kf⟩ := bcell hS; go_simp; (try (with_reducible rfl)); done)); (intro K hK; go_simp; refine hK _ ?_; clear hK K)) | (refine seq_skip (by rfl) HS (by rfl) ?_; (intro K hK; go_simp; refine hK _ ?_; clear hK K)))
                  refine seq_do (by rfl) (by rfl) (fun K hK => ?_)
                  go_simp; refine (l1RuleOk_c _ _ _ F _ (hop.below HS)).mono ?_; rintro e w1 ⟨he, hb1⟩; rw [q2'] at he; subst he; have HS1 := bthen' HS hb1; refine hK _ _ (Or.inr HS1) ?_; clear hK K HS; have HS := HS1; clear HS1
                  iterate 20 (first | (refine seq_take (v := ?_) (by rfl) HS (by rfl) ?_ ?_; rotate_left; (focus (intro wS hS; obtain ⟨kc, kf⟩ := bcell hS; go_simp; (try (with_reducible rfl)); done)); (intro K hK; go_simp; refine hK _ ?_; clear hK K)) | (refine seq_skip (by rfl) HS (by rfl) ?_; (intro K hK; go_simp; refine hK _ ?_; clear hK K)))
                  simp only [wpSeq]
                  go_wp2
                  go_ret
                  exact ⟨by rw [HF.out]; rfl, bthen' hb0 (bthen' hb HS)⟩
              · have q1' : inn apps[i].rules[k].kind 0 3 = false := by simpa using q1
                clear q1
                have hf : appsOk apps = false := by
                  simp [appsOk, all_false hlt (show appOk apps[i] = false by simp [appOk, all_false hkl (show ruleOk apps[i].rules[k] = false by simp [ruleOk, q1'])])]
                have HF := hid hf; clear hf
                go_wp2
                refine region_plan (fun w' => Below wr.heap.size wr w') [(0, true), (1, true), (2, true), (3, true), (4, true), (5, false), (6, true), (7, true), (8, true), (9, true), (10, true), (11, true), (12, false), (13, true), (14, true), (15, true), (16, true), (17, true), (18, true), (19, true), (20, true), (21, true), (22, true), (23, true), (24, true), (25, true), (26, true), (27, true), (28, true), (29, true), (30, true), (31, true), (32, true)] (by kernel_rfl) (by kernel_rfl) (fun _ _ d _ _ h => by cases d <;> exact h) ?_
                have HS := (Below.refl wr.heap.size wr).drew
                iterate 5 (first | (refine seq_take (v := ?_) (by rfl) HS (by rfl) ?_ ?_; rotate_left; (focus (intro wS hS; obtain ⟨kc, kf⟩ := bcell hS; go_simp; (try (with_reducible rfl)); done)); (intro K hK; go_simp; refine hK _ ?_; clear hK K)) | (refine seq_skip (by rfl) HS (by rfl) ?_; (intro K hK; go_simp; refine hK _ ?_; clear hK K)))
                refine seq_do (by rfl) (by rfl) (fun K hK => ?_)
                go_simp; refine (l6In_c _ _ _ _).mono ?_; rintro e w1 ⟨he, rfl⟩; rw [q1'] at he; subst he; refine hK _ _ (Or.inr HS) ?_; clear hK K
                iterate 6 (first | (refine seq_take (v := ?_) (by rfl) HS (by rfl) ?_ ?_; rotate_left; (focus (intro wS hS; obtain ⟨kc, kf⟩ := bcell hS; go_simp; (try (with_reducible rfl)); done)); (intro K hK; go_simp; refine hK _ ?_; clear hK K)) | (refine seq_skip (by rfl) HS (by rfl) ?_; (intro K hK; go_simp; refine hK _ ?_; clear hK K)))
                refine seq_dont (by rfl) (by rfl) (fun K hK => ?_); go_simp; refine hK _ _ (Or.inr HS) ?_; clear hK K
                iterate 20 (first | (refine seq_take (v := ?_) (by rfl) HS (by rfl) ?_ ?_; rotate_left; (focus (intro wS hS; obtain ⟨kc, kf⟩ := bcell hS; go_simp; (try (with_reducible rfl)); done)); (intro K hK; go_simp; refine hK _ ?_; clear hK K)) | (refine seq_skip (by rfl) HS (by rfl) ?_; (intro K hK; go_simp; refine hK _ ?_; clear hK K)))
                simp only [wpSeq]
                go_wp2
                go_ret
                exact ⟨by rw [HF.out]; rfl, bthen' hb0 (bthen' hb HS)⟩
            · have hkk : k = apps[i].rules.length := by omega
              have hal' := hal.out
              have has' := has.out
              rw [hkk, List.take_length] at hal' has'
              have al := hid (all_snoc hlt hall.out (show appOk apps[i] = true by simp [appOk, hal', has', hr4]))
              clear hal' has' hkk
              go_wp2
              go_roundw
              case rel => exact ⟨i + 1, by go_num, by omega, al, bthen' hb0 hb⟩
              case measure => simp [intOf]; omega
        · have hg4 : decide ((apps[i].rules.length : Int) > 4) = true := by simp; omega
          have hf : appsOk apps = false := by
            simp [appsOk, all_false hlt (show appOk apps[i] = false by simp [appOk, hr4])]
          have HF := hid hf; clear hf
          go_wp2
          go_ret
          exact ⟨by rw [HF.out]; rfl, hb0⟩
      · have hii : i = apps.length := by omega
        have hall' := hall.out
        rw [hii, List.take_length] at hall'
        have hf : appsOk apps = true := by simp only [appsOk, H4.out, hall']; rfl
        go_wp2
        go_ret
        exact ⟨by rw [hf]; rfl, hb0⟩
  · have hb4 : (((apps.length : Nat) : Int) != 4) = true := by simp; omega
    have hf : appsOk apps = false := by simp [appsOk, h4]
    go_enter Tryz.func35, Tryz.ntmps35
    go_wp2
    go_ret
    exact ⟨by rw [hf]; rfl, Below.refl _ _⟩
end Go.Proofs.YtbcemldiahghcaaGreat

namespace Go.Proofs.YtbcemldiahghcaaGreat
set_option linter.unusedVariables false
set_option linter.unusedSimpArgs false
set_option maxRecDepth 100000
open Go.RowKit
set_option maxHeartbeats 400000 in
theorem within_c (a l h : Int) (w : World) : Calls Tryz.prog 146 #[.int .i64 a, .int .i64 l, .int .i64 h] w fun e w' => e = .returned (.bool (inn a l h)) ∧ w' = w := by
  by_cases h1 : l ≤ a <;> by_cases h2 : a ≤ h
  all_goals
    go_enter Tryz.func146, Tryz.ntmps146
    go_wp2
    go_ret
    exact ⟨by simp [inn, h1, h2], rfl⟩
set_option maxHeartbeats 400000 in
theorem isRegister_c (a : Int) (w : World) : Calls Tryz.prog 159 #[.int .i64 a] w fun e w' => e = .returned (.bool (inn a 0 1)) ∧ w' = w := by
  go_enter Tryz.func159, Tryz.ntmps159
  go_wp2_with (first | (go_at_call 146; refine (within_c _ _ _ _).mono ?_; rintro e w' ⟨rfl, rfl⟩))
  go_ret
  exact ⟨rfl, rfl⟩
set_option maxHeartbeats 400000 in
theorem isProc_c (a : Int) (w : World) : Calls Tryz.prog 104 #[.int .i64 a] w fun e w' => e = .returned (.bool (inn a 0 3)) ∧ w' = w := by
  go_enter Tryz.func104, Tryz.ntmps104
  go_wp2_with (first | (go_at_call 146; refine (within_c _ _ _ _).mono ?_; rintro e w' ⟨rfl, rfl⟩))
  go_ret
  exact ⟨rfl, rfl⟩
set_option maxHeartbeats 400000 in
theorem isKind_c (a : Int) (w : World) : Calls Tryz.prog 153 #[.int .i64 a] w fun e w' => e = .returned (.bool (inn a 0 3)) ∧ w' = w := by
  go_enter Tryz.func153, Tryz.ntmps153
  go_wp2_with (first | (go_at_call 146; refine (within_c _ _ _ _).mono ?_; rintro e w' ⟨rfl, rfl⟩))
  go_ret
  exact ⟨rfl, rfl⟩
set_option maxHeartbeats 400000 in
theorem isNum_c (a : Int) (w : World) : Calls Tryz.prog 147 #[.int .i64 a] w fun e w' => e = .returned (.bool (inn a 0 999)) ∧ w' = w := by
  go_enter Tryz.func147, Tryz.ntmps147
  go_wp2_with (first | (go_at_call 146; refine (within_c _ _ _ _).mono ?_; rintro e w' ⟨rfl, rfl⟩))
  go_ret
  exact ⟨rfl, rfl⟩
set_option maxHeartbeats 1000000 in
theorem l1StateOk_c (x y c : Int) (w : World) : Calls Tryz.prog 95 #[.agg #[.int .i64 x, .int .i64 y, .int .i64 c]] w fun r w' => r = .returned (.bool (stOk ⟨x, y, c⟩)) ∧ Below w.heap.size w w' := by
  go_enter Tryz.func95, Tryz.ntmps95
  go_wp2_with (first | (go_at_call 142; refine (l1Num_c _ _).mono ?_; rintro e w' ⟨rfl, rfl⟩) | (go_at_call 78; refine (l6In_c _ _ _ _).mono ?_; rintro e w' ⟨rfl, rfl⟩))
  all_goals
    go_ret
    exact ⟨by simp [stOk, *], balloc (Below.refl _ _) _⟩
set_option maxHeartbeats 1000000 in
theorem stateOk_c (x y c : Int) (w : World) : Calls Tryz.prog 105 #[.agg #[.int .i64 x, .int .i64 y, .int .i64 c]] w fun r w' => r = .returned (.bool (stOk ⟨x, y, c⟩)) ∧ Below w.heap.size w w' := by
  go_enter Tryz.func105, Tryz.ntmps105
  go_wp2_with (first | (go_at_call 147; refine (isNum_c _ _).mono ?_; rintro e w' ⟨rfl, rfl⟩) | (go_at_call 146; refine (within_c _ _ _ _).mono ?_; rintro e w' ⟨rfl, rfl⟩))
  all_goals
    go_ret
    exact ⟨by simp [stOk, *], balloc (Below.refl _ _) _⟩
set_option maxHeartbeats 2000000 in
theorem l1EventOk_c (a b c d e f g : Int) (w : World) : Calls Tryz.prog 99 #[.agg #[.int .i64 a, .int .i64 b, .int .i64 c, .int .i64 d, .int .i64 e, .int .i64 f, .int .i64 g]] w fun r w' => r = .returned (.bool (evOk ⟨a, b, c, d, e, f, g⟩)) ∧ Below w.heap.size w w' := by
  go_enter Tryz.func99, Tryz.ntmps99
  go_wp2_with (first | (go_at_call 142; refine (l1Num_c _ _).mono ?_; rintro e w' ⟨rfl, rfl⟩) | (go_at_call 94; refine (l1Proc_c _ _).mono ?_; rintro e w' ⟨rfl, rfl⟩) | (go_at_call 78; refine (l6In_c _ _ _ _).mono ?_; rintro e w' ⟨rfl, rfl⟩))
  all_goals
    go_ret
    exact ⟨by simp [evOk, *], balloc (Below.refl _ _) _⟩
set_option maxHeartbeats 2000000 in
theorem eventOk_c (a b c d e f g : Int) (w : World) : Calls Tryz.prog 148 #[.agg #[.int .i64 a, .int .i64 b, .int .i64 c, .int .i64 d, .int .i64 e, .int .i64 f, .int .i64 g]] w fun r w' => r = .returned (.bool (evOk ⟨a, b, c, d, e, f, g⟩)) ∧ Below w.heap.size w w' := by
  go_enter Tryz.func148, Tryz.ntmps148
  go_wp2_with (first | (go_at_call 147; refine (isNum_c _ _).mono ?_; rintro e w' ⟨rfl, rfl⟩) | (go_at_call 104; refine (isProc_c _ _).mono ?_; rintro e w' ⟨rfl, rfl⟩) | (go_at_call 153; refine (isKind_c _ _).mono ?_; rintro e w' ⟨rfl, rfl⟩) | (go_at_call 146; refine (within_c _ _ _ _).mono ?_; rintro e w' ⟨rfl, rfl⟩))
  all_goals
    go_ret
    exact ⟨by simp [evOk, *], balloc (Below.refl _ _) _⟩
set_option maxHeartbeats 2000000 in
theorem opOk_c (d a b c e : Int) (w : World) : Calls Tryz.prog 152 #[.agg #[.int .i64 d, .int .i64 a, .int .i64 b, .int .i64 c, .int .i64 e]] w fun r w' => r = .returned (.bool (opOk ⟨d, a, b, c, e⟩)) ∧ Below w.heap.size w w' := by
  by_cases k : d = 1 ∨ d = 2 ∨ d = 3 ∨ d = 4 ∨ d = 5 ∨ d = 6 ∨ d = 7
  · rcases k with rfl | rfl | rfl | rfl | rfl | rfl | rfl
    all_goals
      go_enter Tryz.func152, Tryz.ntmps152
      go_wp2_with (first | (go_at_call 159; refine (isRegister_c _ _).mono ?_; rintro e w' ⟨rfl, rfl⟩) | (go_at_call 147; refine (isNum_c _ _).mono ?_; rintro e w' ⟨rfl, rfl⟩) | (go_at_call 104; refine (isProc_c _ _).mono ?_; rintro e w' ⟨rfl, rfl⟩) | (go_at_call 153; refine (isKind_c _ _).mono ?_; rintro e w' ⟨rfl, rfl⟩) | (go_at_call 146; refine (within_c _ _ _ _).mono ?_; rintro e w' ⟨rfl, rfl⟩))
      all_goals
        go_ret
        exact ⟨by simp [opOk, *], balloc (Below.refl _ _) _⟩
  · have k1 : (d == 1) = false := by simp; omega
    have k2 : (d == 2) = false := by simp; omega
    have k3 : (d == 3) = false := by simp; omega
    have k4 : (d == 4) = false := by simp; omega
    have k5 : (d == 5) = false := by simp; omega
    have k6 : (d == 6) = false := by simp; omega
    have k7 : (d == 7) = false := by simp; omega
    have hf : opOk ⟨d, a, b, c, e⟩ = false := by simp only [opOk]; rw [if_neg (by omega), if_neg (by omega), if_neg (by omega), if_neg (by omega), if_neg (by omega)]
    clear k
    go_enter Tryz.func152, Tryz.ntmps152
    go_wp2_with (first | (go_at_call 159; refine (isRegister_c _ _).mono ?_; rintro e w' ⟨rfl, rfl⟩) | (go_at_call 147; refine (isNum_c _ _).mono ?_; rintro e w' ⟨rfl, rfl⟩) | (go_at_call 104; refine (isProc_c _ _).mono ?_; rintro e w' ⟨rfl, rfl⟩) | (go_at_call 153; refine (isKind_c _ _).mono ?_; rintro e w' ⟨rfl, rfl⟩) | (go_at_call 146; refine (within_c _ _ _ _).mono ?_; rintro e w' ⟨rfl, rfl⟩))
    all_goals
      go_ret
      exact ⟨by simp [hf], balloc (Below.refl _ _) _⟩
end Go.Proofs.YtbcemldiahghcaaGreat

namespace Go.Proofs.YtbcemldiahghcaaGreat
set_option linter.unusedVariables false
set_option linter.unusedSimpArgs false
set_option maxRecDepth 100000
open Go.RowKit
set_option maxHeartbeats 4000000 in
theorem ruleOk_c (kd : Int) (v : Value) (ops : List OpD) (F : Nat → Prop) (w : World) (h : Rd tOp w F v ops) :
    Calls Tryz.prog 126 #[.agg #[.int .i64 kd, v]] w fun e w' => e = .returned (.bool (ruleOk ⟨kd, ops⟩)) ∧ Below w.heap.size w w' := by
  obtain ⟨A, cp, rfl, -, hlen, -⟩ := id h
  go_enter Tryz.func126, Tryz.ntmps126
  go_wp2
  go_loopw [3, 4, 10] (fun s o i wr => ∃ k : Nat, i = .int .i64 k ∧ k ≤ ops.length ∧ s = .int .i64 (cnt 6 (ops.take k) : Nat) ∧ o = .int .i64 (cnt 7 (ops.take k) : Nat) ∧ Hid ((ops.take k).all opOk = true) ∧ Below (w.heap.size + 1) (w.alloc (.cells #[.int .i64 kd, .slice A ops.length cp] 120)) wr) (fun _ _ i _ => ops.length - (intOf i).toNat)
  case atStart => exact ⟨0, rfl, Nat.zero_le _, rfl, rfl, rfl, Below.refl _ _⟩
  case round =>
    obtain ⟨k, rfl, hk, rfl, rfl, hall, hb⟩ := hrel
    have hc0 : wr.cell? ⟨w.heap.size, 1, none⟩ = some (.slice A ops.length cp) := by rw [hb.cell (by simp)]; simp
    have hc1 : wr.cell? ⟨w.heap.size, 0, none⟩ = some (.int .i64 kd) := by rw [hb.cell (by simp)]; simp
    have hsz : w.heap.size < wr.heap.size := by have := hb.size; simp at this; omega
    by_cases hlt : k < ops.length
    · have hrd : Rd tOp wr F (.slice A ops.length cp) ops := (h.below (balloc (Below.refl _ _) _)).below (by simpa using hb)
      obtain ⟨b0, o0, rfl, hb0, a0, a1, a2, a3, a4⟩ := op_at hrd k hlt
      have n6 := cnt_le 6 ops k
      have n7 := cnt_le 7 ops k
      by_cases hop : opOk ops[k] = true
      · have hop' : opOk ⟨ops[k].d, ops[k].a, ops[k].b, ops[k].c, ops[k].e⟩ = true := hop
        clear hop
        have al := hid (all_snoc hlt hall.out hop')
        by_cases d6 : ops[k].d = 6
        · have s6 : cnt 6 (ops.take (k + 1)) = cnt 6 (ops.take k) + 1 := by rw [cnt_snoc 6 hlt, if_pos d6]
          have s7 : cnt 7 (ops.take (k + 1)) = cnt 7 (ops.take k) := by rw [cnt_snoc 7 hlt, if_neg (by omega)]; rfl
          have S6 := hid s6; have S7 := hid s7; clear s6 s7
          have e6 : (ops[k].d == 6) = true := by simpa using d6
          have e7 : (ops[k].d == 7) = false := by simp [d6]
          clear d6
          go_wp2_with (go_at_call 152; refine (opOk_c _ _ _ _ _ _).mono ?_; rintro e w1 ⟨rfl, hb1⟩; obtain ⟨kc, kf⟩ := bcell hb1)
          go_roundw
          case rel => exact ⟨k + 1, by go_num, by omega, by rw [S6.out]; go_num, by rw [S7.out], al, bthen hb (bthen' (balloc (Below.refl _ _) _) hb1) hsz⟩
          case measure => simp [intOf]; omega
        · by_cases d7 : ops[k].d = 7
          · have s6 : cnt 6 (ops.take (k + 1)) = cnt 6 (ops.take k) := by rw [cnt_snoc 6 hlt, if_neg d6]; rfl
            have s7 : cnt 7 (ops.take (k + 1)) = cnt 7 (ops.take k) + 1 := by rw [cnt_snoc 7 hlt, if_pos d7]
            have S6 := hid s6; have S7 := hid s7; clear s6 s7
            have e6 : (ops[k].d == 6) = false := by simpa using d6
            have e7 : (ops[k].d == 7) = true := by simp [d7]
            clear d6 d7
            go_wp2_with (go_at_call 152; refine (opOk_c _ _ _ _ _ _).mono ?_; rintro e w1 ⟨rfl, hb1⟩; obtain ⟨kc, kf⟩ := bcell hb1)
            go_roundw
            case rel => exact ⟨k + 1, by go_num, by omega, by rw [S6.out], by rw [S7.out]; go_num, al, bthen hb (bthen' (balloc (Below.refl _ _) _) hb1) hsz⟩
            case measure => simp [intOf]; omega
          · have s6 : cnt 6 (ops.take (k + 1)) = cnt 6 (ops.take k) := by rw [cnt_snoc 6 hlt, if_neg d6]; rfl
            have s7 : cnt 7 (ops.take (k + 1)) = cnt 7 (ops.take k) := by rw [cnt_snoc 7 hlt, if_neg d7]; rfl
            have S6 := hid s6; have S7 := hid s7; clear s6 s7
            have e6 : (ops[k].d == 6) = false := by simpa using d6
            have e7 : (ops[k].d == 7) = false := by simpa using d7
            clear d6 d7
            go_wp2_with (go_at_call 152; refine (opOk_c _ _ _ _ _ _).mono ?_; rintro e w1 ⟨rfl, hb1⟩; obtain ⟨kc, kf⟩ := bcell hb1)
            go_roundw
            case rel => exact ⟨k + 1, by go_num, by omega, by rw [S6.out], by rw [S7.out], al, bthen hb (bthen' (balloc (Below.refl _ _) _) hb1) hsz⟩
            case measure => simp [intOf]; omega
      · have hop' : opOk ⟨ops[k].d, ops[k].a, ops[k].b, ops[k].c, ops[k].e⟩ = false := by simpa using hop
        clear hop
        have hf : ruleOk ⟨kd, ops⟩ = false := by simp [ruleOk, opsOk, all_false hlt hop']
        have HF := hid hf; clear hf
        go_wp2_with (go_at_call 152; refine (opOk_c _ _ _ _ _ _).mono ?_; rintro e w1 ⟨rfl, hb1⟩; obtain ⟨kc, kf⟩ := bcell hb1)
        go_ret
        exact ⟨by rw [HF.out]; rfl, ((Below.refl _ _).alloc (Nat.le_refl _) _).trans ((bthen hb (bthen' (balloc (Below.refl _ _) _) hb1) hsz).mono (by simp))⟩
    · have hkl : k = ops.length := by omega
      subst hkl
      have hall' := hall.out
      rw [List.take_length] at hall'
      have hf : ruleOk ⟨kd, ops⟩ = (inn kd 0 3 && (decide (ops.length ≤ 8) && (decide (cnt 6 ops ≤ 2) && decide (cnt 7 ops ≤ 2)))) := by simp [ruleOk, opsOk, hall', Bool.and_assoc]
      have HF := hid hf; clear hf hall' hall
      simp only [List.take_length]
      have fin : ∀ e W', e = Ending.returned (.bool (inn kd 0 3 && (decide (ops.length ≤ 8) && (decide (cnt 6 ops ≤ 2) && decide (cnt 7 ops ≤ 2))))) → Below (w.heap.size + 1) (w.alloc (.cells #[.int .i64 kd, .slice A ops.length cp] 120)) W' → e = Ending.returned (.bool (ruleOk ⟨kd, ops⟩)) ∧ Below w.heap.size w W' :=
        fun e W' he hW => ⟨by rw [he, HF.out], ((Below.refl _ _).alloc (Nat.le_refl _) _).trans (hW.mono (by simp))⟩
      by_cases q0 : inn kd 0 3 = true
      · by_cases q1 : ops.length ≤ 8 <;> by_cases q2 : cnt 6 ops ≤ 2 <;> by_cases q3 : cnt 7 ops ≤ 2
        all_goals
          go_wp2_with (go_at_call 153; refine (isKind_c _ _).mono ?_; rintro e w1 ⟨rfl, rfl⟩)
          go_ret
          exact fin _ _ (by (simp [q0, q1, q2, q3]) <;> omega) hb
      · have q0' : inn kd 0 3 = false := by simpa using q0
        go_wp2_with (go_at_call 153; refine (isKind_c _ _).mono ?_; rintro e w1 ⟨rfl, rfl⟩)
        go_ret
        exact fin _ _ (by simp [q0']) hb
set_option maxHeartbeats 8000000 in
theorem appOk_c (v : Value) (a : AppD) (F : Nat → Prop) (w : World) (h : Rd tRule w F v a.rules) :
    Calls Tryz.prog 80 #[.agg #[v]] w fun e w' => e = .returned (.bool (appOk a)) ∧ Below w.heap.size w w' := by
  obtain ⟨A, cp, rfl, -, hlen, -⟩ := id h
  obtain ⟨rs⟩ := a
  simp only at h hlen ⊢
  by_cases h4 : rs.length ≤ 4
  · have hb4 : decide (((rs.length : Nat) : Int) > 4) = false := by simp; omega
    go_enter Tryz.func80, Tryz.ntmps80
    go_wp2
    go_loopw [12] (fun i wr => ∃ k : Nat, i = .int .i64 k ∧ k ≤ rs.length ∧ Hid ((rs.take k).all ruleOk = true) ∧ Hid (ascR (rs.take k) = true) ∧ Below (w.heap.size + 1) (w.alloc (.cells #[.slice A rs.length cp] 57)) wr) (fun i _ => rs.length - (intOf i).toNat)
    case atStart => exact ⟨0, rfl, Nat.zero_le _, rfl, rfl, Below.refl _ _⟩
    case round =>
      obtain ⟨k, rfl, hk, hal, has, hb⟩ := hrel
      have hc0 : wr.cell? ⟨w.heap.size, 0, none⟩ = some (.slice A rs.length cp) := by rw [hb.cell (by simp)]; simp
      have hsz : w.heap.size < wr.heap.size := by have := hb.size; simp at this; omega
      by_cases hkl : k < rs.length
      · have hrd : Rd tRule wr F (.slice A rs.length cp) rs := (h.below (balloc (Below.refl _ _) _)).below (by simpa using hb)
        obtain ⟨b1, o1, A2, c2, hA1, hbb1, k0, k1, hop0⟩ := rule_at hrd k hkl
        subst hA1
        have hc1 : (wr.alloc (.cells #[.int .i64 rs[k].kind, .slice A2 rs[k].ops.length c2] 120)).cell? ⟨w.heap.size, 0, none⟩ = some (.slice (some ⟨b1, o1, none⟩) rs.length cp) := by rw [(balloc (Below.refl _ _) _).cell hsz]; exact hc0
        have hop := hop0.below (balloc (Below.refl wr.heap.size wr) (.cells #[.int .i64 rs[k].kind, .slice A2 rs[k].ops.length c2] 120))
        clear hop0
        have hz1 : w.heap.size < wr.heap.size + 1 := by omega
        have hz2 : b1 < wr.heap.size + 1 := by omega
        have eta : (⟨rs[k].kind, rs[k].ops⟩ : RuleD) = rs[k] := rfl
        by_cases q2 : ruleOk ⟨rs[k].kind, rs[k].ops⟩ = true
        · have al := hid (all_snoc hkl hal.out q2)
          clear eta
          by_cases q3 : k = 0
          · have as' := hid (show ascR (rs.take (k + 1)) = true by rw [ascR_step hkl, has.out, if_pos q3]; rfl)
            have hkd : decide ((k : Int) > 0) = false := by simp; omega
            have hkn : decide (0 < k) = false := by simp; omega
            clear q3
            go_wp2
            refine region_plan (fun w' => Below (wr.alloc (.cells #[.int .i64 rs[k].kind, .slice A2 rs[k].ops.length c2] 120)).heap.size (wr.alloc (.cells #[.int .i64 rs[k].kind, .slice A2 rs[k].ops.length c2] 120)) w') [(0, true), (1, false), (2, true), (3, true), (4, true), (5, true), (6, true), (7, true), (8, true), (9, true), (10, true), (11, true), (12, true), (13, true), (14, true), (15, true), (16, true), (17, true), (18, true)] (by kernel_rfl) (by kernel_rfl) (fun _ _ d _ _ h => by cases d <;> exact h) ?_
            have HS := (Below.refl (wr.alloc (.cells #[.int .i64 rs[k].kind, .slice A2 rs[k].ops.length c2] 120)).heap.size (wr.alloc (.cells #[.int .i64 rs[k].kind, .slice A2 rs[k].ops.length c2] 120))).drew
            iterate 1 (first | (refine seq_take (v := ?_) (by rfl) HS (by rfl) ?_ ?_; rotate_left; (focus (intro wS hS; obtain ⟨kc, kf⟩ := bcell hS; go_simp; (try (with_reducible rfl)); done)); (intro K hK; go_simp; refine hK _ ?_; clear hK K)) | (refine seq_skip (by rfl) HS (by rfl) ?_; (intro K hK; go_simp; refine hK _ ?_; clear hK K)))
            refine seq_do (by rfl) (by rfl) (fun K hK => ?_)
            go_simp; refine (ruleOk_c _ _ _ F _ (hop.below HS)).mono ?_; rintro e w1 ⟨he, hb1⟩; rw [q2] at he; subst he; have HS1 := bthen' HS hb1; refine hK _ _ (Or.inr HS1) ?_; clear hK K HS; have HS := HS1; clear HS1
            iterate 17 (first | (refine seq_take (v := ?_) (by rfl) HS (by rfl) ?_ ?_; rotate_left; (focus (intro wS hS; obtain ⟨kc, kf⟩ := bcell hS; go_simp; (try (with_reducible rfl)); done)); (intro K hK; go_simp; refine hK _ ?_; clear hK K)) | (refine seq_skip (by rfl) HS (by rfl) ?_; (intro K hK; go_simp; refine hK _ ?_; clear hK K)))
            simp only [wpSeq]
            go_wp2
            go_roundw
            case rel => exact ⟨k + 1, by go_num, by omega, al, as', bthen hb (bthen' (balloc (Below.refl _ _) _) HS) hsz⟩
            case measure => simp [intOf]; omega
          · have hk0 : 0 < k := by omega
            have hkd : decide ((k : Int) > 0) = true := by simp; omega
            have hkn : decide (0 < k) = true := by simp; omega
            obtain ⟨b2, o2, A3, c3, hA2, hbb2, z0, z1, -⟩ := rule_at hrd (k - 1) (by omega)
            injection hA2 with hA2
            injection hA2 with e1 e2 _
            subst e1 e2
            have z0' : (wr.alloc (.cells #[.int .i64 rs[k].kind, .slice A2 rs[k].ops.length c2] 120)).cell? ⟨b1, o1 + (k - 1) * 2, none⟩ = some (.int .i64 (rs[k-1]'(by omega)).kind) := by rw [(balloc (Below.refl _ _) _).cell hbb1]; exact z0
            have hck : ((k : Int) - 1).toNat = k - 1 := by omega
            have p1 : (0 : Int) ≤ (k : Int) - 1 := by omega
            have p2 : (k : Int) - 1 < (rs.length : Int) := by omega
            have p3 : (1 : Int) ≤ (k : Int) := by omega
            have p4 : 1 ≤ k := by omega
            have p5 : IntKind.i64.wrap ((k : Int) - 1) = (k : Int) - 1 := IntWalk.i64_in _ (by omega)
            clear q3
            by_cases q4 : (rs[k-1]'(by omega)).kind < rs[k].kind
            · have as' := hid (show ascR (rs.take (k + 1)) = true by rw [ascR_step hkl, has.out, if_neg (by omega)]; simpa using q4)
              have hq : decide (rs[k].kind ≤ (rs[k-1]'(by omega)).kind) = false := by simp; omega
              go_wp2
              refine region_plan (fun w' => Below (wr.alloc (.cells #[.int .i64 rs[k].kind, .slice A2 rs[k].ops.length c2] 120)).heap.size (wr.alloc (.cells #[.int .i64 rs[k].kind, .slice A2 rs[k].ops.length c2] 120)) w') [(0, true), (1, false), (2, true), (3, true), (4, true), (5, true), (6, true), (7, true), (8, true), (9, true), (10, true), (11, true), (12, true), (13, true), (14, true), (15, true), (16, true), (17, true), (18, true)] (by kernel_rfl) (by kernel_rfl) (fun _ _ d _ _ h => by cases d <;> exact h) ?_
              have HS := (Below.refl (wr.alloc (.cells #[.int .i64 rs[k].kind, .slice A2 rs[k].ops.length c2] 120)).heap.size (wr.alloc (.cells #[.int .i64 rs[k].kind, .slice A2 rs[k].ops.length c2] 120))).drew
              iterate 1 (first | (refine seq_take (v := ?_) (by rfl) HS (by rfl) ?_ ?_; rotate_left; (focus (intro wS hS; obtain ⟨kc, kf⟩ := bcell hS; go_simp; (try (with_reducible rfl)); done)); (intro K hK; go_simp; refine hK _ ?_; clear hK K)) | (refine seq_skip (by rfl) HS (by rfl) ?_; (intro K hK; go_simp; refine hK _ ?_; clear hK K)))
              refine seq_do (by rfl) (by rfl) (fun K hK => ?_)
              go_simp; refine (ruleOk_c _ _ _ F _ (hop.below HS)).mono ?_; rintro e w1 ⟨he, hb1⟩; rw [q2] at he; subst he; have HS1 := bthen' HS hb1; refine hK _ _ (Or.inr HS1) ?_; clear hK K HS; have HS := HS1; clear HS1
              iterate 17 (first | (refine seq_take (v := ?_) (by rfl) HS (by rfl) ?_ ?_; rotate_left; (focus (intro wS hS; obtain ⟨kc, kf⟩ := bcell hS; go_simp; (try (with_reducible rfl)); done)); (intro K hK; go_simp; refine hK _ ?_; clear hK K)) | (refine seq_skip (by rfl) HS (by rfl) ?_; (intro K hK; go_simp; refine hK _ ?_; clear hK K)))
              simp only [wpSeq]
              go_wp2
              go_roundw
              case rel => exact ⟨k + 1, by go_num, by omega, al, as', bthen hb (bthen' (balloc (Below.refl _ _) _) HS) hsz⟩
              case measure => simp [intOf]; omega
            · have hf : appOk ⟨rs⟩ = false := by
                have h1 : ascR (rs.take (k + 1)) = false := by rw [ascR_step hkl, has.out, if_neg (by omega)]; simpa using q4
                simp [appOk, ascR_take h1]
              have HF := hid hf; clear hf
              have hq : decide (rs[k].kind ≤ (rs[k-1]'(by omega)).kind) = true := by simp; omega
              go_wp2
              refine region_plan (fun w' => Below (wr.alloc (.cells #[.int .i64 rs[k].kind, .slice A2 rs[k].ops.length c2] 120)).heap.size (wr.alloc (.cells #[.int .i64 rs[k].kind, .slice A2 rs[k].ops.length c2] 120)) w') [(0, true), (1, false), (2, true), (3, true), (4, true), (5, true), (6, true), (7, true), (8, true), (9, true), (10, true), (11, true), (12, true), (13, true), (14, true), (15, true), (16, true), (17, true), (18, true)] (by kernel_rfl) (by kernel_rfl) (fun _ _ d _ _ h => by cases d <;> exact h) ?_
              have HS := (Below.refl (wr.alloc (.cells #[.int .i64 rs[k].kind, .slice A2 rs[k].ops.length c2] 120)).heap.size (wr.alloc (.cells #[.int .i64 rs[k].kind, .slice A2 rs[k].ops.length c2] 120))).drew
              iterate 1 (first | (refine seq_take (v := ?_) (by rfl) HS (by rfl) ?_ ?_; rotate_left; (focus (intro wS hS; obtain ⟨kc, kf⟩ := bcell hS; go_simp; (try (with_reducible rfl)); done)); (intro K hK; go_simp; refine hK _ ?_; clear hK K)) | (refine seq_skip (by rfl) HS (by rfl) ?_; (intro K hK; go_simp; refine hK _ ?_; clear hK K)))
              refine seq_do (by rfl) (by rfl) (fun K hK => ?_)
              go_simp; refine (ruleOk_c _ _ _ F _ (hop.below HS)).mono ?_; rintro e w1 ⟨he, hb1⟩; rw [q2] at he; subst he; have HS1 := bthen' HS hb1; refine hK _ _ (Or.inr HS1) ?_; clear hK K HS; have HS := HS1; clear HS1
              iterate 17 (first | (refine seq_take (v := ?_) (by rfl) HS (by rfl) ?_ ?_; rotate_left; (focus (intro wS hS; obtain ⟨kc, kf⟩ := bcell hS; go_simp; (try (with_reducible rfl)); done)); (intro K hK; go_simp; refine hK _ ?_; clear hK K)) | (refine seq_skip (by rfl) HS (by rfl) ?_; (intro K hK; go_simp; refine hK _ ?_; clear hK K)))
              simp only [wpSeq]
              go_wp2
              go_ret
              exact ⟨by rw [HF.out]; rfl, ((Below.refl _ _).alloc (Nat.le_refl _) _).trans ((bthen hb (bthen' (balloc (Below.refl _ _) _) HS) hsz).mono (by simp))⟩
        · have q2' : ruleOk ⟨rs[k].kind, rs[k].ops⟩ = false := by simpa using q2
          clear q2
          have hf : appOk ⟨rs⟩ = false := by
            simp [appOk, all_false hkl q2']
          have HF := hid hf; clear hf eta
          go_wp2
          refine region_plan (fun w' => Below (wr.alloc (.cells #[.int .i64 rs[k].kind, .slice A2 rs[k].ops.length c2] 120)).heap.size (wr.alloc (.cells #[.int .i64 rs[k].kind, .slice A2 rs[k].ops.length c2] 120)) w') [(0, true), (1, false), (2, true), (3, true), (4, true), (5, true), (6, true), (7, true), (8, true), (9, true), (10, true), (11, true), (12, true), (13, true), (14, true), (15, true), (16, true), (17, true), (18, true)] (by kernel_rfl) (by kernel_rfl) (fun _ _ d _ _ h => by cases d <;> exact h) ?_
          have HS := (Below.refl (wr.alloc (.cells #[.int .i64 rs[k].kind, .slice A2 rs[k].ops.length c2] 120)).heap.size (wr.alloc (.cells #[.int .i64 rs[k].kind, .slice A2 rs[k].ops.length c2] 120))).drew
          iterate 1 (first | (refine seq_take (v := ?_) (by rfl) HS (by rfl) ?_ ?_; rotate_left; (focus (intro wS hS; obtain ⟨kc, kf⟩ := bcell hS; go_simp; (try (with_reducible rfl)); done)); (intro K hK; go_simp; refine hK _ ?_; clear hK K)) | (refine seq_skip (by rfl) HS (by rfl) ?_; (intro K hK; go_simp; refine hK _ ?_; clear hK K)))
          refine seq_do (by rfl) (by rfl) (fun K hK => ?_)
          go_simp; refine (ruleOk_c _ _ _ F _ (hop.below HS)).mono ?_; rintro e w1 ⟨he, hb1⟩; rw [q2'] at he; subst he; have HS1 := bthen' HS hb1; refine hK _ _ (Or.inr HS1) ?_; clear hK K HS; have HS := HS1; clear HS1
          iterate 17 (first | (refine seq_take (v := ?_) (by rfl) HS (by rfl) ?_ ?_; rotate_left; (focus (intro wS hS; obtain ⟨kc, kf⟩ := bcell hS; go_simp; (try (with_reducible rfl)); done)); (intro K hK; go_simp; refine hK _ ?_; clear hK K)) | (refine seq_skip (by rfl) HS (by rfl) ?_; (intro K hK; go_simp; refine hK _ ?_; clear hK K)))
          simp only [wpSeq]
          go_wp2
          go_ret
          exact ⟨by rw [HF.out]; rfl, ((Below.refl _ _).alloc (Nat.le_refl _) _).trans ((bthen hb (bthen' (balloc (Below.refl _ _) _) HS) hsz).mono (by simp))⟩
      · have hkk : k = rs.length := by omega
        have hal' := hal.out
        have has' := has.out
        rw [hkk, List.take_length] at hal' has'
        have hf : appOk ⟨rs⟩ = true := by simp [appOk, hal', has', h4]
        have HF := hid hf; clear hf hal' has' hkk
        go_wp2
        go_ret
        exact ⟨by rw [HF.out]; rfl, ((Below.refl _ _).alloc (Nat.le_refl _) _).trans (hb.mono (by simp))⟩
  · have hb4 : decide (((rs.length : Nat) : Int) > 4) = true := by simp; omega
    have hf : appOk ⟨rs⟩ = false := by simp [appOk, h4]
    go_enter Tryz.func80, Tryz.ntmps80
    go_wp2
    go_ret
    exact ⟨by rw [hf]; rfl, (Below.refl _ _).alloc (Nat.le_refl _) _⟩
end Go.Proofs.YtbcemldiahghcaaGreat
