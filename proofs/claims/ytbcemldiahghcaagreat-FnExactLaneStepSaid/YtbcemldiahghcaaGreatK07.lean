/- Texts joined: Spc2, Spc3, Ins. -/
import Derived.Test.YtbcemldiahghcaaGreatK05
import Derived.Test.YtbcemldiahghcaaGreatK01
import Derived.Test.YtbcemldiahghcaaGreatK06
namespace Go.Proofs.YtbcemldiahghcaaGreat
set_option linter.unusedVariables false
set_option linter.unusedSimpArgs false
set_option maxRecDepth 100000
open Go.RowKit
theorem l2Most_c (w : World) : Calls Tryz.prog 96 #[] w fun q w' => q = .returned (.int .i64 100) ∧ w' = w := by
  go_enter Tryz.func96, Tryz.ntmps96
  go_wp2_with fail
  go_ret
  exact ⟨rfl, rfl⟩
set_option maxHeartbeats 2000000 in
theorem l2Events_c (v : Value) (xs : List EvD) (most : Int) (F : Nat → Prop) (w : World) (h : Rd tEv w F v xs) :
    Calls Tryz.prog 118 #[v, .int .i64 most] w fun e w' => e = .returned (.bool (evsOk xs most)) ∧ Below w.heap.size w w' := by
  obtain ⟨A, cp, rfl, -, hlen, -⟩ := id h
  by_cases hm : (xs.length : Int) ≤ most
  · have hg : decide ((xs.length : Int) > most) = false := by simp; omega
    have HM := hid hm
    clear hm
    go_enter Tryz.func118, Tryz.ntmps118
    go_wp2
    go_loopw [5] (fun i wr => ∃ k : Nat, i = .int .i64 k ∧ k ≤ xs.length ∧ Hid ((xs.take k).all evOk = true) ∧ Hid (ascB evLess (xs.take k) = true) ∧ Below w.heap.size w wr) (fun i _ => xs.length - (intOf i).toNat)
    case atStart => exact ⟨0, rfl, Nat.zero_le _, rfl, rfl, Below.refl _ _⟩
    case round =>
      obtain ⟨k, rfl, hk, hal, has, hb⟩ := hrel
      by_cases hlt : k < xs.length
      · have hrd : Rd tEv wr F (.slice A xs.length cp) xs := h.below hb
        obtain ⟨b0, o0, rfl, hb0, a0, a1, a2, a3, a4, a5, a6⟩ := ev_at hrd k hlt
        by_cases q1 : evOk xs[k] = true
        · have al := hid (all_snoc hlt hal.out q1)
          have t0 : evOk ⟨xs[k].time, xs[k].to, xs[k].from_, xs[k].count, xs[k].n, xs[k].kind, xs[k].arg⟩ = true := q1
          clear q1
          by_cases q3 : k = 0
          · have as' := hid (show ascB evLess (xs.take (k + 1)) = true by rw [ascB_step _ hlt, has.out, if_pos q3]; rfl)
            have hkd : decide ((k : Int) > 0) = false := by simp; omega
            have hkn : decide (0 < k) = false := by simp; omega
            clear q3
            go_wp2
            refine region_plan (fun w' => Below wr.heap.size wr w') [(0, true), (1, true), (2, true), (3, true), (4, false), (5, true), (6, true), (7, true), (8, true), (9, true), (10, true), (11, true), (12, true), (13, true), (14, true), (15, true), (16, true), (17, true), (18, true), (19, false), (20, true), (21, true), (22, true)] (by kernel_rfl) (by kernel_rfl) (fun _ _ d _ _ h => by cases d <;> exact h) ?_
            have HS := (Below.refl wr.heap.size wr).drew
            iterate 4 (first | (refine seq_take (v := ?_) (by rfl) HS (by rfl) ?_ ?_; rotate_left; (focus (intro wS hS; obtain ⟨kc, kf⟩ := bcell hS; go_simp; (try (with_reducible rfl)); done)); (intro K hK; go_simp; refine hK _ ?_; clear hK K)) | (refine seq_skip (by rfl) HS (by rfl) ?_; (intro K hK; go_simp; refine hK _ ?_; clear hK K)))
            refine seq_do (by rfl) (by rfl) (fun K hK => ?_)
            go_simp; refine (l1EventOk_c _ _ _ _ _ _ _ _).mono ?_; rintro e w1 ⟨he, hb1⟩; rw [t0] at he; subst he; have HS1 := bthen' HS hb1; refine hK _ _ (Or.inr HS1) ?_; clear hK K HS; have HS := HS1; clear HS1
            iterate 14 (first | (refine seq_take (v := ?_) (by rfl) HS (by rfl) ?_ ?_; rotate_left; (focus (intro wS hS; obtain ⟨kc, kf⟩ := bcell hS; go_simp; (try (with_reducible rfl)); done)); (intro K hK; go_simp; refine hK _ ?_; clear hK K)) | (refine seq_skip (by rfl) HS (by rfl) ?_; (intro K hK; go_simp; refine hK _ ?_; clear hK K)))
            refine seq_dont (by rfl) (by rfl) (fun K hK => ?_); go_simp; refine hK _ _ (Or.inr HS) ?_; clear hK K
            iterate 3 (first | (refine seq_take (v := ?_) (by rfl) HS (by rfl) ?_ ?_; rotate_left; (focus (intro wS hS; obtain ⟨kc, kf⟩ := bcell hS; go_simp; (try (with_reducible rfl)); done)); (intro K hK; go_simp; refine hK _ ?_; clear hK K)) | (refine seq_skip (by rfl) HS (by rfl) ?_; (intro K hK; go_simp; refine hK _ ?_; clear hK K)))
            simp only [wpSeq]
            go_wp2
            go_roundw
            case rel => exact ⟨k + 1, by go_num, by omega, al, as', bthen' hb HS⟩
            case measure => simp [intOf]; omega
          · have hk0 : 0 < k := by omega
            have hkd : decide ((k : Int) > 0) = true := by simp; omega
            have hkn : decide (0 < k) = true := by simp; omega
            obtain ⟨b2, o2, hA2, hbb2, z0, z1, z2, z3, z4, z5, z6⟩ := ev_at hrd (k - 1) (by omega)
            injection hA2 with hA2
            injection hA2 with e1 e2 _
            subst e1 e2
            have hck : ((k : Int) - 1).toNat = k - 1 := by omega
            have p1 : (0 : Int) ≤ (k : Int) - 1 := by omega
            have p2 : (k : Int) - 1 < (xs.length : Int) := by omega
            have p3 : (1 : Int) ≤ (k : Int) := by omega
            have p4 : 1 ≤ k := by omega
            have p5 : IntKind.i64.wrap ((k : Int) - 1) = (k : Int) - 1 := IntWalk.i64_in _ (by omega)
            clear q3
            by_cases q4 : evLess xs[k-1] xs[k] = true
            · have as' := hid (show ascB evLess (xs.take (k + 1)) = true by rw [ascB_step _ hlt, has.out, if_neg (by omega)]; simpa using q4)
              go_wp2
              refine region_plan (fun w' => Below wr.heap.size wr w') [(0, true), (1, true), (2, true), (3, true), (4, false), (5, true), (6, true), (7, true), (8, true), (9, true), (10, true), (11, true), (12, true), (13, true), (14, true), (15, true), (16, true), (17, true), (18, true), (19, false), (20, true), (21, true), (22, true)] (by kernel_rfl) (by kernel_rfl) (fun _ _ d _ _ h => by cases d <;> exact h) ?_
              have HS := (Below.refl wr.heap.size wr).drew
              iterate 4 (first | (refine seq_take (v := ?_) (by rfl) HS (by rfl) ?_ ?_; rotate_left; (focus (intro wS hS; obtain ⟨kc, kf⟩ := bcell hS; go_simp; (try (with_reducible rfl)); done)); (intro K hK; go_simp; refine hK _ ?_; clear hK K)) | (refine seq_skip (by rfl) HS (by rfl) ?_; (intro K hK; go_simp; refine hK _ ?_; clear hK K)))
              refine seq_do (by rfl) (by rfl) (fun K hK => ?_)
              go_simp; refine (l1EventOk_c _ _ _ _ _ _ _ _).mono ?_; rintro e w1 ⟨he, hb1⟩; rw [t0] at he; subst he; have HS1 := bthen' HS hb1; refine hK _ _ (Or.inr HS1) ?_; clear hK K HS; have HS := HS1; clear HS1
              iterate 14 (first | (refine seq_take (v := ?_) (by rfl) HS (by rfl) ?_ ?_; rotate_left; (focus (intro wS hS; obtain ⟨kc, kf⟩ := bcell hS; go_simp; (try (with_reducible rfl)); done)); (intro K hK; go_simp; refine hK _ ?_; clear hK K)) | (refine seq_skip (by rfl) HS (by rfl) ?_; (intro K hK; go_simp; refine hK _ ?_; clear hK K)))
              refine seq_do (by rfl) (by rfl) (fun K hK => ?_)
              go_simp; refine (EventLess_c xs[k-1] xs[k] _).mono ?_; rintro e w1 ⟨he, hb1⟩; rw [q4] at he; subst he; have HS1 := bthen' HS hb1; refine hK _ _ (Or.inr HS1) ?_; clear hK K HS; have HS := HS1; clear HS1
              iterate 3 (first | (refine seq_take (v := ?_) (by rfl) HS (by rfl) ?_ ?_; rotate_left; (focus (intro wS hS; obtain ⟨kc, kf⟩ := bcell hS; go_simp; (try (with_reducible rfl)); done)); (intro K hK; go_simp; refine hK _ ?_; clear hK K)) | (refine seq_skip (by rfl) HS (by rfl) ?_; (intro K hK; go_simp; refine hK _ ?_; clear hK K)))
              simp only [wpSeq]
              go_wp2
              go_roundw
              case rel => exact ⟨k + 1, by go_num, by omega, al, as', bthen' hb HS⟩
              case measure => simp [intOf]; omega
            · replace q4 : evLess xs[k-1] xs[k] = false := by simpa using q4
              have HF := hid (show evsOk xs most = false by
                have h1 : ascB evLess (xs.take (k + 1)) = false := by rw [ascB_step _ hlt, has.out, if_neg (by omega)]; simpa using q4
                simp [evsOk, ascB_take _ h1])
              go_wp2
              refine region_plan (fun w' => Below wr.heap.size wr w') [(0, true), (1, true), (2, true), (3, true), (4, false), (5, true), (6, true), (7, true), (8, true), (9, true), (10, true), (11, true), (12, true), (13, true), (14, true), (15, true), (16, true), (17, true), (18, true), (19, false), (20, true), (21, true), (22, true)] (by kernel_rfl) (by kernel_rfl) (fun _ _ d _ _ h => by cases d <;> exact h) ?_
              have HS := (Below.refl wr.heap.size wr).drew
              iterate 4 (first | (refine seq_take (v := ?_) (by rfl) HS (by rfl) ?_ ?_; rotate_left; (focus (intro wS hS; obtain ⟨kc, kf⟩ := bcell hS; go_simp; (try (with_reducible rfl)); done)); (intro K hK; go_simp; refine hK _ ?_; clear hK K)) | (refine seq_skip (by rfl) HS (by rfl) ?_; (intro K hK; go_simp; refine hK _ ?_; clear hK K)))
              refine seq_do (by rfl) (by rfl) (fun K hK => ?_)
              go_simp; refine (l1EventOk_c _ _ _ _ _ _ _ _).mono ?_; rintro e w1 ⟨he, hb1⟩; rw [t0] at he; subst he; have HS1 := bthen' HS hb1; refine hK _ _ (Or.inr HS1) ?_; clear hK K HS; have HS := HS1; clear HS1
              iterate 14 (first | (refine seq_take (v := ?_) (by rfl) HS (by rfl) ?_ ?_; rotate_left; (focus (intro wS hS; obtain ⟨kc, kf⟩ := bcell hS; go_simp; (try (with_reducible rfl)); done)); (intro K hK; go_simp; refine hK _ ?_; clear hK K)) | (refine seq_skip (by rfl) HS (by rfl) ?_; (intro K hK; go_simp; refine hK _ ?_; clear hK K)))
              refine seq_do (by rfl) (by rfl) (fun K hK => ?_)
              go_simp; refine (EventLess_c xs[k-1] xs[k] _).mono ?_; rintro e w1 ⟨he, hb1⟩; rw [q4] at he; subst he; have HS1 := bthen' HS hb1; refine hK _ _ (Or.inr HS1) ?_; clear hK K HS; have HS := HS1; clear HS1
              iterate 3 (first | (refine seq_take (v := ?_) (by rfl) HS (by rfl) ?_ ?_; rotate_left; (focus (intro wS hS; obtain ⟨kc, kf⟩ := bcell hS; go_simp; (try (with_reducible rfl)); done)); (intro K hK; go_simp; refine hK _ ?_; clear hK K)) | (refine seq_skip (by rfl) HS (by rfl) ?_; (intro K hK; go_simp; refine hK _ ?_; clear hK K)))
              simp only [wpSeq]
              go_wp2
              go_ret
              exact ⟨by rw [HF.out]; rfl, bthen' hb HS⟩
        · replace q1 : evOk xs[k] = false := by simpa using q1
          have HF := hid (show evsOk xs most = false by simp [evsOk, all_false hlt q1])
          have t0 : evOk ⟨xs[k].time, xs[k].to, xs[k].from_, xs[k].count, xs[k].n, xs[k].kind, xs[k].arg⟩ = false := q1
          clear q1
          go_wp2
          refine region_plan (fun w' => Below wr.heap.size wr w') [(0, true), (1, true), (2, true), (3, true), (4, false), (5, true), (6, true), (7, true), (8, true), (9, true), (10, true), (11, true), (12, true), (13, true), (14, true), (15, true), (16, true), (17, true), (18, true), (19, false), (20, true), (21, true), (22, true)] (by kernel_rfl) (by kernel_rfl) (fun _ _ d _ _ h => by cases d <;> exact h) ?_
          have HS := (Below.refl wr.heap.size wr).drew
          iterate 4 (first | (refine seq_take (v := ?_) (by rfl) HS (by rfl) ?_ ?_; rotate_left; (focus (intro wS hS; obtain ⟨kc, kf⟩ := bcell hS; go_simp; (try (with_reducible rfl)); done)); (intro K hK; go_simp; refine hK _ ?_; clear hK K)) | (refine seq_skip (by rfl) HS (by rfl) ?_; (intro K hK; go_simp; refine hK _ ?_; clear hK K)))
          refine seq_do (by rfl) (by rfl) (fun K hK => ?_)
          go_simp; refine (l1EventOk_c _ _ _ _ _ _ _ _).mono ?_; rintro e w1 ⟨he, hb1⟩; rw [t0] at he; subst he; have HS1 := bthen' HS hb1; refine hK _ _ (Or.inr HS1) ?_; clear hK K HS; have HS := HS1; clear HS1
          iterate 14 (first | (refine seq_take (v := ?_) (by rfl) HS (by rfl) ?_ ?_; rotate_left; (focus (intro wS hS; obtain ⟨kc, kf⟩ := bcell hS; go_simp; (try (with_reducible rfl)); done)); (intro K hK; go_simp; refine hK _ ?_; clear hK K)) | (refine seq_skip (by rfl) HS (by rfl) ?_; (intro K hK; go_simp; refine hK _ ?_; clear hK K)))
          refine seq_dont (by rfl) (by rfl) (fun K hK => ?_); go_simp; refine hK _ _ (Or.inr HS) ?_; clear hK K
          iterate 3 (first | (refine seq_take (v := ?_) (by rfl) HS (by rfl) ?_ ?_; rotate_left; (focus (intro wS hS; obtain ⟨kc, kf⟩ := bcell hS; go_simp; (try (with_reducible rfl)); done)); (intro K hK; go_simp; refine hK _ ?_; clear hK K)) | (refine seq_skip (by rfl) HS (by rfl) ?_; (intro K hK; go_simp; refine hK _ ?_; clear hK K)))
          simp only [wpSeq]
          go_wp2
          go_ret
          exact ⟨by rw [HF.out]; rfl, bthen' hb HS⟩
      · have hkl : k = xs.length := by omega
        subst hkl
        have hall' := hal.out
        have has' := has.out
        rw [List.take_length] at hall' has'
        have HF := hid (show evsOk xs most = true by simp [evsOk, hall', has', HM.out])
        clear hall' has'
        go_wp2
        go_ret
        exact ⟨by rw [HF.out]; rfl, hb⟩
  · have hg : decide ((xs.length : Int) > most) = true := by simp; omega
    have HF := hid (show evsOk xs most = false by simp [evsOk]; intro h; omega)
    clear hm
    go_enter Tryz.func118, Tryz.ntmps118
    go_wp2
    go_ret
    exact ⟨by rw [HF.out]; rfl, Below.refl _ _⟩
set_option maxHeartbeats 2000000 in
theorem l2Outs_c (v : Value) (xs : List OutD) (most : Int) (F : Nat → Prop) (w : World) (h : Rd tOut w F v xs) :
    Calls Tryz.prog 119 #[v, .int .i64 most] w fun e w' => e = .returned (.bool (outsOk xs most)) ∧ Below w.heap.size w w' := by
  obtain ⟨A, cp, rfl, -, hlen, -⟩ := id h
  by_cases hm : (xs.length : Int) ≤ most
  · have hg : decide ((xs.length : Int) > most) = false := by simp; omega
    have HM := hid hm
    clear hm
    go_enter Tryz.func119, Tryz.ntmps119
    go_wp2
    go_loopw [5] (fun i wr => ∃ k : Nat, i = .int .i64 k ∧ k ≤ xs.length ∧ Hid ((xs.take k).all outOk = true) ∧ Hid (ascB outLess (xs.take k) = true) ∧ Below w.heap.size w wr) (fun i _ => xs.length - (intOf i).toNat)
    case atStart => exact ⟨0, rfl, Nat.zero_le _, rfl, rfl, Below.refl _ _⟩
    case round =>
      obtain ⟨k, rfl, hk, hal, has, hb⟩ := hrel
      by_cases hlt : k < xs.length
      · have hrd : Rd tOut wr F (.slice A xs.length cp) xs := h.below hb
        obtain ⟨b0, o0, rfl, hb0, a0, a1, a2, a3, a4⟩ := out_at hrd k hlt
        by_cases q1 : outOk xs[k] = true
        · have al := hid (all_snoc hlt hal.out q1)
          obtain ⟨t0, t1, t2, t3, t4⟩ : inn xs[k].time 0 40 = true ∧ inn xs[k].proc 0 3 = true ∧ inn xs[k].count 0 11 = true ∧ inn xs[k].n 0 1 = true ∧ inn xs[k].value 0 999 = true := by simpa [outOk, and_assoc] using q1
          clear q1
          by_cases q3 : k = 0
          · have as' := hid (show ascB outLess (xs.take (k + 1)) = true by rw [ascB_step _ hlt, has.out, if_pos q3]; rfl)
            have hkd : decide ((k : Int) > 0) = false := by simp; omega
            have hkn : decide (0 < k) = false := by simp; omega
            clear q3
            go_wp2
            refine region_plan (fun w' => Below (wr.alloc (.cells #[.int .i64 xs[k].time, .int .i64 xs[k].proc, .int .i64 xs[k].count, .int .i64 xs[k].n, .int .i64 xs[k].value] 128)).heap.size (wr.alloc (.cells #[.int .i64 xs[k].time, .int .i64 xs[k].proc, .int .i64 xs[k].count, .int .i64 xs[k].n, .int .i64 xs[k].value] 128)) w') [(0, true), (1, true), (2, false), (3, true), (4, true), (5, true), (6, true), (7, false), (8, true), (9, true), (10, true), (11, true), (12, true), (13, false), (14, true), (15, true), (16, true), (17, true), (18, true), (19, false), (20, true), (21, true), (22, true), (23, true), (24, true), (25, false), (26, true), (27, true), (28, true), (29, true), (30, true), (31, true), (32, true), (33, true), (34, true), (35, true), (36, true), (37, true), (38, false), (39, true), (40, true), (41, true)] (by kernel_rfl) (by kernel_rfl) (fun _ _ d _ _ h => by cases d <;> exact h) ?_
            have HS := (Below.refl (wr.alloc (.cells #[.int .i64 xs[k].time, .int .i64 xs[k].proc, .int .i64 xs[k].count, .int .i64 xs[k].n, .int .i64 xs[k].value] 128)).heap.size (wr.alloc (.cells #[.int .i64 xs[k].time, .int .i64 xs[k].proc, .int .i64 xs[k].count, .int .i64 xs[k].n, .int .i64 xs[k].value] 128))).drew
            iterate 2 (first | (refine seq_take (v := ?_) (by rfl) HS (by rfl) ?_ ?_; rotate_left; (focus (intro wS hS; obtain ⟨kc, kf⟩ := bcell hS; go_simp; (try (with_reducible rfl)); done)); (intro K hK; go_simp; refine hK _ ?_; clear hK K)) | (refine seq_skip (by rfl) HS (by rfl) ?_; (intro K hK; go_simp; refine hK _ ?_; clear hK K)))
            refine seq_do (by rfl) (by rfl) (fun K hK => ?_)
            go_simp; refine (l6In_c _ _ _ _).mono ?_; rintro e w1 ⟨he, rfl⟩; rw [t0] at he; subst he; refine hK _ _ (Or.inr HS) ?_; clear hK K
            iterate 4 (first | (refine seq_take (v := ?_) (by rfl) HS (by rfl) ?_ ?_; rotate_left; (focus (intro wS hS; obtain ⟨kc, kf⟩ := bcell hS; go_simp; (try (with_reducible rfl)); done)); (intro K hK; go_simp; refine hK _ ?_; clear hK K)) | (refine seq_skip (by rfl) HS (by rfl) ?_; (intro K hK; go_simp; refine hK _ ?_; clear hK K)))
            refine seq_do (by rfl) (by rfl) (fun K hK => ?_)
            go_simp; refine (l1Proc_c _ _).mono ?_; rintro e w1 ⟨he, rfl⟩; rw [t1] at he; subst he; refine hK _ _ (Or.inr HS) ?_; clear hK K
            iterate 5 (first | (refine seq_take (v := ?_) (by rfl) HS (by rfl) ?_ ?_; rotate_left; (focus (intro wS hS; obtain ⟨kc, kf⟩ := bcell hS; go_simp; (try (with_reducible rfl)); done)); (intro K hK; go_simp; refine hK _ ?_; clear hK K)) | (refine seq_skip (by rfl) HS (by rfl) ?_; (intro K hK; go_simp; refine hK _ ?_; clear hK K)))
            refine seq_do (by rfl) (by rfl) (fun K hK => ?_)
            go_simp; refine (l6In_c _ _ _ _).mono ?_; rintro e w1 ⟨he, rfl⟩; rw [t2] at he; subst he; refine hK _ _ (Or.inr HS) ?_; clear hK K
            iterate 5 (first | (refine seq_take (v := ?_) (by rfl) HS (by rfl) ?_ ?_; rotate_left; (focus (intro wS hS; obtain ⟨kc, kf⟩ := bcell hS; go_simp; (try (with_reducible rfl)); done)); (intro K hK; go_simp; refine hK _ ?_; clear hK K)) | (refine seq_skip (by rfl) HS (by rfl) ?_; (intro K hK; go_simp; refine hK _ ?_; clear hK K)))
            refine seq_do (by rfl) (by rfl) (fun K hK => ?_)
            go_simp; refine (l6In_c _ _ _ _).mono ?_; rintro e w1 ⟨he, rfl⟩; rw [t3] at he; subst he; refine hK _ _ (Or.inr HS) ?_; clear hK K
            iterate 5 (first | (refine seq_take (v := ?_) (by rfl) HS (by rfl) ?_ ?_; rotate_left; (focus (intro wS hS; obtain ⟨kc, kf⟩ := bcell hS; go_simp; (try (with_reducible rfl)); done)); (intro K hK; go_simp; refine hK _ ?_; clear hK K)) | (refine seq_skip (by rfl) HS (by rfl) ?_; (intro K hK; go_simp; refine hK _ ?_; clear hK K)))
            refine seq_do (by rfl) (by rfl) (fun K hK => ?_)
            go_simp; refine (l1Num_c _ _).mono ?_; rintro e w1 ⟨he, rfl⟩; rw [t4] at he; subst he; refine hK _ _ (Or.inr HS) ?_; clear hK K
            iterate 12 (first | (refine seq_take (v := ?_) (by rfl) HS (by rfl) ?_ ?_; rotate_left; (focus (intro wS hS; obtain ⟨kc, kf⟩ := bcell hS; go_simp; (try (with_reducible rfl)); done)); (intro K hK; go_simp; refine hK _ ?_; clear hK K)) | (refine seq_skip (by rfl) HS (by rfl) ?_; (intro K hK; go_simp; refine hK _ ?_; clear hK K)))
            refine seq_dont (by rfl) (by rfl) (fun K hK => ?_); go_simp; refine hK _ _ (Or.inr HS) ?_; clear hK K
            iterate 3 (first | (refine seq_take (v := ?_) (by rfl) HS (by rfl) ?_ ?_; rotate_left; (focus (intro wS hS; obtain ⟨kc, kf⟩ := bcell hS; go_simp; (try (with_reducible rfl)); done)); (intro K hK; go_simp; refine hK _ ?_; clear hK K)) | (refine seq_skip (by rfl) HS (by rfl) ?_; (intro K hK; go_simp; refine hK _ ?_; clear hK K)))
            simp only [wpSeq]
            go_wp2
            go_roundw
            case rel => exact ⟨k + 1, by go_num, by omega, al, as', bthen' hb (bthen' (balloc (Below.refl _ _) _) HS)⟩
            case measure => simp [intOf]; omega
          · have hk0 : 0 < k := by omega
            have hkd : decide ((k : Int) > 0) = true := by simp; omega
            have hkn : decide (0 < k) = true := by simp; omega
            obtain ⟨b2, o2, hA2, hbb2, z0, z1, z2, z3, z4⟩ := out_at hrd (k - 1) (by omega)
            injection hA2 with hA2
            injection hA2 with e1 e2 _
            subst e1 e2
            have hck : ((k : Int) - 1).toNat = k - 1 := by omega
            have p1 : (0 : Int) ≤ (k : Int) - 1 := by omega
            have p2 : (k : Int) - 1 < (xs.length : Int) := by omega
            have p3 : (1 : Int) ≤ (k : Int) := by omega
            have p4 : 1 ≤ k := by omega
            have p5 : IntKind.i64.wrap ((k : Int) - 1) = (k : Int) - 1 := IntWalk.i64_in _ (by omega)
            clear q3
            by_cases q4 : outLess xs[k-1] xs[k] = true
            · have as' := hid (show ascB outLess (xs.take (k + 1)) = true by rw [ascB_step _ hlt, has.out, if_neg (by omega)]; simpa using q4)
              go_wp2
              refine region_plan (fun w' => Below (wr.alloc (.cells #[.int .i64 xs[k].time, .int .i64 xs[k].proc, .int .i64 xs[k].count, .int .i64 xs[k].n, .int .i64 xs[k].value] 128)).heap.size (wr.alloc (.cells #[.int .i64 xs[k].time, .int .i64 xs[k].proc, .int .i64 xs[k].count, .int .i64 xs[k].n, .int .i64 xs[k].value] 128)) w') [(0, true), (1, true), (2, false), (3, true), (4, true), (5, true), (6, true), (7, false), (8, true), (9, true), (10, true), (11, true), (12, true), (13, false), (14, true), (15, true), (16, true), (17, true), (18, true), (19, false), (20, true), (21, true), (22, true), (23, true), (24, true), (25, false), (26, true), (27, true), (28, true), (29, true), (30, true), (31, true), (32, true), (33, true), (34, true), (35, true), (36, true), (37, true), (38, false), (39, true), (40, true), (41, true)] (by kernel_rfl) (by kernel_rfl) (fun _ _ d _ _ h => by cases d <;> exact h) ?_
              have HS := (Below.refl (wr.alloc (.cells #[.int .i64 xs[k].time, .int .i64 xs[k].proc, .int .i64 xs[k].count, .int .i64 xs[k].n, .int .i64 xs[k].value] 128)).heap.size (wr.alloc (.cells #[.int .i64 xs[k].time, .int .i64 xs[k].proc, .int .i64 xs[k].count, .int .i64 xs[k].n, .int .i64 xs[k].value] 128))).drew
              iterate 2 (first | (refine seq_take (v := ?_) (by rfl) HS (by rfl) ?_ ?_; rotate_left; (focus (intro wS hS; obtain ⟨kc, kf⟩ := bcell hS; go_simp; (try (with_reducible rfl)); done)); (intro K hK; go_simp; refine hK _ ?_; clear hK K)) | (refine seq_skip (by rfl) HS (by rfl) ?_; (intro K hK; go_simp; refine hK _ ?_; clear hK K)))
              refine seq_do (by rfl) (by rfl) (fun K hK => ?_)
              go_simp; refine (l6In_c _ _ _ _).mono ?_; rintro e w1 ⟨he, rfl⟩; rw [t0] at he; subst he; refine hK _ _ (Or.inr HS) ?_; clear hK K
              iterate 4 (first | (refine seq_take (v := ?_) (by rfl) HS (by rfl) ?_ ?_; rotate_left; (focus (intro wS hS; obtain ⟨kc, kf⟩ := bcell hS; go_simp; (try (with_reducible rfl)); done)); (intro K hK; go_simp; refine hK _ ?_; clear hK K)) | (refine seq_skip (by rfl) HS (by rfl) ?_; (intro K hK; go_simp; refine hK _ ?_; clear hK K)))
              refine seq_do (by rfl) (by rfl) (fun K hK => ?_)
              go_simp; refine (l1Proc_c _ _).mono ?_; rintro e w1 ⟨he, rfl⟩; rw [t1] at he; subst he; refine hK _ _ (Or.inr HS) ?_; clear hK K
              iterate 5 (first | (refine seq_take (v := ?_) (by rfl) HS (by rfl) ?_ ?_; rotate_left; (focus (intro wS hS; obtain ⟨kc, kf⟩ := bcell hS; go_simp; (try (with_reducible rfl)); done)); (intro K hK; go_simp; refine hK _ ?_; clear hK K)) | (refine seq_skip (by rfl) HS (by rfl) ?_; (intro K hK; go_simp; refine hK _ ?_; clear hK K)))
              refine seq_do (by rfl) (by rfl) (fun K hK => ?_)
              go_simp; refine (l6In_c _ _ _ _).mono ?_; rintro e w1 ⟨he, rfl⟩; rw [t2] at he; subst he; refine hK _ _ (Or.inr HS) ?_; clear hK K
              iterate 5 (first | (refine seq_take (v := ?_) (by rfl) HS (by rfl) ?_ ?_; rotate_left; (focus (intro wS hS; obtain ⟨kc, kf⟩ := bcell hS; go_simp; (try (with_reducible rfl)); done)); (intro K hK; go_simp; refine hK _ ?_; clear hK K)) | (refine seq_skip (by rfl) HS (by rfl) ?_; (intro K hK; go_simp; refine hK _ ?_; clear hK K)))
              refine seq_do (by rfl) (by rfl) (fun K hK => ?_)
              go_simp; refine (l6In_c _ _ _ _).mono ?_; rintro e w1 ⟨he, rfl⟩; rw [t3] at he; subst he; refine hK _ _ (Or.inr HS) ?_; clear hK K
              iterate 5 (first | (refine seq_take (v := ?_) (by rfl) HS (by rfl) ?_ ?_; rotate_left; (focus (intro wS hS; obtain ⟨kc, kf⟩ := bcell hS; go_simp; (try (with_reducible rfl)); done)); (intro K hK; go_simp; refine hK _ ?_; clear hK K)) | (refine seq_skip (by rfl) HS (by rfl) ?_; (intro K hK; go_simp; refine hK _ ?_; clear hK K)))
              refine seq_do (by rfl) (by rfl) (fun K hK => ?_)
              go_simp; refine (l1Num_c _ _).mono ?_; rintro e w1 ⟨he, rfl⟩; rw [t4] at he; subst he; refine hK _ _ (Or.inr HS) ?_; clear hK K
              iterate 12 (first | (refine seq_take (v := ?_) (by rfl) HS (by rfl) ?_ ?_; rotate_left; (focus (intro wS hS; obtain ⟨kc, kf⟩ := bcell hS; go_simp; (try (with_reducible rfl)); done)); (intro K hK; go_simp; refine hK _ ?_; clear hK K)) | (refine seq_skip (by rfl) HS (by rfl) ?_; (intro K hK; go_simp; refine hK _ ?_; clear hK K)))
              refine seq_do (by rfl) (by rfl) (fun K hK => ?_)
              go_simp; refine (OutLess_c xs[k-1] xs[k] _).mono ?_; rintro e w1 ⟨he, hb1⟩; rw [q4] at he; subst he; have HS1 := bthen' HS hb1; refine hK _ _ (Or.inr HS1) ?_; clear hK K HS; have HS := HS1; clear HS1
              iterate 3 (first | (refine seq_take (v := ?_) (by rfl) HS (by rfl) ?_ ?_; rotate_left; (focus (intro wS hS; obtain ⟨kc, kf⟩ := bcell hS; go_simp; (try (with_reducible rfl)); done)); (intro K hK; go_simp; refine hK _ ?_; clear hK K)) | (refine seq_skip (by rfl) HS (by rfl) ?_; (intro K hK; go_simp; refine hK _ ?_; clear hK K)))
              simp only [wpSeq]
              go_wp2
              go_roundw
              case rel => exact ⟨k + 1, by go_num, by omega, al, as', bthen' hb (bthen' (balloc (Below.refl _ _) _) HS)⟩
              case measure => simp [intOf]; omega
            · replace q4 : outLess xs[k-1] xs[k] = false := by simpa using q4
              have HF := hid (show outsOk xs most = false by
                have h1 : ascB outLess (xs.take (k + 1)) = false := by rw [ascB_step _ hlt, has.out, if_neg (by omega)]; simpa using q4
                simp [outsOk, ascB_take _ h1])
              go_wp2
              refine region_plan (fun w' => Below (wr.alloc (.cells #[.int .i64 xs[k].time, .int .i64 xs[k].proc, .int .i64 xs[k].count, .int .i64 xs[k].n, .int .i64 xs[k].value] 128)).heap.size (wr.alloc (.cells #[.int .i64 xs[k].time, .int .i64 xs[k].proc, .int .i64 xs[k].count, .int .i64 xs[k].n, .int .i64 xs[k].value] 128)) w') [(0, true), (1, true), (2, false), (3, true), (4, true), (5, true), (6, true), (7, false), (8, true), (9, true), (10, true), (11, true), (12, true), (13, false), (14, true), (15, true), (16, true), (17, true), (18, true), (19, false), (20, true), (21, true), (22, true), (23, true), (24, true), (25, false), (26, true), (27, true), (28, true), (29, true), (30, true), (31, true), (32, true), (33, true), (34, true), (35, true), (36, true), (37, true), (38, false), (39, true), (40, true), (41, true)] (by kernel_rfl) (by kernel_rfl) (fun _ _ d _ _ h => by cases d <;> exact h) ?_
              have HS := (Below.refl (wr.alloc (.cells #[.int .i64 xs[k].time, .int .i64 xs[k].proc, .int .i64 xs[k].count, .int .i64 xs[k].n, .int .i64 xs[k].value] 128)).heap.size (wr.alloc (.cells #[.int .i64 xs[k].time, .int .i64 xs[k].proc, .int .i64 xs[k].count, .int .i64 xs[k].n, .int .i64 xs[k].value] 128))).drew
              iterate 2 (first | (refine seq_take (v := ?_) (by rfl) HS (by rfl) ?_ ?_; rotate_left; (focus (intro wS hS; obtain ⟨kc, kf⟩ := bcell hS; go_simp; (try (with_reducible rfl)); done)); (intro K hK; go_simp; refine hK _ ?_; clear hK K)) | (refine seq_skip (by rfl) HS (by rfl) ?_; (intro K hK; go_simp; refine hK _ ?_; clear hK K)))
              refine seq_do (by rfl) (by rfl) (fun K hK => ?_)
              go_simp; refine (l6In_c _ _ _ _).mono ?_; rintro e w1 ⟨he, rfl⟩; rw [t0] at he; subst he; refine hK _ _ (Or.inr HS) ?_; clear hK K
              iterate 4 (first | (refine seq_take (v := ?_) (by rfl) HS (by rfl) ?_ ?_; rotate_left; (focus (intro wS hS; obtain ⟨kc, kf⟩ := bcell hS; go_simp; (try (with_reducible rfl)); done)); (intro K hK; go_simp; refine hK _ ?_; clear hK K)) | (refine seq_skip (by rfl) HS (by rfl) ?_; (intro K hK; go_simp; refine hK _ ?_; clear hK K)))
              refine seq_do (by rfl) (by rfl) (fun K hK => ?_)
              go_simp; refine (l1Proc_c _ _).mono ?_; rintro e w1 ⟨he, rfl⟩; rw [t1] at he; subst he; refine hK _ _ (Or.inr HS) ?_; clear hK K
              iterate 5 (first | (refine seq_take (v := ?_) (by rfl) HS (by rfl) ?_ ?_; rotate_left; (focus (intro wS hS; obtain ⟨kc, kf⟩ := bcell hS; go_simp; (try (with_reducible rfl)); done)); (intro K hK; go_simp; refine hK _ ?_; clear hK K)) | (refine seq_skip (by rfl) HS (by rfl) ?_; (intro K hK; go_simp; refine hK _ ?_; clear hK K)))
              refine seq_do (by rfl) (by rfl) (fun K hK => ?_)
              go_simp; refine (l6In_c _ _ _ _).mono ?_; rintro e w1 ⟨he, rfl⟩; rw [t2] at he; subst he; refine hK _ _ (Or.inr HS) ?_; clear hK K
              iterate 5 (first | (refine seq_take (v := ?_) (by rfl) HS (by rfl) ?_ ?_; rotate_left; (focus (intro wS hS; obtain ⟨kc, kf⟩ := bcell hS; go_simp; (try (with_reducible rfl)); done)); (intro K hK; go_simp; refine hK _ ?_; clear hK K)) | (refine seq_skip (by rfl) HS (by rfl) ?_; (intro K hK; go_simp; refine hK _ ?_; clear hK K)))
              refine seq_do (by rfl) (by rfl) (fun K hK => ?_)
              go_simp; refine (l6In_c _ _ _ _).mono ?_; rintro e w1 ⟨he, rfl⟩; rw [t3] at he; subst he; refine hK _ _ (Or.inr HS) ?_; clear hK K
              iterate 5 (first | (refine seq_take (v := ?_) (by rfl) HS (by rfl) ?_ ?_; rotate_left; (focus (intro wS hS; obtain ⟨kc, kf⟩ := bcell hS; go_simp; (try (with_reducible rfl)); done)); (intro K hK; go_simp; refine hK _ ?_; clear hK K)) | (refine seq_skip (by rfl) HS (by rfl) ?_; (intro K hK; go_simp; refine hK _ ?_; clear hK K)))
              refine seq_do (by rfl) (by rfl) (fun K hK => ?_)
              go_simp; refine (l1Num_c _ _).mono ?_; rintro e w1 ⟨he, rfl⟩; rw [t4] at he; subst he; refine hK _ _ (Or.inr HS) ?_; clear hK K
              iterate 12 (first | (refine seq_take (v := ?_) (by rfl) HS (by rfl) ?_ ?_; rotate_left; (focus (intro wS hS; obtain ⟨kc, kf⟩ := bcell hS; go_simp; (try (with_reducible rfl)); done)); (intro K hK; go_simp; refine hK _ ?_; clear hK K)) | (refine seq_skip (by rfl) HS (by rfl) ?_; (intro K hK; go_simp; refine hK _ ?_; clear hK K)))
              refine seq_do (by rfl) (by rfl) (fun K hK => ?_)
              go_simp; refine (OutLess_c xs[k-1] xs[k] _).mono ?_; rintro e w1 ⟨he, hb1⟩; rw [q4] at he; subst he; have HS1 := bthen' HS hb1; refine hK _ _ (Or.inr HS1) ?_; clear hK K HS; have HS := HS1; clear HS1
              iterate 3 (first | (refine seq_take (v := ?_) (by rfl) HS (by rfl) ?_ ?_; rotate_left; (focus (intro wS hS; obtain ⟨kc, kf⟩ := bcell hS; go_simp; (try (with_reducible rfl)); done)); (intro K hK; go_simp; refine hK _ ?_; clear hK K)) | (refine seq_skip (by rfl) HS (by rfl) ?_; (intro K hK; go_simp; refine hK _ ?_; clear hK K)))
              simp only [wpSeq]
              go_wp2
              go_ret
              exact ⟨by rw [HF.out]; rfl, bthen' hb (bthen' (balloc (Below.refl _ _) _) HS)⟩
        · replace q1 : outOk xs[k] = false := by simpa using q1
          have HF := hid (show outsOk xs most = false by simp [outsOk, all_false hlt q1])
          by_cases t0 : inn xs[k].time 0 40 = true
          · skip
            by_cases t1 : inn xs[k].proc 0 3 = true
            · skip
              by_cases t2 : inn xs[k].count 0 11 = true
              · skip
                by_cases t3 : inn xs[k].n 0 1 = true
                · skip
                  have t4 : inn xs[k].value 0 999 = false := by simpa [outOk, t0, t1, t2, t3] using q1
                  clear q1
                  go_wp2
                  refine region_plan (fun w' => Below (wr.alloc (.cells #[.int .i64 xs[k].time, .int .i64 xs[k].proc, .int .i64 xs[k].count, .int .i64 xs[k].n, .int .i64 xs[k].value] 128)).heap.size (wr.alloc (.cells #[.int .i64 xs[k].time, .int .i64 xs[k].proc, .int .i64 xs[k].count, .int .i64 xs[k].n, .int .i64 xs[k].value] 128)) w') [(0, true), (1, true), (2, false), (3, true), (4, true), (5, true), (6, true), (7, false), (8, true), (9, true), (10, true), (11, true), (12, true), (13, false), (14, true), (15, true), (16, true), (17, true), (18, true), (19, false), (20, true), (21, true), (22, true), (23, true), (24, true), (25, false), (26, true), (27, true), (28, true), (29, true), (30, true), (31, true), (32, true), (33, true), (34, true), (35, true), (36, true), (37, true), (38, false), (39, true), (40, true), (41, true)] (by kernel_rfl) (by kernel_rfl) (fun _ _ d _ _ h => by cases d <;> exact h) ?_
                  have HS := (Below.refl (wr.alloc (.cells #[.int .i64 xs[k].time, .int .i64 xs[k].proc, .int .i64 xs[k].count, .int .i64 xs[k].n, .int .i64 xs[k].value] 128)).heap.size (wr.alloc (.cells #[.int .i64 xs[k].time, .int .i64 xs[k].proc, .int .i64 xs[k].count, .int .i64 xs[k].n, .int .i64 xs[k].value] 128))).drew
                  iterate 2 (first | (refine seq_take (v := ?_) (by rfl) HS (by rfl) ?_ ?_; rotate_left; (focus (intro wS hS; obtain ⟨kc, kf⟩ := bcell hS; go_simp; (try (with_reducible rfl)); done)); (intro K hK; go_simp; refine hK _ ?_; clear hK K)) | (refine seq_skip (by rfl) HS (by rfl) ?_; (intro K hK; go_simp; refine hK _ ?_; clear hK K)))
                  refine seq_do (by rfl) (by rfl) (fun K hK => ?_)
                  go_simp; refine (l6In_c _ _ _ _).mono ?_; rintro e w1 ⟨he, rfl⟩; rw [t0] at he; subst he; refine hK _ _ (Or.inr HS) ?_; clear hK K
                  iterate 4 (first | (refine seq_take (v := ?_) (by rfl) HS (by rfl) ?_ ?_; rotate_left; (focus (intro wS hS; obtain ⟨kc, kf⟩ := bcell hS; go_simp; (try (with_reducible rfl)); done)); (intro K hK; go_simp; refine hK _ ?_; clear hK K)) | (refine seq_skip (by rfl) HS (by rfl) ?_; (intro K hK; go_simp; refine hK _ ?_; clear hK K)))
                  refine seq_do (by rfl) (by rfl) (fun K hK => ?_)
                  go_simp; refine (l1Proc_c _ _).mono ?_; rintro e w1 ⟨he, rfl⟩; rw [t1] at he; subst he; refine hK _ _ (Or.inr HS) ?_; clear hK K
                  iterate 5 (first | (refine seq_take (v := ?_) (by rfl) HS (by rfl) ?_ ?_; rotate_left; (focus (intro wS hS; obtain ⟨kc, kf⟩ := bcell hS; go_simp; (try (with_reducible rfl)); done)); (intro K hK; go_simp; refine hK _ ?_; clear hK K)) | (refine seq_skip (by rfl) HS (by rfl) ?_; (intro K hK; go_simp; refine hK _ ?_; clear hK K)))
                  refine seq_do (by rfl) (by rfl) (fun K hK => ?_)
                  go_simp; refine (l6In_c _ _ _ _).mono ?_; rintro e w1 ⟨he, rfl⟩; rw [t2] at he; subst he; refine hK _ _ (Or.inr HS) ?_; clear hK K
                  iterate 5 (first | (refine seq_take (v := ?_) (by rfl) HS (by rfl) ?_ ?_; rotate_left; (focus (intro wS hS; obtain ⟨kc, kf⟩ := bcell hS; go_simp; (try (with_reducible rfl)); done)); (intro K hK; go_simp; refine hK _ ?_; clear hK K)) | (refine seq_skip (by rfl) HS (by rfl) ?_; (intro K hK; go_simp; refine hK _ ?_; clear hK K)))
                  refine seq_do (by rfl) (by rfl) (fun K hK => ?_)
                  go_simp; refine (l6In_c _ _ _ _).mono ?_; rintro e w1 ⟨he, rfl⟩; rw [t3] at he; subst he; refine hK _ _ (Or.inr HS) ?_; clear hK K
                  iterate 5 (first | (refine seq_take (v := ?_) (by rfl) HS (by rfl) ?_ ?_; rotate_left; (focus (intro wS hS; obtain ⟨kc, kf⟩ := bcell hS; go_simp; (try (with_reducible rfl)); done)); (intro K hK; go_simp; refine hK _ ?_; clear hK K)) | (refine seq_skip (by rfl) HS (by rfl) ?_; (intro K hK; go_simp; refine hK _ ?_; clear hK K)))
                  refine seq_do (by rfl) (by rfl) (fun K hK => ?_)
                  go_simp; refine (l1Num_c _ _).mono ?_; rintro e w1 ⟨he, rfl⟩; rw [t4] at he; subst he; refine hK _ _ (Or.inr HS) ?_; clear hK K
                  iterate 12 (first | (refine seq_take (v := ?_) (by rfl) HS (by rfl) ?_ ?_; rotate_left; (focus (intro wS hS; obtain ⟨kc, kf⟩ := bcell hS; go_simp; (try (with_reducible rfl)); done)); (intro K hK; go_simp; refine hK _ ?_; clear hK K)) | (refine seq_skip (by rfl) HS (by rfl) ?_; (intro K hK; go_simp; refine hK _ ?_; clear hK K)))
                  refine seq_dont (by rfl) (by rfl) (fun K hK => ?_); go_simp; refine hK _ _ (Or.inr HS) ?_; clear hK K
                  iterate 3 (first | (refine seq_take (v := ?_) (by rfl) HS (by rfl) ?_ ?_; rotate_left; (focus (intro wS hS; obtain ⟨kc, kf⟩ := bcell hS; go_simp; (try (with_reducible rfl)); done)); (intro K hK; go_simp; refine hK _ ?_; clear hK K)) | (refine seq_skip (by rfl) HS (by rfl) ?_; (intro K hK; go_simp; refine hK _ ?_; clear hK K)))
                  simp only [wpSeq]
                  go_wp2
                  go_ret
                  exact ⟨by rw [HF.out]; rfl, bthen' hb (bthen' (balloc (Below.refl _ _) _) HS)⟩
                · replace t3 : inn xs[k].n 0 1 = false := by simpa using t3
                  clear q1
                  go_wp2
                  refine region_plan (fun w' => Below (wr.alloc (.cells #[.int .i64 xs[k].time, .int .i64 xs[k].proc, .int .i64 xs[k].count, .int .i64 xs[k].n, .int .i64 xs[k].value] 128)).heap.size (wr.alloc (.cells #[.int .i64 xs[k].time, .int .i64 xs[k].proc, .int .i64 xs[k].count, .int .i64 xs[k].n, .int .i64 xs[k].value] 128)) w') [(0, true), (1, true), (2, false), (3, true), (4, true), (5, true), (6, true), (7, false), (8, true), (9, true), (10, true), (11, true), (12, true), (13, false), (14, true), (15, true), (16, true), (17, true), (18, true), (19, false), (20, true), (21, true), (22, true), (23, true), (24, true), (25, false), (26, true), (27, true), (28, true), (29, true), (30, true), (31, true), (32, true), (33, true), (34, true), (35, true), (36, true), (37, true), (38, false), (39, true), (40, true), (41, true)] (by kernel_rfl) (by kernel_rfl) (fun _ _ d _ _ h => by cases d <;> exact h) ?_
                  have HS := (Below.refl (wr.alloc (.cells #[.int .i64 xs[k].time, .int .i64 xs[k].proc, .int .i64 xs[k].count, .int .i64 xs[k].n, .int .i64 xs[k].value] 128)).heap.size (wr.alloc (.cells #[.int .i64 xs[k].time, .int .i64 xs[k].proc, .int .i64 xs[k].count, .int .i64 xs[k].n, .int .i64 xs[k].value] 128))).drew
                  iterate 2 (first | (refine seq_take (v := ?_) (by rfl) HS (by rfl) ?_ ?_; rotate_left; (focus (intro wS hS; obtain ⟨kc, kf⟩ := bcell hS; go_simp; (try (with_reducible rfl)); done)); (intro K hK; go_simp; refine hK _ ?_; clear hK K)) | (refine seq_skip (by rfl) HS (by rfl) ?_; (intro K hK; go_simp; refine hK _ ?_; clear hK K)))
                  refine seq_do (by rfl) (by rfl) (fun K hK => ?_)
                  go_simp; refine (l6In_c _ _ _ _).mono ?_; rintro e w1 ⟨he, rfl⟩; rw [t0] at he; subst he; refine hK _ _ (Or.inr HS) ?_; clear hK K
                  iterate 4 (first | (refine seq_take (v := ?_) (by rfl) HS (by rfl) ?_ ?_; rotate_left; (focus (intro wS hS; obtain ⟨kc, kf⟩ := bcell hS; go_simp; (try (with_reducible rfl)); done)); (intro K hK; go_simp; refine hK _ ?_; clear hK K)) | (refine seq_skip (by rfl) HS (by rfl) ?_; (intro K hK; go_simp; refine hK _ ?_; clear hK K)))
                  refine seq_do (by rfl) (by rfl) (fun K hK => ?_)
                  go_simp; refine (l1Proc_c _ _).mono ?_; rintro e w1 ⟨he, rfl⟩; rw [t1] at he; subst he; refine hK _ _ (Or.inr HS) ?_; clear hK K
                  iterate 5 (first | (refine seq_take (v := ?_) (by rfl) HS (by rfl) ?_ ?_; rotate_left; (focus (intro wS hS; obtain ⟨kc, kf⟩ := bcell hS; go_simp; (try (with_reducible rfl)); done)); (intro K hK; go_simp; refine hK _ ?_; clear hK K)) | (refine seq_skip (by rfl) HS (by rfl) ?_; (intro K hK; go_simp; refine hK _ ?_; clear hK K)))
                  refine seq_do (by rfl) (by rfl) (fun K hK => ?_)
                  go_simp; refine (l6In_c _ _ _ _).mono ?_; rintro e w1 ⟨he, rfl⟩; rw [t2] at he; subst he; refine hK _ _ (Or.inr HS) ?_; clear hK K
                  iterate 5 (first | (refine seq_take (v := ?_) (by rfl) HS (by rfl) ?_ ?_; rotate_left; (focus (intro wS hS; obtain ⟨kc, kf⟩ := bcell hS; go_simp; (try (with_reducible rfl)); done)); (intro K hK; go_simp; refine hK _ ?_; clear hK K)) | (refine seq_skip (by rfl) HS (by rfl) ?_; (intro K hK; go_simp; refine hK _ ?_; clear hK K)))
                  refine seq_do (by rfl) (by rfl) (fun K hK => ?_)
                  go_simp; refine (l6In_c _ _ _ _).mono ?_; rintro e w1 ⟨he, rfl⟩; rw [t3] at he; subst he; refine hK _ _ (Or.inr HS) ?_; clear hK K
                  iterate 5 (first | (refine seq_take (v := ?_) (by rfl) HS (by rfl) ?_ ?_; rotate_left; (focus (intro wS hS; obtain ⟨kc, kf⟩ := bcell hS; go_simp; (try (with_reducible rfl)); done)); (intro K hK; go_simp; refine hK _ ?_; clear hK K)) | (refine seq_skip (by rfl) HS (by rfl) ?_; (intro K hK; go_simp; refine hK _ ?_; clear hK K)))
                  refine seq_dont (by rfl) (by rfl) (fun K hK => ?_); go_simp; refine hK _ _ (Or.inr HS) ?_; clear hK K
                  iterate 12 (first | (refine seq_take (v := ?_) (by rfl) HS (by rfl) ?_ ?_; rotate_left; (focus (intro wS hS; obtain ⟨kc, kf⟩ := bcell hS; go_simp; (try (with_reducible rfl)); done)); (intro K hK; go_simp; refine hK _ ?_; clear hK K)) | (refine seq_skip (by rfl) HS (by rfl) ?_; (intro K hK; go_simp; refine hK _ ?_; clear hK K)))
                  refine seq_dont (by rfl) (by rfl) (fun K hK => ?_); go_simp; refine hK _ _ (Or.inr HS) ?_; clear hK K
                  iterate 3 (first | (refine seq_take (v := ?_) (by rfl) HS (by rfl) ?_ ?_; rotate_left; (focus (intro wS hS; obtain ⟨kc, kf⟩ := bcell hS; go_simp; (try (with_reducible rfl)); done)); (intro K hK; go_simp; refine hK _ ?_; clear hK K)) | (refine seq_skip (by rfl) HS (by rfl) ?_; (intro K hK; go_simp; refine hK _ ?_; clear hK K)))
                  simp only [wpSeq]
                  go_wp2
                  go_ret
                  exact ⟨by rw [HF.out]; rfl, bthen' hb (bthen' (balloc (Below.refl _ _) _) HS)⟩
              · replace t2 : inn xs[k].count 0 11 = false := by simpa using t2
                clear q1
                go_wp2
                refine region_plan (fun w' => Below (wr.alloc (.cells #[.int .i64 xs[k].time, .int .i64 xs[k].proc, .int .i64 xs[k].count, .int .i64 xs[k].n, .int .i64 xs[k].value] 128)).heap.size (wr.alloc (.cells #[.int .i64 xs[k].time, .int .i64 xs[k].proc, .int .i64 xs[k].count, .int .i64 xs[k].n, .int .i64 xs[k].value] 128)) w') [(0, true), (1, true), (2, false), (3, true), (4, true), (5, true), (6, true), (7, false), (8, true), (9, true), (10, true), (11, true), (12, true), (13, false), (14, true), (15, true), (16, true), (17, true), (18, true), (19, false), (20, true), (21, true), (22, true), (23, true), (24, true), (25, false), (26, true), (27, true), (28, true), (29, true), (30, true), (31, true), (32, true), (33, true), (34, true), (35, true), (36, true), (37, true), (38, false), (39, true), (40, true), (41, true)] (by kernel_rfl) (by kernel_rfl) (fun _ _ d _ _ h => by cases d <;> exact h) ?_
                have HS := (Below.refl (wr.alloc (.cells #[.int .i64 xs[k].time, .int .i64 xs[k].proc, .int .i64 xs[k].count, .int .i64 xs[k].n, .int .i64 xs[k].value] 128)).heap.size (wr.alloc (.cells #[.int .i64 xs[k].time, .int .i64 xs[k].proc, .int .i64 xs[k].count, .int .i64 xs[k].n, .int .i64 xs[k].value] 128))).drew
                iterate 2 (first | (refine seq_take (v := ?_) (by rfl) HS (by rfl) ?_ ?_; rotate_left; (focus (intro wS hS; obtain ⟨kc, kf⟩ := bcell hS; go_simp; (try (with_reducible rfl)); done)); (intro K hK; go_simp; refine hK _ ?_; clear hK K)) | (refine seq_skip (by rfl) HS (by rfl) ?_; (intro K hK; go_simp; refine hK _ ?_; clear hK K)))
                refine seq_do (by rfl) (by rfl) (fun K hK => ?_)
                go_simp; refine (l6In_c _ _ _ _).mono ?_; rintro e w1 ⟨he, rfl⟩; rw [t0] at he; subst he; refine hK _ _ (Or.inr HS) ?_; clear hK K
                iterate 4 (first | (refine seq_take (v := ?_) (by rfl) HS (by rfl) ?_ ?_; rotate_left; (focus (intro wS hS; obtain ⟨kc, kf⟩ := bcell hS; go_simp; (try (with_reducible rfl)); done)); (intro K hK; go_simp; refine hK _ ?_; clear hK K)) | (refine seq_skip (by rfl) HS (by rfl) ?_; (intro K hK; go_simp; refine hK _ ?_; clear hK K)))
                refine seq_do (by rfl) (by rfl) (fun K hK => ?_)
                go_simp; refine (l1Proc_c _ _).mono ?_; rintro e w1 ⟨he, rfl⟩; rw [t1] at he; subst he; refine hK _ _ (Or.inr HS) ?_; clear hK K
                iterate 5 (first | (refine seq_take (v := ?_) (by rfl) HS (by rfl) ?_ ?_; rotate_left; (focus (intro wS hS; obtain ⟨kc, kf⟩ := bcell hS; go_simp; (try (with_reducible rfl)); done)); (intro K hK; go_simp; refine hK _ ?_; clear hK K)) | (refine seq_skip (by rfl) HS (by rfl) ?_; (intro K hK; go_simp; refine hK _ ?_; clear hK K)))
                refine seq_do (by rfl) (by rfl) (fun K hK => ?_)
                go_simp; refine (l6In_c _ _ _ _).mono ?_; rintro e w1 ⟨he, rfl⟩; rw [t2] at he; subst he; refine hK _ _ (Or.inr HS) ?_; clear hK K
                iterate 5 (first | (refine seq_take (v := ?_) (by rfl) HS (by rfl) ?_ ?_; rotate_left; (focus (intro wS hS; obtain ⟨kc, kf⟩ := bcell hS; go_simp; (try (with_reducible rfl)); done)); (intro K hK; go_simp; refine hK _ ?_; clear hK K)) | (refine seq_skip (by rfl) HS (by rfl) ?_; (intro K hK; go_simp; refine hK _ ?_; clear hK K)))
                refine seq_dont (by rfl) (by rfl) (fun K hK => ?_); go_simp; refine hK _ _ (Or.inr HS) ?_; clear hK K
                iterate 5 (first | (refine seq_take (v := ?_) (by rfl) HS (by rfl) ?_ ?_; rotate_left; (focus (intro wS hS; obtain ⟨kc, kf⟩ := bcell hS; go_simp; (try (with_reducible rfl)); done)); (intro K hK; go_simp; refine hK _ ?_; clear hK K)) | (refine seq_skip (by rfl) HS (by rfl) ?_; (intro K hK; go_simp; refine hK _ ?_; clear hK K)))
                refine seq_dont (by rfl) (by rfl) (fun K hK => ?_); go_simp; refine hK _ _ (Or.inr HS) ?_; clear hK K
                iterate 12 (first | (refine seq_take (v := ?_) (by rfl) HS (by rfl) ?_ ?_; rotate_left; (focus (intro wS hS; obtain ⟨kc, kf⟩ := bcell hS; go_simp; (try (with_reducible rfl)); done)); (intro K hK; go_simp; refine hK _ ?_; clear hK K)) | (refine seq_skip (by rfl) HS (by rfl) ?_; (intro K hK; go_simp; refine hK _ ?_; clear hK K)))
                refine seq_dont (by rfl) (by rfl) (fun K hK => ?_); go_simp; refine hK _ _ (Or.inr HS) ?_; clear hK K
                iterate 3 (first | (refine seq_take (v := ?_) (by rfl) HS (by rfl) ?_ ?_; rotate_left; (focus (intro wS hS; obtain ⟨kc, kf⟩ := bcell hS; go_simp; (try (with_reducible rfl)); done)); (intro K hK; go_simp; refine hK _ ?_; clear hK K)) | (refine seq_skip (by rfl) HS (by rfl) ?_; (intro K hK; go_simp; refine hK _ ?_; clear hK K)))
                simp only [wpSeq]
                go_wp2
                go_ret
                exact ⟨by rw [HF.out]; rfl, bthen' hb (bthen' (balloc (Below.refl _ _) _) HS)⟩
            · replace t1 : inn xs[k].proc 0 3 = false := by simpa using t1
              clear q1
              go_wp2
              refine region_plan (fun w' => Below (wr.alloc (.cells #[.int .i64 xs[k].time, .int .i64 xs[k].proc, .int .i64 xs[k].count, .int .i64 xs[k].n, .int .i64 xs[k].value] 128)).heap.size (wr.alloc (.cells #[.int .i64 xs[k].time, .int .i64 xs[k].proc, .int .i64 xs[k].count, .int .i64 xs[k].n, .int .i64 xs[k].value] 128)) w') [(0, true), (1, true), (2, false), (3, true), (4, true), (5, true), (6, true), (7, false), (8, true), (9, true), (10, true), (11, true), (12, true), (13, false), (14, true), (15, true), (16, true), (17, true), (18, true), (19, false), (20, true), (21, true), (22, true), (23, true), (24, true), (25, false), (26, true), (27, true), (28, true), (29, true), (30, true), (31, true), (32, true), (33, true), (34, true), (35, true), (36, true), (37, true), (38, false), (39, true), (40, true), (41, true)] (by kernel_rfl) (by kernel_rfl) (fun _ _ d _ _ h => by cases d <;> exact h) ?_
              have HS := (Below.refl (wr.alloc (.cells #[.int .i64 xs[k].time, .int .i64 xs[k].proc, .int .i64 xs[k].count, .int .i64 xs[k].n, .int .i64 xs[k].value] 128)).heap.size (wr.alloc (.cells #[.int .i64 xs[k].time, .int .i64 xs[k].proc, .int .i64 xs[k].count, .int .i64 xs[k].n, .int .i64 xs[k].value] 128))).drew
              iterate 2 (first | (refine seq_take (v := ?_) (by rfl) HS (by rfl) ?_ ?_; rotate_left; (focus (intro wS hS; obtain ⟨kc, kf⟩ := bcell hS; go_simp; (try (with_reducible rfl)); done)); (intro K hK; go_simp; refine hK _ ?_; clear hK K)) | (refine seq_skip (by rfl) HS (by rfl) ?_; (intro K hK; go_simp; refine hK _ ?_; clear hK K)))
              refine seq_do (by rfl) (by rfl) (fun K hK => ?_)
              go_simp; refine (l6In_c _ _ _ _).mono ?_; rintro e w1 ⟨he, rfl⟩; rw [t0] at he; subst he; refine hK _ _ (Or.inr HS) ?_; clear hK K
              iterate 4 (first | (refine seq_take (v := ?_) (by rfl) HS (by rfl) ?_ ?_; rotate_left; (focus (intro wS hS; obtain ⟨kc, kf⟩ := bcell hS; go_simp; (try (with_reducible rfl)); done)); (intro K hK; go_simp; refine hK _ ?_; clear hK K)) | (refine seq_skip (by rfl) HS (by rfl) ?_; (intro K hK; go_simp; refine hK _ ?_; clear hK K)))
              refine seq_do (by rfl) (by rfl) (fun K hK => ?_)
              go_simp; refine (l1Proc_c _ _).mono ?_; rintro e w1 ⟨he, rfl⟩; rw [t1] at he; subst he; refine hK _ _ (Or.inr HS) ?_; clear hK K
              iterate 5 (first | (refine seq_take (v := ?_) (by rfl) HS (by rfl) ?_ ?_; rotate_left; (focus (intro wS hS; obtain ⟨kc, kf⟩ := bcell hS; go_simp; (try (with_reducible rfl)); done)); (intro K hK; go_simp; refine hK _ ?_; clear hK K)) | (refine seq_skip (by rfl) HS (by rfl) ?_; (intro K hK; go_simp; refine hK _ ?_; clear hK K)))
              refine seq_dont (by rfl) (by rfl) (fun K hK => ?_); go_simp; refine hK _ _ (Or.inr HS) ?_; clear hK K
              iterate 5 (first | (refine seq_take (v := ?_) (by rfl) HS (by rfl) ?_ ?_; rotate_left; (focus (intro wS hS; obtain ⟨kc, kf⟩ := bcell hS; go_simp; (try (with_reducible rfl)); done)); (intro K hK; go_simp; refine hK _ ?_; clear hK K)) | (refine seq_skip (by rfl) HS (by rfl) ?_; (intro K hK; go_simp; refine hK _ ?_; clear hK K)))
              refine seq_dont (by rfl) (by rfl) (fun K hK => ?_); go_simp; refine hK _ _ (Or.inr HS) ?_; clear hK K
              iterate 5 (first | (refine seq_take (v := ?_) (by rfl) HS (by rfl) ?_ ?_; rotate_left; (focus (intro wS hS; obtain ⟨kc, kf⟩ := bcell hS; go_simp; (try (with_reducible rfl)); done)); (intro K hK; go_simp; refine hK _ ?_; clear hK K)) | (refine seq_skip (by rfl) HS (by rfl) ?_; (intro K hK; go_simp; refine hK _ ?_; clear hK K)))
              refine seq_dont (by rfl) (by rfl) (fun K hK => ?_); go_simp; refine hK _ _ (Or.inr HS) ?_; clear hK K
              iterate 12 (first | (refine seq_take (v := ?_) (by rfl) HS (by rfl) ?_ ?_; rotate_left; (focus (intro wS hS; obtain ⟨kc, kf⟩ := bcell hS; go_simp; (try (with_reducible rfl)); done)); (intro K hK; go_simp; refine hK _ ?_; clear hK K)) | (refine seq_skip (by rfl) HS (by rfl) ?_; (intro K hK; go_simp; refine hK _ ?_; clear hK K)))
              refine seq_dont (by rfl) (by rfl) (fun K hK => ?_); go_simp; refine hK _ _ (Or.inr HS) ?_; clear hK K
              iterate 3 (first | (refine seq_take (v := ?_) (by rfl) HS (by rfl) ?_ ?_; rotate_left; (focus (intro wS hS; obtain ⟨kc, kf⟩ := bcell hS; go_simp; (try (with_reducible rfl)); done)); (intro K hK; go_simp; refine hK _ ?_; clear hK K)) | (refine seq_skip (by rfl) HS (by rfl) ?_; (intro K hK; go_simp; refine hK _ ?_; clear hK K)))
              simp only [wpSeq]
              go_wp2
              go_ret
              exact ⟨by rw [HF.out]; rfl, bthen' hb (bthen' (balloc (Below.refl _ _) _) HS)⟩
          · replace t0 : inn xs[k].time 0 40 = false := by simpa using t0
            clear q1
            go_wp2
            refine region_plan (fun w' => Below (wr.alloc (.cells #[.int .i64 xs[k].time, .int .i64 xs[k].proc, .int .i64 xs[k].count, .int .i64 xs[k].n, .int .i64 xs[k].value] 128)).heap.size (wr.alloc (.cells #[.int .i64 xs[k].time, .int .i64 xs[k].proc, .int .i64 xs[k].count, .int .i64 xs[k].n, .int .i64 xs[k].value] 128)) w') [(0, true), (1, true), (2, false), (3, true), (4, true), (5, true), (6, true), (7, false), (8, true), (9, true), (10, true), (11, true), (12, true), (13, false), (14, true), (15, true), (16, true), (17, true), (18, true), (19, false), (20, true), (21, true), (22, true), (23, true), (24, true), (25, false), (26, true), (27, true), (28, true), (29, true), (30, true), (31, true), (32, true), (33, true), (34, true), (35, true), (36, true), (37, true), (38, false), (39, true), (40, true), (41, true)] (by kernel_rfl) (by kernel_rfl) (fun _ _ d _ _ h => by cases d <;> exact h) ?_
            have HS := (Below.refl (wr.alloc (.cells #[.int .i64 xs[k].time, .int .i64 xs[k].proc, .int .i64 xs[k].count, .int .i64 xs[k].n, .int .i64 xs[k].value] 128)).heap.size (wr.alloc (.cells #[.int .i64 xs[k].time, .int .i64 xs[k].proc, .int .i64 xs[k].count, .int .i64 xs[k].n, .int .i64 xs[k].value] 128))).drew
            iterate 2 (first | (refine seq_take (v := ?_) (by rfl) HS (by rfl) ?_ ?_; rotate_left; (focus (intro wS hS; obtain ⟨kc, kf⟩ := bcell hS; go_simp; (try (with_reducible rfl)); done)); (intro K hK; go_simp; refine hK _ ?_; clear hK K)) | (refine seq_skip (by rfl) HS (by rfl) ?_; (intro K hK; go_simp; refine hK _ ?_; clear hK K)))
            refine seq_do (by rfl) (by rfl) (fun K hK => ?_)
            go_simp; refine (l6In_c _ _ _ _).mono ?_; rintro e w1 ⟨he, rfl⟩; rw [t0] at he; subst he; refine hK _ _ (Or.inr HS) ?_; clear hK K
            iterate 4 (first | (refine seq_take (v := ?_) (by rfl) HS (by rfl) ?_ ?_; rotate_left; (focus (intro wS hS; obtain ⟨kc, kf⟩ := bcell hS; go_simp; (try (with_reducible rfl)); done)); (intro K hK; go_simp; refine hK _ ?_; clear hK K)) | (refine seq_skip (by rfl) HS (by rfl) ?_; (intro K hK; go_simp; refine hK _ ?_; clear hK K)))
            refine seq_dont (by rfl) (by rfl) (fun K hK => ?_); go_simp; refine hK _ _ (Or.inr HS) ?_; clear hK K
            iterate 5 (first | (refine seq_take (v := ?_) (by rfl) HS (by rfl) ?_ ?_; rotate_left; (focus (intro wS hS; obtain ⟨kc, kf⟩ := bcell hS; go_simp; (try (with_reducible rfl)); done)); (intro K hK; go_simp; refine hK _ ?_; clear hK K)) | (refine seq_skip (by rfl) HS (by rfl) ?_; (intro K hK; go_simp; refine hK _ ?_; clear hK K)))
            refine seq_dont (by rfl) (by rfl) (fun K hK => ?_); go_simp; refine hK _ _ (Or.inr HS) ?_; clear hK K
            iterate 5 (first | (refine seq_take (v := ?_) (by rfl) HS (by rfl) ?_ ?_; rotate_left; (focus (intro wS hS; obtain ⟨kc, kf⟩ := bcell hS; go_simp; (try (with_reducible rfl)); done)); (intro K hK; go_simp; refine hK _ ?_; clear hK K)) | (refine seq_skip (by rfl) HS (by rfl) ?_; (intro K hK; go_simp; refine hK _ ?_; clear hK K)))
            refine seq_dont (by rfl) (by rfl) (fun K hK => ?_); go_simp; refine hK _ _ (Or.inr HS) ?_; clear hK K
            iterate 5 (first | (refine seq_take (v := ?_) (by rfl) HS (by rfl) ?_ ?_; rotate_left; (focus (intro wS hS; obtain ⟨kc, kf⟩ := bcell hS; go_simp; (try (with_reducible rfl)); done)); (intro K hK; go_simp; refine hK _ ?_; clear hK K)) | (refine seq_skip (by rfl) HS (by rfl) ?_; (intro K hK; go_simp; refine hK _ ?_; clear hK K)))
            refine seq_dont (by rfl) (by rfl) (fun K hK => ?_); go_simp; refine hK _ _ (Or.inr HS) ?_; clear hK K
            iterate 12 (first | (refine seq_take (v := ?_) (by rfl) HS (by rfl) ?_ ?_; rotate_left; (focus (intro wS hS; obtain ⟨kc, kf⟩ := bcell hS; go_simp; (try (with_reducible rfl)); done)); (intro K hK; go_simp; refine hK _ ?_; clear hK K)) | (refine seq_skip (by rfl) HS (by rfl) ?_; (intro K hK; go_simp; refine hK _ ?_; clear hK K)))
            refine seq_dont (by rfl) (by rfl) (fun K hK => ?_); go_simp; refine hK _ _ (Or.inr HS) ?_; clear hK K
            iterate 3 (first | (refine seq_take (v := ?_) (by rfl) HS (by rfl) ?_ ?_; rotate_left; (focus (intro wS hS; obtain ⟨kc, kf⟩ := bcell hS; go_simp; (try (with_reducible rfl)); done)); (intro K hK; go_simp; refine hK _ ?_; clear hK K)) | (refine seq_skip (by rfl) HS (by rfl) ?_; (intro K hK; go_simp; refine hK _ ?_; clear hK K)))
            simp only [wpSeq]
            go_wp2
            go_ret
            exact ⟨by rw [HF.out]; rfl, bthen' hb (bthen' (balloc (Below.refl _ _) _) HS)⟩
      · have hkl : k = xs.length := by omega
        subst hkl
        have hall' := hal.out
        have has' := has.out
        rw [List.take_length] at hall' has'
        have HF := hid (show outsOk xs most = true by simp [outsOk, hall', has', HM.out])
        clear hall' has'
        go_wp2
        go_ret
        exact ⟨by rw [HF.out]; rfl, hb⟩
  · have hg : decide ((xs.length : Int) > most) = true := by simp; omega
    have HF := hid (show outsOk xs most = false by simp [outsOk]; intro h; omega)
    clear hm
    go_enter Tryz.func119, Tryz.ntmps119
    go_wp2
    go_ret
    exact ⟨by rw [HF.out]; rfl, Below.refl _ _⟩
end Go.Proofs.YtbcemldiahghcaaGreat

namespace Go.Proofs.YtbcemldiahghcaaGreat
set_option linter.unusedVariables false
set_option linter.unusedSimpArgs false
set_option maxRecDepth 100000
open Go.RowKit
theorem Rd.alloc {α : Type} {d : Ty α} {w : World} {F : Nat → Prop} {v : Value} {xs : List α} (h : Rd d w F v xs) (o : Obj) : Rd d (w.alloc o) F v xs := h.below (balloc (Below.refl _ _) o)
end Go.Proofs.YtbcemldiahghcaaGreat

namespace Go.Proofs.YtbcemldiahghcaaGreat
set_option linter.unusedVariables false
set_option linter.unusedSimpArgs false
set_option linter.unusedSectionVars false
section
variable {α : Type} [Inhabited α] {lt : α → α → Bool}
def shf (l : List α) (x : α) (n : Nat) : List α := (l ++ [x]).take (n + 1) ++ l.drop n
theorem shf_last (l : List α) (x : α) : shf l x l.length = l ++ [x] := by
  rw [shf, List.take_of_length_le (by simp), List.drop_length, List.append_nil]
theorem shf_len (l : List α) (x : α) {n : Nat} (h : n ≤ l.length) : (shf l x n).length = l.length + 1 := by
  simp [shf]; omega
theorem shf_at (l : List α) (x : α) {n : Nat} (h0 : 0 < n) (h : n ≤ l.length) (h2 : n - 1 < (shf l x n).length) : (shf l x n)[n - 1] = nth l (n - 1) := by
  rw [nth_eq (by omega)]
  simp only [shf]
  rw [List.getElem_append_left (by simp; omega), List.getElem_take, List.getElem_append_left (by omega)]
theorem shf_step (l : List α) (x : α) {n : Nat} (h0 : 0 < n) (h : n ≤ l.length) : (shf l x n).set n (nth l (n - 1)) = shf l x (n - 1) := by
  obtain ⟨m, rfl⟩ : ∃ m, n = m + 1 := ⟨n - 1, by omega⟩
  simp only [Nat.add_sub_cancel]
  rw [nth_eq (by omega)]
  have h1 : (l ++ [x]).take (m + 1 + 1) = (l ++ [x]).take (m + 1) ++ [(l ++ [x])[m + 1]'(by simp; omega)] := by rw [List.take_succ_eq_append_getElem]
  have h2 : ((l ++ [x]).take (m + 1)).length = m + 1 := by simp; omega
  have h3 : l.drop m = l[m] :: l.drop (m + 1) := by rw [List.drop_eq_getElem_cons (by omega)]
  rw [shf, shf, h1, h3, List.append_assoc, List.set_append, if_neg (by omega), h2]
  simp
theorem shf_end (l : List α) (x : α) {k : Nat} (h : k ≤ l.length) : (shf l x k).set k x = insAt l x k := by
  have h1 : (l ++ [x]).take (k + 1) = l.take k ++ [(l ++ [x])[k]'(by simp; omega)] := by
    rw [List.take_succ_eq_append_getElem (by simp; omega), List.take_append_of_le_length h]
  have h2 : (l.take k).length = k := by simp; omega
  rw [shf, h1, insAt, List.append_assoc, List.set_append, if_neg (by omega), h2]
  simp
theorem place_go {l : List α} {x : α} {k : Nat} (h0 : 0 < k) (h : lt x (nth l (k - 1)) = true) : place lt l x k = place lt l x (k - 1) := by
  obtain ⟨m, rfl⟩ : ∃ m, k = m + 1 := ⟨k - 1, by omega⟩
  simp only [Nat.add_sub_cancel] at h ⊢
  rw [place, if_pos h]
theorem place_stop {l : List α} {x : α} {k : Nat} (h : 0 < k → lt x (nth l (k - 1)) = false) : place lt l x k = k := by
  cases k with
  | zero => rfl
  | succ m =>
    have := h (by omega)
    simp only [Nat.add_sub_cancel] at this
    rw [place, if_neg (by simp [this])]
theorem fold_snoc {β : Type} (f : List α → α → List α) {l : List α} {k : Nat} (h : k < l.length) : (l.take (k + 1)).foldl f [] = f ((l.take k).foldl f []) l[k] := by
  rw [List.take_succ_eq_append_getElem h, List.foldl_append]
  rfl
theorem insOnce_len [DecidableEq α] (l : List α) (x : α) : (insOnce lt l x).length ≤ l.length + 1 := by
  unfold insOnce
  split
  · omega
  · have := place_le (lt := lt) l x l.length
    simp [insAt]; omega
theorem sortOnce_len [DecidableEq α] (xs : List α) : ∀ k, k ≤ xs.length → ((xs.take k).foldl (insOnce lt) []).length ≤ k
  | 0, _ => by simp
  | k + 1, h => by
    rw [fold_snoc (β := α) _ (by omega)]
    have := insOnce_len (lt := lt) ((xs.take k).foldl (insOnce lt) []) (xs[k]'(by omega))
    have := sortOnce_len xs k (by omega)
    omega
theorem sortAll_len (xs : List α) : ∀ k, k ≤ xs.length → ((xs.take k).foldl (insAll lt) []).length = k
  | 0, _ => by simp
  | k + 1, h => by
    rw [fold_snoc (β := α) _ (by omega)]
    have h1 := sortAll_len xs k (by omega)
    have := place_le (lt := lt) ((xs.take k).foldl (insAll lt) []) (xs[k]'(by omega)) ((xs.take k).foldl (insAll lt) []).length
    simp [insAll, insAt]; omega
end
end Go.Proofs.YtbcemldiahghcaaGreat
