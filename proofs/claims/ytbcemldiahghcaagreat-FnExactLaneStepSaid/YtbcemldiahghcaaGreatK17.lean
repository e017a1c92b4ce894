/- Texts joined: Imp10. -/
import Derived.Test.YtbcemldiahghcaaGreatK16
namespace Go.Proofs.YtbcemldiahghcaaGreat
set_option linter.unusedVariables false
set_option linter.unusedSimpArgs false
set_option maxRecDepth 100000
open Go.RowKit
set_option maxHeartbeats 4000000 in
theorem eventsOkI_c (v : Value) (xs : List EvD) (most : Int) (F : Nat → Prop) (w : World) (h : Rd tEv w F v xs) :
    Calls Tryz.prog 121 #[v, .int .i64 most] w fun e w' => e = .returned (.bool (evsOk xs most)) ∧ Below w.heap.size w w' := by
  obtain ⟨A, cp, rfl, -, hlen, -⟩ := id h
  by_cases hm : (xs.length : Int) ≤ most
  · have hg : decide ((xs.length : Int) > most) = false := by simp; omega
    have HM := hid hm
    clear hm
    go_enter Tryz.func121, Tryz.ntmps121
    go_wp2_with fail
    go_loopw [13] (fun i wr => ∃ k : Nat, i = .int .i64 k ∧ k ≤ xs.length ∧ Hid ((xs.take k).all evOk = true) ∧ Hid (ascB evLess (xs.take k) = true) ∧ Below w.heap.size w wr) (fun i _ => xs.length - (intOf i).toNat)
    case atStart => exact ⟨0, rfl, Nat.zero_le _, rfl, rfl, Below.refl _ _⟩
    case round =>
      obtain ⟨k, rfl, hk, hal, has, hb⟩ := hrel
      by_cases hlt : k < xs.length
      · have hrd : Rd tEv wr F (.slice A xs.length cp) xs := h.below hb
        obtain ⟨b0, o0, rfl, hb0, z0, z1, z2, z3, z4, z5, z6⟩ := ev_at hrd k hlt
        have p0 : (k : Int) < (xs.length : Int) := by omega
        go_upto_region 6 with fail
        have hrW := hrd.alloc (.cells #[.int .i64 xs[k].time, .int .i64 xs[k].to, .int .i64 xs[k].from_, .int .i64 xs[k].count, .int .i64 xs[k].n, .int .i64 xs[k].kind, .int .i64 xs[k].arg] 80)
        have hbW := hb.alloc hb.size (.cells #[.int .i64 xs[k].time, .int .i64 xs[k].to, .int .i64 xs[k].from_, .int .i64 xs[k].count, .int .i64 xs[k].n, .int .i64 xs[k].kind, .int .i64 xs[k].arg] 80)
        have Z : (wr.alloc (.cells #[.int .i64 xs[k].time, .int .i64 xs[k].to, .int .i64 xs[k].from_, .int .i64 xs[k].count, .int .i64 xs[k].n, .int .i64 xs[k].kind, .int .i64 xs[k].arg] 80)).heap[wr.heap.size]? = some (.cells #[.int .i64 xs[k].time, .int .i64 xs[k].to, .int .i64 xs[k].from_, .int .i64 xs[k].count, .int .i64 xs[k].n, .int .i64 xs[k].kind, .int .i64 xs[k].arg] 80 (0, 0)) := heap_at rfl
        clear z0 z1 z2 z3 z4 z5 z6 hrd hb0 hb
        obtain ⟨g, hgg⟩ : ∃ g, g = wr.heap.size := ⟨_, rfl⟩
        rw [← hgg] at Z
        simp only [← hgg]
        generalize wr.alloc (.cells #[.int .i64 xs[k].time, .int .i64 xs[k].to, .int .i64 xs[k].from_, .int .i64 xs[k].count, .int .i64 xs[k].n, .int .i64 xs[k].kind, .int .i64 xs[k].arg] 80) = W at *
        clear hgg
        obtain ⟨⟨z0, z1, z2, z3, z4, z5, z6⟩, -⟩ := cells7 Z
        by_cases q1 : evOk xs[k] = true
        · have al := hid (all_snoc hlt hal.out q1)
          have t0 : evOk ⟨xs[k].time, xs[k].to, xs[k].from_, xs[k].count, xs[k].n, xs[k].kind, xs[k].arg⟩ = true := q1
          clear q1
          by_cases q3 : k = 0
          · have as' := hid (show ascB evLess (xs.take (k + 1)) = true by rw [ascB_step _ hlt, has.out, if_pos q3]; rfl)
            have hkd : decide ((k : Int) > 0) = false := by simp; omega
            have hkn : decide (0 < k) = false := by simp; omega
            clear q3
            refine region_sg [.rd [0], .mid 1, .rd [2, 3, 4, 5, 6, 7, 8, 9, 10, 11, 12]] [13, 14, 15, 16] (by kernel_rfl) (by kernel_rfl) (fun _ _ d _ _ h => by cases d <;> exact h) ?_
            refine sg_rd (fun N hN => ?_)
            simp only [pickO, List.getElem?_toArray, List.getElem?_cons_zero, List.getElem?_cons_succ]
            go_wp2_with fail
            refine rd_next (hN _ ?_)
            clear hN N
            refine sg_mid (fun N hN => ?_)
            simp only [pickO, List.getElem?_toArray, List.getElem?_cons_zero, List.getElem?_cons_succ]
            go_wp2_with fail
            refine (eventOk_c _ _ _ _ _ _ _ _).mono ?_
            rintro e w5 ⟨he, hb5⟩
            rw [t0] at he
            subst he
            apply_assumption
            refine mid_next (Agree.of_below hb5) (hN _ _ ?_)
            clear hN
            refine sg_rd (fun N hN => ?_)
            simp only [pickO, List.getElem?_toArray, List.getElem?_cons_zero, List.getElem?_cons_succ]
            go_wp2_with fail
            refine rd_next (hN _ ?_)
            clear hN N
            refine sg_fin ?_
            simp only [pickO, List.getElem?_toArray, List.getElem?_cons_zero, List.getElem?_cons_succ]
            have hbE := bthen hbW (bthen' (Below.refl W.heap.size W).drew hb5) hbW.size
            go_wp2_with fail
            go_roundw
            case rel => exact ⟨k + 1, by go_num, by omega, al, as', hbE⟩
            case measure => simp [intOf]; omega
          · have hkd : decide ((k : Int) > 0) = true := by simp; omega
            have hkn : decide (0 < k) = true := by simp; omega
            have p1 : (0 : Int) ≤ (k : Int) - 1 := by omega
            have p2 : (k : Int) - 1 < (xs.length : Int) := by omega
            have p3 : (1 : Int) ≤ (k : Int) := by omega
            have p4 : 1 ≤ k := by omega
            have hck : ((k : Int) - 1).toNat = k - 1 := by omega
            obtain ⟨b2, o2, hA2, hbb2, y0, y1, y2, y3, y4, y5, y6⟩ := ev_at hrW (k - 1) (by omega)
            injection hA2 with hA2
            injection hA2 with e1 e2 _
            subst e1 e2
            obtain ⟨t2, q4⟩ : ∃ t, evLess xs[k-1] xs[k] = t := ⟨_, rfl⟩
            have hT := hid (show ascB evLess (xs.take (k + 1)) = t2 by rw [ascB_step _ hlt, has.out, if_neg (by omega)]; simpa using q4)
            clear q3
            refine region_sg [.rd [0], .mid 1, .rd [2, 3, 4, 5, 6, 7, 8, 9, 10, 11, 12]] [13, 14, 15, 16] (by kernel_rfl) (by kernel_rfl) (fun _ _ d _ _ h => by cases d <;> exact h) ?_
            refine sg_rd (fun N hN => ?_)
            simp only [pickO, List.getElem?_toArray, List.getElem?_cons_zero, List.getElem?_cons_succ]
            go_wp2_with fail
            refine rd_next (hN _ ?_)
            clear hN N
            refine sg_mid (fun N hN => ?_)
            simp only [pickO, List.getElem?_toArray, List.getElem?_cons_zero, List.getElem?_cons_succ]
            go_wp2_with fail
            refine (eventOk_c _ _ _ _ _ _ _ _).mono ?_
            rintro e w5 ⟨he, hb5⟩
            rw [t0] at he
            subst he
            apply_assumption
            refine mid_next (Agree.of_below hb5) (hN _ _ ?_)
            clear hN
            refine sg_rd (fun N hN => ?_)
            simp only [pickO, List.getElem?_toArray, List.getElem?_cons_zero, List.getElem?_cons_succ]
            go_wp2_with fail
            refine rd_next (hN _ ?_)
            clear hN N
            refine sg_fin ?_
            simp only [pickO, List.getElem?_toArray, List.getElem?_cons_zero, List.getElem?_cons_succ]
            have hb5W := bthen hbW (bthen' (Below.refl W.heap.size W).drew hb5) hbW.size
            go_wp2_with fail
            refine (EventLessI_c xs[k-1] xs[k] _).mono ?_
            rintro e w6 ⟨he, hb6⟩
            rw [q4] at he
            subst he
            apply_assumption
            have hbE := bthen hb5W hb6 hb5W.size
            cases t2
            case true =>
              go_wp2_with fail
              go_roundw
              case rel => exact ⟨k + 1, by go_num, by omega, al, hT, hbE⟩
              case measure => simp [intOf]; omega
            case false =>
              have HF := hid (show evsOk xs most = false by simp [evsOk, ascB_take _ hT.out])
              go_wp2_with fail
              go_ret
              exact ⟨by rw [HF.out]; rfl, hbE⟩
        · replace q1 : evOk xs[k] = false := by simpa using q1
          have HF := hid (show evsOk xs most = false by simp [evsOk, all_false hlt q1])
          have t0 : evOk ⟨xs[k].time, xs[k].to, xs[k].from_, xs[k].count, xs[k].n, xs[k].kind, xs[k].arg⟩ = false := q1
          clear q1
          refine region_sg [.rd [0], .mid 1, .rd [2, 3, 4, 5, 6, 7, 8, 9, 10, 11, 12]] [13, 14, 15, 16] (by kernel_rfl) (by kernel_rfl) (fun _ _ d _ _ h => by cases d <;> exact h) ?_
          refine sg_rd (fun N hN => ?_)
          simp only [pickO, List.getElem?_toArray, List.getElem?_cons_zero, List.getElem?_cons_succ]
          go_wp2_with fail
          refine rd_next (hN _ ?_)
          clear hN N
          refine sg_mid (fun N hN => ?_)
          simp only [pickO, List.getElem?_toArray, List.getElem?_cons_zero, List.getElem?_cons_succ]
          go_wp2_with fail
          refine (eventOk_c _ _ _ _ _ _ _ _).mono ?_
          rintro e w5 ⟨he, hb5⟩
          rw [t0] at he
          subst he
          apply_assumption
          refine mid_next (Agree.of_below hb5) (hN _ _ ?_)
          clear hN
          refine sg_rd (fun N hN => ?_)
          simp only [pickO, List.getElem?_toArray, List.getElem?_cons_zero, List.getElem?_cons_succ]
          go_wp2_with fail
          refine rd_next (hN _ ?_)
          clear hN N
          refine sg_fin ?_
          simp only [pickO, List.getElem?_toArray, List.getElem?_cons_zero, List.getElem?_cons_succ]
          have hbE := bthen hbW (bthen' (Below.refl W.heap.size W).drew hb5) hbW.size
          go_wp2_with fail
          go_ret
          exact ⟨by rw [HF.out]; rfl, hbE⟩
      · have hkl : k = xs.length := by omega
        subst hkl
        have h1 := hal.out
        have h2 := has.out
        rw [List.take_length] at h1 h2
        have HF := hid (show evsOk xs most = true by simp [evsOk, h1, h2, HM.out])
        clear h1 h2
        go_wp2_with fail
        go_ret
        exact ⟨by rw [HF.out]; rfl, hb⟩
  · have hg : decide ((xs.length : Int) > most) = true := by simp; omega
    have HF := hid (show evsOk xs most = false by simp [evsOk]; intro h; omega)
    clear hm
    go_enter Tryz.func121, Tryz.ntmps121
    go_wp2_with fail
    go_ret
    exact ⟨by rw [HF.out]; rfl, Below.refl _ _⟩
set_option maxHeartbeats 4000000 in
theorem outsOkI_c (v : Value) (xs : List OutD) (most : Int) (F : Nat → Prop) (w : World) (h : Rd tOut w F v xs) :
    Calls Tryz.prog 122 #[v, .int .i64 most] w fun e w' => e = .returned (.bool (outsOk xs most)) ∧ Below w.heap.size w w' := by
  obtain ⟨A, cp, rfl, -, hlen, -⟩ := id h
  by_cases hm : (xs.length : Int) ≤ most
  · have hg : decide ((xs.length : Int) > most) = false := by simp; omega
    have HM := hid hm
    clear hm
    go_enter Tryz.func122, Tryz.ntmps122
    go_wp2_with fail
    go_loopw [14] (fun i wr => ∃ k : Nat, i = .int .i64 k ∧ k ≤ xs.length ∧ Hid ((xs.take k).all outOk = true) ∧ Hid (ascB outLess (xs.take k) = true) ∧ Below w.heap.size w wr) (fun i _ => xs.length - (intOf i).toNat)
    case atStart => exact ⟨0, rfl, Nat.zero_le _, rfl, rfl, Below.refl _ _⟩
    case round =>
      obtain ⟨k, rfl, hk, hal, has, hb⟩ := hrel
      by_cases hlt : k < xs.length
      · have hrd : Rd tOut wr F (.slice A xs.length cp) xs := h.below hb
        obtain ⟨b0, o0, rfl, hb0, z0, z1, z2, z3, z4⟩ := out_at hrd k hlt
        have p0 : (k : Int) < (xs.length : Int) := by omega
        go_upto_region 6 with fail
        have hrW := hrd.alloc (.cells #[.int .i64 xs[k].time, .int .i64 xs[k].proc, .int .i64 xs[k].count, .int .i64 xs[k].n, .int .i64 xs[k].value] 128)
        have hbW := hb.alloc hb.size (.cells #[.int .i64 xs[k].time, .int .i64 xs[k].proc, .int .i64 xs[k].count, .int .i64 xs[k].n, .int .i64 xs[k].value] 128)
        have Z : (wr.alloc (.cells #[.int .i64 xs[k].time, .int .i64 xs[k].proc, .int .i64 xs[k].count, .int .i64 xs[k].n, .int .i64 xs[k].value] 128)).heap[wr.heap.size]? = some (.cells #[.int .i64 xs[k].time, .int .i64 xs[k].proc, .int .i64 xs[k].count, .int .i64 xs[k].n, .int .i64 xs[k].value] 128 (0, 0)) := heap_at rfl
        clear z0 z1 z2 z3 z4 hrd hb0 hb
        obtain ⟨g, hgg⟩ : ∃ g, g = wr.heap.size := ⟨_, rfl⟩
        rw [← hgg] at Z
        simp only [← hgg]
        generalize wr.alloc (.cells #[.int .i64 xs[k].time, .int .i64 xs[k].proc, .int .i64 xs[k].count, .int .i64 xs[k].n, .int .i64 xs[k].value] 128) = W at *
        clear hgg
        obtain ⟨z0, z1, z2, z3, z4, -⟩ := cells5 Z
        go_cut [7] (fun t wc => t = .bool (outOk xs[k]) ∧ wc = W)
        case first =>
          go_wp2_with (first | (go_at_call 146; refine (within_c _ _ _ _).mono ?_; rintro e w1 ⟨rfl, rfl⟩) | (go_at_call 104; refine (isProc_c _ _).mono ?_; rintro e w1 ⟨rfl, rfl⟩) | (go_at_call 147; refine (isNum_c _ _).mono ?_; rintro e w1 ⟨rfl, rfl⟩))
          all_goals
            go_meet
            exact ⟨by simp [outOk, *], rfl⟩
        case' rest => obtain ⟨rfl, rfl⟩ := hcut
        by_cases q1 : outOk xs[k] = true
        · have al := hid (all_snoc hlt hal.out q1)
          by_cases q3 : k = 0
          · have as' := hid (show ascB outLess (xs.take (k + 1)) = true by rw [ascB_step _ hlt, has.out, if_pos q3]; rfl)
            have hkd : decide ((k : Int) > 0) = false := by simp; omega
            have hkn : decide (0 < k) = false := by simp; omega
            clear q3
            go_upto_region 7 with fail
            refine region_sg [.rd [0, 1, 2, 3, 4, 5, 6, 7, 8, 9, 10, 11]] [12, 13, 14, 15] (by kernel_rfl) (by kernel_rfl) (fun _ _ d _ _ h => by cases d <;> exact h) ?_
            refine sg_rd (fun N hN => ?_)
            simp only [pickO, List.getElem?_toArray, List.getElem?_cons_zero, List.getElem?_cons_succ]
            go_wp2_with fail
            refine rd_next (hN _ ?_)
            clear hN N
            refine sg_fin ?_
            simp only [pickO, List.getElem?_toArray, List.getElem?_cons_zero, List.getElem?_cons_succ]
            have hbE := hbW.drew
            go_wp2_with fail
            go_roundw
            case rel => exact ⟨k + 1, by go_num, by omega, al, as', hbE⟩
            case measure => simp [intOf]; omega
          · have hkd : decide ((k : Int) > 0) = true := by simp; omega
            have hkn : decide (0 < k) = true := by simp; omega
            have p1 : (0 : Int) ≤ (k : Int) - 1 := by omega
            have p2 : (k : Int) - 1 < (xs.length : Int) := by omega
            have p3 : (1 : Int) ≤ (k : Int) := by omega
            have p4 : 1 ≤ k := by omega
            have hck : ((k : Int) - 1).toNat = k - 1 := by omega
            obtain ⟨b2, o2, hA2, hbb2, y0, y1, y2, y3, y4⟩ := out_at hrW (k - 1) (by omega)
            injection hA2 with hA2
            injection hA2 with e1 e2 _
            subst e1 e2
            obtain ⟨t2, q4⟩ : ∃ t, outLess xs[k-1] xs[k] = t := ⟨_, rfl⟩
            have hT := hid (show ascB outLess (xs.take (k + 1)) = t2 by rw [ascB_step _ hlt, has.out, if_neg (by omega)]; simpa using q4)
            clear q3
            go_upto_region 7 with fail
            refine region_sg [.rd [0, 1, 2, 3, 4, 5, 6, 7, 8, 9, 10, 11]] [12, 13, 14, 15] (by kernel_rfl) (by kernel_rfl) (fun _ _ d _ _ h => by cases d <;> exact h) ?_
            refine sg_rd (fun N hN => ?_)
            simp only [pickO, List.getElem?_toArray, List.getElem?_cons_zero, List.getElem?_cons_succ]
            go_wp2_with fail
            refine rd_next (hN _ ?_)
            clear hN N
            refine sg_fin ?_
            simp only [pickO, List.getElem?_toArray, List.getElem?_cons_zero, List.getElem?_cons_succ]
            have hb5W := hbW.drew
            go_wp2_with fail
            refine (OutLessI_c xs[k-1] xs[k] _).mono ?_
            rintro e w6 ⟨he, hb6⟩
            rw [q4] at he
            subst he
            apply_assumption
            have hbE := bthen hb5W hb6 hb5W.size
            cases t2
            case true =>
              go_wp2_with fail
              go_roundw
              case rel => exact ⟨k + 1, by go_num, by omega, al, hT, hbE⟩
              case measure => simp [intOf]; omega
            case false =>
              have HF := hid (show outsOk xs most = false by simp [outsOk, ascB_take _ hT.out])
              go_wp2_with fail
              go_ret
              exact ⟨by rw [HF.out]; rfl, hbE⟩
        · replace q1 : outOk xs[k] = false := by simpa using q1
          have HF := hid (show outsOk xs most = false by simp [outsOk, all_false hlt q1])
          go_upto_region 7 with fail
          refine region_sg [.rd [0, 1, 2, 3, 4, 5, 6, 7, 8, 9, 10, 11]] [12, 13, 14, 15] (by kernel_rfl) (by kernel_rfl) (fun _ _ d _ _ h => by cases d <;> exact h) ?_
          refine sg_rd (fun N hN => ?_)
          simp only [pickO, List.getElem?_toArray, List.getElem?_cons_zero, List.getElem?_cons_succ]
          go_wp2_with fail
          refine rd_next (hN _ ?_)
          clear hN N
          refine sg_fin ?_
          simp only [pickO, List.getElem?_toArray, List.getElem?_cons_zero, List.getElem?_cons_succ]
          have hbE := hbW.drew
          go_wp2_with fail
          go_ret
          exact ⟨by rw [HF.out]; rfl, hbE⟩
      · have hkl : k = xs.length := by omega
        subst hkl
        have h1 := hal.out
        have h2 := has.out
        rw [List.take_length] at h1 h2
        have HF := hid (show outsOk xs most = true by simp [outsOk, h1, h2, HM.out])
        clear h1 h2
        go_wp2_with fail
        go_ret
        exact ⟨by rw [HF.out]; rfl, hb⟩
  · have hg : decide ((xs.length : Int) > most) = true := by simp; omega
    have HF := hid (show outsOk xs most = false by simp [outsOk]; intro h; omega)
    clear hm
    go_enter Tryz.func122, Tryz.ntmps122
    go_wp2_with fail
    go_ret
    exact ⟨by rw [HF.out]; rfl, Below.refl _ _⟩
end Go.Proofs.YtbcemldiahghcaaGreat
