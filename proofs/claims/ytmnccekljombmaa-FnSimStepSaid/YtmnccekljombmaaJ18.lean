/- Texts joined: Imp10, Imp11, Imp12. -/
import Derived.Test.YtmnccekljombmaaJ17
import Derived.Test.YtmnccekljombmaaJ08
import Derived.Lib.AppendZeros
namespace Go.Proofs.Ytmnccekljombmaa
set_option linter.unusedVariables false
set_option linter.unusedSimpArgs false
set_option maxRecDepth 100000
open Go.RowKit
set_option maxHeartbeats 4000000 in
theorem eventsOkI_c (v : Value) (xs : List EvD) (most : Int) (F : Nat → Prop) (w : World) (h : Rd tEv w F v xs) :
    Calls Try.prog 67 #[v, .int .i64 most] w fun e w' => e = .returned (.bool (evsOk xs most)) ∧ Below w.heap.size w w' := by
  obtain ⟨A, cp, rfl, -, hlen, -⟩ := id h
  by_cases hm : (xs.length : Int) ≤ most
  · have hg : decide ((xs.length : Int) > most) = false := by simp; omega
    have HM := hid hm
    clear hm
    go_enter Try.func67, Try.ntmps67
    go_wp2_with fail
    go_loopw [13] (fun i wr => ∃ k : Nat, i = .int .i64 k ∧ k ≤ xs.length ∧ Hid ((xs.take k).all evOk = true) ∧ Hid (ascB evLess (xs.take k) = true) ∧ Below w.heap.size w wr) (fun i _ => xs.length - (intOf i).toNat)
    case atStart => exact ⟨0, rfl, Nat.zero_le _, rfl, rfl, Below.refl _ _⟩
    case round =>
      obtain ⟨k, rfl, hk, hal, has, hb⟩ := hrel
      by_cases hlt : k < xs.length
      · have hrd : Rd tEv wr F (.slice A xs.length cp) xs := h.below hb
        obtain ⟨b0, o0, rfl, hb0, z0, z1, z2, z3, z4, z5, z6⟩ := ev_at hrd k hlt
        have p0 : (k : Int) < (xs.length : Int) := by omega
        go_upto_region 6 with fail
        have hrW := hrd.alloc (.cells #[.int .i64 xs[k].time, .int .i64 xs[k].to, .int .i64 xs[k].from_, .int .i64 xs[k].count, .int .i64 xs[k].n, .int .i64 xs[k].kind, .int .i64 xs[k].arg] 29)
        have hbW := hb.alloc hb.size (.cells #[.int .i64 xs[k].time, .int .i64 xs[k].to, .int .i64 xs[k].from_, .int .i64 xs[k].count, .int .i64 xs[k].n, .int .i64 xs[k].kind, .int .i64 xs[k].arg] 29)
        have Z : (wr.alloc (.cells #[.int .i64 xs[k].time, .int .i64 xs[k].to, .int .i64 xs[k].from_, .int .i64 xs[k].count, .int .i64 xs[k].n, .int .i64 xs[k].kind, .int .i64 xs[k].arg] 29)).heap[wr.heap.size]? = some (.cells #[.int .i64 xs[k].time, .int .i64 xs[k].to, .int .i64 xs[k].from_, .int .i64 xs[k].count, .int .i64 xs[k].n, .int .i64 xs[k].kind, .int .i64 xs[k].arg] 29 (0, 0)) := heap_at rfl
        clear z0 z1 z2 z3 z4 z5 z6 hrd hb0 hb
        obtain ⟨g, hgg⟩ : ∃ g, g = wr.heap.size := ⟨_, rfl⟩
        rw [← hgg] at Z
        simp only [← hgg]
        generalize wr.alloc (.cells #[.int .i64 xs[k].time, .int .i64 xs[k].to, .int .i64 xs[k].from_, .int .i64 xs[k].count, .int .i64 xs[k].n, .int .i64 xs[k].kind, .int .i64 xs[k].arg] 29) = W at *
        clear hgg
        obtain ⟨⟨z0, z1, z2, z3, z4, z5, z6⟩, -⟩ := cells7 Z
        by_cases q1 : evOk xs[k] = true
        · have al := hid (all_snoc hlt hal.out q1)
          have t0 : evOk ⟨xs[k].time, xs[k].to, xs[k].from_, xs[k].count, xs[k].n, xs[k].kind, xs[k].arg⟩ = true := q1
          clear q1
          by_cases q3 : k = 0
          · have as' := hid (show ascB evLess (xs.take (k + 1)) = true by rw [ascB_step _ hlt, has.out, if_pos q3]; rfl)
            have hkd : decide ((k : Int) > 0) = false := by simp; omega
            have hkn : decide (0 < k) = false := by simp; omega
            clear q3
            refine region_sg [.rd [0], .mid 1, .rd [2, 3, 4, 5, 6, 7, 8, 9, 10, 11, 12]] [13, 14, 15, 16] (by kernel_rfl) (by kernel_rfl) (fun _ _ d _ _ h => by cases d <;> exact h) ?_
            refine sg_rd (fun N hN => ?_)
            simp only [pickO, List.getElem?_toArray, List.getElem?_cons_zero, List.getElem?_cons_succ]
            go_wp2_with fail
            refine rd_next (hN _ ?_)
            clear hN N
            refine sg_mid (fun N hN => ?_)
            simp only [pickO, List.getElem?_toArray, List.getElem?_cons_zero, List.getElem?_cons_succ]
            go_wp2_with fail
            refine (eventOk_c _ _ _ _ _ _ _ _).mono ?_
            rintro e w5 ⟨he, hb5⟩
            rw [t0] at he
            subst he
            apply_assumption
            refine mid_next (Agree.of_below hb5) (hN _ _ ?_)
            clear hN
            refine sg_rd (fun N hN => ?_)
            simp only [pickO, List.getElem?_toArray, List.getElem?_cons_zero, List.getElem?_cons_succ]
            go_wp2_with fail
            refine rd_next (hN _ ?_)
            clear hN N
            refine sg_fin ?_
            simp only [pickO, List.getElem?_toArray, List.getElem?_cons_zero, List.getElem?_cons_succ]
            have hbE := bthen hbW (bthen' (Below.refl W.heap.size W).drew hb5) hbW.size
            go_wp2_with fail
            go_roundw
            case rel => exact ⟨k + 1, by go_num, by omega, al, as', hbE⟩
            case measure => simp [intOf]; omega
          · have hkd : decide ((k : Int) > 0) = true := by simp; omega
            have hkn : decide (0 < k) = true := by simp; omega
            have p1 : (0 : Int) ≤ (k : Int) - 1 := by omega
            have p2 : (k : Int) - 1 < (xs.length : Int) := by omega
            have p3 : (1 : Int) ≤ (k : Int) := by omega
            have p4 : 1 ≤ k := by omega
            have hck : ((k : Int) - 1).toNat = k - 1 := by omega
            obtain ⟨b2, o2, hA2, hbb2, y0, y1, y2, y3, y4, y5, y6⟩ := ev_at hrW (k - 1) (by omega)
            injection hA2 with hA2
            injection hA2 with e1 e2 _
            subst e1 e2
            obtain ⟨t2, q4⟩ : ∃ t, evLess xs[k-1] xs[k] = t := ⟨_, rfl⟩
            have hT := hid (show ascB evLess (xs.take (k + 1)) = t2 by rw [ascB_step _ hlt, has.out, if_neg (by omega)]; simpa using q4)
            clear q3
            refine region_sg [.rd [0], .mid 1, .rd [2, 3, 4, 5, 6, 7, 8, 9, 10, 11, 12]] [13, 14, 15, 16] (by kernel_rfl) (by kernel_rfl) (fun _ _ d _ _ h => by cases d <;> exact h) ?_
            refine sg_rd (fun N hN => ?_)
            simp only [pickO, List.getElem?_toArray, List.getElem?_cons_zero, List.getElem?_cons_succ]
            go_wp2_with fail
            refine rd_next (hN _ ?_)
            clear hN N
            refine sg_mid (fun N hN => ?_)
            simp only [pickO, List.getElem?_toArray, List.getElem?_cons_zero, List.getElem?_cons_succ]
            go_wp2_with fail
            refine (eventOk_c _ _ _ _ _ _ _ _).mono ?_
            rintro e w5 ⟨he, hb5⟩
            rw [t0] at he
            subst he
            apply_assumption
            refine mid_next (Agree.of_below hb5) (hN _ _ ?_)
            clear hN
            refine sg_rd (fun N hN => ?_)
            simp only [pickO, List.getElem?_toArray, List.getElem?_cons_zero, List.getElem?_cons_succ]
            go_wp2_with fail
            refine rd_next (hN _ ?_)
            clear hN N
            refine sg_fin ?_
            simp only [pickO, List.getElem?_toArray, List.getElem?_cons_zero, List.getElem?_cons_succ]
            have hb5W := bthen hbW (bthen' (Below.refl W.heap.size W).drew hb5) hbW.size
            go_wp2_with fail
            refine (EventLessI_c xs[k-1] xs[k] _).mono ?_
            rintro e w6 ⟨he, hb6⟩
            rw [q4] at he
            subst he
            apply_assumption
            have hbE := bthen hb5W hb6 hb5W.size
            cases t2
            case true =>
              go_wp2_with fail
              go_roundw
              case rel => exact ⟨k + 1, by go_num, by omega, al, hT, hbE⟩
              case measure => simp [intOf]; omega
            case false =>
              have HF := hid (show evsOk xs most = false by simp [evsOk, ascB_take _ hT.out])
              go_wp2_with fail
              go_ret
              exact ⟨by rw [HF.out]; rfl, hbE⟩
        · replace q1 : evOk xs[k] = false := by simpa using q1
          have HF := hid (show evsOk xs most = false by simp [evsOk, all_false hlt q1])
          have t0 : evOk ⟨xs[k].time, xs[k].to, xs[k].from_, xs[k].count, xs[k].n, xs[k].kind, xs[k].arg⟩ = false := q1
          clear q1
          refine region_sg [.rd [0], .mid 1, .rd [2, 3, 4, 5, 6, 7, 8, 9, 10, 11, 12]] [13, 14, 15, 16] (by kernel_rfl) (by kernel_rfl) (fun _ _ d _ _ h => by cases d <;> exact h) ?_
          refine sg_rd (fun N hN => ?_)
          simp only [pickO, List.getElem?_toArray, List.getElem?_cons_zero, List.getElem?_cons_succ]
          go_wp2_with fail
          refine rd_next (hN _ ?_)
          clear hN N
          refine sg_mid (fun N hN => ?_)
          simp only [pickO, List.getElem?_toArray, List.getElem?_cons_zero, List.getElem?_cons_succ]
          go_wp2_with fail
          refine (eventOk_c _ _ _ _ _ _ _ _).mono ?_
          rintro e w5 ⟨he, hb5⟩
          rw [t0] at he
          subst he
          apply_assumption
          refine mid_next (Agree.of_below hb5) (hN _ _ ?_)
          clear hN
          refine sg_rd (fun N hN => ?_)
          simp only [pickO, List.getElem?_toArray, List.getElem?_cons_zero, List.getElem?_cons_succ]
          go_wp2_with fail
          refine rd_next (hN _ ?_)
          clear hN N
          refine sg_fin ?_
          simp only [pickO, List.getElem?_toArray, List.getElem?_cons_zero, List.getElem?_cons_succ]
          have hbE := bthen hbW (bthen' (Below.refl W.heap.size W).drew hb5) hbW.size
          go_wp2_with fail
          go_ret
          exact ⟨by rw [HF.out]; rfl, hbE⟩
      · have hkl : k = xs.length := by omega
        subst hkl
        have h1 := hal.out
        have h2 := has.out
        rw [List.take_length] at h1 h2
        have HF := hid (show evsOk xs most = true by simp [evsOk, h1, h2, HM.out])
        clear h1 h2
        go_wp2_with fail
        go_ret
        exact ⟨by rw [HF.out]; rfl, hb⟩
  · have hg : decide ((xs.length : Int) > most) = true := by simp; omega
    have HF := hid (show evsOk xs most = false by simp [evsOk]; intro h; omega)
    clear hm
    go_enter Try.func67, Try.ntmps67
    go_wp2_with fail
    go_ret
    exact ⟨by rw [HF.out]; rfl, Below.refl _ _⟩
set_option maxHeartbeats 4000000 in
theorem outsOkI_c (v : Value) (xs : List OutD) (most : Int) (F : Nat → Prop) (w : World) (h : Rd tOut w F v xs) :
    Calls Try.prog 68 #[v, .int .i64 most] w fun e w' => e = .returned (.bool (outsOk xs most)) ∧ Below w.heap.size w w' := by
  obtain ⟨A, cp, rfl, -, hlen, -⟩ := id h
  by_cases hm : (xs.length : Int) ≤ most
  · have hg : decide ((xs.length : Int) > most) = false := by simp; omega
    have HM := hid hm
    clear hm
    go_enter Try.func68, Try.ntmps68
    go_wp2_with fail
    go_loopw [14] (fun i wr => ∃ k : Nat, i = .int .i64 k ∧ k ≤ xs.length ∧ Hid ((xs.take k).all outOk = true) ∧ Hid (ascB outLess (xs.take k) = true) ∧ Below w.heap.size w wr) (fun i _ => xs.length - (intOf i).toNat)
    case atStart => exact ⟨0, rfl, Nat.zero_le _, rfl, rfl, Below.refl _ _⟩
    case round =>
      obtain ⟨k, rfl, hk, hal, has, hb⟩ := hrel
      by_cases hlt : k < xs.length
      · have hrd : Rd tOut wr F (.slice A xs.length cp) xs := h.below hb
        obtain ⟨b0, o0, rfl, hb0, z0, z1, z2, z3, z4⟩ := out_at hrd k hlt
        have p0 : (k : Int) < (xs.length : Int) := by omega
        go_upto_region 6 with fail
        have hrW := hrd.alloc (.cells #[.int .i64 xs[k].time, .int .i64 xs[k].proc, .int .i64 xs[k].count, .int .i64 xs[k].n, .int .i64 xs[k].value] 43)
        have hbW := hb.alloc hb.size (.cells #[.int .i64 xs[k].time, .int .i64 xs[k].proc, .int .i64 xs[k].count, .int .i64 xs[k].n, .int .i64 xs[k].value] 43)
        have Z : (wr.alloc (.cells #[.int .i64 xs[k].time, .int .i64 xs[k].proc, .int .i64 xs[k].count, .int .i64 xs[k].n, .int .i64 xs[k].value] 43)).heap[wr.heap.size]? = some (.cells #[.int .i64 xs[k].time, .int .i64 xs[k].proc, .int .i64 xs[k].count, .int .i64 xs[k].n, .int .i64 xs[k].value] 43 (0, 0)) := heap_at rfl
        clear z0 z1 z2 z3 z4 hrd hb0 hb
        obtain ⟨g, hgg⟩ : ∃ g, g = wr.heap.size := ⟨_, rfl⟩
        rw [← hgg] at Z
        simp only [← hgg]
        generalize wr.alloc (.cells #[.int .i64 xs[k].time, .int .i64 xs[k].proc, .int .i64 xs[k].count, .int .i64 xs[k].n, .int .i64 xs[k].value] 43) = W at *
        clear hgg
        obtain ⟨z0, z1, z2, z3, z4, -⟩ := cells5 Z
        go_cut [7] (fun t wc => t = .bool (outOk xs[k]) ∧ wc = W)
        case first =>
          go_wp2_with (first | (go_at_call 98; refine (within_c _ _ _ _).mono ?_; rintro e w1 ⟨rfl, rfl⟩) | (go_at_call 99; refine (isProc_c _ _).mono ?_; rintro e w1 ⟨rfl, rfl⟩) | (go_at_call 97; refine (isNum_c _ _).mono ?_; rintro e w1 ⟨rfl, rfl⟩))
          all_goals
            go_meet
            exact ⟨by simp [outOk, *], rfl⟩
        case' rest => obtain ⟨rfl, rfl⟩ := hcut
        by_cases q1 : outOk xs[k] = true
        · have al := hid (all_snoc hlt hal.out q1)
          by_cases q3 : k = 0
          · have as' := hid (show ascB outLess (xs.take (k + 1)) = true by rw [ascB_step _ hlt, has.out, if_pos q3]; rfl)
            have hkd : decide ((k : Int) > 0) = false := by simp; omega
            have hkn : decide (0 < k) = false := by simp; omega
            clear q3
            go_upto_region 7 with fail
            refine region_sg [.rd [0, 1, 2, 3, 4, 5, 6, 7, 8, 9, 10, 11]] [12, 13, 14, 15] (by kernel_rfl) (by kernel_rfl) (fun _ _ d _ _ h => by cases d <;> exact h) ?_
            refine sg_rd (fun N hN => ?_)
            simp only [pickO, List.getElem?_toArray, List.getElem?_cons_zero, List.getElem?_cons_succ]
            go_wp2_with fail
            refine rd_next (hN _ ?_)
            clear hN N
            refine sg_fin ?_
            simp only [pickO, List.getElem?_toArray, List.getElem?_cons_zero, List.getElem?_cons_succ]
            have hbE := hbW.drew
            go_wp2_with fail
            go_roundw
            case rel => exact ⟨k + 1, by go_num, by omega, al, as', hbE⟩
            case measure => simp [intOf]; omega
          · have hkd : decide ((k : Int) > 0) = true := by simp; omega
            have hkn : decide (0 < k) = true := by simp; omega
            have p1 : (0 : Int) ≤ (k : Int) - 1 := by omega
            have p2 : (k : Int) - 1 < (xs.length : Int) := by omega
            have p3 : (1 : Int) ≤ (k : Int) := by omega
            have p4 : 1 ≤ k := by omega
            have hck : ((k : Int) - 1).toNat = k - 1 := by omega
            obtain ⟨b2, o2, hA2, hbb2, y0, y1, y2, y3, y4⟩ := out_at hrW (k - 1) (by omega)
            injection hA2 with hA2
            injection hA2 with e1 e2 _
            subst e1 e2
            obtain ⟨t2, q4⟩ : ∃ t, outLess xs[k-1] xs[k] = t := ⟨_, rfl⟩
            have hT := hid (show ascB outLess (xs.take (k + 1)) = t2 by rw [ascB_step _ hlt, has.out, if_neg (by omega)]; simpa using q4)
            clear q3
            go_upto_region 7 with fail
            refine region_sg [.rd [0, 1, 2, 3, 4, 5, 6, 7, 8, 9, 10, 11]] [12, 13, 14, 15] (by kernel_rfl) (by kernel_rfl) (fun _ _ d _ _ h => by cases d <;> exact h) ?_
            refine sg_rd (fun N hN => ?_)
            simp only [pickO, List.getElem?_toArray, List.getElem?_cons_zero, List.getElem?_cons_succ]
            go_wp2_with fail
            refine rd_next (hN _ ?_)
            clear hN N
            refine sg_fin ?_
            simp only [pickO, List.getElem?_toArray, List.getElem?_cons_zero, List.getElem?_cons_succ]
            have hb5W := hbW.drew
            go_wp2_with fail
            refine (OutLessI_c xs[k-1] xs[k] _).mono ?_
            rintro e w6 ⟨he, hb6⟩
            rw [q4] at he
            subst he
            apply_assumption
            have hbE := bthen hb5W hb6 hb5W.size
            cases t2
            case true =>
              go_wp2_with fail
              go_roundw
              case rel => exact ⟨k + 1, by go_num, by omega, al, hT, hbE⟩
              case measure => simp [intOf]; omega
            case false =>
              have HF := hid (show outsOk xs most = false by simp [outsOk, ascB_take _ hT.out])
              go_wp2_with fail
              go_ret
              exact ⟨by rw [HF.out]; rfl, hbE⟩
        · replace q1 : outOk xs[k] = false := by simpa using q1
          have HF := hid (show outsOk xs most = false by simp [outsOk, all_false hlt q1])
          go_upto_region 7 with fail
          refine region_sg [.rd [0, 1, 2, 3, 4, 5, 6, 7, 8, 9, 10, 11]] [12, 13, 14, 15] (by kernel_rfl) (by kernel_rfl) (fun _ _ d _ _ h => by cases d <;> exact h) ?_
          refine sg_rd (fun N hN => ?_)
          simp only [pickO, List.getElem?_toArray, List.getElem?_cons_zero, List.getElem?_cons_succ]
          go_wp2_with fail
          refine rd_next (hN _ ?_)
          clear hN N
          refine sg_fin ?_
          simp only [pickO, List.getElem?_toArray, List.getElem?_cons_zero, List.getElem?_cons_succ]
          have hbE := hbW.drew
          go_wp2_with fail
          go_ret
          exact ⟨by rw [HF.out]; rfl, hbE⟩
      · have hkl : k = xs.length := by omega
        subst hkl
        have h1 := hal.out
        have h2 := has.out
        rw [List.take_length] at h1 h2
        have HF := hid (show outsOk xs most = true by simp [outsOk, h1, h2, HM.out])
        clear h1 h2
        go_wp2_with fail
        go_ret
        exact ⟨by rw [HF.out]; rfl, hb⟩
  · have hg : decide ((xs.length : Int) > most) = true := by simp; omega
    have HF := hid (show outsOk xs most = false by simp [outsOk]; intro h; omega)
    clear hm
    go_enter Try.func68, Try.ntmps68
    go_wp2_with fail
    go_ret
    exact ⟨by rw [HF.out]; rfl, Below.refl _ _⟩
end Go.Proofs.Ytmnccekljombmaa

namespace Go.Proofs.Ytmnccekljombmaa
set_option linter.unusedVariables false
set_option linter.unusedSimpArgs false
set_option maxRecDepth 100000
open Go.RowKit
set_option maxHeartbeats 4000000 in
theorem SimOkI_c (vs vq vo : Value) (s : SimD) (F : Nat → Prop) (w : World) (hs : Rd tSt w F vs s.states) (hq : Rd tEv w F vq s.queue) (ho : Rd tOut w F vo s.outs) :
    Calls Try.prog 37 #[.agg #[vs, vq, vo]] w fun e w' => e = .returned (.bool (simOk s)) ∧ Below w.heap.size w w' := by
  obtain ⟨A, cp, rfl, -, hlen, -⟩ := id hs
  have hb0 := balloc (Below.refl w.heap.size w) (.cells #[.slice A s.states.length cp, vq, vo] 64)
  by_cases q1 : s.states.length = 4
  · have hn : ((s.states.length : Int) != 4) = false := by simp [q1]
    have Q1 := hid q1
    have hl4 : s.states.length ≤ 4 := by omega
    clear q1
    go_enter Try.func37, Try.ntmps37
    go_wp2_with fail
    have Z0 : (w.alloc (.cells #[.slice A s.states.length cp, vq, vo] 64)).heap[w.heap.size]? = some (.cells #[.slice A s.states.length cp, vq, vo] 64 (0, 0)) := heap_at rfl
    generalize w.alloc (.cells #[.slice A s.states.length cp, vq, vo] 64) = W at *
    go_loopw [12] (fun i wr => ∃ k : Nat, i = .int .i64 k ∧ k ≤ s.states.length ∧ Hid ((s.states.take k).all stOk = true) ∧ wr.heap[w.heap.size]? = some (.cells #[.slice A s.states.length cp, vq, vo] 64 (0, 0)) ∧ Below w.heap.size w wr) (fun i _ => s.states.length - (intOf i).toNat)
    case atStart => exact ⟨0, rfl, Nat.zero_le _, rfl, Z0, hb0⟩
    case round =>
      clear Z0 hb0
      obtain ⟨k, rfl, hk, hal, Z, hb⟩ := hrel
      by_cases hlt : k < s.states.length
      · obtain ⟨b0, o0, rfl, hb0, a0, a1, a2⟩ := st_at (hs.below hb) k hlt
        have p0 : (k : Int) < (s.states.length : Int) := by omega
        obtain ⟨t, q2⟩ : ∃ t, stOk s.states[k] = t := ⟨_, rfl⟩
        go_wp2_with fail
        refine (stateOk_c _ _ _ _).mono ?_
        rintro e w5 ⟨he, hb5⟩
        have t0 : stOk ⟨s.states[k].x, s.states[k].y, s.states[k].c⟩ = t := q2
        rw [t0] at he
        subst he
        clear t0
        have hbw := balloc (Below.refl wr.heap.size wr) (.cells #[.int .i64 s.states[k].x, .int .i64 s.states[k].y, .int .i64 s.states[k].c] 27)
        have hb6 := bthen' hbw hb5
        have Z5 := below_heap hb6 (blk_lt Z) Z
        have hb7 := bthen hb hb6 hb.size
        clear hbw hb6 hb5 Z hb a0 a1 a2
        apply_assumption
        cases t
        case true =>
          have al := hid (all_snoc hlt hal.out q2)
          go_wp2_with fail
          go_roundw
          case rel => exact ⟨k + 1, by go_num, by omega, al, Z5, hb7⟩
          case measure => simp [intOf]; omega
        case false =>
          have HF := hid (simOk_false4 hlt q2)
          go_wp2_with fail
          go_ret
          exact ⟨by rw [HF.out]; rfl, hb7⟩
      · have hkl : k = s.states.length := by omega
        subst hkl
        have hall' := hal.out
        rw [List.take_length] at hall'
        have HA := hid hall'
        have c1 : wr.cell? ⟨w.heap.size, 1, none⟩ = some vq := blk_cell Z 1
        clear hall' hlt
        obtain ⟨t2, q2⟩ : ∃ t, evsOk s.queue 100 = t := ⟨_, rfl⟩
        obtain ⟨t3, q3⟩ : ∃ t, outsOk s.outs 96 = t := ⟨_, rfl⟩
        have HF := hid (show simOk s = (t2 && t3) by simp [simOk, HA.out, Q1.out, q2, q3])
        go_wp2_with fail
        refine (eventsOkI_c _ s.queue 100 F _ (hq.below hb)).mono ?_
        rintro e w5 ⟨he, hb5⟩
        rw [q2] at he
        subst he
        have Z5 := below_heap hb5 (blk_lt Z) Z
        have hb6 := bthen hb hb5 hb.size
        have c2 : w5.cell? ⟨w.heap.size, 2, none⟩ = some vo := blk_cell Z5 2
        clear hb5 Z hb c1 q2
        apply_assumption
        cases t2
        case true =>
          go_wp2_with fail
          refine (outsOkI_c _ s.outs 96 F _ (ho.below hb6)).mono ?_
          rintro e w6 ⟨he, hb7⟩
          rw [q3] at he
          subst he
          have hb8 := bthen hb6 hb7 hb6.size
          apply_assumption
          go_wp2_with fail
          go_ret
          exact ⟨by rw [HF.out]; cases t3 <;> rfl, hb8⟩
        case false =>
          go_wp2_with fail
          go_ret
          exact ⟨by rw [HF.out]; rfl, hb6⟩
  · have HF := hid (simOk_false1 q1)
    have hn : ((s.states.length : Int) != 4) = true := by simp; omega
    clear q1
    go_enter Try.func37, Try.ntmps37
    go_wp2_with fail
    go_ret
    exact ⟨by rw [HF.out]; rfl, hb0⟩
end Go.Proofs.Ytmnccekljombmaa

namespace Go.Proofs.Ytmnccekljombmaa
set_option linter.unusedVariables false
set_option linter.unusedSimpArgs false
set_option maxRecDepth 100000
open Go.RowKit
theorem Ow.fresh {α : Type} {d : Ty α} {e : TypeId} {w : World} {F : Nat → Prop} {g c : Nat} {cur : Array Value} (h : w.heap[g]? = some (.cells cur e (0, 0))) (hc : cur.size = c * d.sz) (hm : c ≤ 9223372036854775807) (hF : F g) : Ow d e w F (.slice (some ⟨g, 0, none⟩) 0 c) [] :=
  ⟨[], fun _ _ => False, ⟨by simp, .inr ⟨g, c, cur, rfl, Nat.zero_le _, h, Nat.zero_le _, by unfold maxLen; omega, hc, by simp⟩⟩, fun g hg => by simp [Value.ownBlock] at hg; subst hg; exact hF, fun _ _ h => h.elim, fun _ _ _ _ h => h.elim, fun j x hj => by simp at hj⟩
set_option maxHeartbeats 4000000 in
theorem growEv_c (n : Nat) (w : World) (hn : n ≤ 4000) :
    Calls Try.prog 121 #[.slice none 0 0, .int .i64 n] w fun q w' => ∃ u, q = .returned u ∧ Ow tEv 29 w' (fun k => w.heap.size ≤ k) u [] ∧ Below w.heap.size w w' := by
  by_cases h0 : n = 0
  · subst h0
    go_enter Try.func121, Try.ntmps121
    go_wp2_with fail
    go_ret
    exact ⟨_, rfl, Ow.nil _ _ _ _, Below.refl _ _⟩
  · have hp : 0 < n := by omega
    have k1 : decide ((n : Int) > 0) = true := decide_eq_true (by omega)
    have k2 : decide (0 < n) = true := decide_eq_true hp
    have k3 : decide ((n : Int) < 0) = false := decide_eq_false (by omega)
    obtain ⟨i, hi, hz0, hz1, hz2⟩ := info_parts info_ev
    have hge := grownCap_ge w n 0 29
    have hle := grownCap_le_maxLen w n 0 29 (by unfold maxLen; omega)
    unfold maxLen at hle
    have hrun := Lib.run_append_nil_zeros (P := Try.prog) w 32 3 32 29 i _ .i64 .i64 Try.underlying32 Try.underlying3 hi hz0 n hp (by rw [hz1]; decide) (by omega) (by rw [hz2]; omega)
    have hsz : (Builtin.zeroCells (Value.agg #[.int .i64 0, .int .i64 0, .int .i64 0, .int .i64 0, .int .i64 0, .int .i64 0, .int .i64 0]).cells n ++ Builtin.zeroCells (Value.agg #[.int .i64 0, .int .i64 0, .int .i64 0, .int .i64 0, .int .i64 0, .int .i64 0, .int .i64 0]).cells (grownCap w n 0 29 - n)).size = grownCap w n 0 29 * 7 := by
      rw [Array.size_append, size_zeroCells, size_zeroCells]
      show n * 7 + (grownCap w n 0 29 - n) * 7 = _
      rw [← Nat.add_mul]; congr 1; omega
    generalize grownCap w n 0 29 = c at *
    generalize Builtin.zeroCells (Value.agg #[.int .i64 0, .int .i64 0, .int .i64 0, .int .i64 0, .int .i64 0, .int .i64 0, .int .i64 0]).cells n ++ Builtin.zeroCells (Value.agg #[.int .i64 0, .int .i64 0, .int .i64 0, .int .i64 0, .int .i64 0, .int .i64 0, .int .i64 0]).cells (c - n) = cur at *
    have p1 : (0 : Int) ≤ (c : Int) := by omega
    have p2 : ¬ c = 0 := by omega
    have HR := hid hrun
    clear hrun h0
    go_enter Try.func121, Try.ntmps121
    go_wp2_with (at_builtin; refine Lib.wpList_append_run _ rfl _ _ _ _ rfl _ _ rfl rfl _ _ HR.out ?_)
    go_ret
    exact ⟨_, rfl, Ow.fresh (heap_at rfl) hsz (by omega) (Nat.le_refl _), (Below.refl _ w).drew.alloc (Nat.le_refl _) _⟩
set_option maxHeartbeats 4000000 in
theorem concatEv_c (b o c : Nat) (v1 v2 : Value) (xs ys : List EvD) (F : Nat → Prop) (w : World) (h1 : Rd tEv w F v1 xs) (h2 : Rd tEv w F v2 ys) (hb : b < w.heap.size) (c1 : w.cell? ⟨b, o, none⟩ = some v1) (c2 : w.cell? ⟨b, o + 1, none⟩ = some v2) (l1 : xs.length ≤ 1000) (l2 : ys.length ≤ 1000) :
    Calls Try.prog 102 #[.slice (some ⟨b, o, none⟩) 2 c] w fun q w' => ∃ u, q = .returned u ∧ Ow tEv 29 w' (fun k => w.heap.size ≤ k) u (xs ++ ys) ∧ Below w.heap.size w w' := by
  obtain ⟨A1, a1, rfl, m1⟩ := h1.shape
  obtain ⟨A2, a2, rfl, m2⟩ := h2.shape
  go_enter Try.func102, Try.ntmps102
  go_wp2_with fail
  go_loop [3, 11] (fun s i => ∃ (k : Nat) (m : Nat), i = .int .i64 k ∧ s = .int .i64 m ∧ k ≤ 2 ∧ Hid (m = ((xs.length :: ys.length :: []).take k).sum) ∧ m ≤ 2000) (fun _ i => 2 - (intOf i).toNat)
  case atStart => exact ⟨0, 0, rfl, rfl, by omega, rfl, by omega⟩
  case round =>
    obtain ⟨k, m, rfl, rfl, hk, HM, hm⟩ := hrel
    by_cases hlt : k < 2
    · have k3 : ∀ n : Nat, decide ((m : Int) + (n : Int) < 0) = false := fun n => decide_eq_false (by omega)
      have hk' : k = 0 ∨ k = 1 := by omega
      rcases hk' with rfl | rfl
      · have hM := HM.out
        simp at hM
        subst hM
        have k4 : decide ((xs.length : Int) < 0) = false := decide_eq_false (by omega)
        have HX := hid (show xs.length = ((xs.length :: ys.length :: []).take 1).sum by simp)
        go_wp2_with fail
        go_round
        case rel => exact ⟨1, xs.length, by go_num, by first | rfl | go_num, by omega, HX, by omega⟩
        case measure => simp [intOf]
      · have hM := HM.out
        simp at hM
        subst hM
        have HX := hid (show xs.length + ys.length = ((xs.length :: ys.length :: []).take 2).sum by simp)
        have k4 : decide ((xs.length : Int) + (ys.length : Int) < 0) = false := decide_eq_false (by omega)
        go_wp2_with fail
        go_round
        case rel => exact ⟨2, xs.length + ys.length, by go_num, by first | rfl | go_num, by omega, HX, by omega⟩
        case measure => simp [intOf]
    · obtain rfl : k = 2 := by omega
      have hM := HM.out
      simp at hM
      subst hM
      clear HM hlt hk
      go_wp2_with fail
      refine (growEv_c (xs.length + ys.length) _ (by omega)).mono ?_
      rintro e w5 ⟨u5, rfl, hO5, hb5⟩
      have r1 := h1.below hb5
      have r2 := h2.below hb5
      have d1 : w5.cell? ⟨b, o, none⟩ = some (.slice A1 xs.length a1) := by rw [hb5.cell (p := ⟨b, o, none⟩) hb]; exact c1
      have d2 : w5.cell? ⟨b, o + 1, none⟩ = some (.slice A2 ys.length a2) := by rw [hb5.cell (p := ⟨b, o + 1, none⟩) hb]; exact c2
      apply_assumption
      go_wp2_with fail
      go_loopw [6, 27] (fun u i wr => ∃ k : Nat, i = .int .i64 k ∧ k ≤ 2 ∧ Ow tEv 29 wr (fun k => w.heap.size ≤ k) u (if k = 0 then [] else if k = 1 then xs else xs ++ ys) ∧ Below w.heap.size w wr) (fun _ i _ => 2 - (intOf i).toNat)
      case atStart => exact ⟨0, rfl, by omega, hO5, hb5⟩
      case round =>
        clear r1 r2 d1 d2 hO5 hb5
        obtain ⟨k, rfl, hk, hO, hbr⟩ := hrel
        have r1 := h1.below hbr
        have r2 := h2.below hbr
        have d1 : wr.cell? ⟨b, o, none⟩ = some (.slice A1 xs.length a1) := by rw [hbr.cell (p := ⟨b, o, none⟩) hb]; exact c1
        have d2 : wr.cell? ⟨b, o + 1, none⟩ = some (.slice A2 ys.length a2) := by rw [hbr.cell (p := ⟨b, o + 1, none⟩) hb]; exact c2
        have hszr := hbr.size
        have hk' : k = 0 ∨ k = 1 ∨ k = 2 := by omega
        rcases hk' with rfl | rfl | rfl
        · have hO : Ow tEv 29 wr (fun k => w.heap.size ≤ k) _ [] := hO
          go_wp2_with (at_builtin; refine ow_concat rfl 32 rfl Try.underlying32 _ 56 info_ev rfl (by decide) (by decide) rfl hO rfl r1 (by simp; omega) (fun k => w.heap.size ≤ k) (fun _ hk => hk) (fun k hk => by omega) ?_; intro v9 w9 hO9 hG9 hat9)
          have hb9 : Below w.heap.size w w9 := ((Ch.of_below (S := fun k => w.heap.size ≤ k) hbr).grown hG9 (fun k hk => .inl (hO.inF hk))).below (fun k hk => hk) (Nat.le_refl _)
          rw [List.nil_append] at hO9
          go_roundw
          case rel => exact ⟨1, by go_num, by omega, hO9, hb9⟩
          case measure => simp [intOf]
        · have hO : Ow tEv 29 wr (fun k => w.heap.size ≤ k) _ xs := hO
          go_wp2_with (at_builtin; refine ow_concat rfl 32 rfl Try.underlying32 _ 56 info_ev rfl (by decide) (by decide) rfl hO rfl r2 (by omega) (fun k => w.heap.size ≤ k) (fun _ hk => hk) (fun k hk => by omega) ?_; intro v9 w9 hO9 hG9 hat9)
          have hb9 : Below w.heap.size w w9 := ((Ch.of_below (S := fun k => w.heap.size ≤ k) hbr).grown hG9 (fun k hk => .inl (hO.inF hk))).below (fun k hk => hk) (Nat.le_refl _)
          go_roundw
          case rel => exact ⟨2, by go_num, by omega, hO9, hb9⟩
          case measure => simp [intOf]
        · have hO : Ow tEv 29 wr (fun k => w.heap.size ≤ k) _ (xs ++ ys) := hO
          go_wp2_with fail
          go_ret
          exact ⟨_, rfl, hO, hbr⟩
set_option maxHeartbeats 4000000 in
theorem growOut_c (n : Nat) (w : World) (hn : n ≤ 4000) :
    Calls Try.prog 124 #[.slice none 0 0, .int .i64 n] w fun q w' => ∃ u, q = .returned u ∧ Ow tOut 43 w' (fun k => w.heap.size ≤ k) u [] ∧ Below w.heap.size w w' := by
  by_cases h0 : n = 0
  · subst h0
    go_enter Try.func124, Try.ntmps124
    go_wp2_with fail
    go_ret
    exact ⟨_, rfl, Ow.nil _ _ _ _, Below.refl _ _⟩
  · have hp : 0 < n := by omega
    have k1 : decide ((n : Int) > 0) = true := decide_eq_true (by omega)
    have k2 : decide (0 < n) = true := decide_eq_true hp
    have k3 : decide ((n : Int) < 0) = false := decide_eq_false (by omega)
    obtain ⟨i, hi, hz0, hz1, hz2⟩ := info_parts info_out
    have hge := grownCap_ge w n 0 43
    have hle := grownCap_le_maxLen w n 0 43 (by unfold maxLen; omega)
    unfold maxLen at hle
    have hrun := Lib.run_append_nil_zeros (P := Try.prog) w 33 3 33 43 i _ .i64 .i64 Try.underlying33 Try.underlying3 hi hz0 n hp (by rw [hz1]; decide) (by omega) (by rw [hz2]; omega)
    have hsz : (Builtin.zeroCells (Value.agg #[.int .i64 0, .int .i64 0, .int .i64 0, .int .i64 0, .int .i64 0]).cells n ++ Builtin.zeroCells (Value.agg #[.int .i64 0, .int .i64 0, .int .i64 0, .int .i64 0, .int .i64 0]).cells (grownCap w n 0 43 - n)).size = grownCap w n 0 43 * 5 := by
      rw [Array.size_append, size_zeroCells, size_zeroCells]
      show n * 5 + (grownCap w n 0 43 - n) * 5 = _
      rw [← Nat.add_mul]; congr 1; omega
    generalize grownCap w n 0 43 = c at *
    generalize Builtin.zeroCells (Value.agg #[.int .i64 0, .int .i64 0, .int .i64 0, .int .i64 0, .int .i64 0]).cells n ++ Builtin.zeroCells (Value.agg #[.int .i64 0, .int .i64 0, .int .i64 0, .int .i64 0, .int .i64 0]).cells (c - n) = cur at *
    have p1 : (0 : Int) ≤ (c : Int) := by omega
    have p2 : ¬ c = 0 := by omega
    have HR := hid hrun
    clear hrun h0
    go_enter Try.func124, Try.ntmps124
    go_wp2_with (at_builtin; refine Lib.wpList_append_run _ rfl _ _ _ _ rfl _ _ rfl rfl _ _ HR.out ?_)
    go_ret
    exact ⟨_, rfl, Ow.fresh (heap_at rfl) hsz (by omega) (Nat.le_refl _), (Below.refl _ w).drew.alloc (Nat.le_refl _) _⟩
set_option maxHeartbeats 4000000 in
theorem concatOut_c (b o c : Nat) (v1 v2 : Value) (xs ys : List OutD) (F : Nat → Prop) (w : World) (h1 : Rd tOut w F v1 xs) (h2 : Rd tOut w F v2 ys) (hb : b < w.heap.size) (c1 : w.cell? ⟨b, o, none⟩ = some v1) (c2 : w.cell? ⟨b, o + 1, none⟩ = some v2) (l1 : xs.length ≤ 1000) (l2 : ys.length ≤ 1000) :
    Calls Try.prog 104 #[.slice (some ⟨b, o, none⟩) 2 c] w fun q w' => ∃ u, q = .returned u ∧ Ow tOut 43 w' (fun k => w.heap.size ≤ k) u (xs ++ ys) ∧ Below w.heap.size w w' := by
  obtain ⟨A1, a1, rfl, m1⟩ := h1.shape
  obtain ⟨A2, a2, rfl, m2⟩ := h2.shape
  go_enter Try.func104, Try.ntmps104
  go_wp2_with fail
  go_loop [3, 11] (fun s i => ∃ (k : Nat) (m : Nat), i = .int .i64 k ∧ s = .int .i64 m ∧ k ≤ 2 ∧ Hid (m = ((xs.length :: ys.length :: []).take k).sum) ∧ m ≤ 2000) (fun _ i => 2 - (intOf i).toNat)
  case atStart => exact ⟨0, 0, rfl, rfl, by omega, rfl, by omega⟩
  case round =>
    obtain ⟨k, m, rfl, rfl, hk, HM, hm⟩ := hrel
    by_cases hlt : k < 2
    · have k3 : ∀ n : Nat, decide ((m : Int) + (n : Int) < 0) = false := fun n => decide_eq_false (by omega)
      have hk' : k = 0 ∨ k = 1 := by omega
      rcases hk' with rfl | rfl
      · have hM := HM.out
        simp at hM
        subst hM
        have k4 : decide ((xs.length : Int) < 0) = false := decide_eq_false (by omega)
        have HX := hid (show xs.length = ((xs.length :: ys.length :: []).take 1).sum by simp)
        go_wp2_with fail
        go_round
        case rel => exact ⟨1, xs.length, by go_num, by first | rfl | go_num, by omega, HX, by omega⟩
        case measure => simp [intOf]
      · have hM := HM.out
        simp at hM
        subst hM
        have HX := hid (show xs.length + ys.length = ((xs.length :: ys.length :: []).take 2).sum by simp)
        have k4 : decide ((xs.length : Int) + (ys.length : Int) < 0) = false := decide_eq_false (by omega)
        go_wp2_with fail
        go_round
        case rel => exact ⟨2, xs.length + ys.length, by go_num, by first | rfl | go_num, by omega, HX, by omega⟩
        case measure => simp [intOf]
    · obtain rfl : k = 2 := by omega
      have hM := HM.out
      simp at hM
      subst hM
      clear HM hlt hk
      go_wp2_with fail
      refine (growOut_c (xs.length + ys.length) _ (by omega)).mono ?_
      rintro e w5 ⟨u5, rfl, hO5, hb5⟩
      have r1 := h1.below hb5
      have r2 := h2.below hb5
      have d1 : w5.cell? ⟨b, o, none⟩ = some (.slice A1 xs.length a1) := by rw [hb5.cell (p := ⟨b, o, none⟩) hb]; exact c1
      have d2 : w5.cell? ⟨b, o + 1, none⟩ = some (.slice A2 ys.length a2) := by rw [hb5.cell (p := ⟨b, o + 1, none⟩) hb]; exact c2
      apply_assumption
      go_wp2_with fail
      go_loopw [6, 27] (fun u i wr => ∃ k : Nat, i = .int .i64 k ∧ k ≤ 2 ∧ Ow tOut 43 wr (fun k => w.heap.size ≤ k) u (if k = 0 then [] else if k = 1 then xs else xs ++ ys) ∧ Below w.heap.size w wr) (fun _ i _ => 2 - (intOf i).toNat)
      case atStart => exact ⟨0, rfl, by omega, hO5, hb5⟩
      case round =>
        clear r1 r2 d1 d2 hO5 hb5
        obtain ⟨k, rfl, hk, hO, hbr⟩ := hrel
        have r1 := h1.below hbr
        have r2 := h2.below hbr
        have d1 : wr.cell? ⟨b, o, none⟩ = some (.slice A1 xs.length a1) := by rw [hbr.cell (p := ⟨b, o, none⟩) hb]; exact c1
        have d2 : wr.cell? ⟨b, o + 1, none⟩ = some (.slice A2 ys.length a2) := by rw [hbr.cell (p := ⟨b, o + 1, none⟩) hb]; exact c2
        have hszr := hbr.size
        have hk' : k = 0 ∨ k = 1 ∨ k = 2 := by omega
        rcases hk' with rfl | rfl | rfl
        · have hO : Ow tOut 43 wr (fun k => w.heap.size ≤ k) _ [] := hO
          go_wp2_with (at_builtin; refine ow_concat rfl 33 rfl Try.underlying33 _ 40 info_out rfl (by decide) (by decide) rfl hO rfl r1 (by simp; omega) (fun k => w.heap.size ≤ k) (fun _ hk => hk) (fun k hk => by omega) ?_; intro v9 w9 hO9 hG9 hat9)
          have hb9 : Below w.heap.size w w9 := ((Ch.of_below (S := fun k => w.heap.size ≤ k) hbr).grown hG9 (fun k hk => .inl (hO.inF hk))).below (fun k hk => hk) (Nat.le_refl _)
          rw [List.nil_append] at hO9
          go_roundw
          case rel => exact ⟨1, by go_num, by omega, hO9, hb9⟩
          case measure => simp [intOf]
        · have hO : Ow tOut 43 wr (fun k => w.heap.size ≤ k) _ xs := hO
          go_wp2_with (at_builtin; refine ow_concat rfl 33 rfl Try.underlying33 _ 40 info_out rfl (by decide) (by decide) rfl hO rfl r2 (by omega) (fun k => w.heap.size ≤ k) (fun _ hk => hk) (fun k hk => by omega) ?_; intro v9 w9 hO9 hG9 hat9)
          have hb9 : Below w.heap.size w w9 := ((Ch.of_below (S := fun k => w.heap.size ≤ k) hbr).grown hG9 (fun k hk => .inl (hO.inF hk))).below (fun k hk => hk) (Nat.le_refl _)
          go_roundw
          case rel => exact ⟨2, by go_num, by omega, hO9, hb9⟩
          case measure => simp [intOf]
        · have hO : Ow tOut 43 wr (fun k => w.heap.size ≤ k) _ (xs ++ ys) := hO
          go_wp2_with fail
          go_ret
          exact ⟨_, rfl, hO, hbr⟩
end Go.Proofs.Ytmnccekljombmaa
