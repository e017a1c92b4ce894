/- Texts joined: Imp9, Imp10, Imp11. -/
import Derived.Test.YtbcemldiahghcaaGreatJ21
import Derived.Laws.EntriesVeiled
import Derived.Test.YtbcemldiahghcaaGreatJ09
namespace Go.Proofs.YtbcemldiahghcaaGreat
set_option linter.unusedVariables false
set_option linter.unusedSimpArgs false
set_option maxRecDepth 100000
open Go.RowKit
theorem heapOf_snoc {α : Type} [Inhabited α] (lt : α → α → Bool) (l : List α) (x : α) : heapOf lt (l ++ [x]) = hpush lt (heapOf lt l) x := by unfold heapOf; rw [List.foldl_append]; rfl
theorem heapOf_len {α : Type} [Inhabited α] {lt : α → α → Bool} (O : StrictOrd lt) (l : List α) : (heapOf lt l).length = l.length := (heapOf_ok O l).2.length_eq
set_option maxHeartbeats 4000000 in
theorem OutSortI_c (v : Value) (xs : List OutD) (F : Nat → Prop) (w : World) (h : Rd tOut w F v xs) (hl : xs.length ≤ 1000) :
    Calls Tryz.prog 86 #[v] w fun q w' => ∃ u, q = .returned u ∧ Ow tOut 128 w' (fun k => w.heap.size ≤ k) u (outSort xs) ∧ Below w.heap.size w w' := by
  obtain ⟨A, c, rfl, m0⟩ := h.shape
  go_enter Tryz.func86, Tryz.ntmps86
  go_wp2_with fail
  have hW := balloc (Below.refl w.heap.size w) (.cells #[.slice none 0 0, .func (.func 137) #[] #[]] 189)
  have hb1 : (w.alloc (.cells #[.slice none 0 0, .func (.func 137) #[] #[]] 189)).heap[w.heap.size]? = some (.cells #[.slice none 0 0, .func (.func 137) #[] #[]] 189 (0, 0)) := heap_at rfl
  have H1 : HeapAt tOut 128 189 137 (w.alloc (.cells #[.slice none 0 0, .func (.func 137) #[] #[]] 189)) w.heap.size (fun k => False) (.slice none 0 0) (heapOf outLess (xs.take 0)) := ⟨hb1, by simpa [heapOf] using Ow.nil tOut 128 _ _, id, fun _ hf => hf.elim⟩
  generalize w.alloc (.cells #[.slice none 0 0, .func (.func 137) #[] #[]] 189) = W at *
  go_loopw [9] (fun t wr => ∃ (k : Nat) (G : Nat → Prop) (v : Value), t = .int .i64 k ∧ k ≤ xs.length ∧ HeapAt tOut 128 189 137 wr w.heap.size G v (heapOf outLess (xs.take k)) ∧ (∀ q, G q → w.heap.size ≤ q) ∧ Below w.heap.size w wr) (fun t _ => xs.length - (intOf t).toNat)
  case atStart => exact ⟨0, _, _, rfl, Nat.zero_le _, H1, fun _ hf => hf.elim, hW⟩
  case round =>
    clear H1 hW hb1
    obtain ⟨k, G, v, rfl, hk, HH, hG, hb⟩ := hrel
    by_cases hlt : k < xs.length
    · have hrd := h.below hb
      obtain ⟨b0, o0, rfl, hb0, z0, z1, z2, z3, z4⟩ := out_at hrd k hlt
      have HS := hid (show heapOf outLess (xs.take (k + 1)) = hpush outLess (heapOf outLess (xs.take k)) xs[k] by rw [List.take_succ_eq_append_getElem hlt, heapOf_snoc])
      have hln : (heapOf outLess (xs.take k)).length ≤ 1000 := by rw [heapOf_len out_ord]; simp; omega
      have p1 : (k : Int) < (xs.length : Int) := by omega
      go_wp2_with fail
      refine (pushOut_c w.heap.size G v (heapOf outLess (xs.take k)) xs[k] _ (HH.below (balloc (Below.refl _ _) _)) hln).mono ?_
      rintro e w5 ⟨rfl, v5, G5, H5, hG5, hC5⟩
      rw [← HS.out] at H5
      apply_assumption
      have hCw : Ch (fun q => w.heap.size ≤ q) w w5 := ((Ch.of_below hb).alloc _).then hC5 (fun q hq => .inr (hq.elim (fun e1 => Nat.le_of_eq e1.symm) (hG q)))
      have hb5 := hCw.below (fun q hq => hq) (Nat.le_refl _)
      have hsz := hb.size
      clear HH hC5 hCw hrd hb z0 z1 z2 z3 z4
      go_wp2_with fail
      go_roundw
      case rel => exact ⟨k + 1, G5, v5, by go_num, by omega, H5, fun q hq => (hG5 q hq).elim (hG q) (fun h1 => by simp at h1; omega), hb5⟩
      case measure => simp [intOf]; omega
    · have hkl : k = xs.length := by omega
      subst hkl
      have HE := hid (show hdrain outLess (heapOf outLess (xs.take xs.length)).length (heapOf outLess (xs.take xs.length)) = outSort xs by rw [List.take_length, heapOf_len out_ord]; exact drain_sortAll out_ord xs)
      have hln : (heapOf outLess (xs.take xs.length)).length ≤ 1000 := by rw [heapOf_len out_ord]; simpa using hl
      go_wp2_with fail
      refine (drainOut_c w.heap.size G v _ _ HH hln).mono ?_
      rintro e w5 ⟨u, rfl, hO5, hC5⟩
      apply_assumption
      go_wp2_with fail
      go_ret
      exact ⟨u, rfl, by rw [← HE.out]; exact hO5.mono (fun q hq => Nat.le_trans hb.size hq), hb.trans (hC5.below (fun q hq => hq.elim (fun e1 => Nat.le_of_eq e1.symm) (hG q)) hb.size)⟩
end Go.Proofs.YtbcemldiahghcaaGreat

namespace Go.Proofs.YtbcemldiahghcaaGreat
set_option linter.unusedVariables false
set_option linter.unusedSimpArgs false
set_option maxRecDepth 100000
open Go.RowKit
set_option maxHeartbeats 4000000 in
theorem eventsOkI_c (v : Value) (xs : List EvD) (most : Int) (F : Nat → Prop) (w : World) (h : Rd tEv w F v xs) :
    Calls Tryz.prog 121 #[v, .int .i64 most] w fun e w' => e = .returned (.bool (evsOk xs most)) ∧ Below w.heap.size w w' := by
  obtain ⟨A, cp, rfl, -, hlen, -⟩ := id h
  by_cases hm : (xs.length : Int) ≤ most
  · have hg : decide ((xs.length : Int) > most) = false := by simp; omega
    have HM := hid hm
    clear hm
    go_enter Tryz.func121, Tryz.ntmps121
    go_wp2_with fail
    go_loopw [13] (fun i wr => ∃ k : Nat, i = .int .i64 k ∧ k ≤ xs.length ∧ Hid ((xs.take k).all evOk = true) ∧ Hid (ascB evLess (xs.take k) = true) ∧ Below w.heap.size w wr) (fun i _ => xs.length - (intOf i).toNat)
    case atStart => exact ⟨0, rfl, Nat.zero_le _, rfl, rfl, Below.refl _ _⟩
    case round =>
      obtain ⟨k, rfl, hk, hal, has, hb⟩ := hrel
      by_cases hlt : k < xs.length
      · have hrd : Rd tEv wr F (.slice A xs.length cp) xs := h.below hb
        obtain ⟨b0, o0, rfl, hb0, z0, z1, z2, z3, z4, z5, z6⟩ := ev_at hrd k hlt
        have p0 : (k : Int) < (xs.length : Int) := by omega
        go_upto_region 6 with fail
        have hrW := hrd.alloc (.cells #[.int .i64 xs[k].time, .int .i64 xs[k].to, .int .i64 xs[k].from_, .int .i64 xs[k].count, .int .i64 xs[k].n, .int .i64 xs[k].kind, .int .i64 xs[k].arg] 80)
        have hbW := hb.alloc hb.size (.cells #[.int .i64 xs[k].time, .int .i64 xs[k].to, .int .i64 xs[k].from_, .int .i64 xs[k].count, .int .i64 xs[k].n, .int .i64 xs[k].kind, .int .i64 xs[k].arg] 80)
        have Z : (wr.alloc (.cells #[.int .i64 xs[k].time, .int .i64 xs[k].to, .int .i64 xs[k].from_, .int .i64 xs[k].count, .int .i64 xs[k].n, .int .i64 xs[k].kind, .int .i64 xs[k].arg] 80)).heap[wr.heap.size]? = some (.cells #[.int .i64 xs[k].time, .int .i64 xs[k].to, .int .i64 xs[k].from_, .int .i64 xs[k].count, .int .i64 xs[k].n, .int .i64 xs[k].kind, .int .i64 xs[k].arg] 80 (0, 0)) := heap_at rfl
        clear z0 z1 z2 z3 z4 z5 z6 hrd hb0 hb
        obtain ⟨g, hgg⟩ : ∃ g, g = wr.heap.size := ⟨_, rfl⟩
        rw [← hgg] at Z
        simp only [← hgg]
        generalize wr.alloc (.cells #[.int .i64 xs[k].time, .int .i64 xs[k].to, .int .i64 xs[k].from_, .int .i64 xs[k].count, .int .i64 xs[k].n, .int .i64 xs[k].kind, .int .i64 xs[k].arg] 80) = W at *
        clear hgg
        obtain ⟨⟨z0, z1, z2, z3, z4, z5, z6⟩, -⟩ := cells7 Z
        by_cases q1 : evOk xs[k] = true
        · have al := hid (all_snoc hlt hal.out q1)
          have t0 : evOk ⟨xs[k].time, xs[k].to, xs[k].from_, xs[k].count, xs[k].n, xs[k].kind, xs[k].arg⟩ = true := q1
          clear q1
          by_cases q3 : k = 0
          · have as' := hid (show ascB evLess (xs.take (k + 1)) = true by rw [ascB_step _ hlt, has.out, if_pos q3]; rfl)
            have hkd : decide ((k : Int) > 0) = false := by simp; omega
            have hkn : decide (0 < k) = false := by simp; omega
            clear q3
            refine region_sg [.rd [0], .mid 1, .rd [2, 3, 4, 5, 6, 7, 8, 9, 10, 11, 12]] [13, 14, 15, 16] (by kernel_rfl) (by kernel_rfl) (fun _ _ d _ _ h => by cases d <;> exact h) ?_
            refine sg_rd (fun N hN => ?_)
            simp only [pickO, List.getElem?_toArray, List.getElem?_cons_zero, List.getElem?_cons_succ]
            go_wp2_with fail
            refine rd_next (hN _ ?_)
            clear hN N
            refine sg_mid (fun N hN => ?_)
            simp only [pickO, List.getElem?_toArray, List.getElem?_cons_zero, List.getElem?_cons_succ]
            go_wp2_with fail
            refine (eventOk_c _ _ _ _ _ _ _ _).mono ?_
            rintro e w5 ⟨he, hb5⟩
            rw [t0] at he
            subst he
            apply_assumption
            refine mid_next (Agree.of_below hb5) (hN _ _ ?_)
            clear hN
            refine sg_rd (fun N hN => ?_)
            simp only [pickO, List.getElem?_toArray, List.getElem?_cons_zero, List.getElem?_cons_succ]
            go_wp2_with fail
            refine rd_next (hN _ ?_)
            clear hN N
            refine sg_fin ?_
            simp only [pickO, List.getElem?_toArray, List.getElem?_cons_zero, List.getElem?_cons_succ]
            have hbE := bthen hbW (bthen' (Below.refl W.heap.size W).drew hb5) hbW.size
            go_wp2_with fail
            go_roundw
            case rel => exact ⟨k + 1, by go_num, by omega, al, as', hbE⟩
            case measure => simp [intOf]; omega
          · have hkd : decide ((k : Int) > 0) = true := by simp; omega
            have hkn : decide (0 < k) = true := by simp; omega
            have p1 : (0 : Int) ≤ (k : Int) - 1 := by omega
            have p2 : (k : Int) - 1 < (xs.length : Int) := by omega
            have p3 : (1 : Int) ≤ (k : Int) := by omega
            have p4 : 1 ≤ k := by omega
            have hck : ((k : Int) - 1).toNat = k - 1 := by omega
            obtain ⟨b2, o2, hA2, hbb2, y0, y1, y2, y3, y4, y5, y6⟩ := ev_at hrW (k - 1) (by omega)
            injection hA2 with hA2
            injection hA2 with e1 e2 _
            subst e1 e2
            obtain ⟨t2, q4⟩ : ∃ t, evLess xs[k-1] xs[k] = t := ⟨_, rfl⟩
            have hT := hid (show ascB evLess (xs.take (k + 1)) = t2 by rw [ascB_step _ hlt, has.out, if_neg (by omega)]; simpa using q4)
            clear q3
            refine region_sg [.rd [0], .mid 1, .rd [2, 3, 4, 5, 6, 7, 8, 9, 10, 11, 12]] [13, 14, 15, 16] (by kernel_rfl) (by kernel_rfl) (fun _ _ d _ _ h => by cases d <;> exact h) ?_
            refine sg_rd (fun N hN => ?_)
            simp only [pickO, List.getElem?_toArray, List.getElem?_cons_zero, List.getElem?_cons_succ]
            go_wp2_with fail
            refine rd_next (hN _ ?_)
            clear hN N
            refine sg_mid (fun N hN => ?_)
            simp only [pickO, List.getElem?_toArray, List.getElem?_cons_zero, List.getElem?_cons_succ]
            go_wp2_with fail
            refine (eventOk_c _ _ _ _ _ _ _ _).mono ?_
            rintro e w5 ⟨he, hb5⟩
            rw [t0] at he
            subst he
            apply_assumption
            refine mid_next (Agree.of_below hb5) (hN _ _ ?_)
            clear hN
            refine sg_rd (fun N hN => ?_)
            simp only [pickO, List.getElem?_toArray, List.getElem?_cons_zero, List.getElem?_cons_succ]
            go_wp2_with fail
            refine rd_next (hN _ ?_)
            clear hN N
            refine sg_fin ?_
            simp only [pickO, List.getElem?_toArray, List.getElem?_cons_zero, List.getElem?_cons_succ]
            have hb5W := bthen hbW (bthen' (Below.refl W.heap.size W).drew hb5) hbW.size
            go_wp2_with fail
            refine (EventLessI_c xs[k-1] xs[k] _).mono ?_
            rintro e w6 ⟨he, hb6⟩
            rw [q4] at he
            subst he
            apply_assumption
            have hbE := bthen hb5W hb6 hb5W.size
            cases t2
            case true =>
              go_wp2_with fail
              go_roundw
              case rel => exact ⟨k + 1, by go_num, by omega, al, hT, hbE⟩
              case measure => simp [intOf]; omega
            case false =>
              have HF := hid (show evsOk xs most = false by simp [evsOk, ascB_take _ hT.out])
              go_wp2_with fail
              go_ret
              exact ⟨by rw [HF.out]; rfl, hbE⟩
        · replace q1 : evOk xs[k] = false := by simpa using q1
          have HF := hid (show evsOk xs most = false by simp [evsOk, all_false hlt q1])
          have t0 : evOk ⟨xs[k].time, xs[k].to, xs[k].from_, xs[k].count, xs[k].n, xs[k].kind, xs[k].arg⟩ = false := q1
          clear q1
          refine region_sg [.rd [0], .mid 1, .rd [2, 3, 4, 5, 6, 7, 8, 9, 10, 11, 12]] [13, 14, 15, 16] (by kernel_rfl) (by kernel_rfl) (fun _ _ d _ _ h => by cases d <;> exact h) ?_
          refine sg_rd (fun N hN => ?_)
          simp only [pickO, List.getElem?_toArray, List.getElem?_cons_zero, List.getElem?_cons_succ]
          go_wp2_with fail
          refine rd_next (hN _ ?_)
          clear hN N
          refine sg_mid (fun N hN => ?_)
          simp only [pickO, List.getElem?_toArray, List.getElem?_cons_zero, List.getElem?_cons_succ]
          go_wp2_with fail
          refine (eventOk_c _ _ _ _ _ _ _ _).mono ?_
          rintro e w5 ⟨he, hb5⟩
          rw [t0] at he
          subst he
          apply_assumption
          refine mid_next (Agree.of_below hb5) (hN _ _ ?_)
          clear hN
          refine sg_rd (fun N hN => ?_)
          simp only [pickO, List.getElem?_toArray, List.getElem?_cons_zero, List.getElem?_cons_succ]
          go_wp2_with fail
          refine rd_next (hN _ ?_)
          clear hN N
          refine sg_fin ?_
          simp only [pickO, List.getElem?_toArray, List.getElem?_cons_zero, List.getElem?_cons_succ]
          have hbE := bthen hbW (bthen' (Below.refl W.heap.size W).drew hb5) hbW.size
          go_wp2_with fail
          go_ret
          exact ⟨by rw [HF.out]; rfl, hbE⟩
      · have hkl : k = xs.length := by omega
        subst hkl
        have h1 := hal.out
        have h2 := has.out
        rw [List.take_length] at h1 h2
        have HF := hid (show evsOk xs most = true by simp [evsOk, h1, h2, HM.out])
        clear h1 h2
        go_wp2_with fail
        go_ret
        exact ⟨by rw [HF.out]; rfl, hb⟩
  · have hg : decide ((xs.length : Int) > most) = true := by simp; omega
    have HF := hid (show evsOk xs most = false by simp [evsOk]; intro h; omega)
    clear hm
    go_enter Tryz.func121, Tryz.ntmps121
    go_wp2_with fail
    go_ret
    exact ⟨by rw [HF.out]; rfl, Below.refl _ _⟩
set_option maxHeartbeats 4000000 in
theorem outsOkI_c (v : Value) (xs : List OutD) (most : Int) (F : Nat → Prop) (w : World) (h : Rd tOut w F v xs) :
    Calls Tryz.prog 122 #[v, .int .i64 most] w fun e w' => e = .returned (.bool (outsOk xs most)) ∧ Below w.heap.size w w' := by
  obtain ⟨A, cp, rfl, -, hlen, -⟩ := id h
  by_cases hm : (xs.length : Int) ≤ most
  · have hg : decide ((xs.length : Int) > most) = false := by simp; omega
    have HM := hid hm
    clear hm
    go_enter Tryz.func122, Tryz.ntmps122
    go_wp2_with fail
    go_loopw [14] (fun i wr => ∃ k : Nat, i = .int .i64 k ∧ k ≤ xs.length ∧ Hid ((xs.take k).all outOk = true) ∧ Hid (ascB outLess (xs.take k) = true) ∧ Below w.heap.size w wr) (fun i _ => xs.length - (intOf i).toNat)
    case atStart => exact ⟨0, rfl, Nat.zero_le _, rfl, rfl, Below.refl _ _⟩
    case round =>
      obtain ⟨k, rfl, hk, hal, has, hb⟩ := hrel
      by_cases hlt : k < xs.length
      · have hrd : Rd tOut wr F (.slice A xs.length cp) xs := h.below hb
        obtain ⟨b0, o0, rfl, hb0, z0, z1, z2, z3, z4⟩ := out_at hrd k hlt
        have p0 : (k : Int) < (xs.length : Int) := by omega
        go_upto_region 6 with fail
        have hrW := hrd.alloc (.cells #[.int .i64 xs[k].time, .int .i64 xs[k].proc, .int .i64 xs[k].count, .int .i64 xs[k].n, .int .i64 xs[k].value] 128)
        have hbW := hb.alloc hb.size (.cells #[.int .i64 xs[k].time, .int .i64 xs[k].proc, .int .i64 xs[k].count, .int .i64 xs[k].n, .int .i64 xs[k].value] 128)
        have Z : (wr.alloc (.cells #[.int .i64 xs[k].time, .int .i64 xs[k].proc, .int .i64 xs[k].count, .int .i64 xs[k].n, .int .i64 xs[k].value] 128)).heap[wr.heap.size]? = some (.cells #[.int .i64 xs[k].time, .int .i64 xs[k].proc, .int .i64 xs[k].count, .int .i64 xs[k].n, .int .i64 xs[k].value] 128 (0, 0)) := heap_at rfl
        clear z0 z1 z2 z3 z4 hrd hb0 hb
        obtain ⟨g, hgg⟩ : ∃ g, g = wr.heap.size := ⟨_, rfl⟩
        rw [← hgg] at Z
        simp only [← hgg]
        generalize wr.alloc (.cells #[.int .i64 xs[k].time, .int .i64 xs[k].proc, .int .i64 xs[k].count, .int .i64 xs[k].n, .int .i64 xs[k].value] 128) = W at *
        clear hgg
        obtain ⟨z0, z1, z2, z3, z4, -⟩ := cells5 Z
        go_cut [7] (fun t wc => t = .bool (outOk xs[k]) ∧ wc = W)
        case first =>
          go_wp2_with (first | (go_at_call 146; refine (within_c _ _ _ _).mono ?_; rintro e w1 ⟨rfl, rfl⟩) | (go_at_call 104; refine (isProc_c _ _).mono ?_; rintro e w1 ⟨rfl, rfl⟩) | (go_at_call 147; refine (isNum_c _ _).mono ?_; rintro e w1 ⟨rfl, rfl⟩))
          all_goals
            go_meet
            exact ⟨by simp [outOk, *], rfl⟩
        case' rest => obtain ⟨rfl, rfl⟩ := hcut
        by_cases q1 : outOk xs[k] = true
        · have al := hid (all_snoc hlt hal.out q1)
          by_cases q3 : k = 0
          · have as' := hid (show ascB outLess (xs.take (k + 1)) = true by rw [ascB_step _ hlt, has.out, if_pos q3]; rfl)
            have hkd : decide ((k : Int) > 0) = false := by simp; omega
            have hkn : decide (0 < k) = false := by simp; omega
            clear q3
            go_upto_region 7 with fail
            refine region_sg [.rd [0, 1, 2, 3, 4, 5, 6, 7, 8, 9, 10, 11]] [12, 13, 14, 15] (by kernel_rfl) (by kernel_rfl) (fun _ _ d _ _ h => by cases d <;> exact h) ?_
            refine sg_rd (fun N hN => ?_)
            simp only [pickO, List.getElem?_toArray, List.getElem?_cons_zero, List.getElem?_cons_succ]
            go_wp2_with fail
            refine rd_next (hN _ ?_)
            clear hN N
            refine sg_fin ?_
            simp only [pickO, List.getElem?_toArray, List.getElem?_cons_zero, List.getElem?_cons_succ]
            have hbE := hbW.drew
            go_wp2_with fail
            go_roundw
            case rel => exact ⟨k + 1, by go_num, by omega, al, as', hbE⟩
            case measure => simp [intOf]; omega
          · have hkd : decide ((k : Int) > 0) = true := by simp; omega
            have hkn : decide (0 < k) = true := by simp; omega
            have p1 : (0 : Int) ≤ (k : Int) - 1 := by omega
            have p2 : (k : Int) - 1 < (xs.length : Int) := by omega
            have p3 : (1 : Int) ≤ (k : Int) := by omega
            have p4 : 1 ≤ k := by omega
            have hck : ((k : Int) - 1).toNat = k - 1 := by omega
            obtain ⟨b2, o2, hA2, hbb2, y0, y1, y2, y3, y4⟩ := out_at hrW (k - 1) (by omega)
            injection hA2 with hA2
            injection hA2 with e1 e2 _
            subst e1 e2
            obtain ⟨t2, q4⟩ : ∃ t, outLess xs[k-1] xs[k] = t := ⟨_, rfl⟩
            have hT := hid (show ascB outLess (xs.take (k + 1)) = t2 by rw [ascB_step _ hlt, has.out, if_neg (by omega)]; simpa using q4)
            clear q3
            go_upto_region 7 with fail
            refine region_sg [.rd [0, 1, 2, 3, 4, 5, 6, 7, 8, 9, 10, 11]] [12, 13, 14, 15] (by kernel_rfl) (by kernel_rfl) (fun _ _ d _ _ h => by cases d <;> exact h) ?_
            refine sg_rd (fun N hN => ?_)
            simp only [pickO, List.getElem?_toArray, List.getElem?_cons_zero, List.getElem?_cons_succ]
            go_wp2_with fail
            refine rd_next (hN _ ?_)
            clear hN N
            refine sg_fin ?_
            simp only [pickO, List.getElem?_toArray, List.getElem?_cons_zero, List.getElem?_cons_succ]
            have hb5W := hbW.drew
            go_wp2_with fail
            refine (OutLessI_c xs[k-1] xs[k] _).mono ?_
            rintro e w6 ⟨he, hb6⟩
            rw [q4] at he
            subst he
            apply_assumption
            have hbE := bthen hb5W hb6 hb5W.size
            cases t2
            case true =>
              go_wp2_with fail
              go_roundw
              case rel => exact ⟨k + 1, by go_num, by omega, al, hT, hbE⟩
              case measure => simp [intOf]; omega
            case false =>
              have HF := hid (show outsOk xs most = false by simp [outsOk, ascB_take _ hT.out])
              go_wp2_with fail
              go_ret
              exact ⟨by rw [HF.out]; rfl, hbE⟩
        · replace q1 : outOk xs[k] = false := by simpa using q1
          have HF := hid (show outsOk xs most = false by simp [outsOk, all_false hlt q1])
          go_upto_region 7 with fail
          refine region_sg [.rd [0, 1, 2, 3, 4, 5, 6, 7, 8, 9, 10, 11]] [12, 13, 14, 15] (by kernel_rfl) (by kernel_rfl) (fun _ _ d _ _ h => by cases d <;> exact h) ?_
          refine sg_rd (fun N hN => ?_)
          simp only [pickO, List.getElem?_toArray, List.getElem?_cons_zero, List.getElem?_cons_succ]
          go_wp2_with fail
          refine rd_next (hN _ ?_)
          clear hN N
          refine sg_fin ?_
          simp only [pickO, List.getElem?_toArray, List.getElem?_cons_zero, List.getElem?_cons_succ]
          have hbE := hbW.drew
          go_wp2_with fail
          go_ret
          exact ⟨by rw [HF.out]; rfl, hbE⟩
      · have hkl : k = xs.length := by omega
        subst hkl
        have h1 := hal.out
        have h2 := has.out
        rw [List.take_length] at h1 h2
        have HF := hid (show outsOk xs most = true by simp [outsOk, h1, h2, HM.out])
        clear h1 h2
        go_wp2_with fail
        go_ret
        exact ⟨by rw [HF.out]; rfl, hb⟩
  · have hg : decide ((xs.length : Int) > most) = true := by simp; omega
    have HF := hid (show outsOk xs most = false by simp [outsOk]; intro h; omega)
    clear hm
    go_enter Tryz.func122, Tryz.ntmps122
    go_wp2_with fail
    go_ret
    exact ⟨by rw [HF.out]; rfl, Below.refl _ _⟩
end Go.Proofs.YtbcemldiahghcaaGreat

namespace Go.Proofs.YtbcemldiahghcaaGreat
set_option linter.unusedVariables false
set_option linter.unusedSimpArgs false
set_option maxRecDepth 100000
open Go.RowKit
set_option maxHeartbeats 4000000 in
theorem SimOkI_c (vs vq vo : Value) (s : SimD) (F : Nat → Prop) (w : World) (hs : Rd tSt w F vs s.states) (hq : Rd tEv w F vq s.queue) (ho : Rd tOut w F vo s.outs) :
    Calls Tryz.prog 75 #[.agg #[vs, vq, vo]] w fun e w' => e = .returned (.bool (simOk s)) ∧ Below w.heap.size w w' := by
  obtain ⟨A, cp, rfl, -, hlen, -⟩ := id hs
  have hb0 := balloc (Below.refl w.heap.size w) (.cells #[.slice A s.states.length cp, vq, vo] 28)
  by_cases q1 : s.states.length = 4
  · have hn : ((s.states.length : Int) != 4) = false := by simp [q1]
    have Q1 := hid q1
    have hl4 : s.states.length ≤ 4 := by omega
    clear q1
    go_enter Tryz.func75, Tryz.ntmps75
    go_wp2_with fail
    have Z0 : (w.alloc (.cells #[.slice A s.states.length cp, vq, vo] 28)).heap[w.heap.size]? = some (.cells #[.slice A s.states.length cp, vq, vo] 28 (0, 0)) := heap_at rfl
    generalize w.alloc (.cells #[.slice A s.states.length cp, vq, vo] 28) = W at *
    go_loopw [12] (fun i wr => ∃ k : Nat, i = .int .i64 k ∧ k ≤ s.states.length ∧ Hid ((s.states.take k).all stOk = true) ∧ wr.heap[w.heap.size]? = some (.cells #[.slice A s.states.length cp, vq, vo] 28 (0, 0)) ∧ Below w.heap.size w wr) (fun i _ => s.states.length - (intOf i).toNat)
    case atStart => exact ⟨0, rfl, Nat.zero_le _, rfl, Z0, hb0⟩
    case round =>
      clear Z0 hb0
      obtain ⟨k, rfl, hk, hal, Z, hb⟩ := hrel
      by_cases hlt : k < s.states.length
      · obtain ⟨b0, o0, rfl, hb0, a0, a1, a2⟩ := st_at (hs.below hb) k hlt
        have p0 : (k : Int) < (s.states.length : Int) := by omega
        obtain ⟨t, q2⟩ : ∃ t, stOk s.states[k] = t := ⟨_, rfl⟩
        go_wp2_with fail
        refine (stateOk_c _ _ _ _).mono ?_
        rintro e w5 ⟨he, hb5⟩
        have t0 : stOk ⟨s.states[k].x, s.states[k].y, s.states[k].c⟩ = t := q2
        rw [t0] at he
        subst he
        clear t0
        have hbw := balloc (Below.refl wr.heap.size wr) (.cells #[.int .i64 s.states[k].x, .int .i64 s.states[k].y, .int .i64 s.states[k].c] 49)
        have hb6 := bthen' hbw hb5
        have Z5 := below_heap hb6 (blk_lt Z) Z
        have hb7 := bthen hb hb6 hb.size
        clear hbw hb6 hb5 Z hb a0 a1 a2
        apply_assumption
        cases t
        case true =>
          have al := hid (all_snoc hlt hal.out q2)
          go_wp2_with fail
          go_roundw
          case rel => exact ⟨k + 1, by go_num, by omega, al, Z5, hb7⟩
          case measure => simp [intOf]; omega
        case false =>
          have HF := hid (simOk_false4 hlt q2)
          go_wp2_with fail
          go_ret
          exact ⟨by rw [HF.out]; rfl, hb7⟩
      · have hkl : k = s.states.length := by omega
        subst hkl
        have hall' := hal.out
        rw [List.take_length] at hall'
        have HA := hid hall'
        have c1 : wr.cell? ⟨w.heap.size, 1, none⟩ = some vq := blk_cell Z 1
        clear hall' hlt
        obtain ⟨t2, q2⟩ : ∃ t, evsOk s.queue 100 = t := ⟨_, rfl⟩
        obtain ⟨t3, q3⟩ : ∃ t, outsOk s.outs 96 = t := ⟨_, rfl⟩
        have HF := hid (show simOk s = (t2 && t3) by simp [simOk, HA.out, Q1.out, q2, q3])
        go_wp2_with fail
        refine (eventsOkI_c _ s.queue 100 F _ (hq.below hb)).mono ?_
        rintro e w5 ⟨he, hb5⟩
        rw [q2] at he
        subst he
        have Z5 := below_heap hb5 (blk_lt Z) Z
        have hb6 := bthen hb hb5 hb.size
        have c2 : w5.cell? ⟨w.heap.size, 2, none⟩ = some vo := blk_cell Z5 2
        clear hb5 Z hb c1 q2
        apply_assumption
        cases t2
        case true =>
          go_wp2_with fail
          refine (outsOkI_c _ s.outs 96 F _ (ho.below hb6)).mono ?_
          rintro e w6 ⟨he, hb7⟩
          rw [q3] at he
          subst he
          have hb8 := bthen hb6 hb7 hb6.size
          apply_assumption
          go_wp2_with fail
          go_ret
          exact ⟨by rw [HF.out]; cases t3 <;> rfl, hb8⟩
        case false =>
          go_wp2_with fail
          go_ret
          exact ⟨by rw [HF.out]; rfl, hb6⟩
  · have HF := hid (simOk_false1 q1)
    have hn : ((s.states.length : Int) != 4) = true := by simp; omega
    clear q1
    go_enter Tryz.func75, Tryz.ntmps75
    go_wp2_with fail
    go_ret
    exact ⟨by rw [HF.out]; rfl, hb0⟩
end Go.Proofs.YtbcemldiahghcaaGreat
