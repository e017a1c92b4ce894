/- FnSimOuts: what is let out ahead of a time is a beginning of all that is let out. -/
import Derived.Test.YtmnccekljombmaaJ27
import Derived.Test.YtmnccekljombmaaJ28
import Derived.Test.YtmnccekljombmaaJ29
import Derived.Test.YtmnccekljombmaaJ26
import Derived.Test.YtmnccekljombmaaJ11
set_option linter.unusedVariables false
set_option linter.unusedSimpArgs false
set_option maxRecDepth 100000
namespace Go.Proofs.Ytmnccekljombmaa
open Go.RowKit
theorem simRun_late {apps : List AppD} (ha : appsOk apps = true) (u : Int) (hu : 41 ≤ u) : simRun apps u = simRun apps 41 := by
  rw [← simRun_two ha 41 u hu, simLoop_nil u _ (simRun_end ha)]
theorem simRun_outs' {apps : List AppD} (ha : appsOk apps = true) (u : Int) : ((simRun apps 41).outs.filter (fun o => decide (o.time < u))).length = (simRun apps u).outs.length ∧ (simRun apps 41).outs.take (simRun apps u).outs.length = (simRun apps u).outs := by
  by_cases hu : u ≤ 41
  · obtain ⟨h1, h2⟩ := simRun_outs ha u hu
    rw [← h1] at h2
    exact ⟨by rw [← h1], h2⟩
  · rw [simRun_late ha u (by omega)]
    refine ⟨?_, List.take_length⟩
    rw [List.filter_eq_self.2]
    intro o ho
    have := (simRun_ok ha 41).2.1 o ho
    simp
    omega
theorem take_run (A : Option Addr) (n c k : Nat) (hk : k ≤ c) (w : World) : (Instr.sliceAt 33 (.slice A n c) none (some (.int .i64 k)) none).run Try.prog w = .ok (.slice A k c) w := by
  have hu := Try.underlying33
  have hs : ∀ w, (sizeOf 43).run Try.prog w = .ok 5 w := fun w => by kernel_rfl
  have h1 : (k : Int) ≤ (c : Int) := by omega
  have ha : Option.map (fun x : Addr => x.add 0) A = A := by
    cases A with
    | none => rfl
    | some a => obtain ⟨b, o, sp⟩ := a; cases sp <;> rfl
  simp [Instr.sliceAt, Instr.slice, Instr.sliceBounds, Instr.sliceBound, run_underlying hu, asIntOf, hs, h1, hk, ha]
theorem filt_step {α : Type} (p : α → Bool) {xs : List α} {k : Nat} (h : k < xs.length) : ((xs.take (k + 1)).filter p).length = ((xs.take k).filter p).length + (if p xs[k] = true then 1 else 0) := by
  rw [List.take_add_one, List.getElem?_eq_getElem h]
  simp only [Option.toList_some, List.filter_append, List.length_append]
  by_cases hp : p xs[k] = true
  · simp [List.filter, hp]
  · simp [List.filter, hp]
set_option maxHeartbeats 1000000 in
theorem FnSimOuts_any (A : Option Addr) (c : Nat) (bs : List Int) (w : World) (h : Rd (tInt .u8) w (fun k => k < w.heap.size) (.slice A bs.length c) bs) (hb : ∀ x ∈ bs, 0 ≤ x ∧ x ≤ 255) :
    Calls Try.prog 10 #[.slice A bs.length c] w fun e w' => e = .returned (.bool true) ∧ Below w.heap.size w w' := by
  by_cases hl : 1048576 < bs.length
  · have hd : decide ((1048576 : Int) < (bs.length : Int)) = true := decide_eq_true (by omega)
    go_enter Try.func10, Try.ntmps10
    go_wp2_with fail
    go_ret
    exact ⟨rfl, Below.refl _ _⟩
  · have hd : decide ((1048576 : Int) < (bs.length : Int)) = false := decide_eq_false (by omega)
    go_enter Try.func10, Try.ntmps10
    go_wp2_with fail
    refine (DrawSimRun_c A c bs _ h hb).mono ?_
    rintro q w1 ⟨v, apps, u, rfl, hA0, hl4, hu, hB1⟩
    obtain ⟨A1, c1, rfl, -⟩ := hA0.shape
    have hA := hA0.mono (F' := fun _ => True) (fun _ _ => trivial)
    clear hl hd h hb hA0
    apply_assumption
    go_wp2_with fail
    obtain ⟨s, hs⟩ : ∃ s, simRun apps u = s := ⟨_, rfl⟩
    refine (SimRunS_c _ apps u _ w1 hA).mono ?_
    rintro q w2 ⟨us, uq, uo, rfl, n2, hb2⟩
    rw [hs] at n2
    obtain ⟨V1, b1, rfl, z1⟩ := n2.st.shape
    obtain ⟨V2, b2, rfl, z2⟩ := n2.qu.shape
    obtain ⟨V3, b3, rfl, z3⟩ := n2.ou.shape
    have HS := hid hs
    clear hs
    apply_assumption
    go_wp2_with fail
    have G5 : (w2.alloc (.cells #[.slice V1 s.states.length b1, .slice V2 s.queue.length b2, .slice V3 s.outs.length b3] 64)).heap[w2.heap.size]? = some (.cells #[.slice V1 s.states.length b1, .slice V2 s.queue.length b2, .slice V3 s.outs.length b3] 64 (0, 0)) := heap_at rfl
    have hbx := balloc (Below.refl w2.heap.size w2) (.cells #[.slice V1 s.states.length b1, .slice V2 s.queue.length b2, .slice V3 s.outs.length b3] 64)
    have R5 := n2.rd.below hbx
    have hB2 := bthen (bthen hB1 hb2 hB1.size) hbx (bthen hB1 hb2 hB1.size).size
    have hA2 := (hA.below hb2).below hbx
    obtain ⟨g5, hg5⟩ : ∃ g, g = w2.heap.size := ⟨_, rfl⟩
    rw [← hg5] at G5
    simp only [← hg5]
    generalize w2.alloc (.cells #[.slice V1 s.states.length b1, .slice V2 s.queue.length b2, .slice V3 s.outs.length b3] 64) = W2 at *
    clear n2 hb2 hbx hB1 hA hg5
    refine (SimRunI_c _ apps u _ W2 hA2).mono ?_
    rintro q w3 ⟨us, uq, uo, rfl, n3, hb3⟩
    rw [HS.out] at n3
    obtain ⟨X1, x1, rfl, y1⟩ := n3.st.shape
    obtain ⟨X2, x2, rfl, y2⟩ := n3.qu.shape
    obtain ⟨X3, x3, rfl, y3⟩ := n3.ou.shape
    have K5 := below_heap hb3 (blk_lt G5) G5
    have hg56 := blk_lt K5
    have R5' := R5.below hb3
    have hB3 := bthen hB2 hb3 hB2.size
    have hA3 := hA2.below hb3
    clear G5 R5 hB2 hA2 hb3
    have c0 : w3.cell? ⟨g5, 0, none⟩ = some (.slice V1 s.states.length b1) := blk_cell K5 0
    have c1' : w3.cell? ⟨g5, 1, none⟩ = some (.slice V2 s.queue.length b2) := blk_cell K5 1
    have c2 : w3.cell? ⟨g5, 2, none⟩ = some (.slice V3 s.outs.length b3) := blk_cell K5 2
    have hgn : ¬ g5 = w3.heap.size := by omega
    apply_assumption
    go_wp2_with fail
    have G6 : (w3.alloc (.cells #[.slice X1 s.states.length x1, .slice X2 s.queue.length x2, .slice X3 s.outs.length x3] 64)).heap[w3.heap.size]? = some (.cells #[.slice X1 s.states.length x1, .slice X2 s.queue.length x2, .slice X3 s.outs.length x3] 64 (0, 0)) := heap_at rfl
    have L5 := (heap_old (o := .cells #[.slice X1 s.states.length x1, .slice X2 s.queue.length x2, .slice X3 s.outs.length x3] 64) hg56).trans K5
    have hbx := balloc (Below.refl w3.heap.size w3) (.cells #[.slice X1 s.states.length x1, .slice X2 s.queue.length x2, .slice X3 s.outs.length x3] 64)
    have R6 := (n3.rd.below hbx).mono (F' := fun _ => True) (fun _ _ => trivial)
    have R5 := (R5'.below hbx).mono (F' := fun _ => True) (fun _ _ => trivial)
    have hB4 := bthen hB3 hbx hB3.size
    have hA4 := hA3.below hbx
    obtain ⟨g6, hg6⟩ : ∃ g, g = w3.heap.size := ⟨_, rfl⟩
    rw [← hg6] at G6 hg56
    simp only [← hg6]
    generalize w3.alloc (.cells #[.slice X1 s.states.length x1, .slice X2 s.queue.length x2, .slice X3 s.outs.length x3] 64) = W3 at *
    clear n3 hbx hB3 hA3 K5 R5' hg6 c0 c1' c2 hgn
    refine (ltSim_c _ _ _ _ _ _ s s _ W3 R6 R5).mono ?_
    rintro q w4 ⟨rfl, hb5⟩
    have heq1 : decide (s = s) = true := decide_eq_true rfl
    rw [heq1]
    have G5 := below_heap hb5 (blk_lt L5) L5
    have H6 := below_heap hb5 (blk_lt G6) G6
    have R := R6.below hb5
    have R' := R5.below hb5
    have hA := hA4.below hb5
    have hB := bthen hB4 hb5 hB4.size
    clear L5 G6 R6 R5 hA4 hB4 hb5 heq1 hg56
    have c0 : w4.cell? ⟨g5, 0, none⟩ = some (.slice V1 s.states.length b1) := blk_cell G5 0
    have c1' : w4.cell? ⟨g5, 1, none⟩ = some (.slice V2 s.queue.length b2) := blk_cell G5 1
    have c2 : w4.cell? ⟨g5, 2, none⟩ = some (.slice V3 s.outs.length b3) := blk_cell G5 2
    have d0 : w4.cell? ⟨g6, 0, none⟩ = some (.slice X1 s.states.length x1) := blk_cell H6 0
    have d1 : w4.cell? ⟨g6, 1, none⟩ = some (.slice X2 s.queue.length x2) := blk_cell H6 1
    have d2 : w4.cell? ⟨g6, 2, none⟩ = some (.slice X3 s.outs.length x3) := blk_cell H6 2
    apply_assumption
    obtain ⟨qa, hqa⟩ : ∃ t, appsOk apps = t := ⟨_, rfl⟩
    go_wp2_with fail
    refine (AppOk_c _ apps _ _ hA).mono ?_
    rintro q w5 ⟨rfl, hb5⟩
    rw [hqa]
    have K5 := below_heap hb5 (blk_lt G5) G5
    have K6 := below_heap hb5 (blk_lt H6) H6
    have S := R.below hb5
    have S' := R'.below hb5
    have hA5 := hA.below hb5
    have hB5 := bthen hB hb5 hB.size
    clear c0 c1' c2 d0 d1 d2 G5 H6 R R' hA hB hb5
    have c0 : w5.cell? ⟨g5, 0, none⟩ = some (.slice V1 s.states.length b1) := blk_cell K5 0
    have c1' : w5.cell? ⟨g5, 1, none⟩ = some (.slice V2 s.queue.length b2) := blk_cell K5 1
    have c2 : w5.cell? ⟨g5, 2, none⟩ = some (.slice V3 s.outs.length b3) := blk_cell K5 2
    have d0 : w5.cell? ⟨g6, 0, none⟩ = some (.slice X1 s.states.length x1) := blk_cell K6 0
    have d1 : w5.cell? ⟨g6, 1, none⟩ = some (.slice X2 s.queue.length x2) := blk_cell K6 1
    have d2 : w5.cell? ⟨g6, 2, none⟩ = some (.slice X3 s.outs.length x3) := blk_cell K6 2
    apply_assumption
    cases qa
    case false =>
      go_wp2_with fail
      refine (ltSim_c _ _ _ _ _ _ s s _ _ S S').mono ?_
      rintro q w6 ⟨rfl, hb6⟩
      have heq1 : decide (s = s) = true := decide_eq_true rfl
      have hB6 := bthen hB5 hb6 hB5.size
      rw [heq1]
      apply_assumption
      go_wp2_with fail
      go_ret
      exact ⟨rfl, hB6⟩
    case true =>
      have HO := hid (simRun_outs' hqa u)
      rw [HS.out] at HO
      obtain ⟨o, ho⟩ : ∃ o, simRun apps 41 = o := ⟨_, rfl⟩
      rw [ho] at HO
      go_wp2_with fail
      refine (SimRunI_c _ apps 41 _ w5 hA5).mono ?_
      rintro q w6 ⟨us, uq, uo, rfl, n6, hb6⟩
      rw [ho] at n6
      obtain ⟨Y3, y3, rfl, m3⟩ := n6.ou.shape
      have hfld : ∀ w, (Instr.field 64 (.agg #[us, uq, .slice Y3 o.outs.length y3]) 2).run Try.prog w = .ok (.slice Y3 o.outs.length y3) w := fun _ => by kernel_rfl
      have J6 := below_heap hb6 (blk_lt K6) K6
      have S6 := S.below hb6
      have O6 := n6.ou.rd.mono (F' := fun _ => True) (fun _ _ => trivial)
      have hB6 := bthen hB5 hb6 hB5.size
      clear c0 c1' c2 d0 d1 d2 K5 K6 S S' hA5 hB5 hb6 n6 ho
      apply_assumption
      go_wp2_with fail
      go_loopw [8, 9] (fun m i wr => ∃ k : Nat, i = .int .i64 k ∧ k ≤ o.outs.length ∧ m = .int .i64 (((o.outs.take k).filter (fun o => decide (o.time < u))).length : Nat) ∧ wr = w6) (fun _ i _ => o.outs.length - (intOf i).toNat)
      case atStart => exact ⟨0, rfl, Nat.zero_le _, rfl, rfl⟩
      case round =>
        obtain ⟨k, rfl, hk, rfl, rfl⟩ := hrel
        by_cases hlt : k < o.outs.length
        · have hst := filt_step (fun o : OutD => decide (o.time < u)) hlt
          have hfl : ((o.outs.take k).filter (fun o => decide (o.time < u))).length ≤ k := Nat.le_trans (List.length_filter_le _ _) (by simp; omega)
          obtain ⟨n, hn⟩ : ∃ n, ((o.outs.take k).filter (fun o => decide (o.time < u))).length = n := ⟨_, rfl⟩
          rw [hn] at hst hfl
          rw [hn]
          have p0 : (k : Int) < (o.outs.length : Int) := by omega
          obtain ⟨b0, o0, rfl, hb0, z0, z1, z2, z3, z4⟩ := out_at O6 k hlt
          by_cases ht : o.outs[k].time < u
          · have ht' : decide (o.outs[k].time < u) = true := by simpa using ht
            rw [if_pos ht'] at hst
            have HST := hid hst
            clear hst hn ht
            go_wp2_with fail
            go_roundw
            case rel => exact ⟨k + 1, by go_num, by omega, by rw [HST.out]; go_num, trivial⟩
            case measure => simp [intOf]; omega
          · have ht' : decide (o.outs[k].time < u) = false := by simpa using ht
            rw [if_neg (by simp [ht'])] at hst
            have HST := hid hst
            clear hst hn ht
            go_wp2_with fail
            go_roundw
            case rel => exact ⟨k + 1, by go_num, by omega, by rw [HST.out]; rfl, trivial⟩
            case measure => simp [intOf]; omega
        · have hkl : k = o.outs.length := by omega
          subst hkl
          rw [List.take_length, HO.out.1]
          have e0 : wr.cell? ⟨g6, 0, none⟩ = some (.slice X1 s.states.length x1) := blk_cell J6 0
          have e1 : wr.cell? ⟨g6, 1, none⟩ = some (.slice X2 s.queue.length x2) := blk_cell J6 1
          have e2 : wr.cell? ⟨g6, 2, none⟩ = some (.slice X3 s.outs.length x3) := blk_cell J6 2
          have hsl : s.outs.length ≤ o.outs.length := by
            have := congrArg List.length HO.out.2
            simp only [List.length_take] at this
            omega
          have hRT : Rd tOut wr (fun _ => True) (.slice Y3 s.outs.length y3) s.outs := by
            have := O6.takeP s.outs.length hsl
            rw [HO.out.2] at this
            exact this
          have hcc : s.outs.length ≤ y3 := by
            obtain ⟨A', c', he, hle, _⟩ := O6
            injection he with _ _ e3
            subst e3
            omega
          have htk := take_run Y3 o.outs.length y3 s.outs.length hcc
          go_upto_region 15 with fail
          refine region_sg [.rd [0, 1, 2, 3, 4, 5, 6, 7, 8, 9, 10]] [11, 12, 13] (by kernel_rfl) (by kernel_rfl) (fun _ _ d _ _ h => by cases d <;> exact h) ?_
          refine sg_rd (fun N hN => ?_)
          simp only [pickO, List.getElem?_toArray, List.getElem?_cons_zero, List.getElem?_cons_succ]
          go_wp2_with fail
          refine rd_next (hN _ ?_)
          clear hN N
          have hbd := (Below.refl wr.heap.size wr).drew
          refine sg_fin ?_
          simp only [pickO, List.getElem?_toArray, List.getElem?_cons_zero, List.getElem?_cons_succ]
          go_wp2_with fail
          refine (ltOuts_c _ _ s.outs s.outs (fun _ => True) _ (S6.ou.below hbd) (hRT.below hbd)).mono ?_
          rintro q w7 ⟨rfl, n1, rfl⟩
          have heq1 : decide (s.outs = s.outs) = true := decide_eq_true rfl
          rw [heq1]
          apply_assumption
          go_wp2_with fail
          go_ret
          exact ⟨rfl, bdrewN hB6 _⟩
end Go.Proofs.Ytmnccekljombmaa
