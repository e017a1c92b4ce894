/- FnSimStep: one machine never goes back in time. -/
import Derived.Test.YtmnccekljombmaaJ27
import Derived.Test.YtmnccekljombmaaDraw9J
import Derived.Test.YtmnccekljombmaaJ28
import Derived.Test.YtmnccekljombmaaJ29
import Derived.Test.YtmnccekljombmaaJ26
set_option linter.unusedVariables false
set_option linter.unusedSimpArgs false
set_option maxRecDepth 100000
namespace Go.Proofs.Ytmnccekljombmaa
open Go.RowKit
theorem simStep_yes {apps : List AppD} {s : SimD} (ha : appsOk apps = true) (hs : simOk s = true) {e : EvD} {rest : List EvD} (hq : s.queue = e :: rest) :
    (∀ q ∈ (simNext apps s).queue, e.time ≤ q.time ∧ q ≠ e) ∧ (∀ p, p ≠ e.to.toNat → (simNext apps s).states[p]? = s.states[p]?) ∧ (simNext apps s).states.length = s.states.length ∧ s.queue.length - 1 ≤ (simNext apps s).queue.length ∧ s.outs.length ≤ (simNext apps s).outs.length := by
  obtain ⟨he, h4, hst0⟩ := simOk_first hs hq
  have hev := he
  simp only [evOk, inn, Bool.and_eq_true, decide_eq_true_eq] at hev
  have hto : 0 ≤ e.to ∧ e.to ≤ 3 := ⟨by omega, by omega⟩
  have hi : e.to.toNat < s.states.length := by omega
  have hal : apps.length = 4 := by simp only [appsOk, Bool.and_eq_true, decide_eq_true_eq] at ha; exact ha.1
  have hia : e.to.toNat < apps.length := by omega
  have hA : appOk (apps.getD e.to.toNat ⟨[]⟩) = true := by
    simp only [appsOk, Bool.and_eq_true] at ha
    simp only [List.getD, List.getElem?_eq_getElem hia, Option.getD_some]
    exact List.all_eq_true.1 ha.2 _ (List.getElem_mem _)
  have hS : s.states.getD e.to.toNat st0 = s.states[e.to.toNat] := by simp [List.getD, hi]
  have hst := hst0 _ (List.getElem_mem hi)
  have hC := appRun_comes hA hst he
  have hx : simNext apps s = ⟨s.states.set e.to.toNat (appRun (apps.getD e.to.toNat ⟨[]⟩) s.states[e.to.toNat] e).1, evSort (rest ++ (appRun (apps.getD e.to.toNat ⟨[]⟩) s.states[e.to.toNat] e).2.1), outSort (s.outs ++ (appRun (apps.getD e.to.toNat ⟨[]⟩) s.states[e.to.toNat] e).2.2)⟩ := by
    unfold simNext; rw [hq]; simp only [hS]
  rw [hx]
  generalize appRun (apps.getD e.to.toNat ⟨[]⟩) s.states[e.to.toNat] e = r at hC
  obtain ⟨t', sd, ou⟩ := r
  obtain ⟨c1, c2, c3, c4, c5⟩ := hC
  simp only at c1 c2 c3 c4 c5
  obtain ⟨q1, q2⟩ := sortOnce_ok ev_ord (rest ++ sd)
  obtain ⟨o1, o2⟩ := sortAll_ok out_ord (s.outs ++ ou)
  have hqs : s.queue.Pairwise (fun a b => evLess a b = true) := by
    simp only [simOk, evsOk, Bool.and_eq_true] at hs
    exact (ascB_iff ev_ord _).1 hs.2.2.1.2.2
  rw [hq] at hqs
  obtain ⟨hq1, hq2⟩ := List.pairwise_cons.1 hqs
  have hql2 : rest.length ≤ (evSort (rest ++ sd)).length := by
    have hnd : rest.Nodup := hq2.imp (fun h' e' => by subst e'; rw [ev_ord.irrefl] at h'; cases h')
    exact len_mono hnd (fun x hx => (q2 x).2 (List.mem_append_left _ hx))
  have hol : (outSort (s.outs ++ ou)).length = s.outs.length + ou.length := by
    have := o2.length_eq; unfold outSort; simpa using this
  refine ⟨fun q hqq => ?_, fun p hp => List.getElem?_set_ne (Ne.symm hp), by simp, ?_, ?_⟩
  · rcases List.mem_append.1 ((q2 q).1 hqq) with h1 | h1
    · have hl := hq1 q h1
      exact ⟨evLess_time hl, fun e' => by subst e'; rw [ev_ord.irrefl] at hl; cases hl⟩
    · have := (c3 q h1).2
      exact ⟨by omega, fun e' => by subst e'; omega⟩
  · have : s.queue.length - 1 = rest.length := by rw [hq]; simp
    rw [this]; exact hql2
  · show s.outs.length ≤ (outSort (s.outs ++ ou)).length
    omega
/-- What a step comes to. -/
theorem simStep_cases (apps : List AppD) (s : SimD) :
    ((simOk s && appsOk apps) = false ∧ simStep apps s = (sim0, false)) ∨ ((simOk s = true ∧ appsOk apps = true) ∧ simStep apps s = (s, false)) ∨
      ((simOk s = true ∧ appsOk apps = true) ∧ simStep apps s = (simNext apps s, true) ∧ simOk (simNext apps s) = true ∧ ∃ e rest, s.queue = e :: rest) := by
  cases hs : simOk s with
  | false => exact Or.inl ⟨rfl, by simp [simStep, hs]⟩
  | true =>
    cases ha : appsOk apps with
    | false => exact Or.inl ⟨rfl, by simp [simStep, ha]⟩
    | true =>
      rw [simStep, if_pos ⟨hs, ha⟩]
      unfold simStepV
      match hq : s.queue with
      | [] => exact Or.inr (Or.inl ⟨⟨rfl, rfl⟩, rfl⟩)
      | e :: rest =>
        dsimp only
        by_cases hn : simOk (simNext apps s) = true
        · rw [if_pos hn]; exact Or.inr (Or.inr ⟨⟨rfl, rfl⟩, rfl, hn, e, rest, rfl⟩)
        · rw [if_neg hn]; exact Or.inr (Or.inl ⟨⟨rfl, rfl⟩, rfl⟩)
set_option maxHeartbeats 1000000 in
theorem FnSimStep_any (A : Option Addr) (c : Nat) (bs : List Int) (w : World) (h : Rd (tInt .u8) w (fun k => k < w.heap.size) (.slice A bs.length c) bs) (hb : ∀ x ∈ bs, 0 ≤ x ∧ x ≤ 255) :
    Calls Try.prog 14 #[.slice A bs.length c] w fun e w' => e = .returned (.bool true) ∧ Below w.heap.size w w' := by
  by_cases hl : 1048576 < bs.length
  · have hd : decide ((1048576 : Int) < (bs.length : Int)) = true := decide_eq_true (by omega)
    go_enter Try.func14, Try.ntmps14
    go_wp2_with fail
    go_ret
    exact ⟨rfl, Below.refl _ _⟩
  · have hd : decide ((1048576 : Int) < (bs.length : Int)) = false := decide_eq_false (by omega)
    go_enter Try.func14, Try.ntmps14
    go_wp2_with fail
    refine (DrawSimStep_c A c bs _ h hb).mono ?_
    rintro q w1 ⟨v, us, uq, uo, apps, s, rfl, hA, n, hB1⟩
    obtain ⟨A1, c1, rfl, -⟩ := hA.shape
    obtain ⟨V1, b1, rfl, z1⟩ := n.st.shape
    obtain ⟨V2, b2, rfl, z2⟩ := n.qu.shape
    obtain ⟨V3, b3, rfl, z3⟩ := n.ou.shape
    clear hl hd h hb
    apply_assumption
    go_wp2_with fail
    have G4 : (w1.alloc (.cells #[.slice V1 s.states.length b1, .slice V2 s.queue.length b2, .slice V3 s.outs.length b3] 64)).heap[w1.heap.size]? = some (.cells #[.slice V1 s.states.length b1, .slice V2 s.queue.length b2, .slice V3 s.outs.length b3] 64 (0, 0)) := heap_at rfl
    have hbx := balloc (Below.refl w1.heap.size w1) (.cells #[.slice V1 s.states.length b1, .slice V2 s.queue.length b2, .slice V3 s.outs.length b3] 64)
    have NM := n.below hbx
    have HA := hA.below hbx
    have HB := bthen hB1 hbx hB1.size
    obtain ⟨g4, hg4⟩ : ∃ g, g = w1.heap.size := ⟨_, rfl⟩
    rw [← hg4] at G4
    simp only [← hg4]
    generalize w1.alloc (.cells #[.slice V1 s.states.length b1, .slice V2 s.queue.length b2, .slice V3 s.outs.length b3] 64) = W1' at *
    clear n hA hB1 hbx hg4
    obtain ⟨⟨x, b⟩, hxb⟩ : ∃ r, simStep apps s = r := ⟨_, rfl⟩
    have HX := hid hxb
    refine (SimStepS_c _ _ _ _ apps s _ W1' HA NM).mono ?_
    rintro q w2 ⟨us, uq, uo, rfl, n2, hb2⟩
    rw [hxb] at n2
    simp only [hxb]
    clear hxb
    obtain ⟨W1, d1, rfl, y1⟩ := n2.st.shape
    obtain ⟨W2, d2, rfl, y2⟩ := n2.qu.shape
    obtain ⟨W3, d3, rfl, y3⟩ := n2.ou.shape
    have G4' := below_heap hb2 (blk_lt G4) G4
    have N2 := NM.below hb2
    have HA2 := HA.below hb2
    have HB2 := bthen HB hb2 HB.size
    have hg4 := blk_lt G4'
    clear G4 NM HA HB hb2
    have e0 : w2.cell? ⟨g4, 0, none⟩ = some (.slice V1 s.states.length b1) := blk_cell G4' 0
    have e1 : w2.cell? ⟨g4, 1, none⟩ = some (.slice V2 s.queue.length b2) := blk_cell G4' 1
    have e2 : w2.cell? ⟨g4, 2, none⟩ = some (.slice V3 s.outs.length b3) := blk_cell G4' 2
    apply_assumption
    go_upto_region 5 with fail
    have G5 : (w2.alloc (.cells #[.slice W1 x.states.length d1, .slice W2 x.queue.length d2, .slice W3 x.outs.length d3] 64)).heap[w2.heap.size]? = some (.cells #[.slice W1 x.states.length d1, .slice W2 x.queue.length d2, .slice W3 x.outs.length d3] 64 (0, 0)) := heap_at rfl
    have G4 := (heap_old (o := .cells #[.slice W1 x.states.length d1, .slice W2 x.queue.length d2, .slice W3 x.outs.length d3] 64) hg4).trans G4'
    have hbx := balloc (Below.refl w2.heap.size w2) (.cells #[.slice W1 x.states.length d1, .slice W2 x.queue.length d2, .slice W3 x.outs.length d3] 64)
    have NX := (n2.rd.below hbx).mono (F' := fun _ => True) (fun _ _ => trivial)
    have NM := N2.below hbx
    have HA := HA2.below hbx
    have HB := bthen HB2 hbx HB2.size
    obtain ⟨g5, hg5⟩ : ∃ g, g = w2.heap.size := ⟨_, rfl⟩
    rw [← hg5] at G5
    simp only [← hg5]
    generalize w2.alloc (.cells #[.slice W1 x.states.length d1, .slice W2 x.queue.length d2, .slice W3 x.outs.length d3] 64) = W2' at *
    clear n2 N2 HA2 HB2 hbx hg5 G4' hg4 e0 e1 e2
    have e0 : W2'.cell? ⟨g4, 0, none⟩ = some (.slice V1 s.states.length b1) := blk_cell G4 0
    have e1 : W2'.cell? ⟨g4, 1, none⟩ = some (.slice V2 s.queue.length b2) := blk_cell G4 1
    have e2 : W2'.cell? ⟨g4, 2, none⟩ = some (.slice V3 s.outs.length b3) := blk_cell G4 2
    obtain ⟨qs, hqs⟩ : ∃ t, simOk s = t := ⟨_, rfl⟩
    obtain ⟨qa, hqa⟩ : ∃ t, appsOk apps = t := ⟨_, rfl⟩
    have HQ := hid hqs
    have HQA := hid hqa
    go_wp2_with fail
    refine (SimOk_c _ _ _ s _ W2' NM.st NM.qu NM.ou).mono ?_
    rintro q w3 ⟨rfl, hb3⟩
    rw [hqs]
    have K4 := below_heap hb3 (blk_lt G4) G4
    have K5 := below_heap hb3 (blk_lt G5) G5
    have N3 := NM.below hb3
    have NX3 := NX.below hb3
    have HA3 := HA.below hb3
    have HB3 := bthen HB hb3 HB.size
    clear hqs hqa G4 G5 NM NX HA HB hb3 e0 e1 e2
    apply_assumption
    cases qs
    case false =>
      have hxx : x = sim0 ∧ b = false := by
        have := HX.out
        rcases simStep_cases apps s with ⟨h1, h2⟩ | ⟨⟨h1, h3⟩, h2⟩ | ⟨⟨h1, h3⟩, h2, h4⟩
        · rw [h2] at this; injection this with h5 h6; exact ⟨h5.symm, h6.symm⟩
        · rw [HQ.out] at h1; rw [HQA.out] at h3; cases h1 <;> cases h3
        · rw [HQ.out] at h1; rw [HQA.out] at h3; cases h1 <;> cases h3
      have HL0 := hid (show x.states.length = 0 by rw [hxx.1]; rfl)
      obtain ⟨-, rfl⟩ := hxx
      have e0 : w3.cell? ⟨g4, 0, none⟩ = some (.slice V1 s.states.length b1) := blk_cell K4 0
      have e1 : w3.cell? ⟨g4, 1, none⟩ = some (.slice V2 s.queue.length b2) := blk_cell K4 1
      have e2 : w3.cell? ⟨g4, 2, none⟩ = some (.slice V3 s.outs.length b3) := blk_cell K4 2
      go_wp2_with fail
      refine (SimStepI_c _ _ _ _ apps s _ w3 HA3 N3).mono ?_
      rintro q w5 ⟨us, uq, uo, rfl, n5, hb5⟩
      rw [HX.out] at n5
      simp only [HX.out]
      obtain ⟨X1, x1, rfl, u1⟩ := n5.st.shape
      obtain ⟨X2, x2, rfl, u2⟩ := n5.qu.shape
      obtain ⟨X3, x3, rfl, u3⟩ := n5.ou.shape
      have I4 := below_heap hb5 (blk_lt K4) K4
      have I5 := below_heap hb5 (blk_lt K5) K5
      have N5 := N3.below hb5
      have NX5 := NX3.below hb5
      have HA5 := HA3.below hb5
      have HB5 := bthen HB3 hb5 HB3.size
      have hg4 := blk_lt I4
      have hg5 := blk_lt I5
      clear K4 K5 N3 NX3 HA3 HB3 hb5 e0 e1 e2
      apply_assumption
      go_upto_region 7 with fail
      have G8 : (w5.alloc (.cells #[.slice X1 x.states.length x1, .slice X2 x.queue.length x2, .slice X3 x.outs.length x3] 64)).heap[w5.heap.size]? = some (.cells #[.slice X1 x.states.length x1, .slice X2 x.queue.length x2, .slice X3 x.outs.length x3] 64 (0, 0)) := heap_at rfl
      have G4 := (heap_old (o := .cells #[.slice X1 x.states.length x1, .slice X2 x.queue.length x2, .slice X3 x.outs.length x3] 64) hg4).trans I4
      have G5 := (heap_old (o := .cells #[.slice X1 x.states.length x1, .slice X2 x.queue.length x2, .slice X3 x.outs.length x3] 64) hg5).trans I5
      have hbx := balloc (Below.refl w5.heap.size w5) (.cells #[.slice X1 x.states.length x1, .slice X2 x.queue.length x2, .slice X3 x.outs.length x3] 64)
      have NI := (n5.rd.below hbx).mono (F' := fun _ => True) (fun _ _ => trivial)
      have NX := NX5.below hbx
      have NM := N5.below hbx
      have HB := bthen HB5 hbx HB5.size
      obtain ⟨g8, hg8⟩ : ∃ g, g = w5.heap.size := ⟨_, rfl⟩
      rw [← hg8] at G8
      simp only [← hg8]
      generalize w5.alloc (.cells #[.slice X1 x.states.length x1, .slice X2 x.queue.length x2, .slice X3 x.outs.length x3] 64) = W5 at *
      clear n5 N5 NX5 HA5 HB5 hbx hg8 I4 I5 hg4 hg5
      have e0 : W5.cell? ⟨g4, 0, none⟩ = some (.slice V1 s.states.length b1) := blk_cell G4 0
      have e1 : W5.cell? ⟨g4, 1, none⟩ = some (.slice V2 s.queue.length b2) := blk_cell G4 1
      have e2 : W5.cell? ⟨g4, 2, none⟩ = some (.slice V3 s.outs.length b3) := blk_cell G4 2
      have f0 : W5.cell? ⟨g5, 0, none⟩ = some (.slice W1 x.states.length d1) := blk_cell G5 0
      have f1 : W5.cell? ⟨g5, 1, none⟩ = some (.slice W2 x.queue.length d2) := blk_cell G5 1
      have f2 : W5.cell? ⟨g5, 2, none⟩ = some (.slice W3 x.outs.length d3) := blk_cell G5 2
      have h0 : W5.cell? ⟨g8, 0, none⟩ = some (.slice X1 x.states.length x1) := blk_cell G8 0
      have h1 : W5.cell? ⟨g8, 1, none⟩ = some (.slice X2 x.queue.length x2) := blk_cell G8 1
      have h2 : W5.cell? ⟨g8, 2, none⟩ = some (.slice X3 x.outs.length x3) := blk_cell G8 2
      refine region_sg [.rd [0, 1, 2, 3, 4, 5], .mid 6, .rd [7, 8, 9, 10, 12], .mid 11, .mid 13] [14, 15] (by kernel_rfl) (by kernel_rfl) (fun _ _ d _ _ h => by cases d <;> exact h) ?_
      refine sg_rd (fun N hN => ?_)
      simp only [pickO, List.getElem?_toArray, List.getElem?_cons_zero, List.getElem?_cons_succ]
      go_wp2_with fail
      refine rd_next (hN _ ?_)
      clear hN N
      refine sg_mid (fun N hN => ?_)
      simp only [pickO, List.getElem?_toArray, List.getElem?_cons_zero, List.getElem?_cons_succ]
      go_wp2_with fail
      have hbd := (Below.refl W5.heap.size W5).drew
      refine (ltSim_c _ _ _ _ _ _ x x _ _ (NI.below hbd) (NX.below hbd)).mono ?_
      rintro q w6 ⟨rfl, hb6⟩
      have heq1 : decide (x = x) = true := decide_eq_true rfl
      rw [heq1]
      have hb6' := bthen' hbd hb6
      apply_assumption
      refine mid_next (Agree.of_below hb6) (hN _ _ ?_)
      clear hN
      refine sg_rd (fun N hN => ?_)
      simp only [pickO, List.getElem?_toArray, List.getElem?_cons_zero, List.getElem?_cons_succ]
      go_wp2_with fail
      refine rd_next (hN _ ?_)
      clear hN N
      refine sg_mid (fun N hN => ?_)
      simp only [pickO, List.getElem?_toArray, List.getElem?_cons_zero, List.getElem?_cons_succ]
      go_wp2_with fail
      have Ns := NM.below hb6'
      refine (SimOkI_c _ _ _ s _ _ Ns.st Ns.qu Ns.ou).mono ?_
      rintro q w7 ⟨rfl, hb7⟩
      rw [HQ.out]
      replace hb7 := bthen hb6 hb7 hb6.size
      have hb7' := bthen' hbd hb7
      apply_assumption
      refine mid_next (Agree.of_below hb7) (hN _ _ ?_)
      clear hN
      refine sg_mid (fun N hN => ?_)
      simp only [pickO, List.getElem?_toArray, List.getElem?_cons_zero, List.getElem?_cons_succ]
      go_wp2_with fail
      have Ns := NM.below hb7'
      refine (SimOk_c _ _ _ s _ _ Ns.st Ns.qu Ns.ou).mono ?_
      rintro q w8 ⟨rfl, hb8⟩
      rw [HQ.out]
      replace hb8 := bthen hb7 hb8 hb7.size
      have hb8' := bthen' hbd hb8
      apply_assumption
      refine mid_next (Agree.of_below hb8) (hN _ _ ?_)
      clear hN
      refine sg_fin ?_
      simp only [pickO, List.getElem?_toArray, List.getElem?_cons_zero, List.getElem?_cons_succ]
      have I4 := below_heap hb8' (blk_lt G4) G4
      have I8 := below_heap hb8' (blk_lt G8) G8
      have M := NM.below hb8'
      have MI := NI.below hb8'
      have HB8 := bthen HB hb8' HB.size
      clear G4 G5 G8 NM NX NI HB hb6 hb7 hb8 hb6' hb7' hb8' hbd Ns heq1 e0 e1 e2 f0 f1 f2 h0 h1 h2
      have e0 : w8.cell? ⟨g4, 0, none⟩ = some (.slice V1 s.states.length b1) := blk_cell I4 0
      have e1 : w8.cell? ⟨g4, 1, none⟩ = some (.slice V2 s.queue.length b2) := blk_cell I4 1
      have e2 : w8.cell? ⟨g4, 2, none⟩ = some (.slice V3 s.outs.length b3) := blk_cell I4 2
      have h0 : w8.cell? ⟨g8, 0, none⟩ = some (.slice X1 x.states.length x1) := blk_cell I8 0
      have h1 : w8.cell? ⟨g8, 1, none⟩ = some (.slice X2 x.queue.length x2) := blk_cell I8 1
      have h2 : w8.cell? ⟨g8, 2, none⟩ = some (.slice X3 x.outs.length x3) := blk_cell I8 2
      rw [HL0.out] at h0
      go_wp2_with fail
      go_ret
      exact ⟨rfl, HB8⟩
    case true =>
      have e0 : w3.cell? ⟨g4, 0, none⟩ = some (.slice V1 s.states.length b1) := blk_cell K4 0
      have e1 : w3.cell? ⟨g4, 1, none⟩ = some (.slice V2 s.queue.length b2) := blk_cell K4 1
      have e2 : w3.cell? ⟨g4, 2, none⟩ = some (.slice V3 s.outs.length b3) := blk_cell K4 2
      go_wp2_with fail
      refine (AppOk_c _ apps _ w3 HA3).mono ?_
      rintro q w4 ⟨rfl, hb4⟩
      rw [HQA.out]
      have J4 := below_heap hb4 (blk_lt K4) K4
      have J5 := below_heap hb4 (blk_lt K5) K5
      have N4 := N3.below hb4
      have NX4 := NX3.below hb4
      have HA4 := HA3.below hb4
      have HB4 := bthen HB3 hb4 HB3.size
      clear K4 K5 N3 NX3 HA3 HB3 hb4 e0 e1 e2
      have e0 : w4.cell? ⟨g4, 0, none⟩ = some (.slice V1 s.states.length b1) := blk_cell J4 0
      have e1 : w4.cell? ⟨g4, 1, none⟩ = some (.slice V2 s.queue.length b2) := blk_cell J4 1
      have e2 : w4.cell? ⟨g4, 2, none⟩ = some (.slice V3 s.outs.length b3) := blk_cell J4 2
      obtain ⟨K4, K5⟩ := And.intro J4 J5
      clear J4 J5
      apply_assumption
      cases qa
      case false =>
        have hxx : x = sim0 ∧ b = false := by
          have := HX.out
          rcases simStep_cases apps s with ⟨h1, h2⟩ | ⟨⟨h1, h3⟩, h2⟩ | ⟨⟨h1, h3⟩, h2, h4⟩
          · rw [h2] at this; injection this with h5 h6; exact ⟨h5.symm, h6.symm⟩
          · rw [HQ.out] at h1; rw [HQA.out] at h3; cases h1 <;> cases h3
          · rw [HQ.out] at h1; rw [HQA.out] at h3; cases h1 <;> cases h3
        have HL0 := hid (show x.states.length = 0 by rw [hxx.1]; rfl)
        obtain ⟨-, rfl⟩ := hxx
        go_wp2_with fail
        refine (SimStepI_c _ _ _ _ apps s _ w4 HA4 N4).mono ?_
        rintro q w5 ⟨us, uq, uo, rfl, n5, hb5⟩
        rw [HX.out] at n5
        simp only [HX.out]
        obtain ⟨X1, x1, rfl, u1⟩ := n5.st.shape
        obtain ⟨X2, x2, rfl, u2⟩ := n5.qu.shape
        obtain ⟨X3, x3, rfl, u3⟩ := n5.ou.shape
        have I4 := below_heap hb5 (blk_lt K4) K4
        have I5 := below_heap hb5 (blk_lt K5) K5
        have N5 := N4.below hb5
        have NX5 := NX4.below hb5
        have HA5 := HA4.below hb5
        have HB5 := bthen HB4 hb5 HB4.size
        have hg4 := blk_lt I4
        have hg5 := blk_lt I5
        clear K4 K5 N4 NX4 HA4 HB4 hb5 e0 e1 e2
        apply_assumption
        go_upto_region 7 with fail
        have G8 : (w5.alloc (.cells #[.slice X1 x.states.length x1, .slice X2 x.queue.length x2, .slice X3 x.outs.length x3] 64)).heap[w5.heap.size]? = some (.cells #[.slice X1 x.states.length x1, .slice X2 x.queue.length x2, .slice X3 x.outs.length x3] 64 (0, 0)) := heap_at rfl
        have G4 := (heap_old (o := .cells #[.slice X1 x.states.length x1, .slice X2 x.queue.length x2, .slice X3 x.outs.length x3] 64) hg4).trans I4
        have G5 := (heap_old (o := .cells #[.slice X1 x.states.length x1, .slice X2 x.queue.length x2, .slice X3 x.outs.length x3] 64) hg5).trans I5
        have hbx := balloc (Below.refl w5.heap.size w5) (.cells #[.slice X1 x.states.length x1, .slice X2 x.queue.length x2, .slice X3 x.outs.length x3] 64)
        have NI := (n5.rd.below hbx).mono (F' := fun _ => True) (fun _ _ => trivial)
        have NX := NX5.below hbx
        have NM := N5.below hbx
        have HB := bthen HB5 hbx HB5.size
        obtain ⟨g8, hg8⟩ : ∃ g, g = w5.heap.size := ⟨_, rfl⟩
        rw [← hg8] at G8
        simp only [← hg8]
        generalize w5.alloc (.cells #[.slice X1 x.states.length x1, .slice X2 x.queue.length x2, .slice X3 x.outs.length x3] 64) = W5 at *
        clear n5 N5 NX5 HA5 HB5 hbx hg8 I4 I5 hg4 hg5
        have e0 : W5.cell? ⟨g4, 0, none⟩ = some (.slice V1 s.states.length b1) := blk_cell G4 0
        have e1 : W5.cell? ⟨g4, 1, none⟩ = some (.slice V2 s.queue.length b2) := blk_cell G4 1
        have e2 : W5.cell? ⟨g4, 2, none⟩ = some (.slice V3 s.outs.length b3) := blk_cell G4 2
        have f0 : W5.cell? ⟨g5, 0, none⟩ = some (.slice W1 x.states.length d1) := blk_cell G5 0
        have f1 : W5.cell? ⟨g5, 1, none⟩ = some (.slice W2 x.queue.length d2) := blk_cell G5 1
        have f2 : W5.cell? ⟨g5, 2, none⟩ = some (.slice W3 x.outs.length d3) := blk_cell G5 2
        have h0 : W5.cell? ⟨g8, 0, none⟩ = some (.slice X1 x.states.length x1) := blk_cell G8 0
        have h1 : W5.cell? ⟨g8, 1, none⟩ = some (.slice X2 x.queue.length x2) := blk_cell G8 1
        have h2 : W5.cell? ⟨g8, 2, none⟩ = some (.slice X3 x.outs.length x3) := blk_cell G8 2
        refine region_sg [.rd [0, 1, 2, 3, 4, 5], .mid 6, .rd [7, 8, 9, 10, 12], .mid 11, .mid 13] [14, 15] (by kernel_rfl) (by kernel_rfl) (fun _ _ d _ _ h => by cases d <;> exact h) ?_
        refine sg_rd (fun N hN => ?_)
        simp only [pickO, List.getElem?_toArray, List.getElem?_cons_zero, List.getElem?_cons_succ]
        go_wp2_with fail
        refine rd_next (hN _ ?_)
        clear hN N
        refine sg_mid (fun N hN => ?_)
        simp only [pickO, List.getElem?_toArray, List.getElem?_cons_zero, List.getElem?_cons_succ]
        go_wp2_with fail
        have hbd := (Below.refl W5.heap.size W5).drew
        refine (ltSim_c _ _ _ _ _ _ x x _ _ (NI.below hbd) (NX.below hbd)).mono ?_
        rintro q w6 ⟨rfl, hb6⟩
        have heq1 : decide (x = x) = true := decide_eq_true rfl
        rw [heq1]
        have hb6' := bthen' hbd hb6
        apply_assumption
        refine mid_next (Agree.of_below hb6) (hN _ _ ?_)
        clear hN
        refine sg_rd (fun N hN => ?_)
        simp only [pickO, List.getElem?_toArray, List.getElem?_cons_zero, List.getElem?_cons_succ]
        go_wp2_with fail
        refine rd_next (hN _ ?_)
        clear hN N
        refine sg_mid (fun N hN => ?_)
        simp only [pickO, List.getElem?_toArray, List.getElem?_cons_zero, List.getElem?_cons_succ]
        go_wp2_with fail
        have Ns := NM.below hb6'
        refine (SimOkI_c _ _ _ s _ _ Ns.st Ns.qu Ns.ou).mono ?_
        rintro q w7 ⟨rfl, hb7⟩
        rw [HQ.out]
        replace hb7 := bthen hb6 hb7 hb6.size
        have hb7' := bthen' hbd hb7
        apply_assumption
        refine mid_next (Agree.of_below hb7) (hN _ _ ?_)
        clear hN
        refine sg_mid (fun N hN => ?_)
        simp only [pickO, List.getElem?_toArray, List.getElem?_cons_zero, List.getElem?_cons_succ]
        go_wp2_with fail
        have Ns := NM.below hb7'
        refine (SimOk_c _ _ _ s _ _ Ns.st Ns.qu Ns.ou).mono ?_
        rintro q w8 ⟨rfl, hb8⟩
        rw [HQ.out]
        replace hb8 := bthen hb7 hb8 hb7.size
        have hb8' := bthen' hbd hb8
        apply_assumption
        refine mid_next (Agree.of_below hb8) (hN _ _ ?_)
        clear hN
        refine sg_fin ?_
        simp only [pickO, List.getElem?_toArray, List.getElem?_cons_zero, List.getElem?_cons_succ]
        have I4 := below_heap hb8' (blk_lt G4) G4
        have I8 := below_heap hb8' (blk_lt G8) G8
        have M := NM.below hb8'
        have MI := NI.below hb8'
        have HB8 := bthen HB hb8' HB.size
        clear G4 G5 G8 NM NX NI HB hb6 hb7 hb8 hb6' hb7' hb8' hbd Ns heq1 e0 e1 e2 f0 f1 f2 h0 h1 h2
        have e0 : w8.cell? ⟨g4, 0, none⟩ = some (.slice V1 s.states.length b1) := blk_cell I4 0
        have e1 : w8.cell? ⟨g4, 1, none⟩ = some (.slice V2 s.queue.length b2) := blk_cell I4 1
        have e2 : w8.cell? ⟨g4, 2, none⟩ = some (.slice V3 s.outs.length b3) := blk_cell I4 2
        have h0 : w8.cell? ⟨g8, 0, none⟩ = some (.slice X1 x.states.length x1) := blk_cell I8 0
        have h1 : w8.cell? ⟨g8, 1, none⟩ = some (.slice X2 x.queue.length x2) := blk_cell I8 1
        have h2 : w8.cell? ⟨g8, 2, none⟩ = some (.slice X3 x.outs.length x3) := blk_cell I8 2
        rw [HL0.out] at h0
        go_wp2_with fail
        go_ret
        exact ⟨rfl, HB8⟩
      case true =>
        have hcs : (x = s ∧ b = false) ∨ (b = true ∧ simOk x = true ∧ ∃ e rest, s.queue = e :: rest ∧ (∀ q ∈ x.queue, e.time ≤ q.time ∧ q ≠ e) ∧ (∀ p, p ≠ e.to.toNat → x.states[p]? = s.states[p]?) ∧ x.states.length = s.states.length ∧ s.queue.length - 1 ≤ x.queue.length ∧ s.outs.length ≤ x.outs.length ∧ 0 ≤ e.to) := by
          have := HX.out
          rcases simStep_cases apps s with ⟨h1, h2⟩ | ⟨⟨h1, h3⟩, h2⟩ | ⟨⟨h1, h3⟩, h2, h4, e, rest, hq⟩
          · rw [HQ.out, HQA.out] at h1; cases h1
          · rw [h2] at this; injection this with h5 h6; exact Or.inl ⟨h5.symm, h6.symm⟩
          · rw [h2] at this
            injection this with h5 h6
            subst h5
            have he := (simOk_first h1 hq).1
            simp only [evOk, inn, Bool.and_eq_true, decide_eq_true_eq] at he
            obtain ⟨k1, k2, k3, k4, k5⟩ := simStep_yes h3 h1 hq
            exact Or.inr ⟨h6.symm, h4, e, rest, hq, k1, k2, k3, k4, k5, by omega⟩
        have HCS := hid hcs
        clear hcs
        cases b
        case false =>
          have HXS := hid (show x = s by rcases HCS.out with h | h; exact h.1; cases h.1)
          go_wp2_with fail
          refine (SimStepI_c _ _ _ _ apps s _ w4 HA4 N4).mono ?_
          rintro q w5 ⟨us, uq, uo, rfl, n5, hb5⟩
          rw [HX.out] at n5
          simp only [HX.out]
          obtain ⟨X1, x1, rfl, u1⟩ := n5.st.shape
          obtain ⟨X2, x2, rfl, u2⟩ := n5.qu.shape
          obtain ⟨X3, x3, rfl, u3⟩ := n5.ou.shape
          have I4 := below_heap hb5 (blk_lt K4) K4
          have I5 := below_heap hb5 (blk_lt K5) K5
          have N5 := N4.below hb5
          have NX5 := NX4.below hb5
          have HA5 := HA4.below hb5
          have HB5 := bthen HB4 hb5 HB4.size
          have hg4 := blk_lt I4
          have hg5 := blk_lt I5
          clear K4 K5 N4 NX4 HA4 HB4 hb5 e0 e1 e2
          apply_assumption
          go_upto_region 7 with fail
          have G8 : (w5.alloc (.cells #[.slice X1 x.states.length x1, .slice X2 x.queue.length x2, .slice X3 x.outs.length x3] 64)).heap[w5.heap.size]? = some (.cells #[.slice X1 x.states.length x1, .slice X2 x.queue.length x2, .slice X3 x.outs.length x3] 64 (0, 0)) := heap_at rfl
          have G4 := (heap_old (o := .cells #[.slice X1 x.states.length x1, .slice X2 x.queue.length x2, .slice X3 x.outs.length x3] 64) hg4).trans I4
          have G5 := (heap_old (o := .cells #[.slice X1 x.states.length x1, .slice X2 x.queue.length x2, .slice X3 x.outs.length x3] 64) hg5).trans I5
          have hbx := balloc (Below.refl w5.heap.size w5) (.cells #[.slice X1 x.states.length x1, .slice X2 x.queue.length x2, .slice X3 x.outs.length x3] 64)
          have NI := (n5.rd.below hbx).mono (F' := fun _ => True) (fun _ _ => trivial)
          have NX := NX5.below hbx
          have NM := N5.below hbx
          have HB := bthen HB5 hbx HB5.size
          obtain ⟨g8, hg8⟩ : ∃ g, g = w5.heap.size := ⟨_, rfl⟩
          rw [← hg8] at G8
          simp only [← hg8]
          generalize w5.alloc (.cells #[.slice X1 x.states.length x1, .slice X2 x.queue.length x2, .slice X3 x.outs.length x3] 64) = W5 at *
          clear n5 N5 NX5 HA5 HB5 hbx hg8 I4 I5 hg4 hg5
          have e0 : W5.cell? ⟨g4, 0, none⟩ = some (.slice V1 s.states.length b1) := blk_cell G4 0
          have e1 : W5.cell? ⟨g4, 1, none⟩ = some (.slice V2 s.queue.length b2) := blk_cell G4 1
          have e2 : W5.cell? ⟨g4, 2, none⟩ = some (.slice V3 s.outs.length b3) := blk_cell G4 2
          have f0 : W5.cell? ⟨g5, 0, none⟩ = some (.slice W1 x.states.length d1) := blk_cell G5 0
          have f1 : W5.cell? ⟨g5, 1, none⟩ = some (.slice W2 x.queue.length d2) := blk_cell G5 1
          have f2 : W5.cell? ⟨g5, 2, none⟩ = some (.slice W3 x.outs.length d3) := blk_cell G5 2
          have h0 : W5.cell? ⟨g8, 0, none⟩ = some (.slice X1 x.states.length x1) := blk_cell G8 0
          have h1 : W5.cell? ⟨g8, 1, none⟩ = some (.slice X2 x.queue.length x2) := blk_cell G8 1
          have h2 : W5.cell? ⟨g8, 2, none⟩ = some (.slice X3 x.outs.length x3) := blk_cell G8 2
          refine region_sg [.rd [0, 1, 2, 3, 4, 5], .mid 6, .rd [7, 8, 9, 10, 12], .mid 11, .mid 13] [14, 15] (by kernel_rfl) (by kernel_rfl) (fun _ _ d _ _ h => by cases d <;> exact h) ?_
          refine sg_rd (fun N hN => ?_)
          simp only [pickO, List.getElem?_toArray, List.getElem?_cons_zero, List.getElem?_cons_succ]
          go_wp2_with fail
          refine rd_next (hN _ ?_)
          clear hN N
          refine sg_mid (fun N hN => ?_)
          simp only [pickO, List.getElem?_toArray, List.getElem?_cons_zero, List.getElem?_cons_succ]
          go_wp2_with fail
          have hbd := (Below.refl W5.heap.size W5).drew
          refine (ltSim_c _ _ _ _ _ _ x x _ _ (NI.below hbd) (NX.below hbd)).mono ?_
          rintro q w6 ⟨rfl, hb6⟩
          have heq1 : decide (x = x) = true := decide_eq_true rfl
          rw [heq1]
          have hb6' := bthen' hbd hb6
          apply_assumption
          refine mid_next (Agree.of_below hb6) (hN _ _ ?_)
          clear hN
          refine sg_rd (fun N hN => ?_)
          simp only [pickO, List.getElem?_toArray, List.getElem?_cons_zero, List.getElem?_cons_succ]
          go_wp2_with fail
          refine rd_next (hN _ ?_)
          clear hN N
          refine sg_mid (fun N hN => ?_)
          simp only [pickO, List.getElem?_toArray, List.getElem?_cons_zero, List.getElem?_cons_succ]
          go_wp2_with fail
          have Ns := NM.below hb6'
          refine (SimOkI_c _ _ _ s _ _ Ns.st Ns.qu Ns.ou).mono ?_
          rintro q w7 ⟨rfl, hb7⟩
          rw [HQ.out]
          replace hb7 := bthen hb6 hb7 hb6.size
          have hb7' := bthen' hbd hb7
          apply_assumption
          refine mid_next (Agree.of_below hb7) (hN _ _ ?_)
          clear hN
          refine sg_mid (fun N hN => ?_)
          simp only [pickO, List.getElem?_toArray, List.getElem?_cons_zero, List.getElem?_cons_succ]
          go_wp2_with fail
          have Ns := NM.below hb7'
          refine (SimOk_c _ _ _ s _ _ Ns.st Ns.qu Ns.ou).mono ?_
          rintro q w8 ⟨rfl, hb8⟩
          rw [HQ.out]
          replace hb8 := bthen hb7 hb8 hb7.size
          have hb8' := bthen' hbd hb8
          apply_assumption
          refine mid_next (Agree.of_below hb8) (hN _ _ ?_)
          clear hN
          refine sg_fin ?_
          simp only [pickO, List.getElem?_toArray, List.getElem?_cons_zero, List.getElem?_cons_succ]
          have I4 := below_heap hb8' (blk_lt G4) G4
          have I8 := below_heap hb8' (blk_lt G8) G8
          have M := NM.below hb8'
          have MI := NI.below hb8'
          have HB8 := bthen HB hb8' HB.size
          clear G4 G5 G8 NM NX NI HB hb6 hb7 hb8 hb6' hb7' hb8' hbd Ns heq1 e0 e1 e2 f0 f1 f2 h0 h1 h2
          have e0 : w8.cell? ⟨g4, 0, none⟩ = some (.slice V1 s.states.length b1) := blk_cell I4 0
          have e1 : w8.cell? ⟨g4, 1, none⟩ = some (.slice V2 s.queue.length b2) := blk_cell I4 1
          have e2 : w8.cell? ⟨g4, 2, none⟩ = some (.slice V3 s.outs.length b3) := blk_cell I4 2
          have h0 : w8.cell? ⟨g8, 0, none⟩ = some (.slice X1 x.states.length x1) := blk_cell I8 0
          have h1 : w8.cell? ⟨g8, 1, none⟩ = some (.slice X2 x.queue.length x2) := blk_cell I8 1
          have h2 : w8.cell? ⟨g8, 2, none⟩ = some (.slice X3 x.outs.length x3) := blk_cell I8 2
          go_wp2_with fail
          refine (ltSim_c _ _ _ _ _ _ x s _ _ MI M).mono ?_
          rintro q w9 ⟨rfl, hb9⟩
          have heq1 : decide (x = s) = true := decide_eq_true HXS.out
          rw [heq1]
          have HB9 := bthen HB8 hb9 HB8.size
          apply_assumption
          go_wp2_with fail
          go_ret
          exact ⟨rfl, HB9⟩
        case true =>
          obtain ⟨-, hxo, e, rest, hq, k1, k2, k3, k4, k5, k6⟩ : true = true ∧ simOk x = true ∧ ∃ e rest, s.queue = e :: rest ∧ (∀ q ∈ x.queue, e.time ≤ q.time ∧ q ≠ e) ∧ (∀ p, p ≠ e.to.toNat → x.states[p]? = s.states[p]?) ∧ x.states.length = s.states.length ∧ s.queue.length - 1 ≤ x.queue.length ∧ s.outs.length ≤ x.outs.length ∧ 0 ≤ e.to := by
            rcases HCS.out with h | h
            · cases h.2
            · exact h
          have hp : 0 < s.queue.length := by rw [hq]; simp
          have he0 := hid (show s.queue[0] = e by simp [hq])
          have HXO := hid hxo
          have HK := hid (And.intro k1 (And.intro k2 (And.intro k3 (And.intro k4 (And.intro k5 k6)))))
          clear HCS hxo hq k1 k2 k3 k4 k5 k6
          go_wp2_with fail
          refine (SimStepI_c _ _ _ _ apps s _ w4 HA4 N4).mono ?_
          rintro q w5 ⟨us, uq, uo, rfl, n5, hb5⟩
          rw [HX.out] at n5
          simp only [HX.out]
          obtain ⟨X1, x1, rfl, u1⟩ := n5.st.shape
          obtain ⟨X2, x2, rfl, u2⟩ := n5.qu.shape
          obtain ⟨X3, x3, rfl, u3⟩ := n5.ou.shape
          have I4 := below_heap hb5 (blk_lt K4) K4
          have I5 := below_heap hb5 (blk_lt K5) K5
          have N5 := N4.below hb5
          have NX5 := NX4.below hb5
          have HA5 := HA4.below hb5
          have HB5 := bthen HB4 hb5 HB4.size
          have hg4 := blk_lt I4
          have hg5 := blk_lt I5
          clear K4 K5 N4 NX4 HA4 HB4 hb5 e0 e1 e2
          apply_assumption
          go_upto_region 7 with fail
          have G8 : (w5.alloc (.cells #[.slice X1 x.states.length x1, .slice X2 x.queue.length x2, .slice X3 x.outs.length x3] 64)).heap[w5.heap.size]? = some (.cells #[.slice X1 x.states.length x1, .slice X2 x.queue.length x2, .slice X3 x.outs.length x3] 64 (0, 0)) := heap_at rfl
          have G4 := (heap_old (o := .cells #[.slice X1 x.states.length x1, .slice X2 x.queue.length x2, .slice X3 x.outs.length x3] 64) hg4).trans I4
          have G5 := (heap_old (o := .cells #[.slice X1 x.states.length x1, .slice X2 x.queue.length x2, .slice X3 x.outs.length x3] 64) hg5).trans I5
          have hbx := balloc (Below.refl w5.heap.size w5) (.cells #[.slice X1 x.states.length x1, .slice X2 x.queue.length x2, .slice X3 x.outs.length x3] 64)
          have NI := (n5.rd.below hbx).mono (F' := fun _ => True) (fun _ _ => trivial)
          have NX := NX5.below hbx
          have NM := N5.below hbx
          have HB := bthen HB5 hbx HB5.size
          obtain ⟨g8, hg8⟩ : ∃ g, g = w5.heap.size := ⟨_, rfl⟩
          rw [← hg8] at G8
          simp only [← hg8]
          generalize w5.alloc (.cells #[.slice X1 x.states.length x1, .slice X2 x.queue.length x2, .slice X3 x.outs.length x3] 64) = W5 at *
          clear n5 N5 NX5 HA5 HB5 hbx hg8 I4 I5 hg4 hg5
          have e0 : W5.cell? ⟨g4, 0, none⟩ = some (.slice V1 s.states.length b1) := blk_cell G4 0
          have e1 : W5.cell? ⟨g4, 1, none⟩ = some (.slice V2 s.queue.length b2) := blk_cell G4 1
          have e2 : W5.cell? ⟨g4, 2, none⟩ = some (.slice V3 s.outs.length b3) := blk_cell G4 2
          have f0 : W5.cell? ⟨g5, 0, none⟩ = some (.slice W1 x.states.length d1) := blk_cell G5 0
          have f1 : W5.cell? ⟨g5, 1, none⟩ = some (.slice W2 x.queue.length d2) := blk_cell G5 1
          have f2 : W5.cell? ⟨g5, 2, none⟩ = some (.slice W3 x.outs.length d3) := blk_cell G5 2
          have h0 : W5.cell? ⟨g8, 0, none⟩ = some (.slice X1 x.states.length x1) := blk_cell G8 0
          have h1 : W5.cell? ⟨g8, 1, none⟩ = some (.slice X2 x.queue.length x2) := blk_cell G8 1
          have h2 : W5.cell? ⟨g8, 2, none⟩ = some (.slice X3 x.outs.length x3) := blk_cell G8 2
          refine region_sg [.rd [0, 1, 2, 3, 4, 5], .mid 6, .rd [7, 8, 9, 10, 12], .mid 11, .mid 13] [14, 15] (by kernel_rfl) (by kernel_rfl) (fun _ _ d _ _ h => by cases d <;> exact h) ?_
          refine sg_rd (fun N hN => ?_)
          simp only [pickO, List.getElem?_toArray, List.getElem?_cons_zero, List.getElem?_cons_succ]
          go_wp2_with fail
          refine rd_next (hN _ ?_)
          clear hN N
          refine sg_mid (fun N hN => ?_)
          simp only [pickO, List.getElem?_toArray, List.getElem?_cons_zero, List.getElem?_cons_succ]
          go_wp2_with fail
          have hbd := (Below.refl W5.heap.size W5).drew
          refine (ltSim_c _ _ _ _ _ _ x x _ _ (NI.below hbd) (NX.below hbd)).mono ?_
          rintro q w6 ⟨rfl, hb6⟩
          have heq1 : decide (x = x) = true := decide_eq_true rfl
          rw [heq1]
          have hb6' := bthen' hbd hb6
          apply_assumption
          refine mid_next (Agree.of_below hb6) (hN _ _ ?_)
          clear hN
          refine sg_rd (fun N hN => ?_)
          simp only [pickO, List.getElem?_toArray, List.getElem?_cons_zero, List.getElem?_cons_succ]
          go_wp2_with fail
          refine rd_next (hN _ ?_)
          clear hN N
          refine sg_mid (fun N hN => ?_)
          simp only [pickO, List.getElem?_toArray, List.getElem?_cons_zero, List.getElem?_cons_succ]
          go_wp2_with fail
          have Ns := NM.below hb6'
          refine (SimOkI_c _ _ _ s _ _ Ns.st Ns.qu Ns.ou).mono ?_
          rintro q w7 ⟨rfl, hb7⟩
          rw [HQ.out]
          replace hb7 := bthen hb6 hb7 hb6.size
          have hb7' := bthen' hbd hb7
          apply_assumption
          refine mid_next (Agree.of_below hb7) (hN _ _ ?_)
          clear hN
          refine sg_mid (fun N hN => ?_)
          simp only [pickO, List.getElem?_toArray, List.getElem?_cons_zero, List.getElem?_cons_succ]
          go_wp2_with fail
          have Ns := NM.below hb7'
          refine (SimOk_c _ _ _ s _ _ Ns.st Ns.qu Ns.ou).mono ?_
          rintro q w8 ⟨rfl, hb8⟩
          rw [HQ.out]
          replace hb8 := bthen hb7 hb8 hb7.size
          have hb8' := bthen' hbd hb8
          apply_assumption
          refine mid_next (Agree.of_below hb8) (hN _ _ ?_)
          clear hN
          refine sg_fin ?_
          simp only [pickO, List.getElem?_toArray, List.getElem?_cons_zero, List.getElem?_cons_succ]
          have I4 := below_heap hb8' (blk_lt G4) G4
          have I8 := below_heap hb8' (blk_lt G8) G8
          have M := NM.below hb8'
          have MI := NI.below hb8'
          have HB8 := bthen HB hb8' HB.size
          clear G4 G5 G8 NM NX NI HB hb6 hb7 hb8 hb6' hb7' hb8' hbd Ns heq1 e0 e1 e2 f0 f1 f2 h0 h1 h2
          have e0 : w8.cell? ⟨g4, 0, none⟩ = some (.slice V1 s.states.length b1) := blk_cell I4 0
          have e1 : w8.cell? ⟨g4, 1, none⟩ = some (.slice V2 s.queue.length b2) := blk_cell I4 1
          have e2 : w8.cell? ⟨g4, 2, none⟩ = some (.slice V3 s.outs.length b3) := blk_cell I4 2
          have h0 : w8.cell? ⟨g8, 0, none⟩ = some (.slice X1 x.states.length x1) := blk_cell I8 0
          have h1 : w8.cell? ⟨g8, 1, none⟩ = some (.slice X2 x.queue.length x2) := blk_cell I8 1
          have h2 : w8.cell? ⟨g8, 2, none⟩ = some (.slice X3 x.outs.length x3) := blk_cell I8 2
          obtain ⟨bq, oq, rfl, hbq, r0, r1, r2, r3, r4, r5, r6⟩ := ev_at M.qu 0 hp
          rw [he0.out] at r0 r1 r2 r3 r4 r5 r6
          simp only [Nat.zero_mul, Nat.add_zero] at r0 r1 r2 r3 r4 r5 r6
          have p0 : (0 : Int) < (s.queue.length : Int) := by omega
          go_upto_region 14 with fail
          have H10 : (w8.alloc (.cells #[.int .i64 e.time, .int .i64 e.to, .int .i64 e.from_, .int .i64 e.count, .int .i64 e.n, .int .i64 e.kind, .int .i64 e.arg] 29)).heap[w8.heap.size]? = some (.cells #[.int .i64 e.time, .int .i64 e.to, .int .i64 e.from_, .int .i64 e.count, .int .i64 e.n, .int .i64 e.kind, .int .i64 e.arg] 29 (0, 0)) := heap_at rfl
          have H4 := (heap_old (o := .cells #[.int .i64 e.time, .int .i64 e.to, .int .i64 e.from_, .int .i64 e.count, .int .i64 e.n, .int .i64 e.kind, .int .i64 e.arg] 29) (blk_lt I4)).trans I4
          have H8 := (heap_old (o := .cells #[.int .i64 e.time, .int .i64 e.to, .int .i64 e.from_, .int .i64 e.count, .int .i64 e.n, .int .i64 e.kind, .int .i64 e.arg] 29) (blk_lt I8)).trans I8
          have hbx := balloc (Below.refl w8.heap.size w8) (.cells #[.int .i64 e.time, .int .i64 e.to, .int .i64 e.from_, .int .i64 e.count, .int .i64 e.n, .int .i64 e.kind, .int .i64 e.arg] 29)
          have L := M.below hbx
          have LI := MI.below hbx
          have HB9 := bthen HB8 hbx HB8.size
          obtain ⟨g10, hg10⟩ : ∃ g, g = w8.heap.size := ⟨_, rfl⟩
          rw [← hg10] at H10
          simp only [← hg10]
          generalize w8.alloc (.cells #[.int .i64 e.time, .int .i64 e.to, .int .i64 e.from_, .int .i64 e.count, .int .i64 e.n, .int .i64 e.kind, .int .i64 e.arg] 29) = W9 at *
          clear I4 I8 M MI HB8 hbx hg10 hbq r0 r1 r2 r3 r4 r5 r6 e0 e1 e2 h0 h1 h2
          go_wp2_with fail
          go_loopw [11] (fun i wr => ∃ k : Nat, i = .int .i64 k ∧ k ≤ x.queue.length ∧ Below W9.heap.size W9 wr) (fun i _ => x.queue.length - (intOf i).toNat)
          case atStart => exact ⟨0, rfl, Nat.zero_le _, Below.refl _ _⟩
          case round =>
            obtain ⟨k, rfl, hk, hb⟩ := hrel
            have J8 := below_heap hb (blk_lt H8) H8
            have J10 := below_heap hb (blk_lt H10) H10
            have h0 : wr.cell? ⟨g8, 0, none⟩ = some (.slice X1 x.states.length x1) := blk_cell J8 0
            have h1 : wr.cell? ⟨g8, 1, none⟩ = some (.slice X2 x.queue.length x2) := blk_cell J8 1
            have h2 : wr.cell? ⟨g8, 2, none⟩ = some (.slice X3 x.outs.length x3) := blk_cell J8 2
            by_cases hlt : k < x.queue.length
            · obtain ⟨b0, o0, rfl, hb0, z0, z1, z2, z3, z4, z5, z6⟩ := ev_at (LI.qu.below hb) k hlt
              obtain ⟨⟨u0, u1, u2, u3, u4, u5, u6⟩, -⟩ := cells7 J10
              have i1 : (k : Int) < (x.queue.length : Int) := by omega
              have hkk := HK.out.1 x.queue[k] (List.getElem_mem _)
              have g1 : decide (x.queue[k].time < e.time) = false := decide_eq_false (by omega)
              have g2 : decide (x.queue[k] = e) = false := decide_eq_false hkk.2
              clear hkk
              go_upto_region 17 with fail
              refine region_sg [.rd [0, 1, 2, 3, 4, 5, 6, 7, 8, 9, 10, 11, 12, 13, 14, 15]] [16, 17] (by kernel_rfl) (by kernel_rfl) (fun _ _ d _ _ h => by cases d <;> exact h) ?_
              refine sg_rd (fun N hN => ?_)
              simp only [pickO, List.getElem?_toArray, List.getElem?_cons_zero, List.getElem?_cons_succ]
              go_wp2_with fail
              refine rd_next (hN _ ?_)
              clear hN N
              refine sg_fin ?_
              simp only [pickO, List.getElem?_toArray, List.getElem?_cons_zero, List.getElem?_cons_succ]
              have hbE := hb.drew
              go_wp2_with fail
              go_roundw
              case rel => exact ⟨k + 1, by go_num, by omega, hbE⟩
              case measure => simp [intOf]; omega
            · have hkl : k = x.queue.length := by omega
              subst hkl
              go_wp2_with fail
              clear h0 h1 h2 J8 J10 hk hlt
              go_loopw [12] (fun i wr => ∃ k : Nat, i = .int .i64 k ∧ k ≤ x.states.length ∧ Below W9.heap.size W9 wr) (fun i _ => x.states.length - (intOf i).toNat)
              case atStart => exact ⟨0, rfl, Nat.zero_le _, hb⟩
              case round =>
                clear hb
                obtain ⟨p, rfl, hk, hb⟩ := hrel
                have J4 := below_heap hb (blk_lt H4) H4
                have J8 := below_heap hb (blk_lt H8) H8
                have J10 := below_heap hb (blk_lt H10) H10
                have e0 : wr.cell? ⟨g4, 0, none⟩ = some (.slice V1 s.states.length b1) := blk_cell J4 0
                have e1 : wr.cell? ⟨g4, 1, none⟩ = some (.slice (some ⟨bq, oq, none⟩) s.queue.length b2) := blk_cell J4 1
                have e2 : wr.cell? ⟨g4, 2, none⟩ = some (.slice V3 s.outs.length b3) := blk_cell J4 2
                have h0 : wr.cell? ⟨g8, 0, none⟩ = some (.slice X1 x.states.length x1) := blk_cell J8 0
                have h1 : wr.cell? ⟨g8, 1, none⟩ = some (.slice X2 x.queue.length x2) := blk_cell J8 1
                have h2 : wr.cell? ⟨g8, 2, none⟩ = some (.slice X3 x.outs.length x3) := blk_cell J8 2
                by_cases hlt : p < x.states.length
                · have hlt2 : p < s.states.length := by rw [← HK.out.2.2.1]; exact hlt
                  obtain ⟨b0, o0, rfl, hb0, z0, z1, z2⟩ := st_at (LI.st.below hb) p hlt
                  obtain ⟨b4, o4, rfl, hb4, v0, v1, v2⟩ := st_at (L.st.below hb) p hlt2
                  obtain ⟨⟨u0, u1, u2, u3, u4, u5, u6⟩, -⟩ := cells7 J10
                  have i1 : (p : Int) < (x.states.length : Int) := by omega
                  have i2 : (p : Int) < (s.states.length : Int) := by omega
                  by_cases hpe : e.to = (p : Int)
                  · have e4 : ((p : Int) == e.to) = true := by simp; omega
                    have e5 : ((p : Int) != e.to) = false := by simp; omega
                    clear hpe
                    go_upto_region 22 with fail
                    refine region_sg [.rd [0, 1, 2, 3, 4, 5, 6, 7, 8, 9, 10, 11, 12, 13, 14]] [15, 16] (by kernel_rfl) (by kernel_rfl) (fun _ _ d _ _ h => by cases d <;> exact h) ?_
                    refine sg_rd (fun N hN => ?_)
                    simp only [pickO, List.getElem?_toArray, List.getElem?_cons_zero, List.getElem?_cons_succ]
                    go_wp2_with fail
                    refine rd_next (hN _ ?_)
                    clear hN N
                    refine sg_fin ?_
                    simp only [pickO, List.getElem?_toArray, List.getElem?_cons_zero, List.getElem?_cons_succ]
                    have hbE := hb.drew
                    go_wp2_with fail
                    go_roundw
                    case rel => exact ⟨p + 1, by go_num, by omega, hbE⟩
                    case measure => simp [intOf]; omega
                  · have e4 : ((p : Int) == e.to) = false := by simp; omega
                    have e5 : ((p : Int) != e.to) = true := by simp; omega
                    have e6 : decide (x.states[p] = s.states[p]) = true := by
                      have h6 := HK.out.2.2.2.2.2
                      have := HK.out.2.1 p (by omega)
                      rw [List.getElem?_eq_getElem hlt, List.getElem?_eq_getElem hlt2] at this
                      injection this with this
                      exact decide_eq_true this
                    clear hpe
                    go_upto_region 22 with fail
                    refine region_sg [.rd [0, 1, 2, 3, 4, 5, 6, 7, 8, 9, 10, 11, 12, 13, 14]] [15, 16] (by kernel_rfl) (by kernel_rfl) (fun _ _ d _ _ h => by cases d <;> exact h) ?_
                    refine sg_rd (fun N hN => ?_)
                    simp only [pickO, List.getElem?_toArray, List.getElem?_cons_zero, List.getElem?_cons_succ]
                    go_wp2_with fail
                    refine rd_next (hN _ ?_)
                    clear hN N
                    refine sg_fin ?_
                    simp only [pickO, List.getElem?_toArray, List.getElem?_cons_zero, List.getElem?_cons_succ]
                    have hbE := hb.drew
                    go_wp2_with fail
                    go_roundw
                    case rel => exact ⟨p + 1, by go_num, by omega, hbE⟩
                    case measure => simp [intOf]; omega
                · have hkl : p = x.states.length := by omega
                  have g1 : decide ((x.queue.length : Int) ≥ (s.queue.length : Int) - 1) = true := decide_eq_true (by have := HK.out.2.2.2.1; omega)
                  have g2 : decide ((x.outs.length : Int) ≥ (s.outs.length : Int)) = true := decide_eq_true (by have := HK.out.2.2.2.2.1; omega)
                  have g3 : decide (s.outs.length ≤ x.outs.length) = true := decide_eq_true HK.out.2.2.2.2.1
                  subst hkl
                  have R9 := LI.below hb
                  have HB10 := bthen HB9 hb HB9.size
                  go_wp2_with fail
                  refine (SimOkI_c _ _ _ x _ _ R9.st R9.qu R9.ou).mono ?_
                  rintro q w9 ⟨rfl, hb9⟩
                  rw [HXO.out]
                  have HB11 := bthen HB10 hb9 HB10.size
                  have J4 := below_heap hb9 (blk_lt J4) J4
                  have J8 := below_heap hb9 (blk_lt J8) J8
                  clear e0 e1 e2 h0 h1 h2
                  have e0 : w9.cell? ⟨g4, 0, none⟩ = some (.slice V1 s.states.length b1) := blk_cell J4 0
                  have e1 : w9.cell? ⟨g4, 1, none⟩ = some (.slice (some ⟨bq, oq, none⟩) s.queue.length b2) := blk_cell J4 1
                  have e2 : w9.cell? ⟨g4, 2, none⟩ = some (.slice V3 s.outs.length b3) := blk_cell J4 2
                  have h0 : w9.cell? ⟨g8, 0, none⟩ = some (.slice X1 x.states.length x1) := blk_cell J8 0
                  have h1 : w9.cell? ⟨g8, 1, none⟩ = some (.slice X2 x.queue.length x2) := blk_cell J8 1
                  have h2 : w9.cell? ⟨g8, 2, none⟩ = some (.slice X3 x.outs.length x3) := blk_cell J8 2
                  apply_assumption
                  go_wp2_with fail
                  go_ret
                  exact ⟨rfl, HB11⟩
end Go.Proofs.Ytmnccekljombmaa
