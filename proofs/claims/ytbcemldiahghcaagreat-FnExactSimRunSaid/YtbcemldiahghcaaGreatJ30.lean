/- Texts joined: Imp15, Spc11. -/
import Derived.Test.YtbcemldiahghcaaGreatJ24
import Derived.Test.YtbcemldiahghcaaGreatJ26
import Derived.Test.YtbcemldiahghcaaGreatJ29
import Derived.Test.YtbcemldiahghcaaGreatJ19
namespace Go.Proofs.YtbcemldiahghcaaGreat
set_option linter.unusedVariables false
set_option linter.unusedSimpArgs false
set_option maxRecDepth 100000
open Go.RowKit
theorem sg_name {P : Program} {ops : Array Oper} {Q : Exit → Act → World → Prop} {w0 : World} {r : List Sg} {f : List Nat} {a : Act} {w : World} (h : ∀ a0, a0 = a → wpSg P ops Q w0 r f a0 w) : wpSg P ops Q w0 r f a w := h a rfl
theorem runI_call (v : Value) (a : AppD) (s : StD) (e : EvD) (F : Nat → Prop) (w : World) (h : Rd tRule w F v a.rules) {xs : StD} {sends : List EvD} {outs : List OutD} (hr : appRun a s e = (xs, sends, outs)) :
    Calls Tryz.prog 82 #[.agg #[v], .agg #[.int .i64 s.x, .int .i64 s.y, .int .i64 s.c], .agg #[.int .i64 e.time, .int .i64 e.to, .int .i64 e.from_, .int .i64 e.count, .int .i64 e.n, .int .i64 e.kind, .int .i64 e.arg]] w fun q w' => ∃ sv ov, q = .returned (.tuple #[stAgg3 xs, sv, ov]) ∧ Ow tEv 80 w' (fun k => w.heap.size ≤ k) sv sends ∧ Ow tOut 128 w' (fun k => w.heap.size ≤ k) ov outs ∧ Below w.heap.size w w' := by
  refine (AppRun_c v a s e F w h).mono ?_
  rintro q w' ⟨sv, ov, h1, h2, h3, h4⟩
  rw [hr] at h1 h2 h3
  exact ⟨sv, ov, h1, h2, h3, h4⟩
theorem set3_other {w : World} {g k : Nat} {o : Obj} (hne : g ≠ k) (a b c : Value) (h : w.heap[k]? = some o) : (((w.setCell ⟨g, 0, none⟩ a).setCell ⟨g, 1, none⟩ b).setCell ⟨g, 2, none⟩ c).heap[k]? = some o :=
  (Below.heap_setCell _ (⟨g, 2, none⟩ : Addr) _ k (fun e1 => hne e1.symm)).trans ((Below.heap_setCell _ (⟨g, 1, none⟩ : Addr) _ k (fun e1 => hne e1.symm)).trans ((Below.heap_setCell _ (⟨g, 0, none⟩ : Addr) _ k (fun e1 => hne e1.symm)).trans h))
theorem drop1_run (b o n c : Nat) (hn : 1 ≤ n) (hc : n ≤ c) (w : World) : (Instr.sliceAt 25 (.slice (some ⟨b, o, none⟩) n c) (some (.int .i64 1)) none none).run Tryz.prog w = .ok (.slice (if c = 1 then some ⟨b, o, none⟩ else (some ⟨b, o, none⟩ : Option Addr).map fun x => x.add (1 * 7)) (n - 1) (c - 1)) w := by
  have hu := Tryz.underlying25
  have hs : ∀ w, (sizeOf 80).run Tryz.prog w = .ok 7 w := fun w => by kernel_rfl
  have h1 : (1 : Int) ≤ (n : Int) := by omega
  simp [Instr.sliceAt, Instr.slice, Instr.sliceBounds, Instr.sliceBound, run_underlying hu, asIntOf, hs, h1]
def isSl (v : Value) : Prop := ∃ A n c, v = .slice A n c
/-- What the operations hold that build the next machine. -/
def nxN (v1 v2 v3 v4 : Value) (ss : List StD) (qs : List EvD) (os : List OutD) : List HeldD :=
  [(2, [], fun _ v w F => Ow tSt 49 w F v ss), (7, [], fun _ v w F => ∃ g, v = .slice (some ⟨g, 0, none⟩) 2 2 ∧ F g ∧ w.heap[g]? = some (.cells #[v1, v2] 25 (0, 0))), (8, [], fun _ v w F => Ow tEv 80 w F v qs), (9, [], fun _ v w F => Ow tEv 80 w F v (evSort qs)),
   (13, [], fun _ v w F => ∃ g, v = .slice (some ⟨g, 0, none⟩) 2 2 ∧ F g ∧ w.heap[g]? = some (.cells #[v3, v4] 26 (0, 0))), (14, [], fun _ v w F => Ow tOut 128 w F v os), (15, [], fun _ v w F => Ow tOut 128 w F v (outSort os)),
   (17, [], fun _ v w F => ∃ g, v = .pointer (some ⟨g, 0, none⟩) ∧ F g ∧ w.heap[g]? = some (.cells #[.slice none 0 0, .slice none 0 0, .slice none 0 0] 28 (0, 0)))]
theorem nxN_moves (v1 v2 v3 v4 : Value) (ss : List StD) (qs : List EvD) (os : List OutD) : MovesDL (nxN v1 v2 v3 v4 ss qs os) :=
  ⟨fun ds v w w' F h hm => Ow.move hm h, fun ds v w w' F ⟨g, h1, h2, h3⟩ hm => ⟨g, h1, h2, (hm g h2).trans h3⟩, fun ds v w w' F h hm => Ow.move hm h, fun ds v w w' F h hm => Ow.move hm h, fun ds v w w' F ⟨g, h1, h2, h3⟩ hm => ⟨g, h1, h2, (hm g h2).trans h3⟩, fun ds v w w' F h hm => Ow.move hm h, fun ds v w w' F h hm => Ow.move hm h, fun ds v w w' F ⟨g, h1, h2, h3⟩ hm => ⟨g, h1, h2, (hm g h2).trans h3⟩, trivial⟩
def nxP : List Known := [(2, [], fun _ v => isSl v), (9, [], fun _ v => isSl v), (15, [], fun _ v => isSl v), (16, [2, 9, 15], fun ds v => ∀ a b c, ds = [a, b, c] → v = .agg #[a, b, c])]
def StepIPost (apps : List AppD) (s : SimD) (F : Nat → Prop) (w : World) (q : Ending) (w' : World) : Prop :=
  ∃ us uq uo, q = .returned (.tuple #[.agg #[us, uq, uo], .bool (simStepV apps s).2]) ∧ ((simStepV apps s).2 = true → SimOw w' (fun k => w.heap.size ≤ k) us uq uo (simStepV apps s).1) ∧ SimRd w' (fun k => F k ∨ w.heap.size ≤ k) us uq uo (simStepV apps s).1 ∧ Below w.heap.size w w'
set_option maxHeartbeats 4000000 in
theorem simStep_cons (va vs vq vo : Value) (apps : List AppD) (s : SimD) (e : EvD) (rest : List EvD) (j : Nat) (F : Nat → Prop) (w : World) (hA : Rd tApp w F va apps) (h : SimRd w F vs vq vo s) (qs : simOk s = true) (qn : s.queue = e :: rest) (hj : e.to = (j : Int)) (hj3 : j ≤ 3) (hl4 : apps.length = 4) (hs4 : s.states.length = 4) (a : AppD) (st : StD) (ha : apps[j]? = some a) (hst : s.states[j]? = some st) (xs : StD) (sends : List EvD) (outs : List OutD) (hrun : appRun a st e = (xs, sends, outs)) (hsl : sends.length ≤ 2) (hol : outs.length ≤ 2) (hwq : ∀ x ∈ rest ++ sends, EvWf x) :
    Calls Tryz.prog 38 #[va, .agg #[vs, vq, vo]] w (StepIPost apps s F w) := by
  have HF := hid (show simStepV apps s = if simOk (simNext apps s) = true then (simNext apps s, true) else (s, false) by simp [simStepV, qn])
  have HN := hid (show simNext apps s = ⟨s.states.set j xs, evSort (s.queue.tail ++ sends), outSort (s.outs ++ outs)⟩ by simp [simNext, qn, hj, ha, hst, List.getD_eq_getElem?_getD, hrun])
  have hrun' := hid hrun
  obtain ⟨l1', l2', l3'⟩ := simOk_len2 qs
  have hpos : 0 < s.queue.length := by rw [qn]; simp
  have he0 := hid (show s.queue[0] = e by simp [qn])
  have hwq : ∀ x ∈ s.queue.tail ++ sends, EvWf x := by rw [qn]; exact hwq
  have hs4n : j < s.states.length := by omega
  have hl4n : j < apps.length := by omega
  have ha0 := hid (show apps[j]'hl4n = a from by rw [List.getElem?_eq_getElem (by omega)] at ha; exact Option.some.inj ha)
  have hs0 := hid (show s.states[j]'hs4n = st from by rw [List.getElem?_eq_getElem (by omega)] at hst; exact Option.some.inj hst)
  have hj' := hid hj
  have hl4i : (j : Int) < (apps.length : Int) := by omega
  have hs4' : (j : Int) < (s.states.length : Int) := by omega
  have hp1 : (0 : Int) ≤ (j : Int) := by omega
  have q0 : decide ((s.queue.length : Int) = 0) = false := decide_eq_false (by omega)
  have q1 : ((s.queue.length : Int) == 0) = false := beq_eq_false_iff_ne.2 (by omega)
  have q2 : (0 : Int) < (s.queue.length : Int) := by omega
  obtain ⟨AA, cA, rfl, mA⟩ := hA.shape
  obtain ⟨A1, c1, rfl, m1⟩ := h.st.shape
  obtain ⟨A2, c2, rfl, m2⟩ := h.qu.shape
  obtain ⟨A3, c3, rfl, m3⟩ := h.ou.shape
  obtain ⟨bA, oA, A4, c4, rfl, hbA, fA, hrA⟩ := app_at hA j hl4n
  obtain ⟨bT, oT, rfl, hbT, t0, t1, t2⟩ := st_at h.st j hs4n
  obtain ⟨b2, o2, rfl, hb2, e0, e1, e2, e3, e4, e5, e6⟩ := ev_at h.qu 0 hpos
  clear fA t0 t1 t2 e0 e1 e2 e3 e4 e5 e6 hrA hbA hbT hb2 A4 c4 qn hj hl4 hs4 ha hst hrun
  go_enter Tryz.func38, Tryz.ntmps38
  go_upto_region 1 with fail
  have hW := balloc (balloc (Below.refl w.heap.size w) (.cells #[.slice (some ⟨bT, oT, none⟩) s.states.length c1, .slice (some ⟨b2, o2, none⟩) s.queue.length c2, .slice A3 s.outs.length c3] 28)) (.cells #[.slice none 0 0, .slice none 0 0, .slice none 0 0] 28)
  have Z0 : ((w.alloc (.cells #[.slice (some ⟨bT, oT, none⟩) s.states.length c1, .slice (some ⟨b2, o2, none⟩) s.queue.length c2, .slice A3 s.outs.length c3] 28)).alloc (.cells #[.slice none 0 0, .slice none 0 0, .slice none 0 0] 28)).heap[w.heap.size]? = some (.cells #[.slice (some ⟨bT, oT, none⟩) s.states.length c1, .slice (some ⟨b2, o2, none⟩) s.queue.length c2, .slice A3 s.outs.length c3] 28 (0, 0)) := (heap_old (by simp)).trans (heap_at rfl)
  have Z1 : ((w.alloc (.cells #[.slice (some ⟨bT, oT, none⟩) s.states.length c1, .slice (some ⟨b2, o2, none⟩) s.queue.length c2, .slice A3 s.outs.length c3] 28)).alloc (.cells #[.slice none 0 0, .slice none 0 0, .slice none 0 0] 28)).heap[w.heap.size + 1]? = some (.cells #[.slice none 0 0, .slice none 0 0, .slice none 0 0] 28 (0, 0)) := heap_at (by simp)
  generalize (w.alloc (.cells #[.slice (some ⟨bT, oT, none⟩) s.states.length c1, .slice (some ⟨b2, o2, none⟩) s.queue.length c2, .slice A3 s.outs.length c3] 28)).alloc (.cells #[.slice none 0 0, .slice none 0 0, .slice none 0 0] 28) = W at *
  obtain ⟨b9, o9, hA9, hb9, e0, e1, e2, e3, e4, e5, e6⟩ := ev_at (h.below hW).qu 0 hpos
  injection hA9 with hA9
  injection hA9 with u1 u2 _
  subst u1 u2
  rw [he0.out] at e0 e1 e2 e3 e4 e5 e6
  rw [hj'.out] at e1
  simp only [Nat.zero_mul, Nat.add_zero] at e0 e1 e2 e3 e4 e5 e6
  have d1 : W.cell? ⟨w.heap.size, 1, none⟩ = some (.slice (some ⟨b2, o2, none⟩) s.queue.length c2) := blk_cell Z0 1
  go_upto_region 4 with fail
  have hV := balloc (Below.refl W.heap.size W) (.cells #[.int .i64 e.time, .int .i64 ↑j, .int .i64 e.from_, .int .i64 e.count, .int .i64 e.n, .int .i64 e.kind, .int .i64 e.arg] 80)
  have V0 := below_heap hV (blk_lt Z0) Z0
  have V1 := below_heap hV (blk_lt Z1) Z1
  have VE : (W.alloc (.cells #[.int .i64 e.time, .int .i64 ↑j, .int .i64 e.from_, .int .i64 e.count, .int .i64 e.n, .int .i64 e.kind, .int .i64 e.arg] 80)).heap[W.heap.size]? = some (.cells #[.int .i64 e.time, .int .i64 ↑j, .int .i64 e.from_, .int .i64 e.count, .int .i64 e.n, .int .i64 e.kind, .int .i64 e.arg] 80 (0, 0)) := heap_at rfl
  have hbV := bthen hW hV hW.size
  obtain ⟨gE, hgE⟩ : ∃ g, g = W.heap.size := ⟨_, rfl⟩
  have hgE1 : w.heap.size + 1 < gE := by have := blk_lt Z1; omega
  rw [← hgE] at VE
  simp only [← hgE]
  generalize W.alloc (.cells #[.int .i64 e.time, .int .i64 ↑j, .int .i64 e.from_, .int .i64 e.count, .int .i64 e.n, .int .i64 e.kind, .int .i64 e.arg] 80) = V at *
  clear hgE hV hW Z0 Z1 d1 e0 e1 e2 e3 e4 e5 e6 hb9
  have hA7 := hA.below hbV
  have h7 := h.below hbV
  obtain ⟨bA', oA', A4, c4, hA9, hbA, fA, hrA⟩ := app_at hA7 j hl4n
  injection hA9 with hA9
  injection hA9 with u1 u2 _
  subst u1 u2
  obtain ⟨bT', oT', hA9, hbT, t0, t1, t2⟩ := st_at h7.st j hs4n
  injection hA9 with hA9
  injection hA9 with u1 u2 _
  subst u1 u2
  rw [ha0.out] at fA hrA
  rw [hs0.out] at t0 t1 t2
  have d0 : V.cell? ⟨w.heap.size, 0, none⟩ = some (.slice (some ⟨bT, oT, none⟩) s.states.length c1) := blk_cell V0 0
  obtain ⟨⟨e0, e1, e2, e3, e4, e5, e6⟩, -⟩ := cells7 VE
  have hl0V := blk_lt V0
  have hwV := hbV.size
  refine region_sg [.rd [0, 1, 2, 3, 4, 5, 6, 7, 8, 9, 10, 11], .par [(12, []), (13, []), (14, []), (17, []), (18, [17]), (15, []), (16, []), (19, []), (20, [])] []] [] (by kernel_rfl) (by kernel_rfl) (fun _ _ d _ _ h => by cases d <;> exact h) ?_
  refine sg_rd (fun N hN => ?_)
  simp only [pickO, List.getElem?_toArray, List.getElem?_cons_zero, List.getElem?_cons_succ]
  go_wp2_with fail
  refine rd_next (hN _ ?_)
  clear hN N
  refine sg_name fun a0 ha0 => ?_
  have s25 := hid (show a0.tmps[25]? = some (.agg #[.slice A4 a.rules.length c4]) by rw [ha0]; rfl)
  have s31 := hid (show a0.tmps[31]? = some (.agg #[.int .i64 st.x, .int .i64 st.y, .int .i64 st.c]) by rw [ha0]; rfl)
  have s32 := hid (show a0.tmps[32]? = some (.agg #[.int .i64 e.time, .int .i64 ↑j, .int .i64 e.from_, .int .i64 e.count, .int .i64 e.n, .int .i64 e.kind, .int .i64 e.arg]) by rw [ha0]; rfl)
  have hsz := hid (show ∀ k, k < 65 → k < a0.tmps.size from fun k hk => by rw [ha0]; exact hk)
  have H0 := hid ha0
  clear ha0
  refine sg_parG [(12, some 33), (13, some 20), (14, some 34), (17, some 7), (18, none), (15, some 35), (16, some 36), (19, some 8), (20, some 9)] (by rfl) (fun _ => False) (NL (runN 49 xs sends outs)) (PPL (runP (stAgg3 xs))) (fun _ _ => False) (PPL_upd _ (by kernel_rfl)) (NL_upd _ (by kernel_rfl)) (NL_move _ (runN_moves 49 xs sends outs)) (fun w' hc => Agree.of_ch hc (fun _ hf => hf.elim)) (by simp) (by simp) (by simp) (parS_cons ?_ (parS_cons ?_ (parS_cons ?_ (parS_cons ?_ (parS_cons ?_ (parS_cons ?_ (parS_cons ?_ (parS_cons ?_ (parS_cons ?_ parS_nil))))))))) ?_
  · refine stepG_mk (by rfl) (by rfl) ?_
    intro u wq F1 hC hp hN hF hD K hK
    clear hp hN hF hD
    have q25 : (putL [(12, some 33), (13, some 20), (14, some 34), (17, some 7), (18, none), (15, some 35), (16, some 36), (19, some 8), (20, some 9)] a0 u).tmps[25]? = _ := (putL_out (k := 25) [(12, some 33), (13, some 20), (14, some 34), (17, some 7), (18, none), (15, some 35), (16, some 36), (19, some 8), (20, some 9)] a0 u (by rfl)).trans s25.out
    have q31 : (putL [(12, some 33), (13, some 20), (14, some 34), (17, some 7), (18, none), (15, some 35), (16, some 36), (19, some 8), (20, some 9)] a0 u).tmps[31]? = _ := (putL_out (k := 31) [(12, some 33), (13, some 20), (14, some 34), (17, some 7), (18, none), (15, some 35), (16, some 36), (19, some 8), (20, some 9)] a0 u (by rfl)).trans s31.out
    have q32 : (putL [(12, some 33), (13, some 20), (14, some 34), (17, some 7), (18, none), (15, some 35), (16, some 36), (19, some 8), (20, some 9)] a0 u).tmps[32]? = _ := (putL_out (k := 32) [(12, some 33), (13, some 20), (14, some 34), (17, some 7), (18, none), (15, some 35), (16, some 36), (19, some 8), (20, some 9)] a0 u (by rfl)).trans s32.out
    generalize putL [(12, some 33), (13, some 20), (14, some 34), (17, some 7), (18, none), (15, some 35), (16, some 36), (19, some 8), (20, some 9)] a0 u = a1 at *
    go_simp
    have hc := runI_call _ a st e F wq (hrA.below (⟨hC.below0.os, hC.below0.tape, hC.below0.output, hC.below0.size, hC.below0.block⟩ : Below V.heap.size V wq)) hrun'.out
    rw [hj'.out] at hc
    refine hc.mono ?_
    rintro q w5 ⟨sv, ov, rfl, h5, h6, h8⟩
    have hn1 : NL (runN 49 xs sends outs) 12 (updV u 12 (.tuple #[stAgg3 xs, sv, ov])) w5 (fun k => wq.heap.size ≤ k ∧ k < w5.heap.size) := ⟨sv, ov, rfl, h5.bound, h6.bound⟩
    have hn2 : PPL (runP (stAgg3 xs)) 12 (updV u 12 (.tuple #[stAgg3 xs, sv, ov])) := ⟨sv, ov, rfl⟩
    exact hK _ (.tuple #[stAgg3 xs, sv, ov]) _ (fun k => wq.heap.size ≤ k ∧ k < w5.heap.size) rfl (Ch.of_below h8) hn1 (fun k hk => ⟨.inr hk.1, hk.2⟩) hn2
  · refine stepG_pure (by rfl) (by rfl) (fun _ _ => trivial) ?_
    intro u wq hC hp
    have p12 : tup3 (stAgg3 xs) (u 12) := hp 12 (by simp) (by kernel_rfl)
    have q : (putL [(12, some 33), (13, some 20), (14, some 34), (17, some 7), (18, none), (15, some 35), (16, some 36), (19, some 8), (20, some 9)] a0 u).eval (.tmp 33) = u 12 := eval_of (putL_in (k := 33) (i := 12) [(12, some 33), (13, some 20), (14, some 34), (17, some 7), (18, none), (15, some 35), (16, some 36), (19, some 8), (20, some 9)] a0 u (by rfl) (hsz.out 33 (by decide)))
    generalize putL [(12, some 33), (13, some 20), (14, some 34), (17, some 7), (18, none), (15, some 35), (16, some 36), (19, some 8), (20, some 9)] a0 u = a1 at *
    refine Exists.intro (u 12) (And.intro ?_ ?_)
    · intro K hK
      exact wp_move' (.inl (by rfl)) q hK
    · exact ⟨rfl, p12⟩
  · refine stepG_pure (by rfl) (by rfl) (fun _ _ => trivial) ?_
    intro u wq hC hp
    have p13 : [u 12] = [u 13] ∧ tup3 (stAgg3 xs) (u 13) := hp 13 (by simp) (by kernel_rfl)
    obtain ⟨-, b9, c9, e13⟩ := p13
    have q : (putL [(12, some 33), (13, some 20), (14, some 34), (17, some 7), (18, none), (15, some 35), (16, some 36), (19, some 8), (20, some 9)] a0 u).eval (.tmp 20) = u 13 := eval_of (putL_in (k := 20) (i := 13) [(12, some 33), (13, some 20), (14, some 34), (17, some 7), (18, none), (15, some 35), (16, some 36), (19, some 8), (20, some 9)] a0 u (by rfl) (hsz.out 20 (by decide)))
    rw [e13] at q
    generalize putL [(12, some 33), (13, some 20), (14, some 34), (17, some 7), (18, none), (15, some 35), (16, some 36), (19, some 8), (20, some 9)] a0 u = a1 at *
    refine Exists.intro (stAgg3 xs) (And.intro ?_ ?_)
    · intro K hK
      refine wp_extract (x := .tmp 20) (n := 0) (vs := #[(stAgg3 xs), b9, c9]) (v := (stAgg3 xs)) ?_ ?_ ?_ ?_
      · rfl
      · exact q
      · rfl
      · exact hK
    · exact rfl
  · refine stepG_mk (by rfl) (by rfl) ?_
    intro u wq F1 hC hp hN hF hD K hK
    clear hp hN hF hD
    generalize putL [(12, some 33), (13, some 20), (14, some 34), (17, some 7), (18, none), (15, some 35), (16, some 36), (19, some 8), (20, some 9)] a0 u = a1 at *
    go_simp
    exact hK _ (.pointer (some ⟨wq.heap.size, 0, none⟩)) _ (fun k => k = wq.heap.size) rfl ((Ch.refl _ _).alloc _) ⟨_, rfl, rfl, heap_at rfl⟩ (fun k hk => by subst hk; exact ⟨.inr (Nat.le_refl _), by simp⟩) trivial
  · refine stepG_mk (by rfl) (by rfl) ?_
    intro u wq F1 hC hp hN hF hD K hK
    have q1 : (putL [(12, some 33), (13, some 20), (14, some 34), (17, some 7), (18, none), (15, some 35), (16, some 36), (19, some 8), (20, some 9)] a0 u).eval (.tmp 7) = u 17 := eval_of (putL_in (k := 7) (i := 17) [(12, some 33), (13, some 20), (14, some 34), (17, some 7), (18, none), (15, some 35), (16, some 36), (19, some 8), (20, some 9)] a0 u (by rfl) (hsz.out 7 (by decide)))
    have q2 : (putL [(12, some 33), (13, some 20), (14, some 34), (17, some 7), (18, none), (15, some 35), (16, some 36), (19, some 8), (20, some 9)] a0 u).eval (.tmp 34) = u 14 := eval_of (putL_in (k := 34) (i := 14) [(12, some 33), (13, some 20), (14, some 34), (17, some 7), (18, none), (15, some 35), (16, some 36), (19, some 8), (20, some 9)] a0 u (by rfl) (hsz.out 34 (by decide)))
    generalize putL [(12, some 33), (13, some 20), (14, some 34), (17, some 7), (18, none), (15, some 35), (16, some 36), (19, some 8), (20, some 9)] a0 u = a1 at *
    obtain ⟨g, e17, f17, B17⟩ : ∃ g, u 17 = .pointer (some ⟨g, 0, none⟩) ∧ F1 17 g ∧ wq.heap[g]? = some (.cells #[.int .i64 0, .int .i64 0, .int .i64 0] 49 (0, 0)) := hN 17 (by simp)
    have p14 : u 14 = (stAgg3 xs) := hp 14 (by simp) (by kernel_rfl)
    have hgl := (hF 17 (by simp) g f17).2
    rw [e17] at q1
    rw [p14] at q2
    refine wp_store_mid 49 (.tmp 7) (.tmp 34) (by rfl) g 0 #[.int .i64 xs.x, .int .i64 xs.y, .int .i64 xs.c] q1 q2 (there_of_block B17 (by simp)) (by kernel_rfl) (by simp [Value.oneCell']) ?_
    have hn1 : NL (runN 49 xs sends outs) 18 (updV u 18 undef) (wq.setCells g 0 [.int .i64 xs.x, .int .i64 xs.y, .int .i64 xs.c]) (fun k => k = g) := ⟨g, (show [u 17] = _ by rw [e17]), rfl, blk_ovw _ 0 wq [.int .i64 0, .int .i64 0, .int .i64 0] B17⟩
    exact hK _ undef _ (fun k => k = g) rfl (Ch.setCells _ _ _ (Ch.refl _ _) (.inl ⟨17, by simp, f17⟩)) hn1 (fun k hk => by subst hk; exact ⟨.inl ⟨17, by simp, f17⟩, by rw [size_setCells]; exact hgl⟩) trivial
  · refine stepG_pure (by rfl) (by rfl) (fun _ _ => trivial) ?_
    intro u wq hC hp
    have p13 : [u 12] = [u 13] ∧ tup3 (stAgg3 xs) (u 13) := hp 13 (by simp) (by kernel_rfl)
    obtain ⟨-, b9, c9, e13⟩ := p13
    have q : (putL [(12, some 33), (13, some 20), (14, some 34), (17, some 7), (18, none), (15, some 35), (16, some 36), (19, some 8), (20, some 9)] a0 u).eval (.tmp 20) = u 13 := eval_of (putL_in (k := 20) (i := 13) [(12, some 33), (13, some 20), (14, some 34), (17, some 7), (18, none), (15, some 35), (16, some 36), (19, some 8), (20, some 9)] a0 u (by rfl) (hsz.out 20 (by decide)))
    rw [e13] at q
    generalize putL [(12, some 33), (13, some 20), (14, some 34), (17, some 7), (18, none), (15, some 35), (16, some 36), (19, some 8), (20, some 9)] a0 u = a1 at *
    refine Exists.intro b9 (And.intro ?_ ?_)
    · intro K hK
      refine wp_extract (x := .tmp 20) (n := 1) (vs := #[(stAgg3 xs), b9, c9]) (v := b9) ?_ ?_ ?_ ?_
      · rfl
      · exact q
      · rfl
      · exact hK
    · exact fun a b c he => by have h9 : [u 13] = [Value.tuple #[a, b, c]] := he; rw [e13] at h9; simp at h9; exact h9.2.1
  · refine stepG_pure (by rfl) (by rfl) (fun _ _ => trivial) ?_
    intro u wq hC hp
    have p13 : [u 12] = [u 13] ∧ tup3 (stAgg3 xs) (u 13) := hp 13 (by simp) (by kernel_rfl)
    obtain ⟨-, b9, c9, e13⟩ := p13
    have q : (putL [(12, some 33), (13, some 20), (14, some 34), (17, some 7), (18, none), (15, some 35), (16, some 36), (19, some 8), (20, some 9)] a0 u).eval (.tmp 20) = u 13 := eval_of (putL_in (k := 20) (i := 13) [(12, some 33), (13, some 20), (14, some 34), (17, some 7), (18, none), (15, some 35), (16, some 36), (19, some 8), (20, some 9)] a0 u (by rfl) (hsz.out 20 (by decide)))
    rw [e13] at q
    generalize putL [(12, some 33), (13, some 20), (14, some 34), (17, some 7), (18, none), (15, some 35), (16, some 36), (19, some 8), (20, some 9)] a0 u = a1 at *
    refine Exists.intro c9 (And.intro ?_ ?_)
    · intro K hK
      refine wp_extract (x := .tmp 20) (n := 2) (vs := #[(stAgg3 xs), b9, c9]) (v := c9) ?_ ?_ ?_ ?_
      · rfl
      · exact q
      · rfl
      · exact hK
    · exact fun a b c he => by have h9 : [u 13] = [Value.tuple #[a, b, c]] := he; rw [e13] at h9; simp at h9; exact h9.2.2
  · refine stepG_pure (by rfl) (by rfl) (fun _ _ => trivial) ?_
    intro u wq hC hp
    have q : (putL [(12, some 33), (13, some 20), (14, some 34), (17, some 7), (18, none), (15, some 35), (16, some 36), (19, some 8), (20, some 9)] a0 u).eval (.tmp 35) = u 15 := eval_of (putL_in (k := 35) (i := 15) [(12, some 33), (13, some 20), (14, some 34), (17, some 7), (18, none), (15, some 35), (16, some 36), (19, some 8), (20, some 9)] a0 u (by rfl) (hsz.out 35 (by decide)))
    generalize putL [(12, some 33), (13, some 20), (14, some 34), (17, some 7), (18, none), (15, some 35), (16, some 36), (19, some 8), (20, some 9)] a0 u = a1 at *
    refine Exists.intro (u 15) (And.intro ?_ ?_)
    · intro K hK
      exact wp_move' (.inr (by rfl)) q hK
    · exact rfl
  · refine stepG_pure (by rfl) (by rfl) (fun _ _ => trivial) ?_
    intro u wq hC hp
    have q : (putL [(12, some 33), (13, some 20), (14, some 34), (17, some 7), (18, none), (15, some 35), (16, some 36), (19, some 8), (20, some 9)] a0 u).eval (.tmp 36) = u 16 := eval_of (putL_in (k := 36) (i := 16) [(12, some 33), (13, some 20), (14, some 34), (17, some 7), (18, none), (15, some 35), (16, some 36), (19, some 8), (20, some 9)] a0 u (by rfl) (hsz.out 36 (by decide)))
    generalize putL [(12, some 33), (13, some 20), (14, some 34), (17, some 7), (18, none), (15, some 35), (16, some 36), (19, some 8), (20, some 9)] a0 u = a1 at *
    refine Exists.intro (u 16) (And.intro ?_ ?_)
    · intro K hK
      exact wp_move' (.inr (by rfl)) q hK
    · exact rfl
  intro K hK u w7 F1 hC hD hF hN hpp
  obtain ⟨sv, ov, g12, n12, m12⟩ : ∃ sv ov, u 12 = .tuple #[(stAgg3 xs), sv, ov] ∧ Ow tEv 80 w7 (F1 12) sv sends ∧ Ow tOut 128 w7 (F1 12) ov outs := hN 12 (by rfl)
  obtain ⟨gX, g17, f17, BX3⟩ : ∃ g, [u 17] = [.pointer (some ⟨g, 0, none⟩)] ∧ F1 18 g ∧ w7.heap[g]? = some (.cells #[.int .i64 xs.x, .int .i64 xs.y, .int .i64 xs.c] 49 (0, 0)) := hN 18 (by rfl)
  have g17 : u 17 = .pointer (some ⟨gX, 0, none⟩) := by simpa using g17
  have p13 : [u 12] = [u 13] ∧ tup3 (stAgg3 xs) (u 13) := hpp 13 (by simp)
  have e13 : u 13 = u 12 := by have := p13.1; simp at this; exact this.symm
  have e14 : u 14 = (stAgg3 xs) := hpp 14 (by simp)
  have p15 : ∀ a b c, [u 13] = [.tuple #[a, b, c]] → u 15 = b := hpp 15 (by simp)
  have p16 : ∀ a b c, [u 13] = [.tuple #[a, b, c]] → u 16 = c := hpp 16 (by simp)
  have e19 : u 19 = u 15 := by have q : [u 15] = [u 19] := hpp 19 (by simp); simp at q; exact q.symm
  have e20 : u 20 = u 16 := by have q : [u 16] = [u 20] := hpp 20 (by simp); simp at q; exact q.symm
  rw [g12] at e13
  have e15 := p15 _ _ _ (by rw [e13])
  have e16 := p16 _ _ _ (by rw [e13])
  rw [e15] at e19
  rw [e16] at e20
  clear hpp p13 p15 p16
  have hgX : V.heap.size ≤ gX := by have := (hF 18 gX (by rfl) f17).1; rcases this with q | q; exact q.elim; simpa using q
  have n7 := n12.mono (F' := fun k => V.heap.size ≤ k) (fun k hk => by have := (hF 12 k (by rfl) hk).1; rcases this with q | q; exact q.elim; simpa using q)
  have m7 := m12.mono (F' := fun k => V.heap.size ≤ k) (fun k hk => by have := (hF 12 k (by rfl) hk).1; rcases this with q | q; exact q.elim; simpa using q)
  have HS : Below V.heap.size V w7 := ⟨hC.below0.os, hC.below0.tape, hC.below0.output, hC.below0.size, hC.below0.block⟩
  have HA : Agree V.drew w7 := Agree.of_ch hC (fun _ hf => hf.elim)
  clear hN hF hD hC n12 m12 f17
  rw [H0.out]
  clear s25 s31 s32 hsz H0 a0
  simp only [putL_cons, putL_nil]
  simp only [stAgg3] at g12 e13 e14
  generalize u 12 = v12 at *
  generalize u 13 = v13 at *
  generalize u 14 = v14 at *
  generalize u 15 = v15 at *
  generalize u 16 = v16 at *
  generalize u 17 = v17 at *
  generalize u 19 = v19 at *
  generalize u 20 = v20 at *
  subst g12 g17 e13 e14 e15 e16 e19 e20
  go_simp
  refine hK _ _ HA ?_
  clear hK K F1 HA
  refine sg_fin ?_
  simp only [pickO]
  have W0 := below_heap HS (blk_lt V0) V0
  have W1 := below_heap HS (blk_lt V1) V1
  have WE := below_heap HS (blk_lt VE) VE
  have hb7 := bthen hbV HS hwV
  have hVs := HS.size
  clear HS V0 V1 VE fA hrA t0 t1 t2 d0 e0 e1 e2 e3 e4 e5 e6 hA7 h7 hbA hbT hl0V
  obtain ⟨Y1, y1, rfl, z1⟩ := n7.shape
  obtain ⟨Y2, y2, rfl, z2⟩ := m7.shape
  have h7 := h.below hb7
  have hRs := hid h7.st
  have hRo := hid h7.ou
  have hRs2 := hid n7.rd
  have hRo2 := hid m7.rd
  have hcap := h7.qu.capLe
  have hRq0 := h7.qu.dropO 1 (by omega)
  have d0 : w7.cell? ⟨w.heap.size, 0, none⟩ = some (.slice (some ⟨bT, oT, none⟩) s.states.length c1) := blk_cell W0 0
  have d1 : w7.cell? ⟨w.heap.size, 1, none⟩ = some (.slice (some ⟨b2, o2, none⟩) s.queue.length c2) := blk_cell W0 1
  have d2 : w7.cell? ⟨w.heap.size, 2, none⟩ = some (.slice A3 s.outs.length c3) := blk_cell W0 2
  have hi1 : (1 : Int) ≤ (s.queue.length : Int) := by omega
  have hi2 : (1 : Int) ≤ (c2 : Int) := by omega
  have hi3 : 1 ≤ s.queue.length := by omega
  have hi4 : 1 ≤ c2 := by omega
  have HT1 := hid (show s.queue.drop 1 = s.queue.tail by simp)
  have hSim := hid h
  have hsl := drop1_run b2 o2 s.queue.length c2 hi3 hcap
  obtain ⟨v42x, hv42x⟩ : ∃ v, v = Value.slice (if c2 = 1 then some ⟨b2, o2, none⟩ else (some ⟨b2, o2, none⟩ : Option Addr).map fun x => x.add (1 * 7)) (s.queue.length - 1) (c2 - 1) := ⟨_, rfl⟩
  have hRq0 : Rd tEv w7 F v42x (s.queue.drop 1) := by rw [hv42x]; exact hRq0
  rw [← hv42x] at hsl
  clear hcap hv42x
  all_goals
    rw [HT1.out] at hRq0
    have hRq1 := hid hRq0
    clear hRq0 HT1
    go_upto_region 5 with fail
    refine region_sg [.rd [0, 1, 3, 4, 5, 6, 10, 11, 12], .par [(2, []), (7, []), (8, [7]), (9, [8]), (13, []), (14, [13]), (15, [14]), (16, []), (17, [])] []] [18] (by kernel_rfl) (by kernel_rfl) (fun _ _ d _ _ h => by cases d <;> exact h) ?_
    refine sg_rd (fun N hN => ?_)
    simp only [pickO, List.getElem?_toArray, List.getElem?_cons_zero, List.getElem?_cons_succ]
    go_wp2_with fail
    refine rd_next (hN _ ?_)
    clear hN N
    have hRq0 := hRq1.out
    refine sg_name fun a0 ha0 => ?_
    have s38 := hid (show a0.tmps[38]? = some (.slice (some ⟨bT, oT, none⟩) s.states.length c1) by rw [ha0]; rfl)
    obtain ⟨v42, s42, hRq⟩ : ∃ v, a0.tmps[42]? = some v ∧ Rd tEv w7 F v s.queue.tail := ⟨_, by rw [ha0]; rfl, hRq0⟩
    obtain ⟨B42, c42, rfl, z42⟩ := hRq.shape
    obtain ⟨nq, hnq⟩ : ∃ n, s.queue.tail.length = n := ⟨_, rfl⟩
    rw [hnq] at s42 hRq
    have HNQ := hid hnq
    clear hnq z42
    replace s42 := hid s42
    replace hRq := hid hRq
    have s43 := hid (show a0.tmps[43]? = some (.slice Y1 sends.length y1) by rw [ha0]; rfl)
    have s48 := hid (show a0.tmps[48]? = some (.slice A3 s.outs.length c3) by rw [ha0]; rfl)
    have s49 := hid (show a0.tmps[49]? = some (.slice Y2 outs.length y2) by rw [ha0]; rfl)
    have hsz := hid (show ∀ k, k < 65 → k < a0.tmps.size from fun k hk => by rw [ha0]; exact hk)
    have H0 := hid ha0
    clear ha0 hRq0
    refine sg_parG [(2, some 39), (7, some 44), (8, some 45), (9, some 46), (13, some 50), (14, some 51), (15, some 52), (16, some 53), (17, some 10)] (by rfl) (fun _ => False) (NL (nxN (.slice B42 nq c42) (.slice Y1 sends.length y1) (.slice A3 s.outs.length c3) (.slice Y2 outs.length y2) s.states (s.queue.tail ++ sends) (s.outs ++ outs))) (PPL nxP) (fun _ _ => False) (PPL_upd _ (by kernel_rfl)) (NL_upd _ (by kernel_rfl)) (NL_move _ (nxN_moves _ _ _ _ _ _ _)) (fun w' hc => Agree.of_ch hc (fun _ hf => hf.elim)) (by simp) (by simp) (by simp) (parS_cons ?_ (parS_cons ?_ (parS_cons ?_ (parS_cons ?_ (parS_cons ?_ (parS_cons ?_ (parS_cons ?_ (parS_cons ?_ (parS_cons ?_ parS_nil))))))))) ?_
    · refine stepG_mk (by rfl) (by rfl) ?_
      intro u wq F1 hC hp hN hF hD K hK
      clear hp hN hF hD
      have q38 : (putL [(2, some 39), (7, some 44), (8, some 45), (9, some 46), (13, some 50), (14, some 51), (15, some 52), (16, some 53), (17, some 10)] a0 u).tmps[38]? = _ := (putL_out (k := 38) [(2, some 39), (7, some 44), (8, some 45), (9, some 46), (13, some 50), (14, some 51), (15, some 52), (16, some 53), (17, some 10)] a0 u (by rfl)).trans s38.out
      generalize putL [(2, some 39), (7, some 44), (8, some 45), (9, some 46), (13, some 50), (14, some 51), (15, some 52), (16, some 53), (17, some 10)] a0 u = a1 at *
      go_simp
      refine (cloneSt_c _ s.states _ wq (hRs.out.below (⟨hC.below0.os, hC.below0.tape, hC.below0.output, hC.below0.size, hC.below0.block⟩ : Below w7.heap.size w7 wq)) (by omega)).mono ?_
      rintro e w5 ⟨u5, rfl, h5, hb5⟩
      have hn1 : NL (nxN (.slice B42 nq c42) (.slice Y1 sends.length y1) (.slice A3 s.outs.length c3) (.slice Y2 outs.length y2) s.states (s.queue.tail ++ sends) (s.outs ++ outs)) 2 (updV u 2 u5) w5 (fun k => wq.heap.size ≤ k ∧ k < w5.heap.size) := h5.bound
      have hp1 : PPL nxP 2 (updV u 2 u5) := (by obtain ⟨x1, x2, x3, -⟩ := h5.shape; exact ⟨x1, _, x2, x3⟩)
      exact hK _ u5 _ (fun k => wq.heap.size ≤ k ∧ k < w5.heap.size) rfl (Ch.of_below hb5) hn1 (fun k hk => ⟨.inr hk.1, hk.2⟩) hp1
    · refine stepG_mk (by rfl) (by rfl) ?_
      intro u wq F1 hC hp hN hF hD K hK
      clear hp hN hF hD
      have qa : (putL [(2, some 39), (7, some 44), (8, some 45), (9, some 46), (13, some 50), (14, some 51), (15, some 52), (16, some 53), (17, some 10)] a0 u).tmps[42]? = _ := (putL_out (k := 42) [(2, some 39), (7, some 44), (8, some 45), (9, some 46), (13, some 50), (14, some 51), (15, some 52), (16, some 53), (17, some 10)] a0 u (by rfl)).trans s42.out
      have qb : (putL [(2, some 39), (7, some 44), (8, some 45), (9, some 46), (13, some 50), (14, some 51), (15, some 52), (16, some 53), (17, some 10)] a0 u).tmps[43]? = _ := (putL_out (k := 43) [(2, some 39), (7, some 44), (8, some 45), (9, some 46), (13, some 50), (14, some 51), (15, some 52), (16, some 53), (17, some 10)] a0 u (by rfl)).trans s43.out
      generalize putL [(2, some 39), (7, some 44), (8, some 45), (9, some 46), (13, some 50), (14, some 51), (15, some 52), (16, some 53), (17, some 10)] a0 u = a1 at *
      go_simp
      exact hK _ (.slice (some ⟨wq.heap.size, 0, none⟩) 2 2) _ (fun k => k = wq.heap.size) rfl ((Ch.refl _ _).alloc _) ⟨wq.heap.size, rfl, rfl, heap_at rfl⟩ (fun k hk => by subst hk; exact ⟨.inr (Nat.le_refl _), by simp⟩) trivial
    · refine stepG_mk (by rfl) (by rfl) ?_
      intro u wq F1 hC hp hN hF hD K hK
      have q1 : (putL [(2, some 39), (7, some 44), (8, some 45), (9, some 46), (13, some 50), (14, some 51), (15, some 52), (16, some 53), (17, some 10)] a0 u).tmps[44]? = some (u 7) := putL_in (k := 44) (i := 7) [(2, some 39), (7, some 44), (8, some 45), (9, some 46), (13, some 50), (14, some 51), (15, some 52), (16, some 53), (17, some 10)] a0 u (by rfl) (hsz.out 44 (by decide))
      obtain ⟨g, e7, f7, B7⟩ : ∃ g, u 7 = .slice (some ⟨g, 0, none⟩) 2 2 ∧ F1 7 g ∧ wq.heap[g]? = some (.cells #[(.slice B42 nq c42), (.slice Y1 sends.length y1)] 25 (0, 0)) := hN 7 (by simp)
      have hgl := blk_lt B7
      rw [e7] at q1
      clear hp hN hF hD
      generalize putL [(2, some 39), (7, some 44), (8, some 45), (9, some 46), (13, some 50), (14, some 51), (15, some 52), (16, some 53), (17, some 10)] a0 u = a1 at *
      go_simp
      refine (concatEv_c g 0 2 _ _ _ _ (fun _ => True) wq ((hRq.out.below (⟨hC.below0.os, hC.below0.tape, hC.below0.output, hC.below0.size, hC.below0.block⟩ : Below w7.heap.size w7 wq)).mono (fun _ _ => trivial)) ((hRs2.out.below (⟨hC.below0.os, hC.below0.tape, hC.below0.output, hC.below0.size, hC.below0.block⟩ : Below w7.heap.size w7 wq)).mono (fun _ _ => trivial)) hgl (blk_cell B7 0) (blk_cell B7 1) (by first | omega | (simp; omega)) (by omega)).mono ?_
      rintro e w5 ⟨u5, rfl, h5, hb5⟩
      have hn1 : NL (nxN (.slice B42 nq c42) (.slice Y1 sends.length y1) (.slice A3 s.outs.length c3) (.slice Y2 outs.length y2) s.states (s.queue.tail ++ sends) (s.outs ++ outs)) 8 (updV u 8 u5) w5 (fun k => wq.heap.size ≤ k ∧ k < w5.heap.size) := h5.bound
      exact hK _ u5 _ (fun k => wq.heap.size ≤ k ∧ k < w5.heap.size) rfl (Ch.of_below hb5) hn1 (fun k hk => ⟨.inr hk.1, hk.2⟩) trivial
    · refine stepG_mk (by rfl) (by rfl) ?_
      intro u wq F1 hC hp hN hF hD K hK
      have q1 : (putL [(2, some 39), (7, some 44), (8, some 45), (9, some 46), (13, some 50), (14, some 51), (15, some 52), (16, some 53), (17, some 10)] a0 u).tmps[45]? = some (u 8) := putL_in (k := 45) (i := 8) [(2, some 39), (7, some 44), (8, some 45), (9, some 46), (13, some 50), (14, some 51), (15, some 52), (16, some 53), (17, some 10)] a0 u (by rfl) (hsz.out 45 (by decide))
      have n8 : Ow tEv 80 wq (F1 8) (u 8) (s.queue.tail ++ sends) := hN 8 (by simp)
      clear hp hN hF hD
      generalize putL [(2, some 39), (7, some 44), (8, some 45), (9, some 46), (13, some 50), (14, some 51), (15, some 52), (16, some 53), (17, some 10)] a0 u = a1 at *
      go_simp
      refine (EventSortI_c _ (s.queue.tail ++ sends) _ wq n8.rd (by first | omega | (simp; omega)) hwq).mono ?_
      rintro e w5 ⟨u5, rfl, h5, hb5⟩
      have hn1 : NL (nxN (.slice B42 nq c42) (.slice Y1 sends.length y1) (.slice A3 s.outs.length c3) (.slice Y2 outs.length y2) s.states (s.queue.tail ++ sends) (s.outs ++ outs)) 9 (updV u 9 u5) w5 (fun k => wq.heap.size ≤ k ∧ k < w5.heap.size) := h5.bound
      have hp1 : PPL nxP 9 (updV u 9 u5) := (by obtain ⟨x1, x2, x3, -⟩ := h5.shape; exact ⟨x1, _, x2, x3⟩)
      exact hK _ u5 _ (fun k => wq.heap.size ≤ k ∧ k < w5.heap.size) rfl (Ch.of_below hb5) hn1 (fun k hk => ⟨.inr hk.1, hk.2⟩) hp1
    · refine stepG_mk (by rfl) (by rfl) ?_
      intro u wq F1 hC hp hN hF hD K hK
      clear hp hN hF hD
      have qa : (putL [(2, some 39), (7, some 44), (8, some 45), (9, some 46), (13, some 50), (14, some 51), (15, some 52), (16, some 53), (17, some 10)] a0 u).tmps[48]? = _ := (putL_out (k := 48) [(2, some 39), (7, some 44), (8, some 45), (9, some 46), (13, some 50), (14, some 51), (15, some 52), (16, some 53), (17, some 10)] a0 u (by rfl)).trans s48.out
      have qb : (putL [(2, some 39), (7, some 44), (8, some 45), (9, some 46), (13, some 50), (14, some 51), (15, some 52), (16, some 53), (17, some 10)] a0 u).tmps[49]? = _ := (putL_out (k := 49) [(2, some 39), (7, some 44), (8, some 45), (9, some 46), (13, some 50), (14, some 51), (15, some 52), (16, some 53), (17, some 10)] a0 u (by rfl)).trans s49.out
      generalize putL [(2, some 39), (7, some 44), (8, some 45), (9, some 46), (13, some 50), (14, some 51), (15, some 52), (16, some 53), (17, some 10)] a0 u = a1 at *
      go_simp
      exact hK _ (.slice (some ⟨wq.heap.size, 0, none⟩) 2 2) _ (fun k => k = wq.heap.size) rfl ((Ch.refl _ _).alloc _) ⟨wq.heap.size, rfl, rfl, heap_at rfl⟩ (fun k hk => by subst hk; exact ⟨.inr (Nat.le_refl _), by simp⟩) trivial
    · refine stepG_mk (by rfl) (by rfl) ?_
      intro u wq F1 hC hp hN hF hD K hK
      have q1 : (putL [(2, some 39), (7, some 44), (8, some 45), (9, some 46), (13, some 50), (14, some 51), (15, some 52), (16, some 53), (17, some 10)] a0 u).tmps[50]? = some (u 13) := putL_in (k := 50) (i := 13) [(2, some 39), (7, some 44), (8, some 45), (9, some 46), (13, some 50), (14, some 51), (15, some 52), (16, some 53), (17, some 10)] a0 u (by rfl) (hsz.out 50 (by decide))
      obtain ⟨g, e7, f7, B7⟩ : ∃ g, u 13 = .slice (some ⟨g, 0, none⟩) 2 2 ∧ F1 13 g ∧ wq.heap[g]? = some (.cells #[(.slice A3 s.outs.length c3), (.slice Y2 outs.length y2)] 26 (0, 0)) := hN 13 (by simp)
      have hgl := blk_lt B7
      rw [e7] at q1
      clear hp hN hF hD
      generalize putL [(2, some 39), (7, some 44), (8, some 45), (9, some 46), (13, some 50), (14, some 51), (15, some 52), (16, some 53), (17, some 10)] a0 u = a1 at *
      go_simp
      refine (concatOut_c g 0 2 _ _ _ _ (fun _ => True) wq ((hRo.out.below (⟨hC.below0.os, hC.below0.tape, hC.below0.output, hC.below0.size, hC.below0.block⟩ : Below w7.heap.size w7 wq)).mono (fun _ _ => trivial)) ((hRo2.out.below (⟨hC.below0.os, hC.below0.tape, hC.below0.output, hC.below0.size, hC.below0.block⟩ : Below w7.heap.size w7 wq)).mono (fun _ _ => trivial)) hgl (blk_cell B7 0) (blk_cell B7 1) (by first | omega | (simp; omega)) (by omega)).mono ?_
      rintro e w5 ⟨u5, rfl, h5, hb5⟩
      have hn1 : NL (nxN (.slice B42 nq c42) (.slice Y1 sends.length y1) (.slice A3 s.outs.length c3) (.slice Y2 outs.length y2) s.states (s.queue.tail ++ sends) (s.outs ++ outs)) 14 (updV u 14 u5) w5 (fun k => wq.heap.size ≤ k ∧ k < w5.heap.size) := h5.bound
      exact hK _ u5 _ (fun k => wq.heap.size ≤ k ∧ k < w5.heap.size) rfl (Ch.of_below hb5) hn1 (fun k hk => ⟨.inr hk.1, hk.2⟩) trivial
    · refine stepG_mk (by rfl) (by rfl) ?_
      intro u wq F1 hC hp hN hF hD K hK
      have q1 : (putL [(2, some 39), (7, some 44), (8, some 45), (9, some 46), (13, some 50), (14, some 51), (15, some 52), (16, some 53), (17, some 10)] a0 u).tmps[51]? = some (u 14) := putL_in (k := 51) (i := 14) [(2, some 39), (7, some 44), (8, some 45), (9, some 46), (13, some 50), (14, some 51), (15, some 52), (16, some 53), (17, some 10)] a0 u (by rfl) (hsz.out 51 (by decide))
      have n8 : Ow tOut 128 wq (F1 14) (u 14) (s.outs ++ outs) := hN 14 (by simp)
      clear hp hN hF hD
      generalize putL [(2, some 39), (7, some 44), (8, some 45), (9, some 46), (13, some 50), (14, some 51), (15, some 52), (16, some 53), (17, some 10)] a0 u = a1 at *
      go_simp
      refine (OutSortI_c _ (s.outs ++ outs) _ wq n8.rd (by first | omega | (simp; omega))).mono ?_
      rintro e w5 ⟨u5, rfl, h5, hb5⟩
      have hn1 : NL (nxN (.slice B42 nq c42) (.slice Y1 sends.length y1) (.slice A3 s.outs.length c3) (.slice Y2 outs.length y2) s.states (s.queue.tail ++ sends) (s.outs ++ outs)) 15 (updV u 15 u5) w5 (fun k => wq.heap.size ≤ k ∧ k < w5.heap.size) := h5.bound
      have hp1 : PPL nxP 15 (updV u 15 u5) := (by obtain ⟨x1, x2, x3, -⟩ := h5.shape; exact ⟨x1, _, x2, x3⟩)
      exact hK _ u5 _ (fun k => wq.heap.size ≤ k ∧ k < w5.heap.size) rfl (Ch.of_below hb5) hn1 (fun k hk => ⟨.inr hk.1, hk.2⟩) hp1
    · refine stepG_pure (by rfl) (by rfl) (fun _ _ => trivial) ?_
      intro u wq hC hp
      have i2 : isSl (u 2) := hp 2 (by simp) (by kernel_rfl)
      have i9 : isSl (u 9) := hp 9 (by simp) (by kernel_rfl)
      have i15 : isSl (u 15) := hp 15 (by simp) (by kernel_rfl)
      have q1 : (putL [(2, some 39), (7, some 44), (8, some 45), (9, some 46), (13, some 50), (14, some 51), (15, some 52), (16, some 53), (17, some 10)] a0 u).tmps[39]? = some (u 2) := putL_in (k := 39) (i := 2) [(2, some 39), (7, some 44), (8, some 45), (9, some 46), (13, some 50), (14, some 51), (15, some 52), (16, some 53), (17, some 10)] a0 u (by rfl) (hsz.out 39 (by decide))
      have q2 : (putL [(2, some 39), (7, some 44), (8, some 45), (9, some 46), (13, some 50), (14, some 51), (15, some 52), (16, some 53), (17, some 10)] a0 u).tmps[46]? = some (u 9) := putL_in (k := 46) (i := 9) [(2, some 39), (7, some 44), (8, some 45), (9, some 46), (13, some 50), (14, some 51), (15, some 52), (16, some 53), (17, some 10)] a0 u (by rfl) (hsz.out 46 (by decide))
      have q3 : (putL [(2, some 39), (7, some 44), (8, some 45), (9, some 46), (13, some 50), (14, some 51), (15, some 52), (16, some 53), (17, some 10)] a0 u).tmps[52]? = some (u 15) := putL_in (k := 52) (i := 15) [(2, some 39), (7, some 44), (8, some 45), (9, some 46), (13, some 50), (14, some 51), (15, some 52), (16, some 53), (17, some 10)] a0 u (by rfl) (hsz.out 52 (by decide))
      generalize putL [(2, some 39), (7, some 44), (8, some 45), (9, some 46), (13, some 50), (14, some 51), (15, some 52), (16, some 53), (17, some 10)] a0 u = a1 at *
      refine Exists.intro (.agg #[u 2, u 9, u 15]) (And.intro ?_ ?_)
      · obtain ⟨a2, b2, c2, e2⟩ := i2
        obtain ⟨a9, b9, c9, e9⟩ := i9
        obtain ⟨a15, b15, c15, e15⟩ := i15
        rw [e2] at q1 ⊢
        rw [e9] at q2 ⊢
        rw [e15] at q3 ⊢
        intro K hK
        clear hp hC
        go_simp
        exact hK
      · exact fun a b c he => by have h9 : [u 2, u 9, u 15] = [a, b, c] := he; simp at h9; obtain ⟨rfl, rfl, rfl⟩ := h9; rfl
    · refine stepG_mk (by rfl) (by rfl) ?_
      intro u wq F1 hC hp hN hF hD K hK
      clear hp hN hF hD
      generalize putL [(2, some 39), (7, some 44), (8, some 45), (9, some 46), (13, some 50), (14, some 51), (15, some 52), (16, some 53), (17, some 10)] a0 u = a1 at *
      go_simp
      exact hK _ (.pointer (some ⟨wq.heap.size, 0, none⟩)) _ (fun k => k = wq.heap.size) rfl ((Ch.refl _ _).alloc _) ⟨_, rfl, rfl, heap_at rfl⟩ (fun k hk => by subst hk; exact ⟨.inr (Nat.le_refl _), by simp⟩) trivial
    intro K hK u w8 F1 hC hD hF hN hpp
    have n2 : Ow tSt 49 w8 (F1 2) (u 2) s.states := hN 2 (by rfl)
    have n9 : Ow tEv 80 w8 (F1 9) (u 9) (evSort (s.queue.tail ++ sends)) := hN 9 (by rfl)
    have n15 : Ow tOut 128 w8 (F1 15) (u 15) (outSort (s.outs ++ outs)) := hN 15 (by rfl)
    obtain ⟨gN, e17, f17, BN⟩ : ∃ g, u 17 = .pointer (some ⟨g, 0, none⟩) ∧ F1 17 g ∧ w8.heap[g]? = some (.cells #[.slice none 0 0, .slice none 0 0, .slice none 0 0] 28 (0, 0)) := hN 17 (by rfl)
    have e16a : ∀ a b c, [u 2, u 9, u 15] = [a, b, c] → u 16 = .agg #[a, b, c] := hpp 16 (by simp)
    have e16 := e16a _ _ _ rfl
    clear e16a
    have hgN : w7.heap.size ≤ gN := by have := (hF 17 gN (by rfl) f17).1; rcases this with q | q; exact q.elim; exact q
    have m2 := n2.mono (F' := fun k => w.heap.size ≤ k) (fun k hk => by have := (hF 2 k (by rfl) hk).1; have h9 := hb7.size; rcases this with q | q; exact q.elim; exact Nat.le_trans h9 q)
    have m9 := n9.mono (F' := fun k => w.heap.size ≤ k) (fun k hk => by have := (hF 9 k (by rfl) hk).1; have h9 := hb7.size; rcases this with q | q; exact q.elim; exact Nat.le_trans h9 q)
    have m15 := n15.mono (F' := fun k => w.heap.size ≤ k) (fun k hk => by have := (hF 15 k (by rfl) hk).1; have h9 := hb7.size; rcases this with q | q; exact q.elim; exact Nat.le_trans h9 q)
    have HS8 : Below w7.heap.size w7 w8 := ⟨hC.below0.os, hC.below0.tape, hC.below0.output, hC.below0.size, hC.below0.block⟩
    have HA : Agree w7.drew w8 := Agree.of_ch hC (fun _ hf => hf.elim)
    have X0 := below_heap HS8 (blk_lt W0) W0
    have X1 := below_heap HS8 (blk_lt W1) W1
    have XE := below_heap HS8 (blk_lt WE) WE
    have XX := below_heap HS8 (blk_lt BX3) BX3
    have hb8 := bthen hb7 HS8 hb7.size
    have hgXl := blk_lt BX3
    have hgEl := blk_lt WE
    have hl0 := blk_lt W0
    have hl1 := blk_lt W1
    have hb7s := hid hb7.size
    clear hN hF hD hC n2 n9 n15 f17 hpp HS8 W0 W1 WE BX3 d0 d1 d2 n7 m7 hb7 h7
    rw [H0.out]
    clear s38 s42 s43 s48 s49 hsz H0 a0 hRs hRo hRs2 hRo2 hRq hRq1
    simp only [putL_cons, putL_nil]
    go_simp
    obtain ⟨Z1, z1', u2, -⟩ := m2.shape
    obtain ⟨Z2, z2', u9, -⟩ := m9.shape
    obtain ⟨Z3, z3', u15, -⟩ := m15.shape
    rw [u2, u9, u15] at e16
    rw [u2] at m2 ⊢
    rw [u9] at m9 ⊢
    rw [u15] at m15 ⊢
    (try rw [e16])
    (try rw [e17])
    generalize u 7 = v7
    generalize u 8 = v8
    generalize u 13 = v13
    generalize u 14 = v14
    clear u2 u9 u15 e16 e17 u
    refine hK _ _ HA ?_
    clear hK K F1 HA
    refine sg_fin ?_
    simp only [pickO, List.getElem?_toArray, List.getElem?_cons_zero, List.getElem?_cons_succ]
    have c0 : w8.cell? ⟨gN, 0, none⟩ = some (.slice none 0 0) := blk_cell BN 0
    have c1' : w8.cell? ⟨gN, 1, none⟩ = some (.slice none 0 0) := blk_cell BN 1
    have c2' : w8.cell? ⟨gN, 2, none⟩ = some (.slice none 0 0) := blk_cell BN 2
    have f0 := blk_frozen BN 0
    have f1 := blk_frozen BN 1
    have f2 := blk_frozen BN 2
    go_upto_region 6 with fail
    obtain ⟨BW, nW, hbW⟩ := sim_store (w := w) (g := gN) (s := ⟨s.states, evSort (s.queue.tail ++ sends), outSort (s.outs ++ outs)⟩) BN ⟨m2, m9, m15⟩ (by have := hb7s.out; omega) hb8 (.slice Z1 s.states.length z1') (.slice Z2 (evSort (s.queue.tail ++ sends)).length z2') (.slice Z3 (outSort (s.outs ++ outs)).length z3') rfl rfl rfl
    have hn0 := hb7s.out
    have Y0 := set3_other (g := gN) (k := w.heap.size) (by omega) (.slice Z1 s.states.length z1') (.slice Z2 (evSort (s.queue.tail ++ sends)).length z2') (.slice Z3 (outSort (s.outs ++ outs)).length z3') X0
    have Y1b := set3_other (g := gN) (k := w.heap.size + 1) (by omega) (.slice Z1 s.states.length z1') (.slice Z2 (evSort (s.queue.tail ++ sends)).length z2') (.slice Z3 (outSort (s.outs ++ outs)).length z3') X1
    have YE := set3_other (g := gN) (k := gE) (by omega) (.slice Z1 s.states.length z1') (.slice Z2 (evSort (s.queue.tail ++ sends)).length z2') (.slice Z3 (outSort (s.outs ++ outs)).length z3') XE
    have YX := set3_other (g := gN) (k := gX) (by omega) (.slice Z1 s.states.length z1') (.slice Z2 (evSort (s.queue.tail ++ sends)).length z2') (.slice Z3 (outSort (s.outs ++ outs)).length z3') XX
    generalize ((w8.setCell ⟨gN, 0, none⟩ (.slice Z1 s.states.length z1')).setCell ⟨gN, 1, none⟩ (.slice Z2 (evSort (s.queue.tail ++ sends)).length z2')).setCell ⟨gN, 2, none⟩ (.slice Z3 (outSort (s.outs ++ outs)).length z3') = W9 at *
    clear X0 X1 XE XX BN m2 m9 m15 hb8 c0 c1' c2' f0 f1 f2 hgXl hgEl hl0 hl1
    obtain ⟨gS, aS, curS, hX1, hgS, hgSl, hgSb⟩ := nW.st.head (by show 0 < s.states.length; omega)
    injection hX1 with u1 u2 u3
    subst u1 u3
    clear u2 hgSl hgSb curS
    have k0 : W9.cell? ⟨gN, 0, none⟩ = some (.slice (some ⟨gS, 0, none⟩) s.states.length z1') := blk_cell BW 0
    have k1 : W9.cell? ⟨gE, 1, none⟩ = some (.int .i64 ↑j) := blk_cell YE 1
    have k2 : W9.cell? ⟨gX, 0, none⟩ = some (.int .i64 xs.x) := blk_cell YX 0
    have k3 : W9.cell? ⟨gX, 1, none⟩ = some (.int .i64 xs.y) := blk_cell YX 1
    have k4 : W9.cell? ⟨gX, 2, none⟩ = some (.int .i64 xs.c) := blk_cell YX 2
    have hO8 : Ow tSt 49 W9 (fun k => w.heap.size ≤ k) (.slice (some ⟨gS, 0, none⟩) s.states.length z1') s.states := nW.st
    go_upto_region 7 with (refine ow_store (cells := StD.cells) (sz := 3) rfl _ _ _ rfl hO8 (g := gS) rfl j hs4n xs (by first | rfl | simp) (by first | rfl | simp [StD.cells]) (by kernel_rfl) ?_; intro w10 hO10 hC10)
    have Q0 := nW.st.blkApart (g := gS) rfl (by decide) Y0 hC10
    have Q1 := nW.st.blkApart (g := gS) rfl (by decide) Y1b hC10
    have QN := nW.st.blkApart (g := gS) rfl (by decide) BW hC10
    have hq10 := nW.st.chApart (g := gS) rfl nW.qu (by decide) hC10
    have ho10 := nW.st.chApart (g := gS) rfl nW.ou (by decide) hC10
    have hb10 : Below w.heap.size w w10 := hbW.trans (hC10.below (fun k hk => by rw [hk]; exact hgS) hbW.size)
    have nN : SimOw w10 (fun k => w.heap.size ≤ k) (.slice (some ⟨gS, 0, none⟩) s.states.length z1') (.slice Z2 (evSort (s.queue.tail ++ sends)).length z2') (.slice Z3 (outSort (s.outs ++ outs)).length z3') (simNext apps s) := by
      rw [HN.out]
      exact ⟨hO10, hq10, ho10⟩
    clear hq10 ho10 hO10 hC10 Y0 Y1b YE YX BW k0 k1 k2 k3 k4 hO8 nW hbW
    have g0 : w10.cell? ⟨gN, 0, none⟩ = some (.slice (some ⟨gS, 0, none⟩) s.states.length z1') := blk_cell QN 0
    have g1 : w10.cell? ⟨gN, 1, none⟩ = some (.slice Z2 (evSort (s.queue.tail ++ sends)).length z2') := blk_cell QN 1
    have g2 : w10.cell? ⟨gN, 2, none⟩ = some (.slice Z3 (outSort (s.outs ++ outs)).length z3') := blk_cell QN 2
    go_wp2_with fail
    refine (SimOkI_c _ _ _ (simNext apps s) _ w10 nN.rd.st nN.rd.qu nN.rd.ou).mono ?_
    rintro q w11 ⟨rfl, hb11⟩
    have P0 := below_heap hb11 (blk_lt Q0) Q0
    have P1 := below_heap hb11 (blk_lt Q1) Q1
    have PN := below_heap hb11 (blk_lt QN) QN
    have n11 := nN.below hb11
    have hb12 := bthen hb10 hb11 hb10.size
    clear g0 g1 g2 Q0 Q1 QN nN hb11 hb10
    have r0 : w11.cell? ⟨w.heap.size + 1, 0, none⟩ = some (.slice none 0 0) := blk_cell P1 0
    have r1 : w11.cell? ⟨w.heap.size + 1, 1, none⟩ = some (.slice none 0 0) := blk_cell P1 1
    have r2 : w11.cell? ⟨w.heap.size + 1, 2, none⟩ = some (.slice none 0 0) := blk_cell P1 2
    have y0 := blk_frozen P1 0
    have y1' := blk_frozen P1 1
    have y2' := blk_frozen P1 2
    apply_assumption
    cases qk : simOk (simNext apps s)
    case true =>
      have HF2 := hid (show simStepV apps s = (simNext apps s, true) by rw [HF.out, if_pos qk])
      clear qk
      have g0 : w11.cell? ⟨gN, 0, none⟩ = some (.slice (some ⟨gS, 0, none⟩) s.states.length z1') := blk_cell PN 0
      have g1 : w11.cell? ⟨gN, 1, none⟩ = some (.slice Z2 (evSort (s.queue.tail ++ sends)).length z2') := blk_cell PN 1
      have g2 : w11.cell? ⟨gN, 2, none⟩ = some (.slice Z3 (outSort (s.outs ++ outs)).length z3') := blk_cell PN 2
      go_wp2_with fail
      obtain ⟨BX, nX, hbX⟩ := sim_store (w := w) (g := w.heap.size + 1) P1 n11 (by omega) hb12 (.slice (some ⟨gS, 0, none⟩) s.states.length z1') (.slice Z2 (evSort (s.queue.tail ++ sends)).length z2') (.slice Z3 (outSort (s.outs ++ outs)).length z3') rfl rfl rfl
      generalize ((w11.setCell ⟨w.heap.size + 1, 0, none⟩ (.slice (some ⟨gS, 0, none⟩) s.states.length z1')).setCell ⟨w.heap.size + 1, 1, none⟩ (.slice Z2 (evSort (s.queue.tail ++ sends)).length z2')).setCell ⟨w.heap.size + 1, 2, none⟩ (.slice Z3 (outSort (s.outs ++ outs)).length z3') = W12 at *
      have s0 : W12.cell? ⟨w.heap.size + 1, 0, none⟩ = some (.slice (some ⟨gS, 0, none⟩) s.states.length z1') := blk_cell BX 0
      have s1 : W12.cell? ⟨w.heap.size + 1, 1, none⟩ = some (.slice Z2 (evSort (s.queue.tail ++ sends)).length z2') := blk_cell BX 1
      have s2 : W12.cell? ⟨w.heap.size + 1, 2, none⟩ = some (.slice Z3 (outSort (s.outs ++ outs)).length z3') := blk_cell BX 2
      refine bodyPost_ret (v := .tuple #[.agg #[.slice (some ⟨gS, 0, none⟩) s.states.length z1', .slice Z2 (evSort (s.queue.tail ++ sends)).length z2', .slice Z3 (outSort (s.outs ++ outs)).length z3'], .bool true]) (by simp only [results, Tryz.results38]; go_simp) rfl ⟨_, _, _, by rw [HF2.out], by rw [HF2.out]; exact fun _ => nX, by rw [HF2.out]; exact nX.rd.mono (fun k hk => .inr hk), hbX⟩
    case false =>
      have HF2 := hid (show simStepV apps s = (s, false) by rw [HF.out, if_neg (by rw [qk]; simp)])
      clear qk
      have d0 : w11.cell? ⟨w.heap.size, 0, none⟩ = some (.slice (some ⟨bT, oT, none⟩) s.states.length c1) := blk_cell P0 0
      have d1 : w11.cell? ⟨w.heap.size, 1, none⟩ = some (.slice (some ⟨b2, o2, none⟩) s.queue.length c2) := blk_cell P0 1
      have d2 : w11.cell? ⟨w.heap.size, 2, none⟩ = some (.slice A3 s.outs.length c3) := blk_cell P0 2
      go_wp2_with fail
      have hbX : Below w.heap.size w (((w11.setCell ⟨w.heap.size + 1, 0, none⟩ (.slice (some ⟨bT, oT, none⟩) s.states.length c1)).setCell ⟨w.heap.size + 1, 1, none⟩ (.slice (some ⟨b2, o2, none⟩) s.queue.length c2)).setCell ⟨w.heap.size + 1, 2, none⟩ (.slice A3 s.outs.length c3)) := (((hb12.setCell (p := ⟨w.heap.size + 1, 0, none⟩) (Nat.le_succ _) (.slice (some ⟨bT, oT, none⟩) s.states.length c1)).setCell (p := ⟨w.heap.size + 1, 1, none⟩) (Nat.le_succ _) (.slice (some ⟨b2, o2, none⟩) s.queue.length c2)).setCell (p := ⟨w.heap.size + 1, 2, none⟩) (Nat.le_succ _) (.slice A3 s.outs.length c3))
      have BX : (((w11.setCell ⟨w.heap.size + 1, 0, none⟩ (.slice (some ⟨bT, oT, none⟩) s.states.length c1)).setCell ⟨w.heap.size + 1, 1, none⟩ (.slice (some ⟨b2, o2, none⟩) s.queue.length c2)).setCell ⟨w.heap.size + 1, 2, none⟩ (.slice A3 s.outs.length c3)).heap[w.heap.size + 1]? = some (.cells #[.slice (some ⟨bT, oT, none⟩) s.states.length c1, .slice (some ⟨b2, o2, none⟩) s.queue.length c2, .slice A3 s.outs.length c3] 28 (0, 0)) := (blk_set (blk_set (blk_set P1 0 (.slice (some ⟨bT, oT, none⟩) s.states.length c1)) 1 (.slice (some ⟨b2, o2, none⟩) s.queue.length c2)) 2 (.slice A3 s.outs.length c3))
      generalize (((w11.setCell ⟨w.heap.size + 1, 0, none⟩ (.slice (some ⟨bT, oT, none⟩) s.states.length c1)).setCell ⟨w.heap.size + 1, 1, none⟩ (.slice (some ⟨b2, o2, none⟩) s.queue.length c2)).setCell ⟨w.heap.size + 1, 2, none⟩ (.slice A3 s.outs.length c3)) = W12 at *
      have hX := hSim.out.below hbX
      have s0 : W12.cell? ⟨w.heap.size + 1, 0, none⟩ = some (.slice (some ⟨bT, oT, none⟩) s.states.length c1) := blk_cell BX 0
      have s1 : W12.cell? ⟨w.heap.size + 1, 1, none⟩ = some (.slice (some ⟨b2, o2, none⟩) s.queue.length c2) := blk_cell BX 1
      have s2 : W12.cell? ⟨w.heap.size + 1, 2, none⟩ = some (.slice A3 s.outs.length c3) := blk_cell BX 2
      refine bodyPost_ret (v := .tuple #[.agg #[.slice (some ⟨bT, oT, none⟩) s.states.length c1, .slice (some ⟨b2, o2, none⟩) s.queue.length c2, .slice A3 s.outs.length c3], .bool false]) (by simp only [results, Tryz.results38]; go_simp) rfl ⟨_, _, _, by rw [HF2.out], by rw [HF2.out]; exact fun hh => (by cases hh), by rw [HF2.out]; exact hX.mono (fun k hk => .inl hk), hbX⟩
end Go.Proofs.YtbcemldiahghcaaGreat

namespace Go.Proofs.YtbcemldiahghcaaGreat
set_option linter.unusedVariables false
set_option linter.unusedSimpArgs false
set_option maxRecDepth 100000
open Go.RowKit
theorem simOk_first {s : SimD} {e : EvD} {rest : List EvD} (h : simOk s = true) (hq : s.queue = e :: rest) : evOk e = true ∧ s.states.length = 4 ∧ ∀ x ∈ s.states, stOk x = true := by
  simp only [simOk, evsOk, Bool.and_eq_true, decide_eq_true_eq] at h
  refine ⟨List.all_eq_true.1 h.2.2.1.2.1 e (by rw [hq]; simp), h.1, List.all_eq_true.1 h.2.1⟩
theorem SimStepS_c (va vs vq vo : Value) (apps : List AppD) (s : SimD) (F : Nat → Prop) (w : World) (hA : Rd tApp w F va apps) (h : SimRd w F vs vq vo s) :
    Calls Tryz.prog 31 #[va, .agg #[vs, vq, vo]] w (StepPost apps s w) := by
  cases qa : appsOk apps with
  | false => exact SimStep_no1 va vs vq vo apps s F w hA h qa
  | true =>
    cases qs : simOk s with
    | false => exact SimStep_no2 va vs vq vo apps s F w hA h qa qs
    | true =>
      match qn : s.queue with
      | [] => exact SimStep_nil va vs vq vo apps s F w hA h qa qs qn
      | e :: rest =>
        obtain ⟨he, hs4, hst⟩ := simOk_first qs qn
        have he' := he
        simp only [evOk, inn, Bool.and_eq_true, decide_eq_true_eq] at he'
        obtain ⟨j, hj⟩ := Int.eq_ofNat_of_zero_le (show 0 ≤ e.to by omega)
        have ha := qa
        simp only [appsOk, Bool.and_eq_true, decide_eq_true_eq] at ha
        have hj3 : j ≤ 3 := by omega
        have hja : j < apps.length := by omega
        have hjs : j < s.states.length := by omega
        have hc := appRun_comes (a := apps[j]) (s := s.states[j]) (e := e) (List.all_eq_true.1 ha.2 _ (List.getElem_mem hja)) (hst _ (List.getElem_mem hjs)) he
        have hle : (appRun apps[j] s.states[j] e).2.1.length ≤ 2 ∧ (appRun apps[j] s.states[j] e).2.2.length ≤ 2 := by
          rcases hc.way with ⟨_, h1⟩ | ⟨_, _, h1, h2⟩
          · rw [h1]; simp
          · exact ⟨h1, h2⟩
        exact SimStep_cons va vs vq vo apps s e rest j F w hA h qa qs qn hj hj3 ha.1 hs4 apps[j] s.states[j] (List.getElem?_eq_getElem hja) (List.getElem?_eq_getElem hjs) _ _ _ rfl hle.1 hle.2
end Go.Proofs.YtbcemldiahghcaaGreat
