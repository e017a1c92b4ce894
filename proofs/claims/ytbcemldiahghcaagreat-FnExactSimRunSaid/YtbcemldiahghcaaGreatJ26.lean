/- Texts joined: Spc10, Do. -/
import Derived.Test.YtbcemldiahghcaaGreatJ25
import Derived.Test.YtbcemldiahghcaaGreatJ09
import Derived.Test.YtbcemldiahghcaaGreatJ18
import Derived.Test.YtbcemldiahghcaaGreatJ10
namespace Go.Proofs.YtbcemldiahghcaaGreat
set_option linter.unusedVariables false
set_option linter.unusedSimpArgs false
set_option maxRecDepth 100000
open Go.RowKit
def stAgg3 (s : StD) : Value := .agg #[.int .i64 s.x, .int .i64 s.y, .int .i64 s.c]
/-- What the call of AppRun, and what hangs on it, hold. -/
def runN (t : TypeId) (xs : StD) (sends : List EvD) (outs : List OutD) : List HeldD :=
  [(12, [], fun _ v w F => ∃ sv ov, v = .tuple #[stAgg3 xs, sv, ov] ∧ Ow tEv 80 w F sv sends ∧ Ow tOut 128 w F ov outs),
   (17, [], fun _ v w F => ∃ g, v = .pointer (some ⟨g, 0, none⟩) ∧ F g ∧ w.heap[g]? = some (.cells #[.int .i64 0, .int .i64 0, .int .i64 0] t (0, 0))),
   (18, [17], fun ds _ w F => ∃ g, ds = [.pointer (some ⟨g, 0, none⟩)] ∧ F g ∧ w.heap[g]? = some (.cells #[.int .i64 xs.x, .int .i64 xs.y, .int .i64 xs.c] t (0, 0)))]
theorem runN_moves (t : TypeId) (xs : StD) (sends : List EvD) (outs : List OutD) : MovesDL (runN t xs sends outs) :=
  ⟨fun ds v w w' F ⟨sv, ov, h1, h2, h3⟩ hm => ⟨sv, ov, h1, Ow.move hm h2, Ow.move hm h3⟩, fun ds v w w' F ⟨g, h1, h2, h3⟩ hm => ⟨g, h1, h2, (hm g h2).trans h3⟩, fun ds v w w' F ⟨g, h1, h2, h3⟩ hm => ⟨g, h1, h2, (hm g h2).trans h3⟩, trivial⟩
theorem run_call (v : Value) (a : AppD) (s : StD) (e : EvD) (F : Nat → Prop) (w : World) (h : Rd tRule w F v a.rules) {xs : StD} {sends : List EvD} {outs : List OutD} (hr : appRun a s e = (xs, sends, outs)) :
    Calls Tryz.prog 52 #[.agg #[v], .agg #[.int .i64 s.x, .int .i64 s.y, .int .i64 s.c], .agg #[.int .i64 e.time, .int .i64 e.to, .int .i64 e.from_, .int .i64 e.count, .int .i64 e.n, .int .i64 e.kind, .int .i64 e.arg]] w fun q w' => ∃ sv ov, q = .returned (.tuple #[stAgg3 xs, sv, ov]) ∧ Ow tEv 80 w' (fun k => w.heap.size ≤ k) sv sends ∧ Ow tOut 128 w' (fun k => w.heap.size ≤ k) ov outs ∧ Below w.heap.size w w' := by
  refine (specAppRun_c v a s e F w h).mono ?_
  rintro q w' ⟨sv, ov, h1, h2, h3, h4⟩
  rw [hr] at h1 h2 h3
  exact ⟨sv, ov, h1, h2, h3, h4⟩
def tup3 (X v : Value) : Prop := ∃ b c, v = .tuple #[X, b, c]
def runP (X : Value) : List Known := [(12, [], fun _ v => tup3 X v), (13, [12], fun ds v => ds = [v] ∧ tup3 X v), (14, [13], fun _ v => v = X), (15, [13], fun ds v => ∀ a b c, ds = [.tuple #[a, b, c]] → v = b), (16, [13], fun ds v => ∀ a b c, ds = [.tuple #[a, b, c]] → v = c), (19, [15], fun ds v => ds = [v]), (20, [16], fun ds v => ds = [v])]
theorem simOk_len2 {s : SimD} (h : simOk s = true) : s.states.length ≤ 4 ∧ s.queue.length ≤ 100 ∧ s.outs.length ≤ 96 := by
  simp only [simOk, evsOk, outsOk, Bool.and_eq_true, decide_eq_true_eq] at h
  omega
set_option maxHeartbeats 8000000 in
theorem SimStep_cons (va vs vq vo : Value) (apps : List AppD) (s : SimD) (e : EvD) (rest : List EvD) (j : Nat) (F : Nat → Prop) (w : World) (hA : Rd tApp w F va apps) (h : SimRd w F vs vq vo s) (qa : appsOk apps = true) (qs : simOk s = true) (qn : s.queue = e :: rest) (hj : e.to = (j : Int)) (hj3 : j ≤ 3) (hl4 : apps.length = 4) (hs4 : s.states.length = 4) (a : AppD) (st : StD) (ha : apps[j]? = some a) (hst : s.states[j]? = some st) (xs : StD) (sends : List EvD) (outs : List OutD) (hrun : appRun a st e = (xs, sends, outs)) (hsl : sends.length ≤ 2) (hol : outs.length ≤ 2) :
    Calls Tryz.prog 31 #[va, .agg #[vs, vq, vo]] w (StepPost apps s w) := by
  have HF := hid (show simStep apps s = if simOk (simNext apps s) = true then (simNext apps s, true) else (s, false) by simp [simStep, simStepV, qa, qs, qn])
  have HN := hid (show simNext apps s = ⟨s.states.set j xs, evSort (s.queue.tail ++ sends), outSort (s.outs ++ outs)⟩ by simp [simNext, qn, hj, ha, hst, List.getD_eq_getElem?_getD, hrun])
  have hrun' := hid hrun
  obtain ⟨l1, l2, l3⟩ := simOk_len qs
  obtain ⟨l1', l2', l3'⟩ := simOk_len2 qs
  have hpos : 0 < s.queue.length := by rw [qn]; simp
  have he0 := hid (show s.queue[0] = e by simp [qn])
  have hs4n : j < s.states.length := by omega
  have hl4n : j < apps.length := by omega
  have ha0 := hid (show apps[j]'hl4n = a from by rw [List.getElem?_eq_getElem (by omega)] at ha; exact Option.some.inj ha)
  have hs0 := hid (show s.states[j]'hs4n = st from by rw [List.getElem?_eq_getElem (by omega)] at hst; exact Option.some.inj hst)
  have hj' := hid hj
  have hl4' : 4 ≤ apps.length := by omega
  have hl4i : (j : Int) < (apps.length : Int) := by omega
  have hs4' : (j : Int) < (s.states.length : Int) := by omega
  have HS4 := hid hs4
  clear qn hj hl4 hs4 ha hst hrun
  obtain ⟨A1, c1, rfl, m1⟩ := h.st.shape
  obtain ⟨A2, c2, rfl, m2⟩ := h.qu.shape
  obtain ⟨A3, c3, rfl, m3⟩ := h.ou.shape
  obtain ⟨A0, c0, rfl, m0⟩ := hA.shape
  go_enter Tryz.func31, Tryz.ntmps31
  go_wp2_with fail
  have hW := balloc (balloc (Below.refl w.heap.size w) (.cells #[.slice A1 s.states.length c1, .slice A2 s.queue.length c2, .slice A3 s.outs.length c3] 28)) (.cells #[.slice none 0 0, .slice none 0 0, .slice none 0 0] 28)
  have B0 : ((w.alloc (.cells #[.slice A1 s.states.length c1, .slice A2 s.queue.length c2, .slice A3 s.outs.length c3] 28)).alloc (.cells #[.slice none 0 0, .slice none 0 0, .slice none 0 0] 28)).heap[w.heap.size]? = some (.cells #[.slice A1 s.states.length c1, .slice A2 s.queue.length c2, .slice A3 s.outs.length c3] 28 (0, 0)) := (heap_old (by simp)).trans (heap_at rfl)
  have B1 : ((w.alloc (.cells #[.slice A1 s.states.length c1, .slice A2 s.queue.length c2, .slice A3 s.outs.length c3] 28)).alloc (.cells #[.slice none 0 0, .slice none 0 0, .slice none 0 0] 28)).heap[w.heap.size + 1]? = some (.cells #[.slice none 0 0, .slice none 0 0, .slice none 0 0] 28 (0, 0)) := heap_at (by simp)
  generalize (w.alloc (.cells #[.slice A1 s.states.length c1, .slice A2 s.queue.length c2, .slice A3 s.outs.length c3] 28)).alloc (.cells #[.slice none 0 0, .slice none 0 0, .slice none 0 0] 28) = W at *
  refine (AppOk_c _ apps F W (hA.below hW)).mono ?_
  rintro e w1 ⟨rfl, hb1⟩
  rw [qa]
  have hW1 := bthen hW hb1 hW.size
  have C0 := below_heap hb1 (blk_lt B0) B0
  have C1 := below_heap hb1 (blk_lt B1) B1
  clear B0 B1 hb1 hW
  have d0 : w1.cell? ⟨w.heap.size, 0, none⟩ = some (.slice A1 s.states.length c1) := blk_cell C0 0
  have d1 : w1.cell? ⟨w.heap.size, 1, none⟩ = some (.slice A2 s.queue.length c2) := blk_cell C0 1
  have d2 : w1.cell? ⟨w.heap.size, 2, none⟩ = some (.slice A3 s.outs.length c3) := blk_cell C0 2
  have x0 : w1.cell? ⟨w.heap.size + 1, 0, none⟩ = some (.slice none 0 0) := blk_cell C1 0
  have x1 : w1.cell? ⟨w.heap.size + 1, 1, none⟩ = some (.slice none 0 0) := blk_cell C1 1
  have x2 : w1.cell? ⟨w.heap.size + 1, 2, none⟩ = some (.slice none 0 0) := blk_cell C1 2
  have y0 := blk_frozen C1 0
  have y1 := blk_frozen C1 1
  have y2 := blk_frozen C1 2
  apply_assumption
  go_wp2_with fail
  refine (SimOk_c _ _ _ s F w1 (h.below hW1).st (h.below hW1).qu (h.below hW1).ou).mono ?_
  rintro e w2 ⟨rfl, hb2⟩
  rw [qs]
  have hW2 := bthen hW1 hb2 hW1.size
  have D0 := below_heap hb2 (blk_lt C0) C0
  have D1 := below_heap hb2 (blk_lt C1) C1
  clear C0 C1 hb2 hW1 d0 d1 d2 x0 x1 x2 y0 y1 y2
  have d0 : w2.cell? ⟨w.heap.size, 0, none⟩ = some (.slice A1 s.states.length c1) := blk_cell D0 0
  have d1 : w2.cell? ⟨w.heap.size, 1, none⟩ = some (.slice A2 s.queue.length c2) := blk_cell D0 1
  have d2 : w2.cell? ⟨w.heap.size, 2, none⟩ = some (.slice A3 s.outs.length c3) := blk_cell D0 2
  have x0 : w2.cell? ⟨w.heap.size + 1, 0, none⟩ = some (.slice none 0 0) := blk_cell D1 0
  have x1 : w2.cell? ⟨w.heap.size + 1, 1, none⟩ = some (.slice none 0 0) := blk_cell D1 1
  have x2 : w2.cell? ⟨w.heap.size + 1, 2, none⟩ = some (.slice none 0 0) := blk_cell D1 2
  have y0 := blk_frozen D1 0
  have y1 := blk_frozen D1 1
  have y2 := blk_frozen D1 2
  apply_assumption
  go_wp2_with fail
  refine (l2Copy_c _ _ _ s F w2 (h.below hW2) l1 l2 l3).mono ?_
  rintro e w3 ⟨us, uq, uo, rfl, n3, hb3⟩
  obtain ⟨X1, a1, rfl, z1⟩ := n3.st.shape
  obtain ⟨X2, a2, rfl, z2⟩ := n3.qu.shape
  obtain ⟨X3, a3, rfl, z3⟩ := n3.ou.shape
  have hW3 := bthen hW2 hb3 hW2.size
  have E0 := below_heap hb3 (blk_lt D0) D0
  have E1 := below_heap hb3 (blk_lt D1) D1
  have n4 := n3.mono (F' := fun k => w.heap.size ≤ k) (fun k hk => Nat.le_trans hW2.size hk)
  have hgO := hid hW3.size
  have hl0 := blk_lt E0
  have hl1 := blk_lt E1
  clear D0 D1 hb3 hW2 d0 d1 d2 x0 x1 x2 y0 y1 y2 n3
  have d0 : w3.cell? ⟨w.heap.size, 0, none⟩ = some (.slice A1 s.states.length c1) := blk_cell E0 0
  have d1 : w3.cell? ⟨w.heap.size, 1, none⟩ = some (.slice A2 s.queue.length c2) := blk_cell E0 1
  have d2 : w3.cell? ⟨w.heap.size, 2, none⟩ = some (.slice A3 s.outs.length c3) := blk_cell E0 2
  have x0 : w3.cell? ⟨w.heap.size + 1, 0, none⟩ = some (.slice none 0 0) := blk_cell E1 0
  have x1 : w3.cell? ⟨w.heap.size + 1, 1, none⟩ = some (.slice none 0 0) := blk_cell E1 1
  have x2 : w3.cell? ⟨w.heap.size + 1, 2, none⟩ = some (.slice none 0 0) := blk_cell E1 2
  have y0 := blk_frozen E1 0
  have y1 := blk_frozen E1 1
  have y2 := blk_frozen E1 2
  apply_assumption
  have q0 : decide ((s.queue.length : Int) = 0) = false := decide_eq_false (by omega)
  have q1 : ((s.queue.length : Int) == 0) = false := beq_eq_false_iff_ne.2 (by omega)
  have q2 : (0 : Int) < (s.queue.length : Int) := by omega
  obtain ⟨gS, aS, curS, hX1, hgS, hgSl, hgSb⟩ := n4.st.head (by omega)
  obtain ⟨rfl, rfl⟩ : X1 = some ⟨gS, 0, none⟩ ∧ a1 = aS := by injection hX1 with u1 u2 u3; exact ⟨u1, u3⟩
  clear hX1 hgSl hgSb curS
  obtain ⟨b2, o2, rfl, hb2, e0, e1, e2, e3, e4, e5, e6⟩ := ev_at (h.below hW3).qu 0 hpos
  rw [he0.out] at e0 e1 e2 e3 e4 e5 e6
  rw [hj'.out] at e1
  simp only [Nat.zero_mul, Nat.add_zero] at e0 e1 e2 e3 e4 e5 e6
  go_upto_region 7 with fail
  have hV := balloc (balloc (Below.refl w3.heap.size w3) (.cells #[.slice (some ⟨gS, 0, none⟩) s.states.length a1, .slice X2 s.queue.length a2, .slice X3 s.outs.length a3] 28)) (.cells #[.int .i64 e.time, .int .i64 ↑j, .int .i64 e.from_, .int .i64 e.count, .int .i64 e.n, .int .i64 e.kind, .int .i64 e.arg] 80)
  have V0 : ((w3.alloc (.cells #[.slice (some ⟨gS, 0, none⟩) s.states.length a1, .slice X2 s.queue.length a2, .slice X3 s.outs.length a3] 28)).alloc (.cells #[.int .i64 e.time, .int .i64 ↑j, .int .i64 e.from_, .int .i64 e.count, .int .i64 e.n, .int .i64 e.kind, .int .i64 e.arg] 80)).heap[w.heap.size]? = _ := below_heap hV hl0 E0
  have V1 : ((w3.alloc (.cells #[.slice (some ⟨gS, 0, none⟩) s.states.length a1, .slice X2 s.queue.length a2, .slice X3 s.outs.length a3] 28)).alloc (.cells #[.int .i64 e.time, .int .i64 ↑j, .int .i64 e.from_, .int .i64 e.count, .int .i64 e.n, .int .i64 e.kind, .int .i64 e.arg] 80)).heap[w.heap.size + 1]? = _ := below_heap hV hl1 E1
  have VO : ((w3.alloc (.cells #[.slice (some ⟨gS, 0, none⟩) s.states.length a1, .slice X2 s.queue.length a2, .slice X3 s.outs.length a3] 28)).alloc (.cells #[.int .i64 e.time, .int .i64 ↑j, .int .i64 e.from_, .int .i64 e.count, .int .i64 e.n, .int .i64 e.kind, .int .i64 e.arg] 80)).heap[w3.heap.size]? = some (.cells #[.slice (some ⟨gS, 0, none⟩) s.states.length a1, .slice X2 s.queue.length a2, .slice X3 s.outs.length a3] 28 (0, 0)) := (heap_old (by simp)).trans (heap_at rfl)
  have VE : ((w3.alloc (.cells #[.slice (some ⟨gS, 0, none⟩) s.states.length a1, .slice X2 s.queue.length a2, .slice X3 s.outs.length a3] 28)).alloc (.cells #[.int .i64 e.time, .int .i64 ↑j, .int .i64 e.from_, .int .i64 e.count, .int .i64 e.n, .int .i64 e.kind, .int .i64 e.arg] 80)).heap[w3.heap.size + 1]? = some (.cells #[.int .i64 e.time, .int .i64 ↑j, .int .i64 e.from_, .int .i64 e.count, .int .i64 e.n, .int .i64 e.kind, .int .i64 e.arg] 80 (0, 0)) := heap_at (by simp)
  have nV := n4.below hV
  have hbV := bthen hW3 hV hW3.size
  have hsV : ((w3.alloc (.cells #[.slice (some ⟨gS, 0, none⟩) s.states.length a1, .slice X2 s.queue.length a2, .slice X3 s.outs.length a3] 28)).alloc (.cells #[.int .i64 e.time, .int .i64 ↑j, .int .i64 e.from_, .int .i64 e.count, .int .i64 e.n, .int .i64 e.kind, .int .i64 e.arg] 80)).heap.size = w3.heap.size + 2 := by simp
  generalize hVe : ((w3.alloc (.cells #[.slice (some ⟨gS, 0, none⟩) s.states.length a1, .slice X2 s.queue.length a2, .slice X3 s.outs.length a3] 28)).alloc (.cells #[.int .i64 e.time, .int .i64 ↑j, .int .i64 e.from_, .int .i64 e.count, .int .i64 e.n, .int .i64 e.kind, .int .i64 e.arg] 80)) = V at *
  clear hVe hV n4 hW3 E0 E1 d0 d1 d2 x0 x1 x2 y0 y1 y2 e0 e1 e2 e3 e4 e5 e6
  have hsV' := hid hsV
  have hsV2 : w3.heap.size + 1 < V.heap.size := by omega
  clear hsV
  have hA7 := hA.below hbV
  have h7 := h.below hbV
  obtain ⟨bA, oA, A4, c4, rfl, hbA, fA, hrA⟩ := app_at hA7 j hl4n
  obtain ⟨bT, oT, rfl, hbT, t0, t1, t2⟩ := st_at h7.st j hs4n
  rw [ha0.out] at fA hrA
  rw [hs0.out] at t0 t1 t2
  have d0 : V.cell? ⟨w.heap.size, 0, none⟩ = some (.slice (some ⟨bT, oT, none⟩) s.states.length c1) := blk_cell V0 0
  have e0 : V.cell? ⟨w3.heap.size + 1, 0, none⟩ = some (.int .i64 e.time) := blk_cell VE 0
  have e1 : V.cell? ⟨w3.heap.size + 1, 1, none⟩ = some (.int .i64 ↑j) := blk_cell VE 1
  have e2 : V.cell? ⟨w3.heap.size + 1, 2, none⟩ = some (.int .i64 e.from_) := blk_cell VE 2
  have e3 : V.cell? ⟨w3.heap.size + 1, 3, none⟩ = some (.int .i64 e.count) := blk_cell VE 3
  have e4 : V.cell? ⟨w3.heap.size + 1, 4, none⟩ = some (.int .i64 e.n) := blk_cell VE 4
  have e5 : V.cell? ⟨w3.heap.size + 1, 5, none⟩ = some (.int .i64 e.kind) := blk_cell VE 5
  have e6 : V.cell? ⟨w3.heap.size + 1, 6, none⟩ = some (.int .i64 e.arg) := blk_cell VE 6
  have hl0V := blk_lt V0
  have hp1 : (0 : Int) ≤ (j : Int) := by omega
  have hwV := hbV.size
  refine region_z (fun w' => Below V.heap.size V w') (.take 0 (.take 1 (.take 2 (.take 3 (.take 4 (.take 5 (.take 6 (.take 7 (.take 8 (.take 9 (.take 10 (.take 11 (.par [(12, []), (13, []), (14, []), (17, []), (18, [17]), (15, []), (16, []), (19, []), (20, [])] [] (.nil)))))))))))))) (by kernel_rfl) (by kernel_rfl) (fun _ _ d _ _ h => by cases d <;> exact h) ?_
  have HS := (Below.refl V.heap.size V).drew
  iterate 12 (first | (refine z_take (v := ?_) (by rfl) HS (by rfl) ?_ ?_; rotate_left; (focus (intro wS hS; obtain ⟨kc, kf⟩ := bcell hS; go_simp; (try (with_reducible rfl)); done)); (intro K hK; go_simp; refine hK _ ?_; clear hK K)) | (refine z_skip (by rfl) HS (by rfl) ?_; (intro K hK; go_simp; refine hK _ ?_; clear hK K)))
  refine z_name fun a0 ha0 => ?_
  have s36 := hid (show a0.tmps[36]? = some (.agg #[.slice A4 a.rules.length c4]) by rw [ha0]; rfl)
  have s42 := hid (show a0.tmps[42]? = some (.agg #[.int .i64 st.x, .int .i64 st.y, .int .i64 st.c]) by rw [ha0]; rfl)
  have s43 := hid (show a0.tmps[43]? = some (.agg #[.int .i64 e.time, .int .i64 ↑j, .int .i64 e.from_, .int .i64 e.count, .int .i64 e.n, .int .i64 e.kind, .int .i64 e.arg]) by rw [ha0]; rfl)
  have hsz := hid (show ∀ k, k < 77 → k < a0.tmps.size from fun k hk => by rw [ha0]; exact hk)
  have H0 := hid ha0
  clear ha0
  refine z_parG [(12, some 44), (13, some 31), (14, some 45), (17, some 8), (18, none), (15, some 46), (16, some 47), (19, some 9), (20, some 10)] (by rfl) (fun _ => False) (NL (runN 49 xs sends outs)) (PPL (runP (stAgg3 xs))) (fun _ _ => False) (PPL_upd _ (by kernel_rfl)) (NL_upd _ (by kernel_rfl)) (NL_move _ (runN_moves 49 xs sends outs)) (fun w' hc => bthen' HS hc.below0) (by simp) (by simp) (by simp) (parS_cons ?_ (parS_cons ?_ (parS_cons ?_ (parS_cons ?_ (parS_cons ?_ (parS_cons ?_ (parS_cons ?_ (parS_cons ?_ (parS_cons ?_ parS_nil))))))))) ?_
  · refine stepG_mk (by rfl) (by rfl) ?_
    intro u wq F1 hC hp hN hF hD K hK
    clear hp hN hF hD
    have q36 : (putL [(12, some 44), (13, some 31), (14, some 45), (17, some 8), (18, none), (15, some 46), (16, some 47), (19, some 9), (20, some 10)] a0 u).tmps[36]? = _ := (putL_out _ _ _ (by rfl)).trans s36.out
    have q42 : (putL [(12, some 44), (13, some 31), (14, some 45), (17, some 8), (18, none), (15, some 46), (16, some 47), (19, some 9), (20, some 10)] a0 u).tmps[42]? = _ := (putL_out _ _ _ (by rfl)).trans s42.out
    have q43 : (putL [(12, some 44), (13, some 31), (14, some 45), (17, some 8), (18, none), (15, some 46), (16, some 47), (19, some 9), (20, some 10)] a0 u).tmps[43]? = _ := (putL_out _ _ _ (by rfl)).trans s43.out
    generalize putL [(12, some 44), (13, some 31), (14, some 45), (17, some 8), (18, none), (15, some 46), (16, some 47), (19, some 9), (20, some 10)] a0 u = a1 at *
    go_simp
    have hc := run_call _ a st e F wq (hrA.below (bthen' HS hC.below0)) hrun'.out
    rw [hj'.out] at hc
    refine hc.mono ?_
    rintro q w5 ⟨sv, ov, rfl, h5, h6, h8⟩
    have hn1 : NL (runN 49 xs sends outs) 12 (updV u 12 (.tuple #[stAgg3 xs, sv, ov])) w5 (fun k => wq.heap.size ≤ k ∧ k < w5.heap.size) := ⟨sv, ov, rfl, h5.bound, h6.bound⟩
    have hn2 : PPL (runP (stAgg3 xs)) 12 (updV u 12 (.tuple #[stAgg3 xs, sv, ov])) := ⟨sv, ov, rfl⟩
    exact hK _ (.tuple #[stAgg3 xs, sv, ov]) _ (fun k => wq.heap.size ≤ k ∧ k < w5.heap.size) rfl (Ch.of_below h8) hn1 (fun k hk => ⟨.inr hk.1, hk.2⟩) hn2
  · refine stepG_pure (by rfl) (by rfl) (fun _ _ => trivial) ?_
    intro u wq hC hp
    have p12 : tup3 (stAgg3 xs) (u 12) := hp 12 (by simp) (by kernel_rfl)
    have q : (putL [(12, some 44), (13, some 31), (14, some 45), (17, some 8), (18, none), (15, some 46), (16, some 47), (19, some 9), (20, some 10)] a0 u).eval (.tmp 44) = u 12 := eval_of (putL_in (k := 44) (i := 12) [(12, some 44), (13, some 31), (14, some 45), (17, some 8), (18, none), (15, some 46), (16, some 47), (19, some 9), (20, some 10)] a0 u (by rfl) (hsz.out 44 (by decide)))
    generalize putL [(12, some 44), (13, some 31), (14, some 45), (17, some 8), (18, none), (15, some 46), (16, some 47), (19, some 9), (20, some 10)] a0 u = a1 at *
    refine Exists.intro (u 12) (And.intro ?_ ?_)
    · intro K hK
      exact wp_move' (.inl (by rfl)) q hK
    · exact ⟨rfl, p12⟩
  · refine stepG_pure (by rfl) (by rfl) (fun _ _ => trivial) ?_
    intro u wq hC hp
    have p13 : [u 12] = [u 13] ∧ tup3 (stAgg3 xs) (u 13) := hp 13 (by simp) (by kernel_rfl)
    obtain ⟨-, b9, c9, e13⟩ := p13
    have q : (putL [(12, some 44), (13, some 31), (14, some 45), (17, some 8), (18, none), (15, some 46), (16, some 47), (19, some 9), (20, some 10)] a0 u).eval (.tmp 31) = u 13 := eval_of (putL_in (k := 31) (i := 13) [(12, some 44), (13, some 31), (14, some 45), (17, some 8), (18, none), (15, some 46), (16, some 47), (19, some 9), (20, some 10)] a0 u (by rfl) (hsz.out 31 (by decide)))
    rw [e13] at q
    generalize putL [(12, some 44), (13, some 31), (14, some 45), (17, some 8), (18, none), (15, some 46), (16, some 47), (19, some 9), (20, some 10)] a0 u = a1 at *
    refine Exists.intro (stAgg3 xs) (And.intro ?_ ?_)
    · intro K hK
      refine wp_extract (x := .tmp 31) (n := 0) (vs := #[(stAgg3 xs), b9, c9]) (v := (stAgg3 xs)) ?_ ?_ ?_ ?_
      · rfl
      · exact q
      · rfl
      · exact hK
    · exact rfl
  · refine stepG_mk (by rfl) (by rfl) ?_
    intro u wq F1 hC hp hN hF hD K hK
    clear hp hN hF hD
    generalize putL [(12, some 44), (13, some 31), (14, some 45), (17, some 8), (18, none), (15, some 46), (16, some 47), (19, some 9), (20, some 10)] a0 u = a1 at *
    go_simp
    exact hK _ (.pointer (some ⟨wq.heap.size, 0, none⟩)) _ (fun k => k = wq.heap.size) rfl ((Ch.refl _ _).alloc _) ⟨_, rfl, rfl, heap_at rfl⟩ (fun k hk => by subst hk; exact ⟨.inr (Nat.le_refl _), by simp⟩) trivial
  · refine stepG_mk (by rfl) (by rfl) ?_
    intro u wq F1 hC hp hN hF hD K hK
    have q1 : (putL [(12, some 44), (13, some 31), (14, some 45), (17, some 8), (18, none), (15, some 46), (16, some 47), (19, some 9), (20, some 10)] a0 u).eval (.tmp 8) = u 17 := eval_of (putL_in (k := 8) (i := 17) [(12, some 44), (13, some 31), (14, some 45), (17, some 8), (18, none), (15, some 46), (16, some 47), (19, some 9), (20, some 10)] a0 u (by rfl) (hsz.out 8 (by decide)))
    have q2 : (putL [(12, some 44), (13, some 31), (14, some 45), (17, some 8), (18, none), (15, some 46), (16, some 47), (19, some 9), (20, some 10)] a0 u).eval (.tmp 45) = u 14 := eval_of (putL_in (k := 45) (i := 14) [(12, some 44), (13, some 31), (14, some 45), (17, some 8), (18, none), (15, some 46), (16, some 47), (19, some 9), (20, some 10)] a0 u (by rfl) (hsz.out 45 (by decide)))
    generalize putL [(12, some 44), (13, some 31), (14, some 45), (17, some 8), (18, none), (15, some 46), (16, some 47), (19, some 9), (20, some 10)] a0 u = a1 at *
    obtain ⟨g, e17, f17, B17⟩ : ∃ g, u 17 = .pointer (some ⟨g, 0, none⟩) ∧ F1 17 g ∧ wq.heap[g]? = some (.cells #[.int .i64 0, .int .i64 0, .int .i64 0] 49 (0, 0)) := hN 17 (by simp)
    have p14 : u 14 = (stAgg3 xs) := hp 14 (by simp) (by kernel_rfl)
    have hgl := (hF 17 (by simp) g f17).2
    rw [e17] at q1
    rw [p14] at q2
    refine wp_store_mid 49 (.tmp 8) (.tmp 45) (by rfl) g 0 #[.int .i64 xs.x, .int .i64 xs.y, .int .i64 xs.c] q1 q2 (there_of_block B17 (by simp)) (by kernel_rfl) (by simp [Value.oneCell']) ?_
    have hn1 : NL (runN 49 xs sends outs) 18 (updV u 18 undef) (wq.setCells g 0 [.int .i64 xs.x, .int .i64 xs.y, .int .i64 xs.c]) (fun k => k = g) := ⟨g, (show [u 17] = _ by rw [e17]), rfl, blk_ovw _ 0 wq [.int .i64 0, .int .i64 0, .int .i64 0] B17⟩
    exact hK _ undef _ (fun k => k = g) rfl (Ch.setCells _ _ _ (Ch.refl _ _) (.inl ⟨17, by simp, f17⟩)) hn1 (fun k hk => by subst hk; exact ⟨.inl ⟨17, by simp, f17⟩, by rw [size_setCells]; exact hgl⟩) trivial
  · refine stepG_pure (by rfl) (by rfl) (fun _ _ => trivial) ?_
    intro u wq hC hp
    have p13 : [u 12] = [u 13] ∧ tup3 (stAgg3 xs) (u 13) := hp 13 (by simp) (by kernel_rfl)
    obtain ⟨-, b9, c9, e13⟩ := p13
    have q : (putL [(12, some 44), (13, some 31), (14, some 45), (17, some 8), (18, none), (15, some 46), (16, some 47), (19, some 9), (20, some 10)] a0 u).eval (.tmp 31) = u 13 := eval_of (putL_in (k := 31) (i := 13) [(12, some 44), (13, some 31), (14, some 45), (17, some 8), (18, none), (15, some 46), (16, some 47), (19, some 9), (20, some 10)] a0 u (by rfl) (hsz.out 31 (by decide)))
    rw [e13] at q
    generalize putL [(12, some 44), (13, some 31), (14, some 45), (17, some 8), (18, none), (15, some 46), (16, some 47), (19, some 9), (20, some 10)] a0 u = a1 at *
    refine Exists.intro b9 (And.intro ?_ ?_)
    · intro K hK
      refine wp_extract (x := .tmp 31) (n := 1) (vs := #[(stAgg3 xs), b9, c9]) (v := b9) ?_ ?_ ?_ ?_
      · rfl
      · exact q
      · rfl
      · exact hK
    · exact fun a b c he => by have h9 : [u 13] = [Value.tuple #[a, b, c]] := he; rw [e13] at h9; simp at h9; exact h9.2.1
  · refine stepG_pure (by rfl) (by rfl) (fun _ _ => trivial) ?_
    intro u wq hC hp
    have p13 : [u 12] = [u 13] ∧ tup3 (stAgg3 xs) (u 13) := hp 13 (by simp) (by kernel_rfl)
    obtain ⟨-, b9, c9, e13⟩ := p13
    have q : (putL [(12, some 44), (13, some 31), (14, some 45), (17, some 8), (18, none), (15, some 46), (16, some 47), (19, some 9), (20, some 10)] a0 u).eval (.tmp 31) = u 13 := eval_of (putL_in (k := 31) (i := 13) [(12, some 44), (13, some 31), (14, some 45), (17, some 8), (18, none), (15, some 46), (16, some 47), (19, some 9), (20, some 10)] a0 u (by rfl) (hsz.out 31 (by decide)))
    rw [e13] at q
    generalize putL [(12, some 44), (13, some 31), (14, some 45), (17, some 8), (18, none), (15, some 46), (16, some 47), (19, some 9), (20, some 10)] a0 u = a1 at *
    refine Exists.intro c9 (And.intro ?_ ?_)
    · intro K hK
      refine wp_extract (x := .tmp 31) (n := 2) (vs := #[(stAgg3 xs), b9, c9]) (v := c9) ?_ ?_ ?_ ?_
      · rfl
      · exact q
      · rfl
      · exact hK
    · exact fun a b c he => by have h9 : [u 13] = [Value.tuple #[a, b, c]] := he; rw [e13] at h9; simp at h9; exact h9.2.2
  · refine stepG_pure (by rfl) (by rfl) (fun _ _ => trivial) ?_
    intro u wq hC hp
    have q : (putL [(12, some 44), (13, some 31), (14, some 45), (17, some 8), (18, none), (15, some 46), (16, some 47), (19, some 9), (20, some 10)] a0 u).eval (.tmp 46) = u 15 := eval_of (putL_in (k := 46) (i := 15) [(12, some 44), (13, some 31), (14, some 45), (17, some 8), (18, none), (15, some 46), (16, some 47), (19, some 9), (20, some 10)] a0 u (by rfl) (hsz.out 46 (by decide)))
    generalize putL [(12, some 44), (13, some 31), (14, some 45), (17, some 8), (18, none), (15, some 46), (16, some 47), (19, some 9), (20, some 10)] a0 u = a1 at *
    refine Exists.intro (u 15) (And.intro ?_ ?_)
    · intro K hK
      exact wp_move' (.inr (by rfl)) q hK
    · exact rfl
  · refine stepG_pure (by rfl) (by rfl) (fun _ _ => trivial) ?_
    intro u wq hC hp
    have q : (putL [(12, some 44), (13, some 31), (14, some 45), (17, some 8), (18, none), (15, some 46), (16, some 47), (19, some 9), (20, some 10)] a0 u).eval (.tmp 47) = u 16 := eval_of (putL_in (k := 47) (i := 16) [(12, some 44), (13, some 31), (14, some 45), (17, some 8), (18, none), (15, some 46), (16, some 47), (19, some 9), (20, some 10)] a0 u (by rfl) (hsz.out 47 (by decide)))
    generalize putL [(12, some 44), (13, some 31), (14, some 45), (17, some 8), (18, none), (15, some 46), (16, some 47), (19, some 9), (20, some 10)] a0 u = a1 at *
    refine Exists.intro (u 16) (And.intro ?_ ?_)
    · intro K hK
      exact wp_move' (.inr (by rfl)) q hK
    · exact rfl
  intro K hK u w7 F1 hC hD hF hN hpp
  obtain ⟨sv, ov, g12, n12, m12⟩ : ∃ sv ov, u 12 = .tuple #[(stAgg3 xs), sv, ov] ∧ Ow tEv 80 w7 (F1 12) sv sends ∧ Ow tOut 128 w7 (F1 12) ov outs := hN 12 (by rfl)
  obtain ⟨gX, g17, f17, BX3⟩ : ∃ g, [u 17] = [.pointer (some ⟨g, 0, none⟩)] ∧ F1 18 g ∧ w7.heap[g]? = some (.cells #[.int .i64 xs.x, .int .i64 xs.y, .int .i64 xs.c] 49 (0, 0)) := hN 18 (by rfl)
  have g17 : u 17 = .pointer (some ⟨gX, 0, none⟩) := by simpa using g17
  have p13 : [u 12] = [u 13] ∧ tup3 (stAgg3 xs) (u 13) := hpp 13 (by simp)
  have e13 : u 13 = u 12 := by have := p13.1; simp at this; exact this.symm
  have e14 : u 14 = (stAgg3 xs) := hpp 14 (by simp)
  have p15 : ∀ a b c, [u 13] = [.tuple #[a, b, c]] → u 15 = b := hpp 15 (by simp)
  have p16 : ∀ a b c, [u 13] = [.tuple #[a, b, c]] → u 16 = c := hpp 16 (by simp)
  have e19 : u 19 = u 15 := by have q : [u 15] = [u 19] := hpp 19 (by simp); simp at q; exact q.symm
  have e20 : u 20 = u 16 := by have q : [u 16] = [u 20] := hpp 20 (by simp); simp at q; exact q.symm
  rw [g12] at e13
  have e15 := p15 _ _ _ (by rw [e13])
  have e16 := p16 _ _ _ (by rw [e13])
  rw [e15] at e19
  rw [e16] at e20
  clear hpp p13 p15 p16
  have hgX : V.heap.size ≤ gX := by have := (hF 18 gX (by rfl) f17).1; rcases this with q | q; exact q.elim; simpa using q
  have n7 := n12.mono (F' := fun k => V.heap.size ≤ k) (fun k hk => by have := (hF 12 k (by rfl) hk).1; rcases this with q | q; exact q.elim; simpa using q)
  have m7 := m12.mono (F' := fun k => V.heap.size ≤ k) (fun k hk => by have := (hF 12 k (by rfl) hk).1; rcases this with q | q; exact q.elim; simpa using q)
  have HS1 := bthen' HS hC.below0
  clear HS hN hF hD hC n12 m12 f17
  have HS := HS1
  clear HS1
  rw [H0.out]
  clear s36 s42 s43 hsz H0 a0
  simp only [putL_cons, putL_nil]
  simp only [stAgg3] at g12 e13 e14
  generalize u 12 = v12 at *
  generalize u 13 = v13 at *
  generalize u 14 = v14 at *
  generalize u 15 = v15 at *
  generalize u 16 = v16 at *
  generalize u 17 = v17 at *
  generalize u 19 = v19 at *
  generalize u 20 = v20 at *
  subst g12 g17 e13 e14 e15 e16 e19 e20
  go_simp
  refine hK _ _ ?_
  clear hK K F1
  simp only [wpZ]
  have nW := nV.below HS
  have W0 := below_heap HS (blk_lt V0) V0
  have W1 := below_heap HS (blk_lt V1) V1
  have WO := below_heap HS (blk_lt VO) VO
  have WE := below_heap HS (blk_lt VE) VE
  have hbW := bthen hbV HS hwV
  have k0 : w7.cell? ⟨w3.heap.size, 0, none⟩ = some (.slice (some ⟨gS, 0, none⟩) s.states.length a1) := blk_cell WO 0
  have k1 : w7.cell? ⟨w3.heap.size + 1, 1, none⟩ = some (.int .i64 ↑j) := blk_cell WE 1
  have k2 : w7.cell? ⟨gX, 0, none⟩ = some (.int .i64 xs.x) := blk_cell BX3 0
  have k3 : w7.cell? ⟨gX, 1, none⟩ = some (.int .i64 xs.y) := blk_cell BX3 1
  have k4 : w7.cell? ⟨gX, 2, none⟩ = some (.int .i64 xs.c) := blk_cell BX3 2
  clear HS V0 V1 VO VE nV d0 e0 e1 e2 e3 e4 e5 e6 t0 t1 t2 fA hrA hA7 h7 hbA hbT
  go_upto_region 9 with (refine ow_store (cells := StD.cells) (sz := 3) rfl _ _ _ rfl nW.st (g := gS) rfl j hs4n xs (by first | rfl | simp) (by first | rfl | simp [StD.cells]) (by kernel_rfl) ?_; intro w8 hO8 hC8)
  have W0' := nW.st.blkApart (g := gS) rfl (by decide) W0 hC8
  have W1' := nW.st.blkApart (g := gS) rfl (by decide) W1 hC8
  have WO' := nW.st.blkApart (g := gS) rfl (by decide) WO hC8
  have hq8 := nW.st.chApart (g := gS) rfl nW.qu (by decide) hC8
  have ho8 := nW.st.chApart (g := gS) rfl nW.ou (by decide) hC8
  have n8 := nW.st.chApart (g := gS) rfl n7 (by decide) hC8
  have m8 := nW.st.chApart (g := gS) rfl m7 (by decide) hC8
  have hb8 : Below w.heap.size w w8 := hbW.trans (hC8.below (fun k hk => by rw [hk]; exact hgS) hbW.size)
  clear k0 k1 k2 k3 k4 W0 W1 WO WE BX3 n7 m7 nW hbW hC8
  have d1 : w8.cell? ⟨w.heap.size, 1, none⟩ = some (.slice (some ⟨b2, o2, none⟩) s.queue.length c2) := blk_cell W0' 1
  have hl80 := blk_lt W0'
  have hl81 := blk_lt W1'
  have hl8O := blk_lt WO'
  have hSim := hid h
  have hrq := (h.below hb8).qu
  have hcap := hid hrq.capLe
  have hi1 : (1 : Int) ≤ (s.queue.length : Int) := by omega
  have hi2 : (1 : Int) ≤ (c2 : Int) := by have := hcap.out; omega
  have hi3 : 1 ≤ s.queue.length := by omega
  have hi4 : 1 ≤ c2 := by have := hcap.out; omega
  by_cases hc2 : c2 = 1
  all_goals (first | (subst hc2; have HR0 := hrq.dropO 1 (by omega); rw [if_pos rfl] at HR0) | (have HR0 := hrq.dropO 1 (by omega); rw [if_neg hc2] at HR0))
  all_goals
    have HR := hid HR0
    clear HR0 hrq
    go_upto_region 10 with (first
      | (at_builtin; refine ow_concat (o := ⟨some 58, _, _, _, _, _⟩) rfl 25 rfl Tryz.underlying25 _ 56 info_ev rfl (by decide) (by decide) rfl (Ow.empty tEv (F := fun k => w8.heap.size ≤ k) (heap_at rfl) (Nat.le_refl _)) rfl (HR.out.below (balloc (Below.refl _ _) _)) (by first | omega | (simp; done) | (simp; omega)) (fun k => w8.heap.size ≤ k) (fun _ hk => hk) (fun k hk => by first | omega | (simp at hk; omega)) ?_; intro v9 w9 hO9 hG9 hat9; have hb9 : Below w8.heap.size w8 w9 := (balloc (Below.refl _ _) _).trans (grown_below (Below.refl _ _) hG9 (fun k hk => Nat.le_of_eq (Option.some.inj hk)) (by first | omega | simp)); clear hG9 hat9; obtain ⟨l9, hl9⟩ : ∃ l, l = [] ++ s.queue.drop 1 := ⟨_, rfl⟩; rw [← hl9] at hO9; have hll9 : l9.length ≤ 100 := (by rw [hl9]; first | (simp; done) | (simp; omega)); have HL9 := hid hl9; clear hl9; obtain ⟨Y9, y9, rfl, hy9⟩ := hO9.shape; have n9 := n8.below hb9; have hz9 := hb9.size)
      | (at_builtin; refine ow_concat (o := ⟨some 60, _, _, _, _, _⟩) rfl 25 rfl Tryz.underlying25 _ 56 info_ev rfl (by decide) (by decide) rfl hO9 rfl n9.rd (by omega) (fun k => w8.heap.size ≤ k) (fun _ hk => hk) (fun k hk => by omega) ?_; intro v10 w10 hO10 hG10 hat10; have hb10 : Below w8.heap.size w8 w10 := hb9.trans (grown_below (Below.refl _ _) hG10 (fun k hk => hO9.inF hk) hz9); clear hG10 hat10; obtain ⟨l10, hl10⟩ : ∃ l, l = l9 ++ sends := ⟨_, rfl⟩; rw [← hl10] at hO10; have hll10 : l10.length ≤ 102 := (by rw [hl10]; first | (simp; done) | (simp; omega)); have HL10 := hid hl10; clear hl10; obtain ⟨Y10, y10, rfl, hy10⟩ := hO10.shape; have hz10 := hb10.size)
      | (go_at_call 54; refine (EventSort_c _ l10 _ _ hO10.rd (by omega)).mono ?_; rintro e w11 ⟨u11, rfl, h11, hb11⟩; obtain ⟨l11, hl11⟩ : ∃ l, l = evSort l10 := ⟨_, rfl⟩; rw [← hl11] at h11; have HL11 := hid hl11; clear hl11; obtain ⟨Y11, y11, rfl, hy11⟩ := h11.shape; have hb11' := bthen hb10 hb11 hz10; have WO11 := below_heap hb11' hl8O WO'; have cO1 : w11.cell? ⟨w3.heap.size, 1, none⟩ = some (.slice X2 s.queue.length a2) := blk_cell WO11 1; have fO1 := blk_frozen WO11 1))
    have x11 := (Nat.le_trans hz10 hb11.size)
    have WO12 := blk_set WO11 1 (.slice Y11 l11.length y11)
    simp only [List.setIfInBounds_toArray, List.set_cons_zero, List.set_cons_succ] at WO12
    have hs12 := (hO8.below hb11').setCell (i := 1) WO11 (by decide) (.slice Y11 l11.length y11)
    have hq12 := (h11.mono (F' := fun k => w.heap.size ≤ k) (fun k hk => by have := hb8.size; omega)).setCell (i := 1) WO11 (by decide) (.slice Y11 l11.length y11)
    have m12 := (m8.below hb11').setCell (i := 1) WO11 (by decide) (.slice Y11 l11.length y11)
    have hgO' := hgO.out
    have hb12 := (bthen hb8 hb11' hb8.size).setCell (p := ⟨w3.heap.size, 1, none⟩) hgO' (.slice Y11 l11.length y11)
    have W012 := (Below.heap_setCell w11 (⟨w3.heap.size, 1, none⟩ : Addr) (.slice Y11 l11.length y11) w.heap.size (by show ¬ (w.heap.size = w3.heap.size); omega)).trans (below_heap hb11' hl80 W0')
    have W112 := (Below.heap_setCell w11 (⟨w3.heap.size, 1, none⟩ : Addr) (.slice Y11 l11.length y11) (w.heap.size + 1) (by show ¬ (w.heap.size + 1 = w3.heap.size); omega)).trans (below_heap hb11' hl81 W1')
    have HQ := hid (show l11 = evSort (s.queue.tail ++ sends) by rw [HL11.out, HL10.out, HL9.out]; simp)
    clear HL11 HL10 HL9 h11 hb11 hb11' hb10 hb9 hO10 hO9 n9 n8 hq8 ho8 m8 hO8 W0' W1' WO' WO11 cO1 fO1 hb8 HR d1 hl80 hl81 hl8O hz9 hz10 hll9 hll10 hy9 hy10 x11
    generalize w11.setCell ⟨w3.heap.size, 1, none⟩ (.slice Y11 l11.length y11) = w12 at *
    have d2 : w12.cell? ⟨w.heap.size, 2, none⟩ = some (.slice A3 s.outs.length c3) := blk_cell W012 2
    have hlA := blk_lt W012
    have hlB := blk_lt W112
    have hlC := blk_lt WO12
    have HU := hid (hSim.out.below hb12).ou
    go_upto_region 11 with (first
      | (at_builtin; refine ow_concat (o := ⟨some 66, _, _, _, _, _⟩) rfl 26 rfl Tryz.underlying26 _ 40 info_out rfl (by decide) (by decide) rfl (Ow.empty tOut (F := fun k => w12.heap.size ≤ k) (heap_at rfl) (Nat.le_refl _)) rfl (HU.out.below (balloc (Below.refl _ _) _)) (by first | omega | (simp; done) | (simp; omega)) (fun k => w12.heap.size ≤ k) (fun _ hk => hk) (fun k hk => by first | omega | (simp at hk; omega)) ?_; intro ov9 ow9 ohO9 ohG9 ohat9; have ohb9 : Below w12.heap.size w12 ow9 := (balloc (Below.refl _ _) _).trans (grown_below (Below.refl _ _) ohG9 (fun k hk => Nat.le_of_eq (Option.some.inj hk)) (by first | omega | simp)); clear ohG9 ohat9; obtain ⟨ol9, ohl9⟩ : ∃ l, l = [] ++ s.outs := ⟨_, rfl⟩; rw [← ohl9] at ohO9; have ohll9 : ol9.length ≤ 100 := (by rw [ohl9]; first | (simp; done) | (simp; omega)); have oHL9 := hid ohl9; clear ohl9; obtain ⟨oY9, oy9, rfl, ohy9⟩ := ohO9.shape; have on9 := m12.below ohb9; have ohz9 := ohb9.size)
      | (at_builtin; refine ow_concat (o := ⟨some 68, _, _, _, _, _⟩) rfl 26 rfl Tryz.underlying26 _ 40 info_out rfl (by decide) (by decide) rfl ohO9 rfl on9.rd (by omega) (fun k => w12.heap.size ≤ k) (fun _ hk => hk) (fun k hk => by omega) ?_; intro ov10 ow10 ohO10 ohG10 ohat10; have ohb10 : Below w12.heap.size w12 ow10 := ohb9.trans (grown_below (Below.refl _ _) ohG10 (fun k hk => ohO9.inF hk) ohz9); clear ohG10 ohat10; obtain ⟨ol10, ohl10⟩ : ∃ l, l = ol9 ++ outs := ⟨_, rfl⟩; rw [← ohl10] at ohO10; have ohll10 : ol10.length ≤ 102 := (by rw [ohl10]; first | (simp; done) | (simp; omega)); have oHL10 := hid ohl10; clear ohl10; obtain ⟨oY10, oy10, rfl, ohy10⟩ := ohO10.shape; have ohz10 := ohb10.size)
      | (go_at_call 55; refine (OutSort_c _ ol10 _ _ ohO10.rd (by omega)).mono ?_; rintro e ow11 ⟨ou11, rfl, oh11, ohb11⟩; obtain ⟨ol11, ohl11⟩ : ∃ l, l = outSort ol10 := ⟨_, rfl⟩; rw [← ohl11] at oh11; have oHL11 := hid ohl11; clear ohl11; obtain ⟨oY11, oy11, rfl, ohy11⟩ := oh11.shape; have ohb11' := bthen ohb10 ohb11 ohz10; have oWO11 := below_heap ohb11' hlC WO12; have ocO1 : ow11.cell? ⟨w3.heap.size, 2, none⟩ = some (.slice X3 s.outs.length a3) := blk_cell oWO11 2; have ofO1 := blk_frozen oWO11 2))
    have x11 := (Nat.le_trans ohz10 ohb11.size)
    have WO16 := blk_set oWO11 2 (.slice oY11 ol11.length oy11)
    simp only [List.setIfInBounds_toArray, List.set_cons_zero, List.set_cons_succ] at WO16
    have HO := hid (show ol11 = outSort (s.outs ++ outs) by rw [oHL11.out, oHL10.out, oHL9.out]; simp)
    have hs16 := (hs12.below ohb11').setCell (i := 2) oWO11 (by decide) (.slice oY11 ol11.length oy11)
    have hq16 := (hq12.below ohb11').setCell (i := 2) oWO11 (by decide) (.slice oY11 ol11.length oy11)
    have ho16 := (oh11.mono (F' := fun k => w.heap.size ≤ k) (fun k hk => by have := hb12.size; omega)).setCell (i := 2) oWO11 (by decide) (.slice oY11 ol11.length oy11)
    have hb16 := (bthen hb12 ohb11' hb12.size).setCell (p := ⟨w3.heap.size, 2, none⟩) hgO' (.slice oY11 ol11.length oy11)
    have W016 := (Below.heap_setCell ow11 (⟨w3.heap.size, 2, none⟩ : Addr) (.slice oY11 ol11.length oy11) w.heap.size (by show ¬ (w.heap.size = w3.heap.size); omega)).trans (below_heap ohb11' hlA W012)
    have W116 := (Below.heap_setCell ow11 (⟨w3.heap.size, 2, none⟩ : Addr) (.slice oY11 ol11.length oy11) (w.heap.size + 1) (by show ¬ (w.heap.size + 1 = w3.heap.size); omega)).trans (below_heap ohb11' hlB W112)
    clear oHL11 oHL10 oHL9 oh11 ohb11 ohb11' ohb10 ohb9 ohO10 ohO9 on9 m12 hs12 hq12 W012 W112 WO12 oWO11 ocO1 ofO1 hb12 HU d2 hlA hlB hlC ohz9 ohz10 ohll9 ohll10 ohy9 ohy10 x11
    generalize ow11.setCell ⟨w3.heap.size, 2, none⟩ (.slice oY11 ol11.length oy11) = w16 at *
    have nN : SimOw w16 (fun k => w.heap.size ≤ k) (.slice (some ⟨gS, 0, none⟩) s.states.length a1) (.slice Y11 l11.length y11) (.slice oY11 ol11.length oy11) (simNext apps s) := by
      rw [HN.out]
      exact ⟨hs16.mono (fun k hk => hk), HQ.out ▸ hq16, HO.out ▸ ho16⟩
    clear hs16 hq16 ho16 HQ HO
    have g0 : w16.cell? ⟨w3.heap.size, 0, none⟩ = some (.slice (some ⟨gS, 0, none⟩) s.states.length a1) := blk_cell WO16 0
    have g1 : w16.cell? ⟨w3.heap.size, 1, none⟩ = some (.slice Y11 l11.length y11) := blk_cell WO16 1
    have g2 : w16.cell? ⟨w3.heap.size, 2, none⟩ = some (.slice oY11 ol11.length oy11) := blk_cell WO16 2
    go_wp2_with fail
    refine (SimOk_c _ _ _ (simNext apps s) _ w16 nN.rd.st nN.rd.qu nN.rd.ou).mono ?_
    rintro e w17 ⟨rfl, hb17⟩
    have W017 := below_heap hb17 (blk_lt W016) W016
    have W117 := below_heap hb17 (blk_lt W116) W116
    have WO17 := below_heap hb17 (blk_lt WO16) WO16
    have nN17 := nN.below hb17
    have hb17' := bthen hb16 hb17 hb16.size
    clear g0 g1 g2 W016 W116 WO16 nN hb17 hb16
    have g0 : w17.cell? ⟨w3.heap.size, 0, none⟩ = some (.slice (some ⟨gS, 0, none⟩) s.states.length a1) := blk_cell WO17 0
    have g1 : w17.cell? ⟨w3.heap.size, 1, none⟩ = some (.slice Y11 l11.length y11) := blk_cell WO17 1
    have g2 : w17.cell? ⟨w3.heap.size, 2, none⟩ = some (.slice oY11 ol11.length oy11) := blk_cell WO17 2
    have d0 : w17.cell? ⟨w.heap.size, 0, none⟩ = some (.slice (some ⟨bT, oT, none⟩) s.states.length c1) := blk_cell W017 0
    have d1 : w17.cell? ⟨w.heap.size, 1, none⟩ = some (.slice (some ⟨b2, o2, none⟩) s.queue.length _) := blk_cell W017 1
    have d2 : w17.cell? ⟨w.heap.size, 2, none⟩ = some (.slice A3 s.outs.length c3) := blk_cell W017 2
    have r0 : w17.cell? ⟨w.heap.size + 1, 0, none⟩ = some (.slice none 0 0) := blk_cell W117 0
    have r1 : w17.cell? ⟨w.heap.size + 1, 1, none⟩ = some (.slice none 0 0) := blk_cell W117 1
    have r2 : w17.cell? ⟨w.heap.size + 1, 2, none⟩ = some (.slice none 0 0) := blk_cell W117 2
    have y0 := blk_frozen W117 0
    have y1 := blk_frozen W117 1
    have y2 := blk_frozen W117 2
    apply_assumption
    cases qk : simOk (simNext apps s)
    case true =>
      have HF2 := hid (show simStep apps s = (simNext apps s, true) by rw [HF.out, if_pos qk])
      clear qk
      go_wp2_with fail
      obtain ⟨BW, nX, hbX⟩ := sim_store (w := w) (g := w.heap.size + 1) W117 nN17 (by omega) hb17' (.slice (some ⟨gS, 0, none⟩) s.states.length a1) (.slice Y11 l11.length y11) (.slice oY11 ol11.length oy11) rfl rfl rfl
      generalize ((w17.setCell ⟨w.heap.size + 1, 0, none⟩ (.slice (some ⟨gS, 0, none⟩) s.states.length a1)).setCell ⟨w.heap.size + 1, 1, none⟩ (.slice Y11 l11.length y11)).setCell ⟨w.heap.size + 1, 2, none⟩ (.slice oY11 ol11.length oy11) = W9 at *
      have s0 : W9.cell? ⟨w.heap.size + 1, 0, none⟩ = some (.slice (some ⟨gS, 0, none⟩) s.states.length a1) := blk_cell BW 0
      have s1 : W9.cell? ⟨w.heap.size + 1, 1, none⟩ = some (.slice Y11 l11.length y11) := blk_cell BW 1
      have s2 : W9.cell? ⟨w.heap.size + 1, 2, none⟩ = some (.slice oY11 ol11.length oy11) := blk_cell BW 2
      refine bodyPost_ret (v := .tuple #[.agg #[.slice (some ⟨gS, 0, none⟩) s.states.length a1, .slice Y11 l11.length y11, .slice oY11 ol11.length oy11], .bool true]) (by simp only [results, Tryz.results31]; go_simp) rfl ⟨_, _, _, by rw [HF2.out], by rw [HF2.out]; exact nX, hbX⟩
    case false =>
      have HF2 := hid (show simStep apps s = (s, false) by rw [HF.out, if_neg (by rw [qk]; simp)])
      clear qk
      go_wp2_with fail
      refine (l2Copy_c _ _ _ s F w17 (hSim.out.below hb17') (by omega) (by omega) (by omega)).mono ?_
      rintro e w18 ⟨us, uq, uo, rfl, n18, hb18⟩
      obtain ⟨Z1, q1', rfl, zz1⟩ := n18.st.shape
      obtain ⟨Z2, q2', rfl, zz2⟩ := n18.qu.shape
      obtain ⟨Z3, q3', rfl, zz3⟩ := n18.ou.shape
      have W118 := below_heap hb18 (blk_lt W117) W117
      have hb18' := bthen hb17' hb18 hb17'.size
      have n18' := n18.mono (F' := fun k => w.heap.size ≤ k) (fun k hk => Nat.le_trans hb17'.size hk)
      clear g0 g1 g2 d0 d1 d2 r0 r1 r2 y0 y1 y2 n18 hb18
      have r0 : w18.cell? ⟨w.heap.size + 1, 0, none⟩ = some (.slice none 0 0) := blk_cell W118 0
      have r1 : w18.cell? ⟨w.heap.size + 1, 1, none⟩ = some (.slice none 0 0) := blk_cell W118 1
      have r2 : w18.cell? ⟨w.heap.size + 1, 2, none⟩ = some (.slice none 0 0) := blk_cell W118 2
      have y0 := blk_frozen W118 0
      have y1 := blk_frozen W118 1
      have y2 := blk_frozen W118 2
      apply_assumption
      go_wp2_with fail
      obtain ⟨BW, nX, hbX⟩ := sim_store (w := w) (g := w.heap.size + 1) W118 n18' (by omega) hb18' (.slice Z1 s.states.length q1') (.slice Z2 s.queue.length q2') (.slice Z3 s.outs.length q3') rfl rfl rfl
      generalize ((w18.setCell ⟨w.heap.size + 1, 0, none⟩ (.slice Z1 s.states.length q1')).setCell ⟨w.heap.size + 1, 1, none⟩ (.slice Z2 s.queue.length q2')).setCell ⟨w.heap.size + 1, 2, none⟩ (.slice Z3 s.outs.length q3') = W9 at *
      have s0 : W9.cell? ⟨w.heap.size + 1, 0, none⟩ = some (.slice Z1 s.states.length q1') := blk_cell BW 0
      have s1 : W9.cell? ⟨w.heap.size + 1, 1, none⟩ = some (.slice Z2 s.queue.length q2') := blk_cell BW 1
      have s2 : W9.cell? ⟨w.heap.size + 1, 2, none⟩ = some (.slice Z3 s.outs.length q3') := blk_cell BW 2
      refine bodyPost_ret (v := .tuple #[.agg #[.slice Z1 s.states.length q1', .slice Z2 s.queue.length q2', .slice Z3 s.outs.length q3'], .bool false]) (by simp only [results, Tryz.results31]; go_simp) rfl ⟨_, _, _, by rw [HF2.out], by rw [HF2.out]; exact nX, hbX⟩
end Go.Proofs.YtbcemldiahghcaaGreat

namespace Go.Proofs.YtbcemldiahghcaaGreat
set_option linter.unusedVariables false
set_option linter.unusedSimpArgs false
set_option maxRecDepth 100000
open Go.RowKit
def doCells (c : Int) (e : EvD) (r : RunD) (sv ov : Value) : Array Value :=
  #[.int .i64 r.x, .int .i64 r.y, .int .i64 e.time, .int .i64 e.to, .int .i64 e.from_, .int .i64 e.count, .int .i64 e.n, .int .i64 e.kind, .int .i64 e.arg, .int .i64 c, sv, ov]
structure DoAt (w : World) (g B : Nat) (c : Int) (e : EvD) (r : RunD) (sv ov : Value) : Prop where
  blk : w.heap[g]? = some (.cells (doCells c e r sv ov) 169 (0, 0))
  ge : B ≤ g
  sends : Ow tEv 80 w (fun k => B ≤ k) sv r.sends
  outs : Ow tOut 128 w (fun k => B ≤ k) ov r.outs
theorem DoAt.set {w : World} {g B : Nat} {c : Int} {e : EvD} {r r' : RunD} {sv ov : Value} (h : DoAt w g B c e r sv ov) (i : Nat) (u : Value) (hc : (doCells c e r sv ov).setIfInBounds i u = doCells c e r' sv ov) (hs : r'.sends = r.sends) (ho : r'.outs = r.outs) : DoAt (w.setCell ⟨g, i, none⟩ u) g B c e r' sv ov := by
  refine ⟨by rw [blk_set h.blk, hc], h.ge, ?_, ?_⟩
  · rw [hs]
    exact (h.sends.tight.keep (fun k hk hlt => Below.heap_setCell _ _ _ _ (fun e' => h.sends.type_ne h.blk (by decide) (by have e2 : k = g := e'; subst e2; exact hk)))).mono (fun k hk => h.sends.inF hk)
  · rw [ho]
    exact (h.outs.tight.keep (fun k hk hlt => Below.heap_setCell _ _ _ _ (fun e' => h.outs.type_ne h.blk (by decide) (by have e2 : k = g := e'; subst e2; exact hk)))).mono (fun k hk => h.outs.inF hk)

theorem DoAt.below {w w' : World} {g B : Nat} {c : Int} {e : EvD} {r : RunD} {sv ov : Value} (h : DoAt w g B c e r sv ov) (hb : Below w.heap.size w w') : DoAt w' g B c e r sv ov :=
  ⟨(hb.block g (blk_lt h.blk)).trans h.blk, h.ge, h.sends.below hb, h.outs.below hb⟩
def DoPost (B g : Nat) (c : Int) (e : EvD) (r : RunD) (sv ov : Value) (o : OpD) (w : World) (q : Ending) (w' : World) : Prop :=
  q = .returned (.int .i64 (doOp e c o r).2) ∧ (∃ sv ov, DoAt w' g B c e (doOp e c o r).1 sv ov) ∧ Ch (fun k => k = g ∨ sv.ownBlock = some k ∨ ov.ownBlock = some k) w w'
theorem DoAt.grown_sends {w w1 : World} {g B : Nat} {c : Int} {e : EvD} {r : RunD} {sv ov : Value} (h : DoAt w g B c e r sv ov) (hG : w.grownBy w1 sv.ownBlock) :
    w1.heap[g]? = some (.cells (doCells c e r sv ov) 169 (0, 0)) ∧ Ow tOut 128 w1 (fun k => B ≤ k) ov r.outs :=
  ⟨(hG.block g (blk_lt h.blk) (fun e' => h.sends.type_ne h.blk (by decide) e'.symm)).trans h.blk,
   (h.outs.tight.keep (fun k hk hlt => hG.block k hlt (fun e' => h.outs.apart h.sends (by decide) k hk e'.symm))).mono (fun k hk => h.outs.inF hk)⟩
theorem DoAt.grown_outs {w w1 : World} {g B : Nat} {c : Int} {e : EvD} {r : RunD} {sv ov : Value} (h : DoAt w g B c e r sv ov) (hG : w.grownBy w1 ov.ownBlock) :
    w1.heap[g]? = some (.cells (doCells c e r sv ov) 169 (0, 0)) ∧ Ow tEv 80 w1 (fun k => B ≤ k) sv r.sends :=
  ⟨(hG.block g (blk_lt h.blk) (fun e' => h.outs.type_ne h.blk (by decide) e'.symm)).trans h.blk,
   (h.sends.tight.keep (fun k hk hlt => hG.block k hlt (fun e' => h.sends.apart h.outs (by decide) k hk e'.symm))).mono (fun k hk => h.sends.inF hk)⟩
set_option maxHeartbeats 400000 in
theorem dput_c (g B : Nat) (c : Int) (e : EvD) (r : RunD) (sv ov : Value) (k n : Int) (w : World) (h : DoAt w g B c e r sv ov) (hk : k = 0 ∨ k = 1) (hn : 0 ≤ n) :
    Calls Tryz.prog 177 #[.pointer (some ⟨g,0,none⟩), .int .i64 k, .int .i64 n] w fun q w' => q = .returned (.tuple #[]) ∧ DoAt w' g B c e (r.put k n) sv ov ∧ Ch (fun k => k = g ∨ sv.ownBlock = some k ∨ ov.ownBlock = some k) w w' := by
  have h0 := blk_cell h.blk 0
  have h1 := blk_cell h.blk 1
  simp [doCells] at h0 h1
  have f0 := blk_frozen h.blk 0
  have f1 := blk_frozen h.blk 1
  rcases hk with rfl | rfl
  · go_enter Tryz.func177, Tryz.ntmps177
    go_wp2
    go_end0
    exact ⟨rfl, h.set 0 _ rfl rfl rfl, Ch.setCell (p := ⟨g, 0, none⟩) (Ch.refl _ _) (Or.inl (Or.inl rfl)) _⟩
  · go_enter Tryz.func177, Tryz.ntmps177
    go_wp2
    go_end0
    exact ⟨rfl, h.set 1 _ rfl rfl rfl, Ch.setCell (p := ⟨g, 1, none⟩) (Ch.refl _ _) (Or.inl (Or.inl rfl)) _⟩
set_option maxHeartbeats 2000000 in
theorem raise3_c (g B : Nat) (c : Int) (e : EvD) (r : RunD) (sv ov : Value) (a b cc ee : Int) (w : World) (h : DoAt w g B c e r sv ov) (hB : B ≤ w.heap.size) (hr : RunOk r) (he : evOk e = true) (hns : r.sends.length ≤ 1000) (hno : r.outs.length ≤ 1000) (ha : a = 0 ∨ a = 1) (hb0 : 0 ≤ b ∧ b ≤ 999) :
    Calls Tryz.prog 178 #[.agg #[.int .i64 a, .int .i64 b, .bool false], .pointer (some ⟨g,0,none⟩)] w (DoPost B g c e r sv ov ⟨3, a, b, cc, ee⟩ w) := by
  have hx := And.intro hr.x0 hr.x1
  have hy := And.intro hr.y0 hr.y1
  have hb1 := hb0.1
  have hb2 := hb0.2
  have hR := h.below (balloc (Below.refl _ _) (.cells #[.int .i64 a, .int .i64 b, .bool false] 208))
  have c0 := blk_cell hR.blk 0
  have c1 := blk_cell hR.blk 1
  simp [doCells] at c0 c1
  rcases ha with rfl | rfl
  · go_enter Tryz.func178, Tryz.ntmps178
    go_wp2_with fail
    refine region_tail 13 (by kernel_rfl) (by kernel_rfl) ?_
    simp only [List.take_succ_cons, List.take_zero, List.drop_succ_cons, List.drop_zero]
    iterate 13 still_step
    refine wpStill_nil ?_
    go_wp2_with (go_at_call 177; refine (dput_c g B c e r sv ov _ _ _ (hR.below (Below.refl _ _).drew) (by simp) (by omega)).mono ?_; rintro q w1 ⟨rfl, h1, h2⟩)
    go_ret
    exact ⟨rfl, ⟨sv, ov, h1⟩, (((Ch.refl _ _).alloc _).drew).trans h2⟩
  · go_enter Tryz.func178, Tryz.ntmps178
    go_wp2_with fail
    refine region_tail 13 (by kernel_rfl) (by kernel_rfl) ?_
    simp only [List.take_succ_cons, List.take_zero, List.drop_succ_cons, List.drop_zero]
    iterate 13 still_step
    refine wpStill_nil ?_
    go_wp2_with (go_at_call 177; refine (dput_c g B c e r sv ov _ _ _ (hR.below (Below.refl _ _).drew) (by simp) (by omega)).mono ?_; rintro q w1 ⟨rfl, h1, h2⟩)
    go_ret
    exact ⟨rfl, ⟨sv, ov, h1⟩, (((Ch.refl _ _).alloc _).drew).trans h2⟩
set_option maxHeartbeats 2000000 in
theorem join_c (g B : Nat) (c : Int) (e : EvD) (r : RunD) (sv ov : Value) (a b cc ee : Int) (w : World) (h : DoAt w g B c e r sv ov) (hB : B ≤ w.heap.size) (hr : RunOk r) (he : evOk e = true) (hns : r.sends.length ≤ 1000) (hno : r.outs.length ≤ 1000) (ha : a = 0 ∨ a = 1) (hb0 : b = 0 ∨ b = 1) :
    Calls Tryz.prog 179 #[.agg #[.int .i64 a, .int .i64 b], .pointer (some ⟨g,0,none⟩)] w (DoPost B g c e r sv ov ⟨2, a, b, cc, ee⟩ w) := by
  have hx := And.intro hr.x0 hr.x1
  have hy := And.intro hr.y0 hr.y1
  have hR := h.below (balloc (Below.refl _ _) (.cells #[.int .i64 a, .int .i64 b] 210))
  have c0 := blk_cell hR.blk 0
  have c1 := blk_cell hR.blk 1
  simp [doCells] at c0 c1
  rcases ha with rfl | rfl <;> rcases hb0 with rfl | rfl
  · go_enter Tryz.func179, Tryz.ntmps179
    go_wp2_with fail
    refine region_tail 18 (by kernel_rfl) (by kernel_rfl) ?_
    simp only [List.take_succ_cons, List.take_zero, List.drop_succ_cons, List.drop_zero]
    iterate 18 still_step
    refine wpStill_nil ?_
    go_wp2_with (go_at_call 177; refine (dput_c g B c e r sv ov _ _ _ (hR.below (Below.refl _ _).drew) (by simp) (by omega)).mono ?_; rintro q w1 ⟨rfl, h1, h2⟩)
    go_ret
    exact ⟨rfl, ⟨sv, ov, h1⟩, (((Ch.refl _ _).alloc _).drew).trans h2⟩
  · go_enter Tryz.func179, Tryz.ntmps179
    go_wp2_with fail
    refine region_tail 18 (by kernel_rfl) (by kernel_rfl) ?_
    simp only [List.take_succ_cons, List.take_zero, List.drop_succ_cons, List.drop_zero]
    iterate 18 still_step
    refine wpStill_nil ?_
    go_wp2_with (go_at_call 177; refine (dput_c g B c e r sv ov _ _ _ (hR.below (Below.refl _ _).drew) (by simp) (by omega)).mono ?_; rintro q w1 ⟨rfl, h1, h2⟩)
    go_ret
    exact ⟨rfl, ⟨sv, ov, h1⟩, (((Ch.refl _ _).alloc _).drew).trans h2⟩
  · go_enter Tryz.func179, Tryz.ntmps179
    go_wp2_with fail
    refine region_tail 18 (by kernel_rfl) (by kernel_rfl) ?_
    simp only [List.take_succ_cons, List.take_zero, List.drop_succ_cons, List.drop_zero]
    iterate 18 still_step
    refine wpStill_nil ?_
    go_wp2_with (go_at_call 177; refine (dput_c g B c e r sv ov _ _ _ (hR.below (Below.refl _ _).drew) (by simp) (by omega)).mono ?_; rintro q w1 ⟨rfl, h1, h2⟩)
    go_ret
    exact ⟨rfl, ⟨sv, ov, h1⟩, (((Ch.refl _ _).alloc _).drew).trans h2⟩
  · go_enter Tryz.func179, Tryz.ntmps179
    go_wp2_with fail
    refine region_tail 18 (by kernel_rfl) (by kernel_rfl) ?_
    simp only [List.take_succ_cons, List.take_zero, List.drop_succ_cons, List.drop_zero]
    iterate 18 still_step
    refine wpStill_nil ?_
    go_wp2_with (go_at_call 177; refine (dput_c g B c e r sv ov _ _ _ (hR.below (Below.refl _ _).drew) (by simp) (by omega)).mono ?_; rintro q w1 ⟨rfl, h1, h2⟩)
    go_ret
    exact ⟨rfl, ⟨sv, ov, h1⟩, (((Ch.refl _ _).alloc _).drew).trans h2⟩
set_option maxHeartbeats 2000000 in
theorem take_c (g B : Nat) (c : Int) (e : EvD) (r : RunD) (sv ov : Value) (a b cc ee : Int) (w : World) (h : DoAt w g B c e r sv ov) (hB : B ≤ w.heap.size) (hr : RunOk r) (he : evOk e = true) (hns : r.sends.length ≤ 1000) (hno : r.outs.length ≤ 1000) (ha : a = 0 ∨ a = 1) :
    Calls Tryz.prog 180 #[.agg #[.int .i64 a], .pointer (some ⟨g,0,none⟩)] w (DoPost B g c e r sv ov ⟨4, a, b, cc, ee⟩ w) := by
  have hx := And.intro hr.x0 hr.x1
  have hy := And.intro hr.y0 hr.y1
  simp [evOk, inn] at he
  have hg := he.2.1
  clear he
  have hR := h.below (balloc (Below.refl _ _) (.cells #[.int .i64 a] 212))
  have c8 := blk_cell hR.blk 8
  simp [doCells] at c8
  rcases ha with rfl | rfl
  · go_enter Tryz.func180, Tryz.ntmps180
    go_wp2_with fail
    refine region_tail 8 (by kernel_rfl) (by kernel_rfl) ?_
    simp only [List.take_succ_cons, List.take_zero, List.drop_succ_cons, List.drop_zero]
    iterate 8 still_step
    refine wpStill_nil ?_
    go_wp2_with (go_at_call 177; refine (dput_c g B c e r sv ov _ _ _ (hR.below (Below.refl _ _).drew) (by simp) (by omega)).mono ?_; rintro q w1 ⟨rfl, h1, h2⟩)
    go_ret
    exact ⟨rfl, ⟨sv, ov, h1⟩, (((Ch.refl _ _).alloc _).drew).trans h2⟩
  · go_enter Tryz.func180, Tryz.ntmps180
    go_wp2_with fail
    refine region_tail 8 (by kernel_rfl) (by kernel_rfl) ?_
    simp only [List.take_succ_cons, List.take_zero, List.drop_succ_cons, List.drop_zero]
    iterate 8 still_step
    refine wpStill_nil ?_
    go_wp2_with (go_at_call 177; refine (dput_c g B c e r sv ov _ _ _ (hR.below (Below.refl _ _).drew) (by simp) (by omega)).mono ?_; rintro q w1 ⟨rfl, h1, h2⟩)
    go_ret
    exact ⟨rfl, ⟨sv, ov, h1⟩, (((Ch.refl _ _).alloc _).drew).trans h2⟩
set_option maxHeartbeats 2000000 in
theorem leap_c (g B : Nat) (c : Int) (e : EvD) (r : RunD) (sv ov : Value) (a b cc ee : Int) (w : World) (h : DoAt w g B c e r sv ov) (hB : B ≤ w.heap.size) (hr : RunOk r) (he : evOk e = true) (hns : r.sends.length ≤ 1000) (hno : r.outs.length ≤ 1000) (ha : a = 0 ∨ a = 1) :
    Calls Tryz.prog 181 #[.agg #[.int .i64 a, .int .i64 b, .int .i64 cc], .pointer (some ⟨g,0,none⟩)] w (DoPost B g c e r sv ov ⟨5, a, b, cc, ee⟩ w) := by
  have hx := And.intro hr.x0 hr.x1
  have hy := And.intro hr.y0 hr.y1
  have hR := h.below (balloc (Below.refl _ _) (.cells #[.int .i64 a, .int .i64 b, .int .i64 cc] 214))
  have c0 := blk_cell hR.blk 0
  have c1 := blk_cell hR.blk 1
  simp [doCells] at c0 c1
  rcases ha with rfl | rfl
  · by_cases hlt : r.get 0 < b
    · have e1 : doOp e c ⟨5, 0, b, cc, ee⟩ r = (r, cc) := by simp [doOp, hlt]
      have hd : decide (r.x < b) = true := decide_eq_true hlt
      have E1 := hid e1; clear e1 hlt
      go_enter Tryz.func181, Tryz.ntmps181
      go_wp2_with fail
      go_quiet (fail)
      go_wp2
      go_ret
      exact ⟨by rw [E1.out]; rfl, ⟨sv, ov, by rw [E1.out]; exact hR.below (bdrewN (Below.refl _ _) _)⟩, ((Ch.refl _ _).alloc _).drewN _⟩
    · have e1 : doOp e c ⟨5, 0, b, cc, ee⟩ r = (r, 0) := by simp [doOp, hlt]
      have hd : decide (r.x < b) = false := decide_eq_false hlt
      have E1 := hid e1; clear e1 hlt
      go_enter Tryz.func181, Tryz.ntmps181
      go_wp2_with fail
      go_quiet (fail)
      go_wp2
      go_ret
      exact ⟨by rw [E1.out]; rfl, ⟨sv, ov, by rw [E1.out]; exact hR.below (bdrewN (Below.refl _ _) _)⟩, ((Ch.refl _ _).alloc _).drewN _⟩
  · by_cases hlt : r.get 1 < b
    · have e1 : doOp e c ⟨5, 1, b, cc, ee⟩ r = (r, cc) := by simp [doOp, hlt]
      have hd : decide (r.y < b) = true := decide_eq_true hlt
      have E1 := hid e1; clear e1 hlt
      go_enter Tryz.func181, Tryz.ntmps181
      go_wp2_with fail
      go_quiet (fail)
      go_wp2
      go_ret
      exact ⟨by rw [E1.out]; rfl, ⟨sv, ov, by rw [E1.out]; exact hR.below (bdrewN (Below.refl _ _) _)⟩, ((Ch.refl _ _).alloc _).drewN _⟩
    · have e1 : doOp e c ⟨5, 1, b, cc, ee⟩ r = (r, 0) := by simp [doOp, hlt]
      have hd : decide (r.y < b) = false := decide_eq_false hlt
      have E1 := hid e1; clear e1 hlt
      go_enter Tryz.func181, Tryz.ntmps181
      go_wp2_with fail
      go_quiet (fail)
      go_wp2
      go_ret
      exact ⟨by rw [E1.out]; rfl, ⟨sv, ov, by rw [E1.out]; exact hR.below (bdrewN (Below.refl _ _) _)⟩, ((Ch.refl _ _).alloc _).drewN _⟩
end Go.Proofs.YtbcemldiahghcaaGreat
