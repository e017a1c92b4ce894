/- Texts joined: Ex8. -/
import Derived.Test.YtlinephiindncaaJ15
import Derived.Test.YtlinephiindncaaJ08
import Derived.Test.YtlinephiindncaaJ16
import Derived.Test.YtlinephiindncaaJ14
import Derived.Test.YtlinephiindncaaJ18
import Derived.Test.YtlinephiindncaaJ21
namespace Go.Proofs.Ytlinephiindncaa
set_option linter.unusedVariables false
set_option linter.unusedSimpArgs false
set_option maxRecDepth 100000
open Go.RowKit
theorem sgx_name {P : Program} {ops : Array Oper} {Q : Exit → Act → World → Prop} {w0 : World} {r : List Sg} {f : List Nat} {a : Act} {w : World} (h : ∀ a0, a0 = a → wpSg P ops Q w0 r f a0 w) : wpSg P ops Q w0 r f a w := h a rfl
theorem eqStateX (x : StD) (w : World) : Calls Try.prog 10 #[.agg #[.int .i64 x.x, .int .i64 x.y, .int .i64 x.c], .agg #[.int .i64 x.x, .int .i64 x.y, .int .i64 x.c]] w fun q w' => q = .returned (.bool true) ∧ Below w.heap.size w w' :=
  (eqState_c x x w).mono fun q w' ⟨h1, h2⟩ => ⟨by rw [h1, decide_eq_true rfl], h2⟩
theorem eqEventSX (v0 v1 : Value) (xs : List EvD) (F G : Nat → Prop) (w : World) (h0 : Rd tEv w F v0 xs) (h1 : Rd tEv w G v1 xs) : Calls Try.prog 11 #[v0, v1] w fun q w' => q = .returned (.bool true) ∧ Below w.heap.size w w' :=
  (eqEventS_c v0 v1 xs xs (fun _ => True) w (h0.mono (fun _ _ => trivial)) (h1.mono (fun _ _ => trivial))).mono fun q w' ⟨h1, h2⟩ => ⟨by rw [h1, decide_eq_true rfl], h2⟩
theorem eqOutSX (v0 v1 : Value) (xs : List OutD) (F G : Nat → Prop) (w : World) (h0 : Rd tOut w F v0 xs) (h1 : Rd tOut w G v1 xs) : Calls Try.prog 12 #[v0, v1] w fun q w' => q = .returned (.bool true) ∧ Below w.heap.size w w' :=
  (eqOutS_c v0 v1 xs xs (fun _ => True) w (h0.mono (fun _ _ => trivial)) (h1.mono (fun _ _ => trivial))).mono fun q w' ⟨h1, h2⟩ => ⟨by rw [h1, decide_eq_true rfl], h2⟩
theorem eqAppX (x : AppD) (v0 v1 : Value) (F G : Nat → Prop) (w : World) (h0 : Rd tRule w F v0 x.rules) (h1 : Rd tRule w G v1 x.rules) : Calls Try.prog 13 #[.agg #[v0], .agg #[v1]] w fun q w' => q = .returned (.bool true) ∧ Below w.heap.size w w' :=
  (eqApp_c x x v0 v1 (fun _ => True) w (h0.mono (fun _ _ => trivial)) (h1.mono (fun _ _ => trivial))).mono fun q w' ⟨h1, h2⟩ => ⟨by rw [h1, decide_eq_true rfl], h2⟩
theorem runX_call (v : Value) (a : AppD) (s : StD) (e : EvD) (F : Nat → Prop) (w : World) (h : Rd tRule w F v a.rules) {xs : StD} {sends : List EvD} {outs : List OutD} (hr : appRun a s e = (xs, sends, outs)) :
    Calls Try.prog 9 #[.agg #[v], .agg #[.int .i64 s.x, .int .i64 s.y, .int .i64 s.c], .agg #[.int .i64 e.time, .int .i64 e.to, .int .i64 e.from_, .int .i64 e.count, .int .i64 e.n, .int .i64 e.kind, .int .i64 e.arg]] w fun q w' => ∃ sv ov, q = .returned (.tuple #[stAgg3 xs, sv, ov]) ∧ Ow tEv 40 w' (fun k => w.heap.size ≤ k) sv sends ∧ Ow tOut 77 w' (fun k => w.heap.size ≤ k) ov outs ∧ Below w.heap.size w w' := by
  refine (AppRun_c v a s e F w h).mono ?_
  rintro q w' ⟨sv, ov, h1, h2, h3, h4⟩
  rw [hr] at h1 h2 h3
  exact ⟨sv, ov, h1, h2, h3, h4⟩
def x5N (a : AppD) (s : StD) (e : EvD) (xs : StD) (sends : List EvD) (outs : List OutD) : List HeldD :=
  [(1, [], fun _ v w F => ∃ g, v = .agg #[g] ∧ Ow oRule 60 w F g a.rules),
   (6, [], fun _ v w F => ∃ sv ov, v = .tuple #[stAgg3 xs, sv, ov] ∧ Ow tEv 40 w F sv sends ∧ Ow tOut 77 w F ov outs),
   (11, [], fun _ v w F => ∃ g, v = .pointer (some ⟨g, 0, none⟩) ∧ F g ∧ w.heap[g]? = some (.cells #[.int .i64 0, .int .i64 0, .int .i64 0] 30 (0, 0))),
   (12, [11], fun ds _ w F => ∃ g, ds = [.pointer (some ⟨g, 0, none⟩)] ∧ F g ∧ w.heap[g]? = some (.cells #[.int .i64 xs.x, .int .i64 xs.y, .int .i64 xs.c] 30 (0, 0)))]
theorem x5N_moves (a : AppD) (s : StD) (e : EvD) (xs : StD) (sends : List EvD) (outs : List OutD) : MovesDL (x5N a s e xs sends outs) :=
  ⟨fun ds v w w' F ⟨g, h1, h2⟩ hm => ⟨g, h1, Ow.move hm h2⟩, fun ds v w w' F ⟨sv, ov, h1, h2, h3⟩ hm => ⟨sv, ov, h1, Ow.move hm h2, Ow.move hm h3⟩, fun ds v w w' F ⟨g, h1, h2, h3⟩ hm => ⟨g, h1, h2, (hm g h2).trans h3⟩, fun ds v w w' F ⟨g, h1, h2, h3⟩ hm => ⟨g, h1, h2, (hm g h2).trans h3⟩, trivial⟩
def x5P (a : AppD) (s : StD) (e : EvD) (xs : StD) (sends : List EvD) (outs : List OutD) : List Known := [(3, [], fun _ v => v = .agg #[.int .i64 s.x, .int .i64 s.y, .int .i64 s.c]), (5, [], fun _ v => v = .agg #[.int .i64 e.time, .int .i64 e.to, .int .i64 e.from_, .int .i64 e.count, .int .i64 e.n, .int .i64 e.kind, .int .i64 e.arg]), (6, [], fun _ v => tup3 (stAgg3 xs) v), (7, [6], fun ds v => ds = [v] ∧ tup3 (stAgg3 xs) v), (8, [7], fun _ v => v = stAgg3 xs), (9, [7], fun ds v => ∀ a b c, ds = [.tuple #[a, b, c]] → v = b), (10, [7], fun ds v => ∀ a b c, ds = [.tuple #[a, b, c]] → v = c), (13, [9], fun ds v => ds = [v]), (14, [10], fun ds v => ds = [v])]
def x7N (a : AppD) (s : StD) (e : EvD) (xs : StD) (sends : List EvD) (outs : List OutD) : List HeldD :=
  [(5, [], fun _ v w F => ∃ sv ov, v = .tuple #[stAgg3 xs, sv, ov] ∧ Ow tEv 40 w F sv sends ∧ Ow tOut 77 w F ov outs),
   (10, [], fun _ v w F => ∃ g, v = .pointer (some ⟨g, 0, none⟩) ∧ F g ∧ w.heap[g]? = some (.cells #[.int .i64 0, .int .i64 0, .int .i64 0] 30 (0, 0))),
   (11, [10], fun ds _ w F => ∃ g, ds = [.pointer (some ⟨g, 0, none⟩)] ∧ F g ∧ w.heap[g]? = some (.cells #[.int .i64 xs.x, .int .i64 xs.y, .int .i64 xs.c] 30 (0, 0)))]
theorem x7N_moves (a : AppD) (s : StD) (e : EvD) (xs : StD) (sends : List EvD) (outs : List OutD) : MovesDL (x7N a s e xs sends outs) :=
  ⟨fun ds v w w' F ⟨sv, ov, h1, h2, h3⟩ hm => ⟨sv, ov, h1, Ow.move hm h2, Ow.move hm h3⟩, fun ds v w w' F ⟨g, h1, h2, h3⟩ hm => ⟨g, h1, h2, (hm g h2).trans h3⟩, fun ds v w w' F ⟨g, h1, h2, h3⟩ hm => ⟨g, h1, h2, (hm g h2).trans h3⟩, trivial⟩
def x7P (a : AppD) (s : StD) (e : EvD) (xs : StD) (sends : List EvD) (outs : List OutD) : List Known := [(2, [], fun _ v => v = .agg #[.int .i64 s.x, .int .i64 s.y, .int .i64 s.c]), (4, [], fun _ v => v = .agg #[.int .i64 e.time, .int .i64 e.to, .int .i64 e.from_, .int .i64 e.count, .int .i64 e.n, .int .i64 e.kind, .int .i64 e.arg]), (5, [], fun _ v => tup3 (stAgg3 xs) v), (6, [5], fun ds v => ds = [v] ∧ tup3 (stAgg3 xs) v), (7, [6], fun _ v => v = stAgg3 xs), (8, [6], fun ds v => ∀ a b c, ds = [.tuple #[a, b, c]] → v = b), (9, [6], fun ds v => ∀ a b c, ds = [.tuple #[a, b, c]] → v = c), (12, [8], fun ds v => ds = [v]), (13, [9], fun ds v => ds = [v])]
def x28N (a : AppD) (s : StD) (e : EvD) (xs : StD) (sends : List EvD) (outs : List OutD) : List HeldD :=
  [(1, [], fun _ v w F => ∃ g, v = .agg #[g] ∧ Ow oRule 60 w F g a.rules),
   (6, [], fun _ v w F => ∃ sv ov, v = .tuple #[stAgg3 xs, sv, ov] ∧ Ow tEv 40 w F sv sends ∧ Ow tOut 77 w F ov outs),
   (11, [], fun _ v w F => ∃ g, v = .pointer (some ⟨g, 0, none⟩) ∧ F g ∧ w.heap[g]? = some (.cells #[.int .i64 0, .int .i64 0, .int .i64 0] 30 (0, 0))),
   (12, [11], fun ds _ w F => ∃ g, ds = [.pointer (some ⟨g, 0, none⟩)] ∧ F g ∧ w.heap[g]? = some (.cells #[.int .i64 xs.x, .int .i64 xs.y, .int .i64 xs.c] 30 (0, 0)))]
theorem x28N_moves (a : AppD) (s : StD) (e : EvD) (xs : StD) (sends : List EvD) (outs : List OutD) : MovesDL (x28N a s e xs sends outs) :=
  ⟨fun ds v w w' F ⟨g, h1, h2⟩ hm => ⟨g, h1, Ow.move hm h2⟩, fun ds v w w' F ⟨sv, ov, h1, h2, h3⟩ hm => ⟨sv, ov, h1, Ow.move hm h2, Ow.move hm h3⟩, fun ds v w w' F ⟨g, h1, h2, h3⟩ hm => ⟨g, h1, h2, (hm g h2).trans h3⟩, fun ds v w w' F ⟨g, h1, h2, h3⟩ hm => ⟨g, h1, h2, (hm g h2).trans h3⟩, trivial⟩
def x28P (a : AppD) (s : StD) (e : EvD) (xs : StD) (sends : List EvD) (outs : List OutD) : List Known := [(3, [], fun _ v => v = .agg #[.int .i64 s.x, .int .i64 s.y, .int .i64 s.c]), (5, [], fun _ v => v = .agg #[.int .i64 e.time, .int .i64 e.to, .int .i64 e.from_, .int .i64 e.count, .int .i64 e.n, .int .i64 e.kind, .int .i64 e.arg]), (6, [], fun _ v => tup3 (stAgg3 xs) v), (7, [6], fun ds v => ds = [v] ∧ tup3 (stAgg3 xs) v), (8, [7], fun _ v => v = stAgg3 xs), (9, [7], fun ds v => ∀ a b c, ds = [.tuple #[a, b, c]] → v = b), (10, [7], fun ds v => ∀ a b c, ds = [.tuple #[a, b, c]] → v = c), (13, [9], fun ds v => ds = [v]), (14, [10], fun ds v => ds = [v])]
set_option maxHeartbeats 1000000 in
theorem FnExactAppRun_any (a : AppD) (v : Value) (s : StD) (e : EvD) (w : World) (hA0 : Rd tRule w (fun k => k < w.heap.size) v a.rules) :
    Calls Try.prog 3 #[.agg #[v], .agg #[.int .i64 s.x, .int .i64 s.y, .int .i64 s.c], .agg #[.int .i64 e.time, .int .i64 e.to, .int .i64 e.from_, .int .i64 e.count, .int .i64 e.n, .int .i64 e.kind, .int .i64 e.arg]] w fun q w' => q = .returned (.bool true) ∧ Below w.heap.size w w' := by
  have hA := hA0
  clear hA0
  obtain ⟨xs, sends, outs, hrun⟩ : ∃ xs sends outs, appRun a s e = (xs, sends, outs) := ⟨_, _, _, rfl⟩
  have hrun' := hid hrun
  have hle := hid (show sends.length ≤ 2 ∧ outs.length ≤ 2 by have h9 := appRun_good a s e; rw [hrun] at h9; exact ⟨h9.2.2.1, h9.2.2.2.1⟩)
  obtain ⟨A, c, rfl, -⟩ := hA.shape
  obtain ⟨t, ht⟩ : ∃ t, szTo 1048576 (a.rules.length + rulesSz a.rules) = t := ⟨_, rfl⟩
  have HT := hid ht
  clear hrun
  go_enter Try.func3, Try.ntmps3
  go_wp2_with fail
  have HB : Below w.heap.size w (((w.alloc (.cells #[.slice A a.rules.length c] 24)).alloc (.cells #[.int .i64 s.x, .int .i64 s.y, .int .i64 s.c] 26)).alloc (.cells #[.int .i64 e.time, .int .i64 e.to, .int .i64 e.from_, .int .i64 e.count, .int .i64 e.n, .int .i64 e.kind, .int .i64 e.arg] 28)) := balloc (balloc (balloc (Below.refl _ _) _) _) _
  have X_a : (((w.alloc (.cells #[.slice A a.rules.length c] 24)).alloc (.cells #[.int .i64 s.x, .int .i64 s.y, .int .i64 s.c] 26)).alloc (.cells #[.int .i64 e.time, .int .i64 e.to, .int .i64 e.from_, .int .i64 e.count, .int .i64 e.n, .int .i64 e.kind, .int .i64 e.arg] 28)).heap[w.heap.size]? = some (.cells #[.slice A a.rules.length c] 24 (0, 0)) := (heap_old (by simp only [World.size_alloc]; omega)).trans ((heap_old (by simp)).trans (heap_at rfl))
  have X_s : (((w.alloc (.cells #[.slice A a.rules.length c] 24)).alloc (.cells #[.int .i64 s.x, .int .i64 s.y, .int .i64 s.c] 26)).alloc (.cells #[.int .i64 e.time, .int .i64 e.to, .int .i64 e.from_, .int .i64 e.count, .int .i64 e.n, .int .i64 e.kind, .int .i64 e.arg] 28)).heap[w.heap.size + 1]? = some (.cells #[.int .i64 s.x, .int .i64 s.y, .int .i64 s.c] 26 (0, 0)) := (heap_old (by simp)).trans (heap_at (by simp))
  have X_e : (((w.alloc (.cells #[.slice A a.rules.length c] 24)).alloc (.cells #[.int .i64 s.x, .int .i64 s.y, .int .i64 s.c] 26)).alloc (.cells #[.int .i64 e.time, .int .i64 e.to, .int .i64 e.from_, .int .i64 e.count, .int .i64 e.n, .int .i64 e.kind, .int .i64 e.arg] 28)).heap[w.heap.size + 1 + 1]? = some (.cells #[.int .i64 e.time, .int .i64 e.to, .int .i64 e.from_, .int .i64 e.count, .int .i64 e.n, .int .i64 e.kind, .int .i64 e.arg] 28 (0, 0)) := heap_at (by simp)
  generalize ((w.alloc (.cells #[.slice A a.rules.length c] 24)).alloc (.cells #[.int .i64 s.x, .int .i64 s.y, .int .i64 s.c] 26)).alloc (.cells #[.int .i64 e.time, .int .i64 e.to, .int .i64 e.from_, .int .i64 e.count, .int .i64 e.n, .int .i64 e.kind, .int .i64 e.arg] 28) = W at *
  refine (szApp_c a _ 1048576 _ _ (hA.below HB) (by decide) (by decide)).mono ?_
  rintro q w1 ⟨rfl, hb1⟩
  rw [ht]
  clear ht
  replace HB := bthen HB hb1 HB.size
  replace X_a := below_heap hb1 (blk_lt X_a) X_a
  replace X_s := below_heap hb1 (blk_lt X_s) X_s
  replace X_e := below_heap hb1 (blk_lt X_e) X_e
  clear hb1 W
  apply_assumption
  by_cases hneg : t < 0
  · have hd : decide (t < 0) = true := decide_eq_true hneg
    clear hneg
    go_wp2_with fail
    go_ret
    exact ⟨rfl, HB⟩
  have hd : decide (t < 0) = false := decide_eq_false hneg
  have hsz : (a.rules.length : Int) + rulesSz a.rules ≤ 1048576 := by have h4 := szTo_pos HT.out hneg; omega
  have n1 : a.rules.length ≤ 1048576 := by have := rulesSz_nonneg a.rules; omega
  have n2 : ∀ r ∈ a.rules, r.ops.length ≤ 1048576 := fun r hr => by have := rulesSz_mem a.rules r hr; omega
  have HSZ := hid hsz
  clear hneg hsz
  replace hA := hA.below HB
  have c_a0 : w1.cell? ⟨w.heap.size, 0, none⟩ = some (.slice A a.rules.length c) := blk_cell X_a 0
  have c_s0 : w1.cell? ⟨w.heap.size + 1, 0, none⟩ = some (.int .i64 s.x) := blk_cell X_s 0
  have c_s1 : w1.cell? ⟨w.heap.size + 1, 1, none⟩ = some (.int .i64 s.y) := blk_cell X_s 1
  have c_s2 : w1.cell? ⟨w.heap.size + 1, 2, none⟩ = some (.int .i64 s.c) := blk_cell X_s 2
  have c_e0 : w1.cell? ⟨w.heap.size + 1 + 1, 0, none⟩ = some (.int .i64 e.time) := blk_cell X_e 0
  have c_e1 : w1.cell? ⟨w.heap.size + 1 + 1, 1, none⟩ = some (.int .i64 e.to) := blk_cell X_e 1
  have c_e2 : w1.cell? ⟨w.heap.size + 1 + 1, 2, none⟩ = some (.int .i64 e.from_) := blk_cell X_e 2
  have c_e3 : w1.cell? ⟨w.heap.size + 1 + 1, 3, none⟩ = some (.int .i64 e.count) := blk_cell X_e 3
  have c_e4 : w1.cell? ⟨w.heap.size + 1 + 1, 4, none⟩ = some (.int .i64 e.n) := blk_cell X_e 4
  have c_e5 : w1.cell? ⟨w.heap.size + 1 + 1, 5, none⟩ = some (.int .i64 e.kind) := blk_cell X_e 5
  have c_e6 : w1.cell? ⟨w.heap.size + 1 + 1, 6, none⟩ = some (.int .i64 e.arg) := blk_cell X_e 6
  go_upto_region 5 with fail
  refine region_sg [.rd [0, 2, 4], .par [(1, []), (3, []), (5, []), (6, [1]), (7, []), (8, []), (9, []), (10, []), (11, []), (12, [11]), (13, []), (14, [])] []] [] (by kernel_rfl) (by kernel_rfl) (fun _ _ d _ _ h => by cases d <;> exact h) ?_
  refine sg_rd (fun N hN => ?_)
  simp only [pickO, List.getElem?_toArray, List.getElem?_cons_zero, List.getElem?_cons_succ]
  go_wp2_with fail
  refine rd_next (hN _ ?_)
  clear hN N
  refine sgx_name fun a0 ha0 => ?_
  have sA := hid (show a0.tmps[27]? = some (.agg #[.slice A a.rules.length c]) by rw [ha0]; rfl)
  have sS := hid (show a0.tmps[29]? = some (.agg #[.int .i64 s.x, .int .i64 s.y, .int .i64 s.c]) by rw [ha0]; rfl)
  have sE := hid (show a0.tmps[31]? = some (.agg #[.int .i64 e.time, .int .i64 e.to, .int .i64 e.from_, .int .i64 e.count, .int .i64 e.n, .int .i64 e.kind, .int .i64 e.arg]) by rw [ha0]; rfl)
  have hsz := hid (show ∀ k, k < 37 → k < a0.tmps.size from fun k hk => by rw [ha0]; exact Nat.lt_of_lt_of_le hk (by show _ ≤ Array.size _; simp))
  have H0 := hid ha0
  clear ha0
  refine sg_parG [(1, some 28), (3, some 30), (5, some 32), (6, some 33), (7, some 26), (8, some 34), (9, some 35), (10, some 36), (11, some 8), (12, none), (13, some 9), (14, some 10)] (by rfl) (fun _ => False) (NL (x5N a s e xs sends outs)) (PPL (x5P a s e xs sends outs)) (fun _ _ => False) (PPL_upd _ (by kernel_rfl)) (NL_upd _ (by kernel_rfl)) (NL_move _ (x5N_moves a s e xs sends outs)) (fun w' hc => Agree.of_ch hc (fun _ hf => hf.elim)) (by simp) (by simp) (by simp) (parS_cons ?_ (parS_cons ?_ (parS_cons ?_ (parS_cons ?_ (parS_cons ?_ (parS_cons ?_ (parS_cons ?_ (parS_cons ?_ (parS_cons ?_ (parS_cons ?_ (parS_cons ?_ (parS_cons ?_ parS_nil)))))))))))) ?_
  · refine stepG_mk (by rfl) (by rfl) ?_
    intro u wq F1 hC hp hN hF hD K hK
    have q27 : (putL [(1, some 28), (3, some 30), (5, some 32), (6, some 33), (7, some 26), (8, some 34), (9, some 35), (10, some 36), (11, some 8), (12, none), (13, some 9), (14, some 10)] a0 u).tmps[27]? = _ := (putL_out (k := 27) [(1, some 28), (3, some 30), (5, some 32), (6, some 33), (7, some 26), (8, some 34), (9, some 35), (10, some 36), (11, some 8), (12, none), (13, some 9), (14, some 10)] a0 u (by rfl)).trans sA.out
    clear hp hN hF hD
    generalize putL [(1, some 28), (3, some 30), (5, some 32), (6, some 33), (7, some 26), (8, some 34), (9, some 35), (10, some 36), (11, some 8), (12, none), (13, some 9), (14, some 10)] a0 u = a1 at *
    go_simp
    refine (toApp_c a _ _ wq (hA.below (⟨hC.below0.os, hC.below0.tape, hC.below0.output, hC.below0.size, hC.below0.block⟩ : Below w1.heap.size w1 wq)) n1 n2).mono ?_
    rintro q w5 ⟨v5, rfl, h5, hb5⟩
    have hn1 : NL (x5N a s e xs sends outs) 1 (updV u 1 (.agg #[v5])) w5 (fun k => wq.heap.size ≤ k ∧ k < w5.heap.size) := ⟨v5, rfl, h5.bound⟩
    have hp1 : PPL (x5P a s e xs sends outs) 1 (updV u 1 (.agg #[v5])) := trivial
    exact hK _ (.agg #[v5]) _ (fun k => wq.heap.size ≤ k ∧ k < w5.heap.size) rfl (Ch.of_below hb5) hn1 (fun k hk => ⟨.inr hk.1, hk.2⟩) hp1
  · refine stepG_mk (by rfl) (by rfl) ?_
    intro u wq F1 hC hp hN hF hD K hK
    have q29 : (putL [(1, some 28), (3, some 30), (5, some 32), (6, some 33), (7, some 26), (8, some 34), (9, some 35), (10, some 36), (11, some 8), (12, none), (13, some 9), (14, some 10)] a0 u).tmps[29]? = _ := (putL_out (k := 29) [(1, some 28), (3, some 30), (5, some 32), (6, some 33), (7, some 26), (8, some 34), (9, some 35), (10, some 36), (11, some 8), (12, none), (13, some 9), (14, some 10)] a0 u (by rfl)).trans sS.out
    clear hp hN hF hD
    generalize putL [(1, some 28), (3, some 30), (5, some 32), (6, some 33), (7, some 26), (8, some 34), (9, some 35), (10, some 36), (11, some 8), (12, none), (13, some 9), (14, some 10)] a0 u = a1 at *
    go_simp
    refine (toState_c s wq).mono ?_
    rintro q w5 ⟨rfl, hb5⟩
    have hn1 : NL (x5N a s e xs sends outs) 3 (updV u 3 (.agg #[.int .i64 s.x, .int .i64 s.y, .int .i64 s.c])) w5 (fun _ => False) := trivial
    have hp1 : PPL (x5P a s e xs sends outs) 3 (updV u 3 (.agg #[.int .i64 s.x, .int .i64 s.y, .int .i64 s.c])) := rfl
    exact hK _ (.agg #[.int .i64 s.x, .int .i64 s.y, .int .i64 s.c]) _ (fun _ => False) rfl (Ch.of_below hb5) hn1 (fun k hk => hk.elim) hp1
  · refine stepG_mk (by rfl) (by rfl) ?_
    intro u wq F1 hC hp hN hF hD K hK
    have q31 : (putL [(1, some 28), (3, some 30), (5, some 32), (6, some 33), (7, some 26), (8, some 34), (9, some 35), (10, some 36), (11, some 8), (12, none), (13, some 9), (14, some 10)] a0 u).tmps[31]? = _ := (putL_out (k := 31) [(1, some 28), (3, some 30), (5, some 32), (6, some 33), (7, some 26), (8, some 34), (9, some 35), (10, some 36), (11, some 8), (12, none), (13, some 9), (14, some 10)] a0 u (by rfl)).trans sE.out
    clear hp hN hF hD
    generalize putL [(1, some 28), (3, some 30), (5, some 32), (6, some 33), (7, some 26), (8, some 34), (9, some 35), (10, some 36), (11, some 8), (12, none), (13, some 9), (14, some 10)] a0 u = a1 at *
    go_simp
    refine (toEvent_c e wq).mono ?_
    rintro q w5 ⟨rfl, hb5⟩
    have hn1 : NL (x5N a s e xs sends outs) 5 (updV u 5 (.agg #[.int .i64 e.time, .int .i64 e.to, .int .i64 e.from_, .int .i64 e.count, .int .i64 e.n, .int .i64 e.kind, .int .i64 e.arg])) w5 (fun _ => False) := trivial
    have hp1 : PPL (x5P a s e xs sends outs) 5 (updV u 5 (.agg #[.int .i64 e.time, .int .i64 e.to, .int .i64 e.from_, .int .i64 e.count, .int .i64 e.n, .int .i64 e.kind, .int .i64 e.arg])) := rfl
    exact hK _ (.agg #[.int .i64 e.time, .int .i64 e.to, .int .i64 e.from_, .int .i64 e.count, .int .i64 e.n, .int .i64 e.kind, .int .i64 e.arg]) _ (fun _ => False) rfl (Ch.of_below hb5) hn1 (fun k hk => hk.elim) hp1
  · refine stepG_mk (by rfl) (by rfl) ?_
    intro u wq F1 hC hp hN hF hD K hK
    have q28 : (putL [(1, some 28), (3, some 30), (5, some 32), (6, some 33), (7, some 26), (8, some 34), (9, some 35), (10, some 36), (11, some 8), (12, none), (13, some 9), (14, some 10)] a0 u).tmps[28]? = some (u 1) := putL_in (k := 28) (i := 1) [(1, some 28), (3, some 30), (5, some 32), (6, some 33), (7, some 26), (8, some 34), (9, some 35), (10, some 36), (11, some 8), (12, none), (13, some 9), (14, some 10)] a0 u (by rfl) (hsz.out 28 (by decide))
    have q30 : (putL [(1, some 28), (3, some 30), (5, some 32), (6, some 33), (7, some 26), (8, some 34), (9, some 35), (10, some 36), (11, some 8), (12, none), (13, some 9), (14, some 10)] a0 u).tmps[30]? = some (u 3) := putL_in (k := 30) (i := 3) [(1, some 28), (3, some 30), (5, some 32), (6, some 33), (7, some 26), (8, some 34), (9, some 35), (10, some 36), (11, some 8), (12, none), (13, some 9), (14, some 10)] a0 u (by rfl) (hsz.out 30 (by decide))
    have q32 : (putL [(1, some 28), (3, some 30), (5, some 32), (6, some 33), (7, some 26), (8, some 34), (9, some 35), (10, some 36), (11, some 8), (12, none), (13, some 9), (14, some 10)] a0 u).tmps[32]? = some (u 5) := putL_in (k := 32) (i := 5) [(1, some 28), (3, some 30), (5, some 32), (6, some 33), (7, some 26), (8, some 34), (9, some 35), (10, some 36), (11, some 8), (12, none), (13, some 9), (14, some 10)] a0 u (by rfl) (hsz.out 32 (by decide))
    obtain ⟨g1, e1, h1⟩ : ∃ g, u 1 = .agg #[g] ∧ Ow oRule 60 wq (F1 1) g a.rules := hN 1 (by simp)
    rw [e1] at q28
    have p3 : u 3 = .agg #[.int .i64 s.x, .int .i64 s.y, .int .i64 s.c] := hp 3 (by simp) (by kernel_rfl)
    have p5 : u 5 = .agg #[.int .i64 e.time, .int .i64 e.to, .int .i64 e.from_, .int .i64 e.count, .int .i64 e.n, .int .i64 e.kind, .int .i64 e.arg] := hp 5 (by simp) (by kernel_rfl)
    rw [p3] at q30
    rw [p5] at q32
    clear hp hN hF hD
    generalize putL [(1, some 28), (3, some 30), (5, some 32), (6, some 33), (7, some 26), (8, some 34), (9, some 35), (10, some 36), (11, some 8), (12, none), (13, some 9), (14, some 10)] a0 u = a1 at *
    go_simp
    refine (run_call _ a s e _ wq h1.rdRules hrun'.out).mono ?_
    rintro q w5 ⟨sv, ov, rfl, h5, h6, hb5⟩
    have hn1 : NL (x5N a s e xs sends outs) 6 (updV u 6 (.tuple #[stAgg3 xs, sv, ov])) w5 (fun k => wq.heap.size ≤ k ∧ k < w5.heap.size) := ⟨sv, ov, rfl, h5.bound, h6.bound⟩
    have hp1 : PPL (x5P a s e xs sends outs) 6 (updV u 6 (.tuple #[stAgg3 xs, sv, ov])) := ⟨sv, ov, rfl⟩
    exact hK _ (.tuple #[stAgg3 xs, sv, ov]) _ (fun k => wq.heap.size ≤ k ∧ k < w5.heap.size) rfl (Ch.of_below hb5) hn1 (fun k hk => ⟨.inr hk.1, hk.2⟩) hp1
  · refine stepG_pure (by rfl) (by rfl) (fun _ _ => trivial) ?_
    intro u wq hC hp
    have p12 : tup3 (stAgg3 xs) (u 6) := hp 6 (by simp) (by kernel_rfl)
    have q : (putL [(1, some 28), (3, some 30), (5, some 32), (6, some 33), (7, some 26), (8, some 34), (9, some 35), (10, some 36), (11, some 8), (12, none), (13, some 9), (14, some 10)] a0 u).eval (.tmp 33) = u 6 := eval_of (putL_in (k := 33) (i := 6) [(1, some 28), (3, some 30), (5, some 32), (6, some 33), (7, some 26), (8, some 34), (9, some 35), (10, some 36), (11, some 8), (12, none), (13, some 9), (14, some 10)] a0 u (by rfl) (hsz.out 33 (by decide)))
    generalize putL [(1, some 28), (3, some 30), (5, some 32), (6, some 33), (7, some 26), (8, some 34), (9, some 35), (10, some 36), (11, some 8), (12, none), (13, some 9), (14, some 10)] a0 u = a1 at *
    refine Exists.intro (u 6) (And.intro ?_ ?_)
    · intro K hK
      exact wp_move' (.inl (by rfl)) q hK
    · exact ⟨rfl, p12⟩
  · refine stepG_pure (by rfl) (by rfl) (fun _ _ => trivial) ?_
    intro u wq hC hp
    have p13 : [u 6] = [u 7] ∧ tup3 (stAgg3 xs) (u 7) := hp 7 (by simp) (by kernel_rfl)
    obtain ⟨-, b9, c9, e13⟩ := p13
    have q : (putL [(1, some 28), (3, some 30), (5, some 32), (6, some 33), (7, some 26), (8, some 34), (9, some 35), (10, some 36), (11, some 8), (12, none), (13, some 9), (14, some 10)] a0 u).eval (.tmp 26) = u 7 := eval_of (putL_in (k := 26) (i := 7) [(1, some 28), (3, some 30), (5, some 32), (6, some 33), (7, some 26), (8, some 34), (9, some 35), (10, some 36), (11, some 8), (12, none), (13, some 9), (14, some 10)] a0 u (by rfl) (hsz.out 26 (by decide)))
    rw [e13] at q
    generalize putL [(1, some 28), (3, some 30), (5, some 32), (6, some 33), (7, some 26), (8, some 34), (9, some 35), (10, some 36), (11, some 8), (12, none), (13, some 9), (14, some 10)] a0 u = a1 at *
    refine Exists.intro (stAgg3 xs) (And.intro ?_ ?_)
    · intro K hK
      refine wp_extract (x := .tmp 26) (n := 0) (vs := #[stAgg3 xs, b9, c9]) (v := (stAgg3 xs)) ?_ ?_ ?_ ?_
      · rfl
      · exact q
      · rfl
      · exact hK
    · exact rfl
  · refine stepG_pure (by rfl) (by rfl) (fun _ _ => trivial) ?_
    intro u wq hC hp
    have p13 : [u 6] = [u 7] ∧ tup3 (stAgg3 xs) (u 7) := hp 7 (by simp) (by kernel_rfl)
    obtain ⟨-, b9, c9, e13⟩ := p13
    have q : (putL [(1, some 28), (3, some 30), (5, some 32), (6, some 33), (7, some 26), (8, some 34), (9, some 35), (10, some 36), (11, some 8), (12, none), (13, some 9), (14, some 10)] a0 u).eval (.tmp 26) = u 7 := eval_of (putL_in (k := 26) (i := 7) [(1, some 28), (3, some 30), (5, some 32), (6, some 33), (7, some 26), (8, some 34), (9, some 35), (10, some 36), (11, some 8), (12, none), (13, some 9), (14, some 10)] a0 u (by rfl) (hsz.out 26 (by decide)))
    rw [e13] at q
    generalize putL [(1, some 28), (3, some 30), (5, some 32), (6, some 33), (7, some 26), (8, some 34), (9, some 35), (10, some 36), (11, some 8), (12, none), (13, some 9), (14, some 10)] a0 u = a1 at *
    refine Exists.intro b9 (And.intro ?_ ?_)
    · intro K hK
      refine wp_extract (x := .tmp 26) (n := 1) (vs := #[stAgg3 xs, b9, c9]) (v := b9) ?_ ?_ ?_ ?_
      · rfl
      · exact q
      · rfl
      · exact hK
    · exact fun a b c he => by have h9 : [u 7] = [Value.tuple #[a, b, c]] := he; rw [e13] at h9; simp at h9; exact h9.2.1
  · refine stepG_pure (by rfl) (by rfl) (fun _ _ => trivial) ?_
    intro u wq hC hp
    have p13 : [u 6] = [u 7] ∧ tup3 (stAgg3 xs) (u 7) := hp 7 (by simp) (by kernel_rfl)
    obtain ⟨-, b9, c9, e13⟩ := p13
    have q : (putL [(1, some 28), (3, some 30), (5, some 32), (6, some 33), (7, some 26), (8, some 34), (9, some 35), (10, some 36), (11, some 8), (12, none), (13, some 9), (14, some 10)] a0 u).eval (.tmp 26) = u 7 := eval_of (putL_in (k := 26) (i := 7) [(1, some 28), (3, some 30), (5, some 32), (6, some 33), (7, some 26), (8, some 34), (9, some 35), (10, some 36), (11, some 8), (12, none), (13, some 9), (14, some 10)] a0 u (by rfl) (hsz.out 26 (by decide)))
    rw [e13] at q
    generalize putL [(1, some 28), (3, some 30), (5, some 32), (6, some 33), (7, some 26), (8, some 34), (9, some 35), (10, some 36), (11, some 8), (12, none), (13, some 9), (14, some 10)] a0 u = a1 at *
    refine Exists.intro c9 (And.intro ?_ ?_)
    · intro K hK
      refine wp_extract (x := .tmp 26) (n := 2) (vs := #[stAgg3 xs, b9, c9]) (v := c9) ?_ ?_ ?_ ?_
      · rfl
      · exact q
      · rfl
      · exact hK
    · exact fun a b c he => by have h9 : [u 7] = [Value.tuple #[a, b, c]] := he; rw [e13] at h9; simp at h9; exact h9.2.2
  · refine stepG_mk (by rfl) (by rfl) ?_
    intro u wq F1 hC hp hN hF hD K hK
    clear hp hN hF hD
    generalize putL [(1, some 28), (3, some 30), (5, some 32), (6, some 33), (7, some 26), (8, some 34), (9, some 35), (10, some 36), (11, some 8), (12, none), (13, some 9), (14, some 10)] a0 u = a1 at *
    go_simp
    have hn1 : NL (x5N a s e xs sends outs) 11 (updV u 11 (.pointer (some ⟨wq.heap.size, 0, none⟩))) (wq.alloc (.cells #[.int .i64 0, .int .i64 0, .int .i64 0] 30)) (fun k => k = wq.heap.size) := ⟨_, rfl, rfl, heap_at rfl⟩
    exact hK _ (.pointer (some ⟨wq.heap.size, 0, none⟩)) _ (fun k => k = wq.heap.size) rfl ((Ch.refl _ _).alloc _) hn1 (fun k hk => by subst hk; exact ⟨.inr (Nat.le_refl _), by simp⟩) trivial
  · refine stepG_mk (by rfl) (by rfl) ?_
    intro u wq F1 hC hp hN hF hD K hK
    have q1 : (putL [(1, some 28), (3, some 30), (5, some 32), (6, some 33), (7, some 26), (8, some 34), (9, some 35), (10, some 36), (11, some 8), (12, none), (13, some 9), (14, some 10)] a0 u).eval (.tmp 8) = u 11 := eval_of (putL_in (k := 8) (i := 11) [(1, some 28), (3, some 30), (5, some 32), (6, some 33), (7, some 26), (8, some 34), (9, some 35), (10, some 36), (11, some 8), (12, none), (13, some 9), (14, some 10)] a0 u (by rfl) (hsz.out 8 (by decide)))
    have q2 : (putL [(1, some 28), (3, some 30), (5, some 32), (6, some 33), (7, some 26), (8, some 34), (9, some 35), (10, some 36), (11, some 8), (12, none), (13, some 9), (14, some 10)] a0 u).eval (.tmp 34) = u 8 := eval_of (putL_in (k := 34) (i := 8) [(1, some 28), (3, some 30), (5, some 32), (6, some 33), (7, some 26), (8, some 34), (9, some 35), (10, some 36), (11, some 8), (12, none), (13, some 9), (14, some 10)] a0 u (by rfl) (hsz.out 34 (by decide)))
    generalize putL [(1, some 28), (3, some 30), (5, some 32), (6, some 33), (7, some 26), (8, some 34), (9, some 35), (10, some 36), (11, some 8), (12, none), (13, some 9), (14, some 10)] a0 u = a1 at *
    obtain ⟨g, e17, f17, B17⟩ : ∃ g, u 11 = .pointer (some ⟨g, 0, none⟩) ∧ F1 11 g ∧ wq.heap[g]? = some (.cells #[.int .i64 0, .int .i64 0, .int .i64 0] 30 (0, 0)) := hN 11 (by simp)
    have p14 : u 8 = stAgg3 xs := hp 8 (by simp) (by kernel_rfl)
    have hgl := (hF 11 (by simp) g f17).2
    rw [e17] at q1
    rw [p14] at q2
    refine wp_store_mid 30 (.tmp 8) (.tmp 34) (by rfl) g 0 #[.int .i64 xs.x, .int .i64 xs.y, .int .i64 xs.c] q1 q2 (there_of_block B17 (by simp)) (by kernel_rfl) (by simp [Value.oneCell']) ?_
    have hn1 : NL (x5N a s e xs sends outs) 12 (updV u 12 undef) (wq.setCells g 0 [.int .i64 xs.x, .int .i64 xs.y, .int .i64 xs.c]) (fun k => k = g) := ⟨g, (show [u 11] = _ by rw [e17]), rfl, blk_ovw _ 0 wq [.int .i64 0, .int .i64 0, .int .i64 0] B17⟩
    exact hK _ undef _ (fun k => k = g) rfl (Ch.setCells _ _ _ (Ch.refl _ _) (.inl ⟨11, by simp, f17⟩)) hn1 (fun k hk => by subst hk; exact ⟨.inl ⟨11, by simp, f17⟩, by rw [size_setCells]; exact hgl⟩) trivial
  · refine stepG_pure (by rfl) (by rfl) (fun _ _ => trivial) ?_
    intro u wq hC hp
    have q : (putL [(1, some 28), (3, some 30), (5, some 32), (6, some 33), (7, some 26), (8, some 34), (9, some 35), (10, some 36), (11, some 8), (12, none), (13, some 9), (14, some 10)] a0 u).eval (.tmp 35) = u 9 := eval_of (putL_in (k := 35) (i := 9) [(1, some 28), (3, some 30), (5, some 32), (6, some 33), (7, some 26), (8, some 34), (9, some 35), (10, some 36), (11, some 8), (12, none), (13, some 9), (14, some 10)] a0 u (by rfl) (hsz.out 35 (by decide)))
    generalize putL [(1, some 28), (3, some 30), (5, some 32), (6, some 33), (7, some 26), (8, some 34), (9, some 35), (10, some 36), (11, some 8), (12, none), (13, some 9), (14, some 10)] a0 u = a1 at *
    refine Exists.intro (u 9) (And.intro ?_ ?_)
    · intro K hK
      exact wp_move' (.inr (by rfl)) q hK
    · exact rfl
  · refine stepG_pure (by rfl) (by rfl) (fun _ _ => trivial) ?_
    intro u wq hC hp
    have q : (putL [(1, some 28), (3, some 30), (5, some 32), (6, some 33), (7, some 26), (8, some 34), (9, some 35), (10, some 36), (11, some 8), (12, none), (13, some 9), (14, some 10)] a0 u).eval (.tmp 36) = u 10 := eval_of (putL_in (k := 36) (i := 10) [(1, some 28), (3, some 30), (5, some 32), (6, some 33), (7, some 26), (8, some 34), (9, some 35), (10, some 36), (11, some 8), (12, none), (13, some 9), (14, some 10)] a0 u (by rfl) (hsz.out 36 (by decide)))
    generalize putL [(1, some 28), (3, some 30), (5, some 32), (6, some 33), (7, some 26), (8, some 34), (9, some 35), (10, some 36), (11, some 8), (12, none), (13, some 9), (14, some 10)] a0 u = a1 at *
    refine Exists.intro (u 10) (And.intro ?_ ?_)
    · intro K hK
      exact wp_move' (.inr (by rfl)) q hK
    · exact rfl
  intro K hK u w7 F1 hC hD hF hN hpp
  obtain ⟨sv, ov, g12, n12, m12⟩ : ∃ sv ov, u 6 = .tuple #[stAgg3 xs, sv, ov] ∧ Ow tEv 40 w7 (F1 6) sv sends ∧ Ow tOut 77 w7 (F1 6) ov outs := hN 6 (by rfl)
  obtain ⟨gW, g17, f17, BX3⟩ : ∃ g, [u 11] = [.pointer (some ⟨g, 0, none⟩)] ∧ F1 12 g ∧ w7.heap[g]? = some (.cells #[.int .i64 xs.x, .int .i64 xs.y, .int .i64 xs.c] 30 (0, 0)) := hN 12 (by rfl)
  have g17 : u 11 = .pointer (some ⟨gW, 0, none⟩) := by simpa using g17
  have e3 : u 3 = .agg #[.int .i64 s.x, .int .i64 s.y, .int .i64 s.c] := hpp 3 (by simp)
  have e5 : u 5 = .agg #[.int .i64 e.time, .int .i64 e.to, .int .i64 e.from_, .int .i64 e.count, .int .i64 e.n, .int .i64 e.kind, .int .i64 e.arg] := hpp 5 (by simp)
  have p13 : [u 6] = [u 7] ∧ tup3 (stAgg3 xs) (u 7) := hpp 7 (by simp)
  have e13 : u 7 = u 6 := by have := p13.1; simp at this; exact this.symm
  have e14 : u 8 = stAgg3 xs := hpp 8 (by simp)
  have p15 : ∀ a b c, [u 7] = [.tuple #[a, b, c]] → u 9 = b := hpp 9 (by simp)
  have p16 : ∀ a b c, [u 7] = [.tuple #[a, b, c]] → u 10 = c := hpp 10 (by simp)
  have e19 : u 13 = u 9 := by have q : [u 9] = [u 13] := hpp 13 (by simp); simp at q; exact q.symm
  have e20 : u 14 = u 10 := by have q : [u 10] = [u 14] := hpp 14 (by simp); simp at q; exact q.symm
  rw [g12] at e13
  have e15 := p15 _ _ _ (by rw [e13])
  have e16 := p16 _ _ _ (by rw [e13])
  rw [e15] at e19
  rw [e16] at e20
  clear hpp p13 p15 p16
  have hgW : w1.heap.size ≤ gW ∧ gW < w7.heap.size := by have := hF 12 gW (by rfl) f17; refine ⟨?_, this.2⟩; rcases this.1 with q | q; exact q.elim; simpa using q
  have n7 := n12.mono (F' := fun k => w1.heap.size ≤ k ∧ k < w7.heap.size) (fun k hk => by have := hF 6 k (by rfl) hk; refine ⟨?_, this.2⟩; rcases this.1 with q | q; exact q.elim; simpa using q)
  have m7 := m12.mono (F' := fun k => w1.heap.size ≤ k ∧ k < w7.heap.size) (fun k hk => by have := hF 6 k (by rfl) hk; refine ⟨?_, this.2⟩; rcases this.1 with q | q; exact q.elim; simpa using q)
  have HS : Below w1.heap.size w1 w7 := ⟨hC.below0.os, hC.below0.tape, hC.below0.output, hC.below0.size, hC.below0.block⟩
  have HA : Agree w1.drew w7 := Agree.of_ch hC (fun _ hf => hf.elim)
  clear hN hF hD hC n12 m12 f17
  rw [H0.out]
  clear sA sS sE hsz H0 a0
  simp only [putL_cons, putL_nil]
  simp only [stAgg3] at g12 e13 e14
  generalize u 1 = u_1 at *
  generalize u 3 = u_3 at *
  generalize u 5 = u_5 at *
  generalize u 6 = u_6 at *
  generalize u 7 = u_7 at *
  generalize u 8 = u_8 at *
  generalize u 9 = u_9 at *
  generalize u 10 = u_10 at *
  generalize u 11 = u_11 at *
  generalize u 12 = u_12 at *
  generalize u 13 = u_13 at *
  generalize u 14 = u_14 at *
  subst g12 g17 e3 e5 e13 e14 e15 e16 e19 e20
  go_simp
  refine hK _ _ HA ?_
  clear hK K F1 HA
  refine sg_fin ?_
  simp only [pickO]
  clear c_a0 c_s0 c_s1 c_s2 c_e0 c_e1 c_e2 c_e3 c_e4 c_e5 c_e6
  replace HB := bthen HB HS HB.size
  replace X_a := below_heap HS (blk_lt X_a) X_a
  replace X_s := below_heap HS (blk_lt X_s) X_s
  replace X_e := below_heap HS (blk_lt X_e) X_e
  replace hA := hA.below HS
  have X_w := BX3; clear BX3
  have n_w1 := n7; have n_w2 := m7; clear n7 m7
  obtain ⟨s7, hs7⟩ : ∃ n, Hid (w7.heap.size ≤ n ∧ n ≤ w7.heap.size ∧ w.heap.size + 1 + 1 < n ∧ gW < n) := ⟨_, Nat.le_refl _, Nat.le_refl _, blk_lt X_e, hgW.2⟩
  replace n_w1 := n_w1.mono (F' := fun k => k < s7) (fun k hk => by have := hs7.out; have h3 : k < w7.heap.size := hk.2; show k < s7; omega)
  replace n_w2 := n_w2.mono (F' := fun k => k < s7) (fun k hk => by have := hs7.out; have h3 : k < w7.heap.size := hk.2; show k < s7; omega)
  obtain ⟨V1, b1, rfl, -⟩ := n_w1.shape
  obtain ⟨V2, b2, rfl, -⟩ := n_w2.shape
  clear hgW HS
  have c_a0 : w7.cell? ⟨w.heap.size, 0, none⟩ = some (.slice A a.rules.length c) := blk_cell X_a 0
  have c_s0 : w7.cell? ⟨w.heap.size + 1, 0, none⟩ = some (.int .i64 s.x) := blk_cell X_s 0
  have c_s1 : w7.cell? ⟨w.heap.size + 1, 1, none⟩ = some (.int .i64 s.y) := blk_cell X_s 1
  have c_s2 : w7.cell? ⟨w.heap.size + 1, 2, none⟩ = some (.int .i64 s.c) := blk_cell X_s 2
  have c_e0 : w7.cell? ⟨w.heap.size + 1 + 1, 0, none⟩ = some (.int .i64 e.time) := blk_cell X_e 0
  have c_e1 : w7.cell? ⟨w.heap.size + 1 + 1, 1, none⟩ = some (.int .i64 e.to) := blk_cell X_e 1
  have c_e2 : w7.cell? ⟨w.heap.size + 1 + 1, 2, none⟩ = some (.int .i64 e.from_) := blk_cell X_e 2
  have c_e3 : w7.cell? ⟨w.heap.size + 1 + 1, 3, none⟩ = some (.int .i64 e.count) := blk_cell X_e 3
  have c_e4 : w7.cell? ⟨w.heap.size + 1 + 1, 4, none⟩ = some (.int .i64 e.n) := blk_cell X_e 4
  have c_e5 : w7.cell? ⟨w.heap.size + 1 + 1, 5, none⟩ = some (.int .i64 e.kind) := blk_cell X_e 5
  have c_e6 : w7.cell? ⟨w.heap.size + 1 + 1, 6, none⟩ = some (.int .i64 e.arg) := blk_cell X_e 6
  have c_w0 : w7.cell? ⟨gW, 0, none⟩ = some (.int .i64 xs.x) := blk_cell X_w 0
  have c_w1 : w7.cell? ⟨gW, 1, none⟩ = some (.int .i64 xs.y) := blk_cell X_w 1
  have c_w2 : w7.cell? ⟨gW, 2, none⟩ = some (.int .i64 xs.c) := blk_cell X_w 2
  go_wp2_with fail
  refine (toApp_c a _ _ _ hA n1 n2).mono ?_
  rintro q w8 ⟨vx, rfl, n_x, hb8⟩
  replace n_x := n_x.bound
  obtain ⟨B, b, rfl, -⟩ := n_x.shape
  clear c_a0 c_s0 c_s1 c_s2 c_e0 c_e1 c_e2 c_e3 c_e4 c_e5 c_e6 c_w0 c_w1 c_w2
  replace HB := bthen HB hb8 HB.size
  replace X_a := below_heap hb8 (blk_lt X_a) X_a
  replace X_s := below_heap hb8 (blk_lt X_s) X_s
  replace X_e := below_heap hb8 (blk_lt X_e) X_e
  replace X_w := below_heap hb8 (blk_lt X_w) X_w
  replace n_w1 := n_w1.below hb8
  replace n_w2 := n_w2.below hb8
  replace hA := hA.below hb8
  obtain ⟨s8, hs8⟩ : ∃ n, Hid (w8.heap.size ≤ n ∧ n ≤ w8.heap.size ∧ s7 ≤ n) := ⟨_, Nat.le_refl _, Nat.le_refl _, by have := hs7.out; have := hb8.size; omega⟩
  replace n_x := n_x.mono (F' := fun k => s7 ≤ k ∧ k < s8) (fun k hk => by have := hs7.out; have := hs8.out; have h3 : w7.heap.size ≤ k := hk.1; have h4 : k < w8.heap.size := hk.2; exact ⟨by omega, by omega⟩)
  clear hb8
  have c_a0 : w8.cell? ⟨w.heap.size, 0, none⟩ = some (.slice A a.rules.length c) := blk_cell X_a 0
  have c_s0 : w8.cell? ⟨w.heap.size + 1, 0, none⟩ = some (.int .i64 s.x) := blk_cell X_s 0
  have c_s1 : w8.cell? ⟨w.heap.size + 1, 1, none⟩ = some (.int .i64 s.y) := blk_cell X_s 1
  have c_s2 : w8.cell? ⟨w.heap.size + 1, 2, none⟩ = some (.int .i64 s.c) := blk_cell X_s 2
  have c_e0 : w8.cell? ⟨w.heap.size + 1 + 1, 0, none⟩ = some (.int .i64 e.time) := blk_cell X_e 0
  have c_e1 : w8.cell? ⟨w.heap.size + 1 + 1, 1, none⟩ = some (.int .i64 e.to) := blk_cell X_e 1
  have c_e2 : w8.cell? ⟨w.heap.size + 1 + 1, 2, none⟩ = some (.int .i64 e.from_) := blk_cell X_e 2
  have c_e3 : w8.cell? ⟨w.heap.size + 1 + 1, 3, none⟩ = some (.int .i64 e.count) := blk_cell X_e 3
  have c_e4 : w8.cell? ⟨w.heap.size + 1 + 1, 4, none⟩ = some (.int .i64 e.n) := blk_cell X_e 4
  have c_e5 : w8.cell? ⟨w.heap.size + 1 + 1, 5, none⟩ = some (.int .i64 e.kind) := blk_cell X_e 5
  have c_e6 : w8.cell? ⟨w.heap.size + 1 + 1, 6, none⟩ = some (.int .i64 e.arg) := blk_cell X_e 6
  have c_w0 : w8.cell? ⟨gW, 0, none⟩ = some (.int .i64 xs.x) := blk_cell X_w 0
  have c_w1 : w8.cell? ⟨gW, 1, none⟩ = some (.int .i64 xs.y) := blk_cell X_w 1
  have c_w2 : w8.cell? ⟨gW, 2, none⟩ = some (.int .i64 xs.c) := blk_cell X_w 2
  apply_assumption
  go_upto_region 7 with fail
  clear c_a0 c_s0 c_s1 c_s2 c_e0 c_e1 c_e2 c_e3 c_e4 c_e5 c_e6 c_w0 c_w1 c_w2
  have hbx := balloc (Below.refl w8.heap.size w8) (.cells #[.slice B a.rules.length b] 37)
  have X_x : (w8.alloc (.cells #[.slice B a.rules.length b] 37)).heap[w8.heap.size]? = some (.cells #[.slice B a.rules.length b] 37 (0, 0)) := heap_at rfl
  replace HB := bthen HB hbx HB.size
  replace X_a := below_heap hbx (blk_lt X_a) X_a
  replace X_s := below_heap hbx (blk_lt X_s) X_s
  replace X_e := below_heap hbx (blk_lt X_e) X_e
  replace X_w := below_heap hbx (blk_lt X_w) X_w
  replace n_w1 := n_w1.below hbx
  replace n_w2 := n_w2.below hbx
  replace n_x := n_x.below hbx
  replace hA := hA.below hbx
  obtain ⟨g8, hg8⟩ : ∃ g, g = w8.heap.size := ⟨_, rfl⟩
  rw [← hg8] at X_x
  simp only [← hg8]
  have hg8' := hid (show g8 ≤ s8 ∧ s8 ≤ g8 by have := hs8.out; omega)
  generalize w8.alloc (.cells #[.slice B a.rules.length b] 37) = W at *
  clear hg8 hbx
  have hG := hid n_x.rdRules
  have c_a0 : W.cell? ⟨w.heap.size, 0, none⟩ = some (.slice A a.rules.length c) := blk_cell X_a 0
  have c_s0 : W.cell? ⟨w.heap.size + 1, 0, none⟩ = some (.int .i64 s.x) := blk_cell X_s 0
  have c_s1 : W.cell? ⟨w.heap.size + 1, 1, none⟩ = some (.int .i64 s.y) := blk_cell X_s 1
  have c_s2 : W.cell? ⟨w.heap.size + 1, 2, none⟩ = some (.int .i64 s.c) := blk_cell X_s 2
  have c_e0 : W.cell? ⟨w.heap.size + 1 + 1, 0, none⟩ = some (.int .i64 e.time) := blk_cell X_e 0
  have c_e1 : W.cell? ⟨w.heap.size + 1 + 1, 1, none⟩ = some (.int .i64 e.to) := blk_cell X_e 1
  have c_e2 : W.cell? ⟨w.heap.size + 1 + 1, 2, none⟩ = some (.int .i64 e.from_) := blk_cell X_e 2
  have c_e3 : W.cell? ⟨w.heap.size + 1 + 1, 3, none⟩ = some (.int .i64 e.count) := blk_cell X_e 3
  have c_e4 : W.cell? ⟨w.heap.size + 1 + 1, 4, none⟩ = some (.int .i64 e.n) := blk_cell X_e 4
  have c_e5 : W.cell? ⟨w.heap.size + 1 + 1, 5, none⟩ = some (.int .i64 e.kind) := blk_cell X_e 5
  have c_e6 : W.cell? ⟨w.heap.size + 1 + 1, 6, none⟩ = some (.int .i64 e.arg) := blk_cell X_e 6
  have c_w0 : W.cell? ⟨gW, 0, none⟩ = some (.int .i64 xs.x) := blk_cell X_w 0
  have c_w1 : W.cell? ⟨gW, 1, none⟩ = some (.int .i64 xs.y) := blk_cell X_w 1
  have c_w2 : W.cell? ⟨gW, 2, none⟩ = some (.int .i64 xs.c) := blk_cell X_w 2
  have c_x0 : W.cell? ⟨g8, 0, none⟩ = some (.slice B a.rules.length b) := blk_cell X_x 0
  refine region_sg [.rd [0, 1, 3], .par [(2, []), (4, []), (5, []), (6, []), (7, []), (8, []), (9, []), (10, []), (11, [10]), (12, []), (13, [])] []] [] (by kernel_rfl) (by kernel_rfl) (fun _ _ d _ _ h => by cases d <;> exact h) ?_
  refine sg_rd (fun N hN => ?_)
  simp only [pickO, List.getElem?_toArray, List.getElem?_cons_zero, List.getElem?_cons_succ]
  go_wp2_with fail
  refine rd_next (hN _ ?_)
  clear hN N
  refine sgx_name fun a0 ha0 => ?_
  have sA := hid (show a0.tmps[40]? = some (.agg #[.slice B a.rules.length b]) by rw [ha0]; rfl)
  have sS := hid (show a0.tmps[41]? = some (.agg #[.int .i64 s.x, .int .i64 s.y, .int .i64 s.c]) by rw [ha0]; rfl)
  have sE := hid (show a0.tmps[43]? = some (.agg #[.int .i64 e.time, .int .i64 e.to, .int .i64 e.from_, .int .i64 e.count, .int .i64 e.n, .int .i64 e.kind, .int .i64 e.arg]) by rw [ha0]; rfl)
  have hsz := hid (show ∀ k, k < 49 → k < a0.tmps.size from fun k hk => by rw [ha0]; exact Nat.lt_of_lt_of_le hk (by show _ ≤ Array.size _; simp))
  have H0 := hid ha0
  clear ha0
  refine sg_parG [(2, some 42), (4, some 44), (5, some 45), (6, some 39), (7, some 46), (8, some 47), (9, some 48), (10, some 12), (11, none), (12, some 13), (13, some 14)] (by rfl) (fun _ => False) (NL (x7N a s e xs sends outs)) (PPL (x7P a s e xs sends outs)) (fun _ _ => False) (PPL_upd _ (by kernel_rfl)) (NL_upd _ (by kernel_rfl)) (NL_move _ (x7N_moves a s e xs sends outs)) (fun w' hc => Agree.of_ch hc (fun _ hf => hf.elim)) (by simp) (by simp) (by simp) (parS_cons ?_ (parS_cons ?_ (parS_cons ?_ (parS_cons ?_ (parS_cons ?_ (parS_cons ?_ (parS_cons ?_ (parS_cons ?_ (parS_cons ?_ (parS_cons ?_ (parS_cons ?_ parS_nil))))))))))) ?_
  · refine stepG_mk (by rfl) (by rfl) ?_
    intro u wq F1 hC hp hN hF hD K hK
    have q41 : (putL [(2, some 42), (4, some 44), (5, some 45), (6, some 39), (7, some 46), (8, some 47), (9, some 48), (10, some 12), (11, none), (12, some 13), (13, some 14)] a0 u).tmps[41]? = _ := (putL_out (k := 41) [(2, some 42), (4, some 44), (5, some 45), (6, some 39), (7, some 46), (8, some 47), (9, some 48), (10, some 12), (11, none), (12, some 13), (13, some 14)] a0 u (by rfl)).trans sS.out
    clear hp hN hF hD
    generalize putL [(2, some 42), (4, some 44), (5, some 45), (6, some 39), (7, some 46), (8, some 47), (9, some 48), (10, some 12), (11, none), (12, some 13), (13, some 14)] a0 u = a1 at *
    go_simp
    refine (toState_c s wq).mono ?_
    rintro q w5 ⟨rfl, hb5⟩
    have hn1 : NL (x7N a s e xs sends outs) 2 (updV u 2 (.agg #[.int .i64 s.x, .int .i64 s.y, .int .i64 s.c])) w5 (fun _ => False) := trivial
    have hp1 : PPL (x7P a s e xs sends outs) 2 (updV u 2 (.agg #[.int .i64 s.x, .int .i64 s.y, .int .i64 s.c])) := rfl
    exact hK _ (.agg #[.int .i64 s.x, .int .i64 s.y, .int .i64 s.c]) _ (fun _ => False) rfl (Ch.of_below hb5) hn1 (fun k hk => hk.elim) hp1
  · refine stepG_mk (by rfl) (by rfl) ?_
    intro u wq F1 hC hp hN hF hD K hK
    have q43 : (putL [(2, some 42), (4, some 44), (5, some 45), (6, some 39), (7, some 46), (8, some 47), (9, some 48), (10, some 12), (11, none), (12, some 13), (13, some 14)] a0 u).tmps[43]? = _ := (putL_out (k := 43) [(2, some 42), (4, some 44), (5, some 45), (6, some 39), (7, some 46), (8, some 47), (9, some 48), (10, some 12), (11, none), (12, some 13), (13, some 14)] a0 u (by rfl)).trans sE.out
    clear hp hN hF hD
    generalize putL [(2, some 42), (4, some 44), (5, some 45), (6, some 39), (7, some 46), (8, some 47), (9, some 48), (10, some 12), (11, none), (12, some 13), (13, some 14)] a0 u = a1 at *
    go_simp
    refine (toEvent_c e wq).mono ?_
    rintro q w5 ⟨rfl, hb5⟩
    have hn1 : NL (x7N a s e xs sends outs) 4 (updV u 4 (.agg #[.int .i64 e.time, .int .i64 e.to, .int .i64 e.from_, .int .i64 e.count, .int .i64 e.n, .int .i64 e.kind, .int .i64 e.arg])) w5 (fun _ => False) := trivial
    have hp1 : PPL (x7P a s e xs sends outs) 4 (updV u 4 (.agg #[.int .i64 e.time, .int .i64 e.to, .int .i64 e.from_, .int .i64 e.count, .int .i64 e.n, .int .i64 e.kind, .int .i64 e.arg])) := rfl
    exact hK _ (.agg #[.int .i64 e.time, .int .i64 e.to, .int .i64 e.from_, .int .i64 e.count, .int .i64 e.n, .int .i64 e.kind, .int .i64 e.arg]) _ (fun _ => False) rfl (Ch.of_below hb5) hn1 (fun k hk => hk.elim) hp1
  · refine stepG_mk (by rfl) (by rfl) ?_
    intro u wq F1 hC hp hN hF hD K hK
    have q40 : (putL [(2, some 42), (4, some 44), (5, some 45), (6, some 39), (7, some 46), (8, some 47), (9, some 48), (10, some 12), (11, none), (12, some 13), (13, some 14)] a0 u).tmps[40]? = _ := (putL_out (k := 40) [(2, some 42), (4, some 44), (5, some 45), (6, some 39), (7, some 46), (8, some 47), (9, some 48), (10, some 12), (11, none), (12, some 13), (13, some 14)] a0 u (by rfl)).trans sA.out
    have q42 : (putL [(2, some 42), (4, some 44), (5, some 45), (6, some 39), (7, some 46), (8, some 47), (9, some 48), (10, some 12), (11, none), (12, some 13), (13, some 14)] a0 u).tmps[42]? = some (u 2) := putL_in (k := 42) (i := 2) [(2, some 42), (4, some 44), (5, some 45), (6, some 39), (7, some 46), (8, some 47), (9, some 48), (10, some 12), (11, none), (12, some 13), (13, some 14)] a0 u (by rfl) (hsz.out 42 (by decide))
    have q44 : (putL [(2, some 42), (4, some 44), (5, some 45), (6, some 39), (7, some 46), (8, some 47), (9, some 48), (10, some 12), (11, none), (12, some 13), (13, some 14)] a0 u).tmps[44]? = some (u 4) := putL_in (k := 44) (i := 4) [(2, some 42), (4, some 44), (5, some 45), (6, some 39), (7, some 46), (8, some 47), (9, some 48), (10, some 12), (11, none), (12, some 13), (13, some 14)] a0 u (by rfl) (hsz.out 44 (by decide))
    have p3 : u 2 = .agg #[.int .i64 s.x, .int .i64 s.y, .int .i64 s.c] := hp 2 (by simp) (by kernel_rfl)
    have p5 : u 4 = .agg #[.int .i64 e.time, .int .i64 e.to, .int .i64 e.from_, .int .i64 e.count, .int .i64 e.n, .int .i64 e.kind, .int .i64 e.arg] := hp 4 (by simp) (by kernel_rfl)
    rw [p3] at q42
    rw [p5] at q44
    clear hp hN hF hD
    generalize putL [(2, some 42), (4, some 44), (5, some 45), (6, some 39), (7, some 46), (8, some 47), (9, some 48), (10, some 12), (11, none), (12, some 13), (13, some 14)] a0 u = a1 at *
    go_simp
    refine (runX_call _ a s e _ wq (hG.out.below (⟨hC.below0.os, hC.below0.tape, hC.below0.output, hC.below0.size, hC.below0.block⟩ : Below W.heap.size W wq)) hrun'.out).mono ?_
    rintro q w5 ⟨sv, ov, rfl, h5, h6, hb5⟩
    have hn1 : NL (x7N a s e xs sends outs) 5 (updV u 5 (.tuple #[stAgg3 xs, sv, ov])) w5 (fun k => wq.heap.size ≤ k ∧ k < w5.heap.size) := ⟨sv, ov, rfl, h5.bound, h6.bound⟩
    have hp1 : PPL (x7P a s e xs sends outs) 5 (updV u 5 (.tuple #[stAgg3 xs, sv, ov])) := ⟨sv, ov, rfl⟩
    exact hK _ (.tuple #[stAgg3 xs, sv, ov]) _ (fun k => wq.heap.size ≤ k ∧ k < w5.heap.size) rfl (Ch.of_below hb5) hn1 (fun k hk => ⟨.inr hk.1, hk.2⟩) hp1
  · refine stepG_pure (by rfl) (by rfl) (fun _ _ => trivial) ?_
    intro u wq hC hp
    have p12 : tup3 (stAgg3 xs) (u 5) := hp 5 (by simp) (by kernel_rfl)
    have q : (putL [(2, some 42), (4, some 44), (5, some 45), (6, some 39), (7, some 46), (8, some 47), (9, some 48), (10, some 12), (11, none), (12, some 13), (13, some 14)] a0 u).eval (.tmp 45) = u 5 := eval_of (putL_in (k := 45) (i := 5) [(2, some 42), (4, some 44), (5, some 45), (6, some 39), (7, some 46), (8, some 47), (9, some 48), (10, some 12), (11, none), (12, some 13), (13, some 14)] a0 u (by rfl) (hsz.out 45 (by decide)))
    generalize putL [(2, some 42), (4, some 44), (5, some 45), (6, some 39), (7, some 46), (8, some 47), (9, some 48), (10, some 12), (11, none), (12, some 13), (13, some 14)] a0 u = a1 at *
    refine Exists.intro (u 5) (And.intro ?_ ?_)
    · intro K hK
      exact wp_move' (.inl (by rfl)) q hK
    · exact ⟨rfl, p12⟩
  · refine stepG_pure (by rfl) (by rfl) (fun _ _ => trivial) ?_
    intro u wq hC hp
    have p13 : [u 5] = [u 6] ∧ tup3 (stAgg3 xs) (u 6) := hp 6 (by simp) (by kernel_rfl)
    obtain ⟨-, b9, c9, e13⟩ := p13
    have q : (putL [(2, some 42), (4, some 44), (5, some 45), (6, some 39), (7, some 46), (8, some 47), (9, some 48), (10, some 12), (11, none), (12, some 13), (13, some 14)] a0 u).eval (.tmp 39) = u 6 := eval_of (putL_in (k := 39) (i := 6) [(2, some 42), (4, some 44), (5, some 45), (6, some 39), (7, some 46), (8, some 47), (9, some 48), (10, some 12), (11, none), (12, some 13), (13, some 14)] a0 u (by rfl) (hsz.out 39 (by decide)))
    rw [e13] at q
    generalize putL [(2, some 42), (4, some 44), (5, some 45), (6, some 39), (7, some 46), (8, some 47), (9, some 48), (10, some 12), (11, none), (12, some 13), (13, some 14)] a0 u = a1 at *
    refine Exists.intro (stAgg3 xs) (And.intro ?_ ?_)
    · intro K hK
      refine wp_extract (x := .tmp 39) (n := 0) (vs := #[stAgg3 xs, b9, c9]) (v := (stAgg3 xs)) ?_ ?_ ?_ ?_
      · rfl
      · exact q
      · rfl
      · exact hK
    · exact rfl
  · refine stepG_pure (by rfl) (by rfl) (fun _ _ => trivial) ?_
    intro u wq hC hp
    have p13 : [u 5] = [u 6] ∧ tup3 (stAgg3 xs) (u 6) := hp 6 (by simp) (by kernel_rfl)
    obtain ⟨-, b9, c9, e13⟩ := p13
    have q : (putL [(2, some 42), (4, some 44), (5, some 45), (6, some 39), (7, some 46), (8, some 47), (9, some 48), (10, some 12), (11, none), (12, some 13), (13, some 14)] a0 u).eval (.tmp 39) = u 6 := eval_of (putL_in (k := 39) (i := 6) [(2, some 42), (4, some 44), (5, some 45), (6, some 39), (7, some 46), (8, some 47), (9, some 48), (10, some 12), (11, none), (12, some 13), (13, some 14)] a0 u (by rfl) (hsz.out 39 (by decide)))
    rw [e13] at q
    generalize putL [(2, some 42), (4, some 44), (5, some 45), (6, some 39), (7, some 46), (8, some 47), (9, some 48), (10, some 12), (11, none), (12, some 13), (13, some 14)] a0 u = a1 at *
    refine Exists.intro b9 (And.intro ?_ ?_)
    · intro K hK
      refine wp_extract (x := .tmp 39) (n := 1) (vs := #[stAgg3 xs, b9, c9]) (v := b9) ?_ ?_ ?_ ?_
      · rfl
      · exact q
      · rfl
      · exact hK
    · exact fun a b c he => by have h9 : [u 6] = [Value.tuple #[a, b, c]] := he; rw [e13] at h9; simp at h9; exact h9.2.1
  · refine stepG_pure (by rfl) (by rfl) (fun _ _ => trivial) ?_
    intro u wq hC hp
    have p13 : [u 5] = [u 6] ∧ tup3 (stAgg3 xs) (u 6) := hp 6 (by simp) (by kernel_rfl)
    obtain ⟨-, b9, c9, e13⟩ := p13
    have q : (putL [(2, some 42), (4, some 44), (5, some 45), (6, some 39), (7, some 46), (8, some 47), (9, some 48), (10, some 12), (11, none), (12, some 13), (13, some 14)] a0 u).eval (.tmp 39) = u 6 := eval_of (putL_in (k := 39) (i := 6) [(2, some 42), (4, some 44), (5, some 45), (6, some 39), (7, some 46), (8, some 47), (9, some 48), (10, some 12), (11, none), (12, some 13), (13, some 14)] a0 u (by rfl) (hsz.out 39 (by decide)))
    rw [e13] at q
    generalize putL [(2, some 42), (4, some 44), (5, some 45), (6, some 39), (7, some 46), (8, some 47), (9, some 48), (10, some 12), (11, none), (12, some 13), (13, some 14)] a0 u = a1 at *
    refine Exists.intro c9 (And.intro ?_ ?_)
    · intro K hK
      refine wp_extract (x := .tmp 39) (n := 2) (vs := #[stAgg3 xs, b9, c9]) (v := c9) ?_ ?_ ?_ ?_
      · rfl
      · exact q
      · rfl
      · exact hK
    · exact fun a b c he => by have h9 : [u 6] = [Value.tuple #[a, b, c]] := he; rw [e13] at h9; simp at h9; exact h9.2.2
  · refine stepG_mk (by rfl) (by rfl) ?_
    intro u wq F1 hC hp hN hF hD K hK
    clear hp hN hF hD
    generalize putL [(2, some 42), (4, some 44), (5, some 45), (6, some 39), (7, some 46), (8, some 47), (9, some 48), (10, some 12), (11, none), (12, some 13), (13, some 14)] a0 u = a1 at *
    go_simp
    have hn1 : NL (x7N a s e xs sends outs) 10 (updV u 10 (.pointer (some ⟨wq.heap.size, 0, none⟩))) (wq.alloc (.cells #[.int .i64 0, .int .i64 0, .int .i64 0] 30)) (fun k => k = wq.heap.size) := ⟨_, rfl, rfl, heap_at rfl⟩
    exact hK _ (.pointer (some ⟨wq.heap.size, 0, none⟩)) _ (fun k => k = wq.heap.size) rfl ((Ch.refl _ _).alloc _) hn1 (fun k hk => by subst hk; exact ⟨.inr (Nat.le_refl _), by simp⟩) trivial
  · refine stepG_mk (by rfl) (by rfl) ?_
    intro u wq F1 hC hp hN hF hD K hK
    have q1 : (putL [(2, some 42), (4, some 44), (5, some 45), (6, some 39), (7, some 46), (8, some 47), (9, some 48), (10, some 12), (11, none), (12, some 13), (13, some 14)] a0 u).eval (.tmp 12) = u 10 := eval_of (putL_in (k := 12) (i := 10) [(2, some 42), (4, some 44), (5, some 45), (6, some 39), (7, some 46), (8, some 47), (9, some 48), (10, some 12), (11, none), (12, some 13), (13, some 14)] a0 u (by rfl) (hsz.out 12 (by decide)))
    have q2 : (putL [(2, some 42), (4, some 44), (5, some 45), (6, some 39), (7, some 46), (8, some 47), (9, some 48), (10, some 12), (11, none), (12, some 13), (13, some 14)] a0 u).eval (.tmp 46) = u 7 := eval_of (putL_in (k := 46) (i := 7) [(2, some 42), (4, some 44), (5, some 45), (6, some 39), (7, some 46), (8, some 47), (9, some 48), (10, some 12), (11, none), (12, some 13), (13, some 14)] a0 u (by rfl) (hsz.out 46 (by decide)))
    generalize putL [(2, some 42), (4, some 44), (5, some 45), (6, some 39), (7, some 46), (8, some 47), (9, some 48), (10, some 12), (11, none), (12, some 13), (13, some 14)] a0 u = a1 at *
    obtain ⟨g, e17, f17, B17⟩ : ∃ g, u 10 = .pointer (some ⟨g, 0, none⟩) ∧ F1 10 g ∧ wq.heap[g]? = some (.cells #[.int .i64 0, .int .i64 0, .int .i64 0] 30 (0, 0)) := hN 10 (by simp)
    have p14 : u 7 = stAgg3 xs := hp 7 (by simp) (by kernel_rfl)
    have hgl := (hF 10 (by simp) g f17).2
    rw [e17] at q1
    rw [p14] at q2
    refine wp_store_mid 30 (.tmp 12) (.tmp 46) (by rfl) g 0 #[.int .i64 xs.x, .int .i64 xs.y, .int .i64 xs.c] q1 q2 (there_of_block B17 (by simp)) (by kernel_rfl) (by simp [Value.oneCell']) ?_
    have hn1 : NL (x7N a s e xs sends outs) 11 (updV u 11 undef) (wq.setCells g 0 [.int .i64 xs.x, .int .i64 xs.y, .int .i64 xs.c]) (fun k => k = g) := ⟨g, (show [u 10] = _ by rw [e17]), rfl, blk_ovw _ 0 wq [.int .i64 0, .int .i64 0, .int .i64 0] B17⟩
    exact hK _ undef _ (fun k => k = g) rfl (Ch.setCells _ _ _ (Ch.refl _ _) (.inl ⟨10, by simp, f17⟩)) hn1 (fun k hk => by subst hk; exact ⟨.inl ⟨10, by simp, f17⟩, by rw [size_setCells]; exact hgl⟩) trivial
  · refine stepG_pure (by rfl) (by rfl) (fun _ _ => trivial) ?_
    intro u wq hC hp
    have q : (putL [(2, some 42), (4, some 44), (5, some 45), (6, some 39), (7, some 46), (8, some 47), (9, some 48), (10, some 12), (11, none), (12, some 13), (13, some 14)] a0 u).eval (.tmp 47) = u 8 := eval_of (putL_in (k := 47) (i := 8) [(2, some 42), (4, some 44), (5, some 45), (6, some 39), (7, some 46), (8, some 47), (9, some 48), (10, some 12), (11, none), (12, some 13), (13, some 14)] a0 u (by rfl) (hsz.out 47 (by decide)))
    generalize putL [(2, some 42), (4, some 44), (5, some 45), (6, some 39), (7, some 46), (8, some 47), (9, some 48), (10, some 12), (11, none), (12, some 13), (13, some 14)] a0 u = a1 at *
    refine Exists.intro (u 8) (And.intro ?_ ?_)
    · intro K hK
      exact wp_move' (.inr (by rfl)) q hK
    · exact rfl
  · refine stepG_pure (by rfl) (by rfl) (fun _ _ => trivial) ?_
    intro u wq hC hp
    have q : (putL [(2, some 42), (4, some 44), (5, some 45), (6, some 39), (7, some 46), (8, some 47), (9, some 48), (10, some 12), (11, none), (12, some 13), (13, some 14)] a0 u).eval (.tmp 48) = u 9 := eval_of (putL_in (k := 48) (i := 9) [(2, some 42), (4, some 44), (5, some 45), (6, some 39), (7, some 46), (8, some 47), (9, some 48), (10, some 12), (11, none), (12, some 13), (13, some 14)] a0 u (by rfl) (hsz.out 48 (by decide)))
    generalize putL [(2, some 42), (4, some 44), (5, some 45), (6, some 39), (7, some 46), (8, some 47), (9, some 48), (10, some 12), (11, none), (12, some 13), (13, some 14)] a0 u = a1 at *
    refine Exists.intro (u 9) (And.intro ?_ ?_)
    · intro K hK
      exact wp_move' (.inr (by rfl)) q hK
    · exact rfl
  intro K hK u w9 F1 hC hD hF hN hpp
  obtain ⟨sv, ov, g12, n12, m12⟩ : ∃ sv ov, u 5 = .tuple #[stAgg3 xs, sv, ov] ∧ Ow tEv 40 w9 (F1 5) sv sends ∧ Ow tOut 77 w9 (F1 5) ov outs := hN 5 (by rfl)
  obtain ⟨gG, g17, f17, BX3⟩ : ∃ g, [u 10] = [.pointer (some ⟨g, 0, none⟩)] ∧ F1 11 g ∧ w9.heap[g]? = some (.cells #[.int .i64 xs.x, .int .i64 xs.y, .int .i64 xs.c] 30 (0, 0)) := hN 11 (by rfl)
  have g17 : u 10 = .pointer (some ⟨gG, 0, none⟩) := by simpa using g17
  have e3 : u 2 = .agg #[.int .i64 s.x, .int .i64 s.y, .int .i64 s.c] := hpp 2 (by simp)
  have e5 : u 4 = .agg #[.int .i64 e.time, .int .i64 e.to, .int .i64 e.from_, .int .i64 e.count, .int .i64 e.n, .int .i64 e.kind, .int .i64 e.arg] := hpp 4 (by simp)
  have p13 : [u 5] = [u 6] ∧ tup3 (stAgg3 xs) (u 6) := hpp 6 (by simp)
  have e13 : u 6 = u 5 := by have := p13.1; simp at this; exact this.symm
  have e14 : u 7 = stAgg3 xs := hpp 7 (by simp)
  have p15 : ∀ a b c, [u 6] = [.tuple #[a, b, c]] → u 8 = b := hpp 8 (by simp)
  have p16 : ∀ a b c, [u 6] = [.tuple #[a, b, c]] → u 9 = c := hpp 9 (by simp)
  have e19 : u 12 = u 8 := by have q : [u 8] = [u 12] := hpp 12 (by simp); simp at q; exact q.symm
  have e20 : u 13 = u 9 := by have q : [u 9] = [u 13] := hpp 13 (by simp); simp at q; exact q.symm
  rw [g12] at e13
  have e15 := p15 _ _ _ (by rw [e13])
  have e16 := p16 _ _ _ (by rw [e13])
  rw [e15] at e19
  rw [e16] at e20
  clear hpp p13 p15 p16
  have hgG : W.heap.size ≤ gG ∧ gG < w9.heap.size := by have := hF 11 gG (by rfl) f17; refine ⟨?_, this.2⟩; rcases this.1 with q | q; exact q.elim; simpa using q
  have n7 := n12.mono (F' := fun k => W.heap.size ≤ k ∧ k < w9.heap.size) (fun k hk => by have := hF 5 k (by rfl) hk; refine ⟨?_, this.2⟩; rcases this.1 with q | q; exact q.elim; simpa using q)
  have m7 := m12.mono (F' := fun k => W.heap.size ≤ k ∧ k < w9.heap.size) (fun k hk => by have := hF 5 k (by rfl) hk; refine ⟨?_, this.2⟩; rcases this.1 with q | q; exact q.elim; simpa using q)
  have HS : Below W.heap.size W w9 := ⟨hC.below0.os, hC.below0.tape, hC.below0.output, hC.below0.size, hC.below0.block⟩
  have HA : Agree W.drew w9 := Agree.of_ch hC (fun _ hf => hf.elim)
  clear hN hF hD hC n12 m12 f17
  rw [H0.out]
  clear sA sS sE hsz H0 a0
  simp only [putL_cons, putL_nil]
  simp only [stAgg3] at g12 e13 e14
  generalize u 2 = u_2 at *
  generalize u 4 = u_4 at *
  generalize u 5 = u_5 at *
  generalize u 6 = u_6 at *
  generalize u 7 = u_7 at *
  generalize u 8 = u_8 at *
  generalize u 9 = u_9 at *
  generalize u 10 = u_10 at *
  generalize u 11 = u_11 at *
  generalize u 12 = u_12 at *
  generalize u 13 = u_13 at *
  subst g12 g17 e3 e5 e13 e14 e15 e16 e19 e20
  go_simp
  refine hK _ _ HA ?_
  clear hK K F1 HA
  refine sg_fin ?_
  simp only [pickO]
  clear c_a0 c_s0 c_s1 c_s2 c_e0 c_e1 c_e2 c_e3 c_e4 c_e5 c_e6 c_w0 c_w1 c_w2 c_x0
  have hWs := hid (show g8 < W.heap.size from blk_lt X_x)
  replace HB := bthen HB HS HB.size
  replace X_a := below_heap HS (blk_lt X_a) X_a
  replace X_s := below_heap HS (blk_lt X_s) X_s
  replace X_e := below_heap HS (blk_lt X_e) X_e
  replace X_w := below_heap HS (blk_lt X_w) X_w
  replace X_x := below_heap HS (blk_lt X_x) X_x
  replace n_w1 := n_w1.below HS
  replace n_w2 := n_w2.below HS
  replace n_x := n_x.below HS
  replace hA := hA.below HS
  have X_g := BX3; have n_g1 := n7; have n_g2 := m7; clear BX3 n7 m7
  have hgG' := hid (show s8 < gG by have := hg8'.out; have := hWs.out; have := hgG.1; omega)
  replace n_g1 := n_g1.mono (F' := fun k => s8 ≤ k) (fun k hk => by have := hg8'.out; have := hWs.out; have h3 : W.heap.size ≤ k := hk.1; show s8 ≤ k; omega)
  replace n_g2 := n_g2.mono (F' := fun k => s8 ≤ k) (fun k hk => by have := hg8'.out; have := hWs.out; have h3 : W.heap.size ≤ k := hk.1; show s8 ≤ k; omega)
  obtain ⟨G1, d1, rfl, -⟩ := n_g1.shape
  obtain ⟨G2, d2, rfl, -⟩ := n_g2.shape
  clear hgG HS hWs hG
  have c_a0 : w9.cell? ⟨w.heap.size, 0, none⟩ = some (.slice A a.rules.length c) := blk_cell X_a 0
  have c_s0 : w9.cell? ⟨w.heap.size + 1, 0, none⟩ = some (.int .i64 s.x) := blk_cell X_s 0
  have c_s1 : w9.cell? ⟨w.heap.size + 1, 1, none⟩ = some (.int .i64 s.y) := blk_cell X_s 1
  have c_s2 : w9.cell? ⟨w.heap.size + 1, 2, none⟩ = some (.int .i64 s.c) := blk_cell X_s 2
  have c_e0 : w9.cell? ⟨w.heap.size + 1 + 1, 0, none⟩ = some (.int .i64 e.time) := blk_cell X_e 0
  have c_e1 : w9.cell? ⟨w.heap.size + 1 + 1, 1, none⟩ = some (.int .i64 e.to) := blk_cell X_e 1
  have c_e2 : w9.cell? ⟨w.heap.size + 1 + 1, 2, none⟩ = some (.int .i64 e.from_) := blk_cell X_e 2
  have c_e3 : w9.cell? ⟨w.heap.size + 1 + 1, 3, none⟩ = some (.int .i64 e.count) := blk_cell X_e 3
  have c_e4 : w9.cell? ⟨w.heap.size + 1 + 1, 4, none⟩ = some (.int .i64 e.n) := blk_cell X_e 4
  have c_e5 : w9.cell? ⟨w.heap.size + 1 + 1, 5, none⟩ = some (.int .i64 e.kind) := blk_cell X_e 5
  have c_e6 : w9.cell? ⟨w.heap.size + 1 + 1, 6, none⟩ = some (.int .i64 e.arg) := blk_cell X_e 6
  have c_w0 : w9.cell? ⟨gW, 0, none⟩ = some (.int .i64 xs.x) := blk_cell X_w 0
  have c_w1 : w9.cell? ⟨gW, 1, none⟩ = some (.int .i64 xs.y) := blk_cell X_w 1
  have c_w2 : w9.cell? ⟨gW, 2, none⟩ = some (.int .i64 xs.c) := blk_cell X_w 2
  have c_x0 : w9.cell? ⟨g8, 0, none⟩ = some (.slice B a.rules.length b) := blk_cell X_x 0
  have c_g0 : w9.cell? ⟨gG, 0, none⟩ = some (.int .i64 xs.x) := blk_cell X_g 0
  have c_g1 : w9.cell? ⟨gG, 1, none⟩ = some (.int .i64 xs.y) := blk_cell X_g 1
  have c_g2 : w9.cell? ⟨gG, 2, none⟩ = some (.int .i64 xs.c) := blk_cell X_g 2
  go_wp2_with fail
  refine (eqStateX xs _).mono ?_
  rintro q w10 ⟨rfl, hb10⟩
  clear c_a0 c_s0 c_s1 c_s2 c_e0 c_e1 c_e2 c_e3 c_e4 c_e5 c_e6 c_w0 c_w1 c_w2 c_x0 c_g0 c_g1 c_g2
  replace HB := bthen HB hb10 HB.size
  replace X_a := below_heap hb10 (blk_lt X_a) X_a
  replace X_s := below_heap hb10 (blk_lt X_s) X_s
  replace X_e := below_heap hb10 (blk_lt X_e) X_e
  replace X_w := below_heap hb10 (blk_lt X_w) X_w
  replace X_x := below_heap hb10 (blk_lt X_x) X_x
  replace X_g := below_heap hb10 (blk_lt X_g) X_g
  replace n_w1 := n_w1.below hb10
  replace n_w2 := n_w2.below hb10
  replace n_x := n_x.below hb10
  replace n_g1 := n_g1.below hb10
  replace n_g2 := n_g2.below hb10
  replace hA := hA.below hb10
  clear hb10
  have c_a0 : w10.cell? ⟨w.heap.size, 0, none⟩ = some (.slice A a.rules.length c) := blk_cell X_a 0
  have c_s0 : w10.cell? ⟨w.heap.size + 1, 0, none⟩ = some (.int .i64 s.x) := blk_cell X_s 0
  have c_s1 : w10.cell? ⟨w.heap.size + 1, 1, none⟩ = some (.int .i64 s.y) := blk_cell X_s 1
  have c_s2 : w10.cell? ⟨w.heap.size + 1, 2, none⟩ = some (.int .i64 s.c) := blk_cell X_s 2
  have c_e0 : w10.cell? ⟨w.heap.size + 1 + 1, 0, none⟩ = some (.int .i64 e.time) := blk_cell X_e 0
  have c_e1 : w10.cell? ⟨w.heap.size + 1 + 1, 1, none⟩ = some (.int .i64 e.to) := blk_cell X_e 1
  have c_e2 : w10.cell? ⟨w.heap.size + 1 + 1, 2, none⟩ = some (.int .i64 e.from_) := blk_cell X_e 2
  have c_e3 : w10.cell? ⟨w.heap.size + 1 + 1, 3, none⟩ = some (.int .i64 e.count) := blk_cell X_e 3
  have c_e4 : w10.cell? ⟨w.heap.size + 1 + 1, 4, none⟩ = some (.int .i64 e.n) := blk_cell X_e 4
  have c_e5 : w10.cell? ⟨w.heap.size + 1 + 1, 5, none⟩ = some (.int .i64 e.kind) := blk_cell X_e 5
  have c_e6 : w10.cell? ⟨w.heap.size + 1 + 1, 6, none⟩ = some (.int .i64 e.arg) := blk_cell X_e 6
  have c_w0 : w10.cell? ⟨gW, 0, none⟩ = some (.int .i64 xs.x) := blk_cell X_w 0
  have c_w1 : w10.cell? ⟨gW, 1, none⟩ = some (.int .i64 xs.y) := blk_cell X_w 1
  have c_w2 : w10.cell? ⟨gW, 2, none⟩ = some (.int .i64 xs.c) := blk_cell X_w 2
  have c_x0 : w10.cell? ⟨g8, 0, none⟩ = some (.slice B a.rules.length b) := blk_cell X_x 0
  have c_g0 : w10.cell? ⟨gG, 0, none⟩ = some (.int .i64 xs.x) := blk_cell X_g 0
  have c_g1 : w10.cell? ⟨gG, 1, none⟩ = some (.int .i64 xs.y) := blk_cell X_g 1
  have c_g2 : w10.cell? ⟨gG, 2, none⟩ = some (.int .i64 xs.c) := blk_cell X_g 2
  apply_assumption
  go_wp2_with fail
  refine (eqEventSX _ _ sends _ _ _ n_g1.rd n_w1.rd).mono ?_
  rintro q w11 ⟨rfl, hb11⟩
  clear c_a0 c_s0 c_s1 c_s2 c_e0 c_e1 c_e2 c_e3 c_e4 c_e5 c_e6 c_w0 c_w1 c_w2 c_x0 c_g0 c_g1 c_g2
  replace HB := bthen HB hb11 HB.size
  replace X_a := below_heap hb11 (blk_lt X_a) X_a
  replace X_s := below_heap hb11 (blk_lt X_s) X_s
  replace X_e := below_heap hb11 (blk_lt X_e) X_e
  replace X_w := below_heap hb11 (blk_lt X_w) X_w
  replace X_x := below_heap hb11 (blk_lt X_x) X_x
  replace X_g := below_heap hb11 (blk_lt X_g) X_g
  replace n_w1 := n_w1.below hb11
  replace n_w2 := n_w2.below hb11
  replace n_x := n_x.below hb11
  replace n_g1 := n_g1.below hb11
  replace n_g2 := n_g2.below hb11
  replace hA := hA.below hb11
  clear hb11
  have c_a0 : w11.cell? ⟨w.heap.size, 0, none⟩ = some (.slice A a.rules.length c) := blk_cell X_a 0
  have c_s0 : w11.cell? ⟨w.heap.size + 1, 0, none⟩ = some (.int .i64 s.x) := blk_cell X_s 0
  have c_s1 : w11.cell? ⟨w.heap.size + 1, 1, none⟩ = some (.int .i64 s.y) := blk_cell X_s 1
  have c_s2 : w11.cell? ⟨w.heap.size + 1, 2, none⟩ = some (.int .i64 s.c) := blk_cell X_s 2
  have c_e0 : w11.cell? ⟨w.heap.size + 1 + 1, 0, none⟩ = some (.int .i64 e.time) := blk_cell X_e 0
  have c_e1 : w11.cell? ⟨w.heap.size + 1 + 1, 1, none⟩ = some (.int .i64 e.to) := blk_cell X_e 1
  have c_e2 : w11.cell? ⟨w.heap.size + 1 + 1, 2, none⟩ = some (.int .i64 e.from_) := blk_cell X_e 2
  have c_e3 : w11.cell? ⟨w.heap.size + 1 + 1, 3, none⟩ = some (.int .i64 e.count) := blk_cell X_e 3
  have c_e4 : w11.cell? ⟨w.heap.size + 1 + 1, 4, none⟩ = some (.int .i64 e.n) := blk_cell X_e 4
  have c_e5 : w11.cell? ⟨w.heap.size + 1 + 1, 5, none⟩ = some (.int .i64 e.kind) := blk_cell X_e 5
  have c_e6 : w11.cell? ⟨w.heap.size + 1 + 1, 6, none⟩ = some (.int .i64 e.arg) := blk_cell X_e 6
  have c_w0 : w11.cell? ⟨gW, 0, none⟩ = some (.int .i64 xs.x) := blk_cell X_w 0
  have c_w1 : w11.cell? ⟨gW, 1, none⟩ = some (.int .i64 xs.y) := blk_cell X_w 1
  have c_w2 : w11.cell? ⟨gW, 2, none⟩ = some (.int .i64 xs.c) := blk_cell X_w 2
  have c_x0 : w11.cell? ⟨g8, 0, none⟩ = some (.slice B a.rules.length b) := blk_cell X_x 0
  have c_g0 : w11.cell? ⟨gG, 0, none⟩ = some (.int .i64 xs.x) := blk_cell X_g 0
  have c_g1 : w11.cell? ⟨gG, 1, none⟩ = some (.int .i64 xs.y) := blk_cell X_g 1
  have c_g2 : w11.cell? ⟨gG, 2, none⟩ = some (.int .i64 xs.c) := blk_cell X_g 2
  apply_assumption
  go_wp2_with fail
  refine (eqOutSX _ _ outs _ _ _ n_g2.rd n_w2.rd).mono ?_
  rintro q w12 ⟨rfl, hb12⟩
  clear c_a0 c_s0 c_s1 c_s2 c_e0 c_e1 c_e2 c_e3 c_e4 c_e5 c_e6 c_w0 c_w1 c_w2 c_x0 c_g0 c_g1 c_g2
  replace HB := bthen HB hb12 HB.size
  replace X_a := below_heap hb12 (blk_lt X_a) X_a
  replace X_s := below_heap hb12 (blk_lt X_s) X_s
  replace X_e := below_heap hb12 (blk_lt X_e) X_e
  replace X_w := below_heap hb12 (blk_lt X_w) X_w
  replace X_x := below_heap hb12 (blk_lt X_x) X_x
  replace X_g := below_heap hb12 (blk_lt X_g) X_g
  replace n_w1 := n_w1.below hb12
  replace n_w2 := n_w2.below hb12
  replace n_x := n_x.below hb12
  replace n_g1 := n_g1.below hb12
  replace n_g2 := n_g2.below hb12
  replace hA := hA.below hb12
  clear hb12
  have c_a0 : w12.cell? ⟨w.heap.size, 0, none⟩ = some (.slice A a.rules.length c) := blk_cell X_a 0
  have c_s0 : w12.cell? ⟨w.heap.size + 1, 0, none⟩ = some (.int .i64 s.x) := blk_cell X_s 0
  have c_s1 : w12.cell? ⟨w.heap.size + 1, 1, none⟩ = some (.int .i64 s.y) := blk_cell X_s 1
  have c_s2 : w12.cell? ⟨w.heap.size + 1, 2, none⟩ = some (.int .i64 s.c) := blk_cell X_s 2
  have c_e0 : w12.cell? ⟨w.heap.size + 1 + 1, 0, none⟩ = some (.int .i64 e.time) := blk_cell X_e 0
  have c_e1 : w12.cell? ⟨w.heap.size + 1 + 1, 1, none⟩ = some (.int .i64 e.to) := blk_cell X_e 1
  have c_e2 : w12.cell? ⟨w.heap.size + 1 + 1, 2, none⟩ = some (.int .i64 e.from_) := blk_cell X_e 2
  have c_e3 : w12.cell? ⟨w.heap.size + 1 + 1, 3, none⟩ = some (.int .i64 e.count) := blk_cell X_e 3
  have c_e4 : w12.cell? ⟨w.heap.size + 1 + 1, 4, none⟩ = some (.int .i64 e.n) := blk_cell X_e 4
  have c_e5 : w12.cell? ⟨w.heap.size + 1 + 1, 5, none⟩ = some (.int .i64 e.kind) := blk_cell X_e 5
  have c_e6 : w12.cell? ⟨w.heap.size + 1 + 1, 6, none⟩ = some (.int .i64 e.arg) := blk_cell X_e 6
  have c_w0 : w12.cell? ⟨gW, 0, none⟩ = some (.int .i64 xs.x) := blk_cell X_w 0
  have c_w1 : w12.cell? ⟨gW, 1, none⟩ = some (.int .i64 xs.y) := blk_cell X_w 1
  have c_w2 : w12.cell? ⟨gW, 2, none⟩ = some (.int .i64 xs.c) := blk_cell X_w 2
  have c_x0 : w12.cell? ⟨g8, 0, none⟩ = some (.slice B a.rules.length b) := blk_cell X_x 0
  have c_g0 : w12.cell? ⟨gG, 0, none⟩ = some (.int .i64 xs.x) := blk_cell X_g 0
  have c_g1 : w12.cell? ⟨gG, 1, none⟩ = some (.int .i64 xs.y) := blk_cell X_g 1
  have c_g2 : w12.cell? ⟨gG, 2, none⟩ = some (.int .i64 xs.c) := blk_cell X_g 2
  apply_assumption
  go_upto_region 10 with fail
  refine region_sg [.rd [0, 1], .mid 2] [3, 4] (by kernel_rfl) (by kernel_rfl) (fun _ _ d _ _ h => by cases d <;> exact h) ?_
  refine sg_rd (fun N hN => ?_)
  simp only [pickO, List.getElem?_toArray, List.getElem?_cons_zero, List.getElem?_cons_succ]
  go_wp2_with fail
  refine rd_next (hN _ ?_)
  clear hN N
  refine sg_mid (fun N hN => ?_)
  simp only [pickO, List.getElem?_toArray, List.getElem?_cons_zero, List.getElem?_cons_succ]
  go_wp2_with fail
  have hbd := (Below.refl w12.heap.size w12).drew
  refine (toApp_c a _ _ _ (hA.below hbd) n1 n2).mono ?_
  rintro q w13 ⟨vy, rfl, n_y, hb13⟩
  obtain ⟨By, dy, rfl, -⟩ := n_y.shape
  apply_assumption
  refine mid_next (Agree.of_below hb13) (hN _ _ ?_)
  clear hN
  refine sg_fin ?_
  simp only [pickO, List.getElem?_toArray, List.getElem?_cons_zero, List.getElem?_cons_succ]
  clear c_a0 c_s0 c_s1 c_s2 c_e0 c_e1 c_e2 c_e3 c_e4 c_e5 c_e6 c_w0 c_w1 c_w2 c_x0 c_g0 c_g1 c_g2
  replace hb13 := bthen' hbd hb13
  replace HB := bthen HB hb13 HB.size
  replace X_a := below_heap hb13 (blk_lt X_a) X_a
  replace X_s := below_heap hb13 (blk_lt X_s) X_s
  replace X_e := below_heap hb13 (blk_lt X_e) X_e
  replace X_w := below_heap hb13 (blk_lt X_w) X_w
  replace X_x := below_heap hb13 (blk_lt X_x) X_x
  replace X_g := below_heap hb13 (blk_lt X_g) X_g
  replace n_w1 := n_w1.below hb13
  replace n_w2 := n_w2.below hb13
  replace n_x := n_x.below hb13
  replace n_g1 := n_g1.below hb13
  replace n_g2 := n_g2.below hb13
  replace hA := hA.below hb13
  clear hb13 hbd
  have c_a0 : w13.cell? ⟨w.heap.size, 0, none⟩ = some (.slice A a.rules.length c) := blk_cell X_a 0
  have c_s0 : w13.cell? ⟨w.heap.size + 1, 0, none⟩ = some (.int .i64 s.x) := blk_cell X_s 0
  have c_s1 : w13.cell? ⟨w.heap.size + 1, 1, none⟩ = some (.int .i64 s.y) := blk_cell X_s 1
  have c_s2 : w13.cell? ⟨w.heap.size + 1, 2, none⟩ = some (.int .i64 s.c) := blk_cell X_s 2
  have c_e0 : w13.cell? ⟨w.heap.size + 1 + 1, 0, none⟩ = some (.int .i64 e.time) := blk_cell X_e 0
  have c_e1 : w13.cell? ⟨w.heap.size + 1 + 1, 1, none⟩ = some (.int .i64 e.to) := blk_cell X_e 1
  have c_e2 : w13.cell? ⟨w.heap.size + 1 + 1, 2, none⟩ = some (.int .i64 e.from_) := blk_cell X_e 2
  have c_e3 : w13.cell? ⟨w.heap.size + 1 + 1, 3, none⟩ = some (.int .i64 e.count) := blk_cell X_e 3
  have c_e4 : w13.cell? ⟨w.heap.size + 1 + 1, 4, none⟩ = some (.int .i64 e.n) := blk_cell X_e 4
  have c_e5 : w13.cell? ⟨w.heap.size + 1 + 1, 5, none⟩ = some (.int .i64 e.kind) := blk_cell X_e 5
  have c_e6 : w13.cell? ⟨w.heap.size + 1 + 1, 6, none⟩ = some (.int .i64 e.arg) := blk_cell X_e 6
  have c_w0 : w13.cell? ⟨gW, 0, none⟩ = some (.int .i64 xs.x) := blk_cell X_w 0
  have c_w1 : w13.cell? ⟨gW, 1, none⟩ = some (.int .i64 xs.y) := blk_cell X_w 1
  have c_w2 : w13.cell? ⟨gW, 2, none⟩ = some (.int .i64 xs.c) := blk_cell X_w 2
  have c_x0 : w13.cell? ⟨g8, 0, none⟩ = some (.slice B a.rules.length b) := blk_cell X_x 0
  have c_g0 : w13.cell? ⟨gG, 0, none⟩ = some (.int .i64 xs.x) := blk_cell X_g 0
  have c_g1 : w13.cell? ⟨gG, 1, none⟩ = some (.int .i64 xs.y) := blk_cell X_g 1
  have c_g2 : w13.cell? ⟨gG, 2, none⟩ = some (.int .i64 xs.c) := blk_cell X_g 2
  go_wp2_with fail
  refine (eqAppX a _ _ _ _ _ n_x.rdRules n_y.rdRules).mono ?_
  rintro q w14 ⟨rfl, hb14⟩
  clear c_a0 c_s0 c_s1 c_s2 c_e0 c_e1 c_e2 c_e3 c_e4 c_e5 c_e6 c_w0 c_w1 c_w2 c_x0 c_g0 c_g1 c_g2
  replace HB := bthen HB hb14 HB.size
  replace X_a := below_heap hb14 (blk_lt X_a) X_a
  replace X_s := below_heap hb14 (blk_lt X_s) X_s
  replace X_e := below_heap hb14 (blk_lt X_e) X_e
  replace X_w := below_heap hb14 (blk_lt X_w) X_w
  replace X_x := below_heap hb14 (blk_lt X_x) X_x
  replace X_g := below_heap hb14 (blk_lt X_g) X_g
  replace n_w1 := n_w1.below hb14
  replace n_w2 := n_w2.below hb14
  replace n_x := n_x.below hb14
  replace n_g1 := n_g1.below hb14
  replace n_g2 := n_g2.below hb14
  replace hA := hA.below hb14
  clear n_y
  clear hb14
  have c_a0 : w14.cell? ⟨w.heap.size, 0, none⟩ = some (.slice A a.rules.length c) := blk_cell X_a 0
  have c_s0 : w14.cell? ⟨w.heap.size + 1, 0, none⟩ = some (.int .i64 s.x) := blk_cell X_s 0
  have c_s1 : w14.cell? ⟨w.heap.size + 1, 1, none⟩ = some (.int .i64 s.y) := blk_cell X_s 1
  have c_s2 : w14.cell? ⟨w.heap.size + 1, 2, none⟩ = some (.int .i64 s.c) := blk_cell X_s 2
  have c_e0 : w14.cell? ⟨w.heap.size + 1 + 1, 0, none⟩ = some (.int .i64 e.time) := blk_cell X_e 0
  have c_e1 : w14.cell? ⟨w.heap.size + 1 + 1, 1, none⟩ = some (.int .i64 e.to) := blk_cell X_e 1
  have c_e2 : w14.cell? ⟨w.heap.size + 1 + 1, 2, none⟩ = some (.int .i64 e.from_) := blk_cell X_e 2
  have c_e3 : w14.cell? ⟨w.heap.size + 1 + 1, 3, none⟩ = some (.int .i64 e.count) := blk_cell X_e 3
  have c_e4 : w14.cell? ⟨w.heap.size + 1 + 1, 4, none⟩ = some (.int .i64 e.n) := blk_cell X_e 4
  have c_e5 : w14.cell? ⟨w.heap.size + 1 + 1, 5, none⟩ = some (.int .i64 e.kind) := blk_cell X_e 5
  have c_e6 : w14.cell? ⟨w.heap.size + 1 + 1, 6, none⟩ = some (.int .i64 e.arg) := blk_cell X_e 6
  have c_w0 : w14.cell? ⟨gW, 0, none⟩ = some (.int .i64 xs.x) := blk_cell X_w 0
  have c_w1 : w14.cell? ⟨gW, 1, none⟩ = some (.int .i64 xs.y) := blk_cell X_w 1
  have c_w2 : w14.cell? ⟨gW, 2, none⟩ = some (.int .i64 xs.c) := blk_cell X_w 2
  have c_x0 : w14.cell? ⟨g8, 0, none⟩ = some (.slice B a.rules.length b) := blk_cell X_x 0
  have c_g0 : w14.cell? ⟨gG, 0, none⟩ = some (.int .i64 xs.x) := blk_cell X_g 0
  have c_g1 : w14.cell? ⟨gG, 1, none⟩ = some (.int .i64 xs.y) := blk_cell X_g 1
  have c_g2 : w14.cell? ⟨gG, 2, none⟩ = some (.int .i64 xs.c) := blk_cell X_g 2
  apply_assumption
  go_wp2_with fail
  refine (markApp_c _ a 1 _ _ n_x (by decide) (by decide) HSZ.out).mono ?_
  rintro q w15 ⟨rfl, hc⟩
  clear c_a0 c_s0 c_s1 c_s2 c_e0 c_e1 c_e2 c_e3 c_e4 c_e5 c_e6 c_w0 c_w1 c_w2 c_x0 c_g0 c_g1 c_g2
  clear n_x
  replace HB := HB.trans (hc.below (B := w.heap.size) (fun k hk => by have h7 := hs7.out; have h3 : s7 ≤ k := hk.1; omega) HB.size)
  replace X_a := hc.heap X_a (fun hq => by have h7 := hs7.out; have h8 := hs8.out; have h3 : s7 ≤ w.heap.size := hq.1; omega)
  replace X_s := hc.heap X_s (fun hq => by have h7 := hs7.out; have h8 := hs8.out; have h3 : s7 ≤ w.heap.size + 1 := hq.1; omega)
  replace X_e := hc.heap X_e (fun hq => by have h7 := hs7.out; have h8 := hs8.out; have h3 : s7 ≤ w.heap.size + 1 + 1 := hq.1; omega)
  replace X_w := hc.heap X_w (fun hq => by have h7 := hs7.out; have h8 := hs8.out; have h3 : s7 ≤ gW := hq.1; omega)
  replace X_x := hc.heap X_x (fun hq => by have h7 := hs7.out; have h8 := hs8.out; have h3 : g8 < s8 := hq.2; have h5 := hg8'.out; omega)
  replace X_g := hc.heap X_g (fun hq => by have h7 := hs7.out; have h8 := hs8.out; have h3 : gG < s8 := hq.2; have h5 := hgG'.out; omega)
  replace n_w1 := n_w1.ch hc (fun k hk hq => by have h3 : k < s7 := hk; have h4 : s7 ≤ k := hq.1; omega)
  replace n_w2 := n_w2.ch hc (fun k hk hq => by have h3 : k < s7 := hk; have h4 : s7 ≤ k := hq.1; omega)
  replace n_g1 := n_g1.ch hc (fun k hk hq => by have h3 : s8 ≤ k := hk; have h4 : k < s8 := hq.2; omega)
  replace n_g2 := n_g2.ch hc (fun k hk hq => by have h3 : s8 ≤ k := hk; have h4 : k < s8 := hq.2; omega)
  replace hA := hA.ch hc (fun k hk hq => by have h3 : k < w.heap.size := hk; have h7 := hs7.out; have h4 : s7 ≤ k := hq.1; omega)
  clear hc
  obtain ⟨m0, hm0⟩ : ∃ m, 1 + (a.rules.length : Int) + 5 * rulesSz a.rules = m := ⟨_, rfl⟩
  have e0 : decide (m0 < 0) = false := decide_eq_false (by have := rulesSz_nonneg a.rules; omega)
  rw [hm0]
  clear hm0
  have c_a0 : w15.cell? ⟨w.heap.size, 0, none⟩ = some (.slice A a.rules.length c) := blk_cell X_a 0
  have c_s0 : w15.cell? ⟨w.heap.size + 1, 0, none⟩ = some (.int .i64 s.x) := blk_cell X_s 0
  have c_s1 : w15.cell? ⟨w.heap.size + 1, 1, none⟩ = some (.int .i64 s.y) := blk_cell X_s 1
  have c_s2 : w15.cell? ⟨w.heap.size + 1, 2, none⟩ = some (.int .i64 s.c) := blk_cell X_s 2
  have c_e0 : w15.cell? ⟨w.heap.size + 1 + 1, 0, none⟩ = some (.int .i64 e.time) := blk_cell X_e 0
  have c_e1 : w15.cell? ⟨w.heap.size + 1 + 1, 1, none⟩ = some (.int .i64 e.to) := blk_cell X_e 1
  have c_e2 : w15.cell? ⟨w.heap.size + 1 + 1, 2, none⟩ = some (.int .i64 e.from_) := blk_cell X_e 2
  have c_e3 : w15.cell? ⟨w.heap.size + 1 + 1, 3, none⟩ = some (.int .i64 e.count) := blk_cell X_e 3
  have c_e4 : w15.cell? ⟨w.heap.size + 1 + 1, 4, none⟩ = some (.int .i64 e.n) := blk_cell X_e 4
  have c_e5 : w15.cell? ⟨w.heap.size + 1 + 1, 5, none⟩ = some (.int .i64 e.kind) := blk_cell X_e 5
  have c_e6 : w15.cell? ⟨w.heap.size + 1 + 1, 6, none⟩ = some (.int .i64 e.arg) := blk_cell X_e 6
  have c_w0 : w15.cell? ⟨gW, 0, none⟩ = some (.int .i64 xs.x) := blk_cell X_w 0
  have c_w1 : w15.cell? ⟨gW, 1, none⟩ = some (.int .i64 xs.y) := blk_cell X_w 1
  have c_w2 : w15.cell? ⟨gW, 2, none⟩ = some (.int .i64 xs.c) := blk_cell X_w 2
  have c_x0 : w15.cell? ⟨g8, 0, none⟩ = some (.slice B a.rules.length b) := blk_cell X_x 0
  have c_g0 : w15.cell? ⟨gG, 0, none⟩ = some (.int .i64 xs.x) := blk_cell X_g 0
  have c_g1 : w15.cell? ⟨gG, 1, none⟩ = some (.int .i64 xs.y) := blk_cell X_g 1
  have c_g2 : w15.cell? ⟨gG, 2, none⟩ = some (.int .i64 xs.c) := blk_cell X_g 2
  apply_assumption
  go_wp2_with fail
  refine (eqStateX xs _).mono ?_
  rintro q w16 ⟨rfl, hb16⟩
  clear c_a0 c_s0 c_s1 c_s2 c_e0 c_e1 c_e2 c_e3 c_e4 c_e5 c_e6 c_w0 c_w1 c_w2 c_x0 c_g0 c_g1 c_g2
  replace HB := bthen HB hb16 HB.size
  replace X_a := below_heap hb16 (blk_lt X_a) X_a
  replace X_s := below_heap hb16 (blk_lt X_s) X_s
  replace X_e := below_heap hb16 (blk_lt X_e) X_e
  replace X_w := below_heap hb16 (blk_lt X_w) X_w
  replace X_x := below_heap hb16 (blk_lt X_x) X_x
  replace X_g := below_heap hb16 (blk_lt X_g) X_g
  replace n_w1 := n_w1.below hb16
  replace n_w2 := n_w2.below hb16
  replace n_g1 := n_g1.below hb16
  replace n_g2 := n_g2.below hb16
  replace hA := hA.below hb16
  clear hb16
  have c_a0 : w16.cell? ⟨w.heap.size, 0, none⟩ = some (.slice A a.rules.length c) := blk_cell X_a 0
  have c_s0 : w16.cell? ⟨w.heap.size + 1, 0, none⟩ = some (.int .i64 s.x) := blk_cell X_s 0
  have c_s1 : w16.cell? ⟨w.heap.size + 1, 1, none⟩ = some (.int .i64 s.y) := blk_cell X_s 1
  have c_s2 : w16.cell? ⟨w.heap.size + 1, 2, none⟩ = some (.int .i64 s.c) := blk_cell X_s 2
  have c_e0 : w16.cell? ⟨w.heap.size + 1 + 1, 0, none⟩ = some (.int .i64 e.time) := blk_cell X_e 0
  have c_e1 : w16.cell? ⟨w.heap.size + 1 + 1, 1, none⟩ = some (.int .i64 e.to) := blk_cell X_e 1
  have c_e2 : w16.cell? ⟨w.heap.size + 1 + 1, 2, none⟩ = some (.int .i64 e.from_) := blk_cell X_e 2
  have c_e3 : w16.cell? ⟨w.heap.size + 1 + 1, 3, none⟩ = some (.int .i64 e.count) := blk_cell X_e 3
  have c_e4 : w16.cell? ⟨w.heap.size + 1 + 1, 4, none⟩ = some (.int .i64 e.n) := blk_cell X_e 4
  have c_e5 : w16.cell? ⟨w.heap.size + 1 + 1, 5, none⟩ = some (.int .i64 e.kind) := blk_cell X_e 5
  have c_e6 : w16.cell? ⟨w.heap.size + 1 + 1, 6, none⟩ = some (.int .i64 e.arg) := blk_cell X_e 6
  have c_w0 : w16.cell? ⟨gW, 0, none⟩ = some (.int .i64 xs.x) := blk_cell X_w 0
  have c_w1 : w16.cell? ⟨gW, 1, none⟩ = some (.int .i64 xs.y) := blk_cell X_w 1
  have c_w2 : w16.cell? ⟨gW, 2, none⟩ = some (.int .i64 xs.c) := blk_cell X_w 2
  have c_x0 : w16.cell? ⟨g8, 0, none⟩ = some (.slice B a.rules.length b) := blk_cell X_x 0
  have c_g0 : w16.cell? ⟨gG, 0, none⟩ = some (.int .i64 xs.x) := blk_cell X_g 0
  have c_g1 : w16.cell? ⟨gG, 1, none⟩ = some (.int .i64 xs.y) := blk_cell X_g 1
  have c_g2 : w16.cell? ⟨gG, 2, none⟩ = some (.int .i64 xs.c) := blk_cell X_g 2
  apply_assumption
  go_wp2_with fail
  refine (eqEventSX _ _ sends _ _ _ n_g1.rd n_w1.rd).mono ?_
  rintro q w17 ⟨rfl, hb17⟩
  clear c_a0 c_s0 c_s1 c_s2 c_e0 c_e1 c_e2 c_e3 c_e4 c_e5 c_e6 c_w0 c_w1 c_w2 c_x0 c_g0 c_g1 c_g2
  replace HB := bthen HB hb17 HB.size
  replace X_a := below_heap hb17 (blk_lt X_a) X_a
  replace X_s := below_heap hb17 (blk_lt X_s) X_s
  replace X_e := below_heap hb17 (blk_lt X_e) X_e
  replace X_w := below_heap hb17 (blk_lt X_w) X_w
  replace X_x := below_heap hb17 (blk_lt X_x) X_x
  replace X_g := below_heap hb17 (blk_lt X_g) X_g
  replace n_w1 := n_w1.below hb17
  replace n_w2 := n_w2.below hb17
  replace n_g1 := n_g1.below hb17
  replace n_g2 := n_g2.below hb17
  replace hA := hA.below hb17
  clear hb17
  have c_a0 : w17.cell? ⟨w.heap.size, 0, none⟩ = some (.slice A a.rules.length c) := blk_cell X_a 0
  have c_s0 : w17.cell? ⟨w.heap.size + 1, 0, none⟩ = some (.int .i64 s.x) := blk_cell X_s 0
  have c_s1 : w17.cell? ⟨w.heap.size + 1, 1, none⟩ = some (.int .i64 s.y) := blk_cell X_s 1
  have c_s2 : w17.cell? ⟨w.heap.size + 1, 2, none⟩ = some (.int .i64 s.c) := blk_cell X_s 2
  have c_e0 : w17.cell? ⟨w.heap.size + 1 + 1, 0, none⟩ = some (.int .i64 e.time) := blk_cell X_e 0
  have c_e1 : w17.cell? ⟨w.heap.size + 1 + 1, 1, none⟩ = some (.int .i64 e.to) := blk_cell X_e 1
  have c_e2 : w17.cell? ⟨w.heap.size + 1 + 1, 2, none⟩ = some (.int .i64 e.from_) := blk_cell X_e 2
  have c_e3 : w17.cell? ⟨w.heap.size + 1 + 1, 3, none⟩ = some (.int .i64 e.count) := blk_cell X_e 3
  have c_e4 : w17.cell? ⟨w.heap.size + 1 + 1, 4, none⟩ = some (.int .i64 e.n) := blk_cell X_e 4
  have c_e5 : w17.cell? ⟨w.heap.size + 1 + 1, 5, none⟩ = some (.int .i64 e.kind) := blk_cell X_e 5
  have c_e6 : w17.cell? ⟨w.heap.size + 1 + 1, 6, none⟩ = some (.int .i64 e.arg) := blk_cell X_e 6
  have c_w0 : w17.cell? ⟨gW, 0, none⟩ = some (.int .i64 xs.x) := blk_cell X_w 0
  have c_w1 : w17.cell? ⟨gW, 1, none⟩ = some (.int .i64 xs.y) := blk_cell X_w 1
  have c_w2 : w17.cell? ⟨gW, 2, none⟩ = some (.int .i64 xs.c) := blk_cell X_w 2
  have c_x0 : w17.cell? ⟨g8, 0, none⟩ = some (.slice B a.rules.length b) := blk_cell X_x 0
  have c_g0 : w17.cell? ⟨gG, 0, none⟩ = some (.int .i64 xs.x) := blk_cell X_g 0
  have c_g1 : w17.cell? ⟨gG, 1, none⟩ = some (.int .i64 xs.y) := blk_cell X_g 1
  have c_g2 : w17.cell? ⟨gG, 2, none⟩ = some (.int .i64 xs.c) := blk_cell X_g 2
  apply_assumption
  go_wp2_with fail
  refine (eqOutSX _ _ outs _ _ _ n_g2.rd n_w2.rd).mono ?_
  rintro q w18 ⟨rfl, hb18⟩
  clear c_a0 c_s0 c_s1 c_s2 c_e0 c_e1 c_e2 c_e3 c_e4 c_e5 c_e6 c_w0 c_w1 c_w2 c_x0 c_g0 c_g1 c_g2
  replace HB := bthen HB hb18 HB.size
  replace X_a := below_heap hb18 (blk_lt X_a) X_a
  replace X_s := below_heap hb18 (blk_lt X_s) X_s
  replace X_e := below_heap hb18 (blk_lt X_e) X_e
  replace X_w := below_heap hb18 (blk_lt X_w) X_w
  replace X_x := below_heap hb18 (blk_lt X_x) X_x
  replace X_g := below_heap hb18 (blk_lt X_g) X_g
  replace n_w1 := n_w1.below hb18
  replace n_w2 := n_w2.below hb18
  replace n_g1 := n_g1.below hb18
  replace n_g2 := n_g2.below hb18
  replace hA := hA.below hb18
  clear hb18
  have c_a0 : w18.cell? ⟨w.heap.size, 0, none⟩ = some (.slice A a.rules.length c) := blk_cell X_a 0
  have c_s0 : w18.cell? ⟨w.heap.size + 1, 0, none⟩ = some (.int .i64 s.x) := blk_cell X_s 0
  have c_s1 : w18.cell? ⟨w.heap.size + 1, 1, none⟩ = some (.int .i64 s.y) := blk_cell X_s 1
  have c_s2 : w18.cell? ⟨w.heap.size + 1, 2, none⟩ = some (.int .i64 s.c) := blk_cell X_s 2
  have c_e0 : w18.cell? ⟨w.heap.size + 1 + 1, 0, none⟩ = some (.int .i64 e.time) := blk_cell X_e 0
  have c_e1 : w18.cell? ⟨w.heap.size + 1 + 1, 1, none⟩ = some (.int .i64 e.to) := blk_cell X_e 1
  have c_e2 : w18.cell? ⟨w.heap.size + 1 + 1, 2, none⟩ = some (.int .i64 e.from_) := blk_cell X_e 2
  have c_e3 : w18.cell? ⟨w.heap.size + 1 + 1, 3, none⟩ = some (.int .i64 e.count) := blk_cell X_e 3
  have c_e4 : w18.cell? ⟨w.heap.size + 1 + 1, 4, none⟩ = some (.int .i64 e.n) := blk_cell X_e 4
  have c_e5 : w18.cell? ⟨w.heap.size + 1 + 1, 5, none⟩ = some (.int .i64 e.kind) := blk_cell X_e 5
  have c_e6 : w18.cell? ⟨w.heap.size + 1 + 1, 6, none⟩ = some (.int .i64 e.arg) := blk_cell X_e 6
  have c_w0 : w18.cell? ⟨gW, 0, none⟩ = some (.int .i64 xs.x) := blk_cell X_w 0
  have c_w1 : w18.cell? ⟨gW, 1, none⟩ = some (.int .i64 xs.y) := blk_cell X_w 1
  have c_w2 : w18.cell? ⟨gW, 2, none⟩ = some (.int .i64 xs.c) := blk_cell X_w 2
  have c_x0 : w18.cell? ⟨g8, 0, none⟩ = some (.slice B a.rules.length b) := blk_cell X_x 0
  have c_g0 : w18.cell? ⟨gG, 0, none⟩ = some (.int .i64 xs.x) := blk_cell X_g 0
  have c_g1 : w18.cell? ⟨gG, 1, none⟩ = some (.int .i64 xs.y) := blk_cell X_g 1
  have c_g2 : w18.cell? ⟨gG, 2, none⟩ = some (.int .i64 xs.c) := blk_cell X_g 2
  apply_assumption
  go_wp2_with fail
  have hin := fun q hq => n_g1.inF (g := q) hq
  refine (markEventS_c _ sends 1 _ _ n_g1 (by decide) (by decide) (by have := hle.out; omega)).mono ?_
  rintro q w22 ⟨rfl, n_new, hc⟩
  clear c_a0 c_s0 c_s1 c_s2 c_e0 c_e1 c_e2 c_e3 c_e4 c_e5 c_e6 c_w0 c_w1 c_w2 c_x0 c_g0 c_g1 c_g2
  replace HB := HB.trans (hc.below (B := w.heap.size) (fun k hk => by have h7 := hs7.out; have h8 := hs8.out; have h3 : s8 ≤ k := hin k hk; omega) HB.size)
  replace X_a := hc.heap X_a (fun hq => n_g1.type_ne X_a (by decide) hq)
  replace X_s := hc.heap X_s (fun hq => n_g1.type_ne X_s (by decide) hq)
  replace X_e := hc.heap X_e (fun hq => n_g1.type_ne X_e (by decide) hq)
  replace X_w := hc.heap X_w (fun hq => n_g1.type_ne X_w (by decide) hq)
  replace X_x := hc.heap X_x (fun hq => n_g1.type_ne X_x (by decide) hq)
  replace X_g := hc.heap X_g (fun hq => n_g1.type_ne X_g (by decide) hq)
  replace n_w1 := n_w1.ch hc (fun k hk hq => by have h3 : k < s7 := hk; have h8 := hs8.out; have h4 : s8 ≤ k := hin k hq; omega)
  replace n_w2 := n_w2.ch hc (fun k hk hq => by have h3 : k < s7 := hk; have h8 := hs8.out; have h4 : s8 ≤ k := hin k hq; omega)
  replace n_g2 := n_g1.chOther n_g2 (by decide) hc
  replace hA := hA.ch hc (fun k hk hq => by have h3 : k < w.heap.size := hk; have h7 := hs7.out; have h8 := hs8.out; have h4 : s8 ≤ k := hin k hq; omega)
  clear hc hin n_g1
  have n_g1 := n_new
  clear n_new
  obtain ⟨m1, hm1⟩ : ∃ m, 1 + 7 * (sends.length : Int) = m := ⟨_, rfl⟩
  have Hm1 := hid hm1
  rw [hm1]
  clear hm1
  have c_a0 : w22.cell? ⟨w.heap.size, 0, none⟩ = some (.slice A a.rules.length c) := blk_cell X_a 0
  have c_s0 : w22.cell? ⟨w.heap.size + 1, 0, none⟩ = some (.int .i64 s.x) := blk_cell X_s 0
  have c_s1 : w22.cell? ⟨w.heap.size + 1, 1, none⟩ = some (.int .i64 s.y) := blk_cell X_s 1
  have c_s2 : w22.cell? ⟨w.heap.size + 1, 2, none⟩ = some (.int .i64 s.c) := blk_cell X_s 2
  have c_e0 : w22.cell? ⟨w.heap.size + 1 + 1, 0, none⟩ = some (.int .i64 e.time) := blk_cell X_e 0
  have c_e1 : w22.cell? ⟨w.heap.size + 1 + 1, 1, none⟩ = some (.int .i64 e.to) := blk_cell X_e 1
  have c_e2 : w22.cell? ⟨w.heap.size + 1 + 1, 2, none⟩ = some (.int .i64 e.from_) := blk_cell X_e 2
  have c_e3 : w22.cell? ⟨w.heap.size + 1 + 1, 3, none⟩ = some (.int .i64 e.count) := blk_cell X_e 3
  have c_e4 : w22.cell? ⟨w.heap.size + 1 + 1, 4, none⟩ = some (.int .i64 e.n) := blk_cell X_e 4
  have c_e5 : w22.cell? ⟨w.heap.size + 1 + 1, 5, none⟩ = some (.int .i64 e.kind) := blk_cell X_e 5
  have c_e6 : w22.cell? ⟨w.heap.size + 1 + 1, 6, none⟩ = some (.int .i64 e.arg) := blk_cell X_e 6
  have c_w0 : w22.cell? ⟨gW, 0, none⟩ = some (.int .i64 xs.x) := blk_cell X_w 0
  have c_w1 : w22.cell? ⟨gW, 1, none⟩ = some (.int .i64 xs.y) := blk_cell X_w 1
  have c_w2 : w22.cell? ⟨gW, 2, none⟩ = some (.int .i64 xs.c) := blk_cell X_w 2
  have c_x0 : w22.cell? ⟨g8, 0, none⟩ = some (.slice B a.rules.length b) := blk_cell X_x 0
  have c_g0 : w22.cell? ⟨gG, 0, none⟩ = some (.int .i64 xs.x) := blk_cell X_g 0
  have c_g1 : w22.cell? ⟨gG, 1, none⟩ = some (.int .i64 xs.y) := blk_cell X_g 1
  have c_g2 : w22.cell? ⟨gG, 2, none⟩ = some (.int .i64 xs.c) := blk_cell X_g 2
  apply_assumption
  go_wp2_with fail
  have b1 : 1 ≤ m1 ∧ m1 ≤ 100 := by have := Hm1.out; have := hle.out; omega
  have hin := fun q hq => n_g2.inF (g := q) hq
  refine (markOutS_c _ outs m1 _ _ n_g2 (by omega) (by omega) (by have := hle.out; omega)).mono ?_
  rintro q w23 ⟨rfl, n_new, hc⟩
  clear c_a0 c_s0 c_s1 c_s2 c_e0 c_e1 c_e2 c_e3 c_e4 c_e5 c_e6 c_w0 c_w1 c_w2 c_x0 c_g0 c_g1 c_g2
  replace HB := HB.trans (hc.below (B := w.heap.size) (fun k hk => by have h7 := hs7.out; have h8 := hs8.out; have h3 : s8 ≤ k := hin k hk; omega) HB.size)
  replace X_a := hc.heap X_a (fun hq => n_g2.type_ne X_a (by decide) hq)
  replace X_s := hc.heap X_s (fun hq => n_g2.type_ne X_s (by decide) hq)
  replace X_e := hc.heap X_e (fun hq => n_g2.type_ne X_e (by decide) hq)
  replace X_w := hc.heap X_w (fun hq => n_g2.type_ne X_w (by decide) hq)
  replace X_x := hc.heap X_x (fun hq => n_g2.type_ne X_x (by decide) hq)
  replace X_g := hc.heap X_g (fun hq => n_g2.type_ne X_g (by decide) hq)
  replace n_w1 := n_w1.ch hc (fun k hk hq => by have h3 : k < s7 := hk; have h8 := hs8.out; have h4 : s8 ≤ k := hin k hq; omega)
  replace n_w2 := n_w2.ch hc (fun k hk hq => by have h3 : k < s7 := hk; have h8 := hs8.out; have h4 : s8 ≤ k := hin k hq; omega)
  replace n_g1 := n_g2.chOther n_g1 (by decide) hc
  replace hA := hA.ch hc (fun k hk hq => by have h3 : k < w.heap.size := hk; have h7 := hs7.out; have h8 := hs8.out; have h4 : s8 ≤ k := hin k hq; omega)
  clear hc hin n_g2
  have n_g2 := n_new
  clear n_new
  obtain ⟨m2, hm2⟩ : ∃ m, m1 + 5 * (outs.length : Int) = m := ⟨_, rfl⟩
  have b2 : decide (m2 < 0) = false := decide_eq_false (by omega)
  have b3 : decide (m1 < 0) = false := decide_eq_false (by omega)
  have b4 : (m2 != m2) = false := by simp
  have Hm2 := hid hm2
  rw [hm2]
  clear hm2
  have c_a0 : w23.cell? ⟨w.heap.size, 0, none⟩ = some (.slice A a.rules.length c) := blk_cell X_a 0
  have c_s0 : w23.cell? ⟨w.heap.size + 1, 0, none⟩ = some (.int .i64 s.x) := blk_cell X_s 0
  have c_s1 : w23.cell? ⟨w.heap.size + 1, 1, none⟩ = some (.int .i64 s.y) := blk_cell X_s 1
  have c_s2 : w23.cell? ⟨w.heap.size + 1, 2, none⟩ = some (.int .i64 s.c) := blk_cell X_s 2
  have c_e0 : w23.cell? ⟨w.heap.size + 1 + 1, 0, none⟩ = some (.int .i64 e.time) := blk_cell X_e 0
  have c_e1 : w23.cell? ⟨w.heap.size + 1 + 1, 1, none⟩ = some (.int .i64 e.to) := blk_cell X_e 1
  have c_e2 : w23.cell? ⟨w.heap.size + 1 + 1, 2, none⟩ = some (.int .i64 e.from_) := blk_cell X_e 2
  have c_e3 : w23.cell? ⟨w.heap.size + 1 + 1, 3, none⟩ = some (.int .i64 e.count) := blk_cell X_e 3
  have c_e4 : w23.cell? ⟨w.heap.size + 1 + 1, 4, none⟩ = some (.int .i64 e.n) := blk_cell X_e 4
  have c_e5 : w23.cell? ⟨w.heap.size + 1 + 1, 5, none⟩ = some (.int .i64 e.kind) := blk_cell X_e 5
  have c_e6 : w23.cell? ⟨w.heap.size + 1 + 1, 6, none⟩ = some (.int .i64 e.arg) := blk_cell X_e 6
  have c_w0 : w23.cell? ⟨gW, 0, none⟩ = some (.int .i64 xs.x) := blk_cell X_w 0
  have c_w1 : w23.cell? ⟨gW, 1, none⟩ = some (.int .i64 xs.y) := blk_cell X_w 1
  have c_w2 : w23.cell? ⟨gW, 2, none⟩ = some (.int .i64 xs.c) := blk_cell X_w 2
  have c_x0 : w23.cell? ⟨g8, 0, none⟩ = some (.slice B a.rules.length b) := blk_cell X_x 0
  have c_g0 : w23.cell? ⟨gG, 0, none⟩ = some (.int .i64 xs.x) := blk_cell X_g 0
  have c_g1 : w23.cell? ⟨gG, 1, none⟩ = some (.int .i64 xs.y) := blk_cell X_g 1
  have c_g2 : w23.cell? ⟨gG, 2, none⟩ = some (.int .i64 xs.c) := blk_cell X_g 2
  apply_assumption
  go_wp2_with fail
  refine (heldEventS_c _ sends.length 1 _ _ n_g1.rd (by decide) (by decide) (by have := hle.out; omega)).mono ?_
  rintro q w24 ⟨rfl, hb24⟩
  clear c_a0 c_s0 c_s1 c_s2 c_e0 c_e1 c_e2 c_e3 c_e4 c_e5 c_e6 c_w0 c_w1 c_w2 c_x0 c_g0 c_g1 c_g2
  replace HB := bthen HB hb24 HB.size
  replace X_a := below_heap hb24 (blk_lt X_a) X_a
  replace X_s := below_heap hb24 (blk_lt X_s) X_s
  replace X_e := below_heap hb24 (blk_lt X_e) X_e
  replace X_w := below_heap hb24 (blk_lt X_w) X_w
  replace X_x := below_heap hb24 (blk_lt X_x) X_x
  replace X_g := below_heap hb24 (blk_lt X_g) X_g
  replace n_w1 := n_w1.below hb24
  replace n_w2 := n_w2.below hb24
  replace n_g1 := n_g1.below hb24
  replace n_g2 := n_g2.below hb24
  replace hA := hA.below hb24
  rw [Hm1.out]
  clear hb24
  have c_a0 : w24.cell? ⟨w.heap.size, 0, none⟩ = some (.slice A a.rules.length c) := blk_cell X_a 0
  have c_s0 : w24.cell? ⟨w.heap.size + 1, 0, none⟩ = some (.int .i64 s.x) := blk_cell X_s 0
  have c_s1 : w24.cell? ⟨w.heap.size + 1, 1, none⟩ = some (.int .i64 s.y) := blk_cell X_s 1
  have c_s2 : w24.cell? ⟨w.heap.size + 1, 2, none⟩ = some (.int .i64 s.c) := blk_cell X_s 2
  have c_e0 : w24.cell? ⟨w.heap.size + 1 + 1, 0, none⟩ = some (.int .i64 e.time) := blk_cell X_e 0
  have c_e1 : w24.cell? ⟨w.heap.size + 1 + 1, 1, none⟩ = some (.int .i64 e.to) := blk_cell X_e 1
  have c_e2 : w24.cell? ⟨w.heap.size + 1 + 1, 2, none⟩ = some (.int .i64 e.from_) := blk_cell X_e 2
  have c_e3 : w24.cell? ⟨w.heap.size + 1 + 1, 3, none⟩ = some (.int .i64 e.count) := blk_cell X_e 3
  have c_e4 : w24.cell? ⟨w.heap.size + 1 + 1, 4, none⟩ = some (.int .i64 e.n) := blk_cell X_e 4
  have c_e5 : w24.cell? ⟨w.heap.size + 1 + 1, 5, none⟩ = some (.int .i64 e.kind) := blk_cell X_e 5
  have c_e6 : w24.cell? ⟨w.heap.size + 1 + 1, 6, none⟩ = some (.int .i64 e.arg) := blk_cell X_e 6
  have c_w0 : w24.cell? ⟨gW, 0, none⟩ = some (.int .i64 xs.x) := blk_cell X_w 0
  have c_w1 : w24.cell? ⟨gW, 1, none⟩ = some (.int .i64 xs.y) := blk_cell X_w 1
  have c_w2 : w24.cell? ⟨gW, 2, none⟩ = some (.int .i64 xs.c) := blk_cell X_w 2
  have c_x0 : w24.cell? ⟨g8, 0, none⟩ = some (.slice B a.rules.length b) := blk_cell X_x 0
  have c_g0 : w24.cell? ⟨gG, 0, none⟩ = some (.int .i64 xs.x) := blk_cell X_g 0
  have c_g1 : w24.cell? ⟨gG, 1, none⟩ = some (.int .i64 xs.y) := blk_cell X_g 1
  have c_g2 : w24.cell? ⟨gG, 2, none⟩ = some (.int .i64 xs.c) := blk_cell X_g 2
  apply_assumption
  go_wp2_with fail
  refine (heldOutS_c _ outs.length m1 _ _ n_g2.rd (by omega) (by omega) (by have := hle.out; omega)).mono ?_
  rintro q w25 ⟨rfl, hb25⟩
  clear c_a0 c_s0 c_s1 c_s2 c_e0 c_e1 c_e2 c_e3 c_e4 c_e5 c_e6 c_w0 c_w1 c_w2 c_x0 c_g0 c_g1 c_g2
  replace HB := bthen HB hb25 HB.size
  replace X_a := below_heap hb25 (blk_lt X_a) X_a
  replace X_s := below_heap hb25 (blk_lt X_s) X_s
  replace X_e := below_heap hb25 (blk_lt X_e) X_e
  replace X_w := below_heap hb25 (blk_lt X_w) X_w
  replace X_x := below_heap hb25 (blk_lt X_x) X_x
  replace X_g := below_heap hb25 (blk_lt X_g) X_g
  replace n_w1 := n_w1.below hb25
  replace n_w2 := n_w2.below hb25
  replace n_g1 := n_g1.below hb25
  replace n_g2 := n_g2.below hb25
  replace hA := hA.below hb25
  rw [Hm2.out]
  clear hb25
  have c_a0 : w25.cell? ⟨w.heap.size, 0, none⟩ = some (.slice A a.rules.length c) := blk_cell X_a 0
  have c_s0 : w25.cell? ⟨w.heap.size + 1, 0, none⟩ = some (.int .i64 s.x) := blk_cell X_s 0
  have c_s1 : w25.cell? ⟨w.heap.size + 1, 1, none⟩ = some (.int .i64 s.y) := blk_cell X_s 1
  have c_s2 : w25.cell? ⟨w.heap.size + 1, 2, none⟩ = some (.int .i64 s.c) := blk_cell X_s 2
  have c_e0 : w25.cell? ⟨w.heap.size + 1 + 1, 0, none⟩ = some (.int .i64 e.time) := blk_cell X_e 0
  have c_e1 : w25.cell? ⟨w.heap.size + 1 + 1, 1, none⟩ = some (.int .i64 e.to) := blk_cell X_e 1
  have c_e2 : w25.cell? ⟨w.heap.size + 1 + 1, 2, none⟩ = some (.int .i64 e.from_) := blk_cell X_e 2
  have c_e3 : w25.cell? ⟨w.heap.size + 1 + 1, 3, none⟩ = some (.int .i64 e.count) := blk_cell X_e 3
  have c_e4 : w25.cell? ⟨w.heap.size + 1 + 1, 4, none⟩ = some (.int .i64 e.n) := blk_cell X_e 4
  have c_e5 : w25.cell? ⟨w.heap.size + 1 + 1, 5, none⟩ = some (.int .i64 e.kind) := blk_cell X_e 5
  have c_e6 : w25.cell? ⟨w.heap.size + 1 + 1, 6, none⟩ = some (.int .i64 e.arg) := blk_cell X_e 6
  have c_w0 : w25.cell? ⟨gW, 0, none⟩ = some (.int .i64 xs.x) := blk_cell X_w 0
  have c_w1 : w25.cell? ⟨gW, 1, none⟩ = some (.int .i64 xs.y) := blk_cell X_w 1
  have c_w2 : w25.cell? ⟨gW, 2, none⟩ = some (.int .i64 xs.c) := blk_cell X_w 2
  have c_x0 : w25.cell? ⟨g8, 0, none⟩ = some (.slice B a.rules.length b) := blk_cell X_x 0
  have c_g0 : w25.cell? ⟨gG, 0, none⟩ = some (.int .i64 xs.x) := blk_cell X_g 0
  have c_g1 : w25.cell? ⟨gG, 1, none⟩ = some (.int .i64 xs.y) := blk_cell X_g 1
  have c_g2 : w25.cell? ⟨gG, 2, none⟩ = some (.int .i64 xs.c) := blk_cell X_g 2
  apply_assumption
  go_upto_region 28 with fail
  refine region_sg [.rd [0, 2, 4], .par [(1, []), (3, []), (5, []), (6, [1]), (7, []), (8, []), (9, []), (10, []), (11, []), (12, [11]), (13, []), (14, [])] []] [] (by kernel_rfl) (by kernel_rfl) (fun _ _ d _ _ h => by cases d <;> exact h) ?_
  refine sg_rd (fun N hN => ?_)
  simp only [pickO, List.getElem?_toArray, List.getElem?_cons_zero, List.getElem?_cons_succ]
  go_wp2_with fail
  refine rd_next (hN _ ?_)
  clear hN N
  refine sgx_name fun a0 ha0 => ?_
  have sA := hid (show a0.tmps[113]? = some (.agg #[.slice A a.rules.length c]) by rw [ha0]; rfl)
  have sS := hid (show a0.tmps[115]? = some (.agg #[.int .i64 s.x, .int .i64 s.y, .int .i64 s.c]) by rw [ha0]; rfl)
  have sE := hid (show a0.tmps[117]? = some (.agg #[.int .i64 e.time, .int .i64 e.to, .int .i64 e.from_, .int .i64 e.count, .int .i64 e.n, .int .i64 e.kind, .int .i64 e.arg]) by rw [ha0]; rfl)
  have hsz := hid (show ∀ k, k < 123 → k < a0.tmps.size from fun k hk => by rw [ha0]; exact Nat.lt_of_lt_of_le hk (by show _ ≤ Array.size _; simp))
  have H0 := hid ha0
  clear ha0
  refine sg_parG [(1, some 114), (3, some 116), (5, some 118), (6, some 119), (7, some 112), (8, some 120), (9, some 121), (10, some 122), (11, some 18), (12, none), (13, some 19), (14, some 20)] (by rfl) (fun _ => False) (NL (x28N a s e xs sends outs)) (PPL (x28P a s e xs sends outs)) (fun _ _ => False) (PPL_upd _ (by kernel_rfl)) (NL_upd _ (by kernel_rfl)) (NL_move _ (x28N_moves a s e xs sends outs)) (fun w' hc => Agree.of_ch hc (fun _ hf => hf.elim)) (by simp) (by simp) (by simp) (parS_cons ?_ (parS_cons ?_ (parS_cons ?_ (parS_cons ?_ (parS_cons ?_ (parS_cons ?_ (parS_cons ?_ (parS_cons ?_ (parS_cons ?_ (parS_cons ?_ (parS_cons ?_ (parS_cons ?_ parS_nil)))))))))))) ?_
  · refine stepG_mk (by rfl) (by rfl) ?_
    intro u wq F1 hC hp hN hF hD K hK
    have q113 : (putL [(1, some 114), (3, some 116), (5, some 118), (6, some 119), (7, some 112), (8, some 120), (9, some 121), (10, some 122), (11, some 18), (12, none), (13, some 19), (14, some 20)] a0 u).tmps[113]? = _ := (putL_out (k := 113) [(1, some 114), (3, some 116), (5, some 118), (6, some 119), (7, some 112), (8, some 120), (9, some 121), (10, some 122), (11, some 18), (12, none), (13, some 19), (14, some 20)] a0 u (by rfl)).trans sA.out
    clear hp hN hF hD
    generalize putL [(1, some 114), (3, some 116), (5, some 118), (6, some 119), (7, some 112), (8, some 120), (9, some 121), (10, some 122), (11, some 18), (12, none), (13, some 19), (14, some 20)] a0 u = a1 at *
    go_simp
    refine (toApp_c a _ _ wq (hA.below (⟨hC.below0.os, hC.below0.tape, hC.below0.output, hC.below0.size, hC.below0.block⟩ : Below w25.heap.size w25 wq)) n1 n2).mono ?_
    rintro q w5 ⟨v5, rfl, h5, hb5⟩
    have hn1 : NL (x28N a s e xs sends outs) 1 (updV u 1 (.agg #[v5])) w5 (fun k => wq.heap.size ≤ k ∧ k < w5.heap.size) := ⟨v5, rfl, h5.bound⟩
    have hp1 : PPL (x28P a s e xs sends outs) 1 (updV u 1 (.agg #[v5])) := trivial
    exact hK _ (.agg #[v5]) _ (fun k => wq.heap.size ≤ k ∧ k < w5.heap.size) rfl (Ch.of_below hb5) hn1 (fun k hk => ⟨.inr hk.1, hk.2⟩) hp1
  · refine stepG_mk (by rfl) (by rfl) ?_
    intro u wq F1 hC hp hN hF hD K hK
    have q115 : (putL [(1, some 114), (3, some 116), (5, some 118), (6, some 119), (7, some 112), (8, some 120), (9, some 121), (10, some 122), (11, some 18), (12, none), (13, some 19), (14, some 20)] a0 u).tmps[115]? = _ := (putL_out (k := 115) [(1, some 114), (3, some 116), (5, some 118), (6, some 119), (7, some 112), (8, some 120), (9, some 121), (10, some 122), (11, some 18), (12, none), (13, some 19), (14, some 20)] a0 u (by rfl)).trans sS.out
    clear hp hN hF hD
    generalize putL [(1, some 114), (3, some 116), (5, some 118), (6, some 119), (7, some 112), (8, some 120), (9, some 121), (10, some 122), (11, some 18), (12, none), (13, some 19), (14, some 20)] a0 u = a1 at *
    go_simp
    refine (toState_c s wq).mono ?_
    rintro q w5 ⟨rfl, hb5⟩
    have hn1 : NL (x28N a s e xs sends outs) 3 (updV u 3 (.agg #[.int .i64 s.x, .int .i64 s.y, .int .i64 s.c])) w5 (fun _ => False) := trivial
    have hp1 : PPL (x28P a s e xs sends outs) 3 (updV u 3 (.agg #[.int .i64 s.x, .int .i64 s.y, .int .i64 s.c])) := rfl
    exact hK _ (.agg #[.int .i64 s.x, .int .i64 s.y, .int .i64 s.c]) _ (fun _ => False) rfl (Ch.of_below hb5) hn1 (fun k hk => hk.elim) hp1
  · refine stepG_mk (by rfl) (by rfl) ?_
    intro u wq F1 hC hp hN hF hD K hK
    have q117 : (putL [(1, some 114), (3, some 116), (5, some 118), (6, some 119), (7, some 112), (8, some 120), (9, some 121), (10, some 122), (11, some 18), (12, none), (13, some 19), (14, some 20)] a0 u).tmps[117]? = _ := (putL_out (k := 117) [(1, some 114), (3, some 116), (5, some 118), (6, some 119), (7, some 112), (8, some 120), (9, some 121), (10, some 122), (11, some 18), (12, none), (13, some 19), (14, some 20)] a0 u (by rfl)).trans sE.out
    clear hp hN hF hD
    generalize putL [(1, some 114), (3, some 116), (5, some 118), (6, some 119), (7, some 112), (8, some 120), (9, some 121), (10, some 122), (11, some 18), (12, none), (13, some 19), (14, some 20)] a0 u = a1 at *
    go_simp
    refine (toEvent_c e wq).mono ?_
    rintro q w5 ⟨rfl, hb5⟩
    have hn1 : NL (x28N a s e xs sends outs) 5 (updV u 5 (.agg #[.int .i64 e.time, .int .i64 e.to, .int .i64 e.from_, .int .i64 e.count, .int .i64 e.n, .int .i64 e.kind, .int .i64 e.arg])) w5 (fun _ => False) := trivial
    have hp1 : PPL (x28P a s e xs sends outs) 5 (updV u 5 (.agg #[.int .i64 e.time, .int .i64 e.to, .int .i64 e.from_, .int .i64 e.count, .int .i64 e.n, .int .i64 e.kind, .int .i64 e.arg])) := rfl
    exact hK _ (.agg #[.int .i64 e.time, .int .i64 e.to, .int .i64 e.from_, .int .i64 e.count, .int .i64 e.n, .int .i64 e.kind, .int .i64 e.arg]) _ (fun _ => False) rfl (Ch.of_below hb5) hn1 (fun k hk => hk.elim) hp1
  · refine stepG_mk (by rfl) (by rfl) ?_
    intro u wq F1 hC hp hN hF hD K hK
    have q114 : (putL [(1, some 114), (3, some 116), (5, some 118), (6, some 119), (7, some 112), (8, some 120), (9, some 121), (10, some 122), (11, some 18), (12, none), (13, some 19), (14, some 20)] a0 u).tmps[114]? = some (u 1) := putL_in (k := 114) (i := 1) [(1, some 114), (3, some 116), (5, some 118), (6, some 119), (7, some 112), (8, some 120), (9, some 121), (10, some 122), (11, some 18), (12, none), (13, some 19), (14, some 20)] a0 u (by rfl) (hsz.out 114 (by decide))
    have q116 : (putL [(1, some 114), (3, some 116), (5, some 118), (6, some 119), (7, some 112), (8, some 120), (9, some 121), (10, some 122), (11, some 18), (12, none), (13, some 19), (14, some 20)] a0 u).tmps[116]? = some (u 3) := putL_in (k := 116) (i := 3) [(1, some 114), (3, some 116), (5, some 118), (6, some 119), (7, some 112), (8, some 120), (9, some 121), (10, some 122), (11, some 18), (12, none), (13, some 19), (14, some 20)] a0 u (by rfl) (hsz.out 116 (by decide))
    have q118 : (putL [(1, some 114), (3, some 116), (5, some 118), (6, some 119), (7, some 112), (8, some 120), (9, some 121), (10, some 122), (11, some 18), (12, none), (13, some 19), (14, some 20)] a0 u).tmps[118]? = some (u 5) := putL_in (k := 118) (i := 5) [(1, some 114), (3, some 116), (5, some 118), (6, some 119), (7, some 112), (8, some 120), (9, some 121), (10, some 122), (11, some 18), (12, none), (13, some 19), (14, some 20)] a0 u (by rfl) (hsz.out 118 (by decide))
    obtain ⟨g1, e1, h1⟩ : ∃ g, u 1 = .agg #[g] ∧ Ow oRule 60 wq (F1 1) g a.rules := hN 1 (by simp)
    rw [e1] at q114
    have p3 : u 3 = .agg #[.int .i64 s.x, .int .i64 s.y, .int .i64 s.c] := hp 3 (by simp) (by kernel_rfl)
    have p5 : u 5 = .agg #[.int .i64 e.time, .int .i64 e.to, .int .i64 e.from_, .int .i64 e.count, .int .i64 e.n, .int .i64 e.kind, .int .i64 e.arg] := hp 5 (by simp) (by kernel_rfl)
    rw [p3] at q116
    rw [p5] at q118
    clear hp hN hF hD
    generalize putL [(1, some 114), (3, some 116), (5, some 118), (6, some 119), (7, some 112), (8, some 120), (9, some 121), (10, some 122), (11, some 18), (12, none), (13, some 19), (14, some 20)] a0 u = a1 at *
    go_simp
    refine (runX_call _ a s e _ wq h1.rdRules hrun'.out).mono ?_
    rintro q w5 ⟨sv, ov, rfl, h5, h6, hb5⟩
    have hn1 : NL (x28N a s e xs sends outs) 6 (updV u 6 (.tuple #[stAgg3 xs, sv, ov])) w5 (fun k => wq.heap.size ≤ k ∧ k < w5.heap.size) := ⟨sv, ov, rfl, h5.bound, h6.bound⟩
    have hp1 : PPL (x28P a s e xs sends outs) 6 (updV u 6 (.tuple #[stAgg3 xs, sv, ov])) := ⟨sv, ov, rfl⟩
    exact hK _ (.tuple #[stAgg3 xs, sv, ov]) _ (fun k => wq.heap.size ≤ k ∧ k < w5.heap.size) rfl (Ch.of_below hb5) hn1 (fun k hk => ⟨.inr hk.1, hk.2⟩) hp1
  · refine stepG_pure (by rfl) (by rfl) (fun _ _ => trivial) ?_
    intro u wq hC hp
    have p12 : tup3 (stAgg3 xs) (u 6) := hp 6 (by simp) (by kernel_rfl)
    have q : (putL [(1, some 114), (3, some 116), (5, some 118), (6, some 119), (7, some 112), (8, some 120), (9, some 121), (10, some 122), (11, some 18), (12, none), (13, some 19), (14, some 20)] a0 u).eval (.tmp 119) = u 6 := eval_of (putL_in (k := 119) (i := 6) [(1, some 114), (3, some 116), (5, some 118), (6, some 119), (7, some 112), (8, some 120), (9, some 121), (10, some 122), (11, some 18), (12, none), (13, some 19), (14, some 20)] a0 u (by rfl) (hsz.out 119 (by decide)))
    generalize putL [(1, some 114), (3, some 116), (5, some 118), (6, some 119), (7, some 112), (8, some 120), (9, some 121), (10, some 122), (11, some 18), (12, none), (13, some 19), (14, some 20)] a0 u = a1 at *
    refine Exists.intro (u 6) (And.intro ?_ ?_)
    · intro K hK
      exact wp_move' (.inl (by rfl)) q hK
    · exact ⟨rfl, p12⟩
  · refine stepG_pure (by rfl) (by rfl) (fun _ _ => trivial) ?_
    intro u wq hC hp
    have p13 : [u 6] = [u 7] ∧ tup3 (stAgg3 xs) (u 7) := hp 7 (by simp) (by kernel_rfl)
    obtain ⟨-, b9, c9, e13⟩ := p13
    have q : (putL [(1, some 114), (3, some 116), (5, some 118), (6, some 119), (7, some 112), (8, some 120), (9, some 121), (10, some 122), (11, some 18), (12, none), (13, some 19), (14, some 20)] a0 u).eval (.tmp 112) = u 7 := eval_of (putL_in (k := 112) (i := 7) [(1, some 114), (3, some 116), (5, some 118), (6, some 119), (7, some 112), (8, some 120), (9, some 121), (10, some 122), (11, some 18), (12, none), (13, some 19), (14, some 20)] a0 u (by rfl) (hsz.out 112 (by decide)))
    rw [e13] at q
    generalize putL [(1, some 114), (3, some 116), (5, some 118), (6, some 119), (7, some 112), (8, some 120), (9, some 121), (10, some 122), (11, some 18), (12, none), (13, some 19), (14, some 20)] a0 u = a1 at *
    refine Exists.intro (stAgg3 xs) (And.intro ?_ ?_)
    · intro K hK
      refine wp_extract (x := .tmp 112) (n := 0) (vs := #[stAgg3 xs, b9, c9]) (v := (stAgg3 xs)) ?_ ?_ ?_ ?_
      · rfl
      · exact q
      · rfl
      · exact hK
    · exact rfl
  · refine stepG_pure (by rfl) (by rfl) (fun _ _ => trivial) ?_
    intro u wq hC hp
    have p13 : [u 6] = [u 7] ∧ tup3 (stAgg3 xs) (u 7) := hp 7 (by simp) (by kernel_rfl)
    obtain ⟨-, b9, c9, e13⟩ := p13
    have q : (putL [(1, some 114), (3, some 116), (5, some 118), (6, some 119), (7, some 112), (8, some 120), (9, some 121), (10, some 122), (11, some 18), (12, none), (13, some 19), (14, some 20)] a0 u).eval (.tmp 112) = u 7 := eval_of (putL_in (k := 112) (i := 7) [(1, some 114), (3, some 116), (5, some 118), (6, some 119), (7, some 112), (8, some 120), (9, some 121), (10, some 122), (11, some 18), (12, none), (13, some 19), (14, some 20)] a0 u (by rfl) (hsz.out 112 (by decide)))
    rw [e13] at q
    generalize putL [(1, some 114), (3, some 116), (5, some 118), (6, some 119), (7, some 112), (8, some 120), (9, some 121), (10, some 122), (11, some 18), (12, none), (13, some 19), (14, some 20)] a0 u = a1 at *
    refine Exists.intro b9 (And.intro ?_ ?_)
    · intro K hK
      refine wp_extract (x := .tmp 112) (n := 1) (vs := #[stAgg3 xs, b9, c9]) (v := b9) ?_ ?_ ?_ ?_
      · rfl
      · exact q
      · rfl
      · exact hK
    · exact fun a b c he => by have h9 : [u 7] = [Value.tuple #[a, b, c]] := he; rw [e13] at h9; simp at h9; exact h9.2.1
  · refine stepG_pure (by rfl) (by rfl) (fun _ _ => trivial) ?_
    intro u wq hC hp
    have p13 : [u 6] = [u 7] ∧ tup3 (stAgg3 xs) (u 7) := hp 7 (by simp) (by kernel_rfl)
    obtain ⟨-, b9, c9, e13⟩ := p13
    have q : (putL [(1, some 114), (3, some 116), (5, some 118), (6, some 119), (7, some 112), (8, some 120), (9, some 121), (10, some 122), (11, some 18), (12, none), (13, some 19), (14, some 20)] a0 u).eval (.tmp 112) = u 7 := eval_of (putL_in (k := 112) (i := 7) [(1, some 114), (3, some 116), (5, some 118), (6, some 119), (7, some 112), (8, some 120), (9, some 121), (10, some 122), (11, some 18), (12, none), (13, some 19), (14, some 20)] a0 u (by rfl) (hsz.out 112 (by decide)))
    rw [e13] at q
    generalize putL [(1, some 114), (3, some 116), (5, some 118), (6, some 119), (7, some 112), (8, some 120), (9, some 121), (10, some 122), (11, some 18), (12, none), (13, some 19), (14, some 20)] a0 u = a1 at *
    refine Exists.intro c9 (And.intro ?_ ?_)
    · intro K hK
      refine wp_extract (x := .tmp 112) (n := 2) (vs := #[stAgg3 xs, b9, c9]) (v := c9) ?_ ?_ ?_ ?_
      · rfl
      · exact q
      · rfl
      · exact hK
    · exact fun a b c he => by have h9 : [u 7] = [Value.tuple #[a, b, c]] := he; rw [e13] at h9; simp at h9; exact h9.2.2
  · refine stepG_mk (by rfl) (by rfl) ?_
    intro u wq F1 hC hp hN hF hD K hK
    clear hp hN hF hD
    generalize putL [(1, some 114), (3, some 116), (5, some 118), (6, some 119), (7, some 112), (8, some 120), (9, some 121), (10, some 122), (11, some 18), (12, none), (13, some 19), (14, some 20)] a0 u = a1 at *
    go_simp
    have hn1 : NL (x28N a s e xs sends outs) 11 (updV u 11 (.pointer (some ⟨wq.heap.size, 0, none⟩))) (wq.alloc (.cells #[.int .i64 0, .int .i64 0, .int .i64 0] 30)) (fun k => k = wq.heap.size) := ⟨_, rfl, rfl, heap_at rfl⟩
    exact hK _ (.pointer (some ⟨wq.heap.size, 0, none⟩)) _ (fun k => k = wq.heap.size) rfl ((Ch.refl _ _).alloc _) hn1 (fun k hk => by subst hk; exact ⟨.inr (Nat.le_refl _), by simp⟩) trivial
  · refine stepG_mk (by rfl) (by rfl) ?_
    intro u wq F1 hC hp hN hF hD K hK
    have q1 : (putL [(1, some 114), (3, some 116), (5, some 118), (6, some 119), (7, some 112), (8, some 120), (9, some 121), (10, some 122), (11, some 18), (12, none), (13, some 19), (14, some 20)] a0 u).eval (.tmp 18) = u 11 := eval_of (putL_in (k := 18) (i := 11) [(1, some 114), (3, some 116), (5, some 118), (6, some 119), (7, some 112), (8, some 120), (9, some 121), (10, some 122), (11, some 18), (12, none), (13, some 19), (14, some 20)] a0 u (by rfl) (hsz.out 18 (by decide)))
    have q2 : (putL [(1, some 114), (3, some 116), (5, some 118), (6, some 119), (7, some 112), (8, some 120), (9, some 121), (10, some 122), (11, some 18), (12, none), (13, some 19), (14, some 20)] a0 u).eval (.tmp 120) = u 8 := eval_of (putL_in (k := 120) (i := 8) [(1, some 114), (3, some 116), (5, some 118), (6, some 119), (7, some 112), (8, some 120), (9, some 121), (10, some 122), (11, some 18), (12, none), (13, some 19), (14, some 20)] a0 u (by rfl) (hsz.out 120 (by decide)))
    generalize putL [(1, some 114), (3, some 116), (5, some 118), (6, some 119), (7, some 112), (8, some 120), (9, some 121), (10, some 122), (11, some 18), (12, none), (13, some 19), (14, some 20)] a0 u = a1 at *
    obtain ⟨g, e17, f17, B17⟩ : ∃ g, u 11 = .pointer (some ⟨g, 0, none⟩) ∧ F1 11 g ∧ wq.heap[g]? = some (.cells #[.int .i64 0, .int .i64 0, .int .i64 0] 30 (0, 0)) := hN 11 (by simp)
    have p14 : u 8 = stAgg3 xs := hp 8 (by simp) (by kernel_rfl)
    have hgl := (hF 11 (by simp) g f17).2
    rw [e17] at q1
    rw [p14] at q2
    refine wp_store_mid 30 (.tmp 18) (.tmp 120) (by rfl) g 0 #[.int .i64 xs.x, .int .i64 xs.y, .int .i64 xs.c] q1 q2 (there_of_block B17 (by simp)) (by kernel_rfl) (by simp [Value.oneCell']) ?_
    have hn1 : NL (x28N a s e xs sends outs) 12 (updV u 12 undef) (wq.setCells g 0 [.int .i64 xs.x, .int .i64 xs.y, .int .i64 xs.c]) (fun k => k = g) := ⟨g, (show [u 11] = _ by rw [e17]), rfl, blk_ovw _ 0 wq [.int .i64 0, .int .i64 0, .int .i64 0] B17⟩
    exact hK _ undef _ (fun k => k = g) rfl (Ch.setCells _ _ _ (Ch.refl _ _) (.inl ⟨11, by simp, f17⟩)) hn1 (fun k hk => by subst hk; exact ⟨.inl ⟨11, by simp, f17⟩, by rw [size_setCells]; exact hgl⟩) trivial
  · refine stepG_pure (by rfl) (by rfl) (fun _ _ => trivial) ?_
    intro u wq hC hp
    have q : (putL [(1, some 114), (3, some 116), (5, some 118), (6, some 119), (7, some 112), (8, some 120), (9, some 121), (10, some 122), (11, some 18), (12, none), (13, some 19), (14, some 20)] a0 u).eval (.tmp 121) = u 9 := eval_of (putL_in (k := 121) (i := 9) [(1, some 114), (3, some 116), (5, some 118), (6, some 119), (7, some 112), (8, some 120), (9, some 121), (10, some 122), (11, some 18), (12, none), (13, some 19), (14, some 20)] a0 u (by rfl) (hsz.out 121 (by decide)))
    generalize putL [(1, some 114), (3, some 116), (5, some 118), (6, some 119), (7, some 112), (8, some 120), (9, some 121), (10, some 122), (11, some 18), (12, none), (13, some 19), (14, some 20)] a0 u = a1 at *
    refine Exists.intro (u 9) (And.intro ?_ ?_)
    · intro K hK
      exact wp_move' (.inr (by rfl)) q hK
    · exact rfl
  · refine stepG_pure (by rfl) (by rfl) (fun _ _ => trivial) ?_
    intro u wq hC hp
    have q : (putL [(1, some 114), (3, some 116), (5, some 118), (6, some 119), (7, some 112), (8, some 120), (9, some 121), (10, some 122), (11, some 18), (12, none), (13, some 19), (14, some 20)] a0 u).eval (.tmp 122) = u 10 := eval_of (putL_in (k := 122) (i := 10) [(1, some 114), (3, some 116), (5, some 118), (6, some 119), (7, some 112), (8, some 120), (9, some 121), (10, some 122), (11, some 18), (12, none), (13, some 19), (14, some 20)] a0 u (by rfl) (hsz.out 122 (by decide)))
    generalize putL [(1, some 114), (3, some 116), (5, some 118), (6, some 119), (7, some 112), (8, some 120), (9, some 121), (10, some 122), (11, some 18), (12, none), (13, some 19), (14, some 20)] a0 u = a1 at *
    refine Exists.intro (u 10) (And.intro ?_ ?_)
    · intro K hK
      exact wp_move' (.inr (by rfl)) q hK
    · exact rfl
  intro K hK u w26 F1 hC hD hF hN hpp
  obtain ⟨sv, ov, g12, n12, m12⟩ : ∃ sv ov, u 6 = .tuple #[stAgg3 xs, sv, ov] ∧ Ow tEv 40 w26 (F1 6) sv sends ∧ Ow tOut 77 w26 (F1 6) ov outs := hN 6 (by rfl)
  obtain ⟨gH, g17, f17, BX3⟩ : ∃ g, [u 11] = [.pointer (some ⟨g, 0, none⟩)] ∧ F1 12 g ∧ w26.heap[g]? = some (.cells #[.int .i64 xs.x, .int .i64 xs.y, .int .i64 xs.c] 30 (0, 0)) := hN 12 (by rfl)
  have g17 : u 11 = .pointer (some ⟨gH, 0, none⟩) := by simpa using g17
  have e3 : u 3 = .agg #[.int .i64 s.x, .int .i64 s.y, .int .i64 s.c] := hpp 3 (by simp)
  have e5 : u 5 = .agg #[.int .i64 e.time, .int .i64 e.to, .int .i64 e.from_, .int .i64 e.count, .int .i64 e.n, .int .i64 e.kind, .int .i64 e.arg] := hpp 5 (by simp)
  have p13 : [u 6] = [u 7] ∧ tup3 (stAgg3 xs) (u 7) := hpp 7 (by simp)
  have e13 : u 7 = u 6 := by have := p13.1; simp at this; exact this.symm
  have e14 : u 8 = stAgg3 xs := hpp 8 (by simp)
  have p15 : ∀ a b c, [u 7] = [.tuple #[a, b, c]] → u 9 = b := hpp 9 (by simp)
  have p16 : ∀ a b c, [u 7] = [.tuple #[a, b, c]] → u 10 = c := hpp 10 (by simp)
  have e19 : u 13 = u 9 := by have q : [u 9] = [u 13] := hpp 13 (by simp); simp at q; exact q.symm
  have e20 : u 14 = u 10 := by have q : [u 10] = [u 14] := hpp 14 (by simp); simp at q; exact q.symm
  rw [g12] at e13
  have e15 := p15 _ _ _ (by rw [e13])
  have e16 := p16 _ _ _ (by rw [e13])
  rw [e15] at e19
  rw [e16] at e20
  clear hpp p13 p15 p16
  have hgH : w25.heap.size ≤ gH ∧ gH < w26.heap.size := by have := hF 12 gH (by rfl) f17; refine ⟨?_, this.2⟩; rcases this.1 with q | q; exact q.elim; simpa using q
  have n7 := n12.mono (F' := fun k => w25.heap.size ≤ k ∧ k < w26.heap.size) (fun k hk => by have := hF 6 k (by rfl) hk; refine ⟨?_, this.2⟩; rcases this.1 with q | q; exact q.elim; simpa using q)
  have m7 := m12.mono (F' := fun k => w25.heap.size ≤ k ∧ k < w26.heap.size) (fun k hk => by have := hF 6 k (by rfl) hk; refine ⟨?_, this.2⟩; rcases this.1 with q | q; exact q.elim; simpa using q)
  have HS : Below w25.heap.size w25 w26 := ⟨hC.below0.os, hC.below0.tape, hC.below0.output, hC.below0.size, hC.below0.block⟩
  have HA : Agree w25.drew w26 := Agree.of_ch hC (fun _ hf => hf.elim)
  clear hN hF hD hC n12 m12 f17
  rw [H0.out]
  clear sA sS sE hsz H0 a0
  simp only [putL_cons, putL_nil]
  simp only [stAgg3] at g12 e13 e14
  generalize u 1 = u_1 at *
  generalize u 3 = u_3 at *
  generalize u 5 = u_5 at *
  generalize u 6 = u_6 at *
  generalize u 7 = u_7 at *
  generalize u 8 = u_8 at *
  generalize u 9 = u_9 at *
  generalize u 10 = u_10 at *
  generalize u 11 = u_11 at *
  generalize u 12 = u_12 at *
  generalize u 13 = u_13 at *
  generalize u 14 = u_14 at *
  subst g12 g17 e3 e5 e13 e14 e15 e16 e19 e20
  go_simp
  refine hK _ _ HA ?_
  clear hK K F1 HA
  refine sg_fin ?_
  simp only [pickO]
  clear c_a0 c_s0 c_s1 c_s2 c_e0 c_e1 c_e2 c_e3 c_e4 c_e5 c_e6 c_w0 c_w1 c_w2 c_x0 c_g0 c_g1 c_g2
  replace HB := bthen HB HS HB.size
  replace X_a := below_heap HS (blk_lt X_a) X_a
  replace X_s := below_heap HS (blk_lt X_s) X_s
  replace X_e := below_heap HS (blk_lt X_e) X_e
  replace X_w := below_heap HS (blk_lt X_w) X_w
  replace X_x := below_heap HS (blk_lt X_x) X_x
  replace X_g := below_heap HS (blk_lt X_g) X_g
  replace n_w1 := n_w1.below HS
  replace n_w2 := n_w2.below HS
  replace n_g1 := n_g1.below HS
  replace n_g2 := n_g2.below HS
  replace hA := hA.below HS
  have X_h := BX3; have n_h1 := n7; have n_h2 := m7; clear BX3 n7 m7 hgH HS
  obtain ⟨K1, k1, rfl, -⟩ := n_h1.shape
  obtain ⟨K2, k2, rfl, -⟩ := n_h2.shape
  have c_a0 : w26.cell? ⟨w.heap.size, 0, none⟩ = some (.slice A a.rules.length c) := blk_cell X_a 0
  have c_s0 : w26.cell? ⟨w.heap.size + 1, 0, none⟩ = some (.int .i64 s.x) := blk_cell X_s 0
  have c_s1 : w26.cell? ⟨w.heap.size + 1, 1, none⟩ = some (.int .i64 s.y) := blk_cell X_s 1
  have c_s2 : w26.cell? ⟨w.heap.size + 1, 2, none⟩ = some (.int .i64 s.c) := blk_cell X_s 2
  have c_e0 : w26.cell? ⟨w.heap.size + 1 + 1, 0, none⟩ = some (.int .i64 e.time) := blk_cell X_e 0
  have c_e1 : w26.cell? ⟨w.heap.size + 1 + 1, 1, none⟩ = some (.int .i64 e.to) := blk_cell X_e 1
  have c_e2 : w26.cell? ⟨w.heap.size + 1 + 1, 2, none⟩ = some (.int .i64 e.from_) := blk_cell X_e 2
  have c_e3 : w26.cell? ⟨w.heap.size + 1 + 1, 3, none⟩ = some (.int .i64 e.count) := blk_cell X_e 3
  have c_e4 : w26.cell? ⟨w.heap.size + 1 + 1, 4, none⟩ = some (.int .i64 e.n) := blk_cell X_e 4
  have c_e5 : w26.cell? ⟨w.heap.size + 1 + 1, 5, none⟩ = some (.int .i64 e.kind) := blk_cell X_e 5
  have c_e6 : w26.cell? ⟨w.heap.size + 1 + 1, 6, none⟩ = some (.int .i64 e.arg) := blk_cell X_e 6
  have c_w0 : w26.cell? ⟨gW, 0, none⟩ = some (.int .i64 xs.x) := blk_cell X_w 0
  have c_w1 : w26.cell? ⟨gW, 1, none⟩ = some (.int .i64 xs.y) := blk_cell X_w 1
  have c_w2 : w26.cell? ⟨gW, 2, none⟩ = some (.int .i64 xs.c) := blk_cell X_w 2
  have c_x0 : w26.cell? ⟨g8, 0, none⟩ = some (.slice B a.rules.length b) := blk_cell X_x 0
  have c_g0 : w26.cell? ⟨gG, 0, none⟩ = some (.int .i64 xs.x) := blk_cell X_g 0
  have c_g1 : w26.cell? ⟨gG, 1, none⟩ = some (.int .i64 xs.y) := blk_cell X_g 1
  have c_g2 : w26.cell? ⟨gG, 2, none⟩ = some (.int .i64 xs.c) := blk_cell X_g 2
  have c_h0 : w26.cell? ⟨gH, 0, none⟩ = some (.int .i64 xs.x) := blk_cell X_h 0
  have c_h1 : w26.cell? ⟨gH, 1, none⟩ = some (.int .i64 xs.y) := blk_cell X_h 1
  have c_h2 : w26.cell? ⟨gH, 2, none⟩ = some (.int .i64 xs.c) := blk_cell X_h 2
  go_wp2_with fail
  refine (eqStateX xs _).mono ?_
  rintro q w27 ⟨rfl, hb27⟩
  clear c_a0 c_s0 c_s1 c_s2 c_e0 c_e1 c_e2 c_e3 c_e4 c_e5 c_e6 c_w0 c_w1 c_w2 c_x0 c_g0 c_g1 c_g2 c_h0 c_h1 c_h2
  replace HB := bthen HB hb27 HB.size
  replace X_a := below_heap hb27 (blk_lt X_a) X_a
  replace X_s := below_heap hb27 (blk_lt X_s) X_s
  replace X_e := below_heap hb27 (blk_lt X_e) X_e
  replace X_w := below_heap hb27 (blk_lt X_w) X_w
  replace X_x := below_heap hb27 (blk_lt X_x) X_x
  replace X_g := below_heap hb27 (blk_lt X_g) X_g
  replace X_h := below_heap hb27 (blk_lt X_h) X_h
  replace n_w1 := n_w1.below hb27
  replace n_w2 := n_w2.below hb27
  replace n_g1 := n_g1.below hb27
  replace n_g2 := n_g2.below hb27
  replace n_h1 := n_h1.below hb27
  replace n_h2 := n_h2.below hb27
  replace hA := hA.below hb27
  clear hb27
  have c_a0 : w27.cell? ⟨w.heap.size, 0, none⟩ = some (.slice A a.rules.length c) := blk_cell X_a 0
  have c_s0 : w27.cell? ⟨w.heap.size + 1, 0, none⟩ = some (.int .i64 s.x) := blk_cell X_s 0
  have c_s1 : w27.cell? ⟨w.heap.size + 1, 1, none⟩ = some (.int .i64 s.y) := blk_cell X_s 1
  have c_s2 : w27.cell? ⟨w.heap.size + 1, 2, none⟩ = some (.int .i64 s.c) := blk_cell X_s 2
  have c_e0 : w27.cell? ⟨w.heap.size + 1 + 1, 0, none⟩ = some (.int .i64 e.time) := blk_cell X_e 0
  have c_e1 : w27.cell? ⟨w.heap.size + 1 + 1, 1, none⟩ = some (.int .i64 e.to) := blk_cell X_e 1
  have c_e2 : w27.cell? ⟨w.heap.size + 1 + 1, 2, none⟩ = some (.int .i64 e.from_) := blk_cell X_e 2
  have c_e3 : w27.cell? ⟨w.heap.size + 1 + 1, 3, none⟩ = some (.int .i64 e.count) := blk_cell X_e 3
  have c_e4 : w27.cell? ⟨w.heap.size + 1 + 1, 4, none⟩ = some (.int .i64 e.n) := blk_cell X_e 4
  have c_e5 : w27.cell? ⟨w.heap.size + 1 + 1, 5, none⟩ = some (.int .i64 e.kind) := blk_cell X_e 5
  have c_e6 : w27.cell? ⟨w.heap.size + 1 + 1, 6, none⟩ = some (.int .i64 e.arg) := blk_cell X_e 6
  have c_w0 : w27.cell? ⟨gW, 0, none⟩ = some (.int .i64 xs.x) := blk_cell X_w 0
  have c_w1 : w27.cell? ⟨gW, 1, none⟩ = some (.int .i64 xs.y) := blk_cell X_w 1
  have c_w2 : w27.cell? ⟨gW, 2, none⟩ = some (.int .i64 xs.c) := blk_cell X_w 2
  have c_x0 : w27.cell? ⟨g8, 0, none⟩ = some (.slice B a.rules.length b) := blk_cell X_x 0
  have c_g0 : w27.cell? ⟨gG, 0, none⟩ = some (.int .i64 xs.x) := blk_cell X_g 0
  have c_g1 : w27.cell? ⟨gG, 1, none⟩ = some (.int .i64 xs.y) := blk_cell X_g 1
  have c_g2 : w27.cell? ⟨gG, 2, none⟩ = some (.int .i64 xs.c) := blk_cell X_g 2
  have c_h0 : w27.cell? ⟨gH, 0, none⟩ = some (.int .i64 xs.x) := blk_cell X_h 0
  have c_h1 : w27.cell? ⟨gH, 1, none⟩ = some (.int .i64 xs.y) := blk_cell X_h 1
  have c_h2 : w27.cell? ⟨gH, 2, none⟩ = some (.int .i64 xs.c) := blk_cell X_h 2
  apply_assumption
  go_wp2_with fail
  refine (eqEventSX _ _ sends _ _ _ n_h1.rd n_w1.rd).mono ?_
  rintro q w28 ⟨rfl, hb28⟩
  clear c_a0 c_s0 c_s1 c_s2 c_e0 c_e1 c_e2 c_e3 c_e4 c_e5 c_e6 c_w0 c_w1 c_w2 c_x0 c_g0 c_g1 c_g2 c_h0 c_h1 c_h2
  replace HB := bthen HB hb28 HB.size
  replace X_a := below_heap hb28 (blk_lt X_a) X_a
  replace X_s := below_heap hb28 (blk_lt X_s) X_s
  replace X_e := below_heap hb28 (blk_lt X_e) X_e
  replace X_w := below_heap hb28 (blk_lt X_w) X_w
  replace X_x := below_heap hb28 (blk_lt X_x) X_x
  replace X_g := below_heap hb28 (blk_lt X_g) X_g
  replace X_h := below_heap hb28 (blk_lt X_h) X_h
  replace n_w1 := n_w1.below hb28
  replace n_w2 := n_w2.below hb28
  replace n_g1 := n_g1.below hb28
  replace n_g2 := n_g2.below hb28
  replace n_h1 := n_h1.below hb28
  replace n_h2 := n_h2.below hb28
  replace hA := hA.below hb28
  clear hb28
  have c_a0 : w28.cell? ⟨w.heap.size, 0, none⟩ = some (.slice A a.rules.length c) := blk_cell X_a 0
  have c_s0 : w28.cell? ⟨w.heap.size + 1, 0, none⟩ = some (.int .i64 s.x) := blk_cell X_s 0
  have c_s1 : w28.cell? ⟨w.heap.size + 1, 1, none⟩ = some (.int .i64 s.y) := blk_cell X_s 1
  have c_s2 : w28.cell? ⟨w.heap.size + 1, 2, none⟩ = some (.int .i64 s.c) := blk_cell X_s 2
  have c_e0 : w28.cell? ⟨w.heap.size + 1 + 1, 0, none⟩ = some (.int .i64 e.time) := blk_cell X_e 0
  have c_e1 : w28.cell? ⟨w.heap.size + 1 + 1, 1, none⟩ = some (.int .i64 e.to) := blk_cell X_e 1
  have c_e2 : w28.cell? ⟨w.heap.size + 1 + 1, 2, none⟩ = some (.int .i64 e.from_) := blk_cell X_e 2
  have c_e3 : w28.cell? ⟨w.heap.size + 1 + 1, 3, none⟩ = some (.int .i64 e.count) := blk_cell X_e 3
  have c_e4 : w28.cell? ⟨w.heap.size + 1 + 1, 4, none⟩ = some (.int .i64 e.n) := blk_cell X_e 4
  have c_e5 : w28.cell? ⟨w.heap.size + 1 + 1, 5, none⟩ = some (.int .i64 e.kind) := blk_cell X_e 5
  have c_e6 : w28.cell? ⟨w.heap.size + 1 + 1, 6, none⟩ = some (.int .i64 e.arg) := blk_cell X_e 6
  have c_w0 : w28.cell? ⟨gW, 0, none⟩ = some (.int .i64 xs.x) := blk_cell X_w 0
  have c_w1 : w28.cell? ⟨gW, 1, none⟩ = some (.int .i64 xs.y) := blk_cell X_w 1
  have c_w2 : w28.cell? ⟨gW, 2, none⟩ = some (.int .i64 xs.c) := blk_cell X_w 2
  have c_x0 : w28.cell? ⟨g8, 0, none⟩ = some (.slice B a.rules.length b) := blk_cell X_x 0
  have c_g0 : w28.cell? ⟨gG, 0, none⟩ = some (.int .i64 xs.x) := blk_cell X_g 0
  have c_g1 : w28.cell? ⟨gG, 1, none⟩ = some (.int .i64 xs.y) := blk_cell X_g 1
  have c_g2 : w28.cell? ⟨gG, 2, none⟩ = some (.int .i64 xs.c) := blk_cell X_g 2
  have c_h0 : w28.cell? ⟨gH, 0, none⟩ = some (.int .i64 xs.x) := blk_cell X_h 0
  have c_h1 : w28.cell? ⟨gH, 1, none⟩ = some (.int .i64 xs.y) := blk_cell X_h 1
  have c_h2 : w28.cell? ⟨gH, 2, none⟩ = some (.int .i64 xs.c) := blk_cell X_h 2
  apply_assumption
  go_wp2_with fail
  refine (eqOutSX _ _ outs _ _ _ n_h2.rd n_w2.rd).mono ?_
  rintro q w29 ⟨rfl, hb29⟩
  clear c_a0 c_s0 c_s1 c_s2 c_e0 c_e1 c_e2 c_e3 c_e4 c_e5 c_e6 c_w0 c_w1 c_w2 c_x0 c_g0 c_g1 c_g2 c_h0 c_h1 c_h2
  replace HB := bthen HB hb29 HB.size
  replace X_a := below_heap hb29 (blk_lt X_a) X_a
  replace X_s := below_heap hb29 (blk_lt X_s) X_s
  replace X_e := below_heap hb29 (blk_lt X_e) X_e
  replace X_w := below_heap hb29 (blk_lt X_w) X_w
  replace X_x := below_heap hb29 (blk_lt X_x) X_x
  replace X_g := below_heap hb29 (blk_lt X_g) X_g
  replace X_h := below_heap hb29 (blk_lt X_h) X_h
  replace n_w1 := n_w1.below hb29
  replace n_w2 := n_w2.below hb29
  replace n_g1 := n_g1.below hb29
  replace n_g2 := n_g2.below hb29
  replace n_h1 := n_h1.below hb29
  replace n_h2 := n_h2.below hb29
  replace hA := hA.below hb29
  clear hb29
  have c_a0 : w29.cell? ⟨w.heap.size, 0, none⟩ = some (.slice A a.rules.length c) := blk_cell X_a 0
  have c_s0 : w29.cell? ⟨w.heap.size + 1, 0, none⟩ = some (.int .i64 s.x) := blk_cell X_s 0
  have c_s1 : w29.cell? ⟨w.heap.size + 1, 1, none⟩ = some (.int .i64 s.y) := blk_cell X_s 1
  have c_s2 : w29.cell? ⟨w.heap.size + 1, 2, none⟩ = some (.int .i64 s.c) := blk_cell X_s 2
  have c_e0 : w29.cell? ⟨w.heap.size + 1 + 1, 0, none⟩ = some (.int .i64 e.time) := blk_cell X_e 0
  have c_e1 : w29.cell? ⟨w.heap.size + 1 + 1, 1, none⟩ = some (.int .i64 e.to) := blk_cell X_e 1
  have c_e2 : w29.cell? ⟨w.heap.size + 1 + 1, 2, none⟩ = some (.int .i64 e.from_) := blk_cell X_e 2
  have c_e3 : w29.cell? ⟨w.heap.size + 1 + 1, 3, none⟩ = some (.int .i64 e.count) := blk_cell X_e 3
  have c_e4 : w29.cell? ⟨w.heap.size + 1 + 1, 4, none⟩ = some (.int .i64 e.n) := blk_cell X_e 4
  have c_e5 : w29.cell? ⟨w.heap.size + 1 + 1, 5, none⟩ = some (.int .i64 e.kind) := blk_cell X_e 5
  have c_e6 : w29.cell? ⟨w.heap.size + 1 + 1, 6, none⟩ = some (.int .i64 e.arg) := blk_cell X_e 6
  have c_w0 : w29.cell? ⟨gW, 0, none⟩ = some (.int .i64 xs.x) := blk_cell X_w 0
  have c_w1 : w29.cell? ⟨gW, 1, none⟩ = some (.int .i64 xs.y) := blk_cell X_w 1
  have c_w2 : w29.cell? ⟨gW, 2, none⟩ = some (.int .i64 xs.c) := blk_cell X_w 2
  have c_x0 : w29.cell? ⟨g8, 0, none⟩ = some (.slice B a.rules.length b) := blk_cell X_x 0
  have c_g0 : w29.cell? ⟨gG, 0, none⟩ = some (.int .i64 xs.x) := blk_cell X_g 0
  have c_g1 : w29.cell? ⟨gG, 1, none⟩ = some (.int .i64 xs.y) := blk_cell X_g 1
  have c_g2 : w29.cell? ⟨gG, 2, none⟩ = some (.int .i64 xs.c) := blk_cell X_g 2
  have c_h0 : w29.cell? ⟨gH, 0, none⟩ = some (.int .i64 xs.x) := blk_cell X_h 0
  have c_h1 : w29.cell? ⟨gH, 1, none⟩ = some (.int .i64 xs.y) := blk_cell X_h 1
  have c_h2 : w29.cell? ⟨gH, 2, none⟩ = some (.int .i64 xs.c) := blk_cell X_h 2
  apply_assumption
  go_wp2_with fail
  refine (heldEventS_c _ sends.length 1 _ _ n_g1.rd (by decide) (by decide) (by have := hle.out; omega)).mono ?_
  rintro q w30 ⟨rfl, hb30⟩
  clear c_a0 c_s0 c_s1 c_s2 c_e0 c_e1 c_e2 c_e3 c_e4 c_e5 c_e6 c_w0 c_w1 c_w2 c_x0 c_g0 c_g1 c_g2 c_h0 c_h1 c_h2
  replace HB := bthen HB hb30 HB.size
  replace X_a := below_heap hb30 (blk_lt X_a) X_a
  replace X_s := below_heap hb30 (blk_lt X_s) X_s
  replace X_e := below_heap hb30 (blk_lt X_e) X_e
  replace X_w := below_heap hb30 (blk_lt X_w) X_w
  replace X_x := below_heap hb30 (blk_lt X_x) X_x
  replace X_g := below_heap hb30 (blk_lt X_g) X_g
  replace X_h := below_heap hb30 (blk_lt X_h) X_h
  replace n_w1 := n_w1.below hb30
  replace n_w2 := n_w2.below hb30
  replace n_g1 := n_g1.below hb30
  replace n_g2 := n_g2.below hb30
  replace n_h1 := n_h1.below hb30
  replace n_h2 := n_h2.below hb30
  replace hA := hA.below hb30
  rw [Hm1.out]
  clear hb30
  have c_a0 : w30.cell? ⟨w.heap.size, 0, none⟩ = some (.slice A a.rules.length c) := blk_cell X_a 0
  have c_s0 : w30.cell? ⟨w.heap.size + 1, 0, none⟩ = some (.int .i64 s.x) := blk_cell X_s 0
  have c_s1 : w30.cell? ⟨w.heap.size + 1, 1, none⟩ = some (.int .i64 s.y) := blk_cell X_s 1
  have c_s2 : w30.cell? ⟨w.heap.size + 1, 2, none⟩ = some (.int .i64 s.c) := blk_cell X_s 2
  have c_e0 : w30.cell? ⟨w.heap.size + 1 + 1, 0, none⟩ = some (.int .i64 e.time) := blk_cell X_e 0
  have c_e1 : w30.cell? ⟨w.heap.size + 1 + 1, 1, none⟩ = some (.int .i64 e.to) := blk_cell X_e 1
  have c_e2 : w30.cell? ⟨w.heap.size + 1 + 1, 2, none⟩ = some (.int .i64 e.from_) := blk_cell X_e 2
  have c_e3 : w30.cell? ⟨w.heap.size + 1 + 1, 3, none⟩ = some (.int .i64 e.count) := blk_cell X_e 3
  have c_e4 : w30.cell? ⟨w.heap.size + 1 + 1, 4, none⟩ = some (.int .i64 e.n) := blk_cell X_e 4
  have c_e5 : w30.cell? ⟨w.heap.size + 1 + 1, 5, none⟩ = some (.int .i64 e.kind) := blk_cell X_e 5
  have c_e6 : w30.cell? ⟨w.heap.size + 1 + 1, 6, none⟩ = some (.int .i64 e.arg) := blk_cell X_e 6
  have c_w0 : w30.cell? ⟨gW, 0, none⟩ = some (.int .i64 xs.x) := blk_cell X_w 0
  have c_w1 : w30.cell? ⟨gW, 1, none⟩ = some (.int .i64 xs.y) := blk_cell X_w 1
  have c_w2 : w30.cell? ⟨gW, 2, none⟩ = some (.int .i64 xs.c) := blk_cell X_w 2
  have c_x0 : w30.cell? ⟨g8, 0, none⟩ = some (.slice B a.rules.length b) := blk_cell X_x 0
  have c_g0 : w30.cell? ⟨gG, 0, none⟩ = some (.int .i64 xs.x) := blk_cell X_g 0
  have c_g1 : w30.cell? ⟨gG, 1, none⟩ = some (.int .i64 xs.y) := blk_cell X_g 1
  have c_g2 : w30.cell? ⟨gG, 2, none⟩ = some (.int .i64 xs.c) := blk_cell X_g 2
  have c_h0 : w30.cell? ⟨gH, 0, none⟩ = some (.int .i64 xs.x) := blk_cell X_h 0
  have c_h1 : w30.cell? ⟨gH, 1, none⟩ = some (.int .i64 xs.y) := blk_cell X_h 1
  have c_h2 : w30.cell? ⟨gH, 2, none⟩ = some (.int .i64 xs.c) := blk_cell X_h 2
  apply_assumption
  go_wp2_with fail
  refine (heldOutS_c _ outs.length m1 _ _ n_g2.rd (by omega) (by omega) (by have := hle.out; omega)).mono ?_
  rintro q w31 ⟨rfl, hb31⟩
  clear c_a0 c_s0 c_s1 c_s2 c_e0 c_e1 c_e2 c_e3 c_e4 c_e5 c_e6 c_w0 c_w1 c_w2 c_x0 c_g0 c_g1 c_g2 c_h0 c_h1 c_h2
  replace HB := bthen HB hb31 HB.size
  replace X_a := below_heap hb31 (blk_lt X_a) X_a
  replace X_s := below_heap hb31 (blk_lt X_s) X_s
  replace X_e := below_heap hb31 (blk_lt X_e) X_e
  replace X_w := below_heap hb31 (blk_lt X_w) X_w
  replace X_x := below_heap hb31 (blk_lt X_x) X_x
  replace X_g := below_heap hb31 (blk_lt X_g) X_g
  replace X_h := below_heap hb31 (blk_lt X_h) X_h
  replace n_w1 := n_w1.below hb31
  replace n_w2 := n_w2.below hb31
  replace n_g1 := n_g1.below hb31
  replace n_g2 := n_g2.below hb31
  replace n_h1 := n_h1.below hb31
  replace n_h2 := n_h2.below hb31
  replace hA := hA.below hb31
  rw [Hm2.out]
  clear hb31
  have c_a0 : w31.cell? ⟨w.heap.size, 0, none⟩ = some (.slice A a.rules.length c) := blk_cell X_a 0
  have c_s0 : w31.cell? ⟨w.heap.size + 1, 0, none⟩ = some (.int .i64 s.x) := blk_cell X_s 0
  have c_s1 : w31.cell? ⟨w.heap.size + 1, 1, none⟩ = some (.int .i64 s.y) := blk_cell X_s 1
  have c_s2 : w31.cell? ⟨w.heap.size + 1, 2, none⟩ = some (.int .i64 s.c) := blk_cell X_s 2
  have c_e0 : w31.cell? ⟨w.heap.size + 1 + 1, 0, none⟩ = some (.int .i64 e.time) := blk_cell X_e 0
  have c_e1 : w31.cell? ⟨w.heap.size + 1 + 1, 1, none⟩ = some (.int .i64 e.to) := blk_cell X_e 1
  have c_e2 : w31.cell? ⟨w.heap.size + 1 + 1, 2, none⟩ = some (.int .i64 e.from_) := blk_cell X_e 2
  have c_e3 : w31.cell? ⟨w.heap.size + 1 + 1, 3, none⟩ = some (.int .i64 e.count) := blk_cell X_e 3
  have c_e4 : w31.cell? ⟨w.heap.size + 1 + 1, 4, none⟩ = some (.int .i64 e.n) := blk_cell X_e 4
  have c_e5 : w31.cell? ⟨w.heap.size + 1 + 1, 5, none⟩ = some (.int .i64 e.kind) := blk_cell X_e 5
  have c_e6 : w31.cell? ⟨w.heap.size + 1 + 1, 6, none⟩ = some (.int .i64 e.arg) := blk_cell X_e 6
  have c_w0 : w31.cell? ⟨gW, 0, none⟩ = some (.int .i64 xs.x) := blk_cell X_w 0
  have c_w1 : w31.cell? ⟨gW, 1, none⟩ = some (.int .i64 xs.y) := blk_cell X_w 1
  have c_w2 : w31.cell? ⟨gW, 2, none⟩ = some (.int .i64 xs.c) := blk_cell X_w 2
  have c_x0 : w31.cell? ⟨g8, 0, none⟩ = some (.slice B a.rules.length b) := blk_cell X_x 0
  have c_g0 : w31.cell? ⟨gG, 0, none⟩ = some (.int .i64 xs.x) := blk_cell X_g 0
  have c_g1 : w31.cell? ⟨gG, 1, none⟩ = some (.int .i64 xs.y) := blk_cell X_g 1
  have c_g2 : w31.cell? ⟨gG, 2, none⟩ = some (.int .i64 xs.c) := blk_cell X_g 2
  have c_h0 : w31.cell? ⟨gH, 0, none⟩ = some (.int .i64 xs.x) := blk_cell X_h 0
  have c_h1 : w31.cell? ⟨gH, 1, none⟩ = some (.int .i64 xs.y) := blk_cell X_h 1
  have c_h2 : w31.cell? ⟨gH, 2, none⟩ = some (.int .i64 xs.c) := blk_cell X_h 2
  apply_assumption
  go_wp2_with fail
  go_ret
  exact ⟨rfl, HB⟩
end Go.Proofs.Ytlinephiindncaa
