/- Texts joined: Ezh. -/
import Derived.Test.YtbcemldiahghcaaGreatK31
import Derived.Test.YtbcemldiahghcaaGreatK21
import Derived.Test.YtbcemldiahghcaaGreatK32
import Derived.Test.YtbcemldiahghcaaGreatK35
import Derived.Test.YtbcemldiahghcaaGreatK33
import Derived.Test.YtbcemldiahghcaaGreatK34
namespace Go.Proofs.YtbcemldiahghcaaGreat
set_option linter.unusedVariables false
set_option linter.unusedSimpArgs false
set_option maxRecDepth 100000
open Go.RowKit
theorem sgx_name {P : Program} {ops : Array Oper} {Q : Exit → Act → World → Prop} {w0 : World} {r : List Sg} {f : List Nat} {a : Act} {w : World} (h : ∀ a0, a0 = a → wpSg P ops Q w0 r f a0 w) : wpSg P ops Q w0 r f a w := h a rfl
theorem eqLaneX (x : LaneD) (v0 v1 : Value) (F G : Nat → Prop) (w : World) (h0 : Rd tPast w F v0 x.done) (h1 : Rd tPast w G v1 x.done) : Calls Tryz.prog 23 #[.agg #[.int .i64 x.proc, .int .i64 x.base.x, .int .i64 x.base.y, .int .i64 x.base.c, v0], .agg #[.int .i64 x.proc, .int .i64 x.base.x, .int .i64 x.base.y, .int .i64 x.base.c, v1]] w fun q w' => q = .returned (.bool true) ∧ Below w.heap.size w w' :=
  (eqLane_c x x v0 v1 (fun _ => True) w (h0.mono (fun _ _ => trivial)) (h1.mono (fun _ _ => trivial))).mono fun q w' ⟨h1, h2⟩ => ⟨by rw [h1, decide_eq_true rfl], h2⟩
theorem eqAppY (x : AppD) (v0 v1 : Value) (F G : Nat → Prop) (w : World) (h0 : Rd tRule w F v0 x.rules) (h1 : Rd tRule w G v1 x.rules) : Calls Tryz.prog 24 #[.agg #[v0], .agg #[v1]] w fun q w' => q = .returned (.bool true) ∧ Below w.heap.size w w' :=
  (eqApp_c x x v0 v1 (fun _ => True) w (h0.mono (fun _ _ => trivial)) (h1.mono (fun _ _ => trivial))).mono fun q w' ⟨h1, h2⟩ => ⟨by rw [h1, decide_eq_true rfl], h2⟩
theorem eqEventSY (v0 v1 : Value) (xs : List EvD) (F G : Nat → Prop) (w : World) (h0 : Rd tEv w F v0 xs) (h1 : Rd tEv w G v1 xs) : Calls Tryz.prog 25 #[v0, v1] w fun q w' => q = .returned (.bool true) ∧ Below w.heap.size w w' :=
  (eqEventS_c v0 v1 xs xs (fun _ => True) w (h0.mono (fun _ _ => trivial)) (h1.mono (fun _ _ => trivial))).mono fun q w' ⟨h1, h2⟩ => ⟨by rw [h1, decide_eq_true rfl], h2⟩
def StepZ (x : LaneD) (bl : Bool) (w : World) (q : Ending) (w' : World) : Prop :=
  ∃ u, q = .returned (.tuple #[.agg #[.int .i64 x.proc, .int .i64 x.base.x, .int .i64 x.base.y, .int .i64 x.base.c, u], .bool bl]) ∧ Ow oPast 98 w' (fun k => w.heap.size ≤ k) u x.done ∧ Below w.heap.size w w'
theorem laneS_call (va v vc : Value) (a : AppD) (l : LaneD) (came : List EvD) (F G H : Nat → Prop) (w : World) (hA : Rd tRule w F va a.rules) (h : Rd tPast w G v l.done) (hc : Rd tEv w H vc came) {x : LaneD} {bl : Bool} (hr : laneStep a l came = (x, bl)) :
    Calls Tryz.prog 18 #[.agg #[va], .agg #[.int .i64 l.proc, .int .i64 l.base.x, .int .i64 l.base.y, .int .i64 l.base.c, v], vc] w (StepZ x bl w) := by
  refine (LaneStepS_c a l came va v vc (fun _ => True) w (hA.mono (fun _ _ => trivial)) (h.mono (fun _ _ => trivial)) (hc.mono (fun _ _ => trivial))).mono ?_
  rintro q w' ⟨x', bl', u, h1, h2, h3, h4⟩
  obtain ⟨rfl, rfl⟩ : x' = x ∧ bl' = bl := by rw [hr] at h1; cases h1; exact ⟨rfl, rfl⟩
  exact ⟨u, h2, h3, h4⟩
theorem laneI_call (va v vc : Value) (a : AppD) (l : LaneD) (came : List EvD) (F G H : Nat → Prop) (w : World) (hA : Rd tRule w F va a.rules) (h : Rd tPast w G v l.done) (hc : Rd tEv w H vc came) {x : LaneD} {bl : Bool} (hr : laneStep a l came = (x, bl)) :
    Calls Tryz.prog 22 #[.agg #[va], .agg #[.int .i64 l.proc, .int .i64 l.base.x, .int .i64 l.base.y, .int .i64 l.base.c, v], vc] w (StepZ x bl w) := by
  refine (LaneStepI_c a l came va v vc (fun _ => True) w (hA.mono (fun _ _ => trivial)) (h.mono (fun _ _ => trivial)) (hc.mono (fun _ _ => trivial))).mono ?_
  rintro q w' ⟨x', bl', u, h1, h2, h3, h4⟩
  obtain ⟨rfl, rfl⟩ : x' = x ∧ bl' = bl := by rw [hr] at h1; cases h1; exact ⟨rfl, rfl⟩
  exact ⟨u, h2, h3, h4⟩
theorem oneInt (k : IntKind) (z : Int) : (Value.int k z).oneCell' = true := rfl
def aggL (x : LaneD) (v : Value) : Prop := ∃ u, v = .agg #[.int .i64 x.proc, .int .i64 x.base.x, .int .i64 x.base.y, .int .i64 x.base.c, u] ∧ u.oneCell' = true
def tupL (x : LaneD) (bl : Bool) (v : Value) : Prop := ∃ a, v = .tuple #[a, .bool bl] ∧ aggL x a
theorem few_sz : ∀ (ps : List PastD), (∀ r ∈ ps, r.sends.length ≤ 2 ∧ r.outs.length ≤ 2) → pastsSz ps ≤ 4 * (ps.length : Int)
  | [], _ => Int.le_refl _
  | p :: ps, h => by
    have h1 := few_sz ps (fun r hr => h r (List.mem_cons_of_mem _ hr))
    have h2 := h p (List.mem_cons_self ..)
    simp only [pastsSz, List.length_cons]
    push_cast
    omega
def z11N (a : AppD) (l : LaneD) (came : List EvD) (x : LaneD) (bl : Bool) : List HeldD :=
  [(1, [], fun _ v w F => ∃ g, v = .agg #[g] ∧ Ow oRule 120 w F g a.rules),
   (3, [], fun _ v w F => ∃ g, v = .agg #[.int .i64 l.proc, .int .i64 l.base.x, .int .i64 l.base.y, .int .i64 l.base.c, g] ∧ Ow oPast 98 w F g l.done),
   (5, [], fun _ v w F => Ow tEv 80 w F v came),
   (6, [], fun _ v w F => ∃ g, v = .tuple #[.agg #[.int .i64 x.proc, .int .i64 x.base.x, .int .i64 x.base.y, .int .i64 x.base.c, g], .bool bl] ∧ Ow oPast 98 w F g x.done),
   (10, [], fun _ v w F => ∃ g, v = .pointer (some ⟨g, 0, none⟩) ∧ F g ∧ w.heap[g]? = some (.cells #[.int .i64 0, .int .i64 0, .int .i64 0, .int .i64 0, .slice none 0 0] 52 (0, 0))),
   (11, [10, 8], fun ds _ w F => ∃ g us, ds = [.pointer (some ⟨g, 0, none⟩), .agg #[.int .i64 x.proc, .int .i64 x.base.x, .int .i64 x.base.y, .int .i64 x.base.c, us]] ∧ F g ∧ w.heap[g]? = some (.cells #[.int .i64 x.proc, .int .i64 x.base.x, .int .i64 x.base.y, .int .i64 x.base.c, us] 52 (0, 0)))]
theorem z11N_moves (a : AppD) (l : LaneD) (came : List EvD) (x : LaneD) (bl : Bool) : MovesDL (z11N a l came x bl) :=
  ⟨fun ds v w w' F ⟨g, h1, h2⟩ hm => ⟨g, h1, Ow.move hm h2⟩, fun ds v w w' F ⟨g, h1, h2⟩ hm => ⟨g, h1, Ow.move hm h2⟩, fun ds v w w' F h1 hm => Ow.move hm h1, fun ds v w w' F ⟨g, h1, h2⟩ hm => ⟨g, h1, Ow.move hm h2⟩, fun ds v w w' F ⟨g, h1, h2, h3⟩ hm => ⟨g, h1, h2, (hm g h2).trans h3⟩, fun ds v w w' F ⟨g, u, h1, h2, h3⟩ hm => ⟨g, u, h1, h2, (hm g h2).trans h3⟩, trivial⟩
def z11P (a : AppD) (l : LaneD) (came : List EvD) (x : LaneD) (bl : Bool) : List Known := [(6, [], fun _ v => tupL x bl v), (7, [6], fun ds v => ds = [v] ∧ tupL x bl v), (8, [7], fun ds v => aggL x v ∧ ∀ a b, ds = [.tuple #[a, b]] → v = a), (9, [7], fun _ v => v = .bool bl), (12, [9], fun ds v => ds = [v])]
def z38N (a : AppD) (l : LaneD) (came : List EvD) (x : LaneD) (bl : Bool) : List HeldD :=
  [(1, [], fun _ v w F => ∃ g, v = .agg #[g] ∧ Ow oRule 120 w F g a.rules),
   (3, [], fun _ v w F => ∃ g, v = .agg #[.int .i64 l.proc, .int .i64 l.base.x, .int .i64 l.base.y, .int .i64 l.base.c, g] ∧ Ow oPast 98 w F g l.done),
   (5, [], fun _ v w F => Ow tEv 80 w F v came),
   (6, [], fun _ v w F => ∃ g, v = .tuple #[.agg #[.int .i64 x.proc, .int .i64 x.base.x, .int .i64 x.base.y, .int .i64 x.base.c, g], .bool bl] ∧ Ow oPast 98 w F g x.done),
   (10, [], fun _ v w F => ∃ g, v = .pointer (some ⟨g, 0, none⟩) ∧ F g ∧ w.heap[g]? = some (.cells #[.int .i64 0, .int .i64 0, .int .i64 0, .int .i64 0, .slice none 0 0] 52 (0, 0))),
   (11, [10, 8], fun ds _ w F => ∃ g us, ds = [.pointer (some ⟨g, 0, none⟩), .agg #[.int .i64 x.proc, .int .i64 x.base.x, .int .i64 x.base.y, .int .i64 x.base.c, us]] ∧ F g ∧ w.heap[g]? = some (.cells #[.int .i64 x.proc, .int .i64 x.base.x, .int .i64 x.base.y, .int .i64 x.base.c, us] 52 (0, 0)))]
theorem z38N_moves (a : AppD) (l : LaneD) (came : List EvD) (x : LaneD) (bl : Bool) : MovesDL (z38N a l came x bl) :=
  ⟨fun ds v w w' F ⟨g, h1, h2⟩ hm => ⟨g, h1, Ow.move hm h2⟩, fun ds v w w' F ⟨g, h1, h2⟩ hm => ⟨g, h1, Ow.move hm h2⟩, fun ds v w w' F h1 hm => Ow.move hm h1, fun ds v w w' F ⟨g, h1, h2⟩ hm => ⟨g, h1, Ow.move hm h2⟩, fun ds v w w' F ⟨g, h1, h2, h3⟩ hm => ⟨g, h1, h2, (hm g h2).trans h3⟩, fun ds v w w' F ⟨g, u, h1, h2, h3⟩ hm => ⟨g, u, h1, h2, (hm g h2).trans h3⟩, trivial⟩
def z38P (a : AppD) (l : LaneD) (came : List EvD) (x : LaneD) (bl : Bool) : List Known := [(6, [], fun _ v => tupL x bl v), (7, [6], fun ds v => ds = [v] ∧ tupL x bl v), (8, [7], fun ds v => aggL x v ∧ ∀ a b, ds = [.tuple #[a, b]] → v = a), (9, [7], fun _ v => v = .bool bl), (12, [9], fun ds v => ds = [v])]
set_option maxHeartbeats 1000000 in
theorem FnExactLaneStep_any (a : AppD) (va : Value) (l : LaneD) (v : Value) (came : List EvD) (vc : Value) (w : World) (hA : Rd tRule w (fun k => k < w.heap.size) va a.rules) (h : Rd tPast w (fun k => k < w.heap.size) v l.done) (hc : Rd tEv w (fun k => k < w.heap.size) vc came) :
    Calls Tryz.prog 4 #[.agg #[va], .agg #[.int .i64 l.proc, .int .i64 l.base.x, .int .i64 l.base.y, .int .i64 l.base.c, v], vc] w fun q w' => q = .returned (.bool true) ∧ Below w.heap.size w w' := by
  obtain ⟨x, bl, hx⟩ : ∃ x bl, laneStep a l came = (x, bl) := ⟨_, _, rfl⟩
  have HX := hid hx
  have HSX := hid (show (x.done.length : Int) + pastsSz x.done ≤ 1048576 by have h1 := laneStep_len hx; have h2 := few_sz x.done h1.2; have h3 := h1.1; omega)
  clear hx
  obtain ⟨A1, c1, rfl, -⟩ := hA.shape
  obtain ⟨A, c, rfl, -⟩ := h.shape
  obtain ⟨C, cc, rfl, -, hlc, -⟩ := id hc
  have hbb : (bl != bl) = false := by simp
  obtain ⟨t1, ht⟩ : ∃ t, szTo 1048576 (a.rules.length + rulesSz a.rules) = t := ⟨_, rfl⟩
  have Ht1 := hid ht
  clear ht
  obtain ⟨t2, ht⟩ : ∃ t, szTo t1 ((l.done.length : Int) + pastsSz l.done) = t := ⟨_, rfl⟩
  have Ht2 := hid ht
  clear ht
  obtain ⟨t3, ht⟩ : ∃ t, szTo t2 (came.length : Int) = t := ⟨_, rfl⟩
  have Ht3 := hid ht
  clear ht
  go_enter Tryz.func4, Tryz.ntmps4
  go_wp2_with fail
  have HB : Below w.heap.size w ((w.alloc (.cells #[.slice A1 a.rules.length c1] 39)).alloc (.cells #[.int .i64 l.proc, .int .i64 l.base.x, .int .i64 l.base.y, .int .i64 l.base.c, .slice A l.done.length c] 44)) := balloc (balloc (Below.refl _ _) _) _
  have X_a : ((w.alloc (.cells #[.slice A1 a.rules.length c1] 39)).alloc (.cells #[.int .i64 l.proc, .int .i64 l.base.x, .int .i64 l.base.y, .int .i64 l.base.c, .slice A l.done.length c] 44)).heap[w.heap.size]? = some (.cells #[.slice A1 a.rules.length c1] 39 (0, 0)) := (heap_old (by simp)).trans (heap_at rfl)
  have X_l : ((w.alloc (.cells #[.slice A1 a.rules.length c1] 39)).alloc (.cells #[.int .i64 l.proc, .int .i64 l.base.x, .int .i64 l.base.y, .int .i64 l.base.c, .slice A l.done.length c] 44)).heap[w.heap.size + 1]? = some (.cells #[.int .i64 l.proc, .int .i64 l.base.x, .int .i64 l.base.y, .int .i64 l.base.c, .slice A l.done.length c] 44 (0, 0)) := heap_at (by simp)
  generalize (w.alloc (.cells #[.slice A1 a.rules.length c1] 39)).alloc (.cells #[.int .i64 l.proc, .int .i64 l.base.x, .int .i64 l.base.y, .int .i64 l.base.c, .slice A l.done.length c] 44) = W at *
  replace hA := hA.below HB
  replace h := h.below HB
  replace hc := hc.below HB
  have c_a0 := cl1 X_a
  obtain ⟨c_l0, c_l1, c_l2, c_l3, c_l4⟩ := cl5 X_l
  refine (szApp_c a _ 1048576 _ _ hA (by decide) (by decide)).mono ?_
  rintro q w1 ⟨rfl, hb1⟩
  clear c_a0 c_l0 c_l1 c_l2 c_l3 c_l4
  replace HB := bthen HB hb1 HB.size
  replace X_a := below_heap hb1 (blk_lt X_a) X_a
  replace X_l := below_heap hb1 (blk_lt X_l) X_l
  replace hA := hA.below hb1
  replace h := h.below hb1
  replace hc := hc.below hb1
  rw [Ht1.out]
  clear hb1
  have c_a0 := cl1 X_a
  obtain ⟨c_l0, c_l1, c_l2, c_l3, c_l4⟩ := cl5 X_l
  apply_assumption
  by_cases hneg : t1 < 0
  · have hd : decide (t1 < 0) = true := decide_eq_true hneg
    clear hneg
    go_wp2_with fail
    go_ret
    exact ⟨rfl, HB⟩
  have hdt1 : decide (t1 < 0) = false := decide_eq_false hneg
  have hzt1 := hid (show t1 = 1048576 - (a.rules.length + rulesSz a.rules) ∧ 0 ≤ t1 from szTo_pos Ht1.out hneg)
  clear hneg
  have b1 : 0 ≤ t1 ∧ t1 ≤ 1048576 := by have := hzt1.out; have := rulesSz_nonneg a.rules; omega
  go_wp2_with fail
  refine (szLane_c l _ t1 _ _ h b1.1 b1.2).mono ?_
  rintro q w2 ⟨rfl, hb2⟩
  clear c_a0 c_l0 c_l1 c_l2 c_l3 c_l4
  replace HB := bthen HB hb2 HB.size
  replace X_a := below_heap hb2 (blk_lt X_a) X_a
  replace X_l := below_heap hb2 (blk_lt X_l) X_l
  replace hA := hA.below hb2
  replace h := h.below hb2
  replace hc := hc.below hb2
  rw [Ht2.out]
  clear hb2
  have c_a0 := cl1 X_a
  obtain ⟨c_l0, c_l1, c_l2, c_l3, c_l4⟩ := cl5 X_l
  apply_assumption
  by_cases hneg : t2 < 0
  · have hd : decide (t2 < 0) = true := decide_eq_true hneg
    clear hneg
    go_wp2_with fail
    go_ret
    exact ⟨rfl, HB⟩
  have hdt2 : decide (t2 < 0) = false := decide_eq_false hneg
  have hzt2 := hid (show t2 = t1 - ((l.done.length : Int) + pastsSz l.done) ∧ 0 ≤ t2 from szTo_pos Ht2.out hneg)
  clear hneg
  have b2 : 0 ≤ t2 ∧ t2 ≤ 1048576 := by have := hzt2.out; have := pastsSz_nonneg l.done; omega
  go_wp2_with fail
  refine (szEventS_c _ came.length t2 _ ⟨_, _, rfl⟩ hlc b2.1 b2.2).mono ?_
  rintro q w3 ⟨rfl, hb3⟩
  clear c_a0 c_l0 c_l1 c_l2 c_l3 c_l4
  replace HB := bthen HB hb3 HB.size
  replace X_a := below_heap hb3 (blk_lt X_a) X_a
  replace X_l := below_heap hb3 (blk_lt X_l) X_l
  replace hA := hA.below hb3
  replace h := h.below hb3
  replace hc := hc.below hb3
  rw [Ht3.out]
  clear hb3
  have c_a0 := cl1 X_a
  obtain ⟨c_l0, c_l1, c_l2, c_l3, c_l4⟩ := cl5 X_l
  apply_assumption
  by_cases hneg : t3 < 0
  · have hd : decide (t3 < 0) = true := decide_eq_true hneg
    clear hneg
    go_wp2_with fail
    go_ret
    exact ⟨rfl, HB⟩
  have hdt3 : decide (t3 < 0) = false := decide_eq_false hneg
  have hzt3 := hid (show t3 = t2 - ((came.length : Int)) ∧ 0 ≤ t3 from szTo_pos Ht3.out hneg)
  clear hneg
  have n1 : a.rules.length ≤ 1048576 ∧ ∀ r ∈ a.rules, r.ops.length ≤ 1048576 := ⟨by have := hzt1.out; have := rulesSz_nonneg a.rules; omega, fun r hr => by have := rulesSz_mem a.rules r hr; have := hzt1.out; omega⟩
  have n2 : l.done.length ≤ 1048576 ∧ ∀ r ∈ l.done, r.sends.length ≤ 1048576 ∧ r.outs.length ≤ 1048576 := ⟨by have := hzt2.out; have := pastsSz_nonneg l.done; omega, fun r hr => by have := pastsSz_mem l.done r hr; have := hzt2.out; omega⟩
  have n3 : came.length ≤ 1048576 := by have := hzt3.out; omega
  have HSA := hid (show (a.rules.length : Int) + rulesSz a.rules ≤ 1048576 by have := hzt1.out; omega)
  have HSL := hid (show (l.done.length : Int) + pastsSz l.done ≤ 1048576 by have := hzt2.out; omega)
  go_upto_region 11 with fail
  refine region_sg [.rd [0, 2, 4], .par [(1, []), (3, []), (5, []), (6, [1, 3, 5]), (7, []), (8, []), (9, []), (10, []), (11, [10]), (12, [])] []] [] (by kernel_rfl) (by kernel_rfl) (fun _ _ d _ _ h => by cases d <;> exact h) ?_
  refine sg_rd (fun N hN => ?_)
  simp only [pickO, List.getElem?_toArray, List.getElem?_cons_zero, List.getElem?_cons_succ]
  go_wp2_with fail
  refine rd_next (hN _ ?_)
  clear hN N
  refine sgx_name fun a0 ha0 => ?_
  have sA := hid (show a0.tmps[36]? = some (.agg #[.slice A1 a.rules.length c1]) by rw [ha0]; rfl)
  have sL := hid (show a0.tmps[38]? = some (.agg #[.int .i64 l.proc, .int .i64 l.base.x, .int .i64 l.base.y, .int .i64 l.base.c, .slice A l.done.length c]) by rw [ha0]; rfl)
  have sC := hid (show a0.tmps[40]? = some (.slice C came.length cc) by rw [ha0]; rfl)
  have hsz := hid (show ∀ k, k < 45 → k < a0.tmps.size from fun k hk => by rw [ha0]; exact Nat.lt_of_lt_of_le hk (by show _ ≤ Array.size _; simp))
  have H0 := hid ha0
  clear ha0
  refine sg_parG [(1, some 37), (3, some 39), (5, some 41), (6, some 42), (7, some 35), (8, some 43), (9, some 44), (10, some 8), (11, none), (12, some 9)] (by rfl) (fun _ => False) (NL (z11N a l came x bl)) (PPL (z11P a l came x bl)) (fun _ _ => False) (PPL_upd _ (by kernel_rfl)) (NL_upd _ (by kernel_rfl)) (NL_move _ (z11N_moves a l came x bl)) (fun w' hc => Agree.of_ch hc (fun _ hf => hf.elim)) (by simp) (by simp) (by simp) (parS_cons ?_ (parS_cons ?_ (parS_cons ?_ (parS_cons ?_ (parS_cons ?_ (parS_cons ?_ (parS_cons ?_ (parS_cons ?_ (parS_cons ?_ (parS_cons ?_ parS_nil)))))))))) ?_
  · refine stepG_mk (by rfl) (by rfl) ?_
    intro u wq F1 hC hp hN hF hD K hK
    have q36 : (putL [(1, some 37), (3, some 39), (5, some 41), (6, some 42), (7, some 35), (8, some 43), (9, some 44), (10, some 8), (11, none), (12, some 9)] a0 u).tmps[36]? = _ := (putL_out (k := 36) [(1, some 37), (3, some 39), (5, some 41), (6, some 42), (7, some 35), (8, some 43), (9, some 44), (10, some 8), (11, none), (12, some 9)] a0 u (by rfl)).trans sA.out
    clear hp hN hF hD
    generalize putL [(1, some 37), (3, some 39), (5, some 41), (6, some 42), (7, some 35), (8, some 43), (9, some 44), (10, some 8), (11, none), (12, some 9)] a0 u = a1 at *
    go_simp
    refine (toApp_c a _ _ wq (hA.below (⟨hC.below0.os, hC.below0.tape, hC.below0.output, hC.below0.size, hC.below0.block⟩ : Below w3.heap.size w3 wq)) n1.1 n1.2).mono ?_
    rintro q w5 ⟨v5, rfl, h5, hb5⟩
    have hn1 : NL (z11N a l came x bl) 1 (updV u 1 (.agg #[v5])) w5 (fun k => wq.heap.size ≤ k ∧ k < w5.heap.size) := ⟨v5, rfl, h5.bound⟩
    have hp1 : PPL (z11P a l came x bl) 1 (updV u 1 (.agg #[v5])) := trivial
    exact hK _ (.agg #[v5]) _ (fun k => wq.heap.size ≤ k ∧ k < w5.heap.size) rfl (Ch.of_below hb5) hn1 (fun k hk => ⟨.inr hk.1, hk.2⟩) hp1
  · refine stepG_mk (by rfl) (by rfl) ?_
    intro u wq F1 hC hp hN hF hD K hK
    have q38 : (putL [(1, some 37), (3, some 39), (5, some 41), (6, some 42), (7, some 35), (8, some 43), (9, some 44), (10, some 8), (11, none), (12, some 9)] a0 u).tmps[38]? = _ := (putL_out (k := 38) [(1, some 37), (3, some 39), (5, some 41), (6, some 42), (7, some 35), (8, some 43), (9, some 44), (10, some 8), (11, none), (12, some 9)] a0 u (by rfl)).trans sL.out
    clear hp hN hF hD
    generalize putL [(1, some 37), (3, some 39), (5, some 41), (6, some 42), (7, some 35), (8, some 43), (9, some 44), (10, some 8), (11, none), (12, some 9)] a0 u = a1 at *
    go_simp
    refine (toLane_c l _ _ wq (h.below (⟨hC.below0.os, hC.below0.tape, hC.below0.output, hC.below0.size, hC.below0.block⟩ : Below w3.heap.size w3 wq)) n2.1 n2.2).mono ?_
    rintro q w5 ⟨u5, rfl, h5, hb5⟩
    have hn1 : NL (z11N a l came x bl) 3 (updV u 3 (.agg #[.int .i64 l.proc, .int .i64 l.base.x, .int .i64 l.base.y, .int .i64 l.base.c, u5])) w5 (fun k => wq.heap.size ≤ k ∧ k < w5.heap.size) := ⟨u5, rfl, h5.bound⟩
    have hp1 : PPL (z11P a l came x bl) 3 (updV u 3 (.agg #[.int .i64 l.proc, .int .i64 l.base.x, .int .i64 l.base.y, .int .i64 l.base.c, u5])) := trivial
    exact hK _ (.agg #[.int .i64 l.proc, .int .i64 l.base.x, .int .i64 l.base.y, .int .i64 l.base.c, u5]) _ (fun k => wq.heap.size ≤ k ∧ k < w5.heap.size) rfl (Ch.of_below hb5) hn1 (fun k hk => ⟨.inr hk.1, hk.2⟩) hp1
  · refine stepG_mk (by rfl) (by rfl) ?_
    intro u wq F1 hC hp hN hF hD K hK
    have q40 : (putL [(1, some 37), (3, some 39), (5, some 41), (6, some 42), (7, some 35), (8, some 43), (9, some 44), (10, some 8), (11, none), (12, some 9)] a0 u).tmps[40]? = _ := (putL_out (k := 40) [(1, some 37), (3, some 39), (5, some 41), (6, some 42), (7, some 35), (8, some 43), (9, some 44), (10, some 8), (11, none), (12, some 9)] a0 u (by rfl)).trans sC.out
    clear hp hN hF hD
    generalize putL [(1, some 37), (3, some 39), (5, some 41), (6, some 42), (7, some 35), (8, some 43), (9, some 44), (10, some 8), (11, none), (12, some 9)] a0 u = a1 at *
    go_simp
    refine (toEventS_c _ came _ wq (hc.below (⟨hC.below0.os, hC.below0.tape, hC.below0.output, hC.below0.size, hC.below0.block⟩ : Below w3.heap.size w3 wq)) n3).mono ?_
    rintro q w5 ⟨v5, rfl, h5, hb5⟩
    have hn1 : NL (z11N a l came x bl) 5 (updV u 5 (v5)) w5 (fun k => wq.heap.size ≤ k ∧ k < w5.heap.size) := h5.bound
    have hp1 : PPL (z11P a l came x bl) 5 (updV u 5 (v5)) := trivial
    exact hK _ (v5) _ (fun k => wq.heap.size ≤ k ∧ k < w5.heap.size) rfl (Ch.of_below hb5) hn1 (fun k hk => ⟨.inr hk.1, hk.2⟩) hp1
  · refine stepG_mk (by rfl) (by rfl) ?_
    intro u wq F1 hC hp hN hF hD K hK
    have q37 : (putL [(1, some 37), (3, some 39), (5, some 41), (6, some 42), (7, some 35), (8, some 43), (9, some 44), (10, some 8), (11, none), (12, some 9)] a0 u).tmps[37]? = some (u 1) := putL_in (k := 37) (i := 1) [(1, some 37), (3, some 39), (5, some 41), (6, some 42), (7, some 35), (8, some 43), (9, some 44), (10, some 8), (11, none), (12, some 9)] a0 u (by rfl) (hsz.out 37 (by decide))
    have q39 : (putL [(1, some 37), (3, some 39), (5, some 41), (6, some 42), (7, some 35), (8, some 43), (9, some 44), (10, some 8), (11, none), (12, some 9)] a0 u).tmps[39]? = some (u 3) := putL_in (k := 39) (i := 3) [(1, some 37), (3, some 39), (5, some 41), (6, some 42), (7, some 35), (8, some 43), (9, some 44), (10, some 8), (11, none), (12, some 9)] a0 u (by rfl) (hsz.out 39 (by decide))
    have q41 : (putL [(1, some 37), (3, some 39), (5, some 41), (6, some 42), (7, some 35), (8, some 43), (9, some 44), (10, some 8), (11, none), (12, some 9)] a0 u).tmps[41]? = some (u 5) := putL_in (k := 41) (i := 5) [(1, some 37), (3, some 39), (5, some 41), (6, some 42), (7, some 35), (8, some 43), (9, some 44), (10, some 8), (11, none), (12, some 9)] a0 u (by rfl) (hsz.out 41 (by decide))
    obtain ⟨y1, e1, g1⟩ : ∃ g, u 1 = .agg #[g] ∧ Ow oRule 120 wq (F1 1) g a.rules := hN 1 (by simp)
    obtain ⟨y2, e2, g2⟩ : ∃ g, u 3 = .agg #[.int .i64 l.proc, .int .i64 l.base.x, .int .i64 l.base.y, .int .i64 l.base.c, g] ∧ Ow oPast 98 wq (F1 3) g l.done := hN 3 (by simp)
    have g3 : Ow tEv 80 wq (F1 5) (u 5) came := hN 5 (by simp)
    rw [e1] at q37
    rw [e2] at q39
    clear hp hN hF hD
    generalize putL [(1, some 37), (3, some 39), (5, some 41), (6, some 42), (7, some 35), (8, some 43), (9, some 44), (10, some 8), (11, none), (12, some 9)] a0 u = a1 at *
    go_simp
    refine (laneS_call _ _ _ a l came _ _ _ wq g1.rdRules g2.rdPasts g3.rd HX.out).mono ?_
    rintro q w5 ⟨u5, rfl, h5, hb5⟩
    have hn1 : NL (z11N a l came x bl) 6 (updV u 6 (.tuple #[.agg #[.int .i64 x.proc, .int .i64 x.base.x, .int .i64 x.base.y, .int .i64 x.base.c, u5], .bool bl])) w5 (fun k => wq.heap.size ≤ k ∧ k < w5.heap.size) := ⟨u5, rfl, h5.bound⟩
    have hp1 : PPL (z11P a l came x bl) 6 (updV u 6 (.tuple #[.agg #[.int .i64 x.proc, .int .i64 x.base.x, .int .i64 x.base.y, .int .i64 x.base.c, u5], .bool bl])) := ⟨_, rfl, _, rfl, h5.oneCell⟩
    exact hK _ (.tuple #[.agg #[.int .i64 x.proc, .int .i64 x.base.x, .int .i64 x.base.y, .int .i64 x.base.c, u5], .bool bl]) _ (fun k => wq.heap.size ≤ k ∧ k < w5.heap.size) rfl (Ch.of_below hb5) hn1 (fun k hk => ⟨.inr hk.1, hk.2⟩) hp1
  · refine stepG_pure (by rfl) (by rfl) (fun _ _ => trivial) ?_
    intro u wq hC hp
    have p12 : tupL x bl (u 6) := hp 6 (by simp) (by kernel_rfl)
    have q : (putL [(1, some 37), (3, some 39), (5, some 41), (6, some 42), (7, some 35), (8, some 43), (9, some 44), (10, some 8), (11, none), (12, some 9)] a0 u).eval (.tmp 42) = u 6 := eval_of (putL_in (k := 42) (i := 6) [(1, some 37), (3, some 39), (5, some 41), (6, some 42), (7, some 35), (8, some 43), (9, some 44), (10, some 8), (11, none), (12, some 9)] a0 u (by rfl) (hsz.out 42 (by decide)))
    generalize putL [(1, some 37), (3, some 39), (5, some 41), (6, some 42), (7, some 35), (8, some 43), (9, some 44), (10, some 8), (11, none), (12, some 9)] a0 u = a1 at *
    refine Exists.intro (u 6) (And.intro ?_ ?_)
    · intro K hK
      exact wp_move' (.inl (by rfl)) q hK
    · exact ⟨rfl, p12⟩
  · refine stepG_pure (by rfl) (by rfl) (fun _ _ => trivial) ?_
    intro u wq hC hp
    have p13 : [u 6] = [u 7] ∧ tupL x bl (u 7) := hp 7 (by simp) (by kernel_rfl)
    obtain ⟨-, a9, e13, h9⟩ := p13
    have q : (putL [(1, some 37), (3, some 39), (5, some 41), (6, some 42), (7, some 35), (8, some 43), (9, some 44), (10, some 8), (11, none), (12, some 9)] a0 u).eval (.tmp 35) = u 7 := eval_of (putL_in (k := 35) (i := 7) [(1, some 37), (3, some 39), (5, some 41), (6, some 42), (7, some 35), (8, some 43), (9, some 44), (10, some 8), (11, none), (12, some 9)] a0 u (by rfl) (hsz.out 35 (by decide)))
    rw [e13] at q
    generalize putL [(1, some 37), (3, some 39), (5, some 41), (6, some 42), (7, some 35), (8, some 43), (9, some 44), (10, some 8), (11, none), (12, some 9)] a0 u = a1 at *
    refine Exists.intro a9 (And.intro ?_ ?_)
    · intro K hK
      refine wp_extract (x := .tmp 35) (n := 0) (vs := #[a9, .bool bl]) (v := a9) ?_ ?_ ?_ ?_
      · rfl
      · exact q
      · rfl
      · exact hK
    · exact ⟨h9, fun a b he => by have h8 : [u 7] = [Value.tuple #[a, b]] := he; rw [e13] at h8; simp at h8; exact h8.1⟩
  · refine stepG_pure (by rfl) (by rfl) (fun _ _ => trivial) ?_
    intro u wq hC hp
    have p13 : [u 6] = [u 7] ∧ tupL x bl (u 7) := hp 7 (by simp) (by kernel_rfl)
    obtain ⟨-, a9, e13, h9⟩ := p13
    have q : (putL [(1, some 37), (3, some 39), (5, some 41), (6, some 42), (7, some 35), (8, some 43), (9, some 44), (10, some 8), (11, none), (12, some 9)] a0 u).eval (.tmp 35) = u 7 := eval_of (putL_in (k := 35) (i := 7) [(1, some 37), (3, some 39), (5, some 41), (6, some 42), (7, some 35), (8, some 43), (9, some 44), (10, some 8), (11, none), (12, some 9)] a0 u (by rfl) (hsz.out 35 (by decide)))
    rw [e13] at q
    generalize putL [(1, some 37), (3, some 39), (5, some 41), (6, some 42), (7, some 35), (8, some 43), (9, some 44), (10, some 8), (11, none), (12, some 9)] a0 u = a1 at *
    refine Exists.intro (.bool bl) (And.intro ?_ ?_)
    · intro K hK
      refine wp_extract (x := .tmp 35) (n := 1) (vs := #[a9, .bool bl]) (v := (.bool bl)) ?_ ?_ ?_ ?_
      · rfl
      · exact q
      · rfl
      · exact hK
    · exact rfl
  · refine stepG_mk (by rfl) (by rfl) ?_
    intro u wq F1 hC hp hN hF hD K hK
    clear hp hN hF hD
    generalize putL [(1, some 37), (3, some 39), (5, some 41), (6, some 42), (7, some 35), (8, some 43), (9, some 44), (10, some 8), (11, none), (12, some 9)] a0 u = a1 at *
    go_simp
    have hn1 : NL (z11N a l came x bl) 10 (updV u 10 (.pointer (some ⟨wq.heap.size, 0, none⟩))) (wq.alloc (.cells #[.int .i64 0, .int .i64 0, .int .i64 0, .int .i64 0, .slice none 0 0] 52)) (fun k => k = wq.heap.size) := ⟨_, rfl, rfl, heap_at rfl⟩
    exact hK _ (.pointer (some ⟨wq.heap.size, 0, none⟩)) _ (fun k => k = wq.heap.size) rfl ((Ch.refl _ _).alloc _) hn1 (fun k hk => by subst hk; exact ⟨.inr (Nat.le_refl _), by simp⟩) trivial
  · refine stepG_mk (by rfl) (by rfl) ?_
    intro u wq F1 hC hp hN hF hD K hK
    have q1 : (putL [(1, some 37), (3, some 39), (5, some 41), (6, some 42), (7, some 35), (8, some 43), (9, some 44), (10, some 8), (11, none), (12, some 9)] a0 u).eval (.tmp 8) = u 10 := eval_of (putL_in (k := 8) (i := 10) [(1, some 37), (3, some 39), (5, some 41), (6, some 42), (7, some 35), (8, some 43), (9, some 44), (10, some 8), (11, none), (12, some 9)] a0 u (by rfl) (hsz.out 8 (by decide)))
    have q2 : (putL [(1, some 37), (3, some 39), (5, some 41), (6, some 42), (7, some 35), (8, some 43), (9, some 44), (10, some 8), (11, none), (12, some 9)] a0 u).eval (.tmp 43) = u 8 := eval_of (putL_in (k := 43) (i := 8) [(1, some 37), (3, some 39), (5, some 41), (6, some 42), (7, some 35), (8, some 43), (9, some 44), (10, some 8), (11, none), (12, some 9)] a0 u (by rfl) (hsz.out 43 (by decide)))
    generalize putL [(1, some 37), (3, some 39), (5, some 41), (6, some 42), (7, some 35), (8, some 43), (9, some 44), (10, some 8), (11, none), (12, some 9)] a0 u = a1 at *
    obtain ⟨g, e17, f17, B17⟩ : ∃ g, u 10 = .pointer (some ⟨g, 0, none⟩) ∧ F1 10 g ∧ wq.heap[g]? = some (.cells #[.int .i64 0, .int .i64 0, .int .i64 0, .int .i64 0, .slice none 0 0] 52 (0, 0)) := hN 10 (by simp)
    obtain ⟨⟨us, p14, o1⟩, -⟩ : aggL x (u 8) ∧ ∀ a b, [u 7] = [Value.tuple #[a, b]] → u 8 = a := hp 8 (by simp) (by kernel_rfl)
    have hgl := (hF 10 (by simp) g f17).2
    rw [e17] at q1
    rw [p14] at q2
    refine wp_store_mid 52 (.tmp 8) (.tmp 43) (by rfl) g 0 #[.int .i64 x.proc, .int .i64 x.base.x, .int .i64 x.base.y, .int .i64 x.base.c, us] q1 q2 (there_of_block B17 (by simp)) (by kernel_rfl) (by simp [o1, oneInt]) ?_
    have hn1 : NL (z11N a l came x bl) 11 (updV u 11 undef) (wq.setCells g 0 [.int .i64 x.proc, .int .i64 x.base.x, .int .i64 x.base.y, .int .i64 x.base.c, us]) (fun k => k = g) := ⟨g, us, (show [u 10, u 8] = _ by rw [e17, p14]), rfl, blk_ovw _ 0 wq [.int .i64 0, .int .i64 0, .int .i64 0, .int .i64 0, .slice none 0 0] B17⟩
    exact hK _ undef _ (fun k => k = g) rfl (Ch.setCells _ _ _ (Ch.refl _ _) (.inl ⟨10, by simp, f17⟩)) hn1 (fun k hk => by subst hk; exact ⟨.inl ⟨10, by simp, f17⟩, by rw [size_setCells]; exact hgl⟩) trivial
  · refine stepG_pure (by rfl) (by rfl) (fun _ _ => trivial) ?_
    intro u wq hC hp
    have q : (putL [(1, some 37), (3, some 39), (5, some 41), (6, some 42), (7, some 35), (8, some 43), (9, some 44), (10, some 8), (11, none), (12, some 9)] a0 u).eval (.tmp 44) = u 9 := eval_of (putL_in (k := 44) (i := 9) [(1, some 37), (3, some 39), (5, some 41), (6, some 42), (7, some 35), (8, some 43), (9, some 44), (10, some 8), (11, none), (12, some 9)] a0 u (by rfl) (hsz.out 44 (by decide)))
    generalize putL [(1, some 37), (3, some 39), (5, some 41), (6, some 42), (7, some 35), (8, some 43), (9, some 44), (10, some 8), (11, none), (12, some 9)] a0 u = a1 at *
    refine Exists.intro (u 9) (And.intro ?_ ?_)
    · intro K hK
      exact wp_move' (.inr (by rfl)) q hK
    · exact rfl
  intro K hK u w7 F1 hC hD hF hN hpp
  obtain ⟨us, g12, n12⟩ : ∃ g, u 6 = .tuple #[.agg #[.int .i64 x.proc, .int .i64 x.base.x, .int .i64 x.base.y, .int .i64 x.base.c, g], .bool bl] ∧ Ow oPast 98 w7 (F1 6) g x.done := hN 6 (by rfl)
  obtain ⟨gw, us9, g17, f17, BX3⟩ : ∃ g us, [u 10, u 8] = [.pointer (some ⟨g, 0, none⟩), .agg #[.int .i64 x.proc, .int .i64 x.base.x, .int .i64 x.base.y, .int .i64 x.base.c, us]] ∧ F1 11 g ∧ w7.heap[g]? = some (.cells #[.int .i64 x.proc, .int .i64 x.base.x, .int .i64 x.base.y, .int .i64 x.base.c, us] 52 (0, 0)) := hN 11 (by rfl)
  have g17a : u 10 = .pointer (some ⟨gw, 0, none⟩) := by simp at g17; exact g17.1
  have g17b : u 8 = .agg #[.int .i64 x.proc, .int .i64 x.base.x, .int .i64 x.base.y, .int .i64 x.base.c, us9] := by simp at g17; exact g17.2
  have p13 : [u 6] = [u 7] ∧ tupL x bl (u 7) := hpp 7 (by simp)
  have e13 : u 7 = u 6 := by have := p13.1; simp at this; exact this.symm
  have e14 := (show aggL x (u 8) ∧ ∀ a b, [u 7] = [Value.tuple #[a, b]] → u 8 = a from hpp 8 (by simp)).2
  have e15 : u 9 = .bool bl := hpp 9 (by simp)
  have e19 : u 12 = u 9 := by have q : [u 9] = [u 12] := hpp 12 (by simp); simp at q; exact q.symm
  rw [g12] at e13
  have e16 := e14 _ _ (by rw [e13])
  rw [g17b] at e16
  injection e16 with e16
  simp only [Array.mk.injEq, List.cons.injEq, and_true, true_and] at e16
  subst e16
  rw [e15] at e19
  clear hpp p13 e14 g17
  have hgw : w3.heap.size ≤ gw ∧ gw < w7.heap.size := by have := hF 11 gw (by rfl) f17; refine ⟨?_, this.2⟩; rcases this.1 with q | q; exact q.elim; simpa using q
  have n7 := n12.mono (F' := fun k => w3.heap.size ≤ k ∧ k < w7.heap.size) (fun k hk => by have := hF 6 k (by rfl) hk; refine ⟨?_, this.2⟩; rcases this.1 with q | q; exact q.elim; simpa using q)
  have HS : Below w3.heap.size w3 w7 := ⟨hC.below0.os, hC.below0.tape, hC.below0.output, hC.below0.size, hC.below0.block⟩
  have HA : Agree w3.drew w7 := Agree.of_ch hC (fun _ hf => hf.elim)
  clear hN hF hD hC n12 f17
  rw [H0.out]
  clear sA sL sC hsz H0 a0
  simp only [putL_cons, putL_nil]
  obtain ⟨P, Pc, rfl, -⟩ := n7.shape
  generalize u 1 = u_1 at *
  generalize u 3 = u_3 at *
  generalize u 5 = u_5 at *
  generalize u 6 = u_6 at *
  generalize u 7 = u_7 at *
  generalize u 8 = u_8 at *
  generalize u 9 = u_9 at *
  generalize u 10 = u_10 at *
  generalize u 11 = u_11 at *
  generalize u 12 = u_12 at *
  subst g12 g17a g17b e13 e15 e19
  go_simp
  refine hK _ _ HA ?_
  clear hK K F1 HA
  refine sg_fin ?_
  simp only [pickO]
  clear c_a0 c_l0 c_l1 c_l2 c_l3 c_l4
  replace HB := bthen HB HS HB.size
  replace X_a := below_heap HS (blk_lt X_a) X_a
  replace X_l := below_heap HS (blk_lt X_l) X_l
  replace hA := hA.below HS
  replace h := h.below HS
  replace hc := hc.below HS
  have X_w := BX3; have n_w := n7; clear BX3 n7
  obtain ⟨s7, H7⟩ : ∃ n, Hid (w7.heap.size ≤ n ∧ n ≤ w7.heap.size ∧ w.heap.size + 1 < n ∧ gw < n) := ⟨_, Nat.le_refl _, Nat.le_refl _, blk_lt X_l, hgw.2⟩
  replace n_w := n_w.mono (F' := fun k => k < s7) (fun k hk => by have := H7.out; have h3 : k < w7.heap.size := hk.2; show k < s7; omega)
  clear hgw HS
  have c_a0 := cl1 X_a
  obtain ⟨c_l0, c_l1, c_l2, c_l3, c_l4⟩ := cl5 X_l
  obtain ⟨c_w0, c_w1, c_w2, c_w3, c_w4⟩ := cl5 X_w
  go_wp2_with fail
  refine (toApp_c a _ _ _ hA n1.1 n1.2).mono ?_
  rintro q w8 ⟨vx, rfl, n_x, hb8⟩
  replace n_x := n_x.bound
  obtain ⟨B, b, rfl, -⟩ := n_x.shape
  clear c_a0 c_l0 c_l1 c_l2 c_l3 c_l4 c_w0 c_w1 c_w2 c_w3 c_w4
  replace HB := bthen HB hb8 HB.size
  replace X_a := below_heap hb8 (blk_lt X_a) X_a
  replace X_l := below_heap hb8 (blk_lt X_l) X_l
  replace X_w := below_heap hb8 (blk_lt X_w) X_w
  replace n_w := n_w.below hb8
  replace hA := hA.below hb8
  replace h := h.below hb8
  replace hc := hc.below hb8
  obtain ⟨s8, Hs8⟩ : ∃ n, Hid (w8.heap.size ≤ n ∧ n ≤ w8.heap.size ∧ w7.heap.size ≤ n) := ⟨_, Nat.le_refl _, Nat.le_refl _, hb8.size⟩
  replace n_x := n_x.mono (F' := fun k => s7 ≤ k ∧ k < s8) (fun k hk => by have := H7.out; have := Hs8.out; have h3 : w7.heap.size ≤ k := hk.1; have h4 : k < w8.heap.size := hk.2; exact ⟨by omega, by omega⟩)
  clear hb8
  have c_a0 := cl1 X_a
  obtain ⟨c_l0, c_l1, c_l2, c_l3, c_l4⟩ := cl5 X_l
  obtain ⟨c_w0, c_w1, c_w2, c_w3, c_w4⟩ := cl5 X_w
  apply_assumption
  go_upto_region 13 with fail
  clear c_a0 c_l0 c_l1 c_l2 c_l3 c_l4 c_w0 c_w1 c_w2 c_w3 c_w4
  have hbx := balloc (Below.refl w8.heap.size w8) (.cells #[.slice B a.rules.length b] 57)
  have X_x : (w8.alloc (.cells #[.slice B a.rules.length b] 57)).heap[w8.heap.size]? = some (.cells #[.slice B a.rules.length b] 57 (0, 0)) := heap_at rfl
  replace HB := bthen HB hbx HB.size
  replace X_a := below_heap hbx (blk_lt X_a) X_a
  replace X_l := below_heap hbx (blk_lt X_l) X_l
  replace X_w := below_heap hbx (blk_lt X_w) X_w
  replace n_w := n_w.below hbx
  replace n_x := n_x.below hbx
  replace hA := hA.below hbx
  replace h := h.below hbx
  replace hc := hc.below hbx
  obtain ⟨gx, hg⟩ : ∃ g, g = w8.heap.size := ⟨_, rfl⟩
  rw [← hg] at X_x
  simp only [← hg]
  have Hgx := hid (show gx ≤ w8.heap.size ∧ w8.heap.size ≤ gx by omega)
  generalize w8.alloc (.cells #[.slice B a.rules.length b] 57) = W8 at *
  clear hg hbx
  have Hgxl := hid (show gx < W8.heap.size from blk_lt X_x)
  have c_a0 := cl1 X_a
  obtain ⟨c_l0, c_l1, c_l2, c_l3, c_l4⟩ := cl5 X_l
  obtain ⟨c_w0, c_w1, c_w2, c_w3, c_w4⟩ := cl5 X_w
  have c_x0 := cl1 X_x
  go_wp2_with fail
  refine (toLane_c l _ _ _ h n2.1 n2.2).mono ?_
  rintro q w9 ⟨vy, rfl, n_y, hb9⟩
  replace n_y := n_y.bound
  obtain ⟨D, d, rfl, -⟩ := n_y.shape
  clear c_a0 c_l0 c_l1 c_l2 c_l3 c_l4 c_w0 c_w1 c_w2 c_w3 c_w4 c_x0
  replace HB := bthen HB hb9 HB.size
  replace X_a := below_heap hb9 (blk_lt X_a) X_a
  replace X_l := below_heap hb9 (blk_lt X_l) X_l
  replace X_w := below_heap hb9 (blk_lt X_w) X_w
  replace X_x := below_heap hb9 (blk_lt X_x) X_x
  replace n_w := n_w.below hb9
  replace n_x := n_x.below hb9
  replace hA := hA.below hb9
  replace h := h.below hb9
  replace hc := hc.below hb9
  obtain ⟨s9, Hs9⟩ : ∃ n, Hid (w9.heap.size ≤ n ∧ n ≤ w9.heap.size ∧ W8.heap.size ≤ n) := ⟨_, Nat.le_refl _, Nat.le_refl _, hb9.size⟩
  replace n_y := n_y.mono (F' := fun k => gx < k ∧ k < s9) (fun k hk => by have := H7.out; have := Hs8.out; have := Hgx.out; have := Hgxl.out; have := Hs9.out; have h3 : W8.heap.size ≤ k := hk.1; have h4 : k < w9.heap.size := hk.2; exact ⟨by omega, by omega⟩)
  clear hb9
  have c_a0 := cl1 X_a
  obtain ⟨c_l0, c_l1, c_l2, c_l3, c_l4⟩ := cl5 X_l
  obtain ⟨c_w0, c_w1, c_w2, c_w3, c_w4⟩ := cl5 X_w
  have c_x0 := cl1 X_x
  apply_assumption
  go_upto_region 14 with fail
  clear c_a0 c_l0 c_l1 c_l2 c_l3 c_l4 c_w0 c_w1 c_w2 c_w3 c_w4 c_x0
  have hbx := balloc (Below.refl w9.heap.size w9) (.cells #[.int .i64 l.proc, .int .i64 l.base.x, .int .i64 l.base.y, .int .i64 l.base.c, .slice D l.done.length d] 52)
  have X_y : (w9.alloc (.cells #[.int .i64 l.proc, .int .i64 l.base.x, .int .i64 l.base.y, .int .i64 l.base.c, .slice D l.done.length d] 52)).heap[w9.heap.size]? = some (.cells #[.int .i64 l.proc, .int .i64 l.base.x, .int .i64 l.base.y, .int .i64 l.base.c, .slice D l.done.length d] 52 (0, 0)) := heap_at rfl
  replace HB := bthen HB hbx HB.size
  replace X_a := below_heap hbx (blk_lt X_a) X_a
  replace X_l := below_heap hbx (blk_lt X_l) X_l
  replace X_w := below_heap hbx (blk_lt X_w) X_w
  replace X_x := below_heap hbx (blk_lt X_x) X_x
  replace n_w := n_w.below hbx
  replace n_x := n_x.below hbx
  replace n_y := n_y.below hbx
  replace hA := hA.below hbx
  replace h := h.below hbx
  replace hc := hc.below hbx
  obtain ⟨gy, hg⟩ : ∃ g, g = w9.heap.size := ⟨_, rfl⟩
  rw [← hg] at X_y
  simp only [← hg]
  have Hgy := hid (show gy ≤ w9.heap.size ∧ w9.heap.size ≤ gy by omega)
  generalize w9.alloc (.cells #[.int .i64 l.proc, .int .i64 l.base.x, .int .i64 l.base.y, .int .i64 l.base.c, .slice D l.done.length d] 52) = W9 at *
  clear hg hbx
  have Hgyl := hid (show gy < W9.heap.size from blk_lt X_y)
  have c_a0 := cl1 X_a
  obtain ⟨c_l0, c_l1, c_l2, c_l3, c_l4⟩ := cl5 X_l
  obtain ⟨c_w0, c_w1, c_w2, c_w3, c_w4⟩ := cl5 X_w
  have c_x0 := cl1 X_x
  obtain ⟨c_y0, c_y1, c_y2, c_y3, c_y4⟩ := cl5 X_y
  go_wp2_with fail
  refine (toEventS_c _ came _ _ hc n3).mono ?_
  rintro q w10 ⟨vq, rfl, n_q, hb10⟩
  replace n_q := n_q.bound
  obtain ⟨E, e, rfl, -⟩ := n_q.shape
  clear c_a0 c_l0 c_l1 c_l2 c_l3 c_l4 c_w0 c_w1 c_w2 c_w3 c_w4 c_x0 c_y0 c_y1 c_y2 c_y3 c_y4
  replace HB := bthen HB hb10 HB.size
  replace X_a := below_heap hb10 (blk_lt X_a) X_a
  replace X_l := below_heap hb10 (blk_lt X_l) X_l
  replace X_w := below_heap hb10 (blk_lt X_w) X_w
  replace X_x := below_heap hb10 (blk_lt X_x) X_x
  replace X_y := below_heap hb10 (blk_lt X_y) X_y
  replace n_w := n_w.below hb10
  replace n_x := n_x.below hb10
  replace n_y := n_y.below hb10
  replace hA := hA.below hb10
  replace h := h.below hb10
  replace hc := hc.below hb10
  obtain ⟨s10, Hs10⟩ : ∃ n, Hid (w10.heap.size ≤ n ∧ n ≤ w10.heap.size ∧ W9.heap.size ≤ n) := ⟨_, Nat.le_refl _, Nat.le_refl _, hb10.size⟩
  replace n_q := n_q.mono (F' := fun k => gy < k ∧ k < s10) (fun k hk => by have := H7.out; have := Hs8.out; have := Hgx.out; have := Hgxl.out; have := Hs9.out; have := Hgy.out; have := Hgyl.out; have := Hs10.out; have h3 : W9.heap.size ≤ k := hk.1; have h4 : k < w10.heap.size := hk.2; exact ⟨by omega, by omega⟩)
  clear hb10
  have c_a0 := cl1 X_a
  obtain ⟨c_l0, c_l1, c_l2, c_l3, c_l4⟩ := cl5 X_l
  obtain ⟨c_w0, c_w1, c_w2, c_w3, c_w4⟩ := cl5 X_w
  have c_x0 := cl1 X_x
  obtain ⟨c_y0, c_y1, c_y2, c_y3, c_y4⟩ := cl5 X_y
  apply_assumption
  go_wp2_with fail
  refine (laneI_call _ _ _ a l came _ _ _ _ n_x.rdRules n_y.rdPasts n_q.rd HX.out).mono ?_
  rintro q w11 ⟨vg, rfl, n_g, hb11⟩
  replace n_g := n_g.bound
  obtain ⟨G, gc, rfl, -⟩ := n_g.shape
  clear c_a0 c_l0 c_l1 c_l2 c_l3 c_l4 c_w0 c_w1 c_w2 c_w3 c_w4 c_x0 c_y0 c_y1 c_y2 c_y3 c_y4
  replace HB := bthen HB hb11 HB.size
  replace X_a := below_heap hb11 (blk_lt X_a) X_a
  replace X_l := below_heap hb11 (blk_lt X_l) X_l
  replace X_w := below_heap hb11 (blk_lt X_w) X_w
  replace X_x := below_heap hb11 (blk_lt X_x) X_x
  replace X_y := below_heap hb11 (blk_lt X_y) X_y
  replace n_w := n_w.below hb11
  replace n_x := n_x.below hb11
  replace n_y := n_y.below hb11
  replace n_q := n_q.below hb11
  replace hA := hA.below hb11
  replace h := h.below hb11
  replace hc := hc.below hb11
  obtain ⟨s11, Hs11⟩ : ∃ n, Hid (w11.heap.size ≤ n ∧ n ≤ w11.heap.size ∧ w10.heap.size ≤ n) := ⟨_, Nat.le_refl _, Nat.le_refl _, hb11.size⟩
  replace n_g := n_g.mono (F' := fun k => s10 ≤ k ∧ k < s11) (fun k hk => by have := H7.out; have := Hs8.out; have := Hgx.out; have := Hgxl.out; have := Hs9.out; have := Hgy.out; have := Hgyl.out; have := Hs10.out; have := Hs11.out; have h3 : w10.heap.size ≤ k := hk.1; have h4 : k < w11.heap.size := hk.2; exact ⟨by omega, by omega⟩)
  clear hb11
  have c_a0 := cl1 X_a
  obtain ⟨c_l0, c_l1, c_l2, c_l3, c_l4⟩ := cl5 X_l
  obtain ⟨c_w0, c_w1, c_w2, c_w3, c_w4⟩ := cl5 X_w
  have c_x0 := cl1 X_x
  obtain ⟨c_y0, c_y1, c_y2, c_y3, c_y4⟩ := cl5 X_y
  apply_assumption
  go_upto_region 16 with fail
  clear c_a0 c_l0 c_l1 c_l2 c_l3 c_l4 c_w0 c_w1 c_w2 c_w3 c_w4 c_x0 c_y0 c_y1 c_y2 c_y3 c_y4
  have hbx := balloc (Below.refl w11.heap.size w11) (.cells #[.int .i64 x.proc, .int .i64 x.base.x, .int .i64 x.base.y, .int .i64 x.base.c, .slice G x.done.length gc] 52)
  have X_g : (w11.alloc (.cells #[.int .i64 x.proc, .int .i64 x.base.x, .int .i64 x.base.y, .int .i64 x.base.c, .slice G x.done.length gc] 52)).heap[w11.heap.size]? = some (.cells #[.int .i64 x.proc, .int .i64 x.base.x, .int .i64 x.base.y, .int .i64 x.base.c, .slice G x.done.length gc] 52 (0, 0)) := heap_at rfl
  replace HB := bthen HB hbx HB.size
  replace X_a := below_heap hbx (blk_lt X_a) X_a
  replace X_l := below_heap hbx (blk_lt X_l) X_l
  replace X_w := below_heap hbx (blk_lt X_w) X_w
  replace X_x := below_heap hbx (blk_lt X_x) X_x
  replace X_y := below_heap hbx (blk_lt X_y) X_y
  replace n_w := n_w.below hbx
  replace n_x := n_x.below hbx
  replace n_y := n_y.below hbx
  replace n_q := n_q.below hbx
  replace n_g := n_g.below hbx
  replace hA := hA.below hbx
  replace h := h.below hbx
  replace hc := hc.below hbx
  obtain ⟨gg, hg⟩ : ∃ g, g = w11.heap.size := ⟨_, rfl⟩
  rw [← hg] at X_g
  simp only [← hg]
  have Hgg := hid (show gg ≤ w11.heap.size ∧ w11.heap.size ≤ gg by omega)
  generalize w11.alloc (.cells #[.int .i64 x.proc, .int .i64 x.base.x, .int .i64 x.base.y, .int .i64 x.base.c, .slice G x.done.length gc] 52) = W11 at *
  clear hg hbx
  have Hggl := hid (show gg < W11.heap.size from blk_lt X_g)
  have c_a0 := cl1 X_a
  obtain ⟨c_l0, c_l1, c_l2, c_l3, c_l4⟩ := cl5 X_l
  obtain ⟨c_w0, c_w1, c_w2, c_w3, c_w4⟩ := cl5 X_w
  have c_x0 := cl1 X_x
  obtain ⟨c_y0, c_y1, c_y2, c_y3, c_y4⟩ := cl5 X_y
  obtain ⟨c_g0, c_g1, c_g2, c_g3, c_g4⟩ := cl5 X_g
  go_wp2_with fail
  refine (eqLaneX x _ _ _ _ _ n_g.rdPasts n_w.rdPasts).mono ?_
  rintro q w12 ⟨rfl, hb12⟩
  clear c_a0 c_l0 c_l1 c_l2 c_l3 c_l4 c_w0 c_w1 c_w2 c_w3 c_w4 c_x0 c_y0 c_y1 c_y2 c_y3 c_y4 c_g0 c_g1 c_g2 c_g3 c_g4
  replace HB := bthen HB hb12 HB.size
  replace X_a := below_heap hb12 (blk_lt X_a) X_a
  replace X_l := below_heap hb12 (blk_lt X_l) X_l
  replace X_w := below_heap hb12 (blk_lt X_w) X_w
  replace X_x := below_heap hb12 (blk_lt X_x) X_x
  replace X_y := below_heap hb12 (blk_lt X_y) X_y
  replace X_g := below_heap hb12 (blk_lt X_g) X_g
  replace n_w := n_w.below hb12
  replace n_x := n_x.below hb12
  replace n_y := n_y.below hb12
  replace n_q := n_q.below hb12
  replace n_g := n_g.below hb12
  replace hA := hA.below hb12
  replace h := h.below hb12
  replace hc := hc.below hb12
  clear hb12
  have c_a0 := cl1 X_a
  obtain ⟨c_l0, c_l1, c_l2, c_l3, c_l4⟩ := cl5 X_l
  obtain ⟨c_w0, c_w1, c_w2, c_w3, c_w4⟩ := cl5 X_w
  have c_x0 := cl1 X_x
  obtain ⟨c_y0, c_y1, c_y2, c_y3, c_y4⟩ := cl5 X_y
  obtain ⟨c_g0, c_g1, c_g2, c_g3, c_g4⟩ := cl5 X_g
  apply_assumption
  go_upto_region 18 with fail
  refine region_sg [.rd [0, 1], .mid 2] [3, 4] (by kernel_rfl) (by kernel_rfl) (fun _ _ d _ _ h => by cases d <;> exact h) ?_
  refine sg_rd (fun N hN => ?_)
  simp only [pickO, List.getElem?_toArray, List.getElem?_cons_zero, List.getElem?_cons_succ]
  go_wp2_with fail
  refine rd_next (hN _ ?_)
  clear hN N
  refine sg_mid (fun N hN => ?_)
  simp only [pickO, List.getElem?_toArray, List.getElem?_cons_zero, List.getElem?_cons_succ]
  go_wp2_with fail
  have hbd := (Below.refl w12.heap.size w12).drew
  refine (toApp_c a _ _ _ (hA.below hbd) n1.1 n1.2).mono ?_
  rintro q w13 ⟨vn, rfl, n_n, hb13⟩
  obtain ⟨Y13, y13, rfl, -⟩ := n_n.shape
  apply_assumption
  refine mid_next (Agree.of_below hb13) (hN _ _ ?_)
  clear hN
  refine sg_fin ?_
  simp only [pickO, List.getElem?_toArray, List.getElem?_cons_zero, List.getElem?_cons_succ]
  clear c_a0 c_l0 c_l1 c_l2 c_l3 c_l4 c_w0 c_w1 c_w2 c_w3 c_w4 c_x0 c_y0 c_y1 c_y2 c_y3 c_y4 c_g0 c_g1 c_g2 c_g3 c_g4
  replace hb13 := bthen' hbd hb13
  replace HB := bthen HB hb13 HB.size
  replace X_a := below_heap hb13 (blk_lt X_a) X_a
  replace X_l := below_heap hb13 (blk_lt X_l) X_l
  replace X_w := below_heap hb13 (blk_lt X_w) X_w
  replace X_x := below_heap hb13 (blk_lt X_x) X_x
  replace X_y := below_heap hb13 (blk_lt X_y) X_y
  replace X_g := below_heap hb13 (blk_lt X_g) X_g
  replace n_w := n_w.below hb13
  replace n_x := n_x.below hb13
  replace n_y := n_y.below hb13
  replace n_q := n_q.below hb13
  replace n_g := n_g.below hb13
  replace hA := hA.below hb13
  replace h := h.below hb13
  replace hc := hc.below hb13
  clear hb13 hbd
  have c_a0 := cl1 X_a
  obtain ⟨c_l0, c_l1, c_l2, c_l3, c_l4⟩ := cl5 X_l
  obtain ⟨c_w0, c_w1, c_w2, c_w3, c_w4⟩ := cl5 X_w
  have c_x0 := cl1 X_x
  obtain ⟨c_y0, c_y1, c_y2, c_y3, c_y4⟩ := cl5 X_y
  obtain ⟨c_g0, c_g1, c_g2, c_g3, c_g4⟩ := cl5 X_g
  go_wp2_with fail
  refine (eqAppY a _ _ _ _ _ n_x.rdRules n_n.rdRules).mono ?_
  rintro q w14 ⟨rfl, hb14⟩
  clear c_a0 c_l0 c_l1 c_l2 c_l3 c_l4 c_w0 c_w1 c_w2 c_w3 c_w4 c_x0 c_y0 c_y1 c_y2 c_y3 c_y4 c_g0 c_g1 c_g2 c_g3 c_g4
  replace HB := bthen HB hb14 HB.size
  replace X_a := below_heap hb14 (blk_lt X_a) X_a
  replace X_l := below_heap hb14 (blk_lt X_l) X_l
  replace X_w := below_heap hb14 (blk_lt X_w) X_w
  replace X_x := below_heap hb14 (blk_lt X_x) X_x
  replace X_y := below_heap hb14 (blk_lt X_y) X_y
  replace X_g := below_heap hb14 (blk_lt X_g) X_g
  replace n_w := n_w.below hb14
  replace n_x := n_x.below hb14
  replace n_y := n_y.below hb14
  replace n_q := n_q.below hb14
  replace n_g := n_g.below hb14
  replace hA := hA.below hb14
  replace h := h.below hb14
  replace hc := hc.below hb14
  clear n_n
  clear hb14
  have c_a0 := cl1 X_a
  obtain ⟨c_l0, c_l1, c_l2, c_l3, c_l4⟩ := cl5 X_l
  obtain ⟨c_w0, c_w1, c_w2, c_w3, c_w4⟩ := cl5 X_w
  have c_x0 := cl1 X_x
  obtain ⟨c_y0, c_y1, c_y2, c_y3, c_y4⟩ := cl5 X_y
  obtain ⟨c_g0, c_g1, c_g2, c_g3, c_g4⟩ := cl5 X_g
  apply_assumption
  go_upto_region 20 with fail
  refine region_sg [.rd [0, 1], .mid 2] [3, 4] (by kernel_rfl) (by kernel_rfl) (fun _ _ d _ _ h => by cases d <;> exact h) ?_
  refine sg_rd (fun N hN => ?_)
  simp only [pickO, List.getElem?_toArray, List.getElem?_cons_zero, List.getElem?_cons_succ]
  go_wp2_with fail
  refine rd_next (hN _ ?_)
  clear hN N
  refine sg_mid (fun N hN => ?_)
  simp only [pickO, List.getElem?_toArray, List.getElem?_cons_zero, List.getElem?_cons_succ]
  go_wp2_with fail
  have hbd := (Below.refl w14.heap.size w14).drew
  refine (toLane_c l _ _ _ (h.below hbd) n2.1 n2.2).mono ?_
  rintro q w15 ⟨vn, rfl, n_n, hb15⟩
  obtain ⟨Y15, y15, rfl, -⟩ := n_n.shape
  apply_assumption
  refine mid_next (Agree.of_below hb15) (hN _ _ ?_)
  clear hN
  refine sg_fin ?_
  simp only [pickO, List.getElem?_toArray, List.getElem?_cons_zero, List.getElem?_cons_succ]
  clear c_a0 c_l0 c_l1 c_l2 c_l3 c_l4 c_w0 c_w1 c_w2 c_w3 c_w4 c_x0 c_y0 c_y1 c_y2 c_y3 c_y4 c_g0 c_g1 c_g2 c_g3 c_g4
  replace hb15 := bthen' hbd hb15
  replace HB := bthen HB hb15 HB.size
  replace X_a := below_heap hb15 (blk_lt X_a) X_a
  replace X_l := below_heap hb15 (blk_lt X_l) X_l
  replace X_w := below_heap hb15 (blk_lt X_w) X_w
  replace X_x := below_heap hb15 (blk_lt X_x) X_x
  replace X_y := below_heap hb15 (blk_lt X_y) X_y
  replace X_g := below_heap hb15 (blk_lt X_g) X_g
  replace n_w := n_w.below hb15
  replace n_x := n_x.below hb15
  replace n_y := n_y.below hb15
  replace n_q := n_q.below hb15
  replace n_g := n_g.below hb15
  replace hA := hA.below hb15
  replace h := h.below hb15
  replace hc := hc.below hb15
  clear hb15 hbd
  have c_a0 := cl1 X_a
  obtain ⟨c_l0, c_l1, c_l2, c_l3, c_l4⟩ := cl5 X_l
  obtain ⟨c_w0, c_w1, c_w2, c_w3, c_w4⟩ := cl5 X_w
  have c_x0 := cl1 X_x
  obtain ⟨c_y0, c_y1, c_y2, c_y3, c_y4⟩ := cl5 X_y
  obtain ⟨c_g0, c_g1, c_g2, c_g3, c_g4⟩ := cl5 X_g
  go_wp2_with fail
  refine (eqLaneX l _ _ _ _ _ n_y.rdPasts n_n.rdPasts).mono ?_
  rintro q w16 ⟨rfl, hb16⟩
  clear c_a0 c_l0 c_l1 c_l2 c_l3 c_l4 c_w0 c_w1 c_w2 c_w3 c_w4 c_x0 c_y0 c_y1 c_y2 c_y3 c_y4 c_g0 c_g1 c_g2 c_g3 c_g4
  replace HB := bthen HB hb16 HB.size
  replace X_a := below_heap hb16 (blk_lt X_a) X_a
  replace X_l := below_heap hb16 (blk_lt X_l) X_l
  replace X_w := below_heap hb16 (blk_lt X_w) X_w
  replace X_x := below_heap hb16 (blk_lt X_x) X_x
  replace X_y := below_heap hb16 (blk_lt X_y) X_y
  replace X_g := below_heap hb16 (blk_lt X_g) X_g
  replace n_w := n_w.below hb16
  replace n_x := n_x.below hb16
  replace n_y := n_y.below hb16
  replace n_q := n_q.below hb16
  replace n_g := n_g.below hb16
  replace hA := hA.below hb16
  replace h := h.below hb16
  replace hc := hc.below hb16
  clear n_n
  clear hb16
  have c_a0 := cl1 X_a
  obtain ⟨c_l0, c_l1, c_l2, c_l3, c_l4⟩ := cl5 X_l
  obtain ⟨c_w0, c_w1, c_w2, c_w3, c_w4⟩ := cl5 X_w
  have c_x0 := cl1 X_x
  obtain ⟨c_y0, c_y1, c_y2, c_y3, c_y4⟩ := cl5 X_y
  obtain ⟨c_g0, c_g1, c_g2, c_g3, c_g4⟩ := cl5 X_g
  apply_assumption
  go_wp2_with fail
  refine (toEventS_c _ came _ _ hc n3).mono ?_
  rintro q w17 ⟨vn, rfl, n_n, hb17⟩
  obtain ⟨Y17, y17, rfl, -⟩ := n_n.shape
  clear c_a0 c_l0 c_l1 c_l2 c_l3 c_l4 c_w0 c_w1 c_w2 c_w3 c_w4 c_x0 c_y0 c_y1 c_y2 c_y3 c_y4 c_g0 c_g1 c_g2 c_g3 c_g4
  replace HB := bthen HB hb17 HB.size
  replace X_a := below_heap hb17 (blk_lt X_a) X_a
  replace X_l := below_heap hb17 (blk_lt X_l) X_l
  replace X_w := below_heap hb17 (blk_lt X_w) X_w
  replace X_x := below_heap hb17 (blk_lt X_x) X_x
  replace X_y := below_heap hb17 (blk_lt X_y) X_y
  replace X_g := below_heap hb17 (blk_lt X_g) X_g
  replace n_w := n_w.below hb17
  replace n_x := n_x.below hb17
  replace n_y := n_y.below hb17
  replace n_q := n_q.below hb17
  replace n_g := n_g.below hb17
  replace hA := hA.below hb17
  replace h := h.below hb17
  replace hc := hc.below hb17
  clear hb17
  have c_a0 := cl1 X_a
  obtain ⟨c_l0, c_l1, c_l2, c_l3, c_l4⟩ := cl5 X_l
  obtain ⟨c_w0, c_w1, c_w2, c_w3, c_w4⟩ := cl5 X_w
  have c_x0 := cl1 X_x
  obtain ⟨c_y0, c_y1, c_y2, c_y3, c_y4⟩ := cl5 X_y
  obtain ⟨c_g0, c_g1, c_g2, c_g3, c_g4⟩ := cl5 X_g
  apply_assumption
  go_wp2_with fail
  refine (eqEventSY _ _ came _ _ _ n_q.rd n_n.rd).mono ?_
  rintro q w18 ⟨rfl, hb18⟩
  clear c_a0 c_l0 c_l1 c_l2 c_l3 c_l4 c_w0 c_w1 c_w2 c_w3 c_w4 c_x0 c_y0 c_y1 c_y2 c_y3 c_y4 c_g0 c_g1 c_g2 c_g3 c_g4
  replace HB := bthen HB hb18 HB.size
  replace X_a := below_heap hb18 (blk_lt X_a) X_a
  replace X_l := below_heap hb18 (blk_lt X_l) X_l
  replace X_w := below_heap hb18 (blk_lt X_w) X_w
  replace X_x := below_heap hb18 (blk_lt X_x) X_x
  replace X_y := below_heap hb18 (blk_lt X_y) X_y
  replace X_g := below_heap hb18 (blk_lt X_g) X_g
  replace n_w := n_w.below hb18
  replace n_x := n_x.below hb18
  replace n_y := n_y.below hb18
  replace n_q := n_q.below hb18
  replace n_g := n_g.below hb18
  replace hA := hA.below hb18
  replace h := h.below hb18
  replace hc := hc.below hb18
  clear n_n
  clear hb18
  have c_a0 := cl1 X_a
  obtain ⟨c_l0, c_l1, c_l2, c_l3, c_l4⟩ := cl5 X_l
  obtain ⟨c_w0, c_w1, c_w2, c_w3, c_w4⟩ := cl5 X_w
  have c_x0 := cl1 X_x
  obtain ⟨c_y0, c_y1, c_y2, c_y3, c_y4⟩ := cl5 X_y
  obtain ⟨c_g0, c_g1, c_g2, c_g3, c_g4⟩ := cl5 X_g
  apply_assumption
  go_wp2_with fail
  refine (markApp_c _ a 1 _ _ n_x (by decide) (by decide) HSA.out).mono ?_
  rintro q w19 ⟨rfl, hc9⟩
  clear c_a0 c_l0 c_l1 c_l2 c_l3 c_l4 c_w0 c_w1 c_w2 c_w3 c_w4 c_x0 c_y0 c_y1 c_y2 c_y3 c_y4 c_g0 c_g1 c_g2 c_g3 c_g4
  replace HB := HB.trans (hc9.below (B := w.heap.size) (fun k hq => by have := H7.out; have := Hs8.out; have := Hgx.out; have := Hgxl.out; have := Hs9.out; have := Hgy.out; have := Hgyl.out; have := Hs10.out; have := Hs11.out; have := Hgg.out; have := Hggl.out; have h4 : s7 ≤ k := hq.1; have h5 : k < s8 := hq.2; omega) HB.size)
  replace X_a := hc9.heap X_a (fun hq => by have := H7.out; have := Hs8.out; have := Hgx.out; have := Hgxl.out; have := Hs9.out; have := Hgy.out; have := Hgyl.out; have := Hs10.out; have := Hs11.out; have := Hgg.out; have := Hggl.out; have h4 : s7 ≤ w.heap.size := hq.1; have h5 : w.heap.size < s8 := hq.2; omega)
  replace X_l := hc9.heap X_l (fun hq => by have := H7.out; have := Hs8.out; have := Hgx.out; have := Hgxl.out; have := Hs9.out; have := Hgy.out; have := Hgyl.out; have := Hs10.out; have := Hs11.out; have := Hgg.out; have := Hggl.out; have h4 : s7 ≤ w.heap.size + 1 := hq.1; have h5 : w.heap.size + 1 < s8 := hq.2; omega)
  replace X_w := hc9.heap X_w (fun hq => by have := H7.out; have := Hs8.out; have := Hgx.out; have := Hgxl.out; have := Hs9.out; have := Hgy.out; have := Hgyl.out; have := Hs10.out; have := Hs11.out; have := Hgg.out; have := Hggl.out; have h4 : s7 ≤ gw := hq.1; have h5 : gw < s8 := hq.2; omega)
  replace X_x := hc9.heap X_x (fun hq => by have := H7.out; have := Hs8.out; have := Hgx.out; have := Hgxl.out; have := Hs9.out; have := Hgy.out; have := Hgyl.out; have := Hs10.out; have := Hs11.out; have := Hgg.out; have := Hggl.out; have h4 : s7 ≤ gx := hq.1; have h5 : gx < s8 := hq.2; omega)
  replace X_y := hc9.heap X_y (fun hq => by have := H7.out; have := Hs8.out; have := Hgx.out; have := Hgxl.out; have := Hs9.out; have := Hgy.out; have := Hgyl.out; have := Hs10.out; have := Hs11.out; have := Hgg.out; have := Hggl.out; have h4 : s7 ≤ gy := hq.1; have h5 : gy < s8 := hq.2; omega)
  replace X_g := hc9.heap X_g (fun hq => by have := H7.out; have := Hs8.out; have := Hgx.out; have := Hgxl.out; have := Hs9.out; have := Hgy.out; have := Hgyl.out; have := Hs10.out; have := Hs11.out; have := Hgg.out; have := Hggl.out; have h4 : s7 ≤ gg := hq.1; have h5 : gg < s8 := hq.2; omega)
  replace n_w := n_w.ch hc9 (fun k hk hq => by have := H7.out; have := Hs8.out; have := Hgx.out; have := Hgxl.out; have := Hs9.out; have := Hgy.out; have := Hgyl.out; have := Hs10.out; have := Hs11.out; have := Hgg.out; have := Hggl.out; have h3 : k < s7 := hk; have h4 : s7 ≤ k := hq.1; have h5 : k < s8 := hq.2; omega)
  replace n_y := n_y.ch hc9 (fun k hk hq => by have := H7.out; have := Hs8.out; have := Hgx.out; have := Hgxl.out; have := Hs9.out; have := Hgy.out; have := Hgyl.out; have := Hs10.out; have := Hs11.out; have := Hgg.out; have := Hggl.out; have h3 : gx < k ∧ k < s9 := hk; have h4 : s7 ≤ k := hq.1; have h5 : k < s8 := hq.2; omega)
  replace n_q := n_q.ch hc9 (fun k hk hq => by have := H7.out; have := Hs8.out; have := Hgx.out; have := Hgxl.out; have := Hs9.out; have := Hgy.out; have := Hgyl.out; have := Hs10.out; have := Hs11.out; have := Hgg.out; have := Hggl.out; have h3 : gy < k ∧ k < s10 := hk; have h4 : s7 ≤ k := hq.1; have h5 : k < s8 := hq.2; omega)
  replace n_g := n_g.ch hc9 (fun k hk hq => by have := H7.out; have := Hs8.out; have := Hgx.out; have := Hgxl.out; have := Hs9.out; have := Hgy.out; have := Hgyl.out; have := Hs10.out; have := Hs11.out; have := Hgg.out; have := Hggl.out; have h3 : s10 ≤ k ∧ k < s11 := hk; have h4 : s7 ≤ k := hq.1; have h5 : k < s8 := hq.2; omega)
  replace hA := hA.ch hc9 (fun k hk hq => by have := H7.out; have := Hs8.out; have := Hgx.out; have := Hgxl.out; have := Hs9.out; have := Hgy.out; have := Hgyl.out; have := Hs10.out; have := Hs11.out; have := Hgg.out; have := Hggl.out; have h3 : k < w.heap.size := hk; have h4 : s7 ≤ k := hq.1; have h5 : k < s8 := hq.2; omega)
  replace h := h.ch hc9 (fun k hk hq => by have := H7.out; have := Hs8.out; have := Hgx.out; have := Hgxl.out; have := Hs9.out; have := Hgy.out; have := Hgyl.out; have := Hs10.out; have := Hs11.out; have := Hgg.out; have := Hggl.out; have h3 : k < w.heap.size := hk; have h4 : s7 ≤ k := hq.1; have h5 : k < s8 := hq.2; omega)
  replace hc := hc.ch hc9 (fun k hk hq => by have := H7.out; have := Hs8.out; have := Hgx.out; have := Hgxl.out; have := Hs9.out; have := Hgy.out; have := Hgyl.out; have := Hs10.out; have := Hs11.out; have := Hgg.out; have := Hggl.out; have h3 : k < w.heap.size := hk; have h4 : s7 ≤ k := hq.1; have h5 : k < s8 := hq.2; omega)
  clear hc9 n_x
  obtain ⟨m1, hm⟩ : ∃ m, 1 + (a.rules.length : Int) + 5 * rulesSz a.rules = m := ⟨_, rfl⟩
  have Hm1 := hid hm
  rw [hm]
  clear hm
  have c_m1 : 1 ≤ m1 ∧ m1 ≤ 6000000 := by have := Hm1.out; have := HSA.out; have := rulesSz_nonneg a.rules; omega
  have c_a0 := cl1 X_a
  obtain ⟨c_l0, c_l1, c_l2, c_l3, c_l4⟩ := cl5 X_l
  obtain ⟨c_w0, c_w1, c_w2, c_w3, c_w4⟩ := cl5 X_w
  have c_x0 := cl1 X_x
  obtain ⟨c_y0, c_y1, c_y2, c_y3, c_y4⟩ := cl5 X_y
  obtain ⟨c_g0, c_g1, c_g2, c_g3, c_g4⟩ := cl5 X_g
  apply_assumption
  go_wp2_with fail
  refine (markLane_c _ l m1 _ _ n_y (by omega) (by omega) HSL.out).mono ?_
  rintro q w20 ⟨rfl, n_z, hc9⟩
  clear c_a0 c_l0 c_l1 c_l2 c_l3 c_l4 c_w0 c_w1 c_w2 c_w3 c_w4 c_x0 c_y0 c_y1 c_y2 c_y3 c_y4 c_g0 c_g1 c_g2 c_g3 c_g4
  replace HB := HB.trans (hc9.below (B := w.heap.size) (fun k hq => by have := H7.out; have := Hs8.out; have := Hgx.out; have := Hgxl.out; have := Hs9.out; have := Hgy.out; have := Hgyl.out; have := Hs10.out; have := Hs11.out; have := Hgg.out; have := Hggl.out; have h4 : gx < k := hq.1; have h5 : k < s9 := hq.2; omega) HB.size)
  replace X_a := hc9.heap X_a (fun hq => by have := H7.out; have := Hs8.out; have := Hgx.out; have := Hgxl.out; have := Hs9.out; have := Hgy.out; have := Hgyl.out; have := Hs10.out; have := Hs11.out; have := Hgg.out; have := Hggl.out; have h4 : gx < w.heap.size := hq.1; have h5 : w.heap.size < s9 := hq.2; omega)
  replace X_l := hc9.heap X_l (fun hq => by have := H7.out; have := Hs8.out; have := Hgx.out; have := Hgxl.out; have := Hs9.out; have := Hgy.out; have := Hgyl.out; have := Hs10.out; have := Hs11.out; have := Hgg.out; have := Hggl.out; have h4 : gx < w.heap.size + 1 := hq.1; have h5 : w.heap.size + 1 < s9 := hq.2; omega)
  replace X_w := hc9.heap X_w (fun hq => by have := H7.out; have := Hs8.out; have := Hgx.out; have := Hgxl.out; have := Hs9.out; have := Hgy.out; have := Hgyl.out; have := Hs10.out; have := Hs11.out; have := Hgg.out; have := Hggl.out; have h4 : gx < gw := hq.1; have h5 : gw < s9 := hq.2; omega)
  replace X_x := hc9.heap X_x (fun hq => by have := H7.out; have := Hs8.out; have := Hgx.out; have := Hgxl.out; have := Hs9.out; have := Hgy.out; have := Hgyl.out; have := Hs10.out; have := Hs11.out; have := Hgg.out; have := Hggl.out; have h4 : gx < gx := hq.1; have h5 : gx < s9 := hq.2; omega)
  replace X_y := hc9.heap X_y (fun hq => by have := H7.out; have := Hs8.out; have := Hgx.out; have := Hgxl.out; have := Hs9.out; have := Hgy.out; have := Hgyl.out; have := Hs10.out; have := Hs11.out; have := Hgg.out; have := Hggl.out; have h4 : gx < gy := hq.1; have h5 : gy < s9 := hq.2; omega)
  replace X_g := hc9.heap X_g (fun hq => by have := H7.out; have := Hs8.out; have := Hgx.out; have := Hgxl.out; have := Hs9.out; have := Hgy.out; have := Hgyl.out; have := Hs10.out; have := Hs11.out; have := Hgg.out; have := Hggl.out; have h4 : gx < gg := hq.1; have h5 : gg < s9 := hq.2; omega)
  replace n_w := n_w.ch hc9 (fun k hk hq => by have := H7.out; have := Hs8.out; have := Hgx.out; have := Hgxl.out; have := Hs9.out; have := Hgy.out; have := Hgyl.out; have := Hs10.out; have := Hs11.out; have := Hgg.out; have := Hggl.out; have h3 : k < s7 := hk; have h4 : gx < k := hq.1; have h5 : k < s9 := hq.2; omega)
  replace n_q := n_q.ch hc9 (fun k hk hq => by have := H7.out; have := Hs8.out; have := Hgx.out; have := Hgxl.out; have := Hs9.out; have := Hgy.out; have := Hgyl.out; have := Hs10.out; have := Hs11.out; have := Hgg.out; have := Hggl.out; have h3 : gy < k ∧ k < s10 := hk; have h4 : gx < k := hq.1; have h5 : k < s9 := hq.2; omega)
  replace n_g := n_g.ch hc9 (fun k hk hq => by have := H7.out; have := Hs8.out; have := Hgx.out; have := Hgxl.out; have := Hs9.out; have := Hgy.out; have := Hgyl.out; have := Hs10.out; have := Hs11.out; have := Hgg.out; have := Hggl.out; have h3 : s10 ≤ k ∧ k < s11 := hk; have h4 : gx < k := hq.1; have h5 : k < s9 := hq.2; omega)
  replace hA := hA.ch hc9 (fun k hk hq => by have := H7.out; have := Hs8.out; have := Hgx.out; have := Hgxl.out; have := Hs9.out; have := Hgy.out; have := Hgyl.out; have := Hs10.out; have := Hs11.out; have := Hgg.out; have := Hggl.out; have h3 : k < w.heap.size := hk; have h4 : gx < k := hq.1; have h5 : k < s9 := hq.2; omega)
  replace h := h.ch hc9 (fun k hk hq => by have := H7.out; have := Hs8.out; have := Hgx.out; have := Hgxl.out; have := Hs9.out; have := Hgy.out; have := Hgyl.out; have := Hs10.out; have := Hs11.out; have := Hgg.out; have := Hggl.out; have h3 : k < w.heap.size := hk; have h4 : gx < k := hq.1; have h5 : k < s9 := hq.2; omega)
  replace hc := hc.ch hc9 (fun k hk hq => by have := H7.out; have := Hs8.out; have := Hgx.out; have := Hgxl.out; have := Hs9.out; have := Hgy.out; have := Hgyl.out; have := Hs10.out; have := Hs11.out; have := Hgg.out; have := Hggl.out; have h3 : k < w.heap.size := hk; have h4 : gx < k := hq.1; have h5 : k < s9 := hq.2; omega)
  clear hc9 n_y
  obtain ⟨m2, hm⟩ : ∃ m, m1 + pastsMk l.done = m := ⟨_, rfl⟩
  have Hm2 := hid hm
  rw [hm]
  clear hm
  have c_m2 : 1 ≤ m2 ∧ m2 ≤ 30000000 := by have := Hm2.out; have := HSL.out; have := pastsMk_bd l.done; have := pastsSz_nonneg l.done; have := pastsMk_nonneg l.done; omega
  clear n_z
  have c_a0 := cl1 X_a
  obtain ⟨c_l0, c_l1, c_l2, c_l3, c_l4⟩ := cl5 X_l
  obtain ⟨c_w0, c_w1, c_w2, c_w3, c_w4⟩ := cl5 X_w
  have c_x0 := cl1 X_x
  obtain ⟨c_y0, c_y1, c_y2, c_y3, c_y4⟩ := cl5 X_y
  obtain ⟨c_g0, c_g1, c_g2, c_g3, c_g4⟩ := cl5 X_g
  apply_assumption
  go_wp2_with fail
  have hin := fun q hq => n_q.inF (g := q) hq
  refine (markEventS_c _ came m2 _ _ n_q (by omega) (by omega) n3).mono ?_
  rintro q w21 ⟨rfl, n_z, hc9⟩
  clear c_a0 c_l0 c_l1 c_l2 c_l3 c_l4 c_w0 c_w1 c_w2 c_w3 c_w4 c_x0 c_y0 c_y1 c_y2 c_y3 c_y4 c_g0 c_g1 c_g2 c_g3 c_g4
  replace HB := HB.trans (hc9.below (B := w.heap.size) (fun k hq => by have := H7.out; have := Hs8.out; have := Hgx.out; have := Hgxl.out; have := Hs9.out; have := Hgy.out; have := Hgyl.out; have := Hs10.out; have := Hs11.out; have := Hgg.out; have := Hggl.out; have hk2 := hin k hq; have h4 : gy < k := hk2.1; have h5 : k < s10 := hk2.2; omega) HB.size)
  replace X_a := hc9.heap X_a (fun hq => by have := H7.out; have := Hs8.out; have := Hgx.out; have := Hgxl.out; have := Hs9.out; have := Hgy.out; have := Hgyl.out; have := Hs10.out; have := Hs11.out; have := Hgg.out; have := Hggl.out; have hk2 := hin (w.heap.size) hq; have h4 : gy < w.heap.size := hk2.1; have h5 : w.heap.size < s10 := hk2.2; omega)
  replace X_l := hc9.heap X_l (fun hq => by have := H7.out; have := Hs8.out; have := Hgx.out; have := Hgxl.out; have := Hs9.out; have := Hgy.out; have := Hgyl.out; have := Hs10.out; have := Hs11.out; have := Hgg.out; have := Hggl.out; have hk2 := hin (w.heap.size + 1) hq; have h4 : gy < w.heap.size + 1 := hk2.1; have h5 : w.heap.size + 1 < s10 := hk2.2; omega)
  replace X_w := hc9.heap X_w (fun hq => by have := H7.out; have := Hs8.out; have := Hgx.out; have := Hgxl.out; have := Hs9.out; have := Hgy.out; have := Hgyl.out; have := Hs10.out; have := Hs11.out; have := Hgg.out; have := Hggl.out; have hk2 := hin (gw) hq; have h4 : gy < gw := hk2.1; have h5 : gw < s10 := hk2.2; omega)
  replace X_x := hc9.heap X_x (fun hq => by have := H7.out; have := Hs8.out; have := Hgx.out; have := Hgxl.out; have := Hs9.out; have := Hgy.out; have := Hgyl.out; have := Hs10.out; have := Hs11.out; have := Hgg.out; have := Hggl.out; have hk2 := hin (gx) hq; have h4 : gy < gx := hk2.1; have h5 : gx < s10 := hk2.2; omega)
  replace X_y := hc9.heap X_y (fun hq => by have := H7.out; have := Hs8.out; have := Hgx.out; have := Hgxl.out; have := Hs9.out; have := Hgy.out; have := Hgyl.out; have := Hs10.out; have := Hs11.out; have := Hgg.out; have := Hggl.out; have hk2 := hin (gy) hq; have h4 : gy < gy := hk2.1; have h5 : gy < s10 := hk2.2; omega)
  replace X_g := hc9.heap X_g (fun hq => by have := H7.out; have := Hs8.out; have := Hgx.out; have := Hgxl.out; have := Hs9.out; have := Hgy.out; have := Hgyl.out; have := Hs10.out; have := Hs11.out; have := Hgg.out; have := Hggl.out; have hk2 := hin (gg) hq; have h4 : gy < gg := hk2.1; have h5 : gg < s10 := hk2.2; omega)
  replace n_w := n_w.ch hc9 (fun k hk hq => by have := H7.out; have := Hs8.out; have := Hgx.out; have := Hgxl.out; have := Hs9.out; have := Hgy.out; have := Hgyl.out; have := Hs10.out; have := Hs11.out; have := Hgg.out; have := Hggl.out; have h3 : k < s7 := hk; have hk2 := hin k hq; have h4 : gy < k := hk2.1; have h5 : k < s10 := hk2.2; omega)
  replace n_g := n_g.ch hc9 (fun k hk hq => by have := H7.out; have := Hs8.out; have := Hgx.out; have := Hgxl.out; have := Hs9.out; have := Hgy.out; have := Hgyl.out; have := Hs10.out; have := Hs11.out; have := Hgg.out; have := Hggl.out; have h3 : s10 ≤ k ∧ k < s11 := hk; have hk2 := hin k hq; have h4 : gy < k := hk2.1; have h5 : k < s10 := hk2.2; omega)
  replace hA := hA.ch hc9 (fun k hk hq => by have := H7.out; have := Hs8.out; have := Hgx.out; have := Hgxl.out; have := Hs9.out; have := Hgy.out; have := Hgyl.out; have := Hs10.out; have := Hs11.out; have := Hgg.out; have := Hggl.out; have h3 : k < w.heap.size := hk; have hk2 := hin k hq; have h4 : gy < k := hk2.1; have h5 : k < s10 := hk2.2; omega)
  replace h := h.ch hc9 (fun k hk hq => by have := H7.out; have := Hs8.out; have := Hgx.out; have := Hgxl.out; have := Hs9.out; have := Hgy.out; have := Hgyl.out; have := Hs10.out; have := Hs11.out; have := Hgg.out; have := Hggl.out; have h3 : k < w.heap.size := hk; have hk2 := hin k hq; have h4 : gy < k := hk2.1; have h5 : k < s10 := hk2.2; omega)
  replace hc := hc.ch hc9 (fun k hk hq => by have := H7.out; have := Hs8.out; have := Hgx.out; have := Hgxl.out; have := Hs9.out; have := Hgy.out; have := Hgyl.out; have := Hs10.out; have := Hs11.out; have := Hgg.out; have := Hggl.out; have h3 : k < w.heap.size := hk; have hk2 := hin k hq; have h4 : gy < k := hk2.1; have h5 : k < s10 := hk2.2; omega)
  clear hc9 n_q hin
  obtain ⟨m3, hm⟩ : ∃ m, m2 + 7 * (came.length : Int) = m := ⟨_, rfl⟩
  have Hm3 := hid hm
  rw [hm]
  clear hm
  have c_m3 : 1 ≤ m3 ∧ m3 ≤ 60000000 := by have := Hm3.out; omega
  clear n_z
  have b3 : decide (m3 < 0) = false := decide_eq_false (by omega)
  have c_a0 := cl1 X_a
  obtain ⟨c_l0, c_l1, c_l2, c_l3, c_l4⟩ := cl5 X_l
  obtain ⟨c_w0, c_w1, c_w2, c_w3, c_w4⟩ := cl5 X_w
  have c_x0 := cl1 X_x
  obtain ⟨c_y0, c_y1, c_y2, c_y3, c_y4⟩ := cl5 X_y
  obtain ⟨c_g0, c_g1, c_g2, c_g3, c_g4⟩ := cl5 X_g
  apply_assumption
  go_wp2_with fail
  refine (eqLaneX x _ _ _ _ _ n_g.rdPasts n_w.rdPasts).mono ?_
  rintro q w22 ⟨rfl, hb22⟩
  clear c_a0 c_l0 c_l1 c_l2 c_l3 c_l4 c_w0 c_w1 c_w2 c_w3 c_w4 c_x0 c_y0 c_y1 c_y2 c_y3 c_y4 c_g0 c_g1 c_g2 c_g3 c_g4
  replace HB := bthen HB hb22 HB.size
  replace X_a := below_heap hb22 (blk_lt X_a) X_a
  replace X_l := below_heap hb22 (blk_lt X_l) X_l
  replace X_w := below_heap hb22 (blk_lt X_w) X_w
  replace X_x := below_heap hb22 (blk_lt X_x) X_x
  replace X_y := below_heap hb22 (blk_lt X_y) X_y
  replace X_g := below_heap hb22 (blk_lt X_g) X_g
  replace n_w := n_w.below hb22
  replace n_g := n_g.below hb22
  replace hA := hA.below hb22
  replace h := h.below hb22
  replace hc := hc.below hb22
  clear hb22
  have c_a0 := cl1 X_a
  obtain ⟨c_l0, c_l1, c_l2, c_l3, c_l4⟩ := cl5 X_l
  obtain ⟨c_w0, c_w1, c_w2, c_w3, c_w4⟩ := cl5 X_w
  have c_x0 := cl1 X_x
  obtain ⟨c_y0, c_y1, c_y2, c_y3, c_y4⟩ := cl5 X_y
  obtain ⟨c_g0, c_g1, c_g2, c_g3, c_g4⟩ := cl5 X_g
  apply_assumption
  go_wp2_with fail
  refine (markLane_c _ x 1 _ _ n_g (by decide) (by decide) HSX.out).mono ?_
  rintro q w23 ⟨rfl, n_new, hc9⟩
  clear c_a0 c_l0 c_l1 c_l2 c_l3 c_l4 c_w0 c_w1 c_w2 c_w3 c_w4 c_x0 c_y0 c_y1 c_y2 c_y3 c_y4 c_g0 c_g1 c_g2 c_g3 c_g4
  replace HB := HB.trans (hc9.below (B := w.heap.size) (fun k hq => by have := H7.out; have := Hs8.out; have := Hgx.out; have := Hgxl.out; have := Hs9.out; have := Hgy.out; have := Hgyl.out; have := Hs10.out; have := Hs11.out; have := Hgg.out; have := Hggl.out; have h4 : s10 ≤ k := hq.1; have h5 : k < s11 := hq.2; omega) HB.size)
  replace X_a := hc9.heap X_a (fun hq => by have := H7.out; have := Hs8.out; have := Hgx.out; have := Hgxl.out; have := Hs9.out; have := Hgy.out; have := Hgyl.out; have := Hs10.out; have := Hs11.out; have := Hgg.out; have := Hggl.out; have h4 : s10 ≤ w.heap.size := hq.1; have h5 : w.heap.size < s11 := hq.2; omega)
  replace X_l := hc9.heap X_l (fun hq => by have := H7.out; have := Hs8.out; have := Hgx.out; have := Hgxl.out; have := Hs9.out; have := Hgy.out; have := Hgyl.out; have := Hs10.out; have := Hs11.out; have := Hgg.out; have := Hggl.out; have h4 : s10 ≤ w.heap.size + 1 := hq.1; have h5 : w.heap.size + 1 < s11 := hq.2; omega)
  replace X_w := hc9.heap X_w (fun hq => by have := H7.out; have := Hs8.out; have := Hgx.out; have := Hgxl.out; have := Hs9.out; have := Hgy.out; have := Hgyl.out; have := Hs10.out; have := Hs11.out; have := Hgg.out; have := Hggl.out; have h4 : s10 ≤ gw := hq.1; have h5 : gw < s11 := hq.2; omega)
  replace X_x := hc9.heap X_x (fun hq => by have := H7.out; have := Hs8.out; have := Hgx.out; have := Hgxl.out; have := Hs9.out; have := Hgy.out; have := Hgyl.out; have := Hs10.out; have := Hs11.out; have := Hgg.out; have := Hggl.out; have h4 : s10 ≤ gx := hq.1; have h5 : gx < s11 := hq.2; omega)
  replace X_y := hc9.heap X_y (fun hq => by have := H7.out; have := Hs8.out; have := Hgx.out; have := Hgxl.out; have := Hs9.out; have := Hgy.out; have := Hgyl.out; have := Hs10.out; have := Hs11.out; have := Hgg.out; have := Hggl.out; have h4 : s10 ≤ gy := hq.1; have h5 : gy < s11 := hq.2; omega)
  replace X_g := hc9.heap X_g (fun hq => by have := H7.out; have := Hs8.out; have := Hgx.out; have := Hgxl.out; have := Hs9.out; have := Hgy.out; have := Hgyl.out; have := Hs10.out; have := Hs11.out; have := Hgg.out; have := Hggl.out; have h4 : s10 ≤ gg := hq.1; have h5 : gg < s11 := hq.2; omega)
  replace n_w := n_w.ch hc9 (fun k hk hq => by have := H7.out; have := Hs8.out; have := Hgx.out; have := Hgxl.out; have := Hs9.out; have := Hgy.out; have := Hgyl.out; have := Hs10.out; have := Hs11.out; have := Hgg.out; have := Hggl.out; have h3 : k < s7 := hk; have h4 : s10 ≤ k := hq.1; have h5 : k < s11 := hq.2; omega)
  replace hA := hA.ch hc9 (fun k hk hq => by have := H7.out; have := Hs8.out; have := Hgx.out; have := Hgxl.out; have := Hs9.out; have := Hgy.out; have := Hgyl.out; have := Hs10.out; have := Hs11.out; have := Hgg.out; have := Hggl.out; have h3 : k < w.heap.size := hk; have h4 : s10 ≤ k := hq.1; have h5 : k < s11 := hq.2; omega)
  replace h := h.ch hc9 (fun k hk hq => by have := H7.out; have := Hs8.out; have := Hgx.out; have := Hgxl.out; have := Hs9.out; have := Hgy.out; have := Hgyl.out; have := Hs10.out; have := Hs11.out; have := Hgg.out; have := Hggl.out; have h3 : k < w.heap.size := hk; have h4 : s10 ≤ k := hq.1; have h5 : k < s11 := hq.2; omega)
  replace hc := hc.ch hc9 (fun k hk hq => by have := H7.out; have := Hs8.out; have := Hgx.out; have := Hgxl.out; have := Hs9.out; have := Hgy.out; have := Hgyl.out; have := Hs10.out; have := Hs11.out; have := Hgg.out; have := Hggl.out; have h3 : k < w.heap.size := hk; have h4 : s10 ≤ k := hq.1; have h5 : k < s11 := hq.2; omega)
  clear hc9 n_g
  obtain ⟨m4, hm⟩ : ∃ m, 1 + pastsMk x.done = m := ⟨_, rfl⟩
  have Hm4 := hid hm
  rw [hm]
  clear hm
  have c_m4 : 1 ≤ m4 ∧ m4 ≤ 30000000 := by have := Hm4.out; have := HSX.out; have := pastsMk_bd x.done; have := pastsSz_nonneg x.done; have := pastsMk_nonneg x.done; omega
  have n_g := n_new
  clear n_new
  have b4 : decide (m4 < 0) = false := decide_eq_false (by omega)
  have b5 : (m4 != m4) = false := by simp
  have c_a0 := cl1 X_a
  obtain ⟨c_l0, c_l1, c_l2, c_l3, c_l4⟩ := cl5 X_l
  obtain ⟨c_w0, c_w1, c_w2, c_w3, c_w4⟩ := cl5 X_w
  have c_x0 := cl1 X_x
  obtain ⟨c_y0, c_y1, c_y2, c_y3, c_y4⟩ := cl5 X_y
  obtain ⟨c_g0, c_g1, c_g2, c_g3, c_g4⟩ := cl5 X_g
  apply_assumption
  go_wp2_with fail
  refine (heldLane_c _ x.proc x.base x.done 1 _ _ n_g.rdPasts (by decide) (by decide) HSX.out).mono ?_
  rintro q w28 ⟨rfl, hb28⟩
  clear c_a0 c_l0 c_l1 c_l2 c_l3 c_l4 c_w0 c_w1 c_w2 c_w3 c_w4 c_x0 c_y0 c_y1 c_y2 c_y3 c_y4 c_g0 c_g1 c_g2 c_g3 c_g4
  replace HB := bthen HB hb28 HB.size
  replace X_a := below_heap hb28 (blk_lt X_a) X_a
  replace X_l := below_heap hb28 (blk_lt X_l) X_l
  replace X_w := below_heap hb28 (blk_lt X_w) X_w
  replace X_x := below_heap hb28 (blk_lt X_x) X_x
  replace X_y := below_heap hb28 (blk_lt X_y) X_y
  replace X_g := below_heap hb28 (blk_lt X_g) X_g
  replace n_w := n_w.below hb28
  replace n_g := n_g.below hb28
  replace hA := hA.below hb28
  replace h := h.below hb28
  replace hc := hc.below hb28
  rw [Hm4.out]
  clear hb28
  have c_a0 := cl1 X_a
  obtain ⟨c_l0, c_l1, c_l2, c_l3, c_l4⟩ := cl5 X_l
  obtain ⟨c_w0, c_w1, c_w2, c_w3, c_w4⟩ := cl5 X_w
  have c_x0 := cl1 X_x
  obtain ⟨c_y0, c_y1, c_y2, c_y3, c_y4⟩ := cl5 X_y
  obtain ⟨c_g0, c_g1, c_g2, c_g3, c_g4⟩ := cl5 X_g
  apply_assumption
  go_upto_region 38 with fail
  refine region_sg [.rd [0, 2, 4], .par [(1, []), (3, []), (5, []), (6, [1, 3, 5]), (7, []), (8, []), (9, []), (10, []), (11, [10]), (12, [])] []] [] (by kernel_rfl) (by kernel_rfl) (fun _ _ d _ _ h => by cases d <;> exact h) ?_
  refine sg_rd (fun N hN => ?_)
  simp only [pickO, List.getElem?_toArray, List.getElem?_cons_zero, List.getElem?_cons_succ]
  go_wp2_with fail
  refine rd_next (hN _ ?_)
  clear hN N
  refine sgx_name fun a0 ha0 => ?_
  have sA := hid (show a0.tmps[116]? = some (.agg #[.slice A1 a.rules.length c1]) by rw [ha0]; rfl)
  have sL := hid (show a0.tmps[118]? = some (.agg #[.int .i64 l.proc, .int .i64 l.base.x, .int .i64 l.base.y, .int .i64 l.base.c, .slice A l.done.length c]) by rw [ha0]; rfl)
  have sC := hid (show a0.tmps[120]? = some (.slice C came.length cc) by rw [ha0]; rfl)
  have hsz := hid (show ∀ k, k < 125 → k < a0.tmps.size from fun k hk => by rw [ha0]; exact Nat.lt_of_lt_of_le hk (by show _ ≤ Array.size _; simp))
  have H0 := hid ha0
  clear ha0
  refine sg_parG [(1, some 117), (3, some 119), (5, some 121), (6, some 122), (7, some 115), (8, some 123), (9, some 124), (10, some 18), (11, none), (12, some 19)] (by rfl) (fun _ => False) (NL (z38N a l came x bl)) (PPL (z38P a l came x bl)) (fun _ _ => False) (PPL_upd _ (by kernel_rfl)) (NL_upd _ (by kernel_rfl)) (NL_move _ (z38N_moves a l came x bl)) (fun w' hc => Agree.of_ch hc (fun _ hf => hf.elim)) (by simp) (by simp) (by simp) (parS_cons ?_ (parS_cons ?_ (parS_cons ?_ (parS_cons ?_ (parS_cons ?_ (parS_cons ?_ (parS_cons ?_ (parS_cons ?_ (parS_cons ?_ (parS_cons ?_ parS_nil)))))))))) ?_
  · refine stepG_mk (by rfl) (by rfl) ?_
    intro u wq F1 hC hp hN hF hD K hK
    have q116 : (putL [(1, some 117), (3, some 119), (5, some 121), (6, some 122), (7, some 115), (8, some 123), (9, some 124), (10, some 18), (11, none), (12, some 19)] a0 u).tmps[116]? = _ := (putL_out (k := 116) [(1, some 117), (3, some 119), (5, some 121), (6, some 122), (7, some 115), (8, some 123), (9, some 124), (10, some 18), (11, none), (12, some 19)] a0 u (by rfl)).trans sA.out
    clear hp hN hF hD
    generalize putL [(1, some 117), (3, some 119), (5, some 121), (6, some 122), (7, some 115), (8, some 123), (9, some 124), (10, some 18), (11, none), (12, some 19)] a0 u = a1 at *
    go_simp
    refine (toApp_c a _ _ wq (hA.below (⟨hC.below0.os, hC.below0.tape, hC.below0.output, hC.below0.size, hC.below0.block⟩ : Below w28.heap.size w28 wq)) n1.1 n1.2).mono ?_
    rintro q w5 ⟨v5, rfl, h5, hb5⟩
    have hn1 : NL (z38N a l came x bl) 1 (updV u 1 (.agg #[v5])) w5 (fun k => wq.heap.size ≤ k ∧ k < w5.heap.size) := ⟨v5, rfl, h5.bound⟩
    have hp1 : PPL (z38P a l came x bl) 1 (updV u 1 (.agg #[v5])) := trivial
    exact hK _ (.agg #[v5]) _ (fun k => wq.heap.size ≤ k ∧ k < w5.heap.size) rfl (Ch.of_below hb5) hn1 (fun k hk => ⟨.inr hk.1, hk.2⟩) hp1
  · refine stepG_mk (by rfl) (by rfl) ?_
    intro u wq F1 hC hp hN hF hD K hK
    have q118 : (putL [(1, some 117), (3, some 119), (5, some 121), (6, some 122), (7, some 115), (8, some 123), (9, some 124), (10, some 18), (11, none), (12, some 19)] a0 u).tmps[118]? = _ := (putL_out (k := 118) [(1, some 117), (3, some 119), (5, some 121), (6, some 122), (7, some 115), (8, some 123), (9, some 124), (10, some 18), (11, none), (12, some 19)] a0 u (by rfl)).trans sL.out
    clear hp hN hF hD
    generalize putL [(1, some 117), (3, some 119), (5, some 121), (6, some 122), (7, some 115), (8, some 123), (9, some 124), (10, some 18), (11, none), (12, some 19)] a0 u = a1 at *
    go_simp
    refine (toLane_c l _ _ wq (h.below (⟨hC.below0.os, hC.below0.tape, hC.below0.output, hC.below0.size, hC.below0.block⟩ : Below w28.heap.size w28 wq)) n2.1 n2.2).mono ?_
    rintro q w5 ⟨u5, rfl, h5, hb5⟩
    have hn1 : NL (z38N a l came x bl) 3 (updV u 3 (.agg #[.int .i64 l.proc, .int .i64 l.base.x, .int .i64 l.base.y, .int .i64 l.base.c, u5])) w5 (fun k => wq.heap.size ≤ k ∧ k < w5.heap.size) := ⟨u5, rfl, h5.bound⟩
    have hp1 : PPL (z38P a l came x bl) 3 (updV u 3 (.agg #[.int .i64 l.proc, .int .i64 l.base.x, .int .i64 l.base.y, .int .i64 l.base.c, u5])) := trivial
    exact hK _ (.agg #[.int .i64 l.proc, .int .i64 l.base.x, .int .i64 l.base.y, .int .i64 l.base.c, u5]) _ (fun k => wq.heap.size ≤ k ∧ k < w5.heap.size) rfl (Ch.of_below hb5) hn1 (fun k hk => ⟨.inr hk.1, hk.2⟩) hp1
  · refine stepG_mk (by rfl) (by rfl) ?_
    intro u wq F1 hC hp hN hF hD K hK
    have q120 : (putL [(1, some 117), (3, some 119), (5, some 121), (6, some 122), (7, some 115), (8, some 123), (9, some 124), (10, some 18), (11, none), (12, some 19)] a0 u).tmps[120]? = _ := (putL_out (k := 120) [(1, some 117), (3, some 119), (5, some 121), (6, some 122), (7, some 115), (8, some 123), (9, some 124), (10, some 18), (11, none), (12, some 19)] a0 u (by rfl)).trans sC.out
    clear hp hN hF hD
    generalize putL [(1, some 117), (3, some 119), (5, some 121), (6, some 122), (7, some 115), (8, some 123), (9, some 124), (10, some 18), (11, none), (12, some 19)] a0 u = a1 at *
    go_simp
    refine (toEventS_c _ came _ wq (hc.below (⟨hC.below0.os, hC.below0.tape, hC.below0.output, hC.below0.size, hC.below0.block⟩ : Below w28.heap.size w28 wq)) n3).mono ?_
    rintro q w5 ⟨v5, rfl, h5, hb5⟩
    have hn1 : NL (z38N a l came x bl) 5 (updV u 5 (v5)) w5 (fun k => wq.heap.size ≤ k ∧ k < w5.heap.size) := h5.bound
    have hp1 : PPL (z38P a l came x bl) 5 (updV u 5 (v5)) := trivial
    exact hK _ (v5) _ (fun k => wq.heap.size ≤ k ∧ k < w5.heap.size) rfl (Ch.of_below hb5) hn1 (fun k hk => ⟨.inr hk.1, hk.2⟩) hp1
  · refine stepG_mk (by rfl) (by rfl) ?_
    intro u wq F1 hC hp hN hF hD K hK
    have q117 : (putL [(1, some 117), (3, some 119), (5, some 121), (6, some 122), (7, some 115), (8, some 123), (9, some 124), (10, some 18), (11, none), (12, some 19)] a0 u).tmps[117]? = some (u 1) := putL_in (k := 117) (i := 1) [(1, some 117), (3, some 119), (5, some 121), (6, some 122), (7, some 115), (8, some 123), (9, some 124), (10, some 18), (11, none), (12, some 19)] a0 u (by rfl) (hsz.out 117 (by decide))
    have q119 : (putL [(1, some 117), (3, some 119), (5, some 121), (6, some 122), (7, some 115), (8, some 123), (9, some 124), (10, some 18), (11, none), (12, some 19)] a0 u).tmps[119]? = some (u 3) := putL_in (k := 119) (i := 3) [(1, some 117), (3, some 119), (5, some 121), (6, some 122), (7, some 115), (8, some 123), (9, some 124), (10, some 18), (11, none), (12, some 19)] a0 u (by rfl) (hsz.out 119 (by decide))
    have q121 : (putL [(1, some 117), (3, some 119), (5, some 121), (6, some 122), (7, some 115), (8, some 123), (9, some 124), (10, some 18), (11, none), (12, some 19)] a0 u).tmps[121]? = some (u 5) := putL_in (k := 121) (i := 5) [(1, some 117), (3, some 119), (5, some 121), (6, some 122), (7, some 115), (8, some 123), (9, some 124), (10, some 18), (11, none), (12, some 19)] a0 u (by rfl) (hsz.out 121 (by decide))
    obtain ⟨y1, e1, g1⟩ : ∃ g, u 1 = .agg #[g] ∧ Ow oRule 120 wq (F1 1) g a.rules := hN 1 (by simp)
    obtain ⟨y2, e2, g2⟩ : ∃ g, u 3 = .agg #[.int .i64 l.proc, .int .i64 l.base.x, .int .i64 l.base.y, .int .i64 l.base.c, g] ∧ Ow oPast 98 wq (F1 3) g l.done := hN 3 (by simp)
    have g3 : Ow tEv 80 wq (F1 5) (u 5) came := hN 5 (by simp)
    rw [e1] at q117
    rw [e2] at q119
    clear hp hN hF hD
    generalize putL [(1, some 117), (3, some 119), (5, some 121), (6, some 122), (7, some 115), (8, some 123), (9, some 124), (10, some 18), (11, none), (12, some 19)] a0 u = a1 at *
    go_simp
    refine (laneI_call _ _ _ a l came _ _ _ wq g1.rdRules g2.rdPasts g3.rd HX.out).mono ?_
    rintro q w5 ⟨u5, rfl, h5, hb5⟩
    have hn1 : NL (z38N a l came x bl) 6 (updV u 6 (.tuple #[.agg #[.int .i64 x.proc, .int .i64 x.base.x, .int .i64 x.base.y, .int .i64 x.base.c, u5], .bool bl])) w5 (fun k => wq.heap.size ≤ k ∧ k < w5.heap.size) := ⟨u5, rfl, h5.bound⟩
    have hp1 : PPL (z38P a l came x bl) 6 (updV u 6 (.tuple #[.agg #[.int .i64 x.proc, .int .i64 x.base.x, .int .i64 x.base.y, .int .i64 x.base.c, u5], .bool bl])) := ⟨_, rfl, _, rfl, h5.oneCell⟩
    exact hK _ (.tuple #[.agg #[.int .i64 x.proc, .int .i64 x.base.x, .int .i64 x.base.y, .int .i64 x.base.c, u5], .bool bl]) _ (fun k => wq.heap.size ≤ k ∧ k < w5.heap.size) rfl (Ch.of_below hb5) hn1 (fun k hk => ⟨.inr hk.1, hk.2⟩) hp1
  · refine stepG_pure (by rfl) (by rfl) (fun _ _ => trivial) ?_
    intro u wq hC hp
    have p12 : tupL x bl (u 6) := hp 6 (by simp) (by kernel_rfl)
    have q : (putL [(1, some 117), (3, some 119), (5, some 121), (6, some 122), (7, some 115), (8, some 123), (9, some 124), (10, some 18), (11, none), (12, some 19)] a0 u).eval (.tmp 122) = u 6 := eval_of (putL_in (k := 122) (i := 6) [(1, some 117), (3, some 119), (5, some 121), (6, some 122), (7, some 115), (8, some 123), (9, some 124), (10, some 18), (11, none), (12, some 19)] a0 u (by rfl) (hsz.out 122 (by decide)))
    generalize putL [(1, some 117), (3, some 119), (5, some 121), (6, some 122), (7, some 115), (8, some 123), (9, some 124), (10, some 18), (11, none), (12, some 19)] a0 u = a1 at *
    refine Exists.intro (u 6) (And.intro ?_ ?_)
    · intro K hK
      exact wp_move' (.inl (by rfl)) q hK
    · exact ⟨rfl, p12⟩
  · refine stepG_pure (by rfl) (by rfl) (fun _ _ => trivial) ?_
    intro u wq hC hp
    have p13 : [u 6] = [u 7] ∧ tupL x bl (u 7) := hp 7 (by simp) (by kernel_rfl)
    obtain ⟨-, a9, e13, h9⟩ := p13
    have q : (putL [(1, some 117), (3, some 119), (5, some 121), (6, some 122), (7, some 115), (8, some 123), (9, some 124), (10, some 18), (11, none), (12, some 19)] a0 u).eval (.tmp 115) = u 7 := eval_of (putL_in (k := 115) (i := 7) [(1, some 117), (3, some 119), (5, some 121), (6, some 122), (7, some 115), (8, some 123), (9, some 124), (10, some 18), (11, none), (12, some 19)] a0 u (by rfl) (hsz.out 115 (by decide)))
    rw [e13] at q
    generalize putL [(1, some 117), (3, some 119), (5, some 121), (6, some 122), (7, some 115), (8, some 123), (9, some 124), (10, some 18), (11, none), (12, some 19)] a0 u = a1 at *
    refine Exists.intro a9 (And.intro ?_ ?_)
    · intro K hK
      refine wp_extract (x := .tmp 115) (n := 0) (vs := #[a9, .bool bl]) (v := a9) ?_ ?_ ?_ ?_
      · rfl
      · exact q
      · rfl
      · exact hK
    · exact ⟨h9, fun a b he => by have h8 : [u 7] = [Value.tuple #[a, b]] := he; rw [e13] at h8; simp at h8; exact h8.1⟩
  · refine stepG_pure (by rfl) (by rfl) (fun _ _ => trivial) ?_
    intro u wq hC hp
    have p13 : [u 6] = [u 7] ∧ tupL x bl (u 7) := hp 7 (by simp) (by kernel_rfl)
    obtain ⟨-, a9, e13, h9⟩ := p13
    have q : (putL [(1, some 117), (3, some 119), (5, some 121), (6, some 122), (7, some 115), (8, some 123), (9, some 124), (10, some 18), (11, none), (12, some 19)] a0 u).eval (.tmp 115) = u 7 := eval_of (putL_in (k := 115) (i := 7) [(1, some 117), (3, some 119), (5, some 121), (6, some 122), (7, some 115), (8, some 123), (9, some 124), (10, some 18), (11, none), (12, some 19)] a0 u (by rfl) (hsz.out 115 (by decide)))
    rw [e13] at q
    generalize putL [(1, some 117), (3, some 119), (5, some 121), (6, some 122), (7, some 115), (8, some 123), (9, some 124), (10, some 18), (11, none), (12, some 19)] a0 u = a1 at *
    refine Exists.intro (.bool bl) (And.intro ?_ ?_)
    · intro K hK
      refine wp_extract (x := .tmp 115) (n := 1) (vs := #[a9, .bool bl]) (v := (.bool bl)) ?_ ?_ ?_ ?_
      · rfl
      · exact q
      · rfl
      · exact hK
    · exact rfl
  · refine stepG_mk (by rfl) (by rfl) ?_
    intro u wq F1 hC hp hN hF hD K hK
    clear hp hN hF hD
    generalize putL [(1, some 117), (3, some 119), (5, some 121), (6, some 122), (7, some 115), (8, some 123), (9, some 124), (10, some 18), (11, none), (12, some 19)] a0 u = a1 at *
    go_simp
    have hn1 : NL (z38N a l came x bl) 10 (updV u 10 (.pointer (some ⟨wq.heap.size, 0, none⟩))) (wq.alloc (.cells #[.int .i64 0, .int .i64 0, .int .i64 0, .int .i64 0, .slice none 0 0] 52)) (fun k => k = wq.heap.size) := ⟨_, rfl, rfl, heap_at rfl⟩
    exact hK _ (.pointer (some ⟨wq.heap.size, 0, none⟩)) _ (fun k => k = wq.heap.size) rfl ((Ch.refl _ _).alloc _) hn1 (fun k hk => by subst hk; exact ⟨.inr (Nat.le_refl _), by simp⟩) trivial
  · refine stepG_mk (by rfl) (by rfl) ?_
    intro u wq F1 hC hp hN hF hD K hK
    have q1 : (putL [(1, some 117), (3, some 119), (5, some 121), (6, some 122), (7, some 115), (8, some 123), (9, some 124), (10, some 18), (11, none), (12, some 19)] a0 u).eval (.tmp 18) = u 10 := eval_of (putL_in (k := 18) (i := 10) [(1, some 117), (3, some 119), (5, some 121), (6, some 122), (7, some 115), (8, some 123), (9, some 124), (10, some 18), (11, none), (12, some 19)] a0 u (by rfl) (hsz.out 18 (by decide)))
    have q2 : (putL [(1, some 117), (3, some 119), (5, some 121), (6, some 122), (7, some 115), (8, some 123), (9, some 124), (10, some 18), (11, none), (12, some 19)] a0 u).eval (.tmp 123) = u 8 := eval_of (putL_in (k := 123) (i := 8) [(1, some 117), (3, some 119), (5, some 121), (6, some 122), (7, some 115), (8, some 123), (9, some 124), (10, some 18), (11, none), (12, some 19)] a0 u (by rfl) (hsz.out 123 (by decide)))
    generalize putL [(1, some 117), (3, some 119), (5, some 121), (6, some 122), (7, some 115), (8, some 123), (9, some 124), (10, some 18), (11, none), (12, some 19)] a0 u = a1 at *
    obtain ⟨g, e17, f17, B17⟩ : ∃ g, u 10 = .pointer (some ⟨g, 0, none⟩) ∧ F1 10 g ∧ wq.heap[g]? = some (.cells #[.int .i64 0, .int .i64 0, .int .i64 0, .int .i64 0, .slice none 0 0] 52 (0, 0)) := hN 10 (by simp)
    obtain ⟨⟨us, p14, o1⟩, -⟩ : aggL x (u 8) ∧ ∀ a b, [u 7] = [Value.tuple #[a, b]] → u 8 = a := hp 8 (by simp) (by kernel_rfl)
    have hgl := (hF 10 (by simp) g f17).2
    rw [e17] at q1
    rw [p14] at q2
    refine wp_store_mid 52 (.tmp 18) (.tmp 123) (by rfl) g 0 #[.int .i64 x.proc, .int .i64 x.base.x, .int .i64 x.base.y, .int .i64 x.base.c, us] q1 q2 (there_of_block B17 (by simp)) (by kernel_rfl) (by simp [o1, oneInt]) ?_
    have hn1 : NL (z38N a l came x bl) 11 (updV u 11 undef) (wq.setCells g 0 [.int .i64 x.proc, .int .i64 x.base.x, .int .i64 x.base.y, .int .i64 x.base.c, us]) (fun k => k = g) := ⟨g, us, (show [u 10, u 8] = _ by rw [e17, p14]), rfl, blk_ovw _ 0 wq [.int .i64 0, .int .i64 0, .int .i64 0, .int .i64 0, .slice none 0 0] B17⟩
    exact hK _ undef _ (fun k => k = g) rfl (Ch.setCells _ _ _ (Ch.refl _ _) (.inl ⟨10, by simp, f17⟩)) hn1 (fun k hk => by subst hk; exact ⟨.inl ⟨10, by simp, f17⟩, by rw [size_setCells]; exact hgl⟩) trivial
  · refine stepG_pure (by rfl) (by rfl) (fun _ _ => trivial) ?_
    intro u wq hC hp
    have q : (putL [(1, some 117), (3, some 119), (5, some 121), (6, some 122), (7, some 115), (8, some 123), (9, some 124), (10, some 18), (11, none), (12, some 19)] a0 u).eval (.tmp 124) = u 9 := eval_of (putL_in (k := 124) (i := 9) [(1, some 117), (3, some 119), (5, some 121), (6, some 122), (7, some 115), (8, some 123), (9, some 124), (10, some 18), (11, none), (12, some 19)] a0 u (by rfl) (hsz.out 124 (by decide)))
    generalize putL [(1, some 117), (3, some 119), (5, some 121), (6, some 122), (7, some 115), (8, some 123), (9, some 124), (10, some 18), (11, none), (12, some 19)] a0 u = a1 at *
    refine Exists.intro (u 9) (And.intro ?_ ?_)
    · intro K hK
      exact wp_move' (.inr (by rfl)) q hK
    · exact rfl
  intro K hK u w29 F1 hC hD hF hN hpp
  obtain ⟨us, g12, n12⟩ : ∃ g, u 6 = .tuple #[.agg #[.int .i64 x.proc, .int .i64 x.base.x, .int .i64 x.base.y, .int .i64 x.base.c, g], .bool bl] ∧ Ow oPast 98 w29 (F1 6) g x.done := hN 6 (by rfl)
  obtain ⟨gh, us9, g17, f17, BX3⟩ : ∃ g us, [u 10, u 8] = [.pointer (some ⟨g, 0, none⟩), .agg #[.int .i64 x.proc, .int .i64 x.base.x, .int .i64 x.base.y, .int .i64 x.base.c, us]] ∧ F1 11 g ∧ w29.heap[g]? = some (.cells #[.int .i64 x.proc, .int .i64 x.base.x, .int .i64 x.base.y, .int .i64 x.base.c, us] 52 (0, 0)) := hN 11 (by rfl)
  have g17a : u 10 = .pointer (some ⟨gh, 0, none⟩) := by simp at g17; exact g17.1
  have g17b : u 8 = .agg #[.int .i64 x.proc, .int .i64 x.base.x, .int .i64 x.base.y, .int .i64 x.base.c, us9] := by simp at g17; exact g17.2
  have p13 : [u 6] = [u 7] ∧ tupL x bl (u 7) := hpp 7 (by simp)
  have e13 : u 7 = u 6 := by have := p13.1; simp at this; exact this.symm
  have e14 := (show aggL x (u 8) ∧ ∀ a b, [u 7] = [Value.tuple #[a, b]] → u 8 = a from hpp 8 (by simp)).2
  have e15 : u 9 = .bool bl := hpp 9 (by simp)
  have e19 : u 12 = u 9 := by have q : [u 9] = [u 12] := hpp 12 (by simp); simp at q; exact q.symm
  rw [g12] at e13
  have e16 := e14 _ _ (by rw [e13])
  rw [g17b] at e16
  injection e16 with e16
  simp only [Array.mk.injEq, List.cons.injEq, and_true, true_and] at e16
  subst e16
  rw [e15] at e19
  clear hpp p13 e14 g17
  have hgh : w28.heap.size ≤ gh ∧ gh < w29.heap.size := by have := hF 11 gh (by rfl) f17; refine ⟨?_, this.2⟩; rcases this.1 with q | q; exact q.elim; simpa using q
  have n7 := n12.mono (F' := fun k => w28.heap.size ≤ k ∧ k < w29.heap.size) (fun k hk => by have := hF 6 k (by rfl) hk; refine ⟨?_, this.2⟩; rcases this.1 with q | q; exact q.elim; simpa using q)
  have HS : Below w28.heap.size w28 w29 := ⟨hC.below0.os, hC.below0.tape, hC.below0.output, hC.below0.size, hC.below0.block⟩
  have HA : Agree w28.drew w29 := Agree.of_ch hC (fun _ hf => hf.elim)
  clear hN hF hD hC n12 f17
  rw [H0.out]
  clear sA sL sC hsz H0 a0
  simp only [putL_cons, putL_nil]
  obtain ⟨Z, Zc, rfl, -⟩ := n7.shape
  generalize u 1 = u_1 at *
  generalize u 3 = u_3 at *
  generalize u 5 = u_5 at *
  generalize u 6 = u_6 at *
  generalize u 7 = u_7 at *
  generalize u 8 = u_8 at *
  generalize u 9 = u_9 at *
  generalize u 10 = u_10 at *
  generalize u 11 = u_11 at *
  generalize u 12 = u_12 at *
  subst g12 g17a g17b e13 e15 e19
  go_simp
  refine hK _ _ HA ?_
  clear hK K F1 HA
  refine sg_fin ?_
  simp only [pickO]
  clear c_a0 c_l0 c_l1 c_l2 c_l3 c_l4 c_w0 c_w1 c_w2 c_w3 c_w4 c_x0 c_y0 c_y1 c_y2 c_y3 c_y4 c_g0 c_g1 c_g2 c_g3 c_g4
  replace HB := bthen HB HS HB.size
  replace X_a := below_heap HS (blk_lt X_a) X_a
  replace X_l := below_heap HS (blk_lt X_l) X_l
  replace X_w := below_heap HS (blk_lt X_w) X_w
  replace X_x := below_heap HS (blk_lt X_x) X_x
  replace X_y := below_heap HS (blk_lt X_y) X_y
  replace X_g := below_heap HS (blk_lt X_g) X_g
  replace n_w := n_w.below HS
  replace n_g := n_g.below HS
  replace hA := hA.below HS
  replace h := h.below HS
  replace hc := hc.below HS
  have X_h := BX3; have n_h := n7; clear BX3 n7 hgh HS
  have c_a0 := cl1 X_a
  obtain ⟨c_l0, c_l1, c_l2, c_l3, c_l4⟩ := cl5 X_l
  obtain ⟨c_w0, c_w1, c_w2, c_w3, c_w4⟩ := cl5 X_w
  have c_x0 := cl1 X_x
  obtain ⟨c_y0, c_y1, c_y2, c_y3, c_y4⟩ := cl5 X_y
  obtain ⟨c_g0, c_g1, c_g2, c_g3, c_g4⟩ := cl5 X_g
  obtain ⟨c_h0, c_h1, c_h2, c_h3, c_h4⟩ := cl5 X_h
  go_wp2_with fail
  refine (eqLaneX x _ _ _ _ _ n_h.rdPasts n_w.rdPasts).mono ?_
  rintro q w30 ⟨rfl, hb30⟩
  clear c_a0 c_l0 c_l1 c_l2 c_l3 c_l4 c_w0 c_w1 c_w2 c_w3 c_w4 c_x0 c_y0 c_y1 c_y2 c_y3 c_y4 c_g0 c_g1 c_g2 c_g3 c_g4 c_h0 c_h1 c_h2 c_h3 c_h4
  replace HB := bthen HB hb30 HB.size
  replace X_a := below_heap hb30 (blk_lt X_a) X_a
  replace X_l := below_heap hb30 (blk_lt X_l) X_l
  replace X_w := below_heap hb30 (blk_lt X_w) X_w
  replace X_x := below_heap hb30 (blk_lt X_x) X_x
  replace X_y := below_heap hb30 (blk_lt X_y) X_y
  replace X_g := below_heap hb30 (blk_lt X_g) X_g
  replace X_h := below_heap hb30 (blk_lt X_h) X_h
  replace n_w := n_w.below hb30
  replace n_g := n_g.below hb30
  replace n_h := n_h.below hb30
  replace hA := hA.below hb30
  replace h := h.below hb30
  replace hc := hc.below hb30
  clear hb30
  have c_a0 := cl1 X_a
  obtain ⟨c_l0, c_l1, c_l2, c_l3, c_l4⟩ := cl5 X_l
  obtain ⟨c_w0, c_w1, c_w2, c_w3, c_w4⟩ := cl5 X_w
  have c_x0 := cl1 X_x
  obtain ⟨c_y0, c_y1, c_y2, c_y3, c_y4⟩ := cl5 X_y
  obtain ⟨c_g0, c_g1, c_g2, c_g3, c_g4⟩ := cl5 X_g
  obtain ⟨c_h0, c_h1, c_h2, c_h3, c_h4⟩ := cl5 X_h
  apply_assumption
  go_wp2_with fail
  refine (heldLane_c _ x.proc x.base x.done 1 _ _ n_g.rdPasts (by decide) (by decide) HSX.out).mono ?_
  rintro q w31 ⟨rfl, hb31⟩
  clear c_a0 c_l0 c_l1 c_l2 c_l3 c_l4 c_w0 c_w1 c_w2 c_w3 c_w4 c_x0 c_y0 c_y1 c_y2 c_y3 c_y4 c_g0 c_g1 c_g2 c_g3 c_g4 c_h0 c_h1 c_h2 c_h3 c_h4
  replace HB := bthen HB hb31 HB.size
  replace X_a := below_heap hb31 (blk_lt X_a) X_a
  replace X_l := below_heap hb31 (blk_lt X_l) X_l
  replace X_w := below_heap hb31 (blk_lt X_w) X_w
  replace X_x := below_heap hb31 (blk_lt X_x) X_x
  replace X_y := below_heap hb31 (blk_lt X_y) X_y
  replace X_g := below_heap hb31 (blk_lt X_g) X_g
  replace X_h := below_heap hb31 (blk_lt X_h) X_h
  replace n_w := n_w.below hb31
  replace n_g := n_g.below hb31
  replace n_h := n_h.below hb31
  replace hA := hA.below hb31
  replace h := h.below hb31
  replace hc := hc.below hb31
  rw [Hm4.out]
  clear hb31
  have c_a0 := cl1 X_a
  obtain ⟨c_l0, c_l1, c_l2, c_l3, c_l4⟩ := cl5 X_l
  obtain ⟨c_w0, c_w1, c_w2, c_w3, c_w4⟩ := cl5 X_w
  have c_x0 := cl1 X_x
  obtain ⟨c_y0, c_y1, c_y2, c_y3, c_y4⟩ := cl5 X_y
  obtain ⟨c_g0, c_g1, c_g2, c_g3, c_g4⟩ := cl5 X_g
  obtain ⟨c_h0, c_h1, c_h2, c_h3, c_h4⟩ := cl5 X_h
  apply_assumption
  go_wp2_with fail
  go_ret
  exact ⟨rfl, HB⟩
end Go.Proofs.YtbcemldiahghcaaGreat
