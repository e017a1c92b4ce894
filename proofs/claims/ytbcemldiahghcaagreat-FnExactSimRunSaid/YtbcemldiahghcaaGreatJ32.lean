/- Texts joined: Ey6, Row, Ex7. -/
import Derived.Test.YtbcemldiahghcaaGreatJ12
import Derived.Test.YtbcemldiahghcaaGreatJ14
import Derived.Test.YtbcemldiahghcaaGreatJ17
import Derived.Test.YtbcemldiahghcaaGreatJ18
import Derived.Test.YtbcemldiahghcaaGreatJ19
import Derived.Test.YtbcemldiahghcaaGreatJ31
import Derived.Test.YtbcemldiahghcaaGreatRows
import Derived.Test.YtbcemldiahghcaaGreatJ00
import Derived.Lib.SlBytesRowKit
import Derived.ProofKit
import Derived.Test.YtbcemldiahghcaaGreatJ03
import Derived.Deep.Slices
namespace Go.Proofs.YtbcemldiahghcaaGreat
set_option linter.unusedVariables false
set_option linter.unusedSimpArgs false
set_option maxRecDepth 100000
open Go.RowKit
theorem simRun_len (apps : List AppD) (u : Int) : (simRun apps u).states.length ≤ 1000 ∧ (simRun apps u).queue.length ≤ 1000 ∧ (simRun apps u).outs.length ≤ 1000 := by
  cases qa : appsOk apps with
  | true => exact simOk_len (simRun_ok qa u).1.ok
  | false => rw [simRun_bad qa]; exact ⟨by decide, by decide, by decide⟩
theorem eqSimX (x : SimD) (vs vq vo us uq uo : Value) (F G : Nat → Prop) (w : World) (h0 : SimRd w F vs vq vo x) (h1 : SimRd w G us uq uo x) : Calls Tryz.prog 10 #[.agg #[vs, vq, vo], .agg #[us, uq, uo]] w fun q w' => q = .returned (.bool true) ∧ Below w.heap.size w w' :=
  (eqSim_c x x vs vq vo us uq uo (fun _ => True) w (h0.mono (fun _ _ => trivial)) (h1.mono (fun _ _ => trivial))).mono fun q w' ⟨h1, h2⟩ => ⟨by rw [h1, decide_eq_true rfl], h2⟩
theorem eqAppSX (xs : List AppD) (v0 v1 : Value) (F G : Nat → Prop) (w : World) (h0 : Rd tApp w F v0 xs) (h1 : Rd tApp w G v1 xs) : Calls Tryz.prog 11 #[v0, v1] w fun q w' => q = .returned (.bool true) ∧ Below w.heap.size w w' :=
  (eqAppS_c v0 v1 xs xs (fun _ => True) w (h0.mono (fun _ _ => trivial)) (h1.mono (fun _ _ => trivial))).mono fun q w' ⟨h1, h2⟩ => ⟨by rw [h1, decide_eq_true rfl], h2⟩
/-- A block of another type than all rows of a machine stays where the machine is written over. -/
theorem SimOw.own {w : World} {F : Nat → Prop} {vs vq vo : Value} {s : SimD} (h : SimOw w F vs vq vo s) : SimOw w (fun k => vs.ownBlock = some k ∨ vq.ownBlock = some k ∨ vo.ownBlock = some k) vs vq vo s :=
  ⟨h.st.tight.mono fun _ hk => .inl hk, h.qu.tight.mono fun _ hk => .inr (.inl hk), h.ou.tight.mono fun _ hk => .inr (.inr hk)⟩
theorem SimOw.blkNot {w : World} {F : Nat → Prop} {vs vq vo : Value} {s : SimD} (h : SimOw w F vs vq vo s) {k : Nat} {cs : Array Value} {t : TypeId} {fr : Nat × Nat} (hk : w.heap[k]? = some (.cells cs t fr)) (h1 : 49 ≠ t) (h2 : 80 ≠ t) (h3 : 128 ≠ t) :
    ¬ (vs.ownBlock = some k ∨ vq.ownBlock = some k ∨ vo.ownBlock = some k) := by
  rintro (g | g | g)
  · exact h.st.type_ne hk h1 g
  · exact h.qu.type_ne hk h2 g
  · exact h.ou.type_ne hk h3 g
theorem SimOw.ownIn {w : World} {F : Nat → Prop} {vs vq vo : Value} {s : SimD} (h : SimOw w F vs vq vo s) {k : Nat} (hk : vs.ownBlock = some k ∨ vq.ownBlock = some k ∨ vo.ownBlock = some k) : F k := by
  rcases hk with g | g | g
  · exact h.st.inF g
  · exact h.qu.inF g
  · exact h.ou.inF g
theorem appsSz_bounds {apps : List AppD} (h : (apps.length : Int) + appsSz apps ≤ 1048576) : apps.length ≤ 1048576 ∧ ∀ r ∈ apps, r.rules.length ≤ 1048576 ∧ ∀ q ∈ r.rules, q.ops.length ≤ 1048576 := by
  have h0 := appsSz_nonneg apps
  refine ⟨by omega, fun r hr => ?_⟩
  have h1 := appsSz_mem apps r hr
  have h2 := rulesSz_nonneg r.rules
  exact ⟨by omega, fun q hq => by have h3 := rulesSz_mem r.rules q hq; omega⟩
set_option maxHeartbeats 1000000 in
theorem FnExactSimRun_any (va : Value) (apps : List AppD) (u : Int) (w : World) (hA : Rd tApp w (fun k => k < w.heap.size) va apps) :
    Calls Tryz.prog 3 #[va, .int .i64 u] w fun q w' => q = .returned (.bool true) ∧ Below w.heap.size w w' := by
  obtain ⟨s, hs⟩ : ∃ s, simRun apps u = s := ⟨_, rfl⟩
  have hle0 := simRun_len apps u
  rw [hs] at hle0
  have hle := hid hle0
  have HSR := hid hs
  clear hs hle0
  obtain ⟨A, c, rfl, -⟩ := hA.shape
  obtain ⟨t, ht⟩ : ∃ t, szTo 1048576 (apps.length + appsSz apps) = t := ⟨_, rfl⟩
  have HT := hid ht
  go_enter Tryz.func3, Tryz.ntmps3
  go_wp2_with fail
  have HB := Below.refl w.heap.size w
  refine (szAppS_c _ apps 1048576 _ _ hA (by decide) (by decide)).mono ?_
  rintro q w1 ⟨rfl, hb1⟩
  replace HB := bthen HB hb1 HB.size
  replace hA := hA.below hb1
  rw [ht]
  clear ht hb1
  apply_assumption
  by_cases hneg : t < 0
  · have hd : decide (t < 0) = true := decide_eq_true hneg
    clear hneg
    go_wp2_with fail
    go_ret
    exact ⟨rfl, HB⟩
  have hd : decide (t < 0) = false := decide_eq_false hneg
  have hsz : (apps.length : Int) + appsSz apps ≤ 1048576 := by have h4 := szTo_pos HT.out hneg; omega
  have n1 := appsSz_bounds hsz
  have HSZ := hid hsz
  clear hneg hsz
  go_wp2_with fail
  refine (toAppS_c _ apps _ _ hA n1.1 n1.2).mono ?_
  rintro q w2 ⟨v2, rfl, n_t, hb2⟩
  replace HB := bthen HB hb2 HB.size
  replace hA := hA.below hb2
  clear hb2
  obtain ⟨T1, t1, rfl, -⟩ := n_t.shape
  apply_assumption
  go_wp2_with fail
  refine (SimRunS_c _ apps u _ _ n_t.rdApps).mono ?_
  rintro q w3 ⟨us, uq, uo, rfl, n_w, hb3⟩
  rw [HSR.out] at n_w
  replace n_w : SimOw w3 (fun k => w2.heap.size ≤ k ∧ k < w3.heap.size) us uq uo s := ⟨n_w.st.bound, n_w.qu.bound, n_w.ou.bound⟩
  clear n_t
  replace HB := bthen HB hb3 HB.size
  replace hA := hA.below hb3
  clear hb3
  obtain ⟨P1, P1c, rfl, -⟩ := n_w.st.shape
  obtain ⟨P2, P2c, rfl, -⟩ := n_w.qu.shape
  obtain ⟨P3, P3c, rfl, -⟩ := n_w.ou.shape
  obtain ⟨s3, hs3⟩ : ∃ n, Hid (w3.heap.size ≤ n ∧ n ≤ w3.heap.size ∧ w.heap.size ≤ n) := ⟨_, Nat.le_refl _, Nat.le_refl _, HB.size⟩
  replace n_w := n_w.mono (F' := fun k => k < s3) (fun k hk => by have := hs3.out; have h3 : k < w3.heap.size := hk.2; show k < s3; omega)
  apply_assumption
  go_wp2_with fail
  have hbx := balloc (Below.refl w3.heap.size w3) (.cells #[.slice P1 s.states.length P1c, .slice P2 s.queue.length P2c, .slice P3 s.outs.length P3c] 28)
  have X_w : (w3.alloc (.cells #[.slice P1 s.states.length P1c, .slice P2 s.queue.length P2c, .slice P3 s.outs.length P3c] 28)).heap[w3.heap.size]? = some (.cells #[.slice P1 s.states.length P1c, .slice P2 s.queue.length P2c, .slice P3 s.outs.length P3c] 28 (0, 0)) := heap_at rfl
  replace HB := bthen HB hbx HB.size
  replace n_w := n_w.below hbx
  replace hA := hA.below hbx
  obtain ⟨gw, hg⟩ : ∃ g, g = w3.heap.size := ⟨_, rfl⟩
  rw [← hg] at X_w
  simp only [← hg]
  have Hgw := hid (show gw ≤ w3.heap.size ∧ w3.heap.size ≤ gw by omega)
  generalize w3.alloc (.cells #[.slice P1 s.states.length P1c, .slice P2 s.queue.length P2c, .slice P3 s.outs.length P3c] 28) = W3 at *
  clear hg hbx
  refine (toAppS_c _ apps _ _ hA n1.1 n1.2).mono ?_
  rintro q w5 ⟨v5, rfl, n_x, hb5⟩
  replace n_x := n_x.bound
  obtain ⟨Q1, q1, rfl, -⟩ := n_x.shape
  have hWs := hid (show gw < W3.heap.size from blk_lt X_w)
  replace HB := bthen HB hb5 HB.size
  replace X_w := below_heap hb5 (blk_lt X_w) X_w
  replace n_w := n_w.below hb5
  replace hA := hA.below hb5
  obtain ⟨s5, hs5⟩ : ∃ n, Hid (w5.heap.size ≤ n ∧ n ≤ w5.heap.size ∧ gw < n) := ⟨_, Nat.le_refl _, Nat.le_refl _, blk_lt X_w⟩
  replace n_x := n_x.mono (F' := fun k => gw < k ∧ k < s5) (fun k hk => by have := hs5.out; have := hWs.out; have h3 : W3.heap.size ≤ k := hk.1; have h4 : k < w5.heap.size := hk.2; exact ⟨by omega, by omega⟩)
  clear hb5 hWs
  have c_w0 : w5.cell? ⟨gw, 0, none⟩ = some (.slice P1 s.states.length P1c) := blk_cell X_w 0
  have c_w1 : w5.cell? ⟨gw, 1, none⟩ = some (.slice P2 s.queue.length P2c) := blk_cell X_w 1
  have c_w2 : w5.cell? ⟨gw, 2, none⟩ = some (.slice P3 s.outs.length P3c) := blk_cell X_w 2
  apply_assumption
  go_wp2_with fail
  refine (SimRunI_c _ apps u _ _ n_x.rdApps).mono ?_
  rintro q w6 ⟨us, uq, uo, rfl, n_g, hb6⟩
  rw [HSR.out] at n_g
  obtain ⟨G1, G1c, rfl, -⟩ := n_g.st.shape
  obtain ⟨G2, G2c, rfl, -⟩ := n_g.qu.shape
  obtain ⟨G3, G3c, rfl, -⟩ := n_g.ou.shape
  clear c_w0 c_w1 c_w2
  replace n_g := n_g.mono (F' := fun k => s5 ≤ k) (fun k hk => by have := hs5.out; have h3 : w5.heap.size ≤ k := hk; show s5 ≤ k; omega)
  have hWs := hid (show s5 ≤ w6.heap.size by have := hs5.out; have := hb6.size; omega)
  replace HB := bthen HB hb6 HB.size
  replace X_w := below_heap hb6 (blk_lt X_w) X_w
  replace n_w := n_w.below hb6
  replace n_x := n_x.below hb6
  replace hA := hA.below hb6
  clear hb6
  have c_w0 : w6.cell? ⟨gw, 0, none⟩ = some (.slice P1 s.states.length P1c) := blk_cell X_w 0
  have c_w1 : w6.cell? ⟨gw, 1, none⟩ = some (.slice P2 s.queue.length P2c) := blk_cell X_w 1
  have c_w2 : w6.cell? ⟨gw, 2, none⟩ = some (.slice P3 s.outs.length P3c) := blk_cell X_w 2
  apply_assumption
  go_upto_region 8 with fail
  clear c_w0 c_w1 c_w2
  have hbx := balloc (Below.refl w6.heap.size w6) (.cells #[.slice G1 s.states.length G1c, .slice G2 s.queue.length G2c, .slice G3 s.outs.length G3c] 28)
  have X_g : (w6.alloc (.cells #[.slice G1 s.states.length G1c, .slice G2 s.queue.length G2c, .slice G3 s.outs.length G3c] 28)).heap[w6.heap.size]? = some (.cells #[.slice G1 s.states.length G1c, .slice G2 s.queue.length G2c, .slice G3 s.outs.length G3c] 28 (0, 0)) := heap_at rfl
  replace HB := bthen HB hbx HB.size
  replace X_w := below_heap hbx (blk_lt X_w) X_w
  replace n_w := n_w.below hbx
  replace n_x := n_x.below hbx
  replace n_g := n_g.below hbx
  replace hA := hA.below hbx
  obtain ⟨gg, hg⟩ : ∃ g, g = w6.heap.size := ⟨_, rfl⟩
  rw [← hg] at X_g
  simp only [← hg]
  have Hgg := hid (show gg ≤ w6.heap.size ∧ w6.heap.size ≤ gg by omega)
  generalize w6.alloc (.cells #[.slice G1 s.states.length G1c, .slice G2 s.queue.length G2c, .slice G3 s.outs.length G3c] 28) = W6 at *
  clear hg hbx
  have Hgg' := hid (show s5 ≤ gg by have := hWs.out; have := Hgg.out; omega)
  clear hWs
  have c_w0 : W6.cell? ⟨gw, 0, none⟩ = some (.slice P1 s.states.length P1c) := blk_cell X_w 0
  have c_w1 : W6.cell? ⟨gw, 1, none⟩ = some (.slice P2 s.queue.length P2c) := blk_cell X_w 1
  have c_w2 : W6.cell? ⟨gw, 2, none⟩ = some (.slice P3 s.outs.length P3c) := blk_cell X_w 2
  have c_g0 : W6.cell? ⟨gg, 0, none⟩ = some (.slice G1 s.states.length G1c) := blk_cell X_g 0
  have c_g1 : W6.cell? ⟨gg, 1, none⟩ = some (.slice G2 s.queue.length G2c) := blk_cell X_g 1
  have c_g2 : W6.cell? ⟨gg, 2, none⟩ = some (.slice G3 s.outs.length G3c) := blk_cell X_g 2
  go_wp2_with fail
  refine (eqSimX s _ _ _ _ _ _ _ _ _ n_g.rd n_w.rd).mono ?_
  rintro q w7 ⟨rfl, hb7⟩
  clear c_w0 c_w1 c_w2 c_g0 c_g1 c_g2
  replace HB := bthen HB hb7 HB.size
  replace X_w := below_heap hb7 (blk_lt X_w) X_w
  replace X_g := below_heap hb7 (blk_lt X_g) X_g
  replace n_w := n_w.below hb7
  replace n_x := n_x.below hb7
  replace n_g := n_g.below hb7
  replace hA := hA.below hb7
  clear hb7
  have c_w0 : w7.cell? ⟨gw, 0, none⟩ = some (.slice P1 s.states.length P1c) := blk_cell X_w 0
  have c_w1 : w7.cell? ⟨gw, 1, none⟩ = some (.slice P2 s.queue.length P2c) := blk_cell X_w 1
  have c_w2 : w7.cell? ⟨gw, 2, none⟩ = some (.slice P3 s.outs.length P3c) := blk_cell X_w 2
  have c_g0 : w7.cell? ⟨gg, 0, none⟩ = some (.slice G1 s.states.length G1c) := blk_cell X_g 0
  have c_g1 : w7.cell? ⟨gg, 1, none⟩ = some (.slice G2 s.queue.length G2c) := blk_cell X_g 1
  have c_g2 : w7.cell? ⟨gg, 2, none⟩ = some (.slice G3 s.outs.length G3c) := blk_cell X_g 2
  apply_assumption
  go_wp2_with fail
  refine (toAppS_c _ apps _ _ hA n1.1 n1.2).mono ?_
  rintro q w8 ⟨v8, rfl, n_y, hb8⟩
  obtain ⟨Y1, y1, rfl, -⟩ := n_y.shape
  clear c_w0 c_w1 c_w2 c_g0 c_g1 c_g2
  replace HB := bthen HB hb8 HB.size
  replace X_w := below_heap hb8 (blk_lt X_w) X_w
  replace X_g := below_heap hb8 (blk_lt X_g) X_g
  replace n_w := n_w.below hb8
  replace n_x := n_x.below hb8
  replace n_g := n_g.below hb8
  replace hA := hA.below hb8
  clear hb8
  have c_w0 : w8.cell? ⟨gw, 0, none⟩ = some (.slice P1 s.states.length P1c) := blk_cell X_w 0
  have c_w1 : w8.cell? ⟨gw, 1, none⟩ = some (.slice P2 s.queue.length P2c) := blk_cell X_w 1
  have c_w2 : w8.cell? ⟨gw, 2, none⟩ = some (.slice P3 s.outs.length P3c) := blk_cell X_w 2
  have c_g0 : w8.cell? ⟨gg, 0, none⟩ = some (.slice G1 s.states.length G1c) := blk_cell X_g 0
  have c_g1 : w8.cell? ⟨gg, 1, none⟩ = some (.slice G2 s.queue.length G2c) := blk_cell X_g 1
  have c_g2 : w8.cell? ⟨gg, 2, none⟩ = some (.slice G3 s.outs.length G3c) := blk_cell X_g 2
  apply_assumption
  go_wp2_with fail
  refine (eqAppSX apps _ _ _ _ _ n_x.rdApps n_y.rdApps).mono ?_
  rintro q w9 ⟨rfl, hb9⟩
  clear c_w0 c_w1 c_w2 c_g0 c_g1 c_g2
  replace HB := bthen HB hb9 HB.size
  replace X_w := below_heap hb9 (blk_lt X_w) X_w
  replace X_g := below_heap hb9 (blk_lt X_g) X_g
  replace n_w := n_w.below hb9
  replace n_x := n_x.below hb9
  replace n_g := n_g.below hb9
  replace hA := hA.below hb9
  clear hb9 n_y
  have c_w0 : w9.cell? ⟨gw, 0, none⟩ = some (.slice P1 s.states.length P1c) := blk_cell X_w 0
  have c_w1 : w9.cell? ⟨gw, 1, none⟩ = some (.slice P2 s.queue.length P2c) := blk_cell X_w 1
  have c_w2 : w9.cell? ⟨gw, 2, none⟩ = some (.slice P3 s.outs.length P3c) := blk_cell X_w 2
  have c_g0 : w9.cell? ⟨gg, 0, none⟩ = some (.slice G1 s.states.length G1c) := blk_cell X_g 0
  have c_g1 : w9.cell? ⟨gg, 1, none⟩ = some (.slice G2 s.queue.length G2c) := blk_cell X_g 1
  have c_g2 : w9.cell? ⟨gg, 2, none⟩ = some (.slice G3 s.outs.length G3c) := blk_cell X_g 2
  apply_assumption
  go_wp2_with fail
  refine (markAppS_c _ apps 1 _ _ n_x (by decide) (by decide) HSZ.out).mono ?_
  rintro q w10 ⟨rfl, hc⟩
  clear c_w0 c_w1 c_w2 c_g0 c_g1 c_g2
  clear n_x
  replace HB := HB.trans (hc.below (B := w.heap.size) (fun k hk => by have h3 : gw < k := hk.1; have := Hgw.out; have := hs3.out; omega) HB.size)
  replace X_w := hc.heap X_w (fun hq => by have h3 : gw < gw := hq.1; omega)
  replace X_g := hc.heap X_g (fun hq => by have h3 : gg < s5 := hq.2; have h5 := Hgg'.out; omega)
  replace n_w := n_w.ch hc (fun k hk hq => by have h3 : k < s3 := hk; have h4 : gw < k := hq.1; have := Hgw.out; have := hs3.out; omega)
  replace n_g := n_g.ch hc (fun k hk hq => by have h3 : s5 ≤ k := hk; have h4 : k < s5 := hq.2; omega)
  replace hA := hA.ch hc (fun k hk hq => by have h3 : k < w.heap.size := hk; have h4 : gw < k := hq.1; have := Hgw.out; have := hs3.out; omega)
  clear hc
  obtain ⟨m0, hm0⟩ : ∃ m, 1 + appsMk apps = m := ⟨_, rfl⟩
  have e0 : decide (m0 < 0) = false := decide_eq_false (by have := appsMk_nonneg apps; omega)
  rw [hm0]
  clear hm0
  have c_w0 : w10.cell? ⟨gw, 0, none⟩ = some (.slice P1 s.states.length P1c) := blk_cell X_w 0
  have c_w1 : w10.cell? ⟨gw, 1, none⟩ = some (.slice P2 s.queue.length P2c) := blk_cell X_w 1
  have c_w2 : w10.cell? ⟨gw, 2, none⟩ = some (.slice P3 s.outs.length P3c) := blk_cell X_w 2
  have c_g0 : w10.cell? ⟨gg, 0, none⟩ = some (.slice G1 s.states.length G1c) := blk_cell X_g 0
  have c_g1 : w10.cell? ⟨gg, 1, none⟩ = some (.slice G2 s.queue.length G2c) := blk_cell X_g 1
  have c_g2 : w10.cell? ⟨gg, 2, none⟩ = some (.slice G3 s.outs.length G3c) := blk_cell X_g 2
  apply_assumption
  go_wp2_with fail
  refine (eqSimX s _ _ _ _ _ _ _ _ _ n_g.rd n_w.rd).mono ?_
  rintro q w11 ⟨rfl, hb11⟩
  clear c_w0 c_w1 c_w2 c_g0 c_g1 c_g2
  replace HB := bthen HB hb11 HB.size
  replace X_w := below_heap hb11 (blk_lt X_w) X_w
  replace X_g := below_heap hb11 (blk_lt X_g) X_g
  replace n_w := n_w.below hb11
  replace n_g := n_g.below hb11
  replace hA := hA.below hb11
  clear hb11
  have c_w0 : w11.cell? ⟨gw, 0, none⟩ = some (.slice P1 s.states.length P1c) := blk_cell X_w 0
  have c_w1 : w11.cell? ⟨gw, 1, none⟩ = some (.slice P2 s.queue.length P2c) := blk_cell X_w 1
  have c_w2 : w11.cell? ⟨gw, 2, none⟩ = some (.slice P3 s.outs.length P3c) := blk_cell X_w 2
  have c_g0 : w11.cell? ⟨gg, 0, none⟩ = some (.slice G1 s.states.length G1c) := blk_cell X_g 0
  have c_g1 : w11.cell? ⟨gg, 1, none⟩ = some (.slice G2 s.queue.length G2c) := blk_cell X_g 1
  have c_g2 : w11.cell? ⟨gg, 2, none⟩ = some (.slice G3 s.outs.length G3c) := blk_cell X_g 2
  apply_assumption
  go_wp2_with fail
  have hlen := hle.out
  refine (markSim_c s _ _ _ 1 _ _ n_g.own (by decide) (by decide) (by omega) (by omega) (by omega)).mono ?_
  rintro q w12 ⟨rfl, n_new, hc⟩
  clear hlen
  have hin := fun k hk => n_g.ownIn (k := k) hk
  clear c_w0 c_w1 c_w2 c_g0 c_g1 c_g2
  replace HB := HB.trans (hc.below (B := w.heap.size) (fun k hk => by have h3 : s5 ≤ k := hin k hk; have := hs5.out; have := Hgw.out; have := hs3.out; omega) HB.size)
  replace X_w := hc.heap X_w (n_g.blkNot X_w (by decide) (by decide) (by decide))
  replace X_g := hc.heap X_g (n_g.blkNot X_g (by decide) (by decide) (by decide))
  replace n_w := n_w.ch hc (fun k hk hq => by have h3 : k < s3 := hk; have h4 : s5 ≤ k := hin k hq; have := hs5.out; have := Hgw.out; have := hs3.out; omega)
  replace hA := hA.ch hc (fun k hk hq => by have h3 : k < w.heap.size := hk; have h4 : s5 ≤ k := hin k hq; have := hs5.out; have := Hgw.out; have := hs3.out; omega)
  clear hc hin n_g
  have n_g := n_new
  clear n_new
  obtain ⟨m2, hm2⟩ : ∃ m, 1 + 3 * (s.states.length : Int) + 7 * s.queue.length + 5 * s.outs.length = m := ⟨_, rfl⟩
  have Hm2 := hid hm2
  rw [hm2]
  clear hm2
  have b2 : decide (m2 < 0) = false := decide_eq_false (by have := Hm2.out; omega)
  have b4 : (m2 != m2) = false := by simp
  have c_w0 : w12.cell? ⟨gw, 0, none⟩ = some (.slice P1 s.states.length P1c) := blk_cell X_w 0
  have c_w1 : w12.cell? ⟨gw, 1, none⟩ = some (.slice P2 s.queue.length P2c) := blk_cell X_w 1
  have c_w2 : w12.cell? ⟨gw, 2, none⟩ = some (.slice P3 s.outs.length P3c) := blk_cell X_w 2
  have c_g0 : w12.cell? ⟨gg, 0, none⟩ = some (.slice G1 s.states.length G1c) := blk_cell X_g 0
  have c_g1 : w12.cell? ⟨gg, 1, none⟩ = some (.slice G2 s.queue.length G2c) := blk_cell X_g 1
  have c_g2 : w12.cell? ⟨gg, 2, none⟩ = some (.slice G3 s.outs.length G3c) := blk_cell X_g 2
  apply_assumption
  go_wp2_with fail
  refine (heldSim_c _ _ _ 1 s.states.length s.queue.length s.outs.length _ _ n_g.rd (by decide) (by decide) (by have := hle.out; omega) (by have := hle.out; omega) (by have := hle.out; omega)).mono ?_
  rintro q w13 ⟨rfl, hb13⟩
  clear c_w0 c_w1 c_w2 c_g0 c_g1 c_g2
  replace HB := bthen HB hb13 HB.size
  replace X_w := below_heap hb13 (blk_lt X_w) X_w
  replace X_g := below_heap hb13 (blk_lt X_g) X_g
  replace n_w := n_w.below hb13
  replace n_g := n_g.below hb13
  replace hA := hA.below hb13
  rw [Hm2.out]
  clear hb13
  have c_w0 : w13.cell? ⟨gw, 0, none⟩ = some (.slice P1 s.states.length P1c) := blk_cell X_w 0
  have c_w1 : w13.cell? ⟨gw, 1, none⟩ = some (.slice P2 s.queue.length P2c) := blk_cell X_w 1
  have c_w2 : w13.cell? ⟨gw, 2, none⟩ = some (.slice P3 s.outs.length P3c) := blk_cell X_w 2
  have c_g0 : w13.cell? ⟨gg, 0, none⟩ = some (.slice G1 s.states.length G1c) := blk_cell X_g 0
  have c_g1 : w13.cell? ⟨gg, 1, none⟩ = some (.slice G2 s.queue.length G2c) := blk_cell X_g 1
  have c_g2 : w13.cell? ⟨gg, 2, none⟩ = some (.slice G3 s.outs.length G3c) := blk_cell X_g 2
  apply_assumption
  go_wp2_with fail
  refine (toAppS_c _ apps _ _ hA n1.1 n1.2).mono ?_
  rintro q w14 ⟨v14, rfl, n_t, hb14⟩
  obtain ⟨T1, t1, rfl, -⟩ := n_t.shape
  clear c_w0 c_w1 c_w2 c_g0 c_g1 c_g2
  replace HB := bthen HB hb14 HB.size
  replace X_w := below_heap hb14 (blk_lt X_w) X_w
  replace X_g := below_heap hb14 (blk_lt X_g) X_g
  replace n_w := n_w.below hb14
  replace n_g := n_g.below hb14
  replace hA := hA.below hb14
  clear hb14
  have c_w0 : w14.cell? ⟨gw, 0, none⟩ = some (.slice P1 s.states.length P1c) := blk_cell X_w 0
  have c_w1 : w14.cell? ⟨gw, 1, none⟩ = some (.slice P2 s.queue.length P2c) := blk_cell X_w 1
  have c_w2 : w14.cell? ⟨gw, 2, none⟩ = some (.slice P3 s.outs.length P3c) := blk_cell X_w 2
  have c_g0 : w14.cell? ⟨gg, 0, none⟩ = some (.slice G1 s.states.length G1c) := blk_cell X_g 0
  have c_g1 : w14.cell? ⟨gg, 1, none⟩ = some (.slice G2 s.queue.length G2c) := blk_cell X_g 1
  have c_g2 : w14.cell? ⟨gg, 2, none⟩ = some (.slice G3 s.outs.length G3c) := blk_cell X_g 2
  apply_assumption
  go_wp2_with fail
  refine (SimRunI_c _ apps u _ _ n_t.rdApps).mono ?_
  rintro q w15 ⟨us, uq, uo, rfl, n_h, hb15⟩
  rw [HSR.out] at n_h
  obtain ⟨K1, K1c, rfl, -⟩ := n_h.st.shape
  obtain ⟨K2, K2c, rfl, -⟩ := n_h.qu.shape
  obtain ⟨K3, K3c, rfl, -⟩ := n_h.ou.shape
  clear c_w0 c_w1 c_w2 c_g0 c_g1 c_g2
  replace HB := bthen HB hb15 HB.size
  replace X_w := below_heap hb15 (blk_lt X_w) X_w
  replace X_g := below_heap hb15 (blk_lt X_g) X_g
  replace n_w := n_w.below hb15
  replace n_g := n_g.below hb15
  replace hA := hA.below hb15
  clear hb15 n_t
  have c_w0 : w15.cell? ⟨gw, 0, none⟩ = some (.slice P1 s.states.length P1c) := blk_cell X_w 0
  have c_w1 : w15.cell? ⟨gw, 1, none⟩ = some (.slice P2 s.queue.length P2c) := blk_cell X_w 1
  have c_w2 : w15.cell? ⟨gw, 2, none⟩ = some (.slice P3 s.outs.length P3c) := blk_cell X_w 2
  have c_g0 : w15.cell? ⟨gg, 0, none⟩ = some (.slice G1 s.states.length G1c) := blk_cell X_g 0
  have c_g1 : w15.cell? ⟨gg, 1, none⟩ = some (.slice G2 s.queue.length G2c) := blk_cell X_g 1
  have c_g2 : w15.cell? ⟨gg, 2, none⟩ = some (.slice G3 s.outs.length G3c) := blk_cell X_g 2
  apply_assumption
  go_upto_region 25 with fail
  clear c_w0 c_w1 c_w2 c_g0 c_g1 c_g2
  have hbx := balloc (Below.refl w15.heap.size w15) (.cells #[.slice K1 s.states.length K1c, .slice K2 s.queue.length K2c, .slice K3 s.outs.length K3c] 28)
  have X_h : (w15.alloc (.cells #[.slice K1 s.states.length K1c, .slice K2 s.queue.length K2c, .slice K3 s.outs.length K3c] 28)).heap[w15.heap.size]? = some (.cells #[.slice K1 s.states.length K1c, .slice K2 s.queue.length K2c, .slice K3 s.outs.length K3c] 28 (0, 0)) := heap_at rfl
  replace HB := bthen HB hbx HB.size
  replace X_w := below_heap hbx (blk_lt X_w) X_w
  replace X_g := below_heap hbx (blk_lt X_g) X_g
  replace n_w := n_w.below hbx
  replace n_g := n_g.below hbx
  replace n_h := n_h.below hbx
  replace hA := hA.below hbx
  obtain ⟨gh, hg⟩ : ∃ g, g = w15.heap.size := ⟨_, rfl⟩
  rw [← hg] at X_h
  simp only [← hg]
  have Hgh := hid (show gh ≤ w15.heap.size ∧ w15.heap.size ≤ gh by omega)
  generalize w15.alloc (.cells #[.slice K1 s.states.length K1c, .slice K2 s.queue.length K2c, .slice K3 s.outs.length K3c] 28) = W15 at *
  clear hg hbx
  have c_w0 : W15.cell? ⟨gw, 0, none⟩ = some (.slice P1 s.states.length P1c) := blk_cell X_w 0
  have c_w1 : W15.cell? ⟨gw, 1, none⟩ = some (.slice P2 s.queue.length P2c) := blk_cell X_w 1
  have c_w2 : W15.cell? ⟨gw, 2, none⟩ = some (.slice P3 s.outs.length P3c) := blk_cell X_w 2
  have c_g0 : W15.cell? ⟨gg, 0, none⟩ = some (.slice G1 s.states.length G1c) := blk_cell X_g 0
  have c_g1 : W15.cell? ⟨gg, 1, none⟩ = some (.slice G2 s.queue.length G2c) := blk_cell X_g 1
  have c_g2 : W15.cell? ⟨gg, 2, none⟩ = some (.slice G3 s.outs.length G3c) := blk_cell X_g 2
  have c_h0 : W15.cell? ⟨gh, 0, none⟩ = some (.slice K1 s.states.length K1c) := blk_cell X_h 0
  have c_h1 : W15.cell? ⟨gh, 1, none⟩ = some (.slice K2 s.queue.length K2c) := blk_cell X_h 1
  have c_h2 : W15.cell? ⟨gh, 2, none⟩ = some (.slice K3 s.outs.length K3c) := blk_cell X_h 2
  go_wp2_with fail
  refine (eqSimX s _ _ _ _ _ _ _ _ _ n_h.rd n_w.rd).mono ?_
  rintro q w16 ⟨rfl, hb16⟩
  clear c_w0 c_w1 c_w2 c_g0 c_g1 c_g2 c_h0 c_h1 c_h2
  replace HB := bthen HB hb16 HB.size
  replace X_w := below_heap hb16 (blk_lt X_w) X_w
  replace X_g := below_heap hb16 (blk_lt X_g) X_g
  replace X_h := below_heap hb16 (blk_lt X_h) X_h
  replace n_w := n_w.below hb16
  replace n_g := n_g.below hb16
  replace n_h := n_h.below hb16
  replace hA := hA.below hb16
  clear hb16
  have c_w0 : w16.cell? ⟨gw, 0, none⟩ = some (.slice P1 s.states.length P1c) := blk_cell X_w 0
  have c_w1 : w16.cell? ⟨gw, 1, none⟩ = some (.slice P2 s.queue.length P2c) := blk_cell X_w 1
  have c_w2 : w16.cell? ⟨gw, 2, none⟩ = some (.slice P3 s.outs.length P3c) := blk_cell X_w 2
  have c_g0 : w16.cell? ⟨gg, 0, none⟩ = some (.slice G1 s.states.length G1c) := blk_cell X_g 0
  have c_g1 : w16.cell? ⟨gg, 1, none⟩ = some (.slice G2 s.queue.length G2c) := blk_cell X_g 1
  have c_g2 : w16.cell? ⟨gg, 2, none⟩ = some (.slice G3 s.outs.length G3c) := blk_cell X_g 2
  have c_h0 : w16.cell? ⟨gh, 0, none⟩ = some (.slice K1 s.states.length K1c) := blk_cell X_h 0
  have c_h1 : w16.cell? ⟨gh, 1, none⟩ = some (.slice K2 s.queue.length K2c) := blk_cell X_h 1
  have c_h2 : w16.cell? ⟨gh, 2, none⟩ = some (.slice K3 s.outs.length K3c) := blk_cell X_h 2
  apply_assumption
  go_wp2_with fail
  refine (heldSim_c _ _ _ 1 s.states.length s.queue.length s.outs.length _ _ n_g.rd (by decide) (by decide) (by have := hle.out; omega) (by have := hle.out; omega) (by have := hle.out; omega)).mono ?_
  rintro q w17 ⟨rfl, hb17⟩
  clear c_w0 c_w1 c_w2 c_g0 c_g1 c_g2 c_h0 c_h1 c_h2
  replace HB := bthen HB hb17 HB.size
  replace X_w := below_heap hb17 (blk_lt X_w) X_w
  replace X_g := below_heap hb17 (blk_lt X_g) X_g
  replace X_h := below_heap hb17 (blk_lt X_h) X_h
  replace n_w := n_w.below hb17
  replace n_g := n_g.below hb17
  replace n_h := n_h.below hb17
  replace hA := hA.below hb17
  rw [Hm2.out]
  clear hb17
  have c_w0 : w17.cell? ⟨gw, 0, none⟩ = some (.slice P1 s.states.length P1c) := blk_cell X_w 0
  have c_w1 : w17.cell? ⟨gw, 1, none⟩ = some (.slice P2 s.queue.length P2c) := blk_cell X_w 1
  have c_w2 : w17.cell? ⟨gw, 2, none⟩ = some (.slice P3 s.outs.length P3c) := blk_cell X_w 2
  have c_g0 : w17.cell? ⟨gg, 0, none⟩ = some (.slice G1 s.states.length G1c) := blk_cell X_g 0
  have c_g1 : w17.cell? ⟨gg, 1, none⟩ = some (.slice G2 s.queue.length G2c) := blk_cell X_g 1
  have c_g2 : w17.cell? ⟨gg, 2, none⟩ = some (.slice G3 s.outs.length G3c) := blk_cell X_g 2
  have c_h0 : w17.cell? ⟨gh, 0, none⟩ = some (.slice K1 s.states.length K1c) := blk_cell X_h 0
  have c_h1 : w17.cell? ⟨gh, 1, none⟩ = some (.slice K2 s.queue.length K2c) := blk_cell X_h 1
  have c_h2 : w17.cell? ⟨gh, 2, none⟩ = some (.slice K3 s.outs.length K3c) := blk_cell X_h 2
  apply_assumption
  go_wp2_with fail
  go_ret
  exact ⟨rfl, HB⟩
end Go.Proofs.YtbcemldiahghcaaGreat

namespace Go.Proofs.YtbcemldiahghcaaGreat
set_option linter.unusedVariables false
set_option linter.unusedSimpArgs false
open Go.ChangeShapes Go.WideShapes Go.ChangeAt Go.RowKit
theorem own_k : ownKnob Tryz.prog.godebug = none := by kernel_rfl
theorem laidOut_k : laidOutB Tryz.prog = true := by kernel_rfl
theorem cells_u8 : Tryz.prog.cellsOf 5 = 1 := by kernel_rfl
end Go.Proofs.YtbcemldiahghcaaGreat

namespace Go.Proofs.YtbcemldiahghcaaGreat
set_option linter.unusedVariables false
set_option linter.unusedSimpArgs false
set_option maxRecDepth 100000
open Go.ChangeShapes Go.WideShapes Go.ChangeAt Go.RowKit
theorem cells_int : Tryz.prog.cellsOf 3 = 1 := by kernel_rfl
theorem pick_all {α : Type} {n : Nat} {p : Nat → α → Prop} (h : ∀ i, i < n → ∃ x, p i x) : ∃ xs : List α, xs.length = n ∧ ∀ j x, xs[j]? = some x → p j x := by
  induction n with
  | zero => exact ⟨[], rfl, fun j x hj => by simp at hj⟩
  | succ n ih =>
    obtain ⟨xs, hl, hx⟩ := ih (fun i hi => h i (Nat.lt_succ_of_lt hi))
    obtain ⟨y, hy⟩ := h n (Nat.lt_succ_self n)
    refine ⟨xs ++ [y], by simp [hl], fun j x hj => ?_⟩
    by_cases hjn : j < n
    · rw [List.getElem?_append_left (by omega)] at hj; exact hx j x hj
    · have hlt := (List.getElem?_eq_some_iff.1 hj).1
      simp [hl] at hlt
      have : j = n := by omega
      subst this
      rw [List.getElem?_append_right (by omega), hl, Nat.sub_self] at hj
      have : y = x := by simpa using hj
      rw [← this]; exact hy
/-- A row that came in. -/
theorem open_rows {H : Type} {enc : TypeId × Value → H} {W : World} {α : Type} (d : Ty α) {t e : TypeId} {fuel : Nat} {cs : List Value} {x : DataW H × List MemPlace} (ht : Tryz.prog.underlying t = some (.slice e)) (hc : Tryz.prog.cellsOf e = d.sz) (hs : 0 < d.sz)
    (hel : ∀ fuel cs x, DataW.trod enc Tryz.prog W 0 (fun _ => true) true fuel e cs = some x → ∃ y, d.rel W (fun k => k < W.heap.size) y cs)
    (h : DataW.trod enc Tryz.prog W 0 (fun _ => true) true fuel t cs = some x) : ∃ (A : Option Addr) (c : Nat) (xs : List α), cs = [.slice A xs.length c] ∧ Rd d W (fun k => k < W.heap.size) (.slice A xs.length c) xs := by
  rcases Go.Deep.open_slice ht h with ⟨rfl, -⟩ | ⟨a, len, cap, m, n, D, Pl, rfl, -, hl, hcap, hm, -, hi⟩
  · exact ⟨none, 0, [], rfl, Rd.nil _ _ _⟩
  · simp only [if_true] at hm
    subst hm
    rw [hc] at hi
    obtain ⟨xs, hxl, hx⟩ := pick_all (n := len) (p := fun i y => ∃ cs', W.cells? 0 (a.add (i * d.sz)) d.sz = some cs' ∧ d.rel W (fun k => k < W.heap.size) y cs') (fun i hlt => by
      obtain ⟨cs', h1, h2⟩ := hi i (by omega)
      obtain ⟨y, hy⟩ := hel _ _ _ h2
      exact ⟨y, cs', h1, hy⟩)
    subst hxl
    refine ⟨some a, m, xs, rfl, _, m, rfl, hl, by simp only [maxLen] at hcap; omega, fun hp => ?_⟩
    obtain ⟨cs0, hc0, -⟩ := hx 0 xs[0] (List.getElem?_eq_getElem hp)
    obtain ⟨-, hl0, hg0⟩ := World.cells?_some hc0
    have g0 := hg0 0 hs
    obtain ⟨u0, hu0⟩ : ∃ u, cs0[0]? = some u := ⟨cs0[0]'(by omega), List.getElem?_eq_getElem _⟩
    rw [hu0] at g0
    obtain ⟨b, o, sp⟩ := a
    have hsp : sp = none := by
      cases sp with
      | none => rfl
      | some s =>
        exfalso
        unfold World.cell? Addr.add at g0
        revert g0
        split <;> simp_all
    subst hsp
    have hlt : b < W.heap.size := by have := World.block_lt_of_cell? _ _ g0; simpa [block_add] using this
    refine ⟨b, o, rfl, hlt, hlt, fun j y hj => ?_⟩
    obtain ⟨cs', hcs, hr⟩ := hx j y hj
    refine ⟨cs', hr, fun i u hi' => ?_⟩
    obtain ⟨-, hl', hg⟩ := World.cells?_some hcs
    have hil := (List.getElem?_eq_some_iff.1 hi').1
    have := hg i (by omega)
    rw [hi'] at this
    have ha : (((⟨b, o, none⟩ : Addr).add (j * d.sz)).add i) = ⟨b, o + j * d.sz + i, none⟩ := by
      rw [Go.Deep.add_add]
      unfold Addr.add
      split
      · rename_i h0; simp only [Addr.mk.injEq, true_and, and_true]; omega
      · simp [Nat.add_assoc]
    rw [ha] at this
    exact this
theorem open_op {H : Type} {enc : TypeId × Value → H} {W : World} (fuel : Nat) (cs : List Value) (x : DataW H × List MemPlace) (h : DataW.trod enc Tryz.prog W 0 (fun _ => true) true fuel 226 cs = some x) : ∃ y : OpD, cs = OpD.cells y := by
  obtain ⟨ys, n, -, -, hl, hlen, hf⟩ := DataW.trod_struct Tryz.underlying226 h
  have hc : Tryz.prog.cellsOf 226 = 5 := by kernel_rfl
  rw [hc] at hl
  match cs, hl, ys, hlen, hf with
  | [c0, c1, c2, c3, c4], _, [y0, y1, y2, y3, y4], _, hf =>
    have h0 : DataW.trod enc Tryz.prog W 0 (fun _ => true) true n 3 ([c0, c1, c2, c3, c4].drop 0 |>.take (Tryz.prog.cellsOf 3)) = some y0 := hf 0 _ rfl
    rw [cells_int] at h0
    obtain ⟨n0, q0, -⟩ := DataW.trod_int Tryz.underlying3 h0
    have e0 : c0 = .int .i64 n0 := by simpa using q0
    clear q0
    have h1 : DataW.trod enc Tryz.prog W 0 (fun _ => true) true n 3 ([c0, c1, c2, c3, c4].drop 1 |>.take (Tryz.prog.cellsOf 3)) = some y1 := hf 1 _ rfl
    rw [cells_int] at h1
    obtain ⟨n1, q1, -⟩ := DataW.trod_int Tryz.underlying3 h1
    have e1 : c1 = .int .i64 n1 := by simpa using q1
    clear q1
    have h2 : DataW.trod enc Tryz.prog W 0 (fun _ => true) true n 3 ([c0, c1, c2, c3, c4].drop 2 |>.take (Tryz.prog.cellsOf 3)) = some y2 := hf 2 _ rfl
    rw [cells_int] at h2
    obtain ⟨n2, q2, -⟩ := DataW.trod_int Tryz.underlying3 h2
    have e2 : c2 = .int .i64 n2 := by simpa using q2
    clear q2
    have h3 : DataW.trod enc Tryz.prog W 0 (fun _ => true) true n 3 ([c0, c1, c2, c3, c4].drop 3 |>.take (Tryz.prog.cellsOf 3)) = some y3 := hf 3 _ rfl
    rw [cells_int] at h3
    obtain ⟨n3, q3, -⟩ := DataW.trod_int Tryz.underlying3 h3
    have e3 : c3 = .int .i64 n3 := by simpa using q3
    clear q3
    have h4 : DataW.trod enc Tryz.prog W 0 (fun _ => true) true n 3 ([c0, c1, c2, c3, c4].drop 4 |>.take (Tryz.prog.cellsOf 3)) = some y4 := hf 4 _ rfl
    rw [cells_int] at h4
    obtain ⟨n4, q4, -⟩ := DataW.trod_int Tryz.underlying3 h4
    have e4 : c4 = .int .i64 n4 := by simpa using q4
    clear q4
    subst e0 e1 e2 e3 e4
    exact ⟨⟨n0, n1, n2, n3, n4⟩, rfl⟩
theorem open_state {H : Type} {enc : TypeId × Value → H} {W : World} (fuel : Nat) (cs : List Value) (x : DataW H × List MemPlace) (h : DataW.trod enc Tryz.prog W 0 (fun _ => true) true fuel 41 cs = some x) : ∃ y : StD, cs = StD.cells y := by
  obtain ⟨ys, n, -, -, hl, hlen, hf⟩ := DataW.trod_struct Tryz.underlying41 h
  have hc : Tryz.prog.cellsOf 41 = 3 := by kernel_rfl
  rw [hc] at hl
  match cs, hl, ys, hlen, hf with
  | [c0, c1, c2], _, [y0, y1, y2], _, hf =>
    have h0 : DataW.trod enc Tryz.prog W 0 (fun _ => true) true n 3 ([c0, c1, c2].drop 0 |>.take (Tryz.prog.cellsOf 3)) = some y0 := hf 0 _ rfl
    rw [cells_int] at h0
    obtain ⟨n0, q0, -⟩ := DataW.trod_int Tryz.underlying3 h0
    have e0 : c0 = .int .i64 n0 := by simpa using q0
    clear q0
    have h1 : DataW.trod enc Tryz.prog W 0 (fun _ => true) true n 3 ([c0, c1, c2].drop 1 |>.take (Tryz.prog.cellsOf 3)) = some y1 := hf 1 _ rfl
    rw [cells_int] at h1
    obtain ⟨n1, q1, -⟩ := DataW.trod_int Tryz.underlying3 h1
    have e1 : c1 = .int .i64 n1 := by simpa using q1
    clear q1
    have h2 : DataW.trod enc Tryz.prog W 0 (fun _ => true) true n 3 ([c0, c1, c2].drop 2 |>.take (Tryz.prog.cellsOf 3)) = some y2 := hf 2 _ rfl
    rw [cells_int] at h2
    obtain ⟨n2, q2, -⟩ := DataW.trod_int Tryz.underlying3 h2
    have e2 : c2 = .int .i64 n2 := by simpa using q2
    clear q2
    subst e0 e1 e2
    exact ⟨⟨n0, n1, n2⟩, rfl⟩
theorem open_event {H : Type} {enc : TypeId × Value → H} {W : World} (fuel : Nat) (cs : List Value) (x : DataW H × List MemPlace) (h : DataW.trod enc Tryz.prog W 0 (fun _ => true) true fuel 103 cs = some x) : ∃ y : EvD, cs = EvD.cells y := by
  obtain ⟨ys, n, -, -, hl, hlen, hf⟩ := DataW.trod_struct Tryz.underlying103 h
  have hc : Tryz.prog.cellsOf 103 = 7 := by kernel_rfl
  rw [hc] at hl
  match cs, hl, ys, hlen, hf with
  | [c0, c1, c2, c3, c4, c5, c6], _, [y0, y1, y2, y3, y4, y5, y6], _, hf =>
    have h0 : DataW.trod enc Tryz.prog W 0 (fun _ => true) true n 3 ([c0, c1, c2, c3, c4, c5, c6].drop 0 |>.take (Tryz.prog.cellsOf 3)) = some y0 := hf 0 _ rfl
    rw [cells_int] at h0
    obtain ⟨n0, q0, -⟩ := DataW.trod_int Tryz.underlying3 h0
    have e0 : c0 = .int .i64 n0 := by simpa using q0
    clear q0
    have h1 : DataW.trod enc Tryz.prog W 0 (fun _ => true) true n 3 ([c0, c1, c2, c3, c4, c5, c6].drop 1 |>.take (Tryz.prog.cellsOf 3)) = some y1 := hf 1 _ rfl
    rw [cells_int] at h1
    obtain ⟨n1, q1, -⟩ := DataW.trod_int Tryz.underlying3 h1
    have e1 : c1 = .int .i64 n1 := by simpa using q1
    clear q1
    have h2 : DataW.trod enc Tryz.prog W 0 (fun _ => true) true n 3 ([c0, c1, c2, c3, c4, c5, c6].drop 2 |>.take (Tryz.prog.cellsOf 3)) = some y2 := hf 2 _ rfl
    rw [cells_int] at h2
    obtain ⟨n2, q2, -⟩ := DataW.trod_int Tryz.underlying3 h2
    have e2 : c2 = .int .i64 n2 := by simpa using q2
    clear q2
    have h3 : DataW.trod enc Tryz.prog W 0 (fun _ => true) true n 3 ([c0, c1, c2, c3, c4, c5, c6].drop 3 |>.take (Tryz.prog.cellsOf 3)) = some y3 := hf 3 _ rfl
    rw [cells_int] at h3
    obtain ⟨n3, q3, -⟩ := DataW.trod_int Tryz.underlying3 h3
    have e3 : c3 = .int .i64 n3 := by simpa using q3
    clear q3
    have h4 : DataW.trod enc Tryz.prog W 0 (fun _ => true) true n 3 ([c0, c1, c2, c3, c4, c5, c6].drop 4 |>.take (Tryz.prog.cellsOf 3)) = some y4 := hf 4 _ rfl
    rw [cells_int] at h4
    obtain ⟨n4, q4, -⟩ := DataW.trod_int Tryz.underlying3 h4
    have e4 : c4 = .int .i64 n4 := by simpa using q4
    clear q4
    have h5 : DataW.trod enc Tryz.prog W 0 (fun _ => true) true n 3 ([c0, c1, c2, c3, c4, c5, c6].drop 5 |>.take (Tryz.prog.cellsOf 3)) = some y5 := hf 5 _ rfl
    rw [cells_int] at h5
    obtain ⟨n5, q5, -⟩ := DataW.trod_int Tryz.underlying3 h5
    have e5 : c5 = .int .i64 n5 := by simpa using q5
    clear q5
    have h6 : DataW.trod enc Tryz.prog W 0 (fun _ => true) true n 3 ([c0, c1, c2, c3, c4, c5, c6].drop 6 |>.take (Tryz.prog.cellsOf 3)) = some y6 := hf 6 _ rfl
    rw [cells_int] at h6
    obtain ⟨n6, q6, -⟩ := DataW.trod_int Tryz.underlying3 h6
    have e6 : c6 = .int .i64 n6 := by simpa using q6
    clear q6
    subst e0 e1 e2 e3 e4 e5 e6
    exact ⟨⟨n0, n1, n2, n3, n4, n5, n6⟩, rfl⟩
theorem open_rule {H : Type} {enc : TypeId × Value → H} {W : World} (fuel : Nat) (cs : List Value) (x : DataW H × List MemPlace) (h : DataW.trod enc Tryz.prog W 0 (fun _ => true) true fuel 134 cs = some x) : ∃ y : RuleD, tRule.rel W (fun k => k < W.heap.size) y cs := by
  obtain ⟨ys, n, -, -, hl, hlen, hf⟩ := DataW.trod_struct Tryz.underlying134 h
  have hc : Tryz.prog.cellsOf 134 = 2 := by kernel_rfl
  rw [hc] at hl
  match cs, hl, ys, hlen, hf with
  | [c0, c1], _, [y0, y1], _, hf =>
    have h0 : DataW.trod enc Tryz.prog W 0 (fun _ => true) true n 3 ([c0, c1].drop 0 |>.take (Tryz.prog.cellsOf 3)) = some y0 := hf 0 _ rfl
    rw [cells_int] at h0
    obtain ⟨n0, e0, -⟩ := DataW.trod_int Tryz.underlying3 h0
    have e0 : c0 = .int .i64 n0 := by simpa using e0
    subst e0
    have h1 : DataW.trod enc Tryz.prog W 0 (fun _ => true) true n 132 ([.int .i64 n0, c1].drop 1 |>.take (Tryz.prog.cellsOf 132)) = some y1 := hf 1 _ rfl
    obtain ⟨A, c, xs, he, hr⟩ := open_rows tOp Tryz.underlying132 (by kernel_rfl) (by decide) (fun f cs x h => by obtain ⟨y, hy⟩ := open_op f cs x h; exact ⟨y, hy⟩) h1
    have hs1 : Tryz.prog.cellsOf 132 = 1 := by kernel_rfl
    rw [hs1] at he
    have he : c1 = .slice A xs.length c := by simpa using he
    subst he
    exact ⟨⟨n0, xs⟩, _, rfl, hr⟩
theorem open_app {H : Type} {enc : TypeId × Value → H} {W : World} (fuel : Nat) (cs : List Value) (x : DataW H × List MemPlace) (h : DataW.trod enc Tryz.prog W 0 (fun _ => true) true fuel 39 cs = some x) : ∃ y : AppD, tApp.rel W (fun k => k < W.heap.size) y cs := by
  obtain ⟨ys, n, -, -, hl, hlen, hf⟩ := DataW.trod_struct Tryz.underlying39 h
  have hc : Tryz.prog.cellsOf 39 = 1 := by kernel_rfl
  rw [hc] at hl
  match cs, hl, ys, hlen, hf with
  | [c0], _, [y0], _, hf =>
    have h0 : DataW.trod enc Tryz.prog W 0 (fun _ => true) true n 37 ([c0].drop 0 |>.take (Tryz.prog.cellsOf 37)) = some y0 := hf 0 _ rfl
    obtain ⟨A, c, xs, he, hr⟩ := open_rows tRule Tryz.underlying37 (by kernel_rfl) (by decide) (fun f cs x h => open_rule f cs x h) h0
    have hs1 : Tryz.prog.cellsOf 37 = 1 := by kernel_rfl
    rw [hs1] at he
    have he : c0 = .slice A xs.length c := by simpa using he
    subst he
    exact ⟨⟨xs⟩, _, rfl, hr⟩
end Go.Proofs.YtbcemldiahghcaaGreat
