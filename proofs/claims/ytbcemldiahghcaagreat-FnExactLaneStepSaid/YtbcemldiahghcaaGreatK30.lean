/- Texts joined: Ezf. -/
import Derived.Test.YtbcemldiahghcaaGreatK29
import Derived.Test.YtbcemldiahghcaaGreatK26
namespace Go.Proofs.YtbcemldiahghcaaGreat
set_option linter.unusedVariables false
set_option linter.unusedSimpArgs false
set_option maxRecDepth 100000
open Go.RowKit
def zcN (y : PastD) : List HeldD :=
  [(6, [], fun _ v w F => Ow tEv 80 w F v []),
   (9, [], fun _ v w F => Ow tEv 80 w F v y.sends),
   (10, [], fun _ v w F => Ow tOut 128 w F v []),
   (13, [], fun _ v w F => Ow tOut 128 w F v y.outs)]
theorem zcN_moves (y : PastD) : MovesDL (zcN y) :=
  ⟨fun ds v w w' F h hm => Ow.move hm h, fun ds v w w' F h hm => Ow.move hm h, fun ds v w w' F h hm => Ow.move hm h, fun ds v w w' F h hm => Ow.move hm h, trivial⟩
def zcP (y : PastD) : List Known := []
set_option maxHeartbeats 1000000 in
theorem l21Copy_c (l : LaneD) (v : Value) (F : Nat → Prop) (w : World) (h : Rd tPast w F v l.done) (hn : l.done.length ≤ 1000) (hops : ∀ r ∈ l.done, r.sends.length ≤ 1000 ∧ r.outs.length ≤ 1000) :
    Calls Tryz.prog 51 #[.agg #[.int .i64 l.proc, .int .i64 l.base.x, .int .i64 l.base.y, .int .i64 l.base.c, v], .int .i64 0, .int .i64 (l.done.length : Nat)] w fun q w' => ∃ u, q = .returned (.agg #[.int .i64 l.proc, .int .i64 l.base.x, .int .i64 l.base.y, .int .i64 l.base.c, u]) ∧ Ow oPast 98 w' (fun k => w.heap.size ≤ k) u l.done ∧ Below w.heap.size w w' := by
  obtain ⟨A, c, rfl, -⟩ := h.shape
  go_enter Tryz.func51, Tryz.ntmps51
  go_upto_region 2 with fail
  have HB : Below w.heap.size w (((w.alloc (.cells #[.int .i64 l.proc, .int .i64 l.base.x, .int .i64 l.base.y, .int .i64 l.base.c, .slice A l.done.length c] 52)).alloc (.cells #[.int .i64 0, .int .i64 0, .int .i64 0, .int .i64 0, .slice none 0 0] 52)).alloc (.cells #[.int .i64 l.proc, .int .i64 l.base.x, .int .i64 l.base.y, .int .i64 l.base.c, .slice none 0 0] 52)) := balloc (balloc (balloc (Below.refl _ _) _) _) _
  have X_l : (((w.alloc (.cells #[.int .i64 l.proc, .int .i64 l.base.x, .int .i64 l.base.y, .int .i64 l.base.c, .slice A l.done.length c] 52)).alloc (.cells #[.int .i64 0, .int .i64 0, .int .i64 0, .int .i64 0, .slice none 0 0] 52)).alloc (.cells #[.int .i64 l.proc, .int .i64 l.base.x, .int .i64 l.base.y, .int .i64 l.base.c, .slice none 0 0] 52)).heap[w.heap.size]? = some (.cells #[.int .i64 l.proc, .int .i64 l.base.x, .int .i64 l.base.y, .int .i64 l.base.c, .slice A l.done.length c] 52 (0, 0)) := (heap_old (by simp only [World.size_alloc]; omega)).trans ((heap_old (by simp)).trans (heap_at rfl))
  have X_z : (((w.alloc (.cells #[.int .i64 l.proc, .int .i64 l.base.x, .int .i64 l.base.y, .int .i64 l.base.c, .slice A l.done.length c] 52)).alloc (.cells #[.int .i64 0, .int .i64 0, .int .i64 0, .int .i64 0, .slice none 0 0] 52)).alloc (.cells #[.int .i64 l.proc, .int .i64 l.base.x, .int .i64 l.base.y, .int .i64 l.base.c, .slice none 0 0] 52)).heap[w.heap.size + 1]? = some (.cells #[.int .i64 0, .int .i64 0, .int .i64 0, .int .i64 0, .slice none 0 0] 52 (0, 0)) := (heap_old (by simp)).trans (heap_at (by simp))
  have X_o : (((w.alloc (.cells #[.int .i64 l.proc, .int .i64 l.base.x, .int .i64 l.base.y, .int .i64 l.base.c, .slice A l.done.length c] 52)).alloc (.cells #[.int .i64 0, .int .i64 0, .int .i64 0, .int .i64 0, .slice none 0 0] 52)).alloc (.cells #[.int .i64 l.proc, .int .i64 l.base.x, .int .i64 l.base.y, .int .i64 l.base.c, .slice none 0 0] 52)).heap[w.heap.size + 1 + 1]? = some (.cells #[.int .i64 l.proc, .int .i64 l.base.x, .int .i64 l.base.y, .int .i64 l.base.c, .slice none 0 0] 52 (0, 0)) := heap_at (by simp)
  generalize ((w.alloc (.cells #[.int .i64 l.proc, .int .i64 l.base.x, .int .i64 l.base.y, .int .i64 l.base.c, .slice A l.done.length c] 52)).alloc (.cells #[.int .i64 0, .int .i64 0, .int .i64 0, .int .i64 0, .slice none 0 0] 52)).alloc (.cells #[.int .i64 l.proc, .int .i64 l.base.x, .int .i64 l.base.y, .int .i64 l.base.c, .slice none 0 0] 52) = W0 at *
  go_wp2_with fail
  go_loopw [8] (fun i wr => ∃ (k : Nat) (v : Value), i = .int .i64 k ∧ k ≤ l.done.length ∧ Ow oPast 98 wr (fun q => w.heap.size + 1 + 1 < q) v (l.done.take k) ∧ wr.heap[w.heap.size]? = some (.cells #[.int .i64 l.proc, .int .i64 l.base.x, .int .i64 l.base.y, .int .i64 l.base.c, .slice A l.done.length c] 52 (0, 0)) ∧ wr.heap[w.heap.size + 1]? = some (.cells #[.int .i64 0, .int .i64 0, .int .i64 0, .int .i64 0, .slice none 0 0] 52 (0, 0)) ∧ wr.heap[w.heap.size + 1 + 1]? = some (.cells #[.int .i64 l.proc, .int .i64 l.base.x, .int .i64 l.base.y, .int .i64 l.base.c, v] 52 (0, 0)) ∧ Below w.heap.size w wr) (fun i _ => l.done.length - (intOf i).toNat)
  case atStart => exact ⟨0, .slice none 0 0, rfl, Nat.zero_le _, Ow.nil _ _ _ _, X_l, X_z, X_o, HB⟩
  case round =>
    clear X_l X_z X_o HB
    obtain ⟨k, v, rfl, hk, hO, Xl, Xz, Xo, hb⟩ := hrel
    obtain ⟨ys, hys⟩ : ∃ ys, l.done.take k = ys := ⟨_, rfl⟩
    rw [hys] at hO
    have HYS := hid hys
    have hyl := hid (show ys.length ≤ l.done.length by rw [← hys]; simp; omega)
    clear hys
    obtain ⟨V, vc, rfl, -⟩ := hO.shape
    have al4 : wr.cell? ⟨w.heap.size, 4, none⟩ = some (.slice A l.done.length c) := blk_cell Xl 4
    by_cases hlt : k < l.done.length
    · obtain ⟨b0, o0, A1, c1, A2, c2, rfl, hb0, ⟨y0, y1, y2, y3, y4, y5, y6⟩, ⟨y7, y8, y9⟩, y10, y11, r1, r2⟩ := past_at (h.below hb) k hlt
      have p0 : (k : Int) < (l.done.length : Int) := by omega
      have l1 := (hops _ (List.getElem_mem hlt)).1
      have l2 := (hops _ (List.getElem_mem hlt)).2
      have htk := hid (List.take_succ_eq_append_getElem hlt)
      obtain ⟨y, hy⟩ : ∃ y, l.done[k] = y := ⟨_, rfl⟩
      rw [hy] at y0 y1 y2 y3 y4 y5 y6 y7 y8 y9 y10 y11 r1 r2 l1 l2 htk
      clear hy
      go_upto_region 6 with fail
      have hbx := balloc (Below.refl wr.heap.size wr) (.cells #[.int .i64 y.ev.time, .int .i64 y.ev.to, .int .i64 y.ev.from_, .int .i64 y.ev.count, .int .i64 y.ev.n, .int .i64 y.ev.kind, .int .i64 y.ev.arg, .int .i64 y.st.x, .int .i64 y.st.y, .int .i64 y.st.c, .slice A1 y.sends.length c1, .slice A2 y.outs.length c2] 98)
      have Y : (wr.alloc (.cells #[.int .i64 y.ev.time, .int .i64 y.ev.to, .int .i64 y.ev.from_, .int .i64 y.ev.count, .int .i64 y.ev.n, .int .i64 y.ev.kind, .int .i64 y.ev.arg, .int .i64 y.st.x, .int .i64 y.st.y, .int .i64 y.st.c, .slice A1 y.sends.length c1, .slice A2 y.outs.length c2] 98)).heap[wr.heap.size]? = some (.cells #[.int .i64 y.ev.time, .int .i64 y.ev.to, .int .i64 y.ev.from_, .int .i64 y.ev.count, .int .i64 y.ev.n, .int .i64 y.ev.kind, .int .i64 y.ev.arg, .int .i64 y.st.x, .int .i64 y.st.y, .int .i64 y.st.c, .slice A1 y.sends.length c1, .slice A2 y.outs.length c2] 98 (0, 0)) := heap_at rfl
      have Xl2 := (below_heap hbx (blk_lt Xl) Xl)
      have Xz2 := below_heap hbx (blk_lt Xz) Xz
      have Xo2 := below_heap hbx (blk_lt Xo) Xo
      have hO2 := hO.bound.below hbx
      have hS1 := hid (r1.below hbx)
      have hS2 := hid (r2.below hbx)
      have hb2 := bthen hb hbx hb.size
      have hSo := hid (blk_lt Xo)
      obtain ⟨g, hg⟩ : ∃ g, g = wr.heap.size := ⟨_, rfl⟩
      have HG := hid (show g ≤ wr.heap.size ∧ wr.heap.size ≤ g by omega)
      have HGW := hid (show g < (wr.alloc (.cells #[.int .i64 y.ev.time, .int .i64 y.ev.to, .int .i64 y.ev.from_, .int .i64 y.ev.count, .int .i64 y.ev.n, .int .i64 y.ev.kind, .int .i64 y.ev.arg, .int .i64 y.st.x, .int .i64 y.st.y, .int .i64 y.st.c, .slice A1 y.sends.length c1, .slice A2 y.outs.length c2] 98)).heap.size by rw [World.size_alloc]; omega)
      rw [← hg] at Y
      simp only [← hg]
      generalize wr.alloc (.cells #[.int .i64 y.ev.time, .int .i64 y.ev.to, .int .i64 y.ev.from_, .int .i64 y.ev.count, .int .i64 y.ev.n, .int .i64 y.ev.kind, .int .i64 y.ev.arg, .int .i64 y.st.x, .int .i64 y.st.y, .int .i64 y.st.c, .slice A1 y.sends.length c1, .slice A2 y.outs.length c2] 98) = W at *
      clear hg y0 y1 y2 y3 y4 y5 y6 y7 y8 y9 y10 y11 r1 r2 hbx al4 Xl Xz Xo hO
      have y0 : W.cell? ⟨g, 0, none⟩ = some (.int .i64 y.ev.time) := blk_cell Y 0
      have y1 : W.cell? ⟨g, 1, none⟩ = some (.int .i64 y.ev.to) := blk_cell Y 1
      have y2 : W.cell? ⟨g, 2, none⟩ = some (.int .i64 y.ev.from_) := blk_cell Y 2
      have y3 : W.cell? ⟨g, 3, none⟩ = some (.int .i64 y.ev.count) := blk_cell Y 3
      have y4 : W.cell? ⟨g, 4, none⟩ = some (.int .i64 y.ev.n) := blk_cell Y 4
      have y5 : W.cell? ⟨g, 5, none⟩ = some (.int .i64 y.ev.kind) := blk_cell Y 5
      have y6 : W.cell? ⟨g, 6, none⟩ = some (.int .i64 y.ev.arg) := blk_cell Y 6
      have y7 : W.cell? ⟨g, 7, none⟩ = some (.int .i64 y.st.x) := blk_cell Y 7
      have y8 : W.cell? ⟨g, 8, none⟩ = some (.int .i64 y.st.y) := blk_cell Y 8
      have y9 : W.cell? ⟨g, 9, none⟩ = some (.int .i64 y.st.c) := blk_cell Y 9
      have y10 : W.cell? ⟨g, 10, none⟩ = some (.slice A1 y.sends.length c1) := blk_cell Y 10
      have y11 : W.cell? ⟨g, 11, none⟩ = some (.slice A2 y.outs.length c2) := blk_cell Y 11
      have o4 : W.cell? ⟨w.heap.size + 1 + 1, 4, none⟩ = some (.slice V ys.length vc) := blk_cell Xo2 4
      refine region_sg [.rd [0, 1, 2, 3, 4, 5, 7, 8, 11, 12], .par [(6, []), (9, [6]), (10, []), (13, [10])] [], .mid 14, .mid 15] [16, 17, 18] (by kernel_rfl) (by kernel_rfl) (fun _ _ d _ _ h => by cases d <;> exact h) ?_
      refine sg_rd (fun N hN => ?_)
      simp only [pickO, List.getElem?_toArray, List.getElem?_cons_zero, List.getElem?_cons_succ]
      go_wp2_with fail
      refine rd_next (hN _ ?_)
      clear hN N
      refine sgz_name fun a0 ha0 => ?_
      have s41 := hid (show a0.tmps[41]? = some (.slice A1 y.sends.length c1) by rw [ha0]; rfl)
      have s45 := hid (show a0.tmps[45]? = some (.slice A2 y.outs.length c2) by rw [ha0]; rfl)
      have hsz := hid (show ∀ k, k < 47 → k < a0.tmps.size from fun k hk => by rw [ha0]; exact Nat.lt_of_lt_of_le hk (by show _ ≤ Array.size _; simp))
      have H0 := hid ha0
      clear ha0
      refine sg_parG [(6, some 39), (9, some 42), (10, some 43), (13, some 46)] (by rfl) (fun _ => False) (NL (zcN y)) (PPL (zcP y)) (fun _ _ => False) (PPL_upd _ (by kernel_rfl)) (NL_upd _ (by kernel_rfl)) (NL_move _ (zcN_moves y)) (fun w' hc => Agree.of_ch hc (fun _ hf => hf.elim)) (by simp) (by simp) (by simp) (parS_cons ?_ (parS_cons ?_ (parS_cons ?_ (parS_cons ?_ parS_nil)))) ?_
      · refine stepG_mk (by rfl) (by rfl) ?_
        intro u wq F1 hC hp hN hF hD K hK
        clear hp hN hF hD
        generalize putL [(6, some 39), (9, some 42), (10, some 43), (13, some 46)] a0 u = a1 at *
        go_simp
        have hn1 : NL (zcN y) 6 (updV u 6 (.slice (some ⟨wq.heap.size, 0, none⟩) 0 0)) (wq.alloc _) (fun k => k = wq.heap.size) := Ow.empty tEv (heap_at rfl) rfl
        exact hK _ (.slice (some ⟨wq.heap.size, 0, none⟩) 0 0) _ (fun k => k = wq.heap.size) rfl ((Ch.refl _ _).alloc _) hn1 (fun k hk => by subst hk; exact ⟨.inr (Nat.le_refl _), by simp⟩) trivial
      · refine stepG_mk (by rfl) (by rfl) ?_
        intro u wq F1 hC hp hN hF hD K hK
        have HO : Ow tEv 80 wq (F1 6) (u 6) [] := hN 6 (by simp)
        have hrd : Rd tEv wq _ _ y.sends := hS1.out.below (⟨hC.below0.os, hC.below0.tape, hC.below0.output, hC.below0.size, hC.below0.block⟩ : Below W.heap.size W wq)
        have q1 : (putL [(6, some 39), (9, some 42), (10, some 43), (13, some 46)] a0 u).tmps[39]? = some (u 6) := putL_in (k := 39) (i := 6) [(6, some 39), (9, some 42), (10, some 43), (13, some 46)] a0 u (by rfl) (hsz.out 39 (by decide))
        have q2 : (putL [(6, some 39), (9, some 42), (10, some 43), (13, some 46)] a0 u).tmps[41]? = _ := (putL_out (k := 41) [(6, some 39), (9, some 42), (10, some 43), (13, some 46)] a0 u (by rfl)).trans s41.out
        clear hp hN hF hD
        generalize putL [(6, some 39), (9, some 42), (10, some 43), (13, some 46)] a0 u = a1 at *
        refine ow_concat_wp 25 (by rfl) Tryz.underlying25 _ 56 info_ev rfl (by decide) (by decide) (eval_of q1) HO (eval_of q2) hrd (by simp only [List.length_nil]; have := l1; omega) (fun k => F1 6 k ∨ wq.heap.size ≤ k) (fun _ hk => .inl hk) (fun _ hk => .inr hk) ?_
        intro v1 w1 hO1 hG1 hat1
        obtain ⟨e1, e2, e3⟩ := grown_step HO hO1 hG1 hat1
        exact hK _ v1 w1 (fun k => v1.ownBlock = some k) rfl (e1.mono fun k hk => ⟨6, by simp, hk⟩) e2 (fun k hk => ⟨(e3 k hk).1.imp_left fun h => ⟨6, by simp, h⟩, (e3 k hk).2⟩) trivial
      · refine stepG_mk (by rfl) (by rfl) ?_
        intro u wq F1 hC hp hN hF hD K hK
        clear hp hN hF hD
        generalize putL [(6, some 39), (9, some 42), (10, some 43), (13, some 46)] a0 u = a1 at *
        go_simp
        have hn1 : NL (zcN y) 10 (updV u 10 (.slice (some ⟨wq.heap.size, 0, none⟩) 0 0)) (wq.alloc _) (fun k => k = wq.heap.size) := Ow.empty tOut (heap_at rfl) rfl
        exact hK _ (.slice (some ⟨wq.heap.size, 0, none⟩) 0 0) _ (fun k => k = wq.heap.size) rfl ((Ch.refl _ _).alloc _) hn1 (fun k hk => by subst hk; exact ⟨.inr (Nat.le_refl _), by simp⟩) trivial
      · refine stepG_mk (by rfl) (by rfl) ?_
        intro u wq F1 hC hp hN hF hD K hK
        have HO : Ow tOut 128 wq (F1 10) (u 10) [] := hN 10 (by simp)
        have hrd : Rd tOut wq _ _ y.outs := hS2.out.below (⟨hC.below0.os, hC.below0.tape, hC.below0.output, hC.below0.size, hC.below0.block⟩ : Below W.heap.size W wq)
        have q1 : (putL [(6, some 39), (9, some 42), (10, some 43), (13, some 46)] a0 u).tmps[43]? = some (u 10) := putL_in (k := 43) (i := 10) [(6, some 39), (9, some 42), (10, some 43), (13, some 46)] a0 u (by rfl) (hsz.out 43 (by decide))
        have q2 : (putL [(6, some 39), (9, some 42), (10, some 43), (13, some 46)] a0 u).tmps[45]? = _ := (putL_out (k := 45) [(6, some 39), (9, some 42), (10, some 43), (13, some 46)] a0 u (by rfl)).trans s45.out
        clear hp hN hF hD
        generalize putL [(6, some 39), (9, some 42), (10, some 43), (13, some 46)] a0 u = a1 at *
        refine ow_concat_wp 26 (by rfl) Tryz.underlying26 _ 40 info_out rfl (by decide) (by decide) (eval_of q1) HO (eval_of q2) hrd (by simp only [List.length_nil]; have := l2; omega) (fun k => F1 10 k ∨ wq.heap.size ≤ k) (fun _ hk => .inl hk) (fun _ hk => .inr hk) ?_
        intro v1 w1 hO1 hG1 hat1
        obtain ⟨e1, e2, e3⟩ := grown_step HO hO1 hG1 hat1
        exact hK _ v1 w1 (fun k => v1.ownBlock = some k) rfl (e1.mono fun k hk => ⟨10, by simp, hk⟩) e2 (fun k hk => ⟨(e3 k hk).1.imp_left fun h => ⟨10, by simp, h⟩, (e3 k hk).2⟩) trivial
      intro K hK u w7 F1 hC hD hF hN hpp
      have n9 : Ow tEv 80 w7 (F1 9) (u 9) y.sends := hN 9 (by rfl)
      have n13 : Ow tOut 128 w7 (F1 13) (u 13) y.outs := hN 13 (by rfl)
      replace n9 := n9.mono (F' := fun k => W.heap.size ≤ k ∧ k < w7.heap.size) (fun k hk => by have := hF 9 k (by rfl) hk; refine ⟨?_, this.2⟩; rcases this.1 with q | q; exact q.elim; simpa using q)
      replace n13 := n13.mono (F' := fun k => W.heap.size ≤ k ∧ k < w7.heap.size) (fun k hk => by have := hF 13 k (by rfl) hk; refine ⟨?_, this.2⟩; rcases this.1 with q | q; exact q.elim; simpa using q)
      have HS : Below W.heap.size W w7 := ⟨hC.below0.os, hC.below0.tape, hC.below0.output, hC.below0.size, hC.below0.block⟩
      have HA : Agree W.drew w7 := Agree.of_ch hC (fun _ hf => hf.elim)
      clear hN hF hD hC hpp
      rw [H0.out]
      clear s41 s45 hsz H0 a0
      simp only [putL_cons, putL_nil]
      obtain ⟨E1, e1, h91, -⟩ := n9.shape
      obtain ⟨E2, e2, h92, -⟩ := n13.shape
      generalize u 6 = u_6 at *
      generalize u 9 = u_9 at *
      generalize u 10 = u_10 at *
      generalize u 13 = u_13 at *
      subst h91 h92
      go_simp
      refine hK _ _ HA ?_
      clear hK K F1
      have hO3 := hO2.below HS
      have Xl3 := below_heap HS (blk_lt Xl2) Xl2
      have Xz3 := below_heap HS (blk_lt Xz2) Xz2
      have Xo3 := below_heap HS (blk_lt Xo2) Xo2
      have hb3 := bthen hb2 HS hb2.size
      have HSz := hid HS.size
      clear Xl2 Xz2 Xo2 hO2 Y y0 y1 y2 y3 y4 y5 y6 y7 y8 y9 y10 y11 o4 hb2
      refine sg_mid (fun N hN => ?_)
      simp only [pickO, List.getElem?_toArray, List.getElem?_cons_zero, List.getElem?_cons_succ]
      go_wp2_with fail
      refine mid_next HA (hN _ _ ?_)
      clear hN
      refine sg_mid (fun N hN => ?_)
      simp only [pickO, List.getElem?_toArray, List.getElem?_cons_zero, List.getElem?_cons_succ]
      go_wp2_with fail
      refine mid_next (fun q hq => ((balloc (Below.refl w7.heap.size w7) (.cells #[.int .i64 y.ev.time, .int .i64 y.ev.to, .int .i64 y.ev.from_, .int .i64 y.ev.count, .int .i64 y.ev.n, .int .i64 y.ev.kind, .int .i64 y.ev.arg, .int .i64 y.st.x, .int .i64 y.st.y, .int .i64 y.st.c, .slice E1 y.sends.length e1, .slice E2 y.outs.length e2] 98)).block q (Nat.lt_of_lt_of_le hq HS.size)).trans (HA q hq)) (hN _ _ ?_)
      clear hN HA
      have hbn := balloc (Below.refl w7.heap.size w7) (.cells #[.int .i64 y.ev.time, .int .i64 y.ev.to, .int .i64 y.ev.from_, .int .i64 y.ev.count, .int .i64 y.ev.n, .int .i64 y.ev.kind, .int .i64 y.ev.arg, .int .i64 y.st.x, .int .i64 y.st.y, .int .i64 y.st.c, .slice E1 y.sends.length e1, .slice E2 y.outs.length e2] 98)
      have HN : (w7.alloc (.cells #[.int .i64 y.ev.time, .int .i64 y.ev.to, .int .i64 y.ev.from_, .int .i64 y.ev.count, .int .i64 y.ev.n, .int .i64 y.ev.kind, .int .i64 y.ev.arg, .int .i64 y.st.x, .int .i64 y.st.y, .int .i64 y.st.c, .slice E1 y.sends.length e1, .slice E2 y.outs.length e2] 98)).heap[w7.heap.size]? = some (.cells #[.int .i64 y.ev.time, .int .i64 y.ev.to, .int .i64 y.ev.from_, .int .i64 y.ev.count, .int .i64 y.ev.n, .int .i64 y.ev.kind, .int .i64 y.ev.arg, .int .i64 y.st.x, .int .i64 y.st.y, .int .i64 y.st.c, .slice E1 y.sends.length e1, .slice E2 y.outs.length e2] 98 (0, 0)) := heap_at rfl
      have hO4 := hO3.below hbn
      have Xl4 := below_heap hbn (blk_lt Xl3) Xl3
      have Xz4 := below_heap hbn (blk_lt Xz3) Xz3
      have Xo4 := below_heap hbn (blk_lt Xo3) Xo3
      have m9 := n9.below hbn
      have m13 := n13.below hbn
      have hb4 := bthen hb3 hbn hb3.size
      have S8 := hid (show (w7.alloc (.cells #[.int .i64 y.ev.time, .int .i64 y.ev.to, .int .i64 y.ev.from_, .int .i64 y.ev.count, .int .i64 y.ev.n, .int .i64 y.ev.kind, .int .i64 y.ev.arg, .int .i64 y.st.x, .int .i64 y.st.y, .int .i64 y.st.c, .slice E1 y.sends.length e1, .slice E2 y.outs.length e2] 98)).heap.size = w7.heap.size + 1 by simp)
      obtain ⟨gn, hgn⟩ : ∃ g, g = w7.heap.size := ⟨_, rfl⟩
      have HGN := hid (show gn ≤ w7.heap.size ∧ w7.heap.size ≤ gn by omega)
      rw [← hgn] at HN
      simp only [← hgn]
      generalize w7.alloc (.cells #[.int .i64 y.ev.time, .int .i64 y.ev.to, .int .i64 y.ev.from_, .int .i64 y.ev.count, .int .i64 y.ev.n, .int .i64 y.ev.kind, .int .i64 y.ev.arg, .int .i64 y.st.x, .int .i64 y.st.y, .int .i64 y.st.c, .slice E1 y.sends.length e1, .slice E2 y.outs.length e2] 98) = W8 at *
      clear hgn hO3 Xl3 Xz3 Xo3 n9 n13 hbn hb3
      refine sg_fin ?_
      simp only [pickO, List.getElem?_toArray, List.getElem?_cons_zero, List.getElem?_cons_succ]
      have fo4 := blk_frozen Xo4 4
      go_wp2_with (at_builtin; go_loud (refine ow_append (d := oPast) (xs := ys) rfl 50 rfl Tryz.underlying50 _ 128 info_past rfl (by decide) (by decide) rfl hO4 y _ rfl HN (fun k => W.heap.size ≤ k ∧ k < w7.heap.size) ⟨_, _, rfl, m9, m13⟩ (fun q hq hq2 => by have h1 := hq2.2; have h2 := HG.out; have h3 := HGW.out; have h4 : W.heap.size ≤ q := hq.1; omega) (fun q hq => by have h1 := S8.out; have h2 : q < w7.heap.size := hq.2; omega) (by have h1 := hyl.out; omega) (fun q => w.heap.size + 1 + 1 < q) (fun q hq => hq.1) (fun q hq => by have h1 := hSo.out; have h2 := HG.out; have h3 := HGW.out; have h4 : W.heap.size ≤ q := hq.1; omega) (fun q hq => by have h1 := hSo.out; have h2 := HG.out; have h3 := HGW.out; have h4 := HSz.out; have h5 := S8.out; omega) ?_); intro v1 w1 hO5 hG5 hat5; obtain ⟨V9, c9, rfl, hx9⟩ := hO5.shape; have hne : ∀ q, q ≤ w.heap.size + 1 + 1 → ¬ some q = (Value.slice V ys.length vc).ownBlock := (fun q hq e9 => by have h9 := (hO4.inF e9.symm).1; omega); have Xl5 := (hG5.block _ (blk_lt Xl4) (hne _ (by omega))).trans Xl4; have Xz5 := (hG5.block _ (blk_lt Xz4) (hne _ (by omega))).trans Xz4; have Xo5 := (hG5.block _ (blk_lt Xo4) (hne _ (by omega))).trans Xo4; have fo5 := blk_frozen Xo5 4; have hb5 := hb4.trans (grown_below (Below.refl w.heap.size W8) hG5 (fun q hq => by have h9 := (hO4.inF hq).1; omega) hb4.size); have oo4 := (blk_cell Xo5 4); clear hat5 hx9 hG5 Xl4 Xz4 Xo4 hO4 hb4 m9 m13 fo4)
      go_wp2_with fail
      have HQ : Ch (fun k => k = w.heap.size + 1 + 1) w1 (w1.setCell ⟨w.heap.size + 1 + 1, 4, none⟩ (.slice V9 (ys ++ [y]).length c9)) := Ch.setCell (p := ⟨w.heap.size + 1 + 1, 4, none⟩) (Ch.refl (fun k => k = w.heap.size + 1 + 1) _) (Or.inl rfl) _
      have Xo6 := blk_set Xo5 4 (.slice V9 (ys ++ [y]).length c9)
      simp only [List.setIfInBounds_toArray, List.set_cons_zero, List.set_cons_succ] at Xo6
      have Xl6 := HQ.heap Xl5 (by omega)
      have Xz6 := HQ.heap Xz5 (by omega)
      have hO6 := hO5.ch HQ (fun q hq e1 => by have h3 : w.heap.size + 1 + 1 < q := hq; omega)
      have hb6 := hb5.trans (HQ.below (B := w.heap.size) (fun q hq => by omega) hb5.size)
      have hfin := hid (show l.done.take (k + 1) = ys ++ [y] by rw [htk.out, HYS.out])
      go_roundw
      case rel => exact ⟨k + 1, .slice V9 (ys ++ [y]).length c9, by go_num, by omega, by rw [hfin.out]; simpa using hO6, by simpa using Xl6, by simpa using Xz6, by simpa using Xo6, by simpa using hb6⟩
      case measure => simp [intOf]; omega
    · have hkl : k = l.done.length := by omega
      have hfin := hid (show ys = l.done by rw [← HYS.out, hkl, List.take_length])
      have o0 : wr.cell? ⟨w.heap.size + 1 + 1, 0, none⟩ = some (.int .i64 l.proc) := blk_cell Xo 0
      have o1 : wr.cell? ⟨w.heap.size + 1 + 1, 1, none⟩ = some (.int .i64 l.base.x) := blk_cell Xo 1
      have o2 : wr.cell? ⟨w.heap.size + 1 + 1, 2, none⟩ = some (.int .i64 l.base.y) := blk_cell Xo 2
      have o3 : wr.cell? ⟨w.heap.size + 1 + 1, 3, none⟩ = some (.int .i64 l.base.c) := blk_cell Xo 3
      have o4 : wr.cell? ⟨w.heap.size + 1 + 1, 4, none⟩ = some (.slice V ys.length vc) := blk_cell Xo 4
      have fz0 := blk_frozen Xz 0
      have fz1 := blk_frozen Xz 1
      have fz2 := blk_frozen Xz 2
      have fz3 := blk_frozen Xz 3
      have fz4 := blk_frozen Xz 4
      have zz0 : wr.cell? ⟨w.heap.size + 1, 0, none⟩ = some (.int .i64 0) := blk_cell Xz 0
      have zz1 : wr.cell? ⟨w.heap.size + 1, 1, none⟩ = some (.int .i64 0) := blk_cell Xz 1
      have zz2 : wr.cell? ⟨w.heap.size + 1, 2, none⟩ = some (.int .i64 0) := blk_cell Xz 2
      have zz3 : wr.cell? ⟨w.heap.size + 1, 3, none⟩ = some (.int .i64 0) := blk_cell Xz 3
      have zz4 : wr.cell? ⟨w.heap.size + 1, 4, none⟩ = some (.slice none 0 0) := blk_cell Xz 4
      subst hkl
      go_wp2_with fail
      have HQ : Ch (fun k => k = w.heap.size + 1) wr (((((wr.setCell ⟨w.heap.size + 1, 0, none⟩ (.int .i64 l.proc)).setCell ⟨w.heap.size + 1, 1, none⟩ (.int .i64 l.base.x)).setCell ⟨w.heap.size + 1, 2, none⟩ (.int .i64 l.base.y)).setCell ⟨w.heap.size + 1, 3, none⟩ (.int .i64 l.base.c)).setCell ⟨w.heap.size + 1, 4, none⟩ (.slice V ys.length vc)) := (Ch.setCell (p := ⟨w.heap.size + 1, 4, none⟩) (Ch.setCell (p := ⟨w.heap.size + 1, 3, none⟩) (Ch.setCell (p := ⟨w.heap.size + 1, 2, none⟩) (Ch.setCell (p := ⟨w.heap.size + 1, 1, none⟩) (Ch.setCell (p := ⟨w.heap.size + 1, 0, none⟩) (Ch.refl (fun k => k = w.heap.size + 1) _) (Or.inl rfl) _) (Or.inl rfl) _) (Or.inl rfl) _) (Or.inl rfl) _) (Or.inl rfl) _)
      have BX := (blk_set (blk_set (blk_set (blk_set (blk_set Xz 0 (.int .i64 l.proc)) 1 (.int .i64 l.base.x)) 2 (.int .i64 l.base.y)) 3 (.int .i64 l.base.c)) 4 (.slice V ys.length vc))
      simp only [List.setIfInBounds_toArray, List.set_cons_zero, List.set_cons_succ] at BX
      have hb9 := hb.trans (HQ.below (B := w.heap.size) (fun k hk => by omega) hb.size)
      have hO9 := (hO.ch HQ (fun q hq e1 => by have h3 : w.heap.size + 1 + 1 < q := hq; omega)).mono (F' := fun q => w.heap.size ≤ q) (fun q hq => by have h3 : w.heap.size + 1 + 1 < q := hq; show w.heap.size ≤ q; omega)
      generalize (((((wr.setCell ⟨w.heap.size + 1, 0, none⟩ (.int .i64 l.proc)).setCell ⟨w.heap.size + 1, 1, none⟩ (.int .i64 l.base.x)).setCell ⟨w.heap.size + 1, 2, none⟩ (.int .i64 l.base.y)).setCell ⟨w.heap.size + 1, 3, none⟩ (.int .i64 l.base.c)).setCell ⟨w.heap.size + 1, 4, none⟩ (.slice V ys.length vc)) = W12 at *
      have s0 : W12.cell? ⟨w.heap.size + 1, 0, none⟩ = some (.int .i64 l.proc) := blk_cell BX 0
      have s1 : W12.cell? ⟨w.heap.size + 1, 1, none⟩ = some (.int .i64 l.base.x) := blk_cell BX 1
      have s2 : W12.cell? ⟨w.heap.size + 1, 2, none⟩ = some (.int .i64 l.base.y) := blk_cell BX 2
      have s3 : W12.cell? ⟨w.heap.size + 1, 3, none⟩ = some (.int .i64 l.base.c) := blk_cell BX 3
      have s4 : W12.cell? ⟨w.heap.size + 1, 4, none⟩ = some (.slice V ys.length vc) := blk_cell BX 4
      refine bodyPost_ret (v := .agg #[.int .i64 l.proc, .int .i64 l.base.x, .int .i64 l.base.y, .int .i64 l.base.c, .slice V ys.length vc]) (by simp only [results, Tryz.results51]; go_simp) rfl ⟨.slice V ys.length vc, rfl, by rw [← hfin.out]; exact hO9, hb9⟩
end Go.Proofs.YtbcemldiahghcaaGreat
