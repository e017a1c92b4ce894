/- Texts joined: Ezb, Ezc, Do. -/
import Derived.Test.YtbcemldiahghcaaGreatK20
import Derived.Test.YtbcemldiahghcaaGreatK14
import Derived.Test.YtbcemldiahghcaaGreatK21
import Derived.Test.YtbcemldiahghcaaGreatK08
namespace Go.Proofs.YtbcemldiahghcaaGreat
set_option linter.unusedVariables false
set_option linter.unusedSimpArgs false
set_option maxRecDepth 100000
open Go.RowKit
theorem info_past : (Tryz.prog.info? 98).map (fun i => (i.zero, i.size, i.bytes)) = some (some (.agg #[.int .i64 0, .int .i64 0, .int .i64 0, .int .i64 0, .int .i64 0, .int .i64 0, .int .i64 0, .int .i64 0, .int .i64 0, .int .i64 0, .slice none 0 0, .slice none 0 0]), 12, 128) := by kernel_rfl
/-- Twelve cells, whatever hangs on them. -/
structure RawP where
  cs : List Value
  hl : cs.length = 12
  ho : ∀ u ∈ cs, u.oneCell' = true
def tRaw : Ty RawP := flat (fun r => r.cs) 12 (fun r => r.hl) (fun r => r.ho)
def rawOf (x : PastD) (vs vo : Value) (o1 : vs.oneCell' = true) (o2 : vo.oneCell' = true) : RawP :=
  ⟨pastCells x vs vo, rfl, fun u hu => by
    simp only [pastCells, List.mem_cons, List.not_mem_nil, or_false] at hu
    rcases hu with rfl | rfl | rfl | rfl | rfl | rfl | rfl | rfl | rfl | rfl | rfl | rfl <;> first | rfl | assumption⟩
def lenOf : Value → Nat | .slice _ n _ => n | _ => 0
def Raws (w : World) (B : Nat → Prop) (rs : List RawP) (xs : List PastD) : Prop :=
  rs.length = xs.length ∧ ∀ (j : Nat) (x : PastD), xs[j]? = some x → ∃ r vs vo, rs[j]? = some r ∧ r.cs = pastCells x vs vo ∧ Rd tEv w B vs x.sends ∧ Rd tOut w B vo x.outs
theorem Raws.snoc {w : World} {B : Nat → Prop} {rs : List RawP} {xs : List PastD} (h : Raws w B rs xs) (x : PastD) (r : RawP) (vs vo : Value) (hr : r.cs = pastCells x vs vo) (h1 : Rd tEv w B vs x.sends) (h2 : Rd tOut w B vo x.outs) : Raws w B (rs ++ [r]) (xs ++ [x]) := by
  refine ⟨by simp [h.1], fun j y hj => ?_⟩
  by_cases hl : j < xs.length
  · rw [List.getElem?_append_left hl] at hj
    obtain ⟨r', vs', vo', a, b⟩ := h.2 j y hj
    exact ⟨r', vs', vo', by rw [List.getElem?_append_left (by rw [h.1]; exact hl)]; exact a, b⟩
  · have hj2 : j = xs.length := by have := (List.getElem?_eq_some_iff.1 hj).1; simp at this; omega
    subst hj2
    simp at hj
    subst hj
    exact ⟨r, vs, vo, by rw [← h.1]; simp, hr, h1, h2⟩
theorem Raws.rd {w w' : World} {B : Nat → Prop} {rs : List RawP} {xs : List PastD} {v : Value} {F : Nat → Prop} {e : TypeId} (h : Raws w B rs xs) (hb : Below w.heap.size w w') (hO : Ow tRaw e w' F v rs) : Rd tPast w' (fun k => F k ∨ B k) v xs := by
  obtain ⟨A, c, rfl, h1, h2, h3⟩ := hO.rd
  refine ⟨A, c, by rw [h.1], by rw [← h.1]; exact h1, by rw [← h.1]; exact h2, fun hp => ?_⟩
  obtain ⟨b, o, rfl, hF, hlt, hc⟩ := h3 (by rw [h.1]; exact hp)
  refine ⟨b, o, rfl, .inl hF, hlt, fun j x hj => ?_⟩
  obtain ⟨r, vs, vo, h4, h5, h6, h7⟩ := h.2 j x hj
  obtain ⟨cs, h8, h9⟩ := hc j r h4
  obtain rfl : cs = r.cs := h8
  exact ⟨r.cs, ⟨vs, vo, h5, (h6.below hb).mono (fun k hk => .inr hk), (h7.below hb).mono (fun k hk => .inr hk)⟩, h9⟩
set_option maxHeartbeats 1000000 in
theorem chainList_c (gc : Nat) (B : Nat → Prop) (xs : List PastD) (G : Nat → Nat) (w : World) (h : ChainAt w B gc xs G) (hn : xs.length ≤ 1000) :
    Calls Tryz.prog 113 #[.pointer (some ⟨gc, 0, none⟩)] w fun q w' => ∃ v, q = .returned v ∧ Rd tPast w' (fun k => w.heap.size ≤ k ∨ B k) v xs ∧ Below w.heap.size w w' := by
  have a0 : w.cell? ⟨gc, 0, none⟩ = some (atG G xs.length 0) := blk_cell h.blk 0
  go_enter Tryz.func113, Tryz.ntmps113
  go_wp2_with fail
  go_loopw [3, 4] (fun v l wr => ∃ (k : Nat) (rs : List RawP), l = atG G xs.length k ∧ k ≤ xs.length ∧ Ow tRaw 98 wr (fun q => w.heap.size ≤ q) v rs ∧ Hid (Raws w B rs (xs.take k)) ∧ Below w.heap.size w wr) (fun v _ _ => xs.length - lenOf v)
  case atStart => exact ⟨0, [], rfl, Nat.zero_le _, Ow.nil _ _ _ _, ⟨rfl, fun j x hj => by simp at hj⟩, Below.refl _ _⟩
  case round =>
    clear a0
    obtain ⟨k, rs, rfl, hk, hO, HR, hb⟩ := hrel
    have hr := h.below hb
    obtain ⟨A, c, rfl, -⟩ := hO.shape
    have hrl : rs.length = k := by have := HR.out.1; rw [List.length_take] at this; omega
    by_cases h1 : k < xs.length
    · have e0 : atG G xs.length k = .pointer (some ⟨G k, 0, none⟩) := by rw [atG, if_pos h1]
      rw [e0]
      obtain ⟨vs, vo, hl, q1, q2⟩ := hr.at_ k h1
      obtain ⟨us, uo, hl0, g1, g2⟩ := h.at_ k h1
      have hlb := below_heap hb (blk_lt hl0) hl0
      have heq : linkCells xs[k] us uo (atG G xs.length (k + 1)) = linkCells xs[k] vs vo (atG G xs.length (k + 1)) := by
        have := hlb.symm.trans hl
        simpa using this
      obtain ⟨rfl, rfl⟩ : us = vs ∧ uo = vo := by simpa [linkCells, pastCells] using heq
      have o1 : us.oneCell' = true := by obtain ⟨A1, c1, rfl, -⟩ := g1.shape; rfl
      have o2 : uo.oneCell' = true := by obtain ⟨A1, c1, rfl, -⟩ := g2.shape; rfl
      have y0 : wr.cell? ⟨G k, 0, none⟩ = some (.int .i64 xs[k].ev.time) := by rw [blk_cell hl]; rfl
      have y1 : wr.cell? ⟨G k, 1, none⟩ = some (.int .i64 xs[k].ev.to) := by rw [blk_cell hl]; rfl
      have y2 : wr.cell? ⟨G k, 2, none⟩ = some (.int .i64 xs[k].ev.from_) := by rw [blk_cell hl]; rfl
      have y3 : wr.cell? ⟨G k, 3, none⟩ = some (.int .i64 xs[k].ev.count) := by rw [blk_cell hl]; rfl
      have y4 : wr.cell? ⟨G k, 4, none⟩ = some (.int .i64 xs[k].ev.n) := by rw [blk_cell hl]; rfl
      have y5 : wr.cell? ⟨G k, 5, none⟩ = some (.int .i64 xs[k].ev.kind) := by rw [blk_cell hl]; rfl
      have y6 : wr.cell? ⟨G k, 6, none⟩ = some (.int .i64 xs[k].ev.arg) := by rw [blk_cell hl]; rfl
      have y7 : wr.cell? ⟨G k, 7, none⟩ = some (.int .i64 xs[k].st.x) := by rw [blk_cell hl]; rfl
      have y8 : wr.cell? ⟨G k, 8, none⟩ = some (.int .i64 xs[k].st.y) := by rw [blk_cell hl]; rfl
      have y9 : wr.cell? ⟨G k, 9, none⟩ = some (.int .i64 xs[k].st.c) := by rw [blk_cell hl]; rfl
      have y10 : wr.cell? ⟨G k, 10, none⟩ = some (us) := by rw [blk_cell hl]; rfl
      have y11 : wr.cell? ⟨G k, 11, none⟩ = some (uo) := by rw [blk_cell hl]; rfl
      have y12 : wr.cell? ⟨G k, 12, none⟩ = some (atG G xs.length (k + 1)) := by rw [blk_cell hl]; rfl
      have HR2 := hid (HR.out.snoc xs[k] (rawOf xs[k] us uo o1 o2) us uo rfl g1 g2)
      rw [← List.take_succ_eq_append_getElem h1] at HR2
      obtain ⟨rw_, hrw⟩ : ∃ r, rawOf xs[k] us uo o1 o2 = r := ⟨_, rfl⟩
      have hcs : rw_.cs = pastCells xs[k] us uo := by rw [← hrw]; rfl
      rw [hrw] at HR2
      have HRL := hid hrl
      have HCS := hid hcs
      have hgk := blk_lt hl
      have Hl := hid hl
      clear e0 heq hlb hl0 hrw hcs hl q1 q2 g1 g2 hrl
      go_wp2_with (at_builtin; go_loud (refine ow_append (d := tRaw) rfl 50 rfl Tryz.underlying50 _ 128 info_past rfl (by decide) (by decide) rfl (hO.alloc _) rw_ _ rfl (heap_at rfl) (fun _ => False) (by show _ = rw_.cs; rw [HCS.out]; rfl) (fun _ hf => hf.elim) (fun _ hf => hf.elim) (by rw [HRL.out]; omega) (fun q => w.heap.size ≤ q) (fun _ hq => hq) (fun _ hf => hf.elim) (fun q hq => by have h3 := hb.size; simp only [World.size_alloc] at hq; show w.heap.size ≤ q; omega) ?_); intro v1 w1 hO1 hG hat; have hCx : Ch (fun q => w.heap.size ≤ q) wr w1 := ((Ch.refl (fun q => w.heap.size ≤ q) wr).alloc _).grown hG (fun q hq => .inl (hO.inF hq)); have hb9 := ((Ch.of_below (S := fun q => w.heap.size ≤ q) hb).trans hCx).below (fun q hq => hq) (Nat.le_refl _); obtain ⟨us9, uo9, hl9, hx1, hx2⟩ := h.at_ k h1; have hl8 := below_heap hb9 (blk_lt hl9) hl9; have y13 : w1.cell? ⟨G k, 12, none⟩ = some (atG G xs.length (k + 1)) := (by rw [blk_cell hl8]; rfl); obtain ⟨A9, c9, rfl, hx3⟩ := hO1.shape; have hlen9 := hid (show (rs ++ [rw_]).length = k + 1 by rw [List.length_append, HRL.out]; rfl); clear hat hG hCx hl8 hl9 hx1 hx2 hx3)
      go_roundw
      case rel => exact ⟨k + 1, rs ++ [rw_], rfl, by omega, by simpa using hO1, HR2, hb9⟩
      case measure =>
        have e2 := HRL.out
        simp only [lenOf]
        omega
    · have hkl : k = xs.length := by omega
      have e0 : atG G xs.length k = .pointer none := by rw [atG, if_neg h1]
      rw [e0]
      have hR := HR.out
      rw [hkl, List.take_length] at hR
      have hrd := hR.rd hb hO
      clear e0 h1
      go_wp2_with fail
      go_ret
      exact ⟨_, rfl, hrd, hb⟩
end Go.Proofs.YtbcemldiahghcaaGreat

namespace Go.Proofs.YtbcemldiahghcaaGreat
set_option linter.unusedVariables false
set_option linter.unusedSimpArgs false
set_option maxRecDepth 100000
open Go.RowKit
set_option maxHeartbeats 1000000 in
theorem copyPast_c (x : PastD) (vs vo : Value) (F : Nat → Prop) (w : World) (g1 : Rd tEv w F vs x.sends) (g2 : Rd tOut w F vo x.outs) (n1 : x.sends.length ≤ 1000) (n2 : x.outs.length ≤ 1000) :
    Calls Tryz.prog 115 #[.agg #[.int .i64 x.ev.time, .int .i64 x.ev.to, .int .i64 x.ev.from_, .int .i64 x.ev.count, .int .i64 x.ev.n, .int .i64 x.ev.kind, .int .i64 x.ev.arg, .int .i64 x.st.x, .int .i64 x.st.y, .int .i64 x.st.c, vs, vo]] w fun q w' => ∃ us uo, q = .returned (.agg #[.int .i64 x.ev.time, .int .i64 x.ev.to, .int .i64 x.ev.from_, .int .i64 x.ev.count, .int .i64 x.ev.n, .int .i64 x.ev.kind, .int .i64 x.ev.arg, .int .i64 x.st.x, .int .i64 x.st.y, .int .i64 x.st.c, us, uo]) ∧ Ow tEv 80 w' (fun k => w.heap.size ≤ k) us x.sends ∧ Ow tOut 128 w' (fun k => w.heap.size ≤ k) uo x.outs ∧ Below w.heap.size w w' := by
  obtain ⟨A1, c1, rfl, -⟩ := g1.shape
  obtain ⟨A2, c2, rfl, -⟩ := g2.shape
  have HB : Below w.heap.size w ((w.alloc (.cells #[.int .i64 x.ev.time, .int .i64 x.ev.to, .int .i64 x.ev.from_, .int .i64 x.ev.count, .int .i64 x.ev.n, .int .i64 x.ev.kind, .int .i64 x.ev.arg, .int .i64 x.st.x, .int .i64 x.st.y, .int .i64 x.st.c, .slice A1 x.sends.length c1, .slice A2 x.outs.length c2] 98)).alloc (.cells #[.int .i64 0, .int .i64 0, .int .i64 0, .int .i64 0, .int .i64 0, .int .i64 0, .int .i64 0, .int .i64 0, .int .i64 0, .int .i64 0, .slice none 0 0, .slice none 0 0] 98)) := balloc (balloc (Below.refl _ _) _) _
  have Z : ((w.alloc (.cells #[.int .i64 x.ev.time, .int .i64 x.ev.to, .int .i64 x.ev.from_, .int .i64 x.ev.count, .int .i64 x.ev.n, .int .i64 x.ev.kind, .int .i64 x.ev.arg, .int .i64 x.st.x, .int .i64 x.st.y, .int .i64 x.st.c, .slice A1 x.sends.length c1, .slice A2 x.outs.length c2] 98)).alloc (.cells #[.int .i64 0, .int .i64 0, .int .i64 0, .int .i64 0, .int .i64 0, .int .i64 0, .int .i64 0, .int .i64 0, .int .i64 0, .int .i64 0, .slice none 0 0, .slice none 0 0] 98)).heap[w.heap.size]? = some (.cells #[.int .i64 x.ev.time, .int .i64 x.ev.to, .int .i64 x.ev.from_, .int .i64 x.ev.count, .int .i64 x.ev.n, .int .i64 x.ev.kind, .int .i64 x.ev.arg, .int .i64 x.st.x, .int .i64 x.st.y, .int .i64 x.st.c, .slice A1 x.sends.length c1, .slice A2 x.outs.length c2] 98 (0, 0)) := (heap_old (by simp)).trans (heap_at rfl)
  have Y : ((w.alloc (.cells #[.int .i64 x.ev.time, .int .i64 x.ev.to, .int .i64 x.ev.from_, .int .i64 x.ev.count, .int .i64 x.ev.n, .int .i64 x.ev.kind, .int .i64 x.ev.arg, .int .i64 x.st.x, .int .i64 x.st.y, .int .i64 x.st.c, .slice A1 x.sends.length c1, .slice A2 x.outs.length c2] 98)).alloc (.cells #[.int .i64 0, .int .i64 0, .int .i64 0, .int .i64 0, .int .i64 0, .int .i64 0, .int .i64 0, .int .i64 0, .int .i64 0, .int .i64 0, .slice none 0 0, .slice none 0 0] 98)).heap[w.heap.size + 1]? = some (.cells #[.int .i64 0, .int .i64 0, .int .i64 0, .int .i64 0, .int .i64 0, .int .i64 0, .int .i64 0, .int .i64 0, .int .i64 0, .int .i64 0, .slice none 0 0, .slice none 0 0] 98 (0, 0)) := heap_at (by simp)
  go_enter Tryz.func115, Tryz.ntmps115
  go_wp2_with fail
  generalize ((w.alloc (.cells #[.int .i64 x.ev.time, .int .i64 x.ev.to, .int .i64 x.ev.from_, .int .i64 x.ev.count, .int .i64 x.ev.n, .int .i64 x.ev.kind, .int .i64 x.ev.arg, .int .i64 x.st.x, .int .i64 x.st.y, .int .i64 x.st.c, .slice A1 x.sends.length c1, .slice A2 x.outs.length c2] 98)).alloc (.cells #[.int .i64 0, .int .i64 0, .int .i64 0, .int .i64 0, .int .i64 0, .int .i64 0, .int .i64 0, .int .i64 0, .int .i64 0, .int .i64 0, .slice none 0 0, .slice none 0 0] 98)) = W at *
  have HWs := hid (show w.heap.size + 1 < W.heap.size from blk_lt Y)
  refine (cloneEv_c _ x.sends F _ (g1.below HB) n1).mono ?_
  rintro q w1 ⟨u1, rfl, m1, hb1⟩
  obtain ⟨B1, b1, rfl, -⟩ := m1.shape
  have HB1 := bthen HB hb1 HB.size
  have Z1 := below_heap hb1 (blk_lt Z) Z
  have Y1 := below_heap hb1 (blk_lt Y) Y
  have HS1 := hid hb1.size
  obtain ⟨pa0, pa1, pa2, pa3, pa4, pa5, pa6, pa7, pa8, pa9, pa10, pa11⟩ := cl12 Z1
  obtain ⟨pb0, pb1, pb2, pb3, pb4, pb5, pb6, pb7, pb8, pb9, pb10, pb11⟩ := cl12 Y1
  have pf10 := blk_frozen Z1 10
  have pf11 := blk_frozen Z1 11
  have pg0 := blk_frozen Y1 0
  have pg1 := blk_frozen Y1 1
  have pg2 := blk_frozen Y1 2
  have pg3 := blk_frozen Y1 3
  have pg4 := blk_frozen Y1 4
  have pg5 := blk_frozen Y1 5
  have pg6 := blk_frozen Y1 6
  have pg7 := blk_frozen Y1 7
  have pg8 := blk_frozen Y1 8
  have pg9 := blk_frozen Y1 9
  have pg10 := blk_frozen Y1 10
  have pg11 := blk_frozen Y1 11
  have HC : Ch (fun k => k = w.heap.size) w1 (w1.setCell ⟨w.heap.size, 10, none⟩ (.slice B1 x.sends.length b1)) := Ch.setCell (p := ⟨w.heap.size, 10, none⟩) (Ch.refl (fun k => k = w.heap.size) _) (Or.inl rfl) _
  have Z2 := blk_set Z1 10 (.slice B1 x.sends.length b1)
  simp only [List.setIfInBounds_toArray, List.set_cons_zero, List.set_cons_succ] at Z2
  have Y2 := HC.heap Y1 (by omega)
  have m2 := m1.ch HC (fun k hk e1 => by have h3 : W.heap.size ≤ k := hk; have := HWs.out; omega)
  have HB2 := HB1.trans (HC.below (B := w.heap.size) (fun k hk => by omega) HB1.size)
  have HS2 := hid HC.size
  clear hb1 m1
  apply_assumption
  go_wp2_with fail
  clear pa0 pa1 pa2 pa3 pa4 pa5 pa6 pa7 pa8 pa9 pa10 pa11 pf10 pf11 pb0 pg0 pb1 pg1 pb2 pg2 pb3 pg3 pb4 pg4 pb5 pg5 pb6 pg6 pb7 pg7 pb8 pg8 pb9 pg9 pb10 pg10 pb11 pg11
  generalize w1.setCell ⟨w.heap.size, 10, none⟩ (.slice B1 x.sends.length b1) = V at *
  refine (cloneOut_c _ x.outs F _ (g2.below HB2) n2).mono ?_
  rintro q w2 ⟨u2, rfl, p1, hb2⟩
  obtain ⟨B2, b2, rfl, -⟩ := p1.shape
  have HB3 := bthen HB2 hb2 HB2.size
  have Z3 := below_heap hb2 (blk_lt Z2) Z2
  have Y3 := below_heap hb2 (blk_lt Y2) Y2
  have m3 := m2.below hb2
  have p2 := p1.mono (F' := fun k => W.heap.size ≤ k) (fun k hk => by have h3 : V.heap.size ≤ k := hk; have := HS1.out; have := HS2.out; show W.heap.size ≤ k; omega)
  obtain ⟨qa0, qa1, qa2, qa3, qa4, qa5, qa6, qa7, qa8, qa9, qa10, qa11⟩ := cl12 Z3
  obtain ⟨qb0, qb1, qb2, qb3, qb4, qb5, qb6, qb7, qb8, qb9, qb10, qb11⟩ := cl12 Y3
  have qf10 := blk_frozen Z3 10
  have qf11 := blk_frozen Z3 11
  have qg0 := blk_frozen Y3 0
  have qg1 := blk_frozen Y3 1
  have qg2 := blk_frozen Y3 2
  have qg3 := blk_frozen Y3 3
  have qg4 := blk_frozen Y3 4
  have qg5 := blk_frozen Y3 5
  have qg6 := blk_frozen Y3 6
  have qg7 := blk_frozen Y3 7
  have qg8 := blk_frozen Y3 8
  have qg9 := blk_frozen Y3 9
  have qg10 := blk_frozen Y3 10
  have qg11 := blk_frozen Y3 11
  clear hb2 p1 m2 Z1 Y1 Z2 Y2
  apply_assumption
  go_wp2_with fail
  have HQ : Ch (fun k => k = w.heap.size ∨ k = w.heap.size + 1) w2 (((((((((((((w2.setCell ⟨w.heap.size, 11, none⟩ (.slice B2 x.outs.length b2)).setCell ⟨w.heap.size + 1, 0, none⟩ (.int .i64 x.ev.time)).setCell ⟨w.heap.size + 1, 1, none⟩ (.int .i64 x.ev.to)).setCell ⟨w.heap.size + 1, 2, none⟩ (.int .i64 x.ev.from_)).setCell ⟨w.heap.size + 1, 3, none⟩ (.int .i64 x.ev.count)).setCell ⟨w.heap.size + 1, 4, none⟩ (.int .i64 x.ev.n)).setCell ⟨w.heap.size + 1, 5, none⟩ (.int .i64 x.ev.kind)).setCell ⟨w.heap.size + 1, 6, none⟩ (.int .i64 x.ev.arg)).setCell ⟨w.heap.size + 1, 7, none⟩ (.int .i64 x.st.x)).setCell ⟨w.heap.size + 1, 8, none⟩ (.int .i64 x.st.y)).setCell ⟨w.heap.size + 1, 9, none⟩ (.int .i64 x.st.c)).setCell ⟨w.heap.size + 1, 10, none⟩ (.slice B1 x.sends.length b1)).setCell ⟨w.heap.size + 1, 11, none⟩ (.slice B2 x.outs.length b2)) := (Ch.setCell (p := ⟨w.heap.size + 1, 11, none⟩) (Ch.setCell (p := ⟨w.heap.size + 1, 10, none⟩) (Ch.setCell (p := ⟨w.heap.size + 1, 9, none⟩) (Ch.setCell (p := ⟨w.heap.size + 1, 8, none⟩) (Ch.setCell (p := ⟨w.heap.size + 1, 7, none⟩) (Ch.setCell (p := ⟨w.heap.size + 1, 6, none⟩) (Ch.setCell (p := ⟨w.heap.size + 1, 5, none⟩) (Ch.setCell (p := ⟨w.heap.size + 1, 4, none⟩) (Ch.setCell (p := ⟨w.heap.size + 1, 3, none⟩) (Ch.setCell (p := ⟨w.heap.size + 1, 2, none⟩) (Ch.setCell (p := ⟨w.heap.size + 1, 1, none⟩) (Ch.setCell (p := ⟨w.heap.size + 1, 0, none⟩) (Ch.setCell (p := ⟨w.heap.size, 11, none⟩) (Ch.refl (fun k => k = w.heap.size ∨ k = w.heap.size + 1) _) (Or.inl (Or.inl rfl)) _) (Or.inl (Or.inr rfl)) _) (Or.inl (Or.inr rfl)) _) (Or.inl (Or.inr rfl)) _) (Or.inl (Or.inr rfl)) _) (Or.inl (Or.inr rfl)) _) (Or.inl (Or.inr rfl)) _) (Or.inl (Or.inr rfl)) _) (Or.inl (Or.inr rfl)) _) (Or.inl (Or.inr rfl)) _) (Or.inl (Or.inr rfl)) _) (Or.inl (Or.inr rfl)) _) (Or.inl (Or.inr rfl)) _)
  have BY := (blk_set (blk_set (blk_set (blk_set (blk_set (blk_set (blk_set (blk_set (blk_set (blk_set (blk_set (blk_set ((Ch.setCell (p := ⟨w.heap.size, 11, none⟩) (Ch.refl (fun k => k = w.heap.size) w2) (Or.inl rfl) (.slice B2 x.outs.length b2)).heap Y3 (by omega)) 0 (.int .i64 x.ev.time)) 1 (.int .i64 x.ev.to)) 2 (.int .i64 x.ev.from_)) 3 (.int .i64 x.ev.count)) 4 (.int .i64 x.ev.n)) 5 (.int .i64 x.ev.kind)) 6 (.int .i64 x.ev.arg)) 7 (.int .i64 x.st.x)) 8 (.int .i64 x.st.y)) 9 (.int .i64 x.st.c)) 10 (.slice B1 x.sends.length b1)) 11 (.slice B2 x.outs.length b2))
  simp only [List.setIfInBounds_toArray, List.set_cons_zero, List.set_cons_succ] at BY
  have k1 := (m3.ch HQ (fun k hk e1 => by have h3 : W.heap.size ≤ k := hk; have := HWs.out; omega)).mono (F' := fun k => w.heap.size ≤ k) (fun k hk => by have h3 : W.heap.size ≤ k := hk; have := HWs.out; show w.heap.size ≤ k; omega)
  have k2 := (p2.ch HQ (fun k hk e1 => by have h3 : W.heap.size ≤ k := hk; have := HWs.out; omega)).mono (F' := fun k => w.heap.size ≤ k) (fun k hk => by have h3 : W.heap.size ≤ k := hk; have := HWs.out; show w.heap.size ≤ k; omega)
  have hb9 := HB3.trans (HQ.below (B := w.heap.size) (fun k hk => by omega) HB3.size)
  generalize (((((((((((((w2.setCell ⟨w.heap.size, 11, none⟩ (.slice B2 x.outs.length b2)).setCell ⟨w.heap.size + 1, 0, none⟩ (.int .i64 x.ev.time)).setCell ⟨w.heap.size + 1, 1, none⟩ (.int .i64 x.ev.to)).setCell ⟨w.heap.size + 1, 2, none⟩ (.int .i64 x.ev.from_)).setCell ⟨w.heap.size + 1, 3, none⟩ (.int .i64 x.ev.count)).setCell ⟨w.heap.size + 1, 4, none⟩ (.int .i64 x.ev.n)).setCell ⟨w.heap.size + 1, 5, none⟩ (.int .i64 x.ev.kind)).setCell ⟨w.heap.size + 1, 6, none⟩ (.int .i64 x.ev.arg)).setCell ⟨w.heap.size + 1, 7, none⟩ (.int .i64 x.st.x)).setCell ⟨w.heap.size + 1, 8, none⟩ (.int .i64 x.st.y)).setCell ⟨w.heap.size + 1, 9, none⟩ (.int .i64 x.st.c)).setCell ⟨w.heap.size + 1, 10, none⟩ (.slice B1 x.sends.length b1)).setCell ⟨w.heap.size + 1, 11, none⟩ (.slice B2 x.outs.length b2)) = W9 at *
  obtain ⟨s0, s1, s2, s3, s4, s5, s6, s7, s8, s9, s10, s11⟩ := cl12 BY
  refine bodyPost_ret (v := .agg #[.int .i64 x.ev.time, .int .i64 x.ev.to, .int .i64 x.ev.from_, .int .i64 x.ev.count, .int .i64 x.ev.n, .int .i64 x.ev.kind, .int .i64 x.ev.arg, .int .i64 x.st.x, .int .i64 x.st.y, .int .i64 x.st.c, .slice B1 x.sends.length b1, .slice B2 x.outs.length b2]) (by simp only [results, Tryz.results115]; go_simp) rfl ⟨_, _, rfl, k1, k2, hb9⟩
set_option maxHeartbeats 1000000 in
theorem copyEach_c (v : Value) (xs : List PastD) (F : Nat → Prop) (w : World) (h : Rd tPast w F v xs) (hn : xs.length ≤ 1000) (hops : ∀ r ∈ xs, r.sends.length ≤ 1000 ∧ r.outs.length ≤ 1000) :
    Calls Tryz.prog 114 #[v, .func (.func 115) #[] #[]] w fun q w' => ∃ v', q = .returned v' ∧ Ow oPast 98 w' (fun k => w.heap.size ≤ k) v' xs ∧ Below w.heap.size w w' := by
  obtain ⟨A, c, rfl, -, -, -⟩ := id h
  by_cases h0 : xs.length = 0
  · have hx : xs = [] := List.length_eq_zero_iff.1 h0
    subst hx
    go_enter Tryz.func114, Tryz.ntmps114
    go_wp2_with fail
    go_ret
    exact ⟨_, rfl, Ow.nil _ _ _ _, Below.refl _ _⟩
  have e0 : decide ((xs.length : Int) = 0) = false := decide_eq_false (by omega)
  have e1 : ((xs.length : Int) == 0) = false := beq_eq_false_iff_ne.2 (by omega)
  clear h0
  go_enter Tryz.func114, Tryz.ntmps114
  go_wp2_with (refine ow_full (d := oPast) (e := 98) rfl _ _ _ rfl Tryz.underlying50 (.agg #[.int .i64 0, .int .i64 0, .int .i64 0, .int .i64 0, .int .i64 0, .int .i64 0, .int .i64 0, .int .i64 0, .int .i64 0, .int .i64 0, .slice none 0 0, .slice none 0 0]) 128 (by kernel_rfl) (by decide) rfl (by decide) _ _ xs.length rfl rfl (by omega) (by omega) ?_; intro w1 hO1 hb1)
  obtain ⟨g, hg⟩ : ∃ g, g = w.heap.size := ⟨_, rfl⟩
  rw [← hg] at hO1
  simp only [← hg]
  have HG := hid hg
  clear hg
  go_loopw [16] (fun i wr => ∃ k : Nat, i = .int .i64 k ∧ k ≤ xs.length ∧ Ow (opt oPast) 98 wr (fun k => g ≤ k) (.slice (some ⟨g, 0, none⟩) xs.length xs.length) ((xs.take k).map some ++ List.replicate (xs.length - k) none) ∧ Below g w wr) (fun i _ => xs.length - (intOf i).toNat)
  case atStart => exact ⟨0, rfl, Nat.zero_le _, by simpa using hO1, by rw [HG.out]; exact hb1⟩
  case round =>
    clear hO1 hb1
    obtain ⟨k, rfl, hk, hO, hb⟩ := hrel
    have hb' : Below w.heap.size w wr := by rw [← HG.out]; exact hb
    have hgl := hO.block_lt rfl
    by_cases hlt : k < xs.length
    · have hr := h.below hb'
      obtain ⟨b0, o0, A1, c1, A2, c2, rfl, hb0, ⟨z0, z1, z2, z3, z4, z5, z6⟩, ⟨z7, z8, z9⟩, z10, z11, hr1, hr2⟩ := past_at hr k hlt
      have p0 : (k : Int) < (xs.length : Int) := by omega
      have p1 : (0 : Int) ≤ (k : Int) := by omega
      have hbx := balloc (Below.refl wr.heap.size wr) (.cells #[.int .i64 xs[k].ev.time, .int .i64 xs[k].ev.to, .int .i64 xs[k].ev.from_, .int .i64 xs[k].ev.count, .int .i64 xs[k].ev.n, .int .i64 xs[k].ev.kind, .int .i64 xs[k].ev.arg, .int .i64 xs[k].st.x, .int .i64 xs[k].st.y, .int .i64 xs[k].st.c, .slice A1 xs[k].sends.length c1, .slice A2 xs[k].outs.length c2] 98)
      have q1 := hr1.below hbx
      have q2 := hr2.below hbx
      clear hb'
      go_wp2_with fail
      refine (copyPast_c xs[k] _ _ _ _ q1 q2 (hops _ (List.getElem_mem _)).1 (hops _ (List.getElem_mem _)).2).mono ?_
      rintro q w2 ⟨v1', v2', rfl, hOs, hOo, hb2⟩
      obtain ⟨B1, b1, rfl, -⟩ := hOs.shape
      obtain ⟨B2, b2, rfl, -⟩ := hOo.shape
      have hnew : (opt oPast).rel w2 (fun q => wr.heap.size < q) (some xs[k]) [.int .i64 xs[k].ev.time, .int .i64 xs[k].ev.to, .int .i64 xs[k].ev.from_, .int .i64 xs[k].ev.count, .int .i64 xs[k].ev.n, .int .i64 xs[k].ev.kind, .int .i64 xs[k].ev.arg, .int .i64 xs[k].st.x, .int .i64 xs[k].st.y, .int .i64 xs[k].st.c, .slice B1 xs[k].sends.length b1, .slice B2 xs[k].outs.length b2] := ⟨_, _, rfl, hOs.mono (fun q hq => by have h3 : (wr.alloc (.cells #[.int .i64 xs[k].ev.time, .int .i64 xs[k].ev.to, .int .i64 xs[k].ev.from_, .int .i64 xs[k].ev.count, .int .i64 xs[k].ev.n, .int .i64 xs[k].ev.kind, .int .i64 xs[k].ev.arg, .int .i64 xs[k].st.x, .int .i64 xs[k].st.y, .int .i64 xs[k].st.c, .slice A1 xs[k].sends.length c1, .slice A2 xs[k].outs.length c2] 98)).heap.size ≤ q := hq; rw [World.size_alloc] at h3; omega), hOo.mono (fun q hq => by have h3 : (wr.alloc (.cells #[.int .i64 xs[k].ev.time, .int .i64 xs[k].ev.to, .int .i64 xs[k].ev.from_, .int .i64 xs[k].ev.count, .int .i64 xs[k].ev.n, .int .i64 xs[k].ev.kind, .int .i64 xs[k].ev.arg, .int .i64 xs[k].st.x, .int .i64 xs[k].st.y, .int .i64 xs[k].st.c, .slice A1 xs[k].sends.length c1, .slice A2 xs[k].outs.length c2] 98)).heap.size ≤ q := hq; rw [World.size_alloc] at h3; omega)⟩
      have hb3 := bthen' hbx hb2
      have hB2 := hb.trans (hb3.mono (Nat.le_of_lt hgl))
      have hO2 := hO.bound.below hb3
      have hkl : k < ((xs.take k).map some ++ List.replicate (xs.length - k) (none : Option PastD)).length := by rw [fill_len xs k hk]; exact hlt
      clear hO hbx hb2
      apply_assumption
      go_wp2_with (refine ow_store_any (d := opt oPast) rfl _ _ _ rfl hO2 (g := g) rfl k hkl (some xs[k]) [.int .i64 xs[k].ev.time, .int .i64 xs[k].ev.to, .int .i64 xs[k].ev.from_, .int .i64 xs[k].ev.count, .int .i64 xs[k].ev.n, .int .i64 xs[k].ev.kind, .int .i64 xs[k].ev.arg, .int .i64 xs[k].st.x, .int .i64 xs[k].st.y, .int .i64 xs[k].st.c, .slice B1 xs[k].sends.length b1, .slice B2 xs[k].outs.length b2] (fun q => wr.heap.size < q) (fun q => g ≤ q) hnew (fun q hq hq' => by have h3 : wr.heap.size < q := hq; omega) (fun _ hq => hq.1) (fun q hq => by have h3 : wr.heap.size < q := hq; omega) (by first | rfl | simp [opt, oPast]) (by rfl) (by kernel_rfl) ?_; intro w3 hO3 hC3)
      rw [fill_set xs k hlt] at hO3
      have hB3 := hB2.trans (hC3.below (B := g) (fun q hq => by omega) (by have := hb3.size; omega))
      go_roundw
      case rel => exact ⟨k + 1, by go_num, by omega, hO3, hB3⟩
      case measure => simp [intOf]; omega
    · have hkl : k = xs.length := by omega
      subst hkl
      have hO4 : Ow oPast 98 wr (fun k => w.heap.size ≤ k) (.slice (some ⟨g, 0, none⟩) xs.length xs.length) xs := by
        have := hO
        rw [List.take_length, Nat.sub_self, List.replicate_zero, List.append_nil] at this
        rw [← HG.out]
        exact this.filled
      go_wp2_with fail
      go_ret
      exact ⟨_, rfl, hO4, hb'⟩
end Go.Proofs.YtbcemldiahghcaaGreat

namespace Go.Proofs.YtbcemldiahghcaaGreat
set_option linter.unusedVariables false
set_option linter.unusedSimpArgs false
set_option maxRecDepth 100000
open Go.RowKit
def doCells (c : Int) (e : EvD) (r : RunD) (sv ov : Value) : Array Value :=
  #[.int .i64 r.x, .int .i64 r.y, .int .i64 e.time, .int .i64 e.to, .int .i64 e.from_, .int .i64 e.count, .int .i64 e.n, .int .i64 e.kind, .int .i64 e.arg, .int .i64 c, sv, ov]
structure DoAt (w : World) (g B : Nat) (c : Int) (e : EvD) (r : RunD) (sv ov : Value) : Prop where
  blk : w.heap[g]? = some (.cells (doCells c e r sv ov) 169 (0, 0))
  ge : B ≤ g
  sends : Ow tEv 80 w (fun k => B ≤ k) sv r.sends
  outs : Ow tOut 128 w (fun k => B ≤ k) ov r.outs
theorem DoAt.set {w : World} {g B : Nat} {c : Int} {e : EvD} {r r' : RunD} {sv ov : Value} (h : DoAt w g B c e r sv ov) (i : Nat) (u : Value) (hc : (doCells c e r sv ov).setIfInBounds i u = doCells c e r' sv ov) (hs : r'.sends = r.sends) (ho : r'.outs = r.outs) : DoAt (w.setCell ⟨g, i, none⟩ u) g B c e r' sv ov := by
  refine ⟨by rw [blk_set h.blk, hc], h.ge, ?_, ?_⟩
  · rw [hs]
    exact (h.sends.tight.keep (fun k hk hlt => Below.heap_setCell _ _ _ _ (fun e' => h.sends.type_ne h.blk (by decide) (by have e2 : k = g := e'; subst e2; exact hk)))).mono (fun k hk => h.sends.inF hk)
  · rw [ho]
    exact (h.outs.tight.keep (fun k hk hlt => Below.heap_setCell _ _ _ _ (fun e' => h.outs.type_ne h.blk (by decide) (by have e2 : k = g := e'; subst e2; exact hk)))).mono (fun k hk => h.outs.inF hk)

theorem DoAt.below {w w' : World} {g B : Nat} {c : Int} {e : EvD} {r : RunD} {sv ov : Value} (h : DoAt w g B c e r sv ov) (hb : Below w.heap.size w w') : DoAt w' g B c e r sv ov :=
  ⟨(hb.block g (blk_lt h.blk)).trans h.blk, h.ge, h.sends.below hb, h.outs.below hb⟩
def DoPost (B g : Nat) (c : Int) (e : EvD) (r : RunD) (sv ov : Value) (o : OpD) (w : World) (q : Ending) (w' : World) : Prop :=
  q = .returned (.int .i64 (doOp e c o r).2) ∧ (∃ sv ov, DoAt w' g B c e (doOp e c o r).1 sv ov) ∧ Ch (fun k => k = g ∨ sv.ownBlock = some k ∨ ov.ownBlock = some k) w w'
theorem DoAt.grown_sends {w w1 : World} {g B : Nat} {c : Int} {e : EvD} {r : RunD} {sv ov : Value} (h : DoAt w g B c e r sv ov) (hG : w.grownBy w1 sv.ownBlock) :
    w1.heap[g]? = some (.cells (doCells c e r sv ov) 169 (0, 0)) ∧ Ow tOut 128 w1 (fun k => B ≤ k) ov r.outs :=
  ⟨(hG.block g (blk_lt h.blk) (fun e' => h.sends.type_ne h.blk (by decide) e'.symm)).trans h.blk,
   (h.outs.tight.keep (fun k hk hlt => hG.block k hlt (fun e' => h.outs.apart h.sends (by decide) k hk e'.symm))).mono (fun k hk => h.outs.inF hk)⟩
theorem DoAt.grown_outs {w w1 : World} {g B : Nat} {c : Int} {e : EvD} {r : RunD} {sv ov : Value} (h : DoAt w g B c e r sv ov) (hG : w.grownBy w1 ov.ownBlock) :
    w1.heap[g]? = some (.cells (doCells c e r sv ov) 169 (0, 0)) ∧ Ow tEv 80 w1 (fun k => B ≤ k) sv r.sends :=
  ⟨(hG.block g (blk_lt h.blk) (fun e' => h.outs.type_ne h.blk (by decide) e'.symm)).trans h.blk,
   (h.sends.tight.keep (fun k hk hlt => hG.block k hlt (fun e' => h.sends.apart h.outs (by decide) k hk e'.symm))).mono (fun k hk => h.sends.inF hk)⟩
set_option maxHeartbeats 400000 in
theorem dput_c (g B : Nat) (c : Int) (e : EvD) (r : RunD) (sv ov : Value) (k n : Int) (w : World) (h : DoAt w g B c e r sv ov) (hk : k = 0 ∨ k = 1) (hn : 0 ≤ n) :
    Calls Tryz.prog 177 #[.pointer (some ⟨g,0,none⟩), .int .i64 k, .int .i64 n] w fun q w' => q = .returned (.tuple #[]) ∧ DoAt w' g B c e (r.put k n) sv ov ∧ Ch (fun k => k = g ∨ sv.ownBlock = some k ∨ ov.ownBlock = some k) w w' := by
  have h0 := blk_cell h.blk 0
  have h1 := blk_cell h.blk 1
  simp [doCells] at h0 h1
  have f0 := blk_frozen h.blk 0
  have f1 := blk_frozen h.blk 1
  rcases hk with rfl | rfl
  · go_enter Tryz.func177, Tryz.ntmps177
    go_wp2
    go_end0
    exact ⟨rfl, h.set 0 _ rfl rfl rfl, Ch.setCell (p := ⟨g, 0, none⟩) (Ch.refl _ _) (Or.inl (Or.inl rfl)) _⟩
  · go_enter Tryz.func177, Tryz.ntmps177
    go_wp2
    go_end0
    exact ⟨rfl, h.set 1 _ rfl rfl rfl, Ch.setCell (p := ⟨g, 1, none⟩) (Ch.refl _ _) (Or.inl (Or.inl rfl)) _⟩
set_option maxHeartbeats 2000000 in
theorem raise3_c (g B : Nat) (c : Int) (e : EvD) (r : RunD) (sv ov : Value) (a b cc ee : Int) (w : World) (h : DoAt w g B c e r sv ov) (hB : B ≤ w.heap.size) (hr : RunOk r) (he : evOk e = true) (hns : r.sends.length ≤ 1000) (hno : r.outs.length ≤ 1000) (ha : a = 0 ∨ a = 1) (hb0 : 0 ≤ b ∧ b ≤ 999) :
    Calls Tryz.prog 178 #[.agg #[.int .i64 a, .int .i64 b, .bool false], .pointer (some ⟨g,0,none⟩)] w (DoPost B g c e r sv ov ⟨3, a, b, cc, ee⟩ w) := by
  have hx := And.intro hr.x0 hr.x1
  have hy := And.intro hr.y0 hr.y1
  have hb1 := hb0.1
  have hb2 := hb0.2
  have hR := h.below (balloc (Below.refl _ _) (.cells #[.int .i64 a, .int .i64 b, .bool false] 208))
  have c0 := blk_cell hR.blk 0
  have c1 := blk_cell hR.blk 1
  simp [doCells] at c0 c1
  rcases ha with rfl | rfl
  · go_enter Tryz.func178, Tryz.ntmps178
    go_wp2_with fail
    refine region_tail 13 (by kernel_rfl) (by kernel_rfl) ?_
    simp only [List.take_succ_cons, List.take_zero, List.drop_succ_cons, List.drop_zero]
    iterate 13 still_step
    refine wpStill_nil ?_
    go_wp2_with (go_at_call 177; refine (dput_c g B c e r sv ov _ _ _ (hR.below (Below.refl _ _).drew) (by simp) (by omega)).mono ?_; rintro q w1 ⟨rfl, h1, h2⟩)
    go_ret
    exact ⟨rfl, ⟨sv, ov, h1⟩, (((Ch.refl _ _).alloc _).drew).trans h2⟩
  · go_enter Tryz.func178, Tryz.ntmps178
    go_wp2_with fail
    refine region_tail 13 (by kernel_rfl) (by kernel_rfl) ?_
    simp only [List.take_succ_cons, List.take_zero, List.drop_succ_cons, List.drop_zero]
    iterate 13 still_step
    refine wpStill_nil ?_
    go_wp2_with (go_at_call 177; refine (dput_c g B c e r sv ov _ _ _ (hR.below (Below.refl _ _).drew) (by simp) (by omega)).mono ?_; rintro q w1 ⟨rfl, h1, h2⟩)
    go_ret
    exact ⟨rfl, ⟨sv, ov, h1⟩, (((Ch.refl _ _).alloc _).drew).trans h2⟩
set_option maxHeartbeats 2000000 in
theorem join_c (g B : Nat) (c : Int) (e : EvD) (r : RunD) (sv ov : Value) (a b cc ee : Int) (w : World) (h : DoAt w g B c e r sv ov) (hB : B ≤ w.heap.size) (hr : RunOk r) (he : evOk e = true) (hns : r.sends.length ≤ 1000) (hno : r.outs.length ≤ 1000) (ha : a = 0 ∨ a = 1) (hb0 : b = 0 ∨ b = 1) :
    Calls Tryz.prog 179 #[.agg #[.int .i64 a, .int .i64 b], .pointer (some ⟨g,0,none⟩)] w (DoPost B g c e r sv ov ⟨2, a, b, cc, ee⟩ w) := by
  have hx := And.intro hr.x0 hr.x1
  have hy := And.intro hr.y0 hr.y1
  have hR := h.below (balloc (Below.refl _ _) (.cells #[.int .i64 a, .int .i64 b] 210))
  have c0 := blk_cell hR.blk 0
  have c1 := blk_cell hR.blk 1
  simp [doCells] at c0 c1
  rcases ha with rfl | rfl <;> rcases hb0 with rfl | rfl
  · go_enter Tryz.func179, Tryz.ntmps179
    go_wp2_with fail
    refine region_tail 18 (by kernel_rfl) (by kernel_rfl) ?_
    simp only [List.take_succ_cons, List.take_zero, List.drop_succ_cons, List.drop_zero]
    iterate 18 still_step
    refine wpStill_nil ?_
    go_wp2_with (go_at_call 177; refine (dput_c g B c e r sv ov _ _ _ (hR.below (Below.refl _ _).drew) (by simp) (by omega)).mono ?_; rintro q w1 ⟨rfl, h1, h2⟩)
    go_ret
    exact ⟨rfl, ⟨sv, ov, h1⟩, (((Ch.refl _ _).alloc _).drew).trans h2⟩
  · go_enter Tryz.func179, Tryz.ntmps179
    go_wp2_with fail
    refine region_tail 18 (by kernel_rfl) (by kernel_rfl) ?_
    simp only [List.take_succ_cons, List.take_zero, List.drop_succ_cons, List.drop_zero]
    iterate 18 still_step
    refine wpStill_nil ?_
    go_wp2_with (go_at_call 177; refine (dput_c g B c e r sv ov _ _ _ (hR.below (Below.refl _ _).drew) (by simp) (by omega)).mono ?_; rintro q w1 ⟨rfl, h1, h2⟩)
    go_ret
    exact ⟨rfl, ⟨sv, ov, h1⟩, (((Ch.refl _ _).alloc _).drew).trans h2⟩
  · go_enter Tryz.func179, Tryz.ntmps179
    go_wp2_with fail
    refine region_tail 18 (by kernel_rfl) (by kernel_rfl) ?_
    simp only [List.take_succ_cons, List.take_zero, List.drop_succ_cons, List.drop_zero]
    iterate 18 still_step
    refine wpStill_nil ?_
    go_wp2_with (go_at_call 177; refine (dput_c g B c e r sv ov _ _ _ (hR.below (Below.refl _ _).drew) (by simp) (by omega)).mono ?_; rintro q w1 ⟨rfl, h1, h2⟩)
    go_ret
    exact ⟨rfl, ⟨sv, ov, h1⟩, (((Ch.refl _ _).alloc _).drew).trans h2⟩
  · go_enter Tryz.func179, Tryz.ntmps179
    go_wp2_with fail
    refine region_tail 18 (by kernel_rfl) (by kernel_rfl) ?_
    simp only [List.take_succ_cons, List.take_zero, List.drop_succ_cons, List.drop_zero]
    iterate 18 still_step
    refine wpStill_nil ?_
    go_wp2_with (go_at_call 177; refine (dput_c g B c e r sv ov _ _ _ (hR.below (Below.refl _ _).drew) (by simp) (by omega)).mono ?_; rintro q w1 ⟨rfl, h1, h2⟩)
    go_ret
    exact ⟨rfl, ⟨sv, ov, h1⟩, (((Ch.refl _ _).alloc _).drew).trans h2⟩
set_option maxHeartbeats 2000000 in
theorem take_c (g B : Nat) (c : Int) (e : EvD) (r : RunD) (sv ov : Value) (a b cc ee : Int) (w : World) (h : DoAt w g B c e r sv ov) (hB : B ≤ w.heap.size) (hr : RunOk r) (he : evOk e = true) (hns : r.sends.length ≤ 1000) (hno : r.outs.length ≤ 1000) (ha : a = 0 ∨ a = 1) :
    Calls Tryz.prog 180 #[.agg #[.int .i64 a], .pointer (some ⟨g,0,none⟩)] w (DoPost B g c e r sv ov ⟨4, a, b, cc, ee⟩ w) := by
  have hx := And.intro hr.x0 hr.x1
  have hy := And.intro hr.y0 hr.y1
  simp [evOk, inn] at he
  have hg := he.2.1
  clear he
  have hR := h.below (balloc (Below.refl _ _) (.cells #[.int .i64 a] 212))
  have c8 := blk_cell hR.blk 8
  simp [doCells] at c8
  rcases ha with rfl | rfl
  · go_enter Tryz.func180, Tryz.ntmps180
    go_wp2_with fail
    refine region_tail 8 (by kernel_rfl) (by kernel_rfl) ?_
    simp only [List.take_succ_cons, List.take_zero, List.drop_succ_cons, List.drop_zero]
    iterate 8 still_step
    refine wpStill_nil ?_
    go_wp2_with (go_at_call 177; refine (dput_c g B c e r sv ov _ _ _ (hR.below (Below.refl _ _).drew) (by simp) (by omega)).mono ?_; rintro q w1 ⟨rfl, h1, h2⟩)
    go_ret
    exact ⟨rfl, ⟨sv, ov, h1⟩, (((Ch.refl _ _).alloc _).drew).trans h2⟩
  · go_enter Tryz.func180, Tryz.ntmps180
    go_wp2_with fail
    refine region_tail 8 (by kernel_rfl) (by kernel_rfl) ?_
    simp only [List.take_succ_cons, List.take_zero, List.drop_succ_cons, List.drop_zero]
    iterate 8 still_step
    refine wpStill_nil ?_
    go_wp2_with (go_at_call 177; refine (dput_c g B c e r sv ov _ _ _ (hR.below (Below.refl _ _).drew) (by simp) (by omega)).mono ?_; rintro q w1 ⟨rfl, h1, h2⟩)
    go_ret
    exact ⟨rfl, ⟨sv, ov, h1⟩, (((Ch.refl _ _).alloc _).drew).trans h2⟩
set_option maxHeartbeats 2000000 in
theorem leap_c (g B : Nat) (c : Int) (e : EvD) (r : RunD) (sv ov : Value) (a b cc ee : Int) (w : World) (h : DoAt w g B c e r sv ov) (hB : B ≤ w.heap.size) (hr : RunOk r) (he : evOk e = true) (hns : r.sends.length ≤ 1000) (hno : r.outs.length ≤ 1000) (ha : a = 0 ∨ a = 1) :
    Calls Tryz.prog 181 #[.agg #[.int .i64 a, .int .i64 b, .int .i64 cc], .pointer (some ⟨g,0,none⟩)] w (DoPost B g c e r sv ov ⟨5, a, b, cc, ee⟩ w) := by
  have hx := And.intro hr.x0 hr.x1
  have hy := And.intro hr.y0 hr.y1
  have hR := h.below (balloc (Below.refl _ _) (.cells #[.int .i64 a, .int .i64 b, .int .i64 cc] 214))
  have c0 := blk_cell hR.blk 0
  have c1 := blk_cell hR.blk 1
  simp [doCells] at c0 c1
  rcases ha with rfl | rfl
  · by_cases hlt : r.get 0 < b
    · have e1 : doOp e c ⟨5, 0, b, cc, ee⟩ r = (r, cc) := by simp [doOp, hlt]
      have hd : decide (r.x < b) = true := decide_eq_true hlt
      have E1 := hid e1; clear e1 hlt
      go_enter Tryz.func181, Tryz.ntmps181
      go_wp2_with fail
      go_quiet (fail)
      go_wp2
      go_ret
      exact ⟨by rw [E1.out]; rfl, ⟨sv, ov, by rw [E1.out]; exact hR.below (bdrewN (Below.refl _ _) _)⟩, ((Ch.refl _ _).alloc _).drewN _⟩
    · have e1 : doOp e c ⟨5, 0, b, cc, ee⟩ r = (r, 0) := by simp [doOp, hlt]
      have hd : decide (r.x < b) = false := decide_eq_false hlt
      have E1 := hid e1; clear e1 hlt
      go_enter Tryz.func181, Tryz.ntmps181
      go_wp2_with fail
      go_quiet (fail)
      go_wp2
      go_ret
      exact ⟨by rw [E1.out]; rfl, ⟨sv, ov, by rw [E1.out]; exact hR.below (bdrewN (Below.refl _ _) _)⟩, ((Ch.refl _ _).alloc _).drewN _⟩
  · by_cases hlt : r.get 1 < b
    · have e1 : doOp e c ⟨5, 1, b, cc, ee⟩ r = (r, cc) := by simp [doOp, hlt]
      have hd : decide (r.y < b) = true := decide_eq_true hlt
      have E1 := hid e1; clear e1 hlt
      go_enter Tryz.func181, Tryz.ntmps181
      go_wp2_with fail
      go_quiet (fail)
      go_wp2
      go_ret
      exact ⟨by rw [E1.out]; rfl, ⟨sv, ov, by rw [E1.out]; exact hR.below (bdrewN (Below.refl _ _) _)⟩, ((Ch.refl _ _).alloc _).drewN _⟩
    · have e1 : doOp e c ⟨5, 1, b, cc, ee⟩ r = (r, 0) := by simp [doOp, hlt]
      have hd : decide (r.y < b) = false := decide_eq_false hlt
      have E1 := hid e1; clear e1 hlt
      go_enter Tryz.func181, Tryz.ntmps181
      go_wp2_with fail
      go_quiet (fail)
      go_wp2
      go_ret
      exact ⟨by rw [E1.out]; rfl, ⟨sv, ov, by rw [E1.out]; exact hR.below (bdrewN (Below.refl _ _) _)⟩, ((Ch.refl _ _).alloc _).drewN _⟩
end Go.Proofs.YtbcemldiahghcaaGreat
