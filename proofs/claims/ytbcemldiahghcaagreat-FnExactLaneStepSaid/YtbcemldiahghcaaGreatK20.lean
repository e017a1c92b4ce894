/- Texts joined: Ez9, Eza, Ex2. -/
import Derived.Test.YtbcemldiahghcaaGreatK19
import Derived.Test.YtbcemldiahghcaaGreatK08
import Derived.OwnWalk
namespace Go.Proofs.YtbcemldiahghcaaGreat
set_option linter.unusedVariables false
set_option linter.unusedSimpArgs false
set_option maxRecDepth 100000
open Go.RowKit
def linkCells (x : PastD) (vs vo nx : Value) : List Value := pastCells x vs vo ++ [nx]
def atG (G : Nat → Nat) (n j : Nat) : Value := if j < n then .pointer (some ⟨G j, 0, none⟩) else .pointer none
def lastG (G : Nat → Nat) (n : Nat) : Value := if n = 0 then .pointer none else .pointer (some ⟨G (n - 1), 0, none⟩)
/-- A chain at gc: its links at G 0, G 1, ..; what hangs on them lies ahead of B. -/
structure ChainAt (w : World) (F : Nat → Prop) (gc : Nat) (xs : List PastD) (G : Nat → Nat) : Prop where
  blk : w.heap[gc]? = some (.cells #[atG G xs.length 0, lastG G xs.length] 201 (0, 0))
  gt : ∀ j, j < xs.length → gc < G j
  lt : ∀ i j, i < j → j < xs.length → G i < G j
  at_ : ∀ (j : Nat) (hj : j < xs.length), ∃ vs vo, w.heap[G j]? = some (.cells (linkCells xs[j] vs vo (atG G xs.length (j + 1))).toArray 203 (0, 0)) ∧ Rd tEv w F vs xs[j].sends ∧ Rd tOut w F vo xs[j].outs
  sg : ¬ F gc
  sj : ∀ j, j < xs.length → ¬ F (G j)
  bd : ∀ k, F k → k < w.heap.size
theorem ChainAt.mono {w : World} {F F' : Nat → Prop} {gc : Nat} {xs : List PastD} {G : Nat → Nat} (h : ChainAt w F gc xs G) (hF : ∀ k, F k → F' k) (h1 : ¬ F' gc) (h2 : ∀ j, j < xs.length → ¬ F' (G j)) (h3 : ∀ k, F' k → k < w.heap.size) : ChainAt w F' gc xs G :=
  ⟨h.blk, h.gt, h.lt, fun j hj => by
    obtain ⟨vs, vo, a, b, c⟩ := h.at_ j hj
    exact ⟨vs, vo, a, b.mono hF, c.mono hF⟩, h1, h2, h3⟩
theorem ChainAt.below {w w' : World} {F : Nat → Prop} {gc : Nat} {xs : List PastD} {G : Nat → Nat} (h : ChainAt w F gc xs G) (hb : Below w.heap.size w w') : ChainAt w' F gc xs G :=
  ⟨below_heap hb (blk_lt h.blk) h.blk, h.gt, h.lt, fun j hj => by
    obtain ⟨vs, vo, h1, h2, h3⟩ := h.at_ j hj
    exact ⟨vs, vo, below_heap hb (blk_lt h1) h1, h2.below hb, h3.below hb⟩, h.sg, h.sj, fun k hk => Nat.lt_of_lt_of_le (h.bd k hk) hb.size⟩
/-- What is written: the chain's own block, and its last link's. -/
theorem ChainAt.grow {w w' : World} {F : Nat → Prop} {gc gn : Nat} {xs : List PastD} {G : Nat → Nat} (h : ChainAt w F gc xs G) (x : PastD) (vs vo : Value) (hg1 : gc < gn) (hg2 : ∀ j, j < xs.length → G j < gn) (hgn : ¬ F gn)
    (hC : Ch (fun k => k = gc ∨ (0 < xs.length ∧ k = G (xs.length - 1))) w w')
    (h1 : w'.heap[gc]? = some (.cells #[if xs.length = 0 then .pointer (some ⟨gn, 0, none⟩) else atG G xs.length 0, .pointer (some ⟨gn, 0, none⟩)] 201 (0, 0)))
    (h2 : w'.heap[gn]? = some (.cells (linkCells x vs vo (.pointer none)).toArray 203 (0, 0)))
    (h3 : ∀ (hp : xs.length - 1 < xs.length), ∀ us uo, w.heap[G (xs.length - 1)]? = some (.cells (linkCells xs[xs.length - 1] us uo (.pointer none)).toArray 203 (0, 0)) → w'.heap[G (xs.length - 1)]? = some (.cells (linkCells xs[xs.length - 1] us uo (.pointer (some ⟨gn, 0, none⟩))).toArray 203 (0, 0)))
    (r1 : Rd tEv w F vs x.sends) (r2 : Rd tOut w F vo x.outs) :
    ChainAt w' F gc (xs ++ [x]) (fun j => if j = xs.length then gn else G j) := by
  have hgl := blk_lt h.blk
  have hne : ∀ k, F k → ¬ (k = gc ∨ (0 < xs.length ∧ k = G (xs.length - 1))) := by
    rintro k hk (rfl | ⟨hp, rfl⟩)
    · exact h.sg hk
    · exact h.sj (xs.length - 1) (by omega) hk
  refine ⟨?_, fun j hj => ?_, fun i j hij hj => ?_, fun j hj => ?_, h.sg, fun j hj hk => ?_, fun k hk => Nat.lt_of_lt_of_le (h.bd k hk) hC.size⟩
  · rw [h1]
    by_cases h0 : xs.length = 0
    · simp [atG, lastG, h0]
    · have h0' : 0 < xs.length := by omega
      simp [atG, lastG, h0, h0', Ne.symm h0]
  · simp only [List.length_append, List.length_cons, List.length_nil] at hj
    show gc < if j = xs.length then gn else G j
    split
    · exact hg1
    · exact h.gt j (by omega)
  · simp only [List.length_append, List.length_cons, List.length_nil] at hj
    show (if i = xs.length then gn else G i) < if j = xs.length then gn else G j
    rw [if_neg (by omega)]
    split
    · exact hg2 i (by omega)
    · exact h.lt i j hij (by omega)
  · simp only [List.length_append, List.length_cons, List.length_nil] at hj ⊢
    show ∃ vs vo, w'.heap[if j = xs.length then gn else G j]? = _ ∧ _
    by_cases hjl : j = xs.length
    · subst hjl
      refine ⟨vs, vo, ?_, ?_, ?_⟩
      · rw [if_pos rfl, h2]; simp [atG]
      · simpa using r1.ch hC (fun k hk => hne k hk)
      · simpa using r2.ch hC (fun k hk => hne k hk)
    · rw [if_neg hjl]
      have hj2 : j < xs.length := by omega
      obtain ⟨us, uo, h9, h8, h7⟩ := h.at_ j hj2
      have e1 : (xs ++ [x])[j]'(by simp; omega) = xs[j] := by rw [List.getElem_append_left hj2]
      rw [e1]
      refine ⟨us, uo, ?_, h8.ch hC (fun k hk => hne k hk), h7.ch hC (fun k hk => hne k hk)⟩
      by_cases hl : j = xs.length - 1
      · subst hl
        have h9' : w.heap[G (xs.length - 1)]? = some (.cells (linkCells xs[xs.length - 1] us uo (.pointer none)).toArray 203 (0, 0)) := by
          rw [h9, atG, if_neg (by omega)]
        rw [h3 hj2 us uo h9', atG, if_pos (by omega), if_pos (by omega)]
      · rw [hC.heap h9 (by
          rintro (e2 | ⟨hp, e2⟩)
          · have := h.gt j hj2; omega
          · have := h.lt j (xs.length - 1) (by omega) (by omega); omega)]
        simp only [atG]
        rw [if_pos (show j + 1 < xs.length by omega), if_pos (show j + 1 < xs.length + 1 by omega), if_neg (by omega)]
  · simp only [List.length_append, List.length_cons, List.length_nil] at hj
    have hk' : F (if j = xs.length then gn else G j) := hk
    by_cases hjl : j = xs.length
    · rw [if_pos hjl] at hk'; exact hgn hk'
    · rw [if_neg hjl] at hk'; exact h.sj j (by omega) hk'
set_option maxHeartbeats 1000000 in
theorem chainAdd_c (gc B : Nat) (F : Nat → Prop) (xs : List PastD) (G : Nat → Nat) (x : PastD) (vs vo : Value) (w : World) (h : ChainAt w F gc xs G) (hB : B ≤ w.heap.size) (hgc : B ≤ gc) (r1 : Rd tEv w F vs x.sends) (r2 : Rd tOut w F vo x.outs) :
    Calls Tryz.prog 112 #[.pointer (some ⟨gc, 0, none⟩), .agg #[.int .i64 x.ev.time, .int .i64 x.ev.to, .int .i64 x.ev.from_, .int .i64 x.ev.count, .int .i64 x.ev.n, .int .i64 x.ev.kind, .int .i64 x.ev.arg, .int .i64 x.st.x, .int .i64 x.st.y, .int .i64 x.st.c, vs, vo]] w fun q w' => q = .returned (.tuple #[]) ∧ (∃ G', ChainAt w' F gc (xs ++ [x]) G') ∧ Below B w w' := by
  have o1 : vs.oneCell' = true := by obtain ⟨A1, c1, rfl, -⟩ := r1.shape; rfl
  have o2 : vo.oneCell' = true := by obtain ⟨A1, c1, rfl, -⟩ := r2.shape; rfl
  obtain ⟨A1, c1, rfl, -⟩ := id r1.shape
  obtain ⟨A2, c2, rfl, -⟩ := id r2.shape
  have hgl := blk_lt h.blk
  have HW : Below w.heap.size w ((w.alloc (.cells #[.int .i64 x.ev.time, .int .i64 x.ev.to, .int .i64 x.ev.from_, .int .i64 x.ev.count, .int .i64 x.ev.n, .int .i64 x.ev.kind, .int .i64 x.ev.arg, .int .i64 x.st.x, .int .i64 x.st.y, .int .i64 x.st.c, .slice A1 x.sends.length c1, .slice A2 x.outs.length c2] 98)).alloc (.cells #[.int .i64 x.ev.time, .int .i64 x.ev.to, .int .i64 x.ev.from_, .int .i64 x.ev.count, .int .i64 x.ev.n, .int .i64 x.ev.kind, .int .i64 x.ev.arg, .int .i64 x.st.x, .int .i64 x.st.y, .int .i64 x.st.c, .slice A1 x.sends.length c1, .slice A2 x.outs.length c2, .pointer none] 203)) := balloc (balloc (Below.refl _ _) _) _
  have hL : ((w.alloc (.cells #[.int .i64 x.ev.time, .int .i64 x.ev.to, .int .i64 x.ev.from_, .int .i64 x.ev.count, .int .i64 x.ev.n, .int .i64 x.ev.kind, .int .i64 x.ev.arg, .int .i64 x.st.x, .int .i64 x.st.y, .int .i64 x.st.c, .slice A1 x.sends.length c1, .slice A2 x.outs.length c2] 98)).alloc (.cells #[.int .i64 x.ev.time, .int .i64 x.ev.to, .int .i64 x.ev.from_, .int .i64 x.ev.count, .int .i64 x.ev.n, .int .i64 x.ev.kind, .int .i64 x.ev.arg, .int .i64 x.st.x, .int .i64 x.st.y, .int .i64 x.st.c, .slice A1 x.sends.length c1, .slice A2 x.outs.length c2, .pointer none] 203)).heap[w.heap.size + 1]? = some (.cells #[.int .i64 x.ev.time, .int .i64 x.ev.to, .int .i64 x.ev.from_, .int .i64 x.ev.count, .int .i64 x.ev.n, .int .i64 x.ev.kind, .int .i64 x.ev.arg, .int .i64 x.st.x, .int .i64 x.st.y, .int .i64 x.st.c, .slice A1 x.sends.length c1, .slice A2 x.outs.length c2, .pointer none] 203 (0, 0)) := heap_at (by simp)
  have hBk := below_heap HW hgl h.blk
  have hFn : ¬ F (w.heap.size + 1) := fun hk => by have := h.bd _ hk; omega
  have H := hid (h.below HW)
  have R1 := hid (r1.below HW)
  have R2 := hid (r2.below HW)
  by_cases h0 : xs.length = 0
  · have e0 : atG G xs.length 0 = .pointer none := by simp [atG, h0]
    have e1 : lastG G xs.length = .pointer none := by simp [lastG, h0]
    rw [e0, e1] at hBk
    have H0 := hid h0
    clear h r1 r2 h0 e0 e1
    go_enter Tryz.func112, Tryz.ntmps112
    go_upto_region 2 with fail
    obtain ⟨W, hW⟩ : ∃ W, ((w.alloc (.cells #[.int .i64 x.ev.time, .int .i64 x.ev.to, .int .i64 x.ev.from_, .int .i64 x.ev.count, .int .i64 x.ev.n, .int .i64 x.ev.kind, .int .i64 x.ev.arg, .int .i64 x.st.x, .int .i64 x.st.y, .int .i64 x.st.c, .slice A1 x.sends.length c1, .slice A2 x.outs.length c2] 98)).alloc (.cells #[.int .i64 x.ev.time, .int .i64 x.ev.to, .int .i64 x.ev.from_, .int .i64 x.ev.count, .int .i64 x.ev.n, .int .i64 x.ev.kind, .int .i64 x.ev.arg, .int .i64 x.st.x, .int .i64 x.st.y, .int .i64 x.st.c, .slice A1 x.sends.length c1, .slice A2 x.outs.length c2, .pointer none] 203)) = W := ⟨_, rfl⟩
    have hs : W.heap.size = w.heap.size + 1 + 1 := by rw [← hW]; simp
    have HS := hid hs
    rw [hW] at HW hL hBk H R1 R2 ⊢
    clear hW hs
    have a0 : W.cell? ⟨gc, 0, none⟩ = some (.pointer none) := blk_cell hBk 0
    have a1 : W.cell? ⟨gc, 1, none⟩ = some (.pointer none) := blk_cell hBk 1
    have f0 := blk_frozen hBk 0
    have f1 := blk_frozen hBk 1
    go_wp2_with fail
    have hC : Ch (fun k => k = gc) W ((W.setCell ⟨gc, 0, none⟩ (.pointer (some ⟨w.heap.size + 1, 0, none⟩))).setCell ⟨gc, 1, none⟩ (.pointer (some ⟨w.heap.size + 1, 0, none⟩))) := Ch.setCell (p := ⟨gc, 1, none⟩) (Ch.setCell (p := ⟨gc, 0, none⟩) (Ch.refl (fun k => k = gc) _) (Or.inl rfl) _) (Or.inl rfl) _
    have BX := blk_set (blk_set hBk 0 (.pointer (some ⟨w.heap.size + 1, 0, none⟩))) 1 (.pointer (some ⟨w.heap.size + 1, 0, none⟩))
    simp only [List.setIfInBounds_toArray, List.set_cons_zero, List.set_cons_succ] at BX
    have hX := H.out.grow (w' := (W.setCell ⟨gc, 0, none⟩ (.pointer (some ⟨w.heap.size + 1, 0, none⟩))).setCell ⟨gc, 1, none⟩ (.pointer (some ⟨w.heap.size + 1, 0, none⟩))) (gn := w.heap.size + 1) x (.slice A1 x.sends.length c1) (.slice A2 x.outs.length c2) (by omega) (fun j hj => by have := H0.out; omega) hFn (hC.mono (fun k hk => .inl hk)) (by rw [BX, if_pos H0.out]) (hC.heap hL (by omega)) (fun hp => by have := H0.out; omega) R1.out R2.out
    go_end0
    exact ⟨rfl, ⟨_, hX⟩, ((HW.mono hB).setCell (p := ⟨gc, 0, none⟩) hgc _).setCell (p := ⟨gc, 1, none⟩) hgc _⟩
  · have hp : xs.length - 1 < xs.length := by omega
    obtain ⟨us, uo, hl, -, -⟩ := h.at_ (xs.length - 1) hp
    have hll := blk_lt hl
    have hgl2 := h.gt (xs.length - 1) hp
    have hbl := fun j (hj : j < xs.length) => (show G j < w.heap.size by obtain ⟨a, b, h9, -⟩ := h.at_ j hj; exact blk_lt h9)
    have e2 : atG G xs.length (xs.length - 1 + 1) = .pointer none := by rw [atG, if_neg (by omega)]
    rw [e2] at hl
    have hLk := below_heap HW hll hl
    have e1 : lastG G xs.length = .pointer (some ⟨G (xs.length - 1), 0, none⟩) := by simp [lastG, h0]
    rw [e1] at hBk
    obtain ⟨gl, hgl9⟩ : ∃ g, G (xs.length - 1) = g := ⟨_, rfl⟩
    have HGL := hid hgl9
    rw [hgl9] at hBk hLk hll hgl2
    have H0 := hid h0
    have HBL := hid hbl
    have hne1 : gc ≠ gl := by omega
    have hne2 : gl ≠ gc := by omega
    clear h r1 r2 h0 e1 e2 hgl9 hbl hl
    go_enter Tryz.func112, Tryz.ntmps112
    go_upto_region 2 with fail
    obtain ⟨W, hW⟩ : ∃ W, ((w.alloc (.cells #[.int .i64 x.ev.time, .int .i64 x.ev.to, .int .i64 x.ev.from_, .int .i64 x.ev.count, .int .i64 x.ev.n, .int .i64 x.ev.kind, .int .i64 x.ev.arg, .int .i64 x.st.x, .int .i64 x.st.y, .int .i64 x.st.c, .slice A1 x.sends.length c1, .slice A2 x.outs.length c2] 98)).alloc (.cells #[.int .i64 x.ev.time, .int .i64 x.ev.to, .int .i64 x.ev.from_, .int .i64 x.ev.count, .int .i64 x.ev.n, .int .i64 x.ev.kind, .int .i64 x.ev.arg, .int .i64 x.st.x, .int .i64 x.st.y, .int .i64 x.st.c, .slice A1 x.sends.length c1, .slice A2 x.outs.length c2, .pointer none] 203)) = W := ⟨_, rfl⟩
    have hs : W.heap.size = w.heap.size + 1 + 1 := by rw [← hW]; simp
    have HS := hid hs
    rw [hW] at HW hL hBk H R1 R2 hLk ⊢
    clear hW hs
    have a0 : W.cell? ⟨gc, 0, none⟩ = some (atG G xs.length 0) := blk_cell hBk 0
    have a1 : W.cell? ⟨gc, 1, none⟩ = some (.pointer (some ⟨gl, 0, none⟩)) := blk_cell hBk 1
    have b12 : W.cell? ⟨gl, 12, none⟩ = some (.pointer none) := by rw [blk_cell hLk]; rfl
    have f0 := blk_frozen hBk 0
    have f1 := blk_frozen hBk 1
    have f2 := blk_frozen hLk 12
    go_wp2_with fail
    have hC : Ch (fun k => k = gc ∨ k = gl) W ((W.setCell ⟨gl, 12, none⟩ (.pointer (some ⟨w.heap.size + 1, 0, none⟩))).setCell ⟨gc, 1, none⟩ (.pointer (some ⟨w.heap.size + 1, 0, none⟩))) := Ch.setCell (p := ⟨gc, 1, none⟩) (Ch.setCell (p := ⟨gl, 12, none⟩) (Ch.refl (fun k => k = gc ∨ k = gl) _) (Or.inl (Or.inr rfl)) _) (Or.inl (Or.inl rfl)) _
    have hC1 : Ch (fun k => k = gl) W (W.setCell ⟨gl, 12, none⟩ (.pointer (some ⟨w.heap.size + 1, 0, none⟩))) := Ch.setCell (p := ⟨gl, 12, none⟩) (Ch.refl (fun k => k = gl) _) (Or.inl rfl) _
    have hC2 : Ch (fun k => k = gc) (W.setCell ⟨gl, 12, none⟩ (.pointer (some ⟨w.heap.size + 1, 0, none⟩))) ((W.setCell ⟨gl, 12, none⟩ (.pointer (some ⟨w.heap.size + 1, 0, none⟩))).setCell ⟨gc, 1, none⟩ (.pointer (some ⟨w.heap.size + 1, 0, none⟩))) := Ch.setCell (p := ⟨gc, 1, none⟩) (Ch.refl (fun k => k = gc) _) (Or.inl rfl) _
    have BX := blk_set (hC1.heap hBk hne1) 1 (.pointer (some ⟨w.heap.size + 1, 0, none⟩))
    simp only [List.setIfInBounds_toArray, List.set_cons_zero, List.set_cons_succ] at BX
    have hX := H.out.grow (w' := (W.setCell ⟨gl, 12, none⟩ (.pointer (some ⟨w.heap.size + 1, 0, none⟩))).setCell ⟨gc, 1, none⟩ (.pointer (some ⟨w.heap.size + 1, 0, none⟩))) (gn := w.heap.size + 1) x (.slice A1 x.sends.length c1) (.slice A2 x.outs.length c2) (by omega) (fun j hj => by have := HBL.out j hj; omega) hFn (hC.mono (fun k hk => hk.imp_right fun e => ⟨by have := H0.out; omega, by rw [HGL.out]; exact e⟩)) (by rw [BX, if_neg H0.out]) (hC.heap hL (by omega))
      (fun hp2 us9 uo9 h9 => by
        rw [HGL.out] at h9 ⊢
        have := hC2.heap (blk_set h9 12 (.pointer (some ⟨w.heap.size + 1, 0, none⟩))) hne2
        rw [this]
        rfl) R1.out R2.out
    go_end0
    exact ⟨rfl, ⟨_, hX⟩, ((HW.mono hB).setCell (p := ⟨gl, 12, none⟩) (by show B ≤ gl; omega) _).setCell (p := ⟨gc, 1, none⟩) hgc _⟩
set_option maxHeartbeats 1000000 in
theorem chainOf_c (v : Value) (xs : List PastD) (F : Nat → Prop) (w : World) (h : Rd tPast w F v xs) (hF : ∀ k, F k → k < w.heap.size) :
    Calls Tryz.prog 111 #[v] w fun q w' => ∃ gc G, q = .returned (.pointer (some ⟨gc, 0, none⟩)) ∧ w.heap.size ≤ gc ∧ ChainAt w' F gc xs G ∧ Below w.heap.size w w' := by
  obtain ⟨A, c, rfl, -, hlen, -⟩ := id h
  have HW : Below w.heap.size w (w.alloc (.cells #[.pointer none, .pointer none] 201)) := balloc (Below.refl _ _) _
  have Z : (w.alloc (.cells #[.pointer none, .pointer none] 201)).heap[w.heap.size]? = some (.cells #[.pointer none, .pointer none] 201 (0, 0)) := heap_at rfl
  go_enter Tryz.func111, Tryz.ntmps111
  go_wp2_with fail
  obtain ⟨gc, hgc⟩ : ∃ g, g = w.heap.size := ⟨_, rfl⟩
  have HGC := hid (show w.heap.size ≤ gc ∧ gc ≤ w.heap.size by omega)
  rw [← hgc] at Z
  simp only [← hgc]
  have hch : ChainAt (w.alloc (.cells #[.pointer none, .pointer none] 201)) F gc [] (fun j => j) := ⟨by simpa [atG, lastG] using Z, fun j hj => by simp at hj, fun i j _ hj => by simp at hj, fun j hj => by simp at hj, fun hk => by have h3 : gc < w.heap.size := hF _ hk; omega, fun j hj => by simp at hj, fun k hk => by have h3 : k < w.heap.size := hF _ hk; simp; omega⟩
  generalize w.alloc (.cells #[.pointer none, .pointer none] 201) = W at *
  clear hgc Z
  go_loopw [10] (fun i wr => ∃ (k : Nat) (G : Nat → Nat), i = .int .i64 k ∧ k ≤ xs.length ∧ ChainAt wr F gc (xs.take k) G ∧ Below w.heap.size w wr) (fun i _ => xs.length - (intOf i).toNat)
  case atStart => exact ⟨0, _, rfl, Nat.zero_le _, by simpa using hch, HW⟩
  case round =>
    clear hch
    obtain ⟨k, G, rfl, hk, hc, hb⟩ := hrel
    by_cases hlt : k < xs.length
    · obtain ⟨b0, o0, A1, c1, A2, c2, rfl, hb0, ⟨y0, y1, y2, y3, y4, y5, y6⟩, ⟨y7, y8, y9⟩, y10, y11, r1, r2⟩ := past_at (h.below hb) k hlt
      have p0 : (k : Int) < (xs.length : Int) := by omega
      have hbx := balloc (Below.refl wr.heap.size wr) (.cells #[.int .i64 xs[k].ev.time, .int .i64 xs[k].ev.to, .int .i64 xs[k].ev.from_, .int .i64 xs[k].ev.count, .int .i64 xs[k].ev.n, .int .i64 xs[k].ev.kind, .int .i64 xs[k].ev.arg, .int .i64 xs[k].st.x, .int .i64 xs[k].st.y, .int .i64 xs[k].st.c, .slice A1 xs[k].sends.length c1, .slice A2 xs[k].outs.length c2] 98)
      have hc2 := hc.below hbx
      have q1 := r1.below hbx
      have q2 := r2.below hbx
      have hb2 := bthen hb hbx hb.size
      go_wp2_with fail
      refine (chainAdd_c gc w.heap.size _ (xs.take k) G xs[k] _ _ _ hc2 hb2.size (by have := HGC.out; omega) q1 q2).mono ?_
      rintro q w2 ⟨rfl, ⟨G', hc3⟩, hb3⟩
      have hb4 := hb2.trans hb3
      rw [← List.take_succ_eq_append_getElem hlt] at hc3
      apply_assumption
      go_wp2_with fail
      go_roundw
      case rel => exact ⟨k + 1, G', by go_num, by omega, hc3, hb4⟩
      case measure => simp [intOf]; omega
    · have hkl : k = xs.length := by omega
      subst hkl
      rw [List.take_length] at hc
      go_wp2_with fail
      go_ret
      exact ⟨gc, G, rfl, HGC.out.1, hc, hb⟩
set_option maxHeartbeats 1000000 in
theorem agreeing_c (gc : Nat) (E : Nat → Prop) (xs : List PastD) (G : Nat → Nat) (came : List EvD) (vc : Value) (F : Nat → Prop) (w : World) (h : ChainAt w E gc xs G) (hc : Rd tEv w F vc came) :
    Calls Tryz.prog 149 #[.pointer (some ⟨gc, 0, none⟩), vc] w fun q w' => q = .returned (.int .i64 (laneSame xs came : Nat)) ∧ Below w.heap.size w w' := by
  obtain ⟨C, cc, rfl, -, hlc, -⟩ := id hc
  have a0 : w.cell? ⟨gc, 0, none⟩ = some (atG G xs.length 0) := blk_cell h.blk 0
  go_enter Tryz.func149, Tryz.ntmps149
  go_wp2_with fail
  go_loopw [5, 6] (fun i l wr => ∃ k : Nat, i = .int .i64 k ∧ l = atG G xs.length k ∧ k ≤ xs.length ∧ k ≤ came.length ∧ Hid (laneSame xs came = k + laneSame (xs.drop k) (came.drop k)) ∧ Below w.heap.size w wr) (fun i _ _ => xs.length - (intOf i).toNat)
  case atStart => exact ⟨0, rfl, rfl, Nat.zero_le _, Nat.zero_le _, hid (by simp), Below.refl _ _⟩
  case round =>
    clear a0
    obtain ⟨k, rfl, rfl, hk, hk2, HS, hb⟩ := hrel
    have hcr := hc.below hb
    have hr := h.below hb
    by_cases h1 : k < xs.length
    case neg =>
      have HF := hid (show laneSame xs came = k by have h9 := HS.out; rw [same_stop1 (by omega)] at h9; omega)
      have e0 : atG G xs.length k = .pointer none := by rw [atG, if_neg h1]
      rw [e0]
      clear h1 e0
      go_upto_region 3 with fail
      refine region_sg [.rd [0], .mid 1, .rd [2, 3, 4, 5, 6, 7, 8, 9, 10, 11, 12, 13, 14, 15, 16, 17]] [18, 19] (by kernel_rfl) (by kernel_rfl) (fun _ _ d _ _ h => by cases d <;> exact h) ?_
      refine sg_rd (fun N hN => ?_)
      simp only [pickO, List.getElem?_toArray, List.getElem?_cons_zero, List.getElem?_cons_succ]
      go_wp2_with fail
      refine rd_next (hN _ ?_)
      clear hN N
      refine sg_mid (fun N hN => ?_)
      simp only [pickO, List.getElem?_toArray, List.getElem?_cons_zero, List.getElem?_cons_succ]
      go_wp2_with fail
      refine mid_next (Agree.of_below (Below.refl _ _)) (hN _ _ ?_)
      clear hN
      refine sg_rd (fun N hN => ?_)
      simp only [pickO, List.getElem?_toArray, List.getElem?_cons_zero, List.getElem?_cons_succ]
      go_wp2_with fail
      refine rd_next (hN _ ?_)
      clear hN N
      refine sg_fin ?_
      simp only [pickO, List.getElem?_toArray, List.getElem?_cons_zero, List.getElem?_cons_succ]
      have hbD := hb.drew
      go_wp2_with fail
      go_ret
      exact ⟨by rw [HF.out]; rfl, hbD⟩
    have e0 : atG G xs.length k = .pointer (some ⟨G k, 0, none⟩) := by rw [atG, if_pos h1]
    rw [e0]
    by_cases h2 : k < came.length
    case neg =>
      have HF := hid (show laneSame xs came = k by have h9 := HS.out; rw [same_stop2 (by omega)] at h9; omega)
      have p1 : decide ((k : Int) < (came.length : Int)) = false := decide_eq_false (by omega)
      have p9 : decide (k < came.length) = false := decide_eq_false h2
      clear h2 e0
      go_upto_region 3 with fail
      refine region_sg [.rd [0], .mid 1, .rd [2, 3, 4, 5, 6, 7, 8, 9, 10, 11, 12, 13, 14, 15, 16, 17]] [18, 19] (by kernel_rfl) (by kernel_rfl) (fun _ _ d _ _ h => by cases d <;> exact h) ?_
      refine sg_rd (fun N hN => ?_)
      simp only [pickO, List.getElem?_toArray, List.getElem?_cons_zero, List.getElem?_cons_succ]
      go_wp2_with fail
      refine rd_next (hN _ ?_)
      clear hN N
      refine sg_mid (fun N hN => ?_)
      simp only [pickO, List.getElem?_toArray, List.getElem?_cons_zero, List.getElem?_cons_succ]
      go_wp2_with fail
      refine mid_next (Agree.of_below (Below.refl _ _)) (hN _ _ ?_)
      clear hN
      refine sg_rd (fun N hN => ?_)
      simp only [pickO, List.getElem?_toArray, List.getElem?_cons_zero, List.getElem?_cons_succ]
      go_wp2_with fail
      refine rd_next (hN _ ?_)
      clear hN N
      refine sg_fin ?_
      simp only [pickO, List.getElem?_toArray, List.getElem?_cons_zero, List.getElem?_cons_succ]
      have hbD := hb.drew
      go_wp2_with fail
      go_ret
      exact ⟨by rw [HF.out]; rfl, hbD⟩
    have p1 : (k : Int) < (came.length : Int) := by omega
    obtain ⟨vs, vo, hl, -, -⟩ := hr.at_ k h1
    obtain ⟨b1, o1, rfl, hb1, z0, z1, z2, z3, z4, z5, z6⟩ := ev_at hcr k h2
    have y0 : wr.cell? ⟨G k, 0, none⟩ = some (.int .i64 xs[k].ev.time) := by rw [blk_cell hl]; rfl
    have y1 : wr.cell? ⟨G k, 1, none⟩ = some (.int .i64 xs[k].ev.to) := by rw [blk_cell hl]; rfl
    have y2 : wr.cell? ⟨G k, 2, none⟩ = some (.int .i64 xs[k].ev.from_) := by rw [blk_cell hl]; rfl
    have y3 : wr.cell? ⟨G k, 3, none⟩ = some (.int .i64 xs[k].ev.count) := by rw [blk_cell hl]; rfl
    have y4 : wr.cell? ⟨G k, 4, none⟩ = some (.int .i64 xs[k].ev.n) := by rw [blk_cell hl]; rfl
    have y5 : wr.cell? ⟨G k, 5, none⟩ = some (.int .i64 xs[k].ev.kind) := by rw [blk_cell hl]; rfl
    have y6 : wr.cell? ⟨G k, 6, none⟩ = some (.int .i64 xs[k].ev.arg) := by rw [blk_cell hl]; rfl
    have y12 : wr.cell? ⟨G k, 12, none⟩ = some (atG G xs.length (k + 1)) := by rw [blk_cell hl]; rfl
    by_cases he : xs[k].ev = came[k]
    · have HN := hid (show laneSame xs came = (k + 1) + laneSame (xs.drop (k + 1)) (came.drop (k + 1)) by have h9 := HS.out; rw [same_go h1 h2 he] at h9; omega)
      obtain ⟨x, hx⟩ : ∃ x, xs[k].ev = x := ⟨_, rfl⟩
      obtain ⟨y, hy⟩ : ∃ y, came[k] = y := ⟨_, rfl⟩
      rw [hx] at y0 y1 y2 y3 y4 y5 y6
      rw [hy] at z0 z1 z2 z3 z4 z5 z6
      have hd : decide (x = y) = true := decide_eq_true (by rw [← hx, ← hy]; exact he)
      clear hx hy he e0 hl
      go_upto_region 3 with fail
      refine region_sg [.rd [0], .mid 1, .rd [2, 3, 4, 5, 6, 7, 8, 9, 10, 11, 12, 13, 14, 15, 16, 17]] [18, 19] (by kernel_rfl) (by kernel_rfl) (fun _ _ d _ _ h => by cases d <;> exact h) ?_
      refine sg_rd (fun N hN => ?_)
      simp only [pickO, List.getElem?_toArray, List.getElem?_cons_zero, List.getElem?_cons_succ]
      go_wp2_with fail
      refine rd_next (hN _ ?_)
      clear hN N
      refine sg_mid (fun N hN => ?_)
      simp only [pickO, List.getElem?_toArray, List.getElem?_cons_zero, List.getElem?_cons_succ]
      go_wp2_with fail
      refine mid_next (Agree.of_below (Below.refl _ _)) (hN _ _ ?_)
      clear hN
      refine sg_rd (fun N hN => ?_)
      simp only [pickO, List.getElem?_toArray, List.getElem?_cons_zero, List.getElem?_cons_succ]
      go_wp2_with fail
      refine rd_next (hN _ ?_)
      clear hN N
      refine sg_fin ?_
      simp only [pickO, List.getElem?_toArray, List.getElem?_cons_zero, List.getElem?_cons_succ]
      have hbD := hb.drew
      go_wp2_with fail
      go_roundw
      case rel => exact ⟨k + 1, by go_num, rfl, by omega, by omega, HN, hbD⟩
      case measure => simp [intOf]; omega
    · have HF := hid (show laneSame xs came = k by have h9 := HS.out; rw [same_stop3 h1 h2 he] at h9; omega)
      obtain ⟨x, hx⟩ : ∃ x, xs[k].ev = x := ⟨_, rfl⟩
      obtain ⟨y, hy⟩ : ∃ y, came[k] = y := ⟨_, rfl⟩
      rw [hx] at y0 y1 y2 y3 y4 y5 y6
      rw [hy] at z0 z1 z2 z3 z4 z5 z6
      have hd : decide (x = y) = false := decide_eq_false (by rw [← hx, ← hy]; exact he)
      clear hx hy he e0 hl
      go_upto_region 3 with fail
      refine region_sg [.rd [0], .mid 1, .rd [2, 3, 4, 5, 6, 7, 8, 9, 10, 11, 12, 13, 14, 15, 16, 17]] [18, 19] (by kernel_rfl) (by kernel_rfl) (fun _ _ d _ _ h => by cases d <;> exact h) ?_
      refine sg_rd (fun N hN => ?_)
      simp only [pickO, List.getElem?_toArray, List.getElem?_cons_zero, List.getElem?_cons_succ]
      go_wp2_with fail
      refine rd_next (hN _ ?_)
      clear hN N
      refine sg_mid (fun N hN => ?_)
      simp only [pickO, List.getElem?_toArray, List.getElem?_cons_zero, List.getElem?_cons_succ]
      go_wp2_with fail
      refine mid_next (Agree.of_below (Below.refl _ _)) (hN _ _ ?_)
      clear hN
      refine sg_rd (fun N hN => ?_)
      simp only [pickO, List.getElem?_toArray, List.getElem?_cons_zero, List.getElem?_cons_succ]
      go_wp2_with fail
      refine rd_next (hN _ ?_)
      clear hN N
      refine sg_fin ?_
      simp only [pickO, List.getElem?_toArray, List.getElem?_cons_zero, List.getElem?_cons_succ]
      have hbD := hb.drew
      go_wp2_with fail
      go_ret
      exact ⟨by rw [HF.out]; rfl, hbD⟩
end Go.Proofs.YtbcemldiahghcaaGreat

namespace Go.Proofs.YtbcemldiahghcaaGreat
set_option linter.unusedVariables false
set_option linter.unusedSimpArgs false
set_option maxRecDepth 100000
open Go.RowKit
set_option maxHeartbeats 1000000 in
theorem laneNextI_c (l : LaneD) (v vc : Value) (came : List EvD) (F G : Nat → Prop) (w : World) (h : Rd tPast w F v l.done) (hc : Rd tEv w G vc came) (qk : laneOk l = true) (qc : cameOk l came = true) :
    Calls Tryz.prog 109 #[.agg #[.int .i64 l.proc, .int .i64 l.base.x, .int .i64 l.base.y, .int .i64 l.base.c, v], vc] w (NextPost l came w) := by
  obtain ⟨A, c, rfl, -, hlen, -⟩ := id h
  obtain ⟨B, b, rfl, -, hlc, -⟩ := id hc
  have HW : Below w.heap.size w ((w.alloc (.cells #[.int .i64 l.proc, .int .i64 l.base.x, .int .i64 l.base.y, .int .i64 l.base.c, .slice A l.done.length c] 52)).alloc (.cells #[.int .i64 0, .int .i64 0, .int .i64 0, .int .i64 0, .int .i64 0, .int .i64 0, .int .i64 0] 80)) := balloc (balloc (Below.refl _ _) _) _
  have Z : ((w.alloc (.cells #[.int .i64 l.proc, .int .i64 l.base.x, .int .i64 l.base.y, .int .i64 l.base.c, .slice A l.done.length c] 52)).alloc (.cells #[.int .i64 0, .int .i64 0, .int .i64 0, .int .i64 0, .int .i64 0, .int .i64 0, .int .i64 0] 80)).heap[w.heap.size]? = some (.cells #[.int .i64 l.proc, .int .i64 l.base.x, .int .i64 l.base.y, .int .i64 l.base.c, .slice A l.done.length c] 52 (0, 0)) := (heap_old (by simp)).trans (heap_at rfl)
  have Y : ((w.alloc (.cells #[.int .i64 l.proc, .int .i64 l.base.x, .int .i64 l.base.y, .int .i64 l.base.c, .slice A l.done.length c] 52)).alloc (.cells #[.int .i64 0, .int .i64 0, .int .i64 0, .int .i64 0, .int .i64 0, .int .i64 0, .int .i64 0] 80)).heap[w.heap.size + 1]? = some (.cells #[.int .i64 0, .int .i64 0, .int .i64 0, .int .i64 0, .int .i64 0, .int .i64 0, .int .i64 0] 80 (0, 0)) := heap_at (by simp)
  go_enter Tryz.func109, Tryz.ntmps109
  go_wp2_with fail
  generalize (w.alloc (.cells #[.int .i64 l.proc, .int .i64 l.base.x, .int .i64 l.base.y, .int .i64 l.base.c, .slice A l.done.length c] 52)).alloc (.cells #[.int .i64 0, .int .i64 0, .int .i64 0, .int .i64 0, .int .i64 0, .int .i64 0, .int .i64 0] 80) = W at *
  replace h := h.below HW
  replace hc := hc.below HW
  have c0 : W.cell? ⟨w.heap.size, 0, none⟩ = some (.int .i64 l.proc) := blk_cell Z 0
  have c1 : W.cell? ⟨w.heap.size, 1, none⟩ = some (.int .i64 l.base.x) := blk_cell Z 1
  have c2 : W.cell? ⟨w.heap.size, 2, none⟩ = some (.int .i64 l.base.y) := blk_cell Z 2
  have c3 : W.cell? ⟨w.heap.size, 3, none⟩ = some (.int .i64 l.base.c) := blk_cell Z 3
  have c4 : W.cell? ⟨w.heap.size, 4, none⟩ = some (.slice A l.done.length c) := blk_cell Z 4
  have d0 : W.cell? ⟨w.heap.size + 1, 0, none⟩ = some (.int .i64 0) := blk_cell Y 0
  have d1 : W.cell? ⟨w.heap.size + 1, 1, none⟩ = some (.int .i64 0) := blk_cell Y 1
  have d2 : W.cell? ⟨w.heap.size + 1, 2, none⟩ = some (.int .i64 0) := blk_cell Y 2
  have d3 : W.cell? ⟨w.heap.size + 1, 3, none⟩ = some (.int .i64 0) := blk_cell Y 3
  have d4 : W.cell? ⟨w.heap.size + 1, 4, none⟩ = some (.int .i64 0) := blk_cell Y 4
  have d5 : W.cell? ⟨w.heap.size + 1, 5, none⟩ = some (.int .i64 0) := blk_cell Y 5
  have d6 : W.cell? ⟨w.heap.size + 1, 6, none⟩ = some (.int .i64 0) := blk_cell Y 6
  have f0 := blk_frozen Y 0
  have f1 := blk_frozen Y 1
  have f2 := blk_frozen Y 2
  have f3 := blk_frozen Y 3
  have f4 := blk_frozen Y 4
  have f5 := blk_frozen Y 5
  have f6 := blk_frozen Y 6
  refine (chainOf_c _ l.done _ _ h.bound (fun k hk => hk.2)).mono ?_
  rintro q w1 ⟨gc, G, rfl, -, hch, hb⟩
  replace HW := bthen HW hb HW.size
  replace Z := below_heap hb (blk_lt Z) Z
  replace Y := below_heap hb (blk_lt Y) Y
  replace h := h.below hb
  replace hc := hc.below hb
  clear hb
  clear c0 c1 c2 c3 c4 d0 f0 d1 f1 d2 f2 d3 f3 d4 f4 d5 f5 d6 f6
  have c0 : w1.cell? ⟨w.heap.size, 0, none⟩ = some (.int .i64 l.proc) := blk_cell Z 0
  have c1 : w1.cell? ⟨w.heap.size, 1, none⟩ = some (.int .i64 l.base.x) := blk_cell Z 1
  have c2 : w1.cell? ⟨w.heap.size, 2, none⟩ = some (.int .i64 l.base.y) := blk_cell Z 2
  have c3 : w1.cell? ⟨w.heap.size, 3, none⟩ = some (.int .i64 l.base.c) := blk_cell Z 3
  have c4 : w1.cell? ⟨w.heap.size, 4, none⟩ = some (.slice A l.done.length c) := blk_cell Z 4
  have d0 : w1.cell? ⟨w.heap.size + 1, 0, none⟩ = some (.int .i64 0) := blk_cell Y 0
  have d1 : w1.cell? ⟨w.heap.size + 1, 1, none⟩ = some (.int .i64 0) := blk_cell Y 1
  have d2 : w1.cell? ⟨w.heap.size + 1, 2, none⟩ = some (.int .i64 0) := blk_cell Y 2
  have d3 : w1.cell? ⟨w.heap.size + 1, 3, none⟩ = some (.int .i64 0) := blk_cell Y 3
  have d4 : w1.cell? ⟨w.heap.size + 1, 4, none⟩ = some (.int .i64 0) := blk_cell Y 4
  have d5 : w1.cell? ⟨w.heap.size + 1, 5, none⟩ = some (.int .i64 0) := blk_cell Y 5
  have d6 : w1.cell? ⟨w.heap.size + 1, 6, none⟩ = some (.int .i64 0) := blk_cell Y 6
  have f0 := blk_frozen Y 0
  have f1 := blk_frozen Y 1
  have f2 := blk_frozen Y 2
  have f3 := blk_frozen Y 3
  have f4 := blk_frozen Y 4
  have f5 := blk_frozen Y 5
  have f6 := blk_frozen Y 6
  apply_assumption
  go_wp2_with fail
  refine (agreeing_c gc _ l.done G came _ _ _ hch hc).mono ?_
  rintro q w3 ⟨rfl, hb⟩
  clear hch
  replace HW := bthen HW hb HW.size
  replace Z := below_heap hb (blk_lt Z) Z
  replace Y := below_heap hb (blk_lt Y) Y
  replace h := h.below hb
  replace hc := hc.below hb
  clear hb
  clear c0 c1 c2 c3 c4 d0 f0 d1 f1 d2 f2 d3 f3 d4 f4 d5 f5 d6 f6
  have c0 : w3.cell? ⟨w.heap.size, 0, none⟩ = some (.int .i64 l.proc) := blk_cell Z 0
  have c1 : w3.cell? ⟨w.heap.size, 1, none⟩ = some (.int .i64 l.base.x) := blk_cell Z 1
  have c2 : w3.cell? ⟨w.heap.size, 2, none⟩ = some (.int .i64 l.base.y) := blk_cell Z 2
  have c3 : w3.cell? ⟨w.heap.size, 3, none⟩ = some (.int .i64 l.base.c) := blk_cell Z 3
  have c4 : w3.cell? ⟨w.heap.size, 4, none⟩ = some (.slice A l.done.length c) := blk_cell Z 4
  have d0 : w3.cell? ⟨w.heap.size + 1, 0, none⟩ = some (.int .i64 0) := blk_cell Y 0
  have d1 : w3.cell? ⟨w.heap.size + 1, 1, none⟩ = some (.int .i64 0) := blk_cell Y 1
  have d2 : w3.cell? ⟨w.heap.size + 1, 2, none⟩ = some (.int .i64 0) := blk_cell Y 2
  have d3 : w3.cell? ⟨w.heap.size + 1, 3, none⟩ = some (.int .i64 0) := blk_cell Y 3
  have d4 : w3.cell? ⟨w.heap.size + 1, 4, none⟩ = some (.int .i64 0) := blk_cell Y 4
  have d5 : w3.cell? ⟨w.heap.size + 1, 5, none⟩ = some (.int .i64 0) := blk_cell Y 5
  have d6 : w3.cell? ⟨w.heap.size + 1, 6, none⟩ = some (.int .i64 0) := blk_cell Y 6
  have f0 := blk_frozen Y 0
  have f1 := blk_frozen Y 1
  have f2 := blk_frozen Y 2
  have f3 := blk_frozen Y 3
  have f4 := blk_frozen Y 4
  have f5 := blk_frozen Y 5
  have f6 := blk_frozen Y 6
  have HE := hid (show nextE l came = laneNext l came by unfold nextE; rw [if_pos ⟨qk, qc⟩])
  have hle := same_le l.done came
  obtain ⟨n, hn⟩ : ∃ n, laneSame l.done came = n := ⟨_, rfl⟩
  rw [hn] at hle ⊢
  have HN := hid hn
  by_cases h1 : n < l.done.length
  case pos =>
    have HF := hid (show nextE l came = none by rw [HE.out, laneNext, hn, if_pos h1])
    have p0 : decide ((n : Int) < (l.done.length : Int)) = true := decide_eq_true (by omega)
    have p9 : decide (n < l.done.length) = true := decide_eq_true h1
    clear hn h1 hle
    apply_assumption
    go_wp2_with fail
    have hbX : Below w.heap.size w (((((((w3.setCell ⟨w.heap.size + 1, 0, none⟩ (.int .i64 0)).setCell ⟨w.heap.size + 1, 1, none⟩ (.int .i64 0)).setCell ⟨w.heap.size + 1, 2, none⟩ (.int .i64 0)).setCell ⟨w.heap.size + 1, 3, none⟩ (.int .i64 0)).setCell ⟨w.heap.size + 1, 4, none⟩ (.int .i64 0)).setCell ⟨w.heap.size + 1, 5, none⟩ (.int .i64 0)).setCell ⟨w.heap.size + 1, 6, none⟩ (.int .i64 0)) := (((((((HW.setCell (p := ⟨w.heap.size + 1, 0, none⟩) (Nat.le_succ _) (.int .i64 0)).setCell (p := ⟨w.heap.size + 1, 1, none⟩) (Nat.le_succ _) (.int .i64 0)).setCell (p := ⟨w.heap.size + 1, 2, none⟩) (Nat.le_succ _) (.int .i64 0)).setCell (p := ⟨w.heap.size + 1, 3, none⟩) (Nat.le_succ _) (.int .i64 0)).setCell (p := ⟨w.heap.size + 1, 4, none⟩) (Nat.le_succ _) (.int .i64 0)).setCell (p := ⟨w.heap.size + 1, 5, none⟩) (Nat.le_succ _) (.int .i64 0)).setCell (p := ⟨w.heap.size + 1, 6, none⟩) (Nat.le_succ _) (.int .i64 0))
    have BX := (blk_set (blk_set (blk_set (blk_set (blk_set (blk_set (blk_set Y 0 (.int .i64 0)) 1 (.int .i64 0)) 2 (.int .i64 0)) 3 (.int .i64 0)) 4 (.int .i64 0)) 5 (.int .i64 0)) 6 (.int .i64 0))
    simp only [List.setIfInBounds_toArray, List.set_cons_zero, List.set_cons_succ] at BX
    generalize (((((((w3.setCell ⟨w.heap.size + 1, 0, none⟩ (.int .i64 0)).setCell ⟨w.heap.size + 1, 1, none⟩ (.int .i64 0)).setCell ⟨w.heap.size + 1, 2, none⟩ (.int .i64 0)).setCell ⟨w.heap.size + 1, 3, none⟩ (.int .i64 0)).setCell ⟨w.heap.size + 1, 4, none⟩ (.int .i64 0)).setCell ⟨w.heap.size + 1, 5, none⟩ (.int .i64 0)).setCell ⟨w.heap.size + 1, 6, none⟩ (.int .i64 0)) = W12 at *
    have s0 : W12.cell? ⟨w.heap.size + 1, 0, none⟩ = some (.int .i64 0) := blk_cell BX 0
    have s1 : W12.cell? ⟨w.heap.size + 1, 1, none⟩ = some (.int .i64 0) := blk_cell BX 1
    have s2 : W12.cell? ⟨w.heap.size + 1, 2, none⟩ = some (.int .i64 0) := blk_cell BX 2
    have s3 : W12.cell? ⟨w.heap.size + 1, 3, none⟩ = some (.int .i64 0) := blk_cell BX 3
    have s4 : W12.cell? ⟨w.heap.size + 1, 4, none⟩ = some (.int .i64 0) := blk_cell BX 4
    have s5 : W12.cell? ⟨w.heap.size + 1, 5, none⟩ = some (.int .i64 0) := blk_cell BX 5
    have s6 : W12.cell? ⟨w.heap.size + 1, 6, none⟩ = some (.int .i64 0) := blk_cell BX 6
    refine bodyPost_ret (v := .tuple #[.agg #[.int .i64 0, .int .i64 0, .int .i64 0, .int .i64 0, .int .i64 0, .int .i64 0, .int .i64 0], .bool false]) (by simp only [results, Tryz.results109]; go_simp) rfl ⟨⟨0, 0, 0, 0, 0, 0, 0⟩, false, rfl, (fun hh => by cases hh), (fun _ => HF.out), hbX⟩
  have p0 : decide ((n : Int) < (l.done.length : Int)) = false := decide_eq_false (by omega)
  have p9 : decide (n < l.done.length) = false := decide_eq_false h1
  by_cases h2 : came.length ≤ n
  case pos =>
    have HF := hid (show nextE l came = none by rw [HE.out, laneNext, hn, if_neg h1, List.getElem?_eq_none h2])
    have p1 : decide ((n : Int) = (came.length : Int)) = true := decide_eq_true (by omega)
    have p2 : decide (n = came.length) = true := decide_eq_true (by omega)
    have p3 : ((n : Int) == (came.length : Int)) = true := by simp; omega
    have p4 : (n == came.length) = true := by simp; omega
    clear hn h1 h2 hle
    apply_assumption
    go_wp2_with fail
    have hbX : Below w.heap.size w (((((((w3.setCell ⟨w.heap.size + 1, 0, none⟩ (.int .i64 0)).setCell ⟨w.heap.size + 1, 1, none⟩ (.int .i64 0)).setCell ⟨w.heap.size + 1, 2, none⟩ (.int .i64 0)).setCell ⟨w.heap.size + 1, 3, none⟩ (.int .i64 0)).setCell ⟨w.heap.size + 1, 4, none⟩ (.int .i64 0)).setCell ⟨w.heap.size + 1, 5, none⟩ (.int .i64 0)).setCell ⟨w.heap.size + 1, 6, none⟩ (.int .i64 0)) := (((((((HW.setCell (p := ⟨w.heap.size + 1, 0, none⟩) (Nat.le_succ _) (.int .i64 0)).setCell (p := ⟨w.heap.size + 1, 1, none⟩) (Nat.le_succ _) (.int .i64 0)).setCell (p := ⟨w.heap.size + 1, 2, none⟩) (Nat.le_succ _) (.int .i64 0)).setCell (p := ⟨w.heap.size + 1, 3, none⟩) (Nat.le_succ _) (.int .i64 0)).setCell (p := ⟨w.heap.size + 1, 4, none⟩) (Nat.le_succ _) (.int .i64 0)).setCell (p := ⟨w.heap.size + 1, 5, none⟩) (Nat.le_succ _) (.int .i64 0)).setCell (p := ⟨w.heap.size + 1, 6, none⟩) (Nat.le_succ _) (.int .i64 0))
    have BX := (blk_set (blk_set (blk_set (blk_set (blk_set (blk_set (blk_set Y 0 (.int .i64 0)) 1 (.int .i64 0)) 2 (.int .i64 0)) 3 (.int .i64 0)) 4 (.int .i64 0)) 5 (.int .i64 0)) 6 (.int .i64 0))
    simp only [List.setIfInBounds_toArray, List.set_cons_zero, List.set_cons_succ] at BX
    generalize (((((((w3.setCell ⟨w.heap.size + 1, 0, none⟩ (.int .i64 0)).setCell ⟨w.heap.size + 1, 1, none⟩ (.int .i64 0)).setCell ⟨w.heap.size + 1, 2, none⟩ (.int .i64 0)).setCell ⟨w.heap.size + 1, 3, none⟩ (.int .i64 0)).setCell ⟨w.heap.size + 1, 4, none⟩ (.int .i64 0)).setCell ⟨w.heap.size + 1, 5, none⟩ (.int .i64 0)).setCell ⟨w.heap.size + 1, 6, none⟩ (.int .i64 0)) = W12 at *
    have s0 : W12.cell? ⟨w.heap.size + 1, 0, none⟩ = some (.int .i64 0) := blk_cell BX 0
    have s1 : W12.cell? ⟨w.heap.size + 1, 1, none⟩ = some (.int .i64 0) := blk_cell BX 1
    have s2 : W12.cell? ⟨w.heap.size + 1, 2, none⟩ = some (.int .i64 0) := blk_cell BX 2
    have s3 : W12.cell? ⟨w.heap.size + 1, 3, none⟩ = some (.int .i64 0) := blk_cell BX 3
    have s4 : W12.cell? ⟨w.heap.size + 1, 4, none⟩ = some (.int .i64 0) := blk_cell BX 4
    have s5 : W12.cell? ⟨w.heap.size + 1, 5, none⟩ = some (.int .i64 0) := blk_cell BX 5
    have s6 : W12.cell? ⟨w.heap.size + 1, 6, none⟩ = some (.int .i64 0) := blk_cell BX 6
    refine bodyPost_ret (v := .tuple #[.agg #[.int .i64 0, .int .i64 0, .int .i64 0, .int .i64 0, .int .i64 0, .int .i64 0, .int .i64 0], .bool false]) (by simp only [results, Tryz.results109]; go_simp) rfl ⟨⟨0, 0, 0, 0, 0, 0, 0⟩, false, rfl, (fun hh => by cases hh), (fun _ => HF.out), hbX⟩
  have p1 : decide ((n : Int) = (came.length : Int)) = false := decide_eq_false (by omega)
  have p2 : decide (n = came.length) = false := decide_eq_false (by omega)
  have p3 : ((n : Int) == (came.length : Int)) = false := beq_eq_false_iff_ne.2 (by omega)
  have p4 : (n == came.length) = false := beq_eq_false_iff_ne.2 (by omega)
  have h2' : n < came.length := by omega
  have p5 : (n : Int) < (came.length : Int) := by omega
  obtain ⟨b1, o1, rfl, hb1, z0, z1, z2, z3, z4, z5, z6⟩ := ev_at hc n h2'
  have HF := hid (show nextE l came = some came[n] by rw [HE.out, laneNext, hn, if_neg h1, List.getElem?_eq_getElem h2'])
  obtain ⟨x, hx⟩ : ∃ x, came[n] = x := ⟨_, rfl⟩
  rw [hx] at z0 z1 z2 z3 z4 z5 z6
  have HF := hid (show nextE l came = some x by rw [HF.out, hx])
  clear hn h1 h2 hx hle
  apply_assumption
  go_wp2_with fail
  have hbX : Below w.heap.size w (((((((w3.setCell ⟨w.heap.size + 1, 0, none⟩ (.int .i64 x.time)).setCell ⟨w.heap.size + 1, 1, none⟩ (.int .i64 x.to)).setCell ⟨w.heap.size + 1, 2, none⟩ (.int .i64 x.from_)).setCell ⟨w.heap.size + 1, 3, none⟩ (.int .i64 x.count)).setCell ⟨w.heap.size + 1, 4, none⟩ (.int .i64 x.n)).setCell ⟨w.heap.size + 1, 5, none⟩ (.int .i64 x.kind)).setCell ⟨w.heap.size + 1, 6, none⟩ (.int .i64 x.arg)) := (((((((HW.setCell (p := ⟨w.heap.size + 1, 0, none⟩) (Nat.le_succ _) (.int .i64 x.time)).setCell (p := ⟨w.heap.size + 1, 1, none⟩) (Nat.le_succ _) (.int .i64 x.to)).setCell (p := ⟨w.heap.size + 1, 2, none⟩) (Nat.le_succ _) (.int .i64 x.from_)).setCell (p := ⟨w.heap.size + 1, 3, none⟩) (Nat.le_succ _) (.int .i64 x.count)).setCell (p := ⟨w.heap.size + 1, 4, none⟩) (Nat.le_succ _) (.int .i64 x.n)).setCell (p := ⟨w.heap.size + 1, 5, none⟩) (Nat.le_succ _) (.int .i64 x.kind)).setCell (p := ⟨w.heap.size + 1, 6, none⟩) (Nat.le_succ _) (.int .i64 x.arg))
  have BX := (blk_set (blk_set (blk_set (blk_set (blk_set (blk_set (blk_set Y 0 (.int .i64 x.time)) 1 (.int .i64 x.to)) 2 (.int .i64 x.from_)) 3 (.int .i64 x.count)) 4 (.int .i64 x.n)) 5 (.int .i64 x.kind)) 6 (.int .i64 x.arg))
  simp only [List.setIfInBounds_toArray, List.set_cons_zero, List.set_cons_succ] at BX
  generalize (((((((w3.setCell ⟨w.heap.size + 1, 0, none⟩ (.int .i64 x.time)).setCell ⟨w.heap.size + 1, 1, none⟩ (.int .i64 x.to)).setCell ⟨w.heap.size + 1, 2, none⟩ (.int .i64 x.from_)).setCell ⟨w.heap.size + 1, 3, none⟩ (.int .i64 x.count)).setCell ⟨w.heap.size + 1, 4, none⟩ (.int .i64 x.n)).setCell ⟨w.heap.size + 1, 5, none⟩ (.int .i64 x.kind)).setCell ⟨w.heap.size + 1, 6, none⟩ (.int .i64 x.arg)) = W12 at *
  have s0 : W12.cell? ⟨w.heap.size + 1, 0, none⟩ = some (.int .i64 x.time) := blk_cell BX 0
  have s1 : W12.cell? ⟨w.heap.size + 1, 1, none⟩ = some (.int .i64 x.to) := blk_cell BX 1
  have s2 : W12.cell? ⟨w.heap.size + 1, 2, none⟩ = some (.int .i64 x.from_) := blk_cell BX 2
  have s3 : W12.cell? ⟨w.heap.size + 1, 3, none⟩ = some (.int .i64 x.count) := blk_cell BX 3
  have s4 : W12.cell? ⟨w.heap.size + 1, 4, none⟩ = some (.int .i64 x.n) := blk_cell BX 4
  have s5 : W12.cell? ⟨w.heap.size + 1, 5, none⟩ = some (.int .i64 x.kind) := blk_cell BX 5
  have s6 : W12.cell? ⟨w.heap.size + 1, 6, none⟩ = some (.int .i64 x.arg) := blk_cell BX 6
  refine bodyPost_ret (v := .tuple #[.agg #[.int .i64 x.time, .int .i64 x.to, .int .i64 x.from_, .int .i64 x.count, .int .i64 x.n, .int .i64 x.kind, .int .i64 x.arg], .bool true]) (by simp only [results, Tryz.results109]; go_simp) rfl ⟨x, true, rfl, (fun _ => HF.out), (fun hh => by cases hh), hbX⟩
end Go.Proofs.YtbcemldiahghcaaGreat

namespace Go.Proofs.YtbcemldiahghcaaGreat
set_option linter.unusedVariables false
set_option linter.unusedSimpArgs false
set_option linter.unusedSectionVars false
set_option maxRecDepth 100000
open Go.RowKit
/-- A place that may not be filled yet. -/
def opt {α : Type} (d : Ty α) : Ty (Option α) where
  sz := d.sz
  rel := fun w F ox cs => match ox with | some x => d.rel w F x cs | none => cs.length = d.sz ∧ ∀ u ∈ cs, u.oneCell' = true
  len := fun {w F x cs} h => by
    cases x with
    | none => exact h.1
    | some x => exact d.len h
  one := fun {w F x cs} h => by
    cases x with
    | none => exact h.2
    | some x => exact d.one h
  mono := fun {w F F' x cs} hF h => by
    cases x with
    | none => exact h
    | some x => exact d.mono hF h
  move := fun {w w' F x cs} hm h => by
    cases x with
    | none => exact h
    | some x => exact d.move hm h
  bound := fun {w F x cs} h => by
    cases x with
    | none => exact h
    | some x => exact d.bound h
theorem Ow.filled {α : Type} {d : Ty α} {e : TypeId} {w : World} {F : Nat → Prop} {v : Value} {xs : List α} (h : Ow (opt d) e w F v (xs.map some)) : Ow d e w F v xs := by
  obtain ⟨cs, Fs, h1, h2, h3, h4, h5⟩ := h
  have h1' : w.ownsRow 0 e d.sz v (xs.map some).length cs := h1
  rw [List.length_map] at h1'
  refine ⟨cs, Fs, h1', h2, h3, h4, fun j x hj => ?_⟩
  have := h5 j (some x) (by simp [hj])
  exact this
theorem ovw_out : ∀ (vs l : List Value) (o q : Nat), (q < o ∨ o + vs.length ≤ q) → (ovw l o vs)[q]? = l[q]?
  | [], _, _, _, _ => rfl
  | v :: r, l, o, q, h => by
    simp only [List.length_cons] at h
    rw [ovw, ovw_out r _ _ _ (by omega), List.getElem?_set_ne (by omega)]
theorem madeCells_one {zs : Array Value} (hz : ∀ u ∈ zs.toList, u.oneCell' = true) (h0 : 0 < zs.size) (m : Nat) : ∀ u ∈ (madeCells zs m).toList, u.oneCell' = true := by
  intro u hu
  simp only [madeCells, Array.toList_map, List.mem_map] at hu
  obtain ⟨i, _, rfl⟩ := hu
  have : i % zs.size < zs.size := Nat.mod_lt _ h0
  rw [getElem!_pos zs _ this]
  exact hz _ (by simp)
/-- A whole element is laid into an own row. -/
theorem Ow.setElem {α : Type} {d : Ty α} {e : TypeId} {w : World} {F : Nat → Prop} {v : Value} {xs : List α} (h : Ow d e w F v xs) {g : Nat} (hv : v.ownBlock = some g) (j : Nat) (hj : j < xs.length) (x' : α) (cs' : List Value) (F' G : Nat → Prop)
    (hr : d.rel w F' x' cs') (hF' : ∀ k, F' k → ¬ F k) (hG : ∀ k, F k → G k) (hG' : ∀ k, F' k → G k) :
    w.there g (j * d.sz) d.sz ∧ Ow d e (w.setCells g (j * d.sz) cs') G v (xs.set j x') ∧ Ch (fun k => k = g) w (w.setCells g (j * d.sz) cs') := by
  have hC : Ch (fun k => k = g) w (w.setCells g (j * d.sz) cs') := Ch.setCells _ _ _ (Ch.refl _ _) (.inl rfl)
  have hgF : F g := h.inF hv
  have hgl := h.block_lt hv
  obtain ⟨cs, Fs, h1, h2, h3, h4, h5⟩ := h.bound
  have hlen := h1.1
  have hl' := d.len hr
  rcases h1.2 with ⟨rfl, _⟩ | ⟨g', cap, cur, rfl, hb, hh, hc1, hc2, hc3, hc4⟩
  · simp [Value.ownBlock] at hv
  · simp only [Value.ownBlock, Option.some.injEq] at hv
    subst hv
    have hjn : (j + 1) * d.sz ≤ xs.length * d.sz := Nat.mul_le_mul_right _ (by omega)
    have hjc : xs.length * d.sz ≤ cap * d.sz := Nat.mul_le_mul_right _ hc1
    rw [Nat.add_mul, Nat.one_mul] at hjn
    refine ⟨fun i hi => ?_, ⟨ovw cs (j * d.sz) cs', fun q k => if q = j then F' k ∧ k < w.heap.size else Fs q k, ⟨by rw [ovw_len, hlen, List.length_set], .inr ⟨g', cap, (ovw cur.toList (j * d.sz) cs').toArray, by rw [List.length_set], Nat.zero_le _, ?_, by simpa using hc1, hc2, by simpa [ovw_len] using hc3, ?_⟩⟩, fun k hk => ?_, ?_, ?_, ?_⟩, hC⟩
    · have hlt : j * d.sz + i < cur.size := by omega
      exact ⟨by simp [World.cell?, hh, hlt], by simp [World.frozen?, hh]⟩
    · exact blk_ovw _ _ _ _ hh
    · rw [List.length_set, ovw_take, hc4]
    · exact hG _ (h2 k hk).1
    · intro q k hq
      by_cases hqj : q = j
      · subst hqj
        simp only [if_true] at hq
        exact ⟨hG' k hq.1, fun e1 => by simp [Value.ownBlock] at e1; subst e1; exact hF' _ hq.1 hgF⟩
      · simp only [if_neg hqj] at hq
        exact ⟨hG k (h3 q k hq).1.1, (h3 q k hq).2⟩
    · intro a b k hab ha hb'
      by_cases haj : a = j
      · subst haj
        simp only [if_true, if_neg (Ne.symm hab)] at ha hb'
        exact hF' k ha.1 (h3 b k hb').1.1
      · by_cases hbj : b = j
        · subst hbj
          simp only [if_true, if_neg haj] at ha hb'
          exact hF' k hb'.1 (h3 a k ha).1.1
        · simp only [if_neg haj, if_neg hbj] at ha hb'
          exact h4 a b k hab ha hb'
    · intro q x hq
      by_cases hqj : q = j
      · subst hqj
        simp only [List.getElem?_set_self hj, Option.some.injEq] at hq
        subst hq
        simp only [if_true]
        have hsplit : ((ovw cs (q * d.sz) cs').drop (q * d.sz)).take d.sz = cs' := by
          have e1 : cs = cs.take (q * d.sz) ++ (cs.drop (q * d.sz)).take d.sz ++ (cs.drop (q * d.sz)).drop d.sz := by
            rw [List.append_assoc, List.take_append_drop, List.take_append_drop]
          have hta : (cs.take (q * d.sz)).length = q * d.sz := by rw [List.length_take]; omega
          have hmid : ((cs.drop (q * d.sz)).take d.sz).length = cs'.length := by rw [List.length_take, List.length_drop]; omega
          have e2 := ovw_mid cs' ((cs.drop (q * d.sz)).take d.sz) (cs.take (q * d.sz)) ((cs.drop (q * d.sz)).drop d.sz) hmid
          rw [hta, ← e1] at e2
          rw [e2, List.append_assoc, List.drop_left' hta, ← hl', List.take_left]
        rw [hsplit]
        exact d.move (fun k hk => hC.block k hk.2 (fun e1 => hF' k hk.1 (e1 ▸ hgF))) (d.bound hr)
      · rw [List.getElem?_set_ne (Ne.symm hqj)] at hq
        simp only [if_neg hqj]
        have h6 := h5 q x hq
        have hqn : (q + 1) * d.sz ≤ xs.length * d.sz := Nat.mul_le_mul_right _ (by have := (List.getElem?_eq_some_iff.1 hq).1; omega)
        have h7 : ((ovw cs (j * d.sz) cs').drop (q * d.sz)).take d.sz = (cs.drop (q * d.sz)).take d.sz := by
          apply List.ext_getElem?
          intro i
          rw [List.getElem?_take, List.getElem?_take]
          by_cases hi : i < d.sz
          · simp only [if_pos hi, List.getElem?_drop]
            refine ovw_out _ _ _ _ ?_
            by_cases hlt : q < j
            · have : (q + 1) * d.sz ≤ j * d.sz := Nat.mul_le_mul_right _ hlt
              rw [Nat.add_mul, Nat.one_mul] at this
              left; omega
            · have : (j + 1) * d.sz ≤ q * d.sz := Nat.mul_le_mul_right _ (by omega)
              rw [Nat.add_mul, Nat.one_mul] at this
              right; rw [hl']; omega
          · simp only [if_neg hi]
        rw [h7]
        refine d.move (fun k hk' => hC.block k (h3 q k hk').1.2 (fun e1 => (h3 q k hk').2 (by rw [e1]; rfl))) h6
section
variable {P : Program} {ops : Array Oper} {rest : List Oper} {o : Oper} {a : Act} {W : World} {Q : Exit → Act → World → Prop}
/-- The arm at a store of a whole element, whatever hangs on it. -/
theorem ow_store_any {α : Type} {d : Ty α} {e : TypeId} {F : Nat → Prop} {v : Value} {xs : List α} (hgd : o.guard = none) (ty : TypeId) (x y : Operand) (ho : o.op = .store ty x y)
    (HO : Ow d e W F v xs) {g : Nat} (hv : v.ownBlock = some g) (j : Nat) (hj : j < xs.length) (z : α) (cs' : List Value) (F' G : Nat → Prop) (hr : d.rel W F' z cs') (hF' : ∀ k, F' k → ¬ F k) (hG : ∀ k, F k → G k) (hG' : ∀ k, F' k → G k)
    (hx : a.eval x = .pointer (some ⟨g, j * d.sz, none⟩)) (hy : a.eval y = .agg cs'.toArray) (hi : (P.info? ty).map (·.size) = some d.sz)
    (h : ∀ w1, Ow d e w1 G v (xs.set j z) → Ch (fun k => k = g) W w1 → wpList P ops Q rest (a.put o.dst undef) w1) : wpList P ops Q (o :: rest) a W := by
  obtain ⟨h1, h2, h3⟩ := HO.setElem hv j hj z cs' F' G hr hF' hG hG'
  have hl := d.len hr
  refine wpList_store_mid hgd ty x y ho g (j * d.sz) cs'.toArray hx hy (by simpa [hl] using h1) (by simpa [hl] using hi) (all_oneCell_toArray (d.one hr)) ?_
  exact h _ h2 h3
/-- make([]T, n, n) -/
theorem ow_full {α : Type} {d : Ty α} {e : TypeId} (hg : o.guard = none) (l c : Operand) (t : TypeId) (hop : o.op = Op.makeSlice t l c) (ht : P.underlying t = some (.slice e)) (z : Value) (bytes : Nat)
    (hinfo : (P.info? e).map (fun i => (i.zero, i.size, i.bytes)) = some (some z, d.sz, bytes)) (hz : ∀ u ∈ z.cells.toList, u.oneCell' = true) (hz0 : z.cells.size = d.sz) (hs : 0 < d.sz) (kl kc : IntKind) (n : Nat) (hl : a.eval l = .int kl (n : Int)) (hc : a.eval c = .int kc (n : Int)) (hb : bytes * n ≤ 281474976710656) (hn : n ≤ 9223372036854775807)
    (h : ∀ w1, Ow (opt d) e w1 (fun k => W.heap.size ≤ k) (.slice (some ⟨W.heap.size, 0, none⟩) n n) (List.replicate n none) → Below W.heap.size W w1 → wpList P ops Q rest (a.put o.dst (.slice (some ⟨W.heap.size, 0, none⟩) n n)) w1) : wpList P ops Q (o :: rest) a W := by
  obtain ⟨i, h2, h3, h4, h5⟩ := info_parts hinfo
  refine wpList_plain hg fun K hK' => ?_
  obtain ⟨w', hrun, r1, r2⟩ := run_make_full (P := P) (w := W) 0 t e i z d.sz ht h2 h3 h4 kl kc n (by rw [h5]; exact hb) (by unfold maxLen; omega) (Nat.zero_le _)
  unfold Oper.wp
  simp only [execOp, hop, hl, hc]
  rw [Sem.run_bind, hrun]
  simp only [Result.andThen_ok, Sem.run_pure, Oper.upon_value]
  refine hK' _ _ (h w' ⟨_, fun _ _ => False, by rw [List.length_replicate]; exact r1, fun g hg => by simp [Value.ownBlock] at hg; subst hg; exact Nat.le_refl _, fun _ _ h => h.elim, fun _ _ _ _ h => h.elim, fun j x hj => ?_⟩ ((Ch.refl _ W).grown r2 (fun k hk => by cases hk)).below0)
  have hjn : j < n := by have := (List.getElem?_eq_some_iff.1 hj).1; simpa using this
  have hx : x = none := by
    have := hj
    rw [List.getElem?_replicate, if_pos hjn] at this
    exact (Option.some.inj this).symm
  subst hx
  have hlen := r1.1
  have hj1 : (j + 1) * d.sz ≤ n * d.sz := Nat.mul_le_mul_right _ hjn
  rw [Nat.add_mul, Nat.one_mul] at hj1
  show List.length _ = d.sz ∧ _
  refine ⟨?_, fun u hu => madeCells_one hz (by rw [hz0]; exact hs) _ u (List.mem_of_mem_drop (List.mem_of_mem_take hu))⟩
  rw [List.length_take, List.length_drop, hlen]
  show min d.sz (n * d.sz - j * d.sz) = d.sz
  omega
end
end Go.Proofs.YtbcemldiahghcaaGreat
