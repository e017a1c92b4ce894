/- Texts joined: Map, Imp13. -/
import Derived.Test.YtbcemldiahghcaaGreatK27
import Derived.Maps.Keyed
import Derived.DeepKeys4
import Derived.Laws.EntriesVeiled
namespace Go.Proofs.YtbcemldiahghcaaGreat
set_option linter.unusedVariables false
set_option linter.unusedSimpArgs false
set_option maxRecDepth 100000
open Go.RowKit Go.Maps
def i64 (x : Int) : Prop := -9223372036854775808 ≤ x ∧ x ≤ 9223372036854775807
/-- An event whose numbers are ints. -/
def EvWf (e : EvD) : Prop := i64 e.time ∧ i64 e.to ∧ i64 e.from_ ∧ i64 e.count ∧ i64 e.n ∧ i64 e.kind ∧ i64 e.arg
theorem EvWf.of_ok {e : EvD} (h : evOk e = true) : EvWf e := by
  simp [evOk, inn] at h
  unfold EvWf i64
  omega
theorem laid_k : laidOutB Tryz.prog = true := by kernel_rfl
theorem keyed_ev : Keyed Tryz.prog 181 := Keyed.of_law (deep_law_laid laid_k (m := 5) (by decide) (of_decide_eq_true (by kernel_rfl)) (by kernel_rfl) (by kernel_rfl))
theorem wf_int {x : Int} (h : i64 x) : (Lit.int .i64 x).wf = true := by
  unfold Lit.wf
  have h1 : IntKind.i64.min = -9223372036854775808 := by decide
  have h2 : IntKind.i64.max = 9223372036854775807 := by decide
  simp only [h1, h2, Bool.and_eq_true, decide_eq_true_eq]
  exact h
theorem key_ev {e : EvD} (h : EvWf e) : ∃ l, keyOf Tryz.prog 181 (evAgg e) = some l := by
  obtain ⟨h0, h1, h2, h3, h4, h5, h6⟩ := h
  have k0 := wf_int h0
  have k1 := wf_int h1
  have k2 := wf_int h2
  have k3 := wf_int h3
  have k4 := wf_int h4
  have k5 := wf_int h5
  have k6 := wf_int h6
  have t1 : Tryz.prog.keyType 181 = true := by kernel_rfl
  have t2 : (evAgg e).formed Tryz.prog 181 = true := by kernel_rfl
  have u := Tryz.underlying181
  have u3 := Tryz.underlying3
  have c1 : Tryz.prog.cellsOf 181 = 7 := by kernel_rfl
  have c3 : Tryz.prog.cellsOf 3 = 1 := by kernel_rfl
  unfold keyOf
  rw [u]
  simp only [t1, t2, Bool.and_self, if_true]
  obtain ⟨n, hn⟩ : ∃ n, Tryz.prog.types.size = n + 1 := ⟨Tryz.prog.types.size - 1, by kernel_rfl⟩
  rw [hn]
  unfold evAgg Program.keyLits
  rw [u]
  simp [Value.cells, c1, c3, List.range_succ, Program.keyLits, u3, k0, k1, k2, k3, k4, k5, k6]
theorem evAgg_inj {a b : EvD} (h : evAgg a = evAgg b) : a = b := by
  unfold evAgg at h
  simp at h
  obtain ⟨h0, h1, h2, h3, h4, h5, h6⟩ := h
  cases a; cases b; simp_all
/-- The entries: key y, so often, born at its place. -/
def ents : Nat → List EvD → List Int → List MapEntry
  | j, y :: ys, c :: cs => ⟨evAgg y, .int .i64 c, j⟩ :: ents (j + 1) ys cs
  | _, _, _ => []
theorem ents_at : ∀ (ys : List EvD) (cs : List Int) (b j : Nat), ys.length = cs.length → (h : j < ys.length) → (ents b ys cs)[j]? = some ⟨evAgg ys[j], .int .i64 (cs.getD j 0), b + j⟩
  | y :: ys, c :: cs, b, 0, hl, h => by simp [ents]
  | y :: ys, c :: cs, b, j + 1, hl, h => by
    have := ents_at ys cs (b + 1) j (by simpa using hl) (by simpa using h)
    simp only [ents, List.getElem?_cons_succ, List.getElem_cons_succ, this]
    rw [show b + 1 + j = b + (j + 1) by omega]
    simp [List.getD]
theorem ents_len : ∀ (ys : List EvD) (cs : List Int) (b : Nat), ys.length = cs.length → (ents b ys cs).length = ys.length
  | [], _, _, _ => by simp [ents]
  | y :: ys, c :: cs, b, hl => by simp [ents, ents_len ys cs (b + 1) (by simpa using hl)]
theorem ents_snoc (ys : List EvD) (cs : List Int) (y : EvD) (c : Int) (hl : ys.length = cs.length) : ents 0 (ys ++ [y]) (cs ++ [c]) = ents 0 ys cs ++ [⟨evAgg y, .int .i64 c, ys.length⟩] := by
  refine List.ext_getElem? fun j => ?_
  rcases Nat.lt_trichotomy j ys.length with h | h | h
  · rw [ents_at _ _ 0 j (by simp [hl]) (by simp; omega), List.getElem?_append_left (by rw [ents_len _ _ _ hl]; exact h), ents_at _ _ 0 j hl h]
    simp [List.getElem_append_left h, List.getD, List.getElem?_append_left (hl ▸ h)]
  · subst h
    rw [ents_at _ _ 0 _ (by simp [hl]) (by simp), List.getElem?_append_right (by rw [ents_len _ _ _ hl]; exact Nat.le_refl _)]
    simp [ents_len _ _ _ hl, List.getD, hl]
  · rw [List.getElem?_eq_none (by rw [ents_len _ _ _ (by simp [hl])]; simp; omega), List.getElem?_eq_none (by simp [ents_len _ _ _ hl]; omega)]
theorem ents_set (ys : List EvD) (cs : List Int) (j : Nat) (c : Int) (hl : ys.length = cs.length) (hj : j < ys.length) : ents 0 ys (cs.set j c) = (ents 0 ys cs).set j ⟨evAgg ys[j], .int .i64 c, j⟩ := by
  refine List.ext_getElem? fun i => ?_
  rcases Nat.lt_or_ge i ys.length with h | h
  · rw [ents_at _ _ 0 i (by simp [hl]) h, List.getElem?_set]
    by_cases hij : j = i
    · subst hij
      rw [if_pos rfl, if_pos (by rw [ents_len _ _ _ hl]; exact hj)]
      simp [List.getD, hl ▸ hj]
    · rw [if_neg hij, ents_at _ _ 0 i hl h]
      simp [List.getD, List.getElem?_set_ne hij]
  · rw [List.getElem?_eq_none (by rw [ents_len _ _ _ (by simp [hl])]; exact h), List.getElem?_eq_none (by rw [List.length_set, ents_len _ _ _ hl]; exact h)]
/-- How a map of events lies: it has just the keys ys, each so often. -/
structure MapIs (w : World) (B : Nat) (ys : List EvD) (cs : List Int) : Prop where
  blk : w.heap[B]? = some (.map (ents 0 ys cs).toArray ys.length)
  len : ys.length = cs.length
  nodup : ys.Nodup
  wf : ∀ y ∈ ys, EvWf y
theorem MapIs.keys {w : World} {B : Nat} {ys : List EvD} {cs : List Int} (h : MapIs w B ys cs) : ∀ e ∈ ents 0 ys cs, ∃ l, keyOf Tryz.prog 181 e.key = some l := fun e he => by
  obtain ⟨j, hj, rfl⟩ := List.getElem_of_mem he
  have hj' : j < ys.length := by rw [← ents_len ys cs 0 h.len]; exact hj
  have := ents_at ys cs 0 j h.len hj'
  rw [List.getElem?_eq_getElem hj] at this
  rw [Option.some.inj this]
  exact key_ev (h.wf _ (List.getElem_mem hj'))
/-- A key is looked for. -/
theorem MapIs.find {w : World} {B : Nat} {ys : List EvD} {cs : List Int} (h : MapIs w B ys cs) (w' : World) {x : EvD} (hx : EvWf x) :
    (x ∉ ys ∧ (Instr.findKey 181 (evAgg x) (ents 0 ys cs)).run Tryz.prog w' = .ok none w') ∨ (∃ (j : Nat) (hj : j < ys.length), ys[j] = x ∧ (Instr.findKey 181 (evAgg x) (ents 0 ys cs)).run Tryz.prog w' = .ok (some (j, .int .i64 (cs.getD j 0))) w') := by
  obtain ⟨l, hl⟩ := key_ev hx
  rcases keyed_ev.find w' hl (ents 0 ys cs) h.keys with ⟨h1, h2⟩ | ⟨j, e, h1, h2, h3⟩
  · refine .inl ⟨fun hm => ?_, h1⟩
    obtain ⟨j, hj, rfl⟩ := List.getElem_of_mem hm
    exact h2 _ (List.mem_of_getElem? (ents_at ys cs 0 j h.len hj)) rfl
  · have hj : j < ys.length := by rw [← ents_len ys cs 0 h.len]; exact (List.getElem?_eq_some_iff.1 h2).1
    have h4 := ents_at ys cs 0 j h.len hj
    rw [h2] at h4
    have h5 := Option.some.inj h4
    refine .inr ⟨j, hj, ?_, ?_⟩
    · rw [h5] at h3; exact evAgg_inj h3
    · rw [h1, h5]
def valOf (ys : List EvD) (cs : List Int) (x : EvD) : Int := cs.getD (ys.idxOf x) 0
theorem valOf_at {ys : List EvD} {cs : List Int} (hn : ys.Nodup) {j : Nat} (hj : j < ys.length) : valOf ys cs ys[j] = cs.getD j 0 := by
  unfold valOf
  rw [hn.idxOf_getElem]
theorem valOf_not {ys : List EvD} {cs : List Int} (hl : ys.length = cs.length) {x : EvD} (hx : x ∉ ys) : valOf ys cs x = 0 := by
  unfold valOf
  rw [List.idxOf_eq_length hx, hl]
  simp [List.getD]
theorem valOf_last {ys : List EvD} {x : EvD} (hn : (ys ++ [x]).Nodup) (cs : List Int) : valOf (ys ++ [x]) cs x = cs.getD ys.length 0 := by
  have h := valOf_at (cs := cs) hn (j := ys.length) (by simp)
  simpa using h
/-- The map is asked. -/
theorem MapIs.lookup {w : World} {B : Nat} {ys : List EvD} {cs : List Int} (h : MapIs w B ys cs) {x : EvD} (hx : EvWf x) :
    (Instr.lookup 179 (.map (some B)) (evAgg x) false).run Tryz.prog w = .ok (.int .i64 (valOf ys cs x)) w := by
  obtain ⟨l, hl⟩ := key_ev hx
  have hu := Tryz.underlying179
  have hz : (zeroValue 3).run Tryz.prog w = .ok (.int .i64 0) w := by kernel_rfl
  have hc := keyed_ev.check w (ents 0 ys cs).isEmpty hl
  unfold Instr.lookup
  rcases h.find w hx with ⟨hn, hf⟩ | ⟨j, hj, rfl, hf⟩
  · simp [run_underlying hu, Go.getObj, Sem.run, h.blk, hc, hf, hz, valOf_not h.len hn]
  · simp [run_underlying hu, Go.getObj, Sem.run, h.blk, hc, hf, hz, valOf_at h.nodup hj]
def setObjW (w : World) (B : Nat) (o : Obj) : World := { w with heap := w.heap.setIfInBounds B o }
theorem setObjW_same {w : World} {B : Nat} {o : Obj} (h : w.heap[B]? = some o) : setObjW w B o = w := by
  unfold setObjW
  have : w.heap.setIfInBounds B o = w.heap := by
    apply Array.ext_getElem?
    intro k
    rw [Array.getElem?_setIfInBounds]
    split
    · rename_i hk
      subst hk
      have := (Array.getElem?_eq_some_iff.1 h).1
      rw [if_pos this]; exact h.symm
    · rfl
  rw [this]
theorem setObjW_at {w : World} {B : Nat} {o o' : Obj} (h : w.heap[B]? = some o') : (setObjW w B o).heap[B]? = some o := by
  have := (Array.getElem?_eq_some_iff.1 h).1
  simp [setObjW, this]
theorem setObjW_ch (w : World) (B : Nat) (o : Obj) : Ch (fun k => k = B) w (setObjW w B o) :=
  ⟨rfl, rfl, rfl, by simp [setObjW], fun k hk hn => by
    have hne : ¬ B = k := fun e => hn e.symm
    simp [setObjW, Array.getElem?_setIfInBounds, hne]⟩
/-- An entry is there behind it, and its number is told. -/
theorem MapIs.entry {w : World} {B : Nat} {ys : List EvD} {cs : List Int} (h : MapIs w B ys cs) {x : EvD} (hx : EvWf x) :
    (x ∈ ys ∧ ∃ (j : Nat) (hj : j < ys.length), ys[j] = x ∧ (Instr.mapEntry 179 (.map (some B)) (evAgg x)).run Tryz.prog w = .ok (.tuple #[.int .i64 (cs.getD j 0), .int .i64 j]) w) ∨
    (x ∉ ys ∧ ∃ w', (Instr.mapEntry 179 (.map (some B)) (evAgg x)).run Tryz.prog w = .ok (.tuple #[.int .i64 0, .int .i64 ys.length]) w' ∧ MapIs w' B (ys ++ [x]) (cs ++ [0]) ∧ Ch (fun k => k = B) w w') := by
  obtain ⟨l, hl⟩ := key_ev hx
  have hu := Tryz.underlying179
  have hz : (zeroValue 3).run Tryz.prog w = .ok (.int .i64 0) w := by kernel_rfl
  have hc := keyed_ev.check w false hl
  have hB := (Array.getElem?_eq_some_iff.1 h.blk).1
  unfold Instr.mapEntry
  rcases h.find w hx with ⟨hn, hf⟩ | ⟨j, hj, rfl, hf⟩
  · refine .inr ⟨hn, setObjW w B (.map (ents 0 (ys ++ [x]) (cs ++ [0])).toArray (ys.length + 1)), ?_, ⟨?_, by simp [h.len], ?_, ?_⟩, setObjW_ch _ _ _⟩
    · simp [run_underlying hu, Go.getObj, Go.setObj, Sem.run, h.blk, hc, hf, hz, goInt, setObjW, ents_snoc ys cs x 0 h.len]
    · rw [setObjW_at h.blk]; simp
    · exact List.nodup_append.2 ⟨h.nodup, by simp, by simp; intro a ha e; subst e; exact hn ha⟩
    · intro y hy
      rcases List.mem_append.1 hy with hy | hy
      · exact h.wf y hy
      · obtain rfl : y = x := by simpa using hy
        exact hx
  · refine .inl ⟨List.getElem_mem hj, j, hj, rfl, ?_⟩
    have he := ents_at ys cs 0 j h.len hj
    have hs := keyed_ev.stays w hl
    have hm : (ents 0 ys cs).toArray.modify j (fun e => { e with key := evAgg ys[j] }) = (ents 0 ys cs).toArray := by
      apply Array.ext_getElem?
      intro k
      rw [Array.getElem?_modify]
      split
      · rename_i hk
        subst hk
        simp [he]
      · rfl
    simp [run_underlying hu, Go.getObj, Go.setObj, Sem.run, h.blk, hc, hf, goInt, he, hs]
    simp at hm
    rw [hm]
    exact setObjW_same h.blk
/-- A number is laid into an entry. -/
theorem MapIs.store {w : World} {B : Nat} {ys : List EvD} {cs : List Int} (h : MapIs w B ys cs) (j : Nat) (hj : j < ys.length) (c : Int) (mt : TypeId) :
    ∃ w', (Instr.entryStore mt (.map (some B)) (.int .i64 j) (.int .i64 c)).run Tryz.prog w = .ok () w' ∧ MapIs w' B ys (cs.set j c) ∧ Ch (fun k => k = B) w w' := by
  have hB := (Array.getElem?_eq_some_iff.1 h.blk).1
  have he := ents_at ys cs 0 j h.len hj
  have hlen := ents_len ys cs 0 h.len
  have hfi : (ents 0 ys cs).findIdx? (fun e => (e.born : Int) == (j : Int)) = some j := by
    rw [List.findIdx?_eq_some_iff_getElem]
    refine ⟨by rw [hlen]; exact hj, ?_, fun i hi => ?_⟩
    · have := (List.getElem?_eq_some_iff.1 he).2
      rw [this]; simp
    · have := (List.getElem?_eq_some_iff.1 (ents_at ys cs 0 i h.len (by omega))).2
      rw [this]; simp; omega
  have hm : (ents 0 ys cs).modify j (fun e => { e with val := .int .i64 c }) = ents 0 ys (cs.set j c) := by
    rw [ents_set ys cs j c h.len hj]
    apply List.ext_getElem?
    intro k
    rw [List.getElem?_modify, List.getElem?_set]
    split
    · rename_i hk
      subst hk
      rw [if_pos (by rw [hlen]; exact hj), he]; simp
    · simp
  refine ⟨setObjW w B (.map (ents 0 ys (cs.set j c)).toArray ys.length), ?_, ⟨setObjW_at h.blk, by simp [h.len], h.nodup, h.wf⟩, setObjW_ch _ _ _⟩
  unfold Instr.entryStore
  simp [Go.getObj, Go.setObj, Sem.run, h.blk, asInt, asIntOf, hfi, hm, setObjW]
end Go.Proofs.YtbcemldiahghcaaGreat

namespace Go.Proofs.YtbcemldiahghcaaGreat
set_option linter.unusedVariables false
set_option linter.unusedSimpArgs false
set_option maxRecDepth 100000
open Go.RowKit
theorem once_len (l : List EvD) : (once l).length ≤ l.length := by
  have key : ∀ (l m : List EvD), (l.foldl (fun m x => if x ∈ m then m else m ++ [x]) m).length ≤ m.length + l.length := by
    intro l
    induction l with
    | nil => intro m; simp
    | cons x l ih =>
      intro m
      have := ih (if x ∈ m then m else m ++ [x])
      simp only [List.foldl_cons, List.length_cons]
      by_cases hx : x ∈ m
      · rw [if_pos hx] at this ⊢; omega
      · rw [if_neg hx] at this ⊢
        simp only [List.length_append, List.length_singleton] at this
        omega
  simpa [once] using key l []
set_option maxHeartbeats 4000000 in
theorem EventSortI_c (v : Value) (xs : List EvD) (F : Nat → Prop) (w : World) (h : Rd tEv w F v xs) (hl : xs.length ≤ 1000) (hwf : ∀ x ∈ xs, EvWf x) :
    Calls Tryz.prog 84 #[v] w fun q w' => ∃ u, q = .returned u ∧ Ow tEv 80 w' (fun k => w.heap.size ≤ k) u (evSort xs) ∧ Below w.heap.size w w' := by
  obtain ⟨A, c, rfl, m0⟩ := h.shape
  have hmm : ∀ w : World, (Instr.makeMap 179 none).run Tryz.prog w = .ok (.map (some w.heap.size)) (w.alloc (.map #[] 0)) := fun _ => rfl
  go_enter Tryz.func84, Tryz.ntmps84
  go_wp2_with fail
  have hW := balloc (balloc (Below.refl w.heap.size w) (.cells #[.slice none 0 0, .func (.func 131) #[] #[]] 178)) (.map #[] 0)
  have HB1 : ((w.alloc (.cells #[.slice none 0 0, .func (.func 131) #[] #[]] 178)).alloc (.map #[] 0)).heap[w.heap.size]? = some (.cells #[.slice none 0 0, .func (.func 131) #[] #[]] 178 (0, 0)) := (heap_old (by simp)).trans (heap_at rfl)
  have H1 : HeapAt tEv 181 178 131 ((w.alloc (.cells #[.slice none 0 0, .func (.func 131) #[] #[]] 178)).alloc (.map #[] 0)) w.heap.size (fun k => False) (.slice none 0 0) (heapOf evLess (once (xs.take 0))) := ⟨HB1, by simpa [heapOf, once] using Ow.nil tEv 181 _ _, id, fun _ hf => hf.elim⟩
  have M1 : MapIs ((w.alloc (.cells #[.slice none 0 0, .func (.func 131) #[] #[]] 178)).alloc (.map #[] 0)) (w.heap.size + 1) [] [] := ⟨heap_at (o := .map #[] 0) (by simp), rfl, List.nodup_nil, fun _ h => by cases h⟩
  generalize (w.alloc (.cells #[.slice none 0 0, .func (.func 131) #[] #[]] 178)).alloc (.map #[] 0) = W at *
  clear HB1 hmm
  obtain ⟨B, hB⟩ : ∃ B, B = w.heap.size + 1 := ⟨_, rfl⟩
  rw [← hB] at M1
  simp only [← hB]
  have hB1 : w.heap.size < B := by omega
  clear hB
  go_loopw [15] (fun t wr => ∃ (k : Nat) (G : Nat → Prop) (v : Value) (cs : List Int), t = .int .i64 k ∧ k ≤ xs.length ∧ HeapAt tEv 181 178 131 wr w.heap.size G v (heapOf evLess (once (xs.take k))) ∧ MapIs wr B (once (xs.take k)) cs ∧ (∀ c ∈ cs, 1 ≤ c ∧ c ≤ (k : Int)) ∧ ¬ G B ∧ (∀ q, G q → w.heap.size ≤ q) ∧ Below w.heap.size w wr) (fun t _ => xs.length - (intOf t).toNat)
  case atStart => exact ⟨0, _, _, [], rfl, Nat.zero_le _, H1, M1, by simp, id, fun _ hf => hf.elim, hW⟩
  case round =>
    clear H1 M1 hW
    obtain ⟨k, G, v, cs, rfl, hk, HH, MM, hcs, hGB, hG, hb⟩ := hrel
    by_cases hlt : k < xs.length
    · have hrd := h.below hb
      obtain ⟨b0, o0, rfl, hb0, z0, z1, z2, z3, z4, z5, z6⟩ := ev_at hrd k hlt
      have p1 : (k : Int) < (xs.length : Int) := by omega
      have hxw := hwf _ (List.getElem_mem hlt)
      have HT := hid (show xs.take (k + 1) = xs.take k ++ [xs[k]] from List.take_succ_eq_append_getElem hlt)
      have HM : Hid (xs[k] ∈ once (xs.take k) ↔ xs[k] ∈ xs.take k) := mem_once _ _
      generalize xs[k] = x at *
      go_upto_region 6 with fail
      have hb1 := hb.alloc hb.size (.cells #[.int .i64 x.time, .int .i64 x.to, .int .i64 x.from_, .int .i64 x.count, .int .i64 x.n, .int .i64 x.kind, .int .i64 x.arg] 80)
      have hbA := balloc (Below.refl wr.heap.size wr) (.cells #[.int .i64 x.time, .int .i64 x.to, .int .i64 x.from_, .int .i64 x.count, .int .i64 x.n, .int .i64 x.kind, .int .i64 x.arg] 80)
      have Z1 : (wr.alloc (.cells #[.int .i64 x.time, .int .i64 x.to, .int .i64 x.from_, .int .i64 x.count, .int .i64 x.n, .int .i64 x.kind, .int .i64 x.arg] 80)).heap[wr.heap.size]? = some (.cells #[.int .i64 x.time, .int .i64 x.to, .int .i64 x.from_, .int .i64 x.count, .int .i64 x.n, .int .i64 x.kind, .int .i64 x.arg] 80 (0, 0)) := heap_at rfl
      have HH1 := HH.below hbA
      have MM1 : MapIs (wr.alloc (.cells #[.int .i64 x.time, .int .i64 x.to, .int .i64 x.from_, .int .i64 x.count, .int .i64 x.n, .int .i64 x.kind, .int .i64 x.arg] 80)) B (once (xs.take k)) cs := ⟨below_heap hbA (Array.getElem?_eq_some_iff.1 MM.blk).1 MM.blk, MM.len, MM.nodup, MM.wf⟩
      have hsz := hb.size
      have hsB := (Array.getElem?_eq_some_iff.1 MM1.blk).1
      clear HH MM z0 z1 z2 z3 z4 z5 z6 hrd hb hb0 hbA
      generalize wr.alloc (.cells #[.int .i64 x.time, .int .i64 x.to, .int .i64 x.from_, .int .i64 x.count, .int .i64 x.n, .int .i64 x.kind, .int .i64 x.arg] 80) = W1 at *
      have hl1 := blk_lt Z1
      obtain ⟨⟨z0, z1, z2, z3, z4, z5, z6⟩, -⟩ := cells7 Z1
      go_wp2_with fail
      refine (keyOf_c x _).mono ?_
      rintro e w5 ⟨rfl, hb5⟩
      have HH5 := HH1.below hb5
      have MM5 : MapIs w5 B (once (xs.take k)) cs := ⟨below_heap hb5 hsB MM1.blk, MM1.len, MM1.nodup, MM1.wf⟩
      have hb6 := bthen hb1 hb5 hb1.size
      have hs5 := hb5.size
      unfold evAgg
      clear HH1 MM1 hb5 hb1 z0 z1 z2 z3 z4 z5 z6 Z1
      apply_assumption
      go_upto_region 7 with fail
      obtain ⟨g7, hg7⟩ : ∃ g, g = w5.heap.size := ⟨_, rfl⟩
      have hb7 := hb6.alloc hb6.size (.cells #[.int .i64 x.time, .int .i64 x.to, .int .i64 x.from_, .int .i64 x.count, .int .i64 x.n, .int .i64 x.kind, .int .i64 x.arg] 181)
      have hbA := balloc (Below.refl w5.heap.size w5) (.cells #[.int .i64 x.time, .int .i64 x.to, .int .i64 x.from_, .int .i64 x.count, .int .i64 x.n, .int .i64 x.kind, .int .i64 x.arg] 181)
      have Z7 : (w5.alloc (.cells #[.int .i64 x.time, .int .i64 x.to, .int .i64 x.from_, .int .i64 x.count, .int .i64 x.n, .int .i64 x.kind, .int .i64 x.arg] 181)).heap[w5.heap.size]? = some (.cells #[.int .i64 x.time, .int .i64 x.to, .int .i64 x.from_, .int .i64 x.count, .int .i64 x.n, .int .i64 x.kind, .int .i64 x.arg] 181 (0, 0)) := heap_at rfl
      have HH7 := HH5.below hbA
      have hsB5 := (Array.getElem?_eq_some_iff.1 MM5.blk).1
      have MM7 : MapIs (w5.alloc (.cells #[.int .i64 x.time, .int .i64 x.to, .int .i64 x.from_, .int .i64 x.count, .int .i64 x.n, .int .i64 x.kind, .int .i64 x.arg] 181)) B (once (xs.take k)) cs := ⟨below_heap hbA hsB5 MM5.blk, MM5.len, MM5.nodup, MM5.wf⟩
      have hB7 : B ≠ g7 := by omega
      have hg71 : w.heap.size ≤ g7 := by have := hb6.size; omega
      have hG7 : ¬ G g7 := fun hh => by have := HH5.lt g7 hh; omega
      have hw7 : w.heap.size ≠ g7 := by have := blk_lt HH5.blk; omega
      rw [← hg7] at Z7
      simp only [← hg7]
      clear HH5 MM5 hb6 hbA hs5 hsB5 hsB hsz hl1
      generalize w5.alloc (.cells #[.int .i64 x.time, .int .i64 x.to, .int .i64 x.from_, .int .i64 x.count, .int .i64 x.n, .int .i64 x.kind, .int .i64 x.arg] 181) = W7 at *
      clear hg7
      have MMd : MapIs W7.drew B (once (xs.take k)) cs := ⟨MM7.blk, MM7.len, MM7.nodup, MM7.wf⟩
      by_cases hm : x ∈ once (xs.take k)
      · have HE := hid (show once (xs.take (k + 1)) = once (xs.take k) by rw [HT.out, once_snoc, if_pos (HM.out.1 hm)])
        obtain ⟨j, hj, hjx, hrun⟩ : ∃ (j : Nat) (hj : j < (once (xs.take k)).length), (once (xs.take k))[j] = x ∧ (Instr.mapEntry 179 (.map (some B)) (evAgg x)).run Tryz.prog W7.drew = .ok (.tuple #[.int .i64 (cs.getD j 0), .int .i64 j]) W7.drew := by
          rcases MMd.entry hxw with ⟨_, h⟩ | ⟨h, _⟩
          · exact h
          · exact absurd hm h
        obtain ⟨n, hn⟩ : ∃ n, cs.getD j 0 = n := ⟨_, rfl⟩
        have hjc : j < cs.length := by rw [← MMd.len]; exact hj
        have hnb : 1 ≤ n ∧ n ≤ (k : Int) := by
          rw [← hn, List.getD_eq_getElem?_getD, List.getElem?_eq_getElem hjc]
          exact hcs _ (List.getElem_mem hjc)
        have hn0 : 1 ≤ n := hnb.1
        have hn1 : n ≤ 1000 := by omega
        have hn2 : n ≤ (k : Int) := hnb.2
        rw [hn] at hrun
        have HLd := MMd.lookup hxw
        rw [← hjx, valOf_at MMd.nodup hj, hn, hjx] at HLd
        have HLd := hid HLd
        obtain ⟨w9, hrun9, MM9, hC9⟩ := MMd.store j hj (n + 1) 179
        have HL9 := MM9.lookup hxw
        rw [← hjx, valOf_at MM9.nodup hj, List.getD_eq_getElem?_getD, List.getElem?_set_self hjc, hjx] at HL9
        have HL9 := hid HL9
        have HR := hid hrun
        have HR9 := hid hrun9
        have hC9 : Ch (fun k => k = B) W7 w9 := (Ch.refl _ W7).drew.trans hC9
        clear hrun hrun9 hnb hn hm MM7 MMd
        refine region_e (fun w' => w'.heap[g7]? = some (.cells #[.int .i64 x.time, .int .i64 x.to, .int .i64 x.from_, .int .i64 x.count, .int .i64 x.n, .int .i64 x.kind, .int .i64 x.arg] 181 (0, 0)) ∧ (Instr.lookup 179 (.map (some B)) (evAgg x) false).run Tryz.prog w' = .ok (.int .i64 n) w') [1, 2] (.pure 0 (.take 1 (.take 2 (.pure 3 (.one 4 (.one 5 (.one 6 (.nil)))))))) (by kernel_rfl) (by kernel_rfl) (fun _ _ d _ _ h => by cases d <;> exact h) ?_
        have HS : W7.drew.heap[g7]? = some (.cells #[.int .i64 x.time, .int .i64 x.to, .int .i64 x.from_, .int .i64 x.count, .int .i64 x.n, .int .i64 x.kind, .int .i64 x.arg] 181 (0, 0)) ∧ (Instr.lookup 179 (.map (some B)) (evAgg x) false).run Tryz.prog W7.drew = .ok (.int .i64 n) W7.drew := ⟨Z7, HLd.out⟩
        (refine e_pure (v := ?_) (by rfl) (by rfl) ?_ ?_; rotate_left; (focus (intro wS; go_simp; (try (with_reducible rfl)); done)); (intro K hK; go_simp; refine hK _ ?_; clear hK K))
        refine e_take (v := evAgg x) (by rfl) HS (by rfl) ?_ ?_
        · intro wS hS
          obtain ⟨⟨kc0, kc1, kc2, kc3, kc4, kc5, kc6⟩, -⟩ := cells7 hS.1
          unfold evAgg
          go_simp
        intro K hK
        unfold evAgg at hK ⊢
        go_simp
        refine hK _ ?_
        clear hK K
        refine e_take (v := .int .i64 n) (by rfl) HS (by rfl) ?_ ?_
        · intro wS hS
          have h2 := hS.2
          unfold evAgg at h2
          go_simp
        intro K hK
        go_simp
        refine hK _ ?_
        clear hK K
        (refine e_pure (v := ?_) (by rfl) (by rfl) ?_ ?_; rotate_left; (focus (intro wS; go_simp; (try (with_reducible rfl)); done)); (intro K hK; go_simp; refine hK _ ?_; clear hK K))
        simp only [show IntKind.i64.wrap (n + 1) = n + 1 from IntWalk.i64_in _ (by omega)]
        refine e_do (by rfl) (by rfl) (fun K hK => ?_)
        have hr := HR.out
        unfold evAgg at hr
        go_simp
        clear hr
        refine hK _ _ (Or.inr id) ?_
        clear hK K
        refine e_do (by rfl) (by rfl) (fun K hK => ?_)
        go_simp
        refine hK _ _ (Or.inr id) ?_
        clear hK K
        refine e_do (by rfl) (by rfl) (fun K hK => ?_)
        have hr := HR9.out
        go_simp
        clear hr
        refine hK _ _ (Or.inl (by kernel_rfl)) ?_
        clear hK K
        have HH9 := HH7.ch hC9 (by omega) (fun q hq e1 => hGB (e1 ▸ hq))
        have Z9 := hC9.heap Z7 (fun e1 => hB7 e1.symm)
        have hb9 := ((Ch.of_below (S := fun q => w.heap.size ≤ q) hb7).then hC9 (fun q hq => .inl (by have hq' : q = B := hq; omega))).below (fun q hq => hq) (Nat.le_refl _)
        obtain ⟨⟨y0, y1, y2, y3, y4, y5, y6⟩, -⟩ := cells7 Z9
        have hl9 := HL9.out
        unfold evAgg at hl9
        simp at hl9
        have kf : (n + 1 == 1) = false := by simp; omega
        have kf2 : decide (n + 1 = 1) = false := by simp; omega
        have kf3 : decide (n = 0) = false := by simp; omega
        clear HS HH7 hb7 Z7 hC9 HR HR9 HL9 HLd
        have hcs' : ∀ c ∈ cs.set j (n + 1), 1 ≤ c ∧ c ≤ ((k + 1 : Nat) : Int) := fun c hc => by
          rcases List.mem_or_eq_of_mem_set hc with h1 | h1
          · have := hcs c h1; omega
          · omega
        simp only [wpE]
        go_wp2_with fail
        go_roundw
        case rel => exact ⟨k + 1, G, v, cs.set j (n + 1), by go_num, by omega, by rw [HE.out]; exact HH9, by rw [HE.out]; exact MM9, hcs', hGB, hG, hb9⟩
        case measure => simp [intOf]; omega
      · have HE := hid (show once (xs.take (k + 1)) = once (xs.take k) ++ [x] by rw [HT.out, once_snoc, if_neg (fun hh => hm (HM.out.2 hh))])
        obtain ⟨w8, hrun, MM8, hC8⟩ : ∃ w8, (Instr.mapEntry 179 (.map (some B)) (evAgg x)).run Tryz.prog W7.drew = .ok (.tuple #[.int .i64 0, .int .i64 (once (xs.take k)).length]) w8 ∧ MapIs w8 B (once (xs.take k) ++ [x]) (cs ++ [0]) ∧ Ch (fun k => k = B) W7.drew w8 := by
          rcases MMd.entry hxw with ⟨h, _⟩ | ⟨_, h⟩
          · exact absurd h hm
          · exact h
        have HLd := MMd.lookup hxw
        rw [valOf_not MMd.len hm] at HLd
        have HLd := hid HLd
        have hjl : (once (xs.take k)).length < (once (xs.take k) ++ [x]).length := by simp
        have hjx : (once (xs.take k) ++ [x])[(once (xs.take k)).length] = x := by simp
        have hjc : (once (xs.take k)).length < (cs ++ [0]).length := by simp [MMd.len]
        have HL8 := MM8.lookup hxw
        rw [show valOf (once (xs.take k) ++ [x]) (cs ++ [0]) x = 0 by rw [valOf_last MM8.nodup]; simp [List.getD, MMd.len]] at HL8
        have HL8 := hid HL8
        obtain ⟨w9, hrun9, MM9, hC9⟩ := MM8.store _ hjl 1 179
        have HL9 := MM9.lookup hxw
        have e9 : valOf (once (xs.take k) ++ [x]) (List.set (cs ++ [0]) (once (xs.take k)).length 1) x = 1 := by rw [valOf_last MM9.nodup, List.getD_eq_getElem?_getD, List.getElem?_set_self hjc]; rfl
        rw [e9] at HL9
        clear e9
        have HL9 := hid HL9
        have hcs' : ∀ c ∈ (cs ++ [0]).set (once (xs.take k)).length 1, 1 ≤ c ∧ c ≤ ((k + 1 : Nat) : Int) := fun c hc => by
          rw [MMd.len, List.set_append_right _ _ (Nat.le_refl _), Nat.sub_self] at hc
          rcases List.mem_append.1 hc with h1 | h1
          · have := hcs c h1; omega
          · simp at h1; omega
        have HR := hid hrun
        have HR9 := hid hrun9
        have hC8 : Ch (fun k => k = B) W7 w8 := (Ch.refl _ W7).drew.trans hC8
        have hC9 : Ch (fun k => k = B) W7 w9 := hC8.trans hC9
        have Z8 := hC8.heap Z7 (fun e1 => hB7 e1.symm)
        have hoL := once_len (xs.take k)
        rw [List.length_take] at hoL
        obtain ⟨m, hmm⟩ : ∃ m, (once (xs.take k)).length = m := ⟨_, rfl⟩
        rw [hmm] at HR HR9 hoL
        have hm1 : m ≤ 1000 := by omega
        have HLN := hid hmm
        clear hrun hrun9 hm MM7 MMd hC8 hjl hjx hjc hmm MM8
        refine region_e (fun w' => w'.heap[g7]? = some (.cells #[.int .i64 x.time, .int .i64 x.to, .int .i64 x.from_, .int .i64 x.count, .int .i64 x.n, .int .i64 x.kind, .int .i64 x.arg] 181 (0, 0)) ∧ (Instr.lookup 179 (.map (some B)) (evAgg x) false).run Tryz.prog w' = .ok (.int .i64 0) w') [1, 2] (.pure 0 (.take 1 (.take 2 (.pure 3 (.one 4 (.one 5 (.one 6 (.nil)))))))) (by kernel_rfl) (by kernel_rfl) (fun _ _ d _ _ h => by cases d <;> exact h) ?_
        have HS : W7.drew.heap[g7]? = some (.cells #[.int .i64 x.time, .int .i64 x.to, .int .i64 x.from_, .int .i64 x.count, .int .i64 x.n, .int .i64 x.kind, .int .i64 x.arg] 181 (0, 0)) ∧ (Instr.lookup 179 (.map (some B)) (evAgg x) false).run Tryz.prog W7.drew = .ok (.int .i64 0) W7.drew := ⟨Z7, HLd.out⟩
        (refine e_pure (v := ?_) (by rfl) (by rfl) ?_ ?_; rotate_left; (focus (intro wS; go_simp; (try (with_reducible rfl)); done)); (intro K hK; go_simp; refine hK _ ?_; clear hK K))
        refine e_take (v := evAgg x) (by rfl) HS (by rfl) ?_ ?_
        · intro wS hS
          obtain ⟨⟨kc0, kc1, kc2, kc3, kc4, kc5, kc6⟩, -⟩ := cells7 hS.1
          unfold evAgg
          go_simp
        intro K hK
        unfold evAgg at hK ⊢
        go_simp
        refine hK _ ?_
        clear hK K
        refine e_take (v := .int .i64 0) (by rfl) HS (by rfl) ?_ ?_
        · intro wS hS
          have h2 := hS.2
          unfold evAgg at h2
          go_simp
        intro K hK
        go_simp
        refine hK _ ?_
        clear hK K
        (refine e_pure (v := ?_) (by rfl) (by rfl) ?_ ?_; rotate_left; (focus (intro wS; go_simp; (try (with_reducible rfl)); done)); (intro K hK; go_simp; refine hK _ ?_; clear hK K))
        simp only [show IntKind.i64.wrap 1 = 1 by decide]
        refine e_do (by rfl) (by rfl) (fun K hK => ?_)
        have hr := HR.out
        unfold evAgg at hr
        go_simp
        clear hr
        refine hK _ _ (Or.inr fun _ => ⟨Z8, HL8.out⟩) ?_
        clear hK K
        refine e_do (by rfl) (by rfl) (fun K hK => ?_)
        go_simp
        refine hK _ _ (Or.inr id) ?_
        clear hK K
        refine e_do (by rfl) (by rfl) (fun K hK => ?_)
        have hr := HR9.out
        go_simp
        clear hr
        refine hK _ _ (Or.inl (by kernel_rfl)) ?_
        clear hK K
        have HH9 := HH7.ch hC9 (by omega) (fun q hq e1 => hGB (e1 ▸ hq))
        have Z9 := hC9.heap Z7 (fun e1 => hB7 e1.symm)
        have hb9 := ((Ch.of_below (S := fun q => w.heap.size ≤ q) hb7).then hC9 (fun q hq => .inl (by have hq' : q = B := hq; omega))).below (fun q hq => hq) (Nat.le_refl _)
        have hl9 := blk_lt Z9
        have hBl := (Array.getElem?_eq_some_iff.1 MM9.blk).1
        obtain ⟨⟨y0, y1, y2, y3, y4, y5, y6⟩, -⟩ := cells7 Z9
        have hlk := HL9.out
        unfold evAgg at hlk
        clear HS HH7 hb7 Z7 Z8 hC9 HR HR9 HL9 HL8 HLd
        have hln : (heapOf evLess (once (xs.take k))).length ≤ 1000 := by rw [heapOf_len ev_ord, HLN.out]; exact hm1
        simp only [wpE]
        go_wp2_with fail
        refine (pushEv_c w.heap.size G v (heapOf evLess (once (xs.take k))) x _ HH9 hln).mono ?_
        rintro e w6 ⟨rfl, v6, G6, H6, hG6, hC6⟩
        rw [← heapOf_snoc, ← HE.out] at H6
        have MM6 : MapIs w6 B (once (xs.take k) ++ [x]) _ := ⟨hC6.heap MM9.blk (fun hh => hh.elim (fun e1 => by omega) hGB), MM9.len, MM9.nodup, MM9.wf⟩
        rw [← HE.out] at MM6
        have hCw : Ch (fun q => w.heap.size ≤ q) w w6 := (Ch.of_below hb9).then hC6 (fun q hq => .inl (hq.elim (fun e1 => Nat.le_of_eq e1.symm) (hG q)))
        have hb10 := hCw.below (fun q hq => hq) (Nat.le_refl _)
        have hsz := hb9.size
        clear HH9 MM9 hC6 hCw hlk y0 y1 y2 y3 y4 y5 y6 Z9
        apply_assumption
        go_wp2_with fail
        go_roundw
        case rel => exact ⟨k + 1, G6, v6, _, by go_num, by omega, H6, MM6, hcs', fun hh => (hG6 B hh).elim hGB (fun h1 => by omega), fun q hq => (hG6 q hq).elim (hG q) (fun h1 => by omega), hb10⟩
        case measure => simp [intOf]; omega
    · have hkl : k = xs.length := by omega
      subst hkl
      rw [List.take_length] at HH
      have hln : (heapOf evLess (once xs)).length ≤ 1000 := by rw [heapOf_len ev_ord]; have := once_len xs; omega
      have HE := hid (show hdrain evLess (heapOf evLess (once xs)).length (heapOf evLess (once xs)) = evSort xs by rw [heapOf_len ev_ord]; exact drain_sortOnce ev_ord xs)
      have hgl := blk_lt HH.blk
      obtain ⟨A2, a2, rfl, m2⟩ := HH.row.shape
      have a0 : wr.cell? ⟨w.heap.size, 0, none⟩ = some (.slice A2 (heapOf evLess (once xs)).length a2) := blk_cell HH.blk 0
      go_wp2_with (refine ow_make (d := tEv) (e := 80) rfl _ _ _ rfl Tryz.underlying25 _ 56 info_ev _ _ (heapOf evLess (once xs)).length rfl rfl (by omega) (by omega) ?_; intro w1 hO1 hb1)
      have HLt := HH.lt
      have HH1 := HH.below hb1
      have hbw := bthen hb hb1 hb.size
      have hszr := hb.size
      have hyl : (evSort xs).length ≤ 1000 := by rw [← HE.out, (hdrain_perm _ _ (Nat.le_refl _)).length_eq]; exact hln
      clear HH a0 MM
      refine (drainEv_c w.heap.size G _ _ _ HH1 hln).mono ?_
      rintro e w5 ⟨u, rfl, hO5, hC5⟩
      rw [HE.out] at hO5
      obtain ⟨A3, a3, rfl, m3⟩ := hO5.shape
      have hCw : Ch (fun q => w.heap.size ≤ q) w w5 := (Ch.of_below hbw).then hC5 (fun q hq => .inl (hq.elim (fun e1 => Nat.le_of_eq e1.symm) (hG q)))
      have hb5 := hCw.below (fun q hq => hq) (Nat.le_refl _)
      have hO8 : Ow tEv 80 w5 (fun q => q = wr.heap.size ∨ w5.heap.size ≤ q) (.slice (some ⟨wr.heap.size, 0, none⟩) 0 (heapOf evLess (once xs)).length) [] := (hO1.tight.ch hC5 (fun q hq => by
        have hq' : q = wr.heap.size := by have hq' : (some wr.heap.size : Option Nat) = some q := hq; exact (Option.some.inj hq').symm
        subst hq'
        rintro (h1 | h1)
        · omega
        · have := HLt _ h1; omega)).mono (fun q hq => .inl (by have hq' : (some wr.heap.size : Option Nat) = some q := hq; exact (Option.some.inj hq').symm))
      have hR5 := hO5.rd.bound
      have hb1s := blk_lt HH1.blk
      have hsz1 : wr.heap.size < w1.heap.size := by
        have := hO1.block_lt (g := wr.heap.size) rfl
        exact this
      have hs5 := hC5.size
      obtain ⟨ys, hys⟩ : ∃ ys, evSort xs = ys := ⟨_, rfl⟩
      rw [hys] at hR5 hO5 hyl ⊢
      have HYS := hid hys
      clear hys
      generalize Value.slice (some ⟨wr.heap.size, 0, none⟩) 0 (heapOf evLess (once xs)).length = u8 at *
      obtain ⟨g8, hg8⟩ : ∃ g, g = wr.heap.size := ⟨_, rfl⟩
      rw [← hg8] at hO8 hsz1
      have hg8w : w.heap.size ≤ g8 := by omega
      clear hO1 hC5 hO5 hCw HH1 hbw hb1 hg8 hgl HLt hszr hb1s hb HE
      apply_assumption
      go_wp2_with fail
      go_loopw [8, 40] (fun u i wr => ∃ k : Nat, i = .int .i64 k ∧ k ≤ ys.length ∧ Rd tEv wr (fun q => w1.heap.size ≤ q ∧ q < w5.heap.size) (.slice A3 ys.length a3) ys ∧ Ow tEv 80 wr (fun q => q = g8 ∨ w5.heap.size ≤ q) u (ys.take k) ∧ w5.heap.size ≤ wr.heap.size ∧ Below w.heap.size w wr) (fun _ i _ => ys.length - (intOf i).toNat)
      case atStart => exact ⟨0, rfl, Nat.zero_le _, hR5, hO8, Nat.le_refl _, hb5⟩
      case round =>
        clear hR5 hO8 hb5
        obtain ⟨k, rfl, hk2, hR, hO, hsz, hb⟩ := hrel
        by_cases hlt2 : k < ys.length
        · obtain ⟨b1, o1, hA3, hb3, y0, y1, y2, y3, y4, y5, y6⟩ := ev_at hR k hlt2
          subst hA3
          have p3 : (k : Int) < (ys.length : Int) := by omega
          have HT := hid (show ys.take (k + 1) = ys.take k ++ [ys[k]] from List.take_succ_eq_append_getElem hlt2)
          have hkl : (ys.take k).length = k := by simp; omega
          generalize ys[k] = y at *
          obtain ⟨A4, a4, rfl, m4⟩ := hO.shape
          rw [hkl] at hO ⊢
          have HKL := hid hkl
          clear hkl
          go_wp2_with fail
          refine (event_c y _).mono ?_
          rintro e w6 ⟨rfl, hb6⟩
          have hb7 := bthen' (balloc (Below.refl wr.heap.size wr) _) hb6
          have hR6 := hR.below hb7
          have hO6 := hO.below hb7
          have hb8 := bthen hb hb7 hb.size
          have hsz6 := hb7.size
          clear hR hO hb hb6 hb7 y0 y1 y2 y3 y4 y5 y6
          unfold evAgg
          apply_assumption
          go_wp2_with (at_builtin; refine ow_append (d := tEv) rfl 25 rfl Tryz.underlying25 _ 56 info_ev rfl (by decide) (by decide) rfl (hO6.alloc _) y _ rfl (heap_at rfl) (fun _ => False) rfl (fun _ hf => hf.elim) (fun _ hf => hf.elim) (by have := HKL.out; omega) (fun q => q = g8 ∨ w5.heap.size ≤ q) (fun _ hk => hk) (fun _ hf => hf.elim) (fun q hq => .inr (by simp at hq; omega)) ?_; intro v1 w9 hO9 hG9 hat9)
          have hCx : Ch (fun q => q = g8 ∨ w5.heap.size ≤ q) w6 w9 := ((Ch.refl (fun q => q = g8 ∨ w5.heap.size ≤ q) w6).alloc _).grown hG9 (fun q hq => .inl (hO6.inF hq))
          have hR9 := hR6.ch hCx (fun q hq => by
            rintro (h1 | h1)
            · omega
            · omega)
          rw [← HT.out] at hO9
          have hs9 := hCx.size
          have hb9 := ((Ch.of_below (S := fun q => w.heap.size ≤ q) hb8).then hCx (fun q hq => .inl (by omega))).below (fun q hq => hq) (Nat.le_refl _)
          go_roundw
          case rel => exact ⟨k + 1, by go_num, by omega, hR9, hO9, by omega, hb9⟩
          case measure => simp [intOf]; omega
        · have hkl : k = ys.length := by omega
          subst hkl
          rw [List.take_length] at hO
          go_wp2_with fail
          go_ret
          exact ⟨_, rfl, by rw [HYS.out]; exact hO.mono (fun q hq => by omega), hb⟩
end Go.Proofs.YtbcemldiahghcaaGreat
