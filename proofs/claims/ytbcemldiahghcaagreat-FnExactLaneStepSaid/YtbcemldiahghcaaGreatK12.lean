/- Texts joined: Good. -/
import Derived.Test.YtbcemldiahghcaaGreatK11
namespace Go.Proofs.YtbcemldiahghcaaGreat
set_option linter.unusedVariables false
set_option linter.unusedSimpArgs false
set_option linter.unusedSectionVars false
open Go.RowKit
/-- All blocks of w are in w' as they were. -/
def Agree (w w' : World) : Prop := ∀ k, k < w.heap.size → w'.heap[k]? = w.heap[k]?
theorem Agree.refl (w : World) : Agree w w := fun _ _ => rfl
theorem Agree.size {w w' : World} (h : Agree w w') : w.heap.size ≤ w'.heap.size := by
  rcases Nat.eq_zero_or_pos w.heap.size with h0 | h0
  · omega
  · have := h (w.heap.size - 1) (by omega)
    have h2 := Array.getElem?_eq_getElem (xs := w.heap) (i := w.heap.size - 1) (by omega)
    rw [h2] at this
    have := (Array.getElem?_eq_some_iff.1 this).1
    omega
theorem Agree.trans {w w1 w2 : World} (h : Agree w w1) (k : Agree w1 w2) : Agree w w2 := fun i hi => (k i (Nat.lt_of_lt_of_le hi h.size)).trans (h i hi)
theorem Agree.of_below {w w1 : World} (h : Below w.heap.size w w1) : Agree w w1 := fun k hk => h.block k hk
theorem Agree.of_ch {S : Nat → Prop} {w w1 : World} (h : Ch S w w1) (hS : ∀ k, S k → w.heap.size ≤ k) : Agree w w1 := fun k hk => h.block k hk (fun hs => by have := hS k hs; omega)
theorem Agree.at {w w' : World} (h : Agree w w') {k : Nat} {o : Obj} (ho : w.heap[k]? = some o) : w'.heap[k]? = some o := (h k (Array.getElem?_eq_some_iff.1 ho).1).trans ho
section
variable {P : Program} {α β : Type}
def StillS (P : Program) (s : Sem α) : Prop := ∀ w v w2, s.run P w = .ok v w2 →
  w.heap.size ≤ w2.heap.size ∧ w.drawn ≤ w2.drawn ∧ (w2.heap.size = w.heap.size → w2.drawn = w.drawn → w2 = w ∧ ∀ w', Agree w w' → s.run P w' = .ok v w')
theorem StillS.pure (a : α) : StillS P (Pure.pure a : Sem α) := fun w v w2 h => by
  simp only [Sem.run_pure, Result.ok.injEq] at h
  obtain ⟨rfl, rfl⟩ := h
  exact ⟨Nat.le_refl _, Nat.le_refl _, fun _ _ => ⟨rfl, fun _ _ => rfl⟩⟩
theorem StillS.halt (h : Halt) : StillS P (Sem.halt h : Sem α) := fun w v w2 h => by cases h
theorem StillS.stuck (s : String) : StillS P (stuck s : Sem α) := StillS.halt _
theorem StillS.unsupported (s : Unsupported) : StillS P (unsupported s : Sem α) := StillS.halt _
theorem StillS.goPanic (s : Value) : StillS P (goPanic s : Sem α) := StillS.halt _
theorem StillS.bind {s : Sem α} {f : α → Sem β} (hs : StillS P s) (hf : ∀ a, StillS P (f a)) : StillS P (s >>= f) := fun w v w2 h => by
  rw [Sem.run_bind] at h
  cases hr : s.run P w with
  | halt x w1 => rw [hr] at h; cases h
  | ok a w1 =>
    rw [hr] at h
    have h : (f a).run P w1 = .ok v w2 := h
    obtain ⟨a1, a2, a3⟩ := hs w a w1 hr
    obtain ⟨b1, b2, b3⟩ := hf a w1 v w2 h
    refine ⟨by omega, by omega, fun e1 e2 => ?_⟩
    obtain ⟨rfl, a4⟩ := a3 (by omega) (by omega)
    obtain ⟨rfl, b4⟩ := b3 (by omega) (by omega)
    refine ⟨rfl, fun w' hw => ?_⟩
    rw [Sem.run_bind, a4 w' hw]
    exact b4 w' hw
theorem StillS.map {s : Sem α} {f : α → β} (hs : StillS P s) : StillS P (f <$> s) := by
  rw [map_eq_pure_bind]; exact hs.bind fun a => StillS.pure _
theorem StillS.ite {c : Prop} [Decidable c] {s t : Sem α} (hs : StillS P s) (ht : StillS P t) : StillS P (if c then s else t) := by split <;> assumption
theorem StillS.program : StillS P Go.program := fun w v w2 h => by
  simp only [run_program, Result.ok.injEq] at h
  obtain ⟨rfl, rfl⟩ := h
  exact ⟨Nat.le_refl _, Nat.le_refl _, fun _ _ => ⟨rfl, fun _ _ => rfl⟩⟩
/-- The program is the one program. -/
theorem StillS.programB {f : Program → Sem β} (hf : StillS P (f P)) : StillS P (Go.program >>= f) := fun w v w2 h => by
  rw [Sem.run_bind, run_program] at h
  obtain ⟨a1, a2, a3⟩ := hf w v w2 h
  refine ⟨a1, a2, fun e1 e2 => ?_⟩
  obtain ⟨rfl, a4⟩ := a3 e1 e2
  exact ⟨rfl, fun w' hw => by rw [Sem.run_bind, run_program]; exact a4 w' hw⟩
theorem StillS.choose (q : Question) : StillS P (Go.choose q) := fun w v w2 h => by
  rw [run_choose] at h
  by_cases hq : q.forced = true
  · rw [if_pos hq] at h
    simp only [Result.ok.injEq] at h
    obtain ⟨rfl, rfl⟩ := h
    exact ⟨Nat.le_refl _, Nat.le_refl _, fun _ _ => ⟨rfl, fun w' _ => by rw [run_choose, if_pos hq]⟩⟩
  · rw [if_neg hq] at h
    simp only [Result.ok.injEq] at h
    obtain ⟨rfl, rfl⟩ := h
    exact ⟨Nat.le_refl _, Nat.le_succ _, fun _ e => absurd e (Nat.succ_ne_self _)⟩
theorem StillS.newObj (o : Obj) : StillS P (newObj o) := fun w v w2 h => by
  simp only [run_newObj, Result.ok.injEq] at h
  obtain ⟨rfl, rfl⟩ := h
  exact ⟨by simp, Nat.le_refl _, fun e _ => absurd e (by simp)⟩
theorem cell_agree {w w' : World} (h : Agree w w') {a : Addr} {v : Value} (hc : w.cell? a = some v) : w'.cell? a = some v := by
  have hlt : a.block < w.heap.size := World.block_lt_of_cell? _ _ hc
  rw [World.cell?_of_block (w := w) (h _ hlt)]; exact hc
theorem viewLoad_agree {w w' : World} (h : Agree w w') {at_ : Addr} {u : TypeId} {k : Addr} {b : Bool} {r : Value × List Addr} (hr : w.viewLoad P at_ u k b = .ok r) : w'.viewLoad P at_ u k b = .ok r := by
  have key : w'.heap[at_.block]? = w.heap[at_.block]? := by
    rcases Nat.lt_or_ge at_.block w.heap.size with hl | hl
    · exact h _ hl
    · exfalso
      have h0 : w.heap[at_.block]? = none := Array.getElem?_eq_none hl
      unfold World.viewLoad at hr
      cases hs : w.seen P at_ u k b with
      | error e => rw [hs] at hr; cases hr
      | ok x =>
        unfold World.seen at hs
        simp only [bind, Except.bind, Pure.pure, Except.pure, throw, throwThe, MonadExceptOf.throw, h0] at hs
        repeat' (split at hs)
        all_goals (first | (cases hs; done) | skip)
  have : w'.viewLoad P at_ u k b = w.viewLoad P at_ u k b := by
    unfold World.viewLoad World.seen
    rw [key]
  rw [this]; exact hr
theorem StillS.load (a : Addr) (m : Mode) : StillS P (Go.load a m) := fun w v w2 h => by
  rw [run_load] at h
  cases hc : w.cell? a with
  | some x =>
    rw [hc] at h
    simp only [Result.ok.injEq] at h
    obtain ⟨rfl, rfl⟩ := h
    exact ⟨Nat.le_refl _, Nat.le_refl _, fun _ _ => ⟨rfl, fun w' hw => by rw [run_load, cell_agree hw hc]⟩⟩
  | none =>
    rw [hc] at h
    simp only at h
    cases hf : w.farLoad P a (m == .atomic) with
    | error e => rw [hf] at h; cases h
    | ok r =>
      rw [hf] at h
      simp only [Result.ok.injEq] at h
      obtain ⟨rfl, rfl⟩ := h
      refine ⟨Nat.le_refl _, Nat.le_refl _, fun _ _ => ⟨rfl, fun w' hw => ?_⟩⟩
      unfold World.farLoad at hf
      cases hb : w.heap[a.block]? with
      | none => rw [hb] at hf; cases hf
      | some o =>
        rw [hb] at hf
        have hb' := hw.at hb
        have hc' : w'.cell? a = none := by rw [World.cell?_of_block (w := w) (hb'.trans hb.symm)]; exact hc
        rw [run_load, hc']
        unfold World.farLoad
        rw [hb']
        cases o with
        | view at_ u =>
          simp only at hf ⊢
          cases hv : w.viewLoad P at_ u a (m == .atomic) with
          | error e => rw [hv] at hf; cases hf
          | ok r' =>
            rw [hv] at hf
            simp only [Except.ok.injEq] at hf
            subst hf
            rw [viewLoad_agree hw hv]
        | _ => cases hf
theorem StillS.getObj (r : Nat) : StillS P (Go.getObj r) := fun w v w2 h => by
  have hrun : ∀ w : World, (Go.getObj r).run P w = match w.heap[r]? with | some (.cells ..) => .halt (.stuck "getObj: a row of cells") w | some o => .ok o w | none => .halt (.stuck "getObj: no such block") w := fun w => by
    simp only [Go.getObj, Sem.run]
    cases w.heap[r]? with
    | none => rfl
    | some o => cases o <;> rfl
  rw [hrun] at h
  cases hb : w.heap[r]? with
  | none => rw [hb] at h; cases h
  | some o =>
    rw [hb] at h
    cases o with
    | cells _ _ _ => cases h
    | _ =>
      simp only [Result.ok.injEq] at h
      obtain ⟨rfl, rfl⟩ := h
      exact ⟨Nat.le_refl _, Nat.le_refl _, fun _ _ => ⟨rfl, fun w' hw => by rw [hrun, hw.at hb]⟩⟩
theorem shape_agree {w w' : World} (h : Agree w w') {r : Nat} (hr : r < w.heap.size) : w'.shape? r = w.shape? r := by
  unfold World.shape?; rw [h r hr]
theorem run_shape_none {w : World} {r : Nat} (h : w.heap[r]? = none) : w.shape? r = none := by unfold World.shape?; rw [h]
theorem StillS.shapeB {r : Nat} {f : Option (TypeId × Nat) → Sem β} (hf : ∀ x, StillS P (f x)) (hn : ∀ w v w2, w.heap[r]? = none → (f none).run P w ≠ .ok v w2) : StillS P (Go.shape r >>= f) := fun w v w2 h => by
  rw [Sem.run_bind, run_shape] at h
  have h : (f (w.shape? r)).run P w = .ok v w2 := h
  have hr : r < w.heap.size := by
    rcases Nat.lt_or_ge r w.heap.size with hl | hl
    · exact hl
    · exfalso
      have h0 : w.heap[r]? = none := Array.getElem?_eq_none hl
      rw [run_shape_none h0] at h
      exact hn w v w2 h0 h
  obtain ⟨a1, a2, a3⟩ := hf (w.shape? r) w v w2 h
  refine ⟨a1, a2, fun e1 e2 => ?_⟩
  obtain ⟨rfl, a4⟩ := a3 e1 e2
  exact ⟨rfl, fun w' hw => by rw [Sem.run_bind, run_shape, shape_agree hw hr]; exact a4 w' hw⟩
theorem getObj_none {w : World} {r : Nat} (h : w.heap[r]? = none) : (Go.getObj r).run P w = .halt (.stuck "getObj: no such block") w := by
  simp only [Go.getObj, Sem.run, h]
theorem StillS.numberAt (r : Nat) : StillS P (numberAt r) := by
  unfold Go.numberAt
  refine StillS.shapeB (fun x => ?_) (fun w v w2 h0 => ?_)
  · split
    · exact StillS.pure _
    · exact (StillS.getObj r).bind fun o => by split <;> exact StillS.pure _
  · simp [getObj_none h0]
theorem StillS.viewAt (r : Nat) : StillS P (viewAt r) := by
  unfold Go.viewAt
  refine StillS.shapeB (fun x => ?_) (fun w v w2 h0 => ?_)
  · split
    · exact StillS.pure _
    · exact (StillS.getObj r).bind fun o => by split <;> exact StillS.pure _
  · simp [getObj_none h0]
theorem StillS.typeInfo (t : TypeId) : StillS P (typeInfo t) := by
  unfold Go.typeInfo
  refine StillS.program.bind fun p => ?_
  split
  · exact StillS.pure _
  · exact StillS.stuck _
theorem StillS.underlying (t : TypeId) : StillS P (underlying t) := by
  unfold Go.underlying
  refine StillS.program.bind fun p => ?_
  split
  · exact StillS.pure _
  · exact StillS.stuck _
theorem StillS.sizeOf (t : TypeId) : StillS P (Go.sizeOf t) := (StillS.typeInfo t).bind fun _ => StillS.pure _
theorem StillS.isAgg (t : TypeId) : StillS P (isAgg t) := by
  unfold Go.isAgg
  refine (StillS.underlying t).bind fun u => ?_
  split <;> exact StillS.pure _
theorem StillS.part (t : TypeId) (cs : Array Value) (off : Nat) : StillS P (part t cs off) := by
  unfold Go.part
  refine (StillS.isAgg t).bind fun b => ?_
  split
  · exact (StillS.sizeOf t).bind fun _ => StillS.pure _
  · split
    · exact StillS.pure _
    · exact StillS.stuck _
theorem StillS.loadCellsFrom (a : Addr) : ∀ (n i : Nat) (acc : Array Value), StillS P (loadCellsFrom a i n acc)
  | 0, _, _ => StillS.pure _
  | n + 1, i, acc => (StillS.load _ _).bind fun v => StillS.loadCellsFrom a n (i + 1) _
theorem StillS.loadVar (t : TypeId) (a : Addr) : StillS P (loadVar t a) := by
  unfold Go.loadVar
  refine (StillS.isAgg t).bind fun b => ?_
  split
  · exact (StillS.sizeOf t).bind fun n => (StillS.loadCellsFrom a n 0 #[]).bind fun _ => StillS.pure _
  · exact StillS.load _ _
theorem StillS.sureAddr (v : Value) : StillS P (Instr.sureAddr v) := by
  unfold Instr.sureAddr
  split
  · exact StillS.pure _
  · exact StillS.stuck _
theorem StillS.loadAt (t : TypeId) (v : Value) : StillS P (Instr.loadAt t v) := (StillS.sureAddr v).bind fun a => StillS.loadVar t a
theorem StillS.asIntOf (v : Value) : StillS P (asIntOf v) := by
  unfold Go.asIntOf
  split
  · exact StillS.pure _
  · exact StillS.unsupported _
  · exact StillS.stuck _
theorem StillS.asInt (v : Value) : StillS P (asInt v) := (StillS.asIntOf v).bind fun _ => StillS.pure _
theorem StillS.asBool (v : Value) : StillS P (asBool v) := by
  unfold Go.asBool
  split
  · exact StillS.pure _
  · exact StillS.stuck _
theorem StillS.asAgg (v : Value) : StillS P (asAgg v) := by
  unfold Go.asAgg
  split
  · exact StillS.pure _
  · exact StillS.stuck _
theorem StillS.runtimeBounds {x y : Int} {s : Bool} {c : BoundsCode} : StillS P (runtimePanic (.bounds x y s c) : Sem α) := by
  unfold Go.runtimePanic
  exact StillS.program.bind fun p => StillS.goPanic _
theorem StillS.nilDeref : StillS P (runtimePanic .nilDeref : Sem α) := by
  unfold Go.runtimePanic
  exact StillS.program.bind fun p => StillS.goPanic _
theorem StillS.boundsPanic (k : IntKind) (x y : Int) (c : BoundsCode) : StillS P (boundsPanic k x y c : Sem α) := by
  unfold Go.boundsPanic
  dsimp only
  split
  · exact ((StillS.choose _).map).bind fun b => StillS.runtimeBounds
  · exact (StillS.pure _).bind fun b => StillS.runtimeBounds
theorem StillS.asAddr (v : Value) : StillS P (asAddr v) := by
  unfold Go.asAddr
  split
  · exact StillS.pure _
  · exact StillS.nilDeref
  · exact StillS.stuck _

theorem StillS.arith {op : BinOp} {k : IntKind} {x y : Int} : StillS P (Op.intArith op k x y) := by
  unfold Op.intArith; split <;> first | exact StillS.pure _ | exact StillS.stuck _
theorem StillS.cmp {op : BinOp} {x y : Int} : StillS P (Op.intCmp op x y) := by
  unfold Op.intCmp; split <;> first | exact StillS.pure _ | exact StillS.stuck _
theorem StillS.bits {op : BinOp} {k : IntKind} {x y : Int} : StillS P (Op.intBits op k x y) := by
  unfold Op.intBits; split <;> first | exact StillS.pure _ | exact StillS.stuck _
theorem StillS.unary (op : UnOp) (x : Value) : StillS P (Op.unary op x) := by
  unfold Op.unary
  split <;> first | exact StillS.pure _ | exact StillS.stuck _ | exact StillS.arith | exact StillS.bits | exact StillS.unsupported _
theorem StillS.behindNumber (a : Addr) : StillS P (behindNumber a) := by
  unfold Go.behindNumber
  exact (StillS.numberAt _).bind fun _ => StillS.pure _
theorem StillS.extract (t : Value) (i : Nat) : StillS P (Instr.extract t i) := by
  unfold Instr.extract
  repeat' (first | with_reducible exact StillS.pure _ | with_reducible exact StillS.stuck _ | with_reducible exact StillS.unsupported _ | with_reducible exact StillS.boundsPanic _ _ _ _ | with_reducible exact StillS.nilDeref | with_reducible exact StillS.underlying _ | with_reducible exact StillS.sizeOf _ | with_reducible exact StillS.typeInfo _ | with_reducible exact StillS.part _ _ _ | with_reducible exact StillS.getObj _ | with_reducible exact StillS.asIntOf _ | with_reducible exact StillS.asAgg _ | with_reducible exact StillS.asAddr _ | with_reducible exact StillS.asBool _ | with_reducible exact StillS.sureAddr _ | with_reducible exact StillS.load _ _  | with_reducible refine StillS.bind ?_ (fun _ => ?_) | split | dsimp only)
theorem StillS.field (t : TypeId) (x : Value) (f : Nat) : StillS P (Instr.field t x f) := by
  unfold Instr.field
  repeat' (first | with_reducible exact StillS.pure _ | with_reducible exact StillS.stuck _ | with_reducible exact StillS.unsupported _ | with_reducible exact StillS.boundsPanic _ _ _ _ | with_reducible exact StillS.nilDeref | with_reducible exact StillS.underlying _ | with_reducible exact StillS.sizeOf _ | with_reducible exact StillS.typeInfo _ | with_reducible exact StillS.part _ _ _ | with_reducible exact StillS.getObj _ | with_reducible exact StillS.asIntOf _ | with_reducible exact StillS.asAgg _ | with_reducible exact StillS.asAddr _ | with_reducible exact StillS.asBool _ | with_reducible exact StillS.sureAddr _ | with_reducible exact StillS.load _ _  | with_reducible refine StillS.bind ?_ (fun _ => ?_) | split | dsimp only)
theorem StillS.indexAt (t : TypeId) (x i : Value) : StillS P (Instr.indexAt t x i) := by
  unfold Instr.indexAt
  repeat' (first | with_reducible exact StillS.pure _ | with_reducible exact StillS.stuck _ | with_reducible exact StillS.unsupported _ | with_reducible exact StillS.boundsPanic _ _ _ _ | with_reducible exact StillS.nilDeref | with_reducible exact StillS.underlying _ | with_reducible exact StillS.sizeOf _ | with_reducible exact StillS.typeInfo _ | with_reducible exact StillS.part _ _ _ | with_reducible exact StillS.getObj _ | with_reducible exact StillS.asIntOf _ | with_reducible exact StillS.asAgg _ | with_reducible exact StillS.asAddr _ | with_reducible exact StillS.asBool _ | with_reducible exact StillS.sureAddr _ | with_reducible exact StillS.load _ _  | with_reducible refine StillS.bind ?_ (fun _ => ?_) | split | dsimp only)
theorem StillS.index (t : TypeId) (x i : Value) : StillS P (Instr.index t x i) := by
  unfold Instr.index
  repeat' (first | with_reducible exact StillS.pure _ | with_reducible exact StillS.stuck _ | with_reducible exact StillS.unsupported _ | with_reducible exact StillS.boundsPanic _ _ _ _ | with_reducible exact StillS.nilDeref | with_reducible exact StillS.underlying _ | with_reducible exact StillS.sizeOf _ | with_reducible exact StillS.typeInfo _ | with_reducible exact StillS.part _ _ _ | with_reducible exact StillS.getObj _ | with_reducible exact StillS.asIntOf _ | with_reducible exact StillS.asAgg _ | with_reducible exact StillS.asAddr _ | with_reducible exact StillS.asBool _ | with_reducible exact StillS.sureAddr _ | with_reducible exact StillS.load _ _  | with_reducible refine StillS.bind ?_ (fun _ => ?_) | split | dsimp only)
theorem StillS.sliceBound (x : Value) (y : Nat) (c : BoundsCode) : StillS P (Instr.sliceBound x y c) := by
  unfold Instr.sliceBound
  repeat' (first | with_reducible exact StillS.pure _ | with_reducible exact StillS.stuck _ | with_reducible exact StillS.unsupported _ | with_reducible exact StillS.boundsPanic _ _ _ _ | with_reducible exact StillS.nilDeref | with_reducible exact StillS.underlying _ | with_reducible exact StillS.sizeOf _ | with_reducible exact StillS.typeInfo _ | with_reducible exact StillS.part _ _ _ | with_reducible exact StillS.getObj _ | with_reducible exact StillS.asIntOf _ | with_reducible exact StillS.asAgg _ | with_reducible exact StillS.asAddr _ | with_reducible exact StillS.asBool _ | with_reducible exact StillS.sureAddr _ | with_reducible exact StillS.load _ _  | with_reducible refine StillS.bind ?_ (fun _ => ?_) | split | dsimp only)
theorem StillS.sliceBounds (b : Bool) (n c : Nat) (lo hi mx : Option Value) : StillS P (Instr.sliceBounds b n c lo hi mx) := by
  unfold Instr.sliceBounds
  have key : ∀ (m : Nat), StillS P (do
      let h ← match hi, mx with
        | some v, some _ => Instr.sliceBound v m .slice3B
        | some v, none => Instr.sliceBound v m (if b then .sliceAcap else .sliceAlen)
        | none, none => Pure.pure n
        | none, some _ => Go.stuck "Slice: max without high"
      let l ← match lo with
        | some v => Instr.sliceBound v h (if mx.isSome then .slice3C else .sliceB)
        | none => Pure.pure 0
      Pure.pure (l, h, m)) := fun m => by
    repeat' (first | with_reducible exact StillS.pure _ | with_reducible exact StillS.stuck _ | with_reducible exact StillS.unsupported _ | with_reducible exact StillS.boundsPanic _ _ _ _ | with_reducible exact StillS.nilDeref | with_reducible exact StillS.underlying _ | with_reducible exact StillS.sizeOf _ | with_reducible exact StillS.typeInfo _ | with_reducible exact StillS.part _ _ _ | with_reducible exact StillS.getObj _ | with_reducible exact StillS.asIntOf _ | with_reducible exact StillS.asAgg _ | with_reducible exact StillS.asAddr _ | with_reducible exact StillS.asBool _ | with_reducible exact StillS.sureAddr _ | with_reducible exact StillS.load _ _ | with_reducible exact StillS.sliceBound _ _ _  | with_reducible refine StillS.bind ?_ (fun _ => ?_) | split | dsimp only)
  repeat' (first | with_reducible exact StillS.pure _ | with_reducible exact StillS.stuck _ | with_reducible exact StillS.unsupported _ | with_reducible exact StillS.boundsPanic _ _ _ _ | with_reducible exact StillS.nilDeref | with_reducible exact StillS.underlying _ | with_reducible exact StillS.sizeOf _ | with_reducible exact StillS.typeInfo _ | with_reducible exact StillS.part _ _ _ | with_reducible exact StillS.getObj _ | with_reducible exact StillS.asIntOf _ | with_reducible exact StillS.asAgg _ | with_reducible exact StillS.asAddr _ | with_reducible exact StillS.asBool _ | with_reducible exact StillS.sureAddr _ | with_reducible exact StillS.load _ _ | with_reducible exact StillS.sliceBound _ _ _  | with_reducible refine StillS.bind ?_ (fun _ => ?_) | split | dsimp only)
theorem StillS.slice (t : TypeId) (x : Value) (lo hi mx : Option Value) : StillS P (Instr.slice t x lo hi mx) := by
  unfold Instr.slice
  repeat' (first | with_reducible exact StillS.pure _ | with_reducible exact StillS.stuck _ | with_reducible exact StillS.unsupported _ | with_reducible exact StillS.boundsPanic _ _ _ _ | with_reducible exact StillS.nilDeref | with_reducible exact StillS.underlying _ | with_reducible exact StillS.sizeOf _ | with_reducible exact StillS.typeInfo _ | with_reducible exact StillS.part _ _ _ | with_reducible exact StillS.getObj _ | with_reducible exact StillS.asIntOf _ | with_reducible exact StillS.asAgg _ | with_reducible exact StillS.asAddr _ | with_reducible exact StillS.asBool _ | with_reducible exact StillS.sureAddr _ | with_reducible exact StillS.load _ _ | with_reducible exact StillS.sliceBounds _ _ _ _ _ _  | with_reducible refine StillS.bind ?_ (fun _ => ?_) | split | dsimp only)
theorem StillS.sliceAt (t : TypeId) (x : Value) (lo hi mx : Option Value) : StillS P (Instr.sliceAt t x lo hi mx) := by
  unfold Instr.sliceAt
  repeat' (first | with_reducible exact StillS.pure _ | with_reducible exact StillS.stuck _ | with_reducible exact StillS.unsupported _ | with_reducible exact StillS.boundsPanic _ _ _ _ | with_reducible exact StillS.nilDeref | with_reducible exact StillS.underlying _ | with_reducible exact StillS.sizeOf _ | with_reducible exact StillS.typeInfo _ | with_reducible exact StillS.part _ _ _ | with_reducible exact StillS.getObj _ | with_reducible exact StillS.asIntOf _ | with_reducible exact StillS.asAgg _ | with_reducible exact StillS.asAddr _ | with_reducible exact StillS.asBool _ | with_reducible exact StillS.sureAddr _ | with_reducible exact StillS.load _ _ | with_reducible exact StillS.sliceBounds _ _ _ _ _ _ | with_reducible exact StillS.slice _ _ _ _ _  | with_reducible refine StillS.bind ?_ (fun _ => ?_) | split | dsimp only)
theorem StillS.len (ts : Array TypeId) (t : TypeId) (xs : Array Value) : StillS P (Builtin.len_ ts t xs) := by
  unfold Builtin.len_
  repeat' (first | with_reducible exact StillS.pure _ | with_reducible exact StillS.stuck _ | with_reducible exact StillS.unsupported _ | with_reducible exact StillS.boundsPanic _ _ _ _ | with_reducible exact StillS.nilDeref | with_reducible exact StillS.underlying _ | with_reducible exact StillS.sizeOf _ | with_reducible exact StillS.typeInfo _ | with_reducible exact StillS.part _ _ _ | with_reducible exact StillS.getObj _ | with_reducible exact StillS.asIntOf _ | with_reducible exact StillS.asAgg _ | with_reducible exact StillS.asAddr _ | with_reducible exact StillS.asBool _ | with_reducible exact StillS.sureAddr _ | with_reducible exact StillS.load _ _  | with_reducible refine StillS.bind ?_ (fun _ => ?_) | split | dsimp only)
theorem StillS.cap (ts : Array TypeId) (t : TypeId) (xs : Array Value) : StillS P (Builtin.cap_ ts t xs) := by
  unfold Builtin.cap_
  repeat' (first | with_reducible exact StillS.pure _ | with_reducible exact StillS.stuck _ | with_reducible exact StillS.unsupported _ | with_reducible exact StillS.boundsPanic _ _ _ _ | with_reducible exact StillS.nilDeref | with_reducible exact StillS.underlying _ | with_reducible exact StillS.sizeOf _ | with_reducible exact StillS.typeInfo _ | with_reducible exact StillS.part _ _ _ | with_reducible exact StillS.getObj _ | with_reducible exact StillS.asIntOf _ | with_reducible exact StillS.asAgg _ | with_reducible exact StillS.asAddr _ | with_reducible exact StillS.asBool _ | with_reducible exact StillS.sureAddr _ | with_reducible exact StillS.load _ _  | with_reducible refine StillS.bind ?_ (fun _ => ?_) | split | dsimp only)
theorem StillS.followBlind : ∀ (l : List FieldStep) (t : TypeId) (x : Option Value), StillS P (followBlind l t x)
  | [], _, _ => StillS.pure _
  | s :: rest, t, x => by
    have ih := fun t x => StillS.followBlind rest t x
    unfold Go.followBlind
    repeat' (first | with_reducible exact StillS.pure _ | with_reducible exact StillS.stuck _ | with_reducible exact StillS.unsupported _ | with_reducible exact StillS.boundsPanic _ _ _ _ | with_reducible exact StillS.nilDeref | with_reducible exact StillS.underlying _ | with_reducible exact StillS.sizeOf _ | with_reducible exact StillS.typeInfo _ | with_reducible exact StillS.part _ _ _ | with_reducible exact StillS.getObj _ | with_reducible exact StillS.asIntOf _ | with_reducible exact StillS.asAgg _ | with_reducible exact StillS.asAddr _ | with_reducible exact StillS.asBool _ | with_reducible exact StillS.sureAddr _ | with_reducible exact StillS.load _ _ | with_reducible exact ih _ _  | with_reducible refine StillS.bind ?_ (fun _ => ?_) | split | dsimp only)
theorem StillS.nilAhead : ∀ (n : Nat) (t : TypeId) (v : Value) (s : String), StillS P (nilAhead n t v s)
  | 0, _, _, _ => StillS.pure _
  | n + 1, t, v, s => by
    have ih := fun t v s => StillS.nilAhead n t v s
    unfold Go.nilAhead
    repeat' (first | with_reducible exact StillS.pure _ | with_reducible exact StillS.stuck _ | with_reducible exact StillS.unsupported _ | with_reducible exact StillS.boundsPanic _ _ _ _ | with_reducible exact StillS.nilDeref | with_reducible exact StillS.underlying _ | with_reducible exact StillS.sizeOf _ | with_reducible exact StillS.typeInfo _ | with_reducible exact StillS.part _ _ _ | with_reducible exact StillS.getObj _ | with_reducible exact StillS.asIntOf _ | with_reducible exact StillS.asAgg _ | with_reducible exact StillS.asAddr _ | with_reducible exact StillS.asBool _ | with_reducible exact StillS.sureAddr _ | with_reducible exact StillS.load _ _ | with_reducible exact ih _ _ _ | with_reducible exact StillS.followBlind _ _ _  | with_reducible refine StillS.bind ?_ (fun _ => ?_) | split | dsimp only)
/-- Operations that only read, by their form. -/
def basicT (P : Program) (t : TypeId) : Bool := (match P.underlying t with | some (.int _) => true | some .bool => true | some .string => true | _ => false) && !P.eqGuardType P.depth t
def readOp (P : Program) (o : Oper) : Bool := match o.op with
  | .move _ => true
  | .assign _ => true
  | .pick _ _ _ => true
  | .load _ _ => true
  | .nilCheck _ => true
  | .binOp op t _ _ _ => match op with | .lss | .leq | .gtr | .geq | .add | .sub | .eql | .neq => basicT P t | _ => false
  | .unOp _ _ _ => true
  | .slice _ _ _ _ _ => true
  | .fieldAddr t _ f => match P.underlying t with | some (.struct fs) => (match fs[f]? with | some fd => (match P.info? fd.type with | some i => i.size != 0 | none => false) | none => false) | _ => false
  | .field _ _ _ => true
  | .indexAddr _ _ _ => true
  | .index _ _ _ => true
  | .extract _ _ => true
  | .call c => match c.callee with | .builtin .len => true | .builtin .cap => true | _ => false
  | _ => false
theorem StillS.fieldAt {t : TypeId} {f : Nat} (h : (match P.underlying t with | some (.struct fs) => (match fs[f]? with | some fd => (match P.info? fd.type with | some i => i.size != 0 | none => false) | none => false) | _ => false) = true) (x : Value) : StillS P (Instr.fieldAt t x f) := by
  unfold Instr.fieldAt Go.underlying
  simp only [bind_assoc]
  refine StillS.programB ?_
  cases hu : P.underlying t with
  | none => rw [hu] at h; cases h
  | some u =>
    rw [hu] at h
    simp only [pure_bind]
    cases u with
    | struct fs =>
      simp only at h ⊢
      cases hf : fs[f]? with
      | none => repeat' (first | with_reducible exact StillS.pure _ | with_reducible exact StillS.stuck _ | with_reducible exact StillS.unsupported _ | with_reducible exact StillS.boundsPanic _ _ _ _ | with_reducible exact StillS.nilDeref | with_reducible exact StillS.underlying _ | with_reducible exact StillS.sizeOf _ | with_reducible exact StillS.typeInfo _ | with_reducible exact StillS.part _ _ _ | with_reducible exact StillS.getObj _ | with_reducible exact StillS.asIntOf _ | with_reducible exact StillS.asAgg _ | with_reducible exact StillS.asAddr _ | with_reducible exact StillS.asBool _ | with_reducible exact StillS.sureAddr _ | with_reducible exact StillS.load _ _  | with_reducible refine StillS.bind ?_ (fun _ => ?_) | split | dsimp only)
      | some fd =>
        rw [hf] at h
        simp only at h ⊢
        refine (StillS.sureAddr _).bind fun a => ?_
        unfold Go.fieldPlace Go.sizeOf Go.typeInfo
        simp only [bind_assoc]
        refine StillS.programB ?_
        cases hi : P.info? fd.type with
        | none => exact StillS.bind (StillS.stuck _) fun _ => by rw [hi] at h; cases h
        | some i =>
          rw [hi] at h
          have h0 : i.size ≠ 0 := by simpa using h
          simp only [pure_bind, h0, if_false]
          exact StillS.pure _
    | _ => repeat' (first | with_reducible exact StillS.pure _ | with_reducible exact StillS.stuck _ | with_reducible exact StillS.unsupported _ | with_reducible exact StillS.boundsPanic _ _ _ _ | with_reducible exact StillS.nilDeref | with_reducible exact StillS.underlying _ | with_reducible exact StillS.sizeOf _ | with_reducible exact StillS.typeInfo _ | with_reducible exact StillS.part _ _ _ | with_reducible exact StillS.getObj _ | with_reducible exact StillS.asIntOf _ | with_reducible exact StillS.asAgg _ | with_reducible exact StillS.asAddr _ | with_reducible exact StillS.asBool _ | with_reducible exact StillS.sureAddr _ | with_reducible exact StillS.load _ _  | with_reducible refine StillS.bind ?_ (fun _ => ?_) | split | dsimp only)
theorem StillS.errorP {α : Type} {m : String} : StillS P (runtimePanic (.error m) : Sem α) := by
  unfold Go.runtimePanic
  exact StillS.program.bind fun p => StillS.goPanic _
theorem StillS.byteOf (a : Addr) : StillS P (byteOf a) := by
  unfold Go.byteOf Go.noView
  repeat' (first | with_reducible exact StillS.pure _ | with_reducible exact StillS.stuck _ | with_reducible exact StillS.unsupported _ | with_reducible exact StillS.boundsPanic _ _ _ _ | with_reducible exact StillS.nilDeref | with_reducible exact StillS.underlying _ | with_reducible exact StillS.sizeOf _ | with_reducible exact StillS.typeInfo _ | with_reducible exact StillS.part _ _ _ | with_reducible exact StillS.getObj _ | with_reducible exact StillS.asIntOf _ | with_reducible exact StillS.asAgg _ | with_reducible exact StillS.asAddr _ | with_reducible exact StillS.asBool _ | with_reducible exact StillS.sureAddr _ | with_reducible exact StillS.load _ _ | with_reducible exact StillS.viewAt _ | with_reducible exact StillS.numberAt _ | with_reducible exact StillS.behindNumber _ | with_reducible exact StillS.program | with_reducible exact StillS.choose _ | with_reducible exact StillS.errorP  | (refine StillS.shapeB (fun _ => ?_) ?hn; case hn => (intro w v w2 h0 h; simp at h; done)) | with_reducible refine StillS.bind ?_ (fun _ => ?_) | split | dsimp only)
theorem StillS.addrCmp (op : BinOp) (a b : Addr) : StillS P (Op.addrCmp op a b) := by
  unfold Op.addrCmp Op.twoPlaces
  repeat' (first | with_reducible exact StillS.pure _ | with_reducible exact StillS.stuck _ | with_reducible exact StillS.unsupported _ | with_reducible exact StillS.boundsPanic _ _ _ _ | with_reducible exact StillS.nilDeref | with_reducible exact StillS.underlying _ | with_reducible exact StillS.sizeOf _ | with_reducible exact StillS.typeInfo _ | with_reducible exact StillS.part _ _ _ | with_reducible exact StillS.getObj _ | with_reducible exact StillS.asIntOf _ | with_reducible exact StillS.asAgg _ | with_reducible exact StillS.asAddr _ | with_reducible exact StillS.asBool _ | with_reducible exact StillS.sureAddr _ | with_reducible exact StillS.load _ _ | with_reducible exact StillS.viewAt _ | with_reducible exact StillS.numberAt _ | with_reducible exact StillS.byteOf _ | with_reducible exact StillS.behindNumber _ | with_reducible exact StillS.program | with_reducible exact StillS.choose _ | with_reducible exact StillS.errorP  | (refine StillS.shapeB (fun _ => ?_) ?hn; case hn => (intro w v w2 h0 h; simp at h; done)) | with_reducible refine StillS.bind ?_ (fun _ => ?_) | split | dsimp only)
theorem StillS.addrSub (k : IntKind) (a b : Addr) : StillS P (Op.addrSub k a b) := by
  unfold Op.addrSub Op.twoPlaces
  repeat' (first | with_reducible exact StillS.pure _ | with_reducible exact StillS.stuck _ | with_reducible exact StillS.unsupported _ | with_reducible exact StillS.boundsPanic _ _ _ _ | with_reducible exact StillS.nilDeref | with_reducible exact StillS.underlying _ | with_reducible exact StillS.sizeOf _ | with_reducible exact StillS.typeInfo _ | with_reducible exact StillS.part _ _ _ | with_reducible exact StillS.getObj _ | with_reducible exact StillS.asIntOf _ | with_reducible exact StillS.asAgg _ | with_reducible exact StillS.asAddr _ | with_reducible exact StillS.asBool _ | with_reducible exact StillS.sureAddr _ | with_reducible exact StillS.load _ _ | with_reducible exact StillS.viewAt _ | with_reducible exact StillS.numberAt _ | with_reducible exact StillS.byteOf _ | with_reducible exact StillS.behindNumber _ | with_reducible exact StillS.program | with_reducible exact StillS.choose _ | with_reducible exact StillS.errorP  | (refine StillS.shapeB (fun _ => ?_) ?hn; case hn => (intro w v w2 h0 h; simp at h; done)) | with_reducible refine StillS.bind ?_ (fun _ => ?_) | split | dsimp only)
theorem StillS.unsafeAdd (ts : Array TypeId) (t : TypeId) (xs : Array Value) : StillS P (Builtin.unsafeAdd_ ts t xs) := by
  obtain ⟨l⟩ := xs
  rcases l with _ | ⟨x, _ | ⟨y, _ | ⟨z, l⟩⟩⟩
  case cons.cons.nil =>
    cases x
    case pointer o =>
      show StillS P (do
        let n ← Go.asInt y
        if n = 0 then
          let some a := o | Go.unsupported (.unsafePointer "Add: from nil")
          if (← Go.viewAt a.block).isSome then Go.unsupported (.unsafePointer "Add: at a place where no cell lies")
          return Value.pointer o
        if n < 0 then Go.unsupported (.unsafePointer "Add: a move by a count below zero")
        let some a := o | Go.unsupported (.unsafePointer "Add")
        let some (e, cells) ← Go.shape a.block | Go.unsupported (.unsafePointer "Add")
        let p ← Go.program
        match cellAtBytes p p.depth e (cells / p.cellsOf e) a.off n with
        | some off => Pure.pure (Value.pointer (some { a with off }))
        | none => Go.unsupported (.unsafePointer "Add"))
      unfold Go.asInt
      repeat' (first | with_reducible exact StillS.pure _ | with_reducible exact StillS.stuck _ | with_reducible exact StillS.unsupported _ | with_reducible exact StillS.boundsPanic _ _ _ _ | with_reducible exact StillS.nilDeref | with_reducible exact StillS.underlying _ | with_reducible exact StillS.sizeOf _ | with_reducible exact StillS.typeInfo _ | with_reducible exact StillS.part _ _ _ | with_reducible exact StillS.getObj _ | with_reducible exact StillS.asIntOf _ | with_reducible exact StillS.asAgg _ | with_reducible exact StillS.asAddr _ | with_reducible exact StillS.asBool _ | with_reducible exact StillS.sureAddr _ | with_reducible exact StillS.load _ _ | with_reducible exact StillS.viewAt _ | with_reducible exact StillS.numberAt _ | with_reducible exact StillS.byteOf _ | with_reducible exact StillS.behindNumber _ | with_reducible exact StillS.program | with_reducible exact StillS.choose _ | with_reducible exact StillS.errorP  | (refine StillS.shapeB (fun _ => ?_) ?hn; case hn => (intro w v w2 h0 h; simp at h; done)) | with_reducible refine StillS.bind ?_ (fun _ => ?_) | split | dsimp only)
    all_goals exact StillS.stuck _
  all_goals first | exact StillS.stuck _ | (cases x <;> exact StillS.stuck _)
theorem StillS.asNumber (a : Addr) (b : Bool) : StillS P (asNumber a b) := by
  unfold Go.asNumber
  exact (StillS.newObj _).bind fun _ => StillS.pure _
theorem StillS.movedNumber (t : TypeId) (x y : Value) : StillS P (movedNumber t x y) := by
  unfold Go.movedNumber
  repeat' (first | with_reducible exact StillS.pure _ | with_reducible exact StillS.stuck _ | with_reducible exact StillS.unsupported _ | with_reducible exact StillS.boundsPanic _ _ _ _ | with_reducible exact StillS.nilDeref | with_reducible exact StillS.underlying _ | with_reducible exact StillS.sizeOf _ | with_reducible exact StillS.typeInfo _ | with_reducible exact StillS.part _ _ _ | with_reducible exact StillS.getObj _ | with_reducible exact StillS.asIntOf _ | with_reducible exact StillS.asAgg _ | with_reducible exact StillS.asAddr _ | with_reducible exact StillS.asBool _ | with_reducible exact StillS.sureAddr _ | with_reducible exact StillS.load _ _ | with_reducible exact StillS.viewAt _ | with_reducible exact StillS.numberAt _ | with_reducible exact StillS.byteOf _ | with_reducible exact StillS.behindNumber _ | with_reducible exact StillS.unsafeAdd _ _ _ | with_reducible exact StillS.asNumber _ _ | with_reducible exact StillS.program | with_reducible exact StillS.choose _ | with_reducible exact StillS.errorP  | (refine StillS.shapeB (fun _ => ?_) ?hn; case hn => (intro w v w2 h0 h; simp at h; done)) | with_reducible refine StillS.bind ?_ (fun _ => ?_) | split | dsimp only)
theorem StillS.movedPointer (t : TypeId) (x y : Value) : StillS P (movedPointer t x y) := by
  unfold Go.movedPointer
  repeat' (first | with_reducible exact StillS.pure _ | with_reducible exact StillS.stuck _ | with_reducible exact StillS.unsupported _ | with_reducible exact StillS.boundsPanic _ _ _ _ | with_reducible exact StillS.nilDeref | with_reducible exact StillS.underlying _ | with_reducible exact StillS.sizeOf _ | with_reducible exact StillS.typeInfo _ | with_reducible exact StillS.part _ _ _ | with_reducible exact StillS.getObj _ | with_reducible exact StillS.asIntOf _ | with_reducible exact StillS.asAgg _ | with_reducible exact StillS.asAddr _ | with_reducible exact StillS.asBool _ | with_reducible exact StillS.sureAddr _ | with_reducible exact StillS.load _ _ | with_reducible exact StillS.viewAt _ | with_reducible exact StillS.numberAt _ | with_reducible exact StillS.byteOf _ | with_reducible exact StillS.behindNumber _ | with_reducible exact StillS.unsafeAdd _ _ _ | with_reducible exact StillS.asNumber _ _ | with_reducible exact StillS.program | with_reducible exact StillS.choose _ | with_reducible exact StillS.errorP  | (refine StillS.shapeB (fun _ => ?_) ?hn; case hn => (intro w v w2 h0 h; simp at h; done)) | with_reducible refine StillS.bind ?_ (fun _ => ?_) | split | dsimp only)
theorem StillS.equal {t : TypeId} (h : basicT P t = true) (x y : Value) : StillS P (Op.equal t x y) := by
  unfold Op.equal Op.maxDepth
  show StillS P (Op.equalIn (9999 + 1) t x y)
  rw [Op.equalIn]
  unfold Go.underlying
  simp only [bind_assoc]
  refine StillS.programB ?_
  unfold basicT at h
  cases hu : P.underlying t with
  | none => rw [hu] at h; cases h
  | some u =>
    rw [hu] at h
    simp only [pure_bind]
    cases u <;> first | (exfalso; revert h; simp; done) | (split <;> first | (exfalso; simp_all; done) | skip)
    all_goals (repeat' (first | with_reducible exact StillS.pure _ | with_reducible exact StillS.stuck _ | with_reducible exact StillS.unsupported _ | with_reducible exact StillS.boundsPanic _ _ _ _ | with_reducible exact StillS.nilDeref | with_reducible exact StillS.underlying _ | with_reducible exact StillS.sizeOf _ | with_reducible exact StillS.typeInfo _ | with_reducible exact StillS.part _ _ _ | with_reducible exact StillS.getObj _ | with_reducible exact StillS.asIntOf _ | with_reducible exact StillS.asAgg _ | with_reducible exact StillS.asAddr _ | with_reducible exact StillS.asBool _ | with_reducible exact StillS.sureAddr _ | with_reducible exact StillS.load _ _ | with_reducible exact StillS.viewAt _ | with_reducible exact StillS.numberAt _ | with_reducible exact StillS.byteOf _ | with_reducible exact StillS.behindNumber _ | with_reducible exact StillS.unsafeAdd _ _ _ | with_reducible exact StillS.asNumber _ _ | with_reducible exact StillS.program | with_reducible exact StillS.choose _ | with_reducible exact StillS.errorP  | (refine StillS.shapeB (fun _ => ?_) ?hn; case hn => (intro w v w2 h0 h; simp at h; done)) | with_reducible refine StillS.bind ?_ (fun _ => ?_) | split | dsimp only))
theorem StillS.floatArith (op : BinOp) (k : FloatKind) (x y : Nat) : StillS P (Op.floatArith op k x y) := by
  unfold Op.floatArith
  repeat' (first | with_reducible exact StillS.pure _ | with_reducible exact StillS.stuck _ | with_reducible exact StillS.unsupported _ | with_reducible exact StillS.boundsPanic _ _ _ _ | with_reducible exact StillS.nilDeref | with_reducible exact StillS.underlying _ | with_reducible exact StillS.sizeOf _ | with_reducible exact StillS.typeInfo _ | with_reducible exact StillS.part _ _ _ | with_reducible exact StillS.getObj _ | with_reducible exact StillS.asIntOf _ | with_reducible exact StillS.asAgg _ | with_reducible exact StillS.asAddr _ | with_reducible exact StillS.asBool _ | with_reducible exact StillS.sureAddr _ | with_reducible exact StillS.load _ _ | with_reducible exact StillS.viewAt _ | with_reducible exact StillS.numberAt _ | with_reducible exact StillS.byteOf _ | with_reducible exact StillS.behindNumber _ | with_reducible exact StillS.unsafeAdd _ _ _ | with_reducible exact StillS.asNumber _ _ | with_reducible exact StillS.program | with_reducible exact StillS.choose _ | with_reducible exact StillS.errorP  | (refine StillS.shapeB (fun _ => ?_) ?hn; case hn => (intro w v w2 h0 h; simp at h; done)) | with_reducible refine StillS.bind ?_ (fun _ => ?_) | split | dsimp only)
theorem StillS.floatCmp (op : BinOp) (k : FloatKind) (x y : Nat) : StillS P (Op.floatCmp op k x y) := by
  unfold Op.floatCmp
  repeat' (first | with_reducible exact StillS.pure _ | with_reducible exact StillS.stuck _ | with_reducible exact StillS.unsupported _ | with_reducible exact StillS.boundsPanic _ _ _ _ | with_reducible exact StillS.nilDeref | with_reducible exact StillS.underlying _ | with_reducible exact StillS.sizeOf _ | with_reducible exact StillS.typeInfo _ | with_reducible exact StillS.part _ _ _ | with_reducible exact StillS.getObj _ | with_reducible exact StillS.asIntOf _ | with_reducible exact StillS.asAgg _ | with_reducible exact StillS.asAddr _ | with_reducible exact StillS.asBool _ | with_reducible exact StillS.sureAddr _ | with_reducible exact StillS.load _ _ | with_reducible exact StillS.viewAt _ | with_reducible exact StillS.numberAt _ | with_reducible exact StillS.byteOf _ | with_reducible exact StillS.behindNumber _ | with_reducible exact StillS.unsafeAdd _ _ _ | with_reducible exact StillS.asNumber _ _ | with_reducible exact StillS.program | with_reducible exact StillS.choose _ | with_reducible exact StillS.errorP  | (refine StillS.shapeB (fun _ => ?_) ?hn; case hn => (intro w v w2 h0 h; simp at h; done)) | with_reducible refine StillS.bind ?_ (fun _ => ?_) | split | dsimp only)
theorem StillS.stringOp (op : BinOp) (x y : ByteArray) : StillS P (Op.stringOp op x y) := by
  unfold Op.stringOp
  repeat' (first | with_reducible exact StillS.pure _ | with_reducible exact StillS.stuck _ | with_reducible exact StillS.unsupported _ | with_reducible exact StillS.boundsPanic _ _ _ _ | with_reducible exact StillS.nilDeref | with_reducible exact StillS.underlying _ | with_reducible exact StillS.sizeOf _ | with_reducible exact StillS.typeInfo _ | with_reducible exact StillS.part _ _ _ | with_reducible exact StillS.getObj _ | with_reducible exact StillS.asIntOf _ | with_reducible exact StillS.asAgg _ | with_reducible exact StillS.asAddr _ | with_reducible exact StillS.asBool _ | with_reducible exact StillS.sureAddr _ | with_reducible exact StillS.load _ _ | with_reducible exact StillS.viewAt _ | with_reducible exact StillS.numberAt _ | with_reducible exact StillS.byteOf _ | with_reducible exact StillS.behindNumber _ | with_reducible exact StillS.unsafeAdd _ _ _ | with_reducible exact StillS.asNumber _ _ | with_reducible exact StillS.program | with_reducible exact StillS.choose _ | with_reducible exact StillS.errorP  | (refine StillS.shapeB (fun _ => ?_) ?hn; case hn => (intro w v w2 h0 h; simp at h; done)) | with_reducible refine StillS.bind ?_ (fun _ => ?_) | split | dsimp only)
theorem StillS.cArith (op : BinOp) (k : FloatKind) (x y : Nat) : StillS P (Op.Complex.arith op k x y) := by
  unfold Op.Complex.arith
  refine (StillS.floatArith _ _ _ _).bind fun _ => ?_
  repeat' (first | with_reducible exact StillS.pure _ | with_reducible exact StillS.stuck _ | with_reducible exact StillS.unsupported _ | with_reducible exact StillS.boundsPanic _ _ _ _ | with_reducible exact StillS.nilDeref | with_reducible exact StillS.underlying _ | with_reducible exact StillS.sizeOf _ | with_reducible exact StillS.typeInfo _ | with_reducible exact StillS.part _ _ _ | with_reducible exact StillS.getObj _ | with_reducible exact StillS.asIntOf _ | with_reducible exact StillS.asAgg _ | with_reducible exact StillS.asAddr _ | with_reducible exact StillS.asBool _ | with_reducible exact StillS.sureAddr _ | with_reducible exact StillS.load _ _ | with_reducible exact StillS.viewAt _ | with_reducible exact StillS.numberAt _ | with_reducible exact StillS.byteOf _ | with_reducible exact StillS.behindNumber _ | with_reducible exact StillS.unsafeAdd _ _ _ | with_reducible exact StillS.asNumber _ _ | with_reducible exact StillS.program | with_reducible exact StillS.choose _ | with_reducible exact StillS.errorP  | (refine StillS.shapeB (fun _ => ?_) ?hn; case hn => (intro w v w2 h0 h; simp at h; done)) | with_reducible refine StillS.bind ?_ (fun _ => ?_) | split | dsimp only)
theorem StillS.cCmp (op : BinOp) (k : FloatKind) (x y : Nat) : StillS P (Op.Complex.cmp op k x y) := by
  unfold Op.Complex.cmp
  exact (StillS.floatCmp _ _ _ _).bind fun _ => StillS.asBool _
theorem StillS.complexOp {op : BinOp} (hop : op ≠ .mul ∧ op ≠ .quo) (k : FloatKind) (a b c d : Nat) : StillS P (Op.complexOp op k a b c d) := by
  unfold Op.complexOp
  split
  · exact (StillS.cArith _ _ _ _).bind fun _ => (StillS.cArith _ _ _ _).bind fun _ => StillS.pure _
  · exact (StillS.cArith _ _ _ _).bind fun _ => (StillS.cArith _ _ _ _).bind fun _ => StillS.pure _
  · exact absurd rfl hop.1
  · exact absurd rfl hop.2
  · exact (StillS.cCmp _ _ _ _).bind fun b => (StillS.cCmp _ _ _ _).bind fun b => StillS.pure _
  · exact (StillS.cCmp _ _ _ _).bind fun b => (StillS.cCmp _ _ _ _).bind fun b => StillS.pure _
  · exact StillS.stuck _
theorem StillS.addrMod (k : IntKind) (a : Addr) (n : Int) : StillS P (Op.addrMod k a n) := by
  unfold Op.addrMod
  repeat' (first | with_reducible exact StillS.pure _ | with_reducible exact StillS.stuck _ | with_reducible exact StillS.unsupported _ | with_reducible exact StillS.boundsPanic _ _ _ _ | with_reducible exact StillS.nilDeref | with_reducible exact StillS.underlying _ | with_reducible exact StillS.sizeOf _ | with_reducible exact StillS.typeInfo _ | with_reducible exact StillS.part _ _ _ | with_reducible exact StillS.getObj _ | with_reducible exact StillS.asIntOf _ | with_reducible exact StillS.asAgg _ | with_reducible exact StillS.asAddr _ | with_reducible exact StillS.asBool _ | with_reducible exact StillS.sureAddr _ | with_reducible exact StillS.load _ _ | with_reducible exact StillS.viewAt _ | with_reducible exact StillS.numberAt _ | with_reducible exact StillS.byteOf _ | with_reducible exact StillS.behindNumber _ | with_reducible exact StillS.unsafeAdd _ _ _ | with_reducible exact StillS.asNumber _ _ | with_reducible exact StillS.program | with_reducible exact StillS.choose _ | with_reducible exact StillS.errorP  | (refine StillS.shapeB (fun _ => ?_) ?hn; case hn => (intro w v w2 h0 h; simp at h; done)) | with_reducible refine StillS.bind ?_ (fun _ => ?_) | split | dsimp only)
theorem StillS.shift (op : BinOp) (k : IntKind) (x : Int) (j : IntKind) (y : Int) : StillS P (Op.shift op k x j y) := by
  unfold Op.shift
  repeat' (first | with_reducible exact StillS.pure _ | with_reducible exact StillS.stuck _ | with_reducible exact StillS.unsupported _ | with_reducible exact StillS.boundsPanic _ _ _ _ | with_reducible exact StillS.nilDeref | with_reducible exact StillS.underlying _ | with_reducible exact StillS.sizeOf _ | with_reducible exact StillS.typeInfo _ | with_reducible exact StillS.part _ _ _ | with_reducible exact StillS.getObj _ | with_reducible exact StillS.asIntOf _ | with_reducible exact StillS.asAgg _ | with_reducible exact StillS.asAddr _ | with_reducible exact StillS.asBool _ | with_reducible exact StillS.sureAddr _ | with_reducible exact StillS.load _ _ | with_reducible exact StillS.viewAt _ | with_reducible exact StillS.numberAt _ | with_reducible exact StillS.byteOf _ | with_reducible exact StillS.behindNumber _ | with_reducible exact StillS.unsafeAdd _ _ _ | with_reducible exact StillS.asNumber _ _ | with_reducible exact StillS.program | with_reducible exact StillS.choose _ | with_reducible exact StillS.errorP  | (refine StillS.shapeB (fun _ => ?_) ?hn; case hn => (intro w v w2 h0 h; simp at h; done)) | with_reducible refine StillS.bind ?_ (fun _ => ?_) | split | dsimp only)
set_option maxHeartbeats 4000000 in
theorem StillS.binOpI {t : TypeId} (h : basicT P t = true) {op : BinOp} (hop : op ∈ [BinOp.lss, .leq, .gtr, .geq, .add, .sub, .eql, .neq]) (x y : Value) : StillS P (binOp op t x y) := by
  have heq := StillS.equal h x y
  simp only [List.mem_cons, List.not_mem_nil, or_false] at hop
  rcases hop with rfl | rfl | rfl | rfl | rfl | rfl | rfl | rfl | rfl
  all_goals unfold Go.binOp
  all_goals (repeat' (first | with_reducible exact StillS.pure _ | with_reducible exact StillS.stuck _ | with_reducible exact StillS.unsupported _ | with_reducible exact StillS.boundsPanic _ _ _ _ | with_reducible exact StillS.nilDeref | with_reducible exact StillS.underlying _ | with_reducible exact StillS.sizeOf _ | with_reducible exact StillS.typeInfo _ | with_reducible exact StillS.part _ _ _ | with_reducible exact StillS.getObj _ | with_reducible exact StillS.asIntOf _ | with_reducible exact StillS.asAgg _ | with_reducible exact StillS.asAddr _ | with_reducible exact StillS.asBool _ | with_reducible exact StillS.sureAddr _ | with_reducible exact StillS.load _ _ | with_reducible exact StillS.viewAt _ | with_reducible exact StillS.numberAt _ | with_reducible exact StillS.byteOf _ | with_reducible exact StillS.behindNumber _ | with_reducible exact StillS.unsafeAdd _ _ _ | with_reducible exact StillS.asNumber _ _ | with_reducible exact StillS.program | with_reducible exact StillS.choose _ | with_reducible exact StillS.errorP  | (refine StillS.shapeB (fun _ => ?_) ?hn; case hn => (intro w v w2 h0 h; simp at h; done)) | with_reducible refine StillS.bind ?_ (fun _ => ?_) | with_reducible exact heq | with_reducible exact StillS.shift _ _ _ _ _ | with_reducible exact StillS.arith | with_reducible exact StillS.cmp | with_reducible exact StillS.floatArith _ _ _ _ | with_reducible exact StillS.floatCmp _ _ _ _ | with_reducible exact StillS.stringOp _ _ _ | exact StillS.complexOp (by decide) _ _ _ _ _ | with_reducible exact StillS.choose _ | with_reducible exact StillS.addrCmp _ _ _ | with_reducible exact StillS.addrSub _ _ _ | with_reducible exact StillS.addrMod _ _ _ | with_reducible exact StillS.movedNumber _ _ _ | with_reducible exact StillS.movedPointer _ _ _ | split | dsimp only))
theorem StillS.eqGuard {t : TypeId} (h : basicT P t = true) (op : BinOp) (x y : Operand) (a b : Value) : StillS P (eqGuard op t x y a b) := by
  unfold Go.eqGuard
  have hb : P.eqGuardType P.depth t = false := by unfold basicT at h; simp at h; exact h.2
  have hk : StillS P (Op.eqGuardIn Op.maxDepth t a b) := by
    show StillS P (Op.eqGuardIn (9999 + 1) t a b)
    rw [Op.eqGuardIn]
    unfold Go.underlying
    simp only [bind_assoc]
    refine StillS.programB ?_
    unfold basicT at h
    cases hu : P.underlying t with
    | none => rw [hu] at h; cases h
    | some u =>
      rw [hu] at h
      simp only [pure_bind]
      cases u <;> first | (exfalso; revert h; simp; done) | (split <;> first | (exfalso; simp_all; done) | exact StillS.pure _)
  have kk : ∀ hh : StillS P (Op.eqGuardIn Op.maxDepth t a b), StillS P (match (generalizing := false) a, b with
      | .nilIface, .nilIface =>
        if (x matches .const _) || (y matches .const _) then Pure.pure () else do
          if ← Op.eqGuardIn Op.maxDepth t a b then Go.unsupported (.noEntry "binop/eql: two nil values of an interface type with methods, neither of them the literal nil")
          else Pure.pure ()
      | .agg _, .agg _ => do
        if !(← Go.program).eqGuardType (← Go.program).depth t then Pure.pure () else
          if ← Op.eqGuardIn Op.maxDepth t a b then Go.unsupported (.noEntry "binop/eql: two nil values of an interface type with methods, in a part of a struct or an array")
          else Pure.pure ()
      | _, _ => Pure.pure () : Sem Unit) := by
    intro hk
    split
    · refine StillS.ite (StillS.pure _) (hk.bind fun b => ?_)
      split
      · exact StillS.unsupported _
      · exact StillS.pure _
    · refine StillS.programB (StillS.programB ?_)
      rw [hb]
      exact StillS.pure _
    · exact StillS.pure _
  split
  · exact kk hk
  · exact kk hk
  · exact StillS.pure _
end
end Go.Proofs.YtbcemldiahghcaaGreat
