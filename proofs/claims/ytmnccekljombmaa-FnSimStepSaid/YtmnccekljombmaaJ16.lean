/- Texts joined: Seg, Imp6. -/
import Derived.Test.YtmnccekljombmaaJ15
import Derived.Test.YtmnccekljombmaaJ14
namespace Go.Proofs.Ytmnccekljombmaa
set_option linter.unusedVariables false
set_option linter.unusedSimpArgs false
set_option linter.unusedSectionVars false
open Go.RowKit
section
variable {P : Program} {ops : Array Oper} {Q : Exit → Act → World → Prop} {L : List Nat}
theorem valB {s : Sem Value} (hs : StillS P s) : StillS P (do Pure.pure (Next.value (← s)) : Sem Next) ∧ ∀ w n w2, (do Pure.pure (Next.value (← s)) : Sem Next).run P w = .ok n w2 → ∃ v, n = .value v :=
  ⟨hs.bind fun _ => StillS.pure _, fun w n w2 h => by
    rw [Sem.run_bind] at h
    cases hr : s.run P w with
    | halt x w1 => rw [hr] at h; cases h
    | ok a w1 =>
      rw [hr] at h
      simp only [Result.andThen_ok, Sem.run_pure, Result.ok.injEq] at h
      exact ⟨a, h.1.symm⟩⟩
theorem valP (v : Value) : StillS P (Pure.pure (Next.value v) : Sem Next) ∧ ∀ w n w2, (Pure.pure (Next.value v) : Sem Next).run P w = .ok n w2 → ∃ v, n = .value v :=
  ⟨StillS.pure _, fun w n w2 h => by simp only [Sem.run_pure, Result.ok.injEq] at h; exact ⟨v, h.1.symm⟩⟩
theorem readOp_good {o : Oper} (h : readOp P o = true) (ev : Operand → Value) : StillS P (execOp ev o) ∧ ∀ w n w2, (execOp ev o).run P w = .ok n w2 → ∃ v, n = .value v := by
  obtain ⟨dst, op, type, pos, after, guard⟩ := o
  cases op <;> first | (exfalso; simp [readOp] at h; done) | skip
  case move x => exact valP _
  case assign x => exact valP _
  case pick c a b =>
    refine ⟨(StillS.asBool _).bind fun _ => StillS.pure _, fun w n w2 h => ?_⟩
    have h : ((asBool (ev c)) >>= fun b' => Pure.pure (Next.value (if b' = true then ev a else ev b))).run P w = .ok n w2 := h
    rw [Sem.run_bind] at h
    cases hr : (asBool (ev c)).run P w with
    | halt x w1 => rw [hr] at h; cases h
    | ok a w1 =>
      rw [hr] at h
      simp only [Result.andThen_ok, Sem.run_pure, Result.ok.injEq] at h
      exact ⟨_, h.1.symm⟩
  case load t a => exact valB (StillS.loadAt _ _)
  case nilCheck x =>
    unfold execOp
    dsimp only
    split
    · exact ⟨StillS.nilDeref, fun w n w2 h => by unfold runtimePanic at h; cases h⟩
    · exact ⟨StillS.nilDeref, fun w n w2 h => by unfold runtimePanic at h; cases h⟩
    · exact ⟨StillS.nilDeref, fun w n w2 h => by unfold runtimePanic at h; cases h⟩
    · split
      · exact ⟨StillS.nilDeref, fun w n w2 h => by unfold runtimePanic at h; cases h⟩
      · refine ⟨StillS.program.bind fun p => (StillS.nilAhead _ _ _ _).bind fun b => ?_, fun w n w2 h => ?_⟩
        · split
          · exact StillS.unsupported _
          · exact StillS.pure _
        · rw [Sem.run_bind, run_program] at h
          simp only [Result.andThen_ok] at h
          rw [Sem.run_bind] at h
          unfold Result.andThen at h
          split at h
          · dsimp only at h
            split at h
            · cases h
            · simp only [Sem.run_pure, Result.ok.injEq] at h
              exact ⟨_, h.1.symm⟩
          · cases h
      · exact valP _
    · exact valP _
  case binOp op t x y u =>
    have hb : basicT P t = true ∧ op ∈ [BinOp.lss, .leq, .gtr, .geq, .add, .sub, .eql, .neq] := by
      cases op <;> simp [readOp] at h <;> exact ⟨h, by simp⟩
    exact valB ((StillS.eqGuard hb.1 _ _ _ _ _).bind fun _ => StillS.binOpI hb.1 hb.2 _ _)
  case unOp op t x => exact valB (StillS.unary _ _)
  case slice t x lo hi mx => exact valB (StillS.sliceAt _ _ _ _ _)
  case fieldAddr t x f => exact valB (StillS.fieldAt h _)
  case field t x f => exact valB (StillS.field _ _ _)
  case indexAddr t x i => exact valB (StillS.indexAt _ _ _)
  case index t x i => exact valB (StillS.index _ _ _)
  case extract t i => exact valB (StillS.extract _ _)
  case call c =>
    obtain ⟨callee, args, tys⟩ := c
    cases callee with
    | value f => simp [readOp] at h
    | invoke r m => simp [readOp] at h
    | builtin b =>
      cases b <;> first | (exfalso; simp [readOp] at h; done) | skip
      case len => exact valB (StillS.len _ _ _)
      case cap => exact valB (StillS.cap _ _ _)
def pickO (ops : Array Oper) : List Nat → List Oper
  | [] => []
  | i :: r => match ops[i]? with | some o => o :: pickO ops r | none => pickO ops r
inductive Sg where
  | rd (l : List Nat)
  | mid (i : Nat)
  | par (D : List (Nat × List Nat)) (R : List Nat)
/-- What hangs on no memory. -/
def isMv (ops : Array Oper) (i : Nat) : Bool := match ops[i]? with | some o => (match o.op with | .move _ => true | .assign _ => true | _ => false) | none => false
def takesPe (ops : Array Oper) : List Nat → Pe → Pe
  | [], p => p
  | i :: l, p => if isMv ops i = true then .pure i (takesPe ops l p) else .take i (takesPe ops l p)
def onesPe : List Nat → Pe
  | [] => .nil
  | i :: f => .one i (onesPe f)
def sgPe (ops : Array Oper) : List Sg → List Nat → Pe
  | [], f => onesPe f
  | .rd l :: r, f => takesPe ops l (sgPe ops r f)
  | .mid i :: r, f => .one i (sgPe ops r f)
  | .par D R :: r, f => .par D R (sgPe ops r f)
def sgReads : List Sg → List Nat
  | [] => []
  | .rd l :: r => l ++ sgReads r
  | .mid _ :: r => sgReads r
  | .par _ _ :: r => sgReads r
def sgLoads (ops : Array Oper) (s : List Sg) : List Nat := (sgReads s).filter fun i => !isMv ops i
/-- Behind what is read. -/
def RdP (w0 : World) (next : Act → Prop) : Exit → Act → World → Prop := fun e a w => e = .normal ∧ w.heap.size = w0.heap.size ∧ w.drawn = w0.drawn ∧ next a
/-- Behind an operation that is not read and is not the last one. -/
def MidP (w0 : World) (Q : Exit → Act → World → Prop) (next : Act → World → Prop) : Exit → Act → World → Prop := fun e a w => match e with | .normal => Agree w0 w ∧ next a w | e => Q e a w
/-- Operations side by side: each shown by itself. -/
def ParAt (P : Program) (ops : Array Oper) (Q : Exit → Act → World → Prop) (S : World → Prop) (D : List (Nat × List Nat)) (R : List Nat) (next : Act → World → Prop) (a : Act) (w : World) : Prop :=
  ∃ (A : Nat → Prop) (N : Nat → (Nat → Value) → World → (Nat → Prop) → Prop) (PP : Nat → (Nat → Value) → Prop) (F0 : Nat → Nat → Prop), (∀ j i u v, PP j u → i ≠ j → waits ops j i = false → PP j (updV u i v)) ∧ (∀ j i u v w F, N j u w F → i ≠ j → waits ops j i = false → N j (updV u i v) w F) ∧ (∀ j v w w' F, N j v w F → (∀ k, F k → w'.heap[k]? = w.heap[k]?) → N j v w' F) ∧ (∀ w', Ch A w w' → S w') ∧
      (∀ j ∈ R, ∀ u : Nat → Value, u j = undef → N j u w (F0 j)) ∧ (∀ j ∈ R, ∀ k, F0 j k → A k ∧ k < w.heap.size) ∧ (∀ j ∈ R, ∀ j' ∈ R, ∀ k, j ≠ j' → F0 j k → F0 j' k → False) ∧ parP P ops Q (D.map (·.1)) a w A N PP D ∧
      ∀ u w' (F : Nat → Nat → Prop), Ch A w w' → (∀ j j' k, EndAv D R j = true → EndAv D R j' = true → j ≠ j' → F j k → F j' k → False) → (∀ j k, EndAv D R j = true → F j k → (A k ∨ w.heap.size ≤ k) ∧ k < w'.heap.size) → (∀ j, EndAv D R j = true → N j u w' (F j)) → (∀ j ∈ D.map (·.1), PP j u) → next (putAll ops (D.map (·.1)) a u) w'
def wpSg (P : Program) (ops : Array Oper) (Q : Exit → Act → World → Prop) (w0 : World) : List Sg → List Nat → Act → World → Prop
  | [], f, a, w => wpList P ops Q (pickO ops f) a w
  | .rd l :: r, f, a, w => wpList P ops (RdP w0 fun a' => wpSg P ops Q w0 r f a' w) (pickO ops l) a w0
  | .mid i :: r, f, a, w => wpList P ops (MidP w0 Q fun a' w' => wpSg P ops Q w0 r f a' w') (pickO ops [i]) a w
  | .par D R :: r, f, a, w => ParAt P ops Q (Agree w0) D R (fun a' w' => Agree w0 w' ∧ wpSg P ops Q w0 r f a' w') a w
theorem rd_next {w0 : World} {next : Act → Prop} {a : Act} (h : next a) : RdP w0 next .normal a w0 := ⟨rfl, rfl, rfl, h⟩
theorem mid_next {w0 w : World} {next : Act → World → Prop} {a : Act} (hw : Agree w0 w) (h : next a w) : MidP w0 Q next .normal a w := ⟨hw, h⟩
def isRead (P : Program) (ops : Array Oper) (i : Nat) : Bool := match ops[i]? with | some o => readOp P o | none => false
theorem rd_mono {w0 : World} {next : Act → Prop} : ∀ (l : List Oper) (a : Act) (w : World), (∀ o ∈ l, readOp P o = true) → wpList P ops (RdP w0 next) l a w → w.heap.size ≤ w0.heap.size ∧ w.drawn ≤ w0.drawn
  | [], a, w, _, h => by
    have h : RdP w0 next .normal a w := h
    exact ⟨Nat.le_of_eq h.2.1, Nat.le_of_eq h.2.2.1⟩
  | o :: l, a, w, hr, h => by
    unfold wpList at h
    have hl : ∀ o ∈ l, readOp P o = true := fun q hq => hr q (List.mem_cons_of_mem _ hq)
    split at h
    · rcases h with h | ⟨_, a', w', h, _⟩
      · unfold Oper.wp at h
        obtain ⟨g1, g2⟩ := readOp_good (hr o (List.mem_cons_self ..)) a.eval
        cases hrun : (execOp a.eval o).run P w with
        | halt x w1 =>
          rw [hrun] at h
          cases x <;> first | exact h.elim | (cases h.1)
        | ok n w1 =>
          obtain ⟨v, rfl⟩ := g2 _ _ _ hrun
          rw [hrun, Oper.upon_value] at h
          obtain ⟨m1, m2⟩ := rd_mono l _ _ hl h
          obtain ⟨k1, k2, _⟩ := g1 _ _ _ hrun
          omega
      · cases h
    · exact rd_mono l _ _ hl h
theorem takes_of_list {w0 w : World} (r : Pe) : ∀ (l : List Nat) (a : Act), (∀ i ∈ l, isRead P ops i = true) → Agree w0 w →
    wpList P ops (RdP w0 fun a' => wpE P ops Q (Agree w0) L r a' w) (pickO ops l) a w0 → wpE P ops Q (Agree w0) L (takesPe ops l r) a w
  | [], a, _, _, h => h.2.2.2
  | i :: l, a, hr, hA, h => by
    have hi := hr i (List.mem_cons_self ..)
    have hl : ∀ i ∈ l, isRead P ops i = true := fun q hq => hr q (List.mem_cons_of_mem _ hq)
    unfold isRead at hi
    cases ho : ops[i]? with
    | none => rw [ho] at hi; cases hi
    | some o =>
      rw [ho] at hi
      have hi : readOp P o = true := hi
      unfold pickO at h
      rw [ho] at h
      simp only at h
      have hlo : ∀ (l : List Nat), (∀ i ∈ l, isRead P ops i = true) → ∀ o ∈ pickO ops l, readOp P o = true := by
        intro l
        induction l with
        | nil => intro _ o ho; cases ho
        | cons j l ih =>
          intro hl o hm
          have hj := hl j (List.mem_cons_self ..)
          unfold isRead at hj
          unfold pickO at hm
          cases hoj : ops[j]? with
          | none => rw [hoj] at hj; cases hj
          | some oj =>
            rw [hoj] at hj hm
            rcases List.mem_cons.1 hm with rfl | hm
            · exact hj
            · exact ih (fun q hq => hl q (List.mem_cons_of_mem _ hq)) o hm
      unfold wpList at h
      unfold takesPe
      by_cases hw : Region.wanted o (yielded ops a.tmps) = true
      · rw [if_pos hw] at h
        rcases h with h | ⟨_, a', w', h, _⟩
        · unfold Oper.wp at h
          obtain ⟨g1, g2⟩ := readOp_good hi a.eval
          cases hrun : (execOp a.eval o).run P w0 with
          | halt x w1 =>
            rw [hrun] at h
            cases x <;> first | exact h.elim | (cases h.1)
          | ok n w1 =>
            obtain ⟨v, rfl⟩ := g2 _ _ _ hrun
            rw [hrun, Oper.upon_value] at h
            obtain ⟨m1, m2⟩ := rd_mono _ _ _ (hlo l hl) h
            obtain ⟨k1, k2, k3⟩ := g1 _ _ _ hrun
            obtain ⟨rfl, k4⟩ := k3 (by omega) (by omega)
            by_cases hmv : isMv ops i = true
            · rw [if_pos hmv]
              refine ⟨o, v, ho, .inl ⟨hw, fun w' _ => ?_⟩, takes_of_list r l _ hl hA h⟩
              unfold isMv at hmv
              rw [ho] at hmv
              obtain ⟨dst, op, type, pos, after, guard⟩ := o
              cases op <;> first | (exfalso; simp at hmv; done) | skip
              case move =>
                simp only [execOp, Sem.run_pure, Result.ok.injEq, Next.value.injEq, and_true] at hrun
                subst hrun; rfl
              case assign =>
                simp only [execOp, Sem.run_pure, Result.ok.injEq, Next.value.injEq, and_true] at hrun
                subst hrun; rfl
            · rw [if_neg hmv]
              exact ⟨o, v, ho, .inl ⟨hw, k4⟩, hA, takes_of_list r l _ hl hA h⟩
        · cases h
      · rw [if_neg hw] at h
        by_cases hmv : isMv ops i = true
        · rw [if_pos hmv]
          exact ⟨o, undef, ho, .inr ⟨by simpa using hw, rfl⟩, takes_of_list r l _ hl hA h⟩
        · rw [if_neg hmv]
          exact ⟨o, undef, ho, .inr ⟨by simpa using hw, rfl⟩, hA, takes_of_list r l _ hl hA h⟩
theorem upon_congr {o : Oper} {a : Act} {K : Act → World → Prop} {Q Q' : Exit → Act → World → Prop} (h1 : ∀ c a w, Q' (.panic c) a w → Q (.panic c) a w) (h2 : LetsOut Q' → LetsOut Q) : ∀ r : Result Next, o.upon P a K Q' r → o.upon P a K Q r
  | .ok n w', h => by
    cases n
    case enter f args =>
      rw [Oper.upon_enter] at h ⊢
      refine Calls.mono h fun e w hh => ?_
      cases e with
      | returned v => exact hh
      | panicked c => exact h1 _ _ _ hh
      | outgrown => exact h2 hh
    all_goals first | exact h | exact h.elim
  | .halt x w', h => by
    cases x
    case panic v => exact h1 _ _ _ h
    all_goals first | exact h | exact h.elim
theorem wpList_monoQ {Q Q' : Exit → Act → World → Prop} (hq : ∀ e a w, Q' e a w → Q e a w) : ∀ (l : List Oper) (a : Act) (w : World), wpList P ops Q' l a w → wpList P ops Q l a w
  | [], a, w, h => hq _ _ _ h
  | o :: l, a, w, h => by
    have h2 : LetsOut Q' → LetsOut Q := fun ⟨a, w, h⟩ => ⟨a, w, hq _ _ _ h⟩
    unfold wpList at h ⊢
    split at h
    · rename_i hw
      rw [if_pos hw]
      exact h.imp (fun h => Oper.wp_mono (fun a w h => wpList_monoQ hq l a w h) (upon_congr (fun _ _ _ h => hq _ _ _ h) h2 _ h)) (fun h => ⟨h.1, h2 h.2⟩)
    · rename_i hw
      rw [if_neg hw]
      exact wpList_monoQ hq l _ w h
theorem wpOp_of_wp {i : Nat} {o : Oper} {a : Act} {w : World} {K : Act → World → Prop} {Q' : Exit → Act → World → Prop} (ho : ops[i]? = some o) (h1 : ∀ c a w, Q' (.panic c) a w → Q (.panic c) a w) (h2 : LetsOut Q' → LetsOut Q)
    (h : if Region.wanted o (yielded ops a.tmps) = true then o.wp P a w K Q' ∨ (o.asks P a w ∧ LetsOut Q') else K (a.put o.dst undef) w) : wpOp P ops Q i K a w := by
  unfold wpOp
  rw [ho]
  by_cases hw : Region.wanted o (yielded ops a.tmps) = true
  · rw [if_pos hw] at h
    simp only [hw, if_true]
    exact h.imp (upon_congr h1 h2 _) (fun h => ⟨h.1, h2 h.2⟩)
  · rw [if_neg hw] at h
    simp only [hw, if_false]
    exact h
theorem wpE_ones {w0 : World} : ∀ (f : List Nat) (a : Act) (w : World), (∀ i ∈ f, late ops L i = true) → (∀ i ∈ f, (ops[i]?).isSome = true) → wpList P ops Q (pickO ops f) a w → wpE P ops Q (Agree w0) L (onesPe f) a w
  | [], a, w, _, _, h => h
  | i :: f, a, w, hf, hs, h => by
    have hi := hs i (List.mem_cons_self ..)
    cases ho : ops[i]? with
    | none => rw [ho] at hi; cases hi
    | some o =>
      unfold pickO at h
      rw [ho] at h
      simp only at h
      unfold wpList at h
      have ih := fun a w => wpE_ones (w0 := w0) f a w (fun q hq => hf q (List.mem_cons_of_mem _ hq)) (fun q hq => hs q (List.mem_cons_of_mem _ hq))
      exact wpOp_mono (fun a' w' h' => ⟨.inl (hf i (List.mem_cons_self ..)), ih a' w' h'⟩) (wpOp_of_wp ho (fun _ _ _ h => h) (fun h => h) h)
theorem wpE_of_sg {w0 : World} : ∀ (s : List Sg) (f : List Nat) (a : Act) (w : World), (∀ i ∈ sgReads s, isRead P ops i = true) → (∀ i ∈ f, late ops L i = true) →
    (∀ i, (Sg.mid i) ∈ s → (ops[i]?).isSome = true) → (∀ i ∈ f, (ops[i]?).isSome = true) → Agree w0 w → wpSg P ops Q w0 s f a w → wpE P ops Q (Agree w0) L (sgPe ops s f) a w
  | [], f, a, w, hr, hf, hm, hs, hA', h => wpE_ones f a w hf hs h
  | .rd l :: r, f, a, w, hr, hf, hm, hs, hA', h => by
    refine takes_of_list (L := L) (sgPe ops r f) l a (fun i hi => hr i (List.mem_append_left _ hi)) hA' ?_
    have h : wpList P ops (RdP w0 fun a' => wpSg P ops Q w0 r f a' w) (pickO ops l) a w0 := h
    refine wpList_monoQ (fun e a' w' hh => ?_) _ _ _ h
    exact ⟨hh.1, hh.2.1, hh.2.2.1, wpE_of_sg r f a' w (fun i hi => hr i (List.mem_append_right _ hi)) hf (fun i hi => hm i (List.mem_cons_of_mem _ hi)) hs hA' hh.2.2.2⟩
  | .mid i :: r, f, a, w, hr, hf, hm, hs, hA', h => by
    have hi := hm i (List.mem_cons_self ..)
    cases ho : ops[i]? with
    | none => rw [ho] at hi; cases hi
    | some o =>
      have h : wpList P ops (MidP w0 Q fun a' w' => wpSg P ops Q w0 r f a' w') (pickO ops [i]) a w := h
      unfold pickO at h
      rw [ho] at h
      simp only at h
      unfold wpList at h
      exact wpOp_mono (fun a' w' (h' : Agree w0 w' ∧ wpSg P ops Q w0 r f a' w') => ⟨.inr fun _ => h'.1, wpE_of_sg r f a' w' hr hf (fun i hi => hm i (List.mem_cons_of_mem _ hi)) hs h'.1 h'.2⟩)
        (wpOp_of_wp (Q := Q) ho (fun _ _ _ h => h) (fun ⟨a, w, h⟩ => ⟨a, w, h⟩) h)
  | .par D R :: r, f, a, w, hr, hf, hm, hs, hA', h => by
    have h : ParAt P ops Q (Agree w0) D R (fun a' w' => Agree w0 w' ∧ wpSg P ops Q w0 r f a' w') a w := h
    obtain ⟨A, N, PP, F0, h1, h2, h3, h4, h5, h6, h7, h8, h9⟩ := h
    exact ⟨A, N, PP, F0, h1, h2, h3, h4, h5, h6, h7, h8, fun u w' F e1 e2 e3 e4 e5 => wpE_of_sg r f _ w' hr hf (fun i hi => hm i (List.mem_cons_of_mem _ hi)) hs (h9 u w' F e1 e2 e3 e4 e5).1 (h9 u w' F e1 e2 e3 e4 e5).2⟩
def sgMids : List Sg → List Nat
  | [] => []
  | .rd _ :: r => sgMids r
  | .mid i :: r => i :: sgMids r
  | .par _ _ :: r => sgMids r
theorem mem_sgMids {i : Nat} : ∀ {s : List Sg}, Sg.mid i ∈ s → i ∈ sgMids s
  | .rd l :: r, h => mem_sgMids (s := r) (by simpa using h)
  | .par D R :: r, h => mem_sgMids (s := r) (by simpa using h)
  | .mid j :: r, h => by
    rcases List.mem_cons.1 h with h | h
    · injection h with h; subst h; exact List.mem_cons_self ..
    · exact List.mem_cons_of_mem _ (mem_sgMids h)
/-- The checks that a plan fits. -/
def sgOk (P : Program) (ops : Array Oper) (s : List Sg) (f : List Nat) : Bool :=
  Region.noSelect ops && (sgPe ops s f).len == ops.size && eOk ops (sgLoads ops s) (sgPe ops s f) (Array.replicate ops.size false) &&
  (sgReads s).all (isRead P ops) && f.all (fun i => late ops (sgLoads ops s) i && (ops[i]?).isSome) && (sgMids s).all (fun i => (ops[i]?).isSome)
theorem region_sg {id : Nat} {a : Act} {w : World} {l : List Oper} (s : List Sg) (f : List Nat) (hm : P.follows .mixedOrders = true) (hk : sgOk P l.toArray s f = true)
    (hQ : ∀ c a d v w, Q (.panic c) (Act.put a d v) w → Q (.panic c) a w) (h : wpSg P l.toArray Q w.drew s f a w.drew) : (Code.region id l.toArray true).wp P Q a w := by
  simp only [sgOk, Bool.and_eq_true] at hk
  obtain ⟨⟨⟨⟨⟨h1, h2⟩, h3⟩, h4⟩, h5⟩, h6⟩ := hk
  refine region_e (Agree w.drew) (sgLoads l.toArray s) (sgPe l.toArray s f) hm (by simp only [h1, h2, h3, Bool.and_self]) hQ ?_
  refine wpE_of_sg s f a w.drew (fun i hi => List.all_eq_true.1 h4 i hi) (fun i hi => ?_) (fun i hi => List.all_eq_true.1 h6 i (mem_sgMids hi)) (fun i hi => ?_) (Agree.refl _) h
  · have := List.all_eq_true.1 h5 i hi
    simp only [Bool.and_eq_true] at this
    exact this.1
  · have := List.all_eq_true.1 h5 i hi
    simp only [Bool.and_eq_true] at this
    exact this.2
theorem sg_rd {w0 w : World} {l : List Nat} {r : List Sg} {f : List Nat} {a : Act} (h : ∀ next : Act → Prop, (∀ a', wpSg P ops Q w0 r f a' w → next a') → wpList P ops (RdP w0 next) (pickO ops l) a w0) : wpSg P ops Q w0 (.rd l :: r) f a w := h _ fun _ h => h
theorem sg_mid {w0 w : World} {i : Nat} {r : List Sg} {f : List Nat} {a : Act} (h : ∀ next : Act → World → Prop, (∀ a' w', wpSg P ops Q w0 r f a' w' → next a' w') → wpList P ops (MidP w0 Q next) (pickO ops [i]) a w) : wpSg P ops Q w0 (.mid i :: r) f a w := h _ fun _ _ h => h
theorem sg_fin {w0 w : World} {f : List Nat} {a : Act} (h : wpList P ops Q (pickO ops f) a w) : wpSg P ops Q w0 [] f a w := h
theorem sg_parG {a : Act} {w : World} {D : List (Nat × List Nat)} {R : List Nat} {r : List Sg} {f : List Nat} {w0 : World} (dl : List (Nat × Option Tmp)) (hdl : D.map (fun p => (p.1, dstOf ops p.1)) = dl) (A : Nat → Prop) (N : Nat → (Nat → Value) → World → (Nat → Prop) → Prop) (PP : Nat → (Nat → Value) → Prop) (F0 : Nat → Nat → Prop)
    (hPP : ∀ j i u v, PP j u → i ≠ j → waits ops j i = false → PP j (updV u i v)) (hNu : ∀ j i u v w F, N j u w F → i ≠ j → waits ops j i = false → N j (updV u i v) w F) (hSt : ∀ j v w w' F, N j v w F → (∀ k, F k → w'.heap[k]? = w.heap[k]?) → N j v w' F) (hS : ∀ w', Ch A w w' → Agree w0 w')
    (h0 : ∀ j ∈ R, ∀ u : Nat → Value, u j = undef → N j u w (F0 j)) (h1 : ∀ j ∈ R, ∀ k, F0 j k → A k ∧ k < w.heap.size) (h2 : ∀ j ∈ R, ∀ j' ∈ R, ∀ k, j ≠ j' → F0 j k → F0 j' k → False) (hP : parS P ops Q dl a w A N PP D)
    (hend : ∀ K : Act → World → Prop, (∀ a' w', Agree w0 w' → wpSg P ops Q w0 r f a' w' → K a' w') → ∀ u w' (F : Nat → Nat → Prop), Ch A w w' → (∀ j j' k, EndAv D R j = true → EndAv D R j' = true → j ≠ j' → F j k → F j' k → False) → (∀ j k, EndAv D R j = true → F j k → (A k ∨ w.heap.size ≤ k) ∧ k < w'.heap.size) → (∀ j, EndAv D R j = true → N j u w' (F j)) → (∀ j ∈ D.map (·.1), PP j u) → K (putL dl a u) w') :
    wpSg P ops Q w0 (.par D R :: r) f a w :=
  ⟨A, N, PP, F0, hPP, hNu, hSt, hS, h0, h1, h2, parP_of_S hdl D hP, fun u w' F e1 e2 e3 e4 e5 => by rw [putAll_putL (u := u), hdl]; exact hend (fun a' w' => Agree w0 w' ∧ wpSg P ops Q w0 r f a' w') (fun _ _ g h => ⟨g, h⟩) u w' F e1 e2 e3 e4 e5⟩
theorem sg_par {a : Act} {w : World} {D : List (Nat × List Nat)} {R : List Nat} {r : List Sg} {f : List Nat} {w0 : World} (dl : List (Nat × Option Tmp)) (hdl : D.map (fun p => (p.1, dstOf ops p.1)) = dl) (A : Nat → Prop) (N : Nat → Value → World → (Nat → Prop) → Prop) (F0 : Nat → Nat → Prop)
    (hSt : ∀ j v w w' F, N j v w F → (∀ k, F k → w'.heap[k]? = w.heap[k]?) → N j v w' F) (hS : ∀ w', Ch A w w' → Agree w0 w')
    (h0 : ∀ j ∈ R, N j undef w (F0 j)) (h1 : ∀ j ∈ R, ∀ k, F0 j k → A k ∧ k < w.heap.size) (h2 : ∀ j ∈ R, ∀ j' ∈ R, ∀ k, j ≠ j' → F0 j k → F0 j' k → False) (hP : parS P ops Q dl a w A (ofVal N) (fun _ _ => True) D)
    (hend : ∀ K : Act → World → Prop, (∀ a' w', Agree w0 w' → wpSg P ops Q w0 r f a' w' → K a' w') → ∀ u w' (F : Nat → Nat → Prop), Ch A w w' → (∀ j j' k, EndAv D R j = true → EndAv D R j' = true → j ≠ j' → F j k → F j' k → False) → (∀ j k, EndAv D R j = true → F j k → (A k ∨ w.heap.size ≤ k) ∧ k < w'.heap.size) → (∀ j, EndAv D R j = true → N j (u j) w' (F j)) → K (putL dl a u) w') :
    wpSg P ops Q w0 (.par D R :: r) f a w :=
  sg_parG dl hdl A (ofVal N) (fun _ _ => True) F0 (fun _ _ _ _ _ _ _ => trivial) (fun j i u v w F h hij _ => by unfold ofVal at h ⊢; simpa [updV, Ne.symm hij] using h) (fun j u w w' F h hm => hSt j (u j) w w' F h hm) hS (fun j hj u hu => by unfold ofVal; rw [hu]; exact h0 j hj) h1 h2 hP fun K hK u w' F e1 e2 e3 e4 _ => hend K hK u w' F e1 e2 e3 e4
end
end Go.Proofs.Ytmnccekljombmaa

namespace Go.Proofs.Ytmnccekljombmaa
set_option linter.unusedVariables false
set_option linter.unusedSimpArgs false
set_option maxRecDepth 100000
open Go.RowKit
theorem Ow.takeP {α : Type} {cells : α → List Value} {sz : Nat} {hl : ∀ x, (cells x).length = sz} {ho : ∀ x, ∀ u ∈ cells x, u.oneCell' = true} {e : TypeId} {w : World} {F : Nat → Prop} {A : Option Addr} {n c : Nat} {xs : List α}
    (h : Ow (flat cells sz hl ho) e w F (.slice A n c) xs) (k : Nat) (hk : k ≤ xs.length) : Ow (flat cells sz hl ho) e w F (.slice A k c) (xs.take k) := by
  have hF : ∀ q, (Value.slice A k c).ownBlock = some q → F q := fun q hq => h.inF (by cases A with | none => simp [Value.ownBlock] at hq | some a => simpa [Value.ownBlock] using hq)
  obtain ⟨h1, h2⟩ := h.flatRow
  have hlk : (xs.take k).length = k := by simp; omega
  refine Ow.of_flat (base := 0) ?_ hF
  rw [hlk]
  rcases h2 with ⟨e1, h2⟩ | ⟨g', cap, cur, e1, hb, hh, hc1, hc2, hc3, hc4⟩
  · injection e1 with e1 e2 e3
    subst e1 e3
    have : k = 0 := by omega
    subst this
    exact ⟨by simp, .inl ⟨rfl, rfl⟩⟩
  · injection e1 with e1 e2 e3
    subst e1 e2 e3
    refine ⟨by rw [flatMap_len hl, hlk], .inr ⟨g', c, cur, rfl, Nat.zero_le _, hh, by omega, hc2, hc3, ?_⟩⟩
    have hx : xs.flatMap cells = (xs.take k).flatMap cells ++ (xs.drop k).flatMap cells := by rw [← List.flatMap_append, List.take_append_drop]
    have hlen : ((xs.take k).flatMap cells).length = k * sz := by rw [flatMap_len hl, hlk]
    have := congrArg (List.take (k * sz)) hc4
    rw [hx, ← hlen, List.take_left, hlen, List.take_take, Nat.min_eq_left (Nat.mul_le_mul_right _ hk)] at this
    exact this
set_option maxHeartbeats 4000000 in
theorem popOut_c (g : Nat) (F : Nat → Prop) (v : Value) (l : List OutD) (w : World) (h : HeapAt tOut 43 167 41 w g F v l) (h0 : 0 < l.length) (hl : l.length ≤ 1000) :
    Calls Try.prog 130 #[.pointer (some ⟨g, 0, none⟩)] w fun q w' => q = .returned (outAgg (nth l 0)) ∧ ∃ v', HeapAt tOut 43 167 41 w' g F v' (hrest outLess l) ∧ Ch (fun k => k = g ∨ F k) w w' := by
  obtain ⟨n, hn⟩ : ∃ n, l.length = n + 1 := ⟨l.length - 1, by omega⟩
  obtain ⟨gb, c1, cur, rfl, hgb, hgbl, -⟩ := h.row.head h0
  rw [hn] at h
  have hn1 : n + 1 ≤ 1000 := by omega
  have HN := hid hn
  have hrow := h.row
  have hap := h.apart
  have hgl := blk_lt h.blk
  have B0 := h.blk
  have hFlt := h.lt
  have hne : g ≠ gb := fun e1 => hap (e1 ▸ hgb)
  obtain ⟨x, hx⟩ : ∃ x, nth l 0 = x := ⟨_, rfl⟩
  obtain ⟨z, hz⟩ : ∃ z, nth l n = z := ⟨_, rfl⟩
  have hnl : n < l.length := by omega
  have hcap : n + 1 ≤ c1 := by have := hrow.rd.capLe; omega
  obtain ⟨bb, oo, hA1, -, z0, z1, z2, z3, z4⟩ := out_at (j := 0) hrow.rd h0
  injection hA1 with hA1
  injection hA1 with e1 e2 _
  subst e1 e2
  simp only [Nat.zero_mul, Nat.zero_add] at z0 z1 z2 z3 z4
  rw [← nth_eq h0, hx] at z0 z1 z2 z3 z4
  have HX := hid hx
  have HZ := hid hz
  clear hx hn h hl hz
  have a0 : w.cell? ⟨g, 0, none⟩ = some (.slice (some ⟨gb, 0, none⟩) (n + 1) c1) := blk_cell B0 0
  have q1 : ¬ g = w.heap.size := by omega
  have q2 : ¬ gb = w.heap.size := by omega
  have q3 : ((n + 1 : Nat) : Int) - 1 = (n : Int) := by omega
  go_enter Try.func130, Try.ntmps130
  go_upto_region 3 with fail
  have hO := (hrow.alloc (.cells #[.int .i64 0, .int .i64 0, .int .i64 0, .int .i64 0, .int .i64 0] 43)).alloc (.cells #[.int .i64 x.time, .int .i64 x.proc, .int .i64 x.count, .int .i64 x.n, .int .i64 x.value] 43)
  have BR := (heap_old (o := .cells #[.int .i64 x.time, .int .i64 x.proc, .int .i64 x.count, .int .i64 x.n, .int .i64 x.value] 43) (by simp; omega)).trans ((heap_old (o := .cells #[.int .i64 0, .int .i64 0, .int .i64 0, .int .i64 0, .int .i64 0] 43) hgl).trans B0)
  have R0 : ((w.alloc (.cells #[.int .i64 0, .int .i64 0, .int .i64 0, .int .i64 0, .int .i64 0] 43)).alloc (.cells #[.int .i64 x.time, .int .i64 x.proc, .int .i64 x.count, .int .i64 x.n, .int .i64 x.value] 43)).heap[w.heap.size]? = some (.cells #[.int .i64 0, .int .i64 0, .int .i64 0, .int .i64 0, .int .i64 0] 43 (0, 0)) := (heap_old (by simp)).trans (heap_at rfl)
  have R1 : ((w.alloc (.cells #[.int .i64 0, .int .i64 0, .int .i64 0, .int .i64 0, .int .i64 0] 43)).alloc (.cells #[.int .i64 x.time, .int .i64 x.proc, .int .i64 x.count, .int .i64 x.n, .int .i64 x.value] 43)).heap[w.heap.size + 1]? = some (.cells #[.int .i64 x.time, .int .i64 x.proc, .int .i64 x.count, .int .i64 x.n, .int .i64 x.value] 43 (0, 0)) := heap_at (by simp)
  have hC := ((Ch.refl (fun k => k = g ∨ F k) w).alloc (.cells #[.int .i64 0, .int .i64 0, .int .i64 0, .int .i64 0, .int .i64 0] 43)).alloc (.cells #[.int .i64 x.time, .int .i64 x.proc, .int .i64 x.count, .int .i64 x.n, .int .i64 x.value] 43)
  generalize (w.alloc (.cells #[.int .i64 0, .int .i64 0, .int .i64 0, .int .i64 0, .int .i64 0] 43)).alloc (.cells #[.int .i64 x.time, .int .i64 x.proc, .int .i64 x.count, .int .i64 x.n, .int .i64 x.value] 43) = W at *
  clear a0 q1 q2 q3 z0 z1 z2 z3 z4 hrow B0
  have a0 : W.cell? ⟨g, 0, none⟩ = some (.slice (some ⟨gb, 0, none⟩) (n + 1) c1) := blk_cell BR 0
  obtain ⟨bb, oo, hA1, -, y0, y1, y2, y3, y4⟩ := out_at (j := n) hO.rd hnl
  injection hA1 with hA1
  injection hA1 with e1 e2 _
  subst e1 e2
  simp only [Nat.zero_mul, Nat.zero_add] at y0 y1 y2 y3 y4
  rw [← nth_eq hnl, HZ.out] at y0 y1 y2 y3 y4
  refine region_sg [.rd [0, 1, 2, 3, 4, 5, 6, 7, 8, 9, 10, 11]] [12] (by kernel_rfl) (by kernel_rfl) (fun _ _ d _ _ h => by cases d <;> exact h) ?_
  refine sg_rd (fun N hN => ?_)
  simp only [pickO, List.getElem?_toArray, List.getElem?_cons_zero, List.getElem?_cons_succ]
  go_wp2_with fail
  refine rd_next (hN _ ?_)
  clear hN N
  refine sg_fin ?_
  simp only [pickO, List.getElem?_toArray, List.getElem?_cons_zero, List.getElem?_cons_succ]
  have hOd : Ow tOut 43 W.drew F (.slice (some ⟨gb, 0, none⟩) (n + 1) c1) l := hO.move (fun _ _ => rfl)
  refine ow_store (cells := OutD.cells) (sz := 5) rfl _ _ _ rfl hOd (g := gb) rfl 0 h0 z (by first | rfl | simp) (by first | rfl | simp [OutD.cells]) (by kernel_rfl) ?_
  intro w1 hO1 hCs
  have B1 := hCs.heap (show W.drew.heap[g]? = _ from BR) hne
  have b0 : w1.cell? ⟨g, 0, none⟩ = some (.slice (some ⟨gb, 0, none⟩) (n + 1) c1) := blk_cell B1 0
  have b1 := blk_frozen B1 0
  have p1 : (n : Int) ≤ (c1 : Int) := by omega
  have p2 : n ≤ c1 := by omega
  clear a0 y0 y1 y2 y3 y4
  go_wp2_with fail
  have hrow2 := (hO1.takeP n (by rw [List.length_set]; omega)).ch (S := fun k => k = g) ((Ch.refl (fun k => k = g) w1).setCell (p := ⟨g, 0, none⟩) (.inl rfl) (.slice (some ⟨gb, 0, none⟩) n c1)) (fun k hk e1 => hap (e1 ▸ hk))
  have BV := blk_set B1 0 (.slice (some ⟨gb, 0, none⟩) n c1)
  simp only [List.setIfInBounds_toArray, List.set_cons_zero] at BV
  have hCV : Ch (fun k => k = g ∨ F k) w (w1.setCell ⟨g, 0, none⟩ (.slice (some ⟨gb, 0, none⟩) n c1)) := (hC.drew.then hCs (fun q hq => .inl (.inr (by have hq' : q = gb := hq; rw [hq']; exact hgb)))).setCell (p := ⟨g, 0, none⟩) (.inl (.inl rfl)) _
  have R0V := (Below.heap_setCell w1 (⟨g, 0, none⟩ : Addr) (.slice (some ⟨gb, 0, none⟩) n c1) w.heap.size (by simp; omega)).trans (hCs.heap (show W.drew.heap[w.heap.size]? = _ from R0) (by omega))
  have R1V := (Below.heap_setCell w1 (⟨g, 0, none⟩ : Addr) (.slice (some ⟨gb, 0, none⟩) n c1) (w.heap.size + 1) (by simp; omega)).trans (hCs.heap (show W.drew.heap[w.heap.size + 1]? = _ from R1) (by omega))
  have HP := hid (show hrest outLess l = hdown outLess (((l.set 0 z).take n).length + 1) ((l.set 0 z).take n) 0 by
    have hn := HN.out
    unfold hrest
    rw [hn, show n + 1 - 1 = n by omega, HZ.out]
    congr 1
    simp; omega)
  have HM0 := hid (show ((l.set 0 z).take n).length = n by simp; omega)
  have hS0 : w.heap.size ≤ (w1.setCell ⟨g, 0, none⟩ (.slice (some ⟨gb, 0, none⟩) n c1)).heap.size := hCV.size
  clear hO1 hCs B1 b0 b1 p1 p2 hC R0 R1 BR hO hOd
  generalize w1.setCell ⟨g, 0, none⟩ (.slice (some ⟨gb, 0, none⟩) n c1) = V at *
  generalize (l.set 0 z).take n = m0 at *
  go_loopw [5] (fun t wr => ∃ (k : Nat) (m : List OutD), t = .int .i64 k ∧ k ≤ 1000 ∧ Hid (m.length = n) ∧ wr.heap[g]? = some (.cells #[.slice (some ⟨gb, 0, none⟩) n c1, .func (.func 41) #[] #[]] 167 (0, 0)) ∧ wr.heap[w.heap.size]? = some (.cells #[.int .i64 0, .int .i64 0, .int .i64 0, .int .i64 0, .int .i64 0] 43 (0, 0)) ∧ wr.heap[w.heap.size + 1]? = some (.cells #[.int .i64 x.time, .int .i64 x.proc, .int .i64 x.count, .int .i64 x.n, .int .i64 x.value] 43 (0, 0)) ∧ Ow tOut 43 wr F (.slice (some ⟨gb, 0, none⟩) n c1) m ∧ Ch (fun q => q = g ∨ F q) w wr ∧ w.heap.size ≤ wr.heap.size ∧ Hid (hrest outLess l = hdown outLess (m.length + 1) m k)) (fun t _ => n - (intOf t).toNat)
  case atStart => exact ⟨0, m0, rfl, by omega, HM0, BV, R0V, R1V, hrow2, hCV, hS0, HP⟩
  case round =>
    clear BV R0V R1V hrow2 hCV hS0 HP HM0
    obtain ⟨k, m, rfl, hk, HM, BR, R0, R1, hO, hC, hS0, HP⟩ := hrel
    go_upto_region 7 with fail
    obtain ⟨d, hd⟩ : ∃ d, d = 2 * k + 1 := ⟨_, rfl⟩
    have hd0 : 2 * (k : Int) + 1 = (d : Int) := by omega
    have HD0 := hid hd
    simp only [hd0]
    clear hd0 hd
    by_cases hdn : n ≤ d
    · have HE := hid (show hrest outLess l = m by
        rw [HP.out, hdown, if_pos (by rw [HM.out, ← HD0.out]; exact hdn)])
      have kd : decide ((d : Int) ≥ (n : Int)) = true := decide_eq_true (by omega)
      have kd' : decide (n ≤ d) = true := decide_eq_true (by omega)
      clear hdn
      have r0 : wr.cell? ⟨w.heap.size + 1, 0, none⟩ = some (.int .i64 x.time) := blk_cell R1 0
      have c0 : wr.cell? ⟨w.heap.size, 0, none⟩ = some (.int .i64 0) := blk_cell R0 0
      have f0 := blk_frozen R0 0
      have r1 : wr.cell? ⟨w.heap.size + 1, 1, none⟩ = some (.int .i64 x.proc) := blk_cell R1 1
      have c1 : wr.cell? ⟨w.heap.size, 1, none⟩ = some (.int .i64 0) := blk_cell R0 1
      have f1 := blk_frozen R0 1
      have r2 : wr.cell? ⟨w.heap.size + 1, 2, none⟩ = some (.int .i64 x.count) := blk_cell R1 2
      have c2 : wr.cell? ⟨w.heap.size, 2, none⟩ = some (.int .i64 0) := blk_cell R0 2
      have f2 := blk_frozen R0 2
      have r3 : wr.cell? ⟨w.heap.size + 1, 3, none⟩ = some (.int .i64 x.n) := blk_cell R1 3
      have c3 : wr.cell? ⟨w.heap.size, 3, none⟩ = some (.int .i64 0) := blk_cell R0 3
      have f3 := blk_frozen R0 3
      have r4 : wr.cell? ⟨w.heap.size + 1, 4, none⟩ = some (.int .i64 x.value) := blk_cell R1 4
      have c4 : wr.cell? ⟨w.heap.size, 4, none⟩ = some (.int .i64 0) := blk_cell R0 4
      have f4 := blk_frozen R0 4
      go_wp2_with fail
      have hCz : Ch (fun q => q = w.heap.size) wr (((((wr.setCell ⟨w.heap.size, 0, none⟩ (.int .i64 x.time)).setCell ⟨w.heap.size, 1, none⟩ (.int .i64 x.proc)).setCell ⟨w.heap.size, 2, none⟩ (.int .i64 x.count)).setCell ⟨w.heap.size, 3, none⟩ (.int .i64 x.n)).setCell ⟨w.heap.size, 4, none⟩ (.int .i64 x.value)) := (((((Ch.refl (fun q => q = w.heap.size) wr).setCell (p := ⟨w.heap.size, 0, none⟩) (.inl rfl) (.int .i64 x.time)).setCell (p := ⟨w.heap.size, 1, none⟩) (.inl rfl) (.int .i64 x.proc)).setCell (p := ⟨w.heap.size, 2, none⟩) (.inl rfl) (.int .i64 x.count)).setCell (p := ⟨w.heap.size, 3, none⟩) (.inl rfl) (.int .i64 x.n)).setCell (p := ⟨w.heap.size, 4, none⟩) (.inl rfl) (.int .i64 x.value)
      have RZ : (((((wr.setCell ⟨w.heap.size, 0, none⟩ (.int .i64 x.time)).setCell ⟨w.heap.size, 1, none⟩ (.int .i64 x.proc)).setCell ⟨w.heap.size, 2, none⟩ (.int .i64 x.count)).setCell ⟨w.heap.size, 3, none⟩ (.int .i64 x.n)).setCell ⟨w.heap.size, 4, none⟩ (.int .i64 x.value)).heap[w.heap.size]? = some (.cells #[.int .i64 x.time, .int .i64 x.proc, .int .i64 x.count, .int .i64 x.n, .int .i64 x.value] 43 (0, 0)) := by have := (blk_set (blk_set (blk_set (blk_set (blk_set R0 0 (.int .i64 x.time)) 1 (.int .i64 x.proc)) 2 (.int .i64 x.count)) 3 (.int .i64 x.n)) 4 (.int .i64 x.value)); simpa using this
      generalize (((((wr.setCell ⟨w.heap.size, 0, none⟩ (.int .i64 x.time)).setCell ⟨w.heap.size, 1, none⟩ (.int .i64 x.proc)).setCell ⟨w.heap.size, 2, none⟩ (.int .i64 x.count)).setCell ⟨w.heap.size, 3, none⟩ (.int .i64 x.n)).setCell ⟨w.heap.size, 4, none⟩ (.int .i64 x.value)) = WZ at *
      have s0 : WZ.cell? ⟨w.heap.size, 0, none⟩ = some (.int .i64 x.time) := blk_cell RZ 0
      have s1 : WZ.cell? ⟨w.heap.size, 1, none⟩ = some (.int .i64 x.proc) := blk_cell RZ 1
      have s2 : WZ.cell? ⟨w.heap.size, 2, none⟩ = some (.int .i64 x.count) := blk_cell RZ 2
      have s3 : WZ.cell? ⟨w.heap.size, 3, none⟩ = some (.int .i64 x.n) := blk_cell RZ 3
      have s4 : WZ.cell? ⟨w.heap.size, 4, none⟩ = some (.int .i64 x.value) := blk_cell RZ 4
      refine bodyPost_ret (v := outAgg x) (by simp only [results, Try.results130, outAgg]; go_simp) rfl ⟨by rw [HX.out], _, ⟨hCz.heap BR (fun e1 => by omega), ?_, hap, fun q hq => Nat.lt_of_lt_of_le (hFlt q hq) (Nat.le_trans hS0 hCz.size)⟩, hC.then hCz (fun q hq => .inr (Nat.le_of_eq hq.symm))⟩
      rw [HE.out]
      exact hO.ch hCz (fun q hq e1 => by have := hFlt q hq; have e2 : q = w.heap.size := e1; omega)
    · have kd : decide ((d : Int) ≥ (n : Int)) = false := decide_eq_false (by omega)
      have kd' : decide (n ≤ d) = false := decide_eq_false (by omega)
      have hdl : d < n := by omega
      have hgwr := blk_lt BR
      have a0 : wr.cell? ⟨g, 0, none⟩ = some (.slice (some ⟨gb, 0, none⟩) n c1) := blk_cell BR 0
      have a1 : wr.cell? ⟨g, 1, none⟩ = some (.func (.func 41) #[] #[]) := blk_cell BR 1
      clear hdn
      go_upto_region 9 with fail
      go_cut [72] (fun t wc => ∃ bt, t = .bool bt ∧ Hid (decide (d + 1 < n ∧ outLess (nth m (d + 1)) (nth m d) = true) = bt) ∧ Below wr.heap.size wr wc)
      case first =>
        by_cases q3 : d + 1 < n
        · have kt : decide ((d : Int) + 1 < (n : Int)) = true := decide_eq_true (by omega)
          have kt' : decide (d + 1 < n) = true := decide_eq_true (by omega)
          obtain ⟨bt, hbt⟩ : ∃ bt, outLess (nth m (d + 1)) (nth m d) = bt := ⟨_, rfl⟩
          have HD := hid (show decide (d + 1 < n ∧ outLess (nth m (d + 1)) (nth m d) = true) = bt by rw [hbt]; cases bt <;> simp [q3])
          have j1 : d + 1 < m.length := by have := HM.out; omega
          have j2 : d < m.length := by omega
          have p1 : (d : Int) + 1 < (n : Int) := by omega
          have p2 : (d : Int) < (n : Int) := by omega
          obtain ⟨bb, oo, hA1, -, y0, y1, y2, y3, y4⟩ := out_at (j := d + 1) hO.rd j1
          injection hA1 with hA1
          injection hA1 with e1 e2 _
          subst e1 e2
          simp only [Nat.zero_mul, Nat.zero_add] at y0 y1 y2 y3 y4
          obtain ⟨bb, oo, hA1, -, z0, z1, z2, z3, z4⟩ := out_at (j := d) hO.rd j2
          injection hA1 with hA1
          injection hA1 with e1 e2 _
          subst e1 e2
          simp only [Nat.zero_mul, Nat.zero_add] at z0 z1 z2 z3 z4
          rw [nth_eq j1, nth_eq j2] at hbt
          clear q3
          refine region_sg [.rd [0, 1, 2, 3, 4, 5, 6, 7, 8, 9, 10, 11, 12, 13, 14, 15, 16, 17, 18, 19, 20, 21, 22, 23]] [24, 25] (by kernel_rfl) (by kernel_rfl) (fun _ _ d _ _ h => by cases d <;> exact h) ?_
          refine sg_rd (fun N hN => ?_)
          simp only [pickO, List.getElem?_toArray, List.getElem?_cons_zero, List.getElem?_cons_succ]
          go_wp2_with fail
          refine rd_next (hN _ ?_)
          clear hN N
          refine sg_fin ?_
          simp only [pickO, List.getElem?_toArray, List.getElem?_cons_zero, List.getElem?_cons_succ]
          go_wp2_with fail
          refine (OutLessI_c m[d + 1] m[d] _).mono ?_
          rintro e w5 ⟨he, hb5⟩
          rw [hbt] at he
          subst he
          apply_assumption
          go_wp2_with fail
          go_meet
          exact ⟨_, rfl, HD, bthen' (Below.refl wr.heap.size wr).drew hb5⟩
        · have kt : decide ((d : Int) + 1 < (n : Int)) = false := decide_eq_false (by omega)
          have kt' : decide (d + 1 < n) = false := decide_eq_false (by omega)
          have HD := hid (show decide (d + 1 < n ∧ outLess (nth m (d + 1)) (nth m d) = true) = false by simp [q3])
          clear q3
          refine region_sg [.rd [0, 1, 2, 3, 4, 5, 6, 7, 8, 9, 10, 11, 12, 13, 14, 15, 16, 17, 18, 19, 20, 21, 22, 23]] [24, 25] (by kernel_rfl) (by kernel_rfl) (fun _ _ d _ _ h => by cases d <;> exact h) ?_
          refine sg_rd (fun N hN => ?_)
          simp only [pickO, List.getElem?_toArray, List.getElem?_cons_zero, List.getElem?_cons_succ]
          go_wp2_with fail
          refine rd_next (hN _ ?_)
          clear hN N
          refine sg_fin ?_
          simp only [pickO, List.getElem?_toArray, List.getElem?_cons_zero, List.getElem?_cons_succ]
          go_wp2_with fail
          go_meet
          exact ⟨_, rfl, HD, (Below.refl wr.heap.size wr).drew⟩
      case rest =>
        obtain ⟨bt, rfl, HB, hc⟩ := hcut
        have BRc := below_heap hc hgwr BR
        have R0c := below_heap hc (blk_lt R0) R0
        have R1c := below_heap hc (blk_lt R1) R1
        have hOc := hO.below hc
        have hCc := hC.trans (Ch.of_below hc)
        have hSc := Nat.le_trans hS0 hc.size
        have hgc := blk_lt BRc
        clear BR R0 R1 hO hC hS0 hgwr a0 a1 hc
        obtain ⟨c, hcc⟩ : ∃ c, c = child outLess m k := ⟨_, rfl⟩
        have hcx : c = if bt = true then d + 1 else d := by
          rw [hcc]; unfold child; rw [← HD0.out, HM.out, ← HB.out]; simp
        have hcn : c < n := by
          have := child_lt (lt := outLess) (l := m) (k := k) (by rw [HM.out, ← HD0.out]; omega)
          rw [hcc, ← HM.out]; exact this
        have hck : k < c := by rw [hcc]; exact (child_par (lt := outLess) m k).2.2
        have HC := hid hcc
        clear hcc HB
        have a0 : wc.cell? ⟨g, 0, none⟩ = some (.slice (some ⟨gb, 0, none⟩) n c1) := blk_cell BRc 0
        have a1 : wc.cell? ⟨g, 1, none⟩ = some (.func (.func 41) #[] #[]) := blk_cell BRc 1
        have HX2 := hid hcx
        clear hcx
        cases bt
        all_goals go_upto_region 11 with fail
        all_goals first | (have e0 : c = d := HX2.out; have e1 : (d : Int) = (c : Int) := (congrArg Int.ofNat e0).symm; simp only [e1]; clear e0 e1) | (have e0 : c = d + 1 := HX2.out; have e1 : (d : Int) + 1 = (c : Int) := (congrArg Int.ofNat e0).symm; simp only [e1]; clear e0 e1)
        all_goals
          clear HX2
          have j1 : c < m.length := by have := HM.out; omega
          have j2 : k < m.length := by omega
          have p1 : (c : Int) < (n : Int) := by omega
          have p2 : (k : Int) < (n : Int) := by omega
          obtain ⟨bb, oo, hA1, -, y0, y1, y2, y3, y4⟩ := out_at (j := c) hOc.rd j1
          injection hA1 with hA1
          injection hA1 with e1 e2 _
          subst e1 e2
          simp only [Nat.zero_mul, Nat.zero_add] at y0 y1 y2 y3 y4
          obtain ⟨bb, oo, hA1, -, z0, z1, z2, z3, z4⟩ := out_at (j := k) hOc.rd j2
          injection hA1 with hA1
          injection hA1 with e1 e2 _
          subst e1 e2
          simp only [Nat.zero_mul, Nat.zero_add] at z0 z1 z2 z3 z4
          obtain ⟨bt2, hbt⟩ : ∃ b, outLess m[c] m[k] = b := ⟨_, rfl⟩
          refine region_sg [.rd [0, 1, 2, 3, 4, 5, 6, 7, 8, 9, 10, 11, 12, 13, 14, 15, 16, 17]] [18, 19] (by kernel_rfl) (by kernel_rfl) (fun _ _ d _ _ h => by cases d <;> exact h) ?_
          refine sg_rd (fun N hN => ?_)
          simp only [pickO, List.getElem?_toArray, List.getElem?_cons_zero, List.getElem?_cons_succ]
          go_wp2_with fail
          refine rd_next (hN _ ?_)
          clear hN N
          refine sg_fin ?_
          simp only [pickO, List.getElem?_toArray, List.getElem?_cons_zero, List.getElem?_cons_succ]
          go_wp2_with fail
          refine (OutLessI_c m[c] m[k] _).mono ?_
          rintro e w5 ⟨he, hb5⟩
          rw [hbt] at he
          subst he
          have hc5 := bthen' (Below.refl wc.heap.size wc).drew hb5
          have BR := below_heap hc5 hgc BRc
          have R0 := below_heap hc5 (blk_lt R0c) R0c
          have R1 := below_heap hc5 (blk_lt R1c) R1c
          have hO := hOc.below hc5
          have hC := hCc.trans (Ch.of_below hc5)
          have hS0 := Nat.le_trans hSc hc5.size
          clear BRc R0c R1c hOc hCc hSc hgc a0 a1 y0 y1 y2 y3 y4 z0 z1 z2 z3 z4 hb5 hc5
          apply_assumption
          cases bt2
          case false =>
            have HE := hid (show hrest outLess l = m by
              rw [HP.out, hdown, if_neg (by rw [HM.out, ← HD0.out]; omega), if_neg (by rw [← HC.out, nth_eq j1, nth_eq j2, hbt]; simp)])
            clear hbt
            have r0 : w5.cell? ⟨w.heap.size + 1, 0, none⟩ = some (.int .i64 x.time) := blk_cell R1 0
            have c0 : w5.cell? ⟨w.heap.size, 0, none⟩ = some (.int .i64 0) := blk_cell R0 0
            have f0 := blk_frozen R0 0
            have r1 : w5.cell? ⟨w.heap.size + 1, 1, none⟩ = some (.int .i64 x.proc) := blk_cell R1 1
            have c1 : w5.cell? ⟨w.heap.size, 1, none⟩ = some (.int .i64 0) := blk_cell R0 1
            have f1 := blk_frozen R0 1
            have r2 : w5.cell? ⟨w.heap.size + 1, 2, none⟩ = some (.int .i64 x.count) := blk_cell R1 2
            have c2 : w5.cell? ⟨w.heap.size, 2, none⟩ = some (.int .i64 0) := blk_cell R0 2
            have f2 := blk_frozen R0 2
            have r3 : w5.cell? ⟨w.heap.size + 1, 3, none⟩ = some (.int .i64 x.n) := blk_cell R1 3
            have c3 : w5.cell? ⟨w.heap.size, 3, none⟩ = some (.int .i64 0) := blk_cell R0 3
            have f3 := blk_frozen R0 3
            have r4 : w5.cell? ⟨w.heap.size + 1, 4, none⟩ = some (.int .i64 x.value) := blk_cell R1 4
            have c4 : w5.cell? ⟨w.heap.size, 4, none⟩ = some (.int .i64 0) := blk_cell R0 4
            have f4 := blk_frozen R0 4
            go_wp2_with fail
            have hCz : Ch (fun q => q = w.heap.size) w5 (((((w5.setCell ⟨w.heap.size, 0, none⟩ (.int .i64 x.time)).setCell ⟨w.heap.size, 1, none⟩ (.int .i64 x.proc)).setCell ⟨w.heap.size, 2, none⟩ (.int .i64 x.count)).setCell ⟨w.heap.size, 3, none⟩ (.int .i64 x.n)).setCell ⟨w.heap.size, 4, none⟩ (.int .i64 x.value)) := (((((Ch.refl (fun q => q = w.heap.size) w5).setCell (p := ⟨w.heap.size, 0, none⟩) (.inl rfl) (.int .i64 x.time)).setCell (p := ⟨w.heap.size, 1, none⟩) (.inl rfl) (.int .i64 x.proc)).setCell (p := ⟨w.heap.size, 2, none⟩) (.inl rfl) (.int .i64 x.count)).setCell (p := ⟨w.heap.size, 3, none⟩) (.inl rfl) (.int .i64 x.n)).setCell (p := ⟨w.heap.size, 4, none⟩) (.inl rfl) (.int .i64 x.value)
            have RZ : (((((w5.setCell ⟨w.heap.size, 0, none⟩ (.int .i64 x.time)).setCell ⟨w.heap.size, 1, none⟩ (.int .i64 x.proc)).setCell ⟨w.heap.size, 2, none⟩ (.int .i64 x.count)).setCell ⟨w.heap.size, 3, none⟩ (.int .i64 x.n)).setCell ⟨w.heap.size, 4, none⟩ (.int .i64 x.value)).heap[w.heap.size]? = some (.cells #[.int .i64 x.time, .int .i64 x.proc, .int .i64 x.count, .int .i64 x.n, .int .i64 x.value] 43 (0, 0)) := by have := (blk_set (blk_set (blk_set (blk_set (blk_set R0 0 (.int .i64 x.time)) 1 (.int .i64 x.proc)) 2 (.int .i64 x.count)) 3 (.int .i64 x.n)) 4 (.int .i64 x.value)); simpa using this
            generalize (((((w5.setCell ⟨w.heap.size, 0, none⟩ (.int .i64 x.time)).setCell ⟨w.heap.size, 1, none⟩ (.int .i64 x.proc)).setCell ⟨w.heap.size, 2, none⟩ (.int .i64 x.count)).setCell ⟨w.heap.size, 3, none⟩ (.int .i64 x.n)).setCell ⟨w.heap.size, 4, none⟩ (.int .i64 x.value)) = WZ at *
            have s0 : WZ.cell? ⟨w.heap.size, 0, none⟩ = some (.int .i64 x.time) := blk_cell RZ 0
            have s1 : WZ.cell? ⟨w.heap.size, 1, none⟩ = some (.int .i64 x.proc) := blk_cell RZ 1
            have s2 : WZ.cell? ⟨w.heap.size, 2, none⟩ = some (.int .i64 x.count) := blk_cell RZ 2
            have s3 : WZ.cell? ⟨w.heap.size, 3, none⟩ = some (.int .i64 x.n) := blk_cell RZ 3
            have s4 : WZ.cell? ⟨w.heap.size, 4, none⟩ = some (.int .i64 x.value) := blk_cell RZ 4
            refine bodyPost_ret (v := outAgg x) (by simp only [results, Try.results130, outAgg]; go_simp) rfl ⟨by rw [HX.out], _, ⟨hCz.heap BR (fun e1 => by omega), ?_, hap, fun q hq => Nat.lt_of_lt_of_le (hFlt q hq) (Nat.le_trans hS0 hCz.size)⟩, hC.then hCz (fun q hq => .inr (Nat.le_of_eq hq.symm))⟩
            rw [HE.out]
            exact hO.ch hCz (fun q hq e1 => by have := hFlt q hq; have e2 : q = w.heap.size := e1; omega)
          case true =>
            have hsw : (m.set k m[c]).set c m[k] = swp m k c := by rw [swp, nth_eq j2, nth_eq j1]
            have HSW := hid hsw
            have hln : (swp m k c).length = m.length := swp_len m k c
            have HM6 := hid (show (swp m k c).length = n by rw [hln]; exact HM.out)
            have HP6 := hid (show hrest outLess l = hdown outLess ((swp m k c).length + 1) (swp m k c) c by
              rw [HP.out, hdown, if_neg (by rw [HM.out, ← HD0.out]; omega), if_pos (by rw [← HC.out, nth_eq j1, nth_eq j2, hbt]), ← HC.out, hln]
              exact hdown_fuel _ _ _ _ (by rw [hln]; omega) (by rw [hln]; omega))
            clear hbt hsw hln HP
            have a0 : w5.cell? ⟨g, 0, none⟩ = some (.slice (some ⟨gb, 0, none⟩) n c1) := blk_cell BR 0
            go_upto_region 13 with fail
            obtain ⟨bb, oo, hA1, -, y0, y1, y2, y3, y4⟩ := out_at (j := c) hO.rd j1
            injection hA1 with hA1
            injection hA1 with e1 e2 _
            subst e1 e2
            simp only [Nat.zero_mul, Nat.zero_add] at y0 y1 y2 y3 y4
            obtain ⟨bb, oo, hA1, -, z0, z1, z2, z3, z4⟩ := out_at (j := k) hO.rd j2
            injection hA1 with hA1
            injection hA1 with e1 e2 _
            subst e1 e2
            simp only [Nat.zero_mul, Nat.zero_add] at z0 z1 z2 z3 z4
            refine region_sg [.rd [0, 1, 2, 3, 4, 5, 6, 7, 8, 9, 10, 11, 12, 13, 14, 15, 16, 17, 18, 19, 20, 21, 22, 23]] [24, 25, 26, 27] (by kernel_rfl) (by kernel_rfl) (fun _ _ d _ _ h => by cases d <;> exact h) ?_
            refine sg_rd (fun N hN => ?_)
            simp only [pickO, List.getElem?_toArray, List.getElem?_cons_zero, List.getElem?_cons_succ]
            go_wp2_with fail
            refine rd_next (hN _ ?_)
            clear hN N
            refine sg_fin ?_
            simp only [pickO, List.getElem?_toArray, List.getElem?_cons_zero, List.getElem?_cons_succ]
            have hOd : Ow tOut 43 w5.drew F (.slice (some ⟨gb, 0, none⟩) n c1) m := hO.move (fun _ _ => rfl)
            clear a0 y0 y1 y2 y3 y4 z0 z1 z2 z3 z4
            go_wp2_with (first | (refine ow_store (cells := OutD.cells) (sz := 5) rfl _ _ _ rfl hOa (g := gb) rfl c (by simpa using j1) m[k] (by first | rfl | simp) (by first | rfl | simp [OutD.cells]) (by kernel_rfl) ?_; intro wb hOb hCb) | (refine ow_store (cells := OutD.cells) (sz := 5) rfl _ _ _ rfl hOd (g := gb) rfl k j2 m[c] (by first | rfl | simp) (by first | rfl | simp [OutD.cells]) (by kernel_rfl) ?_; intro wa hOa hCa))
            have hCs := hCa.trans hCb
            have hSb := hCs.size
            rw [HSW.out] at hOb
            have BX := hCs.heap (show w5.drew.heap[g]? = _ from BR) hne
            have R0X := hCs.heap (show w5.drew.heap[w.heap.size]? = _ from R0) (by omega)
            have R1X := hCs.heap (show w5.drew.heap[w.heap.size + 1]? = _ from R1) (by omega)
            have hCX := hC.drew.then hCs (fun q hq => .inl (.inr (by have hq' : q = gb := hq; rw [hq']; exact hgb)))
            clear BR R0 R1 hO hC hOd hOa hCa hCb
            go_roundw
            case rel => exact ⟨c, swp m k c, rfl, by omega, HM6, BX, R0X, R1X, hOb, hCX, hCX.size, HP6⟩
            case measure => simp [intOf]; omega
end Go.Proofs.Ytmnccekljombmaa
