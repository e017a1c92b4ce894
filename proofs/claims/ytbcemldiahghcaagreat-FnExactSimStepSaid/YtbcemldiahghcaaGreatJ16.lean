/- Texts joined: Seg, Lt, Ex4. -/
import Derived.Test.YtbcemldiahghcaaGreatJ15
import Derived.Test.YtbcemldiahghcaaGreatJ01
import Derived.Test.YtbcemldiahghcaaGreatJ13
namespace Go.Proofs.YtbcemldiahghcaaGreat
set_option linter.unusedVariables false
set_option linter.unusedSimpArgs false
set_option linter.unusedSectionVars false
open Go.RowKit
section
variable {P : Program} {ops : Array Oper} {Q : Exit → Act → World → Prop} {L : List Nat}
theorem valB {s : Sem Value} (hs : StillS P s) : StillS P (do Pure.pure (Next.value (← s)) : Sem Next) ∧ ∀ w n w2, (do Pure.pure (Next.value (← s)) : Sem Next).run P w = .ok n w2 → ∃ v, n = .value v :=
  ⟨hs.bind fun _ => StillS.pure _, fun w n w2 h => by
    rw [Sem.run_bind] at h
    cases hr : s.run P w with
    | halt x w1 => rw [hr] at h; cases h
    | ok a w1 =>
      rw [hr] at h
      simp only [Result.andThen_ok, Sem.run_pure, Result.ok.injEq] at h
      exact ⟨a, h.1.symm⟩⟩
theorem valP (v : Value) : StillS P (Pure.pure (Next.value v) : Sem Next) ∧ ∀ w n w2, (Pure.pure (Next.value v) : Sem Next).run P w = .ok n w2 → ∃ v, n = .value v :=
  ⟨StillS.pure _, fun w n w2 h => by simp only [Sem.run_pure, Result.ok.injEq] at h; exact ⟨v, h.1.symm⟩⟩
theorem readOp_good {o : Oper} (h : readOp P o = true) (ev : Operand → Value) : StillS P (execOp ev o) ∧ ∀ w n w2, (execOp ev o).run P w = .ok n w2 → ∃ v, n = .value v := by
  obtain ⟨dst, op, type, pos, after, guard⟩ := o
  cases op <;> first | (exfalso; simp [readOp] at h; done) | skip
  case move x => exact valP _
  case assign x => exact valP _
  case pick c a b =>
    refine ⟨(StillS.asBool _).bind fun _ => StillS.pure _, fun w n w2 h => ?_⟩
    have h : ((asBool (ev c)) >>= fun b' => Pure.pure (Next.value (if b' = true then ev a else ev b))).run P w = .ok n w2 := h
    rw [Sem.run_bind] at h
    cases hr : (asBool (ev c)).run P w with
    | halt x w1 => rw [hr] at h; cases h
    | ok a w1 =>
      rw [hr] at h
      simp only [Result.andThen_ok, Sem.run_pure, Result.ok.injEq] at h
      exact ⟨_, h.1.symm⟩
  case load t a => exact valB (StillS.loadAt _ _)
  case nilCheck x =>
    unfold execOp
    dsimp only
    split
    · exact ⟨StillS.nilDeref, fun w n w2 h => by unfold runtimePanic at h; cases h⟩
    · exact ⟨StillS.nilDeref, fun w n w2 h => by unfold runtimePanic at h; cases h⟩
    · exact ⟨StillS.nilDeref, fun w n w2 h => by unfold runtimePanic at h; cases h⟩
    · split
      · exact ⟨StillS.nilDeref, fun w n w2 h => by unfold runtimePanic at h; cases h⟩
      · refine ⟨StillS.program.bind fun p => (StillS.nilAhead _ _ _ _).bind fun b => ?_, fun w n w2 h => ?_⟩
        · split
          · exact StillS.unsupported _
          · exact StillS.pure _
        · rw [Sem.run_bind, run_program] at h
          simp only [Result.andThen_ok] at h
          rw [Sem.run_bind] at h
          unfold Result.andThen at h
          split at h
          · dsimp only at h
            split at h
            · cases h
            · simp only [Sem.run_pure, Result.ok.injEq] at h
              exact ⟨_, h.1.symm⟩
          · cases h
      · exact valP _
    · exact valP _
  case binOp op t x y u =>
    have hb : basicT P t = true ∧ op ∈ [BinOp.lss, .leq, .gtr, .geq, .add, .sub, .eql, .neq] := by
      cases op <;> simp [readOp] at h <;> exact ⟨h, by simp⟩
    exact valB ((StillS.eqGuard hb.1 _ _ _ _ _).bind fun _ => StillS.binOpI hb.1 hb.2 _ _)
  case unOp op t x => exact valB (StillS.unary _ _)
  case slice t x lo hi mx => exact valB (StillS.sliceAt _ _ _ _ _)
  case fieldAddr t x f => exact valB (StillS.fieldAt h _)
  case field t x f => exact valB (StillS.field _ _ _)
  case indexAddr t x i => exact valB (StillS.indexAt _ _ _)
  case index t x i => exact valB (StillS.index _ _ _)
  case extract t i => exact valB (StillS.extract _ _)
  case call c =>
    obtain ⟨callee, args, tys⟩ := c
    cases callee with
    | value f => simp [readOp] at h
    | invoke r m => simp [readOp] at h
    | builtin b =>
      cases b <;> first | (exfalso; simp [readOp] at h; done) | skip
      case len => exact valB (StillS.len _ _ _)
      case cap => exact valB (StillS.cap _ _ _)
def pickO (ops : Array Oper) : List Nat → List Oper
  | [] => []
  | i :: r => match ops[i]? with | some o => o :: pickO ops r | none => pickO ops r
inductive Sg where
  | rd (l : List Nat)
  | mid (i : Nat)
  | par (D : List (Nat × List Nat)) (R : List Nat)
/-- What hangs on no memory. -/
def isMv (ops : Array Oper) (i : Nat) : Bool := match ops[i]? with | some o => (match o.op with | .move _ => true | .assign _ => true | _ => false) | none => false
def takesPe (ops : Array Oper) : List Nat → Pe → Pe
  | [], p => p
  | i :: l, p => if isMv ops i = true then .pure i (takesPe ops l p) else .take i (takesPe ops l p)
def onesPe : List Nat → Pe
  | [] => .nil
  | i :: f => .one i (onesPe f)
def sgPe (ops : Array Oper) : List Sg → List Nat → Pe
  | [], f => onesPe f
  | .rd l :: r, f => takesPe ops l (sgPe ops r f)
  | .mid i :: r, f => .one i (sgPe ops r f)
  | .par D R :: r, f => .par D R (sgPe ops r f)
def sgReads : List Sg → List Nat
  | [] => []
  | .rd l :: r => l ++ sgReads r
  | .mid _ :: r => sgReads r
  | .par _ _ :: r => sgReads r
def sgLoads (ops : Array Oper) (s : List Sg) : List Nat := (sgReads s).filter fun i => !isMv ops i
/-- Behind what is read. -/
def RdP (w0 : World) (next : Act → Prop) : Exit → Act → World → Prop := fun e a w => e = .normal ∧ w.heap.size = w0.heap.size ∧ w.drawn = w0.drawn ∧ next a
/-- Behind an operation that is not read and is not the last one. -/
def MidP (w0 : World) (Q : Exit → Act → World → Prop) (next : Act → World → Prop) : Exit → Act → World → Prop := fun e a w => match e with | .normal => Agree w0 w ∧ next a w | e => Q e a w
/-- Operations side by side: each shown by itself. -/
def ParAt (P : Program) (ops : Array Oper) (Q : Exit → Act → World → Prop) (S : World → Prop) (D : List (Nat × List Nat)) (R : List Nat) (next : Act → World → Prop) (a : Act) (w : World) : Prop :=
  ∃ (A : Nat → Prop) (N : Nat → (Nat → Value) → World → (Nat → Prop) → Prop) (PP : Nat → (Nat → Value) → Prop) (F0 : Nat → Nat → Prop), (∀ j i u v, PP j u → i ≠ j → waits ops j i = false → PP j (updV u i v)) ∧ (∀ j i u v w F, N j u w F → i ≠ j → waits ops j i = false → N j (updV u i v) w F) ∧ (∀ j v w w' F, N j v w F → (∀ k, F k → w'.heap[k]? = w.heap[k]?) → N j v w' F) ∧ (∀ w', Ch A w w' → S w') ∧
      (∀ j ∈ R, ∀ u : Nat → Value, u j = undef → N j u w (F0 j)) ∧ (∀ j ∈ R, ∀ k, F0 j k → A k ∧ k < w.heap.size) ∧ (∀ j ∈ R, ∀ j' ∈ R, ∀ k, j ≠ j' → F0 j k → F0 j' k → False) ∧ parP P ops Q (D.map (·.1)) a w A N PP D ∧
      ∀ u w' (F : Nat → Nat → Prop), Ch A w w' → (∀ j j' k, EndAv D R j = true → EndAv D R j' = true → j ≠ j' → F j k → F j' k → False) → (∀ j k, EndAv D R j = true → F j k → (A k ∨ w.heap.size ≤ k) ∧ k < w'.heap.size) → (∀ j, EndAv D R j = true → N j u w' (F j)) → (∀ j ∈ D.map (·.1), PP j u) → next (putAll ops (D.map (·.1)) a u) w'
def wpSg (P : Program) (ops : Array Oper) (Q : Exit → Act → World → Prop) (w0 : World) : List Sg → List Nat → Act → World → Prop
  | [], f, a, w => wpList P ops Q (pickO ops f) a w
  | .rd l :: r, f, a, w => wpList P ops (RdP w0 fun a' => wpSg P ops Q w0 r f a' w) (pickO ops l) a w0
  | .mid i :: r, f, a, w => wpList P ops (MidP w0 Q fun a' w' => wpSg P ops Q w0 r f a' w') (pickO ops [i]) a w
  | .par D R :: r, f, a, w => ParAt P ops Q (Agree w0) D R (fun a' w' => Agree w0 w' ∧ wpSg P ops Q w0 r f a' w') a w
theorem rd_next {w0 : World} {next : Act → Prop} {a : Act} (h : next a) : RdP w0 next .normal a w0 := ⟨rfl, rfl, rfl, h⟩
theorem mid_next {w0 w : World} {next : Act → World → Prop} {a : Act} (hw : Agree w0 w) (h : next a w) : MidP w0 Q next .normal a w := ⟨hw, h⟩
def isRead (P : Program) (ops : Array Oper) (i : Nat) : Bool := match ops[i]? with | some o => readOp P o | none => false
theorem rd_mono {w0 : World} {next : Act → Prop} : ∀ (l : List Oper) (a : Act) (w : World), (∀ o ∈ l, readOp P o = true) → wpList P ops (RdP w0 next) l a w → w.heap.size ≤ w0.heap.size ∧ w.drawn ≤ w0.drawn
  | [], a, w, _, h => by
    have h : RdP w0 next .normal a w := h
    exact ⟨Nat.le_of_eq h.2.1, Nat.le_of_eq h.2.2.1⟩
  | o :: l, a, w, hr, h => by
    unfold wpList at h
    have hl : ∀ o ∈ l, readOp P o = true := fun q hq => hr q (List.mem_cons_of_mem _ hq)
    split at h
    · rcases h with h | ⟨_, a', w', h, _⟩
      · unfold Oper.wp at h
        obtain ⟨g1, g2⟩ := readOp_good (hr o (List.mem_cons_self ..)) a.eval
        cases hrun : (execOp a.eval o).run P w with
        | halt x w1 =>
          rw [hrun] at h
          cases x <;> first | exact h.elim | (cases h.1)
        | ok n w1 =>
          obtain ⟨v, rfl⟩ := g2 _ _ _ hrun
          rw [hrun, Oper.upon_value] at h
          obtain ⟨m1, m2⟩ := rd_mono l _ _ hl h
          obtain ⟨k1, k2, _⟩ := g1 _ _ _ hrun
          omega
      · cases h
    · exact rd_mono l _ _ hl h
theorem takes_of_list {w0 w : World} (r : Pe) : ∀ (l : List Nat) (a : Act), (∀ i ∈ l, isRead P ops i = true) → Agree w0 w →
    wpList P ops (RdP w0 fun a' => wpE P ops Q (Agree w0) L r a' w) (pickO ops l) a w0 → wpE P ops Q (Agree w0) L (takesPe ops l r) a w
  | [], a, _, _, h => h.2.2.2
  | i :: l, a, hr, hA, h => by
    have hi := hr i (List.mem_cons_self ..)
    have hl : ∀ i ∈ l, isRead P ops i = true := fun q hq => hr q (List.mem_cons_of_mem _ hq)
    unfold isRead at hi
    cases ho : ops[i]? with
    | none => rw [ho] at hi; cases hi
    | some o =>
      rw [ho] at hi
      have hi : readOp P o = true := hi
      unfold pickO at h
      rw [ho] at h
      simp only at h
      have hlo : ∀ (l : List Nat), (∀ i ∈ l, isRead P ops i = true) → ∀ o ∈ pickO ops l, readOp P o = true := by
        intro l
        induction l with
        | nil => intro _ o ho; cases ho
        | cons j l ih =>
          intro hl o hm
          have hj := hl j (List.mem_cons_self ..)
          unfold isRead at hj
          unfold pickO at hm
          cases hoj : ops[j]? with
          | none => rw [hoj] at hj; cases hj
          | some oj =>
            rw [hoj] at hj hm
            rcases List.mem_cons.1 hm with rfl | hm
            · exact hj
            · exact ih (fun q hq => hl q (List.mem_cons_of_mem _ hq)) o hm
      unfold wpList at h
      unfold takesPe
      by_cases hw : Region.wanted o (yielded ops a.tmps) = true
      · rw [if_pos hw] at h
        rcases h with h | ⟨_, a', w', h, _⟩
        · unfold Oper.wp at h
          obtain ⟨g1, g2⟩ := readOp_good hi a.eval
          cases hrun : (execOp a.eval o).run P w0 with
          | halt x w1 =>
            rw [hrun] at h
            cases x <;> first | exact h.elim | (cases h.1)
          | ok n w1 =>
            obtain ⟨v, rfl⟩ := g2 _ _ _ hrun
            rw [hrun, Oper.upon_value] at h
            obtain ⟨m1, m2⟩ := rd_mono _ _ _ (hlo l hl) h
            obtain ⟨k1, k2, k3⟩ := g1 _ _ _ hrun
            obtain ⟨rfl, k4⟩ := k3 (by omega) (by omega)
            by_cases hmv : isMv ops i = true
            · rw [if_pos hmv]
              refine ⟨o, v, ho, .inl ⟨hw, fun w' _ => ?_⟩, takes_of_list r l _ hl hA h⟩
              unfold isMv at hmv
              rw [ho] at hmv
              obtain ⟨dst, op, type, pos, after, guard⟩ := o
              cases op <;> first | (exfalso; simp at hmv; done) | skip
              case move =>
                simp only [execOp, Sem.run_pure, Result.ok.injEq, Next.value.injEq, and_true] at hrun
                subst hrun; rfl
              case assign =>
                simp only [execOp, Sem.run_pure, Result.ok.injEq, Next.value.injEq, and_true] at hrun
                subst hrun; rfl
            · rw [if_neg hmv]
              exact ⟨o, v, ho, .inl ⟨hw, k4⟩, hA, takes_of_list r l _ hl hA h⟩
        · cases h
      · rw [if_neg hw] at h
        by_cases hmv : isMv ops i = true
        · rw [if_pos hmv]
          exact ⟨o, undef, ho, .inr ⟨by simpa using hw, rfl⟩, takes_of_list r l _ hl hA h⟩
        · rw [if_neg hmv]
          exact ⟨o, undef, ho, .inr ⟨by simpa using hw, rfl⟩, hA, takes_of_list r l _ hl hA h⟩
theorem upon_congr {o : Oper} {a : Act} {K : Act → World → Prop} {Q Q' : Exit → Act → World → Prop} (h1 : ∀ c a w, Q' (.panic c) a w → Q (.panic c) a w) (h2 : LetsOut Q' → LetsOut Q) : ∀ r : Result Next, o.upon P a K Q' r → o.upon P a K Q r
  | .ok n w', h => by
    cases n
    case enter f args =>
      rw [Oper.upon_enter] at h ⊢
      refine Calls.mono h fun e w hh => ?_
      cases e with
      | returned v => exact hh
      | panicked c => exact h1 _ _ _ hh
      | outgrown => exact h2 hh
    all_goals first | exact h | exact h.elim
  | .halt x w', h => by
    cases x
    case panic v => exact h1 _ _ _ h
    all_goals first | exact h | exact h.elim
theorem wpList_monoQ {Q Q' : Exit → Act → World → Prop} (hq : ∀ e a w, Q' e a w → Q e a w) : ∀ (l : List Oper) (a : Act) (w : World), wpList P ops Q' l a w → wpList P ops Q l a w
  | [], a, w, h => hq _ _ _ h
  | o :: l, a, w, h => by
    have h2 : LetsOut Q' → LetsOut Q := fun ⟨a, w, h⟩ => ⟨a, w, hq _ _ _ h⟩
    unfold wpList at h ⊢
    split at h
    · rename_i hw
      rw [if_pos hw]
      exact h.imp (fun h => Oper.wp_mono (fun a w h => wpList_monoQ hq l a w h) (upon_congr (fun _ _ _ h => hq _ _ _ h) h2 _ h)) (fun h => ⟨h.1, h2 h.2⟩)
    · rename_i hw
      rw [if_neg hw]
      exact wpList_monoQ hq l _ w h
theorem wpOp_of_wp {i : Nat} {o : Oper} {a : Act} {w : World} {K : Act → World → Prop} {Q' : Exit → Act → World → Prop} (ho : ops[i]? = some o) (h1 : ∀ c a w, Q' (.panic c) a w → Q (.panic c) a w) (h2 : LetsOut Q' → LetsOut Q)
    (h : if Region.wanted o (yielded ops a.tmps) = true then o.wp P a w K Q' ∨ (o.asks P a w ∧ LetsOut Q') else K (a.put o.dst undef) w) : wpOp P ops Q i K a w := by
  unfold wpOp
  rw [ho]
  by_cases hw : Region.wanted o (yielded ops a.tmps) = true
  · rw [if_pos hw] at h
    simp only [hw, if_true]
    exact h.imp (upon_congr h1 h2 _) (fun h => ⟨h.1, h2 h.2⟩)
  · rw [if_neg hw] at h
    simp only [hw, if_false]
    exact h
theorem wpE_ones {w0 : World} : ∀ (f : List Nat) (a : Act) (w : World), (∀ i ∈ f, late ops L i = true) → (∀ i ∈ f, (ops[i]?).isSome = true) → wpList P ops Q (pickO ops f) a w → wpE P ops Q (Agree w0) L (onesPe f) a w
  | [], a, w, _, _, h => h
  | i :: f, a, w, hf, hs, h => by
    have hi := hs i (List.mem_cons_self ..)
    cases ho : ops[i]? with
    | none => rw [ho] at hi; cases hi
    | some o =>
      unfold pickO at h
      rw [ho] at h
      simp only at h
      unfold wpList at h
      have ih := fun a w => wpE_ones (w0 := w0) f a w (fun q hq => hf q (List.mem_cons_of_mem _ hq)) (fun q hq => hs q (List.mem_cons_of_mem _ hq))
      exact wpOp_mono (fun a' w' h' => ⟨.inl (hf i (List.mem_cons_self ..)), ih a' w' h'⟩) (wpOp_of_wp ho (fun _ _ _ h => h) (fun h => h) h)
theorem wpE_of_sg {w0 : World} : ∀ (s : List Sg) (f : List Nat) (a : Act) (w : World), (∀ i ∈ sgReads s, isRead P ops i = true) → (∀ i ∈ f, late ops L i = true) →
    (∀ i, (Sg.mid i) ∈ s → (ops[i]?).isSome = true) → (∀ i ∈ f, (ops[i]?).isSome = true) → Agree w0 w → wpSg P ops Q w0 s f a w → wpE P ops Q (Agree w0) L (sgPe ops s f) a w
  | [], f, a, w, hr, hf, hm, hs, hA', h => wpE_ones f a w hf hs h
  | .rd l :: r, f, a, w, hr, hf, hm, hs, hA', h => by
    refine takes_of_list (L := L) (sgPe ops r f) l a (fun i hi => hr i (List.mem_append_left _ hi)) hA' ?_
    have h : wpList P ops (RdP w0 fun a' => wpSg P ops Q w0 r f a' w) (pickO ops l) a w0 := h
    refine wpList_monoQ (fun e a' w' hh => ?_) _ _ _ h
    exact ⟨hh.1, hh.2.1, hh.2.2.1, wpE_of_sg r f a' w (fun i hi => hr i (List.mem_append_right _ hi)) hf (fun i hi => hm i (List.mem_cons_of_mem _ hi)) hs hA' hh.2.2.2⟩
  | .mid i :: r, f, a, w, hr, hf, hm, hs, hA', h => by
    have hi := hm i (List.mem_cons_self ..)
    cases ho : ops[i]? with
    | none => rw [ho] at hi; cases hi
    | some o =>
      have h : wpList P ops (MidP w0 Q fun a' w' => wpSg P ops Q w0 r f a' w') (pickO ops [i]) a w := h
      unfold pickO at h
      rw [ho] at h
      simp only at h
      unfold wpList at h
      exact wpOp_mono (fun a' w' (h' : Agree w0 w' ∧ wpSg P ops Q w0 r f a' w') => ⟨.inr fun _ => h'.1, wpE_of_sg r f a' w' hr hf (fun i hi => hm i (List.mem_cons_of_mem _ hi)) hs h'.1 h'.2⟩)
        (wpOp_of_wp (Q := Q) ho (fun _ _ _ h => h) (fun ⟨a, w, h⟩ => ⟨a, w, h⟩) h)
  | .par D R :: r, f, a, w, hr, hf, hm, hs, hA', h => by
    have h : ParAt P ops Q (Agree w0) D R (fun a' w' => Agree w0 w' ∧ wpSg P ops Q w0 r f a' w') a w := h
    obtain ⟨A, N, PP, F0, h1, h2, h3, h4, h5, h6, h7, h8, h9⟩ := h
    exact ⟨A, N, PP, F0, h1, h2, h3, h4, h5, h6, h7, h8, fun u w' F e1 e2 e3 e4 e5 => wpE_of_sg r f _ w' hr hf (fun i hi => hm i (List.mem_cons_of_mem _ hi)) hs (h9 u w' F e1 e2 e3 e4 e5).1 (h9 u w' F e1 e2 e3 e4 e5).2⟩
def sgMids : List Sg → List Nat
  | [] => []
  | .rd _ :: r => sgMids r
  | .mid i :: r => i :: sgMids r
  | .par _ _ :: r => sgMids r
theorem mem_sgMids {i : Nat} : ∀ {s : List Sg}, Sg.mid i ∈ s → i ∈ sgMids s
  | .rd l :: r, h => mem_sgMids (s := r) (by simpa using h)
  | .par D R :: r, h => mem_sgMids (s := r) (by simpa using h)
  | .mid j :: r, h => by
    rcases List.mem_cons.1 h with h | h
    · injection h with h; subst h; exact List.mem_cons_self ..
    · exact List.mem_cons_of_mem _ (mem_sgMids h)
/-- The checks that a plan fits. -/
def sgOk (P : Program) (ops : Array Oper) (s : List Sg) (f : List Nat) : Bool :=
  Region.noSelect ops && (sgPe ops s f).len == ops.size && eOk ops (sgLoads ops s) (sgPe ops s f) (Array.replicate ops.size false) &&
  (sgReads s).all (isRead P ops) && f.all (fun i => late ops (sgLoads ops s) i && (ops[i]?).isSome) && (sgMids s).all (fun i => (ops[i]?).isSome)
theorem region_sg {id : Nat} {a : Act} {w : World} {l : List Oper} (s : List Sg) (f : List Nat) (hm : P.follows .mixedOrders = true) (hk : sgOk P l.toArray s f = true)
    (hQ : ∀ c a d v w, Q (.panic c) (Act.put a d v) w → Q (.panic c) a w) (h : wpSg P l.toArray Q w.drew s f a w.drew) : (Code.region id l.toArray true).wp P Q a w := by
  simp only [sgOk, Bool.and_eq_true] at hk
  obtain ⟨⟨⟨⟨⟨h1, h2⟩, h3⟩, h4⟩, h5⟩, h6⟩ := hk
  refine region_e (Agree w.drew) (sgLoads l.toArray s) (sgPe l.toArray s f) hm (by simp only [h1, h2, h3, Bool.and_self]) hQ ?_
  refine wpE_of_sg s f a w.drew (fun i hi => List.all_eq_true.1 h4 i hi) (fun i hi => ?_) (fun i hi => List.all_eq_true.1 h6 i (mem_sgMids hi)) (fun i hi => ?_) (Agree.refl _) h
  · have := List.all_eq_true.1 h5 i hi
    simp only [Bool.and_eq_true] at this
    exact this.1
  · have := List.all_eq_true.1 h5 i hi
    simp only [Bool.and_eq_true] at this
    exact this.2
theorem sg_rd {w0 w : World} {l : List Nat} {r : List Sg} {f : List Nat} {a : Act} (h : ∀ next : Act → Prop, (∀ a', wpSg P ops Q w0 r f a' w → next a') → wpList P ops (RdP w0 next) (pickO ops l) a w0) : wpSg P ops Q w0 (.rd l :: r) f a w := h _ fun _ h => h
theorem sg_mid {w0 w : World} {i : Nat} {r : List Sg} {f : List Nat} {a : Act} (h : ∀ next : Act → World → Prop, (∀ a' w', wpSg P ops Q w0 r f a' w' → next a' w') → wpList P ops (MidP w0 Q next) (pickO ops [i]) a w) : wpSg P ops Q w0 (.mid i :: r) f a w := h _ fun _ _ h => h
theorem sg_fin {w0 w : World} {f : List Nat} {a : Act} (h : wpList P ops Q (pickO ops f) a w) : wpSg P ops Q w0 [] f a w := h
theorem sg_parG {a : Act} {w : World} {D : List (Nat × List Nat)} {R : List Nat} {r : List Sg} {f : List Nat} {w0 : World} (dl : List (Nat × Option Tmp)) (hdl : D.map (fun p => (p.1, dstOf ops p.1)) = dl) (A : Nat → Prop) (N : Nat → (Nat → Value) → World → (Nat → Prop) → Prop) (PP : Nat → (Nat → Value) → Prop) (F0 : Nat → Nat → Prop)
    (hPP : ∀ j i u v, PP j u → i ≠ j → waits ops j i = false → PP j (updV u i v)) (hNu : ∀ j i u v w F, N j u w F → i ≠ j → waits ops j i = false → N j (updV u i v) w F) (hSt : ∀ j v w w' F, N j v w F → (∀ k, F k → w'.heap[k]? = w.heap[k]?) → N j v w' F) (hS : ∀ w', Ch A w w' → Agree w0 w')
    (h0 : ∀ j ∈ R, ∀ u : Nat → Value, u j = undef → N j u w (F0 j)) (h1 : ∀ j ∈ R, ∀ k, F0 j k → A k ∧ k < w.heap.size) (h2 : ∀ j ∈ R, ∀ j' ∈ R, ∀ k, j ≠ j' → F0 j k → F0 j' k → False) (hP : parS P ops Q dl a w A N PP D)
    (hend : ∀ K : Act → World → Prop, (∀ a' w', Agree w0 w' → wpSg P ops Q w0 r f a' w' → K a' w') → ∀ u w' (F : Nat → Nat → Prop), Ch A w w' → (∀ j j' k, EndAv D R j = true → EndAv D R j' = true → j ≠ j' → F j k → F j' k → False) → (∀ j k, EndAv D R j = true → F j k → (A k ∨ w.heap.size ≤ k) ∧ k < w'.heap.size) → (∀ j, EndAv D R j = true → N j u w' (F j)) → (∀ j ∈ D.map (·.1), PP j u) → K (putL dl a u) w') :
    wpSg P ops Q w0 (.par D R :: r) f a w :=
  ⟨A, N, PP, F0, hPP, hNu, hSt, hS, h0, h1, h2, parP_of_S hdl D hP, fun u w' F e1 e2 e3 e4 e5 => by rw [putAll_putL (u := u), hdl]; exact hend (fun a' w' => Agree w0 w' ∧ wpSg P ops Q w0 r f a' w') (fun _ _ g h => ⟨g, h⟩) u w' F e1 e2 e3 e4 e5⟩
theorem sg_par {a : Act} {w : World} {D : List (Nat × List Nat)} {R : List Nat} {r : List Sg} {f : List Nat} {w0 : World} (dl : List (Nat × Option Tmp)) (hdl : D.map (fun p => (p.1, dstOf ops p.1)) = dl) (A : Nat → Prop) (N : Nat → Value → World → (Nat → Prop) → Prop) (F0 : Nat → Nat → Prop)
    (hSt : ∀ j v w w' F, N j v w F → (∀ k, F k → w'.heap[k]? = w.heap[k]?) → N j v w' F) (hS : ∀ w', Ch A w w' → Agree w0 w')
    (h0 : ∀ j ∈ R, N j undef w (F0 j)) (h1 : ∀ j ∈ R, ∀ k, F0 j k → A k ∧ k < w.heap.size) (h2 : ∀ j ∈ R, ∀ j' ∈ R, ∀ k, j ≠ j' → F0 j k → F0 j' k → False) (hP : parS P ops Q dl a w A (ofVal N) (fun _ _ => True) D)
    (hend : ∀ K : Act → World → Prop, (∀ a' w', Agree w0 w' → wpSg P ops Q w0 r f a' w' → K a' w') → ∀ u w' (F : Nat → Nat → Prop), Ch A w w' → (∀ j j' k, EndAv D R j = true → EndAv D R j' = true → j ≠ j' → F j k → F j' k → False) → (∀ j k, EndAv D R j = true → F j k → (A k ∨ w.heap.size ≤ k) ∧ k < w'.heap.size) → (∀ j, EndAv D R j = true → N j (u j) w' (F j)) → K (putL dl a u) w') :
    wpSg P ops Q w0 (.par D R :: r) f a w :=
  sg_parG dl hdl A (ofVal N) (fun _ _ => True) F0 (fun _ _ _ _ _ _ _ => trivial) (fun j i u v w F h hij _ => by unfold ofVal at h ⊢; simpa [updV, Ne.symm hij] using h) (fun j u w w' F h hm => hSt j (u j) w w' F h hm) hS (fun j hj u hu => by unfold ofVal; rw [hu]; exact h0 j hj) h1 h2 hP fun K hK u w' F e1 e2 e3 e4 _ => hend K hK u w' F e1 e2 e3 e4
end
end Go.Proofs.YtbcemldiahghcaaGreat

namespace Go.Proofs.YtbcemldiahghcaaGreat
set_option linter.unusedVariables false
set_option linter.unusedSimpArgs false
open Go.RowKit
theorem take_eq_snoc {α : Type} {xs ys : List α} {k : Nat} (h : xs.take k = ys.take k) (h0 : k < xs.length) (h1 : k < ys.length) (he : xs[k] = ys[k]) : xs.take (k + 1) = ys.take (k + 1) := by
  rw [List.take_succ_eq_append_getElem h0, List.take_succ_eq_append_getElem h1, h, he]
theorem take_all_eq {α : Type} {xs ys : List α} {k : Nat} (h : xs.take k = ys.take k) (h0 : xs.length ≤ k) (hl : xs.length = ys.length) : xs = ys := by
  rw [List.take_of_length_le h0, List.take_of_length_le (by omega)] at h; exact h
end Go.Proofs.YtbcemldiahghcaaGreat

namespace Go.Proofs.YtbcemldiahghcaaGreat
set_option linter.unusedVariables false
set_option linter.unusedSimpArgs false
set_option maxRecDepth 100000
open Go.RowKit
set_option maxHeartbeats 1000000 in
theorem eqOp_c (x y : OpD) (w : World) : Calls Tryz.prog 158 #[.agg #[.int .i64 x.d, .int .i64 x.a, .int .i64 x.b, .int .i64 x.c, .int .i64 x.e], .agg #[.int .i64 y.d, .int .i64 y.a, .int .i64 y.b, .int .i64 y.c, .int .i64 y.e]] w fun q w' => q = .returned (.bool (decide (x = y))) ∧ Below w.heap.size w w' := by
  have HB := balloc (balloc (Below.refl w.heap.size w) (.cells #[.int .i64 x.d, .int .i64 x.a, .int .i64 x.b, .int .i64 x.c, .int .i64 x.e] 150)) (.cells #[.int .i64 y.d, .int .i64 y.a, .int .i64 y.b, .int .i64 y.c, .int .i64 y.e] 150)
  by_cases h0 : x.d = y.d
  case neg =>
    have e0 : (x.d != y.d) = true := by simpa using h0
    have HF := hid (show decide (x = y) = false from decide_eq_false (fun e => h0 (by rw [e])))
    clear h0
    go_enter Tryz.func158, Tryz.ntmps158
    go_wp2_with fail
    go_ret
    exact ⟨by rw [HF.out]; rfl, HB⟩
  have e0 : (x.d != y.d) = false := by simpa using h0
  by_cases h1 : x.a = y.a
  case neg =>
    have e1 : (x.a != y.a) = true := by simpa using h1
    have HF := hid (show decide (x = y) = false from decide_eq_false (fun e => h1 (by rw [e])))
    clear h0 h1
    go_enter Tryz.func158, Tryz.ntmps158
    go_wp2_with fail
    go_ret
    exact ⟨by rw [HF.out]; rfl, HB⟩
  have e1 : (x.a != y.a) = false := by simpa using h1
  by_cases h2 : x.b = y.b
  case neg =>
    have e2 : (x.b != y.b) = true := by simpa using h2
    have HF := hid (show decide (x = y) = false from decide_eq_false (fun e => h2 (by rw [e])))
    clear h0 h1 h2
    go_enter Tryz.func158, Tryz.ntmps158
    go_wp2_with fail
    go_ret
    exact ⟨by rw [HF.out]; rfl, HB⟩
  have e2 : (x.b != y.b) = false := by simpa using h2
  by_cases h3 : x.c = y.c
  case neg =>
    have e3 : (x.c != y.c) = true := by simpa using h3
    have HF := hid (show decide (x = y) = false from decide_eq_false (fun e => h3 (by rw [e])))
    clear h0 h1 h2 h3
    go_enter Tryz.func158, Tryz.ntmps158
    go_wp2_with fail
    go_ret
    exact ⟨by rw [HF.out]; rfl, HB⟩
  have e3 : (x.c != y.c) = false := by simpa using h3
  by_cases h4 : x.e = y.e
  case neg =>
    have e4 : (x.e != y.e) = true := by simpa using h4
    have HF := hid (show decide (x = y) = false from decide_eq_false (fun e => h4 (by rw [e])))
    clear h0 h1 h2 h3 h4
    go_enter Tryz.func158, Tryz.ntmps158
    go_wp2_with fail
    go_ret
    exact ⟨by rw [HF.out]; rfl, HB⟩
  have e4 : (x.e != y.e) = false := by simpa using h4
  have HF := hid (show decide (x = y) = true from decide_eq_true (by cases x; cases y; simp_all))
  clear h0 h1 h2 h3 h4
  go_enter Tryz.func158, Tryz.ntmps158
  go_wp2_with fail
  go_ret
  exact ⟨by rw [HF.out]; rfl, HB⟩
set_option maxHeartbeats 1000000 in
theorem eqOpS_c (v0 v1 : Value) (xs ys : List OpD) (F : Nat → Prop) (w : World) (h0 : Rd tOp w F v0 xs) (h1 : Rd tOp w F v1 ys) :
    Calls Tryz.prog 150 #[v0, v1] w fun q w' => q = .returned (.bool (decide (xs = ys))) ∧ Below w.heap.size w w' := by
  obtain ⟨A0, c0, rfl, -, l0, -⟩ := id h0
  obtain ⟨A1, c1, rfl, -, l1, -⟩ := id h1
  by_cases hl : xs.length = ys.length
  · have hb : (((xs.length : Nat) : Int) != ((ys.length : Nat) : Int)) = false := by simp [hl]
    have HL := hid hl; clear hl
    go_enter Tryz.func150, Tryz.ntmps150
    go_wp2_with fail
    go_loopw [5] (fun i wr => ∃ k : Nat, i = .int .i64 k ∧ k ≤ xs.length ∧ Hid (xs.take k = ys.take k) ∧ Below w.heap.size w wr) (fun i _ => xs.length - (intOf i).toNat)
    case atStart => exact ⟨0, rfl, Nat.zero_le _, rfl, Below.refl _ _⟩
    case round =>
      obtain ⟨k, rfl, hk, HEQ, hB⟩ := hrel
      by_cases hlt : k < xs.length
      · have hlt2 : k < ys.length := by rw [← HL.out]; exact hlt
        have r0 := h0.below hB
        have r1 := h1.below hB
        obtain ⟨b0, o0, rfl, _, y0, y1, y2, y3, y4⟩ := op_at r0 k hlt
        obtain ⟨b1, o1, rfl, _, z0, z1, z2, z3, z4⟩ := op_at r1 k hlt2
        have p0 : (k : Int) < (xs.length : Int) := by omega
        have p1 : (k : Int) < (ys.length : Int) := by omega
        obtain ⟨t, ht⟩ : ∃ t, decide (xs[k] = ys[k]) = t := ⟨_, rfl⟩
        have HT := hid ht
        clear ht
        go_upto_region 6 with fail
        refine region_sg [.rd [0, 1, 2, 3, 4, 5, 6, 7]] [8, 9] (by kernel_rfl) (by kernel_rfl) (fun _ _ d _ _ h => by cases d <;> exact h) ?_
        refine sg_rd (fun N hN => ?_)
        simp only [pickO, List.getElem?_toArray, List.getElem?_cons_zero, List.getElem?_cons_succ]
        go_wp2_with fail
        refine rd_next (hN _ ?_)
        clear hN N
        refine sg_fin ?_
        simp only [pickO, List.getElem?_toArray, List.getElem?_cons_zero, List.getElem?_cons_succ]
        go_wp2_with fail
        have hd := hB.drew
        refine (eqOp_c xs[k] ys[k] _).mono ?_
        rintro q w1 ⟨rfl, hb1⟩
        have hB1 := bthen hd hb1 hd.size
        rw [HT.out]
        apply_assumption
        cases t
        case false =>
          have HF := hid (show decide (xs = ys) = false from decide_eq_false (fun e => of_decide_eq_false HT.out (by simp [e])))
          go_wp2_with fail
          go_ret
          exact ⟨by rw [HF.out]; rfl, hB1⟩
        case true =>
          have HS := hid (take_eq_snoc HEQ.out hlt hlt2 (of_decide_eq_true HT.out))
          go_wp2_with fail
          go_roundw
          case rel => exact ⟨k + 1, by go_num, by omega, HS, hB1⟩
          case measure => simp [intOf]; omega
      · have HF := hid (show decide (xs = ys) = true from decide_eq_true (take_all_eq HEQ.out (by omega) HL.out))
        go_wp2_with fail
        go_ret
        exact ⟨by rw [HF.out]; rfl, hB⟩
  · have hb : (((xs.length : Nat) : Int) != ((ys.length : Nat) : Int)) = true := by rw [bne_iff_ne]; omega
    have HF := hid (show decide (xs = ys) = false from decide_eq_false (fun h => hl (by simp [h])))
    clear hl
    go_enter Tryz.func150, Tryz.ntmps150
    go_wp2_with fail
    go_ret
    exact ⟨by rw [HF.out]; rfl, Below.refl _ _⟩
set_option maxHeartbeats 1000000 in
theorem eqState_c (x y : StD) (w : World) : Calls Tryz.prog 63 #[.agg #[.int .i64 x.x, .int .i64 x.y, .int .i64 x.c], .agg #[.int .i64 y.x, .int .i64 y.y, .int .i64 y.c]] w fun q w' => q = .returned (.bool (decide (x = y))) ∧ Below w.heap.size w w' := by
  have HB := balloc (balloc (Below.refl w.heap.size w) (.cells #[.int .i64 x.x, .int .i64 x.y, .int .i64 x.c] 49)) (.cells #[.int .i64 y.x, .int .i64 y.y, .int .i64 y.c] 49)
  by_cases h0 : x.x = y.x
  case neg =>
    have e0 : (x.x != y.x) = true := by simpa using h0
    have HF := hid (show decide (x = y) = false from decide_eq_false (fun e => h0 (by rw [e])))
    clear h0
    go_enter Tryz.func63, Tryz.ntmps63
    go_wp2_with fail
    go_ret
    exact ⟨by rw [HF.out]; rfl, HB⟩
  have e0 : (x.x != y.x) = false := by simpa using h0
  by_cases h1 : x.y = y.y
  case neg =>
    have e1 : (x.y != y.y) = true := by simpa using h1
    have HF := hid (show decide (x = y) = false from decide_eq_false (fun e => h1 (by rw [e])))
    clear h0 h1
    go_enter Tryz.func63, Tryz.ntmps63
    go_wp2_with fail
    go_ret
    exact ⟨by rw [HF.out]; rfl, HB⟩
  have e1 : (x.y != y.y) = false := by simpa using h1
  by_cases h2 : x.c = y.c
  case neg =>
    have e2 : (x.c != y.c) = true := by simpa using h2
    have HF := hid (show decide (x = y) = false from decide_eq_false (fun e => h2 (by rw [e])))
    clear h0 h1 h2
    go_enter Tryz.func63, Tryz.ntmps63
    go_wp2_with fail
    go_ret
    exact ⟨by rw [HF.out]; rfl, HB⟩
  have e2 : (x.c != y.c) = false := by simpa using h2
  have HF := hid (show decide (x = y) = true from decide_eq_true (by cases x; cases y; simp_all))
  clear h0 h1 h2
  go_enter Tryz.func63, Tryz.ntmps63
  go_wp2_with fail
  go_ret
  exact ⟨by rw [HF.out]; rfl, HB⟩
set_option maxHeartbeats 1000000 in
theorem eqEvent_c (x y : EvD) (w : World) : Calls Tryz.prog 66 #[.agg #[.int .i64 x.time, .int .i64 x.to, .int .i64 x.from_, .int .i64 x.count, .int .i64 x.n, .int .i64 x.kind, .int .i64 x.arg], .agg #[.int .i64 y.time, .int .i64 y.to, .int .i64 y.from_, .int .i64 y.count, .int .i64 y.n, .int .i64 y.kind, .int .i64 y.arg]] w fun q w' => q = .returned (.bool (decide (x = y))) ∧ Below w.heap.size w w' := by
  have HB := balloc (balloc (Below.refl w.heap.size w) (.cells #[.int .i64 x.time, .int .i64 x.to, .int .i64 x.from_, .int .i64 x.count, .int .i64 x.n, .int .i64 x.kind, .int .i64 x.arg] 80)) (.cells #[.int .i64 y.time, .int .i64 y.to, .int .i64 y.from_, .int .i64 y.count, .int .i64 y.n, .int .i64 y.kind, .int .i64 y.arg] 80)
  by_cases h0 : x.time = y.time
  case neg =>
    have e0 : (x.time != y.time) = true := by simpa using h0
    have HF := hid (show decide (x = y) = false from decide_eq_false (fun e => h0 (by rw [e])))
    clear h0
    go_enter Tryz.func66, Tryz.ntmps66
    go_wp2_with fail
    go_ret
    exact ⟨by rw [HF.out]; rfl, HB⟩
  have e0 : (x.time != y.time) = false := by simpa using h0
  by_cases h1 : x.to = y.to
  case neg =>
    have e1 : (x.to != y.to) = true := by simpa using h1
    have HF := hid (show decide (x = y) = false from decide_eq_false (fun e => h1 (by rw [e])))
    clear h0 h1
    go_enter Tryz.func66, Tryz.ntmps66
    go_wp2_with fail
    go_ret
    exact ⟨by rw [HF.out]; rfl, HB⟩
  have e1 : (x.to != y.to) = false := by simpa using h1
  by_cases h2 : x.from_ = y.from_
  case neg =>
    have e2 : (x.from_ != y.from_) = true := by simpa using h2
    have HF := hid (show decide (x = y) = false from decide_eq_false (fun e => h2 (by rw [e])))
    clear h0 h1 h2
    go_enter Tryz.func66, Tryz.ntmps66
    go_wp2_with fail
    go_ret
    exact ⟨by rw [HF.out]; rfl, HB⟩
  have e2 : (x.from_ != y.from_) = false := by simpa using h2
  by_cases h3 : x.count = y.count
  case neg =>
    have e3 : (x.count != y.count) = true := by simpa using h3
    have HF := hid (show decide (x = y) = false from decide_eq_false (fun e => h3 (by rw [e])))
    clear h0 h1 h2 h3
    go_enter Tryz.func66, Tryz.ntmps66
    go_wp2_with fail
    go_ret
    exact ⟨by rw [HF.out]; rfl, HB⟩
  have e3 : (x.count != y.count) = false := by simpa using h3
  by_cases h4 : x.n = y.n
  case neg =>
    have e4 : (x.n != y.n) = true := by simpa using h4
    have HF := hid (show decide (x = y) = false from decide_eq_false (fun e => h4 (by rw [e])))
    clear h0 h1 h2 h3 h4
    go_enter Tryz.func66, Tryz.ntmps66
    go_wp2_with fail
    go_ret
    exact ⟨by rw [HF.out]; rfl, HB⟩
  have e4 : (x.n != y.n) = false := by simpa using h4
  by_cases h5 : x.kind = y.kind
  case neg =>
    have e5 : (x.kind != y.kind) = true := by simpa using h5
    have HF := hid (show decide (x = y) = false from decide_eq_false (fun e => h5 (by rw [e])))
    clear h0 h1 h2 h3 h4 h5
    go_enter Tryz.func66, Tryz.ntmps66
    go_wp2_with fail
    go_ret
    exact ⟨by rw [HF.out]; rfl, HB⟩
  have e5 : (x.kind != y.kind) = false := by simpa using h5
  by_cases h6 : x.arg = y.arg
  case neg =>
    have e6 : (x.arg != y.arg) = true := by simpa using h6
    have HF := hid (show decide (x = y) = false from decide_eq_false (fun e => h6 (by rw [e])))
    clear h0 h1 h2 h3 h4 h5 h6
    go_enter Tryz.func66, Tryz.ntmps66
    go_wp2_with fail
    go_ret
    exact ⟨by rw [HF.out]; rfl, HB⟩
  have e6 : (x.arg != y.arg) = false := by simpa using h6
  have HF := hid (show decide (x = y) = true from decide_eq_true (by cases x; cases y; simp_all))
  clear h0 h1 h2 h3 h4 h5 h6
  go_enter Tryz.func66, Tryz.ntmps66
  go_wp2_with fail
  go_ret
  exact ⟨by rw [HF.out]; rfl, HB⟩
set_option maxHeartbeats 1000000 in
theorem eqOut_c (x y : OutD) (w : World) : Calls Tryz.prog 88 #[.agg #[.int .i64 x.time, .int .i64 x.proc, .int .i64 x.count, .int .i64 x.n, .int .i64 x.value], .agg #[.int .i64 y.time, .int .i64 y.proc, .int .i64 y.count, .int .i64 y.n, .int .i64 y.value]] w fun q w' => q = .returned (.bool (decide (x = y))) ∧ Below w.heap.size w w' := by
  have HB := balloc (balloc (Below.refl w.heap.size w) (.cells #[.int .i64 x.time, .int .i64 x.proc, .int .i64 x.count, .int .i64 x.n, .int .i64 x.value] 128)) (.cells #[.int .i64 y.time, .int .i64 y.proc, .int .i64 y.count, .int .i64 y.n, .int .i64 y.value] 128)
  by_cases h0 : x.time = y.time
  case neg =>
    have e0 : (x.time != y.time) = true := by simpa using h0
    have HF := hid (show decide (x = y) = false from decide_eq_false (fun e => h0 (by rw [e])))
    clear h0
    go_enter Tryz.func88, Tryz.ntmps88
    go_wp2_with fail
    go_ret
    exact ⟨by rw [HF.out]; rfl, HB⟩
  have e0 : (x.time != y.time) = false := by simpa using h0
  by_cases h1 : x.proc = y.proc
  case neg =>
    have e1 : (x.proc != y.proc) = true := by simpa using h1
    have HF := hid (show decide (x = y) = false from decide_eq_false (fun e => h1 (by rw [e])))
    clear h0 h1
    go_enter Tryz.func88, Tryz.ntmps88
    go_wp2_with fail
    go_ret
    exact ⟨by rw [HF.out]; rfl, HB⟩
  have e1 : (x.proc != y.proc) = false := by simpa using h1
  by_cases h2 : x.count = y.count
  case neg =>
    have e2 : (x.count != y.count) = true := by simpa using h2
    have HF := hid (show decide (x = y) = false from decide_eq_false (fun e => h2 (by rw [e])))
    clear h0 h1 h2
    go_enter Tryz.func88, Tryz.ntmps88
    go_wp2_with fail
    go_ret
    exact ⟨by rw [HF.out]; rfl, HB⟩
  have e2 : (x.count != y.count) = false := by simpa using h2
  by_cases h3 : x.n = y.n
  case neg =>
    have e3 : (x.n != y.n) = true := by simpa using h3
    have HF := hid (show decide (x = y) = false from decide_eq_false (fun e => h3 (by rw [e])))
    clear h0 h1 h2 h3
    go_enter Tryz.func88, Tryz.ntmps88
    go_wp2_with fail
    go_ret
    exact ⟨by rw [HF.out]; rfl, HB⟩
  have e3 : (x.n != y.n) = false := by simpa using h3
  by_cases h4 : x.value = y.value
  case neg =>
    have e4 : (x.value != y.value) = true := by simpa using h4
    have HF := hid (show decide (x = y) = false from decide_eq_false (fun e => h4 (by rw [e])))
    clear h0 h1 h2 h3 h4
    go_enter Tryz.func88, Tryz.ntmps88
    go_wp2_with fail
    go_ret
    exact ⟨by rw [HF.out]; rfl, HB⟩
  have e4 : (x.value != y.value) = false := by simpa using h4
  have HF := hid (show decide (x = y) = true from decide_eq_true (by cases x; cases y; simp_all))
  clear h0 h1 h2 h3 h4
  go_enter Tryz.func88, Tryz.ntmps88
  go_wp2_with fail
  go_ret
  exact ⟨by rw [HF.out]; rfl, HB⟩
set_option maxHeartbeats 1000000 in
theorem eqEventS_c (v0 v1 : Value) (xs ys : List EvD) (F : Nat → Prop) (w : World) (h0 : Rd tEv w F v0 xs) (h1 : Rd tEv w F v1 ys) :
    Calls Tryz.prog 25 #[v0, v1] w fun q w' => q = .returned (.bool (decide (xs = ys))) ∧ Below w.heap.size w w' := by
  obtain ⟨A0, c0, rfl, -, l0, -⟩ := id h0
  obtain ⟨A1, c1, rfl, -, l1, -⟩ := id h1
  by_cases hl : xs.length = ys.length
  · have hb : (((xs.length : Nat) : Int) != ((ys.length : Nat) : Int)) = false := by simp [hl]
    have HL := hid hl; clear hl
    go_enter Tryz.func25, Tryz.ntmps25
    go_wp2_with fail
    go_loopw [5] (fun i wr => ∃ k : Nat, i = .int .i64 k ∧ k ≤ xs.length ∧ Hid (xs.take k = ys.take k) ∧ Below w.heap.size w wr) (fun i _ => xs.length - (intOf i).toNat)
    case atStart => exact ⟨0, rfl, Nat.zero_le _, rfl, Below.refl _ _⟩
    case round =>
      obtain ⟨k, rfl, hk, HEQ, hB⟩ := hrel
      by_cases hlt : k < xs.length
      · have hlt2 : k < ys.length := by rw [← HL.out]; exact hlt
        have r0 := h0.below hB
        have r1 := h1.below hB
        obtain ⟨b0, o0, rfl, _, y0, y1, y2, y3, y4, y5, y6⟩ := ev_at r0 k hlt
        obtain ⟨b1, o1, rfl, _, z0, z1, z2, z3, z4, z5, z6⟩ := ev_at r1 k hlt2
        have p0 : (k : Int) < (xs.length : Int) := by omega
        have p1 : (k : Int) < (ys.length : Int) := by omega
        obtain ⟨t, ht⟩ : ∃ t, decide (xs[k] = ys[k]) = t := ⟨_, rfl⟩
        have HT := hid ht
        clear ht
        go_upto_region 6 with fail
        refine region_sg [.rd [0, 1, 2, 3, 4, 5, 6, 7]] [8, 9] (by kernel_rfl) (by kernel_rfl) (fun _ _ d _ _ h => by cases d <;> exact h) ?_
        refine sg_rd (fun N hN => ?_)
        simp only [pickO, List.getElem?_toArray, List.getElem?_cons_zero, List.getElem?_cons_succ]
        go_wp2_with fail
        refine rd_next (hN _ ?_)
        clear hN N
        refine sg_fin ?_
        simp only [pickO, List.getElem?_toArray, List.getElem?_cons_zero, List.getElem?_cons_succ]
        go_wp2_with fail
        have hd := hB.drew
        refine (eqEvent_c xs[k] ys[k] _).mono ?_
        rintro q w1 ⟨rfl, hb1⟩
        have hB1 := bthen hd hb1 hd.size
        rw [HT.out]
        apply_assumption
        cases t
        case false =>
          have HF := hid (show decide (xs = ys) = false from decide_eq_false (fun e => of_decide_eq_false HT.out (by simp [e])))
          go_wp2_with fail
          go_ret
          exact ⟨by rw [HF.out]; rfl, hB1⟩
        case true =>
          have HS := hid (take_eq_snoc HEQ.out hlt hlt2 (of_decide_eq_true HT.out))
          go_wp2_with fail
          go_roundw
          case rel => exact ⟨k + 1, by go_num, by omega, HS, hB1⟩
          case measure => simp [intOf]; omega
      · have HF := hid (show decide (xs = ys) = true from decide_eq_true (take_all_eq HEQ.out (by omega) HL.out))
        go_wp2_with fail
        go_ret
        exact ⟨by rw [HF.out]; rfl, hB⟩
  · have hb : (((xs.length : Nat) : Int) != ((ys.length : Nat) : Int)) = true := by rw [bne_iff_ne]; omega
    have HF := hid (show decide (xs = ys) = false from decide_eq_false (fun h => hl (by simp [h])))
    clear hl
    go_enter Tryz.func25, Tryz.ntmps25
    go_wp2_with fail
    go_ret
    exact ⟨by rw [HF.out]; rfl, Below.refl _ _⟩
set_option maxHeartbeats 1000000 in
theorem eqOutS_c (v0 v1 : Value) (xs ys : List OutD) (F : Nat → Prop) (w : World) (h0 : Rd tOut w F v0 xs) (h1 : Rd tOut w F v1 ys) :
    Calls Tryz.prog 40 #[v0, v1] w fun q w' => q = .returned (.bool (decide (xs = ys))) ∧ Below w.heap.size w w' := by
  obtain ⟨A0, c0, rfl, -, l0, -⟩ := id h0
  obtain ⟨A1, c1, rfl, -, l1, -⟩ := id h1
  by_cases hl : xs.length = ys.length
  · have hb : (((xs.length : Nat) : Int) != ((ys.length : Nat) : Int)) = false := by simp [hl]
    have HL := hid hl; clear hl
    go_enter Tryz.func40, Tryz.ntmps40
    go_wp2_with fail
    go_loopw [5] (fun i wr => ∃ k : Nat, i = .int .i64 k ∧ k ≤ xs.length ∧ Hid (xs.take k = ys.take k) ∧ Below w.heap.size w wr) (fun i _ => xs.length - (intOf i).toNat)
    case atStart => exact ⟨0, rfl, Nat.zero_le _, rfl, Below.refl _ _⟩
    case round =>
      obtain ⟨k, rfl, hk, HEQ, hB⟩ := hrel
      by_cases hlt : k < xs.length
      · have hlt2 : k < ys.length := by rw [← HL.out]; exact hlt
        have r0 := h0.below hB
        have r1 := h1.below hB
        obtain ⟨b0, o0, rfl, _, y0, y1, y2, y3, y4⟩ := out_at r0 k hlt
        obtain ⟨b1, o1, rfl, _, z0, z1, z2, z3, z4⟩ := out_at r1 k hlt2
        have p0 : (k : Int) < (xs.length : Int) := by omega
        have p1 : (k : Int) < (ys.length : Int) := by omega
        obtain ⟨t, ht⟩ : ∃ t, decide (xs[k] = ys[k]) = t := ⟨_, rfl⟩
        have HT := hid ht
        clear ht
        go_upto_region 6 with fail
        refine region_sg [.rd [0, 1, 2, 3, 4, 5, 6, 7]] [8, 9] (by kernel_rfl) (by kernel_rfl) (fun _ _ d _ _ h => by cases d <;> exact h) ?_
        refine sg_rd (fun N hN => ?_)
        simp only [pickO, List.getElem?_toArray, List.getElem?_cons_zero, List.getElem?_cons_succ]
        go_wp2_with fail
        refine rd_next (hN _ ?_)
        clear hN N
        refine sg_fin ?_
        simp only [pickO, List.getElem?_toArray, List.getElem?_cons_zero, List.getElem?_cons_succ]
        go_wp2_with fail
        have hd := hB.drew
        refine (eqOut_c xs[k] ys[k] _).mono ?_
        rintro q w1 ⟨rfl, hb1⟩
        have hB1 := bthen hd hb1 hd.size
        rw [HT.out]
        apply_assumption
        cases t
        case false =>
          have HF := hid (show decide (xs = ys) = false from decide_eq_false (fun e => of_decide_eq_false HT.out (by simp [e])))
          go_wp2_with fail
          go_ret
          exact ⟨by rw [HF.out]; rfl, hB1⟩
        case true =>
          have HS := hid (take_eq_snoc HEQ.out hlt hlt2 (of_decide_eq_true HT.out))
          go_wp2_with fail
          go_roundw
          case rel => exact ⟨k + 1, by go_num, by omega, HS, hB1⟩
          case measure => simp [intOf]; omega
      · have HF := hid (show decide (xs = ys) = true from decide_eq_true (take_all_eq HEQ.out (by omega) HL.out))
        go_wp2_with fail
        go_ret
        exact ⟨by rw [HF.out]; rfl, hB⟩
  · have hb : (((xs.length : Nat) : Int) != ((ys.length : Nat) : Int)) = true := by rw [bne_iff_ne]; omega
    have HF := hid (show decide (xs = ys) = false from decide_eq_false (fun h => hl (by simp [h])))
    clear hl
    go_enter Tryz.func40, Tryz.ntmps40
    go_wp2_with fail
    go_ret
    exact ⟨by rw [HF.out]; rfl, Below.refl _ _⟩
set_option maxHeartbeats 1000000 in
theorem eqRule_c (x y : RuleD) (v0 v1 : Value) (F : Nat → Prop) (w : World) (h0 : Rd tOp w F v0 x.ops) (h1 : Rd tOp w F v1 y.ops) : Calls Tryz.prog 117 #[.agg #[.int .i64 x.kind, v0], .agg #[.int .i64 y.kind, v1]] w fun q w' => q = .returned (.bool (decide (x = y))) ∧ Below w.heap.size w w' := by
  obtain ⟨A0, c0, rfl, -⟩ := h0.shape
  obtain ⟨A1, c1, rfl, -⟩ := h1.shape
  have HB := balloc (balloc (Below.refl w.heap.size w) (.cells #[.int .i64 x.kind, .slice A0 x.ops.length c0] 120)) (.cells #[.int .i64 y.kind, .slice A1 y.ops.length c1] 120)
  by_cases k0 : x.kind = y.kind
  case neg =>
    have e0 : (x.kind != y.kind) = true := by simpa using k0
    have HF := hid (show decide (x = y) = false from decide_eq_false (fun e => k0 (by rw [e])))
    clear k0
    go_enter Tryz.func117, Tryz.ntmps117
    go_wp2_with fail
    go_ret
    exact ⟨by rw [HF.out]; rfl, HB⟩
  have e0 : (x.kind != y.kind) = false := by simpa using k0
  obtain ⟨t, ht⟩ : ∃ t, decide (x.ops = y.ops) = t := ⟨_, rfl⟩
  have HT := hid (show decide (x = y) = t by
    rw [← ht, decide_eq_decide]
    constructor
    · intro e; rw [e]
    · intro e; cases x; cases y; simp_all)
  clear k0
  go_enter Tryz.func117, Tryz.ntmps117
  go_wp2_with fail
  refine (eqOpS_c _ _ x.ops y.ops _ _ (h0.below HB) (h1.below HB)).mono ?_
  rintro q w1 ⟨rfl, hb1⟩
  have hB1 := bthen' HB hb1
  rw [ht]
  have HT' := hid ht
  clear ht
  apply_assumption
  cases t
  case false =>
    go_wp2_with fail
    go_ret
    exact ⟨by rw [HT.out]; rfl, hB1⟩
  case true =>
    go_wp2_with fail
    go_ret
    exact ⟨by rw [HT.out]; rfl, hB1⟩
set_option maxHeartbeats 1000000 in
theorem eqRuleS_c (v0 v1 : Value) (xs ys : List RuleD) (F : Nat → Prop) (w : World) (h0 : Rd tRule w F v0 xs) (h1 : Rd tRule w F v1 ys) :
    Calls Tryz.prog 65 #[v0, v1] w fun q w' => q = .returned (.bool (decide (xs = ys))) ∧ Below w.heap.size w w' := by
  obtain ⟨A0, c0, rfl, -, l0, -⟩ := id h0
  obtain ⟨A1, c1, rfl, -, l1, -⟩ := id h1
  by_cases hl : xs.length = ys.length
  · have hb : (((xs.length : Nat) : Int) != ((ys.length : Nat) : Int)) = false := by simp [hl]
    have HL := hid hl; clear hl
    go_enter Tryz.func65, Tryz.ntmps65
    go_wp2_with fail
    go_loopw [5] (fun i wr => ∃ k : Nat, i = .int .i64 k ∧ k ≤ xs.length ∧ Hid (xs.take k = ys.take k) ∧ Below w.heap.size w wr) (fun i _ => xs.length - (intOf i).toNat)
    case atStart => exact ⟨0, rfl, Nat.zero_le _, rfl, Below.refl _ _⟩
    case round =>
      obtain ⟨k, rfl, hk, HEQ, hB⟩ := hrel
      by_cases hlt : k < xs.length
      · have hlt2 : k < ys.length := by rw [← HL.out]; exact hlt
        have r0 := h0.below hB
        have r1 := h1.below hB
        obtain ⟨b0, o0, B0, d0, rfl, _, y0, y1, s0⟩ := rule_at r0 k hlt
        obtain ⟨b1, o1, B1, d1, rfl, _, z0, z1, s1⟩ := rule_at r1 k hlt2
        have p0 : (k : Int) < (xs.length : Int) := by omega
        have p1 : (k : Int) < (ys.length : Int) := by omega
        obtain ⟨t, ht⟩ : ∃ t, decide (xs[k] = ys[k]) = t := ⟨_, rfl⟩
        have HT := hid ht
        clear ht
        go_upto_region 6 with fail
        refine region_sg [.rd [0, 1, 2, 3, 4, 5, 6, 7]] [8, 9] (by kernel_rfl) (by kernel_rfl) (fun _ _ d _ _ h => by cases d <;> exact h) ?_
        refine sg_rd (fun N hN => ?_)
        simp only [pickO, List.getElem?_toArray, List.getElem?_cons_zero, List.getElem?_cons_succ]
        go_wp2_with fail
        refine rd_next (hN _ ?_)
        clear hN N
        refine sg_fin ?_
        simp only [pickO, List.getElem?_toArray, List.getElem?_cons_zero, List.getElem?_cons_succ]
        go_wp2_with fail
        have hd := hB.drew
        refine (eqRule_c xs[k] ys[k] _ _ _ _ (s0.below (Below.refl wr.heap.size wr).drew) (s1.below (Below.refl wr.heap.size wr).drew)).mono ?_
        rintro q w1 ⟨rfl, hb1⟩
        have hB1 := bthen hd hb1 hd.size
        rw [HT.out]
        apply_assumption
        cases t
        case false =>
          have HF := hid (show decide (xs = ys) = false from decide_eq_false (fun e => of_decide_eq_false HT.out (by simp [e])))
          go_wp2_with fail
          go_ret
          exact ⟨by rw [HF.out]; rfl, hB1⟩
        case true =>
          have HS := hid (take_eq_snoc HEQ.out hlt hlt2 (of_decide_eq_true HT.out))
          go_wp2_with fail
          go_roundw
          case rel => exact ⟨k + 1, by go_num, by omega, HS, hB1⟩
          case measure => simp [intOf]; omega
      · have HF := hid (show decide (xs = ys) = true from decide_eq_true (take_all_eq HEQ.out (by omega) HL.out))
        go_wp2_with fail
        go_ret
        exact ⟨by rw [HF.out]; rfl, hB⟩
  · have hb : (((xs.length : Nat) : Int) != ((ys.length : Nat) : Int)) = true := by rw [bne_iff_ne]; omega
    have HF := hid (show decide (xs = ys) = false from decide_eq_false (fun h => hl (by simp [h])))
    clear hl
    go_enter Tryz.func65, Tryz.ntmps65
    go_wp2_with fail
    go_ret
    exact ⟨by rw [HF.out]; rfl, Below.refl _ _⟩
set_option maxHeartbeats 1000000 in
theorem eqApp_c (x y : AppD) (v0 v1 : Value) (F : Nat → Prop) (w : World) (h0 : Rd tRule w F v0 x.rules) (h1 : Rd tRule w F v1 y.rules) : Calls Tryz.prog 24 #[.agg #[v0], .agg #[v1]] w fun q w' => q = .returned (.bool (decide (x = y))) ∧ Below w.heap.size w w' := by
  obtain ⟨A0, c0, rfl, -⟩ := h0.shape
  obtain ⟨A1, c1, rfl, -⟩ := h1.shape
  have HB := balloc (balloc (Below.refl w.heap.size w) (.cells #[.slice A0 x.rules.length c0] 57)) (.cells #[.slice A1 y.rules.length c1] 57)
  obtain ⟨t, ht⟩ : ∃ t, decide (x.rules = y.rules) = t := ⟨_, rfl⟩
  have HT := hid (show decide (x = y) = t by
    rw [← ht, decide_eq_decide]
    constructor
    · intro e; rw [e]
    · intro e; cases x; cases y; simp_all)
  go_enter Tryz.func24, Tryz.ntmps24
  go_wp2_with fail
  refine (eqRuleS_c _ _ x.rules y.rules _ _ (h0.below HB) (h1.below HB)).mono ?_
  rintro q w1 ⟨rfl, hb1⟩
  have hB1 := bthen' HB hb1
  rw [ht]
  have HT' := hid ht
  clear ht
  apply_assumption
  cases t
  case false =>
    go_wp2_with fail
    go_ret
    exact ⟨by rw [HT.out]; rfl, hB1⟩
  case true =>
    go_wp2_with fail
    go_ret
    exact ⟨by rw [HT.out]; rfl, hB1⟩
end Go.Proofs.YtbcemldiahghcaaGreat
