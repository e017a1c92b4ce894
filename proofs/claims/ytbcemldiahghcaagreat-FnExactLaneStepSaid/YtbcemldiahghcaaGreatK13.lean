/- Texts joined: Seg, Cmp, Cmp2. -/
import Derived.Test.YtbcemldiahghcaaGreatK12
import Derived.Test.YtbcemldiahghcaaGreatK05
import Derived.Test.YtbcemldiahghcaaGreatK09
import Derived.Test.YtbcemldiahghcaaGreatK08
namespace Go.Proofs.YtbcemldiahghcaaGreat
set_option linter.unusedVariables false
set_option linter.unusedSimpArgs false
set_option linter.unusedSectionVars false
open Go.RowKit
section
variable {P : Program} {ops : Array Oper} {Q : Exit → Act → World → Prop} {L : List Nat}
theorem valB {s : Sem Value} (hs : StillS P s) : StillS P (do Pure.pure (Go.Next.value (← s)) : Sem Go.Next) ∧ ∀ w n w2, (do Pure.pure (Go.Next.value (← s)) : Sem Go.Next).run P w = .ok n w2 → ∃ v, n = .value v :=
  ⟨hs.bind fun _ => StillS.pure _, fun w n w2 h => by
    rw [Sem.run_bind] at h
    cases hr : s.run P w with
    | halt x w1 => rw [hr] at h; cases h
    | ok a w1 =>
      rw [hr] at h
      simp only [Result.andThen_ok, Sem.run_pure, Result.ok.injEq] at h
      exact ⟨a, h.1.symm⟩⟩
theorem valP (v : Value) : StillS P (Pure.pure (Go.Next.value v) : Sem Go.Next) ∧ ∀ w n w2, (Pure.pure (Go.Next.value v) : Sem Go.Next).run P w = .ok n w2 → ∃ v, n = .value v :=
  ⟨StillS.pure _, fun w n w2 h => by simp only [Sem.run_pure, Result.ok.injEq] at h; exact ⟨v, h.1.symm⟩⟩
theorem readOp_good {o : Oper} (h : readOp P o = true) (ev : Operand → Value) : StillS P (execOp ev o) ∧ ∀ w n w2, (execOp ev o).run P w = .ok n w2 → ∃ v, n = .value v := by
  obtain ⟨dst, op, type, pos, after, guard⟩ := o
  cases op <;> first | (exfalso; simp [readOp] at h; done) | skip
  case move x => exact valP _
  case assign x => exact valP _
  case pick c a b =>
    refine ⟨(StillS.asBool _).bind fun _ => StillS.pure _, fun w n w2 h => ?_⟩
    have h : ((asBool (ev c)) >>= fun b' => Pure.pure (Go.Next.value (if b' = true then ev a else ev b))).run P w = .ok n w2 := h
    rw [Sem.run_bind] at h
    cases hr : (asBool (ev c)).run P w with
    | halt x w1 => rw [hr] at h; cases h
    | ok a w1 =>
      rw [hr] at h
      simp only [Result.andThen_ok, Sem.run_pure, Result.ok.injEq] at h
      exact ⟨_, h.1.symm⟩
  case load t a => exact valB (StillS.loadAt _ _)
  case nilCheck x =>
    unfold execOp
    dsimp only
    split
    · exact ⟨StillS.nilDeref, fun w n w2 h => by unfold runtimePanic at h; cases h⟩
    · exact ⟨StillS.nilDeref, fun w n w2 h => by unfold runtimePanic at h; cases h⟩
    · exact ⟨StillS.nilDeref, fun w n w2 h => by unfold runtimePanic at h; cases h⟩
    · split
      · exact ⟨StillS.nilDeref, fun w n w2 h => by unfold runtimePanic at h; cases h⟩
      · refine ⟨StillS.program.bind fun p => (StillS.nilAhead _ _ _ _).bind fun b => ?_, fun w n w2 h => ?_⟩
        · split
          · exact StillS.unsupported _
          · exact StillS.pure _
        · rw [Sem.run_bind, run_program] at h
          simp only [Result.andThen_ok] at h
          rw [Sem.run_bind] at h
          unfold Result.andThen at h
          split at h
          · dsimp only at h
            split at h
            · cases h
            · simp only [Sem.run_pure, Result.ok.injEq] at h
              exact ⟨_, h.1.symm⟩
          · cases h
      · exact valP _
    · exact valP _
  case binOp op t x y u =>
    have hb : basicT P t = true ∧ op ∈ [BinOp.lss, .leq, .gtr, .geq, .add, .sub, .eql, .neq] := by
      cases op <;> simp [readOp] at h <;> exact ⟨h, by simp⟩
    exact valB ((StillS.eqGuard hb.1 _ _ _ _ _).bind fun _ => StillS.binOpI hb.1 hb.2 _ _)
  case unOp op t x => exact valB (StillS.unary _ _)
  case slice t x lo hi mx => exact valB (StillS.sliceAt _ _ _ _ _)
  case fieldAddr t x f => exact valB (StillS.fieldAt h _)
  case field t x f => exact valB (StillS.field _ _ _)
  case indexAddr t x i => exact valB (StillS.indexAt _ _ _)
  case index t x i => exact valB (StillS.index _ _ _)
  case extract t i => exact valB (StillS.extract _ _)
  case call c =>
    obtain ⟨callee, args, tys⟩ := c
    cases callee with
    | value f => simp [readOp] at h
    | invoke r m => simp [readOp] at h
    | builtin b =>
      cases b <;> first | (exfalso; simp [readOp] at h; done) | skip
      case len => exact valB (StillS.len _ _ _)
      case cap => exact valB (StillS.cap _ _ _)
def pickO (ops : Array Oper) : List Nat → List Oper
  | [] => []
  | i :: r => match ops[i]? with | some o => o :: pickO ops r | none => pickO ops r
inductive Sg where
  | rd (l : List Nat)
  | mid (i : Nat)
  | par (D : List (Nat × List Nat)) (R : List Nat)
/-- What hangs on no memory. -/
def isMv (ops : Array Oper) (i : Nat) : Bool := match ops[i]? with | some o => (match o.op with | .move _ => true | .assign _ => true | _ => false) | none => false
def takesPe (ops : Array Oper) : List Nat → Pe → Pe
  | [], p => p
  | i :: l, p => if isMv ops i = true then .pure i (takesPe ops l p) else .take i (takesPe ops l p)
def onesPe : List Nat → Pe
  | [] => .nil
  | i :: f => .one i (onesPe f)
def sgPe (ops : Array Oper) : List Sg → List Nat → Pe
  | [], f => onesPe f
  | .rd l :: r, f => takesPe ops l (sgPe ops r f)
  | .mid i :: r, f => .one i (sgPe ops r f)
  | .par D R :: r, f => .par D R (sgPe ops r f)
def sgReads : List Sg → List Nat
  | [] => []
  | .rd l :: r => l ++ sgReads r
  | .mid _ :: r => sgReads r
  | .par _ _ :: r => sgReads r
def sgLoads (ops : Array Oper) (s : List Sg) : List Nat := (sgReads s).filter fun i => !isMv ops i
/-- Behind what is read. -/
def RdP (w0 : World) (next : Act → Prop) : Exit → Act → World → Prop := fun e a w => e = .normal ∧ w.heap.size = w0.heap.size ∧ w.drawn = w0.drawn ∧ next a
/-- Behind an operation that is not read and is not the last one. -/
def MidP (w0 : World) (Q : Exit → Act → World → Prop) (next : Act → World → Prop) : Exit → Act → World → Prop := fun e a w => match e with | .normal => Agree w0 w ∧ next a w | e => Q e a w
/-- Operations side by side: each shown by itself. -/
def ParAt (P : Program) (ops : Array Oper) (Q : Exit → Act → World → Prop) (S : World → Prop) (D : List (Nat × List Nat)) (R : List Nat) (next : Act → World → Prop) (a : Act) (w : World) : Prop :=
  ∃ (A : Nat → Prop) (N : Nat → (Nat → Value) → World → (Nat → Prop) → Prop) (PP : Nat → (Nat → Value) → Prop) (F0 : Nat → Nat → Prop), (∀ j i u v, PP j u → i ≠ j → waits ops j i = false → PP j (updV u i v)) ∧ (∀ j i u v w F, N j u w F → i ≠ j → waits ops j i = false → N j (updV u i v) w F) ∧ (∀ j v w w' F, N j v w F → (∀ k, F k → w'.heap[k]? = w.heap[k]?) → N j v w' F) ∧ (∀ w', Ch A w w' → S w') ∧
      (∀ j ∈ R, ∀ u : Nat → Value, u j = undef → N j u w (F0 j)) ∧ (∀ j ∈ R, ∀ k, F0 j k → A k ∧ k < w.heap.size) ∧ (∀ j ∈ R, ∀ j' ∈ R, ∀ k, j ≠ j' → F0 j k → F0 j' k → False) ∧ parP P ops Q (D.map (·.1)) a w A N PP D ∧
      ∀ u w' (F : Nat → Nat → Prop), Ch A w w' → (∀ j j' k, EndAv D R j = true → EndAv D R j' = true → j ≠ j' → F j k → F j' k → False) → (∀ j k, EndAv D R j = true → F j k → (A k ∨ w.heap.size ≤ k) ∧ k < w'.heap.size) → (∀ j, EndAv D R j = true → N j u w' (F j)) → (∀ j ∈ D.map (·.1), PP j u) → next (putAll ops (D.map (·.1)) a u) w'
def wpSg (P : Program) (ops : Array Oper) (Q : Exit → Act → World → Prop) (w0 : World) : List Sg → List Nat → Act → World → Prop
  | [], f, a, w => wpList P ops Q (pickO ops f) a w
  | .rd l :: r, f, a, w => wpList P ops (RdP w0 fun a' => wpSg P ops Q w0 r f a' w) (pickO ops l) a w0
  | .mid i :: r, f, a, w => wpList P ops (MidP w0 Q fun a' w' => wpSg P ops Q w0 r f a' w') (pickO ops [i]) a w
  | .par D R :: r, f, a, w => ParAt P ops Q (Agree w0) D R (fun a' w' => Agree w0 w' ∧ wpSg P ops Q w0 r f a' w') a w
theorem rd_next {w0 : World} {next : Act → Prop} {a : Act} (h : next a) : RdP w0 next .normal a w0 := ⟨rfl, rfl, rfl, h⟩
theorem mid_next {w0 w : World} {next : Act → World → Prop} {a : Act} (hw : Agree w0 w) (h : next a w) : MidP w0 Q next .normal a w := ⟨hw, h⟩
def isRead (P : Program) (ops : Array Oper) (i : Nat) : Bool := match ops[i]? with | some o => readOp P o | none => false
theorem rd_mono {w0 : World} {next : Act → Prop} : ∀ (l : List Oper) (a : Act) (w : World), (∀ o ∈ l, readOp P o = true) → wpList P ops (RdP w0 next) l a w → w.heap.size ≤ w0.heap.size ∧ w.drawn ≤ w0.drawn
  | [], a, w, _, h => by
    have h : RdP w0 next .normal a w := h
    exact ⟨Nat.le_of_eq h.2.1, Nat.le_of_eq h.2.2.1⟩
  | o :: l, a, w, hr, h => by
    unfold wpList at h
    have hl : ∀ o ∈ l, readOp P o = true := fun q hq => hr q (List.mem_cons_of_mem _ hq)
    split at h
    · rcases h with h | ⟨_, a', w', h, _⟩
      · unfold Oper.wp at h
        obtain ⟨g1, g2⟩ := readOp_good (hr o (List.mem_cons_self ..)) a.eval
        cases hrun : (execOp a.eval o).run P w with
        | halt x w1 =>
          rw [hrun] at h
          cases x <;> first | exact h.elim | (cases h.1)
        | ok n w1 =>
          obtain ⟨v, rfl⟩ := g2 _ _ _ hrun
          rw [hrun, Oper.upon_value] at h
          obtain ⟨m1, m2⟩ := rd_mono l _ _ hl h
          obtain ⟨k1, k2, _⟩ := g1 _ _ _ hrun
          omega
      · cases h
    · exact rd_mono l _ _ hl h
theorem takes_of_list {w0 w : World} (r : Pe) : ∀ (l : List Nat) (a : Act), (∀ i ∈ l, isRead P ops i = true) → Agree w0 w →
    wpList P ops (RdP w0 fun a' => wpE P ops Q (Agree w0) L r a' w) (pickO ops l) a w0 → wpE P ops Q (Agree w0) L (takesPe ops l r) a w
  | [], a, _, _, h => h.2.2.2
  | i :: l, a, hr, hA, h => by
    have hi := hr i (List.mem_cons_self ..)
    have hl : ∀ i ∈ l, isRead P ops i = true := fun q hq => hr q (List.mem_cons_of_mem _ hq)
    unfold isRead at hi
    cases ho : ops[i]? with
    | none => rw [ho] at hi; cases hi
    | some o =>
      rw [ho] at hi
      have hi : readOp P o = true := hi
      unfold pickO at h
      rw [ho] at h
      simp only at h
      have hlo : ∀ (l : List Nat), (∀ i ∈ l, isRead P ops i = true) → ∀ o ∈ pickO ops l, readOp P o = true := by
        intro l
        induction l with
        | nil => intro _ o ho; cases ho
        | cons j l ih =>
          intro hl o hm
          have hj := hl j (List.mem_cons_self ..)
          unfold isRead at hj
          unfold pickO at hm
          cases hoj : ops[j]? with
          | none => rw [hoj] at hj; cases hj
          | some oj =>
            rw [hoj] at hj hm
            rcases List.mem_cons.1 hm with rfl | hm
            · exact hj
            · exact ih (fun q hq => hl q (List.mem_cons_of_mem _ hq)) o hm
      unfold wpList at h
      unfold takesPe
      by_cases hw : Region.wanted o (yielded ops a.tmps) = true
      · rw [if_pos hw] at h
        rcases h with h | ⟨_, a', w', h, _⟩
        · unfold Oper.wp at h
          obtain ⟨g1, g2⟩ := readOp_good hi a.eval
          cases hrun : (execOp a.eval o).run P w0 with
          | halt x w1 =>
            rw [hrun] at h
            cases x <;> first | exact h.elim | (cases h.1)
          | ok n w1 =>
            obtain ⟨v, rfl⟩ := g2 _ _ _ hrun
            rw [hrun, Oper.upon_value] at h
            obtain ⟨m1, m2⟩ := rd_mono _ _ _ (hlo l hl) h
            obtain ⟨k1, k2, k3⟩ := g1 _ _ _ hrun
            obtain ⟨rfl, k4⟩ := k3 (by omega) (by omega)
            by_cases hmv : isMv ops i = true
            · rw [if_pos hmv]
              refine ⟨o, v, ho, .inl ⟨hw, fun w' _ => ?_⟩, takes_of_list r l _ hl hA h⟩
              unfold isMv at hmv
              rw [ho] at hmv
              obtain ⟨dst, op, type, pos, after, guard⟩ := o
              cases op <;> first | (exfalso; simp at hmv; done) | skip
              case move =>
                simp only [execOp, Sem.run_pure, Result.ok.injEq, Go.Next.value.injEq, and_true] at hrun
                subst hrun; rfl
              case assign =>
                simp only [execOp, Sem.run_pure, Result.ok.injEq, Go.Next.value.injEq, and_true] at hrun
                subst hrun; rfl
            · rw [if_neg hmv]
              exact ⟨o, v, ho, .inl ⟨hw, k4⟩, hA, takes_of_list r l _ hl hA h⟩
        · cases h
      · rw [if_neg hw] at h
        by_cases hmv : isMv ops i = true
        · rw [if_pos hmv]
          exact ⟨o, undef, ho, .inr ⟨by simpa using hw, rfl⟩, takes_of_list r l _ hl hA h⟩
        · rw [if_neg hmv]
          exact ⟨o, undef, ho, .inr ⟨by simpa using hw, rfl⟩, hA, takes_of_list r l _ hl hA h⟩
theorem upon_congr {o : Oper} {a : Act} {K : Act → World → Prop} {Q Q' : Exit → Act → World → Prop} (h1 : ∀ c a w, Q' (.panic c) a w → Q (.panic c) a w) (h2 : LetsOut Q' → LetsOut Q) : ∀ r : Result Go.Next, o.upon P a K Q' r → o.upon P a K Q r
  | .ok n w', h => by
    cases n
    case enter f args =>
      rw [Oper.upon_enter] at h ⊢
      refine Calls.mono h fun e w hh => ?_
      cases e with
      | returned v => exact hh
      | panicked c => exact h1 _ _ _ hh
      | outgrown => exact h2 hh
    all_goals first | exact h | exact h.elim
  | .halt x w', h => by
    cases x
    case panic v => exact h1 _ _ _ h
    all_goals first | exact h | exact h.elim
theorem wpList_monoQ {Q Q' : Exit → Act → World → Prop} (hq : ∀ e a w, Q' e a w → Q e a w) : ∀ (l : List Oper) (a : Act) (w : World), wpList P ops Q' l a w → wpList P ops Q l a w
  | [], a, w, h => hq _ _ _ h
  | o :: l, a, w, h => by
    have h2 : LetsOut Q' → LetsOut Q := fun ⟨a, w, h⟩ => ⟨a, w, hq _ _ _ h⟩
    unfold wpList at h ⊢
    split at h
    · rename_i hw
      rw [if_pos hw]
      exact h.imp (fun h => Oper.wp_mono (fun a w h => wpList_monoQ hq l a w h) (upon_congr (fun _ _ _ h => hq _ _ _ h) h2 _ h)) (fun h => ⟨h.1, h2 h.2⟩)
    · rename_i hw
      rw [if_neg hw]
      exact wpList_monoQ hq l _ w h
theorem wpOp_of_wp {i : Nat} {o : Oper} {a : Act} {w : World} {K : Act → World → Prop} {Q' : Exit → Act → World → Prop} (ho : ops[i]? = some o) (h1 : ∀ c a w, Q' (.panic c) a w → Q (.panic c) a w) (h2 : LetsOut Q' → LetsOut Q)
    (h : if Region.wanted o (yielded ops a.tmps) = true then o.wp P a w K Q' ∨ (o.asks P a w ∧ LetsOut Q') else K (a.put o.dst undef) w) : wpOp P ops Q i K a w := by
  unfold wpOp
  rw [ho]
  by_cases hw : Region.wanted o (yielded ops a.tmps) = true
  · rw [if_pos hw] at h
    simp only [hw, if_true]
    exact h.imp (upon_congr h1 h2 _) (fun h => ⟨h.1, h2 h.2⟩)
  · rw [if_neg hw] at h
    simp only [hw, if_false]
    exact h
theorem wpE_ones {w0 : World} : ∀ (f : List Nat) (a : Act) (w : World), (∀ i ∈ f, late ops L i = true) → (∀ i ∈ f, (ops[i]?).isSome = true) → wpList P ops Q (pickO ops f) a w → wpE P ops Q (Agree w0) L (onesPe f) a w
  | [], a, w, _, _, h => h
  | i :: f, a, w, hf, hs, h => by
    have hi := hs i (List.mem_cons_self ..)
    cases ho : ops[i]? with
    | none => rw [ho] at hi; cases hi
    | some o =>
      unfold pickO at h
      rw [ho] at h
      simp only at h
      unfold wpList at h
      have ih := fun a w => wpE_ones (w0 := w0) f a w (fun q hq => hf q (List.mem_cons_of_mem _ hq)) (fun q hq => hs q (List.mem_cons_of_mem _ hq))
      exact wpOp_mono (fun a' w' h' => ⟨.inl (hf i (List.mem_cons_self ..)), ih a' w' h'⟩) (wpOp_of_wp ho (fun _ _ _ h => h) (fun h => h) h)
theorem wpE_of_sg {w0 : World} : ∀ (s : List Sg) (f : List Nat) (a : Act) (w : World), (∀ i ∈ sgReads s, isRead P ops i = true) → (∀ i ∈ f, late ops L i = true) →
    (∀ i, (Sg.mid i) ∈ s → (ops[i]?).isSome = true) → (∀ i ∈ f, (ops[i]?).isSome = true) → Agree w0 w → wpSg P ops Q w0 s f a w → wpE P ops Q (Agree w0) L (sgPe ops s f) a w
  | [], f, a, w, hr, hf, hm, hs, hA', h => wpE_ones f a w hf hs h
  | .rd l :: r, f, a, w, hr, hf, hm, hs, hA', h => by
    refine takes_of_list (L := L) (sgPe ops r f) l a (fun i hi => hr i (List.mem_append_left _ hi)) hA' ?_
    have h : wpList P ops (RdP w0 fun a' => wpSg P ops Q w0 r f a' w) (pickO ops l) a w0 := h
    refine wpList_monoQ (fun e a' w' hh => ?_) _ _ _ h
    exact ⟨hh.1, hh.2.1, hh.2.2.1, wpE_of_sg r f a' w (fun i hi => hr i (List.mem_append_right _ hi)) hf (fun i hi => hm i (List.mem_cons_of_mem _ hi)) hs hA' hh.2.2.2⟩
  | .mid i :: r, f, a, w, hr, hf, hm, hs, hA', h => by
    have hi := hm i (List.mem_cons_self ..)
    cases ho : ops[i]? with
    | none => rw [ho] at hi; cases hi
    | some o =>
      have h : wpList P ops (MidP w0 Q fun a' w' => wpSg P ops Q w0 r f a' w') (pickO ops [i]) a w := h
      unfold pickO at h
      rw [ho] at h
      simp only at h
      unfold wpList at h
      exact wpOp_mono (fun a' w' (h' : Agree w0 w' ∧ wpSg P ops Q w0 r f a' w') => ⟨.inr fun _ => h'.1, wpE_of_sg r f a' w' hr hf (fun i hi => hm i (List.mem_cons_of_mem _ hi)) hs h'.1 h'.2⟩)
        (wpOp_of_wp (Q := Q) ho (fun _ _ _ h => h) (fun ⟨a, w, h⟩ => ⟨a, w, h⟩) h)
  | .par D R :: r, f, a, w, hr, hf, hm, hs, hA', h => by
    have h : ParAt P ops Q (Agree w0) D R (fun a' w' => Agree w0 w' ∧ wpSg P ops Q w0 r f a' w') a w := h
    obtain ⟨A, N, PP, F0, h1, h2, h3, h4, h5, h6, h7, h8, h9⟩ := h
    exact ⟨A, N, PP, F0, h1, h2, h3, h4, h5, h6, h7, h8, fun u w' F e1 e2 e3 e4 e5 => wpE_of_sg r f _ w' hr hf (fun i hi => hm i (List.mem_cons_of_mem _ hi)) hs (h9 u w' F e1 e2 e3 e4 e5).1 (h9 u w' F e1 e2 e3 e4 e5).2⟩
def sgMids : List Sg → List Nat
  | [] => []
  | .rd _ :: r => sgMids r
  | .mid i :: r => i :: sgMids r
  | .par _ _ :: r => sgMids r
theorem mem_sgMids {i : Nat} : ∀ {s : List Sg}, Sg.mid i ∈ s → i ∈ sgMids s
  | .rd l :: r, h => mem_sgMids (s := r) (by simpa using h)
  | .par D R :: r, h => mem_sgMids (s := r) (by simpa using h)
  | .mid j :: r, h => by
    rcases List.mem_cons.1 h with h | h
    · injection h with h; subst h; exact List.mem_cons_self ..
    · exact List.mem_cons_of_mem _ (mem_sgMids h)
/-- The checks that a plan fits. -/
def sgOk (P : Program) (ops : Array Oper) (s : List Sg) (f : List Nat) : Bool :=
  Region.noSelect ops && (sgPe ops s f).len == ops.size && eOk ops (sgLoads ops s) (sgPe ops s f) (Array.replicate ops.size false) &&
  (sgReads s).all (isRead P ops) && f.all (fun i => late ops (sgLoads ops s) i && (ops[i]?).isSome) && (sgMids s).all (fun i => (ops[i]?).isSome)
theorem region_sg {id : Nat} {a : Act} {w : World} {l : List Oper} (s : List Sg) (f : List Nat) (hm : P.follows .mixedOrders = true) (hk : sgOk P l.toArray s f = true)
    (hQ : ∀ c a d v w, Q (.panic c) (Act.put a d v) w → Q (.panic c) a w) (h : wpSg P l.toArray Q w.drew s f a w.drew) : (Code.region id l.toArray true).wp P Q a w := by
  simp only [sgOk, Bool.and_eq_true] at hk
  obtain ⟨⟨⟨⟨⟨h1, h2⟩, h3⟩, h4⟩, h5⟩, h6⟩ := hk
  refine region_e (Agree w.drew) (sgLoads l.toArray s) (sgPe l.toArray s f) hm (by simp only [h1, h2, h3, Bool.and_self]) hQ ?_
  refine wpE_of_sg s f a w.drew (fun i hi => List.all_eq_true.1 h4 i hi) (fun i hi => ?_) (fun i hi => List.all_eq_true.1 h6 i (mem_sgMids hi)) (fun i hi => ?_) (Agree.refl _) h
  · have := List.all_eq_true.1 h5 i hi
    simp only [Bool.and_eq_true] at this
    exact this.1
  · have := List.all_eq_true.1 h5 i hi
    simp only [Bool.and_eq_true] at this
    exact this.2
theorem sg_rd {w0 w : World} {l : List Nat} {r : List Sg} {f : List Nat} {a : Act} (h : ∀ next : Act → Prop, (∀ a', wpSg P ops Q w0 r f a' w → next a') → wpList P ops (RdP w0 next) (pickO ops l) a w0) : wpSg P ops Q w0 (.rd l :: r) f a w := h _ fun _ h => h
theorem sg_mid {w0 w : World} {i : Nat} {r : List Sg} {f : List Nat} {a : Act} (h : ∀ next : Act → World → Prop, (∀ a' w', wpSg P ops Q w0 r f a' w' → next a' w') → wpList P ops (MidP w0 Q next) (pickO ops [i]) a w) : wpSg P ops Q w0 (.mid i :: r) f a w := h _ fun _ _ h => h
theorem sg_fin {w0 w : World} {f : List Nat} {a : Act} (h : wpList P ops Q (pickO ops f) a w) : wpSg P ops Q w0 [] f a w := h
theorem sg_parG {a : Act} {w : World} {D : List (Nat × List Nat)} {R : List Nat} {r : List Sg} {f : List Nat} {w0 : World} (dl : List (Nat × Option Tmp)) (hdl : D.map (fun p => (p.1, dstOf ops p.1)) = dl) (A : Nat → Prop) (N : Nat → (Nat → Value) → World → (Nat → Prop) → Prop) (PP : Nat → (Nat → Value) → Prop) (F0 : Nat → Nat → Prop)
    (hPP : ∀ j i u v, PP j u → i ≠ j → waits ops j i = false → PP j (updV u i v)) (hNu : ∀ j i u v w F, N j u w F → i ≠ j → waits ops j i = false → N j (updV u i v) w F) (hSt : ∀ j v w w' F, N j v w F → (∀ k, F k → w'.heap[k]? = w.heap[k]?) → N j v w' F) (hS : ∀ w', Ch A w w' → Agree w0 w')
    (h0 : ∀ j ∈ R, ∀ u : Nat → Value, u j = undef → N j u w (F0 j)) (h1 : ∀ j ∈ R, ∀ k, F0 j k → A k ∧ k < w.heap.size) (h2 : ∀ j ∈ R, ∀ j' ∈ R, ∀ k, j ≠ j' → F0 j k → F0 j' k → False) (hP : parS P ops Q dl a w A N PP D)
    (hend : ∀ K : Act → World → Prop, (∀ a' w', Agree w0 w' → wpSg P ops Q w0 r f a' w' → K a' w') → ∀ u w' (F : Nat → Nat → Prop), Ch A w w' → (∀ j j' k, EndAv D R j = true → EndAv D R j' = true → j ≠ j' → F j k → F j' k → False) → (∀ j k, EndAv D R j = true → F j k → (A k ∨ w.heap.size ≤ k) ∧ k < w'.heap.size) → (∀ j, EndAv D R j = true → N j u w' (F j)) → (∀ j ∈ D.map (·.1), PP j u) → K (putL dl a u) w') :
    wpSg P ops Q w0 (.par D R :: r) f a w :=
  ⟨A, N, PP, F0, hPP, hNu, hSt, hS, h0, h1, h2, parP_of_S hdl D hP, fun u w' F e1 e2 e3 e4 e5 => by rw [putAll_putL (u := u), hdl]; exact hend (fun a' w' => Agree w0 w' ∧ wpSg P ops Q w0 r f a' w') (fun _ _ g h => ⟨g, h⟩) u w' F e1 e2 e3 e4 e5⟩
end
end Go.Proofs.YtbcemldiahghcaaGreat

namespace Go.Proofs.YtbcemldiahghcaaGreat
set_option linter.unusedVariables false
set_option linter.unusedSimpArgs false
set_option maxRecDepth 100000
open Go.RowKit
theorem isNaN_c (x : Int) (w : World) : Calls Tryz.prog 161 #[.int .i64 x] w fun e w' => e = .returned (.bool false) ∧ w' = w := by
  have h : (x != x) = false := by simp
  go_enter Tryz.func161, Tryz.ntmps161
  go_wp2_with fail
  go_ret
  exact ⟨rfl, rfl⟩
def cmp1 (x y : Int) : Int := if x < y then -1 else if y < x then 1 else 0
theorem compare_c (x y : Int) (w : World) : Calls Tryz.prog 160 #[.int .i64 x, .int .i64 y] w fun e w' => e = .returned (.int .i64 (cmp1 x y)) ∧ w' = w := by
  by_cases h1 : x < y
  · have hd : decide (x < y) = true := decide_eq_true h1
    have HE := hid (show cmp1 x y = -1 by simp [cmp1, h1])
    go_enter Tryz.func160, Tryz.ntmps160
    go_wp2_with (go_at_call 161; refine (isNaN_c _ _).mono ?_; rintro e w' ⟨rfl, rfl⟩)
    go_ret
    exact ⟨by rw [HE.out]; rfl, rfl⟩
  · have hd : decide (x < y) = false := decide_eq_false h1
    by_cases h2 : y < x
    · have hd2 : decide (y < x) = true := decide_eq_true h2
      have HE := hid (show cmp1 x y = 1 by simp [cmp1, h1, h2])
      go_enter Tryz.func160, Tryz.ntmps160
      go_wp2_with (go_at_call 161; refine (isNaN_c _ _).mono ?_; rintro e w' ⟨rfl, rfl⟩)
      go_ret
      exact ⟨by rw [HE.out]; rfl, rfl⟩
    · have hd2 : decide (y < x) = false := decide_eq_false h2
      have HE := hid (show cmp1 x y = 0 by simp [cmp1, h1, h2])
      go_enter Tryz.func160, Tryz.ntmps160
      go_wp2_with (go_at_call 161; refine (isNaN_c _ _).mono ?_; rintro e w' ⟨rfl, rfl⟩)
      go_ret
      exact ⟨by rw [HE.out]; rfl, rfl⟩
def cmpV : List Int → List Int → Int
  | a :: l, b :: m => if cmp1 a b = 0 then cmpV l m else cmp1 a b
  | _, _ => 0
theorem cmp1_zero {x y : Int} : cmp1 x y = 0 ↔ x = y := by unfold cmp1; split <;> (try split) <;> omega
theorem cmpV_lt : ∀ (l m : List Int), decide (cmpV l m < 0) = lexLt l m
  | [], m => by simp [cmpV, lexLt]
  | _ :: _, [] => by simp [cmpV, lexLt]
  | a :: l, b :: m => by
    simp only [cmpV, lexLt]
    by_cases h : a = b
    · simp only [if_pos (cmp1_zero.2 h), if_pos h]
      exact cmpV_lt l m
    · simp only [if_neg (fun e => h (cmp1_zero.1 e)), if_neg h]
      refine decide_eq_decide.2 ?_
      unfold cmp1
      split
      · omega
      · split <;> omega
theorem cmpV_drop {xs ys : List Int} {k : Nat} (h : k < xs.length) (h2 : k < ys.length) : cmpV (xs.drop k) (ys.drop k) = if cmp1 xs[k] ys[k] = 0 then cmpV (xs.drop (k + 1)) (ys.drop (k + 1)) else cmp1 xs[k] ys[k] := by
  rw [List.drop_eq_getElem_cons h, List.drop_eq_getElem_cons h2]; simp only [cmpV]
theorem int_at {w : World} {F : Nat → Prop} {A : Option Addr} {n c : Nat} {xs : List Int} (h : Rd (tInt .i64) w F (.slice A n c) xs) (j : Nat) (hj : j < xs.length) :
    ∃ b o, A = some ⟨b, o, none⟩ ∧ F b ∧ b < w.heap.size ∧ w.cell? ⟨b, o + j, none⟩ = some (.int .i64 xs[j]) := by
  obtain ⟨b, o, cs, rfl, hF, hlt, hr, hu⟩ := h.at_ j hj
  have hr' : cs = [.int .i64 xs[j]] := hr
  subst hr'
  have := hu 0 _ rfl
  exact ⟨b, o, rfl, hF, hlt, by simpa [tInt, flat] using this⟩
set_option maxHeartbeats 1000000 in
theorem sCompare_c (v0 v1 : Value) (xs ys : List Int) (F : Nat → Prop) (w : World) (h0 : Rd (tInt .i64) w F v0 xs) (h1 : Rd (tInt .i64) w F v1 ys) (hl : xs.length = ys.length) :
    Calls Tryz.prog 154 #[v0, v1] w fun e w' => e = .returned (.int .i64 (cmpV xs ys)) ∧ w' = w := by
  obtain ⟨A0, c0, rfl, -, l0, -⟩ := id h0
  obtain ⟨A1, c1, rfl, -, l1, -⟩ := id h1
  have hle : xs.length ≤ ys.length := by omega
  have hge : ys.length ≤ xs.length := by omega
  have hd9 : decide ((xs.length : Int) < (ys.length : Int)) = false := decide_eq_false (by omega)
  clear hl
  go_enter Tryz.func154, Tryz.ntmps154
  go_wp2_with fail
  go_loop [11] (fun i => ∃ k : Nat, i = .int .i64 k ∧ k ≤ xs.length ∧ Hid (cmpV xs ys = cmpV (xs.drop k) (ys.drop k))) (fun i => xs.length - (intOf i).toNat)
  case atStart => exact ⟨0, rfl, Nat.zero_le _, hid rfl⟩
  case round =>
    obtain ⟨k, rfl, hk, HE⟩ := hrel
    by_cases hlt : k < xs.length
    · obtain ⟨b0, o0, rfl, _, _, a0⟩ := int_at h0 k hlt
      obtain ⟨b1, o1, rfl, _, _, a1⟩ := int_at h1 k (by omega)
      have hlt2 : k < ys.length := by omega
      have hg : decide ((ys.length : Int) ≤ (k : Int)) = false := decide_eq_false (by omega)
      have hc := cmpV_drop hlt hlt2
      by_cases he : cmp1 xs[k] ys[k] = 0
      · rw [if_pos he] at hc
        have HC := hid (HE.out.trans hc); clear hc
        have hn : (cmp1 xs[k] ys[k] != 0) = false := by simp [he]
        clear he
        go_wp2_with (go_at_call 160; refine (compare_c _ _ _).mono ?_; rintro e w' ⟨rfl, rfl⟩)
        go_round
        case rel => exact ⟨k + 1, by go_num, by omega, HC⟩
        case measure => simp [intOf]; omega
      · rw [if_neg he] at hc
        have HC := hid (HE.out.trans hc); clear hc
        have hn : (cmp1 xs[k] ys[k] != 0) = true := by simp [he]
        clear he
        go_wp2_with (go_at_call 160; refine (compare_c _ _ _).mono ?_; rintro e w' ⟨rfl, rfl⟩)
        go_ret
        exact ⟨by rw [HC.out]; rfl, rfl⟩
    · have HC := hid (show cmpV xs ys = 0 by rw [HE.out, List.drop_eq_nil_of_le (by omega), List.drop_eq_nil_of_le (by omega)]; rfl)
      go_wp2_with fail
      go_ret
      exact ⟨by rw [HC.out]; rfl, rfl⟩
end Go.Proofs.YtbcemldiahghcaaGreat

namespace Go.Proofs.YtbcemldiahghcaaGreat
set_option linter.unusedVariables false
set_option linter.unusedSimpArgs false
set_option maxRecDepth 100000
open Go.RowKit
theorem rd_block {W : World} {K : Nat} {t : TypeId} {fr : Nat × Nat} {ys : Array Value} (xs : List Int) (hx : xs.length ≤ 9223372036854775807) (h : W.heap[K]? = some (.cells ys t fr)) (hy : ys.toList = xs.map (.int .i64)) : Rd (tInt .i64) W (fun k => k = K) (.slice (some ⟨K, 0, none⟩) xs.length xs.length) xs := by
  refine ⟨_, xs.length, rfl, Nat.le_refl _, hx, fun _ => ⟨K, 0, rfl, rfl, blk_lt h, fun j x hj => ⟨_, rfl, fun i u hi => ?_⟩⟩⟩
  have hz : (tInt .i64).sz = 1 := rfl
  cases i with
  | zero =>
    obtain rfl : Value.int .i64 x = u := by simpa using hi
    rw [blk_cell h, hz]
    have : ys.toList[j]? = some (Value.int .i64 x) := by rw [hy, List.getElem?_map, hj]; rfl
    simpa using this
  | succ i => simp at hi
theorem bdrew0 {B : Nat} {w W : World} (h : Below B w W) : Below B w W.drew := ⟨h.os, h.tape, h.output, h.size, h.block⟩
theorem keyOf_c (a : EvD) (w : World) : Calls Tryz.prog 132 #[evAgg a] w fun q w' => q = .returned (evAgg a) ∧ Below w.heap.size w w' := by
  unfold evAgg
  go_enter Tryz.func132, Tryz.ntmps132
  go_wp2_with fail
  have B : Below w.heap.size w _ := balloc (balloc (Below.refl _ _) (.cells #[.int .i64 a.time, .int .i64 a.to, .int .i64 a.from_, .int .i64 a.count, .int .i64 a.n, .int .i64 a.kind, .int .i64 a.arg] 80)) (.cells #[.int .i64 a.time, .int .i64 a.to, .int .i64 a.from_, .int .i64 a.count, .int .i64 a.n, .int .i64 a.kind, .int .i64 a.arg] 181)
  exact bodyPost_ret (v := .agg #[.int .i64 a.time, .int .i64 a.to, .int .i64 a.from_, .int .i64 a.count, .int .i64 a.n, .int .i64 a.kind, .int .i64 a.arg]) (by simp [results, Tryz.results132, go_sem]) rfl ⟨rfl, B⟩
set_option maxHeartbeats 1000000 in
theorem keyLess_c (a b : EvD) (w : World) : Calls Tryz.prog 131 #[evAgg a, evAgg b] w fun q w' => q = .returned (.bool (evLess a b)) ∧ Below w.heap.size w w' := by
  have HE := hid (show decide (cmpV a.key b.key < 0) = evLess a b from cmpV_lt _ _)
  have h1 : Rd (tInt .i64) ((w.alloc (.cells #[.int .i64 a.time, .int .i64 a.to, .int .i64 a.from_, .int .i64 a.count, .int .i64 a.n, .int .i64 a.kind, .int .i64 a.arg] 181)).alloc (.cells #[.int .i64 b.time, .int .i64 b.to, .int .i64 b.from_, .int .i64 b.count, .int .i64 b.n, .int .i64 b.kind, .int .i64 b.arg] 181)) (fun _ => True) (.slice (some ⟨w.heap.size, 0, none⟩) 7 7) a.key := (rd_block (W := (w.alloc (.cells #[.int .i64 a.time, .int .i64 a.to, .int .i64 a.from_, .int .i64 a.count, .int .i64 a.n, .int .i64 a.kind, .int .i64 a.arg] 181)).alloc (.cells #[.int .i64 b.time, .int .i64 b.to, .int .i64 b.from_, .int .i64 b.count, .int .i64 b.n, .int .i64 b.kind, .int .i64 b.arg] 181)) a.key (by simp [EvD.key]) ((heap_old (by simp)).trans (heap_at rfl)) rfl).mono (fun _ _ => trivial)
  have h2 : Rd (tInt .i64) ((w.alloc (.cells #[.int .i64 a.time, .int .i64 a.to, .int .i64 a.from_, .int .i64 a.count, .int .i64 a.n, .int .i64 a.kind, .int .i64 a.arg] 181)).alloc (.cells #[.int .i64 b.time, .int .i64 b.to, .int .i64 b.from_, .int .i64 b.count, .int .i64 b.n, .int .i64 b.kind, .int .i64 b.arg] 181)) (fun _ => True) (.slice (some ⟨w.heap.size + 1, 0, none⟩) 7 7) b.key := (rd_block b.key (by simp [EvD.key]) (heap_at (by simp)) rfl).mono (fun _ _ => trivial)
  have B : Below w.heap.size w ((w.alloc (.cells #[.int .i64 a.time, .int .i64 a.to, .int .i64 a.from_, .int .i64 a.count, .int .i64 a.n, .int .i64 a.kind, .int .i64 a.arg] 181)).alloc (.cells #[.int .i64 b.time, .int .i64 b.to, .int .i64 b.from_, .int .i64 b.count, .int .i64 b.n, .int .i64 b.kind, .int .i64 b.arg] 181)) := balloc (balloc (Below.refl _ _) _) _
  unfold evAgg
  go_enter Tryz.func131, Tryz.ntmps131
  go_wp2_with fail
  generalize hW : (w.alloc (.cells #[.int .i64 a.time, .int .i64 a.to, .int .i64 a.from_, .int .i64 a.count, .int .i64 a.n, .int .i64 a.kind, .int .i64 a.arg] 181)).alloc (.cells #[.int .i64 b.time, .int .i64 b.to, .int .i64 b.from_, .int .i64 b.count, .int .i64 b.n, .int .i64 b.kind, .int .i64 b.arg] 181) = W at *
  clear hW
  refine region_plan (fun w' => w' = W.drew) [(0, true), (1, true), (2, false), (3, true), (4, true)] (by kernel_rfl) (by kernel_rfl) (fun _ _ d _ _ h => by cases d <;> exact h) ?_
  have HS := (rfl : W.drew = W.drew)
  iterate 2 (first | (refine seq_take (v := ?_) (by rfl) HS (by rfl) ?_ ?_; rotate_left; (focus (intro wS hS; obtain ⟨kc, kf⟩ := (And.intro True.intro True.intro); go_simp; (try (with_reducible rfl)); done)); (intro K hK; go_simp; refine hK _ ?_; clear hK K)) | (refine seq_skip (by rfl) HS (by rfl) ?_; (intro K hK; go_simp; refine hK _ ?_; clear hK K)))
  refine seq_do (by rfl) (by rfl) (fun K hK => ?_)
  go_simp
  refine (sCompare_c _ _ a.key b.key (fun _ => True) W.drew (Rd.move (w := W) (fun _ _ => rfl) h1) (Rd.move (w := W) (fun _ _ => rfl) h2) rfl).mono ?_
  rintro q w' ⟨rfl, rfl⟩
  refine hK _ _ (Or.inr HS) ?_; clear hK K
  iterate 2 (first | (refine seq_take (v := ?_) (by rfl) HS (by rfl) ?_ ?_; rotate_left; (focus (intro wS hS; obtain ⟨kc, kf⟩ := (And.intro True.intro True.intro); go_simp; (try (with_reducible rfl)); done)); (intro K hK; go_simp; refine hK _ ?_; clear hK K)) | (refine seq_skip (by rfl) HS (by rfl) ?_; (intro K hK; go_simp; refine hK _ ?_; clear hK K)))
  simp only [wpSeq]
  go_wp2_with fail
  go_ret
  exact ⟨by rw [HE.out]; rfl, bdrew0 B⟩
set_option maxHeartbeats 1000000 in
theorem EventLessI_c (a b : EvD) (w : World) : Calls Tryz.prog 107 #[evAgg a, evAgg b] w fun q w' => q = .returned (.bool (evLess a b)) ∧ Below w.heap.size w w' := by
  have B : Below w.heap.size w ((w.alloc (.cells #[.int .i64 a.time, .int .i64 a.to, .int .i64 a.from_, .int .i64 a.count, .int .i64 a.n, .int .i64 a.kind, .int .i64 a.arg] 80)).alloc (.cells #[.int .i64 b.time, .int .i64 b.to, .int .i64 b.from_, .int .i64 b.count, .int .i64 b.n, .int .i64 b.kind, .int .i64 b.arg] 80)) := balloc (balloc (Below.refl _ _) _) _
  have Z1 : ((w.alloc (.cells #[.int .i64 a.time, .int .i64 a.to, .int .i64 a.from_, .int .i64 a.count, .int .i64 a.n, .int .i64 a.kind, .int .i64 a.arg] 80)).alloc (.cells #[.int .i64 b.time, .int .i64 b.to, .int .i64 b.from_, .int .i64 b.count, .int .i64 b.n, .int .i64 b.kind, .int .i64 b.arg] 80)).heap[w.heap.size]? = some (.cells #[.int .i64 a.time, .int .i64 a.to, .int .i64 a.from_, .int .i64 a.count, .int .i64 a.n, .int .i64 a.kind, .int .i64 a.arg] 80 (0, 0)) := (heap_old (by simp)).trans (heap_at rfl)
  have Z2 : ((w.alloc (.cells #[.int .i64 a.time, .int .i64 a.to, .int .i64 a.from_, .int .i64 a.count, .int .i64 a.n, .int .i64 a.kind, .int .i64 a.arg] 80)).alloc (.cells #[.int .i64 b.time, .int .i64 b.to, .int .i64 b.from_, .int .i64 b.count, .int .i64 b.n, .int .i64 b.kind, .int .i64 b.arg] 80)).heap[w.heap.size + 1]? = some (.cells #[.int .i64 b.time, .int .i64 b.to, .int .i64 b.from_, .int .i64 b.count, .int .i64 b.n, .int .i64 b.kind, .int .i64 b.arg] 80 (0, 0)) := heap_at (by simp)
  unfold evAgg
  go_enter Tryz.func107, Tryz.ntmps107
  go_wp2_with fail
  generalize hW : (w.alloc (.cells #[.int .i64 a.time, .int .i64 a.to, .int .i64 a.from_, .int .i64 a.count, .int .i64 a.n, .int .i64 a.kind, .int .i64 a.arg] 80)).alloc (.cells #[.int .i64 b.time, .int .i64 b.to, .int .i64 b.from_, .int .i64 b.count, .int .i64 b.n, .int .i64 b.kind, .int .i64 b.arg] 80) = W at *
  clear hW
  obtain ⟨⟨p0, p1, p2, p3, p4, p5, p6⟩, -⟩ := cells7 Z1
  obtain ⟨⟨q0, q1, q2, q3, q4, q5, q6⟩, -⟩ := cells7 Z2
  have z1 := blk_lt Z1
  have z2 := blk_lt Z2
  refine region_plan (fun w' => Ch (fun _ => False) W w') [(0, true), (2, true), (1, false), (3, false), (4, false), (5, true)] (by kernel_rfl) (by kernel_rfl) (fun _ _ d _ _ h => by cases d <;> exact h) ?_
  have HS := (Ch.refl (fun _ => False) W).drew
  iterate 2 (first | (refine seq_take (v := ?_) (by rfl) HS (by rfl) ?_ ?_; rotate_left; (focus (intro wS hS; obtain ⟨kc, kf⟩ := hS.cells; go_simp; (try (with_reducible rfl)); done)); (intro K hK; go_simp; refine hK _ ?_; clear hK K)) | (refine seq_skip (by rfl) HS (by rfl) ?_; (intro K hK; go_simp; refine hK _ ?_; clear hK K)))
  refine seq_do (by rfl) (by rfl) (fun K hK => ?_)
  go_simp
  refine (keyOf_c a _).mono ?_
  rintro q w3 ⟨rfl, hb3⟩
  have HS := HS.trans (Ch.of_below hb3)
  refine hK _ _ (Or.inr HS) ?_; clear hK K
  refine seq_do (by rfl) (by rfl) (fun K hK => ?_)
  go_simp
  refine (keyOf_c b _).mono ?_
  rintro q w4 ⟨rfl, hb4⟩
  have HS := HS.trans (Ch.of_below hb4)
  refine hK _ _ (Or.inr HS) ?_; clear hK K
  refine seq_do (by rfl) (by rfl) (fun K hK => ?_)
  go_simp
  refine (keyLess_c a b _).mono ?_
  rintro q w5 ⟨rfl, hb5⟩
  have HS := HS.trans (Ch.of_below hb5)
  refine hK _ _ (Or.inr HS) ?_; clear hK K
  iterate 1 (first | (refine seq_take (v := ?_) (by rfl) HS (by rfl) ?_ ?_; rotate_left; (focus (intro wS hS; obtain ⟨kc, kf⟩ := hS.cells; go_simp; (try (with_reducible rfl)); done)); (intro K hK; go_simp; refine hK _ ?_; clear hK K)) | (refine seq_skip (by rfl) HS (by rfl) ?_; (intro K hK; go_simp; refine hK _ ?_; clear hK K)))
  simp only [wpSeq]
  go_wp2_with fail
  go_ret
  exact ⟨rfl, bthen' B HS.below0⟩
set_option maxHeartbeats 1000000 in
theorem OutLessI_c (a b : OutD) (w : World) : Calls Tryz.prog 137 #[outAgg a, outAgg b] w fun q w' => q = .returned (.bool (outLess a b)) ∧ Below w.heap.size w w' := by
  have HE := hid (show decide (cmpV a.key b.key < 0) = outLess a b from cmpV_lt _ _)
  unfold outAgg
  go_enter Tryz.func137, Tryz.ntmps137
  go_wp2_with fail
  have B : Below w.heap.size w ((((w.alloc (.cells #[.int .i64 a.time, .int .i64 a.proc, .int .i64 a.count, .int .i64 a.n, .int .i64 a.value] 128)).alloc (.cells #[.int .i64 b.time, .int .i64 b.proc, .int .i64 b.count, .int .i64 b.n, .int .i64 b.value] 128)).alloc (.cells #[.int .i64 a.time, .int .i64 a.proc, .int .i64 a.count, .int .i64 a.n, .int .i64 a.value] 222)).alloc (.cells #[.int .i64 b.time, .int .i64 b.proc, .int .i64 b.count, .int .i64 b.n, .int .i64 b.value] 222)) := balloc (balloc (balloc (balloc (Below.refl _ _) _) _) _) _
  have h1 : Rd (tInt .i64) ((((w.alloc (.cells #[.int .i64 a.time, .int .i64 a.proc, .int .i64 a.count, .int .i64 a.n, .int .i64 a.value] 128)).alloc (.cells #[.int .i64 b.time, .int .i64 b.proc, .int .i64 b.count, .int .i64 b.n, .int .i64 b.value] 128)).alloc (.cells #[.int .i64 a.time, .int .i64 a.proc, .int .i64 a.count, .int .i64 a.n, .int .i64 a.value] 222)).alloc (.cells #[.int .i64 b.time, .int .i64 b.proc, .int .i64 b.count, .int .i64 b.n, .int .i64 b.value] 222)) (fun _ => True) (.slice (some ⟨w.heap.size + 1 + 1, 0, none⟩) 5 5) a.key := (rd_block (W := (((w.alloc (.cells #[.int .i64 a.time, .int .i64 a.proc, .int .i64 a.count, .int .i64 a.n, .int .i64 a.value] 128)).alloc (.cells #[.int .i64 b.time, .int .i64 b.proc, .int .i64 b.count, .int .i64 b.n, .int .i64 b.value] 128)).alloc (.cells #[.int .i64 a.time, .int .i64 a.proc, .int .i64 a.count, .int .i64 a.n, .int .i64 a.value] 222)).alloc (.cells #[.int .i64 b.time, .int .i64 b.proc, .int .i64 b.count, .int .i64 b.n, .int .i64 b.value] 222)) a.key (by simp [OutD.key]) ((heap_old (by simp)).trans (heap_at (by simp))) rfl).mono (fun _ _ => trivial)
  have h2 : Rd (tInt .i64) ((((w.alloc (.cells #[.int .i64 a.time, .int .i64 a.proc, .int .i64 a.count, .int .i64 a.n, .int .i64 a.value] 128)).alloc (.cells #[.int .i64 b.time, .int .i64 b.proc, .int .i64 b.count, .int .i64 b.n, .int .i64 b.value] 128)).alloc (.cells #[.int .i64 a.time, .int .i64 a.proc, .int .i64 a.count, .int .i64 a.n, .int .i64 a.value] 222)).alloc (.cells #[.int .i64 b.time, .int .i64 b.proc, .int .i64 b.count, .int .i64 b.n, .int .i64 b.value] 222)) (fun _ => True) (.slice (some ⟨w.heap.size + 1 + 1 + 1, 0, none⟩) 5 5) b.key := (rd_block b.key (by simp [OutD.key]) (heap_at (by simp)) rfl).mono (fun _ _ => trivial)
  generalize hW : (((w.alloc (.cells #[.int .i64 a.time, .int .i64 a.proc, .int .i64 a.count, .int .i64 a.n, .int .i64 a.value] 128)).alloc (.cells #[.int .i64 b.time, .int .i64 b.proc, .int .i64 b.count, .int .i64 b.n, .int .i64 b.value] 128)).alloc (.cells #[.int .i64 a.time, .int .i64 a.proc, .int .i64 a.count, .int .i64 a.n, .int .i64 a.value] 222)).alloc (.cells #[.int .i64 b.time, .int .i64 b.proc, .int .i64 b.count, .int .i64 b.n, .int .i64 b.value] 222) = W at *
  clear hW
  refine region_plan (fun w' => w' = W.drew) [(0, true), (1, true), (2, false), (3, true), (4, true)] (by kernel_rfl) (by kernel_rfl) (fun _ _ d _ _ h => by cases d <;> exact h) ?_
  have HS := (rfl : W.drew = W.drew)
  iterate 2 (first | (refine seq_take (v := ?_) (by rfl) HS (by rfl) ?_ ?_; rotate_left; (focus (intro wS hS; obtain ⟨kc, kf⟩ := (And.intro True.intro True.intro); go_simp; (try (with_reducible rfl)); done)); (intro K hK; go_simp; refine hK _ ?_; clear hK K)) | (refine seq_skip (by rfl) HS (by rfl) ?_; (intro K hK; go_simp; refine hK _ ?_; clear hK K)))
  refine seq_do (by rfl) (by rfl) (fun K hK => ?_)
  go_simp
  refine (sCompare_c _ _ a.key b.key (fun _ => True) W.drew (Rd.move (w := W) (fun _ _ => rfl) h1) (Rd.move (w := W) (fun _ _ => rfl) h2) rfl).mono ?_
  rintro q w' ⟨rfl, rfl⟩
  refine hK _ _ (Or.inr HS) ?_; clear hK K
  iterate 2 (first | (refine seq_take (v := ?_) (by rfl) HS (by rfl) ?_ ?_; rotate_left; (focus (intro wS hS; obtain ⟨kc, kf⟩ := (And.intro True.intro True.intro); go_simp; (try (with_reducible rfl)); done)); (intro K hK; go_simp; refine hK _ ?_; clear hK K)) | (refine seq_skip (by rfl) HS (by rfl) ?_; (intro K hK; go_simp; refine hK _ ?_; clear hK K)))
  simp only [wpSeq]
  go_wp2_with fail
  go_ret
  exact ⟨by rw [HE.out]; rfl, bdrew0 B⟩
end Go.Proofs.YtbcemldiahghcaaGreat
