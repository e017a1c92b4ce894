/- Texts joined: SimQ, SimR, Base. -/
import Derived.Test.YtbcemldiahghcaaGreatK01
import Derived.Test.YtbcemldiahghcaaGreatProg
import Derived.Test.YtbcemldiahghcaaGreatK00
import Derived.WalkKit
import Derived.WalkSpells
import Derived.WalkLawsBesides
import Derived.Deep.QuietTactic
import Derived.BigQuiet
import Derived.Deep.LoopGhost
import Derived.KernelRfl
namespace Go.Proofs.YtbcemldiahghcaaGreat
set_option linter.unusedVariables false
set_option linter.unusedSectionVars false
def bud (l : List StD) : Int := (l.map (fun t => 12 - t.c)).sum
theorem bud_nonneg : ∀ (l : List StD), (∀ t ∈ l, stOk t = true) → 0 ≤ bud l
  | [], _ => by simp [bud]
  | t :: l, h => by
    have h1 := bud_nonneg l (fun x hx => h x (List.mem_cons_of_mem _ hx))
    have h2 := h t (List.mem_cons_self ..)
    simp [stOk, inn] at h2
    simp [bud] at h1 ⊢; omega
structure SInv (s : SimD) : Prop where
  len : s.states.length = 4
  st : ∀ t ∈ s.states, stOk t = true
  q : ∀ e ∈ s.queue, evOk e = true
  qs : s.queue.Pairwise (fun a b => evLess a b = true)
  o : ∀ o ∈ s.outs, outOk o = true
  os : s.outs.Pairwise (fun a b => outLess a b = true)
  qn : (s.queue.length : Int) + 2 * bud s.states ≤ 100
  on : (s.outs.length : Int) + 2 * bud s.states ≤ 96
  oc : ∀ o ∈ s.outs, ∀ t, s.states[o.proc.toNat]? = some t → o.count < t.c
theorem SInv.ok {s : SimD} (h : SInv s) : simOk s = true := by
  have hb := bud_nonneg _ h.st
  have h1 := h.qn
  have h2 := h.on
  simp only [simOk, evsOk, outsOk, Bool.and_eq_true, decide_eq_true_eq]
  exact ⟨h.len, List.all_eq_true.2 h.st, ⟨by omega, List.all_eq_true.2 h.q, (ascB_iff ev_ord _).2 h.qs⟩, by omega, List.all_eq_true.2 h.o, (ascB_iff out_ord _).2 h.os⟩
theorem SInv.start : SInv simStart := by
  refine ⟨rfl, by decide, by decide, ?_, by simp [simStart], by simp [simStart], by decide, by decide, by simp [simStart]⟩
  exact (ascB_iff ev_ord _).1 (by decide)
structure Next (apps : List AppD) (s : SimD) (e : EvD) (rest : List EvD) (x : SimD) : Prop where
  inv : SInv x
  less : (x.queue.length : Int) + 2 * bud x.states < (s.queue.length : Int) + 2 * bud s.states
  later : ∀ q ∈ x.queue, e.time ≤ q.time ∧ q ≠ e
  outs : ∃ new : List OutD, x.outs = outSort (s.outs ++ new) ∧ ∀ o ∈ new, o.time = e.time
  qlen : s.queue.length - 1 ≤ x.queue.length
  states : ∀ p, p ≠ e.to.toNat → x.states[p]? = s.states[p]?
  count : ∀ t t', s.states[e.to.toNat]? = some t → x.states[e.to.toNat]? = some t' → (t.c = 12 ∧ t' = t) ∨ (t.c < 12 ∧ t'.c = t.c + 1)
  to_ : 0 ≤ e.to ∧ e.to ≤ 3
end Go.Proofs.YtbcemldiahghcaaGreat

namespace Go.Proofs.YtbcemldiahghcaaGreat
set_option linter.unusedVariables false
set_option linter.unusedSectionVars false
def left (s : SimD) : Int := s.queue.length + 2 * bud s.states
end Go.Proofs.YtbcemldiahghcaaGreat

namespace Go.Proofs.YtbcemldiahghcaaGreat
set_option linter.unusedVariables false
set_option linter.unusedSimpArgs false
open Go.RowKit

theorem hid {p : Prop} (h : p) : Hid p := h
/-- How a datum lies in cells; F: the blocks that it reaches. -/
structure Ty (α : Type) where
  sz : Nat
  rel : World → (Nat → Prop) → α → List Value → Prop
  len : ∀ {w F x cs}, rel w F x cs → cs.length = sz
  one : ∀ {w F x cs}, rel w F x cs → ∀ u ∈ cs, u.oneCell' = true
  mono : ∀ {w F F' x cs}, (∀ k, F k → F' k) → rel w F x cs → rel w F' x cs
  move : ∀ {w w' F x cs}, (∀ k, F k → w'.heap[k]? = w.heap[k]?) → rel w F x cs → rel w' F x cs
  bound : ∀ {w F x cs}, rel w F x cs → rel w (fun k => F k ∧ k < w.heap.size) x cs

theorem bcell {W w1 : World} (hb : Below W.heap.size W w1) : (∀ b o, b < W.heap.size → w1.cell? ⟨b, o, none⟩ = W.cell? ⟨b, o, none⟩) ∧ (∀ b o, b < W.heap.size → w1.frozen? ⟨b, o, none⟩ = W.frozen? ⟨b, o, none⟩) :=
  ⟨fun b o h => hb.cell (p := ⟨b, o, none⟩) h, fun b o h => hb.frozen (p := ⟨b, o, none⟩) h⟩
theorem bthen {B : Nat} {w w1 w2 : World} (h : Below B w w1) (k : Below w1.heap.size w1 w2) (hB : B ≤ w1.heap.size) : Below B w w2 :=
  h.trans ⟨k.os, k.tape, k.output, k.size, fun i hi => k.block i (Nat.lt_of_lt_of_le hi hB)⟩
theorem bdrewN {B : Nat} {w W : World} (h : Below B w W) (n : Nat) : Below B w (W.drewN n) := ⟨h.os, h.tape, h.output, h.size, h.block⟩
theorem balloc {w W : World} (h : Below w.heap.size w W) (o : Obj) : Below w.heap.size w (W.alloc o) := h.alloc h.size o
theorem bthen' {w w1 w2 : World} (h : Below w.heap.size w w1) (k : Below w1.heap.size w1 w2) : Below w.heap.size w w2 := bthen h k h.size
section
variable {α : Type}
/-- A slice that reads as xs. -/
def Rd (d : Ty α) (w : World) (F : Nat → Prop) (v : Value) (xs : List α) : Prop :=
  ∃ A c, v = .slice A xs.length c ∧ xs.length ≤ c ∧ xs.length ≤ 9223372036854775807 ∧
    (0 < xs.length → ∃ b o, A = some ⟨b, o, none⟩ ∧ F b ∧ b < w.heap.size ∧
      ∀ j x, xs[j]? = some x → ∃ cs, d.rel w F x cs ∧ ∀ i u, cs[i]? = some u → w.cell? ⟨b, o + j * d.sz + i, none⟩ = some u)

variable {d : Ty α} {w w' : World} {F F' : Nat → Prop} {v : Value} {xs : List α}
theorem Rd.nil (d : Ty α) (w : World) (F : Nat → Prop) : Rd d w F (.slice none 0 0) [] := ⟨none, 0, rfl, Nat.le_refl _, by simp, fun h => absurd h (by simp)⟩
theorem Rd.mono (hF : ∀ k, F k → F' k) (h : Rd d w F v xs) : Rd d w F' v xs := by
  obtain ⟨A, c, rfl, h1, h2, h3⟩ := h
  refine ⟨A, c, rfl, h1, h2, fun hp => ?_⟩
  obtain ⟨b, o, rfl, hb, hlt, hc⟩ := h3 hp
  refine ⟨b, o, rfl, hF _ hb, hlt, fun j x hj => ?_⟩
  obtain ⟨cs, hr, hu⟩ := hc j x hj
  exact ⟨cs, d.mono hF hr, hu⟩
theorem Rd.move (hm : ∀ k, F k → w'.heap[k]? = w.heap[k]?) (h : Rd d w F v xs) : Rd d w' F v xs := by
  obtain ⟨A, c, rfl, h1, h2, h3⟩ := h
  refine ⟨A, c, rfl, h1, h2, fun hp => ?_⟩
  obtain ⟨b, o, rfl, hb, hlt, hc⟩ := h3 hp
  have hbb := hm b hb
  have hlt' : b < w'.heap.size := by
    have : w.heap[b]? = some w.heap[b] := Array.getElem?_eq_getElem hlt
    rw [this] at hbb
    exact (Array.getElem?_eq_some_iff.1 hbb).1
  refine ⟨b, o, rfl, hb, hlt', fun j x hj => ?_⟩
  obtain ⟨cs, hr, hu⟩ := hc j x hj
  exact ⟨cs, d.move hm hr, fun i u hi => (World.cell?_of_block (w := w) hbb).trans (hu i u hi)⟩
theorem Rd.bound (h : Rd d w F v xs) : Rd d w (fun k => F k ∧ k < w.heap.size) v xs := by
  obtain ⟨A, c, rfl, h1, h2, h3⟩ := h
  refine ⟨A, c, rfl, h1, h2, fun hp => ?_⟩
  obtain ⟨b, o, rfl, hb, hlt, hc⟩ := h3 hp
  refine ⟨b, o, rfl, ⟨hb, hlt⟩, hlt, fun j x hj => ?_⟩
  obtain ⟨cs, hr, hu⟩ := hc j x hj
  exact ⟨cs, d.bound hr, hu⟩
/-- What changes neither is a block of F: what was read is read. -/
theorem Rd.keep (h : Rd d w F v xs) (hm : ∀ k, F k → k < w.heap.size → w'.heap[k]? = w.heap[k]?) : Rd d w' F v xs :=
  ((h.bound).move (fun k hk => hm k hk.1 hk.2)).mono (fun _ hk => hk.1)
theorem Rd.below (h : Rd d w F v xs) (hb : Below w.heap.size w w') : Rd d w' F v xs := h.keep fun k _ hk => hb.block k hk
theorem Ty.keep {x : α} {cs : List Value} (h : d.rel w F x cs) (hm : ∀ k, F k → k < w.heap.size → w'.heap[k]? = w.heap[k]?) : d.rel w' F x cs :=
  d.mono (fun _ hk => hk.1) (d.move (fun k hk => hm k hk.1 hk.2) (d.bound h))
theorem Ty.below {x : α} {cs : List Value} (h : d.rel w F x cs) (hb : Below w.heap.size w w') : d.rel w' F x cs := Ty.keep h fun k _ hk => hb.block k hk
/-- The element at a place. -/
theorem Rd.at_ {A : Option Addr} {n c : Nat} (h : Rd d w F (.slice A n c) xs) (j : Nat) (hj : j < xs.length) :
    ∃ b o cs, A = some ⟨b, o, none⟩ ∧ F b ∧ b < w.heap.size ∧ d.rel w F xs[j] cs ∧ ∀ i u, cs[i]? = some u → w.cell? ⟨b, o + j * d.sz + i, none⟩ = some u := by
  obtain ⟨A', c', he, _, _, h3⟩ := h
  injection he with hA _ _
  subst hA
  obtain ⟨b, o, rfl, hb, hlt, hc⟩ := h3 (by omega)
  obtain ⟨cs, hr, hu⟩ := hc j xs[j] (List.getElem?_eq_getElem hj)
  exact ⟨b, o, cs, rfl, hb, hlt, hr, hu⟩
theorem Rd.len_ {A : Option Addr} {n c : Nat} (h : Rd d w F (.slice A n c) xs) : n = xs.length ∧ xs.length ≤ c ∧ xs.length ≤ 9223372036854775807 := by
  obtain ⟨A', c', he, h1, h2, _⟩ := h
  injection he with _ hn hc
  subst hn hc
  exact ⟨rfl, h1, h2⟩

/-- A flat type: each datum is a fixed list of one-cell values. -/
def flat (cells : α → List Value) (sz : Nat) (hl : ∀ x, (cells x).length = sz) (ho : ∀ x, ∀ u ∈ cells x, u.oneCell' = true) : Ty α where
  sz := sz
  rel := fun _ _ x cs => cs = cells x
  len := fun h => by subst h; exact hl _
  one := fun h => by subst h; exact ho _
  mono := fun _ h => h
  move := fun _ h => h
  bound := fun h => h
end

def tInt (k : IntKind) : Ty Int := flat (fun x => [.int k x]) 1 (fun _ => rfl) (fun _ u hu => by simp at hu; subst hu; rfl)
def OpD.cells (o : OpD) : List Value := [.int .i64 o.d, .int .i64 o.a, .int .i64 o.b, .int .i64 o.c, .int .i64 o.e]
def StD.cells (s : StD) : List Value := [.int .i64 s.x, .int .i64 s.y, .int .i64 s.c]
def EvD.cells (e : EvD) : List Value := [.int .i64 e.time, .int .i64 e.to, .int .i64 e.from_, .int .i64 e.count, .int .i64 e.n, .int .i64 e.kind, .int .i64 e.arg]
def OutD.cells (o : OutD) : List Value := [.int .i64 o.time, .int .i64 o.proc, .int .i64 o.count, .int .i64 o.n, .int .i64 o.value]
def tOp : Ty OpD := flat OpD.cells 5 (fun _ => rfl) (fun _ u hu => by simp [OpD.cells] at hu; rcases hu with rfl | rfl | rfl | rfl | rfl <;> rfl)
def tSt : Ty StD := flat StD.cells 3 (fun _ => rfl) (fun _ u hu => by simp [StD.cells] at hu; rcases hu with rfl | rfl | rfl <;> rfl)
def tEv : Ty EvD := flat EvD.cells 7 (fun _ => rfl) (fun _ u hu => by simp [EvD.cells] at hu; rcases hu with rfl | rfl | rfl | rfl | rfl | rfl | rfl <;> rfl)
def tOut : Ty OutD := flat OutD.cells 5 (fun _ => rfl) (fun _ u hu => by simp [OutD.cells] at hu; rcases hu with rfl | rfl | rfl | rfl | rfl <;> rfl)

/- The cells of an element at a place. -/
theorem op_at {w : World} {F : Nat → Prop} {A : Option Addr} {n c : Nat} {xs : List OpD} (h : Rd tOp w F (.slice A n c) xs) (j : Nat) (hj : j < xs.length) :
    ∃ b o, A = some ⟨b, o, none⟩ ∧ b < w.heap.size ∧ w.cell? ⟨b, o + j * 5, none⟩ = some (.int .i64 xs[j].d) ∧ w.cell? ⟨b, o + j * 5 + 1, none⟩ = some (.int .i64 xs[j].a) ∧ w.cell? ⟨b, o + j * 5 + 2, none⟩ = some (.int .i64 xs[j].b) ∧ w.cell? ⟨b, o + j * 5 + 3, none⟩ = some (.int .i64 xs[j].c) ∧ w.cell? ⟨b, o + j * 5 + 4, none⟩ = some (.int .i64 xs[j].e) := by
  obtain ⟨b, o, cs, rfl, _, hlt, hr, hu⟩ := h.at_ j hj
  obtain rfl : cs = _ := hr
  exact ⟨b, o, rfl, hlt, hu 0 _ rfl, hu 1 _ rfl, hu 2 _ rfl, hu 3 _ rfl, hu 4 _ rfl⟩
theorem ev_at {w : World} {F : Nat → Prop} {A : Option Addr} {n c : Nat} {xs : List EvD} (h : Rd tEv w F (.slice A n c) xs) (j : Nat) (hj : j < xs.length) :
    ∃ b o, A = some ⟨b, o, none⟩ ∧ b < w.heap.size ∧ w.cell? ⟨b, o + j * 7, none⟩ = some (.int .i64 xs[j].time) ∧ w.cell? ⟨b, o + j * 7 + 1, none⟩ = some (.int .i64 xs[j].to) ∧ w.cell? ⟨b, o + j * 7 + 2, none⟩ = some (.int .i64 xs[j].from_) ∧ w.cell? ⟨b, o + j * 7 + 3, none⟩ = some (.int .i64 xs[j].count) ∧ w.cell? ⟨b, o + j * 7 + 4, none⟩ = some (.int .i64 xs[j].n) ∧ w.cell? ⟨b, o + j * 7 + 5, none⟩ = some (.int .i64 xs[j].kind) ∧ w.cell? ⟨b, o + j * 7 + 6, none⟩ = some (.int .i64 xs[j].arg) := by
  obtain ⟨b, o, cs, rfl, _, hlt, hr, hu⟩ := h.at_ j hj
  obtain rfl : cs = _ := hr
  exact ⟨b, o, rfl, hlt, hu 0 _ rfl, hu 1 _ rfl, hu 2 _ rfl, hu 3 _ rfl, hu 4 _ rfl, hu 5 _ rfl, hu 6 _ rfl⟩
theorem out_at {w : World} {F : Nat → Prop} {A : Option Addr} {n c : Nat} {xs : List OutD} (h : Rd tOut w F (.slice A n c) xs) (j : Nat) (hj : j < xs.length) :
    ∃ b o, A = some ⟨b, o, none⟩ ∧ b < w.heap.size ∧ w.cell? ⟨b, o + j * 5, none⟩ = some (.int .i64 xs[j].time) ∧ w.cell? ⟨b, o + j * 5 + 1, none⟩ = some (.int .i64 xs[j].proc) ∧ w.cell? ⟨b, o + j * 5 + 2, none⟩ = some (.int .i64 xs[j].count) ∧ w.cell? ⟨b, o + j * 5 + 3, none⟩ = some (.int .i64 xs[j].n) ∧ w.cell? ⟨b, o + j * 5 + 4, none⟩ = some (.int .i64 xs[j].value) := by
  obtain ⟨b, o, cs, rfl, _, hlt, hr, hu⟩ := h.at_ j hj
  obtain rfl : cs = _ := hr
  exact ⟨b, o, rfl, hlt, hu 0 _ rfl, hu 1 _ rfl, hu 2 _ rfl, hu 3 _ rfl, hu 4 _ rfl⟩

/- Rules and programs, as they are read. -/
def tRule : Ty RuleD where
  sz := 2
  rel := fun w F x cs => ∃ v, cs = [.int .i64 x.kind, v] ∧ Rd tOp w F v x.ops
  len := fun ⟨v, h, _⟩ => by rw [h]; rfl
  one := fun ⟨v, h, hr⟩ u hu => by
    obtain ⟨A, c, rfl, _⟩ := hr
    rw [h] at hu; simp at hu; rcases hu with rfl | rfl <;> rfl
  mono := fun hF ⟨v, h, hr⟩ => ⟨v, h, hr.mono hF⟩
  move := fun hm ⟨v, h, hr⟩ => ⟨v, h, hr.move hm⟩
  bound := fun ⟨v, h, hr⟩ => ⟨v, h, hr.bound⟩
def tApp : Ty AppD where
  sz := 1
  rel := fun w F x cs => ∃ v, cs = [v] ∧ Rd tRule w F v x.rules
  len := fun ⟨v, h, _⟩ => by rw [h]; rfl
  one := fun ⟨v, h, hr⟩ u hu => by
    obtain ⟨A, c, rfl, _⟩ := hr
    rw [h] at hu; simp at hu; rcases hu with rfl; rfl
  mono := fun hF ⟨v, h, hr⟩ => ⟨v, h, hr.mono hF⟩
  move := fun hm ⟨v, h, hr⟩ => ⟨v, h, hr.move hm⟩
  bound := fun ⟨v, h, hr⟩ => ⟨v, h, hr.bound⟩
theorem rule_at {w : World} {F : Nat → Prop} {A : Option Addr} {n c : Nat} {xs : List RuleD} (h : Rd tRule w F (.slice A n c) xs) (j : Nat) (hj : j < xs.length) :
    ∃ b o A1 c1, A = some ⟨b, o, none⟩ ∧ b < w.heap.size ∧ w.cell? ⟨b, o + j * 2, none⟩ = some (.int .i64 xs[j].kind) ∧ w.cell? ⟨b, o + j * 2 + 1, none⟩ = some (.slice A1 xs[j].ops.length c1) ∧ Rd tOp w F (.slice A1 xs[j].ops.length c1) xs[j].ops := by
  obtain ⟨b, o, cs, rfl, _, hlt, ⟨v, rfl, hr⟩, hu⟩ := h.at_ j hj
  obtain ⟨A1, c1, rfl, _⟩ := id hr
  exact ⟨b, o, A1, c1, rfl, hlt, hu 0 _ rfl, hu 1 _ rfl, hr⟩
theorem app_at {w : World} {F : Nat → Prop} {A : Option Addr} {n c : Nat} {xs : List AppD} (h : Rd tApp w F (.slice A n c) xs) (j : Nat) (hj : j < xs.length) :
    ∃ b o A1 c1, A = some ⟨b, o, none⟩ ∧ b < w.heap.size ∧ w.cell? ⟨b, o + j, none⟩ = some (.slice A1 xs[j].rules.length c1) ∧ Rd tRule w F (.slice A1 xs[j].rules.length c1) xs[j].rules := by
  obtain ⟨b, o, cs, rfl, _, hlt, ⟨v, rfl, hr⟩, hu⟩ := h.at_ j hj
  obtain ⟨A1, c1, rfl, _⟩ := id hr
  have := hu 0 _ rfl
  simp only [tApp, Nat.mul_one, Nat.add_zero] at this
  exact ⟨b, o, A1, c1, rfl, hlt, this, hr⟩
end Go.Proofs.YtbcemldiahghcaaGreat
