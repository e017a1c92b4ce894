/- Texts joined: Mod, Base, Own. -/
import Derived.Test.YtbcemldiahghcaaGreatProg
import Derived.WalkKit
import Derived.WalkSpells
import Derived.WalkLawsBesides
import Derived.Deep.QuietTactic
import Derived.BigQuiet
import Derived.Deep.LoopGhost
import Derived.KernelRfl
namespace Go.Proofs.YtbcemldiahghcaaGreat

structure OpD where
  d : Int
  a : Int
  b : Int
  c : Int
  e : Int
  deriving DecidableEq, Inhabited
structure RuleD where
  kind : Int
  ops : List OpD
  deriving DecidableEq, Inhabited
structure AppD where
  rules : List RuleD
  deriving DecidableEq, Inhabited
structure StD where
  x : Int
  y : Int
  c : Int
  deriving DecidableEq, Inhabited
structure EvD where
  time : Int
  to : Int
  from_ : Int
  count : Int
  n : Int
  kind : Int
  arg : Int
  deriving DecidableEq, Inhabited
structure OutD where
  time : Int
  proc : Int
  count : Int
  n : Int
  value : Int
  deriving DecidableEq, Inhabited

def st0 : StD := ⟨0, 0, 0⟩

/-- v within low..high. -/
def inn (v l h : Int) : Bool := decide (l ≤ v) && decide (v ≤ h)
theorem inn_iff {v l h : Int} : inn v l h = true ↔ l ≤ v ∧ v ≤ h := by simp [inn]

def opOk (o : OpD) : Bool :=
  if o.d = 1 ∨ o.d = 3 then inn o.a 0 1 && (inn o.b 0 999 && (o.c == 0 && o.e == 0))
  else if o.d = 2 then inn o.a 0 1 && (inn o.b 0 1 && (o.c == 0 && o.e == 0))
  else if o.d = 4 ∨ o.d = 7 then inn o.a 0 1 && (o.b == 0 && (o.c == 0 && o.e == 0))
  else if o.d = 5 then inn o.a 0 1 && (inn o.b 0 999 && (inn o.c 1 8 && o.e == 0))
  else if o.d = 6 then inn o.a 0 3 && (inn o.b 0 3 && (inn o.c 1 40 && inn o.e 0 1))
  else false

def cnt (k : Int) (l : List OpD) : Nat := (l.filter fun o => decide (o.d = k)).length
/-- a rule's ops are in form, few enough, at most two sends and two outs. -/
def opsOk (l : List OpD) : Bool := l.all opOk && decide (l.length ≤ 8) && decide (cnt 6 l ≤ 2) && decide (cnt 7 l ≤ 2)
def ruleOk (r : RuleD) : Bool := inn r.kind 0 3 && opsOk r.ops
/-- rules ascending by kind -/
def ascR : List RuleD → Bool
  | [] => true
  | [_] => true
  | a :: b :: l => decide (a.kind < b.kind) && ascR (b :: l)
theorem ascR_snoc (l : List RuleD) (a : RuleD) : ascR (l ++ [a]) = (ascR l && match l.getLast? with | none => true | some b => decide (b.kind < a.kind)) := by
  induction l with
  | nil => rfl
  | cons x l ih =>
    cases l with
    | nil => simp [ascR]
    | cons y l =>
      simp only [List.cons_append, ascR] at ih ⊢
      rw [ih, Bool.and_assoc]
      simp [List.getLast?_cons_cons]
def appOk (a : AppD) : Bool := decide (a.rules.length ≤ 4) && a.rules.all ruleOk && ascR a.rules
def appsOk (l : List AppD) : Bool := decide (l.length = 4) && l.all appOk

def stOk (s : StD) : Bool := inn s.x 0 999 && inn s.y 0 999 && inn s.c 0 12
def evOk (e : EvD) : Bool := inn e.time 0 40 && inn e.to 0 3 && inn e.from_ (-1) 3 && inn e.count 0 12 && inn e.n 0 3 && inn e.kind 0 3 && inn e.arg 0 999
def outOk (o : OutD) : Bool := inn o.time 0 40 && inn o.proc 0 3 && inn o.count 0 11 && inn o.n 0 1 && inn o.value 0 999

/-- a rule that is being done -/
structure RunD where
  x : Int
  y : Int
  sends : List EvD
  outs : List OutD
  deriving DecidableEq, Inhabited
def RunD.get (r : RunD) (k : Int) : Int := if k = 0 then r.x else r.y
def RunD.put (r : RunD) (k v : Int) : RunD := if k = 0 then { r with x := v % 1000 } else { r with y := v % 1000 }
/-- one op: the run behind it, and how many ops are left out -/
def doOp (e : EvD) (c : Int) (o : OpD) (r : RunD) : RunD × Int :=
  if o.d = 1 then (r.put o.a o.b, 0)
  else if o.d = 2 then (r.put o.a (r.get o.a + r.get o.b), 0)
  else if o.d = 3 then (r.put o.a (r.get o.a + o.b), 0)
  else if o.d = 4 then (r.put o.a e.arg, 0)
  else if o.d = 5 then (if r.get o.a < o.b then (r, o.c) else (r, 0))
  else if o.d = 6 then (if e.time + o.c ≤ 40 then ({ r with sends := r.sends ++ [⟨e.time + o.c, o.a, e.to, c, (r.sends.length : Int), o.b, r.get o.e⟩] }, 0) else (r, 0))
  else if o.d = 7 then ({ r with outs := r.outs ++ [⟨e.time, e.to, c, (r.outs.length : Int), r.get o.a⟩] }, 0)
  else (r, 0)
/-- the ops from place k on (n: how many rounds at most) -/
def doOps (e : EvD) (c : Int) : Nat → List OpD → RunD → RunD
  | 0, _, r => r
  | _, [], r => r
  | n + 1, o :: l, r => doOps e c n (l.drop (doOp e c o r).2.toNat) (doOp e c o r).1
def doRules (e : EvD) (c : Int) (l : List RuleD) (r : RunD) : RunD :=
  l.foldl (fun r q => if q.kind = e.kind then doOps e c q.ops.length q.ops r else r) r
def appRun (a : AppD) (s : StD) (e : EvD) : StD × List EvD × List OutD :=
  if appOk a && stOk s && evOk e then
    if s.c = 12 then (s, [], [])
    else
      let r := doRules e s.c a.rules ⟨s.x, s.y, [], []⟩
      (⟨r.x, r.y, s.c + 1⟩, r.sends, r.outs)
  else (st0, [], [])

end Go.Proofs.YtbcemldiahghcaaGreat

namespace Go.Proofs.YtbcemldiahghcaaGreat
set_option linter.unusedVariables false
set_option linter.unusedSimpArgs false
open Go.RowKit

theorem hid {p : Prop} (h : p) : Hid p := h
/-- How a datum lies in cells; F: the blocks that it reaches. -/
structure Ty (α : Type) where
  sz : Nat
  rel : World → (Nat → Prop) → α → List Value → Prop
  len : ∀ {w F x cs}, rel w F x cs → cs.length = sz
  one : ∀ {w F x cs}, rel w F x cs → ∀ u ∈ cs, u.oneCell' = true
  mono : ∀ {w F F' x cs}, (∀ k, F k → F' k) → rel w F x cs → rel w F' x cs
  move : ∀ {w w' F x cs}, (∀ k, F k → w'.heap[k]? = w.heap[k]?) → rel w F x cs → rel w' F x cs
  bound : ∀ {w F x cs}, rel w F x cs → rel w (fun k => F k ∧ k < w.heap.size) x cs

theorem bcell {W w1 : World} (hb : Below W.heap.size W w1) : (∀ b o, b < W.heap.size → w1.cell? ⟨b, o, none⟩ = W.cell? ⟨b, o, none⟩) ∧ (∀ b o, b < W.heap.size → w1.frozen? ⟨b, o, none⟩ = W.frozen? ⟨b, o, none⟩) :=
  ⟨fun b o h => hb.cell (p := ⟨b, o, none⟩) h, fun b o h => hb.frozen (p := ⟨b, o, none⟩) h⟩
theorem bthen {B : Nat} {w w1 w2 : World} (h : Below B w w1) (k : Below w1.heap.size w1 w2) (hB : B ≤ w1.heap.size) : Below B w w2 :=
  h.trans ⟨k.os, k.tape, k.output, k.size, fun i hi => k.block i (Nat.lt_of_lt_of_le hi hB)⟩
theorem bdrewN {B : Nat} {w W : World} (h : Below B w W) (n : Nat) : Below B w (W.drewN n) := ⟨h.os, h.tape, h.output, h.size, h.block⟩
theorem balloc {w W : World} (h : Below w.heap.size w W) (o : Obj) : Below w.heap.size w (W.alloc o) := h.alloc h.size o
theorem bthen' {w w1 w2 : World} (h : Below w.heap.size w w1) (k : Below w1.heap.size w1 w2) : Below w.heap.size w w2 := bthen h k h.size
theorem drw {w : World} (n m : Nat) : ∃ k, (w.drewN n).drewN m = w.drewN k := ⟨_, World.drewN_drewN ..⟩

section
variable {α : Type}
/-- A slice that reads as xs. -/
def Rd (d : Ty α) (w : World) (F : Nat → Prop) (v : Value) (xs : List α) : Prop :=
  ∃ A c, v = .slice A xs.length c ∧ xs.length ≤ c ∧ xs.length ≤ 9223372036854775807 ∧
    (0 < xs.length → ∃ b o, A = some ⟨b, o, none⟩ ∧ F b ∧ b < w.heap.size ∧
      ∀ j x, xs[j]? = some x → ∃ cs, d.rel w F x cs ∧ ∀ i u, cs[i]? = some u → w.cell? ⟨b, o + j * d.sz + i, none⟩ = some u)

variable {d : Ty α} {w w' : World} {F F' : Nat → Prop} {v : Value} {xs : List α}
theorem Rd.nil (d : Ty α) (w : World) (F : Nat → Prop) : Rd d w F (.slice none 0 0) [] := ⟨none, 0, rfl, Nat.le_refl _, by simp, fun h => absurd h (by simp)⟩
theorem Rd.mono (hF : ∀ k, F k → F' k) (h : Rd d w F v xs) : Rd d w F' v xs := by
  obtain ⟨A, c, rfl, h1, h2, h3⟩ := h
  refine ⟨A, c, rfl, h1, h2, fun hp => ?_⟩
  obtain ⟨b, o, rfl, hb, hlt, hc⟩ := h3 hp
  refine ⟨b, o, rfl, hF _ hb, hlt, fun j x hj => ?_⟩
  obtain ⟨cs, hr, hu⟩ := hc j x hj
  exact ⟨cs, d.mono hF hr, hu⟩
theorem Rd.move (hm : ∀ k, F k → w'.heap[k]? = w.heap[k]?) (h : Rd d w F v xs) : Rd d w' F v xs := by
  obtain ⟨A, c, rfl, h1, h2, h3⟩ := h
  refine ⟨A, c, rfl, h1, h2, fun hp => ?_⟩
  obtain ⟨b, o, rfl, hb, hlt, hc⟩ := h3 hp
  have hbb := hm b hb
  have hlt' : b < w'.heap.size := by
    have : w.heap[b]? = some w.heap[b] := Array.getElem?_eq_getElem hlt
    rw [this] at hbb
    exact (Array.getElem?_eq_some_iff.1 hbb).1
  refine ⟨b, o, rfl, hb, hlt', fun j x hj => ?_⟩
  obtain ⟨cs, hr, hu⟩ := hc j x hj
  exact ⟨cs, d.move hm hr, fun i u hi => (World.cell?_of_block (w := w) hbb).trans (hu i u hi)⟩
theorem Rd.bound (h : Rd d w F v xs) : Rd d w (fun k => F k ∧ k < w.heap.size) v xs := by
  obtain ⟨A, c, rfl, h1, h2, h3⟩ := h
  refine ⟨A, c, rfl, h1, h2, fun hp => ?_⟩
  obtain ⟨b, o, rfl, hb, hlt, hc⟩ := h3 hp
  refine ⟨b, o, rfl, ⟨hb, hlt⟩, hlt, fun j x hj => ?_⟩
  obtain ⟨cs, hr, hu⟩ := hc j x hj
  exact ⟨cs, d.bound hr, hu⟩
/-- What changes neither is a block of F: what was read is read. -/
theorem Rd.keep (h : Rd d w F v xs) (hm : ∀ k, F k → k < w.heap.size → w'.heap[k]? = w.heap[k]?) : Rd d w' F v xs :=
  ((h.bound).move (fun k hk => hm k hk.1 hk.2)).mono (fun _ hk => hk.1)
theorem Rd.below (h : Rd d w F v xs) (hb : Below w.heap.size w w') : Rd d w' F v xs := h.keep fun k _ hk => hb.block k hk
theorem Ty.keep {x : α} {cs : List Value} (h : d.rel w F x cs) (hm : ∀ k, F k → k < w.heap.size → w'.heap[k]? = w.heap[k]?) : d.rel w' F x cs :=
  d.mono (fun _ hk => hk.1) (d.move (fun k hk => hm k hk.1 hk.2) (d.bound h))
theorem Ty.below {x : α} {cs : List Value} (h : d.rel w F x cs) (hb : Below w.heap.size w w') : d.rel w' F x cs := Ty.keep h fun k _ hk => hb.block k hk
/-- The element at a place. -/
theorem Rd.at_ {A : Option Addr} {n c : Nat} (h : Rd d w F (.slice A n c) xs) (j : Nat) (hj : j < xs.length) :
    ∃ b o cs, A = some ⟨b, o, none⟩ ∧ F b ∧ b < w.heap.size ∧ d.rel w F xs[j] cs ∧ ∀ i u, cs[i]? = some u → w.cell? ⟨b, o + j * d.sz + i, none⟩ = some u := by
  obtain ⟨A', c', he, _, _, h3⟩ := h
  injection he with hA _ _
  subst hA
  obtain ⟨b, o, rfl, hb, hlt, hc⟩ := h3 (by omega)
  obtain ⟨cs, hr, hu⟩ := hc j xs[j] (List.getElem?_eq_getElem hj)
  exact ⟨b, o, cs, rfl, hb, hlt, hr, hu⟩
theorem Rd.len_ {A : Option Addr} {n c : Nat} (h : Rd d w F (.slice A n c) xs) : n = xs.length ∧ xs.length ≤ c ∧ xs.length ≤ 9223372036854775807 := by
  obtain ⟨A', c', he, h1, h2, _⟩ := h
  injection he with _ hn hc
  subst hn hc
  exact ⟨rfl, h1, h2⟩

/-- A flat type: each datum is a fixed list of one-cell values. -/
def flat (cells : α → List Value) (sz : Nat) (hl : ∀ x, (cells x).length = sz) (ho : ∀ x, ∀ u ∈ cells x, u.oneCell' = true) : Ty α where
  sz := sz
  rel := fun _ _ x cs => cs = cells x
  len := fun h => by subst h; exact hl _
  one := fun h => by subst h; exact ho _
  mono := fun _ h => h
  move := fun _ h => h
  bound := fun h => h
end

def tInt (k : IntKind) : Ty Int := flat (fun x => [.int k x]) 1 (fun _ => rfl) (fun _ u hu => by simp at hu; subst hu; rfl)
def OpD.cells (o : OpD) : List Value := [.int .i64 o.d, .int .i64 o.a, .int .i64 o.b, .int .i64 o.c, .int .i64 o.e]
def StD.cells (s : StD) : List Value := [.int .i64 s.x, .int .i64 s.y, .int .i64 s.c]
def EvD.cells (e : EvD) : List Value := [.int .i64 e.time, .int .i64 e.to, .int .i64 e.from_, .int .i64 e.count, .int .i64 e.n, .int .i64 e.kind, .int .i64 e.arg]
def OutD.cells (o : OutD) : List Value := [.int .i64 o.time, .int .i64 o.proc, .int .i64 o.count, .int .i64 o.n, .int .i64 o.value]
def tOp : Ty OpD := flat OpD.cells 5 (fun _ => rfl) (fun _ u hu => by simp [OpD.cells] at hu; rcases hu with rfl | rfl | rfl | rfl | rfl <;> rfl)
def tSt : Ty StD := flat StD.cells 3 (fun _ => rfl) (fun _ u hu => by simp [StD.cells] at hu; rcases hu with rfl | rfl | rfl <;> rfl)
def tEv : Ty EvD := flat EvD.cells 7 (fun _ => rfl) (fun _ u hu => by simp [EvD.cells] at hu; rcases hu with rfl | rfl | rfl | rfl | rfl | rfl | rfl <;> rfl)
def tOut : Ty OutD := flat OutD.cells 5 (fun _ => rfl) (fun _ u hu => by simp [OutD.cells] at hu; rcases hu with rfl | rfl | rfl | rfl | rfl <;> rfl)

/- The cells of an element at a place. -/
theorem op_at {w : World} {F : Nat → Prop} {A : Option Addr} {n c : Nat} {xs : List OpD} (h : Rd tOp w F (.slice A n c) xs) (j : Nat) (hj : j < xs.length) :
    ∃ b o, A = some ⟨b, o, none⟩ ∧ b < w.heap.size ∧ w.cell? ⟨b, o + j * 5, none⟩ = some (.int .i64 xs[j].d) ∧ w.cell? ⟨b, o + j * 5 + 1, none⟩ = some (.int .i64 xs[j].a) ∧ w.cell? ⟨b, o + j * 5 + 2, none⟩ = some (.int .i64 xs[j].b) ∧ w.cell? ⟨b, o + j * 5 + 3, none⟩ = some (.int .i64 xs[j].c) ∧ w.cell? ⟨b, o + j * 5 + 4, none⟩ = some (.int .i64 xs[j].e) := by
  obtain ⟨b, o, cs, rfl, _, hlt, hr, hu⟩ := h.at_ j hj
  obtain rfl : cs = _ := hr
  exact ⟨b, o, rfl, hlt, hu 0 _ rfl, hu 1 _ rfl, hu 2 _ rfl, hu 3 _ rfl, hu 4 _ rfl⟩
theorem st_at {w : World} {F : Nat → Prop} {A : Option Addr} {n c : Nat} {xs : List StD} (h : Rd tSt w F (.slice A n c) xs) (j : Nat) (hj : j < xs.length) :
    ∃ b o, A = some ⟨b, o, none⟩ ∧ b < w.heap.size ∧ w.cell? ⟨b, o + j * 3, none⟩ = some (.int .i64 xs[j].x) ∧ w.cell? ⟨b, o + j * 3 + 1, none⟩ = some (.int .i64 xs[j].y) ∧ w.cell? ⟨b, o + j * 3 + 2, none⟩ = some (.int .i64 xs[j].c) := by
  obtain ⟨b, o, cs, rfl, _, hlt, hr, hu⟩ := h.at_ j hj
  obtain rfl : cs = _ := hr
  exact ⟨b, o, rfl, hlt, hu 0 _ rfl, hu 1 _ rfl, hu 2 _ rfl⟩
theorem ev_at {w : World} {F : Nat → Prop} {A : Option Addr} {n c : Nat} {xs : List EvD} (h : Rd tEv w F (.slice A n c) xs) (j : Nat) (hj : j < xs.length) :
    ∃ b o, A = some ⟨b, o, none⟩ ∧ b < w.heap.size ∧ w.cell? ⟨b, o + j * 7, none⟩ = some (.int .i64 xs[j].time) ∧ w.cell? ⟨b, o + j * 7 + 1, none⟩ = some (.int .i64 xs[j].to) ∧ w.cell? ⟨b, o + j * 7 + 2, none⟩ = some (.int .i64 xs[j].from_) ∧ w.cell? ⟨b, o + j * 7 + 3, none⟩ = some (.int .i64 xs[j].count) ∧ w.cell? ⟨b, o + j * 7 + 4, none⟩ = some (.int .i64 xs[j].n) ∧ w.cell? ⟨b, o + j * 7 + 5, none⟩ = some (.int .i64 xs[j].kind) ∧ w.cell? ⟨b, o + j * 7 + 6, none⟩ = some (.int .i64 xs[j].arg) := by
  obtain ⟨b, o, cs, rfl, _, hlt, hr, hu⟩ := h.at_ j hj
  obtain rfl : cs = _ := hr
  exact ⟨b, o, rfl, hlt, hu 0 _ rfl, hu 1 _ rfl, hu 2 _ rfl, hu 3 _ rfl, hu 4 _ rfl, hu 5 _ rfl, hu 6 _ rfl⟩
theorem out_at {w : World} {F : Nat → Prop} {A : Option Addr} {n c : Nat} {xs : List OutD} (h : Rd tOut w F (.slice A n c) xs) (j : Nat) (hj : j < xs.length) :
    ∃ b o, A = some ⟨b, o, none⟩ ∧ b < w.heap.size ∧ w.cell? ⟨b, o + j * 5, none⟩ = some (.int .i64 xs[j].time) ∧ w.cell? ⟨b, o + j * 5 + 1, none⟩ = some (.int .i64 xs[j].proc) ∧ w.cell? ⟨b, o + j * 5 + 2, none⟩ = some (.int .i64 xs[j].count) ∧ w.cell? ⟨b, o + j * 5 + 3, none⟩ = some (.int .i64 xs[j].n) ∧ w.cell? ⟨b, o + j * 5 + 4, none⟩ = some (.int .i64 xs[j].value) := by
  obtain ⟨b, o, cs, rfl, _, hlt, hr, hu⟩ := h.at_ j hj
  obtain rfl : cs = _ := hr
  exact ⟨b, o, rfl, hlt, hu 0 _ rfl, hu 1 _ rfl, hu 2 _ rfl, hu 3 _ rfl, hu 4 _ rfl⟩

/- Rules and programs, as they are read. -/
def tRule : Ty RuleD where
  sz := 2
  rel := fun w F x cs => ∃ v, cs = [.int .i64 x.kind, v] ∧ Rd tOp w F v x.ops
  len := fun ⟨v, h, _⟩ => by rw [h]; rfl
  one := fun ⟨v, h, hr⟩ u hu => by
    obtain ⟨A, c, rfl, _⟩ := hr
    rw [h] at hu; simp at hu; rcases hu with rfl | rfl <;> rfl
  mono := fun hF ⟨v, h, hr⟩ => ⟨v, h, hr.mono hF⟩
  move := fun hm ⟨v, h, hr⟩ => ⟨v, h, hr.move hm⟩
  bound := fun ⟨v, h, hr⟩ => ⟨v, h, hr.bound⟩
def tApp : Ty AppD where
  sz := 1
  rel := fun w F x cs => ∃ v, cs = [v] ∧ Rd tRule w F v x.rules
  len := fun ⟨v, h, _⟩ => by rw [h]; rfl
  one := fun ⟨v, h, hr⟩ u hu => by
    obtain ⟨A, c, rfl, _⟩ := hr
    rw [h] at hu; simp at hu; rcases hu with rfl; rfl
  mono := fun hF ⟨v, h, hr⟩ => ⟨v, h, hr.mono hF⟩
  move := fun hm ⟨v, h, hr⟩ => ⟨v, h, hr.move hm⟩
  bound := fun ⟨v, h, hr⟩ => ⟨v, h, hr.bound⟩
theorem rule_at {w : World} {F : Nat → Prop} {A : Option Addr} {n c : Nat} {xs : List RuleD} (h : Rd tRule w F (.slice A n c) xs) (j : Nat) (hj : j < xs.length) :
    ∃ b o A1 c1, A = some ⟨b, o, none⟩ ∧ b < w.heap.size ∧ w.cell? ⟨b, o + j * 2, none⟩ = some (.int .i64 xs[j].kind) ∧ w.cell? ⟨b, o + j * 2 + 1, none⟩ = some (.slice A1 xs[j].ops.length c1) ∧ Rd tOp w F (.slice A1 xs[j].ops.length c1) xs[j].ops := by
  obtain ⟨b, o, cs, rfl, _, hlt, ⟨v, rfl, hr⟩, hu⟩ := h.at_ j hj
  obtain ⟨A1, c1, rfl, _⟩ := id hr
  exact ⟨b, o, A1, c1, rfl, hlt, hu 0 _ rfl, hu 1 _ rfl, hr⟩
theorem app_at {w : World} {F : Nat → Prop} {A : Option Addr} {n c : Nat} {xs : List AppD} (h : Rd tApp w F (.slice A n c) xs) (j : Nat) (hj : j < xs.length) :
    ∃ b o A1 c1, A = some ⟨b, o, none⟩ ∧ b < w.heap.size ∧ w.cell? ⟨b, o + j, none⟩ = some (.slice A1 xs[j].rules.length c1) ∧ Rd tRule w F (.slice A1 xs[j].rules.length c1) xs[j].rules := by
  obtain ⟨b, o, cs, rfl, _, hlt, ⟨v, rfl, hr⟩, hu⟩ := h.at_ j hj
  obtain ⟨A1, c1, rfl, _⟩ := id hr
  have := hu 0 _ rfl
  simp only [tApp, Nat.mul_one, Nat.add_zero] at this
  exact ⟨b, o, A1, c1, rfl, hlt, this, hr⟩
end Go.Proofs.YtbcemldiahghcaaGreat

namespace Go.Proofs.YtbcemldiahghcaaGreat
set_option linter.unusedVariables false
set_option linter.unusedSimpArgs false
open Go.RowKit

/-- w' is w but for blocks in S and new ones. -/
structure Ch (S : Nat → Prop) (w w' : World) : Prop where
  os : w'.os = w.os
  tape : w'.tape = w.tape
  output : w'.output = w.output
  size : w.heap.size ≤ w'.heap.size
  block : ∀ k, k < w.heap.size → ¬ S k → w'.heap[k]? = w.heap[k]?
section
variable {S S' : Nat → Prop} {w w1 w2 : World} {B : Nat}
theorem Ch.refl (S : Nat → Prop) (w : World) : Ch S w w := ⟨rfl, rfl, rfl, Nat.le_refl _, fun _ _ _ => rfl⟩
theorem Ch.trans (h : Ch S w w1) (k : Ch S w1 w2) : Ch S w w2 :=
  ⟨k.os.trans h.os, k.tape.trans h.tape, k.output.trans h.output, Nat.le_trans h.size k.size, fun i hi hn => (k.block i (Nat.lt_of_lt_of_le hi h.size) hn).trans (h.block i hi hn)⟩
theorem Ch.mono (hS : ∀ k, S k → S' k) (h : Ch S w w1) : Ch S' w w1 := ⟨h.os, h.tape, h.output, h.size, fun i hi hn => h.block i hi (fun hs => hn (hS i hs))⟩
/-- What a later call changes beside S' are blocks that are new to w. -/
theorem Ch.then (h : Ch S w w1) (k : Ch S' w1 w2) (hS : ∀ i, S' i → S i ∨ w.heap.size ≤ i) : Ch S w w2 :=
  ⟨k.os.trans h.os, k.tape.trans h.tape, k.output.trans h.output, Nat.le_trans h.size k.size, fun i hi hn =>
    (k.block i (Nat.lt_of_lt_of_le hi h.size) (fun hs => (hS i hs).elim hn (fun hw => absurd hi (Nat.not_lt.2 hw)))).trans (h.block i hi hn)⟩
theorem Ch.of_below (h : Below w.heap.size w w1) : Ch S w w1 := ⟨h.os, h.tape, h.output, h.size, fun i hi _ => h.block i hi⟩
theorem Ch.below (h : Ch S w w1) (hS : ∀ k, S k → B ≤ k) (hB : B ≤ w.heap.size) : Below B w w1 := ⟨h.os, h.tape, h.output, h.size, fun i hi => h.block i (by omega) (fun hs => by have := hS i hs; omega)⟩
theorem Ch.below0 (h : Ch (fun _ => False) w w1) : Below w.heap.size w w1 := h.below (fun _ hf => hf.elim) (Nat.le_refl _)
theorem Ch.alloc (h : Ch S w w1) (o : Obj) : Ch S w (w1.alloc o) := h.trans (Ch.of_below (balloc (Below.refl _ _) o))
theorem Ch.drew (h : Ch S w w1) : Ch S w w1.drew := ⟨h.os, h.tape, h.output, h.size, h.block⟩
theorem Ch.drewN (h : Ch S w w1) (n : Nat) : Ch S w (w1.drewN n) := ⟨h.os, h.tape, h.output, h.size, h.block⟩
theorem Ch.setCell (h : Ch S w w1) {p : Addr} (hp : S p.block ∨ w.heap.size ≤ p.block) (u : Value) : Ch S w (w1.setCell p u) :=
  ⟨h.os, h.tape, h.output, by have := h.size; simpa [World.setCell] using this, fun i hi hn => by
    rw [Below.heap_setCell _ _ _ _ (fun e => by subst e; rcases hp with hp | hp; exact hn hp; omega)]; exact h.block i hi hn⟩
theorem Ch.grown (h : Ch S w w1) {row : Option Nat} (hg : w1.grownBy w2 row) (hr : ∀ k, row = some k → S k ∨ w.heap.size ≤ k) : Ch S w w2 :=
  h.then (S' := fun k => row = some k) ⟨hg.os, hg.tape, hg.output, hg.size, fun i hi hn => hg.block i hi (fun e => hn e.symm)⟩ hr
theorem Ch.cell (h : Ch S w w1) {p : Addr} (hp : p.block < w.heap.size) (hn : ¬ S p.block) : w1.cell? p = w.cell? p := World.cell?_of_block (w := w) (h.block _ hp hn)
theorem Ch.frozen (h : Ch S w w1) {p : Addr} (hp : p.block < w.heap.size) (hn : ¬ S p.block) : w1.frozen? p = w.frozen? p := World.frozen?_of_block (w := w) (h.block _ hp hn)
/-- The two rules that the walk takes. -/
theorem Ch.cells (h : Ch S w w1) : (∀ b o, b < w.heap.size → ¬ S b → w1.cell? ⟨b, o, none⟩ = w.cell? ⟨b, o, none⟩) ∧ (∀ b o, b < w.heap.size → ¬ S b → w1.frozen? ⟨b, o, none⟩ = w.frozen? ⟨b, o, none⟩) :=
  ⟨fun b o hb hn => h.cell (p := ⟨b, o, none⟩) hb hn, fun b o hb hn => h.frozen (p := ⟨b, o, none⟩) hb hn⟩
theorem Ch.heap (h : Ch S w w1) {k : Nat} {o : Obj} (ho : w.heap[k]? = some o) (hn : ¬ S k) : w1.heap[k]? = some o := (h.block k (Array.getElem?_eq_some_iff.1 ho).1 hn).trans ho
end

section
variable {α : Type} {d : Ty α} {e : TypeId} {w w' : World} {F F' : Nat → Prop} {v : Value} {xs : List α}
theorem Rd.ch {S : Nat → Prop} (h : Rd d w F v xs) (hc : Ch S w w') (hS : ∀ k, F k → ¬ S k) : Rd d w' F v xs := h.keep fun k hk hlt => hc.block k hlt (hS k hk)

/-- A row of the call's own: type e; F: all its blocks. -/
def Ow (d : Ty α) (e : TypeId) (w : World) (F : Nat → Prop) (v : Value) (xs : List α) : Prop :=
  ∃ (cs : List Value) (Fs : Nat → Nat → Prop), w.ownsRow 0 e d.sz v xs.length cs ∧ (∀ g, v.ownBlock = some g → F g) ∧
    (∀ j k, Fs j k → F k ∧ some k ≠ v.ownBlock) ∧ (∀ i j k, i ≠ j → Fs i k → Fs j k → False) ∧
    ∀ j x, xs[j]? = some x → d.rel w (Fs j) x ((cs.drop (j * d.sz)).take d.sz)
theorem Ow.nil (d : Ty α) (e : TypeId) (w : World) (F : Nat → Prop) : Ow d e w F (.slice none 0 0) [] :=
  ⟨[], fun _ _ => False, World.ownsRow_nil _ _ _ _, fun g hg => by simp [Value.ownBlock] at hg, fun _ _ h => h.elim, fun _ _ _ _ h => h.elim, fun j x hj => by simp at hj⟩
theorem Ow.mono (hF : ∀ k, F k → F' k) (h : Ow d e w F v xs) : Ow d e w F' v xs := by
  obtain ⟨cs, Fs, h1, h2, h3, h4, h5⟩ := h
  exact ⟨cs, Fs, h1, fun g hg => hF g (h2 g hg), fun j k hk => ⟨hF k (h3 j k hk).1, (h3 j k hk).2⟩, h4, h5⟩
theorem ownsRow_move {base size n : Nat} {cs : List Value} (h : w.ownsRow base e size v n cs) (hm : ∀ k, v.ownBlock = some k → w'.heap[k]? = w.heap[k]?) : w'.ownsRow base e size v n cs := by
  obtain ⟨h1, h2⟩ := h
  refine ⟨h1, ?_⟩
  rcases h2 with h2 | ⟨g, cap, cur, rfl, hg, hh, r⟩
  · exact .inl h2
  · exact .inr ⟨g, cap, cur, rfl, hg, (hm g (by simp [Value.ownBlock])).trans hh, r⟩
theorem Ow.move (hm : ∀ k, F k → w'.heap[k]? = w.heap[k]?) (h : Ow d e w F v xs) : Ow d e w' F v xs := by
  obtain ⟨cs, Fs, h1, h2, h3, h4, h5⟩ := h
  exact ⟨cs, Fs, ownsRow_move h1 (fun k hk => hm k (h2 k hk)), h2, h3, h4, fun j x hj => d.move (fun k hk => hm k (h3 j k hk).1) (h5 j x hj)⟩
theorem Ow.bound (h : Ow d e w F v xs) : Ow d e w (fun k => F k ∧ k < w.heap.size) v xs := by
  obtain ⟨cs, Fs, h1, h2, h3, h4, h5⟩ := h
  exact ⟨cs, fun j k => Fs j k ∧ k < w.heap.size, h1, fun g hg => ⟨h2 g hg, (h1.lt g hg).2⟩, fun j k hk => ⟨⟨(h3 j k hk.1).1, hk.2⟩, (h3 j k hk.1).2⟩, fun i j k hn ha hb => h4 i j k hn ha.1 hb.1, fun j x hj => d.bound (h5 j x hj)⟩
theorem Ow.keep (h : Ow d e w F v xs) (hm : ∀ k, F k → k < w.heap.size → w'.heap[k]? = w.heap[k]?) : Ow d e w' F v xs :=
  ((h.bound).move (fun k hk => hm k hk.1 hk.2)).mono (fun _ hk => hk.1)
theorem Ow.below (h : Ow d e w F v xs) (hb : Below w.heap.size w w') : Ow d e w' F v xs := h.keep fun k _ hk => hb.block k hk
theorem Ow.ch {S : Nat → Prop} (h : Ow d e w F v xs) (hc : Ch S w w') (hS : ∀ k, F k → ¬ S k) : Ow d e w' F v xs := h.keep fun k hk hlt => hc.block k hlt (hS k hk)
theorem Ow.alloc (h : Ow d e w F v xs) (o : Obj) : Ow d e (w.alloc o) F v xs := h.below (balloc (Below.refl _ _) o)
theorem Ow.drewN (h : Ow d e w F v xs) (n : Nat) : Ow d e (w.drewN n) F v xs := Ow.move (w := w) (w' := w.drewN n) (fun _ _ => rfl) h
theorem Ow.block_lt (h : Ow d e w F v xs) {g : Nat} (hg : v.ownBlock = some g) : g < w.heap.size := by
  obtain ⟨cs, Fs, h1, _⟩ := h; exact (h1.lt g hg).2
theorem Ow.inF (h : Ow d e w F v xs) {g : Nat} (hg : v.ownBlock = some g) : F g := by
  obtain ⟨cs, Fs, h1, h2, _⟩ := h; exact h2 g hg
/-- The shape of an own slice. -/
theorem Ow.shape (h : Ow d e w F v xs) : ∃ A c, v = .slice A xs.length c ∧ xs.length ≤ 9223372036854775807 := by
  obtain ⟨cs, Fs, h1, _⟩ := h
  rcases h1.2 with ⟨rfl, h0⟩ | ⟨g, cap, cur, rfl, _, _, h2, h3, _⟩
  · exact ⟨none, 0, by rw [h0], by omega⟩
  · refine ⟨_, cap, rfl, ?_⟩
    simp only [maxLen] at h3; omega
theorem Ow.head (h : Ow d e w F v xs) (hp : 0 < xs.length) : ∃ g c cur, v = .slice (some ⟨g, 0, none⟩) xs.length c ∧ F g ∧ g < w.heap.size ∧ w.heap[g]? = some (.cells cur e (0, 0)) := by
  obtain ⟨cs, Fs, h1, h2, _⟩ := h
  rcases h1.2 with ⟨rfl, h0⟩ | ⟨g, cap, cur, rfl, _, hh, _⟩
  · omega
  · exact ⟨g, cap, cur, rfl, h2 g rfl, (h1.lt g rfl).2, hh⟩
theorem Ow.rd (h : Ow d e w F v xs) : Rd d w F v xs := by
  obtain ⟨cs, Fs, h1, h2, h3, h4, h5⟩ := h
  have hlen := h1.1
  rcases hx : h1.2 with ⟨hv, h0⟩ | ⟨g, cap, cur, hv, _, hh, hc1, hc2, hc3, hc4⟩
  · subst hv
    have : xs = [] := List.length_eq_zero_iff.1 h0
    subst this
    exact Rd.nil _ _ _
  · subst hv
    refine ⟨_, cap, rfl, hc1, by simp only [maxLen] at hc2; omega, fun hp => ⟨g, 0, rfl, h2 g rfl, (h1.lt g rfl).2, fun j x hj => ⟨_, d.mono (fun k hk => (h3 j k hk).1) (h5 j x hj), fun i u hi => ?_⟩⟩⟩
    rw [List.getElem?_take] at hi
    split at hi
    · rw [List.getElem?_drop] at hi
      have := h1.cells (g := g) rfl (j * d.sz + i) u hi
      have ha : (⟨g, 0, none⟩ : Addr).add (j * d.sz + i) = ⟨g, 0 + j * d.sz + i, none⟩ := by unfold Addr.add; split <;> simp_all <;> omega
      rwa [ha] at this
    · cases hi
/-- A flat own row out of the kit's. -/
theorem Ow.of_flat {cells : α → List Value} {sz : Nat} {hl : ∀ x, (cells x).length = sz} {ho : ∀ x, ∀ u ∈ cells x, u.oneCell' = true} {base : Nat}
    (h : w.ownsRow base e sz v xs.length (xs.flatMap cells)) (hF : ∀ g, v.ownBlock = some g → F g) : Ow (flat cells sz hl ho) e w F v xs := by
  refine ⟨xs.flatMap cells, fun _ _ => False, ?_, hF, fun _ _ h => h.elim, fun _ _ _ _ h => h.elim, ?_⟩
  · obtain ⟨h1, h2⟩ := h
    refine ⟨h1, ?_⟩
    rcases h2 with h2 | ⟨g, cap, cur, rfl, hg, r⟩
    · exact .inl h2
    · exact .inr ⟨g, cap, cur, rfl, Nat.zero_le _, r⟩
  · clear h hF
    induction xs with
    | nil => intro j x hj; simp at hj
    | cons y ys ih =>
      intro j x hj
      cases j with
      | zero =>
        have hxy : y = x := by simpa using hj
        subst hxy
        show _ = _
        simp only [flat, Nat.zero_mul, List.drop_zero, List.flatMap_cons]
        rw [← hl y, List.take_left]
      | succ j =>
        have := ih j x (by simpa using hj)
        simp only [flat, List.flatMap_cons] at this ⊢
        rw [Nat.succ_mul, Nat.add_comm, ← List.drop_drop, ← hl y, List.drop_left, hl y]
        exact this
end
end Go.Proofs.YtbcemldiahghcaaGreat
