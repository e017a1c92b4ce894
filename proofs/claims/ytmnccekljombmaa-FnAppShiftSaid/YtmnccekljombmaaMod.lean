/- Plain data and plain functions: what the program and the reference say of programs, states and events. No Go, no memory. -/
namespace Go.Proofs.Ytmnccekljombmaa

structure OpD where
  d : Int
  a : Int
  b : Int
  c : Int
  e : Int
  deriving DecidableEq, Inhabited
structure RuleD where
  kind : Int
  ops : List OpD
  deriving DecidableEq, Inhabited
structure AppD where
  rules : List RuleD
  deriving DecidableEq, Inhabited
structure StD where
  x : Int
  y : Int
  c : Int
  deriving DecidableEq, Inhabited
structure EvD where
  time : Int
  to : Int
  from_ : Int
  count : Int
  n : Int
  kind : Int
  arg : Int
  deriving DecidableEq, Inhabited
structure OutD where
  time : Int
  proc : Int
  count : Int
  n : Int
  value : Int
  deriving DecidableEq, Inhabited

def st0 : StD := ⟨0, 0, 0⟩

/-- v within low..high. -/
def inn (v l h : Int) : Bool := decide (l ≤ v) && decide (v ≤ h)
theorem inn_iff {v l h : Int} : inn v l h = true ↔ l ≤ v ∧ v ≤ h := by simp [inn]

def opOk (o : OpD) : Bool :=
  if o.d = 1 ∨ o.d = 3 then inn o.a 0 1 && (inn o.b 0 999 && (o.c == 0 && o.e == 0))
  else if o.d = 2 then inn o.a 0 1 && (inn o.b 0 1 && (o.c == 0 && o.e == 0))
  else if o.d = 4 ∨ o.d = 7 then inn o.a 0 1 && (o.b == 0 && (o.c == 0 && o.e == 0))
  else if o.d = 5 then inn o.a 0 1 && (inn o.b 0 999 && (inn o.c 1 8 && o.e == 0))
  else if o.d = 6 then inn o.a 0 3 && (inn o.b 0 3 && (inn o.c 1 40 && inn o.e 0 1))
  else false

def cnt (k : Int) (l : List OpD) : Nat := (l.filter fun o => decide (o.d = k)).length
/-- a rule's ops are in form, few enough, at most two sends and two outs. -/
def opsOk (l : List OpD) : Bool := l.all opOk && decide (l.length ≤ 8) && decide (cnt 6 l ≤ 2) && decide (cnt 7 l ≤ 2)
def ruleOk (r : RuleD) : Bool := inn r.kind 0 3 && opsOk r.ops
/-- rules ascending by kind -/
def ascR : List RuleD → Bool
  | [] => true
  | [_] => true
  | a :: b :: l => decide (a.kind < b.kind) && ascR (b :: l)
theorem ascR_snoc (l : List RuleD) (a : RuleD) : ascR (l ++ [a]) = (ascR l && match l.getLast? with | none => true | some b => decide (b.kind < a.kind)) := by
  induction l with
  | nil => rfl
  | cons x l ih =>
    cases l with
    | nil => simp [ascR]
    | cons y l =>
      simp only [List.cons_append, ascR] at ih ⊢
      rw [ih, Bool.and_assoc]
      simp [List.getLast?_cons_cons]
def appOk (a : AppD) : Bool := decide (a.rules.length ≤ 4) && a.rules.all ruleOk && ascR a.rules
def appsOk (l : List AppD) : Bool := decide (l.length = 4) && l.all appOk

def stOk (s : StD) : Bool := inn s.x 0 999 && inn s.y 0 999 && inn s.c 0 12
def evOk (e : EvD) : Bool := inn e.time 0 40 && inn e.to 0 3 && inn e.from_ (-1) 3 && inn e.count 0 12 && inn e.n 0 3 && inn e.kind 0 3 && inn e.arg 0 999
def outOk (o : OutD) : Bool := inn o.time 0 40 && inn o.proc 0 3 && inn o.count 0 11 && inn o.n 0 1 && inn o.value 0 999

/-- a rule that is being done -/
structure RunD where
  x : Int
  y : Int
  sends : List EvD
  outs : List OutD
  deriving DecidableEq, Inhabited
def RunD.get (r : RunD) (k : Int) : Int := if k = 0 then r.x else r.y
def RunD.put (r : RunD) (k v : Int) : RunD := if k = 0 then { r with x := v % 1000 } else { r with y := v % 1000 }
/-- one op: the run behind it, and how many ops are left out -/
def doOp (e : EvD) (c : Int) (o : OpD) (r : RunD) : RunD × Int :=
  if o.d = 1 then (r.put o.a o.b, 0)
  else if o.d = 2 then (r.put o.a (r.get o.a + r.get o.b), 0)
  else if o.d = 3 then (r.put o.a (r.get o.a + o.b), 0)
  else if o.d = 4 then (r.put o.a e.arg, 0)
  else if o.d = 5 then (if r.get o.a < o.b then (r, o.c) else (r, 0))
  else if o.d = 6 then (if e.time + o.c ≤ 40 then ({ r with sends := r.sends ++ [⟨e.time + o.c, o.a, e.to, c, (r.sends.length : Int), o.b, r.get o.e⟩] }, 0) else (r, 0))
  else if o.d = 7 then ({ r with outs := r.outs ++ [⟨e.time, e.to, c, (r.outs.length : Int), r.get o.a⟩] }, 0)
  else (r, 0)
/-- the ops from place k on (n: how many rounds at most) -/
def doOps (e : EvD) (c : Int) : Nat → List OpD → RunD → RunD
  | 0, _, r => r
  | _, [], r => r
  | n + 1, o :: l, r => doOps e c n (l.drop (doOp e c o r).2.toNat) (doOp e c o r).1
def doRules (e : EvD) (c : Int) (l : List RuleD) (r : RunD) : RunD :=
  l.foldl (fun r q => if q.kind = e.kind then doOps e c q.ops.length q.ops r else r) r
def appRun (a : AppD) (s : StD) (e : EvD) : StD × List EvD × List OutD :=
  if appOk a && stOk s && evOk e then
    if s.c = 12 then (s, [], [])
    else
      let r := doRules e s.c a.rules ⟨s.x, s.y, [], []⟩
      (⟨r.x, r.y, s.c + 1⟩, r.sends, r.outs)
  else (st0, [], [])

end Go.Proofs.Ytmnccekljombmaa
