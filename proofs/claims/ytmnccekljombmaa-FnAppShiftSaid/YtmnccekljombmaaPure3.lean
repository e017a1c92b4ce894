/- Plain laws of a row and the row of those that pass a test. -/
import Derived.Test.YtmnccekljombmaaPure2
set_option linter.unusedVariables false
namespace Go.Proofs.Ytmnccekljombmaa
theorem filter_get {α : Type} (p : α → Bool) (l : List α) (k : Nat) (h : k < l.length) (hp : p l[k] = true) : (l.filter p)[((l.take k).filter p).length]? = some l[k] := by
  have e : l.filter p = (l.take k).filter p ++ (l[k] :: (l.drop (k + 1)).filter p) := by
    conv => lhs; rw [← List.take_append_drop k l]
    rw [List.filter_append, List.drop_eq_getElem_cons h, List.filter_cons, if_pos hp]
  rw [e, List.getElem?_append_right (Nat.le_refl _)]
  simp
theorem filter_step {α : Type} (p : α → Bool) (l : List α) (k : Nat) (h : k < l.length) : ((l.take (k + 1)).filter p).length = ((l.take k).filter p).length + if p l[k] = true then 1 else 0 := by
  rw [List.take_succ_eq_append_getElem h, List.filter_append]
  by_cases hp : p l[k] = true <;> simp [hp]
theorem shift_get {m : Int} {mo sd : List EvD} (h : mo.map (fun q => (q.time, q.to, q.kind, q.arg)) = (sd.filter (fun q => decide (q.time + m ≤ 40))).map (fun q => (q.time + m, q.to, q.kind, q.arg))) (k : Nat) (hk : k < sd.length) (hp : sd[k].time + m ≤ 40) :
    ∃ hn : ((sd.take k).filter (fun q => decide (q.time + m ≤ 40))).length < mo.length, (mo[((sd.take k).filter (fun q => decide (q.time + m ≤ 40))).length]'hn).time = sd[k].time + m ∧ (mo[((sd.take k).filter (fun q => decide (q.time + m ≤ 40))).length]'hn).to = sd[k].to ∧ (mo[((sd.take k).filter (fun q => decide (q.time + m ≤ 40))).length]'hn).kind = sd[k].kind ∧ (mo[((sd.take k).filter (fun q => decide (q.time + m ≤ 40))).length]'hn).arg = sd[k].arg := by
  have h1 := filter_get (fun q : EvD => decide (q.time + m ≤ 40)) sd k hk (decide_eq_true hp)
  have h2 := congrArg (fun l => l[((sd.take k).filter (fun q => decide (q.time + m ≤ 40))).length]?) h
  simp only [List.getElem?_map, h1, Option.map_some] at h2
  have hn : ((sd.take k).filter (fun q => decide (q.time + m ≤ 40))).length < mo.length := by
    refine Nat.lt_of_not_le fun hle => ?_
    rw [List.getElem?_eq_none hle] at h2
    cases h2
  refine ⟨hn, ?_⟩
  rw [List.getElem?_eq_getElem hn] at h2
  simp only [Option.map_some, Option.some.injEq, Prod.mk.injEq] at h2
  exact h2
theorem shift_len {m : Int} {mo sd : List EvD} (h : mo.map (fun q => (q.time, q.to, q.kind, q.arg)) = (sd.filter (fun q => decide (q.time + m ≤ 40))).map (fun q => (q.time + m, q.to, q.kind, q.arg))) : mo.length = (sd.filter (fun q => decide (q.time + m ≤ 40))).length := by
  have := congrArg List.length h; simpa using this
/-- Where something comes of it, all was in form. -/
theorem appRun_valid {a : AppD} {s : StD} {e : EvD} (h : (appRun a s e).1 ≠ st0) : (appOk a && stOk s && evOk e) = true := by
  refine Decidable.byContradiction fun hn => h ?_
  unfold appRun
  rw [if_neg hn]
end Go.Proofs.Ytmnccekljombmaa
