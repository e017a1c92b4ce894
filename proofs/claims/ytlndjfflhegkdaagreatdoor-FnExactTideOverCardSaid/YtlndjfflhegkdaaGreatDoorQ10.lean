/- Parts of the proof: Good. -/
import Derived.OrdersHeld
import Derived.StillTail
import Derived.Test.YtlndjfflhegkdaaGreatDoorQ01
set_option linter.unusedVariables false
set_option linter.unusedSimpArgs false
set_option linter.unusedSectionVars false
set_option maxHeartbeats 4000000
namespace Go.Proofs.YtlndjfflhegkdaaGreatDoor
open Go.RowKit
section
def i3 (w w':World):Prop:=∀k,k<w.heap.size→w'.heap[k]? =w.heap[k]?
theorem i3.refl (w:World):i3 w w:=fun _ _=>rfl
theorem i3.of_below {w w1:World} (h:Below w.heap.size w w1):i3 w w1:=fun k hk=>h.block k hk
theorem i3.of_ch {S:Nat→Prop} {w w1:World} (h:Ch S w w1) (hS:∀k,S k→w.heap.size≤k):i3 w w1:=fun k hk=>h.block k hk (fun hs=>by have:=hS k hs;omega)
theorem i3.at {w w':World} (h:i3 w w') {k:Nat} {o:Obj} (ho:w.heap[k]? =some o):w'.heap[k]? =some o:=(h k (Array.getElem?_eq_some_iff.1 ho).1).trans ho
section
variable {P:Program} {α β:Type}
def fv (P:Program) (s:Sem α):Prop:=∀w v w2,s.run P w= .ok v w2→
 w.heap.size≤w2.heap.size∧w.drawn≤w2.drawn∧(w2.heap.size=w.heap.size→w2.drawn=w.drawn→w2=w∧∀w',i3 w w'→s.run P w' = .ok v w')
theorem fv.pure (a:α):fv P (Pure.pure a:Sem α):=fun w v w2 h=>by
 simp only[Sem.run_pure,Result.ok.injEq] at h;obtain⟨rfl,rfl⟩:=h;exact⟨jn _,jn _,fun _ _=>⟨rfl,fun _ _=>rfl⟩⟩
theorem fv.halt (h:Halt):fv P (Sem.halt h:Sem α):=fun w v w2 h=>by cases h
theorem fv.stuck (s:String):fv P (stuck s:Sem α):=fv.halt _
theorem fv.unsupported (s:Unsupported):fv P (unsupported s:Sem α):=fv.halt _
theorem fv.goPanic (s:Value):fv P (goPanic s:Sem α):=fv.halt _
theorem fv.bind {s:Sem α} {f:α→Sem β} (hs:fv P s) (hf:∀a,fv P (f a)):fv P (s >>= f):=fun w v w2 h=>by
 rw[Sem.run_bind] at h;cases hr:s.run P w with
 |halt x w1=>rw[hr] at h;cases h
 |ok a w1=>
  rw[hr] at h;have h:(f a).run P w1= .ok v w2:=h;obtain⟨a1,a2,a3⟩:=hs w a w1 hr;obtain⟨b1,b2,b3⟩:=hf a w1 v w2 h;refine⟨fT,fT,fun e1 e2=>?_⟩;obtain⟨rfl,a4⟩:=a3 fT fT;obtain⟨rfl,b4⟩:=b3 fT fT;refine⟨rfl,fun w' hw=>?_⟩;rw[Sem.run_bind,a4 w' hw];exact b4 w' hw
theorem fv.map {s:Sem α} {f:α→β} (hs:fv P s):fv P (f <$> s):=by
 rw[map_eq_pure_bind];exact hs.bind fun a=>fv.pure _
theorem fv.ite {c:Prop} [Decidable c] {s t:Sem α} (hs:fv P s) (ht:fv P t):fv P (if c then s else t):=by split<;>assumption
theorem fv.program:fv P Go.program:=fun w v w2 h=>by
 simp only[run_program,Result.ok.injEq] at h;obtain⟨rfl,rfl⟩:=h;exact⟨jn _,jn _,fun _ _=>⟨rfl,fun _ _=>rfl⟩⟩
theorem fv.programB {f:Program→Sem β} (hf:fv P (f P)):fv P (Go.program >>= f):=fun w v w2 h=>by
 rw[Sem.run_bind,run_program] at h;obtain⟨a1,a2,a3⟩:=hf w v w2 h;refine⟨a1,a2,fun e1 e2=>?_⟩;obtain⟨rfl,a4⟩:=a3 e1 e2;exact⟨rfl,fun w' hw=>by rw[Sem.run_bind,run_program];exact a4 w' hw⟩
theorem fv.choose (q:Question):fv P (Go.choose q):=fun w v w2 h=>by
 rw[run_choose] at h;by_cases hq:q.forced=true
 ·rw[if_pos hq] at h
  simp only[Result.ok.injEq] at h;obtain⟨rfl,rfl⟩:=h;exact⟨jn _,jn _,fun _ _=>⟨rfl,fun w' _=>by rw[run_choose,if_pos hq]⟩⟩
 ·rw[if_neg hq] at h
  simp only[Result.ok.injEq] at h;obtain⟨rfl,rfl⟩:=h;exact⟨jn _,Nat.le_succ _,fun _ e=>absurd e (Nat.succ_ne_self _)⟩
theorem fv.newObj (o:Obj):fv P (newObj o):=fun w v w2 h=>by
 simp only[run_newObj,Result.ok.injEq] at h;obtain⟨rfl,rfl⟩:=h;exact⟨by simp,jn _,fun e _=>absurd e sm⟩
theorem ze {w w':World} (h:i3 w w') {a:Addr} {v:Value} (hc:w.cell? a=some v):w'.cell? a=some v:=by
 have b:a.block<w.heap.size:=World.block_lt_of_cell? _ _ hc;rw[World.cell?_of_block (w:=w) (h _ b)];exact hc
theorem vH {w w':World} (h:i3 w w') {at_:Addr} {u:TypeId} {k:Addr} {b:Bool} {r:Value×List Addr} (hr:w.viewLoad P at_ u k b= .ok r):w'.viewLoad P at_ u k b= .ok r:=by
 have c:w'.heap[at_.block]? =w.heap[at_.block]? :=by
  rcases Nat.lt_or_ge at_.block w.heap.size with a|a
  ·exact h _ a
  ·exfalso
   have d:w.heap[at_.block]? =none:=Array.getElem?_eq_none a;unfold World.viewLoad at hr;cases hs:w.seen P at_ u k b with
   |error e=>rw[hs] at hr;cases hr
   |ok x=>
    unfold World.seen at hs;simp only[bind,Except.bind,Pure.pure,Except.pure,throw,throwThe,MonadExceptOf.throw,d] at hs
    repeat' (split at hs)
    all_goals (first|(cases hs;done)|skip)
 have:w'.viewLoad P at_ u k b=w.viewLoad P at_ u k b:=by
  unfold World.viewLoad World.seen;rw[c]
 rw[this];exact hr
theorem fv.load (a:Addr) (m:Mode):fv P (Go.load a m):=fun w v w2 h=>by
 rw[run_load] at h;cases hc:w.cell? a with
 |some x=>
  rw[hc] at h;simp only[Result.ok.injEq] at h;obtain⟨rfl,rfl⟩:=h;exact⟨jn _,jn _,fun _ _=>⟨rfl,fun w' hw=>by rw[run_load,ze hw hc]⟩⟩
 |none=>
  rw[hc] at h;simp only at h;cases hf:w.farLoad P a (m== .atomic) with
  |error e=>rw[hf] at h;cases h
  |ok r=>
   rw[hf] at h;simp only[Result.ok.injEq] at h;obtain⟨rfl,rfl⟩:=h;refine⟨jn _,jn _,fun _ _=>⟨rfl,fun w' hw=>?_⟩⟩;unfold World.farLoad at hf;cases hb:w.heap[a.block]? with
   |none=>rw[hb] at hf;cases hf
   |some o=>
    rw[hb] at hf;have hb':=hw.at hb;have hc':w'.cell? a=none:=by rw[World.cell?_of_block (w:=w) (hb'.trans hb.symm)];exact hc
    rw[run_load,hc'];unfold World.farLoad;rw[hb'];cases o with
    |view at_ u=>
     simp only at hf ⊢;cases hv:w.viewLoad P at_ u a (m== .atomic) with
     |error e=>rw[hv] at hf;cases hf
     |ok r' =>
      rw[hv] at hf;simp only[Except.ok.injEq] at hf;subst hf;rw[vH hw hv]
    |_=>cases hf
theorem fv.getObj (r:Nat):fv P (Go.getObj r):=fun w v w2 h=>by
 have hrun:∀w:World,(Go.getObj r).run P w=match w.heap[r]? with|some (.cells ..)=> .halt (.stuck "getObj: a row of cells") w|some o=> .ok o w|none=> .halt (.stuck "getObj: no such block") w:=fun w=>by
  simp only[Go.getObj,Sem.run];cases w.heap[r]? with
  |none=>rfl
  |some o=>cases o<;>rfl
 rw[hrun] at h;cases hb:w.heap[r]? with
 |none=>rw[hb] at h;cases h
 |some o=>
  rw[hb] at h;cases o with
  |cells _ _ _=>cases h
  |_=>
   simp only[Result.ok.injEq] at h;obtain⟨rfl,rfl⟩:=h;exact⟨jn _,jn _,fun _ _=>⟨rfl,fun w' hw=>by rw[hrun,hw.at hb]⟩⟩
theorem yH {w w':World} (h:i3 w w') {r:Nat} (hr:r<w.heap.size):w'.shape? r=w.shape? r:=by
 unfold World.shape?;rw[h r hr]
theorem uW {w:World} {r:Nat} (h:w.heap[r]? =none):w.shape? r=none:=by unfold World.shape?;rw[h]
theorem fv.shapeB {r:Nat} {f:Option (TypeId×Nat)→Sem β} (hf:∀x,fv P (f x)) (hn:∀w v w2,w.heap[r]? =none→(f none).run P w≠ .ok v w2):fv P (Go.shape r >>= f):=fun w v w2 h=>by
 rw[Sem.run_bind,run_shape] at h;have h:(f (w.shape? r)).run P w= .ok v w2:=h;have hr:r<w.heap.size:=by
  rcases Nat.lt_or_ge r w.heap.size with a|a
  ·exact a
  ·exfalso
   have b:w.heap[r]? =none:=Array.getElem?_eq_none a;rw[uW b] at h;exact hn w v w2 b h
 obtain⟨d,e,g⟩:=hf (w.shape? r) w v w2 h;refine⟨d,e,fun j k=>?_⟩;obtain⟨rfl,i⟩:=g j k;exact⟨rfl,fun l c=>by rw[Sem.run_bind,run_shape,yH c hr];exact i l c⟩
theorem sS {w:World} {r:Nat} (h:w.heap[r]? =none):(Go.getObj r).run P w= .halt (.stuck "getObj: no such block") w:=by
 simp only[Go.getObj,Sem.run,h]
theorem fv.numberAt (r:Nat):fv P (numberAt r):=by
 unfold Go.numberAt;refine fv.shapeB (fun x=>?_) (fun w v b a=>?_)
 ·split
  ·exact fv.pure _
  ·exact(fv.getObj r).bind fun o=>by split<;>exact fv.pure _
 ·simp[sS a]
theorem fv.viewAt (r:Nat):fv P (viewAt r):=by
 unfold Go.viewAt;refine fv.shapeB (fun x=>?_) (fun w v b a=>?_)
 ·split
  ·exact fv.pure _
  ·exact(fv.getObj r).bind fun o=>by split<;>exact fv.pure _
 ·simp[sS a]
theorem fv.typeInfo (t:TypeId):fv P (typeInfo t):=by
 unfold Go.typeInfo;refine fv.program.bind fun p=>?_;split
 ·exact fv.pure _
 ·exact fv.stuck _
theorem fv.underlying (t:TypeId):fv P (underlying t):=by
 unfold Go.underlying;refine fv.program.bind fun p=>?_;split
 ·exact fv.pure _
 ·exact fv.stuck _
theorem fv.sizeOf (t:TypeId):fv P (Go.sizeOf t):=(fv.typeInfo t).bind fun _=>fv.pure _
theorem fv.isAgg (t:TypeId):fv P (isAgg t):=by
 unfold Go.isAgg;refine(fv.underlying t).bind fun u=>?_;split<;>exact fv.pure _
theorem fv.part (t:TypeId) (cs:Array Value) (off:Nat):fv P (part t cs off):=by
 unfold Go.part;refine(fv.isAgg t).bind fun b=>?_;split
 ·exact(fv.sizeOf t).bind fun _=>fv.pure _
 ·split
  ·exact fv.pure _
  ·exact fv.stuck _
theorem fv.loadCellsFrom (a:Addr):∀(n i:Nat) (acc:Array Value),fv P (loadCellsFrom a i n acc)
 |0,_,_=>fv.pure _
 |n+1,i,acc=>(fv.load _ _).bind fun v=>fv.loadCellsFrom a n (i+1) _
theorem fv.loadVar (t:TypeId) (a:Addr):fv P (loadVar t a):=by
 unfold Go.loadVar;refine(fv.isAgg t).bind fun b=>?_;split
 ·exact(fv.sizeOf t).bind fun n=>(fv.loadCellsFrom a n 0 #[]).bind fun _=>fv.pure _
 ·exact fv.load _ _
theorem fv.sureAddr (v:Value):fv P (Instr.sureAddr v):=by
 unfold Instr.sureAddr;split
 ·exact fv.pure _
 ·exact fv.stuck _
theorem fv.loadAt (t:TypeId) (v:Value):fv P (Instr.loadAt t v):=(fv.sureAddr v).bind fun a=>fv.loadVar t a
theorem fv.asIntOf (v:Value):fv P (asIntOf v):=by
 unfold Go.asIntOf;split
 ·exact fv.pure _
 ·exact fv.unsupported _
 ·exact fv.stuck _
theorem fv.asBool (v:Value):fv P (asBool v):=by
 unfold Go.asBool;split
 ·exact fv.pure _
 ·exact fv.stuck _
theorem fv.asAgg (v:Value):fv P (asAgg v):=by
 unfold Go.asAgg;split
 ·exact fv.pure _
 ·exact fv.stuck _
theorem fv.runtimeBounds {x y:Int} {s:Bool} {c:BoundsCode}:fv P (runtimePanic (.bounds x y s c):Sem α):=by
 unfold Go.runtimePanic;exact fv.program.bind fun p=>fv.goPanic _
theorem fv.nilDeref:fv P (runtimePanic .nilDeref:Sem α):=by
 unfold Go.runtimePanic;exact fv.program.bind fun p=>fv.goPanic _
theorem fv.boundsPanic (k:IntKind) (x y:Int) (c:BoundsCode):fv P (boundsPanic k x y c:Sem α):=by
 unfold Go.boundsPanic;dsimp only;split
 ·exact((fv.choose _).map).bind fun b=>fv.runtimeBounds
 ·exact(fv.pure _).bind fun b=>fv.runtimeBounds
theorem fv.asAddr (v:Value):fv P (asAddr v):=by
 unfold Go.asAddr;split
 ·exact fv.pure _
 ·exact fv.nilDeref
 ·exact fv.stuck _
theorem fv.arith {op:BinOp} {k:IntKind} {x y:Int}:fv P (Op.intArith op k x y):=by
 unfold Op.intArith;split<;>first|exact fv.pure _|exact fv.stuck _
theorem fv.cmp {op:BinOp} {x y:Int}:fv P (Op.intCmp op x y):=by
 unfold Op.intCmp;split<;>first|exact fv.pure _|exact fv.stuck _
theorem fv.bits {op:BinOp} {k:IntKind} {x y:Int}:fv P (Op.intBits op k x y):=by
 unfold Op.intBits;split<;>first|exact fv.pure _|exact fv.stuck _
theorem fv.unary (op:UnOp) (x:Value):fv P (Op.unary op x):=by
 unfold Op.unary;split<;>first|exact fv.pure _|exact fv.stuck _|exact fv.arith|exact fv.bits|exact fv.unsupported _
theorem fv.behindNumber (a:Addr):fv P (behindNumber a):=by
 unfold Go.behindNumber;exact(fv.numberAt _).bind fun _=>fv.pure _
theorem fv.extract (t:Value) (i:Nat):fv P (Instr.extract t i):=by
 unfold Instr.extract;exact vu
theorem fv.field (t:TypeId) (x:Value) (f:Nat):fv P (Instr.field t x f):=by
 unfold Instr.field;exact vu
theorem fv.indexAt (t:TypeId) (x i:Value):fv P (Instr.indexAt t x i):=by
 unfold Instr.indexAt;exact vu
theorem fv.index (t:TypeId) (x i:Value):fv P (Instr.index t x i):=by
 unfold Instr.index;exact vu
theorem fv.sliceBound (x:Value) (y:Nat) (c:BoundsCode):fv P (Instr.sliceBound x y c):=by
 unfold Instr.sliceBound;exact vu
theorem fv.sliceBounds (b:Bool) (n c:Nat) (lo hi mx:Option Value):fv P (Instr.sliceBounds b n c lo hi mx):=by
 unfold Instr.sliceBounds;have a:∀(m:Nat),fv P (do
   let h←match hi,mx with
    |some v,some _=>Instr.sliceBound v m .slice3B
    |some v,none=>Instr.sliceBound v m (if b then .sliceAcap else .sliceAlen)
    |none,none=>Pure.pure n
    |none,some _=>Go.stuck "Slice: max without high"
   let l←match lo with
    |some v=>Instr.sliceBound v h (if mx.isSome then .slice3C else .sliceB)
    |none=>Pure.pure 0
   Pure.pure (l,h,m)):=fun m=>by
  exact vu
 exact vu
theorem fv.slice (t:TypeId) (x:Value) (lo hi mx:Option Value):fv P (Instr.slice t x lo hi mx):=by
 unfold Instr.slice
 repeat' (first|with_reducible exact fv.pure _|with_reducible exact fv.stuck _|with_reducible exact fv.unsupported _|with_reducible exact fv.boundsPanic _ _ _ _|with_reducible exact fv.nilDeref|with_reducible exact fv.underlying _|with_reducible exact fv.sizeOf _|with_reducible exact fv.typeInfo _|with_reducible exact fv.part _ _ _|with_reducible exact fv.getObj _|with_reducible exact fv.asIntOf _|with_reducible exact fv.asAgg _|with_reducible exact fv.asAddr _|with_reducible exact fv.asBool _|with_reducible exact fv.sureAddr _|with_reducible exact fv.load _ _|with_reducible exact fv.sliceBounds _ _ _ _ _ _|with_reducible refine fv.bind ?_ (fun _=>?_)|split|dsimp only)
theorem fv.sliceAt (t:TypeId) (x:Value) (lo hi mx:Option Value):fv P (Instr.sliceAt t x lo hi mx):=by
 unfold Instr.sliceAt
 repeat' (first|with_reducible exact fv.pure _|with_reducible exact fv.stuck _|with_reducible exact fv.unsupported _|with_reducible exact fv.boundsPanic _ _ _ _|with_reducible exact fv.nilDeref|with_reducible exact fv.underlying _|with_reducible exact fv.sizeOf _|with_reducible exact fv.typeInfo _|with_reducible exact fv.part _ _ _|with_reducible exact fv.getObj _|with_reducible exact fv.asIntOf _|with_reducible exact fv.asAgg _|with_reducible exact fv.asAddr _|with_reducible exact fv.asBool _|with_reducible exact fv.sureAddr _|with_reducible exact fv.load _ _|with_reducible exact fv.sliceBounds _ _ _ _ _ _|with_reducible exact fv.slice _ _ _ _ _|with_reducible refine fv.bind ?_ (fun _=>?_)|split|dsimp only)
theorem fv.len (ts:Array TypeId) (t:TypeId) (xs:Array Value):fv P (Builtin.len_ ts t xs):=by
 unfold Builtin.len_;exact vu
theorem fv.cap (ts:Array TypeId) (t:TypeId) (xs:Array Value):fv P (Builtin.cap_ ts t xs):=by
 unfold Builtin.cap_;exact vu
theorem fv.followBlind:∀(l:List FieldStep) (t:TypeId) (x:Option Value),fv P (followBlind l t x)
 | [],_,_=>fv.pure _
 |s::rest,t,x=>by
  have ih:=fun t x=>fv.followBlind rest t x;unfold Go.followBlind
  repeat' (first|with_reducible exact fv.pure _|with_reducible exact fv.stuck _|with_reducible exact fv.unsupported _|with_reducible exact fv.boundsPanic _ _ _ _|with_reducible exact fv.nilDeref|with_reducible exact fv.underlying _|with_reducible exact fv.sizeOf _|with_reducible exact fv.typeInfo _|with_reducible exact fv.part _ _ _|with_reducible exact fv.getObj _|with_reducible exact fv.asIntOf _|with_reducible exact fv.asAgg _|with_reducible exact fv.asAddr _|with_reducible exact fv.asBool _|with_reducible exact fv.sureAddr _|with_reducible exact fv.load _ _|with_reducible exact ih _ _|with_reducible refine fv.bind ?_ (fun _=>?_)|split|dsimp only)
theorem fv.nilAhead:∀(n:Nat) (t:TypeId) (v:Value) (s:String),fv P (nilAhead n t v s)
 |0,_,_,_=>fv.pure _
 |n+1,t,v,s=>by
  have ih:=fun t v s=>fv.nilAhead n t v s;unfold Go.nilAhead
  repeat' (first|with_reducible exact fv.pure _|with_reducible exact fv.stuck _|with_reducible exact fv.unsupported _|with_reducible exact fv.boundsPanic _ _ _ _|with_reducible exact fv.nilDeref|with_reducible exact fv.underlying _|with_reducible exact fv.sizeOf _|with_reducible exact fv.typeInfo _|with_reducible exact fv.part _ _ _|with_reducible exact fv.getObj _|with_reducible exact fv.asIntOf _|with_reducible exact fv.asAgg _|with_reducible exact fv.asAddr _|with_reducible exact fv.asBool _|with_reducible exact fv.sureAddr _|with_reducible exact fv.load _ _|with_reducible exact ih _ _ _|with_reducible exact fv.followBlind _ _ _|with_reducible refine fv.bind ?_ (fun _=>?_)|split|dsimp only)
def pK (P:Program) (t:TypeId):Bool:=(match P.underlying t with|some (.int _)=>true|some .bool=>true|some .string=>true|_=>false)&&!P.eqGuardType P.depth t
def ny (P:Program) (o:Oper):Bool:=match o.op with
 | .move _=>true
 | .assign _=>true
 | .pick _ _ _=>true
 | .load _ _=>true
 | .nilCheck _=>true
 | .binOp op t _ _ _=>match op with| .lss| .leq| .gtr| .geq| .add| .sub| .eql| .neq=>pK P t|_=>false
 | .unOp _ _ _=>true
 | .slice _ _ _ _ _=>true
 | .fieldAddr t _ f=>match P.underlying t with|some (.struct fs)=>(match fs[f]? with|some fd=>(match P.info? fd.type with|some i=>i.size !=0|none=>false)|none=>false)|_=>false
 | .field _ _ _=>true
 | .indexAddr _ _ _=>true
 | .index _ _ _=>true
 | .extract _ _=>true
 | .call c=>match c.callee with| .builtin .len=>true| .builtin .cap=>true|_=>false
 |_=>false
theorem fv.fieldAt {t:TypeId} {f:Nat} (h:(match P.underlying t with|some (.struct fs)=>(match fs[f]? with|some fd=>(match P.info? fd.type with|some i=>i.size !=0|none=>false)|none=>false)|_=>false)=true) (x:Value):fv P (Instr.fieldAt t x f):=by
 unfold Instr.fieldAt Go.underlying;simp only[bind_assoc];refine fv.programB ?_;cases hu:P.underlying t with
 |none=>rw[hu] at h;cases h
 |some u=>
  rw[hu] at h;simp only[pure_bind];cases u with
  |struct fs=>
   simp only at h ⊢;cases hf:fs[f]? with
   |none=>exact vu
   |some fd=>
    rw[hf] at h;simp only at h ⊢;refine(fv.sureAddr _).bind fun a=>?_;unfold Go.fieldPlace Go.sizeOf Go.typeInfo;simp only[bind_assoc];refine fv.programB ?_;cases hi:P.info? fd.type with
    |none=>exact fv.bind (fv.stuck _) fun _=>by rw[hi] at h;cases h
    |some i=>
     rw[hi] at h;have b:i.size≠0:=by simpa using h
     simp only[pure_bind,b,if_false];exact fv.pure _
  |_=>exact vu
theorem fv.errorP {α:Type} {m:String}:fv P (runtimePanic (.error m):Sem α):=by
 unfold Go.runtimePanic;exact fv.program.bind fun p=>fv.goPanic _
theorem fv.byteOf (a:Addr):fv P (byteOf a):=by
 unfold Go.byteOf Go.noView;exact vu
theorem fv.addrCmp (op:BinOp) (a b:Addr):fv P (Op.addrCmp op a b):=by
 unfold Op.addrCmp Op.twoPlaces;exact vu
theorem fv.addrSub (k:IntKind) (a b:Addr):fv P (Op.addrSub k a b):=by
 unfold Op.addrSub Op.twoPlaces;exact vu
theorem fv.unsafeAdd (ts:Array TypeId) (t:TypeId) (xs:Array Value):fv P (Builtin.unsafeAdd_ ts t xs):=by
 obtain⟨l⟩:=xs;rcases l with _|⟨x,_|⟨y,_|⟨z,l⟩⟩⟩
 case cons.cons.nil=>
  cases x
  case pointer o=>
   show fv P (do
    let n←Go.asInt y
    if n=0 then
     let some a:=o|Go.unsupported (.unsafePointer "Add: from nil")
     if (←Go.viewAt a.block).isSome then Go.unsupported (.unsafePointer "Add: at a place where no cell lies")
     return Value.pointer o
    if n<0 then Go.unsupported (.unsafePointer "Add: a move by a count below zero")
    let some a:=o|Go.unsupported (.unsafePointer "Add")
    let some (e,cells)←Go.shape a.block|Go.unsupported (.unsafePointer "Add")
    let p←Go.program
    match cellAtBytes p p.depth e (cells / p.cellsOf e) a.off n with
    |some off=>Pure.pure (Value.pointer (some {a with off}))
    |none=>Go.unsupported (.unsafePointer "Add"))
   unfold Go.asInt;exact vu
  all_goals exact fv.stuck _
 all_goals first|exact fv.stuck _|(cases x<;>exact fv.stuck _)
theorem fv.asNumber (a:Addr) (b:Bool):fv P (asNumber a b):=by
 unfold Go.asNumber;exact(fv.newObj _).bind fun _=>fv.pure _
theorem fv.movedNumber (t:TypeId) (x y:Value):fv P (movedNumber t x y):=by
 unfold Go.movedNumber;exact vu
theorem fv.movedPointer (t:TypeId) (x y:Value):fv P (movedPointer t x y):=by
 unfold Go.movedPointer;exact vu
theorem fv.equal {t:TypeId} (h:pK P t=true) (x y:Value):fv P (Op.equal t x y):=by
 unfold Op.equal Op.maxDepth;show fv P (Op.equalIn (9999+1) t x y);rw[Op.equalIn];unfold Go.underlying;simp only[bind_assoc];refine fv.programB ?_;unfold pK at h;cases hu:P.underlying t with
 |none=>rw[hu] at h;cases h
 |some u=>
  rw[hu] at h;simp only[pure_bind];cases u<;>first|(exfalso;revert h;simp;done)|(split<;>first|(exfalso;simp_all;done)|skip)
  all_goals (repeat' (first|with_reducible exact fv.pure _|with_reducible exact fv.stuck _|with_reducible exact fv.unsupported _|with_reducible exact fv.boundsPanic _ _ _ _|with_reducible exact fv.nilDeref|with_reducible exact fv.underlying _|with_reducible exact fv.sizeOf _|with_reducible exact fv.typeInfo _|with_reducible exact fv.part _ _ _|with_reducible exact fv.getObj _|with_reducible exact fv.asIntOf _|with_reducible exact fv.asAgg _|with_reducible exact fv.asAddr _|with_reducible exact fv.asBool _|with_reducible exact fv.sureAddr _|with_reducible exact fv.load _ _|with_reducible exact fv.viewAt _|with_reducible exact fv.numberAt _|with_reducible exact fv.byteOf _|with_reducible exact fv.behindNumber _|with_reducible exact fv.unsafeAdd _ _ _|with_reducible exact fv.asNumber _ _|with_reducible exact fv.program|with_reducible exact fv.choose _|with_reducible exact fv.errorP|(refine fv.shapeB (fun _=>?_) ?hn;case hn=>(intro w v b a h;simp at h;done))|with_reducible refine fv.bind ?_ (fun _=>?_)|split|dsimp only))
theorem fv.floatArith (op:BinOp) (k:FloatKind) (x y:Nat):fv P (Op.floatArith op k x y):=by
 unfold Op.floatArith;exact vu
theorem fv.floatCmp (op:BinOp) (k:FloatKind) (x y:Nat):fv P (Op.floatCmp op k x y):=by
 unfold Op.floatCmp;exact vu
theorem fv.stringOp (op:BinOp) (x y:ByteArray):fv P (Op.stringOp op x y):=by
 unfold Op.stringOp;exact vu
theorem fv.cArith (op:BinOp) (k:FloatKind) (x y:Nat):fv P (Op.Complex.arith op k x y):=by
 unfold Op.Complex.arith;refine(fv.floatArith _ _ _ _).bind fun _=>?_;exact vu
theorem fv.cCmp (op:BinOp) (k:FloatKind) (x y:Nat):fv P (Op.Complex.cmp op k x y):=by
 unfold Op.Complex.cmp;exact(fv.floatCmp _ _ _ _).bind fun _=>fv.asBool _
theorem fv.complexOp {op:BinOp} (hop:op≠ .mul∧op≠ .quo) (k:FloatKind) (a b c d:Nat):fv P (Op.complexOp op k a b c d):=by
 unfold Op.complexOp;split
 ·exact(fv.cArith _ _ _ _).bind fun _=>(fv.cArith _ _ _ _).bind fun _=>fv.pure _
 ·exact(fv.cArith _ _ _ _).bind fun _=>(fv.cArith _ _ _ _).bind fun _=>fv.pure _
 ·exact absurd rfl hop.1
 ·exact absurd rfl hop.2
 ·exact(fv.cCmp _ _ _ _).bind fun b=>(fv.cCmp _ _ _ _).bind fun b=>fv.pure _
 ·exact(fv.cCmp _ _ _ _).bind fun b=>(fv.cCmp _ _ _ _).bind fun b=>fv.pure _
 ·exact fv.stuck _
theorem fv.addrMod (k:IntKind) (a:Addr) (n:Int):fv P (Op.addrMod k a n):=by
 unfold Op.addrMod;exact vu
theorem fv.shift (op:BinOp) (k:IntKind) (x:Int) (j:IntKind) (y:Int):fv P (Op.shift op k x j y):=by
 unfold Op.shift;exact vu
theorem fv.binOpI {t:TypeId} (h:pK P t=true) {op:BinOp} (hop:op∈[BinOp.lss,.leq,.gtr,.geq,.add,.sub,.eql,.neq]) (x y:Value):fv P (binOp op t x y):=by
 have a:=fv.equal h x y;simp only[List.mem_cons,List.not_mem_nil,or_false] at hop;rcases hop with rfl|rfl|rfl|rfl|rfl|rfl|rfl|rfl|rfl
 all_goals unfold Go.binOp
 all_goals (repeat' (first|with_reducible exact fv.pure _|with_reducible exact fv.stuck _|with_reducible exact fv.unsupported _|with_reducible exact fv.boundsPanic _ _ _ _|with_reducible exact fv.nilDeref|with_reducible exact fv.underlying _|with_reducible exact fv.sizeOf _|with_reducible exact fv.typeInfo _|with_reducible exact fv.part _ _ _|with_reducible exact fv.getObj _|with_reducible exact fv.asIntOf _|with_reducible exact fv.asAgg _|with_reducible exact fv.asAddr _|with_reducible exact fv.asBool _|with_reducible exact fv.sureAddr _|with_reducible exact fv.load _ _|with_reducible exact fv.viewAt _|with_reducible exact fv.numberAt _|with_reducible exact fv.byteOf _|with_reducible exact fv.behindNumber _|with_reducible exact fv.unsafeAdd _ _ _|with_reducible exact fv.asNumber _ _|with_reducible exact fv.program|with_reducible exact fv.choose _|with_reducible exact fv.errorP|(refine fv.shapeB (fun _=>?_) ?hn;case hn=>(intro w v c b h;simp at h;done))|with_reducible refine fv.bind ?_ (fun _=>?_)|with_reducible exact a|with_reducible exact fv.shift _ _ _ _ _|with_reducible exact fv.arith|with_reducible exact fv.cmp|with_reducible exact fv.floatArith _ _ _ _|with_reducible exact fv.floatCmp _ _ _ _|with_reducible exact fv.stringOp _ _ _|exact fv.complexOp dc _ _ _ _ _|with_reducible exact fv.choose _|with_reducible exact fv.addrCmp _ _ _|with_reducible exact fv.addrSub _ _ _|with_reducible exact fv.addrMod _ _ _|with_reducible exact fv.movedNumber _ _ _|with_reducible exact fv.movedPointer _ _ _|split|dsimp only))
theorem fv.eqGuard {t:TypeId} (h:pK P t=true) (op:BinOp) (x y:Operand) (a b:Value):fv P (eqGuard op t x y a b):=by
 unfold Go.eqGuard;have e:P.eqGuardType P.depth t=false:=by unfold pK at h;simp at h;exact h.2
 have c:fv P (Op.eqGuardIn Op.maxDepth t a b):=by
  show fv P (Op.eqGuardIn (9999+1) t a b);rw[Op.eqGuardIn];unfold Go.underlying;simp only[bind_assoc];refine fv.programB ?_;unfold pK at h;cases hu:P.underlying t with
  |none=>rw[hu] at h;cases h
  |some u=>
   rw[hu] at h;simp only[pure_bind];cases u<;>first|(exfalso;revert h;simp;done)|(split<;>first|(exfalso;simp_all;done)|exact fv.pure _)
 have d:∀hh:fv P (Op.eqGuardIn Op.maxDepth t a b),fv P (match (generalizing:=false) a,b with
   | .nilIface,.nilIface=>
    if (x matches .const _)||(y matches .const _) then Pure.pure () else do
     if←Op.eqGuardIn Op.maxDepth t a b then Go.unsupported (.noEntry "binop/eql: two nil values of an interface type with methods, neither of them the literal nil")
     else Pure.pure ()
   | .agg _,.agg _=>do
    if !(←Go.program).eqGuardType (←Go.program).depth t then Pure.pure () else
     if←Op.eqGuardIn Op.maxDepth t a b then Go.unsupported (.noEntry "binop/eql: two nil values of an interface type with methods, in a part of a struct or an array")
     else Pure.pure ()
   |_,_=>Pure.pure ():Sem Unit):=by
  intro c;split
  ·refine fv.ite (fv.pure _) (c.bind fun b=>?_)
   split
   ·exact fv.unsupported _
   ·exact fv.pure _
  ·refine fv.programB (fv.programB ?_)
   rw[e];exact fv.pure _
  ·exact fv.pure _
 split
 ·exact d c
 ·exact d c
 ·exact fv.pure _
end
end
end Go.Proofs.YtlndjfflhegkdaaGreatDoor
