/- Parts of the proof: Good. -/
import Derived.Test.YtgilllnjhahkfaaGreatQ01
set_option linter.unusedVariables false
set_option linter.unusedSimpArgs false
set_option linter.unusedSectionVars false
set_option maxHeartbeats 4000000
namespace Go.Proofs.YtgilllnjhahkfaaGreat
open Go.RowKit
section
def iJ (w w':World):Prop:=∀k,k<w.heap.size→w'.heap[k]? =w.heap[k]?
theorem iJ.refl (w:World):iJ w w:=fun _ _=>rfl
theorem iJ.of_below {w w1:World} (h:Below w.heap.size w w1):iJ w w1:=fun k hk=>h.block k hk
theorem iJ.of_ch {S:Nat→Prop} {w w1:World} (h:Ch S w w1) (hS:∀k,S k→w.heap.size≤k):iJ w w1:=fun k hk=>h.block k hk (fun hs=>by have:=hS k hs;omega)
theorem iJ.at {w w':World} (h:iJ w w') {k:Nat} {o:Obj} (ho:w.heap[k]? =some o):w'.heap[k]? =some o:=(h k (Array.getElem?_eq_some_iff.1 ho).1).trans ho
section
variable {P:Program} {α β:Type}
def gK (P:Program) (s:Sem α):Prop:=∀w v w2,s.run P w= .ok v w2→
 w.heap.size≤w2.heap.size∧w.drawn≤w2.drawn∧(w2.heap.size=w.heap.size→w2.drawn=w.drawn→w2=w∧∀w',iJ w w'→s.run P w' = .ok v w')
theorem gK.pure (a:α):gK P (Pure.pure a:Sem α):=fun w v w2 h=>by
 simp only[Sem.run_pure,Result.ok.injEq] at h;obtain⟨rfl,rfl⟩:=h;exact⟨j9 _,j9 _,fun _ _=>⟨rfl,fun _ _=>rfl⟩⟩
theorem gK.halt (h:Halt):gK P (Sem.halt h:Sem α):=fun w v w2 h=>by cases h
theorem gK.stuck (s:String):gK P (stuck s:Sem α):=gK.halt _
theorem gK.unsupported (s:Unsupported):gK P (unsupported s:Sem α):=gK.halt _
theorem gK.goPanic (s:Value):gK P (goPanic s:Sem α):=gK.halt _
theorem gK.bind {s:Sem α} {f:α→Sem β} (hs:gK P s) (hf:∀a,gK P (f a)):gK P (s >>= f):=fun w v w2 h=>by
 rw[Sem.run_bind] at h;cases hr:s.run P w with
 |halt x w1=>rw[hr] at h;cases h
 |ok a w1=>
  rw[hr] at h;have h:(f a).run P w1= .ok v w2:=h;obtain⟨a1,a2,a3⟩:=hs w a w1 hr;obtain⟨b1,b2,b3⟩:=hf a w1 v w2 h;refine⟨gO,gO,fun e1 e2=>?_⟩;obtain⟨rfl,a4⟩:=a3 gO gO;obtain⟨rfl,b4⟩:=b3 gO gO;refine⟨rfl,fun w' hw=>?_⟩;rw[Sem.run_bind,a4 w' hw];exact b4 w' hw
theorem gK.map {s:Sem α} {f:α→β} (hs:gK P s):gK P (f <$> s):=by
 rw[map_eq_pure_bind];exact hs.bind fun a=>gK.pure _
theorem gK.ite {c:Prop} [Decidable c] {s t:Sem α} (hs:gK P s) (ht:gK P t):gK P (if c then s else t):=by split<;>assumption
theorem gK.program:gK P Go.program:=fun w v w2 h=>by
 simp only[run_program,Result.ok.injEq] at h;obtain⟨rfl,rfl⟩:=h;exact⟨j9 _,j9 _,fun _ _=>⟨rfl,fun _ _=>rfl⟩⟩
theorem gK.programB {f:Program→Sem β} (hf:gK P (f P)):gK P (Go.program >>= f):=fun w v w2 h=>by
 rw[Sem.run_bind,run_program] at h;obtain⟨a1,a2,a3⟩:=hf w v w2 h;refine⟨a1,a2,fun e1 e2=>?_⟩;obtain⟨rfl,a4⟩:=a3 e1 e2;exact⟨rfl,fun w' hw=>by rw[Sem.run_bind,run_program];exact a4 w' hw⟩
theorem gK.choose (q:Question):gK P (Go.choose q):=fun w v w2 h=>by
 rw[run_choose] at h;by_cases hq:q.forced=true
 ·rw[if_pos hq] at h
  simp only[Result.ok.injEq] at h;obtain⟨rfl,rfl⟩:=h;exact⟨j9 _,j9 _,fun _ _=>⟨rfl,fun w' _=>by rw[run_choose,if_pos hq]⟩⟩
 ·rw[if_neg hq] at h
  simp only[Result.ok.injEq] at h;obtain⟨rfl,rfl⟩:=h;exact⟨j9 _,Nat.le_succ _,fun _ e=>absurd e (Nat.succ_ne_self _)⟩
theorem gK.newObj (o:Obj):gK P (newObj o):=fun w v w2 h=>by
 simp only[run_newObj,Result.ok.injEq] at h;obtain⟨rfl,rfl⟩:=h;exact⟨by simp,j9 _,fun e _=>absurd e sm⟩
theorem Ai {w w':World} (h:iJ w w') {a:Addr} {v:Value} (hc:w.cell? a=some v):w'.cell? a=some v:=by
 have b:a.block<w.heap.size:=World.block_lt_of_cell? _ _ hc;rw[World.cell?_of_block (w:=w) (h _ b)];exact hc
theorem vB {w w':World} (h:iJ w w') {at_:Addr} {u:TypeId} {k:Addr} {b:Bool} {r:Value×List Addr} (hr:w.viewLoad P at_ u k b= .ok r):w'.viewLoad P at_ u k b= .ok r:=by
 have c:w'.heap[at_.block]? =w.heap[at_.block]? :=by
  rcases Nat.lt_or_ge at_.block w.heap.size with a|a
  ·exact h _ a
  ·exfalso
   have d:w.heap[at_.block]? =none:=Array.getElem?_eq_none a;unfold World.viewLoad at hr;cases hs:w.seen P at_ u k b with
   |error e=>rw[hs] at hr;cases hr
   |ok x=>
    unfold World.seen at hs;simp only[bind,Except.bind,Pure.pure,Except.pure,throw,throwThe,MonadExceptOf.throw,d] at hs
    repeat' (split at hs)
    all_goals (first|(cases hs;done)|skip)
 have:w'.viewLoad P at_ u k b=w.viewLoad P at_ u k b:=by
  unfold World.viewLoad World.seen;rw[c]
 rw[this];exact hr
theorem gK.load (a:Addr) (m:Mode):gK P (Go.load a m):=fun w v w2 h=>by
 rw[run_load] at h;cases hc:w.cell? a with
 |some x=>
  rw[hc] at h;simp only[Result.ok.injEq] at h;obtain⟨rfl,rfl⟩:=h;exact⟨j9 _,j9 _,fun _ _=>⟨rfl,fun w' hw=>by rw[run_load,Ai hw hc]⟩⟩
 |none=>
  rw[hc] at h;simp only at h;cases hf:w.farLoad P a (m== .atomic) with
  |error e=>rw[hf] at h;cases h
  |ok r=>
   rw[hf] at h;simp only[Result.ok.injEq] at h;obtain⟨rfl,rfl⟩:=h;refine⟨j9 _,j9 _,fun _ _=>⟨rfl,fun w' hw=>?_⟩⟩;unfold World.farLoad at hf;cases hb:w.heap[a.block]? with
   |none=>rw[hb] at hf;cases hf
   |some o=>
    rw[hb] at hf;have hb':=hw.at hb;have hc':w'.cell? a=none:=by rw[World.cell?_of_block (w:=w) (hb'.trans hb.symm)];exact hc
    rw[run_load,hc'];unfold World.farLoad;rw[hb'];cases o with
    |view at_ u=>
     simp only at hf ⊢;cases hv:w.viewLoad P at_ u a (m== .atomic) with
     |error e=>rw[hv] at hf;cases hf
     |ok r' =>
      rw[hv] at hf;simp only[Except.ok.injEq] at hf;subst hf;rw[vB hw hv]
    |_=>cases hf
theorem gK.getObj (r:Nat):gK P (Go.getObj r):=fun w v w2 h=>by
 have hrun:∀w:World,(Go.getObj r).run P w=match w.heap[r]? with|some (.cells ..)=> .halt (.stuck "getObj: a row of cells") w|some o=> .ok o w|none=> .halt (.stuck "getObj: no such block") w:=fun w=>by
  simp only[Go.getObj,Sem.run];cases w.heap[r]? with
  |none=>rfl
  |some o=>cases o<;>rfl
 rw[hrun] at h;cases hb:w.heap[r]? with
 |none=>rw[hb] at h;cases h
 |some o=>
  rw[hb] at h;cases o with
  |cells _ _ _=>cases h
  |_=>
   simp only[Result.ok.injEq] at h;obtain⟨rfl,rfl⟩:=h;exact⟨j9 _,j9 _,fun _ _=>⟨rfl,fun w' hw=>by rw[hrun,hw.at hb]⟩⟩
theorem zg {w w':World} (h:iJ w w') {r:Nat} (hr:r<w.heap.size):w'.shape? r=w.shape? r:=by
 unfold World.shape?;rw[h r hr]
theorem uy {w:World} {r:Nat} (h:w.heap[r]? =none):w.shape? r=none:=by unfold World.shape?;rw[h]
theorem gK.shapeB {r:Nat} {f:Option (TypeId×Nat)→Sem β} (hf:∀x,gK P (f x)) (hn:∀w v w2,w.heap[r]? =none→(f none).run P w≠ .ok v w2):gK P (Go.shape r >>= f):=fun w v w2 h=>by
 rw[Sem.run_bind,run_shape] at h;have h:(f (w.shape? r)).run P w= .ok v w2:=h;have hr:r<w.heap.size:=by
  rcases Nat.lt_or_ge r w.heap.size with a|a
  ·exact a
  ·exfalso
   have b:w.heap[r]? =none:=Array.getElem?_eq_none a;rw[uy b] at h;exact hn w v w2 b h
 obtain⟨d,e,g⟩:=hf (w.shape? r) w v w2 h;refine⟨d,e,fun j k=>?_⟩;obtain⟨rfl,i⟩:=g j k;exact⟨rfl,fun l c=>by rw[Sem.run_bind,run_shape,zg c hr];exact i l c⟩
theorem tS {w:World} {r:Nat} (h:w.heap[r]? =none):(Go.getObj r).run P w= .halt (.stuck "getObj: no such block") w:=by
 simp only[Go.getObj,Sem.run,h]
theorem gK.numberAt (r:Nat):gK P (numberAt r):=by
 unfold Go.numberAt;refine gK.shapeB (fun x=>?_) (fun w v b a=>?_)
 ·split
  ·exact gK.pure _
  ·exact(gK.getObj r).bind fun o=>by split<;>exact gK.pure _
 ·simp[tS a]
theorem gK.viewAt (r:Nat):gK P (viewAt r):=by
 unfold Go.viewAt;refine gK.shapeB (fun x=>?_) (fun w v b a=>?_)
 ·split
  ·exact gK.pure _
  ·exact(gK.getObj r).bind fun o=>by split<;>exact gK.pure _
 ·simp[tS a]
theorem gK.typeInfo (t:TypeId):gK P (typeInfo t):=by
 unfold Go.typeInfo;refine gK.program.bind fun p=>?_;split
 ·exact gK.pure _
 ·exact gK.stuck _
theorem gK.underlying (t:TypeId):gK P (underlying t):=by
 unfold Go.underlying;refine gK.program.bind fun p=>?_;split
 ·exact gK.pure _
 ·exact gK.stuck _
theorem gK.sizeOf (t:TypeId):gK P (Go.sizeOf t):=(gK.typeInfo t).bind fun _=>gK.pure _
theorem gK.isAgg (t:TypeId):gK P (isAgg t):=by
 unfold Go.isAgg;refine(gK.underlying t).bind fun u=>?_;split<;>exact gK.pure _
theorem gK.part (t:TypeId) (cs:Array Value) (off:Nat):gK P (part t cs off):=by
 unfold Go.part;refine(gK.isAgg t).bind fun b=>?_;split
 ·exact(gK.sizeOf t).bind fun _=>gK.pure _
 ·split
  ·exact gK.pure _
  ·exact gK.stuck _
theorem gK.loadCellsFrom (a:Addr):∀(n i:Nat) (acc:Array Value),gK P (loadCellsFrom a i n acc)
 |0,_,_=>gK.pure _
 |n+1,i,acc=>(gK.load _ _).bind fun v=>gK.loadCellsFrom a n (i+1) _
theorem gK.loadVar (t:TypeId) (a:Addr):gK P (loadVar t a):=by
 unfold Go.loadVar;refine(gK.isAgg t).bind fun b=>?_;split
 ·exact(gK.sizeOf t).bind fun n=>(gK.loadCellsFrom a n 0 #[]).bind fun _=>gK.pure _
 ·exact gK.load _ _
theorem gK.sureAddr (v:Value):gK P (Instr.sureAddr v):=by
 unfold Instr.sureAddr;split
 ·exact gK.pure _
 ·exact gK.stuck _
theorem gK.loadAt (t:TypeId) (v:Value):gK P (Instr.loadAt t v):=(gK.sureAddr v).bind fun a=>gK.loadVar t a
theorem gK.asIntOf (v:Value):gK P (asIntOf v):=by
 unfold Go.asIntOf;split
 ·exact gK.pure _
 ·exact gK.unsupported _
 ·exact gK.stuck _
theorem gK.asBool (v:Value):gK P (asBool v):=by
 unfold Go.asBool;split
 ·exact gK.pure _
 ·exact gK.stuck _
theorem gK.asAgg (v:Value):gK P (asAgg v):=by
 unfold Go.asAgg;split
 ·exact gK.pure _
 ·exact gK.stuck _
theorem gK.runtimeBounds {x y:Int} {s:Bool} {c:BoundsCode}:gK P (runtimePanic (.bounds x y s c):Sem α):=by
 unfold Go.runtimePanic;exact gK.program.bind fun p=>gK.goPanic _
theorem gK.nilDeref:gK P (runtimePanic .nilDeref:Sem α):=by
 unfold Go.runtimePanic;exact gK.program.bind fun p=>gK.goPanic _
theorem gK.boundsPanic (k:IntKind) (x y:Int) (c:BoundsCode):gK P (boundsPanic k x y c:Sem α):=by
 unfold Go.boundsPanic;dsimp only;split
 ·exact((gK.choose _).map).bind fun b=>gK.runtimeBounds
 ·exact(gK.pure _).bind fun b=>gK.runtimeBounds
theorem gK.asAddr (v:Value):gK P (asAddr v):=by
 unfold Go.asAddr;split
 ·exact gK.pure _
 ·exact gK.nilDeref
 ·exact gK.stuck _
theorem gK.arith {op:BinOp} {k:IntKind} {x y:Int}:gK P (Op.intArith op k x y):=by
 unfold Op.intArith;split<;>first|exact gK.pure _|exact gK.stuck _
theorem gK.cmp {op:BinOp} {x y:Int}:gK P (Op.intCmp op x y):=by
 unfold Op.intCmp;split<;>first|exact gK.pure _|exact gK.stuck _
theorem gK.bits {op:BinOp} {k:IntKind} {x y:Int}:gK P (Op.intBits op k x y):=by
 unfold Op.intBits;split<;>first|exact gK.pure _|exact gK.stuck _
theorem gK.unary (op:UnOp) (x:Value):gK P (Op.unary op x):=by
 unfold Op.unary;split<;>first|exact gK.pure _|exact gK.stuck _|exact gK.arith|exact gK.bits|exact gK.unsupported _
theorem gK.behindNumber (a:Addr):gK P (behindNumber a):=by
 unfold Go.behindNumber;exact(gK.numberAt _).bind fun _=>gK.pure _
theorem gK.extract (t:Value) (i:Nat):gK P (Instr.extract t i):=by
 unfold Instr.extract;exact wg
theorem gK.field (t:TypeId) (x:Value) (f:Nat):gK P (Instr.field t x f):=by
 unfold Instr.field;exact wg
theorem gK.indexAt (t:TypeId) (x i:Value):gK P (Instr.indexAt t x i):=by
 unfold Instr.indexAt;exact wg
theorem gK.index (t:TypeId) (x i:Value):gK P (Instr.index t x i):=by
 unfold Instr.index;exact wg
theorem gK.sliceBound (x:Value) (y:Nat) (c:BoundsCode):gK P (Instr.sliceBound x y c):=by
 unfold Instr.sliceBound;exact wg
theorem gK.sliceBounds (b:Bool) (n c:Nat) (lo hi mx:Option Value):gK P (Instr.sliceBounds b n c lo hi mx):=by
 unfold Instr.sliceBounds;have a:∀(m:Nat),gK P (do
   let h←match hi,mx with
    |some v,some _=>Instr.sliceBound v m .slice3B
    |some v,none=>Instr.sliceBound v m (if b then .sliceAcap else .sliceAlen)
    |none,none=>Pure.pure n
    |none,some _=>Go.stuck "Slice: max without high"
   let l←match lo with
    |some v=>Instr.sliceBound v h (if mx.isSome then .slice3C else .sliceB)
    |none=>Pure.pure 0
   Pure.pure (l,h,m)):=fun m=>by
  exact wg
 exact wg
theorem gK.slice (t:TypeId) (x:Value) (lo hi mx:Option Value):gK P (Instr.slice t x lo hi mx):=by
 unfold Instr.slice
 repeat' (first|with_reducible exact gK.pure _|with_reducible exact gK.stuck _|with_reducible exact gK.unsupported _|with_reducible exact gK.boundsPanic _ _ _ _|with_reducible exact gK.nilDeref|with_reducible exact gK.underlying _|with_reducible exact gK.sizeOf _|with_reducible exact gK.typeInfo _|with_reducible exact gK.part _ _ _|with_reducible exact gK.getObj _|with_reducible exact gK.asIntOf _|with_reducible exact gK.asAgg _|with_reducible exact gK.asAddr _|with_reducible exact gK.asBool _|with_reducible exact gK.sureAddr _|with_reducible exact gK.load _ _|with_reducible exact gK.sliceBounds _ _ _ _ _ _|with_reducible refine gK.bind ?_ (fun _=>?_)|split|dsimp only)
theorem gK.sliceAt (t:TypeId) (x:Value) (lo hi mx:Option Value):gK P (Instr.sliceAt t x lo hi mx):=by
 unfold Instr.sliceAt
 repeat' (first|with_reducible exact gK.pure _|with_reducible exact gK.stuck _|with_reducible exact gK.unsupported _|with_reducible exact gK.boundsPanic _ _ _ _|with_reducible exact gK.nilDeref|with_reducible exact gK.underlying _|with_reducible exact gK.sizeOf _|with_reducible exact gK.typeInfo _|with_reducible exact gK.part _ _ _|with_reducible exact gK.getObj _|with_reducible exact gK.asIntOf _|with_reducible exact gK.asAgg _|with_reducible exact gK.asAddr _|with_reducible exact gK.asBool _|with_reducible exact gK.sureAddr _|with_reducible exact gK.load _ _|with_reducible exact gK.sliceBounds _ _ _ _ _ _|with_reducible exact gK.slice _ _ _ _ _|with_reducible refine gK.bind ?_ (fun _=>?_)|split|dsimp only)
theorem gK.len (ts:Array TypeId) (t:TypeId) (xs:Array Value):gK P (Builtin.len_ ts t xs):=by
 unfold Builtin.len_;exact wg
theorem gK.cap (ts:Array TypeId) (t:TypeId) (xs:Array Value):gK P (Builtin.cap_ ts t xs):=by
 unfold Builtin.cap_;exact wg
theorem gK.followBlind:∀(l:List FieldStep) (t:TypeId) (x:Option Value),gK P (followBlind l t x)
 | [],_,_=>gK.pure _
 |s::rest,t,x=>by
  have ih:=fun t x=>gK.followBlind rest t x;unfold Go.followBlind
  repeat' (first|with_reducible exact gK.pure _|with_reducible exact gK.stuck _|with_reducible exact gK.unsupported _|with_reducible exact gK.boundsPanic _ _ _ _|with_reducible exact gK.nilDeref|with_reducible exact gK.underlying _|with_reducible exact gK.sizeOf _|with_reducible exact gK.typeInfo _|with_reducible exact gK.part _ _ _|with_reducible exact gK.getObj _|with_reducible exact gK.asIntOf _|with_reducible exact gK.asAgg _|with_reducible exact gK.asAddr _|with_reducible exact gK.asBool _|with_reducible exact gK.sureAddr _|with_reducible exact gK.load _ _|with_reducible exact ih _ _|with_reducible refine gK.bind ?_ (fun _=>?_)|split|dsimp only)
theorem gK.nilAhead:∀(n:Nat) (t:TypeId) (v:Value) (s:String),gK P (nilAhead n t v s)
 |0,_,_,_=>gK.pure _
 |n+1,t,v,s=>by
  have ih:=fun t v s=>gK.nilAhead n t v s;unfold Go.nilAhead
  repeat' (first|with_reducible exact gK.pure _|with_reducible exact gK.stuck _|with_reducible exact gK.unsupported _|with_reducible exact gK.boundsPanic _ _ _ _|with_reducible exact gK.nilDeref|with_reducible exact gK.underlying _|with_reducible exact gK.sizeOf _|with_reducible exact gK.typeInfo _|with_reducible exact gK.part _ _ _|with_reducible exact gK.getObj _|with_reducible exact gK.asIntOf _|with_reducible exact gK.asAgg _|with_reducible exact gK.asAddr _|with_reducible exact gK.asBool _|with_reducible exact gK.sureAddr _|with_reducible exact gK.load _ _|with_reducible exact ih _ _ _|with_reducible exact gK.followBlind _ _ _|with_reducible refine gK.bind ?_ (fun _=>?_)|split|dsimp only)
def qq (P:Program) (t:TypeId):Bool:=(match P.underlying t with|some (.int _)=>true|some .bool=>true|some .string=>true|_=>false)&&!P.eqGuardType P.depth t
def nM (P:Program) (o:Oper):Bool:=match o.op with
 | .move _=>true
 | .assign _=>true
 | .pick _ _ _=>true
 | .load _ _=>true
 | .nilCheck _=>true
 | .binOp op t _ _ _=>match op with| .lss| .leq| .gtr| .geq| .add| .sub| .eql| .neq=>qq P t|_=>false
 | .unOp _ _ _=>true
 | .slice _ _ _ _ _=>true
 | .fieldAddr t _ f=>match P.underlying t with|some (.struct fs)=>(match fs[f]? with|some fd=>(match P.info? fd.type with|some i=>i.size !=0|none=>false)|none=>false)|_=>false
 | .field _ _ _=>true
 | .indexAddr _ _ _=>true
 | .index _ _ _=>true
 | .extract _ _=>true
 | .call c=>match c.callee with| .builtin .len=>true| .builtin .cap=>true|_=>false
 |_=>false
theorem gK.fieldAt {t:TypeId} {f:Nat} (h:(match P.underlying t with|some (.struct fs)=>(match fs[f]? with|some fd=>(match P.info? fd.type with|some i=>i.size !=0|none=>false)|none=>false)|_=>false)=true) (x:Value):gK P (Instr.fieldAt t x f):=by
 unfold Instr.fieldAt Go.underlying;simp only[bind_assoc];refine gK.programB ?_;cases hu:P.underlying t with
 |none=>rw[hu] at h;cases h
 |some u=>
  rw[hu] at h;simp only[pure_bind];cases u with
  |struct fs=>
   simp only at h ⊢;cases hf:fs[f]? with
   |none=>exact wg
   |some fd=>
    rw[hf] at h;simp only at h ⊢;refine(gK.sureAddr _).bind fun a=>?_;unfold Go.fieldPlace Go.sizeOf Go.typeInfo;simp only[bind_assoc];refine gK.programB ?_;cases hi:P.info? fd.type with
    |none=>exact gK.bind (gK.stuck _) fun _=>by rw[hi] at h;cases h
    |some i=>
     rw[hi] at h;have b:i.size≠0:=by simpa using h
     simp only[pure_bind,b,if_false];exact gK.pure _
  |_=>exact wg
theorem gK.errorP {α:Type} {m:String}:gK P (runtimePanic (.error m):Sem α):=by
 unfold Go.runtimePanic;exact gK.program.bind fun p=>gK.goPanic _
theorem gK.byteOf (a:Addr):gK P (byteOf a):=by
 unfold Go.byteOf Go.noView;exact wg
theorem gK.addrCmp (op:BinOp) (a b:Addr):gK P (Op.addrCmp op a b):=by
 unfold Op.addrCmp Op.twoPlaces;exact wg
theorem gK.addrSub (k:IntKind) (a b:Addr):gK P (Op.addrSub k a b):=by
 unfold Op.addrSub Op.twoPlaces;exact wg
theorem gK.unsafeAdd (ts:Array TypeId) (t:TypeId) (xs:Array Value):gK P (Builtin.unsafeAdd_ ts t xs):=by
 obtain⟨l⟩:=xs;rcases l with _|⟨x,_|⟨y,_|⟨z,l⟩⟩⟩
 case cons.cons.nil=>
  cases x
  case pointer o=>
   show gK P (do
    let n←Go.asInt y
    if n=0 then
     let some a:=o|Go.unsupported (.unsafePointer "Add: from nil")
     if (←Go.viewAt a.block).isSome then Go.unsupported (.unsafePointer "Add: at a place where no cell lies")
     return Value.pointer o
    if n<0 then Go.unsupported (.unsafePointer "Add: a move by a count below zero")
    let some a:=o|Go.unsupported (.unsafePointer "Add")
    let some (e,cells)←Go.shape a.block|Go.unsupported (.unsafePointer "Add")
    let p←Go.program
    match cellAtBytes p p.depth e (cells / p.cellsOf e) a.off n with
    |some off=>Pure.pure (Value.pointer (some {a with off}))
    |none=>Go.unsupported (.unsafePointer "Add"))
   unfold Go.asInt;exact wg
  all_goals exact gK.stuck _
 all_goals first|exact gK.stuck _|(cases x<;>exact gK.stuck _)
theorem gK.asNumber (a:Addr) (b:Bool):gK P (asNumber a b):=by
 unfold Go.asNumber;exact(gK.newObj _).bind fun _=>gK.pure _
theorem gK.movedNumber (t:TypeId) (x y:Value):gK P (movedNumber t x y):=by
 unfold Go.movedNumber;exact wg
theorem gK.movedPointer (t:TypeId) (x y:Value):gK P (movedPointer t x y):=by
 unfold Go.movedPointer;exact wg
theorem gK.equal {t:TypeId} (h:qq P t=true) (x y:Value):gK P (Op.equal t x y):=by
 unfold Op.equal Op.maxDepth;show gK P (Op.equalIn (9999+1) t x y);rw[Op.equalIn];unfold Go.underlying;simp only[bind_assoc];refine gK.programB ?_;unfold qq at h;cases hu:P.underlying t with
 |none=>rw[hu] at h;cases h
 |some u=>
  rw[hu] at h;simp only[pure_bind];cases u<;>first|(exfalso;revert h;simp;done)|(split<;>first|(exfalso;simp_all;done)|skip)
  all_goals (repeat' (first|with_reducible exact gK.pure _|with_reducible exact gK.stuck _|with_reducible exact gK.unsupported _|with_reducible exact gK.boundsPanic _ _ _ _|with_reducible exact gK.nilDeref|with_reducible exact gK.underlying _|with_reducible exact gK.sizeOf _|with_reducible exact gK.typeInfo _|with_reducible exact gK.part _ _ _|with_reducible exact gK.getObj _|with_reducible exact gK.asIntOf _|with_reducible exact gK.asAgg _|with_reducible exact gK.asAddr _|with_reducible exact gK.asBool _|with_reducible exact gK.sureAddr _|with_reducible exact gK.load _ _|with_reducible exact gK.viewAt _|with_reducible exact gK.numberAt _|with_reducible exact gK.byteOf _|with_reducible exact gK.behindNumber _|with_reducible exact gK.unsafeAdd _ _ _|with_reducible exact gK.asNumber _ _|with_reducible exact gK.program|with_reducible exact gK.choose _|with_reducible exact gK.errorP|(refine gK.shapeB (fun _=>?_) ?hn;case hn=>(intro w v b a h;simp at h;done))|with_reducible refine gK.bind ?_ (fun _=>?_)|split|dsimp only))
theorem gK.floatArith (op:BinOp) (k:FloatKind) (x y:Nat):gK P (Op.floatArith op k x y):=by
 unfold Op.floatArith;exact wg
theorem gK.floatCmp (op:BinOp) (k:FloatKind) (x y:Nat):gK P (Op.floatCmp op k x y):=by
 unfold Op.floatCmp;exact wg
theorem gK.stringOp (op:BinOp) (x y:ByteArray):gK P (Op.stringOp op x y):=by
 unfold Op.stringOp;exact wg
theorem gK.cArith (op:BinOp) (k:FloatKind) (x y:Nat):gK P (Op.Complex.arith op k x y):=by
 unfold Op.Complex.arith;refine(gK.floatArith _ _ _ _).bind fun _=>?_;exact wg
theorem gK.cCmp (op:BinOp) (k:FloatKind) (x y:Nat):gK P (Op.Complex.cmp op k x y):=by
 unfold Op.Complex.cmp;exact(gK.floatCmp _ _ _ _).bind fun _=>gK.asBool _
theorem gK.complexOp {op:BinOp} (hop:op≠ .mul∧op≠ .quo) (k:FloatKind) (a b c d:Nat):gK P (Op.complexOp op k a b c d):=by
 unfold Op.complexOp;split
 ·exact(gK.cArith _ _ _ _).bind fun _=>(gK.cArith _ _ _ _).bind fun _=>gK.pure _
 ·exact(gK.cArith _ _ _ _).bind fun _=>(gK.cArith _ _ _ _).bind fun _=>gK.pure _
 ·exact absurd rfl hop.1
 ·exact absurd rfl hop.2
 ·exact(gK.cCmp _ _ _ _).bind fun b=>(gK.cCmp _ _ _ _).bind fun b=>gK.pure _
 ·exact(gK.cCmp _ _ _ _).bind fun b=>(gK.cCmp _ _ _ _).bind fun b=>gK.pure _
 ·exact gK.stuck _
theorem gK.addrMod (k:IntKind) (a:Addr) (n:Int):gK P (Op.addrMod k a n):=by
 unfold Op.addrMod;exact wg
theorem gK.shift (op:BinOp) (k:IntKind) (x:Int) (j:IntKind) (y:Int):gK P (Op.shift op k x j y):=by
 unfold Op.shift;exact wg
theorem gK.binOpI {t:TypeId} (h:qq P t=true) {op:BinOp} (hop:op∈[BinOp.lss,.leq,.gtr,.geq,.add,.sub,.eql,.neq]) (x y:Value):gK P (binOp op t x y):=by
 have a:=gK.equal h x y;simp only[List.mem_cons,List.not_mem_nil,or_false] at hop;rcases hop with rfl|rfl|rfl|rfl|rfl|rfl|rfl|rfl|rfl
 all_goals unfold Go.binOp
 all_goals (repeat' (first|with_reducible exact gK.pure _|with_reducible exact gK.stuck _|with_reducible exact gK.unsupported _|with_reducible exact gK.boundsPanic _ _ _ _|with_reducible exact gK.nilDeref|with_reducible exact gK.underlying _|with_reducible exact gK.sizeOf _|with_reducible exact gK.typeInfo _|with_reducible exact gK.part _ _ _|with_reducible exact gK.getObj _|with_reducible exact gK.asIntOf _|with_reducible exact gK.asAgg _|with_reducible exact gK.asAddr _|with_reducible exact gK.asBool _|with_reducible exact gK.sureAddr _|with_reducible exact gK.load _ _|with_reducible exact gK.viewAt _|with_reducible exact gK.numberAt _|with_reducible exact gK.byteOf _|with_reducible exact gK.behindNumber _|with_reducible exact gK.unsafeAdd _ _ _|with_reducible exact gK.asNumber _ _|with_reducible exact gK.program|with_reducible exact gK.choose _|with_reducible exact gK.errorP|(refine gK.shapeB (fun _=>?_) ?hn;case hn=>(intro w v c b h;simp at h;done))|with_reducible refine gK.bind ?_ (fun _=>?_)|with_reducible exact a|with_reducible exact gK.shift _ _ _ _ _|with_reducible exact gK.arith|with_reducible exact gK.cmp|with_reducible exact gK.floatArith _ _ _ _|with_reducible exact gK.floatCmp _ _ _ _|with_reducible exact gK.stringOp _ _ _|exact gK.complexOp dc _ _ _ _ _|with_reducible exact gK.choose _|with_reducible exact gK.addrCmp _ _ _|with_reducible exact gK.addrSub _ _ _|with_reducible exact gK.addrMod _ _ _|with_reducible exact gK.movedNumber _ _ _|with_reducible exact gK.movedPointer _ _ _|split|dsimp only))
theorem gK.eqGuard {t:TypeId} (h:qq P t=true) (op:BinOp) (x y:Operand) (a b:Value):gK P (eqGuard op t x y a b):=by
 unfold Go.eqGuard;have e:P.eqGuardType P.depth t=false:=by unfold qq at h;simp at h;exact h.2
 have c:gK P (Op.eqGuardIn Op.maxDepth t a b):=by
  show gK P (Op.eqGuardIn (9999+1) t a b);rw[Op.eqGuardIn];unfold Go.underlying;simp only[bind_assoc];refine gK.programB ?_;unfold qq at h;cases hu:P.underlying t with
  |none=>rw[hu] at h;cases h
  |some u=>
   rw[hu] at h;simp only[pure_bind];cases u<;>first|(exfalso;revert h;simp;done)|(split<;>first|(exfalso;simp_all;done)|exact gK.pure _)
 have d:∀hh:gK P (Op.eqGuardIn Op.maxDepth t a b),gK P (match (generalizing:=false) a,b with
   | .nilIface,.nilIface=>
    if (x matches .const _)||(y matches .const _) then Pure.pure () else do
     if←Op.eqGuardIn Op.maxDepth t a b then Go.unsupported (.noEntry "binop/eql: two nil values of an interface type with methods, neither of them the literal nil")
     else Pure.pure ()
   | .agg _,.agg _=>do
    if !(←Go.program).eqGuardType (←Go.program).depth t then Pure.pure () else
     if←Op.eqGuardIn Op.maxDepth t a b then Go.unsupported (.noEntry "binop/eql: two nil values of an interface type with methods, in a part of a struct or an array")
     else Pure.pure ()
   |_,_=>Pure.pure ():Sem Unit):=by
  intro c;split
  ·refine gK.ite (gK.pure _) (c.bind fun b=>?_)
   split
   ·exact gK.unsupported _
   ·exact gK.pure _
  ·refine gK.programB (gK.programB ?_)
   rw[e];exact gK.pure _
  ·exact gK.pure _
 split
 ·exact d c
 ·exact d c
 ·exact gK.pure _
end
end
end Go.Proofs.YtgilllnjhahkfaaGreat
