/- Parts of the proof: Mod, Base. -/
import Derived.Test.YtlndjfflhegkdaaGreatDoorProg
import Derived.WalkKit
import Derived.WalkSpells
import Derived.WalkLawsBesides
import Derived.Deep.QuietTactic
import Derived.BigQuiet
import Derived.Deep.LoopGhost
import Derived.KernelRfl
set_option linter.unusedVariables false
set_option linter.unusedSimpArgs false
set_option linter.unusedSectionVars false
set_option maxHeartbeats 4000000
namespace Go.Proofs.YtlndjfflhegkdaaGreatDoor
open Go.RowKit
structure lJ where
 d:Int
 a:Int
 b:Int
 c:Int
 e:Int
 deriving DecidableEq,Inhabited
structure jL where
 kind:Int
 ops:List lJ
 deriving DecidableEq,Inhabited
structure iy where
 rules:List jL
 deriving DecidableEq,Inhabited
structure ll where
 x:Int
 y:Int
 c:Int
 deriving DecidableEq,Inhabited
structure hY where
 time:Int
 to:Int
 from_:Int
 count:Int
 n:Int
 kind:Int
 arg:Int
 deriving DecidableEq,Inhabited
structure ik where
 time:Int
 proc:Int
 count:Int
 n:Int
 value:Int
 deriving DecidableEq,Inhabited
def xM:ll:=⟨0,0,0⟩
def ib (v l h:Int):Bool:=decide (l≤v)&&decide (v≤h)
def kg (o:lJ):Bool:=
 if o.d=1∨o.d=3 then ib o.a 0 1&&(ib o.b 0 999&&(o.c==0&&o.e==0))
 else if o.d=2 then ib o.a 0 1&&(ib o.b 0 1&&(o.c==0&&o.e==0))
 else if o.d=4∨o.d=7 then ib o.a 0 1&&(o.b==0&&(o.c==0&&o.e==0))
 else if o.d=5 then ib o.a 0 1&&(ib o.b 0 999&&(ib o.c 1 8&&o.e==0))
 else if o.d=6 then ib o.a 0 3&&(ib o.b 0 3&&(ib o.c 1 40&&ib o.e 0 1))
 else false
def mL (k:Int) (l:List lJ):Nat:=(l.filter fun o=>decide (o.d=k)).length
def mG (l:List lJ):Bool:=l.all kg&&decide (l.length≤8)&&decide (mL 6 l≤2)&&decide (mL 7 l≤2)
def kV (r:jL):Bool:=ib r.kind 0 3&&mG r.ops
def mz:List jL→Bool
 | []=>true
 | [_]=>true
 |a::b::l=>decide (a.kind<b.kind)&&mz (b::l)
theorem wm (l:List jL) (a:jL):mz (l++[a])=(mz l&&match l.getLast? with|none=>true|some b=>decide (b.kind<a.kind)):=by
 induction l with
 |nil=>rfl
 |cons x l ih=>
  cases l with
  |nil=>simp[mz]
  |cons y l=>
   simp only[List.cons_append,mz] at ih ⊢;rw[ih,Bool.and_assoc];simp[List.getLast?_cons_cons]
def je (a:iy):Bool:=decide (a.rules.length≤4)&&a.rules.all kV&&mz a.rules
def io (l:List iy):Bool:=decide (l.length=4)&&l.all je
def jE (s:ll):Bool:=ib s.x 0 999&&ib s.y 0 999&&ib s.c 0 12
def i7 (e:hY):Bool:=ib e.time 0 40&&ib e.to 0 3&&ib e.from_ (-1) 3&&ib e.count 0 12&&ib e.n 0 3&&ib e.kind 0 3&&ib e.arg 0 999
def nL (o:ik):Bool:=ib o.time 0 40&&ib o.proc 0 3&&ib o.count 0 11&&ib o.n 0 1&&ib o.value 0 999
structure im where
 x:Int
 y:Int
 sends:List hY
 outs:List ik
 deriving DecidableEq,Inhabited
def im.get (r:im) (k:Int):Int:=if k=0 then r.x else r.y
def im.put (r:im) (k v:Int):im:=if k=0 then {r with x:=v % 1000} else {r with y:=v % 1000}
def jl (e:hY) (c:Int) (o:lJ) (r:im):im×Int:=
 if o.d=1 then (r.put o.a o.b,0)
 else if o.d=2 then (r.put o.a (r.get o.a+r.get o.b),0)
 else if o.d=3 then (r.put o.a (r.get o.a+o.b),0)
 else if o.d=4 then (r.put o.a e.arg,0)
 else if o.d=5 then (if r.get o.a<o.b then (r,o.c) else (r,0))
 else if o.d=6 then (if e.time+o.c≤40 then ({r with sends:=r.sends++[⟨e.time+o.c,o.a,e.to,c,(r.sends.length:Int),o.b,r.get o.e⟩]},0) else (r,0))
 else if o.d=7 then ({r with outs:=r.outs++[⟨e.time,e.to,c,(r.outs.length:Int),r.get o.a⟩]},0)
 else (r,0)
def kR (e:hY) (c:Int):Nat→List lJ→im→im
 |0,_,r=>r
 |_,[],r=>r
 |n+1,o::l,r=>kR e c n (l.drop (jl e c o r).2.toNat) (jl e c o r).1
def jh (e:hY) (c:Int) (l:List jL) (r:im):im:=
 l.foldl (fun r q=>if q.kind=e.kind then kR e c q.ops.length q.ops r else r) r
def iA (a:iy) (s:ll) (e:hY):ll×List hY×List ik:=
 if je a&&jE s&&i7 e then
  if s.c=12 then (s,[],[])
  else
   let r:=jh e s.c a.rules ⟨s.x,s.y,[],[]⟩
   (⟨r.x,r.y,s.c+1⟩,r.sends,r.outs)
 else (xM,[],[])
section
theorem fS {p:Prop} (h:p):Hid p:=h
structure Ty (α:Type) where
 sz:Nat
 rel:World→(Nat→Prop)→α→List Value→Prop
 len:∀{w F x cs},rel w F x cs→cs.length=sz
 one:∀{w F x cs},rel w F x cs→∀u∈cs,u.oneCell' =true
 mono:∀{w F F' x cs},(∀k,F k→F' k)→rel w F x cs→rel w F' x cs
 move:∀{w w' F x cs},(∀k,F k→w'.heap[k]? =w.heap[k]?)→rel w F x cs→rel w' F x cs
 bound:∀{w F x cs},rel w F x cs→rel w (fun k=>F k∧k<w.heap.size) x cs
theorem j9 {W w1:World} (hb:Below W.heap.size W w1):(∀b o,b<W.heap.size→w1.cell? ⟨b,o,none⟩=W.cell? ⟨b,o,none⟩)∧(∀b o,b<W.heap.size→w1.frozen? ⟨b,o,none⟩=W.frozen? ⟨b,o,none⟩):=
 ⟨fun b o h=>hb.cell (p:=⟨b,o,none⟩) h,fun b o h=>hb.frozen (p:=⟨b,o,none⟩) h⟩
theorem fU {B:Nat} {w w1 w2:World} (h:Below B w w1) (k:Below w1.heap.size w1 w2) (hB:B≤w1.heap.size):Below B w w2:=
 h.trans ⟨k.os,k.tape,k.output,k.size,fun i hi=>k.block i (Nat.lt_of_lt_of_le hi hB)⟩
theorem ja {B:Nat} {w W:World} (h:Below B w W) (n:Nat):Below B w (W.drewN n):=⟨h.os,h.tape,h.output,h.size,h.block⟩
theorem gs {w W:World} (h:Below w.heap.size w W) (o:Obj):Below w.heap.size w (W.alloc o):=h.alloc h.size o
theorem gK {w w1 w2:World} (h:Below w.heap.size w w1) (k:Below w1.heap.size w1 w2):Below w.heap.size w w2:=fU h k h.size
section
variable {α:Type}
def Rd (d:Ty α) (w:World) (F:Nat→Prop) (v:Value) (xs:List α):Prop:=
 ∃A c,v= .slice A xs.length c∧xs.length≤c∧xs.length≤9223372036854775807∧
  (0<xs.length→∃b o,A=some ⟨b,o,none⟩∧F b∧b<w.heap.size∧
   ∀j x,xs[j]? =some x→∃cs,d.rel w F x cs∧∀i u,cs[i]? =some u→w.cell? ⟨b,o+j*d.sz+i,none⟩=some u)
variable {d:Ty α} {w w':World} {F F':Nat→Prop} {v:Value} {xs:List α}
theorem Rd.nil (d:Ty α) (w:World) (F:Nat→Prop):Rd d w F (.slice none 0 0) []:=⟨none,0,rfl,Nat.le_refl _,by simp,fun h=>absurd h (by simp)⟩
theorem Rd.mono (hF:∀k,F k→F' k) (h:Rd d w F v xs):Rd d w F' v xs:=by
 obtain⟨A,c,rfl,f,g,i⟩:=h;refine⟨A,c,rfl,f,g,fun p=>?_⟩;obtain⟨b,o,rfl,l,a,m⟩:=i p;refine⟨b,o,rfl,hF _ l,a,fun j x n=>?_⟩;obtain⟨e,q,r⟩:=m j x n;exact⟨e,d.mono hF q,r⟩
theorem Rd.move (hm:∀k,F k→w'.heap[k]? =w.heap[k]?) (h:Rd d w F v xs):Rd d w' F v xs:=by
 obtain⟨A,c,rfl,l,m,n⟩:=h;refine⟨A,c,rfl,l,m,fun s=>?_⟩;obtain⟨b,o,rfl,e,f,p⟩:=n s;have a:=hm b e;have hlt':b<w'.heap.size:=by
  have:w.heap[b]? =some w.heap[b]:=Array.getElem?_eq_getElem f;rw[this] at a;exact(Array.getElem?_eq_some_iff.1 a).1
 refine⟨b,o,rfl,e,hlt',fun j x r=>?_⟩;obtain⟨g,t,y⟩:=p j x r;exact⟨g,d.move hm t,fun i u q=>(World.cell?_of_block (w:=w) a).trans (y i u q)⟩
theorem Rd.bound (h:Rd d w F v xs):Rd d w (fun k=>F k∧k<w.heap.size) v xs:=by
 obtain⟨A,c,rfl,f,g,i⟩:=h;refine⟨A,c,rfl,f,g,fun p=>?_⟩;obtain⟨b,o,rfl,l,a,m⟩:=i p;refine⟨b,o,rfl,⟨l,a⟩,a,fun j x n=>?_⟩;obtain⟨e,q,r⟩:=m j x n;exact⟨e,d.bound q,r⟩
theorem Rd.keep (h:Rd d w F v xs) (hm:∀k,F k→k<w.heap.size→w'.heap[k]? =w.heap[k]?):Rd d w' F v xs:=
 ((h.bound).move (fun k hk=>hm k hk.1 hk.2)).mono (fun _ hk=>hk.1)
theorem Rd.below (h:Rd d w F v xs) (hb:Below w.heap.size w w'):Rd d w' F v xs:=h.keep fun k _ hk=>hb.block k hk
theorem Ty.keep {x:α} {cs:List Value} (h:d.rel w F x cs) (hm:∀k,F k→k<w.heap.size→w'.heap[k]? =w.heap[k]?):d.rel w' F x cs:=
 d.mono (fun _ hk=>hk.1) (d.move (fun k hk=>hm k hk.1 hk.2) (d.bound h))
theorem Rd.at_ {A:Option Addr} {n c:Nat} (h:Rd d w F (.slice A n c) xs) (j:Nat) (hj:j<xs.length):
  ∃b o cs,A=some ⟨b,o,none⟩∧F b∧b<w.heap.size∧d.rel w F xs[j] cs∧∀i u,cs[i]? =some u→w.cell? ⟨b,o+j*d.sz+i,none⟩=some u:=by
 obtain⟨q,r,l,_,_,f⟩:=h;injection l with hA _ _;subst hA;obtain⟨b,o,rfl,g,e,k⟩:=f (by omega);obtain⟨cs,m,p⟩:=k j xs[j] (List.getElem?_eq_getElem hj);exact⟨b,o,cs,rfl,g,e,m,p⟩
theorem Rd.len_ {A:Option Addr} {n c:Nat} (h:Rd d w F (.slice A n c) xs):n=xs.length∧xs.length≤c∧xs.length≤9223372036854775807:=by
 obtain⟨f,g,e,a,b,_⟩:=h;injection e with _ hn hc;subst hn hc;exact⟨rfl,a,b⟩
def kx (cells:α→List Value) (sz:Nat) (hl:∀x,(cells x).length=sz) (ho:∀x,∀u∈cells x,u.oneCell' =true):Ty α where
 sz:=sz
 rel:=fun _ _ x cs=>cs=cells x
 len:=fun h=>by subst h;exact hl _
 one:=fun h=>by subst h;exact ho _
 mono:=fun _ h=>h
 move:=fun _ h=>h
 bound:=fun h=>h
end
def jQ (k:IntKind):Ty Int:=kx (fun x=>[.int k x]) 1 (fun _=>rfl) (fun _ u hu=>by simp at hu;subst hu;rfl)
def lJ.cells (o:lJ):List Value:=[.int .i64 o.d,.int .i64 o.a,.int .i64 o.b,.int .i64 o.c,.int .i64 o.e]
def ll.cells (s:ll):List Value:=[.int .i64 s.x,.int .i64 s.y,.int .i64 s.c]
def hY.cells (e:hY):List Value:=[.int .i64 e.time,.int .i64 e.to,.int .i64 e.from_,.int .i64 e.count,.int .i64 e.n,.int .i64 e.kind,.int .i64 e.arg]
def ik.cells (o:ik):List Value:=[.int .i64 o.time,.int .i64 o.proc,.int .i64 o.count,.int .i64 o.n,.int .i64 o.value]
def qG:Ty lJ:=kx lJ.cells 5 (fun _=>rfl) (fun _ u hu=>by simp[lJ.cells] at hu;rcases hu with rfl|rfl|rfl|rfl|rfl<;>rfl)
def nB:Ty ll:=kx ll.cells 3 (fun _=>rfl) (fun _ u hu=>by simp[ll.cells] at hu;rcases hu with rfl|rfl|rfl<;>rfl)
def iw:Ty hY:=kx hY.cells 7 (fun _=>rfl) (fun _ u hu=>by simp[hY.cells] at hu;rcases hu with rfl|rfl|rfl|rfl|rfl|rfl|rfl<;>rfl)
def hJ:Ty ik:=kx ik.cells 5 (fun _=>rfl) (fun _ u hu=>by simp[ik.cells] at hu;rcases hu with rfl|rfl|rfl|rfl|rfl<;>rfl)
theorem uH {w:World} {F:Nat→Prop} {A:Option Addr} {n c:Nat} {xs:List lJ} (h:Rd qG w F (.slice A n c) xs) (j:Nat) (hj:j<xs.length):
  ∃b o,A=some ⟨b,o,none⟩∧b<w.heap.size∧w.cell? ⟨b,o+j*5,none⟩=some (.int .i64 xs[j].d)∧w.cell? ⟨b,o+j*5+1,none⟩=some (.int .i64 xs[j].a)∧w.cell? ⟨b,o+j*5+2,none⟩=some (.int .i64 xs[j].b)∧w.cell? ⟨b,o+j*5+3,none⟩=some (.int .i64 xs[j].c)∧w.cell? ⟨b,o+j*5+4,none⟩=some (.int .i64 xs[j].e):=by
 obtain⟨b,o,i,rfl,_,g,k,f⟩:=h.at_ j hj;obtain rfl:i=_:=k;exact⟨b,o,rfl,g,f 0 _ rfl,f 1 _ rfl,f 2 _ rfl,f 3 _ rfl,f 4 _ rfl⟩
theorem yJ {w:World} {F:Nat→Prop} {A:Option Addr} {n c:Nat} {xs:List ll} (h:Rd nB w F (.slice A n c) xs) (j:Nat) (hj:j<xs.length):
  ∃b o,A=some ⟨b,o,none⟩∧b<w.heap.size∧w.cell? ⟨b,o+j*3,none⟩=some (.int .i64 xs[j].x)∧w.cell? ⟨b,o+j*3+1,none⟩=some (.int .i64 xs[j].y)∧w.cell? ⟨b,o+j*3+2,none⟩=some (.int .i64 xs[j].c):=by
 obtain⟨b,o,e,rfl,_,d,f,a⟩:=h.at_ j hj;obtain rfl:e=_:=f;exact⟨b,o,rfl,d,a 0 _ rfl,a 1 _ rfl,a 2 _ rfl⟩
theorem jC {w:World} {F:Nat→Prop} {A:Option Addr} {n c:Nat} {xs:List hY} (h:Rd iw w F (.slice A n c) xs) (j:Nat) (hj:j<xs.length):
  ∃b o,A=some ⟨b,o,none⟩∧b<w.heap.size∧w.cell? ⟨b,o+j*7,none⟩=some (.int .i64 xs[j].time)∧w.cell? ⟨b,o+j*7+1,none⟩=some (.int .i64 xs[j].to)∧w.cell? ⟨b,o+j*7+2,none⟩=some (.int .i64 xs[j].from_)∧w.cell? ⟨b,o+j*7+3,none⟩=some (.int .i64 xs[j].count)∧w.cell? ⟨b,o+j*7+4,none⟩=some (.int .i64 xs[j].n)∧w.cell? ⟨b,o+j*7+5,none⟩=some (.int .i64 xs[j].kind)∧w.cell? ⟨b,o+j*7+6,none⟩=some (.int .i64 xs[j].arg):=by
 obtain⟨b,o,e,rfl,_,d,f,a⟩:=h.at_ j hj;obtain rfl:e=_:=f;exact⟨b,o,rfl,d,a 0 _ rfl,a 1 _ rfl,a 2 _ rfl,a 3 _ rfl,a 4 _ rfl,a 5 _ rfl,a 6 _ rfl⟩
theorem kh {w:World} {F:Nat→Prop} {A:Option Addr} {n c:Nat} {xs:List ik} (h:Rd hJ w F (.slice A n c) xs) (j:Nat) (hj:j<xs.length):
  ∃b o,A=some ⟨b,o,none⟩∧b<w.heap.size∧w.cell? ⟨b,o+j*5,none⟩=some (.int .i64 xs[j].time)∧w.cell? ⟨b,o+j*5+1,none⟩=some (.int .i64 xs[j].proc)∧w.cell? ⟨b,o+j*5+2,none⟩=some (.int .i64 xs[j].count)∧w.cell? ⟨b,o+j*5+3,none⟩=some (.int .i64 xs[j].n)∧w.cell? ⟨b,o+j*5+4,none⟩=some (.int .i64 xs[j].value):=by
 obtain⟨b,o,e,rfl,_,d,f,a⟩:=h.at_ j hj;obtain rfl:e=_:=f;exact⟨b,o,rfl,d,a 0 _ rfl,a 1 _ rfl,a 2 _ rfl,a 3 _ rfl,a 4 _ rfl⟩
def kT:Ty jL where
 sz:=2
 rel:=fun w F x cs=>∃v,cs=[.int .i64 x.kind,v]∧Rd qG w F v x.ops
 len:=fun ⟨v,h,_⟩=>by rw[h];rfl
 one:=fun ⟨v,h,hr⟩ u hu=>by
  obtain⟨A,c,rfl,_⟩:=hr;rw[h] at hu;simp at hu;rcases hu with rfl|rfl<;>rfl
 mono:=fun hF ⟨v,h,hr⟩=>⟨v,h,hr.mono hF⟩
 move:=fun hm ⟨v,h,hr⟩=>⟨v,h,hr.move hm⟩
 bound:=fun ⟨v,h,hr⟩=>⟨v,h,hr.bound⟩
def me:Ty iy where
 sz:=1
 rel:=fun w F x cs=>∃v,cs=[v]∧Rd kT w F v x.rules
 len:=fun ⟨v,h,_⟩=>by rw[h];rfl
 one:=fun ⟨v,h,hr⟩ u hu=>by
  obtain⟨A,c,rfl,_⟩:=hr;rw[h] at hu;simp at hu;rcases hu with rfl;rfl
 mono:=fun hF ⟨v,h,hr⟩=>⟨v,h,hr.mono hF⟩
 move:=fun hm ⟨v,h,hr⟩=>⟨v,h,hr.move hm⟩
 bound:=fun ⟨v,h,hr⟩=>⟨v,h,hr.bound⟩
theorem mv {w:World} {F:Nat→Prop} {A:Option Addr} {n c:Nat} {xs:List jL} (h:Rd kT w F (.slice A n c) xs) (j:Nat) (hj:j<xs.length):
  ∃b o A1 c1,A=some ⟨b,o,none⟩∧b<w.heap.size∧w.cell? ⟨b,o+j*2,none⟩=some (.int .i64 xs[j].kind)∧w.cell? ⟨b,o+j*2+1,none⟩=some (.slice A1 xs[j].ops.length c1)∧Rd qG w F (.slice A1 xs[j].ops.length c1) xs[j].ops:=by
 obtain⟨b,o,f,rfl,_,a,⟨v,rfl,d⟩,e⟩:=h.at_ j hj;obtain⟨A1,c1,rfl,_⟩:=id d;exact⟨b,o,A1,c1,rfl,a,e 0 _ rfl,e 1 _ rfl,d⟩
theorem oV {w:World} {F:Nat→Prop} {A:Option Addr} {n c:Nat} {xs:List iy} (h:Rd me w F (.slice A n c) xs) (j:Nat) (hj:j<xs.length):
  ∃b o A1 c1,A=some ⟨b,o,none⟩∧b<w.heap.size∧w.cell? ⟨b,o+j,none⟩=some (.slice A1 xs[j].rules.length c1)∧Rd kT w F (.slice A1 xs[j].rules.length c1) xs[j].rules:=by
 obtain⟨b,o,f,rfl,_,a,⟨v,rfl,d⟩,e⟩:=h.at_ j hj;obtain⟨A1,c1,rfl,_⟩:=id d;have:=e 0 _ rfl;simp only[me,Nat.mul_one,Nat.add_zero] at this;exact⟨b,o,A1,c1,rfl,a,this,d⟩
end
theorem ia {p:Prop} [Decidable p] (h:¬p):decide p=false:=decide_eq_false h
theorem iW {p:Prop} [Decidable p] (h:p):decide p=true:=decide_eq_true h
theorem ly {a b c:Nat} (h:a≤b) (k:b≤c):a≤c:=Nat.le_trans h k
theorem j8 (a:Nat):0≤a:=Nat.zero_le a
theorem jn (a:Nat):a≤a:=Nat.le_refl a
theorem sF {a b c:Nat} (h:a<b) (k:b≤c):a<c:=Nat.lt_of_lt_of_le h k
theorem pE {α:Type} {l:List α} {i:Nat} (h:i<l.length):l[i]? =some l[i]:=List.getElem?_eq_getElem h
theorem vX {α:Type} {l:List α} {i:Nat} (h:i<l.length):l.take (i+1)=l.take i++[l[i]]:=List.take_succ_eq_append_getElem h
theorem li {α:Type} {l:List α}:l.take l.length=l:=List.take_length
theorem lb (w:World) (o:Obj):(w.alloc o).heap.size=w.heap.size+1:=World.size_alloc ..
theorem gM (n:Nat) (w:World):Below n w w:=Below.refl n w
abbrev tT (i:Nat):Nat×Bool:=(i,true)
abbrev tF (i:Nat):Nat×Bool:=(i,false)
instance:Coe Int Value:=⟨fun n=> .int .i64 n⟩
instance:Coe Nat Value:=⟨fun n=> .int .i64 (n:Int)⟩
instance:Coe Bool Value:=⟨fun n=> .bool n⟩
structure Bx (p:Prop):Prop where
 u:p
theorem gY {P:Prop} (t:P:=by kernel_rfl):P:=t
theorem fT {P:Prop} (t:P:=by omega):P:=t
theorem dc {P:Prop} (t:P:=by decide):P:=t
theorem sm {P:Prop} (t:P:=by simp):P:=t
theorem qP {P:Prop} (t:P:=by intro _ _ d _ _ h;cases d<;>exact h):P:=t
theorem ms {P:Prop} (t:P:=by simp[intOf];omega):P:=t
theorem qT {α:Type} (l:List α) (i:Nat) (x:α):l.toArray.setIfInBounds i x=(l.set i x).toArray:=List.setIfInBounds_toArray ..
theorem qU {α:Type} (a x:α) (l:List α):(a::l).set 0 x=x::l:=List.set_cons_zero ..
theorem qV {α:Type} (a x:α) (l:List α) (i:Nat):(a::l).set (i+1) x=a::l.set i x:=List.set_cons_succ ..
theorem vu {P:Prop} (t:P:=by repeat' (first|with_reducible exact fv.pure _|with_reducible exact fv.stuck _|with_reducible exact fv.unsupported _|with_reducible exact fv.boundsPanic _ _ _ _|with_reducible exact fv.nilDeref|with_reducible exact fv.underlying _|with_reducible exact fv.sizeOf _|with_reducible exact fv.typeInfo _|with_reducible exact fv.part _ _ _|with_reducible exact fv.getObj _|with_reducible exact fv.asIntOf _|with_reducible exact fv.asAgg _|with_reducible exact fv.asAddr _|with_reducible exact fv.asBool _|with_reducible exact fv.sureAddr _|with_reducible exact fv.load _ _|with_reducible exact fv.viewAt _|with_reducible exact fv.numberAt _|with_reducible exact fv.byteOf _|with_reducible exact fv.behindNumber _|with_reducible exact fv.unsafeAdd _ _ _|with_reducible exact fv.asNumber _ _|with_reducible exact fv.program|with_reducible exact fv.choose _|with_reducible exact fv.errorP|with_reducible exact fv.sliceBound _ _ _|(refine fv.shapeB (fun _=>?_) ?hn;case hn=>(intro w v w2 h0 h;simp at h;done))|with_reducible refine fv.bind ?_ (fun _=>?_)|split|dsimp only)):P:=t
end Go.Proofs.YtlndjfflhegkdaaGreatDoor
