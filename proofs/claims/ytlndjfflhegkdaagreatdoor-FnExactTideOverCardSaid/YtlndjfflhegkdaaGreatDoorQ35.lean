/- Parts of the proof: Spc5, Imp9, Ez7, Nf8, Nf9, Eze, Ezg, Ni4, Ex5, Row, Ey5, Ezi. -/
import Derived.Test.YtlndjfflhegkdaaGreatDoorQ26
import Derived.Test.YtlndjfflhegkdaaGreatDoorQ33
import Derived.Test.YtlndjfflhegkdaaGreatDoorQ34
set_option linter.unusedVariables false
set_option linter.unusedSimpArgs false
set_option linter.unusedSectionVars false
set_option maxHeartbeats 4000000
namespace Go.Proofs.YtlndjfflhegkdaaGreatDoor
open Go.RowKit
set_option maxRecDepth 100000
theorem yR (p:Int) (w:World):Calls Tryz.prog 70 #[p] w fun q w' =>q= .returned (ij (jB p))∧Below w.heap.size w w':=by
 obtain⟨t,b⟩:∃t,ib p 0 3=t:=⟨_,rfl⟩;cases t
 all_goals
  go_enter Tryz.func70,Tryz.ntmps70;go_wp2_with (go_at_call 59;refine(km _ _).mono ?_;rintro e c ⟨a,rfl⟩;rw[b] at a;subst a);refine bodyPost_ret (v:=ij (jB p)) (by simp[results,Tryz.results70,go_sem,ij,jB,b]) rfl ⟨rfl,?_⟩;exact Ch.below0 (by repeat (first|(with_reducible exact Ch.refl _ _)|(with_reducible refine Ch.setCell ?_ (Or.inr (jn _)) _)|(with_reducible refine Ch.drew ?_)|(with_reducible refine Ch.alloc ?_ _)))
theorem sV {α:Type} [Inhabited α] (lt:α→α→Bool) (l:List α) (x:α):i5 lt (l++[x])=lR lt (i5 lt l) x:=by unfold i5;rw[List.foldl_append];rfl
theorem mh {α:Type} [Inhabited α] {lt:α→α→Bool} (O:iC lt) (l:List α):(i5 lt l).length=l.length:=(sw O l).2.length_eq
theorem yS (v:Value) (xs:List ik) (F:Nat→Prop) (w:World) (h:Rd hJ w F v xs) (hl:xs.length≤1000):
  Calls Tryz.prog 94 #[v] w fun q w' =>∃u,q= .returned u∧Ow hJ 101 w' (fun k=>w.heap.size≤k) u (iU xs)∧Below w.heap.size w w':=by
 obtain⟨A,c,rfl,T⟩:=h.shape;go_enter Tryz.func94,Tryz.ntmps94;go_wp2_with fail;have x:=gs (gM w.heap.size w) (.cells #[.slice none 0 0,.func (.func 124) #[] #[]] 222);have g:(w.alloc (.cells #[.slice none 0 0,.func (.func 124) #[] #[]] 222)).heap[w.heap.size]? =some (.cells #[.slice none 0 0,.func (.func 124) #[] #[]] 222):=gL rfl;have o:jR hJ 101 222 124 (w.alloc (.cells #[.slice none 0 0,.func (.func 124) #[] #[]] 222)) w.heap.size (fun k=>False) (.slice none 0 0) (i5 gO (xs.take 0)):=⟨g,by simpa [i5] using Ow.nil hJ 101 _ _,id,fun _ n=>n.elim⟩;generalize w.alloc (.cells #[.slice none 0 0,.func (.func 124) #[] #[]] 222)=W at*
 go_loopw [9] (fun t wr=>∃(k:Nat) (G:Nat→Prop) (v:Value),t= .int .i64 k∧k≤xs.length∧jR hJ 101 222 124 wr w.heap.size G v (i5 gO (xs.take k))∧(∀q,G q→w.heap.size≤q)∧Below w.heap.size w wr) (fun t _=>xs.length-(intOf t).toNat)
 case atStart=>exact⟨0,_,_,rfl,j8 _,o,fun _ n=>n.elim,x⟩
 case round=>
  clear o x g;obtain⟨k,G,v,rfl,S,j,m,a⟩:=hrel;by_cases hlt:k<xs.length
  ·have i:=h.below a
   obtain⟨R,U,rfl,P,I,J,L,M,O⟩:=kh i k hlt;have HS:=fS (show i5 gO (xs.take (k+1))=lR gO (i5 gO (xs.take k)) xs[k] by rw[vX hlt,sV]);have d:(i5 gO (xs.take k)).length≤1000:=by rw[mh mZ];simp;omega
   have V:(k:Int)<(xs.length:Int):=fT;go_wp2_with fail;refine(Be w.heap.size G v (i5 gO (xs.take k)) xs[k] _ (j.below (gs (gM _ _) _)) d).mono ?_;rintro e B ⟨rfl,H,C,p,r,b⟩;rw[←HS.out] at p;apply_assumption;have f:Ch (fun q=>w.heap.size≤q) w B:=((Ch.of_below a).alloc _).then b (fun q hq=> .inr (hq.elim (fun l=>Nat.le_of_eq l.symm) (m q)));have y:=f.below (fun q hq=>hq) (jn _);have Q:=a.size;clear j b f i a I J L M O;go_wp2_with fail;go_roundw
   case rel=>exact⟨k+1,C,H,by go_num,fT,p,fun q hq=>(r q hq).elim (m q) (fun E=>by simp at E;omega),y⟩
   case measure=>exact ms
  ·have z:k=xs.length:=fT
   subst z;have D:=fS (show jU gO (i5 gO (xs.take xs.length)).length (i5 gO (xs.take xs.length))=iU xs by rw[li,mh mZ];exact vT mZ xs);have d:(i5 gO (xs.take xs.length)).length≤1000:=by rw[mh mZ];simpa using hl
   go_wp2_with fail;refine(zk w.heap.size G v _ _ j d).mono ?_;rintro e B ⟨u,rfl,s,b⟩;apply_assumption;go_wp2_with fail;go_ret;exact⟨u,rfl,by rw[←D.out];exact s.mono (fun q hq=>ly a.size hq),a.trans (b.below (fun q hq=>hq.elim (fun l=>Nat.le_of_eq l.symm) (m q)) a.size)⟩
def Ga (xs:List il) (k:Nat):List il:=xs.take k++(xs.drop k).map BM
def EX (a:iy) (l:il) (came:List hY) (w:World) (q:Ending) (w':World):Prop:=
 ∃(x:il) (bl:Bool) (u:Value),uw a l came=(x,bl)∧q= .returned (.tuple #[.agg #[x.proc,x.base.x,x.base.y,x.base.c,u],.bool bl])∧Ow oF 185 w' (fun k=>w.heap.size≤k) u x.done∧Below w.heap.size w w'
def F6:iy:=⟨[]⟩
def Gq (l:il) (xs:ll) (sends:List hY) (outs:List ik):List ow:=
 [(4,[],fun _ v w F=>∃sv ov,v= .tuple #[ip xs,sv,ov]∧Ow iw 91 w F sv sends∧Ow hJ 101 w F ov outs),
  (9,[],fun _ v w F=>∃g,v= .pointer (some ⟨g,0,none⟩)∧F g∧w.heap[g]? =some (.cells #[.int .i64 0,.int .i64 0,.int .i64 0] 127)),
  (10,[9],fun ds _ w F=>∃g,ds=[.pointer (some ⟨g,0,none⟩)]∧F g∧w.heap[g]? =some (.cells #[xs.x,xs.y,xs.c] 127))]
def Gr (l:il) (xs:ll) (sends:List hY) (outs:List ik):List pG:=[(2,[],fun _ v=>v= .agg #[.int .i64 (mX l).x,.int .i64 (mX l).y,.int .i64 (mX l).c]),(4,[],fun _ v=>qK (ip xs) v),(5,[4],fun ds v=>ds=[v]∧qK (ip xs) v),(6,[5],fun _ v=>v=ip xs),(7,[5],fun ds v=>∀a b c,ds=[.tuple #[a,b,c]]→v=b),(8,[5],fun ds v=>∀a b c,ds=[.tuple #[a,b,c]]→v=c),(11,[7],fun ds v=>ds=[v]),(12,[8],fun ds v=>ds=[v])]
def FU (A:Option Addr) (m c:Nat):lz 1:=⟨[.slice A m c],rfl,fun u hu=>by simp at hu;subst hu;rfl⟩
def zS {α:Type} (f:Int→α) (s:Int) (m:Int):Nat→List α
 |0=>[]
 |n+1=>zS f s m n++[f (m+s*n)]
def FM (m:Int):hY:=⟨m,m+1,m+1+1,m+1+1+1,m+1+1+1+1,m+1+1+1+1+1,m+1+1+1+1+1+1⟩
def Fb (m:Int):ik:=⟨m,m+1,m+1+1,m+1+1+1,m+1+1+1+1⟩
def Gb (m:Int):lJ:=⟨m,m+1,m+1+1,m+1+1+1,m+1+1+1+1⟩
section
open Go.ChangeShapes Go.WideShapes Go.ChangeAt Go.RowKit
theorem Fm:ownKnob Tryz.prog.godebug=none:=gY
theorem AQ:laidOutB Tryz.prog=true:=gY
end
theorem rR {H:Type} {enc:TypeId×Value→H} {W:World} (fuel:Nat) (cs:List Value) (x:DataW H×List MemPlace) (h:DataW.trod enc Tryz.prog W 0 (fun _=>true) true fuel 103 cs=some x):∃y:ik,cs=ik.cells y:=by
 obtain⟨C,n,-,-,i,b,a⟩:=DataW.trod_struct Tryz.underlying103 h;have B:Tryz.prog.cellsOf 103=5:=gY;rw[B] at i
 match cs,i,C,b,a with
 | [c0,c1,c2,c3,c4],_,[y0,y1,y2,y3,y4],_,a=>
  have c:DataW.trod enc Tryz.prog W 0 (fun _=>true) true n 3 ([c0,c1,c2,c3,c4].drop 0 |>.take (Tryz.prog.cellsOf 3))=some y0:=a 0 _ rfl;rw[iK] at c;obtain⟨j,p,-⟩:=DataW.trod_int Tryz.underlying3 c;have u:c0= .int .i64 j:=by simpa using p
  clear p;have d:DataW.trod enc Tryz.prog W 0 (fun _=>true) true n 3 ([c0,c1,c2,c3,c4].drop 1 |>.take (Tryz.prog.cellsOf 3))=some y1:=a 1 _ rfl;rw[iK] at d;obtain⟨k,q,-⟩:=DataW.trod_int Tryz.underlying3 d;have v:c1= .int .i64 k:=by simpa using q
  clear q;have e:DataW.trod enc Tryz.prog W 0 (fun _=>true) true n 3 ([c0,c1,c2,c3,c4].drop 2 |>.take (Tryz.prog.cellsOf 3))=some y2:=a 2 _ rfl;rw[iK] at e;obtain⟨l,r,-⟩:=DataW.trod_int Tryz.underlying3 e;have w:c2= .int .i64 l:=by simpa using r
  clear r;have f:DataW.trod enc Tryz.prog W 0 (fun _=>true) true n 3 ([c0,c1,c2,c3,c4].drop 3 |>.take (Tryz.prog.cellsOf 3))=some y3:=a 3 _ rfl;rw[iK] at f;obtain⟨m,s,-⟩:=DataW.trod_int Tryz.underlying3 f;have z:c3= .int .i64 m:=by simpa using s
  clear s;have g:DataW.trod enc Tryz.prog W 0 (fun _=>true) true n 3 ([c0,c1,c2,c3,c4].drop 4 |>.take (Tryz.prog.cellsOf 3))=some y4:=a 4 _ rfl;rw[iK] at g;obtain⟨o,t,-⟩:=DataW.trod_int Tryz.underlying3 g;have A:c4= .int .i64 o:=by simpa using t
  clear t;subst u v w z A;exact⟨⟨j,k,l,m,o⟩,rfl⟩
theorem AZ {H:Type} {enc:TypeId×Value→H} {W:World} (fuel:Nat) (cs:List Value) (x:DataW H×List MemPlace) (h:DataW.trod enc Tryz.prog W 0 (fun _=>true) true fuel 273 cs=some x):∃y:iP,kO.rel W (fun k=>k<W.heap.size) y cs:=by
 obtain⟨F,n,-,-,m,g,a⟩:=DataW.trod_struct Tryz.underlying273 h;have v:Tryz.prog.cellsOf 273=12:=gY;rw[v] at m
 match cs,m,F,g,a with
 | [c0,c1,c2,c3,c4,c5,c6,c7,c8,c9,c10,c11],_,[y0,y1,y2,y3],_,a=>
  have z:Tryz.prog.cellsOf 194=7:=gY;have B:Tryz.prog.cellsOf 166=3:=gY;have C:Tryz.prog.cellsOf 74=1:=gY;have D:Tryz.prog.cellsOf 27=1:=gY;have q:DataW.trod enc Tryz.prog W 0 (fun _=>true) true n 194 ([c0,c1,c2,c3,c4,c5,c6,c7,c8,c9,c10,c11].drop 0 |>.take (Tryz.prog.cellsOf 194))=some y0:=a 0 _ rfl;have r:DataW.trod enc Tryz.prog W 0 (fun _=>true) true n 166 ([c0,c1,c2,c3,c4,c5,c6,c7,c8,c9,c10,c11].drop 7 |>.take (Tryz.prog.cellsOf 166))=some y1:=a 1 _ rfl;have t:DataW.trod enc Tryz.prog W 0 (fun _=>true) true n 74 ([c0,c1,c2,c3,c4,c5,c6,c7,c8,c9,c10,c11].drop 10 |>.take (Tryz.prog.cellsOf 74))=some y2:=a 2 _ rfl;have u:DataW.trod enc Tryz.prog W 0 (fun _=>true) true n 27 ([c0,c1,c2,c3,c4,c5,c6,c7,c8,c9,c10,c11].drop 11 |>.take (Tryz.prog.cellsOf 27))=some y3:=a 3 _ rfl;obtain⟨e,d⟩:=nu _ _ _ q;obtain⟨s,i⟩:=uJ _ _ _ r;obtain⟨A,c,E,j,w⟩:=iL iw Tryz.underlying74 gY dc (fun f cs x h=>by obtain⟨y,l⟩:=nu f cs x h;exact⟨y,l⟩) t;obtain⟨G,I,p,b,o⟩:=iL hJ Tryz.underlying27 gY dc (fun f cs x h=>by obtain⟨y,l⟩:=rR f cs x h;exact⟨y,l⟩) u;rw[z] at d;rw[B] at i;rw[C] at j;rw[D] at b;simp only[List.drop_zero,List.drop_succ_cons,List.take_succ_cons,List.take_zero,hY.cells,ll.cells,List.cons.injEq,and_true] at d i j b;obtain⟨rfl,rfl,rfl,rfl,rfl,rfl,rfl⟩:=d;obtain⟨rfl,rfl,rfl⟩:=i;subst j b;exact⟨⟨e,s,E,p⟩,_,_,rfl,w,o⟩
theorem AX {H:Type} {enc:TypeId×Value→H} {W:World} (fuel:Nat) (cs:List Value) (x:DataW H×List MemPlace) (h:DataW.trod enc Tryz.prog W 0 (fun _=>true) true fuel 169 cs=some x):∃(y:il) (v:Value),cs=[.int .i64 y.proc,.int .i64 y.base.x,.int .i64 y.base.y,.int .i64 y.base.c,v]∧Rd kO W (fun k=>k<W.heap.size) v y.done:=by
 obtain⟨w,n,-,-,i,b,a⟩:=DataW.trod_struct Tryz.underlying169 h;have o:Tryz.prog.cellsOf 169=5:=gY;rw[o] at i
 match cs,i,w,b,a with
 | [c0,c1,c2,c3,c4],_,[y0,y1,y2],_,a=>
  have r:Tryz.prog.cellsOf 166=3:=gY;have t:Tryz.prog.cellsOf 167=1:=gY;have g:DataW.trod enc Tryz.prog W 0 (fun _=>true) true n 3 ([c0,c1,c2,c3,c4].drop 0 |>.take (Tryz.prog.cellsOf 3))=some y0:=a 0 _ rfl;have l:DataW.trod enc Tryz.prog W 0 (fun _=>true) true n 166 ([c0,c1,c2,c3,c4].drop 1 |>.take (Tryz.prog.cellsOf 166))=some y1:=a 1 _ rfl;have m:DataW.trod enc Tryz.prog W 0 (fun _=>true) true n 167 ([c0,c1,c2,c3,c4].drop 4 |>.take (Tryz.prog.cellsOf 167))=some y2:=a 2 _ rfl;rw[iK] at g;obtain⟨q,j,-⟩:=DataW.trod_int Tryz.underlying3 g;obtain⟨s,d⟩:=uJ _ _ _ l;obtain⟨A,c,u,e,p⟩:=iL kO Tryz.underlying167 gY dc (fun f cs x h=>AZ f cs x h) m;rw[r] at d;rw[t] at e;simp only[List.drop_zero,List.drop_succ_cons,List.take_succ_cons,List.take_zero,ll.cells,List.cons.injEq,and_true] at j d e;obtain⟨rfl,rfl,rfl⟩:=d;subst j e;exact⟨⟨q,s,u⟩,_,rfl,p⟩
end Go.Proofs.YtlndjfflhegkdaaGreatDoor
