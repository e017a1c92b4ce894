/- Parts of the proof: Reg2, Cmp, Cmp2, Imp3, Imp12, Upd, Spc9, Spc10, Ex4, Ey3. -/
import Derived.Lib.AppendZeros
import Derived.Test.YtgilllnjhahkfaaGreatQ08
import Derived.Test.YtgilllnjhahkfaaGreatQ11
set_option linter.unusedVariables false
set_option linter.unusedSimpArgs false
set_option linter.unusedSectionVars false
set_option maxHeartbeats 4000000
namespace Go.Proofs.YtgilllnjhahkfaaGreat
open Go.RowKit
section
inductive Pl where
 |nil
 |take (i:Nat) (p:Pl)
 |one (i:Nat) (p:Pl)
 |two (i:Nat) (p:Pl) (j:Nat) (q:Pl)
section
variable {P:Program} {ops:Array Oper} {Q:Exit→Act→World→Prop} {S:World→Prop}
def xP (P:Program) (ops:Array Oper) (Q:Exit→Act→World→Prop) (S:World→Prop):Pl→Act→World→Prop
 | .nil,a,w=>Q .normal a w
 | .take i r,a,w=>∃o v,ops[i]? =some o∧YieldsIf P ops S o v a∧S w∧xP P ops Q S r (a.put o.dst v) w
 | .one i r,a,w=>wpOp P ops Q i (fun a' w' =>(mP ops i=true∨S w')∧xP P ops Q S r a' w') a w
 | .two i p j q,a,w=>wpOp P ops Q i (fun a' w' =>(mP ops i=true∨S w')∧xP P ops Q S p a' w') a w∧wpOp P ops Q j (fun a' w' =>(mP ops j=true∨S w')∧xP P ops Q S q a' w') a w
def xv (ops:Array Oper):Nat→Pl→Array Bool→Bool
 |0,.nil,l=>(Region.ready .any ops l).isEmpty
 |n+1,.take i r,l=>Region.free .any ops l i&&(Region.ready .any ops l).contains i&&xv ops n r (l.setIfInBounds i true)
 |n+1,.one i r,l=>(Region.ready .any ops l==[i])&&xv ops n r (l.setIfInBounds i true)
 |n+1,.two i p j q,l=>(Region.ready .any ops l==[i,j])&&xv ops n p (l.setIfInBounds i true)&&xv ops n q (l.setIfInBounds j true)
 |_,_,_=>false
end
def xx (Q:Exit→Act→World→Prop):Exit→Act→World→Prop
 | .panic _,_,_=>False
 |e,a,w=>Q e a w
theorem AI {Q:Exit→Act→World→Prop}:∀e a w,xx Q e a w→Q e a w
 | .panic _,_,_,h=>h.elim
 | .normal,_,_,h=>h
 | .ret,_,_,h=>h
 | .outgrown,_,_,h=>h
 | .goto _,_,_,h=>h
 | .exit _,_,_,h=>h
theorem uC {P:Program} {Q:Exit→Act→World→Prop} {id:Nat} {a:Act} {w:World} {l:List Oper} (S:World→Prop) (plan:List (Nat×Bool)) (hm:P.follows .mixedOrders=true)
  (hk:(Region.noSelect l.toArray&&plan.length==l.toArray.size&&qr l.toArray plan (Array.replicate l.toArray.size false))=true)
  (h:jc P l.toArray (xx Q) S plan a w.drew):(Code.region id l.toArray true).wp P Q a w:=
 wp_mono (ib S plan hm hk (fun _ _ _ _ _ h=>h) h) AI
end
set_option maxRecDepth 100000
theorem xt (x:Int) (w:World):Calls Tryz.prog 198 #[x] w fun e w' =>e= .returned (.bool false)∧w' =w:=by
 have h:(x !=x)=false:=by simp
 go_enter Tryz.func198,Tryz.ntmps198;go_wp2_with fail;go_ret;exact⟨rfl,rfl⟩
def qe (x y:Int):Int:=if x<y then -1 else if y<x then 1 else 0
theorem wU (x y:Int) (w:World):Calls Tryz.prog 196 #[x,y] w fun e w' =>e= .returned (.int .i64 (qe x y))∧w' =w:=by
 by_cases h1:x<y
 ·have c:decide (x<y)=true:=jT h1
  have a:=gP (show qe x y= -1 by simp[qe,h1]);go_enter Tryz.func196,Tryz.ntmps196;go_wp2_with (go_at_call 198;refine(xt _ _).mono ?_;rintro e w' ⟨rfl,rfl⟩);go_ret;exact⟨by rw[a.out];rfl,rfl⟩
 ·have c:decide (x<y)=false:=iU h1
  by_cases h2:y<x
  ·have b:decide (y<x)=true:=jT h2
   have a:=gP (show qe x y=1 by simp[qe,h1,h2]);go_enter Tryz.func196,Tryz.ntmps196;go_wp2_with (go_at_call 198;refine(xt _ _).mono ?_;rintro e w' ⟨rfl,rfl⟩);go_ret;exact⟨by rw[a.out];rfl,rfl⟩
  ·have b:decide (y<x)=false:=iU h2
   have a:=gP (show qe x y=0 by simp[qe,h1,h2]);go_enter Tryz.func196,Tryz.ntmps196;go_wp2_with (go_at_call 198;refine(xt _ _).mono ?_;rintro e w' ⟨rfl,rfl⟩);go_ret;exact⟨by rw[a.out];rfl,rfl⟩
def sf:List Int→List Int→Int
 |a::l,b::m=>if qe a b=0 then sf l m else qe a b
 |_,_=>0
theorem wL {x y:Int}:qe x y=0↔x=y:=by unfold qe;split<;>(try split)<;>omega
theorem xq:∀(l m:List Int),decide (sf l m<0)=ku l m
 | [],m=>by simp[sf,ku]
 |_::_,[]=>by simp[sf,ku]
 |a::l,b::m=>by
  simp only[sf,ku];by_cases h:a=b
  ·simp only[if_pos (wL.2 h),if_pos h]
   exact xq l m
  ·simp only[if_neg (fun e=>h (wL.1 e)),if_neg h]
   refine decide_eq_decide.2 ?_;unfold qe;split
   ·omega
   ·split<;>omega
theorem Cv {xs ys:List Int} {k:Nat} (h:k<xs.length) (h2:k<ys.length):sf (xs.drop k) (ys.drop k)=if qe xs[k] ys[k]=0 then sf (xs.drop (k+1)) (ys.drop (k+1)) else qe xs[k] ys[k]:=by
 rw[List.drop_eq_getElem_cons h,List.drop_eq_getElem_cons h2];simp only[sf]
theorem lm {w:World} {F:Nat→Prop} {A:Option Addr} {n c:Nat} {xs:List Int} (h:Rd (ja .i64) w F (.slice A n c) xs) (j:Nat) (hj:j<xs.length):
  ∃b o,A=some ⟨b,o,none⟩∧F b∧b<w.heap.size∧w.cell? ⟨b,o+j,none⟩=some (.int .i64 xs[j]):=by
 obtain⟨b,o,d,rfl,hF,a,e,f⟩:=h.at_ j hj;have hr':d=[.int .i64 xs[j]]:=e;subst hr';have:=f 0 _ rfl;exact⟨b,o,rfl,hF,a,by simpa [ja,k7] using this⟩
theorem we (v0 v1:Value) (xs ys:List Int) (F:Nat→Prop) (w:World) (h0:Rd (ja .i64) w F v0 xs) (h1:Rd (ja .i64) w F v1 ys) (hl:xs.length=ys.length):
  Calls Tryz.prog 188 #[v0,v1] w fun e w' =>e= .returned (.int .i64 (sf xs ys))∧w' =w:=by
 obtain⟨m,s,rfl,-,x,-⟩:=id h0;obtain⟨n,t,rfl,-,y,-⟩:=id h1;have l:xs.length≤ys.length:=gO;have j:ys.length≤xs.length:=gO;have g:decide ((xs.length:Int)<(ys.length:Int))=false:=iU gO;clear hl;go_enter Tryz.func188,Tryz.ntmps188;go_wp2_with fail
 go_loop [11] (fun i=>∃k:Nat,i= .int .i64 k∧k≤xs.length∧Hid (sf xs ys=sf (xs.drop k) (ys.drop k))) (fun i=>xs.length-(intOf i).toNat)
 case atStart=>exact⟨0,rfl,jP _,gP rfl⟩
 case round=>
  obtain⟨k,rfl,v,c⟩:=hrel;by_cases hlt:k<xs.length
  ·obtain⟨q,z,rfl,_,_,o⟩:=lm h0 k hlt
   obtain⟨r,A,rfl,_,_,p⟩:=lm h1 k gO;have d:k<ys.length:=gO;have u:decide ((ys.length:Int)≤(k:Int))=false:=iU gO;have a:=Cv hlt d;by_cases he:qe xs[k] ys[k]=0
   ·rw[if_pos he] at a
    have b:=gP (c.out.trans a);clear a;have f:(qe xs[k] ys[k] !=0)=false:=by simp[he]
    clear he;go_wp2_with (go_at_call 196;refine(wU _ _ _).mono ?_;rintro e w' ⟨rfl,rfl⟩)
    go_round
    case rel=>exact⟨k+1,by go_num,gO,b⟩
    case measure=>exact ms
   ·rw[if_neg he] at a
    have b:=gP (c.out.trans a);clear a;have f:(qe xs[k] ys[k] !=0)=true:=by simp[he]
    clear he;go_wp2_with (go_at_call 196;refine(wU _ _ _).mono ?_;rintro e w' ⟨rfl,rfl⟩);go_ret;exact⟨by rw[b.out];rfl,rfl⟩
  ·have b:=gP (show sf xs ys=0 by rw[c.out,List.drop_eq_nil_of_le gO,List.drop_eq_nil_of_le gO];rfl)
   go_wp2_with fail;go_ret;exact⟨by rw[b.out];rfl,rfl⟩
theorem sD {W:World} {K:Nat} {t:TypeId} {fr:Nat×Nat} {ys:Array Value} (xs:List Int) (hx:xs.length≤9223372036854775807) (h:W.heap[K]? =some (.cells ys t fr)) (hy:ys.toList=xs.map (.int .i64)):Rd (ja .i64) W (fun k=>k=K) (.slice (some ⟨K,0,none⟩) xs.length xs.length) xs:=by
 refine⟨_,xs.length,rfl,j9 _,hx,fun _=>⟨K,0,rfl,rfl,gL h,fun j x b=>⟨_,rfl,fun i u a=>?_⟩⟩⟩;have c:(ja .i64).sz=1:=rfl;cases i with
 |zero=>
  obtain rfl:Value.int .i64 x=u:=by simpa using a
  rw[gM h,c];have:ys.toList[j]? =some (Value.int .i64 x):=by rw[hy,List.getElem?_map,b];rfl
  simpa using this
 |succ i=>simp at a
theorem DO {B:Nat} {w W:World} (h:Below B w W):Below B w W.drew:=⟨h.os,h.tape,h.output,h.size,h.block⟩
theorem xu (a:im) (w:World):Calls Tryz.prog 162 #[iZ a] w fun q w' =>q= .returned (iZ a)∧Below w.heap.size w w':=by
 unfold iZ;go_enter Tryz.func162,Tryz.ntmps162;go_wp2_with fail;have B:Below w.heap.size w _:=gU (gU (gY _ _) (.cells #[a.time,a.to,a.from_,a.count,a.n,a.kind,a.arg] 132)) (.cells #[a.time,a.to,a.from_,a.count,a.n,a.kind,a.arg] 217);exact bodyPost_ret (v:= .agg #[a.time,a.to,a.from_,a.count,a.n,a.kind,a.arg]) (by simp[results,Tryz.results162,go_sem]) rfl ⟨rfl,B⟩
theorem qC (a b:im) (w:World):Calls Tryz.prog 161 #[iZ a,iZ b] w fun q w' =>q= .returned (.bool (hY a b))∧Below w.heap.size w w':=by
 have c:=gP (show decide (sf a.key b.key<0)=hY a b from xq _ _);have d:Rd (ja .i64) ((w.alloc (.cells #[a.time,a.to,a.from_,a.count,a.n,a.kind,a.arg] 217)).alloc (.cells #[b.time,b.to,b.from_,b.count,b.n,b.kind,b.arg] 217)) (fun _=>True) (.slice (some ⟨w.heap.size,0,none⟩) 7 7) a.key:=(sD (W:=(w.alloc (.cells #[a.time,a.to,a.from_,a.count,a.n,a.kind,a.arg] 217)).alloc (.cells #[b.time,b.to,b.from_,b.count,b.n,b.kind,b.arg] 217)) a.key (by simp[im.key]) ((ip sm).trans (gX rfl)) rfl).mono (fun _ _=>trivial);have e:Rd (ja .i64) ((w.alloc (.cells #[a.time,a.to,a.from_,a.count,a.n,a.kind,a.arg] 217)).alloc (.cells #[b.time,b.to,b.from_,b.count,b.n,b.kind,b.arg] 217)) (fun _=>True) (.slice (some ⟨w.heap.size+1,0,none⟩) 7 7) b.key:=(sD b.key (by simp[im.key]) (gX sm) rfl).mono (fun _ _=>trivial);have B:Below w.heap.size w ((w.alloc (.cells #[a.time,a.to,a.from_,a.count,a.n,a.kind,a.arg] 217)).alloc (.cells #[b.time,b.to,b.from_,b.count,b.n,b.kind,b.arg] 217)):=gU (gU (gY _ _) _) _;unfold iZ;go_enter Tryz.func161,Tryz.ntmps161;go_wp2_with fail;generalize hW:(w.alloc (.cells #[a.time,a.to,a.from_,a.count,a.n,a.kind,a.arg] 217)).alloc (.cells #[b.time,b.to,b.from_,b.count,b.n,b.kind,b.arg] 217)=W at*;clear hW;refine ib (fun w' =>w' =W.drew) [tT 0,tT 1,tF 2,tT 3,tT 4] ie ie qP ?_;have HS:=(rfl:W.drew=W.drew)
 iterate 2 refine Gp ?_
 refine ia (by rfl) (by rfl) (fun K hK=>?_);go_simp;refine(we _ _ a.key b.key (fun _=>True) W.drew (Rd.move (w:=W) (fun _ _=>rfl) d) (Rd.move (w:=W) (fun _ _=>rfl) e) rfl).mono ?_;rintro q w' ⟨rfl,rfl⟩;refine hK _ _ (Or.inr HS) ?_;clear hK K
 iterate 2 refine Gp ?_
 simp only[jc];go_wp2_with fail;go_ret;exact⟨by rw[c.out];rfl,DO B⟩
theorem sh (a b:im) (w:World):Calls Tryz.prog 182 #[iZ a,iZ b] w fun q w' =>q= .returned (.bool (hY a b))∧Below w.heap.size w w':=by
 have B:Below w.heap.size w ((w.alloc (.cells #[a.time,a.to,a.from_,a.count,a.n,a.kind,a.arg] 132)).alloc (.cells #[b.time,b.to,b.from_,b.count,b.n,b.kind,b.arg] 132)):=gU (gU (gY _ _) _) _;have c:((w.alloc (.cells #[a.time,a.to,a.from_,a.count,a.n,a.kind,a.arg] 132)).alloc (.cells #[b.time,b.to,b.from_,b.count,b.n,b.kind,b.arg] 132)).heap[w.heap.size]? =some (.cells #[a.time,a.to,a.from_,a.count,a.n,a.kind,a.arg] 132):=(ip sm).trans (gX rfl);have d:((w.alloc (.cells #[a.time,a.to,a.from_,a.count,a.n,a.kind,a.arg] 132)).alloc (.cells #[b.time,b.to,b.from_,b.count,b.n,b.kind,b.arg] 132)).heap[w.heap.size+1]? =some (.cells #[b.time,b.to,b.from_,b.count,b.n,b.kind,b.arg] 132):=gX sm;unfold iZ;go_enter Tryz.func182,Tryz.ntmps182;go_wp2_with fail;generalize hW:(w.alloc (.cells #[a.time,a.to,a.from_,a.count,a.n,a.kind,a.arg] 132)).alloc (.cells #[b.time,b.to,b.from_,b.count,b.n,b.kind,b.arg] 132)=W at*;clear hW;obtain⟨⟨i,j,k,l,m,o,p⟩,-⟩:=oB c;obtain⟨⟨r,s,t,u,v,x,y⟩,-⟩:=oB d;have D:=gL c;have E:=gL d;refine ib (fun w' =>Ch (fun _=>False) W w') [tT 0,tT 2,tF 1,tF 3,tF 4,tT 5] ie ie qP ?_;have HS:=(Ch.refl (fun _=>False) W).drew
 iterate 2 refine Gg ?_
 refine ia (by rfl) (by rfl) (fun K hK=>?_);go_simp;refine(xu a _).mono ?_;rintro q z ⟨rfl,e⟩;have HS:=HS.trans (Ch.of_below e);refine hK _ _ (Or.inr HS) ?_;clear hK K;refine ia (by rfl) (by rfl) (fun K hK=>?_);go_simp;refine(xu b _).mono ?_;rintro q A ⟨rfl,f⟩;have HS:=HS.trans (Ch.of_below f);refine hK _ _ (Or.inr HS) ?_;clear hK K;refine ia (by rfl) (by rfl) (fun K hK=>?_);go_simp;refine(qC a b _).mono ?_;rintro q C ⟨rfl,g⟩;have HS:=HS.trans (Ch.of_below g);refine hK _ _ (Or.inr HS) ?_;clear hK K
 iterate 1 refine Gg ?_
 simp only[jc];go_wp2_with fail;go_ret;exact⟨rfl,gV B HS.below0⟩
theorem pt (a b:iQ) (w:World):Calls Tryz.prog 166 #[mB a,mB b] w fun q w' =>q= .returned (.bool (hM a b))∧Below w.heap.size w w':=by
 have c:=gP (show decide (sf a.key b.key<0)=hM a b from xq _ _);unfold mB;go_enter Tryz.func166,Tryz.ntmps166;go_wp2_with fail;have B:Below w.heap.size w ((((w.alloc (.cells #[a.time,a.proc,a.count,a.n,a.value] 120)).alloc (.cells #[b.time,b.proc,b.count,b.n,b.value] 120)).alloc (.cells #[a.time,a.proc,a.count,a.n,a.value] 254)).alloc (.cells #[b.time,b.proc,b.count,b.n,b.value] 254)):=gU (gU (gU (gU (gY _ _) _) _) _) _;have d:Rd (ja .i64) ((((w.alloc (.cells #[a.time,a.proc,a.count,a.n,a.value] 120)).alloc (.cells #[b.time,b.proc,b.count,b.n,b.value] 120)).alloc (.cells #[a.time,a.proc,a.count,a.n,a.value] 254)).alloc (.cells #[b.time,b.proc,b.count,b.n,b.value] 254)) (fun _=>True) (.slice (some ⟨w.heap.size+1+1,0,none⟩) 5 5) a.key:=(sD (W:=(((w.alloc (.cells #[a.time,a.proc,a.count,a.n,a.value] 120)).alloc (.cells #[b.time,b.proc,b.count,b.n,b.value] 120)).alloc (.cells #[a.time,a.proc,a.count,a.n,a.value] 254)).alloc (.cells #[b.time,b.proc,b.count,b.n,b.value] 254)) a.key (by simp[iQ.key]) ((ip sm).trans (gX sm)) rfl).mono (fun _ _=>trivial);have e:Rd (ja .i64) ((((w.alloc (.cells #[a.time,a.proc,a.count,a.n,a.value] 120)).alloc (.cells #[b.time,b.proc,b.count,b.n,b.value] 120)).alloc (.cells #[a.time,a.proc,a.count,a.n,a.value] 254)).alloc (.cells #[b.time,b.proc,b.count,b.n,b.value] 254)) (fun _=>True) (.slice (some ⟨w.heap.size+1+1+1,0,none⟩) 5 5) b.key:=(sD b.key (by simp[iQ.key]) (gX sm) rfl).mono (fun _ _=>trivial);generalize hW:(((w.alloc (.cells #[a.time,a.proc,a.count,a.n,a.value] 120)).alloc (.cells #[b.time,b.proc,b.count,b.n,b.value] 120)).alloc (.cells #[a.time,a.proc,a.count,a.n,a.value] 254)).alloc (.cells #[b.time,b.proc,b.count,b.n,b.value] 254)=W at*;clear hW;refine ib (fun w' =>w' =W.drew) [tT 0,tT 1,tF 2,tT 3,tT 4] ie ie qP ?_;have HS:=(rfl:W.drew=W.drew)
 iterate 2 refine Gp ?_
 refine ia (by rfl) (by rfl) (fun K hK=>?_);go_simp;refine(we _ _ a.key b.key (fun _=>True) W.drew (Rd.move (w:=W) (fun _ _=>rfl) d) (Rd.move (w:=W) (fun _ _=>rfl) e) rfl).mono ?_;rintro q w' ⟨rfl,rfl⟩;refine hK _ _ (Or.inr HS) ?_;clear hK K
 iterate 2 refine Gp ?_
 simp only[jc];go_wp2_with fail;go_ret;exact⟨by rw[c.out];rfl,DO B⟩
def FY (apps:List iM) (s:nT) (w:World) (q:Ending) (w':World):Prop:=
 ∃us uq uo,q= .returned (.tuple #[.agg #[us,uq,uo],.bool (By apps s).2])∧DF w' (fun k=>w.heap.size≤k) us uq uo (By apps s).1∧Below w.heap.size w w'
def iY (s:mL):Value:= .agg #[s.x,s.y,s.c]
def GM (t:TypeId) (xs:mL) (sends:List im) (outs:List iQ):List nm:=
 [(12,[],fun _ v w F=>∃sv ov,v= .tuple #[iY xs,sv,ov]∧Ow iC 132 w F sv sends∧Ow ii 120 w F ov outs),
  (17,[],fun _ v w F=>∃g,v= .pointer (some ⟨g,0,none⟩)∧F g∧w.heap[g]? =some (.cells #[.int .i64 0,.int .i64 0,.int .i64 0] t (0,0))),
  (18,[17],fun ds _ w F=>∃g,ds=[.pointer (some ⟨g,0,none⟩)]∧F g∧w.heap[g]? =some (.cells #[xs.x,xs.y,xs.c] t (0,0)))]
def qX (X v:Value):Prop:=∃b c,v= .tuple #[X,b,c]
def GQ (X:Value):List nH:=[(12,[],fun _ v=>qX X v),(13,[12],fun ds v=>ds=[v]∧qX X v),(14,[13],fun _ v=>v=X),(15,[13],fun ds v=>∀a b c,ds=[.tuple #[a,b,c]]→v=b),(16,[13],fun ds v=>∀a b c,ds=[.tuple #[a,b,c]]→v=c),(19,[15],fun ds v=>ds=[v]),(20,[16],fun ds v=>ds=[v])]
theorem Fh (x y:mi) (w:World):Calls Tryz.prog 197 #[.agg #[x.d,x.a,x.b,x.c,x.e],.agg #[y.d,y.a,y.b,y.c,y.e]] w fun q w' =>q= .returned (.bool (decide (x=y)))∧Below w.heap.size w w':=by
 have g:=gU (gU (gY w.heap.size w) (.cells #[x.d,x.a,x.b,x.c,x.e] 187)) (.cells #[y.d,y.a,y.b,y.c,y.e] 187);by_cases h0:x.d=y.d
 case neg=>
  have i:(x.d !=y.d)=true:=by simpa using h0
  have f:=gP (show decide (x=y)=false from iU (fun e=>h0 (by rw[e])));clear h0;go_enter Tryz.func197,Tryz.ntmps197;go_wp2_with fail;go_ret;exact⟨by rw[f.out];rfl,g⟩
 have i:(x.d !=y.d)=false:=by simpa using h0
 by_cases h1:x.a=y.a
 case neg=>
  have j:(x.a !=y.a)=true:=by simpa using h1
  have f:=gP (show decide (x=y)=false from iU (fun e=>h1 (by rw[e])));clear h0 h1;go_enter Tryz.func197,Tryz.ntmps197;go_wp2_with fail;go_ret;exact⟨by rw[f.out];rfl,g⟩
 have j:(x.a !=y.a)=false:=by simpa using h1
 by_cases h2:x.b=y.b
 case neg=>
  have k:(x.b !=y.b)=true:=by simpa using h2
  have f:=gP (show decide (x=y)=false from iU (fun e=>h2 (by rw[e])));clear h0 h1 h2;go_enter Tryz.func197,Tryz.ntmps197;go_wp2_with fail;go_ret;exact⟨by rw[f.out];rfl,g⟩
 have k:(x.b !=y.b)=false:=by simpa using h2
 by_cases h3:x.c=y.c
 case neg=>
  have l:(x.c !=y.c)=true:=by simpa using h3
  have f:=gP (show decide (x=y)=false from iU (fun e=>h3 (by rw[e])));clear h0 h1 h2 h3;go_enter Tryz.func197,Tryz.ntmps197;go_wp2_with fail;go_ret;exact⟨by rw[f.out];rfl,g⟩
 have l:(x.c !=y.c)=false:=by simpa using h3
 by_cases h4:x.e=y.e
 case neg=>
  have m:(x.e !=y.e)=true:=by simpa using h4
  have f:=gP (show decide (x=y)=false from iU (fun e=>h4 (by rw[e])));clear h0 h1 h2 h3 h4;go_enter Tryz.func197,Tryz.ntmps197;go_wp2_with fail;go_ret;exact⟨by rw[f.out];rfl,g⟩
 have m:(x.e !=y.e)=false:=by simpa using h4
 have f:=gP (show decide (x=y)=true from jT (by cases x;cases y;simp_all));clear h0 h1 h2 h3 h4;go_enter Tryz.func197,Tryz.ntmps197;go_wp2_with fail;go_ret;exact⟨by rw[f.out];rfl,g⟩
theorem EP (v0 v1:Value) (xs ys:List mi) (F:Nat→Prop) (w:World) (h0:Rd pO w F v0 xs) (h1:Rd pO w F v1 ys):
  Calls Tryz.prog 193 #[v0,v1] w fun q w' =>q= .returned (.bool (decide (xs=ys)))∧Below w.heap.size w w':=by
 obtain⟨s,y,rfl,-,B,-⟩:=id h0;obtain⟨u,z,rfl,-,C,-⟩:=id h1;by_cases hl:xs.length=ys.length
 ·have o:(((xs.length:Nat):Int) !=((ys.length:Nat):Int))=false:=by simp[hl]
  have j:=gP hl;clear hl;go_enter Tryz.func193,Tryz.ntmps193;go_wp2_with fail
  go_loopw [5] (fun i wr=>∃k:Nat,i= .int .i64 k∧k≤xs.length∧Hid (xs.take k=ys.take k)∧Below w.heap.size w wr) (fun i _=>xs.length-(intOf i).toNat)
  case atStart=>exact⟨0,rfl,jP _,rfl,gY _ _⟩
  case round=>
   obtain⟨k,rfl,A,d,c⟩:=hrel;by_cases hlt:k<xs.length
   ·have b:k<ys.length:=by rw[←j.out];exact hlt
    have p:=h0.below c;have r:=h1.below c;obtain⟨v,D,rfl,_,J,L,M,O,P⟩:=t6 p k hlt;obtain⟨x,E,rfl,_,Q,R,S,T,U⟩:=t6 r k b;have G:(k:Int)<(xs.length:Int):=gO;have H:(k:Int)<(ys.length:Int):=gO;obtain⟨t,n⟩:∃t,decide (xs[k]=ys[k])=t:=⟨_,rfl⟩;have g:=gP n;clear n;go_upto_region 6 with fail;refine kg [.rd [0,1,2,3,4,5,6,7]] [8,9] ?_;refine vL ?_;intro N hN;go_wp2_with fail;refine gR (hN _ ?_);clear hN N;refine vF ?_;go_wp2_with fail;have m:=c.drew;refine(Fh xs[k] ys[k] _).mono ?_;rintro q I ⟨rfl,l⟩;have f:=gQ m l m.size;rw[g.out];apply_assumption;cases t
    case false=>
     have a:=gP (show decide (xs=ys)=false from iU (fun e=>of_decide_eq_false g.out (by simp[e])));go_wp2_with fail;go_ret;exact⟨by rw[a.out];rfl,f⟩
    case true=>
     have HS:=gP (jZ d.out hlt b (of_decide_eq_true g.out));go_wp2_with fail;go_roundw
     case rel=>exact⟨k+1,by go_num,gO,HS,f⟩
     case measure=>exact ms
   ·have a:=gP (show decide (xs=ys)=true from jT (kw d.out gO j.out))
    go_wp2_with fail;go_ret;exact⟨by rw[a.out];rfl,c⟩
 ·have o:(((xs.length:Nat):Int) !=((ys.length:Nat):Int))=true:=by rw[bne_iff_ne];omega
  have a:=gP (show decide (xs=ys)=false from iU (fun h=>hl (by simp[h])));clear hl;go_enter Tryz.func193,Tryz.ntmps193;go_wp2_with fail;go_ret;exact⟨by rw[a.out];rfl,gY _ _⟩
theorem wV (x y:mL) (w:World):Calls Tryz.prog 170 #[.agg #[x.x,x.y,x.c],.agg #[y.x,y.y,y.c]] w fun q w' =>q= .returned (.bool (decide (x=y)))∧Below w.heap.size w w':=by
 have b:=gU (gU (gY w.heap.size w) (.cells #[x.x,x.y,x.c] 62)) (.cells #[y.x,y.y,y.c] 62);by_cases h0:x.x=y.x
 case neg=>
  have d:(x.x !=y.x)=true:=by simpa using h0
  have a:=gP (show decide (x=y)=false from iU (fun e=>h0 (by rw[e])));clear h0;go_enter Tryz.func170,Tryz.ntmps170;go_wp2_with fail;go_ret;exact⟨by rw[a.out];rfl,b⟩
 have d:(x.x !=y.x)=false:=by simpa using h0
 by_cases h1:x.y=y.y
 case neg=>
  have f:(x.y !=y.y)=true:=by simpa using h1
  have a:=gP (show decide (x=y)=false from iU (fun e=>h1 (by rw[e])));clear h0 h1;go_enter Tryz.func170,Tryz.ntmps170;go_wp2_with fail;go_ret;exact⟨by rw[a.out];rfl,b⟩
 have f:(x.y !=y.y)=false:=by simpa using h1
 by_cases h2:x.c=y.c
 case neg=>
  have g:(x.c !=y.c)=true:=by simpa using h2
  have a:=gP (show decide (x=y)=false from iU (fun e=>h2 (by rw[e])));clear h0 h1 h2;go_enter Tryz.func170,Tryz.ntmps170;go_wp2_with fail;go_ret;exact⟨by rw[a.out];rfl,b⟩
 have g:(x.c !=y.c)=false:=by simpa using h2
 have a:=gP (show decide (x=y)=true from jT (by cases x;cases y;simp_all));clear h0 h1 h2;go_enter Tryz.func170,Tryz.ntmps170;go_wp2_with fail;go_ret;exact⟨by rw[a.out];rfl,b⟩
theorem xc (x y:im) (w:World):Calls Tryz.prog 125 #[.agg #[x.time,x.to,x.from_,x.count,x.n,x.kind,x.arg],.agg #[y.time,y.to,y.from_,y.count,y.n,y.kind,y.arg]] w fun q w' =>q= .returned (.bool (decide (x=y)))∧Below w.heap.size w w':=by
 have b:=gU (gU (gY w.heap.size w) (.cells #[x.time,x.to,x.from_,x.count,x.n,x.kind,x.arg] 132)) (.cells #[y.time,y.to,y.from_,y.count,y.n,y.kind,y.arg] 132);by_cases h0:x.time=y.time
 case neg=>
  have c:(x.time !=y.time)=true:=by simpa using h0
  have a:=gP (show decide (x=y)=false from iU (fun e=>h0 (by rw[e])));clear h0;go_enter Tryz.func125,Tryz.ntmps125;go_wp2_with fail;go_ret;exact⟨by rw[a.out];rfl,b⟩
 have c:(x.time !=y.time)=false:=by simpa using h0
 by_cases h1:x.to=y.to
 case neg=>
  have d:(x.to !=y.to)=true:=by simpa using h1
  have a:=gP (show decide (x=y)=false from iU (fun e=>h1 (by rw[e])));clear h0 h1;go_enter Tryz.func125,Tryz.ntmps125;go_wp2_with fail;go_ret;exact⟨by rw[a.out];rfl,b⟩
 have d:(x.to !=y.to)=false:=by simpa using h1
 by_cases h2:x.from_=y.from_
 case neg=>
  have f:(x.from_ !=y.from_)=true:=by simpa using h2
  have a:=gP (show decide (x=y)=false from iU (fun e=>h2 (by rw[e])));clear h0 h1 h2;go_enter Tryz.func125,Tryz.ntmps125;go_wp2_with fail;go_ret;exact⟨by rw[a.out];rfl,b⟩
 have f:(x.from_ !=y.from_)=false:=by simpa using h2
 by_cases h3:x.count=y.count
 case neg=>
  have g:(x.count !=y.count)=true:=by simpa using h3
  have a:=gP (show decide (x=y)=false from iU (fun e=>h3 (by rw[e])));clear h0 h1 h2 h3;go_enter Tryz.func125,Tryz.ntmps125;go_wp2_with fail;go_ret;exact⟨by rw[a.out];rfl,b⟩
 have g:(x.count !=y.count)=false:=by simpa using h3
 by_cases h4:x.n=y.n
 case neg=>
  have i:(x.n !=y.n)=true:=by simpa using h4
  have a:=gP (show decide (x=y)=false from iU (fun e=>h4 (by rw[e])));clear h0 h1 h2 h3 h4;go_enter Tryz.func125,Tryz.ntmps125;go_wp2_with fail;go_ret;exact⟨by rw[a.out];rfl,b⟩
 have i:(x.n !=y.n)=false:=by simpa using h4
 by_cases h5:x.kind=y.kind
 case neg=>
  have j:(x.kind !=y.kind)=true:=by simpa using h5
  have a:=gP (show decide (x=y)=false from iU (fun e=>h5 (by rw[e])));clear h0 h1 h2 h3 h4 h5;go_enter Tryz.func125,Tryz.ntmps125;go_wp2_with fail;go_ret;exact⟨by rw[a.out];rfl,b⟩
 have j:(x.kind !=y.kind)=false:=by simpa using h5
 by_cases h6:x.arg=y.arg
 case neg=>
  have k:(x.arg !=y.arg)=true:=by simpa using h6
  have a:=gP (show decide (x=y)=false from iU (fun e=>h6 (by rw[e])));clear h0 h1 h2 h3 h4 h5 h6;go_enter Tryz.func125,Tryz.ntmps125;go_wp2_with fail;go_ret;exact⟨by rw[a.out];rfl,b⟩
 have k:(x.arg !=y.arg)=false:=by simpa using h6
 have a:=gP (show decide (x=y)=true from jT (by cases x;cases y;simp_all));clear h0 h1 h2 h3 h4 h5 h6;go_enter Tryz.func125,Tryz.ntmps125;go_wp2_with fail;go_ret;exact⟨by rw[a.out];rfl,b⟩
theorem Ei (x y:iQ) (w:World):Calls Tryz.prog 126 #[.agg #[x.time,x.proc,x.count,x.n,x.value],.agg #[y.time,y.proc,y.count,y.n,y.value]] w fun q w' =>q= .returned (.bool (decide (x=y)))∧Below w.heap.size w w':=by
 have b:=gU (gU (gY w.heap.size w) (.cells #[x.time,x.proc,x.count,x.n,x.value] 120)) (.cells #[y.time,y.proc,y.count,y.n,y.value] 120);by_cases h0:x.time=y.time
 case neg=>
  have c:(x.time !=y.time)=true:=by simpa using h0
  have a:=gP (show decide (x=y)=false from iU (fun e=>h0 (by rw[e])));clear h0;go_enter Tryz.func126,Tryz.ntmps126;go_wp2_with fail;go_ret;exact⟨by rw[a.out];rfl,b⟩
 have c:(x.time !=y.time)=false:=by simpa using h0
 by_cases h1:x.proc=y.proc
 case neg=>
  have d:(x.proc !=y.proc)=true:=by simpa using h1
  have a:=gP (show decide (x=y)=false from iU (fun e=>h1 (by rw[e])));clear h0 h1;go_enter Tryz.func126,Tryz.ntmps126;go_wp2_with fail;go_ret;exact⟨by rw[a.out];rfl,b⟩
 have d:(x.proc !=y.proc)=false:=by simpa using h1
 by_cases h2:x.count=y.count
 case neg=>
  have f:(x.count !=y.count)=true:=by simpa using h2
  have a:=gP (show decide (x=y)=false from iU (fun e=>h2 (by rw[e])));clear h0 h1 h2;go_enter Tryz.func126,Tryz.ntmps126;go_wp2_with fail;go_ret;exact⟨by rw[a.out];rfl,b⟩
 have f:(x.count !=y.count)=false:=by simpa using h2
 by_cases h3:x.n=y.n
 case neg=>
  have g:(x.n !=y.n)=true:=by simpa using h3
  have a:=gP (show decide (x=y)=false from iU (fun e=>h3 (by rw[e])));clear h0 h1 h2 h3;go_enter Tryz.func126,Tryz.ntmps126;go_wp2_with fail;go_ret;exact⟨by rw[a.out];rfl,b⟩
 have g:(x.n !=y.n)=false:=by simpa using h3
 by_cases h4:x.value=y.value
 case neg=>
  have i:(x.value !=y.value)=true:=by simpa using h4
  have a:=gP (show decide (x=y)=false from iU (fun e=>h4 (by rw[e])));clear h0 h1 h2 h3 h4;go_enter Tryz.func126,Tryz.ntmps126;go_wp2_with fail;go_ret;exact⟨by rw[a.out];rfl,b⟩
 have i:(x.value !=y.value)=false:=by simpa using h4
 have a:=gP (show decide (x=y)=true from jT (by cases x;cases y;simp_all));clear h0 h1 h2 h3 h4;go_enter Tryz.func126,Tryz.ntmps126;go_wp2_with fail;go_ret;exact⟨by rw[a.out];rfl,b⟩
theorem rF (v0 v1:Value) (xs ys:List im) (F:Nat→Prop) (w:World) (h0:Rd iC w F v0 xs) (h1:Rd iC w F v1 ys):
  Calls Tryz.prog 51 #[v0,v1] w fun q w' =>q= .returned (.bool (decide (xs=ys)))∧Below w.heap.size w w':=by
 obtain⟨s,y,rfl,-,B,-⟩:=id h0;obtain⟨u,z,rfl,-,C,-⟩:=id h1;by_cases hl:xs.length=ys.length
 ·have o:(((xs.length:Nat):Int) !=((ys.length:Nat):Int))=false:=by simp[hl]
  have j:=gP hl;clear hl;go_enter Tryz.func51,Tryz.ntmps51;go_wp2_with fail
  go_loopw [5] (fun i wr=>∃k:Nat,i= .int .i64 k∧k≤xs.length∧Hid (xs.take k=ys.take k)∧Below w.heap.size w wr) (fun i _=>xs.length-(intOf i).toNat)
  case atStart=>exact⟨0,rfl,jP _,rfl,gY _ _⟩
  case round=>
   obtain⟨k,rfl,A,d,c⟩:=hrel;by_cases hlt:k<xs.length
   ·have b:k<ys.length:=by rw[←j.out];exact hlt
    have p:=h0.below c;have r:=h1.below c;obtain⟨v,D,rfl,_,J,L,M,O,P,Q,R⟩:=jD p k hlt;obtain⟨x,E,rfl,_,S,T,U,V,W,X,Y⟩:=jD r k b;have G:(k:Int)<(xs.length:Int):=gO;have H:(k:Int)<(ys.length:Int):=gO;obtain⟨t,n⟩:∃t,decide (xs[k]=ys[k])=t:=⟨_,rfl⟩;have g:=gP n;clear n;go_upto_region 6 with fail;refine kg [.rd [0,1,2,3,4,5,6,7]] [8,9] ?_;refine vL ?_;intro N hN;go_wp2_with fail;refine gR (hN _ ?_);clear hN N;refine vF ?_;go_wp2_with fail;have m:=c.drew;refine(xc xs[k] ys[k] _).mono ?_;rintro q I ⟨rfl,l⟩;have f:=gQ m l m.size;rw[g.out];apply_assumption;cases t
    case false=>
     have a:=gP (show decide (xs=ys)=false from iU (fun e=>of_decide_eq_false g.out (by simp[e])));go_wp2_with fail;go_ret;exact⟨by rw[a.out];rfl,f⟩
    case true=>
     have HS:=gP (jZ d.out hlt b (of_decide_eq_true g.out));go_wp2_with fail;go_roundw
     case rel=>exact⟨k+1,by go_num,gO,HS,f⟩
     case measure=>exact ms
   ·have a:=gP (show decide (xs=ys)=true from jT (kw d.out gO j.out))
    go_wp2_with fail;go_ret;exact⟨by rw[a.out];rfl,c⟩
 ·have o:(((xs.length:Nat):Int) !=((ys.length:Nat):Int))=true:=by rw[bne_iff_ne];omega
  have a:=gP (show decide (xs=ys)=false from iU (fun h=>hl (by simp[h])));clear hl;go_enter Tryz.func51,Tryz.ntmps51;go_wp2_with fail;go_ret;exact⟨by rw[a.out];rfl,gY _ _⟩
theorem zq (v0 v1:Value) (xs ys:List iQ) (F:Nat→Prop) (w:World) (h0:Rd ii w F v0 xs) (h1:Rd ii w F v1 ys):
  Calls Tryz.prog 52 #[v0,v1] w fun q w' =>q= .returned (.bool (decide (xs=ys)))∧Below w.heap.size w w':=by
 obtain⟨s,y,rfl,-,B,-⟩:=id h0;obtain⟨u,z,rfl,-,C,-⟩:=id h1;by_cases hl:xs.length=ys.length
 ·have o:(((xs.length:Nat):Int) !=((ys.length:Nat):Int))=false:=by simp[hl]
  have j:=gP hl;clear hl;go_enter Tryz.func52,Tryz.ntmps52;go_wp2_with fail
  go_loopw [5] (fun i wr=>∃k:Nat,i= .int .i64 k∧k≤xs.length∧Hid (xs.take k=ys.take k)∧Below w.heap.size w wr) (fun i _=>xs.length-(intOf i).toNat)
  case atStart=>exact⟨0,rfl,jP _,rfl,gY _ _⟩
  case round=>
   obtain⟨k,rfl,A,d,c⟩:=hrel;by_cases hlt:k<xs.length
   ·have b:k<ys.length:=by rw[←j.out];exact hlt
    have p:=h0.below c;have r:=h1.below c;obtain⟨v,D,rfl,_,J,L,M,O,P⟩:=ko p k hlt;obtain⟨x,E,rfl,_,Q,R,S,T,U⟩:=ko r k b;have G:(k:Int)<(xs.length:Int):=gO;have H:(k:Int)<(ys.length:Int):=gO;obtain⟨t,n⟩:∃t,decide (xs[k]=ys[k])=t:=⟨_,rfl⟩;have g:=gP n;clear n;go_upto_region 6 with fail;refine kg [.rd [0,1,2,3,4,5,6,7]] [8,9] ?_;refine vL ?_;intro N hN;go_wp2_with fail;refine gR (hN _ ?_);clear hN N;refine vF ?_;go_wp2_with fail;have m:=c.drew;refine(Ei xs[k] ys[k] _).mono ?_;rintro q I ⟨rfl,l⟩;have f:=gQ m l m.size;rw[g.out];apply_assumption;cases t
    case false=>
     have a:=gP (show decide (xs=ys)=false from iU (fun e=>of_decide_eq_false g.out (by simp[e])));go_wp2_with fail;go_ret;exact⟨by rw[a.out];rfl,f⟩
    case true=>
     have HS:=gP (jZ d.out hlt b (of_decide_eq_true g.out));go_wp2_with fail;go_roundw
     case rel=>exact⟨k+1,by go_num,gO,HS,f⟩
     case measure=>exact ms
   ·have a:=gP (show decide (xs=ys)=true from jT (kw d.out gO j.out))
    go_wp2_with fail;go_ret;exact⟨by rw[a.out];rfl,c⟩
 ·have o:(((xs.length:Nat):Int) !=((ys.length:Nat):Int))=true:=by rw[bne_iff_ne];omega
  have a:=gP (show decide (xs=ys)=false from iU (fun h=>hl (by simp[h])));clear hl;go_enter Tryz.func52,Tryz.ntmps52;go_wp2_with fail;go_ret;exact⟨by rw[a.out];rfl,gY _ _⟩
theorem DD (x y:jJ) (v0 v1:Value) (F:Nat→Prop) (w:World) (h0:Rd pO w F v0 x.ops) (h1:Rd pO w F v1 y.ops):Calls Tryz.prog 172 #[.agg #[x.kind,v0],.agg #[y.kind,v1]] w fun q w' =>q= .returned (.bool (decide (x=y)))∧Below w.heap.size w w':=by
 obtain⟨g,k,rfl,-⟩:=h0.shape;obtain⟨i,l,rfl,-⟩:=h1.shape;have a:=gU (gU (gY w.heap.size w) (.cells #[x.kind,.slice g x.ops.length k] 126)) (.cells #[y.kind,.slice i y.ops.length l] 126);by_cases k0:x.kind=y.kind
 case neg=>
  have m:(x.kind !=y.kind)=true:=by simpa using k0
  have j:=gP (show decide (x=y)=false from iU (fun e=>k0 (by rw[e])));clear k0;go_enter Tryz.func172,Tryz.ntmps172;go_wp2_with fail;go_ret;exact⟨by rw[j.out];rfl,a⟩
 have m:(x.kind !=y.kind)=false:=by simpa using k0
 obtain⟨t,b⟩:∃t,decide (x.ops=y.ops)=t:=⟨_,rfl⟩;have d:=gP (show decide (x=y)=t by
  rw[←b,decide_eq_decide];constructor
  ·intro e;rw[e]
  ·intro e;cases x;cases y;simp_all)
 clear k0;go_enter Tryz.func172,Tryz.ntmps172;go_wp2_with fail;refine(EP _ _ x.ops y.ops _ _ (h0.below a) (h1.below a)).mono ?_;rintro q n ⟨rfl,f⟩;have c:=gV a f;rw[b];have HT':=gP b;clear b;apply_assumption;cases t
 case false=>
  go_wp2_with fail;go_ret;exact⟨by rw[d.out];rfl,c⟩
 case true=>
  go_wp2_with fail;go_ret;exact⟨by rw[d.out];rfl,c⟩
theorem B6 (v0 v1:Value) (xs ys:List jJ) (F:Nat→Prop) (w:World) (h0:Rd k6 w F v0 xs) (h1:Rd k6 w F v1 ys):
  Calls Tryz.prog 128 #[v0,v1] w fun q w' =>q= .returned (.bool (decide (xs=ys)))∧Below w.heap.size w w':=by
 obtain⟨v,C,rfl,-,I,-⟩:=id h0;obtain⟨x,D,rfl,-,J,-⟩:=id h1;by_cases hl:xs.length=ys.length
 ·have o:(((xs.length:Nat):Int) !=((ys.length:Nat):Int))=false:=by simp[hl]
  have j:=gP hl;clear hl;go_enter Tryz.func128,Tryz.ntmps128;go_wp2_with fail
  go_loopw [5] (fun i wr=>∃k:Nat,i= .int .i64 k∧k≤xs.length∧Hid (xs.take k=ys.take k)∧Below w.heap.size w wr) (fun i _=>xs.length-(intOf i).toNat)
  case atStart=>exact⟨0,rfl,jP _,rfl,gY _ _⟩
  case round=>
   obtain⟨k,rfl,H,d,c⟩:=hrel;by_cases hlt:k<xs.length
   ·have b:k<ys.length:=by rw[←j.out];exact hlt
    have p:=h0.below c;have r:=h1.below c;obtain⟨A,L,y,E,rfl,_,R,S,s⟩:=mV p k hlt;obtain⟨B,M,z,G,rfl,_,T,U,u⟩:=mV r k b;have O:(k:Int)<(xs.length:Int):=gO;have P:(k:Int)<(ys.length:Int):=gO;obtain⟨t,n⟩:∃t,decide (xs[k]=ys[k])=t:=⟨_,rfl⟩;have g:=gP n;clear n;go_upto_region 6 with fail;refine kg [.rd [0,1,2,3,4,5,6,7]] [8,9] ?_;refine vL ?_;intro N hN;go_wp2_with fail;refine gR (hN _ ?_);clear hN N;refine vF ?_;go_wp2_with fail;have m:=c.drew;refine(DD xs[k] ys[k] _ _ _ _ (s.below (gY wr.heap.size wr).drew) (u.below (gY wr.heap.size wr).drew)).mono ?_;rintro q Q ⟨rfl,l⟩;have f:=gQ m l m.size;rw[g.out];apply_assumption;cases t
    case false=>
     have a:=gP (show decide (xs=ys)=false from iU (fun e=>of_decide_eq_false g.out (by simp[e])));go_wp2_with fail;go_ret;exact⟨by rw[a.out];rfl,f⟩
    case true=>
     have HS:=gP (jZ d.out hlt b (of_decide_eq_true g.out));go_wp2_with fail;go_roundw
     case rel=>exact⟨k+1,by go_num,gO,HS,f⟩
     case measure=>exact ms
   ·have a:=gP (show decide (xs=ys)=true from jT (kw d.out gO j.out))
    go_wp2_with fail;go_ret;exact⟨by rw[a.out];rfl,c⟩
 ·have o:(((xs.length:Nat):Int) !=((ys.length:Nat):Int))=true:=by rw[bne_iff_ne];omega
  have a:=gP (show decide (xs=ys)=false from iU (fun h=>hl (by simp[h])));clear hl;go_enter Tryz.func128,Tryz.ntmps128;go_wp2_with fail;go_ret;exact⟨by rw[a.out];rfl,gY _ _⟩
theorem Eo (x y:iM) (v0 v1:Value) (F:Nat→Prop) (w:World) (h0:Rd k6 w F v0 x.rules) (h1:Rd k6 w F v1 y.rules):Calls Tryz.prog 55 #[.agg #[v0],.agg #[v1]] w fun q w' =>q= .returned (.bool (decide (x=y)))∧Below w.heap.size w w':=by
 obtain⟨g,j,rfl,-⟩:=h0.shape;obtain⟨i,k,rfl,-⟩:=h1.shape;have c:=gU (gU (gY w.heap.size w) (.cells #[.slice g x.rules.length j] 70)) (.cells #[.slice i y.rules.length k] 70);obtain⟨t,a⟩:∃t,decide (x.rules=y.rules)=t:=⟨_,rfl⟩;have d:=gP (show decide (x=y)=t by
  rw[←a,decide_eq_decide];constructor
  ·intro e;rw[e]
  ·intro e;cases x;cases y;simp_all)
 go_enter Tryz.func55,Tryz.ntmps55;go_wp2_with fail;refine(B6 _ _ x.rules y.rules _ _ (h0.below c) (h1.below c)).mono ?_;rintro q l ⟨rfl,f⟩;have b:=gV c f;rw[a];have HT':=gP a;clear a;apply_assumption;cases t
 case false=>
  go_wp2_with fail;go_ret;exact⟨by rw[d.out];rfl,b⟩
 case true=>
  go_wp2_with fail;go_ret;exact⟨by rw[d.out];rfl,b⟩
theorem DP (v0 v1:Value) (xs ys:List iM) (F:Nat→Prop) (w:World) (h0:Rd oE w F v0 xs) (h1:Rd oE w F v1 ys):
  Calls Tryz.prog 11 #[v0,v1] w fun q w' =>q= .returned (.bool (decide (xs=ys)))∧Below w.heap.size w w':=by
 obtain⟨v,C,rfl,-,I,-⟩:=id h0;obtain⟨x,D,rfl,-,J,-⟩:=id h1;by_cases hl:xs.length=ys.length
 ·have o:(((xs.length:Nat):Int) !=((ys.length:Nat):Int))=false:=by simp[hl]
  have j:=gP hl;clear hl;go_enter Tryz.func11,Tryz.ntmps11;go_wp2_with fail
  go_loopw [5] (fun i wr=>∃k:Nat,i= .int .i64 k∧k≤xs.length∧Hid (xs.take k=ys.take k)∧Below w.heap.size w wr) (fun i _=>xs.length-(intOf i).toNat)
  case atStart=>exact⟨0,rfl,jP _,rfl,gY _ _⟩
  case round=>
   obtain⟨k,rfl,H,d,c⟩:=hrel;by_cases hlt:k<xs.length
   ·have b:k<ys.length:=by rw[←j.out];exact hlt
    have p:=h0.below c;have r:=h1.below c;obtain⟨A,L,y,E,rfl,_,R,s⟩:=qg p k hlt;obtain⟨B,M,z,G,rfl,_,S,u⟩:=qg r k b;have O:(k:Int)<(xs.length:Int):=gO;have P:(k:Int)<(ys.length:Int):=gO;obtain⟨t,n⟩:∃t,decide (xs[k]=ys[k])=t:=⟨_,rfl⟩;have g:=gP n;clear n;go_upto_region 6 with fail;refine kg [.rd [0,1,2,3,4,5,6,7]] [8,9] ?_;refine vL ?_;intro N hN;go_wp2_with fail;refine gR (hN _ ?_);clear hN N;refine vF ?_;go_wp2_with fail;have m:=c.drew;refine(Eo xs[k] ys[k] _ _ _ _ (s.below (gY wr.heap.size wr).drew) (u.below (gY wr.heap.size wr).drew)).mono ?_;rintro q Q ⟨rfl,l⟩;have f:=gQ m l m.size;rw[g.out];apply_assumption;cases t
    case false=>
     have a:=gP (show decide (xs=ys)=false from iU (fun e=>of_decide_eq_false g.out (by simp[e])));go_wp2_with fail;go_ret;exact⟨by rw[a.out];rfl,f⟩
    case true=>
     have HS:=gP (jZ d.out hlt b (of_decide_eq_true g.out));go_wp2_with fail;go_roundw
     case rel=>exact⟨k+1,by go_num,gO,HS,f⟩
     case measure=>exact ms
   ·have a:=gP (show decide (xs=ys)=true from jT (kw d.out gO j.out))
    go_wp2_with fail;go_ret;exact⟨by rw[a.out];rfl,c⟩
 ·have o:(((xs.length:Nat):Int) !=((ys.length:Nat):Int))=true:=by rw[bne_iff_ne];omega
  have a:=gP (show decide (xs=ys)=false from iU (fun h=>hl (by simp[h])));clear hl;go_enter Tryz.func11,Tryz.ntmps11;go_wp2_with fail;go_ret;exact⟨by rw[a.out];rfl,gY _ _⟩
end Go.Proofs.YtgilllnjhahkfaaGreat
