/- Parts of the proof: Ezb, Ezd, Ez4. -/
import Derived.Test.YtgilllnjhahkfaaGreatQ19
import Derived.Test.YtgilllnjhahkfaaGreatQ21
import Derived.Test.YtgilllnjhahkfaaGreatQ26
import Derived.Test.YtgilllnjhahkfaaGreatQ28
set_option linter.unusedVariables false
set_option linter.unusedSimpArgs false
set_option linter.unusedSectionVars false
set_option maxHeartbeats 4000000
set_option maxRecDepth 100000
namespace Go.Proofs.YtgilllnjhahkfaaGreat
open Go.RowKit
theorem te:(Tryz.prog.info? 141).map (fun i=>(i.zero,i.size,i.bytes))=some (some (.agg #[.int .i64 0,.int .i64 0,.int .i64 0,.int .i64 0,.int .i64 0,.int .i64 0,.int .i64 0,.int .i64 0,.int .i64 0,.int .i64 0,.slice none 0 0,.slice none 0 0]),12,128):=ie
structure zM where
 cs:List Value
 hl:cs.length=12
 ho:∀u∈cs,u.oneCell' =true
def FE:Ty zM:=k7 (fun r=>r.cs) 12 (fun r=>r.hl) (fun r=>r.ho)
def EX (x:iq) (vs vo:Value) (o1:vs.oneCell' =true) (o2:vo.oneCell' =true):zM:=
 ⟨kY x vs vo,rfl,fun u hu=>by
  simp only[kY,List.mem_cons,List.not_mem_nil,or_false] at hu;rcases hu with rfl|rfl|rfl|rfl|rfl|rfl|rfl|rfl|rfl|rfl|rfl|rfl<;>first|rfl|assumption⟩
def ET:Value→Nat| .slice _ n _=>n|_=>0
def Cx (w:World) (B:Nat→Prop) (rs:List zM) (xs:List iq):Prop:=
 rs.length=xs.length∧∀(j:Nat) (x:iq),xs[j]? =some x→∃r vs vo,rs[j]? =some r∧r.cs=kY x vs vo∧Rd iC w B vs x.sends∧Rd ii w B vo x.outs
theorem Cx.snoc {w:World} {B:Nat→Prop} {rs:List zM} {xs:List iq} (h:Cx w B rs xs) (x:iq) (r:zM) (vs vo:Value) (hr:r.cs=kY x vs vo) (h1:Rd iC w B vs x.sends) (h2:Rd ii w B vo x.outs):Cx w B (rs++[r]) (xs++[x]):=by
 refine⟨by simp[h.1],fun j y c=>?_⟩;by_cases hl:j<xs.length
 ·rw[List.getElem?_append_left hl] at c
  obtain⟨g,f,e,a,b⟩:=h.2 j y c;exact⟨g,f,e,by rw[List.getElem?_append_left (by rw[h.1];exact hl)];exact a,b⟩
 ·have d:j=xs.length:=by have:=(List.getElem?_eq_some_iff.1 c).1;simp at this;omega
  subst d;simp at c;subst c;exact⟨r,vs,vo,by rw[←h.1];simp,hr,h1,h2⟩
theorem Cx.rd {w w':World} {B:Nat→Prop} {rs:List zM} {xs:List iq} {v:Value} {F:Nat→Prop} {e:TypeId} (h:Cx w B rs xs) (hb:Below w.heap.size w w') (hO:Ow FE e w' F v rs):Rd jm w' (fun k=>F k∨B k) v xs:=by
 obtain⟨A,c,rfl,g,i,l⟩:=hO.rd;refine⟨A,c,by rw[h.1],by rw[←h.1];exact g,by rw[←h.1];exact i,fun z=>?_⟩;obtain⟨b,o,rfl,hF,d,u⟩:=l (by rw[h.1];exact z);refine⟨b,o,rfl,.inl hF,d,fun j x y=>?_⟩;obtain⟨r,D,C,m,n,p,q⟩:=h.2 j x y;obtain⟨f,s,t⟩:=u j r m;obtain rfl:f=r.cs:=s;exact⟨r.cs,⟨D,C,n,(p.below hb).mono (fun k a=> .inr a),(q.below hb).mono (fun k a=> .inr a)⟩,t⟩
theorem tw (gc:Nat) (B:Nat→Prop) (xs:List iq) (G:Nat→Nat) (w:World) (h:kh w B gc xs G) (hn:xs.length≤1000):
  Calls Tryz.prog 116 #[.pointer (some ⟨gc,0,none⟩)] w fun q w' =>∃v,q= .returned v∧Rd jm w' (fun k=>w.heap.size≤k∨B k) v xs∧Below w.heap.size w w':=by
 have a0:w.cell? ⟨gc,0,none⟩=some (ns G xs.length 0):=gM h.blk 0;go_enter Tryz.func116,Tryz.ntmps116;go_wp2_with fail
 go_loopw [3,4] (fun v l wr=>∃(k:Nat) (i:List zM),l=ns G xs.length k∧k≤xs.length∧Ow FE 141 wr (fun q=>w.heap.size≤q) v i∧Hid (Cx w B i (xs.take k))∧Below w.heap.size w wr) (fun v _ _=>xs.length-ET v)
 case atStart=>exact⟨0,[],rfl,jP _,Ow.nil _ _ _ _,⟨rfl,fun j x hj=>by simp at hj⟩,gY _ _⟩
 case round=>
  clear a0;obtain⟨k,i,rfl,hk,C,O,g⟩:=hrel;have hr:=h.below g;obtain⟨A,c,rfl,-⟩:=C.shape;have M:i.length=k:=by have:=O.out.1;rw[List.length_take] at this;omega
  by_cases h1:k<xs.length
  ·have p:ns G xs.length k= .pointer (some ⟨G k,0,none⟩):=by rw[ns,if_pos h1]
   rw[p];obtain⟨vs,vo,a,q1,q2⟩:=hr.at_ k h1;obtain⟨f,e,t,P,Q⟩:=h.at_ k h1;have L:=gJ g (gL t) t;have I:lq xs[k] f e (ns G xs.length (k+1))=lq xs[k] vs vo (ns G xs.length (k+1)):=by
    have:=L.symm.trans a;simpa using this
   obtain⟨rfl,rfl⟩:f=vs∧e=vo:=by simpa [lq,kY] using I
   have o1:f.oneCell' =true:=by obtain⟨A1,c1,rfl,-⟩:=P.shape;rfl
   have o2:e.oneCell' =true:=by obtain⟨A1,c1,rfl,-⟩:=Q.shape;rfl
   have y0:wr.cell? ⟨G k,0,none⟩=some (.int .i64 xs[k].ev.time):=by rw[gM a];rfl
   have y1:wr.cell? ⟨G k,1,none⟩=some (.int .i64 xs[k].ev.to):=by rw[gM a];rfl
   have y2:wr.cell? ⟨G k,2,none⟩=some (.int .i64 xs[k].ev.from_):=by rw[gM a];rfl
   have y3:wr.cell? ⟨G k,3,none⟩=some (.int .i64 xs[k].ev.count):=by rw[gM a];rfl
   have y4:wr.cell? ⟨G k,4,none⟩=some (.int .i64 xs[k].ev.n):=by rw[gM a];rfl
   have y5:wr.cell? ⟨G k,5,none⟩=some (.int .i64 xs[k].ev.kind):=by rw[gM a];rfl
   have y6:wr.cell? ⟨G k,6,none⟩=some (.int .i64 xs[k].ev.arg):=by rw[gM a];rfl
   have y7:wr.cell? ⟨G k,7,none⟩=some (.int .i64 xs[k].st.x):=by rw[gM a];rfl
   have y8:wr.cell? ⟨G k,8,none⟩=some (.int .i64 xs[k].st.y):=by rw[gM a];rfl
   have y9:wr.cell? ⟨G k,9,none⟩=some (.int .i64 xs[k].st.c):=by rw[gM a];rfl
   have ar:wr.cell? ⟨G k,10,none⟩=some (f):=by rw[gM a];rfl
   have au:wr.cell? ⟨G k,11,none⟩=some (e):=by rw[gM a];rfl
   have av:wr.cell? ⟨G k,12,none⟩=some (ns G xs.length (k+1)):=by rw[gM a];rfl
   have m:=gP (O.out.snoc xs[k] (EX xs[k] f e o1 o2) f e rfl P Q);rw[←qp h1] at m;obtain⟨b,z⟩:∃r,EX xs[k] f e o1 o2=r:=⟨_,rfl⟩;have H:b.cs=kY xs[k] f e:=by rw[←z];rfl
   rw[z] at m;have o:=gP M;have R:=gP H;have ao:=gL a;have Hl:=gP a;clear p I L t z H a q1 q2 P Q M;go_wp2_with (at_builtin;(refine jj (d:=FE) rfl 63 rfl Tryz.underlying63 _ 128 te rfl dc dc rfl (C.alloc _) b _ rfl (gX rfl) (fun _=>False) (by show _=b.cs;rw[R.out];rfl) (fun _ s=>s.elim) (fun _ s=>s.elim) (by rw[o.out];omega) (fun q=>w.heap.size≤q) (fun _ hq=>hq) (fun _ s=>s.elim) (fun q hq=>by have h3:=g.size;simp only[lv] at hq;show w.heap.size≤q;omega) ?_);intro v1 w1 E T V;have D:Ch (fun q=>w.heap.size≤q) wr w1:=((Ch.refl (fun q=>w.heap.size≤q) wr).alloc _).grown T (fun q hq=> .inl (C.inF hq));have F:=((Ch.of_below (S:=fun q=>w.heap.size≤q) g).trans D).below (fun q hq=>hq) (j9 _);obtain⟨aq,ap,u,Y,Z⟩:=h.at_ k h1;have J:=gJ F (gL u) u;have aw:w1.cell? ⟨G k,12,none⟩=some (ns G xs.length (k+1)):=(by rw[gM J];rfl);obtain⟨A9,c9,rfl,aa⟩:=E.shape;have ag:=gP (show(i++[b]).length=k+1 by rw[List.length_append,o.out];rfl);clear V T D J u Y Z aa);go_roundw
   case rel=>exact⟨k+1,i++[b],rfl,gO,by simpa using E,m,F⟩
   case measure=>
    have e2:=o.out;simp only[ET];omega
  ·have W:k=xs.length:=gO
   have p:ns G xs.length k= .pointer none:=by rw[ns,if_neg h1]
   rw[p];have U:=O.out;rw[W,ld] at U;have X:=U.rd g C;clear p h1;go_wp2_with fail;go_ret;exact⟨_,rfl,X,g⟩
theorem AU (l:hZ) (v:Value) (F:Nat→Prop) (w:World) (h:Rd jm w F v l.done) (hn:l.done.length≤1000) (hops:∀r∈l.done,r.sends.length≤1000∧r.outs.length≤1000):
  Calls Tryz.prog 100 #[.agg #[l.proc,l.base.x,l.base.y,l.base.c,v]] w fun q w' =>∃u,q= .returned (.agg #[l.proc,l.base.x,l.base.y,l.base.c,u])∧Ow kk 141 w' (fun k=>w.heap.size≤k) u l.done∧Below w.heap.size w w':=by
 obtain⟨A,c,rfl,-⟩:=h.shape;obtain⟨W,hV,j,Z,Y⟩:=yb w (.cells #[l.proc,l.base.x,l.base.y,l.base.c,.slice A l.done.length c] 65) (.cells #[.int .i64 0,.int .i64 0,.int .i64 0,.int .i64 0,.slice none 0 0] 65);go_enter Tryz.func100,Tryz.ntmps100;go_wp2_with fail;rw[hV.out];clear hV;have i:=gP (show w.heap.size+1<W.heap.size from gL Y);refine(AS _ l.done F _ (h.below j) hn hops).mono ?_;rintro q f ⟨u,rfl,t,d⟩;obtain⟨B,b,rfl,-⟩:=t.shape;have g:=gQ j d j.size;have o:=gJ d (gL Z) Z;have a:=gJ d (gL Y) Y;obtain⟨E,G,H,I,J⟩:=ra o;have S:=ft o 4;have L:=nD a;have T:=ft a 0;have M:=tY a;have U:=ft a 1;have O:=ut a;have V:=ft a 2;have P:=ui a;have X:=ft a 3;have Q:=sO a;have g4:=ft a 4;clear d;apply_assumption;go_wp2_with fail;have n:Ch (fun k=>k=w.heap.size∨k=w.heap.size+1) f ((((((f.setCell ⟨w.heap.size,4,none⟩ (.slice B l.done.length b)).setCell ⟨w.heap.size+1,0,none⟩ (.int .i64 l.proc)).setCell ⟨w.heap.size+1,1,none⟩ (.int .i64 l.base.x)).setCell ⟨w.heap.size+1,2,none⟩ (.int .i64 l.base.y)).setCell ⟨w.heap.size+1,3,none⟩ (.int .i64 l.base.c)).setCell ⟨w.heap.size+1,4,none⟩ (.slice B l.done.length b)):=(Ch.setCell (p:=⟨w.heap.size+1,4,none⟩) (Ch.setCell (p:=⟨w.heap.size+1,3,none⟩) (Ch.setCell (p:=⟨w.heap.size+1,2,none⟩) (Ch.setCell (p:=⟨w.heap.size+1,1,none⟩) (Ch.setCell (p:=⟨w.heap.size+1,0,none⟩) (Ch.setCell (p:=⟨w.heap.size,4,none⟩) (Ch.refl (fun k=>k=w.heap.size∨k=w.heap.size+1) _) (Or.inl (Or.inl rfl)) _) (Or.inl (Or.inr rfl)) _) (Or.inl (Or.inr rfl)) _) (Or.inl (Or.inr rfl)) _) (Or.inl (Or.inr rfl)) _) (Or.inl (Or.inr rfl)) _);have m:=(gN (gN (gN (gN (gN ((Ch.setCell (p:=⟨w.heap.size,4,none⟩) (Ch.refl (fun k=>k=w.heap.size) f) (Or.inl rfl) (.slice B l.done.length b)).heap a gO) 0 (.int .i64 l.proc)) 1 (.int .i64 l.base.x)) 2 (.int .i64 l.base.y)) 3 (.int .i64 l.base.c)) 4 (.slice B l.done.length b));simp only[mo,mp,ml] at m;have C:=(t.ch n (fun k e R=>by have z:W.heap.size≤k:=e;have:=i.out;omega)).mono (F':=fun k=>w.heap.size≤k) (fun k e=>by have z:W.heap.size≤k:=e;have:=i.out;show w.heap.size≤k;omega);have s:=g.trans (n.below (B:=w.heap.size) (fun k e=>gO) g.size);generalize ((((((f.setCell ⟨w.heap.size,4,none⟩ (.slice B l.done.length b)).setCell ⟨w.heap.size+1,0,none⟩ (.int .i64 l.proc)).setCell ⟨w.heap.size+1,1,none⟩ (.int .i64 l.base.x)).setCell ⟨w.heap.size+1,2,none⟩ (.int .i64 l.base.y)).setCell ⟨w.heap.size+1,3,none⟩ (.int .i64 l.base.c)).setCell ⟨w.heap.size+1,4,none⟩ (.slice B l.done.length b))=D at*;obtain⟨s0,s1,s2,s3,s4⟩:=ra m;refine bodyPost_ret (v:= .agg #[l.proc,l.base.x,l.base.y,l.base.c,.slice B l.done.length b]) (by simp only[results,Tryz.results100];go_simp) rfl ⟨_,rfl,C,s⟩
theorem l6 {l:hZ} (h:iW l=true):kR l.base=true∧l.done.length≤100∧∀p∈l.done,i3 p l.proc=true:=by
 simp only[iW,Bool.and_eq_true,decide_eq_true_eq] at h;exact⟨h.2.1,h.2.2.1,fun p b=>List.all_eq_true.1 h.2.2.2.1 p b⟩
theorem mG {p:iq} {pr:Int} (h:i3 p pr=true):jM p.ev=true∧kR p.st=true∧p.sends.length≤2∧p.outs.length≤2:=by
 simp only[i3,jK,jA,Bool.and_eq_true,decide_eq_true_eq] at h;exact⟨h.1,h.2.2.1,by have:=h.2.2.2.1.1;omega,by have:=h.2.2.2.2.1;omega⟩
theorem uN {l:hZ} (h:iW l=true):kR (ij l)=true:=by
 obtain⟨a,-,b⟩:=l6 h;unfold ij;split
 ·rename_i p hp
  exact(mG (b p (List.mem_of_getLast? hp))).2.1
 ·exact a
theorem uh {l:hZ} {came:List im} {e:im} (h:lx l came=some e):iW l=true∧lk l came=true∧jM e=true∧lD l came=some e:=by
 unfold lx at h;split at h
 ·rename_i hh
  refine⟨hh.1,hh.2,?_,h⟩;have a:=hh.2;simp only[lk,jK,Bool.and_eq_true] at a;have b:e∈came:=by
   unfold lD at h;split at h
   ·cases h
   ·exact List.mem_of_getElem? h
  exact List.all_eq_true.1 a.1.2.1 e b
 ·cases h
theorem ng {a:iM} {l:hZ} {came:List im} (qk:iW l=true) (h:lk l came=false∨je a=false∨lx l came=none):jn a l came=(l,false):=by
 unfold jn;rw[if_pos qk];split
 ·rename_i hh
  rcases h with h|h|h
  ·rw[h] at hh;cases hh.1
  ·rw[h] at hh;cases hh.2
  ·unfold lx at h
   rw[if_pos ⟨qk,hh.1⟩] at h;rw[h]
 ·rfl
theorem sM {a:iM} {l:hZ} {came:List im} {e:im} (ha:je a=true) (h:lx l came=some e):jn a l came=(nN a l e,true):=by
 obtain⟨b,c,-,d⟩:=uh h;unfold jn;rw[if_pos b,if_pos ⟨c,ha⟩,d]
theorem xb (xs:List im):(jS xs).length≤xs.length:=by
 have:=po (lt:=hY) xs xs.length (j9 _)
 rwa [ld] at this
theorem yS (xs:List iQ):(jX xs).length=xs.length:=(uU qS xs).2.length_eq
theorem oT {P:Program} {ops:Array Oper} {Q:Exit→Act→World→Prop} {w0:World} {r:List Sg} {f:List Nat} {a:Act} {w:World} (h:∀a0,a0=a→m6 P ops Q w0 r f a0 w):m6 P ops Q w0 r f a w:=h a rfl
theorem Cw (v:Value) (a:iM) (s:mL) (e:im) (F:Nat→Prop) (w:World) (h:Rd k6 w F v a.rules) {xs:mL} {sends:List im} {outs:List iQ} (hr:iO a s e=(xs,sends,outs)):
  Calls Tryz.prog 111 #[.agg #[v],.agg #[s.x,s.y,s.c],.agg #[e.time,e.to,e.from_,e.count,e.n,e.kind,e.arg]] w fun q w' =>∃sv ov,q= .returned (.tuple #[iY xs,sv,ov])∧Ow iC 132 w' (fun k=>w.heap.size≤k) sv sends∧Ow ii 120 w' (fun k=>w.heap.size≤k) ov outs∧Below w.heap.size w w':=by
 refine(Ec v a s e F w h).mono ?_;rintro q w' ⟨sv,ov,b,d,f,g⟩;rw[hr] at b d f;exact⟨sv,ov,b,d,f,g⟩
def FL (l:hZ) (xs:mL) (sends:List im) (outs:List iQ):List nm:=
 [(4,[],fun _ v w F=>∃sv ov,v= .tuple #[iY xs,sv,ov]∧Ow iC 132 w F sv sends∧Ow ii 120 w F ov outs),
  (9,[],fun _ v w F=>∃g,v= .pointer (some ⟨g,0,none⟩)∧F g∧w.heap[g]? =some (.cells #[.int .i64 0,.int .i64 0,.int .i64 0] 62)),
  (10,[9],fun ds _ w F=>∃g,ds=[.pointer (some ⟨g,0,none⟩)]∧F g∧w.heap[g]? =some (.cells #[xs.x,xs.y,xs.c] 62))]
theorem Cc (l:hZ) (xs:mL) (sends:List im) (outs:List iQ):mj (FL l xs sends outs):=
 ⟨fun ds v w w' F ⟨sv,ov,h1,h2,h3⟩ hm=>⟨sv,ov,h1,Ow.move hm h2,Ow.move hm h3⟩,fun ds v w w' F ⟨g,h1,h2,h3⟩ hm=>⟨g,h1,h2,(hm g h2).trans h3⟩,fun ds v w w' F ⟨g,h1,h2,h3⟩ hm=>⟨g,h1,h2,(hm g h2).trans h3⟩,trivial⟩
def Gt (l:hZ) (xs:mL) (sends:List im) (outs:List iQ):List nH:=[(2,[],fun _ v=>v= .agg #[.int .i64 (ij l).x,.int .i64 (ij l).y,.int .i64 (ij l).c]),(4,[],fun _ v=>qX (iY xs) v),(5,[4],fun ds v=>ds=[v]∧qX (iY xs) v),(6,[5],fun _ v=>v=iY xs),(7,[5],fun ds v=>∀a b c,ds=[.tuple #[a,b,c]]→v=b),(8,[5],fun ds v=>∀a b c,ds=[.tuple #[a,b,c]]→v=c),(11,[7],fun ds v=>ds=[v]),(12,[8],fun ds v=>ds=[v])]
def GE (a:iM) (l:hZ) (came:List im) (w:World) (q:Ending) (w':World):Prop:=
 ∃(x:hZ) (bl:Bool) (u:Value),jn a l came=(x,bl)∧q= .returned (.tuple #[.agg #[x.proc,x.base.x,x.base.y,x.base.c,u],.bool bl])∧Rd jm w' (fun k=>k<w.heap.size∨w.heap.size≤k) u x.done∧Below w.heap.size w w'
theorem Ow.updatePre {α:Type} {d:Ty α} {e:TypeId} {w:World} {F:Nat→Prop} {v:Value} {xs:List α} (h:Ow d e w F v xs) {g:Nat} (hv:v.ownBlock=some g) (j:Nat) (hj:j<xs.length):
  ∃(Fj:Nat→Prop) (csj:List Value),d.rel w Fj xs[j] csj∧(∀k,Fj k→F k∧k≠g∧k<w.heap.size)∧(∀i u,csj[i]? =some u→w.cell? ⟨g,j*d.sz+i,none⟩=some u)∧
   ∀(w':World) (x':α) (pre:List Value) (F' G:Nat→Prop),pre.length≤d.sz→w'.heap[g]? =(w.setCells g (j*d.sz) pre).heap[g]? →(∀k,F k→k<w.heap.size→k≠g→¬Fj k→w'.heap[k]? =w.heap[k]?)→
    d.rel w' F' x' (pre++csj.drop pre.length)→(∀k,F' k→Fj k)→(∀k,F k→G k)→Ow d e w' G v (xs.set j x'):=by
 obtain⟨c,L,y,W,l,z,P⟩:=h.bound;have I:=y.1;rcases y.2 with ⟨rfl,_⟩|⟨p,A,M,rfl,Z,hh,B,Q,R,S⟩
 ·simp[Value.ownBlock] at hv
 ·simp only[Value.ownBlock,Option.some.injEq] at hv
  subst hv;have C:=(y.lt p rfl).2;have U:(j+1)*d.sz≤xs.length*d.sz:=Nat.mul_le_mul_right _ gO;have ad:xs.length*d.sz≤A*d.sz:=Nat.mul_le_mul_right _ B;rw[Nat.add_mul,Nat.one_mul] at U;refine⟨L j,(c.drop (j*d.sz)).take d.sz,P j _ (mc hj),fun k s=>⟨(l j k s).1.1,fun E=>(l j k s).2 (by rw[E];rfl),(l j k s).1.2⟩,fun i u m=>?_,?_⟩
  ·rw[List.getElem?_take] at m
   split at m
   ·rw[List.getElem?_drop] at m
    have:=y.cells (g:=p) rfl (j*d.sz+i) u m;have ha:(⟨p,0,none⟩:Addr).add (j*d.sz+i)=⟨p,j*d.sz+i,none⟩:=by unfold Addr.add;split<;>simp_all
    rwa [ha] at this
   ·cases m
  ·intro w' x' pre F' G m hg s hr r H
   refine⟨tW c (j*d.sz) pre,fun q k=>if q=j then F' k else L q k,⟨by rw[qU,I,List.length_set],.inr ⟨p,A,(tW M.toList (j*d.sz) pre).toArray,by rw[List.length_set],Z,?_,by simpa using B,Q,by simpa [qU] using R,?_⟩⟩,fun k f=>?_,?_,?_,?_⟩
   ·rw[hg];exact lP _ _ _ _ hh
   ·rw[List.length_set,rT,S]
   ·simp[Value.ownBlock] at f;subst f;exact H _ (W _ rfl).1
   ·intro q k hq
    by_cases hqj:q=j
    ·subst hqj
     simp only[if_true] at hq;have h':=r k hq;exact⟨H _ (l q k h').1.1,(l q k h').2⟩
    ·simp only[if_neg hqj] at hq
     exact⟨H _ (l q k hq).1.1,(l q k hq).2⟩
   ·intro a b k o ha n
    by_cases haj:a=j
    ·subst haj
     simp only[if_true,if_neg (Ne.symm o)] at ha n;exact z a b k o (r k ha) n
    ·by_cases hbj:b=j
     ·subst hbj
      simp only[if_true,if_neg haj] at ha n;exact z a b k o ha (r k n)
     ·simp only[if_neg haj,if_neg hbj] at ha n
      exact z a b k o ha n
   ·intro q x hq
    by_cases hqj:q=j
    ·subst hqj
     simp only[List.getElem?_set_self hj,Option.some.injEq] at hq;subst hq;simp only[if_true];have t:((tW c (q*d.sz) pre).drop (q*d.sz)).take d.sz=pre++((c.drop (q*d.sz)).take d.sz).drop pre.length:=by
      have V:c=c.take (q*d.sz)++(c.drop (q*d.sz)).take pre.length++(c.drop (q*d.sz)).drop pre.length:=by
       rw[List.append_assoc,List.take_append_drop,List.take_append_drop]
      have D:(c.take (q*d.sz)).length=q*d.sz:=by rw[List.length_take];omega
      have J:((c.drop (q*d.sz)).take pre.length).length=pre.length:=by rw[List.length_take,List.length_drop];omega
      have O:=ug pre ((c.drop (q*d.sz)).take pre.length) (c.take (q*d.sz)) ((c.drop (q*d.sz)).drop pre.length) J;rw[D,←V] at O;rw[O,List.append_assoc,List.drop_left' D,List.drop_take,List.take_append,List.take_of_length_le m]
     rw[t];exact hr
    ·rw[List.getElem?_set_ne (Ne.symm hqj)] at hq
     simp only[if_neg hqj];have X:=P q x hq;have Y:((tW c (j*d.sz) pre).drop (q*d.sz)).take d.sz=(c.drop (q*d.sz)).take d.sz:=by
      apply List.ext_getElem?;intro i;rw[List.getElem?_take,List.getElem?_take];by_cases m:i<d.sz
      ·simp only[if_pos m,List.getElem?_drop]
       refine sa _ _ _ _ ?_;by_cases C:q<j
       ·have:(q+1)*d.sz≤j*d.sz:=Nat.mul_le_mul_right _ C
        rw[Nat.add_mul,Nat.one_mul] at this;left;omega
       ·have:(j+1)*d.sz≤q*d.sz:=Nat.mul_le_mul_right _ gO
        rw[Nat.add_mul,Nat.one_mul] at this;right;omega
      ·simp only[if_neg m]
     rw[Y];refine d.move (fun k f=>s k (l q k f).1.1 (l q k f).1.2 (fun E=>(l q k f).2 (by rw[E];rfl)) (fun T=>z q j k hqj f T)) X
def td (m:Int) (a b:Nat):iq:=⟨nK m,Fx (m+1+1+1+1+1+1+1),iK nK 7 (m+1+1+1+1+1+1+1+1+1+1) a,iK my 5 (m+1+1+1+1+1+1+1+1+1+1+7*a) b⟩
def iF:List iq→Int
 | []=>0
 |r::rs=>(10+7*(r.sends.length:Int)+5*(r.outs.length:Int))+iF rs
theorem lU:∀rs,0≤iF rs
 | []=>Int.le_refl _
 |r::rs=>by have:=lU rs;have h2:0≤(10+7*(r.sends.length:Int)+5*(r.outs.length:Int)):=gO;simp only[iF];omega
theorem pH:∀(rs:List iq) (k:Nat) (h:k<rs.length),iF (rs.take (k+1))=iF (rs.take k)+(10+7*(rs[k].sends.length:Int)+5*(rs[k].outs.length:Int))
 |r::rs,0,h=>by simp[iF]
 |r::rs,k+1,h=>by
  have:=pH rs k (by simpa using h);simp only[List.take_succ_cons,iF,List.getElem_cons_succ] at this ⊢;omega
theorem uW:∀(rs:List iq) (k:Nat),iF (rs.take k)≤iF rs
 | [],k=>by simp
 |r::rs,0=>by simpa [iF] using lU (r::rs)
 |r::rs,k+1=>by have:=uW rs k;simp only[List.take_succ_cons,iF];omega
theorem rH:∀rs,iF rs≤10*(rs.length:Int)+7*iy rs
 | []=>Int.le_refl _
 |r::rs=>by have:=rH rs;simp only[iF,iy,List.length_cons];push_cast;omega
def ju (m:Int):List iq→List iq
 | []=>[]
 |x::xs=>td m x.sends.length x.outs.length::ju (m+(10+7*(x.sends.length:Int)+5*(x.outs.length:Int))) xs
theorem mv:∀(xs:List iq) (m:Int),(ju m xs).length=xs.length
 | [],_=>rfl
 |x::xs,m=>by simp[ju,mv xs]
theorem tB:∀(xs:List iq) (m:Int) (j:Nat) (h:j<xs.length),(ju m xs)[j]? =some (td (m+iF (xs.take j)) xs[j].sends.length xs[j].outs.length)
 |x::xs,m,0,h=>by simp[ju,iF]
 |x::xs,m,j+1,h=>by
  have:=tB xs (m+(10+7*(x.sends.length:Int)+5*(x.outs.length:Int))) j (by simpa using h);simp only[ju,List.getElem?_cons_succ,List.take_succ_cons,iF,List.getElem_cons_succ];rw[this,Int.add_assoc m]
theorem tX:∀(xs ys:List iq) (m:Int),ju m (xs++ys)=ju m xs++ju (m+iF xs) ys
 | [],ys,m=>by simp[ju,iF]
 |x::xs,ys,m=>by simp only[List.cons_append,ju,tX xs,iF,Int.add_assoc]
theorem zr (xs:List iq) (m t:Int) (k:Nat) (h:k<xs.length) (ht:t=m+iF (xs.take k)):(ju m (xs.take k)++xs.drop k).set k (td t xs[k].sends.length xs[k].outs.length)=ju m (xs.take (k+1))++xs.drop (k+1):=by
 have a:(ju m (xs.take k)).length=k:=by rw[mv,List.length_take];omega
 rw[List.set_append_right _ _ gO,a,Nat.sub_self,List.drop_eq_getElem_cons h,List.set_cons_zero,qp h,tX,List.append_assoc,ht];rfl
theorem xO (xs:List iq) (m:Int) (k:Nat) (h:k≤xs.length):(ju m (xs.take k)++xs.drop k).length=xs.length:=by
 rw[List.length_append,mv,List.length_take,List.length_drop];omega
theorem AY (xs:List iq) (m:Int) (k:Nat) (h:k<xs.length) (h':k<(ju m (xs.take k)++xs.drop k).length):(ju m (xs.take k)++xs.drop k)[k]=xs[k]:=by
 have a:(ju m (xs.take k)).length=k:=by rw[mv,List.length_take];omega
 apply Option.some.inj;rw[←mc,List.getElem?_append_right gO,a,Nat.sub_self,List.getElem?_drop,Nat.add_zero,mc h]
theorem rg (rs:List iq) (k:Nat) (h:k<rs.length):0≤iy (rs.take k)∧iy (rs.take k)+((rs[k].sends.length:Int)+(rs[k].outs.length:Int))≤iy rs:=
 ⟨iS _,by rw[←nB rs k h];exact rz _ _⟩
theorem rq (rs:List iq) (k:Nat) (h:k≤rs.length):0≤iF (rs.take k)∧iF (rs.take k)≤10*(rs.length:Int)+7*iy rs:=
 ⟨lU _,Int.le_trans (uW _ _) (rH _)⟩
theorem zt (v:Value) (xs:List iq) (m:Int) (F:Nat→Prop) (w:World) (h:Ow kk 141 w F v xs) (hm0:0≤m) (hm1:m≤500000000) (hn:(xs.length:Int)+iy xs≤1048576):
  Calls Tryz.prog 130 #[v,.int .i64 m] w fun q w' =>q= .returned (.int .i64 (m+iF xs))∧Ow kk 141 w' F v (ju m xs)∧Ch F w w':=by
 obtain⟨A,c,rfl,-⟩:=h.shape;have a5:=iS xs;go_enter Tryz.func130,Tryz.ntmps130;go_wp2_with fail
 go_loopw [1,5] (fun l i wr=>∃(k:Nat) (t:Int),i= .int .i64 k∧k≤xs.length∧l= .int .i64 t∧Hid (t=m+iF (xs.take k))∧Ow kk 141 wr F (.slice A xs.length c) (ju m (xs.take k)++xs.drop k)∧Ch F w wr) (fun _ i _=>xs.length-(intOf i).toNat)
 case atStart=>exact⟨0,m,rfl,jP _,rfl,by show m=m+iF (xs.take 0);simp[iF],by simpa [ju] using h,Ch.refl _ _⟩
 case round=>
  clear h;obtain⟨k,t,rfl,hk,rfl,G,I,hC⟩:=hrel;by_cases hlt:k<xs.length
  ·have Z:=xO xs m k hk
   obtain⟨g,c',U,hv,hF,az,a⟩:=I.head gO;injection hv with hv1 hv2 hv3;subst hv1 hv3;have o:k<(ju m (xs.take k)++xs.drop k).length:=gO;obtain⟨E,a4,⟨vs,vo,ax,D,C⟩,e,b,oI⟩:=I.updatePre (g:=g) rfl k o;subst ax;rw[AY xs m k hlt o] at D C b oI;obtain⟨A1,c1,rfl,-⟩:=D.shape;obtain⟨A2,c2,rfl,-⟩:=C.shape;have hz:kk.sz=12:=rfl;simp only[hz] at b oI;have z0:=b 0 _ rfl;have z1:=b 1 _ rfl;have z2:=b 2 _ rfl;have z3:=b 3 _ rfl;have z4:=b 4 _ rfl;have z5:=b 5 _ rfl;have z6:=b 6 _ rfl;have z7:=b 7 _ rfl;have z8:=b 8 _ rfl;have z9:=b 9 _ rfl;have P:=b 10 _ rfl;have Q:=b 11 _ rfl;simp only[Nat.add_zero] at z0;have f0:=ft a (k*12);have f1:=ft a (k*12+1);have f2:=ft a (k*12+2);have f3:=ft a (k*12+3);have f4:=ft a (k*12+4);have f5:=ft a (k*12+5);have f6:=ft a (k*12+6);have f7:=ft a (k*12+7);have f8:=ft a (k*12+8);have f9:=ft a (k*12+9);have hb:=rg xs k hlt;have aw:=rq xs k hk;have a6:0≤t:=by have:=G.out;omega
   have a7:t≤600000000:=by have:=G.out;omega
   have aa:xs[k].sends.length≤1048576:=by have:=hb.1;omega
   have ab:xs[k].outs.length≤1048576:=by have:=hb.1;omega
   have R:Ch (fun q=>q=g) wr ((((((((((wr.setCell ⟨g,k*12,none⟩ (.int .i64 (t))).setCell ⟨g,k*12+1,none⟩ (.int .i64 (t+1))).setCell ⟨g,k*12+2,none⟩ (.int .i64 (t+1+1))).setCell ⟨g,k*12+3,none⟩ (.int .i64 (t+1+1+1))).setCell ⟨g,k*12+4,none⟩ (.int .i64 (t+1+1+1+1))).setCell ⟨g,k*12+5,none⟩ (.int .i64 (t+1+1+1+1+1))).setCell ⟨g,k*12+6,none⟩ (.int .i64 (t+1+1+1+1+1+1))).setCell ⟨g,k*12+7,none⟩ (.int .i64 (t+1+1+1+1+1+1+1))).setCell ⟨g,k*12+8,none⟩ (.int .i64 (t+1+1+1+1+1+1+1+1))).setCell ⟨g,k*12+9,none⟩ (.int .i64 (t+1+1+1+1+1+1+1+1+1))):=(Ch.setCell (p:=⟨g,k*12+9,none⟩) (Ch.setCell (p:=⟨g,k*12+8,none⟩) (Ch.setCell (p:=⟨g,k*12+7,none⟩) (Ch.setCell (p:=⟨g,k*12+6,none⟩) (Ch.setCell (p:=⟨g,k*12+5,none⟩) (Ch.setCell (p:=⟨g,k*12+4,none⟩) (Ch.setCell (p:=⟨g,k*12+3,none⟩) (Ch.setCell (p:=⟨g,k*12+2,none⟩) (Ch.setCell (p:=⟨g,k*12+1,none⟩) (Ch.setCell (p:=⟨g,k*12,none⟩) (Ch.refl (fun q=>q=g) _) (Or.inl rfl) _) (Or.inl rfl) _) (Or.inl rfl) _) (Or.inl rfl) _) (Or.inl rfl) _) (Or.inl rfl) _) (Or.inl rfl) _) (Or.inl rfl) _) (Or.inl rfl) _) (Or.inl rfl) _);have f:=D.ch R (fun q hq s=>(e q hq).2.1 s);have u:=C.ch R (fun q hq s=>(e q hq).2.1 s);have z:((((((((((wr.setCell ⟨g,k*12,none⟩ (.int .i64 (t))).setCell ⟨g,k*12+1,none⟩ (.int .i64 (t+1))).setCell ⟨g,k*12+2,none⟩ (.int .i64 (t+1+1))).setCell ⟨g,k*12+3,none⟩ (.int .i64 (t+1+1+1))).setCell ⟨g,k*12+4,none⟩ (.int .i64 (t+1+1+1+1))).setCell ⟨g,k*12+5,none⟩ (.int .i64 (t+1+1+1+1+1))).setCell ⟨g,k*12+6,none⟩ (.int .i64 (t+1+1+1+1+1+1))).setCell ⟨g,k*12+7,none⟩ (.int .i64 (t+1+1+1+1+1+1+1))).setCell ⟨g,k*12+8,none⟩ (.int .i64 (t+1+1+1+1+1+1+1+1))).setCell ⟨g,k*12+9,none⟩ (.int .i64 (t+1+1+1+1+1+1+1+1+1))).heap[g]? =some (.cells (tW U.toList (k*12) [.int .i64 (t),.int .i64 (t+1),.int .i64 (t+1+1),.int .i64 (t+1+1+1),.int .i64 (t+1+1+1+1),.int .i64 (t+1+1+1+1+1),.int .i64 (t+1+1+1+1+1+1),.int .i64 (t+1+1+1+1+1+1+1),.int .i64 (t+1+1+1+1+1+1+1+1),.int .i64 (t+1+1+1+1+1+1+1+1+1)]).toArray 141 (0,0)):=lP [.int .i64 (t),.int .i64 (t+1),.int .i64 (t+1+1),.int .i64 (t+1+1+1),.int .i64 (t+1+1+1+1),.int .i64 (t+1+1+1+1+1),.int .i64 (t+1+1+1+1+1+1),.int .i64 (t+1+1+1+1+1+1+1),.int .i64 (t+1+1+1+1+1+1+1+1),.int .i64 (t+1+1+1+1+1+1+1+1+1)] (k*12) wr U.toList (by simpa using a);have L:((((((((((wr.setCell ⟨g,k*12,none⟩ (.int .i64 (t))).setCell ⟨g,k*12+1,none⟩ (.int .i64 (t+1))).setCell ⟨g,k*12+2,none⟩ (.int .i64 (t+1+1))).setCell ⟨g,k*12+3,none⟩ (.int .i64 (t+1+1+1))).setCell ⟨g,k*12+4,none⟩ (.int .i64 (t+1+1+1+1))).setCell ⟨g,k*12+5,none⟩ (.int .i64 (t+1+1+1+1+1))).setCell ⟨g,k*12+6,none⟩ (.int .i64 (t+1+1+1+1+1+1))).setCell ⟨g,k*12+7,none⟩ (.int .i64 (t+1+1+1+1+1+1+1))).setCell ⟨g,k*12+8,none⟩ (.int .i64 (t+1+1+1+1+1+1+1+1))).setCell ⟨g,k*12+9,none⟩ (.int .i64 (t+1+1+1+1+1+1+1+1+1))).heap.size=wr.heap.size:=by simp
   have O:((((((((((wr.setCell ⟨g,k*12,none⟩ (.int .i64 (t))).setCell ⟨g,k*12+1,none⟩ (.int .i64 (t+1))).setCell ⟨g,k*12+2,none⟩ (.int .i64 (t+1+1))).setCell ⟨g,k*12+3,none⟩ (.int .i64 (t+1+1+1))).setCell ⟨g,k*12+4,none⟩ (.int .i64 (t+1+1+1+1))).setCell ⟨g,k*12+5,none⟩ (.int .i64 (t+1+1+1+1+1))).setCell ⟨g,k*12+6,none⟩ (.int .i64 (t+1+1+1+1+1+1))).setCell ⟨g,k*12+7,none⟩ (.int .i64 (t+1+1+1+1+1+1+1))).setCell ⟨g,k*12+8,none⟩ (.int .i64 (t+1+1+1+1+1+1+1+1))).setCell ⟨g,k*12+9,none⟩ (.int .i64 (t+1+1+1+1+1+1+1+1+1))).cell? ⟨g,k*12+11,none⟩=some (.slice A2 xs[k].outs.length c2):=by
    rw[gM z,List.getElem?_toArray,sa _ _ _ _ (Or.inr (by simp only[List.length_cons,List.length_nil];omega)),Array.getElem?_toList,←gM a];exact Q
   have ae:((((((((((wr.setCell ⟨g,k*12,none⟩ (.int .i64 (t))).setCell ⟨g,k*12+1,none⟩ (.int .i64 (t+1))).setCell ⟨g,k*12+2,none⟩ (.int .i64 (t+1+1))).setCell ⟨g,k*12+3,none⟩ (.int .i64 (t+1+1+1))).setCell ⟨g,k*12+4,none⟩ (.int .i64 (t+1+1+1+1))).setCell ⟨g,k*12+5,none⟩ (.int .i64 (t+1+1+1+1+1))).setCell ⟨g,k*12+6,none⟩ (.int .i64 (t+1+1+1+1+1+1))).setCell ⟨g,k*12+7,none⟩ (.int .i64 (t+1+1+1+1+1+1+1))).setCell ⟨g,k*12+8,none⟩ (.int .i64 (t+1+1+1+1+1+1+1+1))).setCell ⟨g,k*12+9,none⟩ (.int .i64 (t+1+1+1+1+1+1+1+1+1))).cell? ⟨g,k*12+10,none⟩=some (.slice A1 xs[k].sends.length c1):=by
    rw[gM z,List.getElem?_toArray,sa _ _ _ _ (Or.inr (by simp only[List.length_cons,List.length_nil];omega)),Array.getElem?_toList,←gM a];exact P
   have p0:(k:Int)<(xs.length:Int):=gO;have W:=gP (zr xs m t k hlt G.out);have T:=gP (show t+(10+7*(xs[k].sends.length:Int)+5*(xs[k].outs.length:Int))=m+iF (xs.take (k+1)) by
    have h1:=G.out;have h2:=pH xs k hlt;omega)
   obtain⟨d,Y⟩:∃d,xs[k]=d:=⟨_,rfl⟩;rw[Y] at W T f u aa ab ae O oI z0 z1 z2 z3 z4 z5 z6 z7 z8 z9 P Q;have aq:=gP oI;have HW:=gP R;have r:=gP L;have a3:=gP Z;have S:=gP z;have HY:=gP O;have HF:=gP hF;have HO:=gP I;clear oI b hz D C hv2 Y a hb aw z O ae R L Z o I Q;go_wp2_with fail;refine(pk _ d.sends (t+1+1+1+1+1+1+1+1+1+1) E _ f gO gO aa).mono ?_;rintro q w2 ⟨rfl,nS,B⟩;have j:∀q,(Value.slice A1 d.sends.length c1).ownBlock=some q→E q:=fun q hq=>nS.inF hq;have nO:=f.chOther u dc B;have H:=B.heap S.out (fun hq=>(e g (j g hq)).2.1 rfl);have aF:w2.cell? ⟨g,k*12+11,none⟩=some (.slice A2 d.outs.length c2):=(gM H _).trans ((gM S.out _).symm.trans HY.out);have y:=gP B;have ao:=gP H;clear B H f u z0 z1 z2 z3 z4 z5 z6 z7 z8 z9 P f0 f1 f2 f3 f4 f5 f6 f7 f8 f9;apply_assumption;go_wp2_with fail;refine(vg _ d.outs _ E _ nO gO gO ab).mono ?_;rintro q w3 ⟨rfl,M,n⟩;have x:∀q,(Value.slice A2 d.outs.length c2).ownBlock=some q→E q:=fun q hq=>M.inF hq;have ad:=nO.chOther nS dc n;have X:Ow kk 141 w3 F (.slice (some ⟨g,0,none⟩) xs.length c) (ju m (xs.take (k+1))++xs.drop (k+1)):=by
    rw[←W.out];have aA:g<w2.heap.size:=gL ao.out;have ay:g<((((((((((wr.setCell ⟨g,k*12,none⟩ (.int .i64 (t))).setCell ⟨g,k*12+1,none⟩ (.int .i64 (t+1))).setCell ⟨g,k*12+2,none⟩ (.int .i64 (t+1+1))).setCell ⟨g,k*12+3,none⟩ (.int .i64 (t+1+1+1))).setCell ⟨g,k*12+4,none⟩ (.int .i64 (t+1+1+1+1))).setCell ⟨g,k*12+5,none⟩ (.int .i64 (t+1+1+1+1+1))).setCell ⟨g,k*12+6,none⟩ (.int .i64 (t+1+1+1+1+1+1))).setCell ⟨g,k*12+7,none⟩ (.int .i64 (t+1+1+1+1+1+1+1))).setCell ⟨g,k*12+8,none⟩ (.int .i64 (t+1+1+1+1+1+1+1+1))).setCell ⟨g,k*12+9,none⟩ (.int .i64 (t+1+1+1+1+1+1+1+1+1))).heap.size:=by rw[r.out];exact az
    have:=aq.out w3 (td t d.sends.length d.outs.length) [.int .i64 (t),.int .i64 (t+1),.int .i64 (t+1+1),.int .i64 (t+1+1+1),.int .i64 (t+1+1+1+1),.int .i64 (t+1+1+1+1+1),.int .i64 (t+1+1+1+1+1+1),.int .i64 (t+1+1+1+1+1+1+1),.int .i64 (t+1+1+1+1+1+1+1+1),.int .i64 (t+1+1+1+1+1+1+1+1+1)] E F sm ((n.block g aA (fun hq=>(e g (x g hq)).2.1 rfl)).trans (y.out.block g ay (fun hq=>(e g (j g hq)).2.1 rfl)))
     (fun q hq J aC ac=>(n.block q (nk (by rw[r.out];exact J) y.out.size) (fun s=>ac (x q s))).trans ((y.out.block q (by rw[r.out];exact J) (fun s=>ac (j q s))).trans (HW.out.block q J aC)))
     ⟨_,_,rfl,ad,M⟩ (fun _ hq=>hq) (fun _ hq=>hq)
    exact this
   have V:Ch F w w3:=hC.trans ((HW.out.mono (fun q hq=>by rw[hq];exact HF.out)).trans ((y.out.mono (fun q hq=>(e q (j q hq)).1)).trans (n.mono (fun q hq=>(e q (x q hq)).1))));have HT':=gP (show t+1+1+1+1+1+1+1+1+1+1+7*(d.sends.length:Int)+5*(d.outs.length:Int)=m+iF (xs.take (k+1)) by have:=T.out;omega);have HN:=gP X;have ap:=gP V;clear X V hC nS nO M ad n aF;apply_assumption;go_wp2_with fail;go_roundw
   case rel=>exact⟨k+1,_,by go_num,gO,rfl,HT',HN.out,ap.out⟩
   case measure=>exact ms
  ·have o:k=xs.length:=gO
   subst o;have av:Ow kk 141 wr F (.slice A xs.length c) (ju m xs):=by
    have:=I
    rwa [List.drop_length,List.append_nil,ld] at this
   go_wp2_with fail;go_ret;exact⟨by rw[G.out,ld];rfl,av,hC⟩
end Go.Proofs.YtgilllnjhahkfaaGreat
