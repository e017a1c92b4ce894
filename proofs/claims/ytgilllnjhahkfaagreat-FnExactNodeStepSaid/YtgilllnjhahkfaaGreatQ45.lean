/- Parts of the proof: Nh8, Ez3. -/
import Derived.Test.YtgilllnjhahkfaaGreatQ39
set_option linter.unusedVariables false
set_option linter.unusedSimpArgs false
set_option linter.unusedSectionVars false
set_option maxHeartbeats 4000000
set_option maxRecDepth 100000
namespace Go.Proofs.YtgilllnjhahkfaaGreat
open Go.RowKit
theorem CQ {w:World} {g:Nat} {y:im} {t:TypeId} {fr:Nat×Nat} (h:w.heap[g]? =some (.cells #[y.time,y.to,y.from_,y.count,y.n,y.kind,y.arg] t fr)):w.cell? ⟨g,0,none⟩=some (.int .i64 y.time)∧w.cell? ⟨g,1,none⟩=some (.int .i64 y.to)∧w.cell? ⟨g,2,none⟩=some (.int .i64 y.from_)∧w.cell? ⟨g,3,none⟩=some (.int .i64 y.count)∧w.cell? ⟨g,4,none⟩=some (.int .i64 y.n)∧w.cell? ⟨g,5,none⟩=some (.int .i64 y.kind)∧w.cell? ⟨g,6,none⟩=some (.int .i64 y.arg):=zY h
theorem AG (gp gr:Nat) (P:im→Bool) (v:Value) (xs:List im) (F:Nat→Prop) (w:World) (h:Rd iC w F v xs) (hl:xs.length≤1000)
  (hp:∀(y:im) (wr:World),Below w.heap.size w wr→Calls Tryz.prog 119 #[.agg #[y.time,y.to,y.from_,y.count,y.n,y.kind,y.arg],.pointer (some ⟨gp,0,none⟩),.pointer (some ⟨gr,0,none⟩)] wr fun q w' =>q= .returned (.bool (P y))∧Below wr.heap.size wr w'):
  Calls Tryz.prog 118 #[v,.func (.func 119) #[] #[.pointer (some ⟨gp,0,none⟩),.pointer (some ⟨gr,0,none⟩)]] w fun q w' =>∃u,q= .returned u∧Ow iC 132 w' (fun k=>w.heap.size≤k) u (xs.filter P)∧Below w.heap.size w w':=by
 obtain⟨A,c,rfl,-⟩:=h.shape;go_enter Tryz.func118,Tryz.ntmps118;go_wp2_with fail
 go_loopw [5,10] (fun u i wr=>∃k:Nat,i= .int .i64 k∧k≤xs.length∧Ow iC 132 wr (fun q=>w.heap.size≤q) u ((xs.take k).filter P)∧Below w.heap.size w wr) (fun _ i _=>xs.length-(intOf i).toNat)
 case atStart=>exact⟨0,rfl,jP _,Ow.nil _ _ _ _,gY _ _⟩
 case round=>
  obtain⟨k,rfl,e,j,m⟩:=hrel;obtain⟨B,b⟩:∃B,(xs.take k).filter P=B:=⟨_,rfl⟩;have J:=gP (show B.length≤xs.length by have:=qO P xs k;rw[←b];exact this);rw[b] at j;have f:=gP b;clear b;obtain⟨V,vc,rfl,-⟩:=j.shape;by_cases hlt:k<xs.length
  ·have p0:(k:Int)<(xs.length:Int):=gO
   obtain⟨b0,o0,M,an,y0,y1,y2,y3,y4,y5,y6⟩:=jD (h.below m) k hlt;subst M;have D:=gP (qN (p:=P) hlt);have C:=gP (qK (p:=P) hlt);obtain⟨y,T⟩:∃y,xs[k]=y:=⟨_,rfl⟩;rw[T] at D C y0 y1 y2 y3 y4 y5 y6;clear T;go_upto_region 5 with fail;obtain⟨W5,hV,s,z⟩:=n8 wr (.cells #[y.time,y.to,y.from_,y.count,y.n,y.kind,y.arg] 132);have Q:=j.bound.below s;have o:=gQ m s m.size;obtain⟨g,H⟩:∃g,g=wr.heap.size:=⟨_,rfl⟩;rw[←H] at z;simp only[←H];rw[hV.out];clear hV;clear H y0 y1 y2 y3 y4 y5 y6 s j m;obtain⟨U,W,X,Y,Z,l5,l6⟩:=CQ z;go_wp2_with fail;refine(hp y W5 o).mono ?_;rintro q w6 ⟨rfl,r⟩;have L:=gJ r (gL z) z;have l:=Q.below r;have a:=gQ o r o.size;clear U W X Y Z l5 l6;obtain⟨U,W,X,Y,Z,l5,l6⟩:=CQ L;obtain⟨t,I⟩:∃t,P y=t:=⟨_,rfl⟩;rw[I];cases t
   case false=>
    have G:=gP (C.out I);apply_assumption;go_wp2_with fail;go_roundw
    case rel=>exact⟨k+1,by go_num,gO,by rw[G.out,f.out];exact l.mono (fun q hq=>hq.1),a⟩
    case measure=>exact ms
   have G:=gP (D.out I);apply_assumption;go_wp2_with (at_builtin;(refine jj (d:=iC) rfl 33 rfl Tryz.underlying33 _ 56 kL rfl dc dc rfl (l.alloc _) y _ rfl (gX rfl) (fun _=>False) rfl (fun _ x=>x.elim) (fun _ x=>x.elim) (by have:=J.out;omega) (fun k=>w.heap.size≤k) (fun _ e=>e.1) (fun _ x=>x.elim) (fun k e=>by simp only[lv] at e;have:=a.size;omega) ?_);intro v9 w9 R O al);have S:=lz (gU a _) O (fun k e=>(l.inF e).1) (by simp only[lv];have:=a.size;omega);go_roundw
   case rel=>exact⟨k+1,by go_num,gO,by rw[G.out,f.out];exact R,S⟩
   case measure=>exact ms
  ·have E:k=xs.length:=gO
   have HZ:=gP (show xs.filter P=B by rw[←f.out,E,ld]);have p0:¬(k:Int)<(xs.length:Int):=gO;clear E;go_wp2_with fail;go_ret;exact⟨_,rfl,by rw[HZ.out];exact j,m⟩
theorem yU (gp gr:Nat) (P:im→Bool) (v:Value) (xs:List im) (F:Nat→Prop) (w:World) (h:Rd iC w F v xs) (hl:xs.length≤1000)
  (hp:∀(y:im) (wr:World),Below w.heap.size w wr→Calls Tryz.prog 157 #[.agg #[y.time,y.to,y.from_,y.count,y.n,y.kind,y.arg],.pointer (some ⟨gp,0,none⟩),.pointer (some ⟨gr,0,none⟩)] wr fun q w' =>q= .returned (.bool (P y))∧Below wr.heap.size wr w'):
  Calls Tryz.prog 118 #[v,.func (.func 157) #[] #[.pointer (some ⟨gp,0,none⟩),.pointer (some ⟨gr,0,none⟩)]] w fun q w' =>∃u,q= .returned u∧Ow iC 132 w' (fun k=>w.heap.size≤k) u (xs.filter P)∧Below w.heap.size w w':=by
 obtain⟨A,c,rfl,-⟩:=h.shape;go_enter Tryz.func118,Tryz.ntmps118;go_wp2_with fail
 go_loopw [5,10] (fun u i wr=>∃k:Nat,i= .int .i64 k∧k≤xs.length∧Ow iC 132 wr (fun q=>w.heap.size≤q) u ((xs.take k).filter P)∧Below w.heap.size w wr) (fun _ i _=>xs.length-(intOf i).toNat)
 case atStart=>exact⟨0,rfl,jP _,Ow.nil _ _ _ _,gY _ _⟩
 case round=>
  obtain⟨k,rfl,e,j,m⟩:=hrel;obtain⟨B,b⟩:∃B,(xs.take k).filter P=B:=⟨_,rfl⟩;have J:=gP (show B.length≤xs.length by have:=qO P xs k;rw[←b];exact this);rw[b] at j;have f:=gP b;clear b;obtain⟨V,vc,rfl,-⟩:=j.shape;by_cases hlt:k<xs.length
  ·have p0:(k:Int)<(xs.length:Int):=gO
   obtain⟨b0,o0,M,an,y0,y1,y2,y3,y4,y5,y6⟩:=jD (h.below m) k hlt;subst M;have D:=gP (qN (p:=P) hlt);have C:=gP (qK (p:=P) hlt);obtain⟨y,T⟩:∃y,xs[k]=y:=⟨_,rfl⟩;rw[T] at D C y0 y1 y2 y3 y4 y5 y6;clear T;go_upto_region 5 with fail;obtain⟨W5,hV,s,z⟩:=n8 wr (.cells #[y.time,y.to,y.from_,y.count,y.n,y.kind,y.arg] 132);have Q:=j.bound.below s;have o:=gQ m s m.size;obtain⟨g,H⟩:∃g,g=wr.heap.size:=⟨_,rfl⟩;rw[←H] at z;simp only[←H];rw[hV.out];clear hV;clear H y0 y1 y2 y3 y4 y5 y6 s j m;obtain⟨U,W,X,Y,Z,l5,l6⟩:=CQ z;go_wp2_with fail;refine(hp y W5 o).mono ?_;rintro q w6 ⟨rfl,r⟩;have L:=gJ r (gL z) z;have l:=Q.below r;have a:=gQ o r o.size;clear U W X Y Z l5 l6;obtain⟨U,W,X,Y,Z,l5,l6⟩:=CQ L;obtain⟨t,I⟩:∃t,P y=t:=⟨_,rfl⟩;rw[I];cases t
   case false=>
    have G:=gP (C.out I);apply_assumption;go_wp2_with fail;go_roundw
    case rel=>exact⟨k+1,by go_num,gO,by rw[G.out,f.out];exact l.mono (fun q hq=>hq.1),a⟩
    case measure=>exact ms
   have G:=gP (D.out I);apply_assumption;go_wp2_with (at_builtin;(refine jj (d:=iC) rfl 33 rfl Tryz.underlying33 _ 56 kL rfl dc dc rfl (l.alloc _) y _ rfl (gX rfl) (fun _=>False) rfl (fun _ x=>x.elim) (fun _ x=>x.elim) (by have:=J.out;omega) (fun k=>w.heap.size≤k) (fun _ e=>e.1) (fun _ x=>x.elim) (fun k e=>by simp only[lv] at e;have:=a.size;omega) ?_);intro v9 w9 R O al);have S:=lz (gU a _) O (fun k e=>(l.inF e).1) (by simp only[lv];have:=a.size;omega);go_roundw
   case rel=>exact⟨k+1,by go_num,gO,by rw[G.out,f.out];exact R,S⟩
   case measure=>exact ms
  ·have E:k=xs.length:=gO
   have HZ:=gP (show xs.filter P=B by rw[←f.out,E,ld]);have p0:¬(k:Int)<(xs.length:Int):=gO;clear E;go_wp2_with fail;go_ret;exact⟨_,rfl,by rw[HZ.out];exact j,m⟩
theorem DV (y:im) (p:Int) (gp gr gb:Nat) (n:gW) (lo hi:Nat) (vb vk vo vd:Value) (gm:Nat) (vn:Value) (vs:List (jE 3)) (rs:List (jE 1)) (w:World) (h:i4 w lo hi gb vb vk vo vd gm vn vs rs n) (h1:w.cell? ⟨gp,0,none⟩=some (.int .i64 p)) (h2:w.cell? ⟨gr,0,none⟩=some (.pointer (some ⟨gb,0,none⟩))) (hlp:gp<w.heap.size) (hlr:gr<w.heap.size):
  Calls Tryz.prog 119 #[.agg #[y.time,y.to,y.from_,y.count,y.n,y.kind,y.arg],.pointer (some ⟨gp,0,none⟩),.pointer (some ⟨gr,0,none⟩)] w fun q w' =>q= .returned (.bool (lQ n p y))∧Below w.heap.size w w':=by
 obtain⟨W,hV,a,d⟩:=n8 w (.cells #[y.time,y.to,y.from_,y.count,y.n,y.kind,y.arg] 132);go_enter Tryz.func119,Tryz.ntmps119;go_upto_region 1 with fail;replace h:=h.keep a;replace h1:=(a.cell (p:=⟨gp,0,none⟩) hlp).trans h1;replace h2:=(a.cell (p:=⟨gr,0,none⟩) hlr).trans h2;rw[hV.out];clear hV;obtain⟨B,C,D,E,F,G,H⟩:=CQ d;have c:W.heap[gb]? =some (.cells #[n.id,n.inc,n.g,n.led,vb,vk,vo,n.up,vd,n.version,.map (some gm),vn,n.round,n.low] 93):=(show _∧_ from i4.sets h |>.get 0 rfl).2;obtain⟨i,j,k,l,m,o,r,s,t,u,v,x,z,A⟩:=ph c;by_cases q1:y.to=p
 ·have e:(y.to==p)=true:=by simpa using q1
  by_cases q2:n.g≤y.time
  ·have f:decide (n.g≤y.time)=true:=jT q2
   have b:=gP (show lQ n p y=true by simp[lQ,q1,q2]);clear q1 q2;refine kg [.rd [0,1,2,3,4,5,6,7,8,9,10,11,12,13]] [14] ?_;refine vL ?_;intro N hN;go_wp2_with fail;refine gR (hN _ ?_);clear hN N;refine vF ?_;go_wp2_with fail;go_ret;exact⟨by rw[b.out];rfl,a.drew⟩
  ·have f:decide (n.g≤y.time)=false:=iU q2
   have b:=gP (show lQ n p y=false by simp[lQ,q1,q2]);clear q1 q2;refine kg [.rd [0,1,2,3,4,5,6,7,8,9,10,11,12,13]] [14] ?_;refine vL ?_;intro N hN;go_wp2_with fail;refine gR (hN _ ?_);clear hN N;refine vF ?_;go_wp2_with fail;go_ret;exact⟨by rw[b.out];rfl,a.drew⟩
 ·have e:(y.to==p)=false:=by simpa using q1
  have b:=gP (show lQ n p y=false by simp[lQ,q1]);clear q1;refine kg [.rd [0,1,2,3,4,5,6,7,8,9,10,11,12,13]] [14] ?_;refine vL ?_;intro N hN;go_wp2_with fail;refine gR (hN _ ?_);clear hN N;refine vF ?_;go_wp2_with fail;go_ret;exact⟨by rw[b.out];rfl,a.drew⟩
theorem Eh {x y:iq} (h1:x.ev=y.ev) (h2:x.st=y.st) (h3:x.sends=y.sends) (h4:x.outs=y.outs):x=y:=by cases x;cases y;simp_all
theorem En {x y:hZ} (h1:x.proc=y.proc) (h2:x.base=y.base) (h3:x.done=y.done):x=y:=by cases x;cases y;simp_all
theorem DW (x y:iq) (vs vo us uo:Value) (F:Nat→Prop) (w:World) (g1:Rd iC w F vs x.sends) (g2:Rd ii w F vo x.outs) (g3:Rd iC w F us y.sends) (g4:Rd ii w F uo y.outs):
  Calls Tryz.prog 192 #[.agg #[x.ev.time,x.ev.to,x.ev.from_,x.ev.count,x.ev.n,x.ev.kind,x.ev.arg,x.st.x,x.st.y,x.st.c,vs,vo],.agg #[y.ev.time,y.ev.to,y.ev.from_,y.ev.count,y.ev.n,y.ev.kind,y.ev.arg,y.st.x,y.st.y,y.st.c,us,uo]] w fun q w' =>q= .returned (.bool (decide (x=y)))∧Below w.heap.size w w':=by
 obtain⟨A1,c1,rfl,-⟩:=g1.shape;obtain⟨A2,c2,rfl,-⟩:=g2.shape;obtain⟨A3,c3,rfl,-⟩:=g3.shape;obtain⟨A4,c4,rfl,-⟩:=g4.shape;obtain⟨W,hV,G,a,b⟩:=yb w (.cells #[x.ev.time,x.ev.to,x.ev.from_,x.ev.count,x.ev.n,x.ev.kind,x.ev.arg,x.st.x,x.st.y,x.st.c,.slice A1 x.sends.length c1,.slice A2 x.outs.length c2] 141) (.cells #[y.ev.time,y.ev.to,y.ev.from_,y.ev.count,y.ev.n,y.ev.kind,y.ev.arg,y.st.x,y.st.y,y.st.c,.slice A3 y.sends.length c3,.slice A4 y.outs.length c4] 141);go_enter Tryz.func192,Tryz.ntmps192;go_wp2_with fail;rw[hV.out];clear hV;obtain⟨I,A⟩:∃t,decide (x.ev=y.ev)=t:=⟨_,rfl⟩;refine(xc x.ev y.ev _).mono ?_;rintro q w0 ⟨rfl,r⟩;have z:=gQ G r (Below.size G)
 (try rw[A])
 have l:=gP A;have d:=gJ r (gL a) a;have f:=gJ r (gL b) b;clear A a b r;have a:=d;have b:=f;clear d f;obtain⟨an,ao,ap,aq,ar,au,av,aw,ax,ay,O,P⟩:=oV a;obtain⟨a7,a8,a9,a',ba,bb,bc,bd,bf,bg,X,Y⟩:=oV b;apply_assumption;by_cases E:I=true
 case neg=>
  have g0':I=false:=by simpa using E
  have i:=gP (show decide (x=y)=false from iU (fun e=>by have g:=l.out;rw[g0',decide_eq_false_iff_not] at g;exact g (by rw[e])));clear E l;subst g0';go_wp2_with fail;go_ret;exact⟨by rw[i.out];rfl,z⟩
 have E0:=gP (show x.ev=y.ev from of_decide_eq_true (l.out.trans E));clear l;subst E;go_wp2_with fail;obtain⟨J,B⟩:∃t,decide (x.st=y.st)=t:=⟨_,rfl⟩;refine(wV x.st y.st _).mono ?_;rintro q w1 ⟨rfl,s⟩;have j:=gQ z s (Below.size z)
 (try rw[B])
 have m:=gP B;have d:=gJ s (gL a) a;have f:=gJ s (gL b) b;clear B a b s;have a:=d;have b:=f;clear d f;obtain⟨aA,aB,aC,aD,aE,aF,aG,aH,aI,aJ,Q,R⟩:=oV a;obtain⟨bh,bi,bj,bk,bl,bm,bn,bo,bp,bq,Z,aa⟩:=oV b;apply_assumption;by_cases g1:J=true
 case neg=>
  have g1':J=false:=by simpa using g1
  have i:=gP (show decide (x=y)=false from iU (fun e=>by have g:=m.out;rw[g1',decide_eq_false_iff_not] at g;exact g (by rw[e])));clear g1 m;subst g1';go_wp2_with fail;go_ret;exact⟨by rw[i.out];rfl,j⟩
 have E1:=gP (show x.st=y.st from of_decide_eq_true (m.out.trans g1));clear m;subst g1;go_wp2_with fail;obtain⟨L,C⟩:∃t,decide (x.sends=y.sends)=t:=⟨_,rfl⟩;refine(rF _ _ x.sends y.sends F _ (g1.below j) (g3.below j)).mono ?_;rintro q w2 ⟨rfl,u⟩;have k:=gQ j u (Below.size j)
 (try rw[C])
 have o:=gP C;have d:=gJ u (gL a) a;have f:=gJ u (gL b) b;clear C a b u;have a:=d;have b:=f;clear d f;obtain⟨aL,aM,aN,aO,aP,aQ,aR,aS,aT,aU,S,T⟩:=oV a;obtain⟨br,bs,bt,bu,bv,bw,bx,bz,bA,bB,ab,ac⟩:=oV b;apply_assumption;by_cases g2:L=true
 case neg=>
  have g2':L=false:=by simpa using g2
  have i:=gP (show decide (x=y)=false from iU (fun e=>by have g:=o.out;rw[g2',decide_eq_false_iff_not] at g;exact g (by rw[e])));clear g2 o;subst g2';go_wp2_with fail;go_ret;exact⟨by rw[i.out];rfl,k⟩
 have E2:=gP (show x.sends=y.sends from of_decide_eq_true (o.out.trans g2));clear o;subst g2;go_wp2_with fail;obtain⟨M,D⟩:∃t,decide (x.outs=y.outs)=t:=⟨_,rfl⟩;refine(zq _ _ x.outs y.outs F _ (g2.below k) (g4.below k)).mono ?_;rintro q w3 ⟨rfl,v⟩;have H:=gQ k v (Below.size k)
 (try rw[D])
 have p:=gP D;have d:=gJ v (gL a) a;have f:=gJ v (gL b) b;clear D a b v;have a:=d;have b:=f;clear d f;obtain⟨aW,aX,aY,aZ,a0,a1,a2,a3,a4,a5,U,V⟩:=oV a;obtain⟨bC,bD,bE,bF,bG,bH,bI,bJ,bK,bL,ad,ae⟩:=oV b;apply_assumption;by_cases g3:M=true
 case neg=>
  have g3':M=false:=by simpa using g3
  have i:=gP (show decide (x=y)=false from iU (fun e=>by have g:=p.out;rw[g3',decide_eq_false_iff_not] at g;exact g (by rw[e])));clear g3 p;subst g3';go_wp2_with fail;go_ret;exact⟨by rw[i.out];rfl,H⟩
 have E3:=gP (show x.outs=y.outs from of_decide_eq_true (p.out.trans g3));clear p;subst g3;have i:=gP (show decide (x=y)=true from jT (Eh E0.out E1.out E2.out E3.out));go_wp2_with fail;go_ret;exact⟨by rw[i.out];rfl,H⟩
theorem BS (v0 v1:Value) (xs ys:List iq) (F:Nat→Prop) (w:World) (h0:Rd jm w F v0 xs) (h1:Rd jm w F v1 ys):
  Calls Tryz.prog 171 #[v0,v1] w fun q w' =>q= .returned (.bool (decide (xs=ys)))∧Below w.heap.size w w':=by
 obtain⟨X,Z,rfl,-,l0,-⟩:=id h0;obtain⟨Y,c1,rfl,-,l1,-⟩:=id h1;by_cases hl:xs.length=ys.length
 ·have o:(((xs.length:Nat):Int) !=((ys.length:Nat):Int))=false:=by simp[hl]
  have j:=gP hl;clear hl;go_enter Tryz.func171,Tryz.ntmps171;go_wp2_with fail
  go_loopw [5] (fun i wr=>∃k:Nat,i= .int .i64 k∧k≤xs.length∧Hid (xs.take k=ys.take k)∧Below w.heap.size w wr) (fun i _=>xs.length-(intOf i).toNat)
  case atStart=>exact⟨0,rfl,jP _,rfl,gY _ _⟩
  case round=>
   obtain⟨k,rfl,hk,d,c⟩:=hrel;by_cases hlt:k<xs.length
   ·have b:k<ys.length:=by rw[←j.out];exact hlt
    have s:=h0.below c;have u:=h1.below c;obtain⟨p,r,p2,p3,p4,p5,rfl,_,⟨A,B,C,D,E,G,H⟩,⟨I,J,L⟩,pm,pn,v,x⟩:=k9 s k hlt;obtain⟨q0,q1,q2,q3,q4,q5,rfl,_,⟨M,O,P,Q,R,S,T⟩,⟨U,V,W⟩,qm,qn,y,z⟩:=k9 u k b;have p:(k:Int)<(xs.length:Int):=gO;have r:(k:Int)<(ys.length:Int):=gO;obtain⟨t,n⟩:∃t,decide (xs[k]=ys[k])=t:=⟨_,rfl⟩;have g:=gP n;clear n;go_upto_region 6 with fail;refine kg [.rd [0,1,2,3,4,5,6,7]] [8,9] ?_;refine vL ?_;intro N hN;go_wp2_with fail;refine gR (hN _ ?_);clear hN N;refine vF ?_;go_wp2_with fail;have m:=c.drew;refine(DW xs[k] ys[k] _ _ _ _ _ _ (v.below (gY wr.heap.size wr).drew) (x.below (gY wr.heap.size wr).drew) (y.below (gY wr.heap.size wr).drew) (z.below (gY wr.heap.size wr).drew)).mono ?_;rintro q w1 ⟨rfl,l⟩;have f:=gQ m l m.size;rw[g.out];apply_assumption;cases t
    case false=>
     have a:=gP (show decide (xs=ys)=false from iU (fun e=>of_decide_eq_false g.out (by simp[e])));go_wp2_with fail;go_ret;exact⟨by rw[a.out];rfl,f⟩
    case true=>
     have HS:=gP (jZ d.out hlt b (of_decide_eq_true g.out));go_wp2_with fail;go_roundw
     case rel=>exact⟨k+1,by go_num,gO,HS,f⟩
     case measure=>exact ms
   ·have a:=gP (show decide (xs=ys)=true from jT (kw d.out gO j.out))
    go_wp2_with fail;go_ret;exact⟨by rw[a.out];rfl,c⟩
 ·have o:(((xs.length:Nat):Int) !=((ys.length:Nat):Int))=true:=by rw[bne_iff_ne];omega
  have a:=gP (show decide (xs=ys)=false from iU (fun h=>hl (by simp[h])));clear hl;go_enter Tryz.func171,Tryz.ntmps171;go_wp2_with fail;go_ret;exact⟨by rw[a.out];rfl,gY _ _⟩
theorem DI (x y:hZ) (v u:Value) (F:Nat→Prop) (w:World) (g1:Rd jm w F v x.done) (g2:Rd jm w F u y.done):
  Calls Tryz.prog 124 #[.agg #[x.proc,x.base.x,x.base.y,x.base.c,v],.agg #[y.proc,y.base.x,y.base.y,y.base.c,u]] w fun q w' =>q= .returned (.bool (decide (x=y)))∧Below w.heap.size w w':=by
 obtain⟨n,z,rfl,-⟩:=g1.shape;obtain⟨o,A,rfl,-⟩:=g2.shape;have p:Below w.heap.size w ((w.alloc (.cells #[x.proc,x.base.x,x.base.y,x.base.c,.slice n x.done.length z] 65)).alloc (.cells #[y.proc,y.base.x,y.base.y,y.base.c,.slice o y.done.length A] 65)):=gU (gU (gY w.heap.size w) _) _;have a:((w.alloc (.cells #[x.proc,x.base.x,x.base.y,x.base.c,.slice n x.done.length z] 65)).alloc (.cells #[y.proc,y.base.x,y.base.y,y.base.c,.slice o y.done.length A] 65)).heap[w.heap.size]? =some (.cells #[x.proc,x.base.x,x.base.y,x.base.c,.slice n x.done.length z] 65):=(ip sm).trans (gX rfl);have b:((w.alloc (.cells #[x.proc,x.base.x,x.base.y,x.base.c,.slice n x.done.length z] 65)).alloc (.cells #[y.proc,y.base.x,y.base.y,y.base.c,.slice o y.done.length A] 65)).heap[w.heap.size+1]? =some (.cells #[y.proc,y.base.x,y.base.y,y.base.c,.slice o y.done.length A] 65):=gX sm;go_enter Tryz.func124,Tryz.ntmps124;by_cases k0_proc:x.proc=y.proc
 case neg=>
  have i:(x.proc !=y.proc)=true:=by simpa using k0_proc
  have g:=gP (show decide (x=y)=false from iU (fun e=>k0_proc (by rw[e])));clear k0_proc;go_wp2_with fail;go_ret;exact⟨by rw[g.out];rfl,p⟩
 have i:(x.proc !=y.proc)=false:=by simpa using k0_proc
 have f:=gP k0_proc;clear k0_proc;go_wp2_with fail;generalize (w.alloc (.cells #[x.proc,x.base.x,x.base.y,x.base.c,.slice n x.done.length z] 65)).alloc (.cells #[y.proc,y.base.x,y.base.y,y.base.c,.slice o y.done.length A] 65)=W at*;obtain⟨H,C⟩:∃t,decide (x.base=y.base)=t:=⟨_,rfl⟩;refine(wV x.base y.base _).mono ?_;rintro q w0 ⟨rfl,l⟩;have d:=gQ p l (Below.size p)
 (try rw[C])
 have j:=gP C;have r:=gJ l (gL a) a;have s:=gJ l (gL b) b;clear C a b l;have a:=r;have b:=s;clear r s;obtain⟨M,O,P,Q,R⟩:=ra a;obtain⟨Y,Z,aa,ab,ac⟩:=ra b;apply_assumption;by_cases E:H=true
 case neg=>
  have g0':H=false:=by simpa using E
  have g:=gP (show decide (x=y)=false from iU (fun e=>by have B:=j.out;rw[g0',decide_eq_false_iff_not] at B;exact B (by rw[e])));clear E j;subst g0';go_wp2_with fail;go_ret;exact⟨by rw[g.out];rfl,d⟩
 have J:=gP (show x.base=y.base from of_decide_eq_true (j.out.trans E));clear j;subst E;go_wp2_with fail;obtain⟨I,D⟩:∃t,decide (x.done=y.done)=t:=⟨_,rfl⟩;refine(BS _ _ x.done y.done F _ (g1.below d) (g2.below d)).mono ?_;rintro q w1 ⟨rfl,m⟩;have G:=gQ d m (Below.size d)
 (try rw[D])
 have k:=gP D;have r:=gJ m (gL a) a;have s:=gJ m (gL b) b;clear D a b m;have a:=r;have b:=s;clear r s;obtain⟨S,T,U,V,X⟩:=ra a;obtain⟨ad,ae,af,ag,ah⟩:=ra b;apply_assumption;by_cases g1:I=true
 case neg=>
  have g1':I=false:=by simpa using g1
  have g:=gP (show decide (x=y)=false from iU (fun e=>by have B:=k.out;rw[g1',decide_eq_false_iff_not] at B;exact B (by rw[e])));clear g1 k;subst g1';go_wp2_with fail;go_ret;exact⟨by rw[g.out];rfl,G⟩
 have L:=gP (show x.done=y.done from of_decide_eq_true (k.out.trans g1));clear k;subst g1;have g:=gP (show decide (x=y)=true from jT (En f.out J.out L.out));go_wp2_with fail;go_ret;exact⟨by rw[g.out];rfl,G⟩
end Go.Proofs.YtgilllnjhahkfaaGreat
