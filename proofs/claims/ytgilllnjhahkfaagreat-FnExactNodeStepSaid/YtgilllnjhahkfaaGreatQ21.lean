/- Parts of the proof: Sub, Imp7, Imp8, Imp9, Spc7, Imp13, Imp14, Ey5. -/
import Derived.Test.YtgilllnjhahkfaaGreatQ14
import Derived.Test.YtgilllnjhahkfaaGreatQ16
import Derived.Test.YtgilllnjhahkfaaGreatQ18
import Derived.Test.YtgilllnjhahkfaaGreatQ20
set_option linter.unusedVariables false
set_option linter.unusedSimpArgs false
set_option linter.unusedSectionVars false
set_option maxHeartbeats 4000000
namespace Go.Proofs.YtgilllnjhahkfaaGreat
open Go.RowKit
section
section
variable {α:Type} {d:Ty α} {w:World} {F:Nat→Prop} {xs:List α} {A:Option Addr} {n c:Nat}
theorem Rd.takeP (h:Rd d w F (.slice A n c) xs) (k:Nat) (hk:k≤xs.length):Rd d w F (.slice A k c) (xs.take k):=by
 obtain⟨p,q,l,r,s,f⟩:=h;injection l with e1 e2 e3;subst e1 e2 e3;have m:(xs.take k).length=k:=by simp;omega
 refine⟨A,c,by rw[m],gO,gO,fun t=>?_⟩;obtain⟨b,o,rfl,g,e,i⟩:=f gO;refine⟨b,o,rfl,g,e,fun j x a=>?_⟩;rw[List.getElem?_take] at a;split at a
 ·exact i j x a
 ·cases a
end
end
set_option maxRecDepth 100000
theorem Eu (g:Nat) (F:Nat→Prop) (v:Value) (l:List im) (w:World) (h:ky iC 217 214 161 w g F v l) (h0:0<l.length) (hl:l.length≤1000):
  Calls Tryz.prog 189 #[.pointer (some ⟨g,0,none⟩)] w fun q w' =>q= .returned (iZ (kK l 0))∧∃v',ky iC 217 214 161 w' g F v' (kB hY l)∧Ch (fun k=>k=g∨F k) w w':=by
 obtain⟨n,hn⟩:∃n,l.length=n+1:=⟨l.length-1,gO⟩;obtain⟨s,A,b9,rfl,aH,bN,-⟩:=h.row.head h0;rw[hn] at h;have cd:n+1≤1000:=gO;have HN:=gP hn;have ah:=h.row;have aw:=h.apart;have bp:=gL h.blk;have B0:=h.blk;have ag:=h.lt;have aZ:g≠s:=fun i=>aw (i▸aH);obtain⟨x,hx⟩:∃x,kK l 0=x:=⟨_,rfl⟩;obtain⟨z,hz⟩:∃z,kK l n=z:=⟨_,rfl⟩;have a2:n<l.length:=gO;have bM:n+1≤A:=by have:=ah.rd.capLe;omega
 obtain⟨bb,oo,a,-,R,T,U,X,Y,Z,z6⟩:=jD (j:=0) ah.rd h0;injection a with a;injection a with i u _;subst i u;simp only[Nat.zero_mul,Nat.zero_add] at R T U X Y Z z6;rw[←iP h0,hx] at R T U X Y Z z6;have HX:=gP hx;have HZ:=gP hz;clear hx hn h hl hz;have a0:=nD B0;have q1:¬g=w.heap.size:=gO;have q2:¬s=w.heap.size:=gO;have q3:((n+1:Nat):Int)-1=(n:Int):=gO;go_enter Tryz.func189,Tryz.ntmps189;go_upto_region 3 with fail;have B:=(ah.alloc (.cells #[.int .i64 0,.int .i64 0,.int .i64 0,.int .i64 0,.int .i64 0,.int .i64 0,.int .i64 0] 217)).alloc (.cells #[x.time,x.to,x.from_,x.count,x.n,x.kind,x.arg] 217);have C:=(ip (o:= .cells #[x.time,x.to,x.from_,x.count,x.n,x.kind,x.arg] 217) (by simp;omega)).trans ((ip (o:= .cells #[.int .i64 0,.int .i64 0,.int .i64 0,.int .i64 0,.int .i64 0,.int .i64 0,.int .i64 0] 217) bp).trans B0);have f:((w.alloc (.cells #[.int .i64 0,.int .i64 0,.int .i64 0,.int .i64 0,.int .i64 0,.int .i64 0,.int .i64 0] 217)).alloc (.cells #[x.time,x.to,x.from_,x.count,x.n,x.kind,x.arg] 217)).heap[w.heap.size]? =some (.cells #[.int .i64 0,.int .i64 0,.int .i64 0,.int .i64 0,.int .i64 0,.int .i64 0,.int .i64 0] 217):=(ip sm).trans (gX rfl);have r:((w.alloc (.cells #[.int .i64 0,.int .i64 0,.int .i64 0,.int .i64 0,.int .i64 0,.int .i64 0,.int .i64 0] 217)).alloc (.cells #[x.time,x.to,x.from_,x.count,x.n,x.kind,x.arg] 217)).heap[w.heap.size+1]? =some (.cells #[x.time,x.to,x.from_,x.count,x.n,x.kind,x.arg] 217):=gX sm;have hC:=((Ch.refl (fun k=>k=g∨F k) w).alloc (.cells #[.int .i64 0,.int .i64 0,.int .i64 0,.int .i64 0,.int .i64 0,.int .i64 0,.int .i64 0] 217)).alloc (.cells #[x.time,x.to,x.from_,x.count,x.n,x.kind,x.arg] 217);generalize (w.alloc (.cells #[.int .i64 0,.int .i64 0,.int .i64 0,.int .i64 0,.int .i64 0,.int .i64 0,.int .i64 0] 217)).alloc (.cells #[x.time,x.to,x.from_,x.count,x.n,x.kind,x.arg] 217)=W at*;clear a0 q1 q2 q3 R T U X Y Z z6 ah B0;have a0:=nD C;obtain⟨bb,oo,a,-,I,J,L,M,O,P,Q⟩:=jD (j:=n) B.rd a2;injection a with a;injection a with i u _;subst i u;simp only[Nat.zero_mul,Nat.zero_add] at I J L M O P Q;rw[←iP a2,HZ.out] at I J L M O P Q;refine kg [.rd [0,1,2,3,4,5,6,7,8,9,10,11]] [12] ?_;refine vL ?_;intro N hN;go_wp2_with fail;refine gR (hN _ ?_);clear hN N;refine vF ?_;have al:Ow iC 217 W.drew F (.slice (some ⟨s,0,none⟩) (n+1) A) l:=B.move (fun _ _=>rfl);refine ne (cells:=im.cells) (sz:=7) rfl _ _ _ rfl al (g:=s) rfl 0 h0 z (by first|rfl|simp) (by first|rfl|simp[im.cells]) ie ?_;intro w1 aS y;have B1:=y.heap (show W.drew.heap[g]? =_ from C) aZ;have b0:=nD B1;have b1:=ft B1 0;have p1:(n:Int)≤(A:Int):=gO;have p2:n≤A:=gO;clear a0 I J L M O P Q;go_wp2_with fail;have ay:=(aS.takeP n (by rw[List.length_set];omega)).ch (S:=fun k=>k=g) ((Ch.refl (fun k=>k=g) w1).setCell (p:=⟨g,0,none⟩) (.inl rfl) (.slice (some ⟨s,0,none⟩) n A)) (fun k hk i=>aw (i▸hk));have BV:=gN B1 0 (.slice (some ⟨s,0,none⟩) n A);simp only[List.setIfInBounds_toArray,List.set_cons_zero] at BV;have aF:Ch (fun k=>k=g∨F k) w (w1.setCell ⟨g,0,none⟩ (.slice (some ⟨s,0,none⟩) n A)):=(hC.drew.then y (fun q hq=> .inl (.inr (by have hq':q=s:=hq;rw[hq'];exact aH)))).setCell (p:=⟨g,0,none⟩) (.inl (.inl rfl)) _;have aM:=(Below.heap_setCell w1 (⟨g,0,none⟩:Addr) (.slice (some ⟨s,0,none⟩) n A) w.heap.size (by simp;omega)).trans (y.heap (show W.drew.heap[w.heap.size]? =_ from f) gO);have aN:=(Below.heap_setCell w1 (⟨g,0,none⟩:Addr) (.slice (some ⟨s,0,none⟩) n A) (w.heap.size+1) (by simp;omega)).trans (y.heap (show W.drew.heap[w.heap.size+1]? =_ from r) gO);have HP:=gP (show kB hY l=lI hY (((l.set 0 z).take n).length+1) ((l.set 0 z).take n) 0 by
  have hn:=HN.out;unfold kB;rw[hn,show n+1-1=n by omega,HZ.out]
  congr 1
  simp;omega)
 have aL:=gP (show((l.set 0 z).take n).length=n by simp;omega);have G:w.heap.size≤(w1.setCell ⟨g,0,none⟩ (.slice (some ⟨s,0,none⟩) n A)).heap.size:=aF.size;clear aS y B1 b0 b1 p1 p2 hC f r C B al;generalize w1.setCell ⟨g,0,none⟩ (.slice (some ⟨s,0,none⟩) n A)=V at*;generalize (l.set 0 z).take n=m0 at*
 go_loopw [5] (fun t wr=>∃(k:Nat) (m:List im),t= .int .i64 k∧k≤1000∧Hid (m.length=n)∧wr.heap[g]? =some (.cells #[.slice (some ⟨s,0,none⟩) n A,.func (.func 161) #[] #[]] 214)∧wr.heap[w.heap.size]? =some (.cells #[.int .i64 0,.int .i64 0,.int .i64 0,.int .i64 0,.int .i64 0,.int .i64 0,.int .i64 0] 217)∧wr.heap[w.heap.size+1]? =some (.cells #[x.time,x.to,x.from_,x.count,x.n,x.kind,x.arg] 217)∧Ow iC 217 wr F (.slice (some ⟨s,0,none⟩) n A) m∧Ch (fun q=>q=g∨F q) w wr∧w.heap.size≤wr.heap.size∧Hid (kB hY l=lI hY (m.length+1) m k)) (fun t _=>n-(intOf t).toNat)
 case atStart=>exact⟨0,m0,rfl,gO,aL,BV,aM,aN,ay,aF,G,HP⟩
 case round=>
  clear BV aM aN ay aF G HP aL;obtain⟨k,m,rfl,hk,HM,C,f,r,B,hC,G,HP⟩:=hrel;go_upto_region 7 with fail;obtain⟨d,hd⟩:∃d,d=2*k+1:=⟨_,rfl⟩;have aX:2*(k:Int)+1=(d:Int):=gO;have ak:=gP hd;simp only[aX];clear aX hd;by_cases hdn:n≤d
  ·have HE:=gP (show kB hY l=m by
    rw[HP.out,lI,if_pos (by rw[HM.out,←ak.out];exact hdn)])
   have kd:decide ((d:Int)≥(n:Int))=true:=jT gO;have kd':decide (n≤d)=true:=jT gO;clear hdn;have r0:=nD r;have c0:=nD f;have f0:=ft f 0;have r1:=tY r;have A:=tY f;have f1:=ft f 1;have r2:=ut r;have c2:=ut f;have f2:=ft f 2;have r3:=ui r;have c3:=ui f;have f3:=ft f 3;have r4:=sO r;have c4:=sO f;have f4:=ft f 4;have r5:=xJ r;have c5:=xJ f;have f5:=ft f 5;have r6:=xD r;have c6:=xD f;have f6:=ft f 6;go_wp2_with fail;have D:Ch (fun q=>q=w.heap.size) wr (((((((wr.setCell ⟨w.heap.size,0,none⟩ (.int .i64 x.time)).setCell ⟨w.heap.size,1,none⟩ (.int .i64 x.to)).setCell ⟨w.heap.size,2,none⟩ (.int .i64 x.from_)).setCell ⟨w.heap.size,3,none⟩ (.int .i64 x.count)).setCell ⟨w.heap.size,4,none⟩ (.int .i64 x.n)).setCell ⟨w.heap.size,5,none⟩ (.int .i64 x.kind)).setCell ⟨w.heap.size,6,none⟩ (.int .i64 x.arg)):=(((((((Ch.refl (fun q=>q=w.heap.size) wr).setCell (p:=⟨w.heap.size,0,none⟩) (.inl rfl) (.int .i64 x.time)).setCell (p:=⟨w.heap.size,1,none⟩) (.inl rfl) (.int .i64 x.to)).setCell (p:=⟨w.heap.size,2,none⟩) (.inl rfl) (.int .i64 x.from_)).setCell (p:=⟨w.heap.size,3,none⟩) (.inl rfl) (.int .i64 x.count)).setCell (p:=⟨w.heap.size,4,none⟩) (.inl rfl) (.int .i64 x.n)).setCell (p:=⟨w.heap.size,5,none⟩) (.inl rfl) (.int .i64 x.kind)).setCell (p:=⟨w.heap.size,6,none⟩) (.inl rfl) (.int .i64 x.arg);have RZ:(((((((wr.setCell ⟨w.heap.size,0,none⟩ (.int .i64 x.time)).setCell ⟨w.heap.size,1,none⟩ (.int .i64 x.to)).setCell ⟨w.heap.size,2,none⟩ (.int .i64 x.from_)).setCell ⟨w.heap.size,3,none⟩ (.int .i64 x.count)).setCell ⟨w.heap.size,4,none⟩ (.int .i64 x.n)).setCell ⟨w.heap.size,5,none⟩ (.int .i64 x.kind)).setCell ⟨w.heap.size,6,none⟩ (.int .i64 x.arg)).heap[w.heap.size]? =some (.cells #[x.time,x.to,x.from_,x.count,x.n,x.kind,x.arg] 217):=by have:=(gN (gN (gN (gN (gN (gN (gN f 0 (.int .i64 x.time)) 1 (.int .i64 x.to)) 2 (.int .i64 x.from_)) 3 (.int .i64 x.count)) 4 (.int .i64 x.n)) 5 (.int .i64 x.kind)) 6 (.int .i64 x.arg));simpa using this
   generalize (((((((wr.setCell ⟨w.heap.size,0,none⟩ (.int .i64 x.time)).setCell ⟨w.heap.size,1,none⟩ (.int .i64 x.to)).setCell ⟨w.heap.size,2,none⟩ (.int .i64 x.from_)).setCell ⟨w.heap.size,3,none⟩ (.int .i64 x.count)).setCell ⟨w.heap.size,4,none⟩ (.int .i64 x.n)).setCell ⟨w.heap.size,5,none⟩ (.int .i64 x.kind)).setCell ⟨w.heap.size,6,none⟩ (.int .i64 x.arg))=WZ at*;obtain⟨s0,s1,s2,s3,s4,s5,s6⟩:=yc RZ;refine bodyPost_ret (v:=iZ x) (by simp only[results,Tryz.results189,iZ];go_simp) rfl ⟨by rw[HX.out],_,⟨D.heap C (fun i=>gO),?_,aw,fun q hq=>nk (ag q hq) (jb G D.size)⟩,hC.then D (fun q hq=> .inr (Nat.le_of_eq hq.symm))⟩;rw[HE.out];exact B.ch D (fun q hq i=>by have:=ag q hq;have u:q=w.heap.size:=i;omega)
  ·have kd:decide ((d:Int)≥(n:Int))=false:=iU gO
   have kd':decide (n≤d)=false:=iU gO;have cc:d<n:=gO;have aI:=gL C;obtain⟨a0,a1⟩:=DA C;clear hdn;go_upto_region 9 with fail
   go_cut [72] (fun t wc=>∃bt,t= .bool bt∧Hid (decide (d+1<n∧hY (kK m (d+1)) (kK m d)=true)=bt)∧Below wr.heap.size wr wc)
   case first=>
    by_cases q3:d+1<n
    ·have kt:decide ((d:Int)+1<(n:Int))=true:=jT gO
     have kt':decide (d+1<n)=true:=jT gO;obtain⟨bt,E⟩:∃bt,hY (kK m (d+1)) (kK m d)=bt:=⟨_,rfl⟩;have HD:=gP (show decide (d+1<n∧hY (kK m (d+1)) (kK m d)=true)=bt by rw[E];cases bt<;>simp[q3]);have j1:d+1<m.length:=by have:=HM.out;omega
     have j2:d<m.length:=gO;have p1:(d:Int)+1<(n:Int):=gO;have p2:(d:Int)<(n:Int):=gO;obtain⟨bb,oo,a,-,I,J,L,M,O,P,Q⟩:=jD (j:=d+1) B.rd j1;injection a with a;injection a with i u _;subst i u;simp only[Nat.zero_mul,Nat.zero_add] at I J L M O P Q;obtain⟨bb,oo,a,-,R,T,U,X,Y,Z,z6⟩:=jD (j:=d) B.rd j2;injection a with a;injection a with i u _;subst i u;simp only[Nat.zero_mul,Nat.zero_add] at R T U X Y Z z6;rw[iP j1,iP j2] at E;clear q3;refine kg [.rd [0,1,2,3,4,5,6,7,8,9,10,11,12,13,14,15,16,17,18,19,20,21,22,23]] [24,25] ?_;refine vL ?_;intro N hN;go_wp2_with fail;refine gR (hN _ ?_);clear hN N;refine vF ?_;go_wp2_with fail;refine(qC m[d+1] m[d] _).mono ?_;rintro e w5 ⟨he,ax⟩;rw[E] at he;subst he;apply_assumption;go_wp2_with fail;go_meet;exact⟨_,rfl,HD,gV (gY wr.heap.size wr).drew ax⟩
    ·have kt:decide ((d:Int)+1<(n:Int))=false:=iU gO
     have kt':decide (d+1<n)=false:=iU gO;have HD:=gP (show decide (d+1<n∧hY (kK m (d+1)) (kK m d)=true)=false by simp[q3]);clear q3;refine kg [.rd [0,1,2,3,4,5,6,7,8,9,10,11,12,13,14,15,16,17,18,19,20,21,22,23]] [24,25] ?_;refine vL ?_;intro N hN;go_wp2_with fail;refine gR (hN _ ?_);clear hN N;refine vF ?_;go_wp2_with fail;go_meet;exact⟨_,rfl,HD,(gY wr.heap.size wr).drew⟩
   case rest=>
    obtain⟨bt,rfl,HB,hc⟩:=hcut;have au:=gJ hc aI C;have aC:=gJ hc (gL f) f;have aD:=gJ hc (gL r) r;have av:=B.below hc;have aR:=hC.trans (Ch.of_below hc);have aV:=jb G hc.size;have aY:=gL au;clear C f r B hC G aI a0 a1 hc;obtain⟨c,am⟩:∃c,c=na hY m k:=⟨_,rfl⟩;have aW:c=if bt=true then d+1 else d:=by
     rw[am];unfold na;rw[←ak.out,HM.out,←HB.out];simp
    have cb:c<n:=by
     have:=qj (lt:=hY) (l:=m) (k:=k) (by rw[HM.out,←ak.out];omega);rw[am,←HM.out];exact this
    have ca:k<c:=by rw[am];exact(qD (lt:=hY) m k).2.2
    have HC:=gP am;clear am HB;obtain⟨a0,a1⟩:=DA au;have aB:=gP aW;clear aW;cases bt
    all_goals go_upto_region 11 with fail
    all_goals first|(have e0:c=d:=aB.out;have i:(d:Int)=(c:Int):=(congrArg Int.ofNat e0).symm;simp only[i];clear e0 i)|(have e0:c=d+1:=aB.out;have i:(d:Int)+1=(c:Int):=(congrArg Int.ofNat e0).symm;simp only[i];clear e0 i)
    all_goals
     clear aB;have j1:c<m.length:=by have:=HM.out;omega
     have j2:k<m.length:=gO;have p1:(c:Int)<(n:Int):=gO;have p2:(k:Int)<(n:Int):=gO;obtain⟨bb,oo,a,-,I,J,L,M,O,P,Q⟩:=jD (j:=c) av.rd j1;injection a with a;injection a with i u _;subst i u;simp only[Nat.zero_mul,Nat.zero_add] at I J L M O P Q;obtain⟨bb,oo,a,-,R,T,U,X,Y,Z,z6⟩:=jD (j:=k) av.rd j2;injection a with a;injection a with i u _;subst i u;simp only[Nat.zero_mul,Nat.zero_add] at R T U X Y Z z6;obtain⟨bn,E⟩:∃b,hY m[c] m[k]=b:=⟨_,rfl⟩;refine kg [.rd [0,1,2,3,4,5,6,7,8,9,10,11,12,13,14,15,16,17]] [18,19] ?_;refine vL ?_;intro N hN;go_wp2_with fail;refine gR (hN _ ?_);clear hN N;refine vF ?_;go_wp2_with fail;refine(qC m[c] m[k] _).mono ?_;rintro e w5 ⟨he,ax⟩;rw[E] at he;subst he;have H:=gV (gY wc.heap.size wc).drew ax;have C:=gJ H aY au;have f:=gJ H (gL aC) aC;have r:=gJ H (gL aD) aD;have B:=av.below H;have hC:=aR.trans (Ch.of_below H);have G:=jb aV H.size;clear au aC aD av aR aV aY a0 a1 I J L M O P Q R T U X Y Z z6 ax H;apply_assumption;cases bn
     case false=>
      have HE:=gP (show kB hY l=m by
       rw[HP.out,lI,if_neg (by rw[HM.out,←ak.out];omega),if_neg (by rw[←HC.out,iP j1,iP j2,E];simp)])
      clear E;have r0:=nD r;have c0:=nD f;have f0:=ft f 0;have r1:=tY r;have A:=tY f;have f1:=ft f 1;have r2:=ut r;have c2:=ut f;have f2:=ft f 2;have r3:=ui r;have c3:=ui f;have f3:=ft f 3;have r4:=sO r;have c4:=sO f;have f4:=ft f 4;have r5:=xJ r;have c5:=xJ f;have f5:=ft f 5;have r6:=xD r;have c6:=xD f;have f6:=ft f 6;go_wp2_with fail;have D:Ch (fun q=>q=w.heap.size) w5 (((((((w5.setCell ⟨w.heap.size,0,none⟩ (.int .i64 x.time)).setCell ⟨w.heap.size,1,none⟩ (.int .i64 x.to)).setCell ⟨w.heap.size,2,none⟩ (.int .i64 x.from_)).setCell ⟨w.heap.size,3,none⟩ (.int .i64 x.count)).setCell ⟨w.heap.size,4,none⟩ (.int .i64 x.n)).setCell ⟨w.heap.size,5,none⟩ (.int .i64 x.kind)).setCell ⟨w.heap.size,6,none⟩ (.int .i64 x.arg)):=(((((((Ch.refl (fun q=>q=w.heap.size) w5).setCell (p:=⟨w.heap.size,0,none⟩) (.inl rfl) (.int .i64 x.time)).setCell (p:=⟨w.heap.size,1,none⟩) (.inl rfl) (.int .i64 x.to)).setCell (p:=⟨w.heap.size,2,none⟩) (.inl rfl) (.int .i64 x.from_)).setCell (p:=⟨w.heap.size,3,none⟩) (.inl rfl) (.int .i64 x.count)).setCell (p:=⟨w.heap.size,4,none⟩) (.inl rfl) (.int .i64 x.n)).setCell (p:=⟨w.heap.size,5,none⟩) (.inl rfl) (.int .i64 x.kind)).setCell (p:=⟨w.heap.size,6,none⟩) (.inl rfl) (.int .i64 x.arg);have RZ:(((((((w5.setCell ⟨w.heap.size,0,none⟩ (.int .i64 x.time)).setCell ⟨w.heap.size,1,none⟩ (.int .i64 x.to)).setCell ⟨w.heap.size,2,none⟩ (.int .i64 x.from_)).setCell ⟨w.heap.size,3,none⟩ (.int .i64 x.count)).setCell ⟨w.heap.size,4,none⟩ (.int .i64 x.n)).setCell ⟨w.heap.size,5,none⟩ (.int .i64 x.kind)).setCell ⟨w.heap.size,6,none⟩ (.int .i64 x.arg)).heap[w.heap.size]? =some (.cells #[x.time,x.to,x.from_,x.count,x.n,x.kind,x.arg] 217):=by have:=(gN (gN (gN (gN (gN (gN (gN f 0 (.int .i64 x.time)) 1 (.int .i64 x.to)) 2 (.int .i64 x.from_)) 3 (.int .i64 x.count)) 4 (.int .i64 x.n)) 5 (.int .i64 x.kind)) 6 (.int .i64 x.arg));simpa using this
      generalize (((((((w5.setCell ⟨w.heap.size,0,none⟩ (.int .i64 x.time)).setCell ⟨w.heap.size,1,none⟩ (.int .i64 x.to)).setCell ⟨w.heap.size,2,none⟩ (.int .i64 x.from_)).setCell ⟨w.heap.size,3,none⟩ (.int .i64 x.count)).setCell ⟨w.heap.size,4,none⟩ (.int .i64 x.n)).setCell ⟨w.heap.size,5,none⟩ (.int .i64 x.kind)).setCell ⟨w.heap.size,6,none⟩ (.int .i64 x.arg))=WZ at*;obtain⟨s0,s1,s2,s3,s4,s5,s6⟩:=yc RZ;refine bodyPost_ret (v:=iZ x) (by simp only[results,Tryz.results189,iZ];go_simp) rfl ⟨by rw[HX.out],_,⟨D.heap C (fun i=>gO),?_,aw,fun q hq=>nk (ag q hq) (jb G D.size)⟩,hC.then D (fun q hq=> .inr (Nat.le_of_eq hq.symm))⟩;rw[HE.out];exact B.ch D (fun q hq i=>by have:=ag q hq;have u:q=w.heap.size:=i;omega)
     case true=>
      have a3:(m.set k m[c]).set c m[k]=pa m k c:=by rw[pa,iP j2,iP j1]
      have bi:=gP a3;have an:(pa m k c).length=m.length:=le m k c;have bg:=gP (show(pa m k c).length=n by rw[an];exact HM.out);have bh:=gP (show kB hY l=lI hY ((pa m k c).length+1) (pa m k c) c by
       rw[HP.out,lI,if_neg (by rw[HM.out,←ak.out];omega),if_pos (by rw[←HC.out,iP j1,iP j2,E]),←HC.out,an];exact rB _ _ _ _ (by rw[an];omega) (by rw[an];omega))
      clear E a3 an HP;have a0:=nD C;go_upto_region 13 with fail;obtain⟨bb,oo,a,-,I,J,L,M,O,P,Q⟩:=jD (j:=c) B.rd j1;injection a with a;injection a with i u _;subst i u;simp only[Nat.zero_mul,Nat.zero_add] at I J L M O P Q;obtain⟨bb,oo,a,-,R,T,U,X,Y,Z,z6⟩:=jD (j:=k) B.rd j2;injection a with a;injection a with i u _;subst i u;simp only[Nat.zero_mul,Nat.zero_add] at R T U X Y Z z6;refine kg [.rd [0,1,2,3,4,5,6,7,8,9,10,11,12,13,14,15,16,17,18,19,20,21,22,23]] [24,25,26,27] ?_;refine vL ?_;intro N hN;go_wp2_with fail;refine gR (hN _ ?_);clear hN N;refine vF ?_;have al:Ow iC 217 w5.drew F (.slice (some ⟨s,0,none⟩) n A) m:=B.move (fun _ _=>rfl);clear a0 I J L M O P Q R T U X Y Z z6;go_wp2_with (first|(refine ne (cells:=im.cells) (sz:=7) rfl _ _ _ rfl aT (g:=s) rfl c (by simpa using j1) m[k] (by first|rfl|simp) (by first|rfl|simp[im.cells]) ie ?_;intro wb aU aQ)|(refine ne (cells:=im.cells) (sz:=7) rfl _ _ _ rfl al (g:=s) rfl k j2 m[c] (by first|rfl|simp) (by first|rfl|simp[im.cells]) ie ?_;intro wa aT aP));have y:=aP.trans aQ;have b':=y.size;rw[bi.out] at aU;have BX:=y.heap (show w5.drew.heap[g]? =_ from C) aZ;have bl:=y.heap (show w5.drew.heap[w.heap.size]? =_ from f) gO;have bm:=y.heap (show w5.drew.heap[w.heap.size+1]? =_ from r) gO;have aO:=hC.drew.then y (fun q hq=> .inl (.inr (by have hq':q=s:=hq;rw[hq'];exact aH)));clear C f r B hC al aT aP aQ;go_roundw
      case rel=>exact⟨c,pa m k c,rfl,gO,bg,BX,bl,bm,aU,aO,aO.size,bh⟩
      case measure=>exact ms
theorem xH {α:Type} {d:Ty α} {e:TypeId} {P:Program} {ops:Array Oper} {rest:List Oper} {o:Oper} {a:Act} {w:World} {Q:Exit→Act→World→Prop} (hg:o.guard=none) (l c:Operand) (t:TypeId) (hop:o.op=Op.makeSlice t l c) (ht:P.underlying t=some (.slice e)) (z:Value) (bytes:Nat)
  (hinfo:(P.info? e).map (fun i=>(i.zero,i.size,i.bytes))=some (some z,d.sz,bytes)) (kl kc:IntKind) (n:Nat) (hl:a.eval l= .int kl 0) (hc:a.eval c= .int kc (n:Int)) (hb:bytes*n≤281474976710656) (hn:n≤9223372036854775807)
  (h:∀w1,Ow d e w1 (fun k=>w.heap.size≤k) (.slice (some ⟨w.heap.size,0,none⟩) 0 n) []→Below w.heap.size w w1→wpList P ops Q rest (a.put o.dst (.slice (some ⟨w.heap.size,0,none⟩) 0 n)) w1):wpList P ops Q (o::rest) a w:=by
 obtain⟨i,b,f,m,p⟩:=info_parts hinfo;refine wpList_make_own w hg l c t hop 0 e i z d.sz ht b f m kl kc (n:Int) n hl hc rfl (by rw[p];exact hb) (by unfold maxLen;omega) (jP _) fun w1 s u=>?_;refine h w1 ⟨[],fun _ _=>False,s,fun g hg=>by simp[Value.ownBlock] at hg;subst hg;exact j9 _,fun _ _ h=>h.elim,fun _ _ _ _ h=>h.elim,fun j x q=>by simp at q⟩ ?_;exact Ch.below0 ((Ch.refl _ w).grown u (fun k r=>by cases r))
theorem ky.ch {α:Type} {d:Ty α} {e t:TypeId} {less:FuncId} {w w':World} {g:Nat} {F S:Nat→Prop} {v:Value} {xs:List α} (h:ky d e t less w g F v xs) (hc:Ch S w w') (hg:¬S g) (hF:∀k,F k→¬S k):ky d e t less w' g F v xs:=
 ⟨hc.heap h.blk hg,h.row.ch hc hF,h.apart,fun k hk=>nk (h.lt k hk) hc.size⟩
theorem ky.below {α:Type} {d:Ty α} {e t:TypeId} {less:FuncId} {w w':World} {g:Nat} {F:Nat→Prop} {v:Value} {xs:List α} (h:ky d e t less w g F v xs) (hb:Below w.heap.size w w'):ky d e t less w' g F v xs:=
 ⟨gJ hb (gL h.blk) h.blk,h.row.below hb,h.apart,fun k hk=>nk (h.lt k hk) hb.size⟩
theorem tv {α:Type} [Inhabited α] {lt:α→α→Bool} {l:List α} (h:0<l.length):kA lt l.length l=kK l 0::kA lt (kB lt l).length (kB lt l):=by
 rw[mM l h];obtain⟨n,a⟩:∃n,l.length=n+1:=⟨l.length-1,gO⟩;rw[a,kA,if_neg gO,show n+1-1=n by omega]
theorem AN (g:Nat) (F:Nat→Prop) (v:Value) (l:List iQ) (w:World) (h:ky ii 120 223 166 w g F v l) (hl:l.length≤1000):
  Calls Tryz.prog 168 #[.pointer (some ⟨g,0,none⟩)] w fun q w' =>∃u,q= .returned u∧Ow ii 120 w' (fun k=>w.heap.size≤k) u (kA hM l.length l)∧Ch (fun k=>k=g∨F k) w w':=by
 obtain⟨I,M,rfl,m1⟩:=h.row.shape;have ab:=gL h.blk;have i:=h.lt;have D:w.cell? ⟨g,0,none⟩=some (.slice I l.length M):=gM h.blk 0;go_enter Tryz.func168,Tryz.ntmps168;go_wp2_with (refine xH (d:=ii) (e:=120) rfl _ _ _ rfl Tryz.underlying34 _ 40 lH _ _ l.length rfl rfl gO gO ?_;intro s c j);have t:Ch (fun k=>k=g∨F k) w s:=Ch.of_below j;have J:ky ii 120 223 166 s g F (.slice I l.length M) l:=h.below j;clear h D j
 go_loopg [3] l.length (fun n u wr=>∃(m a:List iQ) (v:Value),ky ii 120 223 166 wr g F v m∧Ow ii 120 wr (fun k=>w.heap.size≤k) u a∧Ch (fun k=>k=g∨F k) w wr∧a.length+m.length≤1000∧Hid (m.length=n)∧Hid (a++kA hM m.length m=kA hM l.length l))
 case atStart=>exact⟨l,[],_,J,c,t,by simpa using hl,rfl,rfl⟩
 case round=>
  clear J c t;obtain⟨m,a,v,H,p,E,ac,L,B⟩:=hrel;obtain⟨T,W,rfl,m2⟩:=H.row.shape;obtain⟨A3,c3,rfl,m3⟩:=p.shape;have D:wr.cell? ⟨g,0,none⟩=some (.slice T m.length W):=gM H.blk 0;have G:=gL H.blk;by_cases h0:m.length=0
  ·have Y:decide ((m.length:Int)>0)=false:=iU gO
   have Z:decide (0<m.length)=false:=iU gO;have C:=gP (show kA hM l.length l=a by rw[←B.out,h0,kA];simp);clear h0;go_wp2_with fail;go_ret;exact⟨_,rfl,by rw[C.out];exact p,E⟩
  ·have r:0<m.length:=gO
   have Y:decide ((m.length:Int)>0)=true:=jT gO;have Z:decide (0<m.length)=true:=jT r;have C:=gP (show(a++[kK m 0])++kA hM (kB hM m).length (kB hM m)=kA hM l.length l by rw[←B.out,tv r];simp);have R:(kB hM m).length+1=m.length:=by rw[mM m r];omega
   have Q:(kB hM m).length<gk:=by have:=L.out;omega
   have V:=gP R;have ad:a.length<1000:=gO;clear h0 R B L;go_wp2_with fail;refine(Di g F _ m _ H r gO).mono ?_;rintro e S ⟨rfl,v5,U,f⟩;generalize kK m 0=x at*;have A:=p.ch f (fun k b=>by
    have hk':w.heap.size≤k:=b;rintro(O|O)
    ·omega
    ·have:=i k O;omega)
   have y:=E.trans f;clear H p E f D G;unfold mB;apply_assumption;go_wp2_with (at_builtin;refine jj (d:=ii) rfl 34 rfl Tryz.underlying34 _ 40 lH rfl dc dc rfl (A.alloc _) x _ rfl (gX rfl) (fun _=>False) rfl (fun _ o=>o.elim) (fun _ o=>o.elim) gO (fun k=>w.heap.size≤k) (fun _ b=>b) (fun _ o=>o.elim) (fun k b=>by have:=y.size;simp at b;omega) ?_;intro v1 s c P X);have z:Ch (fun k=>w.heap.size≤k) S s:=((Ch.refl (fun k=>w.heap.size≤k) S).alloc _).grown P (fun k b=> .inl (A.inF b))
   go_roundg (kB hM m).length
   case measure=>exact Q
   case rel=>exact⟨kB hM m,a++[x],v5,U.ch z gO (fun k b=>by have:=i k b;omega),c,y.then z (fun k b=> .inr b),by simp;have:=V.out;omega,rfl,C⟩
theorem CD (g:Nat) (F:Nat→Prop) (v:Value) (l:List im) (w:World) (h:ky iC 217 214 161 w g F v l) (hl:l.length≤1000):
  Calls Tryz.prog 164 #[.pointer (some ⟨g,0,none⟩)] w fun q w' =>∃u,q= .returned u∧Ow iC 217 w' (fun k=>w.heap.size≤k) u (kA hY l.length l)∧Ch (fun k=>k=g∨F k) w w':=by
 obtain⟨I,M,rfl,m1⟩:=h.row.shape;have ab:=gL h.blk;have i:=h.lt;have D:w.cell? ⟨g,0,none⟩=some (.slice I l.length M):=gM h.blk 0;go_enter Tryz.func164,Tryz.ntmps164;go_wp2_with (refine xH (d:=iC) (e:=217) rfl _ _ _ rfl Tryz.underlying212 _ 56 vV _ _ l.length rfl rfl gO gO ?_;intro s c j);have t:Ch (fun k=>k=g∨F k) w s:=Ch.of_below j;have J:ky iC 217 214 161 s g F (.slice I l.length M) l:=h.below j;clear h D j
 go_loopg [3] l.length (fun n u wr=>∃(m a:List im) (v:Value),ky iC 217 214 161 wr g F v m∧Ow iC 217 wr (fun k=>w.heap.size≤k) u a∧Ch (fun k=>k=g∨F k) w wr∧a.length+m.length≤1000∧Hid (m.length=n)∧Hid (a++kA hY m.length m=kA hY l.length l))
 case atStart=>exact⟨l,[],_,J,c,t,by simpa using hl,rfl,rfl⟩
 case round=>
  clear J c t;obtain⟨m,a,v,H,p,E,ac,L,B⟩:=hrel;obtain⟨T,W,rfl,m2⟩:=H.row.shape;obtain⟨A3,c3,rfl,m3⟩:=p.shape;have D:wr.cell? ⟨g,0,none⟩=some (.slice T m.length W):=gM H.blk 0;have G:=gL H.blk;by_cases h0:m.length=0
  ·have Y:decide ((m.length:Int)>0)=false:=iU gO
   have Z:decide (0<m.length)=false:=iU gO;have C:=gP (show kA hY l.length l=a by rw[←B.out,h0,kA];simp);clear h0;go_wp2_with fail;go_ret;exact⟨_,rfl,by rw[C.out];exact p,E⟩
  ·have r:0<m.length:=gO
   have Y:decide ((m.length:Int)>0)=true:=jT gO;have Z:decide (0<m.length)=true:=jT r;have C:=gP (show(a++[kK m 0])++kA hY (kB hY m).length (kB hY m)=kA hY l.length l by rw[←B.out,tv r];simp);have R:(kB hY m).length+1=m.length:=by rw[mM m r];omega
   have Q:(kB hY m).length<gk:=by have:=L.out;omega
   have V:=gP R;have ad:a.length<1000:=gO;clear h0 R B L;go_wp2_with fail;refine(Eu g F _ m _ H r gO).mono ?_;rintro e S ⟨rfl,v5,U,f⟩;generalize kK m 0=x at*;have A:=p.ch f (fun k b=>by
    have hk':w.heap.size≤k:=b;rintro(O|O)
    ·omega
    ·have:=i k O;omega)
   have y:=E.trans f;clear H p E f D G;unfold iZ;apply_assumption;go_wp2_with (at_builtin;refine jj (d:=iC) rfl 212 rfl Tryz.underlying212 _ 56 vV rfl dc dc rfl (A.alloc _) x _ rfl (gX rfl) (fun _=>False) rfl (fun _ o=>o.elim) (fun _ o=>o.elim) gO (fun k=>w.heap.size≤k) (fun _ b=>b) (fun _ o=>o.elim) (fun k b=>by have:=y.size;simp at b;omega) ?_;intro v1 s c P X);have z:Ch (fun k=>w.heap.size≤k) S s:=((Ch.refl (fun k=>w.heap.size≤k) S).alloc _).grown P (fun k b=> .inl (A.inF b))
   go_roundg (kB hY m).length
   case measure=>exact Q
   case rel=>exact⟨kB hY m,a++[x],v5,U.ch z gO (fun k b=>by have:=i k b;omega),c,y.then z (fun k b=> .inr b),by simp;have:=V.out;omega,rfl,C⟩
theorem tx {α:Type} [Inhabited α] (lt:α→α→Bool) (l:List α) (x:α):jC lt (l++[x])=mr lt (jC lt l) x:=by unfold jC;rw[List.foldl_append];rfl
theorem mR {α:Type} [Inhabited α] {lt:α→α→Bool} (O:i6 lt) (l:List α):(jC lt l).length=l.length:=(tc O l).2.length_eq
theorem Ar (v:Value) (xs:List iQ) (F:Nat→Prop) (w:World) (h:Rd ii w F v xs) (hl:xs.length≤1000):
  Calls Tryz.prog 115 #[v] w fun q w' =>∃u,q= .returned u∧Ow ii 120 w' (fun k=>w.heap.size≤k) u (jX xs)∧Below w.heap.size w w':=by
 obtain⟨A,c,rfl,T⟩:=h.shape;go_enter Tryz.func115,Tryz.ntmps115;go_wp2_with fail;have x:=gU (gY w.heap.size w) (.cells #[.slice none 0 0,.func (.func 166) #[] #[]] 223);have g:(w.alloc (.cells #[.slice none 0 0,.func (.func 166) #[] #[]] 223)).heap[w.heap.size]? =some (.cells #[.slice none 0 0,.func (.func 166) #[] #[]] 223):=gX rfl;have o:ky ii 120 223 166 (w.alloc (.cells #[.slice none 0 0,.func (.func 166) #[] #[]] 223)) w.heap.size (fun k=>False) (.slice none 0 0) (jC hM (xs.take 0)):=⟨g,by simpa [jC] using Ow.nil ii 120 _ _,id,fun _ n=>n.elim⟩;generalize w.alloc (.cells #[.slice none 0 0,.func (.func 166) #[] #[]] 223)=W at*
 go_loopw [9] (fun t wr=>∃(k:Nat) (G:Nat→Prop) (v:Value),t= .int .i64 k∧k≤xs.length∧ky ii 120 223 166 wr w.heap.size G v (jC hM (xs.take k))∧(∀q,G q→w.heap.size≤q)∧Below w.heap.size w wr) (fun t _=>xs.length-(intOf t).toNat)
 case atStart=>exact⟨0,_,_,rfl,jP _,o,fun _ n=>n.elim,x⟩
 case round=>
  clear o x g;obtain⟨k,G,v,rfl,S,j,m,a⟩:=hrel;by_cases hlt:k<xs.length
  ·have i:=h.below a
   obtain⟨R,U,rfl,P,I,J,L,M,O⟩:=ko i k hlt;have HS:=gP (show jC hM (xs.take (k+1))=mr hM (jC hM (xs.take k)) xs[k] by rw[qp hlt,tx]);have d:(jC hM (xs.take k)).length≤1000:=by rw[mR qS];simp;omega
   have V:(k:Int)<(xs.length:Int):=gO;go_wp2_with fail;refine(CC w.heap.size G v (jC hM (xs.take k)) xs[k] _ (j.below (gU (gY _ _) _)) d).mono ?_;rintro e B ⟨rfl,H,C,p,r,b⟩;rw[←HS.out] at p;apply_assumption;have f:Ch (fun q=>w.heap.size≤q) w B:=((Ch.of_below a).alloc _).then b (fun q hq=> .inr (hq.elim (fun l=>Nat.le_of_eq l.symm) (m q)));have y:=f.below (fun q hq=>hq) (j9 _);have Q:=a.size;clear j b f i a I J L M O;go_wp2_with fail;go_roundw
   case rel=>exact⟨k+1,C,H,by go_num,gO,p,fun q hq=>(r q hq).elim (m q) (fun E=>by simp at E;omega),y⟩
   case measure=>exact ms
  ·have z:k=xs.length:=gO
   subst z;have D:=gP (show kA hM (jC hM (xs.take xs.length)).length (jC hM (xs.take xs.length))=jX xs by rw[ld,mR qS];exact wx qS xs);have d:(jC hM (xs.take xs.length)).length≤1000:=by rw[mR qS];simpa using hl
   go_wp2_with fail;refine(AN w.heap.size G v _ _ j d).mono ?_;rintro e B ⟨u,rfl,s,b⟩;apply_assumption;go_wp2_with fail;go_ret;exact⟨u,rfl,by rw[←D.out];exact s.mono (fun q hq=>jb a.size hq),a.trans (b.below (fun q hq=>hq.elim (fun l=>Nat.le_of_eq l.symm) (m q)) a.size)⟩
def GJ (s:nT):List (Nat×xp):=[(0,tk rQ 62 []),(4,tk iC 132 []),(8,tk ii 120 []),(3,tk rQ 62 s.states),(7,tk iC 132 s.queue),(11,tk ii 120 s.outs)]
theorem yg (l:List im):(jW l).length≤l.length:=by
 have a:∀(l m:List im),(l.foldl (fun m x=>if x∈m then m else m++[x]) m).length≤m.length+l.length:=by
  intro l
  induction l with
  |nil=>intro m;simp
  |cons x l ih=>
   intro m;have:=ih (if x∈m then m else m++[x]);simp only[List.foldl_cons,List.length_cons];by_cases hx:x∈m
   ·rw[if_pos hx] at this ⊢;omega
   ·rw[if_neg hx] at this ⊢
    simp only[List.length_append,List.length_singleton] at this;omega
 simpa [jW] using a l []
theorem oZ (v:Value) (xs:List im) (F:Nat→Prop) (w:World) (h:Rd iC w F v xs) (hl:xs.length≤1000) (hwf:∀x∈xs,nQ x):
  Calls Tryz.prog 114 #[v] w fun q w' =>∃u,q= .returned u∧Ow iC 132 w' (fun k=>w.heap.size≤k) u (jS xs)∧Below w.heap.size w w':=by
 obtain⟨A,c,rfl,m0⟩:=h.shape;have ao:∀w:World,(Instr.makeMap 215 none).run Tryz.prog w= .ok (.map (some w.heap.size)) (w.alloc (.map #[] 0)):=fun _=>rfl;go_enter Tryz.func114,Tryz.ntmps114;go_wp2_with fail;have hW:=gU (gU (gY w.heap.size w) (.cells #[.slice none 0 0,.func (.func 161) #[] #[]] 214)) (.map #[] 0);have a9:((w.alloc (.cells #[.slice none 0 0,.func (.func 161) #[] #[]] 214)).alloc (.map #[] 0)).heap[w.heap.size]? =some (.cells #[.slice none 0 0,.func (.func 161) #[] #[]] 214):=(ip sm).trans (gX rfl);have H1:ky iC 217 214 161 ((w.alloc (.cells #[.slice none 0 0,.func (.func 161) #[] #[]] 214)).alloc (.map #[] 0)) w.heap.size (fun k=>False) (.slice none 0 0) (jC hY (jW (xs.take 0))):=⟨a9,by simpa [jC,jW] using Ow.nil iC 217 _ _,id,fun _ hf=>hf.elim⟩;have M1:mu ((w.alloc (.cells #[.slice none 0 0,.func (.func 161) #[] #[]] 214)).alloc (.map #[] 0)) (w.heap.size+1) [] []:=⟨gX (o:= .map #[] 0) sm,rfl,List.nodup_nil,fun _ h=>by cases h⟩;generalize (w.alloc (.cells #[.slice none 0 0,.func (.func 161) #[] #[]] 214)).alloc (.map #[] 0)=W at*;clear a9 ao;obtain⟨B,hB⟩:∃B,B=w.heap.size+1:=⟨_,rfl⟩;rw[←hB] at M1;simp only[←hB];have cj:w.heap.size<B:=gO;clear hB
 go_loopw [15] (fun t wr=>∃(k:Nat) (G:Nat→Prop) (v:Value) (s:List Int),t= .int .i64 k∧k≤xs.length∧ky iC 217 214 161 wr w.heap.size G v (jC hY (jW (xs.take k)))∧mu wr B (jW (xs.take k)) s∧(∀c∈s,1≤c∧c≤(k:Int))∧¬G B∧(∀q,G q→w.heap.size≤q)∧Below w.heap.size w wr) (fun t _=>xs.length-(intOf t).toNat)
 case atStart=>exact⟨0,_,_,[],rfl,jP _,H1,M1,by simp,id,fun _ hf=>hf.elim,hW⟩
 case round=>
  clear H1 M1 hW;obtain⟨k,G,v,s,rfl,hk,HH,MM,aJ,am,hG,H⟩:=hrel;by_cases hlt:k<xs.length
  ·have bk:=h.below H
   obtain⟨b0,o0,rfl,bR,z0,z1,z2,z3,z4,z5,z6⟩:=jD bk k hlt;have p1:(k:Int)<(xs.length:Int):=gO;have T:=hwf _ (List.getElem_mem hlt);have HT:=gP (show xs.take (k+1)=xs.take k++[xs[k]] from qp hlt);have HM:Hid (xs[k]∈jW (xs.take k)↔xs[k]∈xs.take k):=vu _ _;generalize xs[k]=x at*;go_upto_region 6 with fail;have O:=H.alloc H.size (.cells #[x.time,x.to,x.from_,x.count,x.n,x.kind,x.arg] 132);have Q:=gU (gY wr.heap.size wr) (.cells #[x.time,x.to,x.from_,x.count,x.n,x.kind,x.arg] 132);have Z1:(wr.alloc (.cells #[x.time,x.to,x.from_,x.count,x.n,x.kind,x.arg] 132)).heap[wr.heap.size]? =some (.cells #[x.time,x.to,x.from_,x.count,x.n,x.kind,x.arg] 132):=gX rfl;have U:=HH.below Q;have X:mu (wr.alloc (.cells #[x.time,x.to,x.from_,x.count,x.n,x.kind,x.arg] 132)) B (jW (xs.take k)) s:=⟨gJ Q (Array.getElem?_eq_some_iff.1 MM.blk).1 MM.blk,MM.len,MM.nodup,MM.wf⟩;have aP:=H.size;have bm:=(Array.getElem?_eq_some_iff.1 X.blk).1;clear HH MM z0 z1 z2 z3 z4 z5 z6 bk H bR Q;generalize wr.alloc (.cells #[x.time,x.to,x.from_,x.count,x.n,x.kind,x.arg] 132)=W1 at*;have bV:=gL Z1;obtain⟨⟨z0,z1,z2,z3,z4,z5,z6⟩,-⟩:=oB Z1;go_wp2_with fail;refine(xu x _).mono ?_;rintro e l ⟨rfl,M⟩;have ar:=U.below M;have Y:mu l B (jW (xs.take k)) s:=⟨gJ M bm X.blk,X.len,X.nodup,X.wf⟩;have P:=gQ O M O.size;have bl:=M.size;unfold iZ;clear U X M O z0 z1 z2 z3 z4 z5 z6 Z1;apply_assumption;go_upto_region 7 with fail;obtain⟨g7,aK⟩:∃g,g=l.heap.size:=⟨_,rfl⟩;have C:=P.alloc P.size (.cells #[x.time,x.to,x.from_,x.count,x.n,x.kind,x.arg] 217);have Q:=gU (gY l.heap.size l) (.cells #[x.time,x.to,x.from_,x.count,x.n,x.kind,x.arg] 217);have Z7:(l.alloc (.cells #[x.time,x.to,x.from_,x.count,x.n,x.kind,x.arg] 217)).heap[l.heap.size]? =some (.cells #[x.time,x.to,x.from_,x.count,x.n,x.kind,x.arg] 217):=gX rfl;have au:=ar.below Q;have aO:=(Array.getElem?_eq_some_iff.1 Y.blk).1;have Z:mu (l.alloc (.cells #[x.time,x.to,x.from_,x.count,x.n,x.kind,x.arg] 217)) B (jW (xs.take k)) s:=⟨gJ Q aO Y.blk,Y.len,Y.nodup,Y.wf⟩;have aD:B≠g7:=gO;have ce:w.heap.size≤g7:=by have:=P.size;omega
   have cl:¬G g7:=fun hh=>by have:=ar.lt g7 hh;omega
   have ct:w.heap.size≠g7:=by have:=gL ar.blk;omega
   rw[←aK] at Z7;simp only[←aK];clear ar Y P Q bl aO bm aP bV;generalize l.alloc (.cells #[x.time,x.to,x.from_,x.count,x.n,x.kind,x.arg] 217)=z at*;clear aK;have a:mu z.drew B (jW (xs.take k)) s:=⟨Z.blk,Z.len,Z.nodup,Z.wf⟩;by_cases hm:x∈jW (xs.take k)
   ·have HE:=gP (show jW (xs.take (k+1))=jW (xs.take k) by rw[HT.out,qT,if_pos (HM.out.1 hm)])
    obtain⟨j,hj,ac,L⟩:∃(j:Nat) (hj:j<(jW (xs.take k)).length),(jW (xs.take k))[j]=x∧(Instr.mapEntry 215 (.map (some B)) (iZ x)).run Tryz.prog z.drew= .ok (.tuple #[.int .i64 (s.getD j 0),.int .i64 j]) z.drew:=by
     rcases a.entry T with ⟨_,h⟩|⟨h,_⟩
     ·exact h
     ·exact absurd hm h
    obtain⟨n,hn⟩:∃n,s.getD j 0=n:=⟨_,rfl⟩;have ab:j<s.length:=by rw[←a.len];exact hj
    have aN:1≤n∧n≤(k:Int):=by
     rw[←hn,List.getD_eq_getElem?_getD,mc ab];exact aJ _ (List.getElem_mem ab)
    have co:1≤n:=aN.1;have cp:n≤1000:=gO;have cq:n≤(k:Int):=aN.2;rw[hn] at L;have r:=a.lookup T;rw[←ac,si a.nodup hj,hn,ac] at r;have r:=gP r;obtain⟨w9,I,f,b⟩:=a.store j hj (n+1) 215;have p:=f.lookup T;rw[←ac,si f.nodup hj,List.getD_eq_getElem?_getD,List.getElem?_set_self ab,ac] at p;have p:=gP p;have HR:=gP L;have V:=gP I;have b:Ch (fun k=>k=B) z w9:=(Ch.refl _ z).drew.trans b;clear L I aN hn hm Z a;refine pX (fun w' =>w'.heap[g7]? =some (.cells #[x.time,x.to,x.from_,x.count,x.n,x.kind,x.arg] 217)∧(Instr.lookup 215 (.map (some B)) (iZ x) false).run Tryz.prog w' = .ok (.int .i64 n) w') [1,2] (.pure 0 (.take 1 (.take 2 (.pure 3 (.one 4 (.one 5 (.one 6 (.nil)))))))) ie ie qP ?_;have HS:z.drew.heap[g7]? =some (.cells #[x.time,x.to,x.from_,x.count,x.n,x.kind,x.arg] 217)∧(Instr.lookup 215 (.map (some B)) (iZ x) false).run Tryz.prog z.drew= .ok (.int .i64 n) z.drew:=⟨Z7,r.out⟩
    (refine mb (v:=?_) (by rfl) (by rfl) ?_ ?_;rotate_left;(focus (intro wS;go_simp;(try (with_reducible rfl));done));(intro K hK;go_simp;refine hK _ ?_;clear hK K))
    refine ma (v:=iZ x) (by rfl) HS (by rfl) ?_ ?_
    ·intro wS hS
     obtain⟨⟨bY,bZ,b2,b3,b4,b5,b6⟩,-⟩:=oB hS.1;unfold iZ;go_simp
    intro K hK;unfold iZ at hK ⊢;go_simp;refine hK _ ?_;clear hK K;refine ma (v:= .int .i64 n) (by rfl) HS (by rfl) ?_ ?_
    ·intro wS hS
     have h2:=hS.2;unfold iZ at h2;go_simp
    intro K hK;go_simp;refine hK _ ?_;clear hK K
    (refine mb (v:=?_) (by rfl) (by rfl) ?_ ?_;rotate_left;(focus (intro wS;go_simp;(try (with_reducible rfl));done));(intro K hK;go_simp;refine hK _ ?_;clear hK K))
    simp only[show IntKind.i64.wrap (n+1)=n+1 from IntWalk.i64_in _ gO];refine sl (by rfl) (by rfl) (fun K hK=>?_);have hr:=HR.out;unfold iZ at hr;go_simp;clear hr;refine hK _ _ (Or.inr id) ?_;clear hK K;refine sl (by rfl) (by rfl) (fun K hK=>?_);go_simp;refine hK _ _ (Or.inr id) ?_;clear hK K;refine sl (by rfl) (by rfl) (fun K hK=>?_);have hr:=V.out;go_simp;clear hr;refine hK _ _ (Or.inl ie) ?_;clear hK K;have av:=au.ch b gO (fun q hq E=>am (E▸hq));have Z9:=b.heap Z7 (fun E=>aD E.symm);have aa:=((Ch.of_below (S:=fun q=>w.heap.size≤q) C).then b (fun q hq=> .inl (by have hq':q=B:=hq;omega))).below (fun q hq=>hq) (j9 _);obtain⟨⟨y0,y1,y2,y3,y4,y5,y6⟩,-⟩:=oB Z9;have aM:=p.out;unfold iZ at aM;simp at aM;have kf:(n+1==1)=false:=by simp;omega
    have cu:decide (n+1=1)=false:=by simp;omega
    have cv:decide (n=0)=false:=by simp;omega
    clear HS au C Z7 b HR V p r;have hcs':∀c∈s.set j (n+1),1≤c∧c≤((k+1:Nat):Int):=fun c hc=>by
     rcases List.mem_or_eq_of_mem_set hc with J|J
     ·have:=aJ c J;omega
     ·omega
    simp only[wI];go_wp2_with fail;go_roundw
    case rel=>exact⟨k+1,G,v,s.set j (n+1),by go_num,gO,by rw[HE.out];exact av,by rw[HE.out];exact f,hcs',am,hG,aa⟩
    case measure=>exact ms
   ·have HE:=gP (show jW (xs.take (k+1))=jW (xs.take k)++[x] by rw[HT.out,qT,if_neg (fun hh=>hm (HM.out.2 hh))])
    obtain⟨w8,L,aw,ak⟩:∃w8,(Instr.mapEntry 215 (.map (some B)) (iZ x)).run Tryz.prog z.drew= .ok (.tuple #[.int .i64 0,.int .i64 (jW (xs.take k)).length]) w8∧mu w8 B (jW (xs.take k)++[x]) (s++[0])∧Ch (fun k=>k=B) z.drew w8:=by
     rcases a.entry T with ⟨h,_⟩|⟨_,h⟩
     ·exact absurd h hm
     ·exact h
    have r:=a.lookup T;rw[wF a.len hm] at r;have r:=gP r;have bh:(jW (xs.take k)).length<(jW (xs.take k)++[x]).length:=by simp
    have ac:(jW (xs.take k)++[x])[(jW (xs.take k)).length]=x:=by simp
    have ab:(jW (xs.take k)).length<(s++[0]).length:=by simp[a.len]
    have ai:=aw.lookup T;rw[show tH (jW (xs.take k)++[x]) (s++[0]) x=0 by rw[vE aw.nodup];simp[List.getD,a.len]] at ai;have ai:=gP ai;obtain⟨w9,I,f,b⟩:=aw.store _ bh 1 215;have p:=f.lookup T;have e9:tH (jW (xs.take k)++[x]) (List.set (s++[0]) (jW (xs.take k)).length 1) x=1:=by rw[vE f.nodup,List.getD_eq_getElem?_getD,List.getElem?_set_self ab];rfl
    rw[e9] at p;clear e9;have p:=gP p;have hcs':∀c∈(s++[0]).set (jW (xs.take k)).length 1,1≤c∧c≤((k+1:Nat):Int):=fun c hc=>by
     rw[a.len,List.set_append_right _ _ (j9 _),Nat.sub_self] at hc;rcases List.mem_append.1 hc with J|J
     ·have:=aJ c J;omega
     ·simp at J;omega
    have HR:=gP L;have V:=gP I;have ak:Ch (fun k=>k=B) z w8:=(Ch.refl _ z).drew.trans ak;have b:Ch (fun k=>k=B) z w9:=ak.trans b;have Z8:=ak.heap Z7 (fun E=>aD E.symm);have bj:=yg (xs.take k);rw[List.length_take] at bj;obtain⟨m,ao⟩:∃m,(jW (xs.take k)).length=m:=⟨_,rfl⟩;rw[ao] at HR V bj;have bW:m≤1000:=gO;have bH:=gP ao;clear L I hm Z a ak bh ac ab ao aw;refine pX (fun w' =>w'.heap[g7]? =some (.cells #[x.time,x.to,x.from_,x.count,x.n,x.kind,x.arg] 217)∧(Instr.lookup 215 (.map (some B)) (iZ x) false).run Tryz.prog w' = .ok (.int .i64 0) w') [1,2] (.pure 0 (.take 1 (.take 2 (.pure 3 (.one 4 (.one 5 (.one 6 (.nil)))))))) ie ie qP ?_;have HS:z.drew.heap[g7]? =some (.cells #[x.time,x.to,x.from_,x.count,x.n,x.kind,x.arg] 217)∧(Instr.lookup 215 (.map (some B)) (iZ x) false).run Tryz.prog z.drew= .ok (.int .i64 0) z.drew:=⟨Z7,r.out⟩
    (refine mb (v:=?_) (by rfl) (by rfl) ?_ ?_;rotate_left;(focus (intro wS;go_simp;(try (with_reducible rfl));done));(intro K hK;go_simp;refine hK _ ?_;clear hK K))
    refine ma (v:=iZ x) (by rfl) HS (by rfl) ?_ ?_
    ·intro wS hS
     obtain⟨⟨bY,bZ,b2,b3,b4,b5,b6⟩,-⟩:=oB hS.1;unfold iZ;go_simp
    intro K hK;unfold iZ at hK ⊢;go_simp;refine hK _ ?_;clear hK K;refine ma (v:= .int .i64 0) (by rfl) HS (by rfl) ?_ ?_
    ·intro wS hS
     have h2:=hS.2;unfold iZ at h2;go_simp
    intro K hK;go_simp;refine hK _ ?_;clear hK K
    (refine mb (v:=?_) (by rfl) (by rfl) ?_ ?_;rotate_left;(focus (intro wS;go_simp;(try (with_reducible rfl));done));(intro K hK;go_simp;refine hK _ ?_;clear hK K))
    simp only[show IntKind.i64.wrap 1=1 by decide];refine sl (by rfl) (by rfl) (fun K hK=>?_);have hr:=HR.out;unfold iZ at hr;go_simp;clear hr;refine hK _ _ (Or.inr fun _=>⟨Z8,ai.out⟩) ?_;clear hK K;refine sl (by rfl) (by rfl) (fun K hK=>?_);go_simp;refine hK _ _ (Or.inr id) ?_;clear hK K;refine sl (by rfl) (by rfl) (fun K hK=>?_);have hr:=V.out;go_simp;clear hr;refine hK _ _ (Or.inl ie) ?_;clear hK K;have av:=au.ch b gO (fun q hq E=>am (E▸hq));have Z9:=b.heap Z7 (fun E=>aD E.symm);have aa:=((Ch.of_below (S:=fun q=>w.heap.size≤q) C).then b (fun q hq=> .inl (by have hq':q=B:=hq;omega))).below (fun q hq=>hq) (j9 _);have aM:=gL Z9;have ck:=(Array.getElem?_eq_some_iff.1 f.blk).1;obtain⟨⟨y0,y1,y2,y3,y4,y5,y6⟩,-⟩:=oB Z9;have bi:=p.out;unfold iZ at bi;clear HS au C Z7 Z8 b HR V p ai r;have ay:(jC hY (jW (xs.take k))).length≤1000:=by rw[mR vT,bH.out];exact bW
    simp only[wI];go_wp2_with fail;refine(DT w.heap.size G v (jC hY (jW (xs.take k))) x _ av ay).mono ?_;rintro e w6 ⟨rfl,v6,G6,H6,bb,aE⟩;rw[←tx,←HE.out] at H6;have ba:mu w6 B (jW (xs.take k)++[x]) _:=⟨aE.heap f.blk (fun hh=>hh.elim (fun E=>gO) am),f.len,f.nodup,f.wf⟩;rw[←HE.out] at ba;have al:Ch (fun q=>w.heap.size≤q) w w6:=(Ch.of_below aa).then aE (fun q hq=> .inl (hq.elim (fun E=>Nat.le_of_eq E.symm) (hG q)));have bs:=al.below (fun q hq=>hq) (j9 _);have aP:=aa.size;clear av f aE al bi y0 y1 y2 y3 y4 y5 y6 Z9;apply_assumption;go_wp2_with fail;go_roundw
    case rel=>exact⟨k+1,G6,v6,_,by go_num,gO,H6,ba,hcs',fun hh=>(bb B hh).elim am (fun J=>gO),fun q hq=>(bb q hq).elim (hG q) (fun J=>gO),bs⟩
    case measure=>exact ms
  ·have R:k=xs.length:=gO
   subst R;rw[ld] at HH;have ay:(jC hY (jW xs)).length≤1000:=by rw[mR vT];have:=yg xs;omega
   have HE:=gP (show kA hY (jC hY (jW xs)).length (jC hY (jW xs))=jS xs by rw[mR vT];exact uG vT xs);have bT:=gL HH.blk;obtain⟨A2,a2,rfl,m2⟩:=HH.row.shape;have a0:wr.cell? ⟨w.heap.size,0,none⟩=some (.slice A2 (jC hY (jW xs)).length a2):=gM HH.blk 0;go_wp2_with (refine xH (d:=iC) (e:=132) rfl _ _ _ rfl Tryz.underlying33 _ 56 kL _ _ (jC hY (jW xs)).length rfl rfl gO gO ?_;intro w1 aG O);have a':=HH.lt;have U:=HH.below O;have bf:=gQ H O H.size;have bv:=H.size;have bX:(jS xs).length≤1000:=by rw[←HE.out,(mY _ _ (j9 _)).length_eq];exact ay
   clear HH a0 MM;refine(CD w.heap.size G _ _ _ U ay).mono ?_;rintro e l ⟨u,rfl,an,ax⟩;rw[HE.out] at an;obtain⟨A3,a3,rfl,m3⟩:=an.shape;have al:Ch (fun q=>w.heap.size≤q) w l:=(Ch.of_below bf).then ax (fun q hq=> .inl (hq.elim (fun E=>Nat.le_of_eq E.symm) (hG q)));have M:=al.below (fun q hq=>hq) (j9 _);have aH:Ow iC 132 l (fun q=>q=wr.heap.size∨l.heap.size≤q) (.slice (some ⟨wr.heap.size,0,none⟩) 0 (jC hY (jW xs)).length) []:=(aG.tight.ch ax (fun q hq=>by
    have hq':q=wr.heap.size:=by have hq':(some wr.heap.size:Option Nat)=some q:=hq;exact(Option.some.inj hq').symm
    subst hq';rintro(J|J)
    ·omega
    ·have:=a' _ J;omega)).mono (fun q hq=> .inl (by have hq':(some wr.heap.size:Option Nat)=some q:=hq;exact(Option.some.inj hq').symm))
   have aI:=an.rd.bound;have bt:=gL U.blk;have bu:wr.heap.size<w1.heap.size:=by
    have:=aG.block_lt (g:=wr.heap.size) rfl;exact this
   have bl:=ax.size;obtain⟨D,aQ⟩:∃D,jS xs=D:=⟨_,rfl⟩;rw[aQ] at aI an bX ⊢;have bJ:=gP aQ;clear aQ;generalize Value.slice (some ⟨wr.heap.size,0,none⟩) 0 (jC hY (jW xs)).length=u8 at*;obtain⟨g8,bg⟩:∃g,g=wr.heap.size:=⟨_,rfl⟩;rw[←bg] at aH bu;have cf:w.heap.size≤g8:=gO;clear aG ax an al U bf O bg bT a' bv bt H HE;apply_assumption;go_wp2_with fail
   go_loopw [8,40] (fun u i wr=>∃k:Nat,i= .int .i64 k∧k≤D.length∧Rd iC wr (fun q=>w1.heap.size≤q∧q<l.heap.size) (.slice A3 D.length a3) D∧Ow iC 132 wr (fun q=>q=g8∨l.heap.size≤q) u (D.take k)∧l.heap.size≤wr.heap.size∧Below w.heap.size w wr) (fun _ i _=>D.length-(intOf i).toNat)
   case atStart=>exact⟨0,rfl,jP _,aI,aH,j9 _,M⟩
   case round=>
    clear aI aH M;obtain⟨k,rfl,cn,hR,hO,aP,H⟩:=hrel;by_cases hlt2:k<D.length
    ·obtain⟨b1,o1,bM,cm,y0,y1,y2,y3,y4,y5,y6⟩:=jD hR k hlt2
     subst bM;have p3:(k:Int)<(D.length:Int):=gO;have HT:=gP (show D.take (k+1)=D.take k++[D[k]] from qp hlt2);have R:(D.take k).length=k:=by simp;omega
     generalize D[k]=y at*;obtain⟨A4,a4,rfl,m4⟩:=hO.shape;rw[R] at hO ⊢;have bG:=gP R;clear R;go_wp2_with fail;refine(EJ y _).mono ?_;rintro e w6 ⟨rfl,P⟩;have C:=gV (gU (gY wr.heap.size wr) _) P;have bO:=hR.below C;have bc:=hO.below C;have bS:=gQ H C H.size;have cg:=C.size;clear hR hO H P C y0 y1 y2 y3 y4 y5 y6;unfold iZ;apply_assumption;go_wp2_with (at_builtin;refine jj (d:=iC) rfl 33 rfl Tryz.underlying33 _ 56 kL rfl dc dc rfl (bc.alloc _) y _ rfl (gX rfl) (fun _=>False) rfl (fun _ hf=>hf.elim) (fun _ hf=>hf.elim) (by have:=bG.out;omega) (fun q=>q=g8∨l.heap.size≤q) (fun _ hk=>hk) (fun _ hf=>hf.elim) (fun q hq=> .inr (by simp at hq;omega)) ?_;intro v1 w9 bd bN cd);have aF:Ch (fun q=>q=g8∨l.heap.size≤q) w6 w9:=((Ch.refl (fun q=>q=g8∨l.heap.size≤q) w6).alloc _).grown bN (fun q hq=> .inl (bc.inF hq));have bP:=bO.ch aF (fun q hq=>by
      rintro(J|J)
      ·omega
      ·omega)
     rw[←HT.out] at bd;have cr:=aF.size;have aa:=((Ch.of_below (S:=fun q=>w.heap.size≤q) bS).then aF (fun q hq=> .inl gO)).below (fun q hq=>hq) (j9 _);go_roundw
     case rel=>exact⟨k+1,by go_num,gO,bP,bd,gO,aa⟩
     case measure=>exact ms
    ·have R:k=D.length:=gO
     subst R;rw[ld] at hO;go_wp2_with fail;go_ret;exact⟨_,rfl,by rw[bJ.out];exact hO.mono (fun q hq=>gO),H⟩
def GB:List (Nat×xp):=[(0,tk rQ 62 vj.states),(1,tk iC 132 vj.queue)]
theorem zB {H:Type} {enc:TypeId×Value→H} {W:World} (fuel:Nat) (cs:List Value) (x:DataW H×List MemPlace) (h:DataW.trod enc Tryz.prog W 0 (fun _=>true) true fuel 148 cs=some x):∃y:iQ,cs=iQ.cells y:=by
 obtain⟨C,n,-,-,i,b,a⟩:=DataW.trod_struct Tryz.underlying148 h;have B:Tryz.prog.cellsOf 148=5:=ie;rw[B] at i
 match cs,i,C,b,a with
 | [c0,c1,c2,c3,c4],_,[y0,y1,y2,y3,y4],_,a=>
  have c:DataW.trod enc Tryz.prog W 0 (fun _=>true) true n 3 ([c0,c1,c2,c3,c4].drop 0 |>.take (Tryz.prog.cellsOf 3))=some y0:=a 0 _ rfl;rw[jd] at c;obtain⟨j,p,-⟩:=DataW.trod_int Tryz.underlying3 c;have u:c0= .int .i64 j:=by simpa using p
  clear p;have d:DataW.trod enc Tryz.prog W 0 (fun _=>true) true n 3 ([c0,c1,c2,c3,c4].drop 1 |>.take (Tryz.prog.cellsOf 3))=some y1:=a 1 _ rfl;rw[jd] at d;obtain⟨k,q,-⟩:=DataW.trod_int Tryz.underlying3 d;have v:c1= .int .i64 k:=by simpa using q
  clear q;have e:DataW.trod enc Tryz.prog W 0 (fun _=>true) true n 3 ([c0,c1,c2,c3,c4].drop 2 |>.take (Tryz.prog.cellsOf 3))=some y2:=a 2 _ rfl;rw[jd] at e;obtain⟨l,r,-⟩:=DataW.trod_int Tryz.underlying3 e;have w:c2= .int .i64 l:=by simpa using r
  clear r;have f:DataW.trod enc Tryz.prog W 0 (fun _=>true) true n 3 ([c0,c1,c2,c3,c4].drop 3 |>.take (Tryz.prog.cellsOf 3))=some y3:=a 3 _ rfl;rw[jd] at f;obtain⟨m,s,-⟩:=DataW.trod_int Tryz.underlying3 f;have z:c3= .int .i64 m:=by simpa using s
  clear s;have g:DataW.trod enc Tryz.prog W 0 (fun _=>true) true n 3 ([c0,c1,c2,c3,c4].drop 4 |>.take (Tryz.prog.cellsOf 3))=some y4:=a 4 _ rfl;rw[jd] at g;obtain⟨o,t,-⟩:=DataW.trod_int Tryz.underlying3 g;have A:c4= .int .i64 o:=by simpa using t
  clear t;subst u v w z A;exact⟨⟨j,k,l,m,o⟩,rfl⟩
theorem CG {H:Type} {enc:TypeId×Value→H} {W:World} {fuel:Nat} {cs:List Value} {x:DataW H×List MemPlace} (h:DataW.trod enc Tryz.prog W 0 (fun _=>true) true fuel 22 cs=some x):
  ∃(A:Option Addr) (c:Nat) (xs:List iM),cs=[.slice A xs.length c]∧Rd oE W (fun k=>k<W.heap.size) (.slice A xs.length c) xs:=
 kZ oE Tryz.underlying22 ie dc (fun f cs x h=>D8 f cs x h) h
end Go.Proofs.YtgilllnjhahkfaaGreat
