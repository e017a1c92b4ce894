/- Parts of the proof: Ey2, Imp7, Imp8. -/
import Derived.Test.YtlndjfflhegkdaaGreatDoorQ24
import Derived.Test.YtlndjfflhegkdaaGreatDoorQ25
set_option linter.unusedVariables false
set_option linter.unusedSimpArgs false
set_option linter.unusedSectionVars false
set_option maxHeartbeats 4000000
set_option maxRecDepth 100000
namespace Go.Proofs.YtlndjfflhegkdaaGreatDoor
open Go.RowKit
theorem DQ (x:ik) (w:World):Calls Tryz.prog 42 #[.agg #[x.time,x.proc,x.count,x.n,x.value]] w fun q w' =>q= .returned (.agg #[x.time,x.proc,x.count,x.n,x.value])∧Below w.heap.size w w':=by
 go_enter Tryz.func42,Tryz.ntmps42;go_wp2_with fail;refine bodyPost_ret (v:= .agg #[x.time,x.proc,x.count,x.n,x.value]) (by simp only[results,Tryz.results42];go_simp) rfl ⟨rfl,?_⟩;refine Ch.below0 ?_
 repeat (first|(with_reducible exact Ch.refl _ _)|(with_reducible refine Ch.alloc ?_ _)|(refine Ch.setCell ?_ (Or.inr (by simp only[lb];omega)) _))
theorem pq (v:Value) (xs:List hY) (F:Nat→Prop) (w:World) (h:Rd iw w F v xs) (hn:xs.length≤1048576):
  Calls Tryz.prog 78 #[v] w fun q w' =>∃v',q= .returned v'∧Ow iw 91 w' (fun k=>w.heap.size≤k) v' xs∧Below w.heap.size w w':=by
 obtain⟨A,c,rfl,-,-,-⟩:=id h;go_enter Tryz.func78,Tryz.ntmps78;go_wp2_with (refine ma (d:=iw) (e:=91) rfl _ _ _ rfl Tryz.underlying49 (.agg #[.int .i64 0,.int .i64 0,.int .i64 0,.int .i64 0,.int .i64 0,.int .i64 0,.int .i64 0]) 56 gY dc rfl dc _ _ xs.length rfl rfl fT fT ?_;intro O a n);obtain⟨g,l⟩:∃g,g=w.heap.size:=⟨_,rfl⟩;rw[←l] at a;simp only[←l];have o:=fS l;clear l
 go_loopw [4] (fun i wr=>∃k:Nat,i= .int .i64 k∧k≤xs.length∧Ow (lO iw) 91 wr (fun k=>g≤k) (.slice (some ⟨g,0,none⟩) xs.length xs.length) ((xs.take k).map some++List.replicate (xs.length-k) none)∧Below g w wr) (fun i _=>xs.length-(intOf i).toNat)
 case atStart=>exact⟨0,rfl,j8 _,by simpa using a,by rw[o.out];exact n⟩
 case round=>
  clear a n;obtain⟨k,rfl,D,j,y⟩:=hrel;have hb':Below w.heap.size w wr:=by rw[←o.out];exact y
  have z:=j.block_lt rfl;by_cases hlt:k<xs.length
  ·have E:=h.below hb'
   obtain⟨I,J,rfl,G,R,S,T,U,V,W,X⟩:=jC E k hlt;have L:(k:Int)<(xs.length:Int):=fT;have M:(0:Int)≤(k:Int):=fT;clear hb';go_wp2_with fail;refine(wW xs[k] wr).mono ?_;rintro q P ⟨rfl,b⟩;skip;have r:=y.trans (b.mono (Nat.le_of_lt z));have u:=j.bound.below b;have f:k<((xs.take k).map some++List.replicate (xs.length-k) (none:Option hY)).length:=by rw[ld xs k D];exact hlt
   clear j;apply_assumption;go_wp2_with (refine jP (d:=lO iw) rfl _ _ _ rfl u (g:=g) rfl k f (some xs[k]) (hY.cells xs[k]) (fun _=>False) (fun q=>g≤q) (by first|rfl|exact hnew) (by first|exact fun _ p=>p.elim|exact fun q hq H=>by have C:wr.heap.size≤q:=hq;omega) (fun _ hq=>hq.1) (by first|exact fun _ p=>p.elim|exact fun q hq=>by have C:wr.heap.size≤q:=hq;omega) (by first|rfl|simp[lO,qG,nB,iw,hJ,lS,pF,kx]) (by first|rfl|simp[lJ.cells,ll.cells,hY.cells,ik.cells]) gY ?_;intro Q m t);rw[le xs k hlt] at m;have s:=r.trans (t.below (B:=g) (fun q hq=>fT) (by have:=b.size;omega));go_roundw
   case rel=>exact⟨k+1,by go_num,fT,m,s⟩
   case measure=>exact ms
  ·have f:k=xs.length:=fT
   subst f;have x:Ow iw 91 wr (fun k=>w.heap.size≤k) (.slice (some ⟨g,0,none⟩) xs.length xs.length) xs:=by
    have:=j;rw[li,Nat.sub_self,List.replicate_zero,List.append_nil] at this;rw[←o.out];exact this.filled
   go_wp2_with fail;go_ret;exact⟨_,rfl,x,hb'⟩
theorem sa (v:Value) (xs:List ik) (F:Nat→Prop) (w:World) (h:Rd hJ w F v xs) (hn:xs.length≤1048576):
  Calls Tryz.prog 20 #[v] w fun q w' =>∃v',q= .returned v'∧Ow hJ 101 w' (fun k=>w.heap.size≤k) v' xs∧Below w.heap.size w w':=by
 obtain⟨A,c,rfl,-,-,-⟩:=id h;go_enter Tryz.func20,Tryz.ntmps20;go_wp2_with (refine ma (d:=hJ) (e:=101) rfl _ _ _ rfl Tryz.underlying37 (.agg #[.int .i64 0,.int .i64 0,.int .i64 0,.int .i64 0,.int .i64 0]) 40 gY dc rfl dc _ _ xs.length rfl rfl fT fT ?_;intro O a n);obtain⟨g,l⟩:∃g,g=w.heap.size:=⟨_,rfl⟩;rw[←l] at a;simp only[←l];have o:=fS l;clear l
 go_loopw [4] (fun i wr=>∃k:Nat,i= .int .i64 k∧k≤xs.length∧Ow (lO hJ) 101 wr (fun k=>g≤k) (.slice (some ⟨g,0,none⟩) xs.length xs.length) ((xs.take k).map some++List.replicate (xs.length-k) none)∧Below g w wr) (fun i _=>xs.length-(intOf i).toNat)
 case atStart=>exact⟨0,rfl,j8 _,by simpa using a,by rw[o.out];exact n⟩
 case round=>
  clear a n;obtain⟨k,rfl,D,j,y⟩:=hrel;have hb':Below w.heap.size w wr:=by rw[←o.out];exact y
  have z:=j.block_lt rfl;by_cases hlt:k<xs.length
  ·have E:=h.below hb'
   obtain⟨I,J,rfl,G,R,S,T,U,V⟩:=kh E k hlt;have L:(k:Int)<(xs.length:Int):=fT;have M:(0:Int)≤(k:Int):=fT;clear hb';go_wp2_with fail;refine(DQ xs[k] wr).mono ?_;rintro q P ⟨rfl,b⟩;skip;have r:=y.trans (b.mono (Nat.le_of_lt z));have u:=j.bound.below b;have f:k<((xs.take k).map some++List.replicate (xs.length-k) (none:Option ik)).length:=by rw[ld xs k D];exact hlt
   clear j;apply_assumption;go_wp2_with (refine jP (d:=lO hJ) rfl _ _ _ rfl u (g:=g) rfl k f (some xs[k]) (ik.cells xs[k]) (fun _=>False) (fun q=>g≤q) (by first|rfl|exact hnew) (by first|exact fun _ p=>p.elim|exact fun q hq H=>by have C:wr.heap.size≤q:=hq;omega) (fun _ hq=>hq.1) (by first|exact fun _ p=>p.elim|exact fun q hq=>by have C:wr.heap.size≤q:=hq;omega) (by first|rfl|simp[lO,qG,nB,iw,hJ,lS,pF,kx]) (by first|rfl|simp[lJ.cells,ll.cells,hY.cells,ik.cells]) gY ?_;intro Q m t);rw[le xs k hlt] at m;have s:=r.trans (t.below (B:=g) (fun q hq=>fT) (by have:=b.size;omega));go_roundw
   case rel=>exact⟨k+1,by go_num,fT,m,s⟩
   case measure=>exact ms
  ·have f:k=xs.length:=fT
   subst f;have x:Ow hJ 101 wr (fun k=>w.heap.size≤k) (.slice (some ⟨g,0,none⟩) xs.length xs.length) xs:=by
    have:=j;rw[li,Nat.sub_self,List.replicate_zero,List.append_nil] at this;rw[←o.out];exact this.filled
   go_wp2_with fail;go_ret;exact⟨_,rfl,x,hb'⟩
theorem CO (v:Value) (xs:List iy) (F:Nat→Prop) (w:World) (h:Rd me w F v xs) (hn:xs.length≤1048576) (hops:∀r∈xs,r.rules.length≤1048576∧∀q∈r.rules,q.ops.length≤1048576):
  Calls Tryz.prog 16 #[v] w fun q w' =>∃v',q= .returned v'∧Ow pF 96 w' (fun k=>w.heap.size≤k) v' xs∧Below w.heap.size w w':=by
 obtain⟨A,c,rfl,-,-,-⟩:=id h;go_enter Tryz.func16,Tryz.ntmps16;go_wp2_with (refine ma (d:=pF) (e:=96) rfl _ _ _ rfl Tryz.underlying32 (.agg #[.slice none 0 0]) 24 gY dc rfl dc _ _ xs.length rfl rfl fT fT ?_;intro W a p);obtain⟨g,m⟩:∃g,g=w.heap.size:=⟨_,rfl⟩;rw[←m] at a;simp only[←m];have s:=fS m;clear m
 go_loopw [4] (fun i wr=>∃k:Nat,i= .int .i64 k∧k≤xs.length∧Ow (lO pF) 96 wr (fun k=>g≤k) (.slice (some ⟨g,0,none⟩) xs.length xs.length) ((xs.take k).map some++List.replicate (xs.length-k) none)∧Below g w wr) (fun i _=>xs.length-(intOf i).toNat)
 case atStart=>exact⟨0,rfl,j8 _,by simpa using a,by rw[s.out];exact p⟩
 case round=>
  clear a p;obtain⟨k,rfl,J,l,E⟩:=hrel;have hb':Below w.heap.size w wr:=by rw[←s.out];exact E
  have G:=l.block_lt rfl;by_cases hlt:k<xs.length
  ·have L:=h.below hb'
   obtain⟨R,T,Q,S,rfl,O,Y,H⟩:=oV L k hlt;have U:(k:Int)<(xs.length:Int):=fT;have V:(0:Int)≤(k:Int):=fT;clear hb';go_wp2_with fail;refine(DM xs[k] _ _ wr H (hops _ (List.getElem_mem _)).1 (hops _ (List.getElem_mem _)).2).mono ?_;rintro q M ⟨v',rfl,o,f⟩;obtain⟨B,b,rfl,-⟩:=o.shape;have u:(lO pF).rel M (fun q=>wr.heap.size≤q) (some xs[k]) [.slice B xs[k].rules.length b]:=⟨_,rfl,o⟩;have x:=E.trans (f.mono (Nat.le_of_lt G));have C:=l.bound.below f;have j:k<((xs.take k).map some++List.replicate (xs.length-k) (none:Option iy)).length:=by rw[ld xs k J];exact hlt
   clear l;apply_assumption;go_wp2_with (refine jP (d:=lO pF) rfl _ _ _ rfl C (g:=g) rfl k j (some xs[k]) [.slice B xs[k].rules.length b] (fun q=>wr.heap.size≤q) (fun q=>g≤q) (by first|rfl|exact u) (by first|exact fun _ t=>t.elim|exact fun q hq P=>by have I:wr.heap.size≤q:=hq;omega) (fun _ hq=>hq.1) (by first|exact fun _ t=>t.elim|exact fun q hq=>by have I:wr.heap.size≤q:=hq;omega) (by first|rfl|(simp[lO,qG,nB,iw,hJ,lS,pF,kx];rfl)) (by first|rfl|simp[lJ.cells,ll.cells,hY.cells,ik.cells]) gY ?_;intro X n z);rw[le xs k hlt] at n;have y:=x.trans (z.below (B:=g) (fun q hq=>fT) (by have:=f.size;omega));go_roundw
   case rel=>exact⟨k+1,by go_num,fT,n,y⟩
   case measure=>exact ms
  ·have j:k=xs.length:=fT
   subst j;have D:Ow pF 96 wr (fun k=>w.heap.size≤k) (.slice (some ⟨g,0,none⟩) xs.length xs.length) xs:=by
    have:=l;rw[li,Nat.sub_self,List.replicate_zero,List.append_nil] at this;rw[←s.out];exact this.filled
   go_wp2_with fail;go_ret;exact⟨_,rfl,D,hb'⟩
theorem DA (g:Nat) (F:Nat→Prop) (v:Value) (l:List hY) (w:World) (h:jR iw 214 211 130 w g F v l) (h0:0<l.length) (hl:l.length≤1000):
  Calls Tryz.prog 165 #[.pointer (some ⟨g,0,none⟩)] w fun q w' =>q= .returned (ij (kp l 0))∧∃v',jR iw 214 211 130 w' g F v' (jV gQ l)∧Ch (fun k=>k=g∨F k) w w':=by
 obtain⟨n,hn⟩:∃n,l.length=n+1:=⟨l.length-1,fT⟩;obtain⟨s,A,b9,rfl,aH,bN,-⟩:=h.row.head h0;rw[hn] at h;have cd:n+1≤1000:=fT;have HN:=fS hn;have ah:=h.row;have aw:=h.apart;have bp:=fx h.blk;have B0:=h.blk;have ag:=h.lt;have aZ:g≠s:=fun i=>aw (i▸aH);obtain⟨x,hx⟩:∃x,kp l 0=x:=⟨_,rfl⟩;obtain⟨z,hz⟩:∃z,kp l n=z:=⟨_,rfl⟩;have a2:n<l.length:=fT;have bM:n+1≤A:=by have:=ah.rd.capLe;omega
 obtain⟨bb,oo,a,-,R,T,U,X,Y,Z,z6⟩:=jC (j:=0) ah.rd h0;injection a with a;injection a with i u _;subst i u;simp only[Nat.zero_mul,Nat.zero_add] at R T U X Y Z z6;rw[←iq h0,hx] at R T U X Y Z z6;have HX:=fS hx;have HZ:=fS hz;clear hx hn h hl hz;have a0:=kU B0;have q1:¬g=w.heap.size:=fT;have q2:¬s=w.heap.size:=fT;have q3:((n+1:Nat):Int)-1=(n:Int):=fT;go_enter Tryz.func165,Tryz.ntmps165;go_upto_region 3 with fail;have B:=(ah.alloc (.cells #[.int .i64 0,.int .i64 0,.int .i64 0,.int .i64 0,.int .i64 0,.int .i64 0,.int .i64 0] 214)).alloc (.cells #[x.time,x.to,x.from_,x.count,x.n,x.kind,x.arg] 214);have C:=(gP (o:= .cells #[x.time,x.to,x.from_,x.count,x.n,x.kind,x.arg] 214) (by simp;omega)).trans ((gP (o:= .cells #[.int .i64 0,.int .i64 0,.int .i64 0,.int .i64 0,.int .i64 0,.int .i64 0,.int .i64 0] 214) bp).trans B0);have f:((w.alloc (.cells #[.int .i64 0,.int .i64 0,.int .i64 0,.int .i64 0,.int .i64 0,.int .i64 0,.int .i64 0] 214)).alloc (.cells #[x.time,x.to,x.from_,x.count,x.n,x.kind,x.arg] 214)).heap[w.heap.size]? =some (.cells #[.int .i64 0,.int .i64 0,.int .i64 0,.int .i64 0,.int .i64 0,.int .i64 0,.int .i64 0] 214):=(gP sm).trans (gL rfl);have r:((w.alloc (.cells #[.int .i64 0,.int .i64 0,.int .i64 0,.int .i64 0,.int .i64 0,.int .i64 0,.int .i64 0] 214)).alloc (.cells #[x.time,x.to,x.from_,x.count,x.n,x.kind,x.arg] 214)).heap[w.heap.size+1]? =some (.cells #[x.time,x.to,x.from_,x.count,x.n,x.kind,x.arg] 214):=gL sm;have hC:=((Ch.refl (fun k=>k=g∨F k) w).alloc (.cells #[.int .i64 0,.int .i64 0,.int .i64 0,.int .i64 0,.int .i64 0,.int .i64 0,.int .i64 0] 214)).alloc (.cells #[x.time,x.to,x.from_,x.count,x.n,x.kind,x.arg] 214);generalize (w.alloc (.cells #[.int .i64 0,.int .i64 0,.int .i64 0,.int .i64 0,.int .i64 0,.int .i64 0,.int .i64 0] 214)).alloc (.cells #[x.time,x.to,x.from_,x.count,x.n,x.kind,x.arg] 214)=W at*;clear a0 q1 q2 q3 R T U X Y Z z6 ah B0;have a0:=kU C;obtain⟨bb,oo,a,-,I,J,L,M,O,P,Q⟩:=jC (j:=n) B.rd a2;injection a with a;injection a with i u _;subst i u;simp only[Nat.zero_mul,Nat.zero_add] at I J L M O P Q;rw[←iq a2,HZ.out] at I J L M O P Q;refine kA [.rd [0,1,2,3,4,5,6,7,8,9,10,11]] [12] ?_;refine vL ?_;intro N hN;go_wp2_with fail;refine fV (hN _ ?_);clear hN N;refine vF ?_;have al:Ow iw 214 W.drew F (.slice (some ⟨s,0,none⟩) (n+1) A) l:=B.move (fun _ _=>rfl);refine lE (cells:=hY.cells) (sz:=7) rfl _ _ _ rfl al (g:=s) rfl 0 h0 z (by first|rfl|simp) (by first|rfl|simp[hY.cells]) gY ?_;intro w1 aS y;have B1:=y.heap (show W.drew.heap[g]? =_ from C) aZ;have b0:=kU B1;have b1:=ft B1 0;have p1:(n:Int)≤(A:Int):=fT;have p2:n≤A:=fT;clear a0 I J L M O P Q;go_wp2_with fail;have ay:=(aS.takeP n (by rw[List.length_set];omega)).ch (S:=fun k=>k=g) ((Ch.refl (fun k=>k=g) w1).setCell (p:=⟨g,0,none⟩) (.inl rfl) (.slice (some ⟨s,0,none⟩) n A)) (fun k hk i=>aw (i▸hk));have BV:=gJ B1 0 (.slice (some ⟨s,0,none⟩) n A);simp only[List.setIfInBounds_toArray,List.set_cons_zero] at BV;have aF:Ch (fun k=>k=g∨F k) w (w1.setCell ⟨g,0,none⟩ (.slice (some ⟨s,0,none⟩) n A)):=(hC.drew.then y (fun q hq=> .inl (.inr (by have hq':q=s:=hq;rw[hq'];exact aH)))).setCell (p:=⟨g,0,none⟩) (.inl (.inl rfl)) _;have aM:=(Below.heap_setCell w1 (⟨g,0,none⟩:Addr) (.slice (some ⟨s,0,none⟩) n A) w.heap.size (by simp;omega)).trans (y.heap (show W.drew.heap[w.heap.size]? =_ from f) fT);have aN:=(Below.heap_setCell w1 (⟨g,0,none⟩:Addr) (.slice (some ⟨s,0,none⟩) n A) (w.heap.size+1) (by simp;omega)).trans (y.heap (show W.drew.heap[w.heap.size+1]? =_ from r) fT);have HP:=fS (show jV gQ l=k5 gQ (((l.set 0 z).take n).length+1) ((l.set 0 z).take n) 0 by
  have hn:=HN.out;unfold jV;rw[hn,show n+1-1=n by omega,HZ.out]
  congr 1
  simp;omega)
 have aL:=fS (show((l.set 0 z).take n).length=n by simp;omega);have G:w.heap.size≤(w1.setCell ⟨g,0,none⟩ (.slice (some ⟨s,0,none⟩) n A)).heap.size:=aF.size;clear aS y B1 b0 b1 p1 p2 hC f r C B al;generalize w1.setCell ⟨g,0,none⟩ (.slice (some ⟨s,0,none⟩) n A)=V at*;generalize (l.set 0 z).take n=m0 at*
 go_loopw [5] (fun t wr=>∃(k:Nat) (m:List hY),t= .int .i64 k∧k≤1000∧Hid (m.length=n)∧wr.heap[g]? =some (.cells #[.slice (some ⟨s,0,none⟩) n A,.func (.func 130) #[] #[]] 211)∧wr.heap[w.heap.size]? =some (.cells #[.int .i64 0,.int .i64 0,.int .i64 0,.int .i64 0,.int .i64 0,.int .i64 0,.int .i64 0] 214)∧wr.heap[w.heap.size+1]? =some (.cells #[x.time,x.to,x.from_,x.count,x.n,x.kind,x.arg] 214)∧Ow iw 214 wr F (.slice (some ⟨s,0,none⟩) n A) m∧Ch (fun q=>q=g∨F q) w wr∧w.heap.size≤wr.heap.size∧Hid (jV gQ l=k5 gQ (m.length+1) m k)) (fun t _=>n-(intOf t).toNat)
 case atStart=>exact⟨0,m0,rfl,fT,aL,BV,aM,aN,ay,aF,G,HP⟩
 case round=>
  clear BV aM aN ay aF G HP aL;obtain⟨k,m,rfl,hk,HM,C,f,r,B,hC,G,HP⟩:=hrel;go_upto_region 7 with fail;obtain⟨d,hd⟩:∃d,d=2*k+1:=⟨_,rfl⟩;have aX:2*(k:Int)+1=(d:Int):=fT;have ak:=fS hd;simp only[aX];clear aX hd;by_cases hdn:n≤d
  ·have HE:=fS (show jV gQ l=m by
    rw[HP.out,k5,if_pos (by rw[HM.out,←ak.out];exact hdn)])
   have kd:decide ((d:Int)≥(n:Int))=true:=iW fT;have kd':decide (n≤d)=true:=iW fT;clear hdn;have r0:=kU r;have c0:=kU f;have f0:=ft f 0;have r1:=mc r;have A:=mc f;have f1:=ft f 1;have r2:=mM r;have c2:=mM f;have f2:=ft f 2;have r3:=mS r;have c3:=mS f;have f3:=ft f 3;have r4:=mN r;have c4:=mN f;have f4:=ft f 4;have r5:=nD r;have c5:=nD f;have f5:=ft f 5;have r6:=nE r;have c6:=nE f;have f6:=ft f 6;go_wp2_with fail;have D:Ch (fun q=>q=w.heap.size) wr (((((((wr.setCell ⟨w.heap.size,0,none⟩ (.int .i64 x.time)).setCell ⟨w.heap.size,1,none⟩ (.int .i64 x.to)).setCell ⟨w.heap.size,2,none⟩ (.int .i64 x.from_)).setCell ⟨w.heap.size,3,none⟩ (.int .i64 x.count)).setCell ⟨w.heap.size,4,none⟩ (.int .i64 x.n)).setCell ⟨w.heap.size,5,none⟩ (.int .i64 x.kind)).setCell ⟨w.heap.size,6,none⟩ (.int .i64 x.arg)):=(((((((Ch.refl (fun q=>q=w.heap.size) wr).setCell (p:=⟨w.heap.size,0,none⟩) (.inl rfl) (.int .i64 x.time)).setCell (p:=⟨w.heap.size,1,none⟩) (.inl rfl) (.int .i64 x.to)).setCell (p:=⟨w.heap.size,2,none⟩) (.inl rfl) (.int .i64 x.from_)).setCell (p:=⟨w.heap.size,3,none⟩) (.inl rfl) (.int .i64 x.count)).setCell (p:=⟨w.heap.size,4,none⟩) (.inl rfl) (.int .i64 x.n)).setCell (p:=⟨w.heap.size,5,none⟩) (.inl rfl) (.int .i64 x.kind)).setCell (p:=⟨w.heap.size,6,none⟩) (.inl rfl) (.int .i64 x.arg);have RZ:(((((((wr.setCell ⟨w.heap.size,0,none⟩ (.int .i64 x.time)).setCell ⟨w.heap.size,1,none⟩ (.int .i64 x.to)).setCell ⟨w.heap.size,2,none⟩ (.int .i64 x.from_)).setCell ⟨w.heap.size,3,none⟩ (.int .i64 x.count)).setCell ⟨w.heap.size,4,none⟩ (.int .i64 x.n)).setCell ⟨w.heap.size,5,none⟩ (.int .i64 x.kind)).setCell ⟨w.heap.size,6,none⟩ (.int .i64 x.arg)).heap[w.heap.size]? =some (.cells #[x.time,x.to,x.from_,x.count,x.n,x.kind,x.arg] 214):=by have:=(gJ (gJ (gJ (gJ (gJ (gJ (gJ f 0 (.int .i64 x.time)) 1 (.int .i64 x.to)) 2 (.int .i64 x.from_)) 3 (.int .i64 x.count)) 4 (.int .i64 x.n)) 5 (.int .i64 x.kind)) 6 (.int .i64 x.arg));simpa using this
   generalize (((((((wr.setCell ⟨w.heap.size,0,none⟩ (.int .i64 x.time)).setCell ⟨w.heap.size,1,none⟩ (.int .i64 x.to)).setCell ⟨w.heap.size,2,none⟩ (.int .i64 x.from_)).setCell ⟨w.heap.size,3,none⟩ (.int .i64 x.count)).setCell ⟨w.heap.size,4,none⟩ (.int .i64 x.n)).setCell ⟨w.heap.size,5,none⟩ (.int .i64 x.kind)).setCell ⟨w.heap.size,6,none⟩ (.int .i64 x.arg))=WZ at*;obtain⟨s0,s1,s2,s3,s4,s5,s6⟩:=Fz RZ;refine bodyPost_ret (v:=ij x) (by simp only[results,Tryz.results165,ij];go_simp) rfl ⟨by rw[HX.out],_,⟨D.heap C (fun i=>fT),?_,aw,fun q hq=>sF (ag q hq) (ly G D.size)⟩,hC.then D (fun q hq=> .inr (Nat.le_of_eq hq.symm))⟩;rw[HE.out];exact B.ch D (fun q hq i=>by have:=ag q hq;have u:q=w.heap.size:=i;omega)
  ·have kd:decide ((d:Int)≥(n:Int))=false:=ia fT
   have kd':decide (n≤d)=false:=ia fT;have cc:d<n:=fT;have aI:=fx C;obtain⟨a0,a1⟩:=Cm C;clear hdn;go_upto_region 9 with fail
   go_cut [72] (fun t wc=>∃bt,t= .bool bt∧Hid (decide (d+1<n∧gQ (kp m (d+1)) (kp m d)=true)=bt)∧Below wr.heap.size wr wc)
   case first=>
    by_cases q3:d+1<n
    ·have kt:decide ((d:Int)+1<(n:Int))=true:=iW fT
     have kt':decide (d+1<n)=true:=iW fT;obtain⟨bt,E⟩:∃bt,gQ (kp m (d+1)) (kp m d)=bt:=⟨_,rfl⟩;have HD:=fS (show decide (d+1<n∧gQ (kp m (d+1)) (kp m d)=true)=bt by rw[E];cases bt<;>simp[q3]);have j1:d+1<m.length:=by have:=HM.out;omega
     have j2:d<m.length:=fT;have p1:(d:Int)+1<(n:Int):=fT;have p2:(d:Int)<(n:Int):=fT;obtain⟨bb,oo,a,-,I,J,L,M,O,P,Q⟩:=jC (j:=d+1) B.rd j1;injection a with a;injection a with i u _;subst i u;simp only[Nat.zero_mul,Nat.zero_add] at I J L M O P Q;obtain⟨bb,oo,a,-,R,T,U,X,Y,Z,z6⟩:=jC (j:=d) B.rd j2;injection a with a;injection a with i u _;subst i u;simp only[Nat.zero_mul,Nat.zero_add] at R T U X Y Z z6;rw[iq j1,iq j2] at E;clear q3;refine kA [.rd [0,1,2,3,4,5,6,7,8,9,10,11,12,13,14,15,16,17,18,19,20,21,22,23]] [24,25] ?_;refine vL ?_;intro N hN;go_wp2_with fail;refine fV (hN _ ?_);clear hN N;refine vF ?_;go_wp2_with fail;refine(qy m[d+1] m[d] _).mono ?_;rintro e w5 ⟨he,ax⟩;rw[E] at he;subst he;apply_assumption;go_wp2_with fail;go_meet;exact⟨_,rfl,HD,gK (gM wr.heap.size wr).drew ax⟩
    ·have kt:decide ((d:Int)+1<(n:Int))=false:=ia fT
     have kt':decide (d+1<n)=false:=ia fT;have HD:=fS (show decide (d+1<n∧gQ (kp m (d+1)) (kp m d)=true)=false by simp[q3]);clear q3;refine kA [.rd [0,1,2,3,4,5,6,7,8,9,10,11,12,13,14,15,16,17,18,19,20,21,22,23]] [24,25] ?_;refine vL ?_;intro N hN;go_wp2_with fail;refine fV (hN _ ?_);clear hN N;refine vF ?_;go_wp2_with fail;go_meet;exact⟨_,rfl,HD,(gM wr.heap.size wr).drew⟩
   case rest=>
    obtain⟨bt,rfl,HB,hc⟩:=hcut;have au:=fu hc aI C;have aC:=fu hc (fx f) f;have aD:=fu hc (fx r) r;have av:=B.below hc;have aR:=hC.trans (Ch.of_below hc);have aV:=ly G hc.size;have aY:=fx au;clear C f r B hC G aI a0 a1 hc;obtain⟨c,am⟩:∃c,c=mB gQ m k:=⟨_,rfl⟩;have aW:c=if bt=true then d+1 else d:=by
     rw[am];unfold mB;rw[←ak.out,HM.out,←HB.out];simp
    have cb:c<n:=by
     have:=pL (lt:=gQ) (l:=m) (k:=k) (by rw[HM.out,←ak.out];omega);rw[am,←HM.out];exact this
    have ca:k<c:=by rw[am];exact(qp (lt:=gQ) m k).2.2
    have HC:=fS am;clear am HB;obtain⟨a0,a1⟩:=Cm au;have aB:=fS aW;clear aW;cases bt
    all_goals go_upto_region 11 with fail
    all_goals first|(have e0:c=d:=aB.out;have i:(d:Int)=(c:Int):=(congrArg Int.ofNat e0).symm;simp only[i];clear e0 i)|(have e0:c=d+1:=aB.out;have i:(d:Int)+1=(c:Int):=(congrArg Int.ofNat e0).symm;simp only[i];clear e0 i)
    all_goals
     clear aB;have j1:c<m.length:=by have:=HM.out;omega
     have j2:k<m.length:=fT;have p1:(c:Int)<(n:Int):=fT;have p2:(k:Int)<(n:Int):=fT;obtain⟨bb,oo,a,-,I,J,L,M,O,P,Q⟩:=jC (j:=c) av.rd j1;injection a with a;injection a with i u _;subst i u;simp only[Nat.zero_mul,Nat.zero_add] at I J L M O P Q;obtain⟨bb,oo,a,-,R,T,U,X,Y,Z,z6⟩:=jC (j:=k) av.rd j2;injection a with a;injection a with i u _;subst i u;simp only[Nat.zero_mul,Nat.zero_add] at R T U X Y Z z6;obtain⟨bn,E⟩:∃b,gQ m[c] m[k]=b:=⟨_,rfl⟩;refine kA [.rd [0,1,2,3,4,5,6,7,8,9,10,11,12,13,14,15,16,17]] [18,19] ?_;refine vL ?_;intro N hN;go_wp2_with fail;refine fV (hN _ ?_);clear hN N;refine vF ?_;go_wp2_with fail;refine(qy m[c] m[k] _).mono ?_;rintro e w5 ⟨he,ax⟩;rw[E] at he;subst he;have H:=gK (gM wc.heap.size wc).drew ax;have C:=fu H aY au;have f:=fu H (fx aC) aC;have r:=fu H (fx aD) aD;have B:=av.below H;have hC:=aR.trans (Ch.of_below H);have G:=ly aV H.size;clear au aC aD av aR aV aY a0 a1 I J L M O P Q R T U X Y Z z6 ax H;apply_assumption;cases bn
     case false=>
      have HE:=fS (show jV gQ l=m by
       rw[HP.out,k5,if_neg (by rw[HM.out,←ak.out];omega),if_neg (by rw[←HC.out,iq j1,iq j2,E];simp)])
      clear E;have r0:=kU r;have c0:=kU f;have f0:=ft f 0;have r1:=mc r;have A:=mc f;have f1:=ft f 1;have r2:=mM r;have c2:=mM f;have f2:=ft f 2;have r3:=mS r;have c3:=mS f;have f3:=ft f 3;have r4:=mN r;have c4:=mN f;have f4:=ft f 4;have r5:=nD r;have c5:=nD f;have f5:=ft f 5;have r6:=nE r;have c6:=nE f;have f6:=ft f 6;go_wp2_with fail;have D:Ch (fun q=>q=w.heap.size) w5 (((((((w5.setCell ⟨w.heap.size,0,none⟩ (.int .i64 x.time)).setCell ⟨w.heap.size,1,none⟩ (.int .i64 x.to)).setCell ⟨w.heap.size,2,none⟩ (.int .i64 x.from_)).setCell ⟨w.heap.size,3,none⟩ (.int .i64 x.count)).setCell ⟨w.heap.size,4,none⟩ (.int .i64 x.n)).setCell ⟨w.heap.size,5,none⟩ (.int .i64 x.kind)).setCell ⟨w.heap.size,6,none⟩ (.int .i64 x.arg)):=(((((((Ch.refl (fun q=>q=w.heap.size) w5).setCell (p:=⟨w.heap.size,0,none⟩) (.inl rfl) (.int .i64 x.time)).setCell (p:=⟨w.heap.size,1,none⟩) (.inl rfl) (.int .i64 x.to)).setCell (p:=⟨w.heap.size,2,none⟩) (.inl rfl) (.int .i64 x.from_)).setCell (p:=⟨w.heap.size,3,none⟩) (.inl rfl) (.int .i64 x.count)).setCell (p:=⟨w.heap.size,4,none⟩) (.inl rfl) (.int .i64 x.n)).setCell (p:=⟨w.heap.size,5,none⟩) (.inl rfl) (.int .i64 x.kind)).setCell (p:=⟨w.heap.size,6,none⟩) (.inl rfl) (.int .i64 x.arg);have RZ:(((((((w5.setCell ⟨w.heap.size,0,none⟩ (.int .i64 x.time)).setCell ⟨w.heap.size,1,none⟩ (.int .i64 x.to)).setCell ⟨w.heap.size,2,none⟩ (.int .i64 x.from_)).setCell ⟨w.heap.size,3,none⟩ (.int .i64 x.count)).setCell ⟨w.heap.size,4,none⟩ (.int .i64 x.n)).setCell ⟨w.heap.size,5,none⟩ (.int .i64 x.kind)).setCell ⟨w.heap.size,6,none⟩ (.int .i64 x.arg)).heap[w.heap.size]? =some (.cells #[x.time,x.to,x.from_,x.count,x.n,x.kind,x.arg] 214):=by have:=(gJ (gJ (gJ (gJ (gJ (gJ (gJ f 0 (.int .i64 x.time)) 1 (.int .i64 x.to)) 2 (.int .i64 x.from_)) 3 (.int .i64 x.count)) 4 (.int .i64 x.n)) 5 (.int .i64 x.kind)) 6 (.int .i64 x.arg));simpa using this
      generalize (((((((w5.setCell ⟨w.heap.size,0,none⟩ (.int .i64 x.time)).setCell ⟨w.heap.size,1,none⟩ (.int .i64 x.to)).setCell ⟨w.heap.size,2,none⟩ (.int .i64 x.from_)).setCell ⟨w.heap.size,3,none⟩ (.int .i64 x.count)).setCell ⟨w.heap.size,4,none⟩ (.int .i64 x.n)).setCell ⟨w.heap.size,5,none⟩ (.int .i64 x.kind)).setCell ⟨w.heap.size,6,none⟩ (.int .i64 x.arg))=WZ at*;obtain⟨s0,s1,s2,s3,s4,s5,s6⟩:=Fz RZ;refine bodyPost_ret (v:=ij x) (by simp only[results,Tryz.results165,ij];go_simp) rfl ⟨by rw[HX.out],_,⟨D.heap C (fun i=>fT),?_,aw,fun q hq=>sF (ag q hq) (ly G D.size)⟩,hC.then D (fun q hq=> .inr (Nat.le_of_eq hq.symm))⟩;rw[HE.out];exact B.ch D (fun q hq i=>by have:=ag q hq;have u:q=w.heap.size:=i;omega)
     case true=>
      have a3:(m.set k m[c]).set c m[k]=po m k c:=by rw[po,iq j2,iq j1]
      have bi:=fS a3;have an:(po m k c).length=m.length:=kH m k c;have bg:=fS (show(po m k c).length=n by rw[an];exact HM.out);have bh:=fS (show jV gQ l=k5 gQ ((po m k c).length+1) (po m k c) c by
       rw[HP.out,k5,if_neg (by rw[HM.out,←ak.out];omega),if_pos (by rw[←HC.out,iq j1,iq j2,E]),←HC.out,an];exact rg _ _ _ _ (by rw[an];omega) (by rw[an];omega))
      clear E a3 an HP;have a0:=kU C;go_upto_region 13 with fail;obtain⟨bb,oo,a,-,I,J,L,M,O,P,Q⟩:=jC (j:=c) B.rd j1;injection a with a;injection a with i u _;subst i u;simp only[Nat.zero_mul,Nat.zero_add] at I J L M O P Q;obtain⟨bb,oo,a,-,R,T,U,X,Y,Z,z6⟩:=jC (j:=k) B.rd j2;injection a with a;injection a with i u _;subst i u;simp only[Nat.zero_mul,Nat.zero_add] at R T U X Y Z z6;refine kA [.rd [0,1,2,3,4,5,6,7,8,9,10,11,12,13,14,15,16,17,18,19,20,21,22,23]] [24,25,26,27] ?_;refine vL ?_;intro N hN;go_wp2_with fail;refine fV (hN _ ?_);clear hN N;refine vF ?_;have al:Ow iw 214 w5.drew F (.slice (some ⟨s,0,none⟩) n A) m:=B.move (fun _ _=>rfl);clear a0 I J L M O P Q R T U X Y Z z6;go_wp2_with (first|(refine lE (cells:=hY.cells) (sz:=7) rfl _ _ _ rfl aT (g:=s) rfl c (by simpa using j1) m[k] (by first|rfl|simp) (by first|rfl|simp[hY.cells]) gY ?_;intro wb aU aQ)|(refine lE (cells:=hY.cells) (sz:=7) rfl _ _ _ rfl al (g:=s) rfl k j2 m[c] (by first|rfl|simp) (by first|rfl|simp[hY.cells]) gY ?_;intro wa aT aP));have y:=aP.trans aQ;have b':=y.size;rw[bi.out] at aU;have BX:=y.heap (show w5.drew.heap[g]? =_ from C) aZ;have bl:=y.heap (show w5.drew.heap[w.heap.size]? =_ from f) fT;have bm:=y.heap (show w5.drew.heap[w.heap.size+1]? =_ from r) fT;have aO:=hC.drew.then y (fun q hq=> .inl (.inr (by have hq':q=s:=hq;rw[hq'];exact aH)));clear C f r B hC al aT aP aQ;go_roundw
      case rel=>exact⟨c,po m k c,rfl,fT,bg,BX,bl,bm,aU,aO,aO.size,bh⟩
      case measure=>exact ms
theorem tH {α:Type} {d:Ty α} {e:TypeId} {P:Program} {ops:Array Oper} {rest:List Oper} {o:Oper} {a:Act} {w:World} {Q:Exit→Act→World→Prop} (hg:o.guard=none) (l c:Operand) (t:TypeId) (hop:o.op=Op.makeSlice t l c) (ht:P.underlying t=some (.slice e)) (z:Value) (bytes:Nat)
  (hinfo:(P.info? e).map (fun i=>(i.zero,i.size,i.bytes))=some (some z,d.sz,bytes)) (kl kc:IntKind) (n:Nat) (hl:a.eval l= .int kl 0) (hc:a.eval c= .int kc (n:Int)) (hb:bytes*n≤281474976710656) (hn:n≤9223372036854775807)
  (h:∀w1,Ow d e w1 (fun k=>w.heap.size≤k) (.slice (some ⟨w.heap.size,0,none⟩) 0 n) []→Below w.heap.size w w1→wpList P ops Q rest (a.put o.dst (.slice (some ⟨w.heap.size,0,none⟩) 0 n)) w1):wpList P ops Q (o::rest) a w:=by
 obtain⟨i,b,f,m,p⟩:=info_parts hinfo;refine wpList_make_own w hg l c t hop 0 e i z d.sz ht b f m kl kc (n:Int) n hl hc rfl (by rw[p];exact hb) (by unfold maxLen;omega) (j8 _) fun w1 s u=>?_;refine h w1 ⟨[],fun _ _=>False,s,fun g hg=>by simp[Value.ownBlock] at hg;subst hg;exact jn _,fun _ _ h=>h.elim,fun _ _ _ _ h=>h.elim,fun j x q=>by simp at q⟩ ?_;exact Ch.below0 ((Ch.refl _ w).grown u (fun k r=>by cases r))
theorem jR.ch {α:Type} {d:Ty α} {e t:TypeId} {less:FuncId} {w w':World} {g:Nat} {F S:Nat→Prop} {v:Value} {xs:List α} (h:jR d e t less w g F v xs) (hc:Ch S w w') (hg:¬S g) (hF:∀k,F k→¬S k):jR d e t less w' g F v xs:=
 ⟨hc.heap h.blk hg,h.row.ch hc hF,h.apart,fun k hk=>sF (h.lt k hk) hc.size⟩
theorem jR.below {α:Type} {d:Ty α} {e t:TypeId} {less:FuncId} {w w':World} {g:Nat} {F:Nat→Prop} {v:Value} {xs:List α} (h:jR d e t less w g F v xs) (hb:Below w.heap.size w w'):jR d e t less w' g F v xs:=
 ⟨fu hb (fx h.blk) h.blk,h.row.below hb,h.apart,fun k hk=>sF (h.lt k hk) hb.size⟩
theorem sU {α:Type} [Inhabited α] {lt:α→α→Bool} {l:List α} (h:0<l.length):jU lt l.length l=kp l 0::jU lt (jV lt l).length (jV lt l):=by
 rw[mi l h];obtain⟨n,a⟩:∃n,l.length=n+1:=⟨l.length-1,fT⟩;rw[a,jU,if_neg fT,show n+1-1=n by omega]
theorem zk (g:Nat) (F:Nat→Prop) (v:Value) (l:List ik) (w:World) (h:jR hJ 101 222 124 w g F v l) (hl:l.length≤1000):
  Calls Tryz.prog 137 #[.pointer (some ⟨g,0,none⟩)] w fun q w' =>∃u,q= .returned u∧Ow hJ 101 w' (fun k=>w.heap.size≤k) u (jU gO l.length l)∧Ch (fun k=>k=g∨F k) w w':=by
 obtain⟨I,M,rfl,m1⟩:=h.row.shape;have ab:=fx h.blk;have i:=h.lt;have D:w.cell? ⟨g,0,none⟩=some (.slice I l.length M):=fw h.blk 0;go_enter Tryz.func137,Tryz.ntmps137;go_wp2_with (refine tH (d:=hJ) (e:=101) rfl _ _ _ rfl Tryz.underlying37 _ 40 kz _ _ l.length rfl rfl fT fT ?_;intro s c j);have t:Ch (fun k=>k=g∨F k) w s:=Ch.of_below j;have J:jR hJ 101 222 124 s g F (.slice I l.length M) l:=h.below j;clear h D j
 go_loopg [3] l.length (fun n u wr=>∃(m a:List ik) (v:Value),jR hJ 101 222 124 wr g F v m∧Ow hJ 101 wr (fun k=>w.heap.size≤k) u a∧Ch (fun k=>k=g∨F k) w wr∧a.length+m.length≤1000∧Hid (m.length=n)∧Hid (a++jU gO m.length m=jU gO l.length l))
 case atStart=>exact⟨l,[],_,J,c,t,by simpa using hl,rfl,rfl⟩
 case round=>
  clear J c t;obtain⟨m,a,v,H,p,E,ac,L,B⟩:=hrel;obtain⟨T,W,rfl,m2⟩:=H.row.shape;obtain⟨A3,c3,rfl,m3⟩:=p.shape;have D:wr.cell? ⟨g,0,none⟩=some (.slice T m.length W):=fw H.blk 0;have G:=fx H.blk;by_cases h0:m.length=0
  ·have Y:decide ((m.length:Int)>0)=false:=ia fT
   have Z:decide (0<m.length)=false:=ia fT;have C:=fS (show jU gO l.length l=a by rw[←B.out,h0,jU];simp);clear h0;go_wp2_with fail;go_ret;exact⟨_,rfl,by rw[C.out];exact p,E⟩
  ·have r:0<m.length:=fT
   have Y:decide ((m.length:Int)>0)=true:=iW fT;have Z:decide (0<m.length)=true:=iW r;have C:=fS (show(a++[kp m 0])++jU gO (jV gO m).length (jV gO m)=jU gO l.length l by rw[←B.out,sU r];simp);have R:(jV gO m).length+1=m.length:=by rw[mi m r];omega
   have Q:(jV gO m).length<gk:=by have:=L.out;omega
   have V:=fS R;have ad:a.length<1000:=fT;clear h0 R B L;go_wp2_with fail;refine(Cv g F _ m _ H r fT).mono ?_;rintro e S ⟨rfl,v5,U,f⟩;generalize kp m 0=x at*;have A:=p.ch f (fun k b=>by
    have hk':w.heap.size≤k:=b;rintro(O|O)
    ·omega
    ·have:=i k O;omega)
   have y:=E.trans f;clear H p E f D G;unfold l7;apply_assumption;go_wp2_with (at_builtin;refine ky (d:=hJ) rfl 37 rfl Tryz.underlying37 _ 40 kz rfl dc dc rfl (A.alloc _) x _ rfl (gL rfl) (fun _=>False) rfl (fun _ o=>o.elim) (fun _ o=>o.elim) fT (fun k=>w.heap.size≤k) (fun _ b=>b) (fun _ o=>o.elim) (fun k b=>by have:=y.size;simp at b;omega) ?_;intro v1 s c P X);have z:Ch (fun k=>w.heap.size≤k) S s:=((Ch.refl (fun k=>w.heap.size≤k) S).alloc _).grown P (fun k b=> .inl (A.inF b))
   go_roundg (jV gO m).length
   case measure=>exact Q
   case rel=>exact⟨jV gO m,a++[x],v5,U.ch z fT (fun k b=>by have:=i k b;omega),c,y.then z (fun k b=> .inr b),by simp;have:=V.out;omega,rfl,C⟩
theorem Az (g:Nat) (F:Nat→Prop) (v:Value) (l:List hY) (w:World) (h:jR iw 214 211 130 w g F v l) (hl:l.length≤1000):
  Calls Tryz.prog 133 #[.pointer (some ⟨g,0,none⟩)] w fun q w' =>∃u,q= .returned u∧Ow iw 214 w' (fun k=>w.heap.size≤k) u (jU gQ l.length l)∧Ch (fun k=>k=g∨F k) w w':=by
 obtain⟨I,M,rfl,m1⟩:=h.row.shape;have ab:=fx h.blk;have i:=h.lt;have D:w.cell? ⟨g,0,none⟩=some (.slice I l.length M):=fw h.blk 0;go_enter Tryz.func133,Tryz.ntmps133;go_wp2_with (refine tH (d:=iw) (e:=214) rfl _ _ _ rfl Tryz.underlying209 _ 56 uh _ _ l.length rfl rfl fT fT ?_;intro s c j);have t:Ch (fun k=>k=g∨F k) w s:=Ch.of_below j;have J:jR iw 214 211 130 s g F (.slice I l.length M) l:=h.below j;clear h D j
 go_loopg [3] l.length (fun n u wr=>∃(m a:List hY) (v:Value),jR iw 214 211 130 wr g F v m∧Ow iw 214 wr (fun k=>w.heap.size≤k) u a∧Ch (fun k=>k=g∨F k) w wr∧a.length+m.length≤1000∧Hid (m.length=n)∧Hid (a++jU gQ m.length m=jU gQ l.length l))
 case atStart=>exact⟨l,[],_,J,c,t,by simpa using hl,rfl,rfl⟩
 case round=>
  clear J c t;obtain⟨m,a,v,H,p,E,ac,L,B⟩:=hrel;obtain⟨T,W,rfl,m2⟩:=H.row.shape;obtain⟨A3,c3,rfl,m3⟩:=p.shape;have D:wr.cell? ⟨g,0,none⟩=some (.slice T m.length W):=fw H.blk 0;have G:=fx H.blk;by_cases h0:m.length=0
  ·have Y:decide ((m.length:Int)>0)=false:=ia fT
   have Z:decide (0<m.length)=false:=ia fT;have C:=fS (show jU gQ l.length l=a by rw[←B.out,h0,jU];simp);clear h0;go_wp2_with fail;go_ret;exact⟨_,rfl,by rw[C.out];exact p,E⟩
  ·have r:0<m.length:=fT
   have Y:decide ((m.length:Int)>0)=true:=iW fT;have Z:decide (0<m.length)=true:=iW r;have C:=fS (show(a++[kp m 0])++jU gQ (jV gQ m).length (jV gQ m)=jU gQ l.length l by rw[←B.out,sU r];simp);have R:(jV gQ m).length+1=m.length:=by rw[mi m r];omega
   have Q:(jV gQ m).length<gk:=by have:=L.out;omega
   have V:=fS R;have ad:a.length<1000:=fT;clear h0 R B L;go_wp2_with fail;refine(DA g F _ m _ H r fT).mono ?_;rintro e S ⟨rfl,v5,U,f⟩;generalize kp m 0=x at*;have A:=p.ch f (fun k b=>by
    have hk':w.heap.size≤k:=b;rintro(O|O)
    ·omega
    ·have:=i k O;omega)
   have y:=E.trans f;clear H p E f D G;unfold ij;apply_assumption;go_wp2_with (at_builtin;refine ky (d:=iw) rfl 209 rfl Tryz.underlying209 _ 56 uh rfl dc dc rfl (A.alloc _) x _ rfl (gL rfl) (fun _=>False) rfl (fun _ o=>o.elim) (fun _ o=>o.elim) fT (fun k=>w.heap.size≤k) (fun _ b=>b) (fun _ o=>o.elim) (fun k b=>by have:=y.size;simp at b;omega) ?_;intro v1 s c P X);have z:Ch (fun k=>w.heap.size≤k) S s:=((Ch.refl (fun k=>w.heap.size≤k) S).alloc _).grown P (fun k b=> .inl (A.inF b))
   go_roundg (jV gQ m).length
   case measure=>exact Q
   case rel=>exact⟨jV gQ m,a++[x],v5,U.ch z fT (fun k b=>by have:=i k b;omega),c,y.then z (fun k b=> .inr b),by simp;have:=V.out;omega,rfl,C⟩
end Go.Proofs.YtlndjfflhegkdaaGreatDoor
