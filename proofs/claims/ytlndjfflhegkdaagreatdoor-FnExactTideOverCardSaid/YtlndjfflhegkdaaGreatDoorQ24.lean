/- Parts of the proof: Ex3, Imp5. -/
import Derived.Test.YtlndjfflhegkdaaGreatDoorQ20
import Derived.Test.YtlndjfflhegkdaaGreatDoorQ23
set_option linter.unusedVariables false
set_option linter.unusedSimpArgs false
set_option linter.unusedSectionVars false
set_option maxHeartbeats 4000000
set_option maxRecDepth 100000
namespace Go.Proofs.YtlndjfflhegkdaaGreatDoor
open Go.RowKit
theorem le {α:Type} (xs:List α) (k:Nat) (h:k<xs.length):((xs.take k).map some++List.replicate (xs.length-k) none).set k (some xs[k])=(xs.take (k+1)).map some++List.replicate (xs.length-(k+1)) (none:Option α):=by
 have a:xs.length-k=(xs.length-(k+1))+1:=fT;have b:((xs.take k).map some).length=k:=by simp;omega
 rw[a,List.replicate_succ,List.set_append_right _ _ fT,b,Nat.sub_self,List.set_cons_zero];have c:xs.take (k+1)=xs.take k++[xs[k]]:=vX h;rw[c,List.map_append,List.append_assoc];rfl
theorem ld {α:Type} (xs:List α) (k:Nat) (h:k≤xs.length):((xs.take k).map some++List.replicate (xs.length-k) (none:Option α)).length=xs.length:=by simp;omega
theorem ET (x:lJ) (w:World):Calls Tryz.prog 172 #[.agg #[x.d,x.a,x.b,x.c,x.e]] w fun q w' =>q= .returned (.agg #[x.d,x.a,x.b,x.c,x.e])∧Below w.heap.size w w':=by
 go_enter Tryz.func172,Tryz.ntmps172;go_wp2_with fail;refine bodyPost_ret (v:= .agg #[x.d,x.a,x.b,x.c,x.e]) (by simp only[results,Tryz.results172];go_simp) rfl ⟨rfl,?_⟩;refine Ch.below0 ?_
 repeat (first|(with_reducible exact Ch.refl _ _)|(with_reducible refine Ch.alloc ?_ _)|(refine Ch.setCell ?_ (Or.inr (by simp only[lb];omega)) _))
theorem wX (s:ll) (w:World):Calls Tryz.prog 151 #[.agg #[s.x,s.y,s.c]] w fun q w' =>q= .returned (.agg #[s.x,s.y,s.c])∧Below w.heap.size w w':=by
 go_enter Tryz.func151,Tryz.ntmps151;go_wp2_with fail;refine bodyPost_ret (v:= .agg #[s.x,s.y,s.c]) (by simp only[results,Tryz.results151];go_simp) rfl ⟨rfl,?_⟩;refine Ch.below0 ?_
 repeat (first|(with_reducible exact Ch.refl _ _)|(with_reducible refine Ch.alloc ?_ _)|(refine Ch.setCell ?_ (Or.inr (by simp only[lb];omega)) _))
theorem wW (x:hY) (w:World):Calls Tryz.prog 116 #[.agg #[x.time,x.to,x.from_,x.count,x.n,x.kind,x.arg]] w fun q w' =>q= .returned (.agg #[x.time,x.to,x.from_,x.count,x.n,x.kind,x.arg])∧Below w.heap.size w w':=by
 go_enter Tryz.func116,Tryz.ntmps116;go_wp2_with fail;refine bodyPost_ret (v:= .agg #[x.time,x.to,x.from_,x.count,x.n,x.kind,x.arg]) (by simp only[results,Tryz.results116];go_simp) rfl ⟨rfl,?_⟩;refine Ch.below0 ?_
 repeat (first|(with_reducible exact Ch.refl _ _)|(with_reducible refine Ch.alloc ?_ _)|(refine Ch.setCell ?_ (Or.inr (by simp only[lb];omega)) _))
theorem DP (v:Value) (xs:List lJ) (F:Nat→Prop) (w:World) (h:Rd qG w F v xs) (hn:xs.length≤1048576):
  Calls Tryz.prog 150 #[v] w fun q w' =>∃v',q= .returned v'∧Ow qG 175 w' (fun k=>w.heap.size≤k) v' xs∧Below w.heap.size w w':=by
 obtain⟨A,c,rfl,-,-,-⟩:=id h;go_enter Tryz.func150,Tryz.ntmps150;go_wp2_with (refine ma (d:=qG) (e:=175) rfl _ _ _ rfl Tryz.underlying116 (.agg #[.int .i64 0,.int .i64 0,.int .i64 0,.int .i64 0,.int .i64 0]) 40 gY dc rfl dc _ _ xs.length rfl rfl fT fT ?_;intro O a n);obtain⟨g,l⟩:∃g,g=w.heap.size:=⟨_,rfl⟩;rw[←l] at a;simp only[←l];have o:=fS l;clear l
 go_loopw [4] (fun i wr=>∃k:Nat,i= .int .i64 k∧k≤xs.length∧Ow (lO qG) 175 wr (fun k=>g≤k) (.slice (some ⟨g,0,none⟩) xs.length xs.length) ((xs.take k).map some++List.replicate (xs.length-k) none)∧Below g w wr) (fun i _=>xs.length-(intOf i).toNat)
 case atStart=>exact⟨0,rfl,j8 _,by simpa using a,by rw[o.out];exact n⟩
 case round=>
  clear a n;obtain⟨k,rfl,D,j,y⟩:=hrel;have hb':Below w.heap.size w wr:=by rw[←o.out];exact y
  have z:=j.block_lt rfl;by_cases hlt:k<xs.length
  ·have E:=h.below hb'
   obtain⟨I,J,rfl,G,R,S,T,U,V⟩:=uH E k hlt;have L:(k:Int)<(xs.length:Int):=fT;have M:(0:Int)≤(k:Int):=fT;clear hb';go_wp2_with fail;refine(ET xs[k] wr).mono ?_;rintro q P ⟨rfl,b⟩;skip;have r:=y.trans (b.mono (Nat.le_of_lt z));have u:=j.bound.below b;have f:k<((xs.take k).map some++List.replicate (xs.length-k) (none:Option lJ)).length:=by rw[ld xs k D];exact hlt
   clear j;apply_assumption;go_wp2_with (refine jP (d:=lO qG) rfl _ _ _ rfl u (g:=g) rfl k f (some xs[k]) (lJ.cells xs[k]) (fun _=>False) (fun q=>g≤q) (by first|rfl|exact hnew) (by first|exact fun _ p=>p.elim|exact fun q hq H=>by have C:wr.heap.size≤q:=hq;omega) (fun _ hq=>hq.1) (by first|exact fun _ p=>p.elim|exact fun q hq=>by have C:wr.heap.size≤q:=hq;omega) (by first|rfl|simp[lO,qG,nB,iw,hJ,lS,pF,kx]) (by first|rfl|simp[lJ.cells,ll.cells,hY.cells,ik.cells]) gY ?_;intro Q m t);rw[le xs k hlt] at m;have s:=r.trans (t.below (B:=g) (fun q hq=>fT) (by have:=b.size;omega));go_roundw
   case rel=>exact⟨k+1,by go_num,fT,m,s⟩
   case measure=>exact ms
  ·have f:k=xs.length:=fT
   subst f;have x:Ow qG 175 wr (fun k=>w.heap.size≤k) (.slice (some ⟨g,0,none⟩) xs.length xs.length) xs:=by
    have:=j;rw[li,Nat.sub_self,List.replicate_zero,List.append_nil] at this;rw[←o.out];exact this.filled
   go_wp2_with fail;go_ret;exact⟨_,rfl,x,hb'⟩
theorem CU (x:jL) (v:Value) (F:Nat→Prop) (w:World) (h:Rd qG w F v x.ops) (hn:x.ops.length≤1048576):
  Calls Tryz.prog 114 #[.agg #[x.kind,v]] w fun q w' =>∃v',q= .returned (.agg #[x.kind,v'])∧Ow qG 175 w' (fun k=>w.heap.size≤k) v' x.ops∧Below w.heap.size w w':=by
 obtain⟨A,c,rfl,-⟩:=h.shape;go_enter Tryz.func114,Tryz.ntmps114;go_wp2_with fail;obtain⟨W,hV,i,_,n,j⟩:=Dc w (.cells #[x.kind,.slice A x.ops.length c] 164) (.cells #[.int .i64 0,.slice none 0 0] 118) (.cells #[x.kind,.slice none 0 0] 118);rw[hV.out];clear hV;refine(DP _ x.ops F W (h.below i) hn).mono ?_;rintro q e ⟨v',rfl,o,d⟩;obtain⟨B,b,rfl,-⟩:=o.shape;have a:=fu d (fx n) n;have f:=fu d (fx j) j;have M:=fx j;have hb1':=fU i d i.size;have C:=kU a;have H:=ft a 0;have D:=mc a;have I:=ft a 1;have E:=kU f;have J:=ft f 0;have G:=mc f;have L:=ft f 1;apply_assumption;go_wp2_with fail;have t:Ch (fun k=>k=w.heap.size+1+1) e (e.setCell ⟨w.heap.size+1+1,1,none⟩ (.slice B x.ops.length b)):=Ch.setCell (p:=⟨w.heap.size+1+1,1,none⟩) (Ch.refl (fun k=>k=w.heap.size+1+1) _) (Or.inl rfl) _;have l:=(gJ (gJ (t.heap a (fun u=>fT)) 0 (.int .i64 x.kind)) 1 (.slice B x.ops.length b));simp only[qT,qU,qV] at l;have m:Ch (fun k=>k=w.heap.size+1+1∨k=w.heap.size+1) e (((e.setCell ⟨w.heap.size+1+1,1,none⟩ (.slice B x.ops.length b)).setCell ⟨w.heap.size+1,0,none⟩ (.int .i64 x.kind)).setCell ⟨w.heap.size+1,1,none⟩ (.slice B x.ops.length b)):=by
  repeat (first|(with_reducible exact Ch.refl _ _)|(refine Ch.setCell ?_ (Or.inl (Or.inr rfl)) _)|(refine Ch.setCell ?_ (Or.inl (Or.inl rfl)) _))
 have r:=(o.ch m (fun k g u=>by have y:W.heap.size≤k:=g;omega)).mono (F':=fun k=>w.heap.size≤k) (fun k g=>by have y:W.heap.size≤k:=g;show w.heap.size≤k;omega);have s:=hb1'.trans (m.below (B:=w.heap.size) (fun k g=>fT) hb1'.size);generalize (((e.setCell ⟨w.heap.size+1+1,1,none⟩ (.slice B x.ops.length b)).setCell ⟨w.heap.size+1,0,none⟩ (.int .i64 x.kind)).setCell ⟨w.heap.size+1,1,none⟩ (.slice B x.ops.length b))=z at*;obtain⟨O,P⟩:=Cm l;refine bodyPost_ret (v:= .agg #[x.kind,.slice B x.ops.length b]) (by simp only[results,Tryz.results114];go_simp) rfl ⟨_,rfl,r,s⟩
theorem Bu (v:Value) (xs:List jL) (F:Nat→Prop) (w:World) (h:Rd kT w F v xs) (hn:xs.length≤1048576) (hops:∀r∈xs,r.ops.length≤1048576):
  Calls Tryz.prog 76 #[v] w fun q w' =>∃v',q= .returned v'∧Ow lS 118 w' (fun k=>w.heap.size≤k) v' xs∧Below w.heap.size w w':=by
 obtain⟨A,c,rfl,-,-,-⟩:=id h;go_enter Tryz.func76,Tryz.ntmps76;go_wp2_with (refine ma (d:=lS) (e:=118) rfl _ _ _ rfl Tryz.underlying94 (.agg #[.int .i64 0,.slice none 0 0]) 32 gY dc rfl dc _ _ xs.length rfl rfl fT fT ?_;intro W a p);obtain⟨g,m⟩:∃g,g=w.heap.size:=⟨_,rfl⟩;rw[←m] at a;simp only[←m];have s:=fS m;clear m
 go_loopw [4] (fun i wr=>∃k:Nat,i= .int .i64 k∧k≤xs.length∧Ow (lO lS) 118 wr (fun k=>g≤k) (.slice (some ⟨g,0,none⟩) xs.length xs.length) ((xs.take k).map some++List.replicate (xs.length-k) none)∧Below g w wr) (fun i _=>xs.length-(intOf i).toNat)
 case atStart=>exact⟨0,rfl,j8 _,by simpa using a,by rw[s.out];exact p⟩
 case round=>
  clear a p;obtain⟨k,rfl,J,l,E⟩:=hrel;have hb':Below w.heap.size w wr:=by rw[←s.out];exact E
  have G:=l.block_lt rfl;by_cases hlt:k<xs.length
  ·have L:=h.below hb'
   obtain⟨R,T,Q,S,rfl,O,Y,Z,H⟩:=mv L k hlt;have U:(k:Int)<(xs.length:Int):=fT;have V:(0:Int)≤(k:Int):=fT;clear hb';go_wp2_with fail;refine(CU xs[k] _ _ wr H (hops _ (List.getElem_mem _))).mono ?_;rintro q M ⟨v',rfl,o,f⟩;obtain⟨B,b,rfl,-⟩:=o.shape;have u:(lO lS).rel M (fun q=>wr.heap.size≤q) (some xs[k]) [.int .i64 xs[k].kind,.slice B xs[k].ops.length b]:=⟨_,rfl,o⟩;have x:=E.trans (f.mono (Nat.le_of_lt G));have C:=l.bound.below f;have j:k<((xs.take k).map some++List.replicate (xs.length-k) (none:Option jL)).length:=by rw[ld xs k J];exact hlt
   clear l;apply_assumption;go_wp2_with (refine jP (d:=lO lS) rfl _ _ _ rfl C (g:=g) rfl k j (some xs[k]) [.int .i64 xs[k].kind,.slice B xs[k].ops.length b] (fun q=>wr.heap.size≤q) (fun q=>g≤q) (by first|rfl|exact u) (by first|exact fun _ t=>t.elim|exact fun q hq P=>by have I:wr.heap.size≤q:=hq;omega) (fun _ hq=>hq.1) (by first|exact fun _ t=>t.elim|exact fun q hq=>by have I:wr.heap.size≤q:=hq;omega) (by first|rfl|simp[lO,qG,nB,iw,hJ,lS,pF,kx]) (by first|rfl|simp[lJ.cells,ll.cells,hY.cells,ik.cells]) gY ?_;intro X n z);rw[le xs k hlt] at n;have y:=x.trans (z.below (B:=g) (fun q hq=>fT) (by have:=f.size;omega));go_roundw
   case rel=>exact⟨k+1,by go_num,fT,n,y⟩
   case measure=>exact ms
  ·have j:k=xs.length:=fT
   subst j;have D:Ow lS 118 wr (fun k=>w.heap.size≤k) (.slice (some ⟨g,0,none⟩) xs.length xs.length) xs:=by
    have:=l;rw[li,Nat.sub_self,List.replicate_zero,List.append_nil] at this;rw[←s.out];exact this.filled
   go_wp2_with fail;go_ret;exact⟨_,rfl,D,hb'⟩
theorem DM (x:iy) (v:Value) (F:Nat→Prop) (w:World) (h:Rd kT w F v x.rules) (hn:x.rules.length≤1048576) (hops:∀r∈x.rules,r.ops.length≤1048576):
  Calls Tryz.prog 39 #[.agg #[v]] w fun q w' =>∃v',q= .returned (.agg #[v'])∧Ow lS 118 w' (fun k=>w.heap.size≤k) v' x.rules∧Below w.heap.size w w':=by
 obtain⟨A,c,rfl,-⟩:=h.shape;go_enter Tryz.func39,Tryz.ntmps39;go_wp2_with fail;obtain⟨W,hV,f,_,n,i⟩:=Dc w (.cells #[.slice A x.rules.length c] 71) (.cells #[.slice none 0 0] 96) (.cells #[.slice none 0 0] 96);rw[hV.out];clear hV;refine(Bu _ x.rules F W (h.below f) hn hops).mono ?_;rintro q d ⟨v',rfl,o,a⟩;obtain⟨B,b,rfl,-⟩:=o.shape;have g:=fu a (fx n) n;have m:=fu a (fx i) i;have I:=fx i;have hb1':=fU f a f.size;have D:=kU g;have G:=ft g 0;have E:=kU m;have H:=ft m 0;apply_assumption;go_wp2_with fail;have u:Ch (fun k=>k=w.heap.size+1+1) d (d.setCell ⟨w.heap.size+1+1,0,none⟩ (.slice B x.rules.length b)):=Ch.setCell (p:=⟨w.heap.size+1+1,0,none⟩) (Ch.refl (fun k=>k=w.heap.size+1+1) _) (Or.inl rfl) _;have j:=(gJ (u.heap g (fun y=>fT)) 0 (.slice B x.rules.length b));simp only[qT,qU,qV] at j;have l:Ch (fun k=>k=w.heap.size+1+1∨k=w.heap.size+1) d ((d.setCell ⟨w.heap.size+1+1,0,none⟩ (.slice B x.rules.length b)).setCell ⟨w.heap.size+1,0,none⟩ (.slice B x.rules.length b)):=by
  repeat (first|(with_reducible exact Ch.refl _ _)|(refine Ch.setCell ?_ (Or.inl (Or.inr rfl)) _)|(refine Ch.setCell ?_ (Or.inl (Or.inl rfl)) _))
 have s:=(o.ch l (fun k e y=>by have z:W.heap.size≤k:=e;omega)).mono (F':=fun k=>w.heap.size≤k) (fun k e=>by have z:W.heap.size≤k:=e;show w.heap.size≤k;omega);have t:=hb1'.trans (l.below (B:=w.heap.size) (fun k e=>fT) hb1'.size);generalize ((d.setCell ⟨w.heap.size+1+1,0,none⟩ (.slice B x.rules.length b)).setCell ⟨w.heap.size+1,0,none⟩ (.slice B x.rules.length b))=C at*;have J:=kU j;refine bodyPost_ret (v:= .agg #[.slice B x.rules.length b]) (by simp only[results,Tryz.results39];go_simp) rfl ⟨_,rfl,s,t⟩
theorem uh:(Tryz.prog.info? 214).map (fun i=>(i.zero,i.size,i.bytes))=some (some (.agg #[.int .i64 0,.int .i64 0,.int .i64 0,.int .i64 0,.int .i64 0,.int .i64 0,.int .i64 0]),7,56):=gY
theorem Cw (g:Nat) (F:Nat→Prop) (v:Value) (l:List hY) (x:hY) (w:World) (h:jR iw 214 211 130 w g F v l) (hl:l.length≤1000):
  Calls Tryz.prog 132 #[.pointer (some ⟨g,0,none⟩),ij x] w fun q w' =>q= .returned (.tuple #[])∧∃v' F',jR iw 214 211 130 w' g F' v' (lR gQ l x)∧(∀k,F' k→F k∨w.heap.size≤k)∧Ch (fun k=>k=g∨F k) w w':=by
 obtain⟨A1,c1,rfl,m1⟩:=h.row.shape;unfold ij;go_enter Tryz.func132,Tryz.ntmps132;go_wp2_with fail;have bc:=fx h.blk;have B0:=(gP (o:= .cells #[x.time,x.to,x.from_,x.count,x.n,x.kind,x.arg] 214) bc).trans h.blk;have BX:(w.alloc (.cells #[x.time,x.to,x.from_,x.count,x.n,x.kind,x.arg] 214)).heap[w.heap.size]? =some (.cells #[x.time,x.to,x.from_,x.count,x.n,x.kind,x.arg] 214):=gL rfl;have Z:=h.row.alloc (.cells #[x.time,x.to,x.from_,x.count,x.n,x.kind,x.arg] 214);have hC:=(Ch.refl (fun k=>k=g∨F k) w).alloc (.cells #[x.time,x.to,x.from_,x.count,x.n,x.kind,x.arg] 214);have ae:=h.apart;have bj:¬F w.heap.size:=fun L=>by have:=h.lt _ L;omega
 clear h;generalize w.alloc (.cells #[x.time,x.to,x.from_,x.count,x.n,x.kind,x.arg] 214)=W at*;have hs:=hC.size;have J:=kU B0;obtain⟨x0,x1,x2,x3,x4,x5,x6⟩:=Fz BX;have aI:=fx B0;have bk:=fx BX;refine mI (fun w' =>xS F W w') (.take 0 (.take 1 (.take 2 (.take 3 (.take 4 (.take 5 (.one 6 (.one 7 (.take 8 (.take 9 (.one 10 (.nil)))))))))))) gY gY qP ?_;have HS:=(show xS F W W.drew from ⟨fun _ _ _=>rfl,jn _⟩)
 iterate 6 refine FH ?_
 refine sM (by rfl) (by rfl) (fun K hK=>?_);go_simp;refine hK _ _ (Or.inr ⟨fun k f hn=>(gP (by have:=HS.2;omega)).trans (HS.1 k f hn),ly HS.2 sm⟩) ?_;clear hK K;refine sM (by rfl) (by rfl) (fun K hK=>?_);refine jO (d:=iw) 209 (by rfl) Tryz.underlying209 _ 56 uh rfl dc dc (by rfl) ((Z.move (w':=W.drew) (fun _ _=>rfl)).alloc _) x _ (by rfl) (gL rfl) (fun _=>False) rfl (fun _ L=>L.elim) (fun _ L=>L.elim) fT (fun k=>F k∨w.heap.size≤k) (fun _ f=> .inl f) (fun _ L=>L.elim) (fun k f=> .inr (by first|omega|(simp at f;omega))) ?_;intro v3 w3 aa E aV;obtain⟨R,s,rfl,m3⟩:=aa.shape;have aD:Ch (fun k=>k=g∨F k) w w3:=((hC.drew).alloc _).grown E (fun k f=> .inl (.inr (Z.inF f)));have S:w3.heap[g]? =some (.cells #[.slice A1 l.length c1,.func (.func 130) #[] #[]] 211):=(E.block g (by simp;omega) (fun e=>ae (Z.inF e.symm))).trans ((gP (by simpa using aI)).trans B0);have X:xS F W w3:=⟨fun k f hn=>(E.block k (by simp;omega) (fun e=>hn (Z.inF e.symm))).trans (gP (by simpa using f)),by have:=E.size;simp at this;omega⟩;refine hK _ _ (Or.inr X) ?_;clear hK K HS;have HS:=X;clear X;go_simp
 iterate 2 refine FH ?_
 have r:=kU S;have z:=ft S 0;refine sM (by rfl) (by rfl) (fun K hK=>?_);go_simp;refine hK _ _ (Or.inl gY) ?_;clear hK K r z;simp only[tx];have aE:¬(F g∨w.heap.size≤g):=fun hh=>hh.elim ae (fun h2=>fT);have c:=(aa.setCell (i:=0) S dc (.slice R (l++[x]).length s)).bound;have A:=aD.setCell (p:=⟨g,0,none⟩) (.inl (.inl rfl)) (.slice R (l++[x]).length s);have y:=gJ S 0 (.slice R (l++[x]).length s);simp only[List.setIfInBounds_toArray,List.set_cons_zero] at y;have P:(l++[x]).length=l.length+1:=by simp
 rw[P] at c A y;have D:=fS (show lR gQ l x=vV gQ l.length (l++[x]) l.length from rfl);obtain⟨m0,ai⟩:∃m,m=l++[x]:=⟨_,rfl⟩;rw[←ai] at c P;rw[←ai] at D;have I:=fS P;have aK:l.length<m0.length:=fT;have ah:m0.length≤1001:=fT;clear ai P HS B0 BX Z hC ae bj J x0 x1 x2 x3 x4 x5 x6 aI bk hs aa E aV aD S m3;generalize w3.setCell ⟨g,0,none⟩ (.slice R (l.length+1) s)=V at*;obtain⟨J,a1⟩:=Cm y;obtain⟨b,ab,aS,aG,aJ,aX,aW⟩:=c.head fT;obtain⟨rfl,rfl⟩:R=some ⟨b,0,none⟩∧s=ab:=by injection aG with u1 u2 u3;exact⟨u1,u3⟩
 clear aG aX aW aS;go_wp2_with fail
 go_loopw [4] (fun t wr=>∃(k:Nat) (m:List hY),t= .int .i64 k∧k<m.length∧m.length≤1001∧Hid (m.length=l.length+1)∧wr.heap[g]? =some (.cells #[.slice (some ⟨b,0,none⟩) (l.length+1) s,.func (.func 130) #[] #[]] 211)∧Ow iw 214 wr (fun q=>(F q∨w.heap.size≤q)∧q<V.heap.size) (.slice (some ⟨b,0,none⟩) (l.length+1) s) m∧Ch (fun q=>q=g∨F q) w wr∧V.heap.size≤wr.heap.size∧Hid (lR gQ l x=vV gQ k m k)) (fun t _=>(intOf t).toNat)
 case atStart=>exact⟨l.length,m0,rfl,aK,ah,I,y,c,A,jn _,D⟩
 case round=>
  clear y c A D I aK ah J a1;obtain⟨k,m,rfl,f,bd,I,y,c,A,ad,D⟩:=hrel;have M:∀{wz:World},wz.heap[g]? =some (.cells #[.slice (some ⟨b,0,none⟩) (l.length+1) s,.func (.func 130) #[] #[]] 211)→Ow iw 214 wz (fun q=>(F q∨w.heap.size≤q)∧q<V.heap.size) (.slice (some ⟨b,0,none⟩) (l.length+1) s) m→V.heap.size≤wz.heap.size→jR iw 214 211 130 wz g (fun q=>(F q∨w.heap.size≤q)∧q<V.heap.size) (.slice (some ⟨b,0,none⟩) (l.length+1) s) m:=fun r z e3=>⟨r,z,fun hh=>aE hh.1,fun q hq=>sF hq.2 e3⟩;obtain⟨J,a1⟩:=Cm y;have ag:=fx y;by_cases h0:k=0
  ·have HE:=fS (show lR gQ l x=m by rw[D.out,h0];rfl)
   have kd:decide ((k:Int)>0)=false:=ia fT;have kd':decide (0<k)=false:=ia fT;clear h0;go_wp2_with fail
   go_end0
   exact⟨rfl,_,(fun q=>(F q∨w.heap.size≤q)∧q<V.heap.size),by rw[HE.out];exact M y c ad,fun q hq=>hq.1,A⟩
  ·obtain⟨u,hu⟩:∃u,u=(k-1) / 2:=⟨_,rfl⟩
   have aM:((k:Int)-1) / 2=(u:Int):=fT;have bH:u<k:=fT;have B:u<m.length:=fT;have HU:=fS hu;have kd:decide ((k:Int)>0)=true:=iW fT;have kd':decide (0<k)=true:=iW fT;have p1:(1:Int)≤(k:Int):=fT;have p2:1≤k:=fT;have p3:(k:Int)<(l.length:Int)+1:=by have:=I.out;omega
   have p4:(u:Int)<(l.length:Int)+1:=by have:=I.out;omega
   clear h0 hu;go_upto_region 5 with fail;simp only[aM];clear aM;obtain⟨bb,oo,a,af,z0,z1,z2,z3,z4,z5,z6⟩:=jC (j:=k) c.rd f;injection a with a;injection a with r z _;subst r z;obtain⟨bb,oo,a,-,y0,y1,y2,y3,y4,y5,y6⟩:=jC (j:=u) c.rd B;injection a with a;injection a with r z _;subst r z;simp only[Nat.zero_add] at z0 z1 z2 z3 z4 z5 z6 y0 y1 y2 y3 y4 y5 y6;obtain⟨bt,H⟩:∃bt,gQ m[k] m[u]=bt:=⟨_,rfl⟩;refine mI (fun w' =>Below wr.heap.size wr w') (.take 0 (.take 1 (.take 2 (.take 3 (.take 4 (.take 5 (.take 6 (.take 7 (.take 8 (.take 9 (.take 10 (.take 11 (.take 12 (.take 13 (.take 14 (.take 15 (.take 16 (.take 17 (.one 18 (.take 19 (.nil))))))))))))))))))))) gY gY qP ?_;have HS:=(gM wr.heap.size wr).drew
   iterate 18 refine DS ?_
   refine sM (by rfl) (by rfl) (fun K hK=>?_);go_simp;refine(qy m[k] m[u] _).mono ?_;rintro e C ⟨he,aH⟩;rw[H] at he;subst he;have U:=gK HS aH;refine hK _ _ (Or.inr U) ?_;clear hK K HS aH;have HS:=U;clear U
   iterate 1 refine DS ?_
   simp only[tx];have G:Ow iw 214 C (fun q=>(F q∨w.heap.size≤q)∧q<V.heap.size) (.slice (some ⟨b,0,none⟩) (l.length+1) s) m:=c.below HS;have T:=fu HS ag y;have Y:=A.trans (Ch.of_below HS);have ac:=ly ad HS.size;clear c y A ad J a1 HS z0 z1 z2 z3 z4 z5 z6 y0 y1 y2 y3 y4 y5 y6 ag af;cases bt
   case false=>
    have HE:=fS (show lR gQ l x=m by
     rw[D.out];obtain⟨k',rfl⟩:∃k',k=k'+1:=⟨k-1,fT⟩;rw[vV,if_neg fT,←HU.out,iq f,iq B,H];rfl)
    clear H;go_wp2_with fail
    go_end0
    exact⟨rfl,_,(fun q=>(F q∨w.heap.size≤q)∧q<V.heap.size),by rw[HE.out];exact M T G ac,fun q hq=>hq.1,Y⟩
   case true=>
    clear M;go_upto_region 6 with fail;have J:=kU T;have ba:=fx T;obtain⟨bb,oo,a,af,z0,z1,z2,z3,z4,z5,z6⟩:=jC (j:=k) G.rd f;injection a with a;injection a with r z _;subst r z;obtain⟨bb,oo,a,-,y0,y1,y2,y3,y4,y5,y6⟩:=jC (j:=u) G.rd B;injection a with a;injection a with r z _;subst r z;simp only[Nat.zero_add] at z0 z1 z2 z3 z4 z5 z6 y0 y1 y2 y3 y4 y5 y6;refine p9 (fun w' =>Below C.heap.size C w') [3,8,13,16,20,23] (.pure 0 (.pure 1 (.pure 2 (.take 3 (.pure 4 (.pure 5 (.pure 6 (.pure 7 (.take 8 (.pure 9 (.pure 10 (.pure 11 (.pure 12 (.take 13 (.pure 14 (.pure 15 (.take 16 (.pure 17 (.pure 18 (.pure 19 (.take 20 (.pure 21 (.pure 22 (.take 23 (.one 24 (.one 25 (.one 26 (.one 27 (.nil))))))))))))))))))))))))))))) gY gY qP ?_;have HS:=(gM C.heap.size C).drew
    iterate 3 (refine lu (v:=?_) (by rfl) (by rfl) ?_ ?_;rotate_left;(focus (intro wS;go_simp;(try (with_reducible rfl));done));(intro K hK;go_simp;refine hK _ ?_;clear hK K))
    iterate 1 (refine lv (v:=?_) (by rfl) HS (by rfl) ?_ ?_;rotate_left;(focus (intro wS hS;obtain⟨kc,kf⟩:=j9 hS;go_simp;(try (with_reducible rfl));done));(intro K hK;go_simp;refine hK _ ?_;clear hK K))
    iterate 4 (refine lu (v:=?_) (by rfl) (by rfl) ?_ ?_;rotate_left;(focus (intro wS;go_simp;(try (with_reducible rfl));done));(intro K hK;go_simp;refine hK _ ?_;clear hK K))
    iterate 1 (refine lv (v:=?_) (by rfl) HS (by rfl) ?_ ?_;rotate_left;(focus (intro wS hS;obtain⟨kc,kf⟩:=j9 hS;go_simp;(try (with_reducible rfl));done));(intro K hK;go_simp;refine hK _ ?_;clear hK K))
    iterate 4 (refine lu (v:=?_) (by rfl) (by rfl) ?_ ?_;rotate_left;(focus (intro wS;go_simp;(try (with_reducible rfl));done));(intro K hK;go_simp;refine hK _ ?_;clear hK K))
    iterate 1 (refine lv (v:=?_) (by rfl) HS (by rfl) ?_ ?_;rotate_left;(focus (intro wS hS;obtain⟨kc,kf⟩:=j9 hS;go_simp;(try (with_reducible rfl));done));(intro K hK;go_simp;refine hK _ ?_;clear hK K))
    iterate 2 (refine lu (v:=?_) (by rfl) (by rfl) ?_ ?_;rotate_left;(focus (intro wS;go_simp;(try (with_reducible rfl));done));(intro K hK;go_simp;refine hK _ ?_;clear hK K))
    iterate 1 (refine lv (v:=?_) (by rfl) HS (by rfl) ?_ ?_;rotate_left;(focus (intro wS hS;obtain⟨kc,kf⟩:=j9 hS;go_simp;(try (with_reducible rfl));done));(intro K hK;go_simp;refine hK _ ?_;clear hK K))
    iterate 3 (refine lu (v:=?_) (by rfl) (by rfl) ?_ ?_;rotate_left;(focus (intro wS;go_simp;(try (with_reducible rfl));done));(intro K hK;go_simp;refine hK _ ?_;clear hK K))
    iterate 1 (refine lv (v:=?_) (by rfl) HS (by rfl) ?_ ?_;rotate_left;(focus (intro wS hS;obtain⟨kc,kf⟩:=j9 hS;go_simp;(try (with_reducible rfl));done));(intro K hK;go_simp;refine hK _ ?_;clear hK K))
    iterate 2 (refine lu (v:=?_) (by rfl) (by rfl) ?_ ?_;rotate_left;(focus (intro wS;go_simp;(try (with_reducible rfl));done));(intro K hK;go_simp;refine hK _ ?_;clear hK K))
    iterate 1 (refine lv (v:=?_) (by rfl) HS (by rfl) ?_ ?_;rotate_left;(focus (intro wS hS;obtain⟨kc,kf⟩:=j9 hS;go_simp;(try (with_reducible rfl));done));(intro K hK;go_simp;refine hK _ ?_;clear hK K))
    refine rE (by rfl) (by rfl) (fun K hK=>?_);go_simp;refine hK _ _ (Or.inl gY) ?_;clear hK K;have aF:Ow iw 214 C.drew (fun q=>(F q∨w.heap.size≤q)∧q<V.heap.size) (.slice (some ⟨b,0,none⟩) (l.length+1) s) m:=G.below HS;obtain⟨s1,s2,s3⟩:=aF.setAt (g:=b) rfl k f m[u];refine rE (by rfl) (by rfl) (fun K hK=>?_);refine wp_store_mid 214 (.tmp 71) (.tmp 63) (by rfl) b (k*7) (hY.cells m[u]).toArray (by rfl) (by rfl) s1 gY (by simp[hY.cells,Value.oneCell']) ?_;refine hK _ _ (Or.inl gY) ?_;clear hK K s1;simp only[List.toList_toArray];generalize C.drew.setCells b (k*7) (hY.cells m[u])=Wa at*;go_simp;refine rE (by rfl) (by rfl) (fun K hK=>?_);go_simp;refine hK _ _ (Or.inl gY) ?_;clear hK K;obtain⟨q1,q2,q3⟩:=s2.setAt (g:=b) rfl u (by simpa using B) m[k];refine rE (by rfl) (by rfl) (fun K hK=>?_);refine wp_store_mid 214 (.tmp 72) (.tmp 70) (by rfl) b (u*7) (hY.cells m[k]).toArray (by rfl) (by rfl) q1 gY (by simp[hY.cells,Value.oneCell']) ?_;refine hK _ _ (Or.inl gY) ?_;clear hK K;have bg:g≠b:=fun r=>aE (r▸aJ.1);have O:Ch (fun q=>q=b) C.drew (Wa.setCells b (u*7) (hY.cells m[k])):=s3.trans q3;have a4:=O.heap (show C.drew.heap[g]? =_ from T) bg;have a8:Ch (fun q=>q=g∨F q) w (Wa.setCells b (u*7) (hY.cells m[k])):=(Y.drew).then O (fun q hq=>by
     have hq':q=b:=hq;subst hq';rcases aJ.1 with h1|h1
     ·exact .inl (.inr h1)
     ·exact .inr h1)
    have a9:V.heap.size≤(Wa.setCells b (u*7) (hY.cells m[k])).heap.size:=ly ac O.size;have aL:(m.set k m[u]).set u m[k]=po m k u:=by rw[po,iq f,iq B]
    rw[aL] at q2;have Q:(po m k u).length=m.length:=kH m k u;have a5:=fS (show(po m k u).length=l.length+1 by rw[Q];exact I.out);have a6:=fS (show lR gQ l x=vV gQ u (po m k u) u by
     rw[D.out];obtain⟨k',rfl⟩:∃k',k=k'+1:=⟨k-1,fT⟩;rw[vV,if_neg fT,←HU.out,iq f,iq B,if_pos H];exact uc _ _ _ _ fT (jn _))
    have bi:u<(po m k u).length:=by rw[Q];exact B
    have bf:(po m k u).length≤1001:=by rw[Q];exact bd
    clear H G T Y ac HS aF s2 s3 q1 q3 O aL Q z0 z1 z2 z3 z4 z5 z6 y0 y1 y2 y3 y4 y5 y6 J D I ba af;simp only[List.toList_toArray];generalize Wa.setCells b (u*7) (hY.cells m[k])=W6 at*;go_simp;simp only[xa];go_wp2_with fail;go_roundw
    case rel=>exact⟨u,_,rfl,bi,bf,a5,a4,q2,a8,a9,a6⟩
    case measure=>exact ms
end Go.Proofs.YtlndjfflhegkdaaGreatDoor
