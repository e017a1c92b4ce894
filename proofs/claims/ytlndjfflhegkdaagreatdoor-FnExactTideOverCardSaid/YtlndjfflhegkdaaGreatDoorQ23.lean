/- Parts of the proof: Imp4, Ez9. -/
import Derived.Test.YtlndjfflhegkdaaGreatDoorQ15
import Derived.Test.YtlndjfflhegkdaaGreatDoorQ18
set_option linter.unusedVariables false
set_option linter.unusedSimpArgs false
set_option linter.unusedSectionVars false
set_option maxHeartbeats 4000000
set_option maxRecDepth 100000
namespace Go.Proofs.YtlndjfflhegkdaaGreatDoor
open Go.RowKit
structure jR {α:Type} (d:Ty α) (e t:TypeId) (less:FuncId) (w:World) (g:Nat) (F:Nat→Prop) (v:Value) (xs:List α):Prop where
 blk:w.heap[g]? =some (.cells #[v,.func (.func less) #[] #[]] t (0,0))
 row:Ow d e w F v xs
 apart:¬F g
 lt:∀k,F k→k<w.heap.size
def xS (F:Nat→Prop) (W w':World):Prop:=(∀k,k<W.heap.size→¬F k→w'.heap[k]? =W.heap[k]?)∧W.heap.size≤w'.heap.size
theorem xS.cells {F:Nat→Prop} {W w':World} (h:xS F W w'):(∀b o,b<W.heap.size→¬F b→w'.cell? ⟨b,o,none⟩=W.cell? ⟨b,o,none⟩)∧(∀b o,b<W.heap.size→¬F b→w'.frozen? ⟨b,o,none⟩=W.frozen? ⟨b,o,none⟩):=
 ⟨fun b o hb hn=>World.cell?_of_block (w:=W) (h.1 b hb hn),fun b o hb hn=>World.frozen?_of_block (w:=W) (h.1 b hb hn)⟩
theorem Be (g:Nat) (F:Nat→Prop) (v:Value) (l:List ik) (x:ik) (w:World) (h:jR hJ 101 222 124 w g F v l) (hl:l.length≤1000):
  Calls Tryz.prog 136 #[.pointer (some ⟨g,0,none⟩),l7 x] w fun q w' =>q= .returned (.tuple #[])∧∃v' F',jR hJ 101 222 124 w' g F' v' (lR gO l x)∧(∀k,F' k→F k∨w.heap.size≤k)∧Ch (fun k=>k=g∨F k) w w':=by
 obtain⟨A1,c1,rfl,m1⟩:=h.row.shape;unfold l7;go_enter Tryz.func136,Tryz.ntmps136;go_wp2_with fail;have a8:=fx h.blk;have B0:=(gP (o:= .cells #[x.time,x.proc,x.count,x.n,x.value] 101) a8).trans h.blk;have BX:(w.alloc (.cells #[x.time,x.proc,x.count,x.n,x.value] 101)).heap[w.heap.size]? =some (.cells #[x.time,x.proc,x.count,x.n,x.value] 101):=gL rfl;have Z:=h.row.alloc (.cells #[x.time,x.proc,x.count,x.n,x.value] 101);have hC:=(Ch.refl (fun k=>k=g∨F k) w).alloc (.cells #[x.time,x.proc,x.count,x.n,x.value] 101);have ae:=h.apart;have bf:¬F w.heap.size:=fun L=>by have:=h.lt _ L;omega
 clear h;generalize w.alloc (.cells #[x.time,x.proc,x.count,x.n,x.value] 101)=W at*;have hs:=hC.size;have J:=kU B0;obtain⟨x0,x1,x2,x3,x4⟩:=yQ BX;have aE:=fx B0;have bg:=fx BX;refine mI (fun w' =>xS F W w') (.take 0 (.take 1 (.take 2 (.take 3 (.take 4 (.take 5 (.one 6 (.one 7 (.take 8 (.take 9 (.one 10 (.nil)))))))))))) gY gY qP ?_;have HS:=(show xS F W W.drew from ⟨fun _ _ _=>rfl,jn _⟩)
 iterate 6 refine FH ?_
 refine sM (by rfl) (by rfl) (fun K hK=>?_);go_simp;refine hK _ _ (Or.inr ⟨fun k f hn=>(gP (by have:=HS.2;omega)).trans (HS.1 k f hn),ly HS.2 sm⟩) ?_;clear hK K;refine sM (by rfl) (by rfl) (fun K hK=>?_);refine jO (d:=hJ) 37 (by rfl) Tryz.underlying37 _ 40 kz rfl dc dc (by rfl) ((Z.move (w':=W.drew) (fun _ _=>rfl)).alloc _) x _ (by rfl) (gL rfl) (fun _=>False) rfl (fun _ L=>L.elim) (fun _ L=>L.elim) fT (fun k=>F k∨w.heap.size≤k) (fun _ f=> .inl f) (fun _ L=>L.elim) (fun k f=> .inr (by first|omega|(simp at f;omega))) ?_;intro v3 w3 aa E aR;obtain⟨R,s,rfl,m3⟩:=aa.shape;have az:Ch (fun k=>k=g∨F k) w w3:=((hC.drew).alloc _).grown E (fun k f=> .inl (.inr (Z.inF f)));have S:w3.heap[g]? =some (.cells #[.slice A1 l.length c1,.func (.func 124) #[] #[]] 222):=(E.block g (by simp;omega) (fun e=>ae (Z.inF e.symm))).trans ((gP (by simpa using aE)).trans B0);have X:xS F W w3:=⟨fun k f hn=>(E.block k (by simp;omega) (fun e=>hn (Z.inF e.symm))).trans (gP (by simpa using f)),by have:=E.size;simp at this;omega⟩;refine hK _ _ (Or.inr X) ?_;clear hK K HS;have HS:=X;clear X;go_simp
 iterate 2 refine FH ?_
 have r:=kU S;have z:=ft S 0;refine sM (by rfl) (by rfl) (fun K hK=>?_);go_simp;refine hK _ _ (Or.inl gY) ?_;clear hK K r z;simp only[tx];have aA:¬(F g∨w.heap.size≤g):=fun hh=>hh.elim ae (fun h2=>fT);have c:=(aa.setCell (i:=0) S dc (.slice R (l++[x]).length s)).bound;have A:=az.setCell (p:=⟨g,0,none⟩) (.inl (.inl rfl)) (.slice R (l++[x]).length s);have y:=gJ S 0 (.slice R (l++[x]).length s);simp only[List.setIfInBounds_toArray,List.set_cons_zero] at y;have P:(l++[x]).length=l.length+1:=by simp
 rw[P] at c A y;have D:=fS (show lR gO l x=vV gO l.length (l++[x]) l.length from rfl);obtain⟨m0,ai⟩:∃m,m=l++[x]:=⟨_,rfl⟩;rw[←ai] at c P;rw[←ai] at D;have I:=fS P;have aG:l.length<m0.length:=fT;have ah:m0.length≤1001:=fT;clear ai P HS B0 BX Z hC ae bf J x0 x1 x2 x3 x4 aE bg hs aa E aR az S m3;generalize w3.setCell ⟨g,0,none⟩ (.slice R (l.length+1) s)=V at*;obtain⟨J,a1⟩:=Cm y;obtain⟨b,ab,aO,aC,aF,aT,aS⟩:=c.head fT;obtain⟨rfl,rfl⟩:R=some ⟨b,0,none⟩∧s=ab:=by injection aC with u1 u2 u3;exact⟨u1,u3⟩
 clear aC aT aS aO;go_wp2_with fail
 go_loopw [4] (fun t wr=>∃(k:Nat) (m:List ik),t= .int .i64 k∧k<m.length∧m.length≤1001∧Hid (m.length=l.length+1)∧wr.heap[g]? =some (.cells #[.slice (some ⟨b,0,none⟩) (l.length+1) s,.func (.func 124) #[] #[]] 222)∧Ow hJ 101 wr (fun q=>(F q∨w.heap.size≤q)∧q<V.heap.size) (.slice (some ⟨b,0,none⟩) (l.length+1) s) m∧Ch (fun q=>q=g∨F q) w wr∧V.heap.size≤wr.heap.size∧Hid (lR gO l x=vV gO k m k)) (fun t _=>(intOf t).toNat)
 case atStart=>exact⟨l.length,m0,rfl,aG,ah,I,y,c,A,jn _,D⟩
 case round=>
  clear y c A D I aG ah J a1;obtain⟨k,m,rfl,f,a9,I,y,c,A,ad,D⟩:=hrel;have M:∀{wz:World},wz.heap[g]? =some (.cells #[.slice (some ⟨b,0,none⟩) (l.length+1) s,.func (.func 124) #[] #[]] 222)→Ow hJ 101 wz (fun q=>(F q∨w.heap.size≤q)∧q<V.heap.size) (.slice (some ⟨b,0,none⟩) (l.length+1) s) m→V.heap.size≤wz.heap.size→jR hJ 101 222 124 wz g (fun q=>(F q∨w.heap.size≤q)∧q<V.heap.size) (.slice (some ⟨b,0,none⟩) (l.length+1) s) m:=fun r z e3=>⟨r,z,fun hh=>aA hh.1,fun q hq=>sF hq.2 e3⟩;obtain⟨J,a1⟩:=Cm y;have ag:=fx y;by_cases h0:k=0
  ·have HE:=fS (show lR gO l x=m by rw[D.out,h0];rfl)
   have kd:decide ((k:Int)>0)=false:=ia fT;have kd':decide (0<k)=false:=ia fT;clear h0;go_wp2_with fail
   go_end0
   exact⟨rfl,_,(fun q=>(F q∨w.heap.size≤q)∧q<V.heap.size),by rw[HE.out];exact M y c ad,fun q hq=>hq.1,A⟩
  ·obtain⟨u,hu⟩:∃u,u=(k-1) / 2:=⟨_,rfl⟩
   have aI:((k:Int)-1) / 2=(u:Int):=fT;have bB:u<k:=fT;have B:u<m.length:=fT;have HU:=fS hu;have kd:decide ((k:Int)>0)=true:=iW fT;have kd':decide (0<k)=true:=iW fT;have p1:(1:Int)≤(k:Int):=fT;have p2:1≤k:=fT;have p3:(k:Int)<(l.length:Int)+1:=by have:=I.out;omega
   have p4:(u:Int)<(l.length:Int)+1:=by have:=I.out;omega
   clear h0 hu;go_upto_region 5 with fail;simp only[aI];clear aI;obtain⟨bb,oo,a,af,z0,z1,z2,z3,z4⟩:=kh (j:=k) c.rd f;injection a with a;injection a with r z _;subst r z;obtain⟨bb,oo,a,-,y0,y1,y2,y3,y4⟩:=kh (j:=u) c.rd B;injection a with a;injection a with r z _;subst r z;simp only[Nat.zero_add] at z0 z1 z2 z3 z4 y0 y1 y2 y3 y4;obtain⟨bt,H⟩:∃bt,gO m[k] m[u]=bt:=⟨_,rfl⟩;refine mI (fun w' =>Below wr.heap.size wr w') (.take 0 (.take 1 (.take 2 (.take 3 (.take 4 (.take 5 (.take 6 (.take 7 (.take 8 (.take 9 (.take 10 (.take 11 (.take 12 (.take 13 (.take 14 (.take 15 (.take 16 (.take 17 (.one 18 (.take 19 (.nil))))))))))))))))))))) gY gY qP ?_;have HS:=(gM wr.heap.size wr).drew
   iterate 18 refine DS ?_
   refine sM (by rfl) (by rfl) (fun K hK=>?_);go_simp;refine(oS m[k] m[u] _).mono ?_;rintro e C ⟨he,aD⟩;rw[H] at he;subst he;have U:=gK HS aD;refine hK _ _ (Or.inr U) ?_;clear hK K HS aD;have HS:=U;clear U
   iterate 1 refine DS ?_
   simp only[tx];have G:Ow hJ 101 C (fun q=>(F q∨w.heap.size≤q)∧q<V.heap.size) (.slice (some ⟨b,0,none⟩) (l.length+1) s) m:=c.below HS;have T:=fu HS ag y;have Y:=A.trans (Ch.of_below HS);have ac:=ly ad HS.size;clear c y A ad J a1 HS z0 z1 z2 z3 z4 y0 y1 y2 y3 y4 ag af;cases bt
   case false=>
    have HE:=fS (show lR gO l x=m by
     rw[D.out];obtain⟨k',rfl⟩:∃k',k=k'+1:=⟨k-1,fT⟩;rw[vV,if_neg fT,←HU.out,iq f,iq B,H];rfl)
    clear H;go_wp2_with fail
    go_end0
    exact⟨rfl,_,(fun q=>(F q∨w.heap.size≤q)∧q<V.heap.size),by rw[HE.out];exact M T G ac,fun q hq=>hq.1,Y⟩
   case true=>
    clear M;go_upto_region 6 with fail;have J:=kU T;have a7:=fx T;obtain⟨bb,oo,a,af,z0,z1,z2,z3,z4⟩:=kh (j:=k) G.rd f;injection a with a;injection a with r z _;subst r z;obtain⟨bb,oo,a,-,y0,y1,y2,y3,y4⟩:=kh (j:=u) G.rd B;injection a with a;injection a with r z _;subst r z;simp only[Nat.zero_add] at z0 z1 z2 z3 z4 y0 y1 y2 y3 y4;refine p9 (fun w' =>Below C.heap.size C w') [3,8,13,16,20,23] (.pure 0 (.pure 1 (.pure 2 (.take 3 (.pure 4 (.pure 5 (.pure 6 (.pure 7 (.take 8 (.pure 9 (.pure 10 (.pure 11 (.pure 12 (.take 13 (.pure 14 (.pure 15 (.take 16 (.pure 17 (.pure 18 (.pure 19 (.take 20 (.pure 21 (.pure 22 (.take 23 (.one 24 (.one 25 (.one 26 (.one 27 (.nil))))))))))))))))))))))))))))) gY gY qP ?_;have HS:=(gM C.heap.size C).drew
    iterate 3 (refine lu (v:=?_) (by rfl) (by rfl) ?_ ?_;rotate_left;(focus (intro wS;go_simp;(try (with_reducible rfl));done));(intro K hK;go_simp;refine hK _ ?_;clear hK K))
    iterate 1 (refine lv (v:=?_) (by rfl) HS (by rfl) ?_ ?_;rotate_left;(focus (intro wS hS;obtain⟨kc,kf⟩:=j9 hS;go_simp;(try (with_reducible rfl));done));(intro K hK;go_simp;refine hK _ ?_;clear hK K))
    iterate 4 (refine lu (v:=?_) (by rfl) (by rfl) ?_ ?_;rotate_left;(focus (intro wS;go_simp;(try (with_reducible rfl));done));(intro K hK;go_simp;refine hK _ ?_;clear hK K))
    iterate 1 (refine lv (v:=?_) (by rfl) HS (by rfl) ?_ ?_;rotate_left;(focus (intro wS hS;obtain⟨kc,kf⟩:=j9 hS;go_simp;(try (with_reducible rfl));done));(intro K hK;go_simp;refine hK _ ?_;clear hK K))
    iterate 4 (refine lu (v:=?_) (by rfl) (by rfl) ?_ ?_;rotate_left;(focus (intro wS;go_simp;(try (with_reducible rfl));done));(intro K hK;go_simp;refine hK _ ?_;clear hK K))
    iterate 1 (refine lv (v:=?_) (by rfl) HS (by rfl) ?_ ?_;rotate_left;(focus (intro wS hS;obtain⟨kc,kf⟩:=j9 hS;go_simp;(try (with_reducible rfl));done));(intro K hK;go_simp;refine hK _ ?_;clear hK K))
    iterate 2 (refine lu (v:=?_) (by rfl) (by rfl) ?_ ?_;rotate_left;(focus (intro wS;go_simp;(try (with_reducible rfl));done));(intro K hK;go_simp;refine hK _ ?_;clear hK K))
    iterate 1 (refine lv (v:=?_) (by rfl) HS (by rfl) ?_ ?_;rotate_left;(focus (intro wS hS;obtain⟨kc,kf⟩:=j9 hS;go_simp;(try (with_reducible rfl));done));(intro K hK;go_simp;refine hK _ ?_;clear hK K))
    iterate 3 (refine lu (v:=?_) (by rfl) (by rfl) ?_ ?_;rotate_left;(focus (intro wS;go_simp;(try (with_reducible rfl));done));(intro K hK;go_simp;refine hK _ ?_;clear hK K))
    iterate 1 (refine lv (v:=?_) (by rfl) HS (by rfl) ?_ ?_;rotate_left;(focus (intro wS hS;obtain⟨kc,kf⟩:=j9 hS;go_simp;(try (with_reducible rfl));done));(intro K hK;go_simp;refine hK _ ?_;clear hK K))
    iterate 2 (refine lu (v:=?_) (by rfl) (by rfl) ?_ ?_;rotate_left;(focus (intro wS;go_simp;(try (with_reducible rfl));done));(intro K hK;go_simp;refine hK _ ?_;clear hK K))
    iterate 1 (refine lv (v:=?_) (by rfl) HS (by rfl) ?_ ?_;rotate_left;(focus (intro wS hS;obtain⟨kc,kf⟩:=j9 hS;go_simp;(try (with_reducible rfl));done));(intro K hK;go_simp;refine hK _ ?_;clear hK K))
    refine rE (by rfl) (by rfl) (fun K hK=>?_);go_simp;refine hK _ _ (Or.inl gY) ?_;clear hK K;have aB:Ow hJ 101 C.drew (fun q=>(F q∨w.heap.size≤q)∧q<V.heap.size) (.slice (some ⟨b,0,none⟩) (l.length+1) s) m:=G.below HS;obtain⟨s1,s2,s3⟩:=aB.setAt (g:=b) rfl k f m[u];refine rE (by rfl) (by rfl) (fun K hK=>?_);refine wp_store_mid 101 (.tmp 71) (.tmp 63) (by rfl) b (k*5) (ik.cells m[u]).toArray (by rfl) (by rfl) s1 gY (by simp[ik.cells,Value.oneCell']) ?_;refine hK _ _ (Or.inl gY) ?_;clear hK K s1;simp only[List.toList_toArray];generalize C.drew.setCells b (k*5) (ik.cells m[u])=Wa at*;go_simp;refine rE (by rfl) (by rfl) (fun K hK=>?_);go_simp;refine hK _ _ (Or.inl gY) ?_;clear hK K;obtain⟨q1,q2,q3⟩:=s2.setAt (g:=b) rfl u (by simpa using B) m[k];refine rE (by rfl) (by rfl) (fun K hK=>?_);refine wp_store_mid 101 (.tmp 72) (.tmp 70) (by rfl) b (u*5) (ik.cells m[k]).toArray (by rfl) (by rfl) q1 gY (by simp[ik.cells,Value.oneCell']) ?_;refine hK _ _ (Or.inl gY) ?_;clear hK K;have ba:g≠b:=fun r=>aA (r▸aF.1);have O:Ch (fun q=>q=b) C.drew (Wa.setCells b (u*5) (ik.cells m[k])):=s3.trans q3;have aY:=O.heap (show C.drew.heap[g]? =_ from T) ba;have a4:Ch (fun q=>q=g∨F q) w (Wa.setCells b (u*5) (ik.cells m[k])):=(Y.drew).then O (fun q hq=>by
     have hq':q=b:=hq;subst hq';rcases aF.1 with h1|h1
     ·exact .inl (.inr h1)
     ·exact .inr h1)
    have a5:V.heap.size≤(Wa.setCells b (u*5) (ik.cells m[k])).heap.size:=ly ac O.size;have aH:(m.set k m[u]).set u m[k]=po m k u:=by rw[po,iq f,iq B]
    rw[aH] at q2;have Q:(po m k u).length=m.length:=kH m k u;have aZ:=fS (show(po m k u).length=l.length+1 by rw[Q];exact I.out);have a2:=fS (show lR gO l x=vV gO u (po m k u) u by
     rw[D.out];obtain⟨k',rfl⟩:∃k',k=k'+1:=⟨k-1,fT⟩;rw[vV,if_neg fT,←HU.out,iq f,iq B,if_pos H];exact uc _ _ _ _ fT (jn _))
    have bd:u<(po m k u).length:=by rw[Q];exact B
    have a':(po m k u).length≤1001:=by rw[Q];exact a9
    clear H G T Y ac HS aB s2 s3 q1 q3 O aH Q z0 z1 z2 z3 z4 y0 y1 y2 y3 y4 J D I a7 af;simp only[List.toList_toArray];generalize Wa.setCells b (u*5) (ik.cells m[k])=W6 at*;go_simp;simp only[xa];go_wp2_with fail;go_roundw
    case rel=>exact⟨u,_,rfl,bd,a',aZ,aY,q2,a4,a5,a2⟩
    case measure=>exact ms
def oE (x:iP) (vs vo nx:Value):List Value:=lT x vs vo++[nx]
def vS (G:Nat→Nat) (n j:Nat):Value:=if j<n then .pointer (some ⟨G j,0,none⟩) else .pointer none
def sX (G:Nat→Nat) (n:Nat):Value:=if n=0 then .pointer none else .pointer (some ⟨G (n-1),0,none⟩)
structure lI (w:World) (F:Nat→Prop) (gc:Nat) (xs:List iP) (G:Nat→Nat):Prop where
 blk:w.heap[gc]? =some (.cells #[vS G xs.length 0,sX G xs.length] 282)
 gt:∀j,j<xs.length→gc<G j
 lt:∀i j,i<j→j<xs.length→G i<G j
 at_:∀(j:Nat) (hj:j<xs.length),∃vs vo,w.heap[G j]? =some (.cells (oE xs[j] vs vo (vS G xs.length (j+1))).toArray 285 (0,0))∧Rd iw w F vs xs[j].sends∧Rd hJ w F vo xs[j].outs
 sg:¬F gc
 sj:∀j,j<xs.length→¬F (G j)
 bd:∀k,F k→k<w.heap.size
theorem lI.below {w w':World} {F:Nat→Prop} {gc:Nat} {xs:List iP} {G:Nat→Nat} (h:lI w F gc xs G) (hb:Below w.heap.size w w'):lI w' F gc xs G:=
 ⟨fu hb (fx h.blk) h.blk,h.gt,h.lt,fun j hj=>by
  obtain⟨vs,vo,h1,h2,h3⟩:=h.at_ j hj;exact⟨vs,vo,fu hb (fx h1) h1,h2.below hb,h3.below hb⟩,h.sg,h.sj,fun k hk=>sF (h.bd k hk) hb.size⟩
theorem lI.grow {w w':World} {F:Nat→Prop} {gc gn:Nat} {xs:List iP} {G:Nat→Nat} (h:lI w F gc xs G) (x:iP) (vs vo:Value) (hg1:gc<gn) (hg2:∀j,j<xs.length→G j<gn) (hgn:¬F gn)
  (hC:Ch (fun k=>k=gc∨(0<xs.length∧k=G (xs.length-1))) w w')
  (h1:w'.heap[gc]? =some (.cells #[if xs.length=0 then .pointer (some ⟨gn,0,none⟩) else vS G xs.length 0,.pointer (some ⟨gn,0,none⟩)] 282))
  (h2:w'.heap[gn]? =some (.cells (oE x vs vo (.pointer none)).toArray 285 (0,0)))
  (h3:∀(hp:xs.length-1<xs.length),∀us uo,w.heap[G (xs.length-1)]? =some (.cells (oE xs[xs.length-1] us uo (.pointer none)).toArray 285 (0,0))→w'.heap[G (xs.length-1)]? =some (.cells (oE xs[xs.length-1] us uo (.pointer (some ⟨gn,0,none⟩))).toArray 285 (0,0)))
  (r1:Rd iw w F vs x.sends) (r2:Rd hJ w F vo x.outs):
  lI w' F gc (xs++[x]) (fun j=>if j=xs.length then gn else G j):=by
 have p:=fx h.blk;have d:∀k,F k→¬(k=gc∨(0<xs.length∧k=G (xs.length-1))):=by
  rintro k a (rfl|⟨hp,rfl⟩)
  ·exact h.sg a
  ·exact h.sj (xs.length-1) fT a
 refine⟨?_,fun j b=>?_,fun i j g b=>?_,fun j b=>?_,h.sg,fun j b a=>?_,fun k a=>sF (h.bd k a) hC.size⟩
 ·rw[h1]
  by_cases e:xs.length=0
  ·simp[vS,sX,e]
  ·have h0':0<xs.length:=fT
   simp[vS,sX,e,h0',Ne.symm e]
 ·simp only[List.length_append,List.length_cons,List.length_nil] at b
  show gc<if j=xs.length then gn else G j
  split
  ·exact hg1
  ·exact h.gt j fT
 ·simp only[List.length_append,List.length_cons,List.length_nil] at b
  show(if i=xs.length then gn else G i)<if j=xs.length then gn else G j
  rw[if_neg fT];split
  ·exact hg2 i fT
  ·exact h.lt i j g fT
 ·simp only[List.length_append,List.length_cons,List.length_nil] at b ⊢
  show ∃vs vo,w'.heap[if j=xs.length then gn else G j]? =_∧_;by_cases hjl:j=xs.length
  ·subst hjl
   refine⟨vs,vo,?_,?_,?_⟩
   ·rw[if_pos rfl,h2];simp[vS]
   ·simpa using r1.ch hC (fun k a=>d k a)
   ·simpa using r2.ch hC (fun k a=>d k a)
  ·rw[if_neg hjl]
   have c:j<xs.length:=fT;obtain⟨us,uo,f,o,n⟩:=h.at_ j c;have l:(xs++[x])[j]'(by simp;omega)=xs[j]:=by rw[List.getElem_append_left c]
   rw[l];refine⟨us,uo,?_,o.ch hC (fun k a=>d k a),n.ch hC (fun k a=>d k a)⟩;by_cases hl:j=xs.length-1
   ·subst hl
    have h9':w.heap[G (xs.length-1)]? =some (.cells (oE xs[xs.length-1] us uo (.pointer none)).toArray 285 (0,0)):=by
     rw[f,vS,if_neg fT]
    rw[h3 c us uo h9',vS,if_pos fT,if_pos fT]
   ·rw[hC.heap f (by
     rintro(m|⟨hp,m⟩)
     ·have:=h.gt j c;omega
     ·have:=h.lt j (xs.length-1) fT fT;omega)]
    simp only[vS];rw[if_pos (show j+1<xs.length by omega),if_pos (show j+1<xs.length+1 by omega),if_neg fT]
 ·simp only[List.length_append,List.length_cons,List.length_nil] at b
  have hk':F (if j=xs.length then gn else G j):=a;by_cases hjl:j=xs.length
  ·rw[if_pos hjl] at hk';exact hgn hk'
  ·rw[if_neg hjl] at hk';exact h.sj j fT hk'
theorem zf (gc B:Nat) (F:Nat→Prop) (xs:List iP) (G:Nat→Nat) (x:iP) (vs vo:Value) (w:World) (h:lI w F gc xs G) (hB:B≤w.heap.size) (hgc:B≤gc) (r1:Rd iw w F vs x.sends) (r2:Rd hJ w F vo x.outs):
  Calls Tryz.prog 182 #[.pointer (some ⟨gc,0,none⟩),.agg #[x.ev.time,x.ev.to,x.ev.from_,x.ev.count,x.ev.n,x.ev.kind,x.ev.arg,x.st.x,x.st.y,x.st.c,vs,vo]] w fun q w' =>q= .returned (.tuple #[])∧(∃G',lI w' F gc (xs++[x]) G')∧Below B w w':=by
 have o1:vs.oneCell' =true:=by obtain⟨i,l,rfl,-⟩:=r1.shape;rfl
 have o2:vo.oneCell' =true:=by obtain⟨i,l,rfl,-⟩:=r2.shape;rfl
 obtain⟨i,l,rfl,-⟩:=id r1.shape;obtain⟨m,o,rfl,-⟩:=id r2.shape;have af:=fx h.blk;have r:Below w.heap.size w ((w.alloc (.cells #[x.ev.time,x.ev.to,x.ev.from_,x.ev.count,x.ev.n,x.ev.kind,x.ev.arg,x.st.x,x.st.y,x.st.c,.slice i x.sends.length l,.slice m x.outs.length o] 185)).alloc (.cells #[x.ev.time,x.ev.to,x.ev.from_,x.ev.count,x.ev.n,x.ev.kind,x.ev.arg,x.st.x,x.st.y,x.st.c,.slice i x.sends.length l,.slice m x.outs.length o,.pointer none] 285)):=gs (gs (gM _ _) _) _;have M:((w.alloc (.cells #[x.ev.time,x.ev.to,x.ev.from_,x.ev.count,x.ev.n,x.ev.kind,x.ev.arg,x.st.x,x.st.y,x.st.c,.slice i x.sends.length l,.slice m x.outs.length o] 185)).alloc (.cells #[x.ev.time,x.ev.to,x.ev.from_,x.ev.count,x.ev.n,x.ev.kind,x.ev.arg,x.st.x,x.st.y,x.st.c,.slice i x.sends.length l,.slice m x.outs.length o,.pointer none] 285)).heap[w.heap.size+1]? =some (.cells #[x.ev.time,x.ev.to,x.ev.from_,x.ev.count,x.ev.n,x.ev.kind,x.ev.arg,x.st.x,x.st.y,x.st.c,.slice i x.sends.length l,.slice m x.outs.length o,.pointer none] 285):=gL sm;have d:=fu r af h.blk;have R:¬F (w.heap.size+1):=fun D=>by have:=h.bd _ D;omega
 have H:=fS (h.below r);have I:=fS (r1.below r);have J:=fS (r2.below r);by_cases h0:xs.length=0
 ·have e0:vS G xs.length 0= .pointer none:=by simp[vS,h0]
  have A:sX G xs.length= .pointer none:=by simp[sX,h0]
  rw[e0,A] at d;have v:=fS h0;clear h r1 r2 h0 e0 A;go_enter Tryz.func182,Tryz.ntmps182;go_upto_region 2 with fail;obtain⟨W,s⟩:∃W,((w.alloc (.cells #[x.ev.time,x.ev.to,x.ev.from_,x.ev.count,x.ev.n,x.ev.kind,x.ev.arg,x.st.x,x.st.y,x.st.c,.slice i x.sends.length l,.slice m x.outs.length o] 185)).alloc (.cells #[x.ev.time,x.ev.to,x.ev.from_,x.ev.count,x.ev.n,x.ev.kind,x.ev.arg,x.st.x,x.st.y,x.st.c,.slice i x.sends.length l,.slice m x.outs.length o,.pointer none] 285))=W:=⟨_,rfl⟩;have E:W.heap.size=w.heap.size+1+1:=by rw[←s];simp
  have HS:=fS E;rw[s] at r M d H I J ⊢;clear s E;obtain⟨a0,a1⟩:=Cm d;have f0:=ft d;go_wp2_with fail;have C:Ch (fun k=>k=gc) W ((W.setCell ⟨gc,0,none⟩ (.pointer (some ⟨w.heap.size+1,0,none⟩))).setCell ⟨gc,1,none⟩ (.pointer (some ⟨w.heap.size+1,0,none⟩))):=Ch.setCell (p:=⟨gc,1,none⟩) (Ch.setCell (p:=⟨gc,0,none⟩) (Ch.refl (fun k=>k=gc) _) (Or.inl rfl) _) (Or.inl rfl) _;have z:=gJ (gJ d 0 (.pointer (some ⟨w.heap.size+1,0,none⟩))) 1 (.pointer (some ⟨w.heap.size+1,0,none⟩));simp only[qT,qU,qV] at z;have U:=H.out.grow (w':=(W.setCell ⟨gc,0,none⟩ (.pointer (some ⟨w.heap.size+1,0,none⟩))).setCell ⟨gc,1,none⟩ (.pointer (some ⟨w.heap.size+1,0,none⟩))) (gn:=w.heap.size+1) x (.slice i x.sends.length l) (.slice m x.outs.length o) fT (fun j O=>by have:=v.out;omega) R (C.mono (fun k D=> .inl D)) (by rw[z,if_pos v.out]) (C.heap M fT) (fun Z=>by have:=v.out;omega) I.out J.out
  go_end0
  exact⟨rfl,⟨_,U⟩,((r.mono hB).setCell (p:=⟨gc,0,none⟩) hgc _).setCell (p:=⟨gc,1,none⟩) hgc _⟩
 ·have Z:xs.length-1<xs.length:=fT
  obtain⟨us,uo,P,-,-⟩:=h.at_ (xs.length-1) Z;have T:=fx P;have V:=h.gt (xs.length-1) Z;have S:=fun j (O:j<xs.length)=>(show G j<w.heap.size by obtain⟨a,b,L,-⟩:=h.at_ j O;exact fx L);have e2:vS G xs.length (xs.length-1+1)= .pointer none:=by rw[vS,if_neg fT]
  rw[e2] at P;have u:=fu r T P;have A:sX G xs.length= .pointer (some ⟨G (xs.length-1),0,none⟩):=by simp[sX,h0]
  rw[A] at d;obtain⟨f,t⟩:∃g,G (xs.length-1)=g:=⟨_,rfl⟩;have Q:=fS t;rw[t] at d u T V;have v:=fS h0;have aa:=fS S;have X:gc≠f:=fT;have Y:f≠gc:=fT;clear h r1 r2 h0 A e2 t S P;go_enter Tryz.func182,Tryz.ntmps182;go_upto_region 2 with fail;obtain⟨W,s⟩:∃W,((w.alloc (.cells #[x.ev.time,x.ev.to,x.ev.from_,x.ev.count,x.ev.n,x.ev.kind,x.ev.arg,x.st.x,x.st.y,x.st.c,.slice i x.sends.length l,.slice m x.outs.length o] 185)).alloc (.cells #[x.ev.time,x.ev.to,x.ev.from_,x.ev.count,x.ev.n,x.ev.kind,x.ev.arg,x.st.x,x.st.y,x.st.c,.slice i x.sends.length l,.slice m x.outs.length o,.pointer none] 285))=W:=⟨_,rfl⟩;have E:W.heap.size=w.heap.size+1+1:=by rw[←s];simp
  have HS:=fS E;rw[s] at r M d H I J u ⊢;clear s E;obtain⟨a0,a1⟩:=Cm d;have aj:W.cell? ⟨f,12,none⟩=some (.pointer none):=by rw[fw u];rfl
  have f0:=ft d;have f2:=ft u 12;go_wp2_with fail;have C:Ch (fun k=>k=gc∨k=f) W ((W.setCell ⟨f,12,none⟩ (.pointer (some ⟨w.heap.size+1,0,none⟩))).setCell ⟨gc,1,none⟩ (.pointer (some ⟨w.heap.size+1,0,none⟩))):=Ch.setCell (p:=⟨gc,1,none⟩) (Ch.setCell (p:=⟨f,12,none⟩) (Ch.refl (fun k=>k=gc∨k=f) _) (Or.inl (Or.inr rfl)) _) (Or.inl (Or.inl rfl)) _;have ad:Ch (fun k=>k=f) W (W.setCell ⟨f,12,none⟩ (.pointer (some ⟨w.heap.size+1,0,none⟩))):=Ch.setCell (p:=⟨f,12,none⟩) (Ch.refl (fun k=>k=f) _) (Or.inl rfl) _;have ae:Ch (fun k=>k=gc) (W.setCell ⟨f,12,none⟩ (.pointer (some ⟨w.heap.size+1,0,none⟩))) ((W.setCell ⟨f,12,none⟩ (.pointer (some ⟨w.heap.size+1,0,none⟩))).setCell ⟨gc,1,none⟩ (.pointer (some ⟨w.heap.size+1,0,none⟩))):=Ch.setCell (p:=⟨gc,1,none⟩) (Ch.refl (fun k=>k=gc) _) (Or.inl rfl) _;have z:=gJ (ad.heap d X) 1 (.pointer (some ⟨w.heap.size+1,0,none⟩));simp only[qT,qU,qV] at z;have U:=H.out.grow (w':=(W.setCell ⟨f,12,none⟩ (.pointer (some ⟨w.heap.size+1,0,none⟩))).setCell ⟨gc,1,none⟩ (.pointer (some ⟨w.heap.size+1,0,none⟩))) (gn:=w.heap.size+1) x (.slice i x.sends.length l) (.slice m x.outs.length o) fT (fun j O=>by have:=aa.out j O;omega) R (C.mono (fun k D=>D.imp_right fun e=>⟨by have:=v.out;omega,by rw[Q.out];exact e⟩)) (by rw[z,if_neg v.out]) (C.heap M fT)
   (fun ak am al L=>by
    rw[Q.out] at L ⊢;have:=ae.heap (gJ L 12 (.pointer (some ⟨w.heap.size+1,0,none⟩))) Y;rw[this];rfl) I.out J.out
  go_end0
  exact⟨rfl,⟨_,U⟩,((r.mono hB).setCell (p:=⟨f,12,none⟩) (by show B≤f;omega) _).setCell (p:=⟨gc,1,none⟩) hgc _⟩
theorem wq (v:Value) (xs:List iP) (F:Nat→Prop) (w:World) (h:Rd kO w F v xs) (hF:∀k,F k→k<w.heap.size):
  Calls Tryz.prog 157 #[v] w fun q w' =>∃gc G,q= .returned (.pointer (some ⟨gc,0,none⟩))∧w.heap.size≤gc∧lI w' F gc xs G∧Below w.heap.size w w':=by
 obtain⟨A,c,rfl,-,L,-⟩:=id h;have E:Below w.heap.size w (w.alloc (.cells #[.pointer none,.pointer none] 282)):=gs (gM _ _) _;have Z:(w.alloc (.cells #[.pointer none,.pointer none] 282)).heap[w.heap.size]? =some (.cells #[.pointer none,.pointer none] 282):=gL rfl;go_enter Tryz.func157,Tryz.ntmps157;go_wp2_with fail;obtain⟨gc,d⟩:∃g,g=w.heap.size:=⟨_,rfl⟩;have l:=fS (show w.heap.size≤gc∧gc≤w.heap.size by omega);rw[←d] at Z;simp only[←d];have p:lI (w.alloc (.cells #[.pointer none,.pointer none] 282)) F gc [] (fun j=>j):=⟨by simpa [vS,sX] using Z,fun j a=>by simp at a,fun i j _ a=>by simp at a,fun j a=>by simp at a,fun f=>by have J:gc<w.heap.size:=hF _ f;omega,fun j a=>by simp at a,fun k f=>by have J:k<w.heap.size:=hF _ f;simp;omega⟩;generalize w.alloc (.cells #[.pointer none,.pointer none] 282)=W at*;clear d Z
 go_loopw [10] (fun i wr=>∃(k:Nat) (G:Nat→Nat),i= .int .i64 k∧k≤xs.length∧lI wr F gc (xs.take k) G∧Below w.heap.size w wr) (fun i _=>xs.length-(intOf i).toNat)
 case atStart=>exact⟨0,_,rfl,j8 _,by simpa using p,E⟩
 case round=>
  clear p;obtain⟨k,G,rfl,f,r,e⟩:=hrel;by_cases hlt:k<xs.length
  ·obtain⟨U,V,B,H,C,I,rfl,R,⟨y0,y1,y2,y3,y4,y5,y6⟩,⟨y7,y8,y9⟩,S,T,P,Q⟩:=lM (h.below e) k hlt
   have X:(k:Int)<(xs.length:Int):=fT;have b:=gs (gM wr.heap.size wr) (.cells #[xs[k].ev.time,xs[k].ev.to,xs[k].ev.from_,xs[k].ev.count,xs[k].ev.n,xs[k].ev.kind,xs[k].ev.arg,xs[k].st.x,xs[k].st.y,xs[k].st.c,.slice B xs[k].sends.length H,.slice C xs[k].outs.length I] 185);have u:=r.below b;have M:=P.below b;have O:=Q.below b;have m:=fU e b e.size;go_wp2_with fail;refine(zf gc w.heap.size _ (xs.take k) G xs[k] _ _ _ u m.size (by have:=l.out;omega) M O).mono ?_;rintro q Y ⟨rfl,⟨D,o⟩,s⟩;have t:=m.trans s;rw[←vX hlt] at o;apply_assumption;go_wp2_with fail;go_roundw
   case rel=>exact⟨k+1,D,by go_num,fT,o,t⟩
   case measure=>exact ms
  ·have z:k=xs.length:=fT
   subst z;rw[li] at r;go_wp2_with fail;go_ret;exact⟨gc,G,rfl,l.out.1,r,e⟩
theorem tO (gc:Nat) (E:Nat→Prop) (xs:List iP) (G:Nat→Nat) (came:List hY) (vc:Value) (F:Nat→Prop) (w:World) (h:lI w E gc xs G) (hc:Rd iw w F vc came):
  Calls Tryz.prog 158 #[.pointer (some ⟨gc,0,none⟩),vc] w fun q w' =>q= .returned (.int .i64 (hZ xs came:Nat))∧Below w.heap.size w w':=by
 obtain⟨C,W,rfl,-,T,-⟩:=id hc;have M:w.cell? ⟨gc,0,none⟩=some (vS G xs.length 0):=fw h.blk 0;go_enter Tryz.func158,Tryz.ntmps158;go_wp2_with fail
 go_loopw [5,6] (fun i l wr=>∃k:Nat,i= .int .i64 k∧l=vS G xs.length k∧k≤xs.length∧k≤came.length∧Hid (hZ xs came=k+hZ (xs.drop k) (came.drop k))∧Below w.heap.size w wr) (fun i _ _=>xs.length-(intOf i).toNat)
 case atStart=>exact⟨0,rfl,rfl,j8 _,j8 _,fS sm,gM _ _⟩
 case round=>
  clear M;obtain⟨k,rfl,rfl,X,S,HS,g⟩:=hrel;have m:=hc.below g;have P:=h.below g;by_cases h1:k<xs.length
  case neg=>
   have j:=fS (show hZ xs came=k by have d:=HS.out;rw[uY fT] at d;omega);have c:vS G xs.length k= .pointer none:=by rw[vS,if_neg h1]
   rw[c];clear h1 c;go_upto_region 3 with fail;refine kA [.rd [0],.mid 1,.rd [2,3,4,5,6,7,8,9,10,11,12,13,14,15,16,17]] [18,19] ?_;refine vL ?_;intro N hN;go_wp2_with fail;refine fV (hN _ ?_);clear hN N;refine vM ?_;intro N hN;go_wp2_with fail;refine vN (gM _ _) (hN _ _ ?_);clear hN;refine vL ?_;intro N hN;go_wp2_with fail;refine fV (hN _ ?_);clear hN N;refine vF ?_;have a:=g.drew;go_wp2_with fail;go_ret;exact⟨by rw[j.out];rfl,a⟩
  have c:vS G xs.length k= .pointer (some ⟨G k,0,none⟩):=by rw[vS,if_pos h1]
  rw[c];by_cases h2:k<came.length
  case neg=>
   have j:=fS (show hZ xs came=k by have d:=HS.out;rw[uZ fT] at d;omega);have Q:decide ((k:Int)<(came.length:Int))=false:=ia fT;have Z:decide (k<came.length)=false:=ia h2;clear h2 c;go_upto_region 3 with fail;refine kA [.rd [0],.mid 1,.rd [2,3,4,5,6,7,8,9,10,11,12,13,14,15,16,17]] [18,19] ?_;refine vL ?_;intro N hN;go_wp2_with fail;refine fV (hN _ ?_);clear hN N;refine vM ?_;intro N hN;go_wp2_with fail;refine vN (gM _ _) (hN _ _ ?_);clear hN;refine vL ?_;intro N hN;go_wp2_with fail;refine fV (hN _ ?_);clear hN N;refine vF ?_;have a:=g.drew;go_wp2_with fail;go_ret;exact⟨by rw[j.out];rfl,a⟩
  have Q:(k:Int)<(came.length:Int):=fT;obtain⟨vs,vo,b,-,-⟩:=P.at_ k h1;obtain⟨V,Y,rfl,R,z,A,B,D,H,I,J⟩:=jC m k h2;have o:wr.cell? ⟨G k,0,none⟩=some (.int .i64 xs[k].ev.time):=by rw[fw b];rfl
  have p:wr.cell? ⟨G k,1,none⟩=some (.int .i64 xs[k].ev.to):=by rw[fw b];rfl
  have r:wr.cell? ⟨G k,2,none⟩=some (.int .i64 xs[k].ev.from_):=by rw[fw b];rfl
  have s:wr.cell? ⟨G k,3,none⟩=some (.int .i64 xs[k].ev.count):=by rw[fw b];rfl
  have t:wr.cell? ⟨G k,4,none⟩=some (.int .i64 xs[k].ev.n):=by rw[fw b];rfl
  have u:wr.cell? ⟨G k,5,none⟩=some (.int .i64 xs[k].ev.kind):=by rw[fw b];rfl
  have v:wr.cell? ⟨G k,6,none⟩=some (.int .i64 xs[k].ev.arg):=by rw[fw b];rfl
  have U:wr.cell? ⟨G k,12,none⟩=some (vS G xs.length (k+1)):=by rw[fw b];rfl
  by_cases he:xs[k].ev=came[k]
  ·have L:=fS (show hZ xs came=(k+1)+hZ (xs.drop (k+1)) (came.drop (k+1)) by have d:=HS.out;rw[zX h1 h2 he] at d;omega)
   obtain⟨x,e⟩:∃x,xs[k].ev=x:=⟨_,rfl⟩;obtain⟨y,f⟩:∃y,came[k]=y:=⟨_,rfl⟩;rw[e] at o p r s t u v;rw[f] at z A B D H I J;have O:decide (x=y)=true:=iW (by rw[←e,←f];exact he);clear e f he c b;go_upto_region 3 with fail;refine kA [.rd [0],.mid 1,.rd [2,3,4,5,6,7,8,9,10,11,12,13,14,15,16,17]] [18,19] ?_;refine vL ?_;intro N hN;go_wp2_with fail;refine fV (hN _ ?_);clear hN N;refine vM ?_;intro N hN;go_wp2_with fail;refine vN (gM _ _) (hN _ _ ?_);clear hN;refine vL ?_;intro N hN;go_wp2_with fail;refine fV (hN _ ?_);clear hN N;refine vF ?_;have a:=g.drew;go_wp2_with fail;go_roundw
   case rel=>exact⟨k+1,by go_num,rfl,fT,fT,L,a⟩
   case measure=>exact ms
  ·have j:=fS (show hZ xs came=k by have d:=HS.out;rw[vf h1 h2 he] at d;omega)
   obtain⟨x,e⟩:∃x,xs[k].ev=x:=⟨_,rfl⟩;obtain⟨y,f⟩:∃y,came[k]=y:=⟨_,rfl⟩;rw[e] at o p r s t u v;rw[f] at z A B D H I J;have O:decide (x=y)=false:=ia (by rw[←e,←f];exact he);clear e f he c b;go_upto_region 3 with fail;refine kA [.rd [0],.mid 1,.rd [2,3,4,5,6,7,8,9,10,11,12,13,14,15,16,17]] [18,19] ?_;refine vL ?_;intro N hN;go_wp2_with fail;refine fV (hN _ ?_);clear hN N;refine vM ?_;intro N hN;go_wp2_with fail;refine vN (gM _ _) (hN _ _ ?_);clear hN;refine vL ?_;intro N hN;go_wp2_with fail;refine fV (hN _ ?_);clear hN N;refine vF ?_;have a:=g.drew;go_wp2_with fail;go_ret;exact⟨by rw[j.out];rfl,a⟩
end Go.Proofs.YtlndjfflhegkdaaGreatDoor
