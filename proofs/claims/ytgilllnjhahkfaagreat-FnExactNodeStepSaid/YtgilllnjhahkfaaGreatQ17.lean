/- Parts of the proof: Imp4. -/
import Derived.Test.YtgilllnjhahkfaaGreatQ13
import Derived.Test.YtgilllnjhahkfaaGreatQ15
set_option linter.unusedVariables false
set_option linter.unusedSimpArgs false
set_option linter.unusedSectionVars false
set_option maxHeartbeats 4000000
set_option maxRecDepth 100000
namespace Go.Proofs.YtgilllnjhahkfaaGreat
open Go.RowKit
structure ky {α:Type} (d:Ty α) (e t:TypeId) (less:FuncId) (w:World) (g:Nat) (F:Nat→Prop) (v:Value) (xs:List α):Prop where
 blk:w.heap[g]? =some (.cells #[v,.func (.func less) #[] #[]] t (0,0))
 row:Ow d e w F v xs
 apart:¬F g
 lt:∀k,F k→k<w.heap.size
def yz (F:Nat→Prop) (W w':World):Prop:=(∀k,k<W.heap.size→¬F k→w'.heap[k]? =W.heap[k]?)∧W.heap.size≤w'.heap.size
theorem yz.cells {F:Nat→Prop} {W w':World} (h:yz F W w'):(∀b o,b<W.heap.size→¬F b→w'.cell? ⟨b,o,none⟩=W.cell? ⟨b,o,none⟩)∧(∀b o,b<W.heap.size→¬F b→w'.frozen? ⟨b,o,none⟩=W.frozen? ⟨b,o,none⟩):=
 ⟨fun b o hb hn=>World.cell?_of_block (w:=W) (h.1 b hb hn),fun b o hb hn=>World.frozen?_of_block (w:=W) (h.1 b hb hn)⟩
theorem CC (g:Nat) (F:Nat→Prop) (v:Value) (l:List iQ) (x:iQ) (w:World) (h:ky ii 120 223 166 w g F v l) (hl:l.length≤1000):
  Calls Tryz.prog 167 #[.pointer (some ⟨g,0,none⟩),mB x] w fun q w' =>q= .returned (.tuple #[])∧∃v' F',ky ii 120 223 166 w' g F' v' (mr hM l x)∧(∀k,F' k→F k∨w.heap.size≤k)∧Ch (fun k=>k=g∨F k) w w':=by
 obtain⟨A1,c1,rfl,m1⟩:=h.row.shape;unfold mB;go_enter Tryz.func167,Tryz.ntmps167;go_wp2_with fail;have a8:=gL h.blk;have B0:=(ip (o:= .cells #[x.time,x.proc,x.count,x.n,x.value] 120) a8).trans h.blk;have BX:(w.alloc (.cells #[x.time,x.proc,x.count,x.n,x.value] 120)).heap[w.heap.size]? =some (.cells #[x.time,x.proc,x.count,x.n,x.value] 120):=gX rfl;have Z:=h.row.alloc (.cells #[x.time,x.proc,x.count,x.n,x.value] 120);have hC:=(Ch.refl (fun k=>k=g∨F k) w).alloc (.cells #[x.time,x.proc,x.count,x.n,x.value] 120);have ae:=h.apart;have bf:¬F w.heap.size:=fun L=>by have:=h.lt _ L;omega
 clear h;generalize w.alloc (.cells #[x.time,x.proc,x.count,x.n,x.value] 120)=W at*;have hs:=hC.size;have J:=nD B0;obtain⟨x0,x1,x2,x3,x4⟩:=ra BX;have aE:=gL B0;have bg:=gL BX;refine pP (fun w' =>yz F W w') (.take 0 (.take 1 (.take 2 (.take 3 (.take 4 (.take 5 (.one 6 (.one 7 (.take 8 (.take 9 (.one 10 (.nil)))))))))))) ie ie qP ?_;have HS:=(show yz F W W.drew from ⟨fun _ _ _=>rfl,j9 _⟩)
 iterate 6 refine Gj ?_
 refine yN (by rfl) (by rfl) (fun K hK=>?_);go_simp;refine hK _ _ (Or.inr ⟨fun k f hn=>(ip (by have:=HS.2;omega)).trans (HS.1 k f hn),jb HS.2 sm⟩) ?_;clear hK K;refine yN (by rfl) (by rfl) (fun K hK=>?_);refine kO (d:=ii) 34 (by rfl) Tryz.underlying34 _ 40 lH rfl dc dc (by rfl) ((Z.move (w':=W.drew) (fun _ _=>rfl)).alloc _) x _ (by rfl) (gX rfl) (fun _=>False) rfl (fun _ L=>L.elim) (fun _ L=>L.elim) gO (fun k=>F k∨w.heap.size≤k) (fun _ f=> .inl f) (fun _ L=>L.elim) (fun k f=> .inr (by first|omega|(simp at f;omega))) ?_;intro v3 w3 aa E aR;obtain⟨R,s,rfl,m3⟩:=aa.shape;have az:Ch (fun k=>k=g∨F k) w w3:=((hC.drew).alloc _).grown E (fun k f=> .inl (.inr (Z.inF f)));have S:w3.heap[g]? =some (.cells #[.slice A1 l.length c1,.func (.func 166) #[] #[]] 223):=(E.block g (by simp;omega) (fun e=>ae (Z.inF e.symm))).trans ((ip (by simpa using aE)).trans B0);have X:yz F W w3:=⟨fun k f hn=>(E.block k (by simp;omega) (fun e=>hn (Z.inF e.symm))).trans (ip (by simpa using f)),by have:=E.size;simp at this;omega⟩;refine hK _ _ (Or.inr X) ?_;clear hK K HS;have HS:=X;clear X;go_simp
 iterate 2 refine Gj ?_
 have r:=nD S;have z:=ft S 0;refine yN (by rfl) (by rfl) (fun K hK=>?_);go_simp;refine hK _ _ (Or.inl ie) ?_;clear hK K r z;simp only[wN];have aA:¬(F g∨w.heap.size≤g):=fun hh=>hh.elim ae (fun h2=>gO);have c:=(aa.setCell (i:=0) S dc (.slice R (l++[x]).length s)).bound;have A:=az.setCell (p:=⟨g,0,none⟩) (.inl (.inl rfl)) (.slice R (l++[x]).length s);have y:=gN S 0 (.slice R (l++[x]).length s);simp only[List.setIfInBounds_toArray,List.set_cons_zero] at y;have P:(l++[x]).length=l.length+1:=by simp
 rw[P] at c A y;have D:=gP (show mr hM l x=oI hM l.length (l++[x]) l.length from rfl);obtain⟨m0,ai⟩:∃m,m=l++[x]:=⟨_,rfl⟩;rw[←ai] at c P;rw[←ai] at D;have I:=gP P;have aG:l.length<m0.length:=gO;have ah:m0.length≤1001:=gO;clear ai P HS B0 BX Z hC ae bf J x0 x1 x2 x3 x4 aE bg hs aa E aR az S m3;generalize w3.setCell ⟨g,0,none⟩ (.slice R (l.length+1) s)=V at*;obtain⟨J,a1⟩:=DA y;obtain⟨b,ab,aO,aC,aF,aT,aS⟩:=c.head gO;obtain⟨rfl,rfl⟩:R=some ⟨b,0,none⟩∧s=ab:=by injection aC with u1 u2 u3;exact⟨u1,u3⟩
 clear aC aT aS aO;go_wp2_with fail
 go_loopw [4] (fun t wr=>∃(k:Nat) (m:List iQ),t= .int .i64 k∧k<m.length∧m.length≤1001∧Hid (m.length=l.length+1)∧wr.heap[g]? =some (.cells #[.slice (some ⟨b,0,none⟩) (l.length+1) s,.func (.func 166) #[] #[]] 223)∧Ow ii 120 wr (fun q=>(F q∨w.heap.size≤q)∧q<V.heap.size) (.slice (some ⟨b,0,none⟩) (l.length+1) s) m∧Ch (fun q=>q=g∨F q) w wr∧V.heap.size≤wr.heap.size∧Hid (mr hM l x=oI hM k m k)) (fun t _=>(intOf t).toNat)
 case atStart=>exact⟨l.length,m0,rfl,aG,ah,I,y,c,A,j9 _,D⟩
 case round=>
  clear y c A D I aG ah J a1;obtain⟨k,m,rfl,f,a9,I,y,c,A,ad,D⟩:=hrel;have M:∀{wz:World},wz.heap[g]? =some (.cells #[.slice (some ⟨b,0,none⟩) (l.length+1) s,.func (.func 166) #[] #[]] 223)→Ow ii 120 wz (fun q=>(F q∨w.heap.size≤q)∧q<V.heap.size) (.slice (some ⟨b,0,none⟩) (l.length+1) s) m→V.heap.size≤wz.heap.size→ky ii 120 223 166 wz g (fun q=>(F q∨w.heap.size≤q)∧q<V.heap.size) (.slice (some ⟨b,0,none⟩) (l.length+1) s) m:=fun r z e3=>⟨r,z,fun hh=>aA hh.1,fun q hq=>nk hq.2 e3⟩;obtain⟨J,a1⟩:=DA y;have ag:=gL y;by_cases h0:k=0
  ·have HE:=gP (show mr hM l x=m by rw[D.out,h0];rfl)
   have kd:decide ((k:Int)>0)=false:=iU gO;have kd':decide (0<k)=false:=iU gO;clear h0;go_wp2_with fail
   go_end0
   exact⟨rfl,_,(fun q=>(F q∨w.heap.size≤q)∧q<V.heap.size),by rw[HE.out];exact M y c ad,fun q hq=>hq.1,A⟩
  ·obtain⟨u,hu⟩:∃u,u=(k-1) / 2:=⟨_,rfl⟩
   have aI:((k:Int)-1) / 2=(u:Int):=gO;have bB:u<k:=gO;have B:u<m.length:=gO;have HU:=gP hu;have kd:decide ((k:Int)>0)=true:=jT gO;have kd':decide (0<k)=true:=jT gO;have p1:(1:Int)≤(k:Int):=gO;have p2:1≤k:=gO;have p3:(k:Int)<(l.length:Int)+1:=by have:=I.out;omega
   have p4:(u:Int)<(l.length:Int)+1:=by have:=I.out;omega
   clear h0 hu;go_upto_region 5 with fail;simp only[aI];clear aI;obtain⟨bb,oo,a,af,z0,z1,z2,z3,z4⟩:=ko (j:=k) c.rd f;injection a with a;injection a with r z _;subst r z;obtain⟨bb,oo,a,-,y0,y1,y2,y3,y4⟩:=ko (j:=u) c.rd B;injection a with a;injection a with r z _;subst r z;simp only[Nat.zero_add] at z0 z1 z2 z3 z4 y0 y1 y2 y3 y4;obtain⟨bt,H⟩:∃bt,hM m[k] m[u]=bt:=⟨_,rfl⟩;refine pP (fun w' =>Below wr.heap.size wr w') (.take 0 (.take 1 (.take 2 (.take 3 (.take 4 (.take 5 (.take 6 (.take 7 (.take 8 (.take 9 (.take 10 (.take 11 (.take 12 (.take 13 (.take 14 (.take 15 (.take 16 (.take 17 (.one 18 (.take 19 (.nil))))))))))))))))))))) ie ie qP ?_;have HS:=(gY wr.heap.size wr).drew
   iterate 18 refine FO ?_
   refine yN (by rfl) (by rfl) (fun K hK=>?_);go_simp;refine(pt m[k] m[u] _).mono ?_;rintro e C ⟨he,aD⟩;rw[H] at he;subst he;have U:=gV HS aD;refine hK _ _ (Or.inr U) ?_;clear hK K HS aD;have HS:=U;clear U
   iterate 1 refine FO ?_
   simp only[wN];have G:Ow ii 120 C (fun q=>(F q∨w.heap.size≤q)∧q<V.heap.size) (.slice (some ⟨b,0,none⟩) (l.length+1) s) m:=c.below HS;have T:=gJ HS ag y;have Y:=A.trans (Ch.of_below HS);have ac:=jb ad HS.size;clear c y A ad J a1 HS z0 z1 z2 z3 z4 y0 y1 y2 y3 y4 ag af;cases bt
   case false=>
    have HE:=gP (show mr hM l x=m by
     rw[D.out];obtain⟨k',rfl⟩:∃k',k=k'+1:=⟨k-1,gO⟩;rw[oI,if_neg gO,←HU.out,iP f,iP B,H];rfl)
    clear H;go_wp2_with fail
    go_end0
    exact⟨rfl,_,(fun q=>(F q∨w.heap.size≤q)∧q<V.heap.size),by rw[HE.out];exact M T G ac,fun q hq=>hq.1,Y⟩
   case true=>
    clear M;go_upto_region 6 with fail;have J:=nD T;have a7:=gL T;obtain⟨bb,oo,a,af,z0,z1,z2,z3,z4⟩:=ko (j:=k) G.rd f;injection a with a;injection a with r z _;subst r z;obtain⟨bb,oo,a,-,y0,y1,y2,y3,y4⟩:=ko (j:=u) G.rd B;injection a with a;injection a with r z _;subst r z;simp only[Nat.zero_add] at z0 z1 z2 z3 z4 y0 y1 y2 y3 y4;refine pX (fun w' =>Below C.heap.size C w') [3,8,13,16,20,23] (.pure 0 (.pure 1 (.pure 2 (.take 3 (.pure 4 (.pure 5 (.pure 6 (.pure 7 (.take 8 (.pure 9 (.pure 10 (.pure 11 (.pure 12 (.take 13 (.pure 14 (.pure 15 (.take 16 (.pure 17 (.pure 18 (.pure 19 (.take 20 (.pure 21 (.pure 22 (.take 23 (.one 24 (.one 25 (.one 26 (.one 27 (.nil))))))))))))))))))))))))))))) ie ie qP ?_;have HS:=(gY C.heap.size C).drew
    iterate 3 (refine mb (v:=?_) (by rfl) (by rfl) ?_ ?_;rotate_left;(focus (intro wS;go_simp;(try (with_reducible rfl));done));(intro K hK;go_simp;refine hK _ ?_;clear hK K))
    iterate 1 (refine ma (v:=?_) (by rfl) HS (by rfl) ?_ ?_;rotate_left;(focus (intro wS hS;obtain⟨kc,kf⟩:=kz hS;go_simp;(try (with_reducible rfl));done));(intro K hK;go_simp;refine hK _ ?_;clear hK K))
    iterate 4 (refine mb (v:=?_) (by rfl) (by rfl) ?_ ?_;rotate_left;(focus (intro wS;go_simp;(try (with_reducible rfl));done));(intro K hK;go_simp;refine hK _ ?_;clear hK K))
    iterate 1 (refine ma (v:=?_) (by rfl) HS (by rfl) ?_ ?_;rotate_left;(focus (intro wS hS;obtain⟨kc,kf⟩:=kz hS;go_simp;(try (with_reducible rfl));done));(intro K hK;go_simp;refine hK _ ?_;clear hK K))
    iterate 4 (refine mb (v:=?_) (by rfl) (by rfl) ?_ ?_;rotate_left;(focus (intro wS;go_simp;(try (with_reducible rfl));done));(intro K hK;go_simp;refine hK _ ?_;clear hK K))
    iterate 1 (refine ma (v:=?_) (by rfl) HS (by rfl) ?_ ?_;rotate_left;(focus (intro wS hS;obtain⟨kc,kf⟩:=kz hS;go_simp;(try (with_reducible rfl));done));(intro K hK;go_simp;refine hK _ ?_;clear hK K))
    iterate 2 (refine mb (v:=?_) (by rfl) (by rfl) ?_ ?_;rotate_left;(focus (intro wS;go_simp;(try (with_reducible rfl));done));(intro K hK;go_simp;refine hK _ ?_;clear hK K))
    iterate 1 (refine ma (v:=?_) (by rfl) HS (by rfl) ?_ ?_;rotate_left;(focus (intro wS hS;obtain⟨kc,kf⟩:=kz hS;go_simp;(try (with_reducible rfl));done));(intro K hK;go_simp;refine hK _ ?_;clear hK K))
    iterate 3 (refine mb (v:=?_) (by rfl) (by rfl) ?_ ?_;rotate_left;(focus (intro wS;go_simp;(try (with_reducible rfl));done));(intro K hK;go_simp;refine hK _ ?_;clear hK K))
    iterate 1 (refine ma (v:=?_) (by rfl) HS (by rfl) ?_ ?_;rotate_left;(focus (intro wS hS;obtain⟨kc,kf⟩:=kz hS;go_simp;(try (with_reducible rfl));done));(intro K hK;go_simp;refine hK _ ?_;clear hK K))
    iterate 2 (refine mb (v:=?_) (by rfl) (by rfl) ?_ ?_;rotate_left;(focus (intro wS;go_simp;(try (with_reducible rfl));done));(intro K hK;go_simp;refine hK _ ?_;clear hK K))
    iterate 1 (refine ma (v:=?_) (by rfl) HS (by rfl) ?_ ?_;rotate_left;(focus (intro wS hS;obtain⟨kc,kf⟩:=kz hS;go_simp;(try (with_reducible rfl));done));(intro K hK;go_simp;refine hK _ ?_;clear hK K))
    refine sl (by rfl) (by rfl) (fun K hK=>?_);go_simp;refine hK _ _ (Or.inl ie) ?_;clear hK K;have aB:Ow ii 120 C.drew (fun q=>(F q∨w.heap.size≤q)∧q<V.heap.size) (.slice (some ⟨b,0,none⟩) (l.length+1) s) m:=G.below HS;obtain⟨s1,s2,s3⟩:=aB.setAt (g:=b) rfl k f m[u];refine sl (by rfl) (by rfl) (fun K hK=>?_);refine wp_store_mid 120 (.tmp 71) (.tmp 63) (by rfl) b (k*5) (iQ.cells m[u]).toArray (by rfl) (by rfl) s1 ie (by simp[iQ.cells,Value.oneCell']) ?_;refine hK _ _ (Or.inl ie) ?_;clear hK K s1;simp only[List.toList_toArray];generalize C.drew.setCells b (k*5) (iQ.cells m[u])=Wa at*;go_simp;refine sl (by rfl) (by rfl) (fun K hK=>?_);go_simp;refine hK _ _ (Or.inl ie) ?_;clear hK K;obtain⟨q1,q2,q3⟩:=s2.setAt (g:=b) rfl u (by simpa using B) m[k];refine sl (by rfl) (by rfl) (fun K hK=>?_);refine wp_store_mid 120 (.tmp 72) (.tmp 70) (by rfl) b (u*5) (iQ.cells m[k]).toArray (by rfl) (by rfl) q1 ie (by simp[iQ.cells,Value.oneCell']) ?_;refine hK _ _ (Or.inl ie) ?_;clear hK K;have ba:g≠b:=fun r=>aA (r▸aF.1);have O:Ch (fun q=>q=b) C.drew (Wa.setCells b (u*5) (iQ.cells m[k])):=s3.trans q3;have aY:=O.heap (show C.drew.heap[g]? =_ from T) ba;have a4:Ch (fun q=>q=g∨F q) w (Wa.setCells b (u*5) (iQ.cells m[k])):=(Y.drew).then O (fun q hq=>by
     have hq':q=b:=hq;subst hq';rcases aF.1 with h1|h1
     ·exact .inl (.inr h1)
     ·exact .inr h1)
    have a5:V.heap.size≤(Wa.setCells b (u*5) (iQ.cells m[k])).heap.size:=jb ac O.size;have aH:(m.set k m[u]).set u m[k]=pa m k u:=by rw[pa,iP f,iP B]
    rw[aH] at q2;have Q:(pa m k u).length=m.length:=le m k u;have aZ:=gP (show(pa m k u).length=l.length+1 by rw[Q];exact I.out);have a2:=gP (show mr hM l x=oI hM u (pa m k u) u by
     rw[D.out];obtain⟨k',rfl⟩:∃k',k=k'+1:=⟨k-1,gO⟩;rw[oI,if_neg gO,←HU.out,iP f,iP B,if_pos H];exact uS _ _ _ _ gO (j9 _))
    have bd:u<(pa m k u).length:=by rw[Q];exact B
    have a':(pa m k u).length≤1001:=by rw[Q];exact a9
    clear H G T Y ac HS aB s2 s3 q1 q3 O aH Q z0 z1 z2 z3 z4 y0 y1 y2 y3 y4 J D I a7 af;simp only[List.toList_toArray];generalize Wa.setCells b (u*5) (iQ.cells m[k])=W6 at*;go_simp;simp only[wI];go_wp2_with fail;go_roundw
    case rel=>exact⟨u,_,rfl,bd,a',aZ,aY,q2,a4,a5,a2⟩
    case measure=>exact ms
end Go.Proofs.YtgilllnjhahkfaaGreat
