/- Parts of the proof: Spc8, Ex7. -/
import Derived.Deep.Slices
import Derived.Test.YtlndjfflhegkdaaGreatDoorQ14
import Derived.Test.YtlndjfflhegkdaaGreatDoorQ18
set_option linter.unusedVariables false
set_option linter.unusedSimpArgs false
set_option linter.unusedSectionVars false
set_option maxHeartbeats 4000000
set_option maxRecDepth 100000
namespace Go.Proofs.YtlndjfflhegkdaaGreatDoor
open Go.RowKit
def Fr (l:List ik) (x:ik) (m:Nat):List (Nat×xb):=[(0,sK hJ 101 []),(9,fun v w F=>∃g,v= .slice (some ⟨g,0,none⟩) 1 1∧F g∧w.heap[g]? =some (.cells (ik.cells x).toArray 101 (0,0))),(4,sK hJ 101 (l.take m)),(10,sK hJ 101 (l.take m++[x])),(14,sK hJ 101 (l.take m++[x]++l.drop m))]
theorem Ak (v:Value) (xs:List ik) (F:Nat→Prop) (w:World) (h:Rd hJ w F v xs) (hlen:xs.length≤1000):
  Calls Tryz.prog 75 #[v] w fun q w' =>∃u,q= .returned u∧Ow hJ 101 w' (fun k=>w.heap.size≤k) u (iU xs)∧Below w.heap.size w w':=by
 obtain⟨A,cp,rfl,-,-,-⟩:=id h;go_enter Tryz.func75,Tryz.ntmps75;go_wp2_with fail
 go_loopw [3,4] (fun o i wr=>∃k:Nat,i= .int .i64 k∧k≤xs.length∧Ow hJ 101 wr (fun q=>w.heap.size≤q) o ((xs.take k).foldl (lf gO) [])∧Below w.heap.size w wr) (fun _ i _=>xs.length-(intOf i).toNat)
 case atStart=>exact⟨0,rfl,j8 _,Ow.empty hJ (gL sm) (jn _),gs (gM _ _) _⟩
 case round=>
  obtain⟨k,rfl,a,b,Q⟩:=hrel;by_cases hlt:k<xs.length
  ·have z:Rd hJ wr F (.slice A xs.length cp) xs:=h.below Q
   have ad:=ti (lt:=gO) xs k a;have ac:=fS (qt (β:=ik) (lf gO) hlt);obtain⟨l,hL⟩:∃l,l=(xs.take k).foldl (lf gO) []:=⟨_,rfl⟩;rw[←hL] at b ad ac;clear hL;have hll':l.length≤1000:=fT;clear ad;obtain⟨A3,c3,rfl,aK⟩:=b.shape;go_wp2_with fail;obtain⟨wo,ae⟩:∃wo,wo=wr:=⟨_,rfl⟩
   go_loopw [5] (fun j w2=>∃m:Nat,j= .int .i64 m∧m≤l.length∧Hid (jD gO l xs[k] l.length=jD gO l xs[k] m)∧Below wo.heap.size wo w2) (fun j _=>(intOf j).toNat)
   case atStart=>subst ae;exact⟨l.length,rfl,jn _,rfl,gM _ _⟩
   case round=>
    obtain⟨m,rfl,Z,V,J⟩:=hrel;subst ae;have M:=b.below J;have I:=z.below J;obtain⟨b0,o0,rfl,ai,a0,a1,a2,a3,a4⟩:=kh I k hlt;go_upto_region 6 with fail
    go_cut [28] (fun t wc=>∃Y,t= .bool Y∧Hid (decide (0<m∧gO xs[k] (kp l (m-1))=true)=Y)∧Below wr.heap.size wr wc)
    case first=>
     by_cases q3:m=0
     ·have al:decide ((m:Int)>0)=false:=by simp;omega
      have an:decide (0<m)=false:=by simp;omega
      have HD:=fS (show decide (0<m∧gO xs[k] (kp l (m-1))=true)=false by simp;omega);clear q3;refine gV (fun w' =>Below wr.heap.size wr w') [tT 0,tT 1,tT 2,tT 3,tT 4,tT 5,tT 6,tT 7,tT 8,tT 9,tT 10,tT 11,tF 12,tT 13] gY gY qP ?_;have HS:=(gM wr.heap.size wr).drew
      iterate 12 refine jJ ?_
      refine iN (by rfl) (by rfl) (fun K hK=>?_);go_simp;refine hK _ _ (Or.inr HS) ?_;clear hK K
      iterate 1 refine jJ ?_
      simp only[iG];go_wp2_with fail;go_meet;exact⟨_,rfl,HD,HS⟩
     ·have ak:0<m:=fT
      have al:decide ((m:Int)>0)=true:=by simp;omega
      have an:decide (0<m)=true:=by simp;omega
      obtain⟨b2,o2,rfl,aE,z0,z1,z2,z3,z4⟩:=kh M.rd (m-1) fT;have aJ:((m:Int)-1).toNat=m-1:=fT;have p1:(0:Int)≤(m:Int)-1:=fT;have p2:(m:Int)-1<(l.length:Int):=fT;have p3:(1:Int)≤(m:Int):=fT;have p4:1≤m:=fT;have p5:IntKind.i64.wrap ((m:Int)-1)=(m:Int)-1:=IntWalk.i64_in _ fT;obtain⟨t,q4⟩:∃t,gO xs[k] (l[m-1]'fT)=t:=⟨_,rfl⟩;have HD:=fS (show decide (0<m∧gO xs[k] (kp l (m-1))=true)=t by rw[iq fT,q4];cases t<;>simp[ak]);clear q3;refine gV (fun w' =>Below wr.heap.size wr w') [tT 0,tT 1,tT 2,tT 3,tT 4,tT 5,tT 6,tT 7,tT 8,tT 9,tT 10,tT 11,tF 12,tT 13] gY gY qP ?_;have HS:=(gM wr.heap.size wr).drew
      iterate 12 refine jJ ?_
      refine gU (by rfl) (by rfl) (fun K hK=>?_);go_simp;refine(sh xs[k] l[m-1] _).mono ?_;rintro e D ⟨he,R⟩;rw[q4] at he;subst he;have y:=gK HS R;refine hK _ _ (Or.inr y) ?_;clear hK K HS;have HS:=y;clear y
      iterate 1 refine jJ ?_
      simp only[iG];go_wp2_with fail;go_meet;exact⟨_,rfl,HD,HS⟩
    case rest=>
     obtain⟨Y,rfl,X,L⟩:=hcut;have T:=gK J L;cases Y
     case true=>
      have r:=of_decide_eq_true X.out;have HP:=fS (yE (lt:=gO) r.1 r.2);have aL:=r.1;clear r X;go_wp2_with fail;go_roundw
      case rel=>exact⟨m-1,by go_num,fT,by rw[V.out,HP.out];rfl,T⟩
      case measure=>exact ms
     case false=>
      have r:=of_decide_eq_false X.out;have HI:=fS (show lf gO l xs[k]=l.take m++[xs[k]]++l.drop m by rw[lf,V.out,uM (lt:=gO) (fun h0=>by simpa [h0] using r),pz];simp);clear r X V;have ab:=M.below L;have W:=I.below L;obtain⟨b3,o3,P,aI,d0,d1,d2,d3,d4⟩:=kh W k hlt;injection P with P;injection P with B s _;subst B s;have S:Below w.heap.size w wc:=fU Q T Q.size;clear a0 a1 a2 a3 a4 M b z I W T L J Q ai;have aF:=ab.rd.capLe;have aM:(m:Int)≤(c3:Int):=fT;have aN:(m:Int)≤(l.length:Int):=fT;have hmc':m≤c3:=fT;have O:=fS ab.rd;have aH:=S.size;go_upto_region 8 with fail;refine mI (fun w' =>Below wc.heap.size wc w') (.take 1 (.take 2 (.take 3 (.take 5 (.take 6 (.take 7 (.take 8 (.take 11 (.take 12 (.take 13 (.par [(0,[]),(9,[]),(4,[0]),(10,[4,9]),(14,[10])] [] (.take 15 (.nil))))))))))))) gY gY qP ?_;have HS:=(gM wc.heap.size wc).drew
      iterate 10 refine DS ?_
      refine Eg [(0,some 31),(9,some 40),(4,some 35),(10,some 41),(14,some 45)] (by rfl) (fun _=>False) (NN (Fr l xs[k] m)) (fun _ _=>False) (tz _ ⟨ki _ _ _,(fun v w w' F ⟨g,B,s,x⟩ Z=>⟨g,B,s,(Z g s).trans x⟩),ki _ _ _,ki _ _ _,ki _ _ _,trivial⟩) (fun w' L=>gK HS L.below0) sm sm sm (g6 (kN (by rfl) (by rfl) ?_) (g6 (kN (by rfl) (by rfl) ?_) (g6 (kN (by rfl) (by rfl) ?_) (g6 (kN (by rfl) (by rfl) ?_) (g6 (kN (by rfl) (by rfl) ?_) nw))))) ?_
      ·intro u c f C hN hF n K hK
       clear hN hF n;simp only[jf,kE];go_simp;refine hK _ (.slice (some ⟨c.heap.size,0,none⟩) 0 0) _ (fun k=>k=c.heap.size) ?_ ((Ch.refl _ _).alloc _) (Ow.empty hJ (gL rfl) rfl) (fun k a=>by subst a;exact⟨.inr (jn _),by simp⟩);rfl
      ·intro u c f C hN hF n K hK
       clear hN hF n;simp only[jf,kE];go_simp;refine hK _ (.slice (some ⟨c.heap.size,0,none⟩) 1 1) _ (fun k=>k=c.heap.size) ?_ ((Ch.refl _ _).alloc _) ⟨_,rfl,rfl,gL rfl⟩ (fun k a=>by subst a;exact⟨.inr (jn _),by simp⟩);rfl
      ·intro u c f C hN hF n K hK
       have b:Ow hJ 101 c (f 0) (u 0) []:=hN 0 sm;have z:=(O.out.takeP m Z).below (gK HS C.below0);clear hN hF n;refine l8 (ys:=l.take m) 37 (by rfl) Tryz.underlying37 _ 40 kz rfl dc dc (by rfl) b (by rfl) z (by simp;omega) (fun k=>f 0 k∨c.heap.size≤k) (fun _ a=> .inl a) (fun _ a=> .inr a) ?_;intro H D G E p;obtain⟨B,s,x⟩:=mg b G E p;exact hK _ H D (fun k=>H.ownBlock=some k) rfl (B.mono fun k a=>⟨0,by simp,a⟩) s (fun k a=>⟨(x k a).1.imp_left fun h=>⟨0,by simp,h⟩,(x k a).2⟩)
      ·intro u c f C hN hF n K hK
       have b:Ow hJ 101 c (f 4) (u 4) (l.take m):=hN 4 sm;obtain⟨g,e9,hg,hH⟩:∃g,u 9= .slice (some ⟨g,0,none⟩) 1 1∧f 9 g∧c.heap[g]? =some (.cells (ik.cells xs[k]).toArray 101 (0,0)):=hN 9 sm;clear hN hF n;refine jO (d:=hJ) 37 (by rfl) Tryz.underlying37 _ 40 kz rfl dc dc (by rfl) b xs[k] _ (by exact e9) hH (fun _=>False) rfl (fun _ U=>U.elim) (fun _ U=>U.elim) (by simp;omega) (fun k=>f 4 k∨c.heap.size≤k) (fun _ a=> .inl a) (fun _ U=>U.elim) (fun _ a=> .inr a) ?_;intro H D G E p;obtain⟨B,s,x⟩:=mg b G E p;exact hK _ H D (fun k=>H.ownBlock=some k) rfl (B.mono fun k a=>⟨4,by simp,a⟩) s (fun k a=>⟨(x k a).1.imp_left fun h=>⟨4,by simp,h⟩,(x k a).2⟩)
      ·intro u c f C hN hF n K hK
       have b:Ow hJ 101 c (f 10) (u 10) (l.take m++[xs[k]]):=hN 10 sm;have z:=(O.out.dropO m Z).below (gK HS C.below0);clear hN hF n;refine l8 (ys:=l.drop m) 37 (by rfl) Tryz.underlying37 _ 40 kz rfl dc dc (by rfl) b (by rfl) z (by simp;omega) (fun k=>f 10 k∨c.heap.size≤k) (fun _ a=> .inl a) (fun _ a=> .inr a) ?_;intro H D G E p;obtain⟨B,s,x⟩:=mg b G E p;exact hK _ H D (fun k=>H.ownBlock=some k) rfl (B.mono fun k a=>⟨10,by simp,a⟩) s (fun k a=>⟨(x k a).1.imp_left fun h=>⟨10,by simp,h⟩,(x k a).2⟩)
      intro K hK u D f C n hF hN;have ao:Ow hJ 101 D (fun q=>w.heap.size≤q) (u 14) (l.take m++[xs[k]]++l.drop m):=Ow.mono (fun k a=>by have:=(hF 14 k (by rfl) a).1;rcases this with h|h;exact h.elim;simp at h;omega) (hN 14 (by rfl));have y:=gK HS C.below0;clear HS hN hF n C f O;have HS:=y;clear y;have R:Below w.heap.size w D:=fU S HS S.size;simp only[jf,kE];go_simp;generalize u 14=aO at*;refine hK _ _ ?_;clear hK K
      iterate 1 refine DS ?_
      simp only[tx];go_wp2_with fail;go_roundw
      case rel=>exact⟨k+1,by go_num,fT,by rw[ac.out,HI.out];exact ao,R⟩
      case measure=>exact ms
  ·have am:k=xs.length:=fT
   subst am;have HF:=fS (show(xs.take xs.length).foldl (lf gO) []=iU xs by rw[li];rfl);rw[HF.out] at b;go_wp2_with fail;go_ret;exact⟨_,rfl,b,Q⟩
section
open Go.ChangeShapes Go.WideShapes Go.ChangeAt Go.RowKit
theorem iK:Tryz.prog.cellsOf 3=1:=gY
theorem Cu {α:Type} {n:Nat} {p:Nat→α→Prop} (h:∀i,i<n→∃x,p i x):∃xs:List α,xs.length=n∧∀j x,xs[j]? =some x→p j x:=by
 induction n with
 |zero=>exact⟨[],rfl,fun j x a=>by simp at a⟩
 |succ n ih=>
  obtain⟨xs,b,e⟩:=ih (fun i d=>h i (Nat.lt_succ_of_lt d));obtain⟨y,f⟩:=h n (Nat.lt_succ_self n);refine⟨xs++[y],by simp[b],fun j x a=>?_⟩;by_cases hjn:j<n
  ·rw[List.getElem?_append_left fT] at a;exact e j x a
  ·have c:=(List.getElem?_eq_some_iff.1 a).1
   simp[b] at c;have:j=n:=fT;subst this;rw[List.getElem?_append_right fT,b,Nat.sub_self] at a;have:y=x:=by simpa using a
   rw[←this];exact f
theorem iL {H:Type} {enc:TypeId×Value→H} {W:World} {α:Type} (d:Ty α) {t e:TypeId} {fuel:Nat} {cs:List Value} {x:DataW H×List MemPlace} (ht:Tryz.prog.underlying t=some (.slice e)) (hc:Tryz.prog.cellsOf e=d.sz) (hs:0<d.sz)
  (hel:∀fuel cs x,DataW.trod enc Tryz.prog W 0 (fun _=>true) true fuel e cs=some x→∃y,d.rel W (fun k=>k<W.heap.size) y cs)
  (h:DataW.trod enc Tryz.prog W 0 (fun _=>true) true fuel t cs=some x):∃(A:Option Addr) (c:Nat) (xs:List α),cs=[.slice A xs.length c]∧Rd d W (fun k=>k<W.heap.size) (.slice A xs.length c) xs:=by
 rcases Go.Deep.open_slice ht h with ⟨rfl,-⟩|⟨a,L,X,m,n,D,Pl,rfl,-,S,v,E,-,C⟩
 ·exact⟨none,0,[],rfl,Rd.nil _ _ _⟩
 ·simp only[if_true] at E
  subst E;rw[hc] at C;obtain⟨xs,J,I⟩:=Cu (n:=L) (p:=fun i y=>∃f,W.cells? 0 (a.add (i*d.sz)) d.sz=some f∧d.rel W (fun k=>k<W.heap.size) y f) (fun i g=>by
   obtain⟨f,O,P⟩:=C i fT;obtain⟨y,V⟩:=hel _ _ _ P;exact⟨y,f,O,V⟩)
  subst J;refine⟨some a,m,xs,rfl,_,m,rfl,S,by simp only[maxLen] at v;omega,fun T=>?_⟩;obtain⟨q,w,-⟩:=I 0 xs[0] (pE T);obtain⟨-,aa,B⟩:=World.cells?_some w;have l:=B 0 hs;obtain⟨u0,G⟩:∃u,q[0]? =some u:=⟨q[0]'fT,pE _⟩;rw[G] at l;obtain⟨b,o,M⟩:=a;have F:M=none:=by
   cases M with
   |none=>rfl
   |some s=>
    exfalso;unfold World.cell? Addr.add at l;revert l;split<;>simp_all
  subst F;have g:b<W.heap.size:=by have:=World.block_lt_of_cell? _ _ l;simpa [block_add] using this
  refine⟨b,o,rfl,g,g,fun j y R=>?_⟩;obtain⟨f,z,U⟩:=I j y R;refine⟨f,U,fun i u r=>?_⟩;obtain⟨-,Z,Q⟩:=World.cells?_some z;have Y:=(List.getElem?_eq_some_iff.1 r).1;have:=Q i fT;rw[r] at this;have ha:(((⟨b,o,none⟩:Addr).add (j*d.sz)).add i)=⟨b,o+j*d.sz+i,none⟩:=by
   rw[Go.Deep.add_add];unfold Addr.add;split
   ·rename_i h0;simp only[Addr.mk.injEq,true_and,and_true];omega
   ·simp[Nat.add_assoc]
  rw[ha] at this;exact this
theorem Dy {H:Type} {enc:TypeId×Value→H} {W:World} (fuel:Nat) (cs:List Value) (x:DataW H×List MemPlace) (h:DataW.trod enc Tryz.prog W 0 (fun _=>true) true fuel 275 cs=some x):∃y:lJ,cs=lJ.cells y:=by
 obtain⟨C,n,-,-,i,b,a⟩:=DataW.trod_struct Tryz.underlying275 h;have B:Tryz.prog.cellsOf 275=5:=gY;rw[B] at i
 match cs,i,C,b,a with
 | [c0,c1,c2,c3,c4],_,[y0,y1,y2,y3,y4],_,a=>
  have c:DataW.trod enc Tryz.prog W 0 (fun _=>true) true n 3 ([c0,c1,c2,c3,c4].drop 0 |>.take (Tryz.prog.cellsOf 3))=some y0:=a 0 _ rfl;rw[iK] at c;obtain⟨j,p,-⟩:=DataW.trod_int Tryz.underlying3 c;have u:c0= .int .i64 j:=by simpa using p
  clear p;have d:DataW.trod enc Tryz.prog W 0 (fun _=>true) true n 3 ([c0,c1,c2,c3,c4].drop 1 |>.take (Tryz.prog.cellsOf 3))=some y1:=a 1 _ rfl;rw[iK] at d;obtain⟨k,q,-⟩:=DataW.trod_int Tryz.underlying3 d;have v:c1= .int .i64 k:=by simpa using q
  clear q;have e:DataW.trod enc Tryz.prog W 0 (fun _=>true) true n 3 ([c0,c1,c2,c3,c4].drop 2 |>.take (Tryz.prog.cellsOf 3))=some y2:=a 2 _ rfl;rw[iK] at e;obtain⟨l,r,-⟩:=DataW.trod_int Tryz.underlying3 e;have w:c2= .int .i64 l:=by simpa using r
  clear r;have f:DataW.trod enc Tryz.prog W 0 (fun _=>true) true n 3 ([c0,c1,c2,c3,c4].drop 3 |>.take (Tryz.prog.cellsOf 3))=some y3:=a 3 _ rfl;rw[iK] at f;obtain⟨m,s,-⟩:=DataW.trod_int Tryz.underlying3 f;have z:c3= .int .i64 m:=by simpa using s
  clear s;have g:DataW.trod enc Tryz.prog W 0 (fun _=>true) true n 3 ([c0,c1,c2,c3,c4].drop 4 |>.take (Tryz.prog.cellsOf 3))=some y4:=a 4 _ rfl;rw[iK] at g;obtain⟨o,t,-⟩:=DataW.trod_int Tryz.underlying3 g;have A:c4= .int .i64 o:=by simpa using t
  clear t;subst u v w z A;exact⟨⟨j,k,l,m,o⟩,rfl⟩
theorem uJ {H:Type} {enc:TypeId×Value→H} {W:World} (fuel:Nat) (cs:List Value) (x:DataW H×List MemPlace) (h:DataW.trod enc Tryz.prog W 0 (fun _=>true) true fuel 166 cs=some x):∃y:ll,cs=ll.cells y:=by
 obtain⟨s,n,-,-,f,b,a⟩:=DataW.trod_struct Tryz.underlying166 h;have r:Tryz.prog.cellsOf 166=3:=gY;rw[r] at f
 match cs,f,s,b,a with
 | [c0,c1,c2],_,[y0,y1,y2],_,a=>
  have c:DataW.trod enc Tryz.prog W 0 (fun _=>true) true n 3 ([c0,c1,c2].drop 0 |>.take (Tryz.prog.cellsOf 3))=some y0:=a 0 _ rfl;rw[iK] at c;obtain⟨g,k,-⟩:=DataW.trod_int Tryz.underlying3 c;have o:c0= .int .i64 g:=by simpa using k
  clear k;have d:DataW.trod enc Tryz.prog W 0 (fun _=>true) true n 3 ([c0,c1,c2].drop 1 |>.take (Tryz.prog.cellsOf 3))=some y1:=a 1 _ rfl;rw[iK] at d;obtain⟨i,l,-⟩:=DataW.trod_int Tryz.underlying3 d;have p:c1= .int .i64 i:=by simpa using l
  clear l;have e:DataW.trod enc Tryz.prog W 0 (fun _=>true) true n 3 ([c0,c1,c2].drop 2 |>.take (Tryz.prog.cellsOf 3))=some y2:=a 2 _ rfl;rw[iK] at e;obtain⟨j,m,-⟩:=DataW.trod_int Tryz.underlying3 e;have q:c2= .int .i64 j:=by simpa using m
  clear m;subst o p q;exact⟨⟨g,i,j⟩,rfl⟩
theorem nu {H:Type} {enc:TypeId×Value→H} {W:World} (fuel:Nat) (cs:List Value) (x:DataW H×List MemPlace) (h:DataW.trod enc Tryz.prog W 0 (fun _=>true) true fuel 194 cs=some x):∃y:hY,cs=hY.cells y:=by
 obtain⟨M,n,-,-,k,b,a⟩:=DataW.trod_struct Tryz.underlying194 h;have L:Tryz.prog.cellsOf 194=7:=gY;rw[L] at k
 match cs,k,M,b,a with
 | [c0,c1,c2,c3,c4,c5,c6],_,[y0,y1,y2,y3,y4,y5,y6],_,a=>
  have c:DataW.trod enc Tryz.prog W 0 (fun _=>true) true n 3 ([c0,c1,c2,c3,c4,c5,c6].drop 0 |>.take (Tryz.prog.cellsOf 3))=some y0:=a 0 _ rfl;rw[iK] at c;obtain⟨l,t,-⟩:=DataW.trod_int Tryz.underlying3 c;have C:c0= .int .i64 l:=by simpa using t
  clear t;have d:DataW.trod enc Tryz.prog W 0 (fun _=>true) true n 3 ([c0,c1,c2,c3,c4,c5,c6].drop 1 |>.take (Tryz.prog.cellsOf 3))=some y1:=a 1 _ rfl;rw[iK] at d;obtain⟨m,u,-⟩:=DataW.trod_int Tryz.underlying3 d;have D:c1= .int .i64 m:=by simpa using u
  clear u;have e:DataW.trod enc Tryz.prog W 0 (fun _=>true) true n 3 ([c0,c1,c2,c3,c4,c5,c6].drop 2 |>.take (Tryz.prog.cellsOf 3))=some y2:=a 2 _ rfl;rw[iK] at e;obtain⟨o,v,-⟩:=DataW.trod_int Tryz.underlying3 e;have E:c2= .int .i64 o:=by simpa using v
  clear v;have f:DataW.trod enc Tryz.prog W 0 (fun _=>true) true n 3 ([c0,c1,c2,c3,c4,c5,c6].drop 3 |>.take (Tryz.prog.cellsOf 3))=some y3:=a 3 _ rfl;rw[iK] at f;obtain⟨p,w,-⟩:=DataW.trod_int Tryz.underlying3 f;have F:c3= .int .i64 p:=by simpa using w
  clear w;have g:DataW.trod enc Tryz.prog W 0 (fun _=>true) true n 3 ([c0,c1,c2,c3,c4,c5,c6].drop 4 |>.take (Tryz.prog.cellsOf 3))=some y4:=a 4 _ rfl;rw[iK] at g;obtain⟨q,z,-⟩:=DataW.trod_int Tryz.underlying3 g;have G:c4= .int .i64 q:=by simpa using z
  clear z;have i:DataW.trod enc Tryz.prog W 0 (fun _=>true) true n 3 ([c0,c1,c2,c3,c4,c5,c6].drop 5 |>.take (Tryz.prog.cellsOf 3))=some y5:=a 5 _ rfl;rw[iK] at i;obtain⟨r,A,-⟩:=DataW.trod_int Tryz.underlying3 i;have I:c5= .int .i64 r:=by simpa using A
  clear A;have j:DataW.trod enc Tryz.prog W 0 (fun _=>true) true n 3 ([c0,c1,c2,c3,c4,c5,c6].drop 6 |>.take (Tryz.prog.cellsOf 3))=some y6:=a 6 _ rfl;rw[iK] at j;obtain⟨s,B,-⟩:=DataW.trod_int Tryz.underlying3 j;have J:c6= .int .i64 s:=by simpa using B
  clear B;subst C D E F G I J;exact⟨⟨l,m,o,p,q,r,s⟩,rfl⟩
theorem Ba {H:Type} {enc:TypeId×Value→H} {W:World} (fuel:Nat) (cs:List Value) (x:DataW H×List MemPlace) (h:DataW.trod enc Tryz.prog W 0 (fun _=>true) true fuel 164 cs=some x):∃y:jL,kT.rel W (fun k=>k<W.heap.size) y cs:=by
 obtain⟨s,n,-,-,j,e,b⟩:=DataW.trod_struct Tryz.underlying164 h;have p:Tryz.prog.cellsOf 164=2:=gY;rw[p] at j
 match cs,j,s,e,b with
 | [c0,c1],_,[y0,y1],_,b=>
  have i:DataW.trod enc Tryz.prog W 0 (fun _=>true) true n 3 ([c0,c1].drop 0 |>.take (Tryz.prog.cellsOf 3))=some y0:=b 0 _ rfl;rw[iK] at i;obtain⟨g,d,-⟩:=DataW.trod_int Tryz.underlying3 i;have d:c0= .int .i64 g:=by simpa using d
  subst d;have o:DataW.trod enc Tryz.prog W 0 (fun _=>true) true n 162 ([.int .i64 g,c1].drop 1 |>.take (Tryz.prog.cellsOf 162))=some y1:=b 1 _ rfl;obtain⟨A,c,m,a,q⟩:=iL qG Tryz.underlying162 gY dc (fun f cs x h=>by obtain⟨y,r⟩:=Dy f cs x h;exact⟨y,r⟩) o;have l:Tryz.prog.cellsOf 162=1:=gY;rw[l] at a;have a:c1= .slice A m.length c:=by simpa using a
  subst a;exact⟨⟨g,m⟩,_,rfl,q⟩
theorem Cs {H:Type} {enc:TypeId×Value→H} {W:World} (fuel:Nat) (cs:List Value) (x:DataW H×List MemPlace) (h:DataW.trod enc Tryz.prog W 0 (fun _=>true) true fuel 71 cs=some x):∃y:iy,me.rel W (fun k=>k<W.heap.size) y cs:=by
 obtain⟨o,n,-,-,e,d,b⟩:=DataW.trod_struct Tryz.underlying71 h;have l:Tryz.prog.cellsOf 71=1:=gY;rw[l] at e
 match cs,e,o,d,b with
 | [c0],_,[y0],_,b=>
  have j:DataW.trod enc Tryz.prog W 0 (fun _=>true) true n 69 ([c0].drop 0 |>.take (Tryz.prog.cellsOf 69))=some y0:=b 0 _ rfl;obtain⟨A,c,i,a,m⟩:=iL kT Tryz.underlying69 gY dc (fun f cs x h=>Ba f cs x h) j;have g:Tryz.prog.cellsOf 69=1:=gY;rw[g] at a;have a:c0= .slice A i.length c:=by simpa using a
  subst a;exact⟨⟨i⟩,_,rfl,m⟩
end
end Go.Proofs.YtlndjfflhegkdaaGreatDoor
