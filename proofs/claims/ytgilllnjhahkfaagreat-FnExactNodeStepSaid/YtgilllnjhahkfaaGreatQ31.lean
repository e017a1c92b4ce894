/- Parts of the proof: Spc8. -/
import Derived.Test.YtgilllnjhahkfaaGreatQ21
set_option linter.unusedVariables false
set_option linter.unusedSimpArgs false
set_option linter.unusedSectionVars false
set_option maxHeartbeats 4000000
set_option maxRecDepth 100000
namespace Go.Proofs.YtgilllnjhahkfaaGreat
open Go.RowKit
def F4 (l:List iQ) (x:iQ) (m:Nat):List (Nat×xp):=[(0,tk ii 120 []),(9,fun v w F=>∃g,v= .slice (some ⟨g,0,none⟩) 1 1∧F g∧w.heap[g]? =some (.cells (iQ.cells x).toArray 120 (0,0))),(4,tk ii 120 (l.take m)),(10,tk ii 120 (l.take m++[x])),(14,tk ii 120 (l.take m++[x]++l.drop m))]
theorem Ca (v:Value) (xs:List iQ) (F:Nat→Prop) (w:World) (h:Rd ii w F v xs) (hlen:xs.length≤1000):
  Calls Tryz.prog 85 #[v] w fun q w' =>∃u,q= .returned u∧Ow ii 120 w' (fun k=>w.heap.size≤k) u (jX xs)∧Below w.heap.size w w':=by
 obtain⟨A,cp,rfl,-,-,-⟩:=id h;go_enter Tryz.func85,Tryz.ntmps85;go_wp2_with fail
 go_loopw [3,4] (fun o i wr=>∃k:Nat,i= .int .i64 k∧k≤xs.length∧Ow ii 120 wr (fun q=>w.heap.size≤q) o ((xs.take k).foldl (lW hM) [])∧Below w.heap.size w wr) (fun _ i _=>xs.length-(intOf i).toNat)
 case atStart=>exact⟨0,rfl,jP _,Ow.empty ii (gX sm) (j9 _),gU (gY _ _) _⟩
 case round=>
  obtain⟨k,rfl,a,b,Q⟩:=hrel;by_cases hlt:k<xs.length
  ·have z:Rd ii wr F (.slice A xs.length cp) xs:=h.below Q
   have ad:=tQ (lt:=hM) xs k a;have ac:=gP (qE (β:=iQ) (lW hM) hlt);obtain⟨l,hL⟩:∃l,l=(xs.take k).foldl (lW hM) []:=⟨_,rfl⟩;rw[←hL] at b ad ac;clear hL;have hll':l.length≤1000:=gO;clear ad;obtain⟨A3,c3,rfl,aK⟩:=b.shape;go_wp2_with fail;obtain⟨wo,ae⟩:∃wo,wo=wr:=⟨_,rfl⟩
   go_loopw [5] (fun j w2=>∃m:Nat,j= .int .i64 m∧m≤l.length∧Hid (ki hM l xs[k] l.length=ki hM l xs[k] m)∧Below wo.heap.size wo w2) (fun j _=>(intOf j).toNat)
   case atStart=>subst ae;exact⟨l.length,rfl,j9 _,rfl,gY _ _⟩
   case round=>
    obtain⟨m,rfl,Z,V,J⟩:=hrel;subst ae;have M:=b.below J;have I:=z.below J;obtain⟨b0,o0,rfl,ai,a0,a1,a2,a3,a4⟩:=ko I k hlt;go_upto_region 6 with fail
    go_cut [28] (fun t wc=>∃Y,t= .bool Y∧Hid (decide (0<m∧hM xs[k] (kK l (m-1))=true)=Y)∧Below wr.heap.size wr wc)
    case first=>
     by_cases q3:m=0
     ·have al:decide ((m:Int)>0)=false:=by simp;omega
      have an:decide (0<m)=false:=by simp;omega
      have HD:=gP (show decide (0<m∧hM xs[k] (kK l (m-1))=true)=false by simp;omega);clear q3;refine ib (fun w' =>Below wr.heap.size wr w') [tT 0,tT 1,tT 2,tT 3,tT 4,tT 5,tT 6,tT 7,tT 8,tT 9,tT 10,tT 11,tF 12,tT 13] ie ie qP ?_;have HS:=(gY wr.heap.size wr).drew
      iterate 12 refine kM ?_
      refine jH (by rfl) (by rfl) (fun K hK=>?_);go_simp;refine hK _ _ (Or.inr HS) ?_;clear hK K
      iterate 1 refine kM ?_
      simp only[jc];go_wp2_with fail;go_meet;exact⟨_,rfl,HD,HS⟩
     ·have ak:0<m:=gO
      have al:decide ((m:Int)>0)=true:=by simp;omega
      have an:decide (0<m)=true:=by simp;omega
      obtain⟨b2,o2,rfl,aE,z0,z1,z2,z3,z4⟩:=ko M.rd (m-1) gO;have aJ:((m:Int)-1).toNat=m-1:=gO;have p1:(0:Int)≤(m:Int)-1:=gO;have p2:(m:Int)-1<(l.length:Int):=gO;have p3:(1:Int)≤(m:Int):=gO;have p4:1≤m:=gO;have p5:IntKind.i64.wrap ((m:Int)-1)=(m:Int)-1:=IntWalk.i64_in _ gO;obtain⟨t,q4⟩:∃t,hM xs[k] (l[m-1]'gO)=t:=⟨_,rfl⟩;have HD:=gP (show decide (0<m∧hM xs[k] (kK l (m-1))=true)=t by rw[iP gO,q4];cases t<;>simp[ak]);clear q3;refine ib (fun w' =>Below wr.heap.size wr w') [tT 0,tT 1,tT 2,tT 3,tT 4,tT 5,tT 6,tT 7,tT 8,tT 9,tT 10,tT 11,tF 12,tT 13] ie ie qP ?_;have HS:=(gY wr.heap.size wr).drew
      iterate 12 refine kM ?_
      refine ia (by rfl) (by rfl) (fun K hK=>?_);go_simp;refine(tq xs[k] l[m-1] _).mono ?_;rintro e D ⟨he,R⟩;rw[q4] at he;subst he;have y:=gV HS R;refine hK _ _ (Or.inr y) ?_;clear hK K HS;have HS:=y;clear y
      iterate 1 refine kM ?_
      simp only[jc];go_wp2_with fail;go_meet;exact⟨_,rfl,HD,HS⟩
    case rest=>
     obtain⟨Y,rfl,X,L⟩:=hcut;have T:=gV J L;cases Y
     case true=>
      have r:=of_decide_eq_true X.out;have HP:=gP (zA (lt:=hM) r.1 r.2);have aL:=r.1;clear r X;go_wp2_with fail;go_roundw
      case rel=>exact⟨m-1,by go_num,gO,by rw[V.out,HP.out];rfl,T⟩
      case measure=>exact ms
     case false=>
      have r:=of_decide_eq_false X.out;have HI:=gP (show lW hM l xs[k]=l.take m++[xs[k]]++l.drop m by rw[lW,V.out,vI (lt:=hM) (fun h0=>by simpa [h0] using r),pK];simp);clear r X V;have ab:=M.below L;have W:=I.below L;obtain⟨b3,o3,P,aI,d0,d1,d2,d3,d4⟩:=ko W k hlt;injection P with P;injection P with B s _;subst B s;have S:Below w.heap.size w wc:=gQ Q T Q.size;clear a0 a1 a2 a3 a4 M b z I W T L J Q ai;have aF:=ab.rd.capLe;have aM:(m:Int)≤(c3:Int):=gO;have aN:(m:Int)≤(l.length:Int):=gO;have hmc':m≤c3:=gO;have O:=gP ab.rd;have aH:=S.size;go_upto_region 8 with fail;refine pP (fun w' =>Below wc.heap.size wc w') (.take 1 (.take 2 (.take 3 (.take 5 (.take 6 (.take 7 (.take 8 (.take 11 (.take 12 (.take 13 (.par [(0,[]),(9,[]),(4,[0]),(10,[4,9]),(14,[10])] [] (.take 15 (.nil))))))))))))) ie ie qP ?_;have HS:=(gY wc.heap.size wc).drew
      iterate 10 refine FO ?_
      refine FP [(0,some 31),(9,some 40),(4,some 35),(10,some 41),(14,some 45)] (by rfl) (fun _=>False) (NN (F4 l xs[k] m)) (fun _ _=>False) (Be _ ⟨pD _ _ _,(fun v w w' F ⟨g,B,s,x⟩ Z=>⟨g,B,s,(Z g s).trans x⟩),pD _ _ _,pD _ _ _,pD _ _ _,trivial⟩) (fun w' L=>gV HS L.below0) sm sm sm (gZ (qz (by rfl) (by rfl) ?_) (gZ (qz (by rfl) (by rfl) ?_) (gZ (qz (by rfl) (by rfl) ?_) (gZ (qz (by rfl) (by rfl) ?_) (gZ (qz (by rfl) (by rfl) ?_) lS))))) ?_
      ·intro u c f C hN hF n K hK
       clear hN hF n;simp only[j8,li];go_simp;refine hK _ (.slice (some ⟨c.heap.size,0,none⟩) 0 0) _ (fun k=>k=c.heap.size) ?_ ((Ch.refl _ _).alloc _) (Ow.empty ii (gX rfl) rfl) (fun k a=>by subst a;exact⟨.inr (j9 _),by simp⟩);rfl
      ·intro u c f C hN hF n K hK
       clear hN hF n;simp only[j8,li];go_simp;refine hK _ (.slice (some ⟨c.heap.size,0,none⟩) 1 1) _ (fun k=>k=c.heap.size) ?_ ((Ch.refl _ _).alloc _) ⟨_,rfl,rfl,gX rfl⟩ (fun k a=>by subst a;exact⟨.inr (j9 _),by simp⟩);rfl
      ·intro u c f C hN hF n K hK
       have b:Ow ii 120 c (f 0) (u 0) []:=hN 0 sm;have z:=(O.out.takeP m Z).below (gV HS C.below0);clear hN hF n;refine lY (ys:=l.take m) 34 (by rfl) Tryz.underlying34 _ 40 lH rfl dc dc (by rfl) b (by rfl) z (by simp;omega) (fun k=>f 0 k∨c.heap.size≤k) (fun _ a=> .inl a) (fun _ a=> .inr a) ?_;intro H D G E p;obtain⟨B,s,x⟩:=mn b G E p;exact hK _ H D (fun k=>H.ownBlock=some k) rfl (B.mono fun k a=>⟨0,by simp,a⟩) s (fun k a=>⟨(x k a).1.imp_left fun h=>⟨0,by simp,h⟩,(x k a).2⟩)
      ·intro u c f C hN hF n K hK
       have b:Ow ii 120 c (f 4) (u 4) (l.take m):=hN 4 sm;obtain⟨g,e9,hg,hH⟩:∃g,u 9= .slice (some ⟨g,0,none⟩) 1 1∧f 9 g∧c.heap[g]? =some (.cells (iQ.cells xs[k]).toArray 120 (0,0)):=hN 9 sm;clear hN hF n;refine kO (d:=ii) 34 (by rfl) Tryz.underlying34 _ 40 lH rfl dc dc (by rfl) b xs[k] _ (by exact e9) hH (fun _=>False) rfl (fun _ U=>U.elim) (fun _ U=>U.elim) (by simp;omega) (fun k=>f 4 k∨c.heap.size≤k) (fun _ a=> .inl a) (fun _ U=>U.elim) (fun _ a=> .inr a) ?_;intro H D G E p;obtain⟨B,s,x⟩:=mn b G E p;exact hK _ H D (fun k=>H.ownBlock=some k) rfl (B.mono fun k a=>⟨4,by simp,a⟩) s (fun k a=>⟨(x k a).1.imp_left fun h=>⟨4,by simp,h⟩,(x k a).2⟩)
      ·intro u c f C hN hF n K hK
       have b:Ow ii 120 c (f 10) (u 10) (l.take m++[xs[k]]):=hN 10 sm;have z:=(O.out.dropO m Z).below (gV HS C.below0);clear hN hF n;refine lY (ys:=l.drop m) 34 (by rfl) Tryz.underlying34 _ 40 lH rfl dc dc (by rfl) b (by rfl) z (by simp;omega) (fun k=>f 10 k∨c.heap.size≤k) (fun _ a=> .inl a) (fun _ a=> .inr a) ?_;intro H D G E p;obtain⟨B,s,x⟩:=mn b G E p;exact hK _ H D (fun k=>H.ownBlock=some k) rfl (B.mono fun k a=>⟨10,by simp,a⟩) s (fun k a=>⟨(x k a).1.imp_left fun h=>⟨10,by simp,h⟩,(x k a).2⟩)
      intro K hK u D f C n hF hN;have ao:Ow ii 120 D (fun q=>w.heap.size≤q) (u 14) (l.take m++[xs[k]]++l.drop m):=Ow.mono (fun k a=>by have:=(hF 14 k (by rfl) a).1;rcases this with h|h;exact h.elim;simp at h;omega) (hN 14 (by rfl));have y:=gV HS C.below0;clear HS hN hF n C f O;have HS:=y;clear y;have R:Below w.heap.size w D:=gQ S HS S.size;simp only[j8,li];go_simp;generalize u 14=aO at*;refine hK _ _ ?_;clear hK K
      iterate 1 refine FO ?_
      simp only[wN];go_wp2_with fail;go_roundw
      case rel=>exact⟨k+1,by go_num,gO,by rw[ac.out,HI.out];exact ao,R⟩
      case measure=>exact ms
  ·have am:k=xs.length:=gO
   subst am;have HF:=gP (show(xs.take xs.length).foldl (lW hM) []=jX xs by rw[ld];rfl);rw[HF.out] at b;go_wp2_with fail;go_ret;exact⟨_,rfl,b,Q⟩
end Go.Proofs.YtgilllnjhahkfaaGreat
