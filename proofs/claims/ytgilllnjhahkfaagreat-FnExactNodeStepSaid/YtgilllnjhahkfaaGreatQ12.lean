/- Parts of the proof: Spc2. -/
import Derived.Test.YtgilllnjhahkfaaGreatQ04
import Derived.Test.YtgilllnjhahkfaaGreatQ10
set_option linter.unusedVariables false
set_option linter.unusedSimpArgs false
set_option linter.unusedSectionVars false
set_option maxHeartbeats 4000000
set_option maxRecDepth 100000
namespace Go.Proofs.YtgilllnjhahkfaaGreat
open Go.RowKit
theorem nR (w:World):Calls Tryz.prog 72 #[] w fun q w' =>q= .returned (.int .i64 100)∧w' =w:=by
 go_enter Tryz.func72,Tryz.ntmps72;go_wp2_with fail;go_ret;exact⟨rfl,rfl⟩
theorem oY (v:Value) (xs:List im) (most:Int) (F:Nat→Prop) (w:World) (h:Rd iC w F v xs):
  Calls Tryz.prog 71 #[v,most] w fun e w' =>e= .returned (.bool (jK xs most))∧Below w.heap.size w w':=by
 obtain⟨A,z,rfl,-,E,-⟩:=id h;by_cases hm:(xs.length:Int)≤most
 ·have D:decide ((xs.length:Int)>most)=false:=by simp;omega
  have y:=gP hm;clear hm;go_enter Tryz.func71,Tryz.ntmps71;go_wp2
  go_loopw [5] (fun i wr=>∃k:Nat,i= .int .i64 k∧k≤xs.length∧Hid ((xs.take k).all jM=true)∧Hid (lG hY (xs.take k)=true)∧Below w.heap.size w wr) (fun i _=>xs.length-(intOf i).toNat)
  case atStart=>exact⟨0,rfl,jP _,rfl,rfl,gY _ _⟩
  case round=>
   obtain⟨k,rfl,U,q,g,j⟩:=hrel;by_cases hlt:k<xs.length
   ·have r:Rd iC wr F (.slice A xs.length z) xs:=h.below j
    obtain⟨S,V,rfl,G,J,L,M,O,P,Q,R⟩:=jD r k hlt;by_cases d:jM xs[k]=true
    ·have s:=gP (jI hlt q.out d)
     have o:jM ⟨xs[k].time,xs[k].to,xs[k].from_,xs[k].count,xs[k].n,xs[k].kind,xs[k].arg⟩=true:=d;clear d;by_cases q3:k=0
     ·have as':=gP (show lG hY (xs.take (k+1))=true by rw[kp _ hlt,g.out,if_pos q3];rfl)
      have t:decide ((k:Int)>0)=false:=by simp;omega
      have x:decide (0<k)=false:=by simp;omega
      clear q3;go_wp2;refine ib (fun w' =>Below wr.heap.size wr w') [tT 0,tT 1,tT 2,tT 3,tF 4,tT 5,tT 6,tT 7,tT 8,tT 9,tT 10,tT 11,tT 12,tT 13,tT 14,tT 15,tT 16,tT 17,tT 18,tF 19,tT 20,tT 21,tT 22] ie ie qP ?_;have HS:=(gY wr.heap.size wr).drew
      iterate 4 refine kM ?_
      refine ia (by rfl) (by rfl) (fun K hK=>?_);go_simp;refine(lw _ _ _ _ _ _ _ _).mono ?_;rintro e p ⟨c,b⟩;rw[o] at c;subst c;have a:=gV HS b;refine hK _ _ (Or.inr a) ?_;clear hK K HS;have HS:=a;clear a
      iterate 14 refine kM ?_
      refine jH (by rfl) (by rfl) (fun K hK=>?_);go_simp;refine hK _ _ (Or.inr HS) ?_;clear hK K
      iterate 3 refine kM ?_
      simp only[jc];go_wp2;go_roundw
      case rel=>exact⟨k+1,by go_num,gO,s,as',gV j HS⟩
      case measure=>exact ms
     ·have I:0<k:=gO
      have t:decide ((k:Int)>0)=true:=by simp;omega
      have x:decide (0<k)=true:=by simp;omega
      obtain⟨T,W,m,C,z0,z1,z2,z3,z4,z5,z6⟩:=jD r (k-1) gO;injection m with m;injection m with e1 e2 _;subst e1 e2;have H:((k:Int)-1).toNat=k-1:=gO;have X:(0:Int)≤(k:Int)-1:=gO;have Y:(k:Int)-1<(xs.length:Int):=gO;have Z:(1:Int)≤(k:Int):=gO;have p4:1≤k:=gO;have p5:IntKind.i64.wrap ((k:Int)-1)=(k:Int)-1:=IntWalk.i64_in _ gO;clear q3;by_cases l:hY xs[k-1] xs[k]=true
      ·have as':=gP (show lG hY (xs.take (k+1))=true by rw[kp _ hlt,g.out,if_neg gO];simpa using l)
       go_wp2;refine ib (fun w' =>Below wr.heap.size wr w') [tT 0,tT 1,tT 2,tT 3,tF 4,tT 5,tT 6,tT 7,tT 8,tT 9,tT 10,tT 11,tT 12,tT 13,tT 14,tT 15,tT 16,tT 17,tT 18,tF 19,tT 20,tT 21,tT 22] ie ie qP ?_;have HS:=(gY wr.heap.size wr).drew
       iterate 4 refine kM ?_
       refine ia (by rfl) (by rfl) (fun K hK=>?_);go_simp;refine(lw _ _ _ _ _ _ _ _).mono ?_;rintro e p ⟨c,b⟩;rw[o] at c;subst c;have a:=gV HS b;refine hK _ _ (Or.inr a) ?_;clear hK K HS;have HS:=a;clear a
       iterate 14 refine kM ?_
       refine ia (by rfl) (by rfl) (fun K hK=>?_);go_simp;refine(oy xs[k-1] xs[k] _).mono ?_;rintro e p ⟨c,b⟩;rw[l] at c;subst c;have a:=gV HS b;refine hK _ _ (Or.inr a) ?_;clear hK K HS;have HS:=a;clear a
       iterate 3 refine kM ?_
       simp only[jc];go_wp2;go_roundw
       case rel=>exact⟨k+1,by go_num,gO,s,as',gV j HS⟩
       case measure=>exact ms
      ·replace l:hY xs[k-1] xs[k]=false:=by simpa using l
       have f:=gP (show jK xs most=false by
        have B:lG hY (xs.take (k+1))=false:=by rw[kp _ hlt,g.out,if_neg gO];simpa using l
        simp[jK,oR _ B])
       go_wp2;refine ib (fun w' =>Below wr.heap.size wr w') [tT 0,tT 1,tT 2,tT 3,tF 4,tT 5,tT 6,tT 7,tT 8,tT 9,tT 10,tT 11,tT 12,tT 13,tT 14,tT 15,tT 16,tT 17,tT 18,tF 19,tT 20,tT 21,tT 22] ie ie qP ?_;have HS:=(gY wr.heap.size wr).drew
       iterate 4 refine kM ?_
       refine ia (by rfl) (by rfl) (fun K hK=>?_);go_simp;refine(lw _ _ _ _ _ _ _ _).mono ?_;rintro e p ⟨c,b⟩;rw[o] at c;subst c;have a:=gV HS b;refine hK _ _ (Or.inr a) ?_;clear hK K HS;have HS:=a;clear a
       iterate 14 refine kM ?_
       refine ia (by rfl) (by rfl) (fun K hK=>?_);go_simp;refine(oy xs[k-1] xs[k] _).mono ?_;rintro e p ⟨c,b⟩;rw[l] at c;subst c;have a:=gV HS b;refine hK _ _ (Or.inr a) ?_;clear hK K HS;have HS:=a;clear a
       iterate 3 refine kM ?_
       simp only[jc];go_wp2;go_ret;exact⟨by rw[f.out];rfl,gV j HS⟩
    ·replace d:jM xs[k]=false:=by simpa using d
     have f:=gP (show jK xs most=false by simp[jK,jw hlt d]);have o:jM ⟨xs[k].time,xs[k].to,xs[k].from_,xs[k].count,xs[k].n,xs[k].kind,xs[k].arg⟩=false:=d;clear d;go_wp2;refine ib (fun w' =>Below wr.heap.size wr w') [tT 0,tT 1,tT 2,tT 3,tF 4,tT 5,tT 6,tT 7,tT 8,tT 9,tT 10,tT 11,tT 12,tT 13,tT 14,tT 15,tT 16,tT 17,tT 18,tF 19,tT 20,tT 21,tT 22] ie ie qP ?_;have HS:=(gY wr.heap.size wr).drew
     iterate 4 refine kM ?_
     refine ia (by rfl) (by rfl) (fun K hK=>?_);go_simp;refine(lw _ _ _ _ _ _ _ _).mono ?_;rintro e p ⟨c,b⟩;rw[o] at c;subst c;have a:=gV HS b;refine hK _ _ (Or.inr a) ?_;clear hK K HS;have HS:=a;clear a
     iterate 14 refine kM ?_
     refine jH (by rfl) (by rfl) (fun K hK=>?_);go_simp;refine hK _ _ (Or.inr HS) ?_;clear hK K
     iterate 3 refine kM ?_
     simp only[jc];go_wp2;go_ret;exact⟨by rw[f.out];rfl,gV j HS⟩
   ·have u:k=xs.length:=gO
    subst u;have hall':=q.out;have has':=g.out;rw[ld] at hall' has';have f:=gP (show jK xs most=true by simp[jK,hall',has',y.out]);clear hall' has';go_wp2;go_ret;exact⟨by rw[f.out];rfl,j⟩
 ·have D:decide ((xs.length:Int)>most)=true:=by simp;omega
  have f:=gP (show jK xs most=false by simp[jK];intro h;omega);clear hm;go_enter Tryz.func71,Tryz.ntmps71;go_wp2;go_ret;exact⟨by rw[f.out];rfl,gY _ _⟩
theorem yq (v:Value) (xs:List iQ) (most:Int) (F:Nat→Prop) (w:World) (h:Rd ii w F v xs):
  Calls Tryz.prog 73 #[v,most] w fun e w' =>e= .returned (.bool (jA xs most))∧Below w.heap.size w w':=by
 obtain⟨A,E,rfl,-,J,-⟩:=id h;by_cases hm:(xs.length:Int)≤most
 ·have I:decide ((xs.length:Int)>most)=false:=by simp;omega
  have D:=gP hm;clear hm;go_enter Tryz.func73,Tryz.ntmps73;go_wp2
  go_loopw [5] (fun i wr=>∃k:Nat,i= .int .i64 k∧k≤xs.length∧Hid ((xs.take k).all om=true)∧Hid (lG hM (xs.take k)=true)∧Below w.heap.size w wr) (fun i _=>xs.length-(intOf i).toNat)
  case atStart=>exact⟨0,rfl,jP _,rfl,rfl,gY _ _⟩
  case round=>
   obtain⟨k,rfl,W,u,p,l⟩:=hrel;by_cases hlt:k<xs.length
   ·have x:Rd ii wr F (.slice A xs.length E) xs:=h.below l
    obtain⟨U,X,rfl,L,P,Q,R,S,T⟩:=ko x k hlt;by_cases c:om xs[k]=true
    ·have y:=gP (jI hlt u.out c)
     obtain⟨d,j,m,o,t⟩:i2 xs[k].time 0 40=true∧i2 xs[k].proc 0 3=true∧i2 xs[k].count 0 11=true∧i2 xs[k].n 0 1=true∧i2 xs[k].value 0 999=true:=by simpa [om,and_assoc] using c
     clear c;by_cases q3:k=0
     ·have as':=gP (show lG hM (xs.take (k+1))=true by rw[kp _ hlt,p.out,if_pos q3];rfl)
      have z:decide ((k:Int)>0)=false:=by simp;omega
      have C:decide (0<k)=false:=by simp;omega
      clear q3;go_wp2;refine ib (fun w' =>Below (wr.alloc (.cells #[xs[k].time,xs[k].proc,xs[k].count,xs[k].n,xs[k].value] 120)).heap.size (wr.alloc (.cells #[xs[k].time,xs[k].proc,xs[k].count,xs[k].n,xs[k].value] 120)) w') [tT 0,tT 1,tF 2,tT 3,tT 4,tT 5,tT 6,tF 7,tT 8,tT 9,tT 10,tT 11,tT 12,tF 13,tT 14,tT 15,tT 16,tT 17,tT 18,tF 19,tT 20,tT 21,tT 22,tT 23,tT 24,tF 25,tT 26,tT 27,tT 28,tT 29,tT 30,tT 31,tT 32,tT 33,tT 34,tT 35,tT 36,tT 37,tF 38,tT 39,tT 40,tT 41] ie ie qP ?_;have HS:=(gY (wr.alloc (.cells #[xs[k].time,xs[k].proc,xs[k].count,xs[k].n,xs[k].value] 120)).heap.size (wr.alloc (.cells #[xs[k].time,xs[k].proc,xs[k].count,xs[k].n,xs[k].value] 120))).drew
      iterate 2 refine kM ?_
      refine ia (by rfl) (by rfl) (fun K hK=>?_);go_simp;refine(i8 _ _ _ _).mono ?_;rintro e b ⟨a,rfl⟩;rw[d] at a;subst a;refine hK _ _ (Or.inr HS) ?_;clear hK K
      iterate 4 refine kM ?_
      refine ia (by rfl) (by rfl) (fun K hK=>?_);go_simp;refine(kT _ _).mono ?_;rintro e b ⟨a,rfl⟩;rw[j] at a;subst a;refine hK _ _ (Or.inr HS) ?_;clear hK K
      iterate 5 refine kM ?_
      refine ia (by rfl) (by rfl) (fun K hK=>?_);go_simp;refine(i8 _ _ _ _).mono ?_;rintro e b ⟨a,rfl⟩;rw[m] at a;subst a;refine hK _ _ (Or.inr HS) ?_;clear hK K
      iterate 5 refine kM ?_
      refine ia (by rfl) (by rfl) (fun K hK=>?_);go_simp;refine(i8 _ _ _ _).mono ?_;rintro e b ⟨a,rfl⟩;rw[o] at a;subst a;refine hK _ _ (Or.inr HS) ?_;clear hK K
      iterate 5 refine kM ?_
      refine ia (by rfl) (by rfl) (fun K hK=>?_);go_simp;refine(ot _ _).mono ?_;rintro e b ⟨a,rfl⟩;rw[t] at a;subst a;refine hK _ _ (Or.inr HS) ?_;clear hK K
      iterate 12 refine kM ?_
      refine jH (by rfl) (by rfl) (fun K hK=>?_);go_simp;refine hK _ _ (Or.inr HS) ?_;clear hK K
      iterate 3 refine kM ?_
      simp only[jc];go_wp2;go_roundw
      case rel=>exact⟨k+1,by go_num,gO,y,as',gV l (gV (gU (gY _ _) _) HS)⟩
      case measure=>exact ms
     ·have O:0<k:=gO
      have z:decide ((k:Int)>0)=true:=by simp;omega
      have C:decide (0<k)=true:=by simp;omega
      obtain⟨V,Y,r,H,z0,z1,z2,z3,z4⟩:=ko x (k-1) gO;injection r with r;injection r with e1 e2 _;subst e1 e2;have M:((k:Int)-1).toNat=k-1:=gO;have Z:(0:Int)≤(k:Int)-1:=gO;have p2:(k:Int)-1<(xs.length:Int):=gO;have p3:(1:Int)≤(k:Int):=gO;have p4:1≤k:=gO;have p5:IntKind.i64.wrap ((k:Int)-1)=(k:Int)-1:=IntWalk.i64_in _ gO;clear q3;by_cases q:hM xs[k-1] xs[k]=true
      ·have as':=gP (show lG hM (xs.take (k+1))=true by rw[kp _ hlt,p.out,if_neg gO];simpa using q)
       go_wp2;refine ib (fun w' =>Below (wr.alloc (.cells #[xs[k].time,xs[k].proc,xs[k].count,xs[k].n,xs[k].value] 120)).heap.size (wr.alloc (.cells #[xs[k].time,xs[k].proc,xs[k].count,xs[k].n,xs[k].value] 120)) w') [tT 0,tT 1,tF 2,tT 3,tT 4,tT 5,tT 6,tF 7,tT 8,tT 9,tT 10,tT 11,tT 12,tF 13,tT 14,tT 15,tT 16,tT 17,tT 18,tF 19,tT 20,tT 21,tT 22,tT 23,tT 24,tF 25,tT 26,tT 27,tT 28,tT 29,tT 30,tT 31,tT 32,tT 33,tT 34,tT 35,tT 36,tT 37,tF 38,tT 39,tT 40,tT 41] ie ie qP ?_;have HS:=(gY (wr.alloc (.cells #[xs[k].time,xs[k].proc,xs[k].count,xs[k].n,xs[k].value] 120)).heap.size (wr.alloc (.cells #[xs[k].time,xs[k].proc,xs[k].count,xs[k].n,xs[k].value] 120))).drew
       iterate 2 refine kM ?_
       refine ia (by rfl) (by rfl) (fun K hK=>?_);go_simp;refine(i8 _ _ _ _).mono ?_;rintro e b ⟨a,rfl⟩;rw[d] at a;subst a;refine hK _ _ (Or.inr HS) ?_;clear hK K
       iterate 4 refine kM ?_
       refine ia (by rfl) (by rfl) (fun K hK=>?_);go_simp;refine(kT _ _).mono ?_;rintro e b ⟨a,rfl⟩;rw[j] at a;subst a;refine hK _ _ (Or.inr HS) ?_;clear hK K
       iterate 5 refine kM ?_
       refine ia (by rfl) (by rfl) (fun K hK=>?_);go_simp;refine(i8 _ _ _ _).mono ?_;rintro e b ⟨a,rfl⟩;rw[m] at a;subst a;refine hK _ _ (Or.inr HS) ?_;clear hK K
       iterate 5 refine kM ?_
       refine ia (by rfl) (by rfl) (fun K hK=>?_);go_simp;refine(i8 _ _ _ _).mono ?_;rintro e b ⟨a,rfl⟩;rw[o] at a;subst a;refine hK _ _ (Or.inr HS) ?_;clear hK K
       iterate 5 refine kM ?_
       refine ia (by rfl) (by rfl) (fun K hK=>?_);go_simp;refine(ot _ _).mono ?_;rintro e b ⟨a,rfl⟩;rw[t] at a;subst a;refine hK _ _ (Or.inr HS) ?_;clear hK K
       iterate 12 refine kM ?_
       refine ia (by rfl) (by rfl) (fun K hK=>?_);go_simp;refine(tq xs[k-1] xs[k] _).mono ?_;rintro e b ⟨a,s⟩;rw[q] at a;subst a;have g:=gV HS s;refine hK _ _ (Or.inr g) ?_;clear hK K HS;have HS:=g;clear g
       iterate 3 refine kM ?_
       simp only[jc];go_wp2;go_roundw
       case rel=>exact⟨k+1,by go_num,gO,y,as',gV l (gV (gU (gY _ _) _) HS)⟩
       case measure=>exact ms
      ·replace q:hM xs[k-1] xs[k]=false:=by simpa using q
       have f:=gP (show jA xs most=false by
        have G:lG hM (xs.take (k+1))=false:=by rw[kp _ hlt,p.out,if_neg gO];simpa using q
        simp[jA,oR _ G])
       go_wp2;refine ib (fun w' =>Below (wr.alloc (.cells #[xs[k].time,xs[k].proc,xs[k].count,xs[k].n,xs[k].value] 120)).heap.size (wr.alloc (.cells #[xs[k].time,xs[k].proc,xs[k].count,xs[k].n,xs[k].value] 120)) w') [tT 0,tT 1,tF 2,tT 3,tT 4,tT 5,tT 6,tF 7,tT 8,tT 9,tT 10,tT 11,tT 12,tF 13,tT 14,tT 15,tT 16,tT 17,tT 18,tF 19,tT 20,tT 21,tT 22,tT 23,tT 24,tF 25,tT 26,tT 27,tT 28,tT 29,tT 30,tT 31,tT 32,tT 33,tT 34,tT 35,tT 36,tT 37,tF 38,tT 39,tT 40,tT 41] ie ie qP ?_;have HS:=(gY (wr.alloc (.cells #[xs[k].time,xs[k].proc,xs[k].count,xs[k].n,xs[k].value] 120)).heap.size (wr.alloc (.cells #[xs[k].time,xs[k].proc,xs[k].count,xs[k].n,xs[k].value] 120))).drew
       iterate 2 refine kM ?_
       refine ia (by rfl) (by rfl) (fun K hK=>?_);go_simp;refine(i8 _ _ _ _).mono ?_;rintro e b ⟨a,rfl⟩;rw[d] at a;subst a;refine hK _ _ (Or.inr HS) ?_;clear hK K
       iterate 4 refine kM ?_
       refine ia (by rfl) (by rfl) (fun K hK=>?_);go_simp;refine(kT _ _).mono ?_;rintro e b ⟨a,rfl⟩;rw[j] at a;subst a;refine hK _ _ (Or.inr HS) ?_;clear hK K
       iterate 5 refine kM ?_
       refine ia (by rfl) (by rfl) (fun K hK=>?_);go_simp;refine(i8 _ _ _ _).mono ?_;rintro e b ⟨a,rfl⟩;rw[m] at a;subst a;refine hK _ _ (Or.inr HS) ?_;clear hK K
       iterate 5 refine kM ?_
       refine ia (by rfl) (by rfl) (fun K hK=>?_);go_simp;refine(i8 _ _ _ _).mono ?_;rintro e b ⟨a,rfl⟩;rw[o] at a;subst a;refine hK _ _ (Or.inr HS) ?_;clear hK K
       iterate 5 refine kM ?_
       refine ia (by rfl) (by rfl) (fun K hK=>?_);go_simp;refine(ot _ _).mono ?_;rintro e b ⟨a,rfl⟩;rw[t] at a;subst a;refine hK _ _ (Or.inr HS) ?_;clear hK K
       iterate 12 refine kM ?_
       refine ia (by rfl) (by rfl) (fun K hK=>?_);go_simp;refine(tq xs[k-1] xs[k] _).mono ?_;rintro e b ⟨a,s⟩;rw[q] at a;subst a;have g:=gV HS s;refine hK _ _ (Or.inr g) ?_;clear hK K HS;have HS:=g;clear g
       iterate 3 refine kM ?_
       simp only[jc];go_wp2;go_ret;exact⟨by rw[f.out];rfl,gV l (gV (gU (gY _ _) _) HS)⟩
    ·replace c:om xs[k]=false:=by simpa using c
     have f:=gP (show jA xs most=false by simp[jA,jw hlt c]);by_cases d:i2 xs[k].time 0 40=true
     ·skip
      by_cases j:i2 xs[k].proc 0 3=true
      ·skip
       by_cases m:i2 xs[k].count 0 11=true
       ·skip
        by_cases o:i2 xs[k].n 0 1=true
        ·skip
         have t:i2 xs[k].value 0 999=false:=by simpa [om,d,j,m,o] using c
         clear c;go_wp2;refine ib (fun w' =>Below (wr.alloc (.cells #[xs[k].time,xs[k].proc,xs[k].count,xs[k].n,xs[k].value] 120)).heap.size (wr.alloc (.cells #[xs[k].time,xs[k].proc,xs[k].count,xs[k].n,xs[k].value] 120)) w') [tT 0,tT 1,tF 2,tT 3,tT 4,tT 5,tT 6,tF 7,tT 8,tT 9,tT 10,tT 11,tT 12,tF 13,tT 14,tT 15,tT 16,tT 17,tT 18,tF 19,tT 20,tT 21,tT 22,tT 23,tT 24,tF 25,tT 26,tT 27,tT 28,tT 29,tT 30,tT 31,tT 32,tT 33,tT 34,tT 35,tT 36,tT 37,tF 38,tT 39,tT 40,tT 41] ie ie qP ?_;have HS:=(gY (wr.alloc (.cells #[xs[k].time,xs[k].proc,xs[k].count,xs[k].n,xs[k].value] 120)).heap.size (wr.alloc (.cells #[xs[k].time,xs[k].proc,xs[k].count,xs[k].n,xs[k].value] 120))).drew
         iterate 2 refine kM ?_
         refine ia (by rfl) (by rfl) (fun K hK=>?_);go_simp;refine(i8 _ _ _ _).mono ?_;rintro e b ⟨a,rfl⟩;rw[d] at a;subst a;refine hK _ _ (Or.inr HS) ?_;clear hK K
         iterate 4 refine kM ?_
         refine ia (by rfl) (by rfl) (fun K hK=>?_);go_simp;refine(kT _ _).mono ?_;rintro e b ⟨a,rfl⟩;rw[j] at a;subst a;refine hK _ _ (Or.inr HS) ?_;clear hK K
         iterate 5 refine kM ?_
         refine ia (by rfl) (by rfl) (fun K hK=>?_);go_simp;refine(i8 _ _ _ _).mono ?_;rintro e b ⟨a,rfl⟩;rw[m] at a;subst a;refine hK _ _ (Or.inr HS) ?_;clear hK K
         iterate 5 refine kM ?_
         refine ia (by rfl) (by rfl) (fun K hK=>?_);go_simp;refine(i8 _ _ _ _).mono ?_;rintro e b ⟨a,rfl⟩;rw[o] at a;subst a;refine hK _ _ (Or.inr HS) ?_;clear hK K
         iterate 5 refine kM ?_
         refine ia (by rfl) (by rfl) (fun K hK=>?_);go_simp;refine(ot _ _).mono ?_;rintro e b ⟨a,rfl⟩;rw[t] at a;subst a;refine hK _ _ (Or.inr HS) ?_;clear hK K
         iterate 12 refine kM ?_
         refine jH (by rfl) (by rfl) (fun K hK=>?_);go_simp;refine hK _ _ (Or.inr HS) ?_;clear hK K
         iterate 3 refine kM ?_
         simp only[jc];go_wp2;go_ret;exact⟨by rw[f.out];rfl,gV l (gV (gU (gY _ _) _) HS)⟩
        ·replace o:i2 xs[k].n 0 1=false:=by simpa using o
         clear c;go_wp2;refine ib (fun w' =>Below (wr.alloc (.cells #[xs[k].time,xs[k].proc,xs[k].count,xs[k].n,xs[k].value] 120)).heap.size (wr.alloc (.cells #[xs[k].time,xs[k].proc,xs[k].count,xs[k].n,xs[k].value] 120)) w') [tT 0,tT 1,tF 2,tT 3,tT 4,tT 5,tT 6,tF 7,tT 8,tT 9,tT 10,tT 11,tT 12,tF 13,tT 14,tT 15,tT 16,tT 17,tT 18,tF 19,tT 20,tT 21,tT 22,tT 23,tT 24,tF 25,tT 26,tT 27,tT 28,tT 29,tT 30,tT 31,tT 32,tT 33,tT 34,tT 35,tT 36,tT 37,tF 38,tT 39,tT 40,tT 41] ie ie qP ?_;have HS:=(gY (wr.alloc (.cells #[xs[k].time,xs[k].proc,xs[k].count,xs[k].n,xs[k].value] 120)).heap.size (wr.alloc (.cells #[xs[k].time,xs[k].proc,xs[k].count,xs[k].n,xs[k].value] 120))).drew
         iterate 2 refine kM ?_
         refine ia (by rfl) (by rfl) (fun K hK=>?_);go_simp;refine(i8 _ _ _ _).mono ?_;rintro e b ⟨a,rfl⟩;rw[d] at a;subst a;refine hK _ _ (Or.inr HS) ?_;clear hK K
         iterate 4 refine kM ?_
         refine ia (by rfl) (by rfl) (fun K hK=>?_);go_simp;refine(kT _ _).mono ?_;rintro e b ⟨a,rfl⟩;rw[j] at a;subst a;refine hK _ _ (Or.inr HS) ?_;clear hK K
         iterate 5 refine kM ?_
         refine ia (by rfl) (by rfl) (fun K hK=>?_);go_simp;refine(i8 _ _ _ _).mono ?_;rintro e b ⟨a,rfl⟩;rw[m] at a;subst a;refine hK _ _ (Or.inr HS) ?_;clear hK K
         iterate 5 refine kM ?_
         refine ia (by rfl) (by rfl) (fun K hK=>?_);go_simp;refine(i8 _ _ _ _).mono ?_;rintro e b ⟨a,rfl⟩;rw[o] at a;subst a;refine hK _ _ (Or.inr HS) ?_;clear hK K
         iterate 5 refine kM ?_
         refine jH (by rfl) (by rfl) (fun K hK=>?_);go_simp;refine hK _ _ (Or.inr HS) ?_;clear hK K
         iterate 12 refine kM ?_
         refine jH (by rfl) (by rfl) (fun K hK=>?_);go_simp;refine hK _ _ (Or.inr HS) ?_;clear hK K
         iterate 3 refine kM ?_
         simp only[jc];go_wp2;go_ret;exact⟨by rw[f.out];rfl,gV l (gV (gU (gY _ _) _) HS)⟩
       ·replace m:i2 xs[k].count 0 11=false:=by simpa using m
        clear c;go_wp2;refine ib (fun w' =>Below (wr.alloc (.cells #[xs[k].time,xs[k].proc,xs[k].count,xs[k].n,xs[k].value] 120)).heap.size (wr.alloc (.cells #[xs[k].time,xs[k].proc,xs[k].count,xs[k].n,xs[k].value] 120)) w') [tT 0,tT 1,tF 2,tT 3,tT 4,tT 5,tT 6,tF 7,tT 8,tT 9,tT 10,tT 11,tT 12,tF 13,tT 14,tT 15,tT 16,tT 17,tT 18,tF 19,tT 20,tT 21,tT 22,tT 23,tT 24,tF 25,tT 26,tT 27,tT 28,tT 29,tT 30,tT 31,tT 32,tT 33,tT 34,tT 35,tT 36,tT 37,tF 38,tT 39,tT 40,tT 41] ie ie qP ?_;have HS:=(gY (wr.alloc (.cells #[xs[k].time,xs[k].proc,xs[k].count,xs[k].n,xs[k].value] 120)).heap.size (wr.alloc (.cells #[xs[k].time,xs[k].proc,xs[k].count,xs[k].n,xs[k].value] 120))).drew
        iterate 2 refine kM ?_
        refine ia (by rfl) (by rfl) (fun K hK=>?_);go_simp;refine(i8 _ _ _ _).mono ?_;rintro e b ⟨a,rfl⟩;rw[d] at a;subst a;refine hK _ _ (Or.inr HS) ?_;clear hK K
        iterate 4 refine kM ?_
        refine ia (by rfl) (by rfl) (fun K hK=>?_);go_simp;refine(kT _ _).mono ?_;rintro e b ⟨a,rfl⟩;rw[j] at a;subst a;refine hK _ _ (Or.inr HS) ?_;clear hK K
        iterate 5 refine kM ?_
        refine ia (by rfl) (by rfl) (fun K hK=>?_);go_simp;refine(i8 _ _ _ _).mono ?_;rintro e b ⟨a,rfl⟩;rw[m] at a;subst a;refine hK _ _ (Or.inr HS) ?_;clear hK K
        iterate 5 refine kM ?_
        refine jH (by rfl) (by rfl) (fun K hK=>?_);go_simp;refine hK _ _ (Or.inr HS) ?_;clear hK K
        iterate 5 refine kM ?_
        refine jH (by rfl) (by rfl) (fun K hK=>?_);go_simp;refine hK _ _ (Or.inr HS) ?_;clear hK K
        iterate 12 refine kM ?_
        refine jH (by rfl) (by rfl) (fun K hK=>?_);go_simp;refine hK _ _ (Or.inr HS) ?_;clear hK K
        iterate 3 refine kM ?_
        simp only[jc];go_wp2;go_ret;exact⟨by rw[f.out];rfl,gV l (gV (gU (gY _ _) _) HS)⟩
      ·replace j:i2 xs[k].proc 0 3=false:=by simpa using j
       clear c;go_wp2;refine ib (fun w' =>Below (wr.alloc (.cells #[xs[k].time,xs[k].proc,xs[k].count,xs[k].n,xs[k].value] 120)).heap.size (wr.alloc (.cells #[xs[k].time,xs[k].proc,xs[k].count,xs[k].n,xs[k].value] 120)) w') [tT 0,tT 1,tF 2,tT 3,tT 4,tT 5,tT 6,tF 7,tT 8,tT 9,tT 10,tT 11,tT 12,tF 13,tT 14,tT 15,tT 16,tT 17,tT 18,tF 19,tT 20,tT 21,tT 22,tT 23,tT 24,tF 25,tT 26,tT 27,tT 28,tT 29,tT 30,tT 31,tT 32,tT 33,tT 34,tT 35,tT 36,tT 37,tF 38,tT 39,tT 40,tT 41] ie ie qP ?_;have HS:=(gY (wr.alloc (.cells #[xs[k].time,xs[k].proc,xs[k].count,xs[k].n,xs[k].value] 120)).heap.size (wr.alloc (.cells #[xs[k].time,xs[k].proc,xs[k].count,xs[k].n,xs[k].value] 120))).drew
       iterate 2 refine kM ?_
       refine ia (by rfl) (by rfl) (fun K hK=>?_);go_simp;refine(i8 _ _ _ _).mono ?_;rintro e b ⟨a,rfl⟩;rw[d] at a;subst a;refine hK _ _ (Or.inr HS) ?_;clear hK K
       iterate 4 refine kM ?_
       refine ia (by rfl) (by rfl) (fun K hK=>?_);go_simp;refine(kT _ _).mono ?_;rintro e b ⟨a,rfl⟩;rw[j] at a;subst a;refine hK _ _ (Or.inr HS) ?_;clear hK K
       iterate 5 refine kM ?_
       refine jH (by rfl) (by rfl) (fun K hK=>?_);go_simp;refine hK _ _ (Or.inr HS) ?_;clear hK K
       iterate 5 refine kM ?_
       refine jH (by rfl) (by rfl) (fun K hK=>?_);go_simp;refine hK _ _ (Or.inr HS) ?_;clear hK K
       iterate 5 refine kM ?_
       refine jH (by rfl) (by rfl) (fun K hK=>?_);go_simp;refine hK _ _ (Or.inr HS) ?_;clear hK K
       iterate 12 refine kM ?_
       refine jH (by rfl) (by rfl) (fun K hK=>?_);go_simp;refine hK _ _ (Or.inr HS) ?_;clear hK K
       iterate 3 refine kM ?_
       simp only[jc];go_wp2;go_ret;exact⟨by rw[f.out];rfl,gV l (gV (gU (gY _ _) _) HS)⟩
     ·replace d:i2 xs[k].time 0 40=false:=by simpa using d
      clear c;go_wp2;refine ib (fun w' =>Below (wr.alloc (.cells #[xs[k].time,xs[k].proc,xs[k].count,xs[k].n,xs[k].value] 120)).heap.size (wr.alloc (.cells #[xs[k].time,xs[k].proc,xs[k].count,xs[k].n,xs[k].value] 120)) w') [tT 0,tT 1,tF 2,tT 3,tT 4,tT 5,tT 6,tF 7,tT 8,tT 9,tT 10,tT 11,tT 12,tF 13,tT 14,tT 15,tT 16,tT 17,tT 18,tF 19,tT 20,tT 21,tT 22,tT 23,tT 24,tF 25,tT 26,tT 27,tT 28,tT 29,tT 30,tT 31,tT 32,tT 33,tT 34,tT 35,tT 36,tT 37,tF 38,tT 39,tT 40,tT 41] ie ie qP ?_;have HS:=(gY (wr.alloc (.cells #[xs[k].time,xs[k].proc,xs[k].count,xs[k].n,xs[k].value] 120)).heap.size (wr.alloc (.cells #[xs[k].time,xs[k].proc,xs[k].count,xs[k].n,xs[k].value] 120))).drew
      iterate 2 refine kM ?_
      refine ia (by rfl) (by rfl) (fun K hK=>?_);go_simp;refine(i8 _ _ _ _).mono ?_;rintro e b ⟨a,rfl⟩;rw[d] at a;subst a;refine hK _ _ (Or.inr HS) ?_;clear hK K
      iterate 4 refine kM ?_
      refine jH (by rfl) (by rfl) (fun K hK=>?_);go_simp;refine hK _ _ (Or.inr HS) ?_;clear hK K
      iterate 5 refine kM ?_
      refine jH (by rfl) (by rfl) (fun K hK=>?_);go_simp;refine hK _ _ (Or.inr HS) ?_;clear hK K
      iterate 5 refine kM ?_
      refine jH (by rfl) (by rfl) (fun K hK=>?_);go_simp;refine hK _ _ (Or.inr HS) ?_;clear hK K
      iterate 5 refine kM ?_
      refine jH (by rfl) (by rfl) (fun K hK=>?_);go_simp;refine hK _ _ (Or.inr HS) ?_;clear hK K
      iterate 12 refine kM ?_
      refine jH (by rfl) (by rfl) (fun K hK=>?_);go_simp;refine hK _ _ (Or.inr HS) ?_;clear hK K
      iterate 3 refine kM ?_
      simp only[jc];go_wp2;go_ret;exact⟨by rw[f.out];rfl,gV l (gV (gU (gY _ _) _) HS)⟩
   ·have B:k=xs.length:=gO
    subst B;have hall':=u.out;have has':=p.out;rw[ld] at hall' has';have f:=gP (show jA xs most=true by simp[jA,hall',has',D.out]);clear hall' has';go_wp2;go_ret;exact⟨by rw[f.out];rfl,l⟩
 ·have I:decide ((xs.length:Int)>most)=true:=by simp;omega
  have f:=gP (show jA xs most=false by simp[jA];intro h;omega);clear hm;go_enter Tryz.func73,Tryz.ntmps73;go_wp2;go_ret;exact⟨by rw[f.out];rfl,gY _ _⟩
end Go.Proofs.YtgilllnjhahkfaaGreat
