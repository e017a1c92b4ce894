/- Parts of the proof: Spc2, Spc3. -/
import Derived.Test.YtlndjfflhegkdaaGreatDoorQ03
import Derived.Test.YtlndjfflhegkdaaGreatDoorQ05
import Derived.Test.YtlndjfflhegkdaaGreatDoorQ11
set_option linter.unusedVariables false
set_option linter.unusedSimpArgs false
set_option linter.unusedSectionVars false
set_option maxHeartbeats 4000000
set_option maxRecDepth 100000
namespace Go.Proofs.YtlndjfflhegkdaaGreatDoor
open Go.RowKit
theorem lD (w:World):Calls Tryz.prog 63 #[] w fun q w' =>q= .returned (.int .i64 100)∧w' =w:=by
 go_enter Tryz.func63,Tryz.ntmps63;go_wp2_with fail;go_ret;exact⟨rfl,rfl⟩
theorem lN (v:Value) (xs:List hY) (most:Int) (F:Nat→Prop) (w:World) (h:Rd iw w F v xs):
  Calls Tryz.prog 62 #[v,most] w fun e w' =>e= .returned (.bool (iQ xs most))∧Below w.heap.size w w':=by
 obtain⟨A,z,rfl,-,E,-⟩:=id h;by_cases hm:(xs.length:Int)≤most
 ·have D:decide ((xs.length:Int)>most)=false:=by simp;omega
  have y:=fS hm;clear hm;go_enter Tryz.func62,Tryz.ntmps62;go_wp2
  go_loopw [5] (fun i wr=>∃k:Nat,i= .int .i64 k∧k≤xs.length∧Hid ((xs.take k).all i7=true)∧Hid (kX gQ (xs.take k)=true)∧Below w.heap.size w wr) (fun i _=>xs.length-(intOf i).toNat)
  case atStart=>exact⟨0,rfl,j8 _,rfl,rfl,gM _ _⟩
  case round=>
   obtain⟨k,rfl,U,q,g,j⟩:=hrel;by_cases hlt:k<xs.length
   ·have r:Rd iw wr F (.slice A xs.length z) xs:=h.below j
    obtain⟨S,V,rfl,G,J,L,M,O,P,Q,R⟩:=jC r k hlt;by_cases d:i7 xs[k]=true
    ·have s:=fS (ir hlt q.out d)
     have o:i7 ⟨xs[k].time,xs[k].to,xs[k].from_,xs[k].count,xs[k].n,xs[k].kind,xs[k].arg⟩=true:=d;clear d;by_cases q3:k=0
     ·have as':=fS (show kX gQ (xs.take (k+1))=true by rw[jF _ hlt,g.out,if_pos q3];rfl)
      have t:decide ((k:Int)>0)=false:=by simp;omega
      have x:decide (0<k)=false:=by simp;omega
      clear q3;go_wp2;refine gV (fun w' =>Below wr.heap.size wr w') [tT 0,tT 1,tT 2,tT 3,tF 4,tT 5,tT 6,tT 7,tT 8,tT 9,tT 10,tT 11,tT 12,tT 13,tT 14,tT 15,tT 16,tT 17,tT 18,tF 19,tT 20,tT 21,tT 22] gY gY qP ?_;have HS:=(gM wr.heap.size wr).drew
      iterate 4 refine jJ ?_
      refine gU (by rfl) (by rfl) (fun K hK=>?_);go_simp;refine(kS _ _ _ _ _ _ _ _).mono ?_;rintro e p ⟨c,b⟩;rw[o] at c;subst c;have a:=gK HS b;refine hK _ _ (Or.inr a) ?_;clear hK K HS;have HS:=a;clear a
      iterate 14 refine jJ ?_
      refine iN (by rfl) (by rfl) (fun K hK=>?_);go_simp;refine hK _ _ (Or.inr HS) ?_;clear hK K
      iterate 3 refine jJ ?_
      simp only[iG];go_wp2;go_roundw
      case rel=>exact⟨k+1,by go_num,fT,s,as',gK j HS⟩
      case measure=>exact ms
     ·have I:0<k:=fT
      have t:decide ((k:Int)>0)=true:=by simp;omega
      have x:decide (0<k)=true:=by simp;omega
      obtain⟨T,W,m,C,z0,z1,z2,z3,z4,z5,z6⟩:=jC r (k-1) fT;injection m with m;injection m with e1 e2 _;subst e1 e2;have H:((k:Int)-1).toNat=k-1:=fT;have X:(0:Int)≤(k:Int)-1:=fT;have Y:(k:Int)-1<(xs.length:Int):=fT;have Z:(1:Int)≤(k:Int):=fT;have p4:1≤k:=fT;have p5:IntKind.i64.wrap ((k:Int)-1)=(k:Int)-1:=IntWalk.i64_in _ fT;clear q3;by_cases l:gQ xs[k-1] xs[k]=true
      ·have as':=fS (show kX gQ (xs.take (k+1))=true by rw[jF _ hlt,g.out,if_neg fT];simpa using l)
       go_wp2;refine gV (fun w' =>Below wr.heap.size wr w') [tT 0,tT 1,tT 2,tT 3,tF 4,tT 5,tT 6,tT 7,tT 8,tT 9,tT 10,tT 11,tT 12,tT 13,tT 14,tT 15,tT 16,tT 17,tT 18,tF 19,tT 20,tT 21,tT 22] gY gY qP ?_;have HS:=(gM wr.heap.size wr).drew
       iterate 4 refine jJ ?_
       refine gU (by rfl) (by rfl) (fun K hK=>?_);go_simp;refine(kS _ _ _ _ _ _ _ _).mono ?_;rintro e p ⟨c,b⟩;rw[o] at c;subst c;have a:=gK HS b;refine hK _ _ (Or.inr a) ?_;clear hK K HS;have HS:=a;clear a
       iterate 14 refine jJ ?_
       refine gU (by rfl) (by rfl) (fun K hK=>?_);go_simp;refine(nG xs[k-1] xs[k] _).mono ?_;rintro e p ⟨c,b⟩;rw[l] at c;subst c;have a:=gK HS b;refine hK _ _ (Or.inr a) ?_;clear hK K HS;have HS:=a;clear a
       iterate 3 refine jJ ?_
       simp only[iG];go_wp2;go_roundw
       case rel=>exact⟨k+1,by go_num,fT,s,as',gK j HS⟩
       case measure=>exact ms
      ·replace l:gQ xs[k-1] xs[k]=false:=by simpa using l
       have f:=fS (show iQ xs most=false by
        have B:kX gQ (xs.take (k+1))=false:=by rw[jF _ hlt,g.out,if_neg fT];simpa using l
        simp[iQ,oz _ B])
       go_wp2;refine gV (fun w' =>Below wr.heap.size wr w') [tT 0,tT 1,tT 2,tT 3,tF 4,tT 5,tT 6,tT 7,tT 8,tT 9,tT 10,tT 11,tT 12,tT 13,tT 14,tT 15,tT 16,tT 17,tT 18,tF 19,tT 20,tT 21,tT 22] gY gY qP ?_;have HS:=(gM wr.heap.size wr).drew
       iterate 4 refine jJ ?_
       refine gU (by rfl) (by rfl) (fun K hK=>?_);go_simp;refine(kS _ _ _ _ _ _ _ _).mono ?_;rintro e p ⟨c,b⟩;rw[o] at c;subst c;have a:=gK HS b;refine hK _ _ (Or.inr a) ?_;clear hK K HS;have HS:=a;clear a
       iterate 14 refine jJ ?_
       refine gU (by rfl) (by rfl) (fun K hK=>?_);go_simp;refine(nG xs[k-1] xs[k] _).mono ?_;rintro e p ⟨c,b⟩;rw[l] at c;subst c;have a:=gK HS b;refine hK _ _ (Or.inr a) ?_;clear hK K HS;have HS:=a;clear a
       iterate 3 refine jJ ?_
       simp only[iG];go_wp2;go_ret;exact⟨by rw[f.out];rfl,gK j HS⟩
    ·replace d:i7 xs[k]=false:=by simpa using d
     have f:=fS (show iQ xs most=false by simp[iQ,ig hlt d]);have o:i7 ⟨xs[k].time,xs[k].to,xs[k].from_,xs[k].count,xs[k].n,xs[k].kind,xs[k].arg⟩=false:=d;clear d;go_wp2;refine gV (fun w' =>Below wr.heap.size wr w') [tT 0,tT 1,tT 2,tT 3,tF 4,tT 5,tT 6,tT 7,tT 8,tT 9,tT 10,tT 11,tT 12,tT 13,tT 14,tT 15,tT 16,tT 17,tT 18,tF 19,tT 20,tT 21,tT 22] gY gY qP ?_;have HS:=(gM wr.heap.size wr).drew
     iterate 4 refine jJ ?_
     refine gU (by rfl) (by rfl) (fun K hK=>?_);go_simp;refine(kS _ _ _ _ _ _ _ _).mono ?_;rintro e p ⟨c,b⟩;rw[o] at c;subst c;have a:=gK HS b;refine hK _ _ (Or.inr a) ?_;clear hK K HS;have HS:=a;clear a
     iterate 14 refine jJ ?_
     refine iN (by rfl) (by rfl) (fun K hK=>?_);go_simp;refine hK _ _ (Or.inr HS) ?_;clear hK K
     iterate 3 refine jJ ?_
     simp only[iG];go_wp2;go_ret;exact⟨by rw[f.out];rfl,gK j HS⟩
   ·have u:k=xs.length:=fT
    subst u;have hall':=q.out;have has':=g.out;rw[li] at hall' has';have f:=fS (show iQ xs most=true by simp[iQ,hall',has',y.out]);clear hall' has';go_wp2;go_ret;exact⟨by rw[f.out];rfl,j⟩
 ·have D:decide ((xs.length:Int)>most)=true:=by simp;omega
  have f:=fS (show iQ xs most=false by simp[iQ];intro h;omega);clear hm;go_enter Tryz.func62,Tryz.ntmps62;go_wp2;go_ret;exact⟨by rw[f.out];rfl,gM _ _⟩
theorem oD (v:Value) (xs:List ik) (most:Int) (F:Nat→Prop) (w:World) (h:Rd hJ w F v xs):
  Calls Tryz.prog 34 #[v,most] w fun e w' =>e= .returned (.bool (iu xs most))∧Below w.heap.size w w':=by
 obtain⟨A,E,rfl,-,J,-⟩:=id h;by_cases hm:(xs.length:Int)≤most
 ·have I:decide ((xs.length:Int)>most)=false:=by simp;omega
  have D:=fS hm;clear hm;go_enter Tryz.func34,Tryz.ntmps34;go_wp2
  go_loopw [5] (fun i wr=>∃k:Nat,i= .int .i64 k∧k≤xs.length∧Hid ((xs.take k).all nL=true)∧Hid (kX gO (xs.take k)=true)∧Below w.heap.size w wr) (fun i _=>xs.length-(intOf i).toNat)
  case atStart=>exact⟨0,rfl,j8 _,rfl,rfl,gM _ _⟩
  case round=>
   obtain⟨k,rfl,W,u,p,l⟩:=hrel;by_cases hlt:k<xs.length
   ·have x:Rd hJ wr F (.slice A xs.length E) xs:=h.below l
    obtain⟨U,X,rfl,L,P,Q,R,S,T⟩:=kh x k hlt;by_cases c:nL xs[k]=true
    ·have y:=fS (ir hlt u.out c)
     obtain⟨d,j,m,o,t⟩:ib xs[k].time 0 40=true∧ib xs[k].proc 0 3=true∧ib xs[k].count 0 11=true∧ib xs[k].n 0 1=true∧ib xs[k].value 0 999=true:=by simpa [nL,and_assoc] using c
     clear c;by_cases q3:k=0
     ·have as':=fS (show kX gO (xs.take (k+1))=true by rw[jF _ hlt,p.out,if_pos q3];rfl)
      have z:decide ((k:Int)>0)=false:=by simp;omega
      have C:decide (0<k)=false:=by simp;omega
      clear q3;go_wp2;refine gV (fun w' =>Below (wr.alloc (.cells #[xs[k].time,xs[k].proc,xs[k].count,xs[k].n,xs[k].value] 101)).heap.size (wr.alloc (.cells #[xs[k].time,xs[k].proc,xs[k].count,xs[k].n,xs[k].value] 101)) w') [tT 0,tT 1,tF 2,tT 3,tT 4,tT 5,tT 6,tF 7,tT 8,tT 9,tT 10,tT 11,tT 12,tF 13,tT 14,tT 15,tT 16,tT 17,tT 18,tF 19,tT 20,tT 21,tT 22,tT 23,tT 24,tF 25,tT 26,tT 27,tT 28,tT 29,tT 30,tT 31,tT 32,tT 33,tT 34,tT 35,tT 36,tT 37,tF 38,tT 39,tT 40,tT 41] gY gY qP ?_;have HS:=(gM (wr.alloc (.cells #[xs[k].time,xs[k].proc,xs[k].count,xs[k].n,xs[k].value] 101)).heap.size (wr.alloc (.cells #[xs[k].time,xs[k].proc,xs[k].count,xs[k].n,xs[k].value] 101))).drew
      iterate 2 refine jJ ?_
      refine gU (by rfl) (by rfl) (fun K hK=>?_);go_simp;refine(ii _ _ _ _).mono ?_;rintro e b ⟨a,rfl⟩;rw[d] at a;subst a;refine hK _ _ (Or.inr HS) ?_;clear hK K
      iterate 4 refine jJ ?_
      refine gU (by rfl) (by rfl) (fun K hK=>?_);go_simp;refine(km _ _).mono ?_;rintro e b ⟨a,rfl⟩;rw[j] at a;subst a;refine hK _ _ (Or.inr HS) ?_;clear hK K
      iterate 5 refine jJ ?_
      refine gU (by rfl) (by rfl) (fun K hK=>?_);go_simp;refine(ii _ _ _ _).mono ?_;rintro e b ⟨a,rfl⟩;rw[m] at a;subst a;refine hK _ _ (Or.inr HS) ?_;clear hK K
      iterate 5 refine jJ ?_
      refine gU (by rfl) (by rfl) (fun K hK=>?_);go_simp;refine(ii _ _ _ _).mono ?_;rintro e b ⟨a,rfl⟩;rw[o] at a;subst a;refine hK _ _ (Or.inr HS) ?_;clear hK K
      iterate 5 refine jJ ?_
      refine gU (by rfl) (by rfl) (fun K hK=>?_);go_simp;refine(nI _ _).mono ?_;rintro e b ⟨a,rfl⟩;rw[t] at a;subst a;refine hK _ _ (Or.inr HS) ?_;clear hK K
      iterate 12 refine jJ ?_
      refine iN (by rfl) (by rfl) (fun K hK=>?_);go_simp;refine hK _ _ (Or.inr HS) ?_;clear hK K
      iterate 3 refine jJ ?_
      simp only[iG];go_wp2;go_roundw
      case rel=>exact⟨k+1,by go_num,fT,y,as',gK l (gK (gs (gM _ _) _) HS)⟩
      case measure=>exact ms
     ·have O:0<k:=fT
      have z:decide ((k:Int)>0)=true:=by simp;omega
      have C:decide (0<k)=true:=by simp;omega
      obtain⟨V,Y,r,H,z0,z1,z2,z3,z4⟩:=kh x (k-1) fT;injection r with r;injection r with e1 e2 _;subst e1 e2;have M:((k:Int)-1).toNat=k-1:=fT;have Z:(0:Int)≤(k:Int)-1:=fT;have p2:(k:Int)-1<(xs.length:Int):=fT;have p3:(1:Int)≤(k:Int):=fT;have p4:1≤k:=fT;have p5:IntKind.i64.wrap ((k:Int)-1)=(k:Int)-1:=IntWalk.i64_in _ fT;clear q3;by_cases q:gO xs[k-1] xs[k]=true
      ·have as':=fS (show kX gO (xs.take (k+1))=true by rw[jF _ hlt,p.out,if_neg fT];simpa using q)
       go_wp2;refine gV (fun w' =>Below (wr.alloc (.cells #[xs[k].time,xs[k].proc,xs[k].count,xs[k].n,xs[k].value] 101)).heap.size (wr.alloc (.cells #[xs[k].time,xs[k].proc,xs[k].count,xs[k].n,xs[k].value] 101)) w') [tT 0,tT 1,tF 2,tT 3,tT 4,tT 5,tT 6,tF 7,tT 8,tT 9,tT 10,tT 11,tT 12,tF 13,tT 14,tT 15,tT 16,tT 17,tT 18,tF 19,tT 20,tT 21,tT 22,tT 23,tT 24,tF 25,tT 26,tT 27,tT 28,tT 29,tT 30,tT 31,tT 32,tT 33,tT 34,tT 35,tT 36,tT 37,tF 38,tT 39,tT 40,tT 41] gY gY qP ?_;have HS:=(gM (wr.alloc (.cells #[xs[k].time,xs[k].proc,xs[k].count,xs[k].n,xs[k].value] 101)).heap.size (wr.alloc (.cells #[xs[k].time,xs[k].proc,xs[k].count,xs[k].n,xs[k].value] 101))).drew
       iterate 2 refine jJ ?_
       refine gU (by rfl) (by rfl) (fun K hK=>?_);go_simp;refine(ii _ _ _ _).mono ?_;rintro e b ⟨a,rfl⟩;rw[d] at a;subst a;refine hK _ _ (Or.inr HS) ?_;clear hK K
       iterate 4 refine jJ ?_
       refine gU (by rfl) (by rfl) (fun K hK=>?_);go_simp;refine(km _ _).mono ?_;rintro e b ⟨a,rfl⟩;rw[j] at a;subst a;refine hK _ _ (Or.inr HS) ?_;clear hK K
       iterate 5 refine jJ ?_
       refine gU (by rfl) (by rfl) (fun K hK=>?_);go_simp;refine(ii _ _ _ _).mono ?_;rintro e b ⟨a,rfl⟩;rw[m] at a;subst a;refine hK _ _ (Or.inr HS) ?_;clear hK K
       iterate 5 refine jJ ?_
       refine gU (by rfl) (by rfl) (fun K hK=>?_);go_simp;refine(ii _ _ _ _).mono ?_;rintro e b ⟨a,rfl⟩;rw[o] at a;subst a;refine hK _ _ (Or.inr HS) ?_;clear hK K
       iterate 5 refine jJ ?_
       refine gU (by rfl) (by rfl) (fun K hK=>?_);go_simp;refine(nI _ _).mono ?_;rintro e b ⟨a,rfl⟩;rw[t] at a;subst a;refine hK _ _ (Or.inr HS) ?_;clear hK K
       iterate 12 refine jJ ?_
       refine gU (by rfl) (by rfl) (fun K hK=>?_);go_simp;refine(sh xs[k-1] xs[k] _).mono ?_;rintro e b ⟨a,s⟩;rw[q] at a;subst a;have g:=gK HS s;refine hK _ _ (Or.inr g) ?_;clear hK K HS;have HS:=g;clear g
       iterate 3 refine jJ ?_
       simp only[iG];go_wp2;go_roundw
       case rel=>exact⟨k+1,by go_num,fT,y,as',gK l (gK (gs (gM _ _) _) HS)⟩
       case measure=>exact ms
      ·replace q:gO xs[k-1] xs[k]=false:=by simpa using q
       have f:=fS (show iu xs most=false by
        have G:kX gO (xs.take (k+1))=false:=by rw[jF _ hlt,p.out,if_neg fT];simpa using q
        simp[iu,oz _ G])
       go_wp2;refine gV (fun w' =>Below (wr.alloc (.cells #[xs[k].time,xs[k].proc,xs[k].count,xs[k].n,xs[k].value] 101)).heap.size (wr.alloc (.cells #[xs[k].time,xs[k].proc,xs[k].count,xs[k].n,xs[k].value] 101)) w') [tT 0,tT 1,tF 2,tT 3,tT 4,tT 5,tT 6,tF 7,tT 8,tT 9,tT 10,tT 11,tT 12,tF 13,tT 14,tT 15,tT 16,tT 17,tT 18,tF 19,tT 20,tT 21,tT 22,tT 23,tT 24,tF 25,tT 26,tT 27,tT 28,tT 29,tT 30,tT 31,tT 32,tT 33,tT 34,tT 35,tT 36,tT 37,tF 38,tT 39,tT 40,tT 41] gY gY qP ?_;have HS:=(gM (wr.alloc (.cells #[xs[k].time,xs[k].proc,xs[k].count,xs[k].n,xs[k].value] 101)).heap.size (wr.alloc (.cells #[xs[k].time,xs[k].proc,xs[k].count,xs[k].n,xs[k].value] 101))).drew
       iterate 2 refine jJ ?_
       refine gU (by rfl) (by rfl) (fun K hK=>?_);go_simp;refine(ii _ _ _ _).mono ?_;rintro e b ⟨a,rfl⟩;rw[d] at a;subst a;refine hK _ _ (Or.inr HS) ?_;clear hK K
       iterate 4 refine jJ ?_
       refine gU (by rfl) (by rfl) (fun K hK=>?_);go_simp;refine(km _ _).mono ?_;rintro e b ⟨a,rfl⟩;rw[j] at a;subst a;refine hK _ _ (Or.inr HS) ?_;clear hK K
       iterate 5 refine jJ ?_
       refine gU (by rfl) (by rfl) (fun K hK=>?_);go_simp;refine(ii _ _ _ _).mono ?_;rintro e b ⟨a,rfl⟩;rw[m] at a;subst a;refine hK _ _ (Or.inr HS) ?_;clear hK K
       iterate 5 refine jJ ?_
       refine gU (by rfl) (by rfl) (fun K hK=>?_);go_simp;refine(ii _ _ _ _).mono ?_;rintro e b ⟨a,rfl⟩;rw[o] at a;subst a;refine hK _ _ (Or.inr HS) ?_;clear hK K
       iterate 5 refine jJ ?_
       refine gU (by rfl) (by rfl) (fun K hK=>?_);go_simp;refine(nI _ _).mono ?_;rintro e b ⟨a,rfl⟩;rw[t] at a;subst a;refine hK _ _ (Or.inr HS) ?_;clear hK K
       iterate 12 refine jJ ?_
       refine gU (by rfl) (by rfl) (fun K hK=>?_);go_simp;refine(sh xs[k-1] xs[k] _).mono ?_;rintro e b ⟨a,s⟩;rw[q] at a;subst a;have g:=gK HS s;refine hK _ _ (Or.inr g) ?_;clear hK K HS;have HS:=g;clear g
       iterate 3 refine jJ ?_
       simp only[iG];go_wp2;go_ret;exact⟨by rw[f.out];rfl,gK l (gK (gs (gM _ _) _) HS)⟩
    ·replace c:nL xs[k]=false:=by simpa using c
     have f:=fS (show iu xs most=false by simp[iu,ig hlt c]);by_cases d:ib xs[k].time 0 40=true
     ·skip
      by_cases j:ib xs[k].proc 0 3=true
      ·skip
       by_cases m:ib xs[k].count 0 11=true
       ·skip
        by_cases o:ib xs[k].n 0 1=true
        ·skip
         have t:ib xs[k].value 0 999=false:=by simpa [nL,d,j,m,o] using c
         clear c;go_wp2;refine gV (fun w' =>Below (wr.alloc (.cells #[xs[k].time,xs[k].proc,xs[k].count,xs[k].n,xs[k].value] 101)).heap.size (wr.alloc (.cells #[xs[k].time,xs[k].proc,xs[k].count,xs[k].n,xs[k].value] 101)) w') [tT 0,tT 1,tF 2,tT 3,tT 4,tT 5,tT 6,tF 7,tT 8,tT 9,tT 10,tT 11,tT 12,tF 13,tT 14,tT 15,tT 16,tT 17,tT 18,tF 19,tT 20,tT 21,tT 22,tT 23,tT 24,tF 25,tT 26,tT 27,tT 28,tT 29,tT 30,tT 31,tT 32,tT 33,tT 34,tT 35,tT 36,tT 37,tF 38,tT 39,tT 40,tT 41] gY gY qP ?_;have HS:=(gM (wr.alloc (.cells #[xs[k].time,xs[k].proc,xs[k].count,xs[k].n,xs[k].value] 101)).heap.size (wr.alloc (.cells #[xs[k].time,xs[k].proc,xs[k].count,xs[k].n,xs[k].value] 101))).drew
         iterate 2 refine jJ ?_
         refine gU (by rfl) (by rfl) (fun K hK=>?_);go_simp;refine(ii _ _ _ _).mono ?_;rintro e b ⟨a,rfl⟩;rw[d] at a;subst a;refine hK _ _ (Or.inr HS) ?_;clear hK K
         iterate 4 refine jJ ?_
         refine gU (by rfl) (by rfl) (fun K hK=>?_);go_simp;refine(km _ _).mono ?_;rintro e b ⟨a,rfl⟩;rw[j] at a;subst a;refine hK _ _ (Or.inr HS) ?_;clear hK K
         iterate 5 refine jJ ?_
         refine gU (by rfl) (by rfl) (fun K hK=>?_);go_simp;refine(ii _ _ _ _).mono ?_;rintro e b ⟨a,rfl⟩;rw[m] at a;subst a;refine hK _ _ (Or.inr HS) ?_;clear hK K
         iterate 5 refine jJ ?_
         refine gU (by rfl) (by rfl) (fun K hK=>?_);go_simp;refine(ii _ _ _ _).mono ?_;rintro e b ⟨a,rfl⟩;rw[o] at a;subst a;refine hK _ _ (Or.inr HS) ?_;clear hK K
         iterate 5 refine jJ ?_
         refine gU (by rfl) (by rfl) (fun K hK=>?_);go_simp;refine(nI _ _).mono ?_;rintro e b ⟨a,rfl⟩;rw[t] at a;subst a;refine hK _ _ (Or.inr HS) ?_;clear hK K
         iterate 12 refine jJ ?_
         refine iN (by rfl) (by rfl) (fun K hK=>?_);go_simp;refine hK _ _ (Or.inr HS) ?_;clear hK K
         iterate 3 refine jJ ?_
         simp only[iG];go_wp2;go_ret;exact⟨by rw[f.out];rfl,gK l (gK (gs (gM _ _) _) HS)⟩
        ·replace o:ib xs[k].n 0 1=false:=by simpa using o
         clear c;go_wp2;refine gV (fun w' =>Below (wr.alloc (.cells #[xs[k].time,xs[k].proc,xs[k].count,xs[k].n,xs[k].value] 101)).heap.size (wr.alloc (.cells #[xs[k].time,xs[k].proc,xs[k].count,xs[k].n,xs[k].value] 101)) w') [tT 0,tT 1,tF 2,tT 3,tT 4,tT 5,tT 6,tF 7,tT 8,tT 9,tT 10,tT 11,tT 12,tF 13,tT 14,tT 15,tT 16,tT 17,tT 18,tF 19,tT 20,tT 21,tT 22,tT 23,tT 24,tF 25,tT 26,tT 27,tT 28,tT 29,tT 30,tT 31,tT 32,tT 33,tT 34,tT 35,tT 36,tT 37,tF 38,tT 39,tT 40,tT 41] gY gY qP ?_;have HS:=(gM (wr.alloc (.cells #[xs[k].time,xs[k].proc,xs[k].count,xs[k].n,xs[k].value] 101)).heap.size (wr.alloc (.cells #[xs[k].time,xs[k].proc,xs[k].count,xs[k].n,xs[k].value] 101))).drew
         iterate 2 refine jJ ?_
         refine gU (by rfl) (by rfl) (fun K hK=>?_);go_simp;refine(ii _ _ _ _).mono ?_;rintro e b ⟨a,rfl⟩;rw[d] at a;subst a;refine hK _ _ (Or.inr HS) ?_;clear hK K
         iterate 4 refine jJ ?_
         refine gU (by rfl) (by rfl) (fun K hK=>?_);go_simp;refine(km _ _).mono ?_;rintro e b ⟨a,rfl⟩;rw[j] at a;subst a;refine hK _ _ (Or.inr HS) ?_;clear hK K
         iterate 5 refine jJ ?_
         refine gU (by rfl) (by rfl) (fun K hK=>?_);go_simp;refine(ii _ _ _ _).mono ?_;rintro e b ⟨a,rfl⟩;rw[m] at a;subst a;refine hK _ _ (Or.inr HS) ?_;clear hK K
         iterate 5 refine jJ ?_
         refine gU (by rfl) (by rfl) (fun K hK=>?_);go_simp;refine(ii _ _ _ _).mono ?_;rintro e b ⟨a,rfl⟩;rw[o] at a;subst a;refine hK _ _ (Or.inr HS) ?_;clear hK K
         iterate 5 refine jJ ?_
         refine iN (by rfl) (by rfl) (fun K hK=>?_);go_simp;refine hK _ _ (Or.inr HS) ?_;clear hK K
         iterate 12 refine jJ ?_
         refine iN (by rfl) (by rfl) (fun K hK=>?_);go_simp;refine hK _ _ (Or.inr HS) ?_;clear hK K
         iterate 3 refine jJ ?_
         simp only[iG];go_wp2;go_ret;exact⟨by rw[f.out];rfl,gK l (gK (gs (gM _ _) _) HS)⟩
       ·replace m:ib xs[k].count 0 11=false:=by simpa using m
        clear c;go_wp2;refine gV (fun w' =>Below (wr.alloc (.cells #[xs[k].time,xs[k].proc,xs[k].count,xs[k].n,xs[k].value] 101)).heap.size (wr.alloc (.cells #[xs[k].time,xs[k].proc,xs[k].count,xs[k].n,xs[k].value] 101)) w') [tT 0,tT 1,tF 2,tT 3,tT 4,tT 5,tT 6,tF 7,tT 8,tT 9,tT 10,tT 11,tT 12,tF 13,tT 14,tT 15,tT 16,tT 17,tT 18,tF 19,tT 20,tT 21,tT 22,tT 23,tT 24,tF 25,tT 26,tT 27,tT 28,tT 29,tT 30,tT 31,tT 32,tT 33,tT 34,tT 35,tT 36,tT 37,tF 38,tT 39,tT 40,tT 41] gY gY qP ?_;have HS:=(gM (wr.alloc (.cells #[xs[k].time,xs[k].proc,xs[k].count,xs[k].n,xs[k].value] 101)).heap.size (wr.alloc (.cells #[xs[k].time,xs[k].proc,xs[k].count,xs[k].n,xs[k].value] 101))).drew
        iterate 2 refine jJ ?_
        refine gU (by rfl) (by rfl) (fun K hK=>?_);go_simp;refine(ii _ _ _ _).mono ?_;rintro e b ⟨a,rfl⟩;rw[d] at a;subst a;refine hK _ _ (Or.inr HS) ?_;clear hK K
        iterate 4 refine jJ ?_
        refine gU (by rfl) (by rfl) (fun K hK=>?_);go_simp;refine(km _ _).mono ?_;rintro e b ⟨a,rfl⟩;rw[j] at a;subst a;refine hK _ _ (Or.inr HS) ?_;clear hK K
        iterate 5 refine jJ ?_
        refine gU (by rfl) (by rfl) (fun K hK=>?_);go_simp;refine(ii _ _ _ _).mono ?_;rintro e b ⟨a,rfl⟩;rw[m] at a;subst a;refine hK _ _ (Or.inr HS) ?_;clear hK K
        iterate 5 refine jJ ?_
        refine iN (by rfl) (by rfl) (fun K hK=>?_);go_simp;refine hK _ _ (Or.inr HS) ?_;clear hK K
        iterate 5 refine jJ ?_
        refine iN (by rfl) (by rfl) (fun K hK=>?_);go_simp;refine hK _ _ (Or.inr HS) ?_;clear hK K
        iterate 12 refine jJ ?_
        refine iN (by rfl) (by rfl) (fun K hK=>?_);go_simp;refine hK _ _ (Or.inr HS) ?_;clear hK K
        iterate 3 refine jJ ?_
        simp only[iG];go_wp2;go_ret;exact⟨by rw[f.out];rfl,gK l (gK (gs (gM _ _) _) HS)⟩
      ·replace j:ib xs[k].proc 0 3=false:=by simpa using j
       clear c;go_wp2;refine gV (fun w' =>Below (wr.alloc (.cells #[xs[k].time,xs[k].proc,xs[k].count,xs[k].n,xs[k].value] 101)).heap.size (wr.alloc (.cells #[xs[k].time,xs[k].proc,xs[k].count,xs[k].n,xs[k].value] 101)) w') [tT 0,tT 1,tF 2,tT 3,tT 4,tT 5,tT 6,tF 7,tT 8,tT 9,tT 10,tT 11,tT 12,tF 13,tT 14,tT 15,tT 16,tT 17,tT 18,tF 19,tT 20,tT 21,tT 22,tT 23,tT 24,tF 25,tT 26,tT 27,tT 28,tT 29,tT 30,tT 31,tT 32,tT 33,tT 34,tT 35,tT 36,tT 37,tF 38,tT 39,tT 40,tT 41] gY gY qP ?_;have HS:=(gM (wr.alloc (.cells #[xs[k].time,xs[k].proc,xs[k].count,xs[k].n,xs[k].value] 101)).heap.size (wr.alloc (.cells #[xs[k].time,xs[k].proc,xs[k].count,xs[k].n,xs[k].value] 101))).drew
       iterate 2 refine jJ ?_
       refine gU (by rfl) (by rfl) (fun K hK=>?_);go_simp;refine(ii _ _ _ _).mono ?_;rintro e b ⟨a,rfl⟩;rw[d] at a;subst a;refine hK _ _ (Or.inr HS) ?_;clear hK K
       iterate 4 refine jJ ?_
       refine gU (by rfl) (by rfl) (fun K hK=>?_);go_simp;refine(km _ _).mono ?_;rintro e b ⟨a,rfl⟩;rw[j] at a;subst a;refine hK _ _ (Or.inr HS) ?_;clear hK K
       iterate 5 refine jJ ?_
       refine iN (by rfl) (by rfl) (fun K hK=>?_);go_simp;refine hK _ _ (Or.inr HS) ?_;clear hK K
       iterate 5 refine jJ ?_
       refine iN (by rfl) (by rfl) (fun K hK=>?_);go_simp;refine hK _ _ (Or.inr HS) ?_;clear hK K
       iterate 5 refine jJ ?_
       refine iN (by rfl) (by rfl) (fun K hK=>?_);go_simp;refine hK _ _ (Or.inr HS) ?_;clear hK K
       iterate 12 refine jJ ?_
       refine iN (by rfl) (by rfl) (fun K hK=>?_);go_simp;refine hK _ _ (Or.inr HS) ?_;clear hK K
       iterate 3 refine jJ ?_
       simp only[iG];go_wp2;go_ret;exact⟨by rw[f.out];rfl,gK l (gK (gs (gM _ _) _) HS)⟩
     ·replace d:ib xs[k].time 0 40=false:=by simpa using d
      clear c;go_wp2;refine gV (fun w' =>Below (wr.alloc (.cells #[xs[k].time,xs[k].proc,xs[k].count,xs[k].n,xs[k].value] 101)).heap.size (wr.alloc (.cells #[xs[k].time,xs[k].proc,xs[k].count,xs[k].n,xs[k].value] 101)) w') [tT 0,tT 1,tF 2,tT 3,tT 4,tT 5,tT 6,tF 7,tT 8,tT 9,tT 10,tT 11,tT 12,tF 13,tT 14,tT 15,tT 16,tT 17,tT 18,tF 19,tT 20,tT 21,tT 22,tT 23,tT 24,tF 25,tT 26,tT 27,tT 28,tT 29,tT 30,tT 31,tT 32,tT 33,tT 34,tT 35,tT 36,tT 37,tF 38,tT 39,tT 40,tT 41] gY gY qP ?_;have HS:=(gM (wr.alloc (.cells #[xs[k].time,xs[k].proc,xs[k].count,xs[k].n,xs[k].value] 101)).heap.size (wr.alloc (.cells #[xs[k].time,xs[k].proc,xs[k].count,xs[k].n,xs[k].value] 101))).drew
      iterate 2 refine jJ ?_
      refine gU (by rfl) (by rfl) (fun K hK=>?_);go_simp;refine(ii _ _ _ _).mono ?_;rintro e b ⟨a,rfl⟩;rw[d] at a;subst a;refine hK _ _ (Or.inr HS) ?_;clear hK K
      iterate 4 refine jJ ?_
      refine iN (by rfl) (by rfl) (fun K hK=>?_);go_simp;refine hK _ _ (Or.inr HS) ?_;clear hK K
      iterate 5 refine jJ ?_
      refine iN (by rfl) (by rfl) (fun K hK=>?_);go_simp;refine hK _ _ (Or.inr HS) ?_;clear hK K
      iterate 5 refine jJ ?_
      refine iN (by rfl) (by rfl) (fun K hK=>?_);go_simp;refine hK _ _ (Or.inr HS) ?_;clear hK K
      iterate 5 refine jJ ?_
      refine iN (by rfl) (by rfl) (fun K hK=>?_);go_simp;refine hK _ _ (Or.inr HS) ?_;clear hK K
      iterate 12 refine jJ ?_
      refine iN (by rfl) (by rfl) (fun K hK=>?_);go_simp;refine hK _ _ (Or.inr HS) ?_;clear hK K
      iterate 3 refine jJ ?_
      simp only[iG];go_wp2;go_ret;exact⟨by rw[f.out];rfl,gK l (gK (gs (gM _ _) _) HS)⟩
   ·have B:k=xs.length:=fT
    subst B;have hall':=u.out;have has':=p.out;rw[li] at hall' has';have f:=fS (show iu xs most=true by simp[iu,hall',has',D.out]);clear hall' has';go_wp2;go_ret;exact⟨by rw[f.out];rfl,l⟩
 ·have I:decide ((xs.length:Int)>most)=true:=by simp;omega
  have f:=fS (show iu xs most=false by simp[iu];intro h;omega);clear hm;go_enter Tryz.func34,Tryz.ntmps34;go_wp2;go_ret;exact⟨by rw[f.out];rfl,gM _ _⟩
theorem Rd.alloc {α:Type} {d:Ty α} {w:World} {F:Nat→Prop} {v:Value} {xs:List α} (h:Rd d w F v xs) (o:Obj):Rd d (w.alloc o) F v xs:=h.below (gs (gM _ _) o)
theorem rW {s:kq} (h:¬s.states.length=4):jN s=false:=by simp[jN,h]
theorem xI {s:kq} (h:iQ s.queue 100=false):jN s=false:=by simp[jN,h]
theorem xJ {s:kq} (h:iu s.outs 96=false):jN s=false:=by simp[jN,h]
theorem rX {s:kq} {k:Nat} (hk:k<s.states.length) (h:jE s.states[k]=false):jN s=false:=by simp[jN,ig hk h]
theorem tB (vs vq vo:Value) (s:kq) (F:Nat→Prop) (w:World) (hs:Rd nB w F vs s.states) (hq:Rd iw w F vq s.queue) (ho:Rd hJ w F vo s.outs):
  Calls Tryz.prog 71 #[.agg #[vs,vq,vo]] w fun e w' =>e= .returned (.bool (jN s))∧Below w.heap.size w w':=by
 obtain⟨A,d,rfl,-,z,-⟩:=id hs;by_cases q1:s.states.length=4
 ·have B:((s.states.length:Int) !=4)=false:=by simp[q1]
  have u:=fS q1;have E:s.states.length≤4:=fT;clear q1;by_cases m:iQ s.queue 100=true
  ·by_cases o:iu s.outs 96=true
   ·go_enter Tryz.func71,Tryz.ntmps71
    go_wp2;refine gV (fun w' =>Below (w.alloc (.cells #[.slice A s.states.length d,vq,vo] 51)).heap.size (w.alloc (.cells #[.slice A s.states.length d,vq,vo] 51)) w') [tT 0,tT 1,tT 2,tT 3,tT 4,tT 5,tT 6,tF 7,tF 8,tT 9,tT 10,tT 11,tT 12,tT 13,tF 14,tT 15,tT 16] gY gY qP ?_;have HS:=(gM (w.alloc (.cells #[.slice A s.states.length d,vq,vo] 51)).heap.size (w.alloc (.cells #[.slice A s.states.length d,vq,vo] 51))).drew
    iterate 7 refine jJ ?_
    refine gU (by rfl) (by rfl) (fun K hK=>?_);go_simp;refine(lD _).mono ?_;rintro e j ⟨rfl,rfl⟩;refine hK _ _ (Or.inr HS) ?_;clear hK K;refine gU (by rfl) (by rfl) (fun K hK=>?_);go_simp;refine(lN _ s.queue _ F _ ((hq.alloc _).below HS)).mono ?_;rintro e j ⟨f,b⟩;rw[m] at f;subst f;have a:=gK HS b;refine hK _ _ (Or.inr a) ?_;clear hK K HS;have HS:=a;clear a
    iterate 5 refine jJ ?_
    refine gU (by rfl) (by rfl) (fun K hK=>?_);go_simp;refine(oD _ s.outs _ F _ ((ho.alloc _).below HS)).mono ?_;rintro e j ⟨f,b⟩;rw[o] at f;subst f;have a:=gK HS b;refine hK _ _ (Or.inr a) ?_;clear hK K HS;have HS:=a;clear a
    iterate 2 refine jJ ?_
    simp only[iG];go_wp2
    go_loopw [3] (fun i wr=>∃k:Nat,i= .int .i64 k∧k≤s.states.length∧Hid ((s.states.take k).all jE=true)∧Below (w.heap.size+1) (w.alloc (.cells #[.slice A s.states.length d,vq,vo] 51)) wr) (fun i _=>s.states.length-(intOf i).toNat)
    case atStart=>exact⟨0,rfl,j8 _,rfl,by simpa using HS⟩
    case round=>
     obtain⟨k,rfl,L,p,n⟩:=hrel;have D:wr.cell? ⟨w.heap.size,0,none⟩=some (.slice A s.states.length d):=by rw[n.cell sm];simp
     have q:w.heap.size<wr.heap.size:=by have:=n.size;simp at this;omega
     by_cases hlt:k<s.states.length
     ·have t:Rd nB wr F (.slice A s.states.length d) s.states:=(hs.alloc _).below (by simpa using n)
      obtain⟨J,M,rfl,C,G,H,I⟩:=yJ t k hlt;by_cases l:jE s.states[k]=true
      ·have v:=fS (ir hlt p.out l)
       have t0':jE ⟨s.states[k].x,s.states[k].y,s.states[k].c⟩=true:=l;clear l;go_wp2_with (go_at_call 110;refine(kw _ _ _ _).mono ?_;rintro e j ⟨rfl,b⟩);go_roundw
       case rel=>exact⟨k+1,by go_num,fT,v,fU n b q⟩
       case measure=>exact ms
      ·replace l:jE s.states[k]=false:=by simpa using l
       have t0':jE ⟨s.states[k].x,s.states[k].y,s.states[k].c⟩=false:=l;have g:=fS (rX hlt l);clear l;go_wp2_with (go_at_call 110;refine(kw _ _ _ _).mono ?_;rintro e j ⟨rfl,b⟩);go_ret;exact⟨by rw[g.out];rfl,((gM _ _).alloc (jn _) _).trans ((fU n b q).mono sm)⟩
     ·have r:k=s.states.length:=fT
      subst r;have hall':=p.out;rw[li] at hall';have g:=fS (show jN s=true by simp[jN,hall',u.out,m,o]);clear hall';go_wp2;go_ret;exact⟨by rw[g.out];rfl,((gM _ _).alloc (jn _) _).trans (n.mono sm)⟩
   ·replace o:iu s.outs 96=false:=by simpa using o
    have g:=fS (xJ o);go_enter Tryz.func71,Tryz.ntmps71;go_wp2;refine gV (fun w' =>Below (w.alloc (.cells #[.slice A s.states.length d,vq,vo] 51)).heap.size (w.alloc (.cells #[.slice A s.states.length d,vq,vo] 51)) w') [tT 0,tT 1,tT 2,tT 3,tT 4,tT 5,tT 6,tF 7,tF 8,tT 9,tT 10,tT 11,tT 12,tT 13,tF 14,tT 15,tT 16] gY gY qP ?_;have HS:=(gM (w.alloc (.cells #[.slice A s.states.length d,vq,vo] 51)).heap.size (w.alloc (.cells #[.slice A s.states.length d,vq,vo] 51))).drew
    iterate 7 refine jJ ?_
    refine gU (by rfl) (by rfl) (fun K hK=>?_);go_simp;refine(lD _).mono ?_;rintro e j ⟨rfl,rfl⟩;refine hK _ _ (Or.inr HS) ?_;clear hK K;refine gU (by rfl) (by rfl) (fun K hK=>?_);go_simp;refine(lN _ s.queue _ F _ ((hq.alloc _).below HS)).mono ?_;rintro e j ⟨f,b⟩;rw[m] at f;subst f;have a:=gK HS b;refine hK _ _ (Or.inr a) ?_;clear hK K HS;have HS:=a;clear a
    iterate 5 refine jJ ?_
    refine gU (by rfl) (by rfl) (fun K hK=>?_);go_simp;refine(oD _ s.outs _ F _ ((ho.alloc _).below HS)).mono ?_;rintro e j ⟨f,b⟩;rw[o] at f;subst f;have a:=gK HS b;refine hK _ _ (Or.inr a) ?_;clear hK K HS;have HS:=a;clear a
    iterate 2 refine jJ ?_
    simp only[iG];go_wp2;go_ret;exact⟨by rw[g.out];rfl,gK (gs (gM _ _) _) HS⟩
  ·replace m:iQ s.queue 100=false:=by simpa using m
   have g:=fS (xI m);go_enter Tryz.func71,Tryz.ntmps71;go_wp2;refine gV (fun w' =>Below (w.alloc (.cells #[.slice A s.states.length d,vq,vo] 51)).heap.size (w.alloc (.cells #[.slice A s.states.length d,vq,vo] 51)) w') [tT 0,tT 1,tT 2,tT 3,tT 4,tT 5,tT 6,tF 7,tF 8,tT 9,tT 10,tT 11,tT 12,tT 13,tF 14,tT 15,tT 16] gY gY qP ?_;have HS:=(gM (w.alloc (.cells #[.slice A s.states.length d,vq,vo] 51)).heap.size (w.alloc (.cells #[.slice A s.states.length d,vq,vo] 51))).drew
   iterate 7 refine jJ ?_
   refine gU (by rfl) (by rfl) (fun K hK=>?_);go_simp;refine(lD _).mono ?_;rintro e j ⟨rfl,rfl⟩;refine hK _ _ (Or.inr HS) ?_;clear hK K;refine gU (by rfl) (by rfl) (fun K hK=>?_);go_simp;refine(lN _ s.queue _ F _ ((hq.alloc _).below HS)).mono ?_;rintro e j ⟨f,b⟩;rw[m] at f;subst f;have a:=gK HS b;refine hK _ _ (Or.inr a) ?_;clear hK K HS;have HS:=a;clear a
   iterate 5 refine jJ ?_
   refine iN (by rfl) (by rfl) (fun K hK=>?_);go_simp;refine hK _ _ (Or.inr HS) ?_;clear hK K
   iterate 2 refine jJ ?_
   simp only[iG];go_wp2;go_ret;exact⟨by rw[g.out];rfl,gK (gs (gM _ _) _) HS⟩
 ·have g:=fS (rW q1)
  have B:((s.states.length:Int) !=4)=true:=by simp;omega
  clear q1;go_enter Tryz.func71,Tryz.ntmps71;go_wp2;refine gV (fun w' =>Below (w.alloc (.cells #[.slice A s.states.length d,vq,vo] 51)).heap.size (w.alloc (.cells #[.slice A s.states.length d,vq,vo] 51)) w') [tT 0,tT 1,tT 2,tT 3,tT 4,tT 5,tT 6,tF 7,tF 8,tT 9,tT 10,tT 11,tT 12,tT 13,tF 14,tT 15,tT 16] gY gY qP ?_;have HS:=(gM (w.alloc (.cells #[.slice A s.states.length d,vq,vo] 51)).heap.size (w.alloc (.cells #[.slice A s.states.length d,vq,vo] 51))).drew
  iterate 7 refine jJ ?_
  refine iN (by rfl) (by rfl) (fun K hK=>?_);go_simp;refine hK _ _ (Or.inr HS) ?_;clear hK K;refine iN (by rfl) (by rfl) (fun K hK=>?_);go_simp;refine hK _ _ (Or.inr HS) ?_;clear hK K
  iterate 5 refine jJ ?_
  refine iN (by rfl) (by rfl) (fun K hK=>?_);go_simp;refine hK _ _ (Or.inr HS) ?_;clear hK K
  iterate 2 refine jJ ?_
  simp only[iG];go_wp2;go_ret;exact⟨by rw[g.out];rfl,gK (gs (gM _ _) _) HS⟩
end Go.Proofs.YtlndjfflhegkdaaGreatDoor
