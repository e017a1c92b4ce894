/- Parts of the proof: Ok1. -/
import Derived.IntWalk
import Derived.Test.YtlndjfflhegkdaaGreatDoorQ01
import Derived.Test.YtlndjfflhegkdaaGreatDoorQ02
set_option linter.unusedVariables false
set_option linter.unusedSimpArgs false
set_option linter.unusedSectionVars false
set_option maxHeartbeats 4000000
set_option maxRecDepth 100000
namespace Go.Proofs.YtlndjfflhegkdaaGreatDoor
open Go.RowKit
theorem kY (d:Int) {l:List lJ} {k:Nat} (h:k<l.length):mL d (l.take (k+1))=mL d (l.take k)+if l[k].d=d then 1 else 0:=by
 rw[vX h];unfold mL;rw[List.filter_append,List.length_append];by_cases e:l[k].d=d<;>simp[e]
theorem xh (d:Int) (l:List lJ) (k:Nat):mL d (l.take k)≤k:=by
 unfold mL;exact ly (List.length_filter_le _ _) (List.length_take_le _ _)
theorem ir {α:Type} {p:α→Bool} {l:List α} {k:Nat} (h:k<l.length) (ha:(l.take k).all p=true) (hp:p l[k]=true):(l.take (k+1)).all p=true:=by
 rw[vX h,List.all_append,ha];simpa using hp
theorem ig {α:Type} {p:α→Bool} {l:List α} {k:Nat} (h:k<l.length) (hp:p l[k]=false):l.all p=false:=by
 rw[Bool.eq_false_iff];intro ha;have:=List.all_eq_true.1 ha l[k] (List.getElem_mem h);rw[hp] at this;cases this
theorem o7 (kd:Int) (v:Value) (ops:List lJ) (F:Nat→Prop) (w:World) (h:Rd qG w F v ops):
  Calls Tryz.prog 56 #[.agg #[kd,v]] w fun e w' =>e= .returned (.bool (mG ops))∧Below w.heap.size w w':=by
 obtain⟨A,y,rfl,-,G,-⟩:=id h;go_enter Tryz.func56,Tryz.ntmps56;go_wp2
 go_loopw [3,4,5] (fun s o i wr=>∃k:Nat,i= .int .i64 k∧k≤ops.length∧s= .int .i64 (mL 6 (ops.take k):Nat)∧o= .int .i64 (mL 7 (ops.take k):Nat)∧Hid ((ops.take k).all kg=true)∧Below (w.heap.size+1) (w.alloc (.cells #[kd,.slice A ops.length y] 118)) wr) (fun _ _ i _=>ops.length-(intOf i).toNat)
 case atStart=>exact⟨0,rfl,j8 _,rfl,rfl,rfl,gM _ _⟩
 case round=>
  obtain⟨k,rfl,R,rfl,rfl,m,g⟩:=hrel;have I:wr.cell? ⟨w.heap.size,1,none⟩=some (.slice A ops.length y):=by rw[g.cell sm];simp
  by_cases hlt:k<ops.length
  ·have E:Rd qG wr F (.slice A ops.length y) ops:=(h.below (gs (gM _ _) _)).below (by simpa using g)
   obtain⟨Q,U,rfl,H,J,L,M,O,P⟩:=uH E k hlt;have p:w.heap.size<wr.heap.size:=by have:=g.size;simp at this;omega
   have S:=xh 6 ops k;have T:=xh 7 ops k;by_cases n:kg ops[k]=true
   ·have hop':kg ⟨ops[k].d,ops[k].a,ops[k].b,ops[k].c,ops[k].e⟩=true:=n
    clear n;have x:=fS (ir hlt m.out hop');by_cases d6:ops[k].d=6
    ·have j:mL 6 (ops.take (k+1))=mL 6 (ops.take k)+1:=by rw[kY 6 hlt,if_pos d6]
     have l:mL 7 (ops.take (k+1))=mL 7 (ops.take k):=by rw[kY 7 hlt,if_neg fT];rfl
     have q:=fS j;have r:=fS l;clear j l;have B:(ops[k].d==6)=true:=by simpa using d6
     have C:(ops[k].d==7)=false:=by simp[d6]
     clear d6;go_wp2_with (go_at_call 105;refine(rM _ _ _ _ _ _).mono ?_;rintro e z ⟨rfl,f⟩;obtain⟨kc,kf⟩:=j9 f);go_roundw
     case rel=>exact⟨k+1,by go_num,fT,by rw[q.out];go_num,by rw[r.out],x,fU g f p⟩
     case measure=>exact ms
    ·by_cases d7:ops[k].d=7
     ·have j:mL 6 (ops.take (k+1))=mL 6 (ops.take k):=by rw[kY 6 hlt,if_neg d6];rfl
      have l:mL 7 (ops.take (k+1))=mL 7 (ops.take k)+1:=by rw[kY 7 hlt,if_pos d7]
      have q:=fS j;have r:=fS l;clear j l;have B:(ops[k].d==6)=false:=by simpa using d6
      have C:(ops[k].d==7)=true:=by simp[d7]
      clear d6 d7;go_wp2_with (go_at_call 105;refine(rM _ _ _ _ _ _).mono ?_;rintro e z ⟨rfl,f⟩;obtain⟨kc,kf⟩:=j9 f);go_roundw
      case rel=>exact⟨k+1,by go_num,fT,by rw[q.out],by rw[r.out];go_num,x,fU g f p⟩
      case measure=>exact ms
     ·have j:mL 6 (ops.take (k+1))=mL 6 (ops.take k):=by rw[kY 6 hlt,if_neg d6];rfl
      have l:mL 7 (ops.take (k+1))=mL 7 (ops.take k):=by rw[kY 7 hlt,if_neg d7];rfl
      have q:=fS j;have r:=fS l;clear j l;have B:(ops[k].d==6)=false:=by simpa using d6
      have C:(ops[k].d==7)=false:=by simpa using d7
      clear d6 d7;go_wp2_with (go_at_call 105;refine(rM _ _ _ _ _ _).mono ?_;rintro e z ⟨rfl,f⟩;obtain⟨kc,kf⟩:=j9 f);go_roundw
      case rel=>exact⟨k+1,by go_num,fT,by rw[q.out],by rw[r.out],x,fU g f p⟩
      case measure=>exact ms
   ·have hop':kg ⟨ops[k].d,ops[k].a,ops[k].b,ops[k].c,ops[k].e⟩=false:=by simpa using n
    clear n;have t:mG ops=false:=by simp[mG,ig hlt hop']
    have u:=fS t;clear t;go_wp2_with (go_at_call 105;refine(rM _ _ _ _ _ _).mono ?_;rintro e z ⟨rfl,f⟩;obtain⟨kc,kf⟩:=j9 f);go_ret;exact⟨by rw[u.out];rfl,((gM _ _).alloc (jn _) _).trans ((fU g f p).mono sm)⟩
  ·have D:k=ops.length:=fT
   subst D;have hall':=m.out;rw[li] at hall';have t:mG ops=(decide (ops.length≤8)&&(decide (mL 6 ops≤2)&&decide (mL 7 ops≤2))):=by simp[mG,hall',Bool.and_assoc]
   have u:=fS t;clear t hall' m;simp only[li];by_cases q1:ops.length≤8<;>by_cases q2:mL 6 ops≤2<;>by_cases q3:mL 7 ops≤2
   all_goals
    go_wp2;go_ret;exact⟨by rw[u.out];(simp[q1,q2,q3])<;>omega,((gM _ _).alloc (jn _) _).trans (g.mono sm)⟩
theorem nb {l:List jL} {k:Nat} (h:k<l.length):mz (l.take (k+1))=(mz (l.take k)&&(if k=0 then true else decide ((l[k-1]'fT).kind<l[k].kind))):=by
 rw[vX h,wm]
 congr 1
 cases k with
 |zero=>simp
 |succ k=>
  have a:k<l.length:=fT;rw[vX a,List.getLast?_concat];simp
theorem wn {l:List jL} {k:Nat} (h:mz (l.take k)=false):mz l=false:=by
 have c:∀(m:List jL) (n:List jL),mz m=false→mz (m++n)=false:=by
  intro m n
  induction n generalizing m with
  |nil=>intro b;simpa using b
  |cons a n ih=>intro b;rw[show m++a::n=(m++[a])++n by simp];exact ih _ (by rw[wm,b];rfl)
 have:=c (l.take k) (l.drop k) h
 rwa [List.take_append_drop] at this
theorem lH (v:Value) (apps:List iy) (F:Nat→Prop) (w:World) (h:Rd me w F v apps):
  Calls Tryz.prog 32 #[v] w fun e w' =>e= .returned (.bool (io apps))∧Below w.heap.size w w':=by
 obtain⟨A,P,rfl,-,U,-⟩:=id h;by_cases u:apps.length=4
 ·have G:(((apps.length:Nat):Int) !=4)=false:=by simp[u]
  have O:=fS u;have h4':apps.length≤4:=fT;clear u;go_enter Tryz.func32,Tryz.ntmps32;go_wp2
  go_loopw [3] (fun i wr=>∃i':Nat,i= .int .i64 i'∧i'≤apps.length∧Hid ((apps.take i').all je=true)∧Below w.heap.size w wr) (fun i _=>apps.length-(intOf i).toNat)
  case atStart=>exact⟨0,rfl,j8 _,rfl,gM _ _⟩
  case round=>
   obtain⟨i,rfl,hi,r,d⟩:=hrel;by_cases hlt:i<apps.length
   ·have M:Rd me wr F (.slice A apps.length P) apps:=h.below d
    obtain⟨b0,o0,Z,c1,rfl,R,a0,C⟩:=oV M i hlt;obtain⟨-,-,Y⟩:=C.len_;by_cases hr4:apps[i].rules.length≤4
    ·have H:decide ((apps[i].rules.length:Int)>4)=false:=by simp;omega
     go_wp2;obtain⟨x,D⟩:∃x,x=wr:=⟨_,rfl⟩
     go_loopw [5] (fun k V=>∃k':Nat,k= .int .i64 k'∧k'≤apps[i].rules.length∧Hid ((apps[i].rules.take k').all kV=true)∧Hid (mz (apps[i].rules.take k')=true)∧Below x.heap.size x V) (fun k _=>apps[i].rules.length-(intOf k).toNat)
     case atStart=>subst D;exact⟨0,rfl,j8 _,rfl,rfl,gM _ _⟩
     case round=>
      obtain⟨k,rfl,hk,y,n,l⟩:=hrel;subst D;by_cases hkl:k<apps[i].rules.length
      ·have B:=C.below l
       obtain⟨b1,o1,A2,c2,E,S,k0,k1,o⟩:=mv B k hkl;subst E;by_cases m:ib apps[i].rules[k].kind 0 3=true
       ·by_cases p:mG apps[i].rules[k].ops=true
        ·have s:kV apps[i].rules[k]=true:=by simp[kV,m,p]
         have t:=fS (ir hkl y.out s);clear s;by_cases q3:k=0
         ·have as':=fS (show mz (apps[i].rules.take (k+1))=true by rw[nb hkl,n.out,if_pos q3];rfl)
          have J:decide ((k:Int)>0)=false:=by simp;omega
          have L:decide (0<k)=false:=by simp;omega
          clear q3;go_wp2;refine gV (fun w' =>Below wr.heap.size wr w') [tT 0,tT 1,tT 2,tT 3,tT 4,tF 5,tT 6,tT 7,tT 8,tT 9,tT 10,tT 11,tF 12,tT 13,tT 14,tT 15,tT 16,tT 17,tT 18,tT 19,tT 20,tT 21,tT 22,tT 23,tT 24,tT 25,tT 26,tT 27,tT 28,tT 29,tT 30,tT 31,tT 32] gY gY qP ?_;have HS:=(gM wr.heap.size wr).drew
          iterate 5 refine jJ ?_
          refine gU (by rfl) (by rfl) (fun K hK=>?_);go_simp;refine(ii _ _ _ _).mono ?_;rintro e g ⟨a,rfl⟩;rw[m] at a;subst a;refine hK _ _ (Or.inr HS) ?_;clear hK K
          iterate 6 refine jJ ?_
          refine gU (by rfl) (by rfl) (fun K hK=>?_);go_simp;refine(o7 _ _ _ F _ (o.below HS)).mono ?_;rintro e g ⟨a,f⟩;rw[p] at a;subst a;have b:=gK HS f;refine hK _ _ (Or.inr b) ?_;clear hK K HS;have HS:=b;clear b
          iterate 20 refine jJ ?_
          simp only[iG];go_wp2;go_roundw
          case rel=>exact⟨k+1,by go_num,fT,t,as',gK l HS⟩
          case measure=>exact ms
         ·have X:0<k:=fT
          have J:decide ((k:Int)>0)=true:=by simp;omega
          have L:decide (0<k)=true:=by simp;omega
          obtain⟨b2,o2,A3,c3,q,T,z0,z1,-⟩:=mv B (k-1) fT;injection q with q;injection q with e1 e2 _;subst e1 e2;have W:((k:Int)-1).toNat=k-1:=fT;have p1:(0:Int)≤(k:Int)-1:=fT;have p2:(k:Int)-1<(apps[i].rules.length:Int):=fT;have p3:(1:Int)≤(k:Int):=fT;have p4:1≤k:=fT;have p5:IntKind.i64.wrap ((k:Int)-1)=(k:Int)-1:=IntWalk.i64_in _ fT;clear q3;by_cases q4:(apps[i].rules[k-1]'fT).kind<apps[i].rules[k].kind
          ·have as':=fS (show mz (apps[i].rules.take (k+1))=true by rw[nb hkl,n.out,if_neg fT];simpa using q4)
           have hq:decide (apps[i].rules[k].kind≤(apps[i].rules[k-1]'fT).kind)=false:=by simp;omega
           go_wp2;refine gV (fun w' =>Below wr.heap.size wr w') [tT 0,tT 1,tT 2,tT 3,tT 4,tF 5,tT 6,tT 7,tT 8,tT 9,tT 10,tT 11,tF 12,tT 13,tT 14,tT 15,tT 16,tT 17,tT 18,tT 19,tT 20,tT 21,tT 22,tT 23,tT 24,tT 25,tT 26,tT 27,tT 28,tT 29,tT 30,tT 31,tT 32] gY gY qP ?_;have HS:=(gM wr.heap.size wr).drew
           iterate 5 refine jJ ?_
           refine gU (by rfl) (by rfl) (fun K hK=>?_);go_simp;refine(ii _ _ _ _).mono ?_;rintro e g ⟨a,rfl⟩;rw[m] at a;subst a;refine hK _ _ (Or.inr HS) ?_;clear hK K
           iterate 6 refine jJ ?_
           refine gU (by rfl) (by rfl) (fun K hK=>?_);go_simp;refine(o7 _ _ _ F _ (o.below HS)).mono ?_;rintro e g ⟨a,f⟩;rw[p] at a;subst a;have b:=gK HS f;refine hK _ _ (Or.inr b) ?_;clear hK K HS;have HS:=b;clear b
           iterate 20 refine jJ ?_
           simp only[iG];go_wp2;go_roundw
           case rel=>exact⟨k+1,by go_num,fT,t,as',gK l HS⟩
           case measure=>exact ms
          ·have c:io apps=false:=by
            have Q:mz (apps[i].rules.take (k+1))=false:=by rw[nb hkl,n.out,if_neg fT];simpa using q4
            simp[io,ig hlt (show je apps[i]=false by simp[je,wn Q])]
           have j:=fS c;clear c;have hq:decide (apps[i].rules[k].kind≤(apps[i].rules[k-1]'fT).kind)=true:=by simp;omega
           go_wp2;refine gV (fun w' =>Below wr.heap.size wr w') [tT 0,tT 1,tT 2,tT 3,tT 4,tF 5,tT 6,tT 7,tT 8,tT 9,tT 10,tT 11,tF 12,tT 13,tT 14,tT 15,tT 16,tT 17,tT 18,tT 19,tT 20,tT 21,tT 22,tT 23,tT 24,tT 25,tT 26,tT 27,tT 28,tT 29,tT 30,tT 31,tT 32] gY gY qP ?_;have HS:=(gM wr.heap.size wr).drew
           iterate 5 refine jJ ?_
           refine gU (by rfl) (by rfl) (fun K hK=>?_);go_simp;refine(ii _ _ _ _).mono ?_;rintro e g ⟨a,rfl⟩;rw[m] at a;subst a;refine hK _ _ (Or.inr HS) ?_;clear hK K
           iterate 6 refine jJ ?_
           refine gU (by rfl) (by rfl) (fun K hK=>?_);go_simp;refine(o7 _ _ _ F _ (o.below HS)).mono ?_;rintro e g ⟨a,f⟩;rw[p] at a;subst a;have b:=gK HS f;refine hK _ _ (Or.inr b) ?_;clear hK K HS;have HS:=b;clear b
           iterate 20 refine jJ ?_
           simp only[iG];go_wp2;go_ret;exact⟨by rw[j.out];rfl,gK d (gK l HS)⟩
        ·have q2':mG apps[i].rules[k].ops=false:=by simpa using p
         clear p;have c:io apps=false:=by
          simp[io,ig hlt (show je apps[i]=false by simp[je,ig hkl (show kV apps[i].rules[k]=false by simp[kV,q2'])])]
         have j:=fS c;clear c;go_wp2;refine gV (fun w' =>Below wr.heap.size wr w') [tT 0,tT 1,tT 2,tT 3,tT 4,tF 5,tT 6,tT 7,tT 8,tT 9,tT 10,tT 11,tF 12,tT 13,tT 14,tT 15,tT 16,tT 17,tT 18,tT 19,tT 20,tT 21,tT 22,tT 23,tT 24,tT 25,tT 26,tT 27,tT 28,tT 29,tT 30,tT 31,tT 32] gY gY qP ?_;have HS:=(gM wr.heap.size wr).drew
         iterate 5 refine jJ ?_
         refine gU (by rfl) (by rfl) (fun K hK=>?_);go_simp;refine(ii _ _ _ _).mono ?_;rintro e g ⟨a,rfl⟩;rw[m] at a;subst a;refine hK _ _ (Or.inr HS) ?_;clear hK K
         iterate 6 refine jJ ?_
         refine gU (by rfl) (by rfl) (fun K hK=>?_);go_simp;refine(o7 _ _ _ F _ (o.below HS)).mono ?_;rintro e g ⟨a,f⟩;rw[q2'] at a;subst a;have b:=gK HS f;refine hK _ _ (Or.inr b) ?_;clear hK K HS;have HS:=b;clear b
         iterate 20 refine jJ ?_
         simp only[iG];go_wp2;go_ret;exact⟨by rw[j.out];rfl,gK d (gK l HS)⟩
       ·have q1':ib apps[i].rules[k].kind 0 3=false:=by simpa using m
        clear m;have c:io apps=false:=by
         simp[io,ig hlt (show je apps[i]=false by simp[je,ig hkl (show kV apps[i].rules[k]=false by simp[kV,q1'])])]
        have j:=fS c;clear c;go_wp2;refine gV (fun w' =>Below wr.heap.size wr w') [tT 0,tT 1,tT 2,tT 3,tT 4,tF 5,tT 6,tT 7,tT 8,tT 9,tT 10,tT 11,tF 12,tT 13,tT 14,tT 15,tT 16,tT 17,tT 18,tT 19,tT 20,tT 21,tT 22,tT 23,tT 24,tT 25,tT 26,tT 27,tT 28,tT 29,tT 30,tT 31,tT 32] gY gY qP ?_;have HS:=(gM wr.heap.size wr).drew
        iterate 5 refine jJ ?_
        refine gU (by rfl) (by rfl) (fun K hK=>?_);go_simp;refine(ii _ _ _ _).mono ?_;rintro e g ⟨a,rfl⟩;rw[q1'] at a;subst a;refine hK _ _ (Or.inr HS) ?_;clear hK K
        iterate 6 refine jJ ?_
        refine iN (by rfl) (by rfl) (fun K hK=>?_);go_simp;refine hK _ _ (Or.inr HS) ?_;clear hK K
        iterate 20 refine jJ ?_
        simp only[iG];go_wp2;go_ret;exact⟨by rw[j.out];rfl,gK d (gK l HS)⟩
      ·have z:k=apps[i].rules.length:=fT
       have hal':=y.out;have has':=n.out;rw[z,li] at hal' has';have t:=fS (ir hlt r.out (show je apps[i]=true by simp[je,hal',has',hr4]));clear hal' has' z;go_wp2;go_roundw
       case rel=>exact⟨i+1,by go_num,fT,t,gK d l⟩
       case measure=>exact ms
    ·have H:decide ((apps[i].rules.length:Int)>4)=true:=by simp;omega
     have c:io apps=false:=by
      simp[io,ig hlt (show je apps[i]=false by simp[je,hr4])]
     have j:=fS c;clear c;go_wp2;go_ret;exact⟨by rw[j.out];rfl,d⟩
   ·have I:i=apps.length:=fT
    have hall':=r.out;rw[I,li] at hall';have c:io apps=true:=by simp only[io,O.out,hall'];rfl
    go_wp2;go_ret;exact⟨by rw[c];rfl,d⟩
 ·have G:(((apps.length:Nat):Int) !=4)=true:=by simp;omega
  have c:io apps=false:=by simp[io,u]
  go_enter Tryz.func32,Tryz.ntmps32;go_wp2;go_ret;exact⟨by rw[c];rfl,gM _ _⟩
end Go.Proofs.YtlndjfflhegkdaaGreatDoor
