/- Parts of the proof: Ok3. -/
import Derived.Test.YtlndjfflhegkdaaGreatDoorQ04
import Derived.Test.YtlndjfflhegkdaaGreatDoorQ05
set_option linter.unusedVariables false
set_option linter.unusedSimpArgs false
set_option linter.unusedSectionVars false
set_option maxHeartbeats 4000000
set_option maxRecDepth 100000
namespace Go.Proofs.YtlndjfflhegkdaaGreatDoor
open Go.RowKit
theorem rV (kd:Int) (v:Value) (ops:List lJ) (F:Nat→Prop) (w:World) (h:Rd qG w F v ops):
  Calls Tryz.prog 125 #[.agg #[kd,v]] w fun e w' =>e= .returned (.bool (kV ⟨kd,ops⟩))∧Below w.heap.size w w':=by
 obtain⟨A,x,rfl,-,M,-⟩:=id h;go_enter Tryz.func125,Tryz.ntmps125;go_wp2
 go_loopw [3,4,10] (fun s o i wr=>∃k:Nat,i= .int .i64 k∧k≤ops.length∧s= .int .i64 (mL 6 (ops.take k):Nat)∧o= .int .i64 (mL 7 (ops.take k):Nat)∧Hid ((ops.take k).all kg=true)∧Below (w.heap.size+1) (w.alloc (.cells #[kd,.slice A ops.length x] 118)) wr) (fun _ _ i _=>ops.length-(intOf i).toNat)
 case atStart=>exact⟨0,rfl,j8 _,rfl,rfl,rfl,gM _ _⟩
 case round=>
  obtain⟨k,rfl,X,rfl,rfl,m,g⟩:=hrel;have P:wr.cell? ⟨w.heap.size,1,none⟩=some (.slice A ops.length x):=by rw[g.cell sm];simp
  have Q:wr.cell? ⟨w.heap.size,0,none⟩=some (.int .i64 kd):=by rw[g.cell sm];simp
  have p:w.heap.size<wr.heap.size:=by have:=g.size;simp at this;omega
  by_cases hlt:k<ops.length
  ·have H:Rd qG wr F (.slice A ops.length x) ops:=(h.below (gs (gM _ _) _)).below (by simpa using g)
   obtain⟨W,o0,rfl,O,R,S,T,U,V⟩:=uH H k hlt;have Y:=xh 6 ops k;have Z:=xh 7 ops k;by_cases n:kg ops[k]=true
   ·have hop':kg ⟨ops[k].d,ops[k].a,ops[k].b,ops[k].c,ops[k].e⟩=true:=n
    clear n;have C:=fS (ir hlt m.out hop');by_cases d6:ops[k].d=6
    ·have j:mL 6 (ops.take (k+1))=mL 6 (ops.take k)+1:=by rw[kY 6 hlt,if_pos d6]
     have l:mL 7 (ops.take (k+1))=mL 7 (ops.take k):=by rw[kY 7 hlt,if_neg fT];rfl
     have q:=fS j;have r:=fS l;clear j l;have D:(ops[k].d==6)=true:=by simpa using d6
     have E:(ops[k].d==7)=false:=by simp[d6]
     clear d6;go_wp2_with (go_at_call 162;refine(xw _ _ _ _ _ _).mono ?_;rintro e u ⟨rfl,f⟩;obtain⟨kc,kf⟩:=j9 f);go_roundw
     case rel=>exact⟨k+1,by go_num,fT,by rw[q.out];go_num,by rw[r.out],C,fU g (gK (gs (gM _ _) _) f) p⟩
     case measure=>exact ms
    ·by_cases d7:ops[k].d=7
     ·have j:mL 6 (ops.take (k+1))=mL 6 (ops.take k):=by rw[kY 6 hlt,if_neg d6];rfl
      have l:mL 7 (ops.take (k+1))=mL 7 (ops.take k)+1:=by rw[kY 7 hlt,if_pos d7]
      have q:=fS j;have r:=fS l;clear j l;have D:(ops[k].d==6)=false:=by simpa using d6
      have E:(ops[k].d==7)=true:=by simp[d7]
      clear d6 d7;go_wp2_with (go_at_call 162;refine(xw _ _ _ _ _ _).mono ?_;rintro e u ⟨rfl,f⟩;obtain⟨kc,kf⟩:=j9 f);go_roundw
      case rel=>exact⟨k+1,by go_num,fT,by rw[q.out],by rw[r.out];go_num,C,fU g (gK (gs (gM _ _) _) f) p⟩
      case measure=>exact ms
     ·have j:mL 6 (ops.take (k+1))=mL 6 (ops.take k):=by rw[kY 6 hlt,if_neg d6];rfl
      have l:mL 7 (ops.take (k+1))=mL 7 (ops.take k):=by rw[kY 7 hlt,if_neg d7];rfl
      have q:=fS j;have r:=fS l;clear j l;have D:(ops[k].d==6)=false:=by simpa using d6
      have E:(ops[k].d==7)=false:=by simpa using d7
      clear d6 d7;go_wp2_with (go_at_call 162;refine(xw _ _ _ _ _ _).mono ?_;rintro e u ⟨rfl,f⟩;obtain⟨kc,kf⟩:=j9 f);go_roundw
      case rel=>exact⟨k+1,by go_num,fT,by rw[q.out],by rw[r.out],C,fU g (gK (gs (gM _ _) _) f) p⟩
      case measure=>exact ms
   ·have hop':kg ⟨ops[k].d,ops[k].a,ops[k].b,ops[k].c,ops[k].e⟩=false:=by simpa using n
    clear n;have t:kV ⟨kd,ops⟩=false:=by simp[kV,mG,ig hlt hop']
    have z:=fS t;clear t;go_wp2_with (go_at_call 162;refine(xw _ _ _ _ _ _).mono ?_;rintro e u ⟨rfl,f⟩;obtain⟨kc,kf⟩:=j9 f);go_ret;exact⟨by rw[z.out];rfl,((gM _ _).alloc (jn _) _).trans ((fU g (gK (gs (gM _ _) _) f) p).mono sm)⟩
  ·have G:k=ops.length:=fT
   subst G;have hall':=m.out;rw[li] at hall';have t:kV ⟨kd,ops⟩=(ib kd 0 3&&(decide (ops.length≤8)&&(decide (mL 6 ops≤2)&&decide (mL 7 ops≤2)))):=by simp[kV,mG,hall',Bool.and_assoc]
   have z:=fS t;clear t hall' m;simp only[li];have y:∀e B,e=Ending.returned (.bool (ib kd 0 3&&(decide (ops.length≤8)&&(decide (mL 6 ops≤2)&&decide (mL 7 ops≤2)))))→Below (w.heap.size+1) (w.alloc (.cells #[kd,.slice A ops.length x] 118)) B→e=Ending.returned (.bool (kV ⟨kd,ops⟩))∧Below w.heap.size w B:=
    fun e B L J=>⟨by rw[L,z.out],((gM _ _).alloc (jn _) _).trans (J.mono sm)⟩
   by_cases I:ib kd 0 3=true
   ·by_cases q1:ops.length≤8<;>by_cases q2:mL 6 ops≤2<;>by_cases q3:mL 7 ops≤2
    all_goals
     go_wp2_with (go_at_call 163;refine(pP _ _).mono ?_;rintro e u ⟨rfl,rfl⟩);go_ret;exact y _ _ (by(simp[I,q1,q2,q3])<;>omega) g
   ·have q0':ib kd 0 3=false:=by simpa using I
    go_wp2_with (go_at_call 163;refine(pP _ _).mono ?_;rintro e u ⟨rfl,rfl⟩);go_ret;exact y _ _ (by simp[q0']) g
theorem xe (v:Value) (a:iy) (F:Nat→Prop) (w:World) (h:Rd kT w F v a.rules):
  Calls Tryz.prog 88 #[.agg #[v]] w fun e w' =>e= .returned (.bool (je a))∧Below w.heap.size w w':=by
 obtain⟨A,u,rfl,-,E,-⟩:=id h;obtain⟨b⟩:=a;simp only at h E ⊢;by_cases h4:b.length≤4
 ·have J:decide (((b.length:Nat):Int)>4)=false:=by simp;omega
  go_enter Tryz.func88,Tryz.ntmps88;go_wp2
  go_loopw [12] (fun i wr=>∃k:Nat,i= .int .i64 k∧k≤b.length∧Hid ((b.take k).all kV=true)∧Hid (mz (b.take k)=true)∧Below (w.heap.size+1) (w.alloc (.cells #[.slice A b.length u] 96)) wr) (fun i _=>b.length-(intOf i).toNat)
  case atStart=>exact⟨0,rfl,j8 _,rfl,rfl,gM _ _⟩
  case round=>
   obtain⟨k,rfl,hk,y,o,m⟩:=hrel;have L:wr.cell? ⟨w.heap.size,0,none⟩=some (.slice A b.length u):=by rw[m.cell sm];simp
   have n:w.heap.size<wr.heap.size:=by have:=m.size;simp at this;omega
   by_cases hkl:k<b.length
   ·have B:Rd kT wr F (.slice A b.length u) b:=(h.below (gs (gM _ _) _)).below (by simpa using m)
    obtain⟨C,P,d,f,I,D,k0,k1,t⟩:=mv B k hkl;subst I;have T:(wr.alloc (.cells #[b[k].kind,.slice d b[k].ops.length f] 118)).cell? ⟨w.heap.size,0,none⟩=some (.slice (some ⟨C,P,none⟩) b.length u):=by rw[(gs (gM _ _) _).cell n];exact L
    have p:=t.below (gs (gM wr.heap.size wr) (.cells #[b[k].kind,.slice d b[k].ops.length f] 118));clear t;have W:w.heap.size<wr.heap.size+1:=fT;have X:C<wr.heap.size+1:=fT;have x:(⟨b[k].kind,b[k].ops⟩:jL)=b[k]:=rfl;by_cases q:kV ⟨b[k].kind,b[k].ops⟩=true
    ·have H:=fS (ir hkl y.out q)
     clear x;by_cases q3:k=0
     ·have as':=fS (show mz (b.take (k+1))=true by rw[nb hkl,o.out,if_pos q3];rfl)
      have M:decide ((k:Int)>0)=false:=by simp;omega
      have O:decide (0<k)=false:=by simp;omega
      clear q3;go_wp2;refine gV (fun w' =>Below (wr.alloc (.cells #[b[k].kind,.slice d b[k].ops.length f] 118)).heap.size (wr.alloc (.cells #[b[k].kind,.slice d b[k].ops.length f] 118)) w') [tT 0,tF 1,tT 2,tT 3,tT 4,tT 5,tT 6,tT 7,tT 8,tT 9,tT 10,tT 11,tT 12,tT 13,tT 14,tT 15,tT 16,tT 17,tT 18] gY gY qP ?_;have HS:=(gM (wr.alloc (.cells #[b[k].kind,.slice d b[k].ops.length f] 118)).heap.size (wr.alloc (.cells #[b[k].kind,.slice d b[k].ops.length f] 118))).drew
      iterate 1 refine jJ ?_
      refine gU (by rfl) (by rfl) (fun K hK=>?_);go_simp;refine(rV _ _ _ F _ (p.below HS)).mono ?_;rintro e G ⟨j,g⟩;rw[q] at j;subst j;have c:=gK HS g;refine hK _ _ (Or.inr c) ?_;clear hK K HS;have HS:=c;clear c
      iterate 17 refine jJ ?_
      simp only[iG];go_wp2;go_roundw
      case rel=>exact⟨k+1,by go_num,fT,H,as',fU m (gK (gs (gM _ _) _) HS) n⟩
      case measure=>exact ms
     ·have V:0<k:=fT
      have M:decide ((k:Int)>0)=true:=by simp;omega
      have O:decide (0<k)=true:=by simp;omega
      obtain⟨Z,o2,Y,c3,s,R,S,z1,-⟩:=mv B (k-1) fT;injection s with s;injection s with e1 e2 _;subst e1 e2;have z0':(wr.alloc (.cells #[b[k].kind,.slice d b[k].ops.length f] 118)).cell? ⟨C,P+(k-1)*2,none⟩=some (.int .i64 (b[k-1]'fT).kind):=by rw[(gs (gM _ _) _).cell D];exact S
      have U:((k:Int)-1).toNat=k-1:=fT;have p1:(0:Int)≤(k:Int)-1:=fT;have p2:(k:Int)-1<(b.length:Int):=fT;have p3:(1:Int)≤(k:Int):=fT;have p4:1≤k:=fT;have p5:IntKind.i64.wrap ((k:Int)-1)=(k:Int)-1:=IntWalk.i64_in _ fT;clear q3;by_cases q4:(b[k-1]'fT).kind<b[k].kind
      ·have as':=fS (show mz (b.take (k+1))=true by rw[nb hkl,o.out,if_neg fT];simpa using q4)
       have hq:decide (b[k].kind≤(b[k-1]'fT).kind)=false:=by simp;omega
       go_wp2;refine gV (fun w' =>Below (wr.alloc (.cells #[b[k].kind,.slice d b[k].ops.length f] 118)).heap.size (wr.alloc (.cells #[b[k].kind,.slice d b[k].ops.length f] 118)) w') [tT 0,tF 1,tT 2,tT 3,tT 4,tT 5,tT 6,tT 7,tT 8,tT 9,tT 10,tT 11,tT 12,tT 13,tT 14,tT 15,tT 16,tT 17,tT 18] gY gY qP ?_;have HS:=(gM (wr.alloc (.cells #[b[k].kind,.slice d b[k].ops.length f] 118)).heap.size (wr.alloc (.cells #[b[k].kind,.slice d b[k].ops.length f] 118))).drew
       iterate 1 refine jJ ?_
       refine gU (by rfl) (by rfl) (fun K hK=>?_);go_simp;refine(rV _ _ _ F _ (p.below HS)).mono ?_;rintro e G ⟨j,g⟩;rw[q] at j;subst j;have c:=gK HS g;refine hK _ _ (Or.inr c) ?_;clear hK K HS;have HS:=c;clear c
       iterate 17 refine jJ ?_
       simp only[iG];go_wp2;go_roundw
       case rel=>exact⟨k+1,by go_num,fT,H,as',fU m (gK (gs (gM _ _) _) HS) n⟩
       case measure=>exact ms
      ·have l:je ⟨b⟩=false:=by
        have Q:mz (b.take (k+1))=false:=by rw[nb hkl,o.out,if_neg fT];simpa using q4
        simp[je,wn Q]
       have r:=fS l;clear l;have hq:decide (b[k].kind≤(b[k-1]'fT).kind)=true:=by simp;omega
       go_wp2;refine gV (fun w' =>Below (wr.alloc (.cells #[b[k].kind,.slice d b[k].ops.length f] 118)).heap.size (wr.alloc (.cells #[b[k].kind,.slice d b[k].ops.length f] 118)) w') [tT 0,tF 1,tT 2,tT 3,tT 4,tT 5,tT 6,tT 7,tT 8,tT 9,tT 10,tT 11,tT 12,tT 13,tT 14,tT 15,tT 16,tT 17,tT 18] gY gY qP ?_;have HS:=(gM (wr.alloc (.cells #[b[k].kind,.slice d b[k].ops.length f] 118)).heap.size (wr.alloc (.cells #[b[k].kind,.slice d b[k].ops.length f] 118))).drew
       iterate 1 refine jJ ?_
       refine gU (by rfl) (by rfl) (fun K hK=>?_);go_simp;refine(rV _ _ _ F _ (p.below HS)).mono ?_;rintro e G ⟨j,g⟩;rw[q] at j;subst j;have c:=gK HS g;refine hK _ _ (Or.inr c) ?_;clear hK K HS;have HS:=c;clear c
       iterate 17 refine jJ ?_
       simp only[iG];go_wp2;go_ret;exact⟨by rw[r.out];rfl,((gM _ _).alloc (jn _) _).trans ((fU m (gK (gs (gM _ _) _) HS) n).mono sm)⟩
    ·have q2':kV ⟨b[k].kind,b[k].ops⟩=false:=by simpa using q
     clear q;have l:je ⟨b⟩=false:=by
      simp[je,ig hkl q2']
     have r:=fS l;clear l x;go_wp2;refine gV (fun w' =>Below (wr.alloc (.cells #[b[k].kind,.slice d b[k].ops.length f] 118)).heap.size (wr.alloc (.cells #[b[k].kind,.slice d b[k].ops.length f] 118)) w') [tT 0,tF 1,tT 2,tT 3,tT 4,tT 5,tT 6,tT 7,tT 8,tT 9,tT 10,tT 11,tT 12,tT 13,tT 14,tT 15,tT 16,tT 17,tT 18] gY gY qP ?_;have HS:=(gM (wr.alloc (.cells #[b[k].kind,.slice d b[k].ops.length f] 118)).heap.size (wr.alloc (.cells #[b[k].kind,.slice d b[k].ops.length f] 118))).drew
     iterate 1 refine jJ ?_
     refine gU (by rfl) (by rfl) (fun K hK=>?_);go_simp;refine(rV _ _ _ F _ (p.below HS)).mono ?_;rintro e G ⟨j,g⟩;rw[q2'] at j;subst j;have c:=gK HS g;refine hK _ _ (Or.inr c) ?_;clear hK K HS;have HS:=c;clear c
     iterate 17 refine jJ ?_
     simp only[iG];go_wp2;go_ret;exact⟨by rw[r.out];rfl,((gM _ _).alloc (jn _) _).trans ((fU m (gK (gs (gM _ _) _) HS) n).mono sm)⟩
   ·have z:k=b.length:=fT
    have hal':=y.out;have has':=o.out;rw[z,li] at hal' has';have l:je ⟨b⟩=true:=by simp[je,hal',has',h4]
    have r:=fS l;clear l hal' has' z;go_wp2;go_ret;exact⟨by rw[r.out];rfl,((gM _ _).alloc (jn _) _).trans (m.mono sm)⟩
 ·have J:decide (((b.length:Nat):Int)>4)=true:=by simp;omega
  have l:je ⟨b⟩=false:=by simp[je,h4]
  go_enter Tryz.func88,Tryz.ntmps88;go_wp2;go_ret;exact⟨by rw[l];rfl,(gM _ _).alloc (jn _) _⟩
theorem tL (v:Value) (apps:List iy) (F:Nat→Prop) (w:World) (h:Rd me w F v apps):
  Calls Tryz.prog 44 #[v] w fun e w' =>e= .returned (.bool (io apps))∧Below w.heap.size w w':=by
 obtain⟨A,t,rfl,-,x,-⟩:=id h;by_cases f:apps.length=4
 ·have j:(((apps.length:Nat):Int) !=4)=false:=by simp[f]
  have o:=fS f;have h4':apps.length≤4:=fT;clear f;go_enter Tryz.func44,Tryz.ntmps44;go_wp2
  go_loopw [10] (fun i wr=>∃i':Nat,i= .int .i64 i'∧i'≤apps.length∧Hid ((apps.take i').all je=true)∧Below w.heap.size w wr) (fun i _=>apps.length-(intOf i).toNat)
  case atStart=>exact⟨0,rfl,j8 _,rfl,gM _ _⟩
  case round=>
   obtain⟨i,rfl,C,c,a⟩:=hrel;by_cases hlt:i<apps.length
   ·have l:Rd me wr F (.slice A apps.length t) apps:=h.below a
    obtain⟨B,D,n,s,rfl,u,z,m⟩:=oV l i hlt;have g:=m.below (gs (gM wr.heap.size wr) (.cells #[.slice n apps[i].rules.length s] 96));by_cases q:je apps[i]=true
    ·have r:=fS (ir hlt c.out q)
     go_wp2_with (go_at_call 88;refine(xe _ apps[i] F _ g).mono ?_;rintro e y ⟨rfl,d⟩);go_roundw
     case rel=>exact⟨i+1,by go_num,fT,r,gK a (gK (gs (gM _ _) _) d)⟩
     case measure=>exact ms
    ·have q':je apps[i]=false:=by simpa using q
     clear q;have b:io apps=false:=by simp[io,ig hlt q']
     have p:=fS b;clear b;go_wp2_with (go_at_call 88;refine(xe _ apps[i] F _ g).mono ?_;rintro e y ⟨rfl,d⟩);go_ret;exact⟨by rw[p.out];rfl,gK a (gK (gs (gM _ _) _) d)⟩
   ·have k:i=apps.length:=fT
    have hall':=c.out;rw[k,li] at hall';have b:io apps=true:=by simp only[io,o.out,hall'];rfl
    go_wp2;go_ret;exact⟨by rw[b];rfl,a⟩
 ·have j:(((apps.length:Nat):Int) !=4)=true:=by simp;omega
  have b:io apps=false:=by simp[io,f]
  go_enter Tryz.func44,Tryz.ntmps44;go_wp2;go_ret;exact⟨by rw[b];rfl,gM _ _⟩
end Go.Proofs.YtlndjfflhegkdaaGreatDoor
