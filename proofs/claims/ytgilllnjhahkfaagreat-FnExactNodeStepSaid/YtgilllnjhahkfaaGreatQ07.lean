/- Parts of the proof: Ok3. -/
import Derived.Test.YtgilllnjhahkfaaGreatQ03
import Derived.Test.YtgilllnjhahkfaaGreatQ06
set_option linter.unusedVariables false
set_option linter.unusedSimpArgs false
set_option linter.unusedSectionVars false
set_option maxHeartbeats 4000000
set_option maxRecDepth 100000
namespace Go.Proofs.YtgilllnjhahkfaaGreat
open Go.RowKit
theorem sR (kd:Int) (v:Value) (ops:List mi) (F:Nat→Prop) (w:World) (h:Rd pO w F v ops):
  Calls Tryz.prog 154 #[.agg #[kd,v]] w fun e w' =>e= .returned (.bool (lj ⟨kd,ops⟩))∧Below w.heap.size w w':=by
 obtain⟨A,x,rfl,-,M,-⟩:=id h;go_enter Tryz.func154,Tryz.ntmps154;go_wp2
 go_loopw [3,4,10] (fun s o i wr=>∃k:Nat,i= .int .i64 k∧k≤ops.length∧s= .int .i64 (ni 6 (ops.take k):Nat)∧o= .int .i64 (ni 7 (ops.take k):Nat)∧Hid ((ops.take k).all kC=true)∧Below (w.heap.size+1) (w.alloc (.cells #[kd,.slice A ops.length x] 126)) wr) (fun _ _ i _=>ops.length-(intOf i).toNat)
 case atStart=>exact⟨0,rfl,jP _,rfl,rfl,rfl,gY _ _⟩
 case round=>
  obtain⟨k,rfl,X,rfl,rfl,m,g⟩:=hrel;have P:wr.cell? ⟨w.heap.size,1,none⟩=some (.slice A ops.length x):=by rw[g.cell sm];simp
  have Q:wr.cell? ⟨w.heap.size,0,none⟩=some (.int .i64 kd):=by rw[g.cell sm];simp
  have p:w.heap.size<wr.heap.size:=by have:=g.size;simp at this;omega
  by_cases hlt:k<ops.length
  ·have H:Rd pO wr F (.slice A ops.length x) ops:=(h.below (gU (gY _ _) _)).below (by simpa using g)
   obtain⟨W,o0,rfl,O,R,S,T,U,V⟩:=t6 H k hlt;have Y:=xX 6 ops k;have Z:=xX 7 ops k;by_cases n:kC ops[k]=true
   ·have hop':kC ⟨ops[k].d,ops[k].a,ops[k].b,ops[k].c,ops[k].e⟩=true:=n
    clear n;have C:=gP (jI hlt m.out hop');by_cases d6:ops[k].d=6
    ·have j:ni 6 (ops.take (k+1))=ni 6 (ops.take k)+1:=by rw[lF 6 hlt,if_pos d6]
     have l:ni 7 (ops.take (k+1))=ni 7 (ops.take k):=by rw[lF 7 hlt,if_neg gO];rfl
     have q:=gP j;have r:=gP l;clear j l;have D:(ops[k].d==6)=true:=by simpa using d6
     have E:(ops[k].d==7)=false:=by simp[d6]
     clear d6;go_wp2_with (go_at_call 186;refine(xA _ _ _ _ _ _).mono ?_;rintro e u ⟨rfl,f⟩;obtain⟨kc,kf⟩:=kz f);go_roundw
     case rel=>exact⟨k+1,by go_num,gO,by rw[q.out];go_num,by rw[r.out],C,gQ g (gV (gU (gY _ _) _) f) p⟩
     case measure=>exact ms
    ·by_cases d7:ops[k].d=7
     ·have j:ni 6 (ops.take (k+1))=ni 6 (ops.take k):=by rw[lF 6 hlt,if_neg d6];rfl
      have l:ni 7 (ops.take (k+1))=ni 7 (ops.take k)+1:=by rw[lF 7 hlt,if_pos d7]
      have q:=gP j;have r:=gP l;clear j l;have D:(ops[k].d==6)=false:=by simpa using d6
      have E:(ops[k].d==7)=true:=by simp[d7]
      clear d6 d7;go_wp2_with (go_at_call 186;refine(xA _ _ _ _ _ _).mono ?_;rintro e u ⟨rfl,f⟩;obtain⟨kc,kf⟩:=kz f);go_roundw
      case rel=>exact⟨k+1,by go_num,gO,by rw[q.out],by rw[r.out];go_num,C,gQ g (gV (gU (gY _ _) _) f) p⟩
      case measure=>exact ms
     ·have j:ni 6 (ops.take (k+1))=ni 6 (ops.take k):=by rw[lF 6 hlt,if_neg d6];rfl
      have l:ni 7 (ops.take (k+1))=ni 7 (ops.take k):=by rw[lF 7 hlt,if_neg d7];rfl
      have q:=gP j;have r:=gP l;clear j l;have D:(ops[k].d==6)=false:=by simpa using d6
      have E:(ops[k].d==7)=false:=by simpa using d7
      clear d6 d7;go_wp2_with (go_at_call 186;refine(xA _ _ _ _ _ _).mono ?_;rintro e u ⟨rfl,f⟩;obtain⟨kc,kf⟩:=kz f);go_roundw
      case rel=>exact⟨k+1,by go_num,gO,by rw[q.out],by rw[r.out],C,gQ g (gV (gU (gY _ _) _) f) p⟩
      case measure=>exact ms
   ·have hop':kC ⟨ops[k].d,ops[k].a,ops[k].b,ops[k].c,ops[k].e⟩=false:=by simpa using n
    clear n;have t:lj ⟨kd,ops⟩=false:=by simp[lj,mD,jw hlt hop']
    have z:=gP t;clear t;go_wp2_with (go_at_call 186;refine(xA _ _ _ _ _ _).mono ?_;rintro e u ⟨rfl,f⟩;obtain⟨kc,kf⟩:=kz f);go_ret;exact⟨by rw[z.out];rfl,((gY _ _).alloc (j9 _) _).trans ((gQ g (gV (gU (gY _ _) _) f) p).mono sm)⟩
  ·have G:k=ops.length:=gO
   subst G;have hall':=m.out;rw[ld] at hall';have t:lj ⟨kd,ops⟩=(i2 kd 0 3&&(decide (ops.length≤8)&&(decide (ni 6 ops≤2)&&decide (ni 7 ops≤2)))):=by simp[lj,mD,hall',Bool.and_assoc]
   have z:=gP t;clear t hall' m;simp only[ld];have y:∀e B,e=Ending.returned (.bool (i2 kd 0 3&&(decide (ops.length≤8)&&(decide (ni 6 ops≤2)&&decide (ni 7 ops≤2)))))→Below (w.heap.size+1) (w.alloc (.cells #[kd,.slice A ops.length x] 126)) B→e=Ending.returned (.bool (lj ⟨kd,ops⟩))∧Below w.heap.size w B:=
    fun e B L J=>⟨by rw[L,z.out],((gY _ _).alloc (j9 _) _).trans (J.mono sm)⟩
   by_cases I:i2 kd 0 3=true
   ·by_cases q1:ops.length≤8<;>by_cases q2:ni 6 ops≤2<;>by_cases q3:ni 7 ops≤2
    all_goals
     go_wp2_with (go_at_call 187;refine(p8 _ _).mono ?_;rintro e u ⟨rfl,rfl⟩);go_ret;exact y _ _ (by(simp[I,q1,q2,q3])<;>omega) g
   ·have q0':i2 kd 0 3=false:=by simpa using I
    go_wp2_with (go_at_call 187;refine(p8 _ _).mono ?_;rintro e u ⟨rfl,rfl⟩);go_ret;exact y _ _ (by simp[q0']) g
theorem um (v:Value) (a:iM) (F:Nat→Prop) (w:World) (h:Rd k6 w F v a.rules):
  Calls Tryz.prog 97 #[.agg #[v]] w fun e w' =>e= .returned (.bool (je a))∧Below w.heap.size w w':=by
 obtain⟨A,u,rfl,-,E,-⟩:=id h;obtain⟨b⟩:=a;simp only at h E ⊢;by_cases h4:b.length≤4
 ·have J:decide (((b.length:Nat):Int)>4)=false:=by simp;omega
  go_enter Tryz.func97,Tryz.ntmps97;go_wp2
  go_loopw [12] (fun i wr=>∃k:Nat,i= .int .i64 k∧k≤b.length∧Hid ((b.take k).all lj=true)∧Hid (mN (b.take k)=true)∧Below (w.heap.size+1) (w.alloc (.cells #[.slice A b.length u] 70)) wr) (fun i _=>b.length-(intOf i).toNat)
  case atStart=>exact⟨0,rfl,jP _,rfl,rfl,gY _ _⟩
  case round=>
   obtain⟨k,rfl,hk,y,o,m⟩:=hrel;have L:wr.cell? ⟨w.heap.size,0,none⟩=some (.slice A b.length u):=by rw[m.cell sm];simp
   have n:w.heap.size<wr.heap.size:=by have:=m.size;simp at this;omega
   by_cases hkl:k<b.length
   ·have B:Rd k6 wr F (.slice A b.length u) b:=(h.below (gU (gY _ _) _)).below (by simpa using m)
    obtain⟨C,P,d,f,I,D,k0,k1,t⟩:=mV B k hkl;subst I;have T:(wr.alloc (.cells #[b[k].kind,.slice d b[k].ops.length f] 126)).cell? ⟨w.heap.size,0,none⟩=some (.slice (some ⟨C,P,none⟩) b.length u):=by rw[(gU (gY _ _) _).cell n];exact L
    have p:=t.below (gU (gY wr.heap.size wr) (.cells #[b[k].kind,.slice d b[k].ops.length f] 126));clear t;have W:w.heap.size<wr.heap.size+1:=gO;have X:C<wr.heap.size+1:=gO;have x:(⟨b[k].kind,b[k].ops⟩:jJ)=b[k]:=rfl;by_cases q:lj ⟨b[k].kind,b[k].ops⟩=true
    ·have H:=gP (jI hkl y.out q)
     clear x;by_cases q3:k=0
     ·have as':=gP (show mN (b.take (k+1))=true by rw[nC hkl,o.out,if_pos q3];rfl)
      have M:decide ((k:Int)>0)=false:=by simp;omega
      have O:decide (0<k)=false:=by simp;omega
      clear q3;go_wp2;refine ib (fun w' =>Below (wr.alloc (.cells #[b[k].kind,.slice d b[k].ops.length f] 126)).heap.size (wr.alloc (.cells #[b[k].kind,.slice d b[k].ops.length f] 126)) w') [tT 0,tF 1,tT 2,tT 3,tT 4,tT 5,tT 6,tT 7,tT 8,tT 9,tT 10,tT 11,tT 12,tT 13,tT 14,tT 15,tT 16,tT 17,tT 18] ie ie qP ?_;have HS:=(gY (wr.alloc (.cells #[b[k].kind,.slice d b[k].ops.length f] 126)).heap.size (wr.alloc (.cells #[b[k].kind,.slice d b[k].ops.length f] 126))).drew
      iterate 1 refine kM ?_
      refine ia (by rfl) (by rfl) (fun K hK=>?_);go_simp;refine(sR _ _ _ F _ (p.below HS)).mono ?_;rintro e G ⟨j,g⟩;rw[q] at j;subst j;have c:=gV HS g;refine hK _ _ (Or.inr c) ?_;clear hK K HS;have HS:=c;clear c
      iterate 17 refine kM ?_
      simp only[jc];go_wp2;go_roundw
      case rel=>exact⟨k+1,by go_num,gO,H,as',gQ m (gV (gU (gY _ _) _) HS) n⟩
      case measure=>exact ms
     ·have V:0<k:=gO
      have M:decide ((k:Int)>0)=true:=by simp;omega
      have O:decide (0<k)=true:=by simp;omega
      obtain⟨Z,o2,Y,c3,s,R,S,z1,-⟩:=mV B (k-1) gO;injection s with s;injection s with e1 e2 _;subst e1 e2;have z0':(wr.alloc (.cells #[b[k].kind,.slice d b[k].ops.length f] 126)).cell? ⟨C,P+(k-1)*2,none⟩=some (.int .i64 (b[k-1]'gO).kind):=by rw[(gU (gY _ _) _).cell D];exact S
      have U:((k:Int)-1).toNat=k-1:=gO;have p1:(0:Int)≤(k:Int)-1:=gO;have p2:(k:Int)-1<(b.length:Int):=gO;have p3:(1:Int)≤(k:Int):=gO;have p4:1≤k:=gO;have p5:IntKind.i64.wrap ((k:Int)-1)=(k:Int)-1:=IntWalk.i64_in _ gO;clear q3;by_cases q4:(b[k-1]'gO).kind<b[k].kind
      ·have as':=gP (show mN (b.take (k+1))=true by rw[nC hkl,o.out,if_neg gO];simpa using q4)
       have hq:decide (b[k].kind≤(b[k-1]'gO).kind)=false:=by simp;omega
       go_wp2;refine ib (fun w' =>Below (wr.alloc (.cells #[b[k].kind,.slice d b[k].ops.length f] 126)).heap.size (wr.alloc (.cells #[b[k].kind,.slice d b[k].ops.length f] 126)) w') [tT 0,tF 1,tT 2,tT 3,tT 4,tT 5,tT 6,tT 7,tT 8,tT 9,tT 10,tT 11,tT 12,tT 13,tT 14,tT 15,tT 16,tT 17,tT 18] ie ie qP ?_;have HS:=(gY (wr.alloc (.cells #[b[k].kind,.slice d b[k].ops.length f] 126)).heap.size (wr.alloc (.cells #[b[k].kind,.slice d b[k].ops.length f] 126))).drew
       iterate 1 refine kM ?_
       refine ia (by rfl) (by rfl) (fun K hK=>?_);go_simp;refine(sR _ _ _ F _ (p.below HS)).mono ?_;rintro e G ⟨j,g⟩;rw[q] at j;subst j;have c:=gV HS g;refine hK _ _ (Or.inr c) ?_;clear hK K HS;have HS:=c;clear c
       iterate 17 refine kM ?_
       simp only[jc];go_wp2;go_roundw
       case rel=>exact⟨k+1,by go_num,gO,H,as',gQ m (gV (gU (gY _ _) _) HS) n⟩
       case measure=>exact ms
      ·have l:je ⟨b⟩=false:=by
        have Q:mN (b.take (k+1))=false:=by rw[nC hkl,o.out,if_neg gO];simpa using q4
        simp[je,xj Q]
       have r:=gP l;clear l;have hq:decide (b[k].kind≤(b[k-1]'gO).kind)=true:=by simp;omega
       go_wp2;refine ib (fun w' =>Below (wr.alloc (.cells #[b[k].kind,.slice d b[k].ops.length f] 126)).heap.size (wr.alloc (.cells #[b[k].kind,.slice d b[k].ops.length f] 126)) w') [tT 0,tF 1,tT 2,tT 3,tT 4,tT 5,tT 6,tT 7,tT 8,tT 9,tT 10,tT 11,tT 12,tT 13,tT 14,tT 15,tT 16,tT 17,tT 18] ie ie qP ?_;have HS:=(gY (wr.alloc (.cells #[b[k].kind,.slice d b[k].ops.length f] 126)).heap.size (wr.alloc (.cells #[b[k].kind,.slice d b[k].ops.length f] 126))).drew
       iterate 1 refine kM ?_
       refine ia (by rfl) (by rfl) (fun K hK=>?_);go_simp;refine(sR _ _ _ F _ (p.below HS)).mono ?_;rintro e G ⟨j,g⟩;rw[q] at j;subst j;have c:=gV HS g;refine hK _ _ (Or.inr c) ?_;clear hK K HS;have HS:=c;clear c
       iterate 17 refine kM ?_
       simp only[jc];go_wp2;go_ret;exact⟨by rw[r.out];rfl,((gY _ _).alloc (j9 _) _).trans ((gQ m (gV (gU (gY _ _) _) HS) n).mono sm)⟩
    ·have q2':lj ⟨b[k].kind,b[k].ops⟩=false:=by simpa using q
     clear q;have l:je ⟨b⟩=false:=by
      simp[je,jw hkl q2']
     have r:=gP l;clear l x;go_wp2;refine ib (fun w' =>Below (wr.alloc (.cells #[b[k].kind,.slice d b[k].ops.length f] 126)).heap.size (wr.alloc (.cells #[b[k].kind,.slice d b[k].ops.length f] 126)) w') [tT 0,tF 1,tT 2,tT 3,tT 4,tT 5,tT 6,tT 7,tT 8,tT 9,tT 10,tT 11,tT 12,tT 13,tT 14,tT 15,tT 16,tT 17,tT 18] ie ie qP ?_;have HS:=(gY (wr.alloc (.cells #[b[k].kind,.slice d b[k].ops.length f] 126)).heap.size (wr.alloc (.cells #[b[k].kind,.slice d b[k].ops.length f] 126))).drew
     iterate 1 refine kM ?_
     refine ia (by rfl) (by rfl) (fun K hK=>?_);go_simp;refine(sR _ _ _ F _ (p.below HS)).mono ?_;rintro e G ⟨j,g⟩;rw[q2'] at j;subst j;have c:=gV HS g;refine hK _ _ (Or.inr c) ?_;clear hK K HS;have HS:=c;clear c
     iterate 17 refine kM ?_
     simp only[jc];go_wp2;go_ret;exact⟨by rw[r.out];rfl,((gY _ _).alloc (j9 _) _).trans ((gQ m (gV (gU (gY _ _) _) HS) n).mono sm)⟩
   ·have z:k=b.length:=gO
    have hal':=y.out;have has':=o.out;rw[z,ld] at hal' has';have l:je ⟨b⟩=true:=by simp[je,hal',has',h4]
    have r:=gP l;clear l hal' has' z;go_wp2;go_ret;exact⟨by rw[r.out];rfl,((gY _ _).alloc (j9 _) _).trans (m.mono sm)⟩
 ·have J:decide (((b.length:Nat):Int)>4)=true:=by simp;omega
  have l:je ⟨b⟩=false:=by simp[je,h4]
  go_enter Tryz.func97,Tryz.ntmps97;go_wp2;go_ret;exact⟨by rw[l];rfl,(gY _ _).alloc (j9 _) _⟩
theorem uL (v:Value) (apps:List iM) (F:Nat→Prop) (w:World) (h:Rd oE w F v apps):
  Calls Tryz.prog 37 #[v] w fun e w' =>e= .returned (.bool (ji apps))∧Below w.heap.size w w':=by
 obtain⟨A,t,rfl,-,x,-⟩:=id h;by_cases f:apps.length=4
 ·have j:(((apps.length:Nat):Int) !=4)=false:=by simp[f]
  have o:=gP f;have h4':apps.length≤4:=gO;clear f;go_enter Tryz.func37,Tryz.ntmps37;go_wp2
  go_loopw [10] (fun i wr=>∃i':Nat,i= .int .i64 i'∧i'≤apps.length∧Hid ((apps.take i').all je=true)∧Below w.heap.size w wr) (fun i _=>apps.length-(intOf i).toNat)
  case atStart=>exact⟨0,rfl,jP _,rfl,gY _ _⟩
  case round=>
   obtain⟨i,rfl,C,c,a⟩:=hrel;by_cases hlt:i<apps.length
   ·have l:Rd oE wr F (.slice A apps.length t) apps:=h.below a
    obtain⟨B,D,n,s,rfl,u,z,m⟩:=qg l i hlt;have g:=m.below (gU (gY wr.heap.size wr) (.cells #[.slice n apps[i].rules.length s] 70));by_cases q:je apps[i]=true
    ·have r:=gP (jI hlt c.out q)
     go_wp2_with (go_at_call 97;refine(um _ apps[i] F _ g).mono ?_;rintro e y ⟨rfl,d⟩);go_roundw
     case rel=>exact⟨i+1,by go_num,gO,r,gV a (gV (gU (gY _ _) _) d)⟩
     case measure=>exact ms
    ·have q':je apps[i]=false:=by simpa using q
     clear q;have b:ji apps=false:=by simp[ji,jw hlt q']
     have p:=gP b;clear b;go_wp2_with (go_at_call 97;refine(um _ apps[i] F _ g).mono ?_;rintro e y ⟨rfl,d⟩);go_ret;exact⟨by rw[p.out];rfl,gV a (gV (gU (gY _ _) _) d)⟩
   ·have k:i=apps.length:=gO
    have hall':=c.out;rw[k,ld] at hall';have b:ji apps=true:=by simp only[ji,o.out,hall'];rfl
    go_wp2;go_ret;exact⟨by rw[b];rfl,a⟩
 ·have j:(((apps.length:Nat):Int) !=4)=true:=by simp;omega
  have b:ji apps=false:=by simp[ji,f]
  go_enter Tryz.func37,Tryz.ntmps37;go_wp2;go_ret;exact⟨by rw[b];rfl,gY _ _⟩
end Go.Proofs.YtgilllnjhahkfaaGreat
