/- Parts of the proof: Spc4, Ez3. -/
import Derived.Test.YtlndjfflhegkdaaGreatDoorQ15
import Derived.Test.YtlndjfflhegkdaaGreatDoorQ16
import Derived.Test.YtlndjfflhegkdaaGreatDoorQ18
set_option linter.unusedVariables false
set_option linter.unusedSimpArgs false
set_option linter.unusedSectionVars false
set_option maxHeartbeats 4000000
set_option maxRecDepth 100000
namespace Go.Proofs.YtlndjfflhegkdaaGreatDoor
open Go.RowKit
theorem sN (v:Value) (xs:List hY) (F:Nat→Prop) (w:World) (h:Rd iw w F v xs) (hlen:xs.length≤1000):
  Calls Tryz.prog 74 #[v] w fun q w' =>∃u,q= .returned u∧Ow iw 91 w' (fun k=>w.heap.size≤k) u (iI xs)∧Below w.heap.size w w':=by
 obtain⟨A,cp,rfl,-,-,-⟩:=id h;go_enter Tryz.func74,Tryz.ntmps74;go_wp2_with fail
 go_loopw [3,4] (fun o i wr=>∃k:Nat,i= .int .i64 k∧k≤xs.length∧Ow iw 91 wr (fun q=>w.heap.size≤q) o ((xs.take k).foldl (ku gQ) [])∧Below w.heap.size w wr) (fun _ i _=>xs.length-(intOf i).toNat)
 case atStart=>exact⟨0,rfl,j8 _,Ow.empty iw (gL sm) (jn _),gs (gM _ _) _⟩
 case round=>
  obtain⟨k,rfl,hk,L,C⟩:=hrel;by_cases hlt:k<xs.length
  ·have aD:Rd iw wr F (.slice A xs.length cp) xs:=h.below C
   have aV:=pk (lt:=gQ) xs k hk;have aa:=fS (qt (β:=hY) (ku gQ) hlt);obtain⟨l,hL⟩:∃l,l=(xs.take k).foldl (ku gQ) []:=⟨_,rfl⟩;rw[←hL] at L aV aa;clear hL;obtain⟨A3,c3,rfl,bA⟩:=L.shape;go_wp2_with fail;obtain⟨wo,aE⟩:∃wo,wo=wr:=⟨_,rfl⟩
   go_loopw [5] (fun j w2=>∃m:Nat,j= .int .i64 m∧m≤l.length∧Hid (jD gQ l xs[k] l.length=jD gQ l xs[k] m)∧Below wo.heap.size wo w2) (fun j _=>(intOf j).toNat)
   case atStart=>subst aE;exact⟨l.length,rfl,jn _,rfl,gM _ _⟩
   case round=>
    obtain⟨m,rfl,hm,aC,H⟩:=hrel;subst aE;have M:=L.below H;have D:=aD.below H;obtain⟨b0,o0,rfl,aN,a0,a1,a2,a3,a4,a5,a6⟩:=jC D k hlt;go_upto_region 6 with fail
    go_cut [29] (fun t wc=>∃r,t= .bool r∧Hid (decide (0<m∧gQ xs[k] (kp l (m-1))=true)=r)∧Below wr.heap.size wr wc)
    case first=>
     by_cases q3:m=0
     ·have ac:decide ((m:Int)>0)=false:=by simp;omega
      have ad:decide (0<m)=false:=by simp;omega
      have p:=fS (show decide (0<m∧gQ xs[k] (kp l (m-1))=true)=false by simp;omega);clear q3;refine gV (fun w' =>Below wr.heap.size wr w') [tT 0,tT 1,tT 2,tT 3,tT 4,tT 5,tT 6,tT 7,tT 8,tT 9,tT 10,tT 11,tF 12,tT 13] gY gY qP ?_;have HS:=(gM wr.heap.size wr).drew
      iterate 12 refine jJ ?_
      refine iN (by rfl) (by rfl) (fun K hK=>?_);go_simp;refine hK _ _ (Or.inr HS) ?_;clear hK K
      iterate 1 refine jJ ?_
      simp only[iG];go_wp2_with fail;go_meet;exact⟨_,rfl,p,HS⟩
     ·have ab:0<m:=fT
      have ac:decide ((m:Int)>0)=true:=by simp;omega
      have ad:decide (0<m)=true:=by simp;omega
      obtain⟨b2,o2,rfl,Y,z0,z1,z2,z3,z4,z5,z6⟩:=jC M.rd (m-1) fT;have aB:((m:Int)-1).toNat=m-1:=fT;have p1:(0:Int)≤(m:Int)-1:=fT;have p2:(m:Int)-1<(l.length:Int):=fT;have p3:(1:Int)≤(m:Int):=fT;have p4:1≤m:=fT;have p5:IntKind.i64.wrap ((m:Int)-1)=(m:Int)-1:=IntWalk.i64_in _ fT;obtain⟨t,s⟩:∃t,gQ xs[k] (l[m-1]'fT)=t:=⟨_,rfl⟩;have p:=fS (show decide (0<m∧gQ xs[k] (kp l (m-1))=true)=t by rw[iq fT,s];cases t<;>simp[ab]);clear q3;refine gV (fun w' =>Below wr.heap.size wr w') [tT 0,tT 1,tT 2,tT 3,tT 4,tT 5,tT 6,tT 7,tT 8,tT 9,tT 10,tT 11,tF 12,tT 13] gY gY qP ?_;have HS:=(gM wr.heap.size wr).drew
      iterate 12 refine jJ ?_
      refine gU (by rfl) (by rfl) (fun K hK=>?_);go_simp;refine(nG xs[k] l[m-1] _).mono ?_;rintro e w1 ⟨he,W⟩;rw[s] at he;subst he;have Q:=gK HS W;refine hK _ _ (Or.inr Q) ?_;clear hK K HS;have HS:=Q;clear Q
      iterate 1 refine jJ ?_
      simp only[iG];go_wp2_with fail;go_meet;exact⟨_,rfl,p,HS⟩
    case rest=>
     obtain⟨r,rfl,x,hc⟩:=hcut;have J:=gK H hc;cases r
     case true=>
      have c:=of_decide_eq_true x.out;have HP:=fS (yE (lt:=gQ) c.1 c.2);have bB:=c.1;clear c x;go_wp2_with fail;go_roundw
      case rel=>exact⟨m-1,by go_num,fT,by rw[aC.out,HP.out];rfl,J⟩
      case measure=>exact ms
     case false=>
      have c:=of_decide_eq_false x.out;have ay:=fS (show jD gQ l xs[k] l.length=m by rw[aC.out];exact uM (lt:=gQ) (fun h0=>by simpa [h0] using c));clear c x;have E:=M.below hc;have ae:=D.below hc;obtain⟨b3,o3,T,aO,d0,d1,d2,d3,d4,d5,d6⟩:=jC ae k hlt;injection T with T;injection T with e1 e2 _;subst e1 e2;go_upto_region 8 with fail
      go_cut [45] (fun t wd=>∃r,t= .bool r∧Hid (decide (0<m∧kp l (m-1)=xs[k])=r)∧∃n,wd=wc.drewN n)
      case first=>
       by_cases q3:m=0
       ·have ac:decide ((m:Int)>0)=false:=by simp;omega
        have ad:decide (0<m)=false:=by simp;omega
        have p:=fS (show decide (0<m∧kp l (m-1)=xs[k])=false by simp;omega);clear q3
        go_quiet (fail)
        go_wp2_with fail;go_meet;exact⟨_,rfl,p,_,rfl⟩
       ·have ab:0<m:=fT
        have ac:decide ((m:Int)>0)=true:=by simp;omega
        have ad:decide (0<m)=true:=by simp;omega
        obtain⟨b2,o2,rfl,Y,z0,z1,z2,z3,z4,z5,z6⟩:=jC E.rd (m-1) fT;have aB:((m:Int)-1).toNat=m-1:=fT;have p1:(0:Int)≤(m:Int)-1:=fT;have p2:(m:Int)-1<(l.length:Int):=fT;have p3:(1:Int)≤(m:Int):=fT;have p4:1≤m:=fT;have p5:IntKind.i64.wrap ((m:Int)-1)=(m:Int)-1:=IntWalk.i64_in _ fT;clear q3;by_cases s:(l[m-1]'fT)=xs[k]
        ·have hd:decide ((l[m-1]'fT)=xs[k])=true:=iW s
         have p:=fS (show decide (0<m∧kp l (m-1)=xs[k])=true by rw[iq fT,s];simp[ab]);clear s
         go_quiet (fail)
         go_wp2_with fail;go_meet;exact⟨_,rfl,p,_,rfl⟩
        ·have hd:decide ((l[m-1]'fT)=xs[k])=false:=ia s
         have p:=fS (show decide (0<m∧kp l (m-1)=xs[k])=false by rw[iq fT];simp[s]);clear s
         go_quiet (fail)
         go_wp2_with fail;go_meet;exact⟨_,rfl,p,_,rfl⟩
      case rest=>
       obtain⟨r,rfl,x,n,rfl⟩:=hcut;cases r
       case true=>
        have HI:=fS (show ku gQ l xs[k]=l by rw[ku,ay.out,if_pos (of_decide_eq_true x.out)]);go_wp2_with fail;go_roundw
        case rel=>exact⟨k+1,by go_num,fT,by rw[aa.out,HI.out];exact E.drewN n,fU C (ja J n) C.size⟩
        case measure=>exact ms
       case false=>
        have HI:=fS (show ku gQ l xs[k]=pz l xs[k] m by rw[ku,ay.out,if_neg (of_decide_eq_false x.out)]);clear x;have O:=E.drewN n;have I:Below w.heap.size w (wc.drewN n):=fU C (ja J n) C.size;clear d0 d1 d2 d3 d4 d5 d6 a0 a1 a2 a3 a4 a5 a6 E M L aD D ae J hc H C aN aO;generalize wc.drewN n=V at*;obtain⟨b5,o5,b,aP,d0,d1,d2,d3,d4,d5,d6⟩:=jC (h.below I) k hlt;injection b with b;injection b with e1 e2 _;subst e1 e2;have aM:=I.size;go_upto_region 10 with (at_builtin;refine ky (d:=iw) rfl 49 rfl Tryz.underlying49 _ 56 jA rfl dc dc rfl (O.alloc _) xs[k] _ rfl (gL rfl) (fun _=>False) rfl (fun _ Z=>Z.elim) (fun _ Z=>Z.elim) fT (fun q=>w.heap.size≤q) (fun _ hk=>hk) (fun _ Z=>Z.elim) (fun q hq=>by simp at hq;omega) ?_;intro v1 w1 G aA aG;obtain⟨g,c1,aK,rfl,az,bz,aS⟩:=G.head sm);have W:Below w.heap.size w w1:=(((Ch.of_below (S:=fun _=>False) I).alloc _).grown aA (fun q hq=> .inr (O.inF hq))).below0;have aY:(l++[xs[k]]).length=l.length+1:=by simp
        rw[aY] at G;rw[←CB l xs[k]] at G;clear aA aG aS aK d0 d1 d2 d3 d4 d5 d6 O I aM;go_wp2_with fail
        go_loopw [6] (fun z w2=>∃a:Nat,z= .int .i64 a∧m≤a∧a≤l.length∧Ow iw 91 w2 (fun q=>w.heap.size≤q) (.slice (some ⟨g,0,none⟩) (l.length+1) c1) (zZ l xs[k] a)∧Below w.heap.size w w2) (fun z _=>(intOf z).toNat)
        case atStart=>exact⟨l.length,by go_num,hm,jn _,G,W⟩
        case round=>
         obtain⟨a,rfl,bC,f,P,B⟩:=hrel;by_cases hgt:m<a
         ·have aT:decide ((a:Int)>(m:Int))=true:=by simp;omega
          have bx:decide (m<a)=true:=by simp;omega
          have aW:=tJ l xs[k] f;obtain⟨b2,o2,R,Y,z0,z1,z2,z3,z4,z5,z6⟩:=jC (j:=a-1) (P.rd) fT;injection R with R;injection R with e1 e2 _;subst e1 e2;rw[EQ l xs[k] fT f] at z0 z1 z2 z3 z4 z5 z6;simp only[Nat.zero_add] at z0 z1 z2 z3 z4 z5 z6;have aB:((a:Int)-1).toNat=a-1:=fT;have p1:(0:Int)≤(a:Int)-1:=fT;have p2:(a:Int)-1<(l.length:Int)+1:=fT;have p3:(1:Int)≤(a:Int):=fT;have p4:1≤a:=fT;have p5:IntKind.i64.wrap ((a:Int)-1)=(a:Int)-1:=IntWalk.i64_in _ fT;have p6:(a:Int)<(l.length:Int)+1:=fT;have aZ:=fS (CC l xs[k] fT f);go_wp2_with (refine lE (cells:=hY.cells) (sz:=7) rfl _ _ _ rfl P (g:=g) rfl a (by rw[tJ l xs[k] f];omega) (kp l (a-1)) (by first|rfl|simp) (by first|rfl|simp[hY.cells]) gY ?_;intro w3 y U);rw[aZ.out] at y;have X:Below w.heap.size w w3:=B.trans (U.below (fun q hq=>by rw[hq];exact az) B.size);go_roundw
          case rel=>exact⟨a-1,by go_num,fT,fT,y,X⟩
          case measure=>exact ms
         ·have aX:a=m:=fT
          subst aX;have aT:decide ((a:Int)>(a:Int))=false:=by simp
          have aW:=tJ l xs[k] f;have aR:=fS (DH l xs[k] f);obtain⟨b5,o5,b,aP,d0,d1,d2,d3,d4,d5,d6⟩:=jC (h.below B) k hlt;injection b with b;injection b with e1 e2 _;subst e1 e2;have p6:(a:Int)<(l.length:Int)+1:=fT;go_wp2_with (refine lE (cells:=hY.cells) (sz:=7) rfl _ _ _ rfl P (g:=g) rfl a (by rw[tJ l xs[k] f];omega) xs[k] (by first|rfl|simp) (by first|rfl|simp[hY.cells]) gY ?_;intro w3 y U);rw[aR.out] at y;have X:Below w.heap.size w w3:=B.trans (U.below (fun q hq=>by rw[hq];exact az) B.size);go_roundw
          case rel=>exact⟨k+1,by go_num,fT,by rw[aa.out,HI.out];exact y,X⟩
          case measure=>exact ms
  ·have aU:k=xs.length:=fT
   subst aU;have HF:=fS (show(xs.take xs.length).foldl (ku gQ) []=iI xs by rw[li];rfl);rw[HF.out] at L;go_wp2_with fail;go_ret;exact⟨_,rfl,L,C⟩
theorem Dz {x y:iP} (h1:x.ev=y.ev) (h2:x.st=y.st) (h3:x.sends=y.sends) (h4:x.outs=y.outs):x=y:=by cases x;cases y;simp_all
theorem Dq {x y:il} (h1:x.proc=y.proc) (h2:x.base=y.base) (h3:x.done=y.done):x=y:=by cases x;cases y;simp_all
theorem B8 (x y:iP) (vs vo us uo:Value) (F:Nat→Prop) (w:World) (g1:Rd iw w F vs x.sends) (g2:Rd hJ w F vo x.outs) (g3:Rd iw w F us y.sends) (g4:Rd hJ w F uo y.outs):
  Calls Tryz.prog 186 #[.agg #[x.ev.time,x.ev.to,x.ev.from_,x.ev.count,x.ev.n,x.ev.kind,x.ev.arg,x.st.x,x.st.y,x.st.c,vs,vo],.agg #[y.ev.time,y.ev.to,y.ev.from_,y.ev.count,y.ev.n,y.ev.kind,y.ev.arg,y.st.x,y.st.y,y.st.c,us,uo]] w fun q w' =>q= .returned (.bool (decide (x=y)))∧Below w.heap.size w w':=by
 obtain⟨A1,c1,rfl,-⟩:=g1.shape;obtain⟨A2,c2,rfl,-⟩:=g2.shape;obtain⟨A3,c3,rfl,-⟩:=g3.shape;obtain⟨A4,c4,rfl,-⟩:=g4.shape;obtain⟨W,hV,G,a,b⟩:=FK w (.cells #[x.ev.time,x.ev.to,x.ev.from_,x.ev.count,x.ev.n,x.ev.kind,x.ev.arg,x.st.x,x.st.y,x.st.c,.slice A1 x.sends.length c1,.slice A2 x.outs.length c2] 185) (.cells #[y.ev.time,y.ev.to,y.ev.from_,y.ev.count,y.ev.n,y.ev.kind,y.ev.arg,y.st.x,y.st.y,y.st.c,.slice A3 y.sends.length c3,.slice A4 y.outs.length c4] 185);go_enter Tryz.func186,Tryz.ntmps186;go_wp2_with fail;rw[hV.out];clear hV;obtain⟨I,A⟩:∃t,decide (x.ev=y.ev)=t:=⟨_,rfl⟩;refine(wx x.ev y.ev _).mono ?_;rintro q w0 ⟨rfl,r⟩;have z:=fU G r (Below.size G)
 (try rw[A])
 have l:=fS A;have d:=fu r (fx a) a;have f:=fu r (fx b) b;clear A a b r;have a:=d;have b:=f;clear d f;obtain⟨an,ao,ap,aq,ar,au,av,aw,ax,ay,O,P⟩:=o6 a;obtain⟨a7,a8,a9,a',ba,bb,bc,bd,bf,bg,X,Y⟩:=o6 b;apply_assumption;by_cases E:I=true
 case neg=>
  have g0':I=false:=by simpa using E
  have i:=fS (show decide (x=y)=false from ia (fun e=>by have g:=l.out;rw[g0',decide_eq_false_iff_not] at g;exact g (by rw[e])));clear E l;subst g0';go_wp2_with fail;go_ret;exact⟨by rw[i.out];rfl,z⟩
 have E0:=fS (show x.ev=y.ev from of_decide_eq_true (l.out.trans E));clear l;subst E;go_wp2_with fail;obtain⟨J,B⟩:∃t,decide (x.st=y.st)=t:=⟨_,rfl⟩;refine(wy x.st y.st _).mono ?_;rintro q w1 ⟨rfl,s⟩;have j:=fU z s (Below.size z)
 (try rw[B])
 have m:=fS B;have d:=fu s (fx a) a;have f:=fu s (fx b) b;clear B a b s;have a:=d;have b:=f;clear d f;obtain⟨aA,aB,aC,aD,aE,aF,aG,aH,aI,aJ,Q,R⟩:=o6 a;obtain⟨bh,bi,bj,bk,bl,bm,bn,bo,bp,bq,Z,aa⟩:=o6 b;apply_assumption;by_cases g1:J=true
 case neg=>
  have g1':J=false:=by simpa using g1
  have i:=fS (show decide (x=y)=false from ia (fun e=>by have g:=m.out;rw[g1',decide_eq_false_iff_not] at g;exact g (by rw[e])));clear g1 m;subst g1';go_wp2_with fail;go_ret;exact⟨by rw[i.out];rfl,j⟩
 have E1:=fS (show x.st=y.st from of_decide_eq_true (m.out.trans g1));clear m;subst g1;go_wp2_with fail;obtain⟨L,C⟩:∃t,decide (x.sends=y.sends)=t:=⟨_,rfl⟩;refine(oX _ _ x.sends y.sends F _ (g1.below j) (g3.below j)).mono ?_;rintro q w2 ⟨rfl,u⟩;have k:=fU j u (Below.size j)
 (try rw[C])
 have o:=fS C;have d:=fu u (fx a) a;have f:=fu u (fx b) b;clear C a b u;have a:=d;have b:=f;clear d f;obtain⟨aL,aM,aN,aO,aP,aQ,aR,aS,aT,aU,S,T⟩:=o6 a;obtain⟨br,bs,bt,bu,bv,bw,bx,bz,bA,bB,ab,ac⟩:=o6 b;apply_assumption;by_cases g2:L=true
 case neg=>
  have g2':L=false:=by simpa using g2
  have i:=fS (show decide (x=y)=false from ia (fun e=>by have g:=o.out;rw[g2',decide_eq_false_iff_not] at g;exact g (by rw[e])));clear g2 o;subst g2';go_wp2_with fail;go_ret;exact⟨by rw[i.out];rfl,k⟩
 have E2:=fS (show x.sends=y.sends from of_decide_eq_true (o.out.trans g2));clear o;subst g2;go_wp2_with fail;obtain⟨M,D⟩:∃t,decide (x.outs=y.outs)=t:=⟨_,rfl⟩;refine(rF _ _ x.outs y.outs F _ (g2.below k) (g4.below k)).mono ?_;rintro q w3 ⟨rfl,v⟩;have H:=fU k v (Below.size k)
 (try rw[D])
 have p:=fS D;have d:=fu v (fx a) a;have f:=fu v (fx b) b;clear D a b v;have a:=d;have b:=f;clear d f;obtain⟨aW,aX,aY,aZ,a0,a1,a2,a3,a4,a5,U,V⟩:=o6 a;obtain⟨bC,bD,bE,bF,bG,bH,bI,bJ,bK,bL,ad,ae⟩:=o6 b;apply_assumption;by_cases g3:M=true
 case neg=>
  have g3':M=false:=by simpa using g3
  have i:=fS (show decide (x=y)=false from ia (fun e=>by have g:=p.out;rw[g3',decide_eq_false_iff_not] at g;exact g (by rw[e])));clear g3 p;subst g3';go_wp2_with fail;go_ret;exact⟨by rw[i.out];rfl,H⟩
 have E3:=fS (show x.outs=y.outs from of_decide_eq_true (p.out.trans g3));clear p;subst g3;have i:=fS (show decide (x=y)=true from iW (Dz E0.out E1.out E2.out E3.out));go_wp2_with fail;go_ret;exact⟨by rw[i.out];rfl,H⟩
theorem AF (v0 v1:Value) (xs ys:List iP) (F:Nat→Prop) (w:World) (h0:Rd kO w F v0 xs) (h1:Rd kO w F v1 ys):
  Calls Tryz.prog 170 #[v0,v1] w fun q w' =>q= .returned (.bool (decide (xs=ys)))∧Below w.heap.size w w':=by
 obtain⟨X,Z,rfl,-,l0,-⟩:=id h0;obtain⟨Y,c1,rfl,-,l1,-⟩:=id h1;by_cases hl:xs.length=ys.length
 ·have o:(((xs.length:Nat):Int) !=((ys.length:Nat):Int))=false:=by simp[hl]
  have j:=fS hl;clear hl;go_enter Tryz.func170,Tryz.ntmps170;go_wp2_with fail
  go_loopw [5] (fun i wr=>∃k:Nat,i= .int .i64 k∧k≤xs.length∧Hid (xs.take k=ys.take k)∧Below w.heap.size w wr) (fun i _=>xs.length-(intOf i).toNat)
  case atStart=>exact⟨0,rfl,j8 _,rfl,gM _ _⟩
  case round=>
   obtain⟨k,rfl,hk,d,c⟩:=hrel;by_cases hlt:k<xs.length
   ·have b:k<ys.length:=by rw[←j.out];exact hlt
    have s:=h0.below c;have u:=h1.below c;obtain⟨p,r,p2,p3,p4,p5,rfl,_,⟨A,B,C,D,E,G,H⟩,⟨I,J,L⟩,pm,pn,v,x⟩:=lM s k hlt;obtain⟨q0,q1,q2,q3,q4,q5,rfl,_,⟨M,O,P,Q,R,S,T⟩,⟨U,V,W⟩,qm,qn,y,z⟩:=lM u k b;have p:(k:Int)<(xs.length:Int):=fT;have r:(k:Int)<(ys.length:Int):=fT;obtain⟨t,n⟩:∃t,decide (xs[k]=ys[k])=t:=⟨_,rfl⟩;have g:=fS n;clear n;go_upto_region 6 with fail;refine kA [.rd [0,1,2,3,4,5,6,7]] [8,9] ?_;refine vL ?_;intro N hN;go_wp2_with fail;refine fV (hN _ ?_);clear hN N;refine vF ?_;go_wp2_with fail;have m:=c.drew;refine(B8 xs[k] ys[k] _ _ _ _ _ _ (v.below (gM wr.heap.size wr).drew) (x.below (gM wr.heap.size wr).drew) (y.below (gM wr.heap.size wr).drew) (z.below (gM wr.heap.size wr).drew)).mono ?_;rintro q w1 ⟨rfl,l⟩;have f:=fU m l m.size;rw[g.out];apply_assumption;cases t
    case false=>
     have a:=fS (show decide (xs=ys)=false from ia (fun e=>of_decide_eq_false g.out (by simp[e])));go_wp2_with fail;go_ret;exact⟨by rw[a.out];rfl,f⟩
    case true=>
     have HS:=fS (jx d.out hlt b (of_decide_eq_true g.out));go_wp2_with fail;go_roundw
     case rel=>exact⟨k+1,by go_num,fT,HS,f⟩
     case measure=>exact ms
   ·have a:=fS (show decide (xs=ys)=true from iW (j5 d.out fT j.out))
    go_wp2_with fail;go_ret;exact⟨by rw[a.out];rfl,c⟩
 ·have o:(((xs.length:Nat):Int) !=((ys.length:Nat):Int))=true:=by rw[bne_iff_ne];omega
  have a:=fS (show decide (xs=ys)=false from ia (fun h=>hl (by simp[h])));clear hl;go_enter Tryz.func170,Tryz.ntmps170;go_wp2_with fail;go_ret;exact⟨by rw[a.out];rfl,gM _ _⟩
theorem BZ (x y:il) (v u:Value) (F:Nat→Prop) (w:World) (g1:Rd kO w F v x.done) (g2:Rd kO w F u y.done):
  Calls Tryz.prog 142 #[.agg #[x.proc,x.base.x,x.base.y,x.base.c,v],.agg #[y.proc,y.base.x,y.base.y,y.base.c,u]] w fun q w' =>q= .returned (.bool (decide (x=y)))∧Below w.heap.size w w':=by
 obtain⟨n,z,rfl,-⟩:=g1.shape;obtain⟨o,A,rfl,-⟩:=g2.shape;have p:Below w.heap.size w ((w.alloc (.cells #[x.proc,x.base.x,x.base.y,x.base.c,.slice n x.done.length z] 130)).alloc (.cells #[y.proc,y.base.x,y.base.y,y.base.c,.slice o y.done.length A] 130)):=gs (gs (gM w.heap.size w) _) _;have a:((w.alloc (.cells #[x.proc,x.base.x,x.base.y,x.base.c,.slice n x.done.length z] 130)).alloc (.cells #[y.proc,y.base.x,y.base.y,y.base.c,.slice o y.done.length A] 130)).heap[w.heap.size]? =some (.cells #[x.proc,x.base.x,x.base.y,x.base.c,.slice n x.done.length z] 130):=(gP sm).trans (gL rfl);have b:((w.alloc (.cells #[x.proc,x.base.x,x.base.y,x.base.c,.slice n x.done.length z] 130)).alloc (.cells #[y.proc,y.base.x,y.base.y,y.base.c,.slice o y.done.length A] 130)).heap[w.heap.size+1]? =some (.cells #[y.proc,y.base.x,y.base.y,y.base.c,.slice o y.done.length A] 130):=gL sm;go_enter Tryz.func142,Tryz.ntmps142;by_cases k0_proc:x.proc=y.proc
 case neg=>
  have i:(x.proc !=y.proc)=true:=by simpa using k0_proc
  have g:=fS (show decide (x=y)=false from ia (fun e=>k0_proc (by rw[e])));clear k0_proc;go_wp2_with fail;go_ret;exact⟨by rw[g.out];rfl,p⟩
 have i:(x.proc !=y.proc)=false:=by simpa using k0_proc
 have f:=fS k0_proc;clear k0_proc;go_wp2_with fail;generalize (w.alloc (.cells #[x.proc,x.base.x,x.base.y,x.base.c,.slice n x.done.length z] 130)).alloc (.cells #[y.proc,y.base.x,y.base.y,y.base.c,.slice o y.done.length A] 130)=W at*;obtain⟨H,C⟩:∃t,decide (x.base=y.base)=t:=⟨_,rfl⟩;refine(wy x.base y.base _).mono ?_;rintro q w0 ⟨rfl,l⟩;have d:=fU p l (Below.size p)
 (try rw[C])
 have j:=fS C;have r:=fu l (fx a) a;have s:=fu l (fx b) b;clear C a b l;have a:=r;have b:=s;clear r s;obtain⟨M,O,P,Q,R⟩:=yQ a;obtain⟨Y,Z,aa,ab,ac⟩:=yQ b;apply_assumption;by_cases E:H=true
 case neg=>
  have g0':H=false:=by simpa using E
  have g:=fS (show decide (x=y)=false from ia (fun e=>by have B:=j.out;rw[g0',decide_eq_false_iff_not] at B;exact B (by rw[e])));clear E j;subst g0';go_wp2_with fail;go_ret;exact⟨by rw[g.out];rfl,d⟩
 have J:=fS (show x.base=y.base from of_decide_eq_true (j.out.trans E));clear j;subst E;go_wp2_with fail;obtain⟨I,D⟩:∃t,decide (x.done=y.done)=t:=⟨_,rfl⟩;refine(AF _ _ x.done y.done F _ (g1.below d) (g2.below d)).mono ?_;rintro q w1 ⟨rfl,m⟩;have G:=fU d m (Below.size d)
 (try rw[D])
 have k:=fS D;have r:=fu m (fx a) a;have s:=fu m (fx b) b;clear D a b m;have a:=r;have b:=s;clear r s;obtain⟨S,T,U,V,X⟩:=yQ a;obtain⟨ad,ae,af,ag,ah⟩:=yQ b;apply_assumption;by_cases g1:I=true
 case neg=>
  have g1':I=false:=by simpa using g1
  have g:=fS (show decide (x=y)=false from ia (fun e=>by have B:=k.out;rw[g1',decide_eq_false_iff_not] at B;exact B (by rw[e])));clear g1 k;subst g1';go_wp2_with fail;go_ret;exact⟨by rw[g.out];rfl,G⟩
 have L:=fS (show x.done=y.done from of_decide_eq_true (k.out.trans g1));clear k;subst g1;have g:=fS (show decide (x=y)=true from iW (Dq f.out J.out L.out));go_wp2_with fail;go_ret;exact⟨by rw[g.out];rfl,G⟩
end Go.Proofs.YtlndjfflhegkdaaGreatDoor
