/- Parts of the proof: Spc4, Map. -/
import Derived.Lib.AppendZeros
import Derived.Maps.Keyed
import Derived.DeepKeys4
import Derived.Test.YtgilllnjhahkfaaGreatQ13
set_option linter.unusedVariables false
set_option linter.unusedSimpArgs false
set_option linter.unusedSectionVars false
set_option maxHeartbeats 4000000
set_option maxRecDepth 100000
namespace Go.Proofs.YtgilllnjhahkfaaGreat
open Go.RowKit
theorem pZ (v:Value) (xs:List im) (F:Nat→Prop) (w:World) (h:Rd iC w F v xs) (hlen:xs.length≤1000):
  Calls Tryz.prog 84 #[v] w fun q w' =>∃u,q= .returned u∧Ow iC 132 w' (fun k=>w.heap.size≤k) u (jS xs)∧Below w.heap.size w w':=by
 obtain⟨A,cp,rfl,-,-,-⟩:=id h;go_enter Tryz.func84,Tryz.ntmps84;go_wp2_with fail
 go_loopw [3,4] (fun o i wr=>∃k:Nat,i= .int .i64 k∧k≤xs.length∧Ow iC 132 wr (fun q=>w.heap.size≤q) o ((xs.take k).foldl (kN hY) [])∧Below w.heap.size w wr) (fun _ i _=>xs.length-(intOf i).toNat)
 case atStart=>exact⟨0,rfl,jP _,Ow.empty iC (gX sm) (j9 _),gU (gY _ _) _⟩
 case round=>
  obtain⟨k,rfl,hk,L,C⟩:=hrel;by_cases hlt:k<xs.length
  ·have aD:Rd iC wr F (.slice A xs.length cp) xs:=h.below C
   have aV:=po (lt:=hY) xs k hk;have aa:=gP (qE (β:=im) (kN hY) hlt);obtain⟨l,hL⟩:∃l,l=(xs.take k).foldl (kN hY) []:=⟨_,rfl⟩;rw[←hL] at L aV aa;clear hL;obtain⟨A3,c3,rfl,bA⟩:=L.shape;go_wp2_with fail;obtain⟨wo,aE⟩:∃wo,wo=wr:=⟨_,rfl⟩
   go_loopw [5] (fun j w2=>∃m:Nat,j= .int .i64 m∧m≤l.length∧Hid (ki hY l xs[k] l.length=ki hY l xs[k] m)∧Below wo.heap.size wo w2) (fun j _=>(intOf j).toNat)
   case atStart=>subst aE;exact⟨l.length,rfl,j9 _,rfl,gY _ _⟩
   case round=>
    obtain⟨m,rfl,hm,aC,H⟩:=hrel;subst aE;have M:=L.below H;have D:=aD.below H;obtain⟨b0,o0,rfl,aN,a0,a1,a2,a3,a4,a5,a6⟩:=jD D k hlt;go_upto_region 6 with fail
    go_cut [29] (fun t wc=>∃r,t= .bool r∧Hid (decide (0<m∧hY xs[k] (kK l (m-1))=true)=r)∧Below wr.heap.size wr wc)
    case first=>
     by_cases q3:m=0
     ·have ac:decide ((m:Int)>0)=false:=by simp;omega
      have ad:decide (0<m)=false:=by simp;omega
      have p:=gP (show decide (0<m∧hY xs[k] (kK l (m-1))=true)=false by simp;omega);clear q3;refine ib (fun w' =>Below wr.heap.size wr w') [tT 0,tT 1,tT 2,tT 3,tT 4,tT 5,tT 6,tT 7,tT 8,tT 9,tT 10,tT 11,tF 12,tT 13] ie ie qP ?_;have HS:=(gY wr.heap.size wr).drew
      iterate 12 refine kM ?_
      refine jH (by rfl) (by rfl) (fun K hK=>?_);go_simp;refine hK _ _ (Or.inr HS) ?_;clear hK K
      iterate 1 refine kM ?_
      simp only[jc];go_wp2_with fail;go_meet;exact⟨_,rfl,p,HS⟩
     ·have ab:0<m:=gO
      have ac:decide ((m:Int)>0)=true:=by simp;omega
      have ad:decide (0<m)=true:=by simp;omega
      obtain⟨b2,o2,rfl,Y,z0,z1,z2,z3,z4,z5,z6⟩:=jD M.rd (m-1) gO;have aB:((m:Int)-1).toNat=m-1:=gO;have p1:(0:Int)≤(m:Int)-1:=gO;have p2:(m:Int)-1<(l.length:Int):=gO;have p3:(1:Int)≤(m:Int):=gO;have p4:1≤m:=gO;have p5:IntKind.i64.wrap ((m:Int)-1)=(m:Int)-1:=IntWalk.i64_in _ gO;obtain⟨t,s⟩:∃t,hY xs[k] (l[m-1]'gO)=t:=⟨_,rfl⟩;have p:=gP (show decide (0<m∧hY xs[k] (kK l (m-1))=true)=t by rw[iP gO,s];cases t<;>simp[ab]);clear q3;refine ib (fun w' =>Below wr.heap.size wr w') [tT 0,tT 1,tT 2,tT 3,tT 4,tT 5,tT 6,tT 7,tT 8,tT 9,tT 10,tT 11,tF 12,tT 13] ie ie qP ?_;have HS:=(gY wr.heap.size wr).drew
      iterate 12 refine kM ?_
      refine ia (by rfl) (by rfl) (fun K hK=>?_);go_simp;refine(oy xs[k] l[m-1] _).mono ?_;rintro e w1 ⟨he,W⟩;rw[s] at he;subst he;have Q:=gV HS W;refine hK _ _ (Or.inr Q) ?_;clear hK K HS;have HS:=Q;clear Q
      iterate 1 refine kM ?_
      simp only[jc];go_wp2_with fail;go_meet;exact⟨_,rfl,p,HS⟩
    case rest=>
     obtain⟨r,rfl,x,hc⟩:=hcut;have J:=gV H hc;cases r
     case true=>
      have c:=of_decide_eq_true x.out;have HP:=gP (zA (lt:=hY) c.1 c.2);have bB:=c.1;clear c x;go_wp2_with fail;go_roundw
      case rel=>exact⟨m-1,by go_num,gO,by rw[aC.out,HP.out];rfl,J⟩
      case measure=>exact ms
     case false=>
      have c:=of_decide_eq_false x.out;have ay:=gP (show ki hY l xs[k] l.length=m by rw[aC.out];exact vI (lt:=hY) (fun h0=>by simpa [h0] using c));clear c x;have E:=M.below hc;have ae:=D.below hc;obtain⟨b3,o3,T,aO,d0,d1,d2,d3,d4,d5,d6⟩:=jD ae k hlt;injection T with T;injection T with e1 e2 _;subst e1 e2;go_upto_region 8 with fail
      go_cut [45] (fun t wd=>∃r,t= .bool r∧Hid (decide (0<m∧kK l (m-1)=xs[k])=r)∧∃n,wd=wc.drewN n)
      case first=>
       by_cases q3:m=0
       ·have ac:decide ((m:Int)>0)=false:=by simp;omega
        have ad:decide (0<m)=false:=by simp;omega
        have p:=gP (show decide (0<m∧kK l (m-1)=xs[k])=false by simp;omega);clear q3
        go_quiet (fail)
        go_wp2_with fail;go_meet;exact⟨_,rfl,p,_,rfl⟩
       ·have ab:0<m:=gO
        have ac:decide ((m:Int)>0)=true:=by simp;omega
        have ad:decide (0<m)=true:=by simp;omega
        obtain⟨b2,o2,rfl,Y,z0,z1,z2,z3,z4,z5,z6⟩:=jD E.rd (m-1) gO;have aB:((m:Int)-1).toNat=m-1:=gO;have p1:(0:Int)≤(m:Int)-1:=gO;have p2:(m:Int)-1<(l.length:Int):=gO;have p3:(1:Int)≤(m:Int):=gO;have p4:1≤m:=gO;have p5:IntKind.i64.wrap ((m:Int)-1)=(m:Int)-1:=IntWalk.i64_in _ gO;clear q3;by_cases s:(l[m-1]'gO)=xs[k]
        ·have hd:decide ((l[m-1]'gO)=xs[k])=true:=jT s
         have p:=gP (show decide (0<m∧kK l (m-1)=xs[k])=true by rw[iP gO,s];simp[ab]);clear s
         go_quiet (fail)
         go_wp2_with fail;go_meet;exact⟨_,rfl,p,_,rfl⟩
        ·have hd:decide ((l[m-1]'gO)=xs[k])=false:=iU s
         have p:=gP (show decide (0<m∧kK l (m-1)=xs[k])=false by rw[iP gO];simp[s]);clear s
         go_quiet (fail)
         go_wp2_with fail;go_meet;exact⟨_,rfl,p,_,rfl⟩
      case rest=>
       obtain⟨r,rfl,x,n,rfl⟩:=hcut;cases r
       case true=>
        have HI:=gP (show kN hY l xs[k]=l by rw[kN,ay.out,if_pos (of_decide_eq_true x.out)]);go_wp2_with fail;go_roundw
        case rel=>exact⟨k+1,by go_num,gO,by rw[aa.out,HI.out];exact E.drewN n,gQ C (jG J n) C.size⟩
        case measure=>exact ms
       case false=>
        have HI:=gP (show kN hY l xs[k]=pK l xs[k] m by rw[kN,ay.out,if_neg (of_decide_eq_false x.out)]);clear x;have O:=E.drewN n;have I:Below w.heap.size w (wc.drewN n):=gQ C (jG J n) C.size;clear d0 d1 d2 d3 d4 d5 d6 a0 a1 a2 a3 a4 a5 a6 E M L aD D ae J hc H C aN aO;generalize wc.drewN n=V at*;obtain⟨b5,o5,b,aP,d0,d1,d2,d3,d4,d5,d6⟩:=jD (h.below I) k hlt;injection b with b;injection b with e1 e2 _;subst e1 e2;have aM:=I.size;go_upto_region 10 with (at_builtin;refine jj (d:=iC) rfl 33 rfl Tryz.underlying33 _ 56 kL rfl dc dc rfl (O.alloc _) xs[k] _ rfl (gX rfl) (fun _=>False) rfl (fun _ Z=>Z.elim) (fun _ Z=>Z.elim) gO (fun q=>w.heap.size≤q) (fun _ hk=>hk) (fun _ Z=>Z.elim) (fun q hq=>by simp at hq;omega) ?_;intro v1 w1 G aA aG;obtain⟨g,c1,aK,rfl,az,bz,aS⟩:=G.head sm);have W:Below w.heap.size w w1:=(((Ch.of_below (S:=fun _=>False) I).alloc _).grown aA (fun q hq=> .inr (O.inF hq))).below0;have aY:(l++[xs[k]]).length=l.length+1:=by simp
        rw[aY] at G;rw[←Dy l xs[k]] at G;clear aA aG aS aK d0 d1 d2 d3 d4 d5 d6 O I aM;go_wp2_with fail
        go_loopw [6] (fun z w2=>∃a:Nat,z= .int .i64 a∧m≤a∧a≤l.length∧Ow iC 132 w2 (fun q=>w.heap.size≤q) (.slice (some ⟨g,0,none⟩) (l.length+1) c1) (Bb l xs[k] a)∧Below w.heap.size w w2) (fun z _=>(intOf z).toNat)
        case atStart=>exact⟨l.length,by go_num,hm,j9 _,G,W⟩
        case round=>
         obtain⟨a,rfl,bC,f,P,B⟩:=hrel;by_cases hgt:m<a
         ·have aT:decide ((a:Int)>(m:Int))=true:=by simp;omega
          have bx:decide (m<a)=true:=by simp;omega
          have aW:=ux l xs[k] f;obtain⟨b2,o2,R,Y,z0,z1,z2,z3,z4,z5,z6⟩:=jD (j:=a-1) (P.rd) gO;injection R with R;injection R with e1 e2 _;subst e1 e2;rw[Fo l xs[k] gO f] at z0 z1 z2 z3 z4 z5 z6;simp only[Nat.zero_add] at z0 z1 z2 z3 z4 z5 z6;have aB:((a:Int)-1).toNat=a-1:=gO;have p1:(0:Int)≤(a:Int)-1:=gO;have p2:(a:Int)-1<(l.length:Int)+1:=gO;have p3:(1:Int)≤(a:Int):=gO;have p4:1≤a:=gO;have p5:IntKind.i64.wrap ((a:Int)-1)=(a:Int)-1:=IntWalk.i64_in _ gO;have p6:(a:Int)<(l.length:Int)+1:=gO;have aZ:=gP (DX l xs[k] gO f);go_wp2_with (refine ne (cells:=im.cells) (sz:=7) rfl _ _ _ rfl P (g:=g) rfl a (by rw[ux l xs[k] f];omega) (kK l (a-1)) (by first|rfl|simp) (by first|rfl|simp[im.cells]) ie ?_;intro w3 y U);rw[aZ.out] at y;have X:Below w.heap.size w w3:=B.trans (U.below (fun q hq=>by rw[hq];exact az) B.size);go_roundw
          case rel=>exact⟨a-1,by go_num,gO,gO,y,X⟩
          case measure=>exact ms
         ·have aX:a=m:=gO
          subst aX;have aT:decide ((a:Int)>(a:Int))=false:=by simp
          have aW:=ux l xs[k] f;have aR:=gP (Ej l xs[k] f);obtain⟨b5,o5,b,aP,d0,d1,d2,d3,d4,d5,d6⟩:=jD (h.below B) k hlt;injection b with b;injection b with e1 e2 _;subst e1 e2;have p6:(a:Int)<(l.length:Int)+1:=gO;go_wp2_with (refine ne (cells:=im.cells) (sz:=7) rfl _ _ _ rfl P (g:=g) rfl a (by rw[ux l xs[k] f];omega) xs[k] (by first|rfl|simp) (by first|rfl|simp[im.cells]) ie ?_;intro w3 y U);rw[aR.out] at y;have X:Below w.heap.size w w3:=B.trans (U.below (fun q hq=>by rw[hq];exact az) B.size);go_roundw
          case rel=>exact⟨k+1,by go_num,gO,by rw[aa.out,HI.out];exact y,X⟩
          case measure=>exact ms
  ·have aU:k=xs.length:=gO
   subst aU;have HF:=gP (show(xs.take xs.length).foldl (kN hY) []=jS xs by rw[ld];rfl);rw[HF.out] at L;go_wp2_with fail;go_ret;exact⟨_,rfl,L,C⟩
section
open Go.RowKit Go.Maps
def i64 (x:Int):Prop:= -9223372036854775808≤x∧x≤9223372036854775807
def nQ (e:im):Prop:=i64 e.time∧i64 e.to∧i64 e.from_∧i64 e.count∧i64 e.n∧i64 e.kind∧i64 e.arg
theorem nQ.of_ok {e:im} (h:jM e=true):nQ e:=by
 simp[jM,i2] at h;unfold nQ i64;omega
theorem Fd:laidOutB Tryz.prog=true:=ie
theorem r8:Keyed Tryz.prog 217:=Keyed.of_law (deep_law_laid Fd (m:=5) dc (of_decide_eq_true ie) ie ie)
theorem pY {x:Int} (h:i64 x):(Lit.int .i64 x).wf=true:=by
 unfold Lit.wf;have a:IntKind.i64.min= -9223372036854775808:=by decide
 have b:IntKind.i64.max=9223372036854775807:=by decide
 simp only[a,b,Bool.and_eq_true,decide_eq_true_eq];exact h
theorem xF {e:im} (h:nQ e):∃l,keyOf Tryz.prog 217 (iZ e)=some l:=by
 obtain⟨c,d,f,g,i,j,k⟩:=h;have o:=pY c;have p:=pY d;have q:=pY f;have r:=pY g;have s:=pY i;have t:=pY j;have v:=pY k;have w:Tryz.prog.keyType 217=true:=ie;have x:(iZ e).formed Tryz.prog 217=true:=ie;have u:=Tryz.underlying217;have u3:=Tryz.underlying3;have a:Tryz.prog.cellsOf 217=7:=ie;have b:Tryz.prog.cellsOf 3=1:=ie;unfold keyOf;rw[u];simp only[w,x,Bool.and_self,if_true];obtain⟨n,m⟩:∃n,Tryz.prog.types.size=n+1:=⟨Tryz.prog.types.size-1,ie⟩;rw[m];unfold iZ Program.keyLits;rw[u];simp[Value.cells,a,b,List.range_succ,Program.keyLits,u3,o,p,q,r,s,t,v]
theorem Ce {a b:im} (h:iZ a=iZ b):a=b:=by
 unfold iZ at h;simp at h;obtain⟨c,d,e,f,g,i,j⟩:=h;cases a;cases b;simp_all
def nr:Nat→List im→List Int→List MapEntry
 |j,y::ys,c::cs=>⟨iZ y,.int .i64 c,j⟩::nr (j+1) ys cs
 |_,_,_=>[]
theorem mh:∀(ys:List im) (cs:List Int) (b j:Nat),ys.length=cs.length→(h:j<ys.length)→(nr b ys cs)[j]? =some ⟨iZ ys[j],.int .i64 (cs.getD j 0),b+j⟩
 |y::ys,c::cs,b,0,hl,h=>by simp[nr]
 |y::ys,c::cs,b,j+1,hl,h=>by
  have:=mh ys cs (b+1) j (by simpa using hl) (by simpa using h);simp only[nr,List.getElem?_cons_succ,List.getElem_cons_succ,this];rw[show b+1+j=b+(j+1) by omega];simp[List.getD]
theorem lC:∀(ys:List im) (cs:List Int) (b:Nat),ys.length=cs.length→(nr b ys cs).length=ys.length
 | [],_,_,_=>by simp[nr]
 |y::ys,c::cs,b,hl=>by simp[nr,lC ys cs (b+1) (by simpa using hl)]
theorem BJ (ys:List im) (cs:List Int) (y:im) (c:Int) (hl:ys.length=cs.length):nr 0 (ys++[y]) (cs++[c])=nr 0 ys cs++[⟨iZ y,.int .i64 c,ys.length⟩]:=by
 refine List.ext_getElem? fun j=>?_;rcases Nat.lt_trichotomy j ys.length with h|h|h
 ·rw[mh _ _ 0 j (by simp[hl]) (by simp;omega),List.getElem?_append_left (by rw[lC _ _ _ hl];exact h),mh _ _ 0 j hl h]
  simp[List.getElem_append_left h,List.getD,List.getElem?_append_left (hl▸h)]
 ·subst h
  rw[mh _ _ 0 _ (by simp[hl]) sm,List.getElem?_append_right (by rw[lC _ _ _ hl];exact j9 _)];simp[lC _ _ _ hl,List.getD,hl]
 ·rw[List.getElem?_eq_none (by rw[lC _ _ _ (by simp[hl])];simp;omega),List.getElem?_eq_none (by simp[lC _ _ _ hl];omega)]
theorem Dd (ys:List im) (cs:List Int) (j:Nat) (c:Int) (hl:ys.length=cs.length) (hj:j<ys.length):nr 0 ys (cs.set j c)=(nr 0 ys cs).set j ⟨iZ ys[j],.int .i64 c,j⟩:=by
 refine List.ext_getElem? fun i=>?_;rcases Nat.lt_or_ge i ys.length with h|h
 ·rw[mh _ _ 0 i (by simp[hl]) h,List.getElem?_set]
  by_cases hij:j=i
  ·subst hij
   rw[if_pos rfl,if_pos (by rw[lC _ _ _ hl];exact hj)];simp[List.getD,hl▸hj]
  ·rw[if_neg hij,mh _ _ 0 i hl h]
   simp[List.getD,List.getElem?_set_ne hij]
 ·rw[List.getElem?_eq_none (by rw[lC _ _ _ (by simp[hl])];exact h),List.getElem?_eq_none (by rw[List.length_set,lC _ _ _ hl];exact h)]
structure mu (w:World) (B:Nat) (ys:List im) (cs:List Int):Prop where
 blk:w.heap[B]? =some (.map (nr 0 ys cs).toArray ys.length)
 len:ys.length=cs.length
 nodup:ys.Nodup
 wf:∀y∈ys,nQ y
theorem mu.keys {w:World} {B:Nat} {ys:List im} {cs:List Int} (h:mu w B ys cs):∀e∈nr 0 ys cs,∃l,keyOf Tryz.prog 217 e.key=some l:=fun e he=>by
 obtain⟨j,hj,rfl⟩:=List.getElem_of_mem he;have hj':j<ys.length:=by rw[←lC ys cs 0 h.len];exact hj
 have:=mh ys cs 0 j h.len hj';rw[mc hj] at this;rw[Option.some.inj this];exact xF (h.wf _ (List.getElem_mem hj'))
theorem mu.find {w:World} {B:Nat} {ys:List im} {cs:List Int} (h:mu w B ys cs) (w':World) {x:im} (hx:nQ x):
  (x ∉ ys∧(Instr.findKey 217 (iZ x) (nr 0 ys cs)).run Tryz.prog w' = .ok none w')∨(∃(j:Nat) (hj:j<ys.length),ys[j]=x∧(Instr.findKey 217 (iZ x) (nr 0 ys cs)).run Tryz.prog w' = .ok (some (j,.int .i64 (cs.getD j 0))) w'):=by
 obtain⟨l,g⟩:=xF hx;rcases r8.find w' g (nr 0 ys cs) h.keys with ⟨b,a⟩|⟨j,e,b,a,c⟩
 ·refine .inl ⟨fun i=>?_,b⟩
  obtain⟨j,hj,rfl⟩:=List.getElem_of_mem i;exact a _ (List.mem_of_getElem? (mh ys cs 0 j h.len hj)) rfl
 ·have hj:j<ys.length:=by rw[←lC ys cs 0 h.len];exact(List.getElem?_eq_some_iff.1 a).1
  have d:=mh ys cs 0 j h.len hj;rw[a] at d;have f:=Option.some.inj d;refine .inr ⟨j,hj,?_,?_⟩
  ·rw[f] at c;exact Ce c
  ·rw[b,f]
def tH (ys:List im) (cs:List Int) (x:im):Int:=cs.getD (ys.idxOf x) 0
theorem si {ys:List im} {cs:List Int} (hn:ys.Nodup) {j:Nat} (hj:j<ys.length):tH ys cs ys[j]=cs.getD j 0:=by
 unfold tH;rw[hn.idxOf_getElem]
theorem wF {ys:List im} {cs:List Int} (hl:ys.length=cs.length) {x:im} (hx:x ∉ ys):tH ys cs x=0:=by
 unfold tH;rw[List.idxOf_eq_length hx,hl];simp[List.getD]
theorem vE {ys:List im} {x:im} (hn:(ys++[x]).Nodup) (cs:List Int):tH (ys++[x]) cs x=cs.getD ys.length 0:=by
 have h:=si (cs:=cs) hn (j:=ys.length) sm;simpa using h
theorem mu.lookup {w:World} {B:Nat} {ys:List im} {cs:List Int} (h:mu w B ys cs) {x:im} (hx:nQ x):
  (Instr.lookup 215 (.map (some B)) (iZ x) false).run Tryz.prog w= .ok (.int .i64 (tH ys cs x)) w:=by
 obtain⟨l,f⟩:=xF hx;have c:=Tryz.underlying215;have d:(zeroValue 3).run Tryz.prog w= .ok (.int .i64 0) w:=ie;have b:=r8.check w (nr 0 ys cs).isEmpty f;unfold Instr.lookup;rcases h.find w hx with ⟨g,a⟩|⟨j,e,rfl,a⟩
 ·simp[run_underlying c,Go.getObj,Sem.run,h.blk,b,a,d,wF h.len g]
 ·simp[run_underlying c,Go.getObj,Sem.run,h.blk,b,a,d,si h.nodup e]
def lZ (w:World) (B:Nat) (o:Obj):World:= {w with heap:=w.heap.setIfInBounds B o}
theorem xr {w:World} {B:Nat} {o:Obj} (h:w.heap[B]? =some o):lZ w B o=w:=by
 unfold lZ;have:w.heap.setIfInBounds B o=w.heap:=by
  apply Array.ext_getElem?;intro k;rw[Array.getElem?_setIfInBounds];split
  ·rename_i hk
   subst hk;have:=(Array.getElem?_eq_some_iff.1 h).1;rw[if_pos this];exact h.symm
  ·rfl
 rw[this]
theorem rv {w:World} {B:Nat} {o o':Obj} (h:w.heap[B]? =some o'):(lZ w B o).heap[B]? =some o:=by
 have:=(Array.getElem?_eq_some_iff.1 h).1;simp[lZ,this]
theorem rC (w:World) (B:Nat) (o:Obj):Ch (fun k=>k=B) w (lZ w B o):=
 ⟨rfl,rfl,rfl,by simp[lZ],fun k hk hn=>by
  have hne:¬B=k:=fun e=>hn e.symm;simp[lZ,Array.getElem?_setIfInBounds,hne]⟩
theorem mu.entry {w:World} {B:Nat} {ys:List im} {cs:List Int} (h:mu w B ys cs) {x:im} (hx:nQ x):
  (x∈ys∧∃(j:Nat) (hj:j<ys.length),ys[j]=x∧(Instr.mapEntry 215 (.map (some B)) (iZ x)).run Tryz.prog w= .ok (.tuple #[.int .i64 (cs.getD j 0),.int .i64 j]) w)∨
  (x ∉ ys∧∃w',(Instr.mapEntry 215 (.map (some B)) (iZ x)).run Tryz.prog w= .ok (.tuple #[.int .i64 0,ys.length]) w'∧mu w' B (ys++[x]) (cs++[0])∧Ch (fun k=>k=B) w w'):=by
 obtain⟨l,g⟩:=xF hx;have n:=Tryz.underlying215;have p:(zeroValue 3).run Tryz.prog w= .ok (.int .i64 0) w:=ie;have d:=r8.check w false g;have q:=(Array.getElem?_eq_some_iff.1 h.blk).1;unfold Instr.mapEntry;rcases h.find w hx with ⟨m,c⟩|⟨j,hj,rfl,c⟩
 ·refine .inr ⟨m,lZ w B (.map (nr 0 (ys++[x]) (cs++[0])).toArray (ys.length+1)),?_,⟨?_,by simp[h.len],?_,?_⟩,rC _ _ _⟩
  ·simp[run_underlying n,Go.getObj,Go.setObj,Sem.run,h.blk,d,c,p,goInt,lZ,BJ ys cs x 0 h.len]
  ·rw[rv h.blk];simp
  ·exact List.nodup_append.2 ⟨h.nodup,by simp,by simp;intro a ha e;subst e;exact m ha⟩
  ·intro y b
   rcases List.mem_append.1 b with b|b
   ·exact h.wf y b
   ·obtain rfl:y=x:=by simpa using b
    exact hx
 ·refine .inl ⟨List.getElem_mem hj,j,hj,rfl,?_⟩
  have f:=mh ys cs 0 j h.len hj;have o:=r8.stays w g;have i:(nr 0 ys cs).toArray.modify j (fun e=> {e with key:=iZ ys[j]})=(nr 0 ys cs).toArray:=by
   apply Array.ext_getElem?;intro k;rw[Array.getElem?_modify];split
   ·rename_i hk
    subst hk;simp[f]
   ·rfl
  simp[run_underlying n,Go.getObj,Go.setObj,Sem.run,h.blk,d,c,goInt,f,o];simp at i;rw[i];exact xr h.blk
theorem mu.store {w:World} {B:Nat} {ys:List im} {cs:List Int} (h:mu w B ys cs) (j:Nat) (hj:j<ys.length) (c:Int) (mt:TypeId):
  ∃w',(Instr.entryStore mt (.map (some B)) (.int .i64 j) (.int .i64 c)).run Tryz.prog w= .ok () w'∧mu w' B ys (cs.set j c)∧Ch (fun k=>k=B) w w':=by
 have g:=(Array.getElem?_eq_some_iff.1 h.blk).1;have b:=mh ys cs 0 j h.len hj;have a:=lC ys cs 0 h.len;have d:(nr 0 ys cs).findIdx? (fun e=>(e.born:Int)==(j:Int))=some j:=by
  rw[List.findIdx?_eq_some_iff_getElem];refine⟨by rw[a];exact hj,?_,fun i l=>?_⟩
  ·have:=(List.getElem?_eq_some_iff.1 b).2
   rw[this];simp
  ·have:=(List.getElem?_eq_some_iff.1 (mh ys cs 0 i h.len gO)).2
   rw[this];simp;omega
 have f:(nr 0 ys cs).modify j (fun e=> {e with val:= .int .i64 c})=nr 0 ys (cs.set j c):=by
  rw[Dd ys cs j c h.len hj];apply List.ext_getElem?;intro k;rw[List.getElem?_modify,List.getElem?_set];split
  ·rename_i hk
   subst hk;rw[if_pos (by rw[a];exact hj),b];simp
  ·simp
 refine⟨lZ w B (.map (nr 0 ys (cs.set j c)).toArray ys.length),?_,⟨rv h.blk,by simp[h.len],h.nodup,h.wf⟩,rC _ _ _⟩;unfold Instr.entryStore;simp[Go.getObj,Go.setObj,Sem.run,h.blk,asInt,asIntOf,d,f,lZ]
end
end Go.Proofs.YtgilllnjhahkfaaGreat
