/- Parts of the proof: Nf5. -/
import Derived.Test.YtgilllnjhahkfaaGreatQ23
import Derived.Test.YtgilllnjhahkfaaGreatQ32
set_option linter.unusedVariables false
set_option linter.unusedSimpArgs false
set_option linter.unusedSectionVars false
set_option maxHeartbeats 4000000
set_option maxRecDepth 100000
namespace Go.Proofs.YtgilllnjhahkfaaGreat
open Go.RowKit
theorem Bi {w:World} {F:Nat→Prop} {A:Option Addr} {m c:Nat} {ps:List Int} (h:Rd (jN 5) w F (.slice A m c) (ps.map wJ)) (j:Nat) (hj:j<ps.length):
  ∃b o,A=some ⟨b,o,none⟩∧b<w.heap.size∧w.cell? ⟨b,o+j*5,none⟩=some (.int .i64 ps[j]):=by
 obtain⟨b,o,d,rfl,_,a,e,f⟩:=h.at_ j (by simpa using hj);have hr':d=((ps.map wJ)[j]'(by simpa using hj)).cs:=e;subst hr';have:=f 0 (.int .i64 ps[j]) (by simp[wJ]);exact⟨b,o,rfl,a,this⟩
theorem wl {n:gW} (h:jQ n=false):jz n=false:=nE fun hk=>by
 have:=((km n).1 hk).2.2.2.2.2.2.1;rw[h] at this;cases this
theorem rc {n:gW} (h:¬n.lanes.map (fun l=>l.proc)=ic n.id):jz n=false:=nE fun hk=>h ((km n).1 hk).2.2.2.2.2.2.2.2.1
theorem qR {n:gW} {k:Nat} (hk:k<n.lanes.length) (h:kG n n.lanes[k]=false):jz n=false:=by
 simp only[jz,sW,jw hk h,Bool.and_false]
theorem rk {n:gW} {ps:List Int} {k:Nat} (hk:k<n.lanes.length) (hp:k<ps.length) (h:(n.lanes.take k).map (fun l=>l.proc)=ps.take k) (he:n.lanes[k].proc=ps[k]):(n.lanes.take (k+1)).map (fun l=>l.proc)=ps.take (k+1):=by
 rw[qp hk,qp hp,List.map_append,h];simp[he]
theorem zH (n:gW) (vl vk vo vv vn:Value) (F:Nat→Prop) (w:World) (h:iA w F vl vk vo vv vn n):
  Calls Tryz.prog 21 #[.agg #[n.id,n.up,n.inc,n.g,vl,vk,vo,n.led,n.version,vv,vn,n.round,n.low]] w fun q w' =>q= .returned (.bool (jz n))∧Below w.heap.size w w':=by
 obtain⟨A1,c1,rfl,-⟩:=h.la.shape;obtain⟨A2,c2,rfl,-⟩:=h.ke.shape;obtain⟨A3,c3,rfl,-⟩:=h.ou.shape;obtain⟨A4,c4,rfl,-⟩:=h.vi.shape;obtain⟨A5,c5,rfl,-⟩:=h.kn.shape;obtain⟨W,hV,d,Z⟩:=n8 w (.cells #[n.id,n.up,n.inc,n.g,.slice A1 n.lanes.length c1,.slice A2 n.kept.length c2,.slice A3 n.outs.length c3,n.led,n.version,.slice A4 n.views.length c4,.slice A5 n.known.length c5,n.round,n.low] 37);go_enter Tryz.func21,Tryz.ntmps21;go_upto_region 1 with fail;rw[hV.out];clear hV;replace h:=h.below d;have av:=gL Z;obtain⟨d0,d1,d2,d3,d4,d5,d6,d7,d8,d9,E,G,H⟩:=hJ Z;refine kg [.rd [0,1],.mid 2,.rd [3,4,5,6],.mid 7,.mid 8,.rd [9,10,11,12,13],.mid 14,.rd [15,16,17,18,19],.mid 20,.mid 21,.rd [22,23,24,25,26],.mid 27,.mid 28,.rd [29,30,31,32,33],.mid 34,.rd [35,36,37,38],.mid 39] [40,41] ?_;refine vL ?_;intro N hN;go_wp2_with fail;refine gR (hN _ ?_);clear hN N;refine vM ?_;intro N hN;go_wp2_with fail;refine(i8 _ _ _ _).mono ?_;rintro e bZ ⟨c,hw⟩;subst bZ;obtain⟨bW,a0⟩:∃t,i2 n.id 0 2=t:=⟨_,rfl⟩;rw[a0] at c;have aN:=gP a0;clear a0;subst c;apply_assumption;refine vN (gY _ _) (hN _ _ ?_);clear hN;cases bW
 case false=>
  have j:=gP (show jz n=false from nE fun z=>by have:=(km n).1 z;simp[aN.out] at this)
  repeat (first|(refine vL ?_;intro N hN;go_wp2_with fail;refine gR (hN _ ?_);clear hN N)|(refine vM ?_;intro N hN;go_wp2_with fail;refine vN (gY _ _) (hN _ _ ?_);clear hN))
  refine vF ?_;have a:=gP (gY W.heap.size W).drew;go_wp2_with fail;go_ret;exact⟨by rw[j.out];rfl,gQ d a.out d.size⟩
 refine vL ?_;intro N hN;go_wp2_with fail;refine gR (hN _ ?_);clear hN N;refine vM ?_;intro N hN;go_wp2_with fail;refine(nd _).mono ?_;rintro e b3 ⟨c,hw⟩;subst b3;subst c;apply_assumption;refine vN (gY _ _) (hN _ _ ?_);clear hN;refine vM ?_;intro N hN;go_wp2_with fail;refine(i8 _ _ _ _).mono ?_;rintro e b4 ⟨c,hw⟩;subst b4;obtain⟨bX,a1⟩:∃t,i2 n.inc 1 9999=t:=⟨_,rfl⟩;rw[a1] at c;have bj:=gP a1;clear a1;subst c;apply_assumption;refine vN (gY _ _) (hN _ _ ?_);clear hN;cases bX
 case false=>
  have j:=gP (show jz n=false from nE fun z=>by have:=(km n).1 z;simp[bj.out] at this)
  repeat (first|(refine vL ?_;intro N hN;go_wp2_with fail;refine gR (hN _ ?_);clear hN N)|(refine vM ?_;intro N hN;go_wp2_with fail;refine vN (gY _ _) (hN _ _ ?_);clear hN))
  refine vF ?_;have a:=gP (gY W.heap.size W).drew;go_wp2_with fail;go_ret;exact⟨by rw[j.out];rfl,gQ d a.out d.size⟩
 refine vL ?_;intro N hN;go_wp2_with fail;refine gR (hN _ ?_);clear hN N;refine vM ?_;intro N hN;go_wp2_with fail;refine(i8 _ _ _ _).mono ?_;rintro e bD ⟨c,hw⟩;subst bD;obtain⟨bx,az⟩:∃t,i2 n.g 0 41=t:=⟨_,rfl⟩;rw[az] at c;have aM:=gP az;clear az;subst c;apply_assumption;refine vN (gY _ _) (hN _ _ ?_);clear hN;cases bx
 case false=>
  have j:=gP (show jz n=false from nE fun z=>by have:=(km n).1 z;simp[aM.out] at this)
  repeat (first|(refine vL ?_;intro N hN;go_wp2_with fail;refine gR (hN _ ?_);clear hN N)|(refine vM ?_;intro N hN;go_wp2_with fail;refine vN (gY _ _) (hN _ _ ?_);clear hN))
  refine vF ?_;have a:=gP (gY W.heap.size W).drew;go_wp2_with fail;go_ret;exact⟨by rw[j.out];rfl,gQ d a.out d.size⟩
 refine vL ?_;intro N hN;go_wp2_with fail;refine gR (hN _ ?_);clear hN N;refine vM ?_;intro N hN;go_wp2_with fail;refine(nd _).mono ?_;rintro e bE ⟨c,hw⟩;subst bE;subst c;apply_assumption;refine vN (gY _ _) (hN _ _ ?_);clear hN;refine vM ?_;intro N hN;go_wp2_with fail;refine(i8 _ _ _ _).mono ?_;rintro e bF ⟨c,hw⟩;subst bF;obtain⟨bz,aA⟩:∃t,i2 n.led 0 9999=t:=⟨_,rfl⟩;rw[aA] at c;have aO:=gP aA;clear aA;subst c;apply_assumption;refine vN (gY _ _) (hN _ _ ?_);clear hN;cases bz
 case false=>
  have j:=gP (show jz n=false from nE fun z=>by have:=(km n).1 z;simp[aO.out] at this)
  repeat (first|(refine vL ?_;intro N hN;go_wp2_with fail;refine gR (hN _ ?_);clear hN N)|(refine vM ?_;intro N hN;go_wp2_with fail;refine vN (gY _ _) (hN _ _ ?_);clear hN))
  refine vF ?_;have a:=gP (gY W.heap.size W).drew;go_wp2_with fail;go_ret;exact⟨by rw[j.out];rfl,gQ d a.out d.size⟩
 refine vL ?_;intro N hN;go_wp2_with fail;refine gR (hN _ ?_);clear hN N;refine vM ?_;intro N hN;go_wp2_with fail;refine(nR _).mono ?_;rintro e bG ⟨c,hw⟩;subst bG;subst c;apply_assumption;refine vN (gY _ _) (hN _ _ ?_);clear hN;refine vM ?_;intro N hN;go_wp2_with fail;refine(oY _ n.kept _ F _ (h.ke.below (gY W.heap.size W).drew)).mono ?_;rintro e cw ⟨c,aH⟩;have B:=aH;clear aH;obtain⟨bA,aB⟩:∃t,jK n.kept 100=t:=⟨_,rfl⟩;rw[aB] at c;have aP:=gP aB;clear aB;subst c;apply_assumption;refine vN B (hN _ _ ?_);clear hN;cases bA
 case false=>
  have j:=gP (show jz n=false from nE fun z=>by have:=(km n).1 z;simp[aP.out] at this)
  repeat (first|(refine vL ?_;intro N hN;go_wp2_with fail;refine gR (hN _ ?_);clear hN N)|(refine vM ?_;intro N hN;go_wp2_with fail;refine vN B (hN _ _ ?_);clear hN))
  refine vF ?_;have a:=gP ((gV ((gY W.heap.size W).drew) B));go_wp2_with fail;go_ret;exact⟨by rw[j.out];rfl,gQ d a.out d.size⟩
 refine vL ?_;intro N hN;go_wp2_with fail;refine gR (hN _ ?_);clear hN N;refine vM ?_;intro N hN;go_wp2_with fail;refine(yq _ n.outs _ F _ (h.ou.below (gV ((gY W.heap.size W).drew) B))).mono ?_;rintro e cx ⟨c,aI⟩;have C:=gQ B aI (Below.size B);clear aI;obtain⟨bB,aC⟩:∃t,jA n.outs 96=t:=⟨_,rfl⟩;rw[aC] at c;have an:=gP aC;clear aC;subst c;apply_assumption;refine vN C (hN _ _ ?_);clear hN;cases bB
 case false=>
  have j:=gP (show jz n=false from nE fun z=>by have:=(km n).1 z;simp[an.out] at this)
  repeat (first|(refine vL ?_;intro N hN;go_wp2_with fail;refine gR (hN _ ?_);clear hN N)|(refine vM ?_;intro N hN;go_wp2_with fail;refine vN C (hN _ _ ?_);clear hN))
  refine vF ?_;have a:=gP ((gV ((gY W.heap.size W).drew) C));go_wp2_with fail;go_ret;exact⟨by rw[j.out];rfl,gQ d a.out d.size⟩
 refine vL ?_;intro N hN;go_wp2_with fail;refine gR (hN _ ?_);clear hN N;refine vM ?_;intro N hN;go_wp2_with fail;refine(zT n _ _ _ _ _ F _ (h.below (gV ((gY W.heap.size W).drew) C))).mono ?_;rintro e bH ⟨c,aJ⟩;have L:=gQ C aJ (Below.size C);clear aJ;obtain⟨bC,aD⟩:∃t,jQ n=t:=⟨_,rfl⟩;rw[aD] at c;have aQ:=gP aD;clear aD;subst c;apply_assumption;refine vN L (hN _ _ ?_);clear hN;cases bC
 case false=>
  have j:=gP (wl aQ.out)
  repeat (first|(refine vL ?_;intro N hN;go_wp2_with fail;refine gR (hN _ ?_);clear hN N)|(refine vM ?_;intro N hN;go_wp2_with fail;refine vN L (hN _ _ ?_);clear hN))
  refine vF ?_;have a:=gP ((gV ((gY W.heap.size W).drew) L));go_wp2_with fail;go_ret;exact⟨by rw[j.out];rfl,gQ d a.out d.size⟩
 refine vF ?_;have bh:=gP (gV ((gY W.heap.size W).drew) L);go_upto_region 3 with fail;obtain⟨V,hV⟩:∃V,V=bH:=⟨_,rfl⟩;have HV:Below W.heap.size W V:=hV▸bh.out;subst hV;have ZV:=gJ HV av Z;clear bh B C L;clear d0 d1 d2 d3 d4 d5 d6 d7 d8 d9 E G H;obtain⟨d0,d1,d2,d3,d4,d5,d6,d7,d8,d9,E,G,H⟩:=hJ ZV;have hV:=h.below HV;have bk:=gQ d HV d.size
 go_cut [65] (fun t wc=>∃bt,t= .bool bt∧Hid (decide (0<n.outs.length∧¬∀o∈n.outs,o.time<n.g)=bt)∧∃m,wc=V.drewN m)
 case first=>
  by_cases q0:n.outs.length=0
  ·have e0:decide ((n.outs.length:Int)>0)=false:=iU gO
   have e1:decide (0<n.outs.length)=false:=iU gO;have HD:=gP (show decide (0<n.outs.length∧¬∀o∈n.outs,o.time<n.g)=false by simp[q0]);clear q0
   go_quiet (fail)
   go_wp2_with fail;go_meet;exact⟨_,rfl,HD,_,rfl⟩
  ·have hp:n.outs.length-1<n.outs.length:=gO
   have e0:decide ((n.outs.length:Int)>0)=true:=jT gO;have e1:decide (0<n.outs.length)=true:=jT gO;have p1:(0:Int)≤(n.outs.length:Int)-1:=gO;have p2:(n.outs.length:Int)-1<(n.outs.length:Int):=gO;have p3:(1:Int)≤(n.outs.length:Int):=gO;have p4:1≤n.outs.length:=gO;have cr:n.outs.length≤96:=sb (m:=96) an.out;have p5:IntKind.i64.wrap ((n.outs.length:Int)-1)=(n.outs.length:Int)-1:=IntWalk.i64_in _ gO;have cy:((n.outs.length:Int)-1).toNat=n.outs.length-1:=gO;obtain⟨b0,o0,hA,bm,y0,y1,y2,y3,y4⟩:=ko hV.ou (n.outs.length-1) hp;subst hA;obtain⟨y,hy⟩:∃y,n.outs[n.outs.length-1]=y:=⟨_,rfl⟩;rw[hy] at y0 y1 y2 y3 y4;by_cases q4:n.g≤y.time
   ·have hd:decide (n.g≤y.time)=true:=jT q4
    have HD:=gP (show decide (0<n.outs.length∧¬∀o∈n.outs,o.time<n.g)=true from jT ⟨gO,fun ha=>by have:=ha _ (List.getElem_mem hp);rw[hy] at this;omega⟩);clear q4 hy q0
    go_quiet (fail)
    go_wp2_with fail;go_meet;exact⟨_,rfl,HD,_,rfl⟩
   ·have hd:decide (n.g≤y.time)=false:=iU q4
    have HD:=gP (show decide (0<n.outs.length∧¬∀o∈n.outs,o.time<n.g)=false from iU fun ha=>ha.2 (CI an.out hp (by rw[hy];omega)));clear q4 hy q0
    go_quiet (fail)
    go_wp2_with fail;go_meet;exact⟨_,rfl,HD,_,rfl⟩
 case rest=>
  obtain⟨bt,rfl,HD,m,rfl⟩:=hcut;cases bt
  case true=>
   have j:=gP (show jz n=false from nE fun z=>(of_decide_eq_true HD.out).2 ((km n).1 z).2.2.2.2.2.2.2.1);go_wp2_with fail;go_ret;exact⟨by rw[j.out];rfl,jG bk m⟩
  case false=>
   have bL:=gP (show ∀o∈n.outs,o.time<n.g from fun o ho=>Classical.not_not.1 fun z=>of_decide_eq_false HD.out ⟨List.length_pos_of_mem ho,fun ha=>z (ha o ho)⟩);have aF:Below W.heap.size W (V.drewN m):=jG HV m;clear hV HV bk ZV;generalize V.drewN m=U at*;have ZU:=gJ aF av Z;clear d0 d1 d2 d3 d4 d5 d6 d7 d8 d9 E G H;obtain⟨d0,d1,d2,d3,d4,d5,d6,d7,d8,d9,E,G,H⟩:=hJ ZU;go_wp2_with fail;refine(Au n.id _).mono ?_;rintro q w5 ⟨u5,rfl,aG,bn⟩;obtain⟨v,aZ⟩:∃v,ic n.id=v:=⟨_,rfl⟩;rw[aZ] at aG;have P:=gP aZ;clear aZ;obtain⟨P1,pc,bo,-⟩:=aG.shape;rw[List.length_map] at bo;subst bo;have ap:=gQ aF bn aF.size;have a2:=ap.size;have Z5:=gJ ap av Z;clear d0 d1 d2 d3 d4 d5 d6 d7 d8 d9 E G H;obtain⟨d0,d1,d2,d3,d4,d5,d6,d7,d8,d9,E,G,H⟩:=hJ Z5;clear aF ZU bn;apply_assumption;by_cases q6:n.lanes.length=v.length
   case neg=>
    have j:=gP (rc (n:=n) (fun e=>q6 (by have:=congrArg List.length e;rw[List.length_map,P.out] at this;exact this)));have e6:((n.lanes.length:Int) !=(v.length:Int))=true:=by simpa using (show ¬(n.lanes.length:Int)=(v.length:Int) by omega)
    clear q6;go_wp2_with fail;go_ret;exact⟨by rw[j.out];rfl,gQ d ap d.size⟩
   have e6:((n.lanes.length:Int) !=(v.length:Int))=false:=by simp[q6]
   have Q6:=gP q6;have ct:v.length≤2:=by rw[←P.out];exact tp aN.out
   clear q6;go_wp2_with fail;obtain⟨X,hX⟩:∃X,X=w5:=⟨_,rfl⟩;subst hX
   go_loopw [4] (fun i wr=>∃k:Nat,i= .int .i64 k∧k≤v.length∧Hid ((n.lanes.take k).all iW=true∧(n.lanes.take k).map (fun l=>l.proc)=v.take k)∧Below X.heap.size X wr) (fun i _=>v.length-(intOf i).toNat)
   case atStart=>exact⟨0,rfl,jP _,gP ⟨rfl,rfl⟩,gY _ _⟩
   case round=>
    obtain⟨k,rfl,z,HA,R⟩:=hrel;have f:=gQ ap R a2;have Zr:=gJ f av Z;clear d0 d1 d2 d3 d4 d5 d6 d7 d8 d9 E G H;obtain⟨d0,d1,d2,d3,d4,d5,d6,d7,d8,d9,E,G,H⟩:=hJ Zr;have hr:=h.below f;have hw:=aG.rd.below R;have a3:=f.size;by_cases hlt:k<v.length
    ·have Y:k<n.lanes.length:=by have:=Q6.out;omega
     have p0:(k:Int)<(v.length:Int):=gO;have p1:(k:Int)<(n.lanes.length:Int):=gO;obtain⟨b0,o0,A6,c6,aU,bm,y0,⟨y1,y2,y3⟩,y4,r1⟩:=kV hr.la k Y;subst aU;obtain⟨b1,o1,aV,bS,z0⟩:=Bi hw k hlt;subst aV;obtain⟨x,hx⟩:∃x,n.lanes[k]=x:=⟨_,rfl⟩;have HX:=gP hx;rw[hx] at y0 y1 y2 y3 y4 r1;clear hx;obtain⟨p,hp⟩:∃p,v[k]=p:=⟨_,rfl⟩;have HP:=gP hp;rw[hp] at z0;clear hp;have O:=gP Y;go_upto_region 11 with fail;by_cases q2:x.proc=p
     case neg=>
      have e2:(x.proc !=p)=true:=by simpa using q2
      have bi:=gP (rc (n:=n) (fun e=>q2 (by rw[←HX.out,←HP.out];have aY:k<(ic n.id).length:=(by rw[P.out];exact hlt);have:=tl e O.out aY;rw[this];simp only[P.out])));clear q2;refine kg [.rd [0,1,2,3,4],.mid 5,.rd [6,7,8,9,10,11,12,13,14,15,16,17,18,19]] [20] ?_;refine vL ?_;intro N hN;go_wp2_with fail;refine gR (hN _ ?_);clear hN N;refine vM ?_;intro N hN;go_wp2_with fail;refine(oQ x _ F _ (r1.below (gY wr.heap.size wr).drew)).mono ?_;rintro e b2 ⟨c,T⟩;have D:=T;clear T;obtain⟨a5,ab⟩:∃t,iW x=t:=⟨_,rfl⟩;rw[ab] at c;have aR:=gP ab;clear ab;subst c;apply_assumption;refine vN D (hN _ _ ?_);clear hN;cases a5
      case false=>
       have j:=bi
       repeat (first|(refine vL ?_;intro N hN;go_wp2_with fail;refine gR (hN _ ?_);clear hN N)|(refine vM ?_;intro N hN;go_wp2_with fail;refine vN D (hN _ _ ?_);clear hN))
       refine vF ?_;have a:=gP ((gV ((gY wr.heap.size wr).drew) D));go_wp2_with fail;go_ret;exact⟨by rw[j.out];rfl,gQ d (gQ f a.out f.size) d.size⟩
      refine vL ?_;intro N hN;go_wp2_with fail;refine gR (hN _ ?_);clear hN N;refine vF ?_;have j:=bi;have a:=gP ((gV ((gY wr.heap.size wr).drew) D));go_wp2_with fail;go_ret;exact⟨by rw[j.out];rfl,gQ d (gQ f a.out f.size) d.size⟩
     have e2:(x.proc !=p)=false:=by simp[q2]
     have bM:=gP q2;clear q2;refine kg [.rd [0,1,2,3,4],.mid 5,.rd [6,7,8,9,10,11,12,13,14,15,16,17,18,19]] [20] ?_;refine vL ?_;intro N hN;go_wp2_with fail;refine gR (hN _ ?_);clear hN N;refine vM ?_;intro N hN;go_wp2_with fail;refine(oQ x _ F _ (r1.below (gY wr.heap.size wr).drew)).mono ?_;rintro e b2 ⟨c,T⟩;have D:=T;clear T;obtain⟨a5,ab⟩:∃t,iW x=t:=⟨_,rfl⟩;rw[ab] at c;have aR:=gP ab;clear ab;subst c;apply_assumption;refine vN D (hN _ _ ?_);clear hN;cases a5
     case false=>
      have j:=gP (show jz n=false from nE fun z=>by have h9:=((km n).1 z).2.2.2.2.2.2.2.2.2;rw[jw O.out (by rw[HX.out];exact aR.out)] at h9;cases h9)
      repeat (first|(refine vL ?_;intro N hN;go_wp2_with fail;refine gR (hN _ ?_);clear hN N)|(refine vM ?_;intro N hN;go_wp2_with fail;refine vN D (hN _ _ ?_);clear hN))
      refine vF ?_;have a:=gP ((gV ((gY wr.heap.size wr).drew) D));go_wp2_with fail;go_ret;exact⟨by rw[j.out];rfl,gQ d (gQ f a.out f.size) d.size⟩
     refine vL ?_;intro N hN;go_wp2_with fail;refine gR (hN _ ?_);clear hN N;refine vF ?_;have a:=gP (gQ R ((gV ((gY wr.heap.size wr).drew) D)) R.size);have HS:=gP (And.intro (jI (p:=iW) O.out HA.out.1 (by rw[HX.out];exact aR.out)) (rk O.out hlt HA.out.2 (by rw[HX.out,HP.out];exact bM.out)));go_wp2_with fail;go_roundw
     case rel=>exact⟨k+1,by go_num,gO,HS,a.out⟩
     case measure=>exact ms
    ·have aK:k=v.length:=gO
     have p0:¬(k:Int)<(v.length:Int):=gO;have aL:=gP (show jO n=true from (km n).2 ⟨aN.out,bj.out,aM.out,aO.out,aP.out,an.out,aQ.out,bL.out,(by have h2:=HA.out.2;rw[List.take_of_length_le (by have:=Q6.out;omega),aK,ld,←P.out] at h2;exact h2),(by have h1:=HA.out.1;rwa [List.take_of_length_le (by have:=Q6.out;omega)] at h1)⟩);have I:=nV aL.out;clear aK;go_wp2_with fail
     go_loopw [5] (fun i wr=>∃k:Nat,i= .int .i64 k∧k≤v.length∧Hid ((n.lanes.take k).all (kG n)=true)∧Below X.heap.size X wr) (fun i _=>v.length-(intOf i).toNat)
     case atStart=>exact⟨0,rfl,jP _,gP rfl,R⟩
     case round=>
      clear z R f Zr hr hw a3 p0;obtain⟨k,rfl,z,HA,R⟩:=hrel;have f:=gQ ap R a2;have Zr:=gJ f av Z;clear d0 d1 d2 d3 d4 d5 d6 d7 d8 d9 E G H;obtain⟨d0,d1,d2,d3,d4,d5,d6,d7,d8,d9,E,G,H⟩:=hJ Zr;have hr:=h.below f;have hw:=aG.rd.below R;have a3:=f.size;by_cases hlt:k<v.length
      ·have Y:k<n.lanes.length:=by have:=Q6.out;omega
       have p0:(k:Int)<(v.length:Int):=gO;have p1:(k:Int)<(n.lanes.length:Int):=gO;obtain⟨b0,o0,A6,c6,aU,bm,y0,⟨y1,y2,y3⟩,y4,r1⟩:=kV hr.la k Y;subst aU;obtain⟨b1,o1,aV,bS,z0⟩:=Bi hw k hlt;subst aV;have ar:=gP (show n.lanes[k].proc=v[k] by have aY:k<(ic n.id).length:=(by rw[P.out];exact hlt);have:=tl ((km n).1 aL.out).2.2.2.2.2.2.2.2.1 Y aY;rw[this];simp only[P.out]);have aX:=I.done n.lanes[k] (List.getElem_mem Y);obtain⟨x,hx⟩:∃x,n.lanes[k]=x:=⟨_,rfl⟩;have HX:=gP hx;rw[hx] at y0 y1 y2 y3 y4 r1 ar aX;clear hx;have cA:=aX.1;clear aX;obtain⟨p,hp⟩:∃p,v[k]=p:=⟨_,rfl⟩;have HP:=gP hp;rw[hp] at z0 ar;clear hp;have O:=gP Y;obtain⟨J,aW⟩:∃J,iT n p=J:=⟨_,rfl⟩;have M:=gP aW;obtain⟨s,hs⟩:∃s,il x.done J=s:=⟨_,rfl⟩;have HS:=gP hs;have cB:s≤x.done.length:=by rw[←hs];exact(lR _ _).1
       have cz:J.length≤1000:=by have h9:=EQ I p;rw[aW] at h9;omega
       clear hs aW;go_upto_region 16 with fail;by_cases q1:s<x.done.length
       case pos=>
        have e1:decide ((s:Int)<(x.done.length:Int))=true:=jT gO;have e2:decide (s<x.done.length)=true:=jT q1;have j:=gP (qR O.out (by rw[HX.out];simp[kG,ar.out,M.out,HS.out];omega));clear q1;refine kg [.rd [0,1,2,3,4,5,6,7,8,9,10,13,14,15,16,17,18,19],.mid 11,.mid 12,.rd [20,21,22,23,24,25,26,27],.mid 28,.rd [29],.mid 30] [31,32] ?_;refine vL ?_;intro N hN;go_wp2_with fail;refine gR (hN _ ?_);clear hN N;refine vM ?_;intro N hN;go_wp2_with fail;refine(mO n _ _ _ _ _ p F _ (hr.below (gY wr.heap.size wr).drew) I).mono ?_;rintro q bp ⟨u11,rfl,u,r⟩;rw[M.out] at u;obtain⟨C1,bl,rfl,-⟩:=u.shape;apply_assumption;refine vN r (hN _ _ ?_);clear hN;refine vM ?_;intro N hN;go_wp2_with fail;refine(oW x _ _ J F _ _ (r1.below (gV (gY wr.heap.size wr).drew r)) u.rd).mono ?_;rintro q bq ⟨rfl,S⟩;rw[HS.out];have b:=gQ r S r.size;apply_assumption;refine vN b (hN _ _ ?_);clear hN;refine vL ?_;intro N hN;go_wp2_with fail;refine gR (hN _ ?_);clear hN N;refine vM ?_;intro N hN;go_wp2_with fail;refine vN b (hN _ _ ?_);clear hN;refine vL ?_;intro N hN;go_wp2_with fail;refine gR (hN _ ?_);clear hN N;refine vM ?_;intro N hN;go_wp2_with fail;refine vN b (hN _ _ ?_);clear hN;refine vF ?_;have a:=gP (gV (gY wr.heap.size wr).drew b);go_wp2_with fail;go_ret;exact⟨by rw[j.out];rfl,gQ d (gQ f a.out f.size) d.size⟩
       have e1:decide ((s:Int)<(x.done.length:Int))=false:=iU gO;have e2:decide (s<x.done.length)=false:=iU q1;by_cases q2:100<J.length
       case pos=>
        have e3:decide ((J.length:Int)>100)=true:=jT gO;have e4:decide (100<J.length)=true:=jT q2;have e5:decide ((100:Int)<(J.length:Int))=true:=jT gO;have j:=gP (qR O.out (by rw[HX.out];simp[kG,ar.out,M.out,HS.out];omega));clear q2;refine kg [.rd [0,1,2,3,4,5,6,7,8,9,10,13,14,15,16,17,18,19],.mid 11,.mid 12,.rd [20,21,22,23,24,25,26,27],.mid 28,.rd [29],.mid 30] [31,32] ?_;refine vL ?_;intro N hN;go_wp2_with fail;refine gR (hN _ ?_);clear hN N;refine vM ?_;intro N hN;go_wp2_with fail;refine(mO n _ _ _ _ _ p F _ (hr.below (gY wr.heap.size wr).drew) I).mono ?_;rintro q bp ⟨u11,rfl,u,r⟩;rw[M.out] at u;obtain⟨C1,bl,rfl,-⟩:=u.shape;apply_assumption;refine vN r (hN _ _ ?_);clear hN;refine vM ?_;intro N hN;go_wp2_with fail;refine(oW x _ _ J F _ _ (r1.below (gV (gY wr.heap.size wr).drew r)) u.rd).mono ?_;rintro q bq ⟨rfl,S⟩;rw[HS.out];have b:=gQ r S r.size;apply_assumption;refine vN b (hN _ _ ?_);clear hN;refine vL ?_;intro N hN;go_wp2_with fail;refine gR (hN _ ?_);clear hN N;refine vM ?_;intro N hN;go_wp2_with fail;refine(mO n _ _ _ _ _ p F _ (hr.below (gV (gY wr.heap.size wr).drew b)) I).mono ?_;rintro q bY ⟨u28,rfl,Q,ay⟩;rw[M.out] at Q;obtain⟨C2,bQ,rfl,-⟩:=Q.shape;have A:=gQ b ay b.size;apply_assumption;refine vN A (hN _ _ ?_);clear hN;refine vL ?_;intro N hN;go_wp2_with fail;refine gR (hN _ ?_);clear hN N;refine vM ?_;intro N hN;go_wp2_with fail;refine(nR _).mono ?_;rintro e a6 ⟨c,bw⟩;subst a6;subst c;apply_assumption;refine vN A (hN _ _ ?_);clear hN;refine vF ?_;have a:=gP (gV (gY wr.heap.size wr).drew A);go_wp2_with fail;go_ret;exact⟨by rw[j.out];rfl,gQ d (gQ f a.out f.size) d.size⟩
       have e3:decide ((J.length:Int)>100)=false:=iU gO;have e4:decide (100<J.length)=false:=iU q2;have e5:decide ((100:Int)<(J.length:Int))=false:=iU gO;have bK:=gP (jI (p:=kG n) O.out HA.out (by rw[HX.out];simp[kG,ar.out,M.out,HS.out];omega));clear q2;refine kg [.rd [0,1,2,3,4,5,6,7,8,9,10,13,14,15,16,17,18,19],.mid 11,.mid 12,.rd [20,21,22,23,24,25,26,27],.mid 28,.rd [29],.mid 30] [31,32] ?_;refine vL ?_;intro N hN;go_wp2_with fail;refine gR (hN _ ?_);clear hN N;refine vM ?_;intro N hN;go_wp2_with fail;refine(mO n _ _ _ _ _ p F _ (hr.below (gY wr.heap.size wr).drew) I).mono ?_;rintro q bp ⟨u11,rfl,u,r⟩;rw[M.out] at u;obtain⟨C1,bl,rfl,-⟩:=u.shape;apply_assumption;refine vN r (hN _ _ ?_);clear hN;refine vM ?_;intro N hN;go_wp2_with fail;refine(oW x _ _ J F _ _ (r1.below (gV (gY wr.heap.size wr).drew r)) u.rd).mono ?_;rintro q bq ⟨rfl,S⟩;rw[HS.out];have b:=gQ r S r.size;apply_assumption;refine vN b (hN _ _ ?_);clear hN;refine vL ?_;intro N hN;go_wp2_with fail;refine gR (hN _ ?_);clear hN N;refine vM ?_;intro N hN;go_wp2_with fail;refine(mO n _ _ _ _ _ p F _ (hr.below (gV (gY wr.heap.size wr).drew b)) I).mono ?_;rintro q bY ⟨u28,rfl,Q,ay⟩;rw[M.out] at Q;obtain⟨C2,bQ,rfl,-⟩:=Q.shape;have A:=gQ b ay b.size;apply_assumption;refine vN A (hN _ _ ?_);clear hN;refine vL ?_;intro N hN;go_wp2_with fail;refine gR (hN _ ?_);clear hN N;refine vM ?_;intro N hN;go_wp2_with fail;refine(nR _).mono ?_;rintro e a6 ⟨c,bw⟩;subst a6;subst c;apply_assumption;refine vN A (hN _ _ ?_);clear hN;refine vF ?_;have a:=gP (gQ R (gV (gY wr.heap.size wr).drew A) R.size);go_wp2_with fail;go_roundw
       case rel=>exact⟨k+1,by go_num,gO,bK,a.out⟩
       case measure=>exact ms
      ·have aK:k=v.length:=gO
       have p0:¬(k:Int)<(v.length:Int):=gO;have j:=gP (show jz n=true by have h1:=HA.out;rw[List.take_of_length_le (by have:=Q6.out;omega)] at h1;simp only[jz,aL.out,sW,h1,Bool.and_self]);clear aK;go_wp2_with fail;go_ret;exact⟨by rw[j.out];rfl,gQ d f d.size⟩
end Go.Proofs.YtgilllnjhahkfaaGreat
