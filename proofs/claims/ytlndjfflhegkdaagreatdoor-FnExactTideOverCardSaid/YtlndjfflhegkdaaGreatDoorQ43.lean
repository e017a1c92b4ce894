/- Parts of the proof: Nf5. -/
import Derived.Test.YtlndjfflhegkdaaGreatDoorQ27
import Derived.Test.YtlndjfflhegkdaaGreatDoorQ33
import Derived.Test.YtlndjfflhegkdaaGreatDoorQ36
set_option linter.unusedVariables false
set_option linter.unusedSimpArgs false
set_option linter.unusedSectionVars false
set_option maxHeartbeats 4000000
set_option maxRecDepth 100000
namespace Go.Proofs.YtlndjfflhegkdaaGreatDoor
open Go.RowKit
theorem Ae {w:World} {F:Nat→Prop} {A:Option Addr} {m c:Nat} {ps:List Int} (h:Rd (kF 5) w F (.slice A m c) (ps.map wR)) (j:Nat) (hj:j<ps.length):
  ∃b o,A=some ⟨b,o,none⟩∧b<w.heap.size∧w.cell? ⟨b,o+j*5,none⟩=some (.int .i64 ps[j]):=by
 obtain⟨b,o,d,rfl,_,a,e,f⟩:=h.at_ j (by simpa using hj);have hr':d=((ps.map wR)[j]'(by simpa using hj)).cs:=e;subst hr';have:=f 0 (.int .i64 ps[j]) (by simp[wR]);exact⟨b,o,rfl,a,this⟩
theorem vY {n:gT} (h:jp n=false):jt n=false:=ns fun hk=>by
 have:=((kD n).1 hk).2.2.2.2.2.2.1;rw[h] at this;cases this
theorem qO {n:gT} (h:¬n.lanes.map (fun l=>l.proc)=iO n.id):jt n=false:=ns fun hk=>h ((kD n).1 hk).2.2.2.2.2.2.2.2.1
theorem qB {n:gT} {k:Nat} (hk:k<n.lanes.length) (h:kb n n.lanes[k]=false):jt n=false:=by
 simp only[jt,so,ig hk h,Bool.and_false]
theorem qN {n:gT} {ps:List Int} {k:Nat} (hk:k<n.lanes.length) (hp:k<ps.length) (h:(n.lanes.take k).map (fun l=>l.proc)=ps.take k) (he:n.lanes[k].proc=ps[k]):(n.lanes.take (k+1)).map (fun l=>l.proc)=ps.take (k+1):=by
 rw[vX hk,vX hp,List.map_append,h];simp[he]
theorem BG (n:gT) (vl vk vo vv vn:Value) (F:Nat→Prop) (w:World) (h:i4 w F vl vk vo vv vn n):
  Calls Tryz.prog 35 #[.agg #[n.id,n.up,n.inc,n.g,vl,vk,vo,n.led,n.version,vv,vn,n.round,n.low]] w fun q w' =>q= .returned (.bool (jt n))∧Below w.heap.size w w':=by
 obtain⟨A1,c1,rfl,-⟩:=h.la.shape;obtain⟨A2,c2,rfl,-⟩:=h.ke.shape;obtain⟨A3,c3,rfl,-⟩:=h.ou.shape;obtain⟨A4,c4,rfl,-⟩:=h.vi.shape;obtain⟨A5,c5,rfl,-⟩:=h.kn.shape;obtain⟨W,hV,d,Z⟩:=nC w (.cells #[n.id,n.up,n.inc,n.g,.slice A1 n.lanes.length c1,.slice A2 n.kept.length c2,.slice A3 n.outs.length c3,n.led,n.version,.slice A4 n.views.length c4,.slice A5 n.known.length c5,n.round,n.low] 57);go_enter Tryz.func35,Tryz.ntmps35;go_upto_region 1 with fail;rw[hV.out];clear hV;replace h:=h.below d;have av:=fx Z;obtain⟨d0,d1,d2,d3,d4,d5,d6,d7,d8,d9,E,G,H⟩:=jS Z;refine kA [.rd [0,1],.mid 2,.rd [3,4,5,6],.mid 7,.mid 8,.rd [9,10,11,12,13],.mid 14,.rd [15,16,17,18,19],.mid 20,.mid 21,.rd [22,23,24,25,26],.mid 27,.mid 28,.rd [29,30,31,32,33],.mid 34,.rd [35,36,37,38],.mid 39] [40,41] ?_;refine vL ?_;intro N hN;go_wp2_with fail;refine fV (hN _ ?_);clear hN N;refine vM ?_;intro N hN;go_wp2_with fail;refine(ii _ _ _ _).mono ?_;rintro e bZ ⟨c,hw⟩;subst bZ;obtain⟨bW,a0⟩:∃t,ib n.id 0 2=t:=⟨_,rfl⟩;rw[a0] at c;have aN:=fS a0;clear a0;subst c;apply_assumption;refine vN (gM _ _) (hN _ _ ?_);clear hN;cases bW
 case false=>
  have j:=fS (show jt n=false from ns fun z=>by have:=(kD n).1 z;simp[aN.out] at this)
  repeat (first|(refine vL ?_;intro N hN;go_wp2_with fail;refine fV (hN _ ?_);clear hN N)|(refine vM ?_;intro N hN;go_wp2_with fail;refine vN (gM _ _) (hN _ _ ?_);clear hN))
  refine vF ?_;have a:=fS (gM W.heap.size W).drew;go_wp2_with fail;go_ret;exact⟨by rw[j.out];rfl,fU d a.out d.size⟩
 refine vL ?_;intro N hN;go_wp2_with fail;refine fV (hN _ ?_);clear hN N;refine vM ?_;intro N hN;go_wp2_with fail;refine(lh _).mono ?_;rintro e b3 ⟨c,hw⟩;subst b3;subst c;apply_assumption;refine vN (gM _ _) (hN _ _ ?_);clear hN;refine vM ?_;intro N hN;go_wp2_with fail;refine(ii _ _ _ _).mono ?_;rintro e b4 ⟨c,hw⟩;subst b4;obtain⟨bX,a1⟩:∃t,ib n.inc 1 9999=t:=⟨_,rfl⟩;rw[a1] at c;have bj:=fS a1;clear a1;subst c;apply_assumption;refine vN (gM _ _) (hN _ _ ?_);clear hN;cases bX
 case false=>
  have j:=fS (show jt n=false from ns fun z=>by have:=(kD n).1 z;simp[bj.out] at this)
  repeat (first|(refine vL ?_;intro N hN;go_wp2_with fail;refine fV (hN _ ?_);clear hN N)|(refine vM ?_;intro N hN;go_wp2_with fail;refine vN (gM _ _) (hN _ _ ?_);clear hN))
  refine vF ?_;have a:=fS (gM W.heap.size W).drew;go_wp2_with fail;go_ret;exact⟨by rw[j.out];rfl,fU d a.out d.size⟩
 refine vL ?_;intro N hN;go_wp2_with fail;refine fV (hN _ ?_);clear hN N;refine vM ?_;intro N hN;go_wp2_with fail;refine(ii _ _ _ _).mono ?_;rintro e bD ⟨c,hw⟩;subst bD;obtain⟨bx,az⟩:∃t,ib n.g 0 41=t:=⟨_,rfl⟩;rw[az] at c;have aM:=fS az;clear az;subst c;apply_assumption;refine vN (gM _ _) (hN _ _ ?_);clear hN;cases bx
 case false=>
  have j:=fS (show jt n=false from ns fun z=>by have:=(kD n).1 z;simp[aM.out] at this)
  repeat (first|(refine vL ?_;intro N hN;go_wp2_with fail;refine fV (hN _ ?_);clear hN N)|(refine vM ?_;intro N hN;go_wp2_with fail;refine vN (gM _ _) (hN _ _ ?_);clear hN))
  refine vF ?_;have a:=fS (gM W.heap.size W).drew;go_wp2_with fail;go_ret;exact⟨by rw[j.out];rfl,fU d a.out d.size⟩
 refine vL ?_;intro N hN;go_wp2_with fail;refine fV (hN _ ?_);clear hN N;refine vM ?_;intro N hN;go_wp2_with fail;refine(lh _).mono ?_;rintro e bE ⟨c,hw⟩;subst bE;subst c;apply_assumption;refine vN (gM _ _) (hN _ _ ?_);clear hN;refine vM ?_;intro N hN;go_wp2_with fail;refine(ii _ _ _ _).mono ?_;rintro e bF ⟨c,hw⟩;subst bF;obtain⟨bz,aA⟩:∃t,ib n.led 0 9999=t:=⟨_,rfl⟩;rw[aA] at c;have aO:=fS aA;clear aA;subst c;apply_assumption;refine vN (gM _ _) (hN _ _ ?_);clear hN;cases bz
 case false=>
  have j:=fS (show jt n=false from ns fun z=>by have:=(kD n).1 z;simp[aO.out] at this)
  repeat (first|(refine vL ?_;intro N hN;go_wp2_with fail;refine fV (hN _ ?_);clear hN N)|(refine vM ?_;intro N hN;go_wp2_with fail;refine vN (gM _ _) (hN _ _ ?_);clear hN))
  refine vF ?_;have a:=fS (gM W.heap.size W).drew;go_wp2_with fail;go_ret;exact⟨by rw[j.out];rfl,fU d a.out d.size⟩
 refine vL ?_;intro N hN;go_wp2_with fail;refine fV (hN _ ?_);clear hN N;refine vM ?_;intro N hN;go_wp2_with fail;refine(lD _).mono ?_;rintro e bG ⟨c,hw⟩;subst bG;subst c;apply_assumption;refine vN (gM _ _) (hN _ _ ?_);clear hN;refine vM ?_;intro N hN;go_wp2_with fail;refine(lN _ n.kept _ F _ (h.ke.below (gM W.heap.size W).drew)).mono ?_;rintro e cw ⟨c,aH⟩;have B:=aH;clear aH;obtain⟨bA,aB⟩:∃t,iQ n.kept 100=t:=⟨_,rfl⟩;rw[aB] at c;have aP:=fS aB;clear aB;subst c;apply_assumption;refine vN B (hN _ _ ?_);clear hN;cases bA
 case false=>
  have j:=fS (show jt n=false from ns fun z=>by have:=(kD n).1 z;simp[aP.out] at this)
  repeat (first|(refine vL ?_;intro N hN;go_wp2_with fail;refine fV (hN _ ?_);clear hN N)|(refine vM ?_;intro N hN;go_wp2_with fail;refine vN B (hN _ _ ?_);clear hN))
  refine vF ?_;have a:=fS ((gK ((gM W.heap.size W).drew) B));go_wp2_with fail;go_ret;exact⟨by rw[j.out];rfl,fU d a.out d.size⟩
 refine vL ?_;intro N hN;go_wp2_with fail;refine fV (hN _ ?_);clear hN N;refine vM ?_;intro N hN;go_wp2_with fail;refine(oD _ n.outs _ F _ (h.ou.below (gK ((gM W.heap.size W).drew) B))).mono ?_;rintro e cx ⟨c,aI⟩;have C:=fU B aI (Below.size B);clear aI;obtain⟨bB,aC⟩:∃t,iu n.outs 96=t:=⟨_,rfl⟩;rw[aC] at c;have an:=fS aC;clear aC;subst c;apply_assumption;refine vN C (hN _ _ ?_);clear hN;cases bB
 case false=>
  have j:=fS (show jt n=false from ns fun z=>by have:=(kD n).1 z;simp[an.out] at this)
  repeat (first|(refine vL ?_;intro N hN;go_wp2_with fail;refine fV (hN _ ?_);clear hN N)|(refine vM ?_;intro N hN;go_wp2_with fail;refine vN C (hN _ _ ?_);clear hN))
  refine vF ?_;have a:=fS ((gK ((gM W.heap.size W).drew) C));go_wp2_with fail;go_ret;exact⟨by rw[j.out];rfl,fU d a.out d.size⟩
 refine vL ?_;intro N hN;go_wp2_with fail;refine fV (hN _ ?_);clear hN N;refine vM ?_;intro N hN;go_wp2_with fail;refine(zr n _ _ _ _ _ F _ (h.below (gK ((gM W.heap.size W).drew) C))).mono ?_;rintro e bH ⟨c,aJ⟩;have L:=fU C aJ (Below.size C);clear aJ;obtain⟨bC,aD⟩:∃t,jp n=t:=⟨_,rfl⟩;rw[aD] at c;have aQ:=fS aD;clear aD;subst c;apply_assumption;refine vN L (hN _ _ ?_);clear hN;cases bC
 case false=>
  have j:=fS (vY aQ.out)
  repeat (first|(refine vL ?_;intro N hN;go_wp2_with fail;refine fV (hN _ ?_);clear hN N)|(refine vM ?_;intro N hN;go_wp2_with fail;refine vN L (hN _ _ ?_);clear hN))
  refine vF ?_;have a:=fS ((gK ((gM W.heap.size W).drew) L));go_wp2_with fail;go_ret;exact⟨by rw[j.out];rfl,fU d a.out d.size⟩
 refine vF ?_;have bh:=fS (gK ((gM W.heap.size W).drew) L);go_upto_region 3 with fail;obtain⟨V,hV⟩:∃V,V=bH:=⟨_,rfl⟩;have HV:Below W.heap.size W V:=hV▸bh.out;subst hV;have ZV:=fu HV av Z;clear bh B C L;clear d0 d1 d2 d3 d4 d5 d6 d7 d8 d9 E G H;obtain⟨d0,d1,d2,d3,d4,d5,d6,d7,d8,d9,E,G,H⟩:=jS ZV;have hV:=h.below HV;have bk:=fU d HV d.size
 go_cut [65] (fun t wc=>∃bt,t= .bool bt∧Hid (decide (0<n.outs.length∧¬∀o∈n.outs,o.time<n.g)=bt)∧∃m,wc=V.drewN m)
 case first=>
  by_cases q0:n.outs.length=0
  ·have e0:decide ((n.outs.length:Int)>0)=false:=ia fT
   have e1:decide (0<n.outs.length)=false:=ia fT;have HD:=fS (show decide (0<n.outs.length∧¬∀o∈n.outs,o.time<n.g)=false by simp[q0]);clear q0
   go_quiet (fail)
   go_wp2_with fail;go_meet;exact⟨_,rfl,HD,_,rfl⟩
  ·have hp:n.outs.length-1<n.outs.length:=fT
   have e0:decide ((n.outs.length:Int)>0)=true:=iW fT;have e1:decide (0<n.outs.length)=true:=iW fT;have p1:(0:Int)≤(n.outs.length:Int)-1:=fT;have p2:(n.outs.length:Int)-1<(n.outs.length:Int):=fT;have p3:(1:Int)≤(n.outs.length:Int):=fT;have p4:1≤n.outs.length:=fT;have cr:n.outs.length≤96:=rS (m:=96) an.out;have p5:IntKind.i64.wrap ((n.outs.length:Int)-1)=(n.outs.length:Int)-1:=IntWalk.i64_in _ fT;have cy:((n.outs.length:Int)-1).toNat=n.outs.length-1:=fT;obtain⟨b0,o0,hA,bm,y0,y1,y2,y3,y4⟩:=kh hV.ou (n.outs.length-1) hp;subst hA;obtain⟨y,hy⟩:∃y,n.outs[n.outs.length-1]=y:=⟨_,rfl⟩;rw[hy] at y0 y1 y2 y3 y4;by_cases q4:n.g≤y.time
   ·have hd:decide (n.g≤y.time)=true:=iW q4
    have HD:=fS (show decide (0<n.outs.length∧¬∀o∈n.outs,o.time<n.g)=true from iW ⟨fT,fun ha=>by have:=ha _ (List.getElem_mem hp);rw[hy] at this;omega⟩);clear q4 hy q0
    go_quiet (fail)
    go_wp2_with fail;go_meet;exact⟨_,rfl,HD,_,rfl⟩
   ·have hd:decide (n.g≤y.time)=false:=ia q4
    have HD:=fS (show decide (0<n.outs.length∧¬∀o∈n.outs,o.time<n.g)=false from ia fun ha=>ha.2 (Bd an.out hp (by rw[hy];omega)));clear q4 hy q0
    go_quiet (fail)
    go_wp2_with fail;go_meet;exact⟨_,rfl,HD,_,rfl⟩
 case rest=>
  obtain⟨bt,rfl,HD,m,rfl⟩:=hcut;cases bt
  case true=>
   have j:=fS (show jt n=false from ns fun z=>(of_decide_eq_true HD.out).2 ((kD n).1 z).2.2.2.2.2.2.2.1);go_wp2_with fail;go_ret;exact⟨by rw[j.out];rfl,ja bk m⟩
  case false=>
   have bL:=fS (show ∀o∈n.outs,o.time<n.g from fun o ho=>Classical.not_not.1 fun z=>of_decide_eq_false HD.out ⟨List.length_pos_of_mem ho,fun ha=>z (ha o ho)⟩);have aF:Below W.heap.size W (V.drewN m):=ja HV m;clear hV HV bk ZV;generalize V.drewN m=U at*;have ZU:=fu aF av Z;clear d0 d1 d2 d3 d4 d5 d6 d7 d8 d9 E G H;obtain⟨d0,d1,d2,d3,d4,d5,d6,d7,d8,d9,E,G,H⟩:=jS ZU;go_wp2_with fail;refine(zt n.id _).mono ?_;rintro q w5 ⟨u5,rfl,aG,bn⟩;obtain⟨v,aZ⟩:∃v,iO n.id=v:=⟨_,rfl⟩;rw[aZ] at aG;have P:=fS aZ;clear aZ;obtain⟨P1,pc,bo,-⟩:=aG.shape;rw[List.length_map] at bo;subst bo;have ap:=fU aF bn aF.size;have a2:=ap.size;have Z5:=fu ap av Z;clear d0 d1 d2 d3 d4 d5 d6 d7 d8 d9 E G H;obtain⟨d0,d1,d2,d3,d4,d5,d6,d7,d8,d9,E,G,H⟩:=jS Z5;clear aF ZU bn;apply_assumption;by_cases q6:n.lanes.length=v.length
   case neg=>
    have j:=fS (qO (n:=n) (fun e=>q6 (by have:=congrArg List.length e;rw[List.length_map,P.out] at this;exact this)));have e6:((n.lanes.length:Int) !=(v.length:Int))=true:=by simpa using (show ¬(n.lanes.length:Int)=(v.length:Int) by omega)
    clear q6;go_wp2_with fail;go_ret;exact⟨by rw[j.out];rfl,fU d ap d.size⟩
   have e6:((n.lanes.length:Int) !=(v.length:Int))=false:=by simp[q6]
   have Q6:=fS q6;have ct:v.length≤2:=by rw[←P.out];exact sJ aN.out
   clear q6;go_wp2_with fail;obtain⟨X,hX⟩:∃X,X=w5:=⟨_,rfl⟩;subst hX
   go_loopw [4] (fun i wr=>∃k:Nat,i= .int .i64 k∧k≤v.length∧Hid ((n.lanes.take k).all jj=true∧(n.lanes.take k).map (fun l=>l.proc)=v.take k)∧Below X.heap.size X wr) (fun i _=>v.length-(intOf i).toNat)
   case atStart=>exact⟨0,rfl,j8 _,fS ⟨rfl,rfl⟩,gM _ _⟩
   case round=>
    obtain⟨k,rfl,z,HA,R⟩:=hrel;have f:=fU ap R a2;have Zr:=fu f av Z;clear d0 d1 d2 d3 d4 d5 d6 d7 d8 d9 E G H;obtain⟨d0,d1,d2,d3,d4,d5,d6,d7,d8,d9,E,G,H⟩:=jS Zr;have hr:=h.below f;have hw:=aG.rd.below R;have a3:=f.size;by_cases hlt:k<v.length
    ·have Y:k<n.lanes.length:=by have:=Q6.out;omega
     have p0:(k:Int)<(v.length:Int):=fT;have p1:(k:Int)<(n.lanes.length:Int):=fT;obtain⟨b0,o0,A6,c6,aU,bm,y0,⟨y1,y2,y3⟩,y4,r1⟩:=mr hr.la k Y;subst aU;obtain⟨b1,o1,aV,bS,z0⟩:=Ae hw k hlt;subst aV;obtain⟨x,hx⟩:∃x,n.lanes[k]=x:=⟨_,rfl⟩;have HX:=fS hx;rw[hx] at y0 y1 y2 y3 y4 r1;clear hx;obtain⟨p,hp⟩:∃p,v[k]=p:=⟨_,rfl⟩;have HP:=fS hp;rw[hp] at z0;clear hp;have O:=fS Y;go_upto_region 11 with fail;by_cases q2:x.proc=p
     case neg=>
      have e2:(x.proc !=p)=true:=by simpa using q2
      have bi:=fS (qO (n:=n) (fun e=>q2 (by rw[←HX.out,←HP.out];have aY:k<(iO n.id).length:=(by rw[P.out];exact hlt);have:=sE e O.out aY;rw[this];simp only[P.out])));clear q2;refine kA [.rd [0,1,2,3,4],.mid 5,.rd [6,7,8,9,10,11,12,13,14,15,16,17,18,19]] [20] ?_;refine vL ?_;intro N hN;go_wp2_with fail;refine fV (hN _ ?_);clear hN N;refine vM ?_;intro N hN;go_wp2_with fail;refine(xT x _ F _ (r1.below (gM wr.heap.size wr).drew)).mono ?_;rintro e b2 ⟨c,T⟩;have D:=T;clear T;obtain⟨a5,ab⟩:∃t,jj x=t:=⟨_,rfl⟩;rw[ab] at c;have aR:=fS ab;clear ab;subst c;apply_assumption;refine vN D (hN _ _ ?_);clear hN;cases a5
      case false=>
       have j:=bi
       repeat (first|(refine vL ?_;intro N hN;go_wp2_with fail;refine fV (hN _ ?_);clear hN N)|(refine vM ?_;intro N hN;go_wp2_with fail;refine vN D (hN _ _ ?_);clear hN))
       refine vF ?_;have a:=fS ((gK ((gM wr.heap.size wr).drew) D));go_wp2_with fail;go_ret;exact⟨by rw[j.out];rfl,fU d (fU f a.out f.size) d.size⟩
      refine vL ?_;intro N hN;go_wp2_with fail;refine fV (hN _ ?_);clear hN N;refine vF ?_;have j:=bi;have a:=fS ((gK ((gM wr.heap.size wr).drew) D));go_wp2_with fail;go_ret;exact⟨by rw[j.out];rfl,fU d (fU f a.out f.size) d.size⟩
     have e2:(x.proc !=p)=false:=by simp[q2]
     have bM:=fS q2;clear q2;refine kA [.rd [0,1,2,3,4],.mid 5,.rd [6,7,8,9,10,11,12,13,14,15,16,17,18,19]] [20] ?_;refine vL ?_;intro N hN;go_wp2_with fail;refine fV (hN _ ?_);clear hN N;refine vM ?_;intro N hN;go_wp2_with fail;refine(xT x _ F _ (r1.below (gM wr.heap.size wr).drew)).mono ?_;rintro e b2 ⟨c,T⟩;have D:=T;clear T;obtain⟨a5,ab⟩:∃t,jj x=t:=⟨_,rfl⟩;rw[ab] at c;have aR:=fS ab;clear ab;subst c;apply_assumption;refine vN D (hN _ _ ?_);clear hN;cases a5
     case false=>
      have j:=fS (show jt n=false from ns fun z=>by have h9:=((kD n).1 z).2.2.2.2.2.2.2.2.2;rw[ig O.out (by rw[HX.out];exact aR.out)] at h9;cases h9)
      repeat (first|(refine vL ?_;intro N hN;go_wp2_with fail;refine fV (hN _ ?_);clear hN N)|(refine vM ?_;intro N hN;go_wp2_with fail;refine vN D (hN _ _ ?_);clear hN))
      refine vF ?_;have a:=fS ((gK ((gM wr.heap.size wr).drew) D));go_wp2_with fail;go_ret;exact⟨by rw[j.out];rfl,fU d (fU f a.out f.size) d.size⟩
     refine vL ?_;intro N hN;go_wp2_with fail;refine fV (hN _ ?_);clear hN N;refine vF ?_;have a:=fS (fU R ((gK ((gM wr.heap.size wr).drew) D)) R.size);have HS:=fS (And.intro (ir (p:=jj) O.out HA.out.1 (by rw[HX.out];exact aR.out)) (qN O.out hlt HA.out.2 (by rw[HX.out,HP.out];exact bM.out)));go_wp2_with fail;go_roundw
     case rel=>exact⟨k+1,by go_num,fT,HS,a.out⟩
     case measure=>exact ms
    ·have aK:k=v.length:=fT
     have p0:¬(k:Int)<(v.length:Int):=fT;have aL:=fS (show jr n=true from (kD n).2 ⟨aN.out,bj.out,aM.out,aO.out,aP.out,an.out,aQ.out,bL.out,(by have h2:=HA.out.2;rw[List.take_of_length_le (by have:=Q6.out;omega),aK,li,←P.out] at h2;exact h2),(by have h1:=HA.out.1;rwa [List.take_of_length_le (by have:=Q6.out;omega)] at h1)⟩);have I:=yn aL.out;clear aK;go_wp2_with fail
     go_loopw [5] (fun i wr=>∃k:Nat,i= .int .i64 k∧k≤v.length∧Hid ((n.lanes.take k).all (kb n)=true)∧Below X.heap.size X wr) (fun i _=>v.length-(intOf i).toNat)
     case atStart=>exact⟨0,rfl,j8 _,fS rfl,R⟩
     case round=>
      clear z R f Zr hr hw a3 p0;obtain⟨k,rfl,z,HA,R⟩:=hrel;have f:=fU ap R a2;have Zr:=fu f av Z;clear d0 d1 d2 d3 d4 d5 d6 d7 d8 d9 E G H;obtain⟨d0,d1,d2,d3,d4,d5,d6,d7,d8,d9,E,G,H⟩:=jS Zr;have hr:=h.below f;have hw:=aG.rd.below R;have a3:=f.size;by_cases hlt:k<v.length
      ·have Y:k<n.lanes.length:=by have:=Q6.out;omega
       have p0:(k:Int)<(v.length:Int):=fT;have p1:(k:Int)<(n.lanes.length:Int):=fT;obtain⟨b0,o0,A6,c6,aU,bm,y0,⟨y1,y2,y3⟩,y4,r1⟩:=mr hr.la k Y;subst aU;obtain⟨b1,o1,aV,bS,z0⟩:=Ae hw k hlt;subst aV;have ar:=fS (show n.lanes[k].proc=v[k] by have aY:k<(iO n.id).length:=(by rw[P.out];exact hlt);have:=sE ((kD n).1 aL.out).2.2.2.2.2.2.2.2.1 Y aY;rw[this];simp only[P.out]);have aX:=I.done n.lanes[k] (List.getElem_mem Y);obtain⟨x,hx⟩:∃x,n.lanes[k]=x:=⟨_,rfl⟩;have HX:=fS hx;rw[hx] at y0 y1 y2 y3 y4 r1 ar aX;clear hx;have cA:=aX.1;clear aX;obtain⟨p,hp⟩:∃p,v[k]=p:=⟨_,rfl⟩;have HP:=fS hp;rw[hp] at z0 ar;clear hp;have O:=fS Y;obtain⟨J,aW⟩:∃J,jq n p=J:=⟨_,rfl⟩;have M:=fS aW;obtain⟨s,hs⟩:∃s,hZ x.done J=s:=⟨_,rfl⟩;have HS:=fS hs;have cB:s≤x.done.length:=by rw[←hs];exact(nJ _ _).1
       have cz:J.length≤1000:=by have h9:=De I p;rw[aW] at h9;omega
       clear hs aW;go_upto_region 16 with fail;by_cases q1:s<x.done.length
       case pos=>
        have e1:decide ((s:Int)<(x.done.length:Int))=true:=iW fT;have e2:decide (s<x.done.length)=true:=iW q1;have j:=fS (qB O.out (by rw[HX.out];simp[kb,ar.out,M.out,HS.out];omega));clear q1;refine kA [.rd [0,1,2,3,4,5,6,7,8,9,10,13,14,15,16,17,18,19],.mid 11,.mid 12,.rd [20,21,22,23,24,25,26,27],.mid 28,.rd [29],.mid 30] [31,32] ?_;refine vL ?_;intro N hN;go_wp2_with fail;refine fV (hN _ ?_);clear hN N;refine vM ?_;intro N hN;go_wp2_with fail;refine(oC n _ _ _ _ _ p F _ (hr.below (gM wr.heap.size wr).drew) I).mono ?_;rintro q bp ⟨u11,rfl,u,r⟩;rw[M.out] at u;obtain⟨C1,bl,rfl,-⟩:=u.shape;apply_assumption;refine vN r (hN _ _ ?_);clear hN;refine vM ?_;intro N hN;go_wp2_with fail;refine(sC x _ _ J F _ _ (r1.below (gK (gM wr.heap.size wr).drew r)) u.rd).mono ?_;rintro q bq ⟨rfl,S⟩;rw[HS.out];have b:=fU r S r.size;apply_assumption;refine vN b (hN _ _ ?_);clear hN;refine vL ?_;intro N hN;go_wp2_with fail;refine fV (hN _ ?_);clear hN N;refine vM ?_;intro N hN;go_wp2_with fail;refine vN b (hN _ _ ?_);clear hN;refine vL ?_;intro N hN;go_wp2_with fail;refine fV (hN _ ?_);clear hN N;refine vM ?_;intro N hN;go_wp2_with fail;refine vN b (hN _ _ ?_);clear hN;refine vF ?_;have a:=fS (gK (gM wr.heap.size wr).drew b);go_wp2_with fail;go_ret;exact⟨by rw[j.out];rfl,fU d (fU f a.out f.size) d.size⟩
       have e1:decide ((s:Int)<(x.done.length:Int))=false:=ia fT;have e2:decide (s<x.done.length)=false:=ia q1;by_cases q2:100<J.length
       case pos=>
        have e3:decide ((J.length:Int)>100)=true:=iW fT;have e4:decide (100<J.length)=true:=iW q2;have e5:decide ((100:Int)<(J.length:Int))=true:=iW fT;have j:=fS (qB O.out (by rw[HX.out];simp[kb,ar.out,M.out,HS.out];omega));clear q2;refine kA [.rd [0,1,2,3,4,5,6,7,8,9,10,13,14,15,16,17,18,19],.mid 11,.mid 12,.rd [20,21,22,23,24,25,26,27],.mid 28,.rd [29],.mid 30] [31,32] ?_;refine vL ?_;intro N hN;go_wp2_with fail;refine fV (hN _ ?_);clear hN N;refine vM ?_;intro N hN;go_wp2_with fail;refine(oC n _ _ _ _ _ p F _ (hr.below (gM wr.heap.size wr).drew) I).mono ?_;rintro q bp ⟨u11,rfl,u,r⟩;rw[M.out] at u;obtain⟨C1,bl,rfl,-⟩:=u.shape;apply_assumption;refine vN r (hN _ _ ?_);clear hN;refine vM ?_;intro N hN;go_wp2_with fail;refine(sC x _ _ J F _ _ (r1.below (gK (gM wr.heap.size wr).drew r)) u.rd).mono ?_;rintro q bq ⟨rfl,S⟩;rw[HS.out];have b:=fU r S r.size;apply_assumption;refine vN b (hN _ _ ?_);clear hN;refine vL ?_;intro N hN;go_wp2_with fail;refine fV (hN _ ?_);clear hN N;refine vM ?_;intro N hN;go_wp2_with fail;refine(oC n _ _ _ _ _ p F _ (hr.below (gK (gM wr.heap.size wr).drew b)) I).mono ?_;rintro q bY ⟨u28,rfl,Q,ay⟩;rw[M.out] at Q;obtain⟨C2,bQ,rfl,-⟩:=Q.shape;have A:=fU b ay b.size;apply_assumption;refine vN A (hN _ _ ?_);clear hN;refine vL ?_;intro N hN;go_wp2_with fail;refine fV (hN _ ?_);clear hN N;refine vM ?_;intro N hN;go_wp2_with fail;refine(lD _).mono ?_;rintro e a6 ⟨c,bw⟩;subst a6;subst c;apply_assumption;refine vN A (hN _ _ ?_);clear hN;refine vF ?_;have a:=fS (gK (gM wr.heap.size wr).drew A);go_wp2_with fail;go_ret;exact⟨by rw[j.out];rfl,fU d (fU f a.out f.size) d.size⟩
       have e3:decide ((J.length:Int)>100)=false:=ia fT;have e4:decide (100<J.length)=false:=ia q2;have e5:decide ((100:Int)<(J.length:Int))=false:=ia fT;have bK:=fS (ir (p:=kb n) O.out HA.out (by rw[HX.out];simp[kb,ar.out,M.out,HS.out];omega));clear q2;refine kA [.rd [0,1,2,3,4,5,6,7,8,9,10,13,14,15,16,17,18,19],.mid 11,.mid 12,.rd [20,21,22,23,24,25,26,27],.mid 28,.rd [29],.mid 30] [31,32] ?_;refine vL ?_;intro N hN;go_wp2_with fail;refine fV (hN _ ?_);clear hN N;refine vM ?_;intro N hN;go_wp2_with fail;refine(oC n _ _ _ _ _ p F _ (hr.below (gM wr.heap.size wr).drew) I).mono ?_;rintro q bp ⟨u11,rfl,u,r⟩;rw[M.out] at u;obtain⟨C1,bl,rfl,-⟩:=u.shape;apply_assumption;refine vN r (hN _ _ ?_);clear hN;refine vM ?_;intro N hN;go_wp2_with fail;refine(sC x _ _ J F _ _ (r1.below (gK (gM wr.heap.size wr).drew r)) u.rd).mono ?_;rintro q bq ⟨rfl,S⟩;rw[HS.out];have b:=fU r S r.size;apply_assumption;refine vN b (hN _ _ ?_);clear hN;refine vL ?_;intro N hN;go_wp2_with fail;refine fV (hN _ ?_);clear hN N;refine vM ?_;intro N hN;go_wp2_with fail;refine(oC n _ _ _ _ _ p F _ (hr.below (gK (gM wr.heap.size wr).drew b)) I).mono ?_;rintro q bY ⟨u28,rfl,Q,ay⟩;rw[M.out] at Q;obtain⟨C2,bQ,rfl,-⟩:=Q.shape;have A:=fU b ay b.size;apply_assumption;refine vN A (hN _ _ ?_);clear hN;refine vL ?_;intro N hN;go_wp2_with fail;refine fV (hN _ ?_);clear hN N;refine vM ?_;intro N hN;go_wp2_with fail;refine(lD _).mono ?_;rintro e a6 ⟨c,bw⟩;subst a6;subst c;apply_assumption;refine vN A (hN _ _ ?_);clear hN;refine vF ?_;have a:=fS (fU R (gK (gM wr.heap.size wr).drew A) R.size);go_wp2_with fail;go_roundw
       case rel=>exact⟨k+1,by go_num,fT,bK,a.out⟩
       case measure=>exact ms
      ·have aK:k=v.length:=fT
       have p0:¬(k:Int)<(v.length:Int):=fT;have j:=fS (show jt n=true by have h1:=HA.out;rw[List.take_of_length_le (by have:=Q6.out;omega)] at h1;simp only[jt,aL.out,so,h1,Bool.and_self]);clear aK;go_wp2_with fail;go_ret;exact⟨by rw[j.out];rfl,fU d f d.size⟩
end Go.Proofs.YtlndjfflhegkdaaGreatDoor
