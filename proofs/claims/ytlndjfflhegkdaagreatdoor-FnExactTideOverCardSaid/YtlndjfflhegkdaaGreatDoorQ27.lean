/- Parts of the proof: Imp10, Ez6. -/
import Derived.Test.YtlndjfflhegkdaaGreatDoorQ13
import Derived.Test.YtlndjfflhegkdaaGreatDoorQ21
set_option linter.unusedVariables false
set_option linter.unusedSimpArgs false
set_option linter.unusedSectionVars false
set_option maxHeartbeats 4000000
set_option maxRecDepth 100000
namespace Go.Proofs.YtlndjfflhegkdaaGreatDoor
open Go.RowKit
theorem mC (v:Value) (xs:List hY) (most:Int) (F:Nat→Prop) (w:World) (h:Rd iw w F v xs):
  Calls Tryz.prog 140 #[v,most] w fun e w' =>e= .returned (.bool (iQ xs most))∧Below w.heap.size w w':=by
 obtain⟨A,X,rfl,-,ab,-⟩:=id h;by_cases hm:(xs.length:Int)≤most
 ·have hg:decide ((xs.length:Int)>most)=false:=by simp;omega
  have V:=fS hm;clear hm;go_enter Tryz.func140,Tryz.ntmps140;go_wp2_with fail
  go_loopw [13] (fun i wr=>∃k:Nat,i= .int .i64 k∧k≤xs.length∧Hid ((xs.take k).all i7=true)∧Hid (kX gQ (xs.take k)=true)∧Below w.heap.size w wr) (fun i _=>xs.length-(intOf i).toNat)
  case atStart=>exact⟨0,rfl,j8 _,rfl,rfl,gM _ _⟩
  case round=>
   obtain⟨k,rfl,hk,u,m,o⟩:=hrel;by_cases hlt:k<xs.length
   ·have r:Rd iw wr F (.slice A xs.length X) xs:=h.below o
    obtain⟨b0,o0,rfl,C,O,P,Q,R,S,T,U⟩:=jC r k hlt;have p0:(k:Int)<(xs.length:Int):=fT;go_upto_region 6 with fail;have I:=r.alloc (.cells #[xs[k].time,xs[k].to,xs[k].from_,xs[k].count,xs[k].n,xs[k].kind,xs[k].arg] 91);have d:=o.alloc o.size (.cells #[xs[k].time,xs[k].to,xs[k].from_,xs[k].count,xs[k].n,xs[k].kind,xs[k].arg] 91);have Z:(wr.alloc (.cells #[xs[k].time,xs[k].to,xs[k].from_,xs[k].count,xs[k].n,xs[k].kind,xs[k].arg] 91)).heap[wr.heap.size]? =some (.cells #[xs[k].time,xs[k].to,xs[k].from_,xs[k].count,xs[k].n,xs[k].kind,xs[k].arg] 91):=gL rfl;clear O P Q R S T U r C o;obtain⟨g,q⟩:∃g,g=wr.heap.size:=⟨_,rfl⟩;rw[←q] at Z;simp only[←q];generalize wr.alloc (.cells #[xs[k].time,xs[k].to,xs[k].from_,xs[k].count,xs[k].n,xs[k].kind,xs[k].arg] 91)=W at*;clear q;obtain⟨⟨O,P,Q,R,S,T,U⟩,-⟩:=nk Z;by_cases f:i7 xs[k]=true
    ·have z:=fS (ir hlt u.out f)
     have s:i7 ⟨xs[k].time,xs[k].to,xs[k].from_,xs[k].count,xs[k].n,xs[k].kind,xs[k].arg⟩=true:=f;clear f;by_cases q3:k=0
     ·have as':=fS (show kX gQ (xs.take (k+1))=true by rw[jF _ hlt,m.out,if_pos q3];rfl)
      have E:decide ((k:Int)>0)=false:=by simp;omega
      have H:decide (0<k)=false:=by simp;omega
      clear q3;refine kA [.rd [0],.mid 1,.rd [2,3,4,5,6,7,8,9,10,11,12]] [13,14,15,16] ?_;refine vL ?_;intro N hN;go_wp2_with fail;refine fV (hN _ ?_);clear hN N;refine vM ?_;intro N hN;go_wp2_with fail;refine(oB _ _ _ _ _ _ _ _).mono ?_;rintro e M ⟨b,a⟩;rw[s] at b;subst b;apply_assumption;refine vN a (hN _ _ ?_);clear hN;refine vL ?_;intro N hN;go_wp2_with fail;refine fV (hN _ ?_);clear hN N;refine vF ?_;have c:=fU d (gK (gM W.heap.size W).drew a) d.size;go_wp2_with fail;go_roundw
      case rel=>exact⟨k+1,by go_num,fT,z,as',c⟩
      case measure=>exact ms
     ·have E:decide ((k:Int)>0)=true:=by simp;omega
      have H:decide (0<k)=true:=by simp;omega
      have p1:(0:Int)≤(k:Int)-1:=fT;have p2:(k:Int)-1<(xs.length:Int):=fT;have p3:(1:Int)≤(k:Int):=fT;have p4:1≤k:=fT;have ac:((k:Int)-1).toNat=k-1:=fT;obtain⟨b2,o2,l,Y,y0,y1,y2,y3,y4,y5,y6⟩:=jC I (k-1) fT;injection l with l;injection l with e1 e2 _;subst e1 e2;obtain⟨L,J⟩:∃t,gQ xs[k-1] xs[k]=t:=⟨_,rfl⟩;have B:=fS (show kX gQ (xs.take (k+1))=L by rw[jF _ hlt,m.out,if_neg fT];simpa using J);clear q3;refine kA [.rd [0],.mid 1,.rd [2,3,4,5,6,7,8,9,10,11,12]] [13,14,15,16] ?_;refine vL ?_;intro N hN;go_wp2_with fail;refine fV (hN _ ?_);clear hN N;refine vM ?_;intro N hN;go_wp2_with fail;refine(oB _ _ _ _ _ _ _ _).mono ?_;rintro e M ⟨b,a⟩;rw[s] at b;subst b;apply_assumption;refine vN a (hN _ _ ?_);clear hN;refine vL ?_;intro N hN;go_wp2_with fail;refine fV (hN _ ?_);clear hN N;refine vF ?_;have p:=fU d (gK (gM W.heap.size W).drew a) d.size;go_wp2_with fail;refine(rr xs[k-1] xs[k] _).mono ?_;rintro e w6 ⟨b,D⟩;rw[J] at b;subst b;apply_assumption;have c:=fU p D p.size;cases L
      case true=>
       go_wp2_with fail;go_roundw
       case rel=>exact⟨k+1,by go_num,fT,z,B,c⟩
       case measure=>exact ms
      case false=>
       have j:=fS (show iQ xs most=false by simp[iQ,oz _ B.out]);go_wp2_with fail;go_ret;exact⟨by rw[j.out];rfl,c⟩
    ·replace f:i7 xs[k]=false:=by simpa using f
     have j:=fS (show iQ xs most=false by simp[iQ,ig hlt f]);have s:i7 ⟨xs[k].time,xs[k].to,xs[k].from_,xs[k].count,xs[k].n,xs[k].kind,xs[k].arg⟩=false:=f;clear f;refine kA [.rd [0],.mid 1,.rd [2,3,4,5,6,7,8,9,10,11,12]] [13,14,15,16] ?_;refine vL ?_;intro N hN;go_wp2_with fail;refine fV (hN _ ?_);clear hN N;refine vM ?_;intro N hN;go_wp2_with fail;refine(oB _ _ _ _ _ _ _ _).mono ?_;rintro e M ⟨b,a⟩;rw[s] at b;subst b;apply_assumption;refine vN a (hN _ _ ?_);clear hN;refine vL ?_;intro N hN;go_wp2_with fail;refine fV (hN _ ?_);clear hN N;refine vF ?_;have c:=fU d (gK (gM W.heap.size W).drew a) d.size;go_wp2_with fail;go_ret;exact⟨by rw[j.out];rfl,c⟩
   ·have G:k=xs.length:=fT
    subst G;have x:=u.out;have y:=m.out;rw[li] at x y;have j:=fS (show iQ xs most=true by simp[iQ,x,y,V.out]);clear x y;go_wp2_with fail;go_ret;exact⟨by rw[j.out];rfl,o⟩
 ·have hg:decide ((xs.length:Int)>most)=true:=by simp;omega
  have j:=fS (show iQ xs most=false by simp[iQ];intro h;omega);clear hm;go_enter Tryz.func140,Tryz.ntmps140;go_wp2_with fail;go_ret;exact⟨by rw[j.out];rfl,gM _ _⟩
theorem oG (v:Value) (xs:List ik) (most:Int) (F:Nat→Prop) (w:World) (h:Rd hJ w F v xs):
  Calls Tryz.prog 86 #[v,most] w fun e w' =>e= .returned (.bool (iu xs most))∧Below w.heap.size w w':=by
 obtain⟨A,S,rfl,-,V,-⟩:=id h;by_cases hm:(xs.length:Int)≤most
 ·have U:decide ((xs.length:Int)>most)=false:=by simp;omega
  have R:=fS hm;clear hm;go_enter Tryz.func86,Tryz.ntmps86;go_wp2_with fail
  go_loopw [14] (fun i wr=>∃k:Nat,i= .int .i64 k∧k≤xs.length∧Hid ((xs.take k).all nL=true)∧Hid (kX gO (xs.take k)=true)∧Below w.heap.size w wr) (fun i _=>xs.length-(intOf i).toNat)
  case atStart=>exact⟨0,rfl,j8 _,rfl,rfl,gM _ _⟩
  case round=>
   obtain⟨k,rfl,hk,q,d,f⟩:=hrel;by_cases hlt:k<xs.length
   ·have o:Rd hJ wr F (.slice A xs.length S) xs:=h.below f
    obtain⟨Y,o0,rfl,y,L,M,O,P,Q⟩:=kh o k hlt;have p0:(k:Int)<(xs.length:Int):=fT;go_upto_region 6 with fail;have G:=o.alloc (.cells #[xs[k].time,xs[k].proc,xs[k].count,xs[k].n,xs[k].value] 101);have l:=f.alloc f.size (.cells #[xs[k].time,xs[k].proc,xs[k].count,xs[k].n,xs[k].value] 101);have Z:(wr.alloc (.cells #[xs[k].time,xs[k].proc,xs[k].count,xs[k].n,xs[k].value] 101)).heap[wr.heap.size]? =some (.cells #[xs[k].time,xs[k].proc,xs[k].count,xs[k].n,xs[k].value] 101):=gL rfl;clear L M O P Q o y f;obtain⟨g,m⟩:∃g,g=wr.heap.size:=⟨_,rfl⟩;rw[←m] at Z;simp only[←m];generalize wr.alloc (.cells #[xs[k].time,xs[k].proc,xs[k].count,xs[k].n,xs[k].value] 101)=W at*;clear m;obtain⟨L,M,O,P,Q,-⟩:=Es Z
    go_cut [7] (fun t wc=>t= .bool (nL xs[k])∧wc=W)
    case first=>
     go_wp2_with (first|(go_at_call 82;refine(iF _ _ _ _).mono ?_;rintro e J ⟨rfl,rfl⟩)|(go_at_call 122;refine(lC _ _).mono ?_;rintro e J ⟨rfl,rfl⟩)|(go_at_call 123;refine(rJ _ _).mono ?_;rintro e J ⟨rfl,rfl⟩))
     all_goals
      go_meet;exact⟨by simp[nL, *],rfl⟩
    case' rest=>obtain⟨rfl,rfl⟩:=hcut
    by_cases p:nL xs[k]=true
    ·have u:=fS (ir hlt q.out p)
     by_cases q3:k=0
     ·have as':=fS (show kX gO (xs.take (k+1))=true by rw[jF _ hlt,d.out,if_pos q3];rfl)
      have C:decide ((k:Int)>0)=false:=by simp;omega
      have E:decide (0<k)=false:=by simp;omega
      clear q3;go_upto_region 7 with fail;refine kA [.rd [0,1,2,3,4,5,6,7,8,9,10,11]] [12,13,14,15] ?_;refine vL ?_;intro N hN;go_wp2_with fail;refine fV (hN _ ?_);clear hN N;refine vF ?_;have a:=l.drew;go_wp2_with fail;go_roundw
      case rel=>exact⟨k+1,by go_num,fT,u,as',a⟩
      case measure=>exact ms
     ·have C:decide ((k:Int)>0)=true:=by simp;omega
      have E:decide (0<k)=true:=by simp;omega
      have p1:(0:Int)≤(k:Int)-1:=fT;have p2:(k:Int)-1<(xs.length:Int):=fT;have p3:(1:Int)≤(k:Int):=fT;have p4:1≤k:=fT;have X:((k:Int)-1).toNat=k-1:=fT;obtain⟨b2,o2,c,T,y0,y1,y2,y3,y4⟩:=kh G (k-1) fT;injection c with c;injection c with e1 e2 _;subst e1 e2;obtain⟨I,H⟩:∃t,gO xs[k-1] xs[k]=t:=⟨_,rfl⟩;have x:=fS (show kX gO (xs.take (k+1))=I by rw[jF _ hlt,d.out,if_neg fT];simpa using H);clear q3;go_upto_region 7 with fail;refine kA [.rd [0,1,2,3,4,5,6,7,8,9,10,11]] [12,13,14,15] ?_;refine vL ?_;intro N hN;go_wp2_with fail;refine fV (hN _ ?_);clear hN N;refine vF ?_;have j:=l.drew;go_wp2_with fail;refine(oS xs[k-1] xs[k] _).mono ?_;rintro e w6 ⟨B,z⟩;rw[H] at B;subst B;apply_assumption;have a:=fU j z j.size;cases I
      case true=>
       go_wp2_with fail;go_roundw
       case rel=>exact⟨k+1,by go_num,fT,u,x,a⟩
       case measure=>exact ms
      case false=>
       have b:=fS (show iu xs most=false by simp[iu,oz _ x.out]);go_wp2_with fail;go_ret;exact⟨by rw[b.out];rfl,a⟩
    ·replace p:nL xs[k]=false:=by simpa using p
     have b:=fS (show iu xs most=false by simp[iu,ig hlt p]);go_upto_region 7 with fail;refine kA [.rd [0,1,2,3,4,5,6,7,8,9,10,11]] [12,13,14,15] ?_;refine vL ?_;intro N hN;go_wp2_with fail;refine fV (hN _ ?_);clear hN N;refine vF ?_;have a:=l.drew;go_wp2_with fail;go_ret;exact⟨by rw[b.out];rfl,a⟩
   ·have D:k=xs.length:=fT
    subst D;have r:=q.out;have s:=d.out;rw[li] at r s;have b:=fS (show iu xs most=true by simp[iu,r,s,R.out]);clear r s;go_wp2_with fail;go_ret;exact⟨by rw[b.out];rfl,f⟩
 ·have U:decide ((xs.length:Int)>most)=true:=by simp;omega
  have b:=fS (show iu xs most=false by simp[iu];intro h;omega);clear hm;go_enter Tryz.func86,Tryz.ntmps86;go_wp2_with fail;go_ret;exact⟨by rw[b.out];rfl,gM _ _⟩
theorem pQ (p:iP) (vs vo:Value) (pr:Int) (F:Nat→Prop) (w:World) (g1:Rd iw w F vs p.sends) (g2:Rd hJ w F vo p.outs):
  Calls Tryz.prog 111 #[.agg #[p.ev.time,p.ev.to,p.ev.from_,p.ev.count,p.ev.n,p.ev.kind,p.ev.arg,p.st.x,p.st.y,p.st.c,vs,vo],pr] w fun q w' =>q= .returned (.bool (iJ p pr))∧Below w.heap.size w w':=by
 obtain⟨E,H,rfl,-⟩:=g1.shape;obtain⟨G,U,rfl,-⟩:=g2.shape;obtain⟨W,hV,b,Z⟩:=nC w (.cells #[p.ev.time,p.ev.to,p.ev.from_,p.ev.count,p.ev.n,p.ev.kind,p.ev.arg,p.st.x,p.st.y,p.st.c,.slice E p.sends.length H,.slice G p.outs.length U] 185);go_enter Tryz.func111,Tryz.ntmps111;go_wp2_with fail;rw[hV.out];clear hV;replace g1:=g1.below b;replace g2:=g2.below b;refine(kS _ _ _ _ _ _ _ _).mono ?_;rintro q w1 ⟨rfl,a⟩;replace b:=fU b a b.size;replace Z:=fu a (fx Z) Z;replace g1:=g1.below a;replace g2:=g2.below a;clear a;obtain⟨l,d⟩:∃t,i7 ⟨p.ev.time,p.ev.to,p.ev.from_,p.ev.count,p.ev.n,p.ev.kind,p.ev.arg⟩=t:=⟨_,rfl⟩;have f:=fS (show i7 p.ev=l from d);rw[d];clear d;obtain⟨I,J,L,M,O,P,Q,R,S,T,s,u⟩:=o6 Z;apply_assumption;cases l
 case false=>
  have e:=fS (show iJ p pr=false by simp[iJ,f.out]);go_wp2_with fail;go_ret;exact⟨by rw[e.out];rfl,b⟩
 by_cases hto:p.ev.to=pr
 case neg=>
  have e:=fS (show iJ p pr=false by simp[iJ,hto]);have e0:(p.ev.to==pr)=false:=by simpa using hto
  have e1:decide (p.ev.to=pr)=false:=by simpa using hto
  clear hto;go_wp2_with fail;go_ret;exact⟨by rw[e.out];rfl,b⟩
 have k:=fS hto;have e0:(p.ev.to==pr)=true:=by simpa using hto
 have e1:decide (p.ev.to=pr)=true:=by simpa using hto
 clear hto;go_wp2_with fail;refine(kw _ _ _ _).mono ?_;rintro q w2 ⟨rfl,a⟩;replace b:=fU b a b.size;replace Z:=fu a (fx Z) Z;replace g1:=g1.below a;replace g2:=g2.below a;clear a;obtain⟨m,d⟩:∃t,jE ⟨p.st.x,p.st.y,p.st.c⟩=t:=⟨_,rfl⟩;have g:=fS (show jE p.st=m from d);rw[d];clear d;obtain⟨V,X,Y,aa,ab,ac,ad,ae,af,ag,v,z⟩:=o6 Z;apply_assumption;cases m
 case false=>
  have e:=fS (show iJ p pr=false by simp[iJ,g.out]);go_wp2_with fail;go_ret;exact⟨by rw[e.out];rfl,b⟩
 go_wp2_with fail;refine(lN _ p.sends _ F _ g1).mono ?_;rintro q w3 ⟨rfl,a⟩;replace b:=fU b a b.size;replace Z:=fu a (fx Z) Z;replace g1:=g1.below a;replace g2:=g2.below a;clear a;obtain⟨o,d⟩:∃t,iQ p.sends 2=t:=⟨_,rfl⟩;have i:=fS (show iQ p.sends 2=o from d);rw[d];clear d;obtain⟨ah,ai,aj,ak,al,am,an,ao,ap,aq,A,B⟩:=o6 Z;apply_assumption;cases o
 case false=>
  have e:=fS (show iJ p pr=false by simp[iJ,i.out]);go_wp2_with fail;go_ret;exact⟨by rw[e.out];rfl,b⟩
 go_wp2_with fail;refine(oD _ p.outs _ F _ g2).mono ?_;rintro q w4 ⟨rfl,a⟩;replace b:=fU b a b.size;replace Z:=fu a (fx Z) Z;replace g1:=g1.below a;replace g2:=g2.below a;clear a;obtain⟨r,d⟩:∃t,iu p.outs 2=t:=⟨_,rfl⟩;have j:=fS (show iu p.outs 2=r from d);rw[d];clear d;obtain⟨ar,au,av,aw,ax,ay,az,aA,aB,aC,C,D⟩:=o6 Z;apply_assumption;cases r
 case false=>
  have e:=fS (show iJ p pr=false by simp[iJ,j.out]);go_wp2_with fail;go_ret;exact⟨by rw[e.out];rfl,b⟩
 have e:=fS (show iJ p pr=true by simp[iJ,f.out,g.out,i.out,j.out,k.out]);go_wp2_with fail;go_ret;exact⟨by rw[e.out];rfl,b⟩
theorem sI (p:iP) (vs vo:Value) (pr:Int) (F:Nat→Prop) (w:World) (g1:Rd iw w F vs p.sends) (g2:Rd hJ w F vo p.outs):
  Calls Tryz.prog 187 #[.agg #[p.ev.time,p.ev.to,p.ev.from_,p.ev.count,p.ev.n,p.ev.kind,p.ev.arg,p.st.x,p.st.y,p.st.c,vs,vo],pr] w fun q w' =>q= .returned (.bool (iJ p pr))∧Below w.heap.size w w':=by
 obtain⟨E,H,rfl,-⟩:=g1.shape;obtain⟨G,U,rfl,-⟩:=g2.shape;obtain⟨W,hV,b,Z⟩:=nC w (.cells #[p.ev.time,p.ev.to,p.ev.from_,p.ev.count,p.ev.n,p.ev.kind,p.ev.arg,p.st.x,p.st.y,p.st.c,.slice E p.sends.length H,.slice G p.outs.length U] 185);go_enter Tryz.func187,Tryz.ntmps187;go_wp2_with fail;rw[hV.out];clear hV;replace g1:=g1.below b;replace g2:=g2.below b;refine(oB _ _ _ _ _ _ _ _).mono ?_;rintro q w1 ⟨rfl,a⟩;replace b:=fU b a b.size;replace Z:=fu a (fx Z) Z;replace g1:=g1.below a;replace g2:=g2.below a;clear a;obtain⟨l,d⟩:∃t,i7 ⟨p.ev.time,p.ev.to,p.ev.from_,p.ev.count,p.ev.n,p.ev.kind,p.ev.arg⟩=t:=⟨_,rfl⟩;have f:=fS (show i7 p.ev=l from d);rw[d];clear d;obtain⟨I,J,L,M,O,P,Q,R,S,T,s,u⟩:=o6 Z;apply_assumption;cases l
 case false=>
  have e:=fS (show iJ p pr=false by simp[iJ,f.out]);go_wp2_with fail;go_ret;exact⟨by rw[e.out];rfl,b⟩
 by_cases hto:p.ev.to=pr
 case neg=>
  have e:=fS (show iJ p pr=false by simp[iJ,hto]);have e0:(p.ev.to==pr)=false:=by simpa using hto
  have e1:decide (p.ev.to=pr)=false:=by simpa using hto
  clear hto;go_wp2_with fail;go_ret;exact⟨by rw[e.out];rfl,b⟩
 have k:=fS hto;have e0:(p.ev.to==pr)=true:=by simpa using hto
 have e1:decide (p.ev.to=pr)=true:=by simpa using hto
 clear hto;go_wp2_with fail;refine(nf _ _ _ _).mono ?_;rintro q w2 ⟨rfl,a⟩;replace b:=fU b a b.size;replace Z:=fu a (fx Z) Z;replace g1:=g1.below a;replace g2:=g2.below a;clear a;obtain⟨m,d⟩:∃t,jE ⟨p.st.x,p.st.y,p.st.c⟩=t:=⟨_,rfl⟩;have g:=fS (show jE p.st=m from d);rw[d];clear d;obtain⟨V,X,Y,aa,ab,ac,ad,ae,af,ag,v,z⟩:=o6 Z;apply_assumption;cases m
 case false=>
  have e:=fS (show iJ p pr=false by simp[iJ,g.out]);go_wp2_with fail;go_ret;exact⟨by rw[e.out];rfl,b⟩
 go_wp2_with fail;refine(mC _ p.sends _ F _ g1).mono ?_;rintro q w3 ⟨rfl,a⟩;replace b:=fU b a b.size;replace Z:=fu a (fx Z) Z;replace g1:=g1.below a;replace g2:=g2.below a;clear a;obtain⟨o,d⟩:∃t,iQ p.sends 2=t:=⟨_,rfl⟩;have i:=fS (show iQ p.sends 2=o from d);rw[d];clear d;obtain⟨ah,ai,aj,ak,al,am,an,ao,ap,aq,A,B⟩:=o6 Z;apply_assumption;cases o
 case false=>
  have e:=fS (show iJ p pr=false by simp[iJ,i.out]);go_wp2_with fail;go_ret;exact⟨by rw[e.out];rfl,b⟩
 go_wp2_with fail;refine(oG _ p.outs _ F _ g2).mono ?_;rintro q w4 ⟨rfl,a⟩;replace b:=fU b a b.size;replace Z:=fu a (fx Z) Z;replace g1:=g1.below a;replace g2:=g2.below a;clear a;obtain⟨r,d⟩:∃t,iu p.outs 2=t:=⟨_,rfl⟩;have j:=fS (show iu p.outs 2=r from d);rw[d];clear d;obtain⟨ar,au,av,aw,ax,ay,az,aA,aB,aC,C,D⟩:=o6 Z;apply_assumption;cases r
 case false=>
  have e:=fS (show iJ p pr=false by simp[iJ,j.out]);go_wp2_with fail;go_ret;exact⟨by rw[e.out];rfl,b⟩
 have e:=fS (show iJ p pr=true by simp[iJ,f.out,g.out,i.out,j.out,k.out]);go_wp2_with fail;go_ret;exact⟨by rw[e.out];rfl,b⟩
theorem wH {l:il} (h:ib l.proc 0 3=false):jj l=false:=by simp[jj,h]
theorem wI {l:il} (h:jE l.base=false):jj l=false:=by simp[jj,h]
theorem wJ {l:il} (h:¬l.done.length≤100):jj l=false:=by simp[jj,h]
theorem wK {l:il} {k:Nat} (hk:k<l.done.length) (h:iJ l.done[k] l.proc=false):jj l=false:=by
 have:l.done.all (fun p=>iJ p l.proc)=false:=ig (p:=fun p=>iJ p l.proc) hk h;simp[jj,this]
theorem wL {l:il} {k:Nat} (h:kX lj (l.done.take k)=false):jj l=false:=by simp[jj,oz _ h]
theorem yu {l:il} (h1:ib l.proc 0 3=true) (h2:jE l.base=true) (h3:l.done.length≤100) (h4:l.done.all (fun p=>iJ p l.proc)=true) (h5:kX lj l.done=true):jj l=true:=by simp[jj,h1,h2,h3,h4,h5]
theorem xT (l:il) (v:Value) (F:Nat→Prop) (w:World) (h:Rd kO w F v l.done):
  Calls Tryz.prog 66 #[.agg #[l.proc,l.base.x,l.base.y,l.base.c,v]] w fun q w' =>q= .returned (.bool (jj l))∧Below w.heap.size w w':=by
 obtain⟨A,c,rfl,-,ar,-⟩:=id h;obtain⟨W,hV,n,Z⟩:=nC w (.cells #[l.proc,l.base.x,l.base.y,l.base.c,.slice A l.done.length c] 130);go_enter Tryz.func66,Tryz.ntmps66;go_upto_region 1 with fail;rw[hV.out];clear hV;replace h:=h.below n;have aj:=fx Z;obtain⟨c0,V,X,Y,c4⟩:=yQ Z;by_cases s:ib l.proc 0 3=true
 case neg=>
  replace s:ib l.proc 0 3=false:=by simpa using s
  have g:=fS (wH s);refine kA [.rd [0,1],.mid 2,.rd [3,4,5,6],.mid 7,.rd [8,9,10,11,12,13],.mid 14] [15,16] ?_;refine vL ?_;intro N hN;go_wp2_with fail;refine fV (hN _ ?_);clear hN N;refine vM ?_;intro N hN;go_wp2_with fail;refine(km _ _).mono ?_;rintro e B ⟨a,G⟩;subst B;rw[s] at a;subst a;apply_assumption;refine vN (gM _ _) (hN _ _ ?_);clear hN;refine vL ?_;intro N hN;go_wp2_with fail;refine fV (hN _ ?_);clear hN N;refine vM ?_;intro N hN;go_wp2_with fail;refine vN (gM _ _) (hN _ _ ?_);clear hN;refine vL ?_;intro N hN;go_wp2_with fail;refine fV (hN _ ?_);clear hN N;refine vM ?_;intro N hN;go_wp2_with fail;refine vN (gM _ _) (hN _ _ ?_);clear hN;refine vF ?_;have f:Below W.heap.size W W.drew:=(gM W.heap.size W).drew;go_wp2_with fail;go_ret;exact⟨by rw[g.out];rfl,fU n f n.size⟩
 by_cases u:jE l.base=true
 case neg=>
  replace u:jE l.base=false:=by simpa using u
  have g:=fS (wI u);refine kA [.rd [0,1],.mid 2,.rd [3,4,5,6],.mid 7,.rd [8,9,10,11,12,13],.mid 14] [15,16] ?_;refine vL ?_;intro N hN;go_wp2_with fail;refine fV (hN _ ?_);clear hN N;refine vM ?_;intro N hN;go_wp2_with fail;refine(km _ _).mono ?_;rintro e B ⟨a,G⟩;subst B;rw[s] at a;subst a;apply_assumption;refine vN (gM _ _) (hN _ _ ?_);clear hN;refine vL ?_;intro N hN;go_wp2_with fail;refine fV (hN _ ?_);clear hN N;refine vM ?_;intro N hN;go_wp2_with fail;refine(kw _ _ _ _).mono ?_;rintro e C ⟨a,b⟩;rw[show jE ⟨l.base.x,l.base.y,l.base.c⟩=_ from u] at a;subst a;apply_assumption;refine vN b (hN _ _ ?_);clear hN;refine vL ?_;intro N hN;go_wp2_with fail;refine fV (hN _ ?_);clear hN N;refine vM ?_;intro N hN;go_wp2_with fail;refine vN b (hN _ _ ?_);clear hN;refine vF ?_;have f:Below W.heap.size W C:=gK (gM W.heap.size W).drew b;clear b;go_wp2_with fail;go_ret;exact⟨by rw[g.out];rfl,fU n f n.size⟩
 by_cases q3:l.done.length≤100
 case neg=>
  have g:=fS (wJ q3);have q4:decide ((l.done.length:Int)>100)=true:=iW fT;clear q3;refine kA [.rd [0,1],.mid 2,.rd [3,4,5,6],.mid 7,.rd [8,9,10,11,12,13],.mid 14] [15,16] ?_;refine vL ?_;intro N hN;go_wp2_with fail;refine fV (hN _ ?_);clear hN N;refine vM ?_;intro N hN;go_wp2_with fail;refine(km _ _).mono ?_;rintro e B ⟨a,G⟩;subst B;rw[s] at a;subst a;apply_assumption;refine vN (gM _ _) (hN _ _ ?_);clear hN;refine vL ?_;intro N hN;go_wp2_with fail;refine fV (hN _ ?_);clear hN N;refine vM ?_;intro N hN;go_wp2_with fail;refine(kw _ _ _ _).mono ?_;rintro e C ⟨a,b⟩;rw[show jE ⟨l.base.x,l.base.y,l.base.c⟩=_ from u] at a;subst a;apply_assumption;refine vN b (hN _ _ ?_);clear hN;refine vL ?_;intro N hN;go_wp2_with fail;refine fV (hN _ ?_);clear hN N;refine vM ?_;intro N hN;go_wp2_with fail;refine(lD _).mono ?_;rintro e P ⟨rfl,G⟩;subst P;apply_assumption;refine vN b (hN _ _ ?_);clear hN;refine vF ?_;have f:Below W.heap.size W C:=gK (gM W.heap.size W).drew b;clear b;go_wp2_with fail;go_ret;exact⟨by rw[g.out];rfl,fU n f n.size⟩
 have q4:decide ((l.done.length:Int)>100)=false:=ia fT;have Q3:=fS q3;clear q3;refine kA [.rd [0,1],.mid 2,.rd [3,4,5,6],.mid 7,.rd [8,9,10,11,12,13],.mid 14] [15,16] ?_;refine vL ?_;intro N hN;go_wp2_with fail;refine fV (hN _ ?_);clear hN N;refine vM ?_;intro N hN;go_wp2_with fail;refine(km _ _).mono ?_;rintro e B ⟨a,G⟩;subst B;rw[s] at a;subst a;apply_assumption;refine vN (gM _ _) (hN _ _ ?_);clear hN;refine vL ?_;intro N hN;go_wp2_with fail;refine fV (hN _ ?_);clear hN N;refine vM ?_;intro N hN;go_wp2_with fail;refine(kw _ _ _ _).mono ?_;rintro e C ⟨a,b⟩;rw[show jE ⟨l.base.x,l.base.y,l.base.c⟩=_ from u] at a;subst a;apply_assumption;refine vN b (hN _ _ ?_);clear hN;refine vL ?_;intro N hN;go_wp2_with fail;refine fV (hN _ ?_);clear hN N;refine vM ?_;intro N hN;go_wp2_with fail;refine(lD _).mono ?_;rintro e P ⟨rfl,G⟩;subst P;apply_assumption;refine vN b (hN _ _ ?_);clear hN;refine vF ?_;have f:Below W.heap.size W C:=gK (gM W.heap.size W).drew b;clear b;go_wp2_with fail;replace h:=h.below f;have R:=fu f aj Z;have L:=fx R;have Q:=fU n f n.size;clear c0 V X Y c4
 go_loopw [3] (fun i wr=>∃k:Nat,i= .int .i64 k∧k≤l.done.length∧Hid ((l.done.take k).all (fun p=>iJ p l.proc)=true)∧Hid (kX lj (l.done.take k)=true)∧Below C.heap.size C wr) (fun i _=>l.done.length-(intOf i).toNat)
 case atStart=>exact⟨0,rfl,j8 _,rfl,rfl,gM _ _⟩
 case round=>
  obtain⟨k,rfl,hk,I,E,o⟩:=hrel;have S:=fu o L R;have hr:=h.below o;have H:=fU Q o Q.size;have au:=fx S;obtain⟨e0,e1,e2,e3,e4⟩:=yQ S;by_cases hlt:k<l.done.length
  ·obtain⟨b0,o0,A1,V,A2,X,rfl,aw,⟨y0,y1,y2,y3,y4,y5,y6⟩,⟨y7,y8,y9⟩,ay,az,M,O⟩:=lM hr k hlt
   have p0:(k:Int)<(l.done.length:Int):=fT;go_upto_region 6 with fail;have ai:=hr;have m:=H;by_cases z:iJ l.done[k] l.proc=true
   case neg=>
    replace z:iJ l.done[k] l.proc=false:=by simpa using z
    have g:=fS (wK hlt z);refine kA [.rd [0,1,2,3,4,5,6],.mid 7,.rd [8,9,10,11,12,13,14,15,16,17,18,19,20,21,22,23,24,25]] [26,27,28,29] ?_;refine vL ?_;intro N hN;go_wp2_with fail;refine fV (hN _ ?_);clear hN N;refine vM ?_;intro N hN;go_wp2_with fail;refine(pQ l.done[k] _ _ l.proc F _ (M.below (gM _ _).drew) (O.below (gM _ _).drew)).mono ?_;rintro e w5 ⟨a,d⟩;rw[z] at a;subst a;apply_assumption;refine vN d (hN _ _ ?_);clear hN;refine vL ?_;intro N hN;go_wp2_with fail;refine fV (hN _ ?_);clear hN N;refine vF ?_;have j:=fU m (gK (gM wr.heap.size wr).drew d) m.size;have r:=fU o (gK (gM wr.heap.size wr).drew d) o.size;go_wp2_with fail;go_ret;exact⟨by rw[g.out];rfl,j⟩
   have T:=fS (ir (p:=fun p=>iJ p l.proc) hlt I.out z);by_cases q6:k=0
   ·have U:=fS (show kX lj (l.done.take (k+1))=true by rw[jF _ hlt,E.out,if_pos q6];rfl)
    have ae:decide ((k:Int)>0)=false:=by simp;omega
    have ag:decide (0<k)=false:=by simp;omega
    clear q6;refine kA [.rd [0,1,2,3,4,5,6],.mid 7,.rd [8,9,10,11,12,13,14,15,16,17,18,19,20,21,22,23,24,25]] [26,27,28,29] ?_;refine vL ?_;intro N hN;go_wp2_with fail;refine fV (hN _ ?_);clear hN N;refine vM ?_;intro N hN;go_wp2_with fail;refine(pQ l.done[k] _ _ l.proc F _ (M.below (gM _ _).drew) (O.below (gM _ _).drew)).mono ?_;rintro e w5 ⟨a,d⟩;rw[z] at a;subst a;apply_assumption;refine vN d (hN _ _ ?_);clear hN;refine vL ?_;intro N hN;go_wp2_with fail;refine fV (hN _ ?_);clear hN N;refine vF ?_;have j:=fU m (gK (gM wr.heap.size wr).drew d) m.size;have r:=fU o (gK (gM wr.heap.size wr).drew d) o.size;go_wp2_with fail;go_roundw
    case rel=>exact⟨k+1,by go_num,fT,T,U,r⟩
    case measure=>exact ms
   ·have ae:decide ((k:Int)>0)=true:=by simp;omega
    have ag:decide (0<k)=true:=by simp;omega
    have p1:(0:Int)≤(k:Int)-1:=fT;have p2:(k:Int)-1<(l.done.length:Int):=fT;have p3:(1:Int)≤(k:Int):=fT;have p4:1≤k:=fT;have ax:((k:Int)-1).toNat=k-1:=fT;obtain⟨b2,o2,A3,Y,A4,c4,D,aq,⟨x0,x1,x2,x3,x4,x5,x6⟩,-,-,-,-,-⟩:=lM ai (k-1) fT;injection D with D;injection D with u1 u2 _;subst u1 u2;obtain⟨t2,q7⟩:∃t,gQ l.done[k-1].ev l.done[k].ev=t:=⟨_,rfl⟩;have hT:=fS (show kX lj (l.done.take (k+1))=t2 by rw[jF _ hlt,E.out,if_neg fT];simpa [lj] using q7);clear q6;refine kA [.rd [0,1,2,3,4,5,6],.mid 7,.rd [8,9,10,11,12,13,14,15,16,17,18,19,20,21,22,23,24,25]] [26,27,28,29] ?_;refine vL ?_;intro N hN;go_wp2_with fail;refine fV (hN _ ?_);clear hN N;refine vM ?_;intro N hN;go_wp2_with fail;refine(pQ l.done[k] _ _ l.proc F _ (M.below (gM _ _).drew) (O.below (gM _ _).drew)).mono ?_;rintro e w5 ⟨a,d⟩;rw[z] at a;subst a;apply_assumption;refine vN d (hN _ _ ?_);clear hN;refine vL ?_;intro N hN;go_wp2_with fail;refine fV (hN _ ?_);clear hN N;refine vF ?_;have j:=fU m (gK (gM wr.heap.size wr).drew d) m.size;have r:=fU o (gK (gM wr.heap.size wr).drew d) o.size;go_wp2_with fail;refine(nG l.done[k-1].ev l.done[k].ev _).mono ?_;rintro e w6 ⟨a,J⟩;rw[q7] at a;subst a;apply_assumption;have ac:=fU r J r.size;have ad:=fU j J j.size;cases t2
    case true=>
     go_wp2_with fail;go_roundw
     case rel=>exact⟨k+1,by go_num,fT,T,hT,ac⟩
     case measure=>exact ms
    case false=>
     have g:=fS (wL hT.out);go_wp2_with fail;go_ret;exact⟨by rw[g.out];rfl,ad⟩
  ·have af:k=l.done.length:=fT
   subst af;have g:=fS (yu s u Q3.out (by have:=I.out;rwa [li] at this) (by have:=E.out;rwa [li] at this));go_wp2_with fail;go_ret;exact⟨by rw[g.out];rfl,H⟩
theorem Ag (l:il) (v:Value) (F:Nat→Prop) (w:World) (h:Rd kO w F v l.done):
  Calls Tryz.prog 175 #[.agg #[l.proc,l.base.x,l.base.y,l.base.c,v]] w fun q w' =>q= .returned (.bool (jj l))∧Below w.heap.size w w':=by
 obtain⟨A,c,rfl,-,aY,-⟩:=id h;obtain⟨W,hV,u,Z⟩:=nC w (.cells #[l.proc,l.base.x,l.base.y,l.base.c,.slice A l.done.length c] 130);go_enter Tryz.func175,Tryz.ntmps175;go_upto_region 1 with fail;rw[hV.out];clear hV;replace h:=h.below u;have O:=fx Z;obtain⟨c0,c1,c2,c3,c4⟩:=yQ Z;by_cases B:ib l.proc 0 3=true
 case neg=>
  replace B:ib l.proc 0 3=false:=by simpa using B
  have m:=fS (wH B);go_wp2_with fail;refine(lC _ _).mono ?_;rintro e G ⟨a,hw⟩;subst G;rw[B] at a;subst a;apply_assumption;go_wp2_with fail;have b:Below W.heap.size W W:=gM _ _;go_ret;exact⟨by rw[m.out];rfl,fU u b u.size⟩
 by_cases D:jE l.base=true
 case neg=>
  replace D:jE l.base=false:=by simpa using D
  have m:=fS (wI D);go_wp2_with fail;refine(lC _ _).mono ?_;rintro e G ⟨a,hw⟩;subst G;rw[B] at a;subst a;apply_assumption;go_wp2_with fail;refine(nf _ _ _ _).mono ?_;rintro e R ⟨a,b⟩;rw[show jE ⟨l.base.x,l.base.y,l.base.c⟩=_ from D] at a;subst a;have C:=fu b O Z;obtain⟨d0,d1,d2,d3,d4⟩:=yQ C;apply_assumption;go_wp2_with fail;go_ret;exact⟨by rw[m.out];rfl,fU u b u.size⟩
 by_cases q3:l.done.length≤100
 case neg=>
  have m:=fS (wJ q3);have q4:decide ((l.done.length:Int)>100)=true:=iW fT;clear q3;go_wp2_with fail;refine(lC _ _).mono ?_;rintro e G ⟨a,hw⟩;subst G;rw[B] at a;subst a;apply_assumption;go_wp2_with fail;refine(nf _ _ _ _).mono ?_;rintro e R ⟨a,b⟩;rw[show jE ⟨l.base.x,l.base.y,l.base.c⟩=_ from D] at a;subst a;have C:=fu b O Z;obtain⟨d0,d1,d2,d3,d4⟩:=yQ C;apply_assumption;go_wp2_with fail;go_ret;exact⟨by rw[m.out];rfl,fU u b u.size⟩
 have q4:decide ((l.done.length:Int)>100)=false:=ia fT;have Q3:=fS q3;clear q3;go_wp2_with fail;refine(lC _ _).mono ?_;rintro e G ⟨a,hw⟩;subst G;rw[B] at a;subst a;apply_assumption;go_wp2_with fail;refine(nf _ _ _ _).mono ?_;rintro e R ⟨a,b⟩;rw[show jE ⟨l.base.x,l.base.y,l.base.c⟩=_ from D] at a;subst a;have C:=fu b O Z;obtain⟨d0,d1,d2,d3,d4⟩:=yQ C;apply_assumption;go_wp2_with fail;replace h:=h.below b;have ac:=fx C;have HB:=fU u b u.size;clear c0 c1 c2 c3 c4
 go_loopw [24] (fun i wr=>∃k:Nat,i= .int .i64 k∧k≤l.done.length∧Hid ((l.done.take k).all (fun p=>iJ p l.proc)=true)∧Hid (kX lj (l.done.take k)=true)∧Below R.heap.size R wr) (fun i _=>l.done.length-(intOf i).toNat)
 case atStart=>exact⟨0,rfl,j8 _,rfl,rfl,gM _ _⟩
 case round=>
  obtain⟨k,rfl,hk,S,J,L⟩:=hrel;have X:=fu L ac C;have hr:=h.below L;have H:=fU HB L HB.size;have ad:=fx X;obtain⟨e0,e1,e2,e3,e4⟩:=yQ X;by_cases hlt:k<l.done.length
  ·obtain⟨b0,o0,A1,c1,A2,c2,rfl,a0,⟨y0,y1,y2,y3,y4,y5,y6⟩,⟨y7,y8,y9⟩,U,V,P,Q⟩:=lM hr k hlt
   have p0:(k:Int)<(l.done.length:Int):=fT;go_upto_region 6 with fail;obtain⟨j,hV,s,Y⟩:=nC wr (.cells #[l.done[k].ev.time,l.done[k].ev.to,l.done[k].ev.from_,l.done[k].ev.count,l.done[k].ev.n,l.done[k].ev.kind,l.done[k].ev.arg,l.done[k].st.x,l.done[k].st.y,l.done[k].st.c,.slice A1 l.done[k].sends.length c1,.slice A2 l.done[k].outs.length c2] 185);have aE:=hr.below s;have r:=fU H s H.size;have ZW:=fu s ad X;have f:=fU L s L.size;have P:=P.below s;have Q:=Q.below s;obtain⟨g,M⟩:∃g,g=wr.heap.size:=⟨_,rfl⟩;rw[←M] at Y;simp only[←M];rw[hV.out];clear hV;clear M y0 y1 y2 y3 y4 y5 y6 y7 y8 y9 U V e0 e1 e2 e3 e4;obtain⟨e0,e1,e2,e3,e4⟩:=yQ ZW;obtain⟨y0,y1,y2,y3,y4,y5,y6,y7,y8,y9,U,V⟩:=o6 Y;by_cases E:iJ l.done[k] l.proc=true
   case neg=>
    replace E:iJ l.done[k] l.proc=false:=by simpa using E
    have m:=fS (wK hlt E);refine kA [.rd [0,1,2],.mid 3,.rd [4,5,6,7,8,9,10,11,12,13,14,15,16,17]] [18,19,20,21] ?_;refine vL ?_;intro N hN;go_wp2_with fail;refine fV (hN _ ?_);clear hN N;refine vM ?_;intro N hN;go_wp2_with fail;refine(sI l.done[k] _ _ l.proc F _ (P.below (gM _ _).drew) (Q.below (gM _ _).drew)).mono ?_;rintro e w5 ⟨a,d⟩;rw[E] at a;subst a;apply_assumption;refine vN d (hN _ _ ?_);clear hN;refine vL ?_;intro N hN;go_wp2_with fail;refine fV (hN _ ?_);clear hN N;refine vF ?_;have o:=fU r (gK (gM j.heap.size j).drew d) r.size;have z:=fU f (gK (gM j.heap.size j).drew d) f.size;go_wp2_with fail;go_ret;exact⟨by rw[m.out];rfl,o⟩
   have al:=fS (ir (p:=fun p=>iJ p l.proc) hlt S.out E);by_cases q6:k=0
   ·have ah:=fS (show kX lj (l.done.take (k+1))=true by rw[jF _ hlt,J.out,if_pos q6];rfl)
    have aA:decide ((k:Int)>0)=false:=by simp;omega
    have aC:decide (0<k)=false:=by simp;omega
    clear q6;refine kA [.rd [0,1,2],.mid 3,.rd [4,5,6,7,8,9,10,11,12,13,14,15,16,17]] [18,19,20,21] ?_;refine vL ?_;intro N hN;go_wp2_with fail;refine fV (hN _ ?_);clear hN N;refine vM ?_;intro N hN;go_wp2_with fail;refine(sI l.done[k] _ _ l.proc F _ (P.below (gM _ _).drew) (Q.below (gM _ _).drew)).mono ?_;rintro e w5 ⟨a,d⟩;rw[E] at a;subst a;apply_assumption;refine vN d (hN _ _ ?_);clear hN;refine vL ?_;intro N hN;go_wp2_with fail;refine fV (hN _ ?_);clear hN N;refine vF ?_;have o:=fU r (gK (gM j.heap.size j).drew d) r.size;have z:=fU f (gK (gM j.heap.size j).drew d) f.size;go_wp2_with fail;go_roundw
    case rel=>exact⟨k+1,by go_num,fT,al,ah,z⟩
    case measure=>exact ms
   ·have aA:decide ((k:Int)>0)=true:=by simp;omega
    have aC:decide (0<k)=true:=by simp;omega
    have p1:(0:Int)≤(k:Int)-1:=fT;have p2:(k:Int)-1<(l.done.length:Int):=fT;have p3:(1:Int)≤(k:Int):=fT;have p4:1≤k:=fT;have a1:((k:Int)-1).toNat=k-1:=fT;obtain⟨b2,o2,A3,c3,A4,c4,I,aX,⟨x0,x1,x2,x3,x4,x5,x6⟩,-,-,-,-,-⟩:=lM aE (k-1) fT;injection I with I;injection I with u1 u2 _;subst u1 u2;obtain⟨t2,q7⟩:∃t,gQ l.done[k-1].ev l.done[k].ev=t:=⟨_,rfl⟩;have hT:=fS (show kX lj (l.done.take (k+1))=t2 by rw[jF _ hlt,J.out,if_neg fT];simpa [lj] using q7);clear q6;refine kA [.rd [0,1,2],.mid 3,.rd [4,5,6,7,8,9,10,11,12,13,14,15,16,17]] [18,19,20,21] ?_;refine vL ?_;intro N hN;go_wp2_with fail;refine fV (hN _ ?_);clear hN N;refine vM ?_;intro N hN;go_wp2_with fail;refine(sI l.done[k] _ _ l.proc F _ (P.below (gM _ _).drew) (Q.below (gM _ _).drew)).mono ?_;rintro e w5 ⟨a,d⟩;rw[E] at a;subst a;apply_assumption;refine vN d (hN _ _ ?_);clear hN;refine vL ?_;intro N hN;go_wp2_with fail;refine fV (hN _ ?_);clear hN N;refine vF ?_;have o:=fU r (gK (gM j.heap.size j).drew d) r.size;have z:=fU f (gK (gM j.heap.size j).drew d) f.size;go_wp2_with fail;refine(rr l.done[k-1].ev l.done[k].ev _).mono ?_;rintro e w6 ⟨a,T⟩;rw[q7] at a;subst a;apply_assumption;have ay:=fU z T z.size;have az:=fU o T o.size;cases t2
    case true=>
     go_wp2_with fail;go_roundw
     case rel=>exact⟨k+1,by go_num,fT,al,hT,ay⟩
     case measure=>exact ms
    case false=>
     have m:=fS (wL hT.out);go_wp2_with fail;go_ret;exact⟨by rw[m.out];rfl,az⟩
  ·have aB:k=l.done.length:=fT
   subst aB;have m:=fS (yu B D Q3.out (by have:=S.out;rwa [li] at this) (by have:=J.out;rwa [li] at this));go_wp2_with fail;go_ret;exact⟨by rw[m.out];rfl,H⟩
end Go.Proofs.YtlndjfflhegkdaaGreatDoor
