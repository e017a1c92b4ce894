/- Parts of the proof: Te5, Te3. -/
import Derived.Test.YtlndjfflhegkdaaGreatDoorQ37
import Derived.Test.YtlndjfflhegkdaaGreatDoorQ43
set_option linter.unusedVariables false
set_option linter.unusedSimpArgs false
set_option linter.unusedSectionVars false
set_option maxHeartbeats 4000000
set_option maxRecDepth 100000
namespace Go.Proofs.YtlndjfflhegkdaaGreatDoor
open Go.RowKit
theorem Cp {l:List gT} {k:Nat} (h:k<l.length):l.getD k zT=l[k]:=by simp[List.getD,h]
theorem wN {l:List gT} {k:Nat} (h:k<l.length):lZ l k=(decide (l[k].id=(k:Int))&&jt l[k]):=by simp only[lZ,Cp h]
theorem lG (x:lB):lx x=true↔ib x.time 0 99999=true∧io x.apps=true∧x.nodes.length=3∧x.radio.length≤40∧k8 x.hub=true∧iu x.sink 96=true∧(List.range x.nodes.length).all (lZ x.nodes)=true∧x.radio.all g9=true:=by
 simp only[lx,lL,mu,Bool.and_eq_true,decide_eq_true_eq];constructor
 ·rintro⟨a,b,⟨c,d⟩,⟨e,f⟩,g,i⟩;exact⟨a,b,c,e,g,i,d,f⟩
 ·rintro⟨a,b,c,e,g,i,d,f⟩;exact⟨a,b,⟨c,d⟩,⟨e,f⟩,g,i⟩
theorem Ds {x:lB} (h:¬lx x=true):lx x=false:=by simpa using h
theorem BI (x:lB) (va vn vr v1 v2 v3 vs:Value) (F:Nat→Prop) (w:World) (h:kr w F va vn vr v1 v2 v3 vs x):
  Calls Tryz.prog 14 #[.agg #[x.time,va,vn,vr,x.hub.round,v1,v2,v3,vs]] w fun q w' =>q= .returned (.bool (lx x))∧Below w.heap.size w w':=by
 obtain⟨A1,c1,rfl,-⟩:=h.ap.shape;obtain⟨A2,c2,rfl,-⟩:=h.no.shape;obtain⟨A3,c3,rfl,-⟩:=h.ra.shape;obtain⟨A4,c4,rfl,-⟩:=h.hu.on.shape;obtain⟨A5,c5,rfl,-⟩:=h.hu.tw.shape;obtain⟨A6,c6,rfl,-⟩:=h.hu.ou.shape;obtain⟨A7,c7,rfl,-⟩:=h.si.shape;obtain⟨W,hV,c,Z⟩:=nC w (.cells #[x.time,.slice A1 x.apps.length c1,.slice A2 x.nodes.length c2,.slice A3 x.radio.length c3,x.hub.round,.slice A4 x.hub.ones.length c4,.slice A5 x.hub.twos.length c5,.slice A6 x.hub.outs.length c6,.slice A7 x.sink.length c7] 39);go_enter Tryz.func14,Tryz.ntmps14;go_upto_region 1 with fail;rw[hV.out];clear hV;replace h:=h.below c;have C:=fx Z;obtain⟨m,n,o,r,s,u,v,z,A⟩:=oM Z;go_wp2_with fail;refine(ii _ _ _ _).mono ?_;rintro q w0 ⟨f,hw⟩;subst w0;obtain⟨t,b⟩:∃t,ib x.time 0 99999=t:=⟨_,rfl⟩;rw[b] at f;have aj:=fS b;clear b;subst f;cases t
 case false=>
  have e:=fS (Ds fun d=>by have a:=(lG x).1 d;rw[aj.out] at a;cases a.1);apply_assumption;go_wp2_with fail;go_ret;exact⟨by rw[e.out];rfl,fU c (gM W.heap.size W) c.size⟩
 apply_assumption;go_wp2_with fail;refine(lH _ x.apps F W h.ap).mono ?_;rintro q w1 ⟨f,ar⟩;obtain⟨t,b⟩:∃t,io x.apps=t:=⟨_,rfl⟩;rw[b] at f;have ak:=fS b;clear b;subst f;have l:=fU (gM W.heap.size W) ar (Below.size (gM W.heap.size W));have Z1:=fu l C Z;have U:=h.below l;clear m n o r s u v z A;obtain⟨m,n,o,r,s,u,v,z,A⟩:=oM Z1;cases t
 case false=>
  have e:=fS (Ds fun d=>by have a:=(lG x).1 d;rw[ak.out] at a;cases a.2.1);apply_assumption;go_wp2_with fail;go_ret;exact⟨by rw[e.out];rfl,fU c l c.size⟩
 apply_assumption;by_cases q1:x.nodes.length=3
 case neg=>
  have e:=fS (Ds fun d=>by have a:=(lG x).1 d;exact q1 a.2.2.1);have e1:(((x.nodes.length:Nat):Int) !=3)=true:=by simpa using (show ¬((x.nodes.length:Nat):Int)=3 by omega)
  clear q1;go_wp2_with fail;go_ret;exact⟨by rw[e.out];rfl,fU c l c.size⟩
 have e1:(((x.nodes.length:Nat):Int) !=3)=false:=by simp[q1]
 have ah:=fS q1;clear q1;by_cases q2:x.radio.length≤40
 case neg=>
  have e:=fS (Ds fun d=>by have a:=(lG x).1 d;exact q2 a.2.2.2.1);have e2:decide (((x.radio.length:Nat):Int)>40)=true:=iW fT;have aK:decide ((40:Int)<((x.radio.length:Nat):Int))=true:=iW fT;have aL:decide (40<x.radio.length)=true:=iW fT;clear q2;go_wp2_with fail;go_ret;exact⟨by rw[e.out];rfl,fU c l c.size⟩
 have e2:decide (((x.radio.length:Nat):Int)>40)=false:=ia fT;have aK:decide ((40:Int)<((x.radio.length:Nat):Int))=false:=ia fT;have aL:decide (40<x.radio.length)=false:=ia fT;have ai:=fS q2;clear q2;go_wp2_with fail;refine(C7 x.hub _ _ _ F w1 U.hu).mono ?_;rintro q w3 ⟨f,au⟩;obtain⟨t,b⟩:∃t,k8 x.hub=t:=⟨_,rfl⟩;rw[b] at f;have al:=fS b;clear b;subst f;have B:=fU l au (Below.size l);have Z3:=fu B C Z;have h3:=h.below B;clear m n o r s u v z A;obtain⟨m,n,o,r,s,u,v,z,A⟩:=oM Z3;cases t
 case false=>
  have e:=fS (Ds fun d=>by have a:=(lG x).1 d;rw[al.out] at a;cases a.2.2.2.2.1);apply_assumption;go_wp2_with fail;go_ret;exact⟨by rw[e.out];rfl,fU c B c.size⟩
 apply_assumption;go_wp2_with fail;refine(oD _ x.sink _ F w3 h3.si).mono ?_;rintro q w4 ⟨f,av⟩;obtain⟨t,b⟩:∃t,iu x.sink 96=t:=⟨_,rfl⟩;rw[b] at f;have am:=fS b;clear b;subst f;have E:=fU B av (Below.size B);have Z4:=fu E C Z;have h4:=h.below E;clear m n o r s u v z A;obtain⟨m,n,o,r,s,u,v,z,A⟩:=oM Z4;cases t
 case false=>
  have e:=fS (Ds fun d=>by have a:=(lG x).1 d;rw[am.out] at a;cases a.2.2.2.2.2.1);apply_assumption;go_wp2_with fail;go_ret;exact⟨by rw[e.out];rfl,fU c E c.size⟩
 apply_assumption;go_wp2_with fail;obtain⟨_,_,_,-,bO,-⟩:=id h.ra;clear m n o r s u v z A
 go_loopw [3] (fun i wr=>∃k:Nat,i= .int .i64 k∧k≤x.nodes.length∧Hid ((List.range k).all (lZ x.nodes)=true)∧Below W.heap.size W wr) (fun i _=>x.nodes.length-(intOf i).toNat)
 case atStart=>exact⟨0,rfl,j8 _,fS rfl,E⟩
 case round=>
  clear Z1 Z3 Z4 U h3 h4 l B E ar au av;obtain⟨k,rfl,d,T,j⟩:=hrel;have Zr:=fu j C Z;have Y:=j.size;have hr:=h.below j;obtain⟨m,n,o,r,s,u,v,z,A⟩:=oM Zr;have bM:x.nodes.length=3:=ah.out;by_cases hlt:k<x.nodes.length
  ·obtain⟨b0,aQ,bB,bz,aC,bG,bD,rfl,_,L,M,O,P,Q,R,S,aw,ax,ay,aa,ab,ac,g⟩:=mY hr.no k hlt
   obtain⟨B0,aD,rfl,-⟩:=g.la.shape;obtain⟨B1,aE,rfl,-⟩:=g.ke.shape;obtain⟨B2,aF,rfl,-⟩:=g.ou.shape;obtain⟨B3,aG,rfl,-⟩:=g.vi.shape;obtain⟨B4,bL,rfl,-⟩:=g.kn.shape;have p0:(k:Int)<(x.nodes.length:Int):=fT;have J:=fS (wN hlt);obtain⟨y,I⟩:∃y,x.nodes[k]=y:=⟨_,rfl⟩;have HY:=fS I;rw[I] at L M O P Q R S aw ax ay aa ab ac g J;clear I;have V:=fS hlt;go_wp2_with fail;refine(BG y _ _ _ _ _ F wr g).mono ?_;rintro q w5 ⟨f,aN⟩;obtain⟨t,b⟩:∃t,jt y=t:=⟨_,rfl⟩;rw[b] at f;have an:=fS b;clear b;subst f;have G:=fU j aN j.size;have Z5:=fu G C Z;have aP:=(h.below G).no;clear m n o r s u v z A L M O P Q R S aw ax ay aa ab ac g;obtain⟨m,n,o,r,s,u,v,z,A⟩:=oM Z5;obtain⟨b1,bP,bC,bA,bF,bH,bE,D,_,aV,aW,aX,aY,aZ,a0,a1,a2,a3,a4,az,aA,aB,sq⟩:=mY aP k hlt;injection D with D;injection D with D hA2;subst D hA2;rw[HY.out] at aV;clear aW aX aY aZ a0 a1 a2 a3 a4 az aA aB sq;cases t
   case false=>
    have e:=fS (Ds fun d=>by have a:=(lG x).1 d;have X:=mH (p:=lZ x.nodes) V.out (by rw[J.out,an.out];simp);rw[X] at a;cases a.2.2.2.2.2.2.1);apply_assumption;go_wp2_with fail;go_ret;exact⟨by rw[e.out];rfl,fU c G c.size⟩
   apply_assumption;by_cases q2:y.id=(k:Int)
   case neg=>
    have e:=fS (Ds fun d=>by have a:=(lG x).1 d;have X:=mH (p:=lZ x.nodes) V.out (by rw[J.out];simp[q2]);rw[X] at a;cases a.2.2.2.2.2.2.1);have e3:(y.id !=(k:Int))=true:=by simpa using q2
    clear q2;go_wp2_with fail;go_ret;exact⟨by rw[e.out];rfl,fU c G c.size⟩
   have e3:(y.id !=(k:Int))=false:=by simp[q2]
   have HS:=fS (mm (p:=lZ x.nodes) T.out (by rw[J.out,an.out];simp[q2]));clear q2;go_wp2_with fail;go_roundw
   case rel=>exact⟨k+1,by go_num,fT,HS,G⟩
   case measure=>exact ms
  ·have H:k=x.nodes.length:=fT
   have p0:¬(k:Int)<(x.nodes.length:Int):=fT;have HN:=fS (show(List.range x.nodes.length).all (lZ x.nodes)=true by have U:=T.out;rwa [H] at U);clear H;go_wp2_with fail;clear m n o r s u v z A
   go_loopw [4] (fun i wr=>∃k:Nat,i= .int .i64 k∧k≤x.radio.length∧Hid ((x.radio.take k).all g9=true)∧Below W.heap.size W wr) (fun i _=>x.radio.length-(intOf i).toNat)
   case atStart=>exact⟨0,rfl,j8 _,fS rfl,j⟩
   case round=>
    clear d j Zr Y hr T p0;obtain⟨k,rfl,d,T,j⟩:=hrel;have Zr:=fu j C Z;have Y:=j.size;have hr:=h.below j;obtain⟨m,n,o,r,s,u,v,z,A⟩:=oM Zr;have bN:x.radio.length≤40:=ai.out;by_cases hlt:k<x.radio.length
    ·obtain⟨b0,aQ,bw,bx,bv,aC,rfl,_,⟨L,M,O,P,Q,R,S⟩,⟨aR,aS,aT,aU⟩,g⟩:=lq hr.ra k hlt
     obtain⟨B0,aD,rfl,-⟩:=g.ic.shape;obtain⟨B1,aE,rfl,-⟩:=g.vs.shape;obtain⟨B2,aF,rfl,-⟩:=g.ev.shape;obtain⟨B3,aG,rfl,-⟩:=g.ou.shape;have p0:(k:Int)<(x.radio.length:Int):=fT;obtain⟨y,I⟩:∃y,x.radio[k]=y:=⟨_,rfl⟩;have HY:=fS I;rw[I] at L M O P Q R S aR aS aT aU g;clear I;have V:=fS hlt;go_wp2_with fail;refine(pI y _ _ _ _ F wr g).mono ?_;rintro q w6 ⟨f,aO⟩;obtain⟨t,b⟩:∃t,g9 y=t:=⟨_,rfl⟩;rw[b] at f;have ao:=fS b;clear b;subst f;have aq:=fU j aO j.size;cases t
     case false=>
      have e:=fS (Ds fun d=>by have a:=(lG x).1 d;have X:=ig (p:=g9) V.out (by rw[HY.out];exact ao.out);rw[X] at a;cases a.2.2.2.2.2.2.2);apply_assumption;go_wp2_with fail;go_ret;exact⟨by rw[e.out];rfl,fU c aq c.size⟩
     apply_assumption;have HS:=fS (ir (p:=g9) V.out T.out (by rw[HY.out];exact ao.out));go_wp2_with fail;go_roundw
     case rel=>exact⟨k+1,by go_num,fT,HS,aq⟩
     case measure=>exact ms
    ·have H:k=x.radio.length:=fT
     have p0:¬(k:Int)<(x.radio.length:Int):=fT;have e:=fS (show lx x=true from (lG x).2 ⟨aj.out,ak.out,ah.out,ai.out,al.out,am.out,HN.out,by have U:=T.out;rwa [H,li] at U⟩);clear H;go_wp2_with fail;go_ret;exact⟨by rw[e.out];rfl,fU c j c.size⟩
theorem tW (v:Value) (xs:List Int) (F:Nat→Prop) (w:World) (h:Rd (jQ .i64) w F v xs):
  Calls Tryz.prog 160 #[v] w fun q w' =>q= .returned (.bool (mQ xs))∧Below w.heap.size w w':=by
 obtain⟨A,c,rfl,-,B,-⟩:=id h;go_enter Tryz.func160,Tryz.ntmps160;go_wp2_with fail
 go_loopw [7] (fun i wr=>∃k:Nat,i= .int .i64 k∧k≤xs.length∧Hid ((xs.take k).all (fun k=>ib k 0 9999)=true)∧wr=w) (fun i _=>xs.length-(intOf i).toNat)
 case atStart=>exact⟨0,rfl,j8 _,rfl,rfl⟩
 case round=>
  obtain⟨k,rfl,I,j,rfl⟩:=hrel;by_cases hlt:k<xs.length
  ·obtain⟨H,L,r,-,G,E⟩:=lY h k hlt
   subst r;have C:(k:Int)<(xs.length:Int):=fT;obtain⟨y,g⟩:∃y,xs[k]=y:=⟨_,rfl⟩;have m:=fS g;rw[g] at E;clear g;have l:=fS hlt;go_wp2_with fail;refine(iF _ _ _ _).mono ?_;rintro q D ⟨s,J⟩;subst D;obtain⟨t,f⟩:∃t,ib y 0 9999=t:=⟨_,rfl⟩;rw[f] at s;have d:=fS f;clear f;subst s;cases t
   case false=>
    have a:=fS (zM l.out (by rw[m.out];exact d.out));apply_assumption;go_wp2_with fail;go_ret;exact⟨by rw[a.out];rfl,gM _ _⟩
   apply_assumption;have HS:=fS (ir (p:=fun k=>ib k 0 9999) l.out j.out (by rw[m.out];exact d.out));go_wp2_with fail;go_roundw
   case rel=>exact⟨k+1,by go_num,fT,HS,trivial⟩
   case measure=>exact ms
  ·have e:k=xs.length:=fT
   have C:¬(k:Int)<(xs.length:Int):=fT;have b:=fS (show xs.all (fun k=>ib k 0 9999)=true by have z:=j.out;rwa [e,li] at z);clear e;by_cases q0:xs.length=0
   case pos=>
    have a:=fS (rC (.inl q0) b.out);have u:(((xs.length:Nat):Int)==0)=true:=by simp[q0]
    have n:decide (((xs.length:Nat):Int)=0)=true:=iW fT;clear q0;go_wp2_with fail;go_ret;exact⟨by rw[a.out];rfl,gM _ _⟩
   have u:(((xs.length:Nat):Int)==0)=false:=by simpa using q0
   have n:decide (((xs.length:Nat):Int)=0)=false:=ia fT;by_cases q3:xs.length=3
   case pos=>
    have a:=fS (rC (.inr q3) b.out);have x:(((xs.length:Nat):Int)==3)=true:=by simp[q3]
    have o:decide (((xs.length:Nat):Int)=3)=true:=iW fT;clear q0 q3;go_wp2_with fail;go_ret;exact⟨by rw[a.out];rfl,gM _ _⟩
   have a:=fS (zN q0 q3);have x:(((xs.length:Nat):Int)==3)=false:=by simpa using (show ¬((xs.length:Nat):Int)=3 by omega)
   have o:decide (((xs.length:Nat):Int)=3)=false:=ia fT;clear q0 q3;go_wp2_with fail;go_ret;exact⟨by rw[a.out];rfl,gM _ _⟩
theorem ql (x:iD) (vi vj ve vo:Value) (F:Nat→Prop) (w:World) (h:ks w F vi vj ve vo x):
  Calls Tryz.prog 119 #[.agg #[x.kind,x.from_,x.dest,x.inc,x.version,x.round,x.g,vi,vj,ve,vo]] w fun q w' =>q= .returned (.bool (g9 x))∧Below w.heap.size w w':=by
 obtain⟨U,c1,rfl,-⟩:=h.ic.shape;obtain⟨V,c2,rfl,-⟩:=h.vs.shape;obtain⟨X,c3,rfl,-⟩:=h.ev.shape;obtain⟨Y,c4,rfl,-⟩:=h.ou.shape;obtain⟨W,hV,e,Z⟩:=nC w (.cells #[x.kind,x.from_,x.dest,x.inc,x.version,x.round,x.g,.slice U x.incs.length c1,.slice V x.versions.length c2,.slice X x.events.length c3,.slice Y x.outs.length c4] 88);go_enter Tryz.func119,Tryz.ntmps119;go_upto_region 1 with fail;rw[hV.out];clear hV;replace h:=h.below e;have J:=fx Z;obtain⟨r,s,u,v,y,z,A,B,C,D,l⟩:=nR Z;go_wp2_with fail;refine(iF _ _ _ _).mono ?_;rintro q w0 ⟨b,L⟩;subst w0;obtain⟨t,a⟩:∃t,ib x.kind 1 7=t:=⟨_,rfl⟩;rw[a] at b;have d:=fS a;clear a;subst b;cases t
 case false=>
  have c:=fS (show g9 x=false by simp[g9,d.out]);apply_assumption;go_wp2_with fail;go_ret;exact⟨by rw[c.out];rfl,e⟩
 apply_assumption;go_wp2_with fail;refine(ut _ _).mono ?_;rintro q w1 ⟨b,L⟩;subst w1;obtain⟨t,a⟩:∃t,ib x.from_ 0 2=t:=⟨_,rfl⟩;rw[a] at b;have f:=fS a;clear a;subst b;cases t
 case false=>
  have c:=fS (show g9 x=false by simp[g9,d.out,f.out]);apply_assumption;go_wp2_with fail;go_ret;exact⟨by rw[c.out];rfl,e⟩
 apply_assumption;go_wp2_with fail;refine(ut _ _).mono ?_;rintro q w2 ⟨b,L⟩;subst w2;obtain⟨t,a⟩:∃t,ib x.dest 0 2=t:=⟨_,rfl⟩;rw[a] at b;have i:=fS a;clear a;subst b;cases t
 case false=>
  have c:=fS (show g9 x=false by simp[g9,d.out,f.out,i.out]);apply_assumption;go_wp2_with fail;go_ret;exact⟨by rw[c.out];rfl,e⟩
 apply_assumption;go_wp2_with fail;refine(iF _ _ _ _).mono ?_;rintro q w3 ⟨b,L⟩;subst w3;obtain⟨t,a⟩:∃t,ib x.inc 0 9999=t:=⟨_,rfl⟩;rw[a] at b;have j:=fS a;clear a;subst b;cases t
 case false=>
  have c:=fS (show g9 x=false by simp[g9,d.out,f.out,i.out,j.out]);apply_assumption;go_wp2_with fail;go_ret;exact⟨by rw[c.out];rfl,e⟩
 apply_assumption;go_wp2_with fail;refine(iF _ _ _ _).mono ?_;rintro q w4 ⟨b,L⟩;subst w4;obtain⟨t,a⟩:∃t,ib x.version 0 9999=t:=⟨_,rfl⟩;rw[a] at b;have k:=fS a;clear a;subst b;cases t
 case false=>
  have c:=fS (show g9 x=false by simp[g9,d.out,f.out,i.out,j.out,k.out]);apply_assumption;go_wp2_with fail;go_ret;exact⟨by rw[c.out];rfl,e⟩
 apply_assumption;go_wp2_with fail;refine(iF _ _ _ _).mono ?_;rintro q w5 ⟨b,L⟩;subst w5;obtain⟨t,a⟩:∃t,ib x.round 0 9999=t:=⟨_,rfl⟩;rw[a] at b;have m:=fS a;clear a;subst b;cases t
 case false=>
  have c:=fS (show g9 x=false by simp[g9,d.out,f.out,i.out,j.out,k.out,m.out]);apply_assumption;go_wp2_with fail;go_ret;exact⟨by rw[c.out];rfl,e⟩
 apply_assumption;go_wp2_with fail;refine(iF _ _ _ _).mono ?_;rintro q w6 ⟨b,L⟩;subst w6;obtain⟨t,a⟩:∃t,ib x.g 0 41=t:=⟨_,rfl⟩;rw[a] at b;have n:=fS a;clear a;subst b;cases t
 case false=>
  have c:=fS (show g9 x=false by simp[g9,d.out,f.out,i.out,j.out,k.out,m.out,n.out]);apply_assumption;go_wp2_with fail;go_ret;exact⟨by rw[c.out];rfl,e⟩
 apply_assumption;go_wp2_with fail;refine(tW _ x.incs F W h.ic).mono ?_;rintro q w7 ⟨b,R⟩;obtain⟨t,a⟩:∃t,mQ x.incs=t:=⟨_,rfl⟩;rw[a] at b;have p:=fS a;clear a;subst b;have E:=fU (gM W.heap.size W) R (Below.size (gM W.heap.size W));have Z7:=fu E J Z;have h7:=h.below E;clear r s u v y z A B C D l;obtain⟨r,s,u,v,y,z,A,B,C,D,l⟩:=nR Z7;cases t
 case false=>
  have c:=fS (show g9 x=false by simp[g9,d.out,f.out,i.out,j.out,k.out,m.out,n.out,p.out]);apply_assumption;go_wp2_with fail;go_ret;exact⟨by rw[c.out];rfl,fU e E e.size⟩
 apply_assumption;go_wp2_with fail;refine(tW _ x.versions F w7 h7.vs).mono ?_;rintro q w8 ⟨b,S⟩;obtain⟨t,a⟩:∃t,mQ x.versions=t:=⟨_,rfl⟩;rw[a] at b;have I:=fS a;clear a;subst b;have G:=fU E S (Below.size E);have Z8:=fu G J Z;have h8:=h.below G;clear r s u v y z A B C D l;obtain⟨r,s,u,v,y,z,A,B,C,D,l⟩:=nR Z8;cases t
 case false=>
  have c:=fS (show g9 x=false by simp[g9,d.out,f.out,i.out,j.out,k.out,m.out,n.out,p.out,I.out]);apply_assumption;go_wp2_with fail;go_ret;exact⟨by rw[c.out];rfl,fU e G e.size⟩
 apply_assumption;go_wp2_with fail;refine(mC _ x.events _ F w8 h8.ev).mono ?_;rintro q w9 ⟨b,T⟩;obtain⟨t,a⟩:∃t,iQ x.events 100=t:=⟨_,rfl⟩;rw[a] at b;have O:=fS a;clear a;subst b;have H:=fU G T (Below.size G);have Z9:=fu H J Z;have h9:=h.below H;clear r s u v y z A B C D l;obtain⟨r,s,u,v,y,z,A,B,C,D,l⟩:=nR Z9;cases t
 case false=>
  have c:=fS (show g9 x=false by simp[g9,d.out,f.out,i.out,j.out,k.out,m.out,n.out,p.out,I.out,O.out]);apply_assumption;go_wp2_with fail;go_ret;exact⟨by rw[c.out];rfl,fU e H e.size⟩
 apply_assumption;go_wp2_with fail;refine(oG _ x.outs _ F w9 h9.ou).mono ?_;rintro q ax ⟨b,P⟩;obtain⟨t,a⟩:∃t,iu x.outs 96=t:=⟨_,rfl⟩;rw[a] at b;have M:=fS a;clear a;subst b;have o:=fU H P (Below.size H);have Q:=fu o J Z;have aw:=h.below o;clear r s u v y z A B C D l;obtain⟨r,s,u,v,y,z,A,B,C,D,l⟩:=nR Q;cases t
 case false=>
  have c:=fS (show g9 x=false by simp[g9,d.out,f.out,i.out,j.out,k.out,m.out,n.out,p.out,I.out,O.out,M.out]);apply_assumption;go_wp2_with fail;go_ret;exact⟨by rw[c.out];rfl,fU e o e.size⟩
 apply_assumption;have c:=fS (show g9 x=true by simp[g9,d.out,f.out,i.out,j.out,k.out,m.out,n.out,p.out,I.out,O.out,M.out]);go_wp2_with fail;go_ret;exact⟨by rw[c.out];rfl,fU e o e.size⟩
theorem AL (x:iD) (vi vj ve vo:Value) (F:Nat→Prop) (w:World) (h:ks w F vi vj ve vo x):
  Calls Tryz.prog 121 #[.agg #[x.kind,x.from_,x.dest,x.inc,x.version,x.round,x.g,vi,vj,ve,vo]] w fun q w' =>q= .returned (.bool (iT x))∧Below w.heap.size w w':=by
 obtain⟨e,k,rfl,-⟩:=h.ic.shape;obtain⟨f,l,rfl,-⟩:=h.vs.shape;obtain⟨i,m,rfl,-⟩:=h.ev.shape;obtain⟨j,n,rfl,-⟩:=h.ou.shape;obtain⟨W,hV,b,Z⟩:=nC w (.cells #[x.kind,x.from_,x.dest,x.inc,x.version,x.round,x.g,.slice e x.incs.length k,.slice f x.versions.length l,.slice i x.events.length m,.slice j x.outs.length n] 88);go_enter Tryz.func121,Tryz.ntmps121;go_upto_region 1 with fail;rw[hV.out];clear hV;replace h:=h.below b;have s:=fx Z;obtain⟨t,u,v,y,z,A,B,C,D,E,r⟩:=nR Z;by_cases q1:x.incs.length=3
 case neg=>
  have o:(((x.incs.length:Nat):Int)==3)=false:=by simpa using (show ¬((x.incs.length:Nat):Int)=3 by omega)
  have c:decide (((x.incs.length:Nat):Int)=3)=false:=ia fT;have a:=fS (show iT x=false by simp[iT,q1]);clear q1;go_wp2_with fail;go_ret;exact⟨by rw[a.out];rfl,b⟩
 have o:(((x.incs.length:Nat):Int)==3)=true:=by simp[q1]
 have c:decide (((x.incs.length:Nat):Int)=3)=true:=iW fT;by_cases q2:x.versions.length=3
 case neg=>
  have p:(((x.versions.length:Nat):Int)==3)=false:=by simpa using (show ¬((x.versions.length:Nat):Int)=3 by omega)
  have d:decide (((x.versions.length:Nat):Int)=3)=false:=ia fT;have a:=fS (show iT x=false by simp[iT,q1,q2]);clear q1 q2;go_wp2_with fail;go_ret;exact⟨by rw[a.out];rfl,b⟩
 have p:(((x.versions.length:Nat):Int)==3)=true:=by simp[q2]
 have d:decide (((x.versions.length:Nat):Int)=3)=true:=iW fT;have a:=fS (show iT x=true by simp[iT,q1,q2]);clear q1 q2;go_wp2_with fail;go_ret;exact⟨by rw[a.out];rfl,b⟩
end Go.Proofs.YtlndjfflhegkdaaGreatDoor
