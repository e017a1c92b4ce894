/- Parts of the proof: Te9, Tf1. -/
import Derived.Test.YtlndjfflhegkdaaGreatDoorQ42
import Derived.Test.YtlndjfflhegkdaaGreatDoorQ48
import Derived.Test.YtlndjfflhegkdaaGreatDoorQ49
set_option linter.unusedVariables false
set_option linter.unusedSimpArgs false
set_option linter.unusedSectionVars false
set_option maxHeartbeats 4000000
set_option maxRecDepth 100000
namespace Go.Proofs.YtlndjfflhegkdaaGreatDoor
open Go.RowKit
def jX (n:gT):Bool:=n.up&&decide (n.g=41)
def iV (x:lB):Bool:=lx x&&(decide (x.sink.length=(kM x.apps 41).outs.length)&&x.nodes.all jX)
theorem yW (x:lB) (va vn vr v1 v2 v3 vs:Value) (F:Nat→Prop) (w:World) (h:kr w F va vn vr v1 v2 v3 vs x):
  Calls Tryz.prog 5 #[.agg #[x.time,va,vn,vr,x.hub.round,v1,v2,v3,vs]] w fun q w' =>q= .returned (.bool (iV x))∧Below w.heap.size w w':=by
 obtain⟨A1,c1,rfl,-⟩:=h.ap.shape;obtain⟨A2,c2,rfl,-⟩:=h.no.shape;obtain⟨A3,c3,rfl,-⟩:=h.ra.shape;obtain⟨A4,c4,rfl,-⟩:=h.hu.on.shape;obtain⟨A5,c5,rfl,-⟩:=h.hu.tw.shape;obtain⟨A6,c6,rfl,-⟩:=h.hu.ou.shape;obtain⟨A7,c7,rfl,-⟩:=h.si.shape;obtain⟨W,hV,b,Z⟩:=nC w (.cells #[x.time,.slice A1 x.apps.length c1,.slice A2 x.nodes.length c2,.slice A3 x.radio.length c3,x.hub.round,.slice A4 x.hub.ones.length c4,.slice A5 x.hub.twos.length c5,.slice A6 x.hub.outs.length c6,.slice A7 x.sink.length c7] 39);go_enter Tryz.func5,Tryz.ntmps5;go_upto_region 1 with fail;rw[hV.out];clear hV;replace h:=h.below b;have ac:=fx Z;obtain⟨Q,R,S,T,U,V,X,Y,d8⟩:=oM Z;refine kA [.rd [0],.mid 1,.rd [2,3,4,5,6,7,8],.mid 9,.rd [10,11,12]] [13] ?_;refine vL ?_;intro N hN;go_wp2_with fail;refine fV (hN _ ?_);clear hN N;refine vM ?_;intro N hN;go_wp2_with fail;refine(BI x _ _ _ _ _ _ _ F _ (h.below (gM W.heap.size W).drew)).mono ?_;rintro e a7 ⟨he,a⟩;obtain⟨tq,hq⟩:∃t,lx x=t:=⟨_,rfl⟩;rw[hq] at he;have o:=fS hq;clear hq;subst he;apply_assumption;refine vN a (hN _ _ ?_);clear hN;cases tq
 case false=>
  have c:=fS (show iV x=false by simp[iV,o.out])
  repeat (first|(refine vL ?_;intro N hN;go_wp2_with fail;refine fV (hN _ ?_);clear hN N)|(refine vM ?_;intro N hN;go_wp2_with fail;refine vN a (hN _ _ ?_);clear hN))
  refine vF ?_;have d:=fS (gK ((gM W.heap.size W).drew) a);go_wp2_with fail;go_ret;exact⟨by rw[c.out];rfl,fU b d.out b.size⟩
 refine vL ?_;intro N hN;go_wp2_with fail;refine fV (hN _ ?_);clear hN N;refine vM ?_;intro N hN;go_wp2_with fail;refine(Ao _ x.apps 41 F _ ((h.below (gK ((gM W.heap.size W).drew) a)).ap)).mono ?_;rintro q a8 ⟨us,uq,uo,rfl,hS,n⟩;obtain⟨S1,s1,rfl,-⟩:=hS.rd.st.shape;obtain⟨S2,s2,rfl,-⟩:=hS.rd.qu.shape;obtain⟨P,s3,rfl,-⟩:=hS.rd.ou.shape;clear hS;obtain⟨m1,s⟩:∃m,(kM x.apps 41).states.length=m:=⟨_,rfl⟩;obtain⟨m2,v⟩:∃m,(kM x.apps 41).queue.length=m:=⟨_,rfl⟩;obtain⟨m,D⟩:∃m,(kM x.apps 41).outs.length=m:=⟨_,rfl⟩;rw[s,v,D];have M:=fS D;clear D s v;have aN:∀w,(Instr.field 51 (.agg #[.slice S1 m1 s1,.slice S2 m2 s2,.slice P m s3]) 2).run Tryz.prog w= .ok (.slice P m s3) w:=fun _=>gY;have l:=fU a n (Below.size a);clear n;apply_assumption;refine vN l (hN _ _ ?_);clear hN;have d:=fS (gK ((gM W.heap.size W).drew) l);by_cases q1:x.sink.length=m
 case neg=>
  have c:=fS (show iV x=false by simp[iV,M.out,q1]);have e1:(((x.sink.length:Nat):Int) !=(m:Int))=true:=by simpa using (show ¬((x.sink.length:Nat):Int)=(m:Int) by omega)
  clear q1;refine vL ?_;intro N hN;go_wp2_with fail;refine fV (hN _ ?_);clear hN N;refine vF ?_;go_wp2_with fail;go_ret;exact⟨by rw[c.out];rfl,fU b d.out b.size⟩
 have e1:(((x.sink.length:Nat):Int) !=(m:Int))=false:=by simp[q1]
 have HL:=fS q1;clear q1;refine vL ?_;intro N hN;go_wp2_with fail;refine fV (hN _ ?_);clear hN N;refine vF ?_;go_wp2_with fail;obtain⟨_,_,_,-,a5,-⟩:=id h.no;clear Q R S T U V X Y d8
 go_loopw [3] (fun i wr=>∃k:Nat,i= .int .i64 k∧k≤x.nodes.length∧Hid ((x.nodes.take k).all jX=true)∧Below W.heap.size W wr) (fun i _=>x.nodes.length-(intOf i).toNat)
 case atStart=>exact⟨0,rfl,j8 _,fS rfl,d.out⟩
 case round=>
  obtain⟨k,rfl,hk,L,f⟩:=hrel;have Zr:=fu f ac Z;have hr:=h.below f;obtain⟨Q,R,S,T,U,V,X,Y,d8⟩:=oM Zr;by_cases hlt:k<x.nodes.length
  ·obtain⟨b0,a6,aW,aV,aY,aZ,aX,rfl,_,ad,z,ae,af,ag,ah,ai,aj,ak,al,H,I,J,j⟩:=mY hr.no k hlt
   obtain⟨B0,a0,rfl,-⟩:=j.la.shape;obtain⟨B1,a1,rfl,-⟩:=j.ke.shape;obtain⟨B2,a2,rfl,-⟩:=j.ou.shape;obtain⟨B3,a3,rfl,-⟩:=j.vi.shape;obtain⟨B4,a4,rfl,-⟩:=j.kn.shape;have p0:(k:Int)<(x.nodes.length:Int):=fT;obtain⟨y,G⟩:∃y,x.nodes[k]=y:=⟨_,rfl⟩;have B:=fS G;rw[G] at ad z ae af ag ah ai aj ak al H I J j;clear G;have A:=fS hlt;obtain⟨u,E⟩:∃u,y.up=u:=⟨_,rfl⟩;have O:=fS E;rw[E] at z;clear E;by_cases q2:y.g=41
   case neg=>
    have e3:(y.g !=41)=true:=by simpa using q2
    have c:=fS (show iV x=false by have C:=ig (p:=jX) A.out (by rw[B.out];simp[jX,q2]);simp[iV,C]);clear q2;cases u
    all_goals
     go_wp2_with fail;go_ret;exact⟨by rw[c.out];rfl,fU b f b.size⟩
   have e3:(y.g !=41)=false:=by simp[q2]
   have HG:=fS q2;clear q2;cases u
   case false=>
    have c:=fS (show iV x=false by have C:=ig (p:=jX) A.out (by rw[B.out];simp[jX,O.out]);simp[iV,C]);go_wp2_with fail;go_ret;exact⟨by rw[c.out];rfl,fU b f b.size⟩
   have HS:=fS (ir (p:=jX) A.out L.out (by rw[B.out];simp[jX,O.out,HG.out]));go_wp2_with fail;go_roundw
   case rel=>exact⟨k+1,by go_num,fT,HS,f⟩
   case measure=>exact ms
  ·have r:k=x.nodes.length:=fT
   have p0:¬(k:Int)<(x.nodes.length:Int):=fT;have HN:=fS (show x.nodes.all jX=true by have h1:=L.out;rwa [r,li] at h1);clear r;have c:=fS (show iV x=true by simp[iV,o.out,M.out,HL.out,HN.out]);go_wp2_with fail;go_ret;exact⟨by rw[c.out];rfl,fU b f b.size⟩
theorem xZ (x:lB) (va vn vr v1 v2 v3 vs:Value) (F:Nat→Prop) (w:World) (h:kr w F va vn vr v1 v2 v3 vs x) (hE:lW w):
  Calls Tryz.prog 7 #[.agg #[x.time,va,vn,vr,x.hub.round,v1,v2,v3,vs]] w fun q w' =>q= .returned (.bool (iV x))∧Below w.heap.size w w':=by
 obtain⟨A1,c1,rfl,-⟩:=h.ap.shape;obtain⟨A2,c2,rfl,-⟩:=h.no.shape;obtain⟨A3,c3,rfl,-⟩:=h.ra.shape;obtain⟨A4,c4,rfl,-⟩:=h.hu.on.shape;obtain⟨A5,c5,rfl,-⟩:=h.hu.tw.shape;obtain⟨A6,c6,rfl,-⟩:=h.hu.ou.shape;obtain⟨A7,c7,rfl,-⟩:=h.si.shape;obtain⟨W,hV,a,Z⟩:=nC w (.cells #[x.time,.slice A1 x.apps.length c1,.slice A2 x.nodes.length c2,.slice A3 x.radio.length c3,x.hub.round,.slice A4 x.hub.ones.length c4,.slice A5 x.hub.twos.length c5,.slice A6 x.hub.outs.length c6,.slice A7 x.sink.length c7] 39);go_enter Tryz.func7,Tryz.ntmps7;go_upto_region 1 with fail;rw[hV.out];clear hV;replace h:=h.below a;have I:=fx Z;obtain⟨l,n,o,r,s,v,z,A,B⟩:=oM Z;go_wp2_with fail;refine(Ar x _ _ _ _ _ _ _ F W h (hE.below a)).mono ?_;rintro q w1 ⟨he,d⟩;obtain⟨t,Q⟩:∃t,lx x=t:=⟨_,rfl⟩;rw[Q] at he;have D:=fS Q;clear Q;subst he;have Z1:=fu d I Z;clear l n o r s v z A B;obtain⟨l,n,o,r,s,v,z,A,B⟩:=oM Z1;cases t
 case false=>
  have b:=fS (show iV x=false by simp[iV,D.out]);apply_assumption;go_wp2_with fail;go_ret;exact⟨by rw[b.out];rfl,fU a d a.size⟩
 apply_assumption;obtain⟨_,_,_,-,ba,-⟩:=id h.no;go_wp2_with fail;clear l n o r s v z A B
 go_loopw [11] (fun i wr=>∃k:Nat,i= .int .i64 k∧k≤x.nodes.length∧Hid ((x.nodes.take k).all jX=true)∧Below W.heap.size W wr) (fun i _=>x.nodes.length-(intOf i).toNat)
 case atStart=>exact⟨0,rfl,j8 _,fS rfl,d⟩
 case round=>
  clear Z1 d;obtain⟨k,rfl,hk,HA,c⟩:=hrel;have Zr:=fu c I Z;have hr:=h.below c;obtain⟨l,n,o,r,s,v,z,A,B⟩:=oM Zr;by_cases hlt:k<x.nodes.length
  ·obtain⟨b0,bb,a7,a6,a9,a',a8,rfl,_,al,J,am,an,ao,aq,ar,au,av,aw,T,U,V,e⟩:=mY hr.no k hlt
   obtain⟨B0,X,rfl,-⟩:=e.la.shape;obtain⟨B1,Y,rfl,-⟩:=e.ke.shape;obtain⟨B2,aa,rfl,-⟩:=e.ou.shape;obtain⟨B3,ab,rfl,-⟩:=e.vi.shape;obtain⟨B4,ac,rfl,-⟩:=e.kn.shape;have p0:(k:Int)<(x.nodes.length:Int):=fT;obtain⟨y,S⟩:∃y,x.nodes[k]=y:=⟨_,rfl⟩;have M:=fS S;rw[S] at al J am an ao aq ar au av aw T U V e;clear S;have L:=fS hlt;obtain⟨u,R⟩:∃u,y.up=u:=⟨_,rfl⟩;have HU:=fS R;rw[R] at J;clear R;have f:=fU c (gs (gM wr.heap.size wr) (.cells #[y.id,.bool u,y.inc,y.g,.slice B0 y.lanes.length X,.slice B1 y.kept.length Y,.slice B2 y.outs.length aa,y.led,y.version,.slice B3 y.views.length ab,.slice B4 y.known.length ac,y.round,y.low] 57)) c.size;by_cases q2:y.g=41
   case neg=>
    have e3:(y.g !=41)=true:=by simpa using q2
    have b:=fS (show iV x=false by have O:=ig (p:=jX) L.out (by rw[M.out];simp[jX,q2]);simp[iV,O]);clear q2;cases u
    all_goals
     go_wp2_with fail;go_ret;exact⟨by rw[b.out];rfl,fU a f a.size⟩
   have e3:(y.g !=41)=false:=by simp[q2]
   have HG:=fS q2;clear q2;cases u
   case false=>
    have b:=fS (show iV x=false by have O:=ig (p:=jX) L.out (by rw[M.out];simp[jX,HU.out]);simp[iV,O]);go_wp2_with fail;go_ret;exact⟨by rw[b.out];rfl,fU a f a.size⟩
   have HS:=fS (ir (p:=jX) L.out HA.out (by rw[M.out];simp[jX,HU.out,HG.out]));go_wp2_with fail;go_roundw
   case rel=>exact⟨k+1,by go_num,fT,HS,f⟩
   case measure=>exact ms
  ·have E:k=x.nodes.length:=fT
   have p0:¬(k:Int)<(x.nodes.length:Int):=fT;have HN:=fS (show x.nodes.all jX=true by have h1:=HA.out;rwa [E,li] at h1);clear E;go_upto_region 9 with fail;refine kA [.rd [0,1,2,3,4],.mid 5,.rd [6,7,8]] [9] ?_;refine vL ?_;intro N hN;go_wp2_with fail;refine fV (hN _ ?_);clear hN N;refine vM ?_;intro N hN;go_wp2_with fail;refine(Am _ x.apps 41 F _ ((h.below (fU c (gM wr.heap.size wr).drew c.size)).ap)).mono ?_;rintro q bc ⟨us,uq,uo,rfl,hS,j⟩;obtain⟨S1,s1,rfl,-⟩:=hS.rd.st.shape;obtain⟨S2,s2,rfl,-⟩:=hS.rd.qu.shape;obtain⟨S3,s3,rfl,-⟩:=hS.rd.ou.shape;clear hS;obtain⟨m1,G⟩:∃m,(kM x.apps 41).states.length=m:=⟨_,rfl⟩;obtain⟨m2,H⟩:∃m,(kM x.apps 41).queue.length=m:=⟨_,rfl⟩;obtain⟨m,P⟩:∃m,(kM x.apps 41).outs.length=m:=⟨_,rfl⟩;rw[G,H,P];have HM:=fS P;clear P G H;have aZ:∀w,(Instr.field 51 (.agg #[.slice S1 m1 s1,.slice S2 m2 s2,.slice S3 m s3]) 2).run Tryz.prog w= .ok (.slice S3 m s3) w:=fun _=>gY;apply_assumption;refine vN j (hN _ _ ?_);clear hN;have C:=fS (fU c (gK (gM wr.heap.size wr).drew j) c.size);by_cases q1:x.sink.length=m
   case neg=>
    have b:=fS (show iV x=false by simp[iV,HM.out,q1]);have e1:(((x.sink.length:Nat):Int)==(m:Int))=false:=by simpa using (show ¬((x.sink.length:Nat):Int)=(m:Int) by omega)
    have ai:decide (((x.sink.length:Nat):Int)=(m:Int))=false:=ia fT;have aj:decide (x.sink.length=m)=false:=ia q1;clear q1;refine vL ?_;intro N hN;go_wp2_with fail;refine fV (hN _ ?_);clear hN N;refine vF ?_;go_wp2_with fail;go_ret;exact⟨by rw[b.out];rfl,fU a C.out a.size⟩
   have e1:(((x.sink.length:Nat):Int)==(m:Int))=true:=by simp[q1]
   have ai:decide (((x.sink.length:Nat):Int)=(m:Int))=true:=iW fT;have aj:decide (x.sink.length=m)=true:=iW q1;have b:=fS (show iV x=true by simp[iV,D.out,HM.out,q1,HN.out]);clear q1;refine vL ?_;intro N hN;go_wp2_with fail;refine fV (hN _ ?_);clear hN N;refine vF ?_;go_wp2_with fail;go_ret;exact⟨by rw[b.out];rfl,fU a C.out a.size⟩
theorem wh {r:iD} (h:mO r≤1048576):r.incs.length≤1048576∧r.versions.length≤1048576∧r.events.length≤1048576∧r.outs.length≤1048576:=by
 unfold mO at h;omega
theorem mb {xs:List iD} (h:(xs.length:Int)+gZ xs≤1048576):lk xs:=by
 have b:=ie xs;exact⟨fT,fun r a=>wh (by have:=tp xs r a;omega)⟩
theorem yw {r:gT} (h:tu r≤1048576):rO r:=by
 unfold tu at h;have e:=jW r.lanes;have f:=j7 r.views;refine⟨fT,fun l b=>?_,fT,fT,fT,fun v d=>?_,fT⟩
 ·have a:=sW r.lanes l b
  have g:=jv l.done;exact⟨fT,fun p c=>by have i:=tb l.done p c;omega⟩
 ·have a:=tm r.views v d;omega
theorem uD {xs:List gT} (h:(xs.length:Int)+iv xs≤1048576):xs.length≤1048576∧∀r∈xs,rO r:=by
 have b:=jY xs;exact⟨fT,fun r a=>yw (by have:=ta xs r a;omega)⟩
theorem CN {x:lB} (h:((x.apps.length:Int)+iS x.apps)+((x.nodes.length:Int)+iv x.nodes)+((x.radio.length:Int)+gZ x.radio)+(mR x.hub)+(x.sink.length:Int)≤1048576):zK x:=by
 have a:=kv x.apps;have b:=jY x.nodes;have c:=ie x.radio;have d:=ie x.hub.ones;have e:=ie x.hub.twos;have f:=ie x.hub.outs;simp only[mR] at h;exact⟨vR fT,uD fT,mb fT,mb fT,mb fT,mb fT,fT⟩
theorem qJ (x:lB) (va vn vr v1 v2 v3 vs:Value) (w:World) (h:kr w (fun k=>k<w.heap.size) va vn vr v1 v2 v3 vs x) (hE:lW w):
  Calls Tryz.prog 3 #[.agg #[x.time,va,vn,vr,x.hub.round,v1,v2,v3,vs]] w fun q w' =>q= .returned (.bool true)∧Below w.heap.size w w':=by
 obtain⟨A1,c1,rfl,-⟩:=h.ap.shape;obtain⟨A2,c2,rfl,-⟩:=h.no.shape;obtain⟨A3,c3,rfl,-⟩:=h.ra.shape;obtain⟨A4,c4,rfl,-⟩:=h.hu.on.shape;obtain⟨A5,c5,rfl,-⟩:=h.hu.tw.shape;obtain⟨A6,c6,rfl,-⟩:=h.hu.ou.shape;obtain⟨A7,c7,rfl,-⟩:=h.si.shape;obtain⟨t,ht⟩:∃t,hM 1048576 (((x.apps.length:Int)+iS x.apps)+((x.nodes.length:Int)+iv x.nodes)+((x.radio.length:Int)+gZ x.radio)+(mR x.hub)+(x.sink.length:Int))=t:=⟨_,rfl⟩;have HT:=fS ht;obtain⟨W,hV,n,Z⟩:=nC w (.cells #[x.time,.slice A1 x.apps.length c1,.slice A2 x.nodes.length c2,.slice A3 x.radio.length c3,x.hub.round,.slice A4 x.hub.ones.length c4,.slice A5 x.hub.twos.length c5,.slice A6 x.hub.outs.length c6,.slice A7 x.sink.length c7] 29);go_enter Tryz.func3,Tryz.ntmps3;go_wp2_with fail;rw[hV.out];clear hV;replace h:=h.below n;have E0:=hE.below n;have S:=fx Z;refine(wg x _ _ _ _ _ _ _ 1048576 _ W h dc dc).mono ?_;rintro q w1 ⟨rfl,m⟩;rw[ht];clear ht;have Z1:=fu m S Z;obtain⟨U,V,X,Y,d4,d5,d6,d7,d8⟩:=oM Z1;have h1:=h.below m;have E1:=E0.below m;apply_assumption;by_cases hneg:t<0
 ·have hd:decide (t<0)=true:=iW hneg
  clear hneg;go_wp2_with fail;go_ret;exact⟨rfl,fU n m n.size⟩
 have hd:decide (t<0)=false:=ia hneg;have Q:=CN (x:=x) (by have h4:=iz HT.out hneg;omega);have z:=fS Q;clear hneg Q;go_wp2_with fail;refine(mw x _ _ _ _ _ _ _ _ w1 h1 z.out).mono ?_;rintro q w2 ⟨ua,un,ur,u1,u2,u3,us,rfl,c,aN⟩;obtain⟨D1,bn,rfl,-⟩:=c.ap.shape;obtain⟨D2,bo,rfl,-⟩:=c.no.shape;obtain⟨D3,bp,rfl,-⟩:=c.ra.shape;obtain⟨D4,bq,rfl,-⟩:=c.hu.on.shape;obtain⟨D5,br,rfl,-⟩:=c.hu.tw.shape;obtain⟨D6,bs,rfl,-⟩:=c.hu.ou.shape;obtain⟨D7,bt,rfl,-⟩:=c.si.shape;have af:=fU m aN m.size;apply_assumption;go_wp2_with fail;refine(yW x _ _ _ _ _ _ _ _ w2 c).mono ?_;rintro q w3 ⟨j,aO⟩;obtain⟨b,hb⟩:∃b,iV x=b:=⟨_,rfl⟩;rw[hb] at j;have HB:=fS hb;clear hb c;subst j;have A:=fU af aO af.size;have Z3:=fu A S Z;clear U V X Y d4 d5 d6 d7 d8;obtain⟨U,V,X,Y,d4,d5,d6,d7,d8⟩:=oM Z3;have h3:=h.below A;apply_assumption;go_wp2_with fail;refine(mw x _ _ _ _ _ _ _ _ w3 h3 z.out).mono ?_;rintro q B ⟨ua,un,ur,u1,u2,u3,us,rfl,d,aP⟩;obtain⟨D,o,rfl,-⟩:=d.ap.shape;obtain⟨E,p,rfl,-⟩:=d.no.shape;obtain⟨F,r,rfl,-⟩:=d.ra.shape;obtain⟨G,s,rfl,-⟩:=d.hu.on.shape;obtain⟨H,u,rfl,-⟩:=d.hu.tw.shape;obtain⟨I,v,rfl,-⟩:=d.hu.ou.shape;obtain⟨J,y,rfl,-⟩:=d.si.shape;have ag:=fU A aP A.size;clear U V X Y d4 d5 d6 d7 d8;apply_assumption;go_upto_region 7 with fail;have L:=gs ag (.cells #[x.time,.slice D x.apps.length o,.slice E x.nodes.length p,.slice F x.radio.length r,x.hub.round,.slice G x.hub.ones.length s,.slice H x.hub.twos.length u,.slice I x.hub.outs.length v,.slice J x.sink.length y] 39);have T:(B.alloc (.cells #[x.time,.slice D x.apps.length o,.slice E x.nodes.length p,.slice F x.radio.length r,x.hub.round,.slice G x.hub.ones.length s,.slice H x.hub.twos.length u,.slice I x.hub.outs.length v,.slice J x.sink.length y] 39)).heap[B.heap.size]? =some (.cells #[x.time,.slice D x.apps.length o,.slice E x.nodes.length p,.slice F x.radio.length r,x.hub.round,.slice G x.hub.ones.length s,.slice H x.hub.twos.length u,.slice I x.hub.outs.length v,.slice J x.sink.length y] 39):=gL rfl;have M:=d.below (gs (gM B.heap.size B) (.cells #[x.time,.slice D x.apps.length o,.slice E x.nodes.length p,.slice F x.radio.length r,x.hub.round,.slice G x.hub.ones.length s,.slice H x.hub.twos.length u,.slice I x.hub.outs.length v,.slice J x.sink.length y] 39));have bu:=ag.size;obtain⟨gx,R⟩:∃g,g=B.heap.size:=⟨_,rfl⟩;rw[←R] at T;simp only[←R];clear R d;generalize B.alloc (.cells #[x.time,.slice D x.apps.length o,.slice E x.nodes.length p,.slice F x.radio.length r,x.hub.round,.slice G x.hub.ones.length s,.slice H x.hub.twos.length u,.slice I x.hub.outs.length v,.slice J x.sink.length y] 39)=W5 at*;have aj:=fx T;obtain⟨f0,f1,f2,f3,f4,f5,f6,f7,f8⟩:=oM T;go_wp2_with fail;refine(xZ x _ _ _ _ _ _ _ _ W5 M (E0.below L)).mono ?_;rintro q f ⟨j,O⟩;rw[HB.out] at j;subst j;have l:=fU L O L.size;have Z6:=fu l S Z;have aA:=fu O aj T;have h6:=h.below l;have ah:=M.below O;clear f0 f1 f2 f3 f4 f5 f6 f7 f8;obtain⟨U,V,X,Y,d4,d5,d6,d7,d8⟩:=oM Z6;obtain⟨f0,f1,f2,f3,f4,f5,f6,f7,f8⟩:=oM aA;clear M h3 h1;apply_assumption;cases b
 case false=>
  go_upto_region 10 with fail;refine kA [.rd [0,1],.mid 2,.mid 3] [4] ?_;refine vL ?_;intro N hN;go_wp2_with fail;refine fV (hN _ ?_);clear hN N;refine vM ?_;intro N hN;go_wp2_with fail;refine(mw x _ _ _ _ _ _ _ _ _ (h6.below (gM f.heap.size f).drew) z.out).mono ?_;rintro q w7 ⟨ua,un,ur,u1,u2,u3,us,rfl,a,e⟩;obtain⟨Y1,ar,rfl,-⟩:=a.ap.shape;obtain⟨Y2,au,rfl,-⟩:=a.no.shape;obtain⟨Y3,av,rfl,-⟩:=a.ra.shape;obtain⟨Y4,aw,rfl,-⟩:=a.hu.on.shape;obtain⟨Y5,ax,rfl,-⟩:=a.hu.tw.shape;obtain⟨Y6,ay,rfl,-⟩:=a.hu.ou.shape;obtain⟨Y7,az,rfl,-⟩:=a.si.shape;apply_assumption;refine vN e (hN _ _ ?_);clear hN;refine vM ?_;intro N hN;go_wp2_with fail;refine(qL x x _ _ _ _ _ _ _ _ _ _ _ _ _ _ (fun _=>True) _ ((ah.below (gK (gM f.heap.size f).drew e)).mono (fun _ _=>trivial)) (a.mono (fun _ _=>trivial))).mono ?_;rintro q w8 ⟨j,P⟩;rw[iW rfl] at j;subst j;have i:=fU e P e.size;apply_assumption;refine vN i (hN _ _ ?_);clear hN;refine vF ?_;have C:=fS (fU l (gK (gM f.heap.size f).drew i) l.size);go_wp2_with fail;go_ret;exact⟨rfl,fU n C.out n.size⟩
 case true=>
  go_upto_region 10 with fail;refine kA [.rd [0,1],.mid 2,.mid 3] [4] ?_;refine vL ?_;intro N hN;go_wp2_with fail;refine fV (hN _ ?_);clear hN N;refine vM ?_;intro N hN;go_wp2_with fail;refine(mw x _ _ _ _ _ _ _ _ _ (h6.below (gM f.heap.size f).drew) z.out).mono ?_;rintro q w7 ⟨ua,un,ur,u1,u2,u3,us,rfl,a,e⟩;obtain⟨Y1,ar,rfl,-⟩:=a.ap.shape;obtain⟨Y2,au,rfl,-⟩:=a.no.shape;obtain⟨Y3,av,rfl,-⟩:=a.ra.shape;obtain⟨Y4,aw,rfl,-⟩:=a.hu.on.shape;obtain⟨Y5,ax,rfl,-⟩:=a.hu.tw.shape;obtain⟨Y6,ay,rfl,-⟩:=a.hu.ou.shape;obtain⟨Y7,az,rfl,-⟩:=a.si.shape;apply_assumption;refine vN e (hN _ _ ?_);clear hN;refine vM ?_;intro N hN;go_wp2_with fail;refine(qL x x _ _ _ _ _ _ _ _ _ _ _ _ _ _ (fun _=>True) _ ((ah.below (gK (gM f.heap.size f).drew e)).mono (fun _ _=>trivial)) (a.mono (fun _ _=>trivial))).mono ?_;rintro q w8 ⟨j,P⟩;rw[iW rfl] at j;subst j;have i:=fU e P e.size;apply_assumption;refine vN i (hN _ _ ?_);clear hN;refine vF ?_;have C:=fS (fU l (gK (gM f.heap.size f).drew i) l.size);go_wp2_with fail;go_ret;exact⟨rfl,fU n C.out n.size⟩
end Go.Proofs.YtlndjfflhegkdaaGreatDoor
