/- Parts of the proof: Ni7, Te6. -/
import Derived.Test.YtlndjfflhegkdaaGreatDoorQ40
import Derived.Test.YtlndjfflhegkdaaGreatDoorQ44
import Derived.Test.YtlndjfflhegkdaaGreatDoorQ46
set_option linter.unusedVariables false
set_option linter.unusedSimpArgs false
set_option linter.unusedSectionVars false
set_option maxHeartbeats 4000000
set_option maxRecDepth 100000
namespace Go.Proofs.YtlndjfflhegkdaaGreatDoor
open Go.RowKit
theorem Aj (n:gT) (vl vk vo vv vn:Value) (F:Nat→Prop) (w:World) (h:i4 w F vl vk vo vv vn n):
  Calls Tryz.prog 118 #[.agg #[n.id,n.up,n.inc,n.g,vl,vk,vo,n.led,n.version,vv,vn,n.round,n.low]] w fun q w' =>q= .returned (.bool (jt n))∧Below w.heap.size w w':=by
 obtain⟨A1,c1,rfl,-⟩:=h.la.shape;obtain⟨A2,c2,rfl,-⟩:=h.ke.shape;obtain⟨A3,c3,rfl,-⟩:=h.ou.shape;obtain⟨A4,c4,rfl,-⟩:=h.vi.shape;obtain⟨A5,c5,rfl,-⟩:=h.kn.shape;obtain⟨W,hV,u,Z⟩:=nC w (.cells #[n.id,n.up,n.inc,n.g,.slice A1 n.lanes.length c1,.slice A2 n.kept.length c2,.slice A3 n.outs.length c3,n.led,n.version,.slice A4 n.views.length c4,.slice A5 n.known.length c5,n.round,n.low] 57);go_enter Tryz.func118,Tryz.ntmps118;go_upto_region 1 with fail;rw[hV.out];clear hV;replace h:=h.below u;have aI:=fx Z;obtain⟨M,O,P,Q,R,S,T,U,V,Y,z,A,B⟩:=jS Z;go_wp2_with fail;refine(Bk n _ _ _ _ _ F W h).mono ?_;rintro q w0 ⟨he,o⟩;obtain⟨t,ht⟩:∃t,jr n=t:=⟨_,rfl⟩;rw[ht] at he;have e:=fS ht;clear ht;subst he;have Z0:=fu o aI Z;have h0:=h.below o;clear M O P Q R S T U V Y z A B;cases t
 case false=>
  have C:=fS (show jt n=false from ns (by rw[e.out];simp));apply_assumption;go_wp2_with fail;go_ret;exact⟨by rw[C.out];rfl,fU u o u.size⟩
 apply_assumption;obtain⟨M,O,P,Q,R,S,T,U,V,Y,z,A,B⟩:=jS Z0;have D:=yn e.out;have a':=fS (Dn e.out);have aG:=fS ((jG n).1 e.out).2.2.2.2.2.2.1;have a7:=fS ((jG n).1 e.out).2.2.2.2.2.1;have a9:=fS (show n.views.length≤1000 by have:=((jG n).1 e.out).2.2.2.2.1;omega);have bM:=D.lanes;go_wp2_with fail;refine(BO n _ _ _ _ _ F w0 h0 D a9.out a7.out).mono ?_;rintro q w1 ⟨gb,vb,vk,vo,vd,gm,vn,vs,rs,rfl,hB,r⟩;have E:=fU o r o.size;have Z1:=fu E aI Z;have bN:=ly o.size r.size;obtain⟨lo,aE⟩:∃l,w0.heap.size=l:=⟨_,rfl⟩;obtain⟨hi,aC⟩:∃l,w1.heap.size=l:=⟨_,rfl⟩;rw[aE,aC] at hB;clear aE aC;apply_assumption;clear M O P Q R S T U V Y z A B;obtain⟨M,O,P,Q,R,S,T,U,V,Y,z,A,B⟩:=jS Z1;obtain⟨Ad,cd,rfl⟩:=hB.vdS;go_wp2_with fail;refine(uN n.id w1).mono ?_;rintro q w2 ⟨u2,rfl,ap,ar⟩;obtain⟨Ap,cp,rfl,-⟩:=ap.shape;have aA:=fS (show(iO n.id).length=n.lanes.length by rw[←aG.out,List.length_map]);have a4:=hB.keep ar;have j:=fU E ar E.size;have aU:=fS ap.rd;clear ap Z0 Z1 h0 hB E ar r;apply_assumption;clear M O P Q R S T U V Y z A B;skip;obtain⟨pl,a8⟩:∃pl,(iO n.id).length=pl:=⟨_,rfl⟩;have bJ:=fS a8;go_wp2_with fail;obtain⟨X,hX⟩:∃X,X=w2:=⟨_,rfl⟩;subst hX
 go_loopw [16] (fun i wr=>∃k:Nat,i= .int .i64 k∧k≤n.lanes.length∧Hid ((n.lanes.take k).all (kb n)=true)∧Below X.heap.size X wr) (fun i _=>n.lanes.length-(intOf i).toNat)
 case atStart=>exact⟨0,rfl,j8 _,fS rfl,gM _ _⟩
 case round=>
  obtain⟨k,rfl,hk,HA,hb⟩:=hrel;have hr:=a4.keep hb;have aT:=fU j hb j.size;by_cases hlt:k<n.lanes.length
  ·have aF:k<(iO n.id).length:=by rw[aA.out];exact hlt
   have p0:(k:Int)<((iO n.id).length:Int):=fT;have p1:(k:Int)<(n.lanes.length:Int):=fT;obtain⟨b3,o3,a3,-,bL,z0⟩:=lY (aU.out.below hb) k aF;subst a3;have az:=fS (show(iO n.id)[k]=n.lanes[k].proc from Option.some.inj (by rw[←pE aF,←aG.out,List.getElem?_map,pE hlt];rfl));rw[az.out] at z0;obtain⟨b1,o1,A6,c6,a2,r,y5,r1⟩:=tR hr k hlt;subst a2;obtain⟨x,hx⟩:∃x,n.lanes[k]=x:=⟨_,rfl⟩;rw[hx] at z0 y5 r1;have HX:=fS hx;clear hx az;have J:=fS hlt;go_wp2_with fail;refine(Er n lo hi gb vb vk vo _ gm vn vs rs wr hr D a'.out x.proc).mono ?_;rintro q b ⟨u3,rfl,H,f⟩;obtain⟨d,au⟩:∃d,jq n x.proc=d:=⟨_,rfl⟩;rw[au] at H;have I:=fS au;clear au;obtain⟨C3,bK,rfl,-⟩:=H.shape;have h3:=hr.keep f;have r3:=(r1.below f).bound;have aB:=H.rd;replace y5:=(f.cell (p:=⟨b1,_,none⟩) r).trans y5;have bB:=sF r f.size;have m:=fU hb f hb.size;clear H z0;apply_assumption;obtain⟨s,hs⟩:∃s,hZ x.done d=s:=⟨_,rfl⟩;have HS:=fS hs;have L:=fS (show s≤x.done.length by rw[←hs];exact(nJ _ _).1);clear hs;go_upto_region 8 with fail;have Bg:b.heap[gb]? =some (.cells #[n.id,n.inc,n.g,n.led,vb,vk,vo,n.up,.slice (some ⟨b1,o1,none⟩) n.lanes.length cd,n.version,.map (some gm),vn,n.round,n.low] 247):=(show _∧_ from mP.sets h3 |>.get 0 rfl).2;obtain⟨aa,ab,ac,ad,ae,af,ag,ah,ai,aj,ak,al,am,an⟩:=xf Bg;by_cases q2:100<d.length
   case pos=>
    have C:=fS (qB J.out (by rw[show n.lanes[k]=x from HX.out];have aH:=L.out;simp[kb,I.out,HS.out];omega));have e3:decide ((d.length:Int)>100)=true:=iW fT;have e4:decide ((100:Int)<(d.length:Int))=true:=iW fT;have e5:decide (100<d.length)=true:=iW (q2);clear q2;refine kA [.rd [0,1,2,3,4,5,6,7,8,9,10,12,14,15,16,17,18,19,20,21],.mid 11,.mid 13] [22,23] ?_;refine vL ?_;intro N hN;go_wp2_with fail;refine fV (hN _ ?_);clear hN N;refine vM ?_;intro N hN;go_wp2_with fail;refine vN (gM b.drew.heap.size b.drew) (hN _ _ ?_);clear hN;refine vM ?_;intro N hN;go_wp2_with fail;refine vN (gM b.drew.heap.size b.drew) (hN _ _ ?_);clear hN;refine vF ?_;have y:=fS (fU m (gM b.heap.size b).drew m.size);clear Bg aa ab ac ad ae af ag ah ai aj ak al am an;go_wp2_with fail;go_ret;exact⟨by rw[C.out];rfl,fU u (fU j y.out j.size) u.size⟩
   have e3:decide ((d.length:Int)>100)=false:=ia fT;have e4:decide ((100:Int)<(d.length:Int))=false:=ia fT;have e5:decide (100<d.length)=false:=ia (q2);by_cases q1:s<x.done.length
   case pos=>
    have C:=fS (qB J.out (by rw[show n.lanes[k]=x from HX.out];have aH:=L.out;simp[kb,I.out,HS.out];omega));have e1:decide ((s:Int)<(x.done.length:Int))=true:=iW fT;have e2:decide (s<x.done.length)=true:=iW (q1);clear q1 q2;refine kA [.rd [0,1,2,3,4,5,6,7,8,9,10,12,14,15,16,17,18,19,20,21],.mid 11,.mid 13] [22,23] ?_;refine vL ?_;intro N hN;go_wp2_with fail;refine fV (hN _ ?_);clear hN N;refine vM ?_;intro N hN;go_wp2_with fail;refine(wq _ x.done _ _ (r3.below (gM b.heap.size b).drew) (fun k hk=>hk.2)).mono ?_;rintro q av ⟨gc,G,rfl,a6,ao,a⟩;apply_assumption;refine vN a (hN _ _ ?_);clear hN;refine vM ?_;intro N hN;go_wp2_with fail;refine(tO gc _ x.done G d _ _ av ao (aB.below (gK (gM b.heap.size b).drew a))).mono ?_;rintro q bh ⟨rfl,v⟩;rw[HS.out];have c:=fU a v a.size;apply_assumption;refine vN c (hN _ _ ?_);clear hN;refine vF ?_;have y:=fS (fU m (gK (gM b.heap.size b).drew c) m.size);clear Bg aa ab ac ad ae af ag ah ai aj ak al am an;go_wp2_with fail;go_ret;exact⟨by rw[C.out];rfl,fU u (fU j y.out j.size) u.size⟩
   have aS:=fS (ir (p:=kb n) J.out HA.out (by rw[show n.lanes[k]=x from HX.out];have aH:=L.out;simp[kb,I.out,HS.out];omega));have e1:decide ((s:Int)<(x.done.length:Int))=false:=ia fT;have e2:decide (s<x.done.length)=false:=ia (q1);clear q1 q2;refine kA [.rd [0,1,2,3,4,5,6,7,8,9,10,12,14,15,16,17,18,19,20,21],.mid 11,.mid 13] [22,23] ?_;refine vL ?_;intro N hN;go_wp2_with fail;refine fV (hN _ ?_);clear hN N;refine vM ?_;intro N hN;go_wp2_with fail;refine(wq _ x.done _ _ (r3.below (gM b.heap.size b).drew) (fun k hk=>hk.2)).mono ?_;rintro q av ⟨gc,G,rfl,a6,ao,a⟩;apply_assumption;refine vN a (hN _ _ ?_);clear hN;refine vM ?_;intro N hN;go_wp2_with fail;refine(tO gc _ x.done G d _ _ av ao (aB.below (gK (gM b.heap.size b).drew a))).mono ?_;rintro q bh ⟨rfl,v⟩;rw[HS.out];have c:=fU a v a.size;apply_assumption;refine vN c (hN _ _ ?_);clear hN;refine vF ?_;have y:=fS (fU m (gK (gM b.heap.size b).drew c) m.size);clear Bg aa ab ac ad ae af ag ah ai aj ak al am an;go_wp2_with fail;go_roundw
   case rel=>exact⟨k+1,by go_num,fT,aS,y.out⟩
   case measure=>exact ms
  ·have aD:k=n.lanes.length:=fT
   have p0:¬(k:Int)<((iO n.id).length:Int):=by rw[aA.out];omega
   have C:=fS (show jt n=true by have h1:=HA.out;rw[aD,li] at h1;simp only[jt,e.out,so,h1,Bool.and_self]);clear aD;go_wp2_with fail;go_ret;exact⟨by rw[C.out];rfl,fU u aT u.size⟩
theorem zx (v:Value) (xs:List gT) (F:Nat→Prop) (w:World) (h:Rd nA w F v xs):
  Calls Tryz.prog 83 #[v] w fun q w' =>q= .returned (.bool (lL xs))∧Below w.heap.size w w':=by
 obtain⟨A,c,rfl,-,ag,-⟩:=id h;go_enter Tryz.func83,Tryz.ntmps83;go_wp2_with fail
 go_loopw [7] (fun i wr=>∃k:Nat,i= .int .i64 k∧k≤xs.length∧Hid ((List.range k).all (lZ xs)=true)∧Below w.heap.size w wr) (fun i _=>xs.length-(intOf i).toNat)
 case atStart=>exact⟨0,rfl,j8 _,fS rfl,gM _ _⟩
 case round=>
  obtain⟨k,rfl,hk,O,e⟩:=hrel;by_cases hlt:k<xs.length
  ·have hr:=h.below e
   obtain⟨b0,ap,al,ak,an,ao,am,rfl,_,U,V,W,X,Y,Z,aa,ab,ac,ad,D,E,G,b⟩:=mY hr k hlt;obtain⟨H,j,rfl,-⟩:=b.la.shape;obtain⟨I,l,rfl,-⟩:=b.ke.shape;obtain⟨J,m,rfl,-⟩:=b.ou.shape;obtain⟨L,n,rfl,-⟩:=b.vi.shape;obtain⟨M,o,rfl,-⟩:=b.kn.shape;have p0:(k:Int)<(xs.length:Int):=fT;have d:=fS (wN hlt);obtain⟨y,C⟩:∃y,xs[k]=y:=⟨_,rfl⟩;have HY:=fS C;rw[C] at U V W X Y Z aa ab ac ad D E G b d;clear C;have P:=fS hlt;have f:=fU e (gs (gM wr.heap.size wr) (.cells #[y.id,y.up,y.inc,y.g,.slice H y.lanes.length j,.slice I y.kept.length l,.slice J y.outs.length m,y.led,y.version,.slice L y.views.length n,.slice M y.known.length o,y.round,y.low] 57)) e.size;have sq:=b.below (gs (gM wr.heap.size wr) (.cells #[y.id,y.up,y.inc,y.g,.slice H y.lanes.length j,.slice I y.kept.length l,.slice J y.outs.length m,y.led,y.version,.slice L y.views.length n,.slice M y.known.length o,y.round,y.low] 57));by_cases q1:y.id=(k:Int)
   case neg=>
    have a:=fS (show lL xs=false by have z:=mH (p:=lZ xs) P.out (by rw[d.out];simp[q1]);simp[lL,z]);have x:(y.id !=(k:Int))=true:=by simpa using q1
    clear q1;go_wp2_with fail;go_ret;exact⟨by rw[a.out];rfl,f⟩
   have x:(y.id !=(k:Int))=false:=by simp[q1]
   have Q:=fS q1;clear q1;go_wp2_with fail;refine(Aj y _ _ _ _ _ F _ sq).mono ?_;rintro q w5 ⟨T,S⟩;obtain⟨t,B⟩:∃t,jt y=t:=⟨_,rfl⟩;rw[B] at T;have r:=fS B;clear B;subst T;have s:=fU f S f.size;cases t
   case false=>
    have a:=fS (show lL xs=false by have z:=mH (p:=lZ xs) P.out (by rw[d.out,r.out];simp);simp[lL,z]);apply_assumption;go_wp2_with fail;go_ret;exact⟨by rw[a.out];rfl,s⟩
   apply_assumption;have HS:=fS (mm (p:=lZ xs) O.out (by rw[d.out,r.out];simp[Q.out]));go_wp2_with fail;go_roundw
   case rel=>exact⟨k+1,by go_num,fT,HS,s⟩
   case measure=>exact ms
  ·have u:k=xs.length:=fT
   have p0:¬(k:Int)<(xs.length:Int):=fT;have HN:=fS (show(List.range xs.length).all (lZ xs)=true by have h1:=O.out;rwa [u] at h1);clear u;by_cases q1:xs.length=3
   case pos=>
    have a:=fS (show lL xs=true by unfold lL;rw[HN.out];simp[q1]);have x:(((xs.length:Nat):Int)==3)=true:=by simp[q1]
    have R:decide (((xs.length:Nat):Int)=3)=true:=iW fT;clear q1;go_wp2_with fail;go_ret;exact⟨by rw[a.out];rfl,e⟩
   have a:=fS (show lL xs=false by simp[lL,q1]);have x:(((xs.length:Nat):Int)==3)=false:=by simpa using (show ¬((xs.length:Nat):Int)=3 by omega)
   have R:decide (((xs.length:Nat):Int)=3)=false:=ia fT;clear q1;go_wp2_with fail;go_ret;exact⟨by rw[a.out];rfl,e⟩
theorem zE (v:Value) (xs:List iD) (F:Nat→Prop) (w:World) (h:Rd mK w F v xs):
  Calls Tryz.prog 84 #[v] w fun q w' =>q= .returned (.bool (mu xs))∧Below w.heap.size w w':=by
 obtain⟨A,c,rfl,-,ab,-⟩:=id h;go_enter Tryz.func84,Tryz.ntmps84;go_wp2_with fail
 go_loopw [7] (fun i wr=>∃k:Nat,i= .int .i64 k∧k≤xs.length∧Hid ((xs.take k).all g9=true)∧Below w.heap.size w wr) (fun i _=>xs.length-(intOf i).toNat)
 case atStart=>exact⟨0,rfl,j8 _,fS rfl,gM _ _⟩
 case round=>
  obtain⟨k,rfl,hk,D,d⟩:=hrel;by_cases hlt:k<xs.length
  ·have hr:=h.below d
   obtain⟨b0,aj,ag,ah,af,ai,rfl,_,⟨L,M,O,P,Q,R,S⟩,⟨T,U,V,W⟩,a⟩:=lq hr k hlt;obtain⟨x,e,rfl,-⟩:=a.ic.shape;obtain⟨z,f,rfl,-⟩:=a.vs.shape;obtain⟨B,j,rfl,-⟩:=a.ev.shape;obtain⟨C,l,rfl,-⟩:=a.ou.shape;have p0:(k:Int)<(xs.length:Int):=fT;obtain⟨y,u⟩:∃y,xs[k]=y:=⟨_,rfl⟩;have G:=fS u;rw[u] at L M O P Q R S T U V W a;clear u;have E:=fS hlt;have o:=fU d (gs (gM wr.heap.size wr) (.cells #[y.kind,y.from_,y.dest,y.inc,y.version,y.round,y.g,.slice x y.incs.length e,.slice z y.versions.length f,.slice B y.events.length j,.slice C y.outs.length l] 88)) d.size;have sq:=a.below (gs (gM wr.heap.size wr) (.cells #[y.kind,y.from_,y.dest,y.inc,y.version,y.round,y.g,.slice x y.incs.length e,.slice z y.versions.length f,.slice B y.events.length j,.slice C y.outs.length l] 88));go_wp2_with fail;refine(ql y _ _ _ _ F _ sq).mono ?_;rintro q w5 ⟨J,I⟩;obtain⟨t,s⟩:∃t,g9 y=t:=⟨_,rfl⟩;rw[s] at J;have m:=fS s;clear s;subst J;have n:=fU o I o.size;cases t
   case false=>
    have b:=fS (show mu xs=false by have h9:=ig (p:=g9) E.out (by rw[G.out];exact m.out);simp[mu,h9]);apply_assumption;go_wp2_with fail;go_ret;exact⟨by rw[b.out];rfl,n⟩
   apply_assumption;have HS:=fS (ir (p:=g9) E.out D.out (by rw[G.out];exact m.out));go_wp2_with fail;go_roundw
   case rel=>exact⟨k+1,by go_num,fT,HS,n⟩
   case measure=>exact ms
  ·have r:k=xs.length:=fT
   have p0:¬(k:Int)<(xs.length:Int):=fT;have X:=fS (show xs.all g9=true by have Z:=D.out;rwa [r,li] at Z);clear r;by_cases q1:xs.length≤40
   case pos=>
    have b:=fS (show mu xs=true by simp[mu,X.out,q1]);have Y:decide (((xs.length:Nat):Int)≤40)=true:=iW fT;have H:decide (xs.length≤40)=true:=iW q1;clear q1;go_wp2_with fail;go_ret;exact⟨by rw[b.out];rfl,d⟩
   have b:=fS (show mu xs=false by simp[mu,q1]);have Y:decide (((xs.length:Nat):Int)≤40)=false:=ia fT;have H:decide (xs.length≤40)=false:=ia q1;clear q1;go_wp2_with fail;go_ret;exact⟨by rw[b.out];rfl,d⟩
end Go.Proofs.YtlndjfflhegkdaaGreatDoor
