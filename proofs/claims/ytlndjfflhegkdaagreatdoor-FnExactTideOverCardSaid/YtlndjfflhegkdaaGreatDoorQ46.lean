/- Parts of the proof: Nh2. -/
import Derived.Test.YtlndjfflhegkdaaGreatDoorQ43
set_option linter.unusedVariables false
set_option linter.unusedSimpArgs false
set_option linter.unusedSectionVars false
set_option maxHeartbeats 4000000
set_option maxRecDepth 100000
namespace Go.Proofs.YtlndjfflhegkdaaGreatDoor
open Go.RowKit
def kL (n:gT):Bool:=ib n.id 0 2&&(ib n.inc 1 9999&&(ib n.g 0 41&&(ib n.led 0 9999&&(ib n.version 0 9999&&(ib n.round 0 9999&&ib n.low 0 41)))))
theorem uG (n:gT):kL n=true↔ib n.id 0 2=true∧ib n.inc 1 9999=true∧ib n.g 0 41=true∧ib n.led 0 9999=true∧ib n.version 0 9999=true∧ib n.round 0 9999=true∧ib n.low 0 41=true:=by
 simp only[kL,Bool.and_eq_true]
theorem jG (n:gT):jr n=true↔kL n=true∧iQ n.kept 100=true∧iu n.outs 96=true∧(∀o∈n.outs,o.time<n.g)∧n.views.length=3∧n.known.length=3∧n.lanes.map (fun l=>l.proc)=iO n.id∧n.lanes.all jj=true∧n.views.all j6=true∧n.known.all (fun k=>ib k 0 41)=true:=by
 simp only[jr,uG,Bool.and_eq_true,decide_eq_true_eq,List.all_eq_true];constructor
 ·rintro⟨j,m,p,q,r,s,t,u,v,a,b,c,d,e,f,i⟩
  exact⟨⟨j,m,p,q,r,s,t⟩,u,v,a,d,f,b,c,e,i⟩
 ·rintro⟨⟨j,m,p,q,r,s,t⟩,u,v,a,d,f,b,c,e,i⟩
  exact⟨j,m,p,q,r,s,t,u,v,a,b,c,d,e,f,i⟩
theorem AV {n:gT} (h:¬jr n=true):jr n=false:=by simpa using h
theorem yA (n:gT) (vl vk vo vv vn:Value) (F:Nat→Prop) (w:World) (h:i4 w F vl vk vo vv vn n):
  Calls Tryz.prog 174 #[.agg #[n.id,n.up,n.inc,n.g,vl,vk,vo,n.led,n.version,vv,vn,n.round,n.low]] w fun q w' =>q= .returned (.bool (kL n))∧Below w.heap.size w w':=by
 obtain⟨p,x,rfl,-⟩:=h.la.shape;obtain⟨r,y,rfl,-⟩:=h.ke.shape;obtain⟨s,z,rfl,-⟩:=h.ou.shape;obtain⟨u,A,rfl,-⟩:=h.vi.shape;obtain⟨v,B,rfl,-⟩:=h.kn.shape;obtain⟨W,hV,d,Z⟩:=nC w (.cells #[n.id,n.up,n.inc,n.g,.slice p n.lanes.length x,.slice r n.kept.length y,.slice s n.outs.length z,n.led,n.version,.slice u n.views.length A,.slice v n.known.length B,n.round,n.low] 57);go_enter Tryz.func174,Tryz.ntmps174;go_upto_region 1 with fail;rw[hV.out];clear hV;replace h:=h.below d;have P:=fx Z;obtain⟨Q,R,S,T,U,V,X,Y,d8,d9,L,M,O⟩:=jS Z;go_wp2_with fail;refine(ut _ _).mono ?_;rintro q C ⟨b,e⟩;subst C;obtain⟨t,a⟩:∃t,ib n.id 0 2=t:=⟨_,rfl⟩;rw[a] at b;have f:=fS a;clear a;subst b;cases t
 case false=>
  have c:=fS (show kL n=false by simp[kL,f.out]);apply_assumption;go_wp2_with fail;go_ret;exact⟨by rw[c.out];rfl,d⟩
 apply_assumption;go_wp2_with fail;refine(iF _ _ _ _).mono ?_;rintro q D ⟨b,e⟩;subst D;obtain⟨t,a⟩:∃t,ib n.inc 1 9999=t:=⟨_,rfl⟩;rw[a] at b;have i:=fS a;clear a;subst b;cases t
 case false=>
  have c:=fS (show kL n=false by simp[kL,i.out]);apply_assumption;go_wp2_with fail;go_ret;exact⟨by rw[c.out];rfl,d⟩
 apply_assumption;go_wp2_with fail;refine(iF _ _ _ _).mono ?_;rintro q E ⟨b,e⟩;subst E;obtain⟨t,a⟩:∃t,ib n.g 0 41=t:=⟨_,rfl⟩;rw[a] at b;have j:=fS a;clear a;subst b;cases t
 case false=>
  have c:=fS (show kL n=false by simp[kL,j.out]);apply_assumption;go_wp2_with fail;go_ret;exact⟨by rw[c.out];rfl,d⟩
 apply_assumption;go_wp2_with fail;refine(iF _ _ _ _).mono ?_;rintro q G ⟨b,e⟩;subst G;obtain⟨t,a⟩:∃t,ib n.led 0 9999=t:=⟨_,rfl⟩;rw[a] at b;have k:=fS a;clear a;subst b;cases t
 case false=>
  have c:=fS (show kL n=false by simp[kL,k.out]);apply_assumption;go_wp2_with fail;go_ret;exact⟨by rw[c.out];rfl,d⟩
 apply_assumption;go_wp2_with fail;refine(iF _ _ _ _).mono ?_;rintro q H ⟨b,e⟩;subst H;obtain⟨t,a⟩:∃t,ib n.version 0 9999=t:=⟨_,rfl⟩;rw[a] at b;have l:=fS a;clear a;subst b;cases t
 case false=>
  have c:=fS (show kL n=false by simp[kL,l.out]);apply_assumption;go_wp2_with fail;go_ret;exact⟨by rw[c.out];rfl,d⟩
 apply_assumption;go_wp2_with fail;refine(iF _ _ _ _).mono ?_;rintro q I ⟨b,e⟩;subst I;obtain⟨t,a⟩:∃t,ib n.round 0 9999=t:=⟨_,rfl⟩;rw[a] at b;have m:=fS a;clear a;subst b;cases t
 case false=>
  have c:=fS (show kL n=false by simp[kL,m.out]);apply_assumption;go_wp2_with fail;go_ret;exact⟨by rw[c.out];rfl,d⟩
 apply_assumption;go_wp2_with fail;refine(iF _ _ _ _).mono ?_;rintro q J ⟨b,e⟩;subst J;obtain⟨t,a⟩:∃t,ib n.low 0 41=t:=⟨_,rfl⟩;rw[a] at b;have o:=fS a;clear a;subst b;cases t
 case false=>
  have c:=fS (show kL n=false by simp[kL,o.out]);apply_assumption;go_wp2_with fail;go_ret;exact⟨by rw[c.out];rfl,d⟩
 apply_assumption;have c:=fS (show kL n=true from (uG n).2 ⟨f.out,i.out,j.out,k.out,l.out,m.out,o.out⟩);go_wp2_with fail;go_ret;exact⟨by rw[c.out];rfl,d⟩
theorem Bk (n:gT) (vl vk vo vv vn:Value) (F:Nat→Prop) (w:World) (h:i4 w F vl vk vo vv vn n):
  Calls Tryz.prog 153 #[.agg #[n.id,n.up,n.inc,n.g,vl,vk,vo,n.led,n.version,vv,vn,n.round,n.low]] w fun q w' =>q= .returned (.bool (jr n))∧Below w.heap.size w w':=by
 obtain⟨A1,c1,rfl,-⟩:=h.la.shape;obtain⟨A2,c2,rfl,-⟩:=h.ke.shape;obtain⟨A3,c3,rfl,-⟩:=h.ou.shape;obtain⟨A4,c4,rfl,-⟩:=h.vi.shape;obtain⟨A5,c5,rfl,-⟩:=h.kn.shape;obtain⟨W,hV,d,Z⟩:=nC w (.cells #[n.id,n.up,n.inc,n.g,.slice A1 n.lanes.length c1,.slice A2 n.kept.length c2,.slice A3 n.outs.length c3,n.led,n.version,.slice A4 n.views.length c4,.slice A5 n.known.length c5,n.round,n.low] 57);go_enter Tryz.func153,Tryz.ntmps153;go_upto_region 1 with fail;rw[hV.out];clear hV;replace h:=h.below d;have Q:=fx Z;obtain⟨B,C,D,E,G,H,I,J,L,M,f,j,r⟩:=jS Z;go_wp2_with fail;refine(yA n _ _ _ _ _ F W h).mono ?_;rintro q w0 ⟨z,az⟩;obtain⟨t,u⟩:∃t,kL n=t:=⟨_,rfl⟩;rw[u] at z;have aF:=fS u;clear u;subst z;have ae:=fU (gM W.heap.size W) az (Below.size (gM W.heap.size W));have Z0:=fu ae Q Z;have h0:=h.below ae;clear B C D E G H I J L M f j r;cases t
 case false=>
  have s:=fS (AV fun b=>by have a:=(jG n).1 b;rw[aF.out] at a;cases a.1);apply_assumption;go_wp2_with fail;go_ret;exact⟨by rw[s.out];rfl,fU d ae d.size⟩
 apply_assumption;obtain⟨B,C,D,E,G,H,I,J,L,M,f,j,r⟩:=jS Z0;go_wp2_with fail;refine(mC _ n.kept _ F w0 h0.ke).mono ?_;rintro q w1 ⟨z,ao⟩;obtain⟨t,u⟩:∃t,iQ n.kept 100=t:=⟨_,rfl⟩;rw[u] at z;have aX:=fS u;clear u;subst z;have af:=fU ae ao (Below.size ae);have Z1:=fu af Q Z;have R:=h.below af;clear B C D E G H I J L M f j r;cases t
 case false=>
  have s:=fS (AV fun b=>by have a:=(jG n).1 b;rw[aX.out] at a;cases a.2.1);apply_assumption;go_wp2_with fail;go_ret;exact⟨by rw[s.out];rfl,fU d af d.size⟩
 apply_assumption;obtain⟨B,C,D,E,G,H,I,J,L,M,f,j,r⟩:=jS Z1;go_wp2_with fail;refine(oG _ n.outs _ F w1 R.ou).mono ?_;rintro q w2 ⟨z,v⟩;obtain⟨t,u⟩:∃t,iu n.outs 96=t:=⟨_,rfl⟩;rw[u] at z;have aG:=fS u;clear u;subst z;have an:=fU af v (Below.size af);have Z2:=fu an Q Z;have h2:=h.below an;clear B C D E G H I J L M f j r;cases t
 case false=>
  have s:=fS (AV fun b=>by have a:=(jG n).1 b;rw[aG.out] at a;cases a.2.2.1);apply_assumption;go_wp2_with fail;go_ret;exact⟨by rw[s.out];rfl,fU d an d.size⟩
 apply_assumption;obtain⟨B,C,D,E,G,H,I,J,L,M,f,j,r⟩:=jS Z2;go_wp2_with fail;obtain⟨_,_,_,-,b9,-⟩:=id h.ou;have bZ:=rS (m:=96) aG.out;clear B C D E G H I J L M f j r
 go_loopw [29] (fun i wr=>∃k:Nat,i= .int .i64 k∧k≤n.outs.length∧Hid (∀o∈n.outs.take k,o.time<n.g)∧Below W.heap.size W wr) (fun i _=>n.outs.length-(intOf i).toNat)
 case atStart=>exact⟨0,rfl,j8 _,fS sm,an⟩
 case round=>
  clear Z0 Z1 Z2 h0 R h2 ae af an;obtain⟨k,rfl,b,HA,A⟩:=hrel;have Y:=fu A Q Z;have a9:=fx Y;obtain⟨B,C,D,E,G,H,I,J,L,M,f,j,r⟩:=jS Y;by_cases hlt:k<n.outs.length
  ·have p0:(k:Int)<(n.outs.length:Int):=fT
   obtain⟨b0,o0,hA,az,y0,y1,y2,y3,y4⟩:=kh (h.ou.below A) k hlt;subst hA;by_cases q1:n.outs[k].time<n.g
   case pos=>
    have HS:=fS (show ∀o∈n.outs.take (k+1),o.time<n.g from fun o ho=>by rw[vX hlt] at ho;rcases List.mem_append.1 ho with ho|ho;exact HA.out o ho;simp at ho;subst ho;exact q1);have e1:decide (n.outs[k].time≥n.g)=false:=ia fT;have e2:decide (n.g≤n.outs[k].time)=false:=ia fT;clear q1;go_wp2_with fail;go_roundw
    case rel=>exact⟨k+1,by go_num,fT,HS,fU A (gs (gM wr.heap.size wr) _) A.size⟩
    case measure=>exact ms
   have s:=fS (AV fun b=>by have a:=(jG n).1 b;exact q1 (a.2.2.2.1 _ (List.getElem_mem hlt)));have e1:decide (n.outs[k].time≥n.g)=true:=iW fT;have e2:decide (n.g≤n.outs[k].time)=true:=iW fT;clear q1;go_wp2_with fail;go_ret;exact⟨by rw[s.out];rfl,fU d (fU A (gs (gM wr.heap.size wr) _) A.size) d.size⟩
  ·have P:k=n.outs.length:=fT
   have HO:=fS (show ∀o∈n.outs,o.time<n.g by have R:=HA.out;rwa [P,li] at R);have p0:¬(k:Int)<(n.outs.length:Int):=fT;clear P;go_wp2_with fail;refine(uN n.id wr).mono ?_;rintro q w5 ⟨u5,rfl,aJ,a3⟩;obtain⟨S,aL⟩:∃S,iO n.id=S:=⟨_,rfl⟩;rw[aL] at aJ;have aj:=fS aL;clear aL;obtain⟨P1,pc,rfl,-⟩:=aJ.shape;have T:=fU A a3 A.size;have Z5:=fu T Q Z;clear B C D E G H I J L M f j r;obtain⟨B,C,D,E,G,H,I,J,L,M,f,j,r⟩:=jS Z5;clear a3 Y A a9;apply_assumption;by_cases q6:n.lanes.length=S.length
   case neg=>
    have s:=fS (AV fun b=>by have a:=(jG n).1 b;exact q6 (by have:=congrArg List.length a.2.2.2.2.2.2.1;rw[List.length_map,aj.out] at this;exact this));have e6:((n.lanes.length:Int) !=(S.length:Int))=true:=by simpa using (show ¬(n.lanes.length:Int)=(S.length:Int) by omega)
    clear q6;go_wp2_with fail;go_ret;exact⟨by rw[s.out];rfl,fU d T d.size⟩
   by_cases q7:n.views.length=3
   case neg=>
    have s:=fS (AV fun b=>by have a:=(jG n).1 b;exact q7 a.2.2.2.2.1);have e6:((n.lanes.length:Int) !=(S.length:Int))=false:=by simp[q6]
    have e7:((n.views.length:Int) !=3)=true:=by simpa using (show ¬(n.views.length:Int)=3 by omega)
    have Q6:=fS q6;clear q6 q7;go_wp2_with fail;go_ret;exact⟨by rw[s.out];rfl,fU d T d.size⟩
   by_cases q8:n.known.length=3
   case neg=>
    have s:=fS (AV fun b=>by have a:=(jG n).1 b;exact q8 a.2.2.2.2.2.1);have e6:((n.lanes.length:Int) !=(S.length:Int))=false:=by simp[q6]
    have e7:((n.views.length:Int) !=3)=false:=by simp[q7]
    have e8:((n.known.length:Int) !=3)=true:=by simpa using (show ¬(n.known.length:Int)=3 by omega)
    have Q6:=fS q6;clear q6 q7 q8;go_wp2_with fail;go_ret;exact⟨by rw[s.out];rfl,fU d T d.size⟩
   have e6:((n.lanes.length:Int) !=(S.length:Int))=false:=by simp[q6]
   have e7:((n.views.length:Int) !=3)=false:=by simp[q7]
   have e8:((n.known.length:Int) !=3)=false:=by simp[q8]
   have Q6:=fS q6;have Q7:=fS q7;have Q8:=fS q8;have bq:=fS ((uG n).1 aF.out).1;have b8:n.lanes.length≤2:=by rw[q6,←aj.out];exact sJ bq.out
   have b':n.views.length≤3:=Nat.le_of_eq q7;clear q6 q7 q8;go_wp2_with fail;obtain⟨X,hX⟩:∃X,X=w5:=⟨_,rfl⟩;subst hX;have au:=T.size;clear B C D E G H I J L M f j r e6 e7 e8
   go_loopw [63] (fun i wr=>∃k:Nat,i= .int .i64 k∧k≤n.lanes.length∧Hid ((n.lanes.take k).all jj=true∧(n.lanes.take k).map (fun l=>l.proc)=S.take k)∧Below X.heap.size X wr) (fun i _=>n.lanes.length-(intOf i).toNat)
   case atStart=>exact⟨0,rfl,j8 _,fS ⟨rfl,rfl⟩,gM _ _⟩
   case round=>
    clear b Z5;obtain⟨k,rfl,b,av,A⟩:=hrel;have ax:=fU T A au;have Y:=fu ax Q Z;obtain⟨B,C,D,E,G,H,I,J,L,M,f,j,r⟩:=jS Y;have hr:=h.below ax;have hw:=aJ.rd.below A;by_cases hlt:k<n.lanes.length
    ·have U:k<S.length:=by have:=Q6.out;omega
     have p0:(k:Int)<(n.lanes.length:Int):=fT;have p1:(k:Int)<(S.length:Int):=fT;obtain⟨b0,o0,A6,c6,aI,az,y0,⟨y1,y2,y3⟩,y4,r1⟩:=mr hr.la k hlt;subst aI;obtain⟨b1,o1,aa,-,ao,z0⟩:=lY hw k U;subst aa;have aE:=fS (show jr n=true→n.lanes[k].proc=S[k] from fun ac=>by have a:=(jG n).1 ac;have br:k<(iO n.id).length:=(by rw[aj.out];exact U);have h8:=sE a.2.2.2.2.2.2.1 hlt br;rw[h8];simp only[aj.out]);have aW:=fS (show jr n=true→jj n.lanes[k]=true from fun ac=>List.all_eq_true.1 ((jG n).1 ac).2.2.2.2.2.2.2.1 _ (List.getElem_mem hlt));have ak:=fS (ir (p:=jj) hlt av.out.1);have ad:=fS (qN hlt U av.out.2);obtain⟨x,hx⟩:∃x,n.lanes[k]=x:=⟨_,rfl⟩;rw[hx] at y0 y1 y2 y3 y4 r1 aE aW ak ad;clear hx;obtain⟨p,hp⟩:∃p,S[k]=p:=⟨_,rfl⟩;rw[hp] at z0 aE ad;clear hp;go_upto_region 15 with fail;have O:=gs (gM wr.heap.size wr) (.cells #[x.proc,x.base.x,x.base.y,x.base.c,.slice A6 x.done.length c6] 130);have al:(wr.alloc (.cells #[x.proc,x.base.x,x.base.y,x.base.c,.slice A6 x.done.length c6] 130)).heap[wr.heap.size]? =some (.cells #[x.proc,x.base.x,x.base.y,x.base.c,.slice A6 x.done.length c6] 130):=gL rfl;have z1:(wr.alloc (.cells #[x.proc,x.base.x,x.base.y,x.base.c,.slice A6 x.done.length c6] 130)).cell? ⟨b1,o1+k,none⟩=some (.int .i64 p):=by rw[O.cell (p:=⟨b1,o1+k,none⟩) ao];exact z0
     have r2:=r1.below O;have v:=fU A O A.size;have bX:b1<(wr.alloc (.cells #[x.proc,x.base.x,x.base.y,x.base.c,.slice A6 x.done.length c6] 130)).heap.size:=sF ao O.size;obtain⟨gx,ab⟩:∃g,g=wr.heap.size:=⟨_,rfl⟩;rw[←ab] at al;simp only[←ab];generalize wr.alloc (.cells #[x.proc,x.base.x,x.base.y,x.base.c,.slice A6 x.done.length c6] 130)=V at*;obtain⟨x0,x1,x2,x3,x4⟩:=Eb al;clear ab z0 y0 y1 y2 y3 y4 B C D E G H I J L M f j r Y O;by_cases q2:x.proc=p
     case neg=>
      have e0:(x.proc !=p)=true:=by simpa using q2
      have s:=fS (AV fun b=>q2 (aE.out b));clear q2;refine kA [.rd [0,1,2,3,4,5,6,7,8],.mid 9] [10,11] ?_
      repeat (first|(refine vL ?_;intro N hN;go_wp2_with fail;refine fV (hN _ ?_);clear hN N)|(refine vM ?_;intro N hN;go_wp2_with fail;refine vN (gM _ _) (hN _ _ ?_);clear hN))
      refine vF ?_;have ai:=fS (gM V.heap.size V).drew;go_wp2_with fail;go_ret;exact⟨by rw[s.out];rfl,fU d (fU T (fU v ai.out v.size) au) d.size⟩
     have e0:(x.proc !=p)=false:=by simp[q2]
     have bg:=fS q2;clear q2;refine kA [.rd [0,1,2,3,4,5,6,7,8],.mid 9] [10,11] ?_;refine vL ?_;intro N hN;go_wp2_with fail;refine fV (hN _ ?_);clear hN N;refine vM ?_;intro N hN;go_wp2_with fail;refine(Ag x _ F _ (r2.below (gM V.heap.size V).drew)).mono ?_;rintro e cb ⟨z,aK⟩;have ag:=aK;clear aK;obtain⟨bv,aM⟩:∃t,jj x=t:=⟨_,rfl⟩;rw[aM] at z;have aY:=fS aM;clear aM;subst z;apply_assumption;refine vN ag (hN _ _ ?_);clear hN;cases bv
     case false=>
      have s:=fS (AV fun b=>by have a:=aW.out b;rw[aY.out] at a;cases a)
      repeat (first|(refine vL ?_;intro N hN;go_wp2_with fail;refine fV (hN _ ?_);clear hN N)|(refine vM ?_;intro N hN;go_wp2_with fail;refine vN ag (hN _ _ ?_);clear hN))
      refine vF ?_;have ai:=fS ((gK ((gM V.heap.size V).drew) ag));go_wp2_with fail;go_ret;exact⟨by rw[s.out];rfl,fU d (fU T (fU v ai.out v.size) au) d.size⟩
     refine vF ?_;have ai:=fS (fU v (gK ((gM V.heap.size V).drew) ag) v.size);have aH:=fS (And.intro (ak.out aY.out) (ad.out bg.out));go_wp2_with fail;go_roundw
     case rel=>exact⟨k+1,by go_num,fT,aH,ai.out⟩
     case measure=>exact ms
    ·have P:k=n.lanes.length:=fT
     have aV:=fS (show n.lanes.all jj=true∧n.lanes.map (fun l=>l.proc)=iO n.id from ⟨(by have R:=av.out.1;rwa [P,li] at R),(by have R:=av.out.2;rw[P,li,List.take_of_length_le (by have:=Q6.out;omega)] at R;rw[aj.out];exact R)⟩);have p0:¬(k:Int)<(n.lanes.length:Int):=fT;clear P;go_wp2_with fail
     go_loopw [84] (fun i wr=>∃k:Nat,i= .int .i64 k∧k≤n.views.length∧Hid ((n.views.take k).all j6=true∧(n.known.take k).all (fun k=>ib k 0 41)=true)∧Below W.heap.size W wr) (fun i _=>n.views.length-(intOf i).toNat)
     case atStart=>exact⟨0,rfl,j8 _,fS ⟨rfl,rfl⟩,ax⟩
     case round=>
      clear B C D E G H I J L M f j r b A ax Y hr hw p0;obtain⟨k,rfl,b,aw,A⟩:=hrel;have Y:=fu A Q Z;have b7:=fx Y;obtain⟨B,C,D,E,G,H,I,J,L,M,f,j,r⟩:=jS Y;have hr:=h.below A;by_cases hlt:k<n.views.length
      ·have U:k<n.known.length:=by have:=Q7.out;have:=Q8.out;omega
       have p0:(k:Int)<(n.views.length:Int):=fT;have p1:(k:Int)<(n.known.length:Int):=fT;obtain⟨b0,o0,A6,c6,aI,az,y0,y1,y2,r1⟩:=nO hr.vi k hlt;subst aI;have ay:=fS (show jr n=true→j6 n.views[k]=true from fun ac=>List.all_eq_true.1 ((jG n).1 ac).2.2.2.2.2.2.2.2.1 _ (List.getElem_mem hlt));have aU:=fS (show jr n=true→ib n.known[k] 0 41=true from fun ac=>List.all_eq_true.1 ((jG n).1 ac).2.2.2.2.2.2.2.2.2 _ (List.getElem_mem U));have ak:=fS (ir (p:=j6) hlt aw.out.1);have ad:=fS (ir (p:=fun k=>ib k 0 41) U aw.out.2);obtain⟨x,hx⟩:∃x,n.views[k]=x:=⟨_,rfl⟩;rw[hx] at y0 y1 y2 r1 ay ak;clear hx;obtain⟨y,hy⟩:∃y,n.known[k]=y:=⟨_,rfl⟩;rw[hy] at aU ad;have HY:=fS hy;clear hy;go_upto_region 21 with fail;obtain⟨V,hV,O,al⟩:=nC wr (.cells #[x.inc,x.version,.slice A6 x.events.length c6] 180);have r2:=r1.below O;have v:=fU A O A.size;obtain⟨gx,ab⟩:∃g,g=wr.heap.size:=⟨_,rfl⟩;rw[←ab] at al;simp only[←ab];rw[hV.out];clear hV;obtain⟨x0,x1,x2⟩:=Et al;have Zv:=fu v Q Z;have bs:=h.kn.below v;clear ab y0 y1 y2 B C D E G H I J L M f j r Y O;obtain⟨B,C,D,E,G,H,I,J,L,M,f,j,r⟩:=jS Zv;obtain⟨b1,o1,aa,-,ao,z0⟩:=lY bs k U;subst aa;rw[HY.out] at z0;go_wp2_with fail;refine(iF _ _ _ _).mono ?_;rintro q bw ⟨z,hw⟩;subst bw;obtain⟨t,u⟩:∃t,ib x.inc 0 9999=t:=⟨_,rfl⟩;rw[u] at z;have aZ:=fS u;clear u;subst z;cases t
       case false=>
        have s:=fS (AV fun b=>by have a:=ay.out b;simp[j6,aZ.out] at a);apply_assumption;go_wp2_with fail;go_ret;exact⟨by rw[s.out];rfl,fU d v d.size⟩
       apply_assumption;go_wp2_with fail;refine(iF _ _ _ _).mono ?_;rintro q bx ⟨z,hw⟩;subst bx;obtain⟨t,u⟩:∃t,ib x.version 0 9999=t:=⟨_,rfl⟩;rw[u] at z;have a0:=fS u;clear u;subst z;cases t
       case false=>
        have s:=fS (AV fun b=>by have a:=ay.out b;simp[j6,a0.out] at a);apply_assumption;go_wp2_with fail;go_ret;exact⟨by rw[s.out];rfl,fU d v d.size⟩
       apply_assumption;go_wp2_with fail;refine(mC _ x.events _ F V r2).mono ?_;rintro q ca ⟨z,a7⟩;obtain⟨t,u⟩:∃t,iQ x.events 100=t:=⟨_,rfl⟩;rw[u] at z;have a1:=fS u;clear u;subst z;have ap:=fU v a7 v.size;have bl:=fu ap Q Z;have a8:=h.kn.below ap;clear B C D E G H I J L M f j r z0 x0 x1 x2;obtain⟨B,C,D,E,G,H,I,J,L,M,f,j,r⟩:=jS bl;cases t
       case false=>
        have s:=fS (AV fun b=>by have a:=ay.out b;simp[j6,a1.out] at a);apply_assumption;go_wp2_with fail;go_ret;exact⟨by rw[s.out];rfl,fU d ap d.size⟩
       apply_assumption;obtain⟨b2,o2,aa,-,bY,z0⟩:=lY a8 k U;injection aa with aa;injection aa with u1 u2 _;subst u1 u2;rw[HY.out] at z0;go_wp2_with fail;refine(iF _ _ _ _).mono ?_;rintro q bz ⟨z,hw⟩;subst bz;obtain⟨t,u⟩:∃t,ib y 0 41=t:=⟨_,rfl⟩;rw[u] at z;have a2:=fS u;clear u;subst z;cases t
       case false=>
        have s:=fS (AV fun b=>by have a:=aU.out b;rw[a2.out] at a;cases a);apply_assumption;go_wp2_with fail;go_ret;exact⟨by rw[s.out];rfl,fU d ap d.size⟩
       apply_assumption;have aH:=fS (And.intro (ak.out (by simp[j6,aZ.out,a0.out,a1.out])) (ad.out a2.out));go_wp2_with fail;go_roundw
       case rel=>exact⟨k+1,by go_num,fT,aH,ap⟩
       case measure=>exact ms
      ·have P:k=n.views.length:=fT
       have s:=fS (show jr n=true from (jG n).2 ⟨aF.out,aX.out,aG.out,HO.out,Q7.out,Q8.out,aV.out.2,aV.out.1,(by have R:=aw.out.1;rwa [P,li] at R),(by have R:=aw.out.2;rwa [List.take_of_length_le (by have:=Q7.out;have:=Q8.out;omega)] at R)⟩);have p0:¬(k:Int)<(n.views.length:Int):=fT;clear P;go_wp2_with fail;go_ret;exact⟨by rw[s.out];rfl,fU d A d.size⟩
end Go.Proofs.YtlndjfflhegkdaaGreatDoor
