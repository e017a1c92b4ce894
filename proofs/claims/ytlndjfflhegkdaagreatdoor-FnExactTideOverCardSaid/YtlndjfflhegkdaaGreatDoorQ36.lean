/- Parts of the proof: Nf2, Te1, Nf4. -/
import Derived.Test.YtlndjfflhegkdaaGreatDoorQ32
import Derived.Test.YtlndjfflhegkdaaGreatDoorQ34
set_option linter.unusedVariables false
set_option linter.unusedSimpArgs false
set_option linter.unusedSectionVars false
set_option maxHeartbeats 4000000
namespace Go.Proofs.YtlndjfflhegkdaaGreatDoor
open Go.RowKit
set_option maxRecDepth 100000
theorem yr (x:kK) (v:Value) (F:Nat→Prop) (w:World) (h:Rd iw w F v x.events):
  Calls Tryz.prog 108 #[.agg #[x.inc,x.version,v]] w fun q w' =>q= .returned (.bool (j6 x))∧Below w.heap.size w w':=by
 obtain⟨A,c,rfl,-⟩:=h.shape;obtain⟨W,hV,f,Z⟩:=nC w (.cells #[x.inc,x.version,.slice A x.events.length c] 180);go_enter Tryz.func108,Tryz.ntmps108;go_upto_region 1 with fail;rw[hV.out];clear hV;replace h:=h.below f;have G:=fx Z;obtain⟨H,I,J⟩:=Et Z;refine kA [.rd [0,1],.mid 2,.mid 3,.rd [4,5,6],.mid 7,.mid 8,.rd [9,10,11,12],.mid 13,.mid 14] [15,16] ?_;refine vL ?_;intro N hN;go_wp2_with fail;refine fV (hN _ ?_);clear hN N;refine vM ?_;intro N hN;go_wp2_with fail;refine(lh _).mono ?_;rintro e z ⟨a,p⟩;subst z;subst a;apply_assumption;refine vN (gM _ _) (hN _ _ ?_);clear hN;refine vM ?_;intro N hN;go_wp2_with fail;refine(ii _ _ _ _).mono ?_;rintro e B ⟨a,p⟩;subst B;obtain⟨u,n⟩:∃t,ib x.inc 0 9999=t:=⟨_,rfl⟩;rw[n] at a;have j:=fS n;clear n;subst a;apply_assumption;refine vN (gM _ _) (hN _ _ ?_);clear hN;cases u
 case false=>
  have g:=fS (show j6 x=false by simp[j6,j.out])
  repeat (first|(refine vL ?_;intro N hN;go_wp2_with fail;refine fV (hN _ ?_);clear hN N)|(refine vM ?_;intro N hN;go_wp2_with fail;refine vN (gM _ _) (hN _ _ ?_);clear hN))
  refine vF ?_;have d:=fS (gM W.heap.size W).drew;go_wp2_with fail;go_ret;exact⟨by rw[g.out];rfl,fU f d.out f.size⟩
 refine vL ?_;intro N hN;go_wp2_with fail;refine fV (hN _ ?_);clear hN N;refine vM ?_;intro N hN;go_wp2_with fail;refine(lh _).mono ?_;rintro e C ⟨a,p⟩;subst C;subst a;apply_assumption;refine vN (gM _ _) (hN _ _ ?_);clear hN;refine vM ?_;intro N hN;go_wp2_with fail;refine(ii _ _ _ _).mono ?_;rintro e D ⟨a,p⟩;subst D;obtain⟨y,o⟩:∃t,ib x.version 0 9999=t:=⟨_,rfl⟩;rw[o] at a;have m:=fS o;clear o;subst a;apply_assumption;refine vN (gM _ _) (hN _ _ ?_);clear hN;cases y
 case false=>
  have g:=fS (show j6 x=false by simp[j6,j.out,m.out])
  repeat (first|(refine vL ?_;intro N hN;go_wp2_with fail;refine fV (hN _ ?_);clear hN N)|(refine vM ?_;intro N hN;go_wp2_with fail;refine vN (gM _ _) (hN _ _ ?_);clear hN))
  refine vF ?_;have d:=fS (gM W.heap.size W).drew;go_wp2_with fail;go_ret;exact⟨by rw[g.out];rfl,fU f d.out f.size⟩
 refine vL ?_;intro N hN;go_wp2_with fail;refine fV (hN _ ?_);clear hN N;refine vM ?_;intro N hN;go_wp2_with fail;refine(lD _).mono ?_;rintro e s ⟨a,p⟩;subst s;subst a;apply_assumption;refine vN (gM _ _) (hN _ _ ?_);clear hN;refine vM ?_;intro N hN;go_wp2_with fail;refine(lN _ x.events _ F _ (h.below (gM W.heap.size W).drew)).mono ?_;rintro e E ⟨a,k⟩;have b:=k;clear k;obtain⟨r,i⟩:∃t,iQ x.events 100=t:=⟨_,rfl⟩;rw[i] at a;have l:=fS i;clear i;subst a;apply_assumption;refine vN b (hN _ _ ?_);clear hN;cases r
 case false=>
  have g:=fS (show j6 x=false by simp[j6,j.out,m.out,l.out])
  repeat (first|(refine vL ?_;intro N hN;go_wp2_with fail;refine fV (hN _ ?_);clear hN N)|(refine vM ?_;intro N hN;go_wp2_with fail;refine vN b (hN _ _ ?_);clear hN))
  refine vF ?_;have d:=fS ((gK ((gM W.heap.size W).drew) b));go_wp2_with fail;go_ret;exact⟨by rw[g.out];rfl,fU f d.out f.size⟩
 refine vF ?_;have g:=fS (show j6 x=true by simp[j6,j.out,m.out,l.out]);have d:=fS ((gK ((gM W.heap.size W).drew) b));go_wp2_with fail;go_ret;exact⟨by rw[g.out];rfl,fU f d.out f.size⟩
def jp (n:gT):Bool:=decide (n.views.length=3)&&(decide (n.known.length=3)&&(ib n.version 0 9999&&(ib n.round 0 9999&&(ib n.low 0 41&&(n.views.all j6&&n.known.all (fun k=>ib k 0 41))))))
theorem zr (n:gT) (vl vk vo vv vn:Value) (F:Nat→Prop) (w:World) (h:i4 w F vl vk vo vv vn n):
  Calls Tryz.prog 64 #[.agg #[n.id,n.up,n.inc,n.g,vl,vk,vo,n.led,n.version,vv,vn,n.round,n.low]] w fun q w' =>q= .returned (.bool (jp n))∧Below w.heap.size w w':=by
 obtain⟨A1,c1,rfl,-⟩:=h.la.shape;obtain⟨A2,c2,rfl,-⟩:=h.ke.shape;obtain⟨A3,c3,rfl,-⟩:=h.ou.shape;obtain⟨A4,c4,rfl,-⟩:=h.vi.shape;obtain⟨A5,c5,rfl,-⟩:=h.kn.shape;obtain⟨W,hV,d,Z⟩:=nC w (.cells #[n.id,n.up,n.inc,n.g,.slice A1 n.lanes.length c1,.slice A2 n.kept.length c2,.slice A3 n.outs.length c3,n.led,n.version,.slice A4 n.views.length c4,.slice A5 n.known.length c5,n.round,n.low] 57);go_enter Tryz.func64,Tryz.ntmps64;go_upto_region 1 with fail;rw[hV.out];clear hV;have ay:=h.vi.below d;have av:=h.kn.below d;clear h;have ax:=fx Z;obtain⟨J,L,M,O,P,Q,R,S,T,U,s,u,v⟩:=jS Z;by_cases q1:n.views.length=3
 case neg=>
  have c:=fS (show jp n=false by simp[jp,q1]);have e0:(((n.views.length:Nat):Int) !=3)=true:=by simpa using (show ¬((n.views.length:Nat):Int)=3 by omega)
  clear q1;refine kA [.rd [0,1,2,3,4,5,6,7,8,9,10,11,12],.mid 13,.mid 14,.rd [15,16,17,18,19],.mid 20,.mid 21,.rd [22,23,24,25,26],.mid 27] [28,29] ?_
  repeat (first|(refine vL ?_;intro N hN;go_wp2_with fail;refine fV (hN _ ?_);clear hN N)|(refine vM ?_;intro N hN;go_wp2_with fail;refine vN (gM _ _) (hN _ _ ?_);clear hN))
  refine vF ?_;have b:=fS (gM W.heap.size W).drew;go_wp2_with fail;go_ret;exact⟨by rw[c.out];rfl,fU d b.out d.size⟩
 by_cases q2:n.known.length=3
 case neg=>
  have c:=fS (show jp n=false by simp[jp,q2]);have e0:(((n.views.length:Nat):Int) !=3)=false:=by simp[q1]
  have e1:(((n.known.length:Nat):Int) !=3)=true:=by simpa using (show ¬((n.known.length:Nat):Int)=3 by omega)
  have I:=fS q1;clear q1 q2;refine kA [.rd [0,1,2,3,4,5,6,7,8,9,10,11,12],.mid 13,.mid 14,.rd [15,16,17,18,19],.mid 20,.mid 21,.rd [22,23,24,25,26],.mid 27] [28,29] ?_
  repeat (first|(refine vL ?_;intro N hN;go_wp2_with fail;refine fV (hN _ ?_);clear hN N)|(refine vM ?_;intro N hN;go_wp2_with fail;refine vN (gM _ _) (hN _ _ ?_);clear hN))
  refine vF ?_;have b:=fS (gM W.heap.size W).drew;go_wp2_with fail;go_ret;exact⟨by rw[c.out];rfl,fU d b.out d.size⟩
 have e0:(((n.views.length:Nat):Int) !=3)=false:=by simp[q1]
 have e1:(((n.known.length:Nat):Int) !=3)=false:=by simp[q2]
 have I:=fS q1;have X:=fS q2;clear q1 q2;refine kA [.rd [0,1,2,3,4,5,6,7,8,9,10,11,12],.mid 13,.mid 14,.rd [15,16,17,18,19],.mid 20,.mid 21,.rd [22,23,24,25,26],.mid 27] [28,29] ?_;refine vL ?_;intro N hN;go_wp2_with fail;refine fV (hN _ ?_);clear hN N;refine vM ?_;intro N hN;go_wp2_with fail;refine(lh _).mono ?_;rintro e af ⟨a,G⟩;subst af;subst a;apply_assumption;refine vN (gM _ _) (hN _ _ ?_);clear hN;refine vM ?_;intro N hN;go_wp2_with fail;refine(ii _ _ _ _).mono ?_;rintro e ag ⟨a,G⟩;subst ag;obtain⟨ac,l⟩:∃t,ib n.version 0 9999=t:=⟨_,rfl⟩;rw[l] at a;have A:=fS l;clear l;subst a;apply_assumption;refine vN (gM _ _) (hN _ _ ?_);clear hN;cases ac
 case false=>
  have c:=fS (show jp n=false by simp[jp,A.out])
  repeat (first|(refine vL ?_;intro N hN;go_wp2_with fail;refine fV (hN _ ?_);clear hN N)|(refine vM ?_;intro N hN;go_wp2_with fail;refine vN (gM _ _) (hN _ _ ?_);clear hN))
  refine vF ?_;have b:=fS (gM W.heap.size W).drew;go_wp2_with fail;go_ret;exact⟨by rw[c.out];rfl,fU d b.out d.size⟩
 refine vL ?_;intro N hN;go_wp2_with fail;refine fV (hN _ ?_);clear hN N;refine vM ?_;intro N hN;go_wp2_with fail;refine(lh _).mono ?_;rintro e ah ⟨a,G⟩;subst ah;subst a;apply_assumption;refine vN (gM _ _) (hN _ _ ?_);clear hN;refine vM ?_;intro N hN;go_wp2_with fail;refine(ii _ _ _ _).mono ?_;rintro e ai ⟨a,G⟩;subst ai;obtain⟨ad,m⟩:∃t,ib n.round 0 9999=t:=⟨_,rfl⟩;rw[m] at a;have B:=fS m;clear m;subst a;apply_assumption;refine vN (gM _ _) (hN _ _ ?_);clear hN;cases ad
 case false=>
  have c:=fS (show jp n=false by simp[jp,B.out])
  repeat (first|(refine vL ?_;intro N hN;go_wp2_with fail;refine fV (hN _ ?_);clear hN N)|(refine vM ?_;intro N hN;go_wp2_with fail;refine vN (gM _ _) (hN _ _ ?_);clear hN))
  refine vF ?_;have b:=fS (gM W.heap.size W).drew;go_wp2_with fail;go_ret;exact⟨by rw[c.out];rfl,fU d b.out d.size⟩
 refine vL ?_;intro N hN;go_wp2_with fail;refine fV (hN _ ?_);clear hN N;refine vM ?_;intro N hN;go_wp2_with fail;refine(ii _ _ _ _).mono ?_;rintro e aj ⟨a,G⟩;subst aj;obtain⟨ae,o⟩:∃t,ib n.low 0 41=t:=⟨_,rfl⟩;rw[o] at a;have C:=fS o;clear o;subst a;apply_assumption;refine vN (gM _ _) (hN _ _ ?_);clear hN;cases ae
 case false=>
  have c:=fS (show jp n=false by simp[jp,C.out])
  repeat (first|(refine vL ?_;intro N hN;go_wp2_with fail;refine fV (hN _ ?_);clear hN N)|(refine vM ?_;intro N hN;go_wp2_with fail;refine vN (gM _ _) (hN _ _ ?_);clear hN))
  refine vF ?_;have b:=fS (gM W.heap.size W).drew;go_wp2_with fail;go_ret;exact⟨by rw[c.out];rfl,fU d b.out d.size⟩
 refine vF ?_;have b:=fS (gM W.heap.size W).drew;go_wp2_with fail
 go_loopw [3] (fun i wr=>∃k:Nat,i= .int .i64 k∧k≤3∧Hid ((n.views.take k).all j6=true∧(n.known.take k).all (fun k=>ib k 0 41)=true)∧Below W.heap.size W wr) (fun i _=>3-(intOf i).toNat)
 case atStart=>exact⟨0,rfl,j8 _,fS ⟨rfl,rfl⟩,b.out⟩
 case round=>
  obtain⟨k,rfl,hk,H,z⟩:=hrel;have f:=fU d z d.size;have Y:=fu z ax Z;clear J L M O P Q R S T U s u v;obtain⟨J,L,M,O,P,Q,R,S,T,U,s,u,v⟩:=jS Y;have hv:=ay.below z;have hn:=av.below z;by_cases hlt:k<3
  ·have D:k<n.views.length:=by have:=I.out;omega
   have E:k<n.known.length:=by have:=X.out;omega
   have p0:(k:Int)<3:=fT;have p1:(k:Int)<(n.views.length:Int):=fT;have p2:(k:Int)<(n.known.length:Int):=fT;obtain⟨b0,o0,A6,c6,aq,aT,y0,y1,y2,r1⟩:=nO hv k D;subst aq;obtain⟨x,hx⟩:∃x,n.views[k]=x:=⟨_,rfl⟩;have HX:=fS hx;rw[hx] at y0 y1 y2 r1;clear hx;go_wp2_with fail;refine(yr x _ F _ r1).mono ?_;rintro q w5 ⟨a,j⟩;obtain⟨t,r⟩:∃t,j6 x=t:=⟨_,rfl⟩;rw[r] at a;have HT:=fS r;clear r;subst a;cases t
   case false=>
    have c:=fS (show jp n=false by have:=ig (p:=j6) D (by rw[HX.out];exact HT.out);simp[jp,this]);apply_assumption;go_wp2_with fail;go_ret;exact⟨by rw[c.out];rfl,fU f j f.size⟩
   have aw:=hn.below j;have Z5:=fu j (fx Y) Y;clear J L M O P Q R S T U s u v y0 y1 y2;obtain⟨J,L,M,O,P,Q,R,S,T,U,s,u,v⟩:=jS Z5;obtain⟨b1,o1,ar,-,aU,z0⟩:=lY aw k E;subst ar;obtain⟨y,hy⟩:∃y,n.known[k]=y:=⟨_,rfl⟩;have HY:=fS hy;rw[hy] at z0;clear hy;apply_assumption;go_wp2_with fail;refine(ii _ _ _ _).mono ?_;rintro q w6 ⟨a,G⟩;subst w6;obtain⟨t,r⟩:∃t,ib y 0 41=t:=⟨_,rfl⟩;rw[r] at a;have V:=fS r;clear r;subst a;cases t
   case false=>
    have c:=fS (show jp n=false by have:=ig (p:=fun k=>ib k 0 41) E (by rw[HY.out];exact V.out);simp[jp,this]);apply_assumption;go_wp2_with fail;go_ret;exact⟨by rw[c.out];rfl,fU f j f.size⟩
   have HS:=fS (And.intro (ir (p:=j6) D H.out.1 (by rw[HX.out];exact HT.out)) (ir (p:=fun k=>ib k 0 41) E H.out.2 (by rw[HY.out];exact V.out)));apply_assumption;go_wp2_with fail;go_roundw
   case rel=>exact⟨k+1,by go_num,fT,HS,fU z j z.size⟩
   case measure=>exact ms
  ·have au:k=3:=fT
   subst au;have c:=fS (show jp n=true by
   have h1:=H.out.1;have h2:=H.out.2;rw[List.take_of_length_le (by have:=I.out;omega)] at h1;rw[List.take_of_length_le (by have:=X.out;omega)] at h2;simp[jp,I.out,X.out,A.out,B.out,C.out,h1,h2])
   go_wp2_with fail;go_ret;exact⟨by rw[c.out];rfl,f⟩
theorem zN {xs:List Int} (h0:¬xs.length=0) (h3:¬xs.length=3):mQ xs=false:=by simp[mQ,h0,h3]
theorem zM {xs:List Int} {k:Nat} (hk:k<xs.length) (h:ib xs[k] 0 9999=false):mQ xs=false:=by
 have:=ig (p:=fun k=>ib k 0 9999) hk h;simp only[mQ,this,Bool.and_false]
theorem rC {xs:List Int} (hl:xs.length=0∨xs.length=3) (ha:xs.all (fun k=>ib k 0 9999)=true):mQ xs=true:=by
 unfold mQ;rw[ha];rcases hl with h|h<;>simp[h]
theorem E9 {α:Type} {xs:List α} (h:xs.length=0):xs=[]:=List.length_eq_zero_iff.1 h
theorem wG (v:Value) (xs:List Int) (F:Nat→Prop) (w:World) (h:Rd (jQ .i64) w F v xs):
  Calls Tryz.prog 69 #[v] w fun q w' =>q= .returned (.bool (mQ xs))∧Below w.heap.size w w':=by
 obtain⟨A,c,rfl,-,G,-⟩:=id h;go_enter Tryz.func69,Tryz.ntmps69;by_cases q0:xs.length=0
 case pos=>
  have a:=fS (show mQ xs=true from rC (.inl q0) (by rw[E9 q0];rfl));have D:(((xs.length:Nat):Int) !=0)=false:=by simp[q0]
  have s:decide ((0:Int)<((xs.length:Nat):Int))=false:=ia fT;have M:decide (0<xs.length)=false:=ia fT;clear q0;go_wp2_with fail
  go_loopw [3] (fun i wr=>i= .int .i64 0∧wr=w) (fun i _=>0)
  case atStart=>exact⟨rfl,rfl⟩
  case round=>
   obtain⟨rfl,rfl⟩:=hrel;go_wp2_with fail;go_ret;exact⟨by rw[a.out];rfl,gM _ _⟩
 have D:(((xs.length:Nat):Int) !=0)=true:=by simpa using q0
 by_cases q3:xs.length=3
 case neg=>
  have a:=fS (zN q0 q3);have s:(((xs.length:Nat):Int) !=3)=true:=by simpa using (show ¬((xs.length:Nat):Int)=3 by omega)
  clear q0 q3;go_wp2_with fail;go_ret;exact⟨by rw[a.out];rfl,gM _ _⟩
 have s:(((xs.length:Nat):Int) !=3)=false:=by simp[q3]
 have C:=fS q3;clear q0 q3;go_wp2_with fail
 go_loopw [3] (fun i wr=>∃k:Nat,i= .int .i64 k∧k≤xs.length∧Hid ((xs.take k).all (fun k=>ib k 0 9999)=true)∧Below w.heap.size w wr) (fun i _=>xs.length-(intOf i).toNat)
 case atStart=>exact⟨0,rfl,j8 _,rfl,gM _ _⟩
 case round=>
  obtain⟨k,rfl,Q,n,b⟩:=hrel;by_cases hlt:k<xs.length
  ·have H:=h.below b
   obtain⟨P,R,u,-,O,L⟩:=lY H k hlt;subst u;have J:(k:Int)<(xs.length:Int):=fT;obtain⟨y,m⟩:∃y,xs[k]=y:=⟨_,rfl⟩;have r:=fS m;rw[m] at L;clear m;have o:=fS hlt;go_upto_region 6 with fail;refine kA [.rd [0,1,2,3],.mid 4,.mid 5] [6] ?_;refine vL ?_;intro N hN;go_wp2_with fail;refine fV (hN _ ?_);clear hN N;refine vM ?_;intro N hN;go_wp2_with fail;refine(lh _).mono ?_;rintro e z ⟨g,I⟩;subst z;subst g;apply_assumption;refine vN (gM _ _) (hN _ _ ?_);clear hN;refine vM ?_;intro N hN;go_wp2_with fail;refine(ii _ _ _ _).mono ?_;rintro e B ⟨g,I⟩;subst B;obtain⟨x,f⟩:∃t,ib y 0 9999=t:=⟨_,rfl⟩;rw[f] at g;have j:=fS f;clear f;subst g;apply_assumption;refine vN (gM _ _) (hN _ _ ?_);clear hN;cases x
   case false=>
    have a:=fS (zM o.out (by rw[r.out];exact j.out))
    repeat (first|(refine vL ?_;intro N hN;go_wp2_with fail;refine fV (hN _ ?_);clear hN N)|(refine vM ?_;intro N hN;go_wp2_with fail;refine vN (gM _ _) (hN _ _ ?_);clear hN))
    refine vF ?_;have d:=fS (fU b (gM wr.heap.size wr).drew b.size);go_wp2_with fail;go_ret;exact⟨by rw[a.out];rfl,d.out⟩
   refine vF ?_;have d:=fS (fU b (gM wr.heap.size wr).drew b.size);have HS:=fS (ir (p:=fun k=>ib k 0 9999) o.out n.out (by rw[r.out];exact j.out));go_wp2_with fail;go_roundw
   case rel=>exact⟨k+1,by go_num,fT,HS,d.out⟩
   case measure=>exact ms
  ·have l:k=xs.length:=fT
   have J:¬(k:Int)<(xs.length:Int):=fT;have a:=fS (show mQ xs=true from rC (.inr C.out) (by have E:=n.out;rwa [l,li] at E));clear l;go_wp2_with fail;go_ret;exact⟨by rw[a.out];rfl,b⟩
theorem pI (x:iD) (vi vj ve vo:Value) (F:Nat→Prop) (w:World) (h:ks w F vi vj ve vo x):
  Calls Tryz.prog 36 #[.agg #[x.kind,x.from_,x.dest,x.inc,x.version,x.round,x.g,vi,vj,ve,vo]] w fun q w' =>q= .returned (.bool (g9 x))∧Below w.heap.size w w':=by
 obtain⟨A1,c1,rfl,-⟩:=h.ic.shape;obtain⟨A2,c2,rfl,-⟩:=h.vs.shape;obtain⟨A3,c3,rfl,-⟩:=h.ev.shape;obtain⟨A4,c4,rfl,-⟩:=h.ou.shape;obtain⟨W,hV,c,Z⟩:=nC w (.cells #[x.kind,x.from_,x.dest,x.inc,x.version,x.round,x.g,.slice A1 x.incs.length c1,.slice A2 x.versions.length c2,.slice A3 x.events.length c3,.slice A4 x.outs.length c4] 88);go_enter Tryz.func36,Tryz.ntmps36;go_upto_region 1 with fail;rw[hV.out];clear hV;replace h:=h.below c;have aG:=fx Z;obtain⟨d0,d1,d2,d3,d4,d5,d6,d7,d8,d9,aF⟩:=nR Z;refine kA [.rd [0,1],.mid 2,.rd [3,4,5],.mid 6,.rd [7,8,9,10],.mid 11,.rd [12,13,14,15],.mid 16,.mid 17,.rd [18,19,20,21],.mid 22,.mid 23,.rd [24,25,26,27],.mid 28,.mid 29,.rd [30,31,32,33],.mid 34,.rd [35,36,37,38],.mid 39,.rd [40,41,42,43],.mid 44,.rd [45,46,47,48],.mid 49,.mid 50,.rd [51,52,53,54],.mid 55] [56,57] ?_;refine vL ?_;intro N hN;go_wp2_with fail;refine fV (hN _ ?_);clear hN N;refine vM ?_;intro N hN;go_wp2_with fail;refine(ii _ _ _ _).mono ?_;rintro e ap ⟨a,v⟩;subst ap;obtain⟨an,R⟩:∃t,ib x.kind 1 7=t:=⟨_,rfl⟩;rw[R] at a;have k:=fS R;clear R;subst a;apply_assumption;refine vN (gM _ _) (hN _ _ ?_);clear hN;cases an
 case false=>
  have d:=fS (show g9 x=false by simp[g9,k.out])
  repeat (first|(refine vL ?_;intro N hN;go_wp2_with fail;refine fV (hN _ ?_);clear hN N)|(refine vM ?_;intro N hN;go_wp2_with fail;refine vN (gM _ _) (hN _ _ ?_);clear hN))
  refine vF ?_;have b:=fS (gM W.heap.size W).drew;go_wp2_with fail;go_ret;exact⟨by rw[d.out];rfl,fU c b.out c.size⟩
 refine vL ?_;intro N hN;go_wp2_with fail;refine fV (hN _ ?_);clear hN N;refine vM ?_;intro N hN;go_wp2_with fail;refine(ii _ _ _ _).mono ?_;rintro e aq ⟨a,v⟩;subst aq;obtain⟨ao,S⟩:∃t,ib x.from_ 0 2=t:=⟨_,rfl⟩;rw[S] at a;have m:=fS S;clear S;subst a;apply_assumption;refine vN (gM _ _) (hN _ _ ?_);clear hN;cases ao
 case false=>
  have d:=fS (show g9 x=false by simp[g9,k.out,m.out])
  repeat (first|(refine vL ?_;intro N hN;go_wp2_with fail;refine fV (hN _ ?_);clear hN N)|(refine vM ?_;intro N hN;go_wp2_with fail;refine vN (gM _ _) (hN _ _ ?_);clear hN))
  refine vF ?_;have b:=fS (gM W.heap.size W).drew;go_wp2_with fail;go_ret;exact⟨by rw[d.out];rfl,fU c b.out c.size⟩
 refine vL ?_;intro N hN;go_wp2_with fail;refine fV (hN _ ?_);clear hN N;refine vM ?_;intro N hN;go_wp2_with fail;refine(ii _ _ _ _).mono ?_;rintro e ae ⟨a,v⟩;subst ae;obtain⟨T,A⟩:∃t,ib x.dest 0 2=t:=⟨_,rfl⟩;rw[A] at a;have f:=fS A;clear A;subst a;apply_assumption;refine vN (gM _ _) (hN _ _ ?_);clear hN;cases T
 case false=>
  have d:=fS (show g9 x=false by simp[g9,k.out,m.out,f.out])
  repeat (first|(refine vL ?_;intro N hN;go_wp2_with fail;refine fV (hN _ ?_);clear hN N)|(refine vM ?_;intro N hN;go_wp2_with fail;refine vN (gM _ _) (hN _ _ ?_);clear hN))
  refine vF ?_;have b:=fS (gM W.heap.size W).drew;go_wp2_with fail;go_ret;exact⟨by rw[d.out];rfl,fU c b.out c.size⟩
 refine vL ?_;intro N hN;go_wp2_with fail;refine fV (hN _ ?_);clear hN N;refine vM ?_;intro N hN;go_wp2_with fail;refine(lh _).mono ?_;rintro e af ⟨a,v⟩;subst af;subst a;apply_assumption;refine vN (gM _ _) (hN _ _ ?_);clear hN;refine vM ?_;intro N hN;go_wp2_with fail;refine(ii _ _ _ _).mono ?_;rintro e ag ⟨a,v⟩;subst ag;obtain⟨U,B⟩:∃t,ib x.inc 0 9999=t:=⟨_,rfl⟩;rw[B] at a;have i:=fS B;clear B;subst a;apply_assumption;refine vN (gM _ _) (hN _ _ ?_);clear hN;cases U
 case false=>
  have d:=fS (show g9 x=false by simp[g9,k.out,m.out,f.out,i.out])
  repeat (first|(refine vL ?_;intro N hN;go_wp2_with fail;refine fV (hN _ ?_);clear hN N)|(refine vM ?_;intro N hN;go_wp2_with fail;refine vN (gM _ _) (hN _ _ ?_);clear hN))
  refine vF ?_;have b:=fS (gM W.heap.size W).drew;go_wp2_with fail;go_ret;exact⟨by rw[d.out];rfl,fU c b.out c.size⟩
 refine vL ?_;intro N hN;go_wp2_with fail;refine fV (hN _ ?_);clear hN N;refine vM ?_;intro N hN;go_wp2_with fail;refine(lh _).mono ?_;rintro e ah ⟨a,v⟩;subst ah;subst a;apply_assumption;refine vN (gM _ _) (hN _ _ ?_);clear hN;refine vM ?_;intro N hN;go_wp2_with fail;refine(ii _ _ _ _).mono ?_;rintro e ai ⟨a,v⟩;subst ai;obtain⟨V,C⟩:∃t,ib x.version 0 9999=t:=⟨_,rfl⟩;rw[C] at a;have l:=fS C;clear C;subst a;apply_assumption;refine vN (gM _ _) (hN _ _ ?_);clear hN;cases V
 case false=>
  have d:=fS (show g9 x=false by simp[g9,k.out,m.out,f.out,i.out,l.out])
  repeat (first|(refine vL ?_;intro N hN;go_wp2_with fail;refine fV (hN _ ?_);clear hN N)|(refine vM ?_;intro N hN;go_wp2_with fail;refine vN (gM _ _) (hN _ _ ?_);clear hN))
  refine vF ?_;have b:=fS (gM W.heap.size W).drew;go_wp2_with fail;go_ret;exact⟨by rw[d.out];rfl,fU c b.out c.size⟩
 refine vL ?_;intro N hN;go_wp2_with fail;refine fV (hN _ ?_);clear hN N;refine vM ?_;intro N hN;go_wp2_with fail;refine(lh _).mono ?_;rintro e aj ⟨a,v⟩;subst aj;subst a;apply_assumption;refine vN (gM _ _) (hN _ _ ?_);clear hN;refine vM ?_;intro N hN;go_wp2_with fail;refine(ii _ _ _ _).mono ?_;rintro e ak ⟨a,v⟩;subst ak;obtain⟨X,D⟩:∃t,ib x.round 0 9999=t:=⟨_,rfl⟩;rw[D] at a;have p:=fS D;clear D;subst a;apply_assumption;refine vN (gM _ _) (hN _ _ ?_);clear hN;cases X
 case false=>
  have d:=fS (show g9 x=false by simp[g9,k.out,m.out,f.out,i.out,l.out,p.out])
  repeat (first|(refine vL ?_;intro N hN;go_wp2_with fail;refine fV (hN _ ?_);clear hN N)|(refine vM ?_;intro N hN;go_wp2_with fail;refine vN (gM _ _) (hN _ _ ?_);clear hN))
  refine vF ?_;have b:=fS (gM W.heap.size W).drew;go_wp2_with fail;go_ret;exact⟨by rw[d.out];rfl,fU c b.out c.size⟩
 refine vL ?_;intro N hN;go_wp2_with fail;refine fV (hN _ ?_);clear hN N;refine vM ?_;intro N hN;go_wp2_with fail;refine(ii _ _ _ _).mono ?_;rintro e al ⟨a,v⟩;subst al;obtain⟨Y,E⟩:∃t,ib x.g 0 41=t:=⟨_,rfl⟩;rw[E] at a;have r:=fS E;clear E;subst a;apply_assumption;refine vN (gM _ _) (hN _ _ ?_);clear hN;cases Y
 case false=>
  have d:=fS (show g9 x=false by simp[g9,k.out,m.out,f.out,i.out,l.out,p.out,r.out])
  repeat (first|(refine vL ?_;intro N hN;go_wp2_with fail;refine fV (hN _ ?_);clear hN N)|(refine vM ?_;intro N hN;go_wp2_with fail;refine vN (gM _ _) (hN _ _ ?_);clear hN))
  refine vF ?_;have b:=fS (gM W.heap.size W).drew;go_wp2_with fail;go_ret;exact⟨by rw[d.out];rfl,fU c b.out c.size⟩
 refine vL ?_;intro N hN;go_wp2_with fail;refine fV (hN _ ?_);clear hN N;refine vM ?_;intro N hN;go_wp2_with fail;refine(wG _ x.incs F _ (h.ic.below (gM W.heap.size W).drew)).mono ?_;rintro e aB ⟨a,L⟩;have n:=L;clear L;obtain⟨aa,G⟩:∃t,mQ x.incs=t:=⟨_,rfl⟩;rw[G] at a;have u:=fS G;clear G;subst a;apply_assumption;refine vN n (hN _ _ ?_);clear hN;cases aa
 case false=>
  have d:=fS (show g9 x=false by simp[g9,k.out,m.out,f.out,i.out,l.out,p.out,r.out,u.out])
  repeat (first|(refine vL ?_;intro N hN;go_wp2_with fail;refine fV (hN _ ?_);clear hN N)|(refine vM ?_;intro N hN;go_wp2_with fail;refine vN n (hN _ _ ?_);clear hN))
  refine vF ?_;have b:=fS ((gK ((gM W.heap.size W).drew) n));go_wp2_with fail;go_ret;exact⟨by rw[d.out];rfl,fU c b.out c.size⟩
 refine vL ?_;intro N hN;go_wp2_with fail;refine fV (hN _ ?_);clear hN N;refine vM ?_;intro N hN;go_wp2_with fail;refine(wG _ x.versions F _ (h.vs.below (gK ((gM W.heap.size W).drew) n))).mono ?_;rintro e aC ⟨a,M⟩;have j:=fU n M (Below.size n);clear M;obtain⟨ab,H⟩:∃t,mQ x.versions=t:=⟨_,rfl⟩;rw[H] at a;have y:=fS H;clear H;subst a;apply_assumption;refine vN j (hN _ _ ?_);clear hN;cases ab
 case false=>
  have d:=fS (show g9 x=false by simp[g9,k.out,m.out,f.out,i.out,l.out,p.out,r.out,u.out,y.out])
  repeat (first|(refine vL ?_;intro N hN;go_wp2_with fail;refine fV (hN _ ?_);clear hN N)|(refine vM ?_;intro N hN;go_wp2_with fail;refine vN j (hN _ _ ?_);clear hN))
  refine vF ?_;have b:=fS ((gK ((gM W.heap.size W).drew) j));go_wp2_with fail;go_ret;exact⟨by rw[d.out];rfl,fU c b.out c.size⟩
 refine vL ?_;intro N hN;go_wp2_with fail;refine fV (hN _ ?_);clear hN N;refine vM ?_;intro N hN;go_wp2_with fail;refine(lD _).mono ?_;rintro e am ⟨a,v⟩;subst am;subst a;apply_assumption;refine vN j (hN _ _ ?_);clear hN;refine vM ?_;intro N hN;go_wp2_with fail;refine(lN _ x.events _ F _ (h.ev.below (gK ((gM W.heap.size W).drew) j))).mono ?_;rintro e aD ⟨a,O⟩;have o:=fU j O (Below.size j);clear O;obtain⟨ac,I⟩:∃t,iQ x.events 100=t:=⟨_,rfl⟩;rw[I] at a;have z:=fS I;clear I;subst a;apply_assumption;refine vN o (hN _ _ ?_);clear hN;cases ac
 case false=>
  have d:=fS (show g9 x=false by simp[g9,k.out,m.out,f.out,i.out,l.out,p.out,r.out,u.out,y.out,z.out])
  repeat (first|(refine vL ?_;intro N hN;go_wp2_with fail;refine fV (hN _ ?_);clear hN N)|(refine vM ?_;intro N hN;go_wp2_with fail;refine vN o (hN _ _ ?_);clear hN))
  refine vF ?_;have b:=fS ((gK ((gM W.heap.size W).drew) o));go_wp2_with fail;go_ret;exact⟨by rw[d.out];rfl,fU c b.out c.size⟩
 refine vL ?_;intro N hN;go_wp2_with fail;refine fV (hN _ ?_);clear hN N;refine vM ?_;intro N hN;go_wp2_with fail;refine(oD _ x.outs _ F _ (h.ou.below (gK ((gM W.heap.size W).drew) o))).mono ?_;rintro e aE ⟨a,P⟩;have s:=fU o P (Below.size o);clear P;obtain⟨ad,J⟩:∃t,iu x.outs 96=t:=⟨_,rfl⟩;rw[J] at a;have Q:=fS J;clear J;subst a;apply_assumption;refine vN s (hN _ _ ?_);clear hN;cases ad
 case false=>
  have d:=fS (show g9 x=false by simp[g9,k.out,m.out,f.out,i.out,l.out,p.out,r.out,u.out,y.out,z.out,Q.out])
  repeat (first|(refine vL ?_;intro N hN;go_wp2_with fail;refine fV (hN _ ?_);clear hN N)|(refine vM ?_;intro N hN;go_wp2_with fail;refine vN s (hN _ _ ?_);clear hN))
  refine vF ?_;have b:=fS ((gK ((gM W.heap.size W).drew) s));go_wp2_with fail;go_ret;exact⟨by rw[d.out];rfl,fU c b.out c.size⟩
 refine vF ?_;have d:=fS (show g9 x=true by simp[g9,k.out,m.out,f.out,i.out,l.out,p.out,r.out,u.out,y.out,z.out,Q.out]);have b:=fS ((gK ((gM W.heap.size W).drew) s));go_wp2_with fail;go_ret;exact⟨by rw[d.out];rfl,fU c b.out c.size⟩
theorem kD (n:gT):jr n=true↔ib n.id 0 2=true∧ib n.inc 1 9999=true∧ib n.g 0 41=true∧ib n.led 0 9999=true∧iQ n.kept 100=true∧iu n.outs 96=true∧jp n=true∧
  (∀o∈n.outs,o.time<n.g)∧n.lanes.map (fun l=>l.proc)=iO n.id∧n.lanes.all jj=true:=by
 simp only[jr,jp,Bool.and_eq_true,decide_eq_true_eq,List.all_eq_true];constructor
 ·rintro⟨j,k,m,p,q,r,s,t,u,a,b,c,d,e,f,i⟩
  exact⟨j,k,m,p,t,u,⟨d,f,q,r,s,e,i⟩,a,b,c⟩
 ·rintro⟨j,k,m,p,t,u,⟨d,f,q,r,s,e,i⟩,a,b,c⟩
  exact⟨j,k,m,p,q,r,s,t,u,a,b,c,d,e,f,i⟩
theorem Dv {n:gT} (h:jt n=true):jr n=true:=by
 simp only[jt,Bool.and_eq_true] at h;exact h.1
theorem ns {n:gT} (h:¬jr n=true):jt n=false:=by
 cases hk:jt n with
 |false=>rfl
 |true=>exact absurd (Dv hk) h
theorem xx {a b:ik} (h:gO a b=true):a.time≤b.time:=by
 simp only[gO,ik.key,jM] at h;by_cases h1:a.time<b.time
 ·omega
 ·by_cases h2:a.time=b.time
  ·omega
  ·simp[h1,h2] at h
theorem Bd {os:List ik} {g:Int} {m:Int} (h:iu os m=true) (hp:os.length-1<os.length) (hl:os[os.length-1].time<g):∀o∈os,o.time<g:=by
 intro o b;simp only[iu,Bool.and_eq_true] at h;have c:=(rz mZ os).1 h.2.2;obtain⟨i,a,rfl⟩:=List.getElem_of_mem b;by_cases h1:i=os.length-1
 ·subst h1;exact hl
 ·have:=xx (List.pairwise_iff_getElem.1 c i (os.length-1) a hp fT)
  omega
theorem De {n:gT} (h:lX n) (p:Int):(jq n p).length≤804:=by
 have b:=AJ ((jb n++k6 n).filter (lc n p));have a:=List.length_filter_le (lc n p) (jb n++k6 n);have c:=pV h;have d:=rI h n.views.length;have e:=h.views;rw[List.length_append] at a;rw[yx];unfold k6 at*;omega
structure xc (n:gT):Prop where
 kept:∀e∈n.kept,nF e
 sends:∀l∈n.lanes,∀p∈l.done,∀e∈p.sends,nF e
 evs:∀v∈n.views,∀e∈v.events,nF e
theorem zl {xs:List hY} {m:Int} (h:iQ xs m=true):∀e∈xs,nF e:=by
 simp only[iQ,Bool.and_eq_true,List.all_eq_true] at h;exact fun e a=>nF.of_ok (h.2.1 e a)
theorem xk {xs:List hY} {m:Nat} (h:iQ xs (m:Int)=true):xs.length≤m:=by
 simp only[iQ,Bool.and_eq_true,decide_eq_true_eq] at h;omega
theorem rS {xs:List ik} {m:Nat} (h:iu xs (m:Int)=true):xs.length≤m:=by
 simp only[iu,Bool.and_eq_true,decide_eq_true_eq] at h;omega
theorem wM {l:il} (h:jj l=true):l.done.length≤100∧∀p∈l.done,p.sends.length≤2∧p.outs.length≤2∧∀e∈p.sends,nF e:=by
 simp only[jj,Bool.and_eq_true,decide_eq_true_eq,List.all_eq_true] at h;refine⟨h.2.2.1,fun p b=>?_⟩;have a:=h.2.2.2.1 p b;simp only[iJ,Bool.and_eq_true] at a;exact⟨xk (m:=2) a.2.2.2.1,rS (m:=2) a.2.2.2.2,zl a.2.2.2.1⟩
theorem sJ {id:Int} (h:ib id 0 2=true):(iO id).length≤2:=by
 rcases vZ h with ⟨_,h⟩|⟨_,h⟩|⟨_,h⟩<;>rw[h]<;>simp
theorem sR {n:gT} (h:jp n=true):n.views.length=3∧n.known.length=3∧∀v∈n.views,j6 v=true:=by
 simp only[jp,Bool.and_eq_true,decide_eq_true_eq,List.all_eq_true] at h;exact⟨h.1,h.2.1,h.2.2.2.2.2.1⟩
theorem yM {v:kK} (h:j6 v=true):iQ v.events 100=true:=by
 simp only[j6,Bool.and_eq_true] at h;exact h.2.2
theorem yn {n:gT} (h:jr n=true):lX n:=by
 obtain⟨c,q,s,t,d,e,f,u,g,a⟩:=(kD n).1 h;obtain⟨k,o,p⟩:=sR f;refine⟨xk (m:=100) d,rS (m:=96) e,?_,fun l i=>?_,k,fun v j=>xk (m:=100) (yM (p v j)),o⟩
 ·have:=congrArg List.length g
  rw[List.length_map] at this;rw[this];exact sJ c
 ·have:=wM (List.all_eq_true.1 a l i)
  exact⟨fT,fun r b=>⟨(this.2 r b).1,(this.2 r b).2.1⟩⟩
theorem Dn {n:gT} (h:jr n=true):xc n:=by
 obtain⟨i,j,k,m,b,o,c,q,r,a⟩:=(kD n).1 h;obtain⟨s,t,g⟩:=sR c;exact⟨zl b,fun l d p e=>((wM (List.all_eq_true.1 a l d)).2 p e).2.2,fun v f=>zl (yM (g v f))⟩
theorem sx {n:gT} {e:hY}:∀i,e∈iY n i→∃v∈n.views,e∈v.events
 |0,h=>by simp[iY] at h
 |i+1,h=>by
  simp only[iY] at h;split at h
  ·exact sx i h
  ·rcases List.mem_append.1 h with h|h
   ·exact sx i h
   ·rw[List.getD_eq_getElem?_getD] at h
    cases hv:n.views[i]? with
    |none=>rw[hv] at h;simp at h
    |some v=>rw[hv] at h;exact⟨v,List.mem_of_getElem? hv,h⟩
theorem DF {n:gT} (h:xc n):∀e∈jb n,nF e:=by
 intro e a;rw[yy] at a;rcases List.mem_append.1 a with a|a
 ·exact h.kept e a
 ·obtain⟨l,b,a⟩:=List.mem_flatMap.1 a
  obtain⟨p,c,a⟩:=List.mem_flatMap.1 a;exact h.sends l b p c e a
theorem Df {n:gT} (h:xc n):∀e∈jb n++k6 n,nF e:=by
 intro e a;rcases List.mem_append.1 a with a|a
 ·exact DF h e a
 ·obtain⟨v,b,a⟩:=sx _ a
  exact h.evs v b e a
def kb (n:gT) (l:il):Bool:=decide ((jq n l.proc).length≤100)&&decide (hZ l.done (jq n l.proc)=l.done.length)
theorem so (n:gT):uB n=n.lanes.all (kb n):=rfl
theorem sE {n:gT} (h:n.lanes.map (fun l=>l.proc)=iO n.id) {k:Nat} (hk:k<n.lanes.length) (hk2:k<(iO n.id).length):n.lanes[k].proc=(iO n.id)[k]:=by
 have a:(n.lanes.map (fun l=>l.proc))[k]? =(iO n.id)[k]? :=by rw[h]
 rw[List.getElem?_map,pE hk,pE hk2] at a;simpa using a
end Go.Proofs.YtlndjfflhegkdaaGreatDoor
