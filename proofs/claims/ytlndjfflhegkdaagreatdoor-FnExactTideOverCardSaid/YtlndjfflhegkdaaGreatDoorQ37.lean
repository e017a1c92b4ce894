/- Parts of the proof: Imp1, Te2, Imp11, Nh8, Spc11. -/
import Derived.Test.YtlndjfflhegkdaaGreatDoorQ27
import Derived.Test.YtlndjfflhegkdaaGreatDoorQ36
set_option linter.unusedVariables false
set_option linter.unusedSimpArgs false
set_option linter.unusedSectionVars false
set_option maxHeartbeats 4000000
set_option maxRecDepth 100000
namespace Go.Proofs.YtlndjfflhegkdaaGreatDoor
open Go.RowKit
theorem xQ (p:Int) (w:World):Calls Tryz.prog 126 #[p] w fun q w' =>q= .returned (ij (jB p))∧Below w.heap.size w w':=by
 obtain⟨t,b⟩:∃t,ib p 0 3=t:=⟨_,rfl⟩;cases t
 all_goals
  go_enter Tryz.func126,Tryz.ntmps126;go_wp2_with (go_at_call 122;refine(lC _ _).mono ?_;rintro e c ⟨a,rfl⟩;rw[b] at a;subst a);refine bodyPost_ret (v:=ij (jB p)) (by simp[results,Tryz.results126,go_sem,ij,jB,b]) rfl ⟨rfl,?_⟩;exact Ch.below0 (by repeat (first|(with_reducible exact Ch.refl _ _)|(with_reducible refine Ch.setCell ?_ (Or.inr (jn _)) _)|(with_reducible refine Ch.drew ?_)|(with_reducible refine Ch.alloc ?_ _)))
theorem Dm (e:hY) (w:World):Calls Tryz.prog 134 #[ij e] w fun q w' =>q= .returned (ij e)∧Below w.heap.size w w':=by
 unfold ij;go_enter Tryz.func134,Tryz.ntmps134;go_wp2_with fail;refine bodyPost_ret (v:= .agg #[e.time,e.to,e.from_,e.count,e.n,e.kind,e.arg]) (by simp[results,Tryz.results134,go_sem]) rfl ⟨rfl,?_⟩;exact Ch.below0 (by repeat (first|(with_reducible exact Ch.refl _ _)|(with_reducible refine Ch.setCell ?_ (Or.inr sm) _)|(with_reducible refine Ch.drew ?_)|(with_reducible refine Ch.alloc ?_ _)))
theorem xm {l:List iD} {k:Nat} (h:k<l.length):l.getD k wZ=l[k]:=by simp[List.getD,h]
theorem wF {kd:Int} {l:List iD} {k:Nat} (h:k<l.length):sB kd l k=(decide (l[k].kind=kd)&&(g9 l[k]&&(decide (k=0)||decide ((l.getD (k-1) wZ).from_<l[k].from_)))):=by
 simp only[sB,xm h]
theorem lg {kd:Int} {l:List iD} {k:Nat} (h:k<l.length) (hp:sB kd l k=false):jK kd l=false:=mH h hp
theorem qx {kd:Int} {l:List iD} (h:jK kd l=false):lw kd l=false:=by simp[lw,h]
theorem qw {kd:Int} {l:List iD} {k:Nat} (h:k<l.length) (h3:kd=3) (hp:iT l[k]=false):lw kd l=false:=by
 simp only[lw,ig h hp,h3];simp
theorem Cl {kd:Int} {l:List iD} (h:jK kd l=true) (hf:kd=3→l.all iT=true):lw kd l=true:=by
 by_cases h3:kd=3
 ·simp[lw,h,hf h3]
 ·simp[lw,h,h3]
theorem sD (v:Value) (kd:Int) (xs:List iD) (F:Nat→Prop) (w:World) (h:Rd mK w F v xs):
  Calls Tryz.prog 58 #[v,kd] w fun q w' =>q= .returned (.bool (lw kd xs))∧Below w.heap.size w w':=by
 obtain⟨A,c,rfl,-,a5,-⟩:=id h;go_enter Tryz.func58,Tryz.ntmps58;go_wp2_with fail
 go_loopw [5] (fun i wr=>∃k:Nat,i= .int .i64 k∧k≤xs.length∧Hid ((List.range k).all (sB kd xs)=true∧(kd=3→(xs.take k).all iT=true))∧Below w.heap.size w wr) (fun i _=>xs.length-(intOf i).toNat)
 case atStart=>exact⟨0,rfl,j8 _,fS ⟨rfl,fun _=>rfl⟩,gM _ _⟩
 case round=>
  obtain⟨k,rfl,hk,E,j⟩:=hrel;by_cases hlt:k<xs.length
  ·have hr:=h.below j
   obtain⟨b0,bl,a',bb,a8,bd,rfl,_,⟨P,Q,R,S,T,U,V⟩,⟨W,X,Y,Z⟩,s⟩:=lq hr k hlt;obtain⟨B0,bg,rfl,-⟩:=s.ic.shape;obtain⟨B1,bh,rfl,-⟩:=s.vs.shape;obtain⟨B2,bi,rfl,-⟩:=s.ev.shape;obtain⟨B3,bj,rfl,-⟩:=s.ou.shape;have p0:(k:Int)<(xs.length:Int):=fT;have m:=fS (wF (kd:=kd) hlt);obtain⟨x,hx⟩:∃x,xs[k]=x:=⟨_,rfl⟩;have C:=fS hx;rw[hx] at P Q R S T U V W X Y Z s m;clear hx;have n:=fS hlt;by_cases q1:x.kind=kd
   case neg=>
    have e1:(x.kind !=kd)=true:=by simpa using q1
    have G:=fS (qx (lg n.out (by rw[m.out];simp[q1])));clear q1;go_upto_region 4 with fail;refine kA [.rd [0,1,2,3],.mid 4,.rd [5,6,7,8,9,10,11,12,13,14,15,16,17,18,19,20,21,22,23,24,25,26,27,28,29,30,31]] [32] ?_;refine vL ?_;intro N hN;go_wp2_with fail;refine fV (hN _ ?_);clear hN N;refine vM ?_;intro N hN;go_wp2_with fail;refine(pI x _ _ _ _ F _ (s.below (gM wr.heap.size wr).drew)).mono ?_;rintro e al ⟨r,d⟩;have a:=d;clear d;obtain⟨z,f⟩:∃t,g9 x=t:=⟨_,rfl⟩;rw[f] at r;have o:=fS f;clear f;subst r;apply_assumption;refine vN a (hN _ _ ?_);clear hN;cases z
    case false=>
     have g:=fS (qx (lg n.out (by rw[m.out,o.out];simp)))
     repeat (first|(refine vL ?_;intro N hN;go_wp2_with fail;refine fV (hN _ ?_);clear hN N)|(refine vM ?_;intro N hN;go_wp2_with fail;refine vN a (hN _ _ ?_);clear hN))
     refine vF ?_;have b:=fS (fU j ((gK ((gM wr.heap.size wr).drew) a)) j.size);go_wp2_with fail;go_ret;exact⟨by rw[g.out];rfl,b.out⟩
    refine vL ?_;intro N hN;go_wp2_with fail;refine fV (hN _ ?_);clear hN N;refine vF ?_;have g:=G;have b:=fS (fU j (gK ((gM wr.heap.size wr).drew) a) j.size);go_wp2_with fail;go_ret;exact⟨by rw[g.out];rfl,b.out⟩
   have e1:(x.kind !=kd)=false:=by simp[q1]
   have am:=fS q1;clear q1;by_cases q2:k=0
   case pos=>
    have e2:decide ((k:Int)>0)=false:=ia fT;have aE:decide ((0:Int)<(k:Int))=false:=ia fT;have aF:decide (0<k)=false:=ia fT;have I:=fS q2;clear q2;go_upto_region 4 with fail;refine kA [.rd [0,1,2,3],.mid 4,.rd [5,6,7,8,9,10,11,12,13,14,15,16,17,18,19,20,21,22,23,24,25,26,27,28,29,30,31]] [32] ?_;refine vL ?_;intro N hN;go_wp2_with fail;refine fV (hN _ ?_);clear hN N;refine vM ?_;intro N hN;go_wp2_with fail;refine(pI x _ _ _ _ F _ (s.below (gM wr.heap.size wr).drew)).mono ?_;rintro e al ⟨r,d⟩;have a:=d;clear d;obtain⟨z,f⟩:∃t,g9 x=t:=⟨_,rfl⟩;rw[f] at r;have o:=fS f;clear f;subst r;apply_assumption;refine vN a (hN _ _ ?_);clear hN;cases z
    case false=>
     have g:=fS (qx (lg n.out (by rw[m.out,o.out];simp)))
     repeat (first|(refine vL ?_;intro N hN;go_wp2_with fail;refine fV (hN _ ?_);clear hN N)|(refine vM ?_;intro N hN;go_wp2_with fail;refine vN a (hN _ _ ?_);clear hN))
     refine vF ?_;have b:=fS (fU j ((gK ((gM wr.heap.size wr).drew) a)) j.size);go_wp2_with fail;go_ret;exact⟨by rw[g.out];rfl,b.out⟩
    refine vL ?_;intro N hN;go_wp2_with fail;refine fV (hN _ ?_);clear hN N;refine vF ?_;have b:=fS (fU j (gK ((gM wr.heap.size wr).drew) a) j.size);have HS:=fS (mm E.out.1 (by rw[m.out,o.out];simp[am.out,I.out]));by_cases q3:kd=3
    case neg=>
     have e3:(kd==3)=false:=by simpa using q3
     have L:decide (kd=3)=false:=ia q3;have B:=fS (show kd=3→(xs.take (k+1)).all iT=true from fun e=>absurd e q3);clear q3;go_wp2_with fail;go_roundw
     case rel=>exact⟨k+1,by go_num,fT,fS ⟨HS.out,B.out⟩,b.out⟩
     case measure=>exact ms
    have e3:(kd==3)=true:=by simpa using q3
    have L:decide (kd=3)=true:=iW q3;have B:=fS q3;clear q3;clear P Q R S T U V W X Y Z s;have O:=h.below b.out;obtain⟨b6,aJ,aw,ax,av,ay,l,_,⟨aa,ab,ac,ad,ae,af,ag⟩,⟨ah,ai,aj,ak⟩,u⟩:=lq O k n.out;injection l with l;injection l with l hA7;subst l hA7;obtain⟨E0,az,rfl,-⟩:=u.ic.shape;obtain⟨E1,aA,rfl,-⟩:=u.vs.shape;obtain⟨E2,aB,rfl,-⟩:=u.ev.shape;obtain⟨E3,aC,rfl,-⟩:=u.ou.shape;rw[C.out] at ah ai;clear aa ab ac ad ae af ag aj ak u;by_cases q4:x.incs.length=3
    case neg=>
     have e4:(((x.incs.length:Nat):Int) !=3)=true:=by simpa using (show ¬((x.incs.length:Nat):Int)=3 by omega)
     have g:=fS (qw n.out B.out (by rw[C.out];simp[iT,q4]));clear q4;go_wp2_with fail;go_ret;exact⟨by rw[g.out];rfl,b.out⟩
    have e4:(((x.incs.length:Nat):Int) !=3)=false:=by simp[q4]
    have J:=fS q4;clear q4;by_cases q5:x.versions.length=3
    case neg=>
     have e5:(((x.versions.length:Nat):Int) !=3)=true:=by simpa using (show ¬((x.versions.length:Nat):Int)=3 by omega)
     have g:=fS (qw n.out B.out (by rw[C.out];simp[iT,q5]));clear q5;go_wp2_with fail;go_ret;exact⟨by rw[g.out];rfl,b.out⟩
    have e5:(((x.versions.length:Nat):Int) !=3)=false:=by simp[q5]
    have HU:=fS (show kd=3→(xs.take (k+1)).all iT=true from fun e=>ir (p:=iT) n.out (E.out.2 e) (by rw[C.out];simp[iT,J.out,q5]));clear q5;go_wp2_with fail;go_roundw
    case rel=>exact⟨k+1,by go_num,fT,fS ⟨HS.out,HU.out⟩,b.out⟩
    case measure=>exact ms
   have e2:decide ((k:Int)>0)=true:=iW fT;have aE:decide ((0:Int)<(k:Int))=true:=iW fT;have aF:decide (0<k)=true:=iW fT;have I:=fS q2;have an:k-1<xs.length:=fT;have H:=fS (xm an);obtain⟨b1,bm,ba,bc,a9,bf,D,_,⟨aK,aL,aM,aN,aO,aP,aQ⟩,⟨aR,aS,aT,aU⟩,sq⟩:=lq hr (k-1) an;injection D with D;injection D with D hA2;subst D hA2;have p1:(0:Int)≤(k:Int)-1:=fT;have p2:(k:Int)-1<(xs.length:Int):=fT;have p5:IntKind.i64.wrap ((k:Int)-1)=(k:Int)-1:=IntWalk.i64_in _ fT;have bk:((k:Int)-1).toNat=k-1:=fT;have p6:1≤k:=fT;have p7:(1:Int)≤(k:Int):=fT;obtain⟨y,hy⟩:∃y,xs[k-1]=y:=⟨_,rfl⟩;rw[hy] at aL H;clear aK aM aN aO aP aQ aR aS aT aU sq hy q2;by_cases q6:y.from_<x.from_
   case neg=>
    have e6:decide (y.from_≥x.from_)=true:=iW fT;have aG:decide (x.from_≤y.from_)=true:=iW fT;have G:=fS (qx (lg n.out (by rw[m.out,H.out];simp[q6,I.out])));clear q6;go_upto_region 4 with fail;refine kA [.rd [0,1,2,3],.mid 4,.rd [5,6,7,8,9,10,11,12,13,14,15,16,17,18,19,20,21,22,23,24,25,26,27,28,29,30,31]] [32] ?_;refine vL ?_;intro N hN;go_wp2_with fail;refine fV (hN _ ?_);clear hN N;refine vM ?_;intro N hN;go_wp2_with fail;refine(pI x _ _ _ _ F _ (s.below (gM wr.heap.size wr).drew)).mono ?_;rintro e al ⟨r,d⟩;have a:=d;clear d;obtain⟨z,f⟩:∃t,g9 x=t:=⟨_,rfl⟩;rw[f] at r;have o:=fS f;clear f;subst r;apply_assumption;refine vN a (hN _ _ ?_);clear hN;cases z
    case false=>
     have g:=fS (qx (lg n.out (by rw[m.out,o.out];simp)))
     repeat (first|(refine vL ?_;intro N hN;go_wp2_with fail;refine fV (hN _ ?_);clear hN N)|(refine vM ?_;intro N hN;go_wp2_with fail;refine vN a (hN _ _ ?_);clear hN))
     refine vF ?_;have b:=fS (fU j ((gK ((gM wr.heap.size wr).drew) a)) j.size);go_wp2_with fail;go_ret;exact⟨by rw[g.out];rfl,b.out⟩
    refine vL ?_;intro N hN;go_wp2_with fail;refine fV (hN _ ?_);clear hN N;refine vF ?_;have g:=G;have b:=fS (fU j (gK ((gM wr.heap.size wr).drew) a) j.size);go_wp2_with fail;go_ret;exact⟨by rw[g.out];rfl,b.out⟩
   have e6:decide (y.from_≥x.from_)=false:=ia fT;have aG:decide (x.from_≤y.from_)=false:=ia fT;have aD:=fS q6;clear q6;go_upto_region 4 with fail;refine kA [.rd [0,1,2,3],.mid 4,.rd [5,6,7,8,9,10,11,12,13,14,15,16,17,18,19,20,21,22,23,24,25,26,27,28,29,30,31]] [32] ?_;refine vL ?_;intro N hN;go_wp2_with fail;refine fV (hN _ ?_);clear hN N;refine vM ?_;intro N hN;go_wp2_with fail;refine(pI x _ _ _ _ F _ (s.below (gM wr.heap.size wr).drew)).mono ?_;rintro e al ⟨r,d⟩;have a:=d;clear d;obtain⟨z,f⟩:∃t,g9 x=t:=⟨_,rfl⟩;rw[f] at r;have o:=fS f;clear f;subst r;apply_assumption;refine vN a (hN _ _ ?_);clear hN;cases z
   case false=>
    have g:=fS (qx (lg n.out (by rw[m.out,o.out];simp)))
    repeat (first|(refine vL ?_;intro N hN;go_wp2_with fail;refine fV (hN _ ?_);clear hN N)|(refine vM ?_;intro N hN;go_wp2_with fail;refine vN a (hN _ _ ?_);clear hN))
    refine vF ?_;have b:=fS (fU j ((gK ((gM wr.heap.size wr).drew) a)) j.size);go_wp2_with fail;go_ret;exact⟨by rw[g.out];rfl,b.out⟩
   refine vL ?_;intro N hN;go_wp2_with fail;refine fV (hN _ ?_);clear hN N;refine vF ?_;have b:=fS (fU j (gK ((gM wr.heap.size wr).drew) a) j.size);have HS:=fS (mm E.out.1 (by rw[m.out,o.out,H.out];simp[am.out,aD.out]));by_cases q3:kd=3
   case neg=>
    have e3:(kd==3)=false:=by simpa using q3
    have L:decide (kd=3)=false:=ia q3;have B:=fS (show kd=3→(xs.take (k+1)).all iT=true from fun e=>absurd e q3);clear q3;go_wp2_with fail;go_roundw
    case rel=>exact⟨k+1,by go_num,fT,fS ⟨HS.out,B.out⟩,b.out⟩
    case measure=>exact ms
   have e3:(kd==3)=true:=by simpa using q3
   have L:decide (kd=3)=true:=iW q3;have B:=fS q3;clear q3;clear P Q R S T U V W X Y Z s;have O:=h.below b.out;obtain⟨b6,aJ,aw,ax,av,ay,l,_,⟨aa,ab,ac,ad,ae,af,ag⟩,⟨ah,ai,aj,ak⟩,u⟩:=lq O k n.out;injection l with l;injection l with l hA7;subst l hA7;obtain⟨E0,az,rfl,-⟩:=u.ic.shape;obtain⟨E1,aA,rfl,-⟩:=u.vs.shape;obtain⟨E2,aB,rfl,-⟩:=u.ev.shape;obtain⟨E3,aC,rfl,-⟩:=u.ou.shape;rw[C.out] at ah ai;clear aa ab ac ad ae af ag aj ak u;by_cases q4:x.incs.length=3
   case neg=>
    have e4:(((x.incs.length:Nat):Int) !=3)=true:=by simpa using (show ¬((x.incs.length:Nat):Int)=3 by omega)
    have g:=fS (qw n.out B.out (by rw[C.out];simp[iT,q4]));clear q4;go_wp2_with fail;go_ret;exact⟨by rw[g.out];rfl,b.out⟩
   have e4:(((x.incs.length:Nat):Int) !=3)=false:=by simp[q4]
   have J:=fS q4;clear q4;by_cases q5:x.versions.length=3
   case neg=>
    have e5:(((x.versions.length:Nat):Int) !=3)=true:=by simpa using (show ¬((x.versions.length:Nat):Int)=3 by omega)
    have g:=fS (qw n.out B.out (by rw[C.out];simp[iT,q5]));clear q5;go_wp2_with fail;go_ret;exact⟨by rw[g.out];rfl,b.out⟩
   have e5:(((x.versions.length:Nat):Int) !=3)=false:=by simp[q5]
   have HU:=fS (show kd=3→(xs.take (k+1)).all iT=true from fun e=>ir (p:=iT) n.out (E.out.2 e) (by rw[C.out];simp[iT,J.out,q5]));clear q5;go_wp2_with fail;go_roundw
   case rel=>exact⟨k+1,by go_num,fT,fS ⟨HS.out,HU.out⟩,b.out⟩
   case measure=>exact ms
  ·have M:k=xs.length:=fT
   have p0:¬(k:Int)<(xs.length:Int):=fT;have g:=fS (show lw kd xs=true from Cl (by have h1:=E.out.1;rwa [M] at h1) (fun e=>by have h2:=E.out.2 e;rwa [M,li] at h2));clear M;go_wp2_with fail;go_ret;exact⟨by rw[g.out];rfl,j⟩
theorem C7 (x:oR) (v1 v2 v3:Value) (F:Nat→Prop) (w:World) (h:k7 w F v1 v2 v3 x):
  Calls Tryz.prog 33 #[.agg #[x.round,v1,v2,v3]] w fun q w' =>q= .returned (.bool (k8 x))∧Below w.heap.size w w':=by
 obtain⟨E,I,rfl,-⟩:=h.on.shape;obtain⟨G,J,rfl,-⟩:=h.tw.shape;obtain⟨H,L,rfl,-⟩:=h.ou.shape;obtain⟨W,hV,g,Z⟩:=nC w (.cells #[x.round,.slice E x.ones.length I,.slice G x.twos.length J,.slice H x.outs.length L] 36);go_enter Tryz.func33,Tryz.ntmps33;go_upto_region 1 with fail;rw[hV.out];clear hV;replace h:=h.below g;have Q:=fx Z;obtain⟨S,T,U,V⟩:=zh Z;refine kA [.rd [0,1],.mid 2,.mid 3,.rd [4,5,6],.mid 7,.rd [8,9,10,11],.mid 12,.rd [13,14,15,16],.mid 17] [18,19] ?_;refine vL ?_;intro N hN;go_wp2_with fail;refine fV (hN _ ?_);clear hN N;refine vM ?_;intro N hN;go_wp2_with fail;refine(lh _).mono ?_;rintro e C ⟨d,M⟩;subst C;subst d;apply_assumption;refine vN (gM _ _) (hN _ _ ?_);clear hN;refine vM ?_;intro N hN;go_wp2_with fail;refine(ii _ _ _ _).mono ?_;rintro e D ⟨d,M⟩;subst D;obtain⟨A,u⟩:∃t,ib x.round 0 9999=t:=⟨_,rfl⟩;rw[u] at d;have j:=fS u;clear u;subst d;apply_assumption;refine vN (gM _ _) (hN _ _ ?_);clear hN;cases A
 case false=>
  have i:=fS (show k8 x=false by simp[k8,j.out])
  repeat (first|(refine vL ?_;intro N hN;go_wp2_with fail;refine fV (hN _ ?_);clear hN N)|(refine vM ?_;intro N hN;go_wp2_with fail;refine vN (gM _ _) (hN _ _ ?_);clear hN))
  refine vF ?_;have b:=fS (gM W.heap.size W).drew;go_wp2_with fail;go_ret;exact⟨by rw[i.out];rfl,fU g b.out g.size⟩
 refine vL ?_;intro N hN;go_wp2_with fail;refine fV (hN _ ?_);clear hN N;refine vM ?_;intro N hN;go_wp2_with fail;refine(sD _ _ x.ones F _ (h.on.below (gM W.heap.size W).drew)).mono ?_;rintro e R ⟨d,s⟩;have c:=s;clear s;obtain⟨B,v⟩:∃t,lw 3 x.ones=t:=⟨_,rfl⟩;rw[v] at d;have n:=fS v;clear v;subst d;apply_assumption;refine vN c (hN _ _ ?_);clear hN;cases B
 case false=>
  have i:=fS (show k8 x=false by simp[k8,j.out,n.out])
  repeat (first|(refine vL ?_;intro N hN;go_wp2_with fail;refine fV (hN _ ?_);clear hN N)|(refine vM ?_;intro N hN;go_wp2_with fail;refine vN c (hN _ _ ?_);clear hN))
  refine vF ?_;have b:=fS ((gK ((gM W.heap.size W).drew) c));go_wp2_with fail;go_ret;exact⟨by rw[i.out];rfl,fU g b.out g.size⟩
 refine vL ?_;intro N hN;go_wp2_with fail;refine fV (hN _ ?_);clear hN N;refine vM ?_;intro N hN;go_wp2_with fail;refine(sD _ _ x.twos F _ (h.tw.below (gK ((gM W.heap.size W).drew) c))).mono ?_;rintro e O ⟨d,o⟩;have a:=fU c o (Below.size c);clear o;obtain⟨y,l⟩:∃t,lw 5 x.twos=t:=⟨_,rfl⟩;rw[l] at d;have k:=fS l;clear l;subst d;apply_assumption;refine vN a (hN _ _ ?_);clear hN;cases y
 case false=>
  have i:=fS (show k8 x=false by simp[k8,j.out,n.out,k.out])
  repeat (first|(refine vL ?_;intro N hN;go_wp2_with fail;refine fV (hN _ ?_);clear hN N)|(refine vM ?_;intro N hN;go_wp2_with fail;refine vN a (hN _ _ ?_);clear hN))
  refine vF ?_;have b:=fS ((gK ((gM W.heap.size W).drew) a));go_wp2_with fail;go_ret;exact⟨by rw[i.out];rfl,fU g b.out g.size⟩
 refine vL ?_;intro N hN;go_wp2_with fail;refine fV (hN _ ?_);clear hN N;refine vM ?_;intro N hN;go_wp2_with fail;refine(sD _ _ x.outs F _ (h.ou.below (gK ((gM W.heap.size W).drew) a))).mono ?_;rintro e P ⟨d,p⟩;have f:=fU a p (Below.size a);clear p;obtain⟨z,m⟩:∃t,lw 7 x.outs=t:=⟨_,rfl⟩;rw[m] at d;have r:=fS m;clear m;subst d;apply_assumption;refine vN f (hN _ _ ?_);clear hN;cases z
 case false=>
  have i:=fS (show k8 x=false by simp[k8,j.out,n.out,k.out,r.out])
  repeat (first|(refine vL ?_;intro N hN;go_wp2_with fail;refine fV (hN _ ?_);clear hN N)|(refine vM ?_;intro N hN;go_wp2_with fail;refine vN f (hN _ _ ?_);clear hN))
  refine vF ?_;have b:=fS ((gK ((gM W.heap.size W).drew) f));go_wp2_with fail;go_ret;exact⟨by rw[i.out];rfl,fU g b.out g.size⟩
 refine vF ?_;have i:=fS (show k8 x=true by simp[k8,j.out,n.out,k.out,r.out]);have b:=fS ((gK ((gM W.heap.size W).drew) f));go_wp2_with fail;go_ret;exact⟨by rw[i.out];rfl,fU g b.out g.size⟩
theorem BH (vs vq vo:Value) (s:kq) (F:Nat→Prop) (w:World) (hs:Rd nB w F vs s.states) (hq:Rd iw w F vq s.queue) (ho:Rd hJ w F vo s.outs):
  Calls Tryz.prog 96 #[.agg #[vs,vq,vo]] w fun e w' =>e= .returned (.bool (jN s))∧Below w.heap.size w w':=by
 obtain⟨A,n,rfl,-,O,-⟩:=id hs;have j:=gs (gM w.heap.size w) (.cells #[.slice A s.states.length n,vq,vo] 51);by_cases q1:s.states.length=4
 ·have P:((s.states.length:Int) !=4)=false:=by simp[q1]
  have G:=fS q1;have R:s.states.length≤4:=fT;clear q1;go_enter Tryz.func96,Tryz.ntmps96;go_wp2_with fail;have r:(w.alloc (.cells #[.slice A s.states.length n,vq,vo] 51)).heap[w.heap.size]? =some (.cells #[.slice A s.states.length n,vq,vo] 51):=gL rfl;generalize w.alloc (.cells #[.slice A s.states.length n,vq,vo] 51)=W at*
  go_loopw [12] (fun i wr=>∃k:Nat,i= .int .i64 k∧k≤s.states.length∧Hid ((s.states.take k).all jE=true)∧wr.heap[w.heap.size]? =some (.cells #[.slice A s.states.length n,vq,vo] 51)∧Below w.heap.size w wr) (fun i _=>s.states.length-(intOf i).toNat)
  case atStart=>exact⟨0,rfl,j8 _,rfl,r,j⟩
  case round=>
   clear r j;obtain⟨k,rfl,U,o,Z,d⟩:=hrel;by_cases hlt:k<s.states.length
   ·obtain⟨S,V,rfl,j,H,I,J⟩:=yJ (hs.below d) k hlt
    have X:(k:Int)<(s.states.length:Int):=fT;obtain⟨t,g⟩:∃t,jE s.states[k]=t:=⟨_,rfl⟩;go_wp2_with fail;refine(nf _ _ _ _).mono ?_;rintro e Q ⟨f,b⟩;have B:jE ⟨s.states[k].x,s.states[k].y,s.states[k].c⟩=t:=g;rw[B] at f;subst f;clear B;have p:=gs (gM wr.heap.size wr) (.cells #[s.states[k].x,s.states[k].y,s.states[k].c] 127);have a:=gK p b;have q:=fu a (fx Z) Z;have l:=fU d a d.size;clear p a b Z d H I J;apply_assumption;cases t
    case true=>
     have L:=fS (ir hlt o.out g);go_wp2_with fail;go_roundw
     case rel=>exact⟨k+1,by go_num,fT,L,q,l⟩
     case measure=>exact ms
    case false=>
     have m:=fS (rX hlt g);go_wp2_with fail;go_ret;exact⟨by rw[m.out];rfl,l⟩
   ·have v:k=s.states.length:=fT
    subst v;have hall':=o.out;rw[li] at hall';have E:=fS hall';have M:=mc Z;clear hall' hlt;obtain⟨C,g⟩:∃t,iQ s.queue 100=t:=⟨_,rfl⟩;obtain⟨D,z⟩:∃t,iu s.outs 96=t:=⟨_,rfl⟩;have m:=fS (show jN s=(C&&D) by simp[jN,E.out,G.out,g,z]);go_wp2_with fail;refine(mC _ s.queue 100 F _ (hq.below d)).mono ?_;rintro e Q ⟨f,b⟩;rw[g] at f;subst f;have q:=fu b (fx Z) Z;have a:=fU d b d.size;have T:=mM q;clear b Z d M g;apply_assumption;cases C
    case true=>
     go_wp2_with fail;refine(oG _ s.outs 96 F _ (ho.below a)).mono ?_;rintro e Y ⟨f,l⟩;rw[z] at f;subst f;have u:=fU a l a.size;apply_assumption;go_wp2_with fail;go_ret;exact⟨by rw[m.out];cases D<;>rfl,u⟩
    case false=>
     go_wp2_with fail;go_ret;exact⟨by rw[m.out];rfl,a⟩
 ·have m:=fS (rW q1)
  have P:((s.states.length:Int) !=4)=true:=by simp;omega
  clear q1;go_enter Tryz.func96,Tryz.ntmps96;go_wp2_with fail;go_ret;exact⟨by rw[m.out];rfl,j⟩
theorem Eu {w:World} {g:Nat} {y:hY} {t:TypeId} {fr:Nat×Nat} (h:w.heap[g]? =some (.cells #[y.time,y.to,y.from_,y.count,y.n,y.kind,y.arg] t fr)):w.cell? ⟨g,0,none⟩=some (.int .i64 y.time)∧w.cell? ⟨g,1,none⟩=some (.int .i64 y.to)∧w.cell? ⟨g,2,none⟩=some (.int .i64 y.from_)∧w.cell? ⟨g,3,none⟩=some (.int .i64 y.count)∧w.cell? ⟨g,4,none⟩=some (.int .i64 y.n)∧w.cell? ⟨g,5,none⟩=some (.int .i64 y.kind)∧w.cell? ⟨g,6,none⟩=some (.int .i64 y.arg):=EV h
theorem zA (gp gr:Nat) (P:hY→Bool) (v:Value) (xs:List hY) (F:Nat→Prop) (w:World) (h:Rd iw w F v xs) (hl:xs.length≤1000)
  (hp:∀(y:hY) (wr:World),Below w.heap.size w wr→Calls Tryz.prog 181 #[.agg #[y.time,y.to,y.from_,y.count,y.n,y.kind,y.arg],.pointer (some ⟨gp,0,none⟩),.pointer (some ⟨gr,0,none⟩)] wr fun q w' =>q= .returned (.bool (P y))∧Below wr.heap.size wr w'):
  Calls Tryz.prog 180 #[v,.func (.func 181) #[] #[.pointer (some ⟨gp,0,none⟩),.pointer (some ⟨gr,0,none⟩)]] w fun q w' =>∃u,q= .returned u∧Ow iw 91 w' (fun k=>w.heap.size≤k) u (xs.filter P)∧Below w.heap.size w w':=by
 obtain⟨A,c,rfl,-⟩:=h.shape;go_enter Tryz.func180,Tryz.ntmps180;go_wp2_with fail
 go_loopw [5,10] (fun u i wr=>∃k:Nat,i= .int .i64 k∧k≤xs.length∧Ow iw 91 wr (fun q=>w.heap.size≤q) u ((xs.take k).filter P)∧Below w.heap.size w wr) (fun _ i _=>xs.length-(intOf i).toNat)
 case atStart=>exact⟨0,rfl,j8 _,Ow.nil _ _ _ _,gM _ _⟩
 case round=>
  obtain⟨k,rfl,e,j,m⟩:=hrel;obtain⟨B,b⟩:∃B,(xs.take k).filter P=B:=⟨_,rfl⟩;have J:=fS (show B.length≤xs.length by have:=wA P xs k;rw[←b];exact this);rw[b] at j;have f:=fS b;clear b;obtain⟨V,vc,rfl,-⟩:=j.shape;by_cases hlt:k<xs.length
  ·have p0:(k:Int)<(xs.length:Int):=fT
   obtain⟨b0,o0,M,an,y0,y1,y2,y3,y4,y5,y6⟩:=jC (h.below m) k hlt;subst M;have D:=fS (wB (p:=P) hlt);have C:=fS (wC (p:=P) hlt);obtain⟨y,T⟩:∃y,xs[k]=y:=⟨_,rfl⟩;rw[T] at D C y0 y1 y2 y3 y4 y5 y6;clear T;go_upto_region 5 with fail;obtain⟨W5,hV,s,z⟩:=nC wr (.cells #[y.time,y.to,y.from_,y.count,y.n,y.kind,y.arg] 91);have Q:=j.bound.below s;have o:=fU m s m.size;obtain⟨g,H⟩:∃g,g=wr.heap.size:=⟨_,rfl⟩;rw[←H] at z;simp only[←H];rw[hV.out];clear hV;clear H y0 y1 y2 y3 y4 y5 y6 s j m;obtain⟨U,W,X,Y,Z,l5,l6⟩:=Eu z;go_wp2_with fail;refine(hp y W5 o).mono ?_;rintro q w6 ⟨rfl,r⟩;have L:=fu r (fx z) z;have l:=Q.below r;have a:=fU o r o.size;clear U W X Y Z l5 l6;obtain⟨U,W,X,Y,Z,l5,l6⟩:=Eu L;obtain⟨t,I⟩:∃t,P y=t:=⟨_,rfl⟩;rw[I];cases t
   case false=>
    have G:=fS (C.out I);apply_assumption;go_wp2_with fail;go_roundw
    case rel=>exact⟨k+1,by go_num,fT,by rw[G.out,f.out];exact l.mono (fun q hq=>hq.1),a⟩
    case measure=>exact ms
   have G:=fS (D.out I);apply_assumption;go_wp2_with (at_builtin;(refine ky (d:=iw) rfl 49 rfl Tryz.underlying49 _ 56 jA rfl dc dc rfl (l.alloc _) y _ rfl (gL rfl) (fun _=>False) rfl (fun _ x=>x.elim) (fun _ x=>x.elim) (by have:=J.out;omega) (fun k=>w.heap.size≤k) (fun _ e=>e.1) (fun _ x=>x.elim) (fun k e=>by simp only[lb] at e;have:=a.size;omega) ?_);intro v9 w9 R O al);have S:=mq (gs a _) O (fun k e=>(l.inF e).1) (by simp only[lb];have:=a.size;omega);go_roundw
   case rel=>exact⟨k+1,by go_num,fT,by rw[G.out,f.out];exact R,S⟩
   case measure=>exact ms
  ·have E:k=xs.length:=fT
   have HZ:=fS (show xs.filter P=B by rw[←f.out,E,li]);have p0:¬(k:Int)<(xs.length:Int):=fT;clear E;go_wp2_with fail;go_ret;exact⟨_,rfl,by rw[HZ.out];exact j,m⟩
theorem BP (y:hY) (p:Int) (gp gr gb:Nat) (n:gT) (lo hi:Nat) (vb vk vo vd:Value) (gm:Nat) (vn:Value) (vs:List (lz 3)) (rs:List (lz 1)) (w:World) (h:mP w lo hi gb vb vk vo vd gm vn vs rs n) (h1:w.cell? ⟨gp,0,none⟩=some (.int .i64 p)) (h2:w.cell? ⟨gr,0,none⟩=some (.pointer (some ⟨gb,0,none⟩))) (hlp:gp<w.heap.size) (hlr:gr<w.heap.size):
  Calls Tryz.prog 181 #[.agg #[y.time,y.to,y.from_,y.count,y.n,y.kind,y.arg],.pointer (some ⟨gp,0,none⟩),.pointer (some ⟨gr,0,none⟩)] w fun q w' =>q= .returned (.bool (lc n p y))∧Below w.heap.size w w':=by
 obtain⟨W,hV,a,d⟩:=nC w (.cells #[y.time,y.to,y.from_,y.count,y.n,y.kind,y.arg] 91);go_enter Tryz.func181,Tryz.ntmps181;go_upto_region 1 with fail;replace h:=h.keep a;replace h1:=(a.cell (p:=⟨gp,0,none⟩) hlp).trans h1;replace h2:=(a.cell (p:=⟨gr,0,none⟩) hlr).trans h2;rw[hV.out];clear hV;obtain⟨B,C,D,E,F,G,H⟩:=Eu d;have c:W.heap[gb]? =some (.cells #[n.id,n.inc,n.g,n.led,vb,vk,vo,n.up,vd,n.version,.map (some gm),vn,n.round,n.low] 247):=(show _∧_ from mP.sets h |>.get 0 rfl).2;obtain⟨i,j,k,l,m,o,r,s,t,u,v,x,z,A⟩:=xf c;by_cases q1:y.to=p
 ·have e:(y.to==p)=true:=by simpa using q1
  by_cases q2:n.g≤y.time
  ·have f:decide (n.g≤y.time)=true:=iW q2
   have b:=fS (show lc n p y=true by simp[lc,q1,q2]);clear q1 q2;refine kA [.rd [0,1,2,3,4,5,6,7,8,9,10,11,12,13]] [14] ?_;refine vL ?_;intro N hN;go_wp2_with fail;refine fV (hN _ ?_);clear hN N;refine vF ?_;go_wp2_with fail;go_ret;exact⟨by rw[b.out];rfl,a.drew⟩
  ·have f:decide (n.g≤y.time)=false:=ia q2
   have b:=fS (show lc n p y=false by simp[lc,q1,q2]);clear q1 q2;refine kA [.rd [0,1,2,3,4,5,6,7,8,9,10,11,12,13]] [14] ?_;refine vL ?_;intro N hN;go_wp2_with fail;refine fV (hN _ ?_);clear hN N;refine vF ?_;go_wp2_with fail;go_ret;exact⟨by rw[b.out];rfl,a.drew⟩
 ·have e:(y.to==p)=false:=by simpa using q1
  have b:=fS (show lc n p y=false by simp[lc,q1]);clear q1;refine kA [.rd [0,1,2,3,4,5,6,7,8,9,10,11,12,13]] [14] ?_;refine vL ?_;intro N hN;go_wp2_with fail;refine fV (hN _ ?_);clear hN N;refine vF ?_;go_wp2_with fail;go_ret;exact⟨by rw[b.out];rfl,a.drew⟩
theorem th {s:kq} {e:hY} {rest:List hY} (h:jN s=true) (hq:s.queue=e::rest):i7 e=true∧s.states.length=4∧∀x∈s.states,jE x=true:=by
 simp only[jN,iQ,Bool.and_eq_true,decide_eq_true_eq] at h;refine⟨List.all_eq_true.1 h.2.2.1.2.1 e (by rw[hq];simp),h.1,List.all_eq_true.1 h.2.1⟩
theorem yV (va vs vq vo:Value) (apps:List iy) (s:kq) (F:Nat→Prop) (w:World) (hA:Rd me w F va apps) (h:my w F vs vq vo s):
  Calls Tryz.prog 38 #[va,.agg #[vs,vq,vo]] w (pH apps s w):=by
 cases qa:io apps with
 |false=>exact xX va vs vq vo apps s F w hA h qa
 |true=>
  cases qs:jN s with
  |false=>exact xY va vs vq vo apps s F w hA h qa qs
  |true=>
   match qn:s.queue with
   | []=>exact xW va vs vq vo apps s F w hA h qa qs qn
   |e::rest=>
    obtain⟨g,k,l⟩:=th qs qn;have he':=g;simp only[i7,ib,Bool.and_eq_true,decide_eq_true_eq] at he';obtain⟨j,o⟩:=Int.eq_ofNat_of_zero_le (show 0≤e.to by omega);have ha:=qa;simp only[io,Bool.and_eq_true,decide_eq_true_eq] at ha;have i:j≤3:=fT;have b:j<apps.length:=fT;have c:j<s.states.length:=fT;have n:=oU (a:=apps[j]) (s:=s.states[j]) (e:=e) (List.all_eq_true.1 ha.2 _ (List.getElem_mem b)) (l _ (List.getElem_mem c)) g;have d:(iA apps[j] s.states[j] e).2.1.length≤2∧(iA apps[j] s.states[j] e).2.2.length≤2:=by
     rcases n.way with ⟨_,f⟩|⟨_,_,f,m⟩
     ·rw[f];simp
     ·exact⟨f,m⟩
    exact xd va vs vq vo apps s e rest j F w hA h qa qs qn o i ha.1 k apps[j] s.states[j] (pE b) (pE c) _ _ _ rfl d.1 d.2
end Go.Proofs.YtlndjfflhegkdaaGreatDoor
