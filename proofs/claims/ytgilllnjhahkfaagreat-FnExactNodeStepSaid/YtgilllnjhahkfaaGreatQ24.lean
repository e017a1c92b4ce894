/- Parts of the proof: Ez6. -/
import Derived.Test.YtgilllnjhahkfaaGreatQ12
import Derived.Test.YtgilllnjhahkfaaGreatQ16
set_option linter.unusedVariables false
set_option linter.unusedSimpArgs false
set_option linter.unusedSectionVars false
set_option maxHeartbeats 4000000
set_option maxRecDepth 100000
namespace Go.Proofs.YtgilllnjhahkfaaGreat
open Go.RowKit
theorem qA (p:iq) (vs vo:Value) (pr:Int) (F:Nat→Prop) (w:World) (g1:Rd iC w F vs p.sends) (g2:Rd ii w F vo p.outs):
  Calls Tryz.prog 142 #[.agg #[p.ev.time,p.ev.to,p.ev.from_,p.ev.count,p.ev.n,p.ev.kind,p.ev.arg,p.st.x,p.st.y,p.st.c,vs,vo],pr] w fun q w' =>q= .returned (.bool (i3 p pr))∧Below w.heap.size w w':=by
 obtain⟨E,H,rfl,-⟩:=g1.shape;obtain⟨G,U,rfl,-⟩:=g2.shape;obtain⟨W,hV,b,Z⟩:=n8 w (.cells #[p.ev.time,p.ev.to,p.ev.from_,p.ev.count,p.ev.n,p.ev.kind,p.ev.arg,p.st.x,p.st.y,p.st.c,.slice E p.sends.length H,.slice G p.outs.length U] 141);go_enter Tryz.func142,Tryz.ntmps142;go_wp2_with fail;rw[hV.out];clear hV;replace g1:=g1.below b;replace g2:=g2.below b;refine(lw _ _ _ _ _ _ _ _).mono ?_;rintro q w1 ⟨rfl,a⟩;replace b:=gQ b a b.size;replace Z:=gJ a (gL Z) Z;replace g1:=g1.below a;replace g2:=g2.below a;clear a;obtain⟨l,d⟩:∃t,jM ⟨p.ev.time,p.ev.to,p.ev.from_,p.ev.count,p.ev.n,p.ev.kind,p.ev.arg⟩=t:=⟨_,rfl⟩;have f:=gP (show jM p.ev=l from d);rw[d];clear d;obtain⟨I,J,L,M,O,P,Q,R,S,T,s,u⟩:=oV Z;apply_assumption;cases l
 case false=>
  have e:=gP (show i3 p pr=false by simp[i3,f.out]);go_wp2_with fail;go_ret;exact⟨by rw[e.out];rfl,b⟩
 by_cases hto:p.ev.to=pr
 case neg=>
  have e:=gP (show i3 p pr=false by simp[i3,hto]);have e0:(p.ev.to==pr)=false:=by simpa using hto
  have e1:decide (p.ev.to=pr)=false:=by simpa using hto
  clear hto;go_wp2_with fail;go_ret;exact⟨by rw[e.out];rfl,b⟩
 have k:=gP hto;have e0:(p.ev.to==pr)=true:=by simpa using hto
 have e1:decide (p.ev.to=pr)=true:=by simpa using hto
 clear hto;go_wp2_with fail;refine(ly _ _ _ _).mono ?_;rintro q w2 ⟨rfl,a⟩;replace b:=gQ b a b.size;replace Z:=gJ a (gL Z) Z;replace g1:=g1.below a;replace g2:=g2.below a;clear a;obtain⟨m,d⟩:∃t,kR ⟨p.st.x,p.st.y,p.st.c⟩=t:=⟨_,rfl⟩;have g:=gP (show kR p.st=m from d);rw[d];clear d;obtain⟨V,X,Y,aa,ab,ac,ad,ae,af,ag,v,z⟩:=oV Z;apply_assumption;cases m
 case false=>
  have e:=gP (show i3 p pr=false by simp[i3,g.out]);go_wp2_with fail;go_ret;exact⟨by rw[e.out];rfl,b⟩
 go_wp2_with fail;refine(oY _ p.sends _ F _ g1).mono ?_;rintro q w3 ⟨rfl,a⟩;replace b:=gQ b a b.size;replace Z:=gJ a (gL Z) Z;replace g1:=g1.below a;replace g2:=g2.below a;clear a;obtain⟨o,d⟩:∃t,jK p.sends 2=t:=⟨_,rfl⟩;have i:=gP (show jK p.sends 2=o from d);rw[d];clear d;obtain⟨ah,ai,aj,ak,al,am,an,ao,ap,aq,A,B⟩:=oV Z;apply_assumption;cases o
 case false=>
  have e:=gP (show i3 p pr=false by simp[i3,i.out]);go_wp2_with fail;go_ret;exact⟨by rw[e.out];rfl,b⟩
 go_wp2_with fail;refine(yq _ p.outs _ F _ g2).mono ?_;rintro q w4 ⟨rfl,a⟩;replace b:=gQ b a b.size;replace Z:=gJ a (gL Z) Z;replace g1:=g1.below a;replace g2:=g2.below a;clear a;obtain⟨r,d⟩:∃t,jA p.outs 2=t:=⟨_,rfl⟩;have j:=gP (show jA p.outs 2=r from d);rw[d];clear d;obtain⟨ar,au,av,aw,ax,ay,az,aA,aB,aC,C,D⟩:=oV Z;apply_assumption;cases r
 case false=>
  have e:=gP (show i3 p pr=false by simp[i3,j.out]);go_wp2_with fail;go_ret;exact⟨by rw[e.out];rfl,b⟩
 have e:=gP (show i3 p pr=true by simp[i3,f.out,g.out,i.out,j.out,k.out]);go_wp2_with fail;go_ret;exact⟨by rw[e.out];rfl,b⟩
theorem tb (p:iq) (vs vo:Value) (pr:Int) (F:Nat→Prop) (w:World) (g1:Rd iC w F vs p.sends) (g2:Rd ii w F vo p.outs):
  Calls Tryz.prog 185 #[.agg #[p.ev.time,p.ev.to,p.ev.from_,p.ev.count,p.ev.n,p.ev.kind,p.ev.arg,p.st.x,p.st.y,p.st.c,vs,vo],pr] w fun q w' =>q= .returned (.bool (i3 p pr))∧Below w.heap.size w w':=by
 obtain⟨E,H,rfl,-⟩:=g1.shape;obtain⟨G,U,rfl,-⟩:=g2.shape;obtain⟨W,hV,b,Z⟩:=n8 w (.cells #[p.ev.time,p.ev.to,p.ev.from_,p.ev.count,p.ev.n,p.ev.kind,p.ev.arg,p.st.x,p.st.y,p.st.c,.slice E p.sends.length H,.slice G p.outs.length U] 141);go_enter Tryz.func185,Tryz.ntmps185;go_wp2_with fail;rw[hV.out];clear hV;replace g1:=g1.below b;replace g2:=g2.below b;refine(oM _ _ _ _ _ _ _ _).mono ?_;rintro q w1 ⟨rfl,a⟩;replace b:=gQ b a b.size;replace Z:=gJ a (gL Z) Z;replace g1:=g1.below a;replace g2:=g2.below a;clear a;obtain⟨l,d⟩:∃t,jM ⟨p.ev.time,p.ev.to,p.ev.from_,p.ev.count,p.ev.n,p.ev.kind,p.ev.arg⟩=t:=⟨_,rfl⟩;have f:=gP (show jM p.ev=l from d);rw[d];clear d;obtain⟨I,J,L,M,O,P,Q,R,S,T,s,u⟩:=oV Z;apply_assumption;cases l
 case false=>
  have e:=gP (show i3 p pr=false by simp[i3,f.out]);go_wp2_with fail;go_ret;exact⟨by rw[e.out];rfl,b⟩
 by_cases hto:p.ev.to=pr
 case neg=>
  have e:=gP (show i3 p pr=false by simp[i3,hto]);have e0:(p.ev.to==pr)=false:=by simpa using hto
  have e1:decide (p.ev.to=pr)=false:=by simpa using hto
  clear hto;go_wp2_with fail;go_ret;exact⟨by rw[e.out];rfl,b⟩
 have k:=gP hto;have e0:(p.ev.to==pr)=true:=by simpa using hto
 have e1:decide (p.ev.to=pr)=true:=by simpa using hto
 clear hto;go_wp2_with fail;refine(oO _ _ _ _).mono ?_;rintro q w2 ⟨rfl,a⟩;replace b:=gQ b a b.size;replace Z:=gJ a (gL Z) Z;replace g1:=g1.below a;replace g2:=g2.below a;clear a;obtain⟨m,d⟩:∃t,kR ⟨p.st.x,p.st.y,p.st.c⟩=t:=⟨_,rfl⟩;have g:=gP (show kR p.st=m from d);rw[d];clear d;obtain⟨V,X,Y,aa,ab,ac,ad,ae,af,ag,v,z⟩:=oV Z;apply_assumption;cases m
 case false=>
  have e:=gP (show i3 p pr=false by simp[i3,g.out]);go_wp2_with fail;go_ret;exact⟨by rw[e.out];rfl,b⟩
 go_wp2_with fail;refine(oh _ p.sends _ F _ g1).mono ?_;rintro q w3 ⟨rfl,a⟩;replace b:=gQ b a b.size;replace Z:=gJ a (gL Z) Z;replace g1:=g1.below a;replace g2:=g2.below a;clear a;obtain⟨o,d⟩:∃t,jK p.sends 2=t:=⟨_,rfl⟩;have i:=gP (show jK p.sends 2=o from d);rw[d];clear d;obtain⟨ah,ai,aj,ak,al,am,an,ao,ap,aq,A,B⟩:=oV Z;apply_assumption;cases o
 case false=>
  have e:=gP (show i3 p pr=false by simp[i3,i.out]);go_wp2_with fail;go_ret;exact⟨by rw[e.out];rfl,b⟩
 go_wp2_with fail;refine(wy _ p.outs _ F _ g2).mono ?_;rintro q w4 ⟨rfl,a⟩;replace b:=gQ b a b.size;replace Z:=gJ a (gL Z) Z;replace g1:=g1.below a;replace g2:=g2.below a;clear a;obtain⟨r,d⟩:∃t,jA p.outs 2=t:=⟨_,rfl⟩;have j:=gP (show jA p.outs 2=r from d);rw[d];clear d;obtain⟨ar,au,av,aw,ax,ay,az,aA,aB,aC,C,D⟩:=oV Z;apply_assumption;cases r
 case false=>
  have e:=gP (show i3 p pr=false by simp[i3,j.out]);go_wp2_with fail;go_ret;exact⟨by rw[e.out];rfl,b⟩
 have e:=gP (show i3 p pr=true by simp[i3,f.out,g.out,i.out,j.out,k.out]);go_wp2_with fail;go_ret;exact⟨by rw[e.out];rfl,b⟩
theorem xh {l:hZ} (h:i2 l.proc 0 3=false):iW l=false:=by simp[iW,h]
theorem wO {l:hZ} (h:kR l.base=false):iW l=false:=by simp[iW,h]
theorem wD {l:hZ} (h:¬l.done.length≤100):iW l=false:=by simp[iW,h]
theorem xf {l:hZ} {k:Nat} (hk:k<l.done.length) (h:i3 l.done[k] l.proc=false):iW l=false:=by
 have:l.done.all (fun p=>i3 p l.proc)=false:=jw (p:=fun p=>i3 p l.proc) hk h;simp[iW,this]
theorem xn {l:hZ} {k:Nat} (h:lG lV (l.done.take k)=false):iW l=false:=by simp[iW,oR _ h]
theorem zm {l:hZ} (h1:i2 l.proc 0 3=true) (h2:kR l.base=true) (h3:l.done.length≤100) (h4:l.done.all (fun p=>i3 p l.proc)=true) (h5:lG lV l.done=true):iW l=true:=by simp[iW,h1,h2,h3,h4,h5]
theorem oQ (l:hZ) (v:Value) (F:Nat→Prop) (w:World) (h:Rd jm w F v l.done):
  Calls Tryz.prog 76 #[.agg #[l.proc,l.base.x,l.base.y,l.base.c,v]] w fun q w' =>q= .returned (.bool (iW l))∧Below w.heap.size w w':=by
 obtain⟨A,c,rfl,-,ar,-⟩:=id h;obtain⟨W,hV,n,Z⟩:=n8 w (.cells #[l.proc,l.base.x,l.base.y,l.base.c,.slice A l.done.length c] 65);go_enter Tryz.func76,Tryz.ntmps76;go_upto_region 1 with fail;rw[hV.out];clear hV;replace h:=h.below n;have aj:=gL Z;obtain⟨c0,V,X,Y,c4⟩:=ra Z;by_cases s:i2 l.proc 0 3=true
 case neg=>
  replace s:i2 l.proc 0 3=false:=by simpa using s
  have g:=gP (xh s);refine kg [.rd [0,1],.mid 2,.rd [3,4,5,6],.mid 7,.rd [8,9,10,11,12,13],.mid 14] [15,16] ?_;refine vL ?_;intro N hN;go_wp2_with fail;refine gR (hN _ ?_);clear hN N;refine vM ?_;intro N hN;go_wp2_with fail;refine(kT _ _).mono ?_;rintro e B ⟨a,G⟩;subst B;rw[s] at a;subst a;apply_assumption;refine vN (gY _ _) (hN _ _ ?_);clear hN;refine vL ?_;intro N hN;go_wp2_with fail;refine gR (hN _ ?_);clear hN N;refine vM ?_;intro N hN;go_wp2_with fail;refine vN (gY _ _) (hN _ _ ?_);clear hN;refine vL ?_;intro N hN;go_wp2_with fail;refine gR (hN _ ?_);clear hN N;refine vM ?_;intro N hN;go_wp2_with fail;refine vN (gY _ _) (hN _ _ ?_);clear hN;refine vF ?_;have f:Below W.heap.size W W.drew:=(gY W.heap.size W).drew;go_wp2_with fail;go_ret;exact⟨by rw[g.out];rfl,gQ n f n.size⟩
 by_cases u:kR l.base=true
 case neg=>
  replace u:kR l.base=false:=by simpa using u
  have g:=gP (wO u);refine kg [.rd [0,1],.mid 2,.rd [3,4,5,6],.mid 7,.rd [8,9,10,11,12,13],.mid 14] [15,16] ?_;refine vL ?_;intro N hN;go_wp2_with fail;refine gR (hN _ ?_);clear hN N;refine vM ?_;intro N hN;go_wp2_with fail;refine(kT _ _).mono ?_;rintro e B ⟨a,G⟩;subst B;rw[s] at a;subst a;apply_assumption;refine vN (gY _ _) (hN _ _ ?_);clear hN;refine vL ?_;intro N hN;go_wp2_with fail;refine gR (hN _ ?_);clear hN N;refine vM ?_;intro N hN;go_wp2_with fail;refine(ly _ _ _ _).mono ?_;rintro e C ⟨a,b⟩;rw[show kR ⟨l.base.x,l.base.y,l.base.c⟩=_ from u] at a;subst a;apply_assumption;refine vN b (hN _ _ ?_);clear hN;refine vL ?_;intro N hN;go_wp2_with fail;refine gR (hN _ ?_);clear hN N;refine vM ?_;intro N hN;go_wp2_with fail;refine vN b (hN _ _ ?_);clear hN;refine vF ?_;have f:Below W.heap.size W C:=gV (gY W.heap.size W).drew b;clear b;go_wp2_with fail;go_ret;exact⟨by rw[g.out];rfl,gQ n f n.size⟩
 by_cases q3:l.done.length≤100
 case neg=>
  have g:=gP (wD q3);have q4:decide ((l.done.length:Int)>100)=true:=jT gO;clear q3;refine kg [.rd [0,1],.mid 2,.rd [3,4,5,6],.mid 7,.rd [8,9,10,11,12,13],.mid 14] [15,16] ?_;refine vL ?_;intro N hN;go_wp2_with fail;refine gR (hN _ ?_);clear hN N;refine vM ?_;intro N hN;go_wp2_with fail;refine(kT _ _).mono ?_;rintro e B ⟨a,G⟩;subst B;rw[s] at a;subst a;apply_assumption;refine vN (gY _ _) (hN _ _ ?_);clear hN;refine vL ?_;intro N hN;go_wp2_with fail;refine gR (hN _ ?_);clear hN N;refine vM ?_;intro N hN;go_wp2_with fail;refine(ly _ _ _ _).mono ?_;rintro e C ⟨a,b⟩;rw[show kR ⟨l.base.x,l.base.y,l.base.c⟩=_ from u] at a;subst a;apply_assumption;refine vN b (hN _ _ ?_);clear hN;refine vL ?_;intro N hN;go_wp2_with fail;refine gR (hN _ ?_);clear hN N;refine vM ?_;intro N hN;go_wp2_with fail;refine(nR _).mono ?_;rintro e P ⟨rfl,G⟩;subst P;apply_assumption;refine vN b (hN _ _ ?_);clear hN;refine vF ?_;have f:Below W.heap.size W C:=gV (gY W.heap.size W).drew b;clear b;go_wp2_with fail;go_ret;exact⟨by rw[g.out];rfl,gQ n f n.size⟩
 have q4:decide ((l.done.length:Int)>100)=false:=iU gO;have Q3:=gP q3;clear q3;refine kg [.rd [0,1],.mid 2,.rd [3,4,5,6],.mid 7,.rd [8,9,10,11,12,13],.mid 14] [15,16] ?_;refine vL ?_;intro N hN;go_wp2_with fail;refine gR (hN _ ?_);clear hN N;refine vM ?_;intro N hN;go_wp2_with fail;refine(kT _ _).mono ?_;rintro e B ⟨a,G⟩;subst B;rw[s] at a;subst a;apply_assumption;refine vN (gY _ _) (hN _ _ ?_);clear hN;refine vL ?_;intro N hN;go_wp2_with fail;refine gR (hN _ ?_);clear hN N;refine vM ?_;intro N hN;go_wp2_with fail;refine(ly _ _ _ _).mono ?_;rintro e C ⟨a,b⟩;rw[show kR ⟨l.base.x,l.base.y,l.base.c⟩=_ from u] at a;subst a;apply_assumption;refine vN b (hN _ _ ?_);clear hN;refine vL ?_;intro N hN;go_wp2_with fail;refine gR (hN _ ?_);clear hN N;refine vM ?_;intro N hN;go_wp2_with fail;refine(nR _).mono ?_;rintro e P ⟨rfl,G⟩;subst P;apply_assumption;refine vN b (hN _ _ ?_);clear hN;refine vF ?_;have f:Below W.heap.size W C:=gV (gY W.heap.size W).drew b;clear b;go_wp2_with fail;replace h:=h.below f;have R:=gJ f aj Z;have L:=gL R;have Q:=gQ n f n.size;clear c0 V X Y c4
 go_loopw [3] (fun i wr=>∃k:Nat,i= .int .i64 k∧k≤l.done.length∧Hid ((l.done.take k).all (fun p=>i3 p l.proc)=true)∧Hid (lG lV (l.done.take k)=true)∧Below C.heap.size C wr) (fun i _=>l.done.length-(intOf i).toNat)
 case atStart=>exact⟨0,rfl,jP _,rfl,rfl,gY _ _⟩
 case round=>
  obtain⟨k,rfl,hk,I,E,o⟩:=hrel;have S:=gJ o L R;have hr:=h.below o;have H:=gQ Q o Q.size;have au:=gL S;obtain⟨e0,e1,e2,e3,e4⟩:=ra S;by_cases hlt:k<l.done.length
  ·obtain⟨b0,o0,A1,V,A2,X,rfl,aw,⟨y0,y1,y2,y3,y4,y5,y6⟩,⟨y7,y8,y9⟩,ay,az,M,O⟩:=k9 hr k hlt
   have p0:(k:Int)<(l.done.length:Int):=gO;go_upto_region 6 with fail;have ai:=hr;have m:=H;by_cases z:i3 l.done[k] l.proc=true
   case neg=>
    replace z:i3 l.done[k] l.proc=false:=by simpa using z
    have g:=gP (xf hlt z);refine kg [.rd [0,1,2,3,4,5,6],.mid 7,.rd [8,9,10,11,12,13,14,15,16,17,18,19,20,21,22,23,24,25]] [26,27,28,29] ?_;refine vL ?_;intro N hN;go_wp2_with fail;refine gR (hN _ ?_);clear hN N;refine vM ?_;intro N hN;go_wp2_with fail;refine(qA l.done[k] _ _ l.proc F _ (M.below (gY _ _).drew) (O.below (gY _ _).drew)).mono ?_;rintro e w5 ⟨a,d⟩;rw[z] at a;subst a;apply_assumption;refine vN d (hN _ _ ?_);clear hN;refine vL ?_;intro N hN;go_wp2_with fail;refine gR (hN _ ?_);clear hN N;refine vF ?_;have j:=gQ m (gV (gY wr.heap.size wr).drew d) m.size;have r:=gQ o (gV (gY wr.heap.size wr).drew d) o.size;go_wp2_with fail;go_ret;exact⟨by rw[g.out];rfl,j⟩
   have T:=gP (jI (p:=fun p=>i3 p l.proc) hlt I.out z);by_cases q6:k=0
   ·have U:=gP (show lG lV (l.done.take (k+1))=true by rw[kp _ hlt,E.out,if_pos q6];rfl)
    have ae:decide ((k:Int)>0)=false:=by simp;omega
    have ag:decide (0<k)=false:=by simp;omega
    clear q6;refine kg [.rd [0,1,2,3,4,5,6],.mid 7,.rd [8,9,10,11,12,13,14,15,16,17,18,19,20,21,22,23,24,25]] [26,27,28,29] ?_;refine vL ?_;intro N hN;go_wp2_with fail;refine gR (hN _ ?_);clear hN N;refine vM ?_;intro N hN;go_wp2_with fail;refine(qA l.done[k] _ _ l.proc F _ (M.below (gY _ _).drew) (O.below (gY _ _).drew)).mono ?_;rintro e w5 ⟨a,d⟩;rw[z] at a;subst a;apply_assumption;refine vN d (hN _ _ ?_);clear hN;refine vL ?_;intro N hN;go_wp2_with fail;refine gR (hN _ ?_);clear hN N;refine vF ?_;have j:=gQ m (gV (gY wr.heap.size wr).drew d) m.size;have r:=gQ o (gV (gY wr.heap.size wr).drew d) o.size;go_wp2_with fail;go_roundw
    case rel=>exact⟨k+1,by go_num,gO,T,U,r⟩
    case measure=>exact ms
   ·have ae:decide ((k:Int)>0)=true:=by simp;omega
    have ag:decide (0<k)=true:=by simp;omega
    have p1:(0:Int)≤(k:Int)-1:=gO;have p2:(k:Int)-1<(l.done.length:Int):=gO;have p3:(1:Int)≤(k:Int):=gO;have p4:1≤k:=gO;have ax:((k:Int)-1).toNat=k-1:=gO;obtain⟨b2,o2,A3,Y,A4,c4,D,aq,⟨x0,x1,x2,x3,x4,x5,x6⟩,-,-,-,-,-⟩:=k9 ai (k-1) gO;injection D with D;injection D with u1 u2 _;subst u1 u2;obtain⟨t2,q7⟩:∃t,hY l.done[k-1].ev l.done[k].ev=t:=⟨_,rfl⟩;have hT:=gP (show lG lV (l.done.take (k+1))=t2 by rw[kp _ hlt,E.out,if_neg gO];simpa [lV] using q7);clear q6;refine kg [.rd [0,1,2,3,4,5,6],.mid 7,.rd [8,9,10,11,12,13,14,15,16,17,18,19,20,21,22,23,24,25]] [26,27,28,29] ?_;refine vL ?_;intro N hN;go_wp2_with fail;refine gR (hN _ ?_);clear hN N;refine vM ?_;intro N hN;go_wp2_with fail;refine(qA l.done[k] _ _ l.proc F _ (M.below (gY _ _).drew) (O.below (gY _ _).drew)).mono ?_;rintro e w5 ⟨a,d⟩;rw[z] at a;subst a;apply_assumption;refine vN d (hN _ _ ?_);clear hN;refine vL ?_;intro N hN;go_wp2_with fail;refine gR (hN _ ?_);clear hN N;refine vF ?_;have j:=gQ m (gV (gY wr.heap.size wr).drew d) m.size;have r:=gQ o (gV (gY wr.heap.size wr).drew d) o.size;go_wp2_with fail;refine(oy l.done[k-1].ev l.done[k].ev _).mono ?_;rintro e w6 ⟨a,J⟩;rw[q7] at a;subst a;apply_assumption;have ac:=gQ r J r.size;have ad:=gQ j J j.size;cases t2
    case true=>
     go_wp2_with fail;go_roundw
     case rel=>exact⟨k+1,by go_num,gO,T,hT,ac⟩
     case measure=>exact ms
    case false=>
     have g:=gP (xn hT.out);go_wp2_with fail;go_ret;exact⟨by rw[g.out];rfl,ad⟩
  ·have af:k=l.done.length:=gO
   subst af;have g:=gP (zm s u Q3.out (by have:=I.out;rwa [ld] at this) (by have:=E.out;rwa [ld] at this));go_wp2_with fail;go_ret;exact⟨by rw[g.out];rfl,H⟩
theorem BD (l:hZ) (v:Value) (F:Nat→Prop) (w:World) (h:Rd jm w F v l.done):
  Calls Tryz.prog 152 #[.agg #[l.proc,l.base.x,l.base.y,l.base.c,v]] w fun q w' =>q= .returned (.bool (iW l))∧Below w.heap.size w w':=by
 obtain⟨A,c,rfl,-,aY,-⟩:=id h;obtain⟨W,hV,u,Z⟩:=n8 w (.cells #[l.proc,l.base.x,l.base.y,l.base.c,.slice A l.done.length c] 65);go_enter Tryz.func152,Tryz.ntmps152;go_upto_region 1 with fail;rw[hV.out];clear hV;replace h:=h.below u;have O:=gL Z;obtain⟨c0,c1,c2,c3,c4⟩:=ra Z;by_cases B:i2 l.proc 0 3=true
 case neg=>
  replace B:i2 l.proc 0 3=false:=by simpa using B
  have m:=gP (xh B);go_wp2_with fail;refine(mE _ _).mono ?_;rintro e G ⟨a,hw⟩;subst G;rw[B] at a;subst a;apply_assumption;go_wp2_with fail;have b:Below W.heap.size W W:=gY _ _;go_ret;exact⟨by rw[m.out];rfl,gQ u b u.size⟩
 by_cases D:kR l.base=true
 case neg=>
  replace D:kR l.base=false:=by simpa using D
  have m:=gP (wO D);go_wp2_with fail;refine(mE _ _).mono ?_;rintro e G ⟨a,hw⟩;subst G;rw[B] at a;subst a;apply_assumption;go_wp2_with fail;refine(oO _ _ _ _).mono ?_;rintro e R ⟨a,b⟩;rw[show kR ⟨l.base.x,l.base.y,l.base.c⟩=_ from D] at a;subst a;have C:=gJ b O Z;obtain⟨d0,d1,d2,d3,d4⟩:=ra C;apply_assumption;go_wp2_with fail;go_ret;exact⟨by rw[m.out];rfl,gQ u b u.size⟩
 by_cases q3:l.done.length≤100
 case neg=>
  have m:=gP (wD q3);have q4:decide ((l.done.length:Int)>100)=true:=jT gO;clear q3;go_wp2_with fail;refine(mE _ _).mono ?_;rintro e G ⟨a,hw⟩;subst G;rw[B] at a;subst a;apply_assumption;go_wp2_with fail;refine(oO _ _ _ _).mono ?_;rintro e R ⟨a,b⟩;rw[show kR ⟨l.base.x,l.base.y,l.base.c⟩=_ from D] at a;subst a;have C:=gJ b O Z;obtain⟨d0,d1,d2,d3,d4⟩:=ra C;apply_assumption;go_wp2_with fail;go_ret;exact⟨by rw[m.out];rfl,gQ u b u.size⟩
 have q4:decide ((l.done.length:Int)>100)=false:=iU gO;have Q3:=gP q3;clear q3;go_wp2_with fail;refine(mE _ _).mono ?_;rintro e G ⟨a,hw⟩;subst G;rw[B] at a;subst a;apply_assumption;go_wp2_with fail;refine(oO _ _ _ _).mono ?_;rintro e R ⟨a,b⟩;rw[show kR ⟨l.base.x,l.base.y,l.base.c⟩=_ from D] at a;subst a;have C:=gJ b O Z;obtain⟨d0,d1,d2,d3,d4⟩:=ra C;apply_assumption;go_wp2_with fail;replace h:=h.below b;have ac:=gL C;have HB:=gQ u b u.size;clear c0 c1 c2 c3 c4
 go_loopw [24] (fun i wr=>∃k:Nat,i= .int .i64 k∧k≤l.done.length∧Hid ((l.done.take k).all (fun p=>i3 p l.proc)=true)∧Hid (lG lV (l.done.take k)=true)∧Below R.heap.size R wr) (fun i _=>l.done.length-(intOf i).toNat)
 case atStart=>exact⟨0,rfl,jP _,rfl,rfl,gY _ _⟩
 case round=>
  obtain⟨k,rfl,hk,S,J,L⟩:=hrel;have X:=gJ L ac C;have hr:=h.below L;have H:=gQ HB L HB.size;have ad:=gL X;obtain⟨e0,e1,e2,e3,e4⟩:=ra X;by_cases hlt:k<l.done.length
  ·obtain⟨b0,o0,A1,c1,A2,c2,rfl,a0,⟨y0,y1,y2,y3,y4,y5,y6⟩,⟨y7,y8,y9⟩,U,V,P,Q⟩:=k9 hr k hlt
   have p0:(k:Int)<(l.done.length:Int):=gO;go_upto_region 6 with fail;obtain⟨j,hV,s,Y⟩:=n8 wr (.cells #[l.done[k].ev.time,l.done[k].ev.to,l.done[k].ev.from_,l.done[k].ev.count,l.done[k].ev.n,l.done[k].ev.kind,l.done[k].ev.arg,l.done[k].st.x,l.done[k].st.y,l.done[k].st.c,.slice A1 l.done[k].sends.length c1,.slice A2 l.done[k].outs.length c2] 141);have aE:=hr.below s;have r:=gQ H s H.size;have ZW:=gJ s ad X;have f:=gQ L s L.size;have P:=P.below s;have Q:=Q.below s;obtain⟨g,M⟩:∃g,g=wr.heap.size:=⟨_,rfl⟩;rw[←M] at Y;simp only[←M];rw[hV.out];clear hV;clear M y0 y1 y2 y3 y4 y5 y6 y7 y8 y9 U V e0 e1 e2 e3 e4;obtain⟨e0,e1,e2,e3,e4⟩:=ra ZW;obtain⟨y0,y1,y2,y3,y4,y5,y6,y7,y8,y9,U,V⟩:=oV Y;by_cases E:i3 l.done[k] l.proc=true
   case neg=>
    replace E:i3 l.done[k] l.proc=false:=by simpa using E
    have m:=gP (xf hlt E);refine kg [.rd [0,1,2],.mid 3,.rd [4,5,6,7,8,9,10,11,12,13,14,15,16,17]] [18,19,20,21] ?_;refine vL ?_;intro N hN;go_wp2_with fail;refine gR (hN _ ?_);clear hN N;refine vM ?_;intro N hN;go_wp2_with fail;refine(tb l.done[k] _ _ l.proc F _ (P.below (gY _ _).drew) (Q.below (gY _ _).drew)).mono ?_;rintro e w5 ⟨a,d⟩;rw[E] at a;subst a;apply_assumption;refine vN d (hN _ _ ?_);clear hN;refine vL ?_;intro N hN;go_wp2_with fail;refine gR (hN _ ?_);clear hN N;refine vF ?_;have o:=gQ r (gV (gY j.heap.size j).drew d) r.size;have z:=gQ f (gV (gY j.heap.size j).drew d) f.size;go_wp2_with fail;go_ret;exact⟨by rw[m.out];rfl,o⟩
   have al:=gP (jI (p:=fun p=>i3 p l.proc) hlt S.out E);by_cases q6:k=0
   ·have ah:=gP (show lG lV (l.done.take (k+1))=true by rw[kp _ hlt,J.out,if_pos q6];rfl)
    have aA:decide ((k:Int)>0)=false:=by simp;omega
    have aC:decide (0<k)=false:=by simp;omega
    clear q6;refine kg [.rd [0,1,2],.mid 3,.rd [4,5,6,7,8,9,10,11,12,13,14,15,16,17]] [18,19,20,21] ?_;refine vL ?_;intro N hN;go_wp2_with fail;refine gR (hN _ ?_);clear hN N;refine vM ?_;intro N hN;go_wp2_with fail;refine(tb l.done[k] _ _ l.proc F _ (P.below (gY _ _).drew) (Q.below (gY _ _).drew)).mono ?_;rintro e w5 ⟨a,d⟩;rw[E] at a;subst a;apply_assumption;refine vN d (hN _ _ ?_);clear hN;refine vL ?_;intro N hN;go_wp2_with fail;refine gR (hN _ ?_);clear hN N;refine vF ?_;have o:=gQ r (gV (gY j.heap.size j).drew d) r.size;have z:=gQ f (gV (gY j.heap.size j).drew d) f.size;go_wp2_with fail;go_roundw
    case rel=>exact⟨k+1,by go_num,gO,al,ah,z⟩
    case measure=>exact ms
   ·have aA:decide ((k:Int)>0)=true:=by simp;omega
    have aC:decide (0<k)=true:=by simp;omega
    have p1:(0:Int)≤(k:Int)-1:=gO;have p2:(k:Int)-1<(l.done.length:Int):=gO;have p3:(1:Int)≤(k:Int):=gO;have p4:1≤k:=gO;have a1:((k:Int)-1).toNat=k-1:=gO;obtain⟨b2,o2,A3,c3,A4,c4,I,aX,⟨x0,x1,x2,x3,x4,x5,x6⟩,-,-,-,-,-⟩:=k9 aE (k-1) gO;injection I with I;injection I with u1 u2 _;subst u1 u2;obtain⟨t2,q7⟩:∃t,hY l.done[k-1].ev l.done[k].ev=t:=⟨_,rfl⟩;have hT:=gP (show lG lV (l.done.take (k+1))=t2 by rw[kp _ hlt,J.out,if_neg gO];simpa [lV] using q7);clear q6;refine kg [.rd [0,1,2],.mid 3,.rd [4,5,6,7,8,9,10,11,12,13,14,15,16,17]] [18,19,20,21] ?_;refine vL ?_;intro N hN;go_wp2_with fail;refine gR (hN _ ?_);clear hN N;refine vM ?_;intro N hN;go_wp2_with fail;refine(tb l.done[k] _ _ l.proc F _ (P.below (gY _ _).drew) (Q.below (gY _ _).drew)).mono ?_;rintro e w5 ⟨a,d⟩;rw[E] at a;subst a;apply_assumption;refine vN d (hN _ _ ?_);clear hN;refine vL ?_;intro N hN;go_wp2_with fail;refine gR (hN _ ?_);clear hN N;refine vF ?_;have o:=gQ r (gV (gY j.heap.size j).drew d) r.size;have z:=gQ f (gV (gY j.heap.size j).drew d) f.size;go_wp2_with fail;refine(sh l.done[k-1].ev l.done[k].ev _).mono ?_;rintro e w6 ⟨a,T⟩;rw[q7] at a;subst a;apply_assumption;have ay:=gQ z T z.size;have az:=gQ o T o.size;cases t2
    case true=>
     go_wp2_with fail;go_roundw
     case rel=>exact⟨k+1,by go_num,gO,al,hT,ay⟩
     case measure=>exact ms
    case false=>
     have m:=gP (xn hT.out);go_wp2_with fail;go_ret;exact⟨by rw[m.out];rfl,az⟩
  ·have aB:k=l.done.length:=gO
   subst aB;have m:=gP (zm B D Q3.out (by have:=S.out;rwa [ld] at this) (by have:=J.out;rwa [ld] at this));go_wp2_with fail;go_ret;exact⟨by rw[m.out];rfl,H⟩
end Go.Proofs.YtgilllnjhahkfaaGreat
