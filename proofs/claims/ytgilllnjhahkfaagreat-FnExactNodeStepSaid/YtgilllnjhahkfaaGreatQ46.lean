/- Parts of the proof: Nh6, Ne3. -/
import Derived.Test.YtgilllnjhahkfaaGreatQ43
import Derived.Test.YtgilllnjhahkfaaGreatQ45
set_option linter.unusedVariables false
set_option linter.unusedSimpArgs false
set_option linter.unusedSectionVars false
set_option maxHeartbeats 4000000
set_option maxRecDepth 100000
namespace Go.Proofs.YtgilllnjhahkfaaGreat
open Go.RowKit
theorem i4.vdS {w:World} {lo hi gb:Nat} {vb vk vo vd:Value} {gm:Nat} {vn:Value} {vs:List (jE 3)} {rs:List (jE 1)} {n:gW} (h:i4 w lo hi gb vb vk vo vd gm vn vs rs n):∃A c,vd= .slice A n.lanes.length c:=by
 obtain⟨A,c,a,-⟩:=(show Ow (jN 1) 63 w _ vd rs from h.sets.get 1 rfl).shape;have:=h.done.1;rw[List.length_map] at this;rw[this] at a;exact⟨A,c,a⟩
theorem i4.vbS {w:World} {lo hi gb:Nat} {vb vk vo vd:Value} {gm:Nat} {vn:Value} {vs:List (jE 3)} {rs:List (jE 1)} {n:gW} (h:i4 w lo hi gb vb vk vo vd gm vn vs rs n):∃A c,vb= .slice A n.lanes.length c:=by
 obtain⟨A,c,a,-⟩:=(show Ow rQ 62 w _ vb (n.lanes.map (fun l=>l.base)) from h.sets.get 4 rfl).shape;rw[List.length_map] at a;exact⟨A,c,a⟩
theorem oS {w:World} {lo hi gb:Nat} {vb vk vo:Value} {Ad:Option Addr} {m cd:Nat} {gm:Nat} {vn:Value} {vs:List (jE 3)} {rs:List (jE 1)} {n:gW} (h:i4 w lo hi gb vb vk vo (.slice Ad m cd) gm vn vs rs n) (j:Nat) (hj:j<n.lanes.length):
  ∃b o A c,Ad=some ⟨b,o,none⟩∧b<w.heap.size∧w.cell? ⟨b,o+j,none⟩=some (.slice A n.lanes[j].done.length c)∧Rd jm w (lO lo hi) (.slice A n.lanes[j].done.length c) n.lanes[j].done:=by
 have q:Ow (jN 1) 63 w _ (.slice Ad m cd) rs:=h.sets.get 1 rfl;have t:=h.done.1;rw[List.length_map] at t;obtain⟨b,o,g,p,-,s,u,x⟩:=q.rd.at_ j gO;obtain⟨r,a,v,y,f⟩:=h.done.2 j n.lanes[j].done (by rw[List.getElem?_map,mc hj];rfl);rw[mc gO] at a;have i:=Option.some.inj a;have d:g=rs[j].cs:=u;rw[i] at d;have k:=d.trans y;have e:=x 0 v (by rw[k];rfl);obtain⟨A,c,rfl,-⟩:=f.shape;refine⟨b,o,A,c,p,s,?_,f⟩;have l:(jN 1).sz=1:=rfl;rw[l,Nat.mul_one,Nat.add_zero] at e;exact e
theorem Dx {w:World} {lo hi gb:Nat} {vk vo vd:Value} {Ab:Option Addr} {m cb:Nat} {gm:Nat} {vn:Value} {vs:List (jE 3)} {rs:List (jE 1)} {n:gW} (h:i4 w lo hi gb (.slice Ab m cb) vk vo vd gm vn vs rs n) (j:Nat) (hj:j<n.lanes.length):
  ∃b o,Ab=some ⟨b,o,none⟩∧b<w.heap.size∧w.cell? ⟨b,o+j*3,none⟩=some (.int .i64 n.lanes[j].base.x)∧w.cell? ⟨b,o+j*3+1,none⟩=some (.int .i64 n.lanes[j].base.y)∧w.cell? ⟨b,o+j*3+2,none⟩=some (.int .i64 n.lanes[j].base.c):=by
 have i:Ow rQ 62 w _ (.slice Ab m cb) (n.lanes.map (fun l=>l.base)):=h.sets.get 4 rfl;obtain⟨b,o,g,k,a,d,e⟩:=Gc i.rd j (by rw[List.length_map];exact hj);have f:(n.lanes.map (fun l=>l.base))[j]'(by rw[List.length_map];exact hj)=n.lanes[j].base:=List.getElem_map ..;rw[f] at a d e;exact⟨b,o,g,k,a,d,e⟩
theorem xI (n:gW) (lo hi gb:Nat) (vb vk vo:Value) (b1 o1 cd:Nat) (gm:Nat) (vn:Value) (vs:List (jE 3)) (rs:List (jE 1)) (w:World) (h:i4 w lo hi gb vb vk vo (.slice (some ⟨b1,o1,none⟩) n.lanes.length cd) gm vn vs rs n) (hp:n.lanes.map (fun l=>l.proc)=ic n.id) (i:Nat) (hil:i<n.lanes.length) (A6:Option Addr) (c6:Nat) (hb1:b1<w.heap.size) (y5:w.cell? ⟨b1,o1+i,none⟩=some (.slice A6 n.lanes[i].done.length c6)):
  Calls Tryz.prog 45 #[.pointer (some ⟨gb,0,none⟩),(i:Int)] w fun q w' =>q= .returned (.agg #[n.lanes[i].proc,n.lanes[i].base.x,n.lanes[i].base.y,n.lanes[i].base.c,.slice A6 n.lanes[i].done.length c6])∧Below w.heap.size w w':=by
 have j:i<(ic n.id).length:=by rw[←hp,List.length_map];exact hil
 have f:=gP (show(ic n.id)[i]=n.lanes[i].proc from Option.some.inj (by rw[←mc j,←hp,List.getElem?_map,mc hil];rfl));clear hp;obtain⟨Ab,cb,rfl⟩:=h.vbS;obtain⟨b2,o2,S,e,s,t,z⟩:=Dx h i hil;subst S;obtain⟨x,o⟩:∃x,n.lanes[i]=x:=⟨_,rfl⟩;rw[o] at y5 s t z f;simp only[o];clear o;obtain⟨W,hV,b,A⟩:=n8 w (.cells #[.int .i64 0,.int .i64 0,.int .i64 0,.int .i64 0,.slice none 0 0] 65);go_enter Tryz.func45,Tryz.ntmps45;go_upto_region 1 with fail;rw[hV.out];clear hV;have h1:=h.keep b;have m:=gL A;replace y5:=(b.cell (p:=⟨b1,_,none⟩) hb1).trans y5;replace s:=(b.cell (p:=⟨b2,_,none⟩) e).trans s;replace t:=(b.cell (p:=⟨b2,_,none⟩) e).trans t;replace z:=(b.cell (p:=⟨b2,_,none⟩) e).trans z;have Z:W.heap[gb]? =some (.cells #[n.id,n.inc,n.g,n.led,.slice (some ⟨b2,o2,none⟩) n.lanes.length cb,vk,vo,n.up,.slice (some ⟨b1,o1,none⟩) n.lanes.length cd,n.version,.map (some gm),vn,n.round,n.low] 93):=(show _∧_ from i4.sets h1 |>.get 0 rfl).2;obtain⟨C,D,E,F,G,H,I,J,L,M,O,P,Q,R⟩:=ph Z;have p0:(i:Int)<(n.lanes.length:Int):=gO;have p1:(0:Int)≤(i:Int):=gO;refine kg [.rd [0,1,2,3,4,6,9,10,11,12,13,14,15,16,17,18,19,20,21,22,23],.mid 5,.mid 7,.mid 8,.mid 24] [25] ?_;refine vL ?_;intro N hN;go_wp2_with fail;refine gR (hN _ ?_);clear hN N;refine vM ?_;intro N hN;go_wp2_with fail;refine(nY n.id _).mono ?_;rintro q r ⟨u,rfl,U,a⟩;have k:Below W.heap.size W r:=⟨a.os,a.tape,a.output,a.size,a.block⟩;obtain⟨V,vc,rfl,-⟩:=U.shape;apply_assumption;refine vN a (hN _ _ ?_);clear hN;obtain⟨b3,o3,T,-,ak,z0⟩:=lm U.rd i j;subst T;rw[f.out] at z0;have p2:(i:Int)<((ic n.id).length:Int):=gO;refine vM ?_;intro N hN;go_wp2_with fail;refine vN a (hN _ _ ?_);clear hN;refine vM ?_;intro N hN;go_wp2_with fail;refine vN a (hN _ _ ?_);clear hN;refine vM ?_;intro N hN;go_wp2_with fail;refine vN a (hN _ _ ?_);clear hN;refine vF ?_;have d:r.heap[w.heap.size]? =some (.cells #[.int .i64 0,.int .i64 0,.int .i64 0,.int .i64 0,.slice none 0 0] 65):=gJ k m A;have fz:=ft d;obtain⟨f0,f1,f2,f3,f4⟩:=lN d;go_wp2_with fail;obtain⟨Y,CR⟩:=E9 (b0:= .int .i64 x.proc) (b1:= .int .i64 x.base.x) (b2:= .int .i64 x.base.y) (b3:= .int .i64 x.base.c) (b4:= .slice A6 x.done.length c6) d;have X:Below w.heap.size w _:=(gQ b k b.size).trans (CR.below (B:=w.heap.size) (fun q hq=>by have h2:q=w.heap.size:=hq;omega) (jb b.size k.size));clear f0 f1 f2 f3 f4 C D E F G H I J L M O P Q R;generalize (((((r.setCell ⟨w.heap.size,0,none⟩ (.int .i64 x.proc)).setCell ⟨w.heap.size,1,none⟩ (.int .i64 x.base.x)).setCell ⟨w.heap.size,2,none⟩ (.int .i64 x.base.y)).setCell ⟨w.heap.size,3,none⟩ (.int .i64 x.base.c)).setCell ⟨w.heap.size,4,none⟩ (.slice A6 x.done.length c6))=V9 at*;obtain⟨s0,s1,s2,s3,s4⟩:=lN Y;refine bodyPost_ret (v:= .agg #[x.proc,x.base.x,x.base.y,x.base.c,.slice A6 x.done.length c6]) (by simp only[results,Tryz.results45];go_simp) rfl ⟨rfl,X⟩
theorem FB (n:gW) (lo hi gb:Nat) (vb vk vo vd:Value) (gm:Nat) (vn:Value) (vs:List (jE 3)) (rs:List (jE 1)) (w:World) (h:i4 w lo hi gb vb vk vo vd gm vn vs rs n) (hp:n.lanes.map (fun l=>l.proc)=ic n.id) (i:Nat) (hil:i<n.lanes.length):
  Calls Tryz.prog 45 #[.pointer (some ⟨gb,0,none⟩),(i:Int)] w fun q w' =>∃A c,q= .returned (.agg #[n.lanes[i].proc,n.lanes[i].base.x,n.lanes[i].base.y,n.lanes[i].base.c,.slice A n.lanes[i].done.length c])∧Rd jm w' (lO lo hi) (.slice A n.lanes[i].done.length c) n.lanes[i].done∧Below w.heap.size w w':=by
 obtain⟨p,j,rfl⟩:=h.vdS;obtain⟨g,k,b,d,e,f,o,m⟩:=oS h i hil;subst e;exact(xI n lo hi gb vb vk vo g k j gm vn vs rs w h hp i hil b d f o).mono (fun q w' a=>⟨b,d,a.1,m.below a.2,a.2⟩)
theorem EL {x y:jl} (h1:x.inc=y.inc) (h2:x.version=y.version) (h3:x.events=y.events):x=y:=by cases x;cases y;simp_all
theorem Ef {x y:gW} (h1:x.id=y.id) (h2:x.up=y.up) (h3:x.inc=y.inc) (h4:x.g=y.g) (h5:x.lanes=y.lanes) (h6:x.kept=y.kept) (h7:x.outs=y.outs) (h8:x.led=y.led) (h9:x.version=y.version) (h10:x.views=y.views) (h11:x.known=y.known) (h12:x.round=y.round) (h13:x.low=y.low):x=y:=by cases x;cases y;simp_all
theorem Dj (x y:jl) (v u:Value) (F:Nat→Prop) (w:World) (g1:Rd iC w F v x.events) (g2:Rd iC w F u y.events):
  Calls Tryz.prog 127 #[.agg #[x.inc,x.version,v],.agg #[y.inc,y.version,u]] w fun q w' =>q= .returned (.bool (decide (x=y)))∧Below w.heap.size w w':=by
 obtain⟨k,o,rfl,-⟩:=g1.shape;obtain⟨l,p,rfl,-⟩:=g2.shape;have c:Below w.heap.size w ((w.alloc (.cells #[x.inc,x.version,.slice k x.events.length o] 130)).alloc (.cells #[y.inc,y.version,.slice l y.events.length p] 130)):=gU (gU (gY w.heap.size w) _) _;have m:((w.alloc (.cells #[x.inc,x.version,.slice k x.events.length o] 130)).alloc (.cells #[y.inc,y.version,.slice l y.events.length p] 130)).heap[w.heap.size]? =some (.cells #[x.inc,x.version,.slice k x.events.length o] 130):=(ip sm).trans (gX rfl);have n:((w.alloc (.cells #[x.inc,x.version,.slice k x.events.length o] 130)).alloc (.cells #[y.inc,y.version,.slice l y.events.length p] 130)).heap[w.heap.size+1]? =some (.cells #[y.inc,y.version,.slice l y.events.length p] 130):=gX sm;go_enter Tryz.func127,Tryz.ntmps127;by_cases k0_inc:x.inc=y.inc
 case neg=>
  have j:(x.inc !=y.inc)=true:=by simpa using k0_inc
  have d:=gP (show decide (x=y)=false from iU (fun e=>k0_inc (by rw[e])));clear k0_inc;go_wp2_with fail;go_ret;exact⟨by rw[d.out];rfl,c⟩
 have j:(x.inc !=y.inc)=false:=by simpa using k0_inc
 have i:=gP k0_inc;by_cases k0_version:x.version=y.version
 case neg=>
  have b:(x.version !=y.version)=true:=by simpa using k0_version
  have d:=gP (show decide (x=y)=false from iU (fun e=>k0_version (by rw[e])));clear k0_inc k0_version;go_wp2_with fail;go_ret;exact⟨by rw[d.out];rfl,c⟩
 have b:(x.version !=y.version)=false:=by simpa using k0_version
 have a:=gP k0_version;clear k0_inc k0_version;go_wp2_with fail;generalize (w.alloc (.cells #[x.inc,x.version,.slice k x.events.length o] 130)).alloc (.cells #[y.inc,y.version,.slice l y.events.length p] 130)=W at*;obtain⟨D,r⟩:∃t,decide (x.events=y.events)=t:=⟨_,rfl⟩;refine(rF _ _ x.events y.events F _ (g1.below c) (g2.below c)).mono ?_;rintro q O ⟨rfl,g⟩;have z:=gQ c g (Below.size c)
 (try rw[r])
 have f:=gP r;have A:=gJ g (gL m) m;have B:=gJ g (gL n) n;clear r m n g;have m:=A;have n:=B;clear A B;obtain⟨G,H,I⟩:=Ed m;obtain⟨J,L,M⟩:=Ed n;apply_assumption;by_cases s:D=true
 case neg=>
  have g0':D=false:=by simpa using s
  have d:=gP (show decide (x=y)=false from iU (fun e=>by have C:=f.out;rw[g0',decide_eq_false_iff_not] at C;exact C (by rw[e])));clear s f;subst g0';go_wp2_with fail;go_ret;exact⟨by rw[d.out];rfl,z⟩
 have E:=gP (show x.events=y.events from of_decide_eq_true (f.out.trans s));clear f;subst s;have d:=gP (show decide (x=y)=true from jT (EL i.out a.out E.out));go_wp2_with fail;go_ret;exact⟨by rw[d.out];rfl,z⟩
theorem CS (v0 v1:Value) (xs ys:List jl) (F:Nat→Prop) (w:World) (h0:Rd nn w F v0 xs) (h1:Rd nn w F v1 ys):
  Calls Tryz.prog 53 #[v0,v1] w fun q w' =>q= .returned (.bool (decide (xs=ys)))∧Below w.heap.size w w':=by
 obtain⟨v,C,rfl,-,I,-⟩:=id h0;obtain⟨x,D,rfl,-,J,-⟩:=id h1;by_cases hl:xs.length=ys.length
 ·have o:(((xs.length:Nat):Int) !=((ys.length:Nat):Int))=false:=by simp[hl]
  have j:=gP hl;clear hl;go_enter Tryz.func53,Tryz.ntmps53;go_wp2_with fail
  go_loopw [5] (fun i wr=>∃k:Nat,i= .int .i64 k∧k≤xs.length∧Hid (xs.take k=ys.take k)∧Below w.heap.size w wr) (fun i _=>xs.length-(intOf i).toNat)
  case atStart=>exact⟨0,rfl,jP _,rfl,gY _ _⟩
  case round=>
   obtain⟨k,rfl,H,d,c⟩:=hrel;by_cases hlt:k<xs.length
   ·have b:k<ys.length:=by rw[←j.out];exact hlt
    have p:=h0.below c;have r:=h1.below c;obtain⟨A,L,y,E,rfl,_,R,S,T,s⟩:=mI p k hlt;obtain⟨B,M,z,G,rfl,_,U,V,W,u⟩:=mI r k b;have O:(k:Int)<(xs.length:Int):=gO;have P:(k:Int)<(ys.length:Int):=gO;obtain⟨t,n⟩:∃t,decide (xs[k]=ys[k])=t:=⟨_,rfl⟩;have g:=gP n;clear n;go_upto_region 6 with fail;refine kg [.rd [0,1,2,3,4,5,6,7]] [8,9] ?_;refine vL ?_;intro N hN;go_wp2_with fail;refine gR (hN _ ?_);clear hN N;refine vF ?_;go_wp2_with fail;have m:=c.drew;refine(Dj xs[k] ys[k] _ _ _ _ (s.below (gY wr.heap.size wr).drew) (u.below (gY wr.heap.size wr).drew)).mono ?_;rintro q Q ⟨rfl,l⟩;have f:=gQ m l m.size;rw[g.out];apply_assumption;cases t
    case false=>
     have a:=gP (show decide (xs=ys)=false from iU (fun e=>of_decide_eq_false g.out (by simp[e])));go_wp2_with fail;go_ret;exact⟨by rw[a.out];rfl,f⟩
    case true=>
     have HS:=gP (jZ d.out hlt b (of_decide_eq_true g.out));go_wp2_with fail;go_roundw
     case rel=>exact⟨k+1,by go_num,gO,HS,f⟩
     case measure=>exact ms
   ·have a:=gP (show decide (xs=ys)=true from jT (kw d.out gO j.out))
    go_wp2_with fail;go_ret;exact⟨by rw[a.out];rfl,c⟩
 ·have o:(((xs.length:Nat):Int) !=((ys.length:Nat):Int))=true:=by rw[bne_iff_ne];omega
  have a:=gP (show decide (xs=ys)=false from iU (fun h=>hl (by simp[h])));clear hl;go_enter Tryz.func53,Tryz.ntmps53;go_wp2_with fail;go_ret;exact⟨by rw[a.out];rfl,gY _ _⟩
theorem Cz (v0 v1:Value) (xs ys:List hZ) (F:Nat→Prop) (w:World) (h0:Rd oP w F v0 xs) (h1:Rd oP w F v1 ys):
  Calls Tryz.prog 50 #[v0,v1] w fun q w' =>q= .returned (.bool (decide (xs=ys)))∧Below w.heap.size w w':=by
 obtain⟨v,C,rfl,-,I,-⟩:=id h0;obtain⟨x,D,rfl,-,J,-⟩:=id h1;by_cases hl:xs.length=ys.length
 ·have o:(((xs.length:Nat):Int) !=((ys.length:Nat):Int))=false:=by simp[hl]
  have j:=gP hl;clear hl;go_enter Tryz.func50,Tryz.ntmps50;go_wp2_with fail
  go_loopw [5] (fun i wr=>∃k:Nat,i= .int .i64 k∧k≤xs.length∧Hid (xs.take k=ys.take k)∧Below w.heap.size w wr) (fun i _=>xs.length-(intOf i).toNat)
  case atStart=>exact⟨0,rfl,jP _,rfl,gY _ _⟩
  case round=>
   obtain⟨k,rfl,H,d,c⟩:=hrel;by_cases hlt:k<xs.length
   ·have b:k<ys.length:=by rw[←j.out];exact hlt
    have p:=h0.below c;have r:=h1.below c;obtain⟨A,L,y,E,rfl,_,R,⟨S,T,U⟩,V,s⟩:=kV p k hlt;obtain⟨B,M,z,G,rfl,_,W,⟨X,Y,Z⟩,z4,u⟩:=kV r k b;have O:(k:Int)<(xs.length:Int):=gO;have P:(k:Int)<(ys.length:Int):=gO;obtain⟨t,n⟩:∃t,decide (xs[k]=ys[k])=t:=⟨_,rfl⟩;have g:=gP n;clear n;go_upto_region 6 with fail;refine kg [.rd [0,1,2,3,4,5,6,7]] [8,9] ?_;refine vL ?_;intro N hN;go_wp2_with fail;refine gR (hN _ ?_);clear hN N;refine vF ?_;go_wp2_with fail;have m:=c.drew;refine(DI xs[k] ys[k] _ _ _ _ (s.below (gY wr.heap.size wr).drew) (u.below (gY wr.heap.size wr).drew)).mono ?_;rintro q Q ⟨rfl,l⟩;have f:=gQ m l m.size;rw[g.out];apply_assumption;cases t
    case false=>
     have a:=gP (show decide (xs=ys)=false from iU (fun e=>of_decide_eq_false g.out (by simp[e])));go_wp2_with fail;go_ret;exact⟨by rw[a.out];rfl,f⟩
    case true=>
     have HS:=gP (jZ d.out hlt b (of_decide_eq_true g.out));go_wp2_with fail;go_roundw
     case rel=>exact⟨k+1,by go_num,gO,HS,f⟩
     case measure=>exact ms
   ·have a:=gP (show decide (xs=ys)=true from jT (kw d.out gO j.out))
    go_wp2_with fail;go_ret;exact⟨by rw[a.out];rfl,c⟩
 ·have o:(((xs.length:Nat):Int) !=((ys.length:Nat):Int))=true:=by rw[bne_iff_ne];omega
  have a:=gP (show decide (xs=ys)=false from iU (fun h=>hl (by simp[h])));clear hl;go_enter Tryz.func50,Tryz.ntmps50;go_wp2_with fail;go_ret;exact⟨by rw[a.out];rfl,gY _ _⟩
theorem C8 (v0 v1:Value) (xs ys:List Int) (F:Nat→Prop) (w:World) (h0:Rd (ja .i64) w F v0 xs) (h1:Rd (ja .i64) w F v1 ys):
  Calls Tryz.prog 54 #[v0,v1] w fun q w' =>q= .returned (.bool (decide (xs=ys)))∧Below w.heap.size w w':=by
 obtain⟨o,t,rfl,-,x,-⟩:=id h0;obtain⟨p,u,rfl,-,y,-⟩:=id h1;by_cases hl:xs.length=ys.length
 ·have l:(((xs.length:Nat):Int) !=((ys.length:Nat):Int))=false:=by simp[hl]
  have g:=gP hl;clear hl;go_enter Tryz.func54,Tryz.ntmps54;go_wp2_with fail
  go_loopw [5] (fun i wr=>∃k:Nat,i= .int .i64 k∧k≤xs.length∧Hid (xs.take k=ys.take k)∧Below w.heap.size w wr) (fun i _=>xs.length-(intOf i).toNat)
  case atStart=>exact⟨0,rfl,jP _,rfl,gY _ _⟩
  case round=>
   obtain⟨k,rfl,v,d,b⟩:=hrel;by_cases hlt:k<xs.length
   ·have c:k<ys.length:=by rw[←g.out];exact hlt
    have m:=h0.below b;have n:=h1.below b;obtain⟨r,z,rfl,_,_,D⟩:=lm m k hlt;obtain⟨s,A,rfl,_,_,E⟩:=lm n k c;have B:(k:Int)<(xs.length:Int):=gO;have C:(k:Int)<(ys.length:Int):=gO;by_cases he:xs[k]=ys[k]
    ·have j:(xs[k] !=ys[k])=false:=by simpa using he
     have HS:=gP (jZ d.out hlt c he);clear he;go_upto_region 6 with fail;refine kg [.rd [0,1,2,3,4,5,6,7]] [8] ?_;refine vL ?_;intro N hN;go_wp2_with fail;refine gR (hN _ ?_);clear hN N;refine vF ?_;have f:=b.drew;go_wp2_with fail;go_roundw
     case rel=>exact⟨k+1,by go_num,gO,HS,f⟩
     case measure=>exact ms
    ·have j:(xs[k] !=ys[k])=true:=by simpa using he
     have a:=gP (show decide (xs=ys)=false from iU (fun e=>he (by simp[e])));clear he;go_upto_region 6 with fail;refine kg [.rd [0,1,2,3,4,5,6,7]] [8] ?_;refine vL ?_;intro N hN;go_wp2_with fail;refine gR (hN _ ?_);clear hN N;refine vF ?_;have f:=b.drew;go_wp2_with fail;go_ret;exact⟨by rw[a.out];rfl,f⟩
   ·have a:=gP (show decide (xs=ys)=true from jT (kw d.out gO g.out))
    go_wp2_with fail;go_ret;exact⟨by rw[a.out];rfl,b⟩
 ·have l:(((xs.length:Nat):Int) !=((ys.length:Nat):Int))=true:=by rw[bne_iff_ne];omega
  have a:=gP (show decide (xs=ys)=false from iU (fun h=>hl (by simp[h])));clear hl;go_enter Tryz.func54,Tryz.ntmps54;go_wp2_with fail;go_ret;exact⟨by rw[a.out];rfl,gY _ _⟩
theorem DU (x y:gW) (vl vk vo vv vn ul uk uo uv un:Value) (F:Nat→Prop) (w:World) (g1:iA w F vl vk vo vv vn x) (g2:iA w F ul uk uo uv un y):
  Calls Tryz.prog 10 #[.agg #[x.id,x.up,x.inc,x.g,vl,vk,vo,x.led,x.version,vv,vn,x.round,x.low],.agg #[y.id,y.up,y.inc,y.g,ul,uk,uo,y.led,y.version,uv,un,y.round,y.low]] w fun q w' =>q= .returned (.bool (decide (x=y)))∧Below w.heap.size w w':=by
 obtain⟨R,c1,rfl,-⟩:=g1.la.shape;obtain⟨S,c2,rfl,-⟩:=g1.ke.shape;obtain⟨T,c3,rfl,-⟩:=g1.ou.shape;obtain⟨U,c4,rfl,-⟩:=g1.vi.shape;obtain⟨V,c5,rfl,-⟩:=g1.kn.shape;obtain⟨X,d1,rfl,-⟩:=g2.la.shape;obtain⟨Y,d2,rfl,-⟩:=g2.ke.shape;obtain⟨Z,d3,rfl,-⟩:=g2.ou.shape;obtain⟨B4,d4,rfl,-⟩:=g2.vi.shape;obtain⟨B5,d5,rfl,-⟩:=g2.kn.shape;have j:Below w.heap.size w ((w.alloc (.cells #[x.id,x.up,x.inc,x.g,.slice R x.lanes.length c1,.slice S x.kept.length c2,.slice T x.outs.length c3,x.led,x.version,.slice U x.views.length c4,.slice V x.known.length c5,x.round,x.low] 37)).alloc (.cells #[y.id,y.up,y.inc,y.g,.slice X y.lanes.length d1,.slice Y y.kept.length d2,.slice Z y.outs.length d3,y.led,y.version,.slice B4 y.views.length d4,.slice B5 y.known.length d5,y.round,y.low] 37)):=gU (gU (gY w.heap.size w) _) _;have a:((w.alloc (.cells #[x.id,x.up,x.inc,x.g,.slice R x.lanes.length c1,.slice S x.kept.length c2,.slice T x.outs.length c3,x.led,x.version,.slice U x.views.length c4,.slice V x.known.length c5,x.round,x.low] 37)).alloc (.cells #[y.id,y.up,y.inc,y.g,.slice X y.lanes.length d1,.slice Y y.kept.length d2,.slice Z y.outs.length d3,y.led,y.version,.slice B4 y.views.length d4,.slice B5 y.known.length d5,y.round,y.low] 37)).heap[w.heap.size]? =some (.cells #[x.id,x.up,x.inc,x.g,.slice R x.lanes.length c1,.slice S x.kept.length c2,.slice T x.outs.length c3,x.led,x.version,.slice U x.views.length c4,.slice V x.known.length c5,x.round,x.low] 37):=(ip sm).trans (gX rfl);have b:((w.alloc (.cells #[x.id,x.up,x.inc,x.g,.slice R x.lanes.length c1,.slice S x.kept.length c2,.slice T x.outs.length c3,x.led,x.version,.slice U x.views.length c4,.slice V x.known.length c5,x.round,x.low] 37)).alloc (.cells #[y.id,y.up,y.inc,y.g,.slice X y.lanes.length d1,.slice Y y.kept.length d2,.slice Z y.outs.length d3,y.led,y.version,.slice B4 y.views.length d4,.slice B5 y.known.length d5,y.round,y.low] 37)).heap[w.heap.size+1]? =some (.cells #[y.id,y.up,y.inc,y.g,.slice X y.lanes.length d1,.slice Y y.kept.length d2,.slice Z y.outs.length d3,y.led,y.version,.slice B4 y.views.length d4,.slice B5 y.known.length d5,y.round,y.low] 37):=gX sm;go_enter Tryz.func10,Tryz.ntmps10;by_cases k0_id:x.id=y.id
 case neg=>
  have ao:(x.id !=y.id)=true:=by simpa using k0_id
  have c:=gP (show decide (x=y)=false from iU (fun e=>k0_id (by rw[e])));clear k0_id;go_wp2_with fail;go_ret;exact⟨by rw[c.out];rfl,j⟩
 have ao:(x.id !=y.id)=false:=by simpa using k0_id
 have ac:=gP k0_id;by_cases k0_up:x.up=y.up
 case neg=>
  have ap:(!(x.up==y.up))=true:=by simpa using k0_up
  have c:=gP (show decide (x=y)=false from iU (fun e=>k0_up (by rw[e])));clear k0_id k0_up;go_wp2_with fail;go_ret;exact⟨by rw[c.out];rfl,j⟩
 have ap:(!(x.up==y.up))=false:=by simpa using k0_up
 have ad:=gP k0_up;by_cases k0_inc:x.inc=y.inc
 case neg=>
  have O:(x.inc !=y.inc)=true:=by simpa using k0_inc
  have c:=gP (show decide (x=y)=false from iU (fun e=>k0_inc (by rw[e])));clear k0_id k0_up k0_inc;go_wp2_with fail;go_ret;exact⟨by rw[c.out];rfl,j⟩
 have O:(x.inc !=y.inc)=false:=by simpa using k0_inc
 have J:=gP k0_inc;by_cases k0_g:x.g=y.g
 case neg=>
  have ay:(x.g !=y.g)=true:=by simpa using k0_g
  have c:=gP (show decide (x=y)=false from iU (fun e=>k0_g (by rw[e])));clear k0_id k0_up k0_inc k0_g;go_wp2_with fail;go_ret;exact⟨by rw[c.out];rfl,j⟩
 have ay:(x.g !=y.g)=false:=by simpa using k0_g
 have ax:=gP k0_g;clear k0_id k0_up k0_inc k0_g;go_wp2_with fail;generalize (w.alloc (.cells #[x.id,x.up,x.inc,x.g,.slice R x.lanes.length c1,.slice S x.kept.length c2,.slice T x.outs.length c3,x.led,x.version,.slice U x.views.length c4,.slice V x.known.length c5,x.round,x.low] 37)).alloc (.cells #[y.id,y.up,y.inc,y.g,.slice X y.lanes.length d1,.slice Y y.kept.length d2,.slice Z y.outs.length d3,y.led,y.version,.slice B4 y.views.length d4,.slice B5 y.known.length d5,y.round,y.low] 37)=W at*;obtain⟨t0,aq⟩:∃t,decide (x.lanes=y.lanes)=t:=⟨_,rfl⟩;refine(Cz _ _ x.lanes y.lanes F _ (g1.la.below j) (g2.la.below j)).mono ?_;rintro q w0 ⟨rfl,D⟩;have o:=gQ j D (Below.size j)
 (try rw[aq])
 have v:=gP aq;have d:=gJ D (gL a) a;have f:=gJ D (gL b) b;clear aq a b D;have a:=d;have b:=f;clear d f;have bg:=nD a;have bh:=tY a;have bi:=ut a;have bj:=ui a;have bk:=sO a;have bl:=xJ a;have bm:=xD a;have bn:=zQ a;have bo:=Ae a;have bp:=Ah a;have aH:=qZ a;have aI:=rO a;have aJ:=rG a;have b5:=nD b;have b6:=tY b;have b7:=ut b;have b8:=ui b;have b9:=sO b;have b':=xJ b;have ca:=xD b;have cb:=zQ b;have cc:=Ae b;have cd:=Ah b;have aW:=qZ b;have aX:=rO b;have aY:=rG b;apply_assumption;by_cases g0:t0=true
 case neg=>
  have g0':t0=false:=by simpa using g0
  have c:=gP (show decide (x=y)=false from iU (fun e=>by have i:=v.out;rw[g0',decide_eq_false_iff_not] at i;exact i (by rw[e])));clear g0 v;subst g0';go_wp2_with fail;go_ret;exact⟨by rw[c.out];rfl,o⟩
 have E0:=gP (show x.lanes=y.lanes from of_decide_eq_true (v.out.trans g0));clear v;subst g0;go_wp2_with fail;obtain⟨t1,ar⟩:∃t,decide (x.kept=y.kept)=t:=⟨_,rfl⟩;refine(rF _ _ x.kept y.kept F _ (g1.ke.below o) (g2.ke.below o)).mono ?_;rintro q w1 ⟨rfl,E⟩;have p:=gQ o E (Below.size o)
 (try rw[ar])
 have z:=gP ar;have d:=gJ E (gL a) a;have f:=gJ E (gL b) b;clear ar a b E;have a:=d;have b:=f;clear d f;have bq:=nD a;have br:=tY a;have bs:=ut a;have bt:=ui a;have bu:=sO a;have bv:=xJ a;have bw:=xD a;have bx:=zQ a;have bz:=Ae a;have bA:=Ah a;have aK:=qZ a;have aL:=rO a;have aM:=rG a;have ce:=nD b;have cf:=tY b;have cg:=ut b;have ch:=ui b;have ci:=sO b;have cj:=xJ b;have ck:=xD b;have cl:=zQ b;have cm:=Ae b;have cn:=Ah b;have aZ:=qZ b;have a0:=rO b;have a1:=rG b;apply_assumption;by_cases g1:t1=true
 case neg=>
  have g1':t1=false:=by simpa using g1
  have c:=gP (show decide (x=y)=false from iU (fun e=>by have i:=z.out;rw[g1',decide_eq_false_iff_not] at i;exact i (by rw[e])));clear g1 z;subst g1';go_wp2_with fail;go_ret;exact⟨by rw[c.out];rfl,p⟩
 have E1:=gP (show x.kept=y.kept from of_decide_eq_true (z.out.trans g1));clear z;subst g1;go_wp2_with fail;obtain⟨t2,au⟩:∃t,decide (x.outs=y.outs)=t:=⟨_,rfl⟩;refine(zq _ _ x.outs y.outs F _ (g1.ou.below p) (g2.ou.below p)).mono ?_;rintro q w2 ⟨rfl,G⟩;have k:=gQ p G (Below.size p)
 (try rw[au])
 have A:=gP au;have d:=gJ G (gL a) a;have f:=gJ G (gL b) b;clear au a b G;have a:=d;have b:=f;clear d f;have bB:=nD a;have bC:=tY a;have bD:=ut a;have bE:=ui a;have bF:=sO a;have bG:=xJ a;have bH:=xD a;have bI:=zQ a;have bJ:=Ae a;have bK:=Ah a;have aN:=qZ a;have aO:=rO a;have aP:=rG a;have co:=nD b;have cp:=tY b;have cq:=ut b;have cr:=ui b;have cs:=sO b;have ct:=xJ b;have cu:=xD b;have cv:=zQ b;have cw:=Ae b;have cx:=Ah b;have a2:=qZ b;have a3:=rO b;have a4:=rG b;apply_assumption;by_cases g2:t2=true
 case neg=>
  have g2':t2=false:=by simpa using g2
  have c:=gP (show decide (x=y)=false from iU (fun e=>by have i:=A.out;rw[g2',decide_eq_false_iff_not] at i;exact i (by rw[e])));clear g2 A;subst g2';go_wp2_with fail;go_ret;exact⟨by rw[c.out];rfl,k⟩
 have E2:=gP (show x.outs=y.outs from of_decide_eq_true (A.out.trans g2));clear A;subst g2;by_cases k3_led:x.led=y.led
 case neg=>
  have P:(x.led !=y.led)=true:=by simpa using k3_led
  have c:=gP (show decide (x=y)=false from iU (fun e=>k3_led (by rw[e])));clear k3_led;go_wp2_with fail;go_ret;exact⟨by rw[c.out];rfl,k⟩
 have P:(x.led !=y.led)=false:=by simpa using k3_led
 have L:=gP k3_led;by_cases k3_version:x.version=y.version
 case neg=>
  have m:(x.version !=y.version)=true:=by simpa using k3_version
  have c:=gP (show decide (x=y)=false from iU (fun e=>k3_version (by rw[e])));clear k3_led k3_version;go_wp2_with fail;go_ret;exact⟨by rw[c.out];rfl,k⟩
 have m:(x.version !=y.version)=false:=by simpa using k3_version
 have l:=gP k3_version;clear k3_led k3_version;go_wp2_with fail;obtain⟨t3,av⟩:∃t,decide (x.views=y.views)=t:=⟨_,rfl⟩;refine(CS _ _ x.views y.views F _ (g1.vi.below k) (g2.vi.below k)).mono ?_;rintro q w3 ⟨rfl,H⟩;have r:=gQ k H (Below.size k)
 (try rw[av])
 have B:=gP av;have d:=gJ H (gL a) a;have f:=gJ H (gL b) b;clear av a b H;have a:=d;have b:=f;clear d f;have bL:=nD a;have bM:=tY a;have bN:=ut a;have bO:=ui a;have bP:=sO a;have bQ:=xJ a;have bR:=xD a;have bS:=zQ a;have bT:=Ae a;have bU:=Ah a;have aQ:=qZ a;have aR:=rO a;have aS:=rG a;have cy:=nD b;have cz:=tY b;have cA:=ut b;have cB:=ui b;have cC:=sO b;have cD:=xJ b;have cE:=xD b;have cF:=zQ b;have cG:=Ae b;have cH:=Ah b;have a5:=qZ b;have a6:=rO b;have a7:=rG b;apply_assumption;by_cases g3:t3=true
 case neg=>
  have g3':t3=false:=by simpa using g3
  have c:=gP (show decide (x=y)=false from iU (fun e=>by have i:=B.out;rw[g3',decide_eq_false_iff_not] at i;exact i (by rw[e])));clear g3 B;subst g3';go_wp2_with fail;go_ret;exact⟨by rw[c.out];rfl,r⟩
 have E3:=gP (show x.views=y.views from of_decide_eq_true (B.out.trans g3));clear B;subst g3;go_wp2_with fail;obtain⟨t4,aw⟩:∃t,decide (x.known=y.known)=t:=⟨_,rfl⟩;refine(C8 _ _ x.known y.known F _ (g1.kn.below r) (g2.kn.below r)).mono ?_;rintro q w4 ⟨rfl,I⟩;have u:=gQ r I (Below.size r)
 (try rw[aw])
 have C:=gP aw;have d:=gJ I (gL a) a;have f:=gJ I (gL b) b;clear aw a b I;have a:=d;have b:=f;clear d f;have bV:=nD a;have bW:=tY a;have bX:=ut a;have bY:=ui a;have bZ:=sO a;have b0:=xJ a;have b1:=xD a;have b2:=zQ a;have b3:=Ae a;have b4:=Ah a;have aT:=qZ a;have aU:=rO a;have aV:=rG a;have cI:=nD b;have cJ:=tY b;have cK:=ut b;have cL:=ui b;have cM:=sO b;have cN:=xJ b;have cO:=xD b;have cP:=zQ b;have cQ:=Ae b;have cR:=Ah b;have a8:=qZ b;have a9:=rO b;have a':=rG b;apply_assumption;by_cases g4:t4=true
 case neg=>
  have g4':t4=false:=by simpa using g4
  have c:=gP (show decide (x=y)=false from iU (fun e=>by have i:=C.out;rw[g4',decide_eq_false_iff_not] at i;exact i (by rw[e])));clear g4 C;subst g4';go_wp2_with fail;go_ret;exact⟨by rw[c.out];rfl,u⟩
 have E4:=gP (show x.known=y.known from of_decide_eq_true (C.out.trans g4));clear C;subst g4;by_cases k5_round:x.round=y.round
 case neg=>
  have s:(x.round !=y.round)=true:=by simpa using k5_round
  have c:=gP (show decide (x=y)=false from iU (fun e=>k5_round (by rw[e])));clear k5_round;go_wp2_with fail;go_ret;exact⟨by rw[c.out];rfl,u⟩
 have s:(x.round !=y.round)=false:=by simpa using k5_round
 have n:=gP k5_round;by_cases k5_low:x.low=y.low
 case neg=>
  have Q:(x.low !=y.low)=true:=by simpa using k5_low
  have c:=gP (show decide (x=y)=false from iU (fun e=>k5_low (by rw[e])));clear k5_round k5_low;go_wp2_with fail;go_ret;exact⟨by rw[c.out];rfl,u⟩
 have Q:(x.low !=y.low)=false:=by simpa using k5_low
 have M:=gP k5_low;clear k5_round k5_low;have c:=gP (show decide (x=y)=true from jT (Ef ac.out ad.out J.out ax.out E0.out E1.out E2.out L.out l.out E3.out E4.out n.out M.out));go_wp2_with fail;go_ret;exact⟨by rw[c.out];rfl,u⟩
end Go.Proofs.YtgilllnjhahkfaaGreat
