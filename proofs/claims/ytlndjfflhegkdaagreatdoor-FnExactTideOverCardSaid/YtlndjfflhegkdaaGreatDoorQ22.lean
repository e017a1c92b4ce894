/- Parts of the proof: Ne3. -/
import Derived.Test.YtlndjfflhegkdaaGreatDoorQ19
set_option linter.unusedVariables false
set_option linter.unusedSimpArgs false
set_option linter.unusedSectionVars false
set_option maxHeartbeats 4000000
set_option maxRecDepth 100000
namespace Go.Proofs.YtlndjfflhegkdaaGreatDoor
open Go.RowKit
theorem DU {x y:kK} (h1:x.inc=y.inc) (h2:x.version=y.version) (h3:x.events=y.events):x=y:=by cases x;cases y;simp_all
theorem Du {x y:gT} (h1:x.id=y.id) (h2:x.up=y.up) (h3:x.inc=y.inc) (h4:x.g=y.g) (h5:x.lanes=y.lanes) (h6:x.kept=y.kept) (h7:x.outs=y.outs) (h8:x.led=y.led) (h9:x.version=y.version) (h10:x.views=y.views) (h11:x.known=y.known) (h12:x.round=y.round) (h13:x.low=y.low):x=y:=by cases x;cases y;simp_all
theorem Cb (x y:kK) (v u:Value) (F:Nat→Prop) (w:World) (g1:Rd iw w F v x.events) (g2:Rd iw w F u y.events):
  Calls Tryz.prog 144 #[.agg #[x.inc,x.version,v],.agg #[y.inc,y.version,u]] w fun q w' =>q= .returned (.bool (decide (x=y)))∧Below w.heap.size w w':=by
 obtain⟨k,o,rfl,-⟩:=g1.shape;obtain⟨l,p,rfl,-⟩:=g2.shape;have c:Below w.heap.size w ((w.alloc (.cells #[x.inc,x.version,.slice k x.events.length o] 180)).alloc (.cells #[y.inc,y.version,.slice l y.events.length p] 180)):=gs (gs (gM w.heap.size w) _) _;have m:((w.alloc (.cells #[x.inc,x.version,.slice k x.events.length o] 180)).alloc (.cells #[y.inc,y.version,.slice l y.events.length p] 180)).heap[w.heap.size]? =some (.cells #[x.inc,x.version,.slice k x.events.length o] 180):=(gP sm).trans (gL rfl);have n:((w.alloc (.cells #[x.inc,x.version,.slice k x.events.length o] 180)).alloc (.cells #[y.inc,y.version,.slice l y.events.length p] 180)).heap[w.heap.size+1]? =some (.cells #[y.inc,y.version,.slice l y.events.length p] 180):=gL sm;go_enter Tryz.func144,Tryz.ntmps144;by_cases k0_inc:x.inc=y.inc
 case neg=>
  have j:(x.inc !=y.inc)=true:=by simpa using k0_inc
  have d:=fS (show decide (x=y)=false from ia (fun e=>k0_inc (by rw[e])));clear k0_inc;go_wp2_with fail;go_ret;exact⟨by rw[d.out];rfl,c⟩
 have j:(x.inc !=y.inc)=false:=by simpa using k0_inc
 have i:=fS k0_inc;by_cases k0_version:x.version=y.version
 case neg=>
  have b:(x.version !=y.version)=true:=by simpa using k0_version
  have d:=fS (show decide (x=y)=false from ia (fun e=>k0_version (by rw[e])));clear k0_inc k0_version;go_wp2_with fail;go_ret;exact⟨by rw[d.out];rfl,c⟩
 have b:(x.version !=y.version)=false:=by simpa using k0_version
 have a:=fS k0_version;clear k0_inc k0_version;go_wp2_with fail;generalize (w.alloc (.cells #[x.inc,x.version,.slice k x.events.length o] 180)).alloc (.cells #[y.inc,y.version,.slice l y.events.length p] 180)=W at*;obtain⟨D,r⟩:∃t,decide (x.events=y.events)=t:=⟨_,rfl⟩;refine(oX _ _ x.events y.events F _ (g1.below c) (g2.below c)).mono ?_;rintro q O ⟨rfl,g⟩;have z:=fU c g (Below.size c)
 (try rw[r])
 have f:=fS r;have A:=fu g (fx m) m;have B:=fu g (fx n) n;clear r m n g;have m:=A;have n:=B;clear A B;obtain⟨G,H,I⟩:=lm m;obtain⟨J,L,M⟩:=lm n;apply_assumption;by_cases s:D=true
 case neg=>
  have g0':D=false:=by simpa using s
  have d:=fS (show decide (x=y)=false from ia (fun e=>by have C:=f.out;rw[g0',decide_eq_false_iff_not] at C;exact C (by rw[e])));clear s f;subst g0';go_wp2_with fail;go_ret;exact⟨by rw[d.out];rfl,z⟩
 have E:=fS (show x.events=y.events from of_decide_eq_true (f.out.trans s));clear f;subst s;have d:=fS (show decide (x=y)=true from iW (DU i.out a.out E.out));go_wp2_with fail;go_ret;exact⟨by rw[d.out];rfl,z⟩
theorem AH (v0 v1:Value) (xs ys:List kK) (F:Nat→Prop) (w:World) (h0:Rd pD w F v0 xs) (h1:Rd pD w F v1 ys):
  Calls Tryz.prog 100 #[v0,v1] w fun q w' =>q= .returned (.bool (decide (xs=ys)))∧Below w.heap.size w w':=by
 obtain⟨v,C,rfl,-,I,-⟩:=id h0;obtain⟨x,D,rfl,-,J,-⟩:=id h1;by_cases hl:xs.length=ys.length
 ·have o:(((xs.length:Nat):Int) !=((ys.length:Nat):Int))=false:=by simp[hl]
  have j:=fS hl;clear hl;go_enter Tryz.func100,Tryz.ntmps100;go_wp2_with fail
  go_loopw [5] (fun i wr=>∃k:Nat,i= .int .i64 k∧k≤xs.length∧Hid (xs.take k=ys.take k)∧Below w.heap.size w wr) (fun i _=>xs.length-(intOf i).toNat)
  case atStart=>exact⟨0,rfl,j8 _,rfl,gM _ _⟩
  case round=>
   obtain⟨k,rfl,H,d,c⟩:=hrel;by_cases hlt:k<xs.length
   ·have b:k<ys.length:=by rw[←j.out];exact hlt
    have p:=h0.below c;have r:=h1.below c;obtain⟨A,L,y,E,rfl,_,R,S,T,s⟩:=nO p k hlt;obtain⟨B,M,z,G,rfl,_,U,V,W,u⟩:=nO r k b;have O:(k:Int)<(xs.length:Int):=fT;have P:(k:Int)<(ys.length:Int):=fT;obtain⟨t,n⟩:∃t,decide (xs[k]=ys[k])=t:=⟨_,rfl⟩;have g:=fS n;clear n;go_upto_region 6 with fail;refine kA [.rd [0,1,2,3,4,5,6,7]] [8,9] ?_;refine vL ?_;intro N hN;go_wp2_with fail;refine fV (hN _ ?_);clear hN N;refine vF ?_;go_wp2_with fail;have m:=c.drew;refine(Cb xs[k] ys[k] _ _ _ _ (s.below (gM wr.heap.size wr).drew) (u.below (gM wr.heap.size wr).drew)).mono ?_;rintro q Q ⟨rfl,l⟩;have f:=fU m l m.size;rw[g.out];apply_assumption;cases t
    case false=>
     have a:=fS (show decide (xs=ys)=false from ia (fun e=>of_decide_eq_false g.out (by simp[e])));go_wp2_with fail;go_ret;exact⟨by rw[a.out];rfl,f⟩
    case true=>
     have HS:=fS (jx d.out hlt b (of_decide_eq_true g.out));go_wp2_with fail;go_roundw
     case rel=>exact⟨k+1,by go_num,fT,HS,f⟩
     case measure=>exact ms
   ·have a:=fS (show decide (xs=ys)=true from iW (j5 d.out fT j.out))
    go_wp2_with fail;go_ret;exact⟨by rw[a.out];rfl,c⟩
 ·have o:(((xs.length:Nat):Int) !=((ys.length:Nat):Int))=true:=by rw[bne_iff_ne];omega
  have a:=fS (show decide (xs=ys)=false from ia (fun h=>hl (by simp[h])));clear hl;go_enter Tryz.func100,Tryz.ntmps100;go_wp2_with fail;go_ret;exact⟨by rw[a.out];rfl,gM _ _⟩
theorem AD (v0 v1:Value) (xs ys:List il) (F:Nat→Prop) (w:World) (h0:Rd tk w F v0 xs) (h1:Rd tk w F v1 ys):
  Calls Tryz.prog 98 #[v0,v1] w fun q w' =>q= .returned (.bool (decide (xs=ys)))∧Below w.heap.size w w':=by
 obtain⟨v,C,rfl,-,I,-⟩:=id h0;obtain⟨x,D,rfl,-,J,-⟩:=id h1;by_cases hl:xs.length=ys.length
 ·have o:(((xs.length:Nat):Int) !=((ys.length:Nat):Int))=false:=by simp[hl]
  have j:=fS hl;clear hl;go_enter Tryz.func98,Tryz.ntmps98;go_wp2_with fail
  go_loopw [5] (fun i wr=>∃k:Nat,i= .int .i64 k∧k≤xs.length∧Hid (xs.take k=ys.take k)∧Below w.heap.size w wr) (fun i _=>xs.length-(intOf i).toNat)
  case atStart=>exact⟨0,rfl,j8 _,rfl,gM _ _⟩
  case round=>
   obtain⟨k,rfl,H,d,c⟩:=hrel;by_cases hlt:k<xs.length
   ·have b:k<ys.length:=by rw[←j.out];exact hlt
    have p:=h0.below c;have r:=h1.below c;obtain⟨A,L,y,E,rfl,_,R,⟨S,T,U⟩,V,s⟩:=mr p k hlt;obtain⟨B,M,z,G,rfl,_,W,⟨X,Y,Z⟩,z4,u⟩:=mr r k b;have O:(k:Int)<(xs.length:Int):=fT;have P:(k:Int)<(ys.length:Int):=fT;obtain⟨t,n⟩:∃t,decide (xs[k]=ys[k])=t:=⟨_,rfl⟩;have g:=fS n;clear n;go_upto_region 6 with fail;refine kA [.rd [0,1,2,3,4,5,6,7]] [8,9] ?_;refine vL ?_;intro N hN;go_wp2_with fail;refine fV (hN _ ?_);clear hN N;refine vF ?_;go_wp2_with fail;have m:=c.drew;refine(BZ xs[k] ys[k] _ _ _ _ (s.below (gM wr.heap.size wr).drew) (u.below (gM wr.heap.size wr).drew)).mono ?_;rintro q Q ⟨rfl,l⟩;have f:=fU m l m.size;rw[g.out];apply_assumption;cases t
    case false=>
     have a:=fS (show decide (xs=ys)=false from ia (fun e=>of_decide_eq_false g.out (by simp[e])));go_wp2_with fail;go_ret;exact⟨by rw[a.out];rfl,f⟩
    case true=>
     have HS:=fS (jx d.out hlt b (of_decide_eq_true g.out));go_wp2_with fail;go_roundw
     case rel=>exact⟨k+1,by go_num,fT,HS,f⟩
     case measure=>exact ms
   ·have a:=fS (show decide (xs=ys)=true from iW (j5 d.out fT j.out))
    go_wp2_with fail;go_ret;exact⟨by rw[a.out];rfl,c⟩
 ·have o:(((xs.length:Nat):Int) !=((ys.length:Nat):Int))=true:=by rw[bne_iff_ne];omega
  have a:=fS (show decide (xs=ys)=false from ia (fun h=>hl (by simp[h])));clear hl;go_enter Tryz.func98,Tryz.ntmps98;go_wp2_with fail;go_ret;exact⟨by rw[a.out];rfl,gM _ _⟩
theorem t6 (v0 v1:Value) (xs ys:List Int) (F:Nat→Prop) (w:World) (h0:Rd (jQ .i64) w F v0 xs) (h1:Rd (jQ .i64) w F v1 ys):
  Calls Tryz.prog 101 #[v0,v1] w fun q w' =>q= .returned (.bool (decide (xs=ys)))∧Below w.heap.size w w':=by
 obtain⟨o,t,rfl,-,x,-⟩:=id h0;obtain⟨p,u,rfl,-,y,-⟩:=id h1;by_cases hl:xs.length=ys.length
 ·have l:(((xs.length:Nat):Int) !=((ys.length:Nat):Int))=false:=by simp[hl]
  have g:=fS hl;clear hl;go_enter Tryz.func101,Tryz.ntmps101;go_wp2_with fail
  go_loopw [5] (fun i wr=>∃k:Nat,i= .int .i64 k∧k≤xs.length∧Hid (xs.take k=ys.take k)∧Below w.heap.size w wr) (fun i _=>xs.length-(intOf i).toNat)
  case atStart=>exact⟨0,rfl,j8 _,rfl,gM _ _⟩
  case round=>
   obtain⟨k,rfl,v,d,b⟩:=hrel;by_cases hlt:k<xs.length
   ·have c:k<ys.length:=by rw[←g.out];exact hlt
    have m:=h0.below b;have n:=h1.below b;obtain⟨r,z,rfl,_,_,D⟩:=lY m k hlt;obtain⟨s,A,rfl,_,_,E⟩:=lY n k c;have B:(k:Int)<(xs.length:Int):=fT;have C:(k:Int)<(ys.length:Int):=fT;by_cases he:xs[k]=ys[k]
    ·have j:(xs[k] !=ys[k])=false:=by simpa using he
     have HS:=fS (jx d.out hlt c he);clear he;go_upto_region 6 with fail;refine kA [.rd [0,1,2,3,4,5,6,7]] [8] ?_;refine vL ?_;intro N hN;go_wp2_with fail;refine fV (hN _ ?_);clear hN N;refine vF ?_;have f:=b.drew;go_wp2_with fail;go_roundw
     case rel=>exact⟨k+1,by go_num,fT,HS,f⟩
     case measure=>exact ms
    ·have j:(xs[k] !=ys[k])=true:=by simpa using he
     have a:=fS (show decide (xs=ys)=false from ia (fun e=>he (by simp[e])));clear he;go_upto_region 6 with fail;refine kA [.rd [0,1,2,3,4,5,6,7]] [8] ?_;refine vL ?_;intro N hN;go_wp2_with fail;refine fV (hN _ ?_);clear hN N;refine vF ?_;have f:=b.drew;go_wp2_with fail;go_ret;exact⟨by rw[a.out];rfl,f⟩
   ·have a:=fS (show decide (xs=ys)=true from iW (j5 d.out fT g.out))
    go_wp2_with fail;go_ret;exact⟨by rw[a.out];rfl,b⟩
 ·have l:(((xs.length:Nat):Int) !=((ys.length:Nat):Int))=true:=by rw[bne_iff_ne];omega
  have a:=fS (show decide (xs=ys)=false from ia (fun h=>hl (by simp[h])));clear hl;go_enter Tryz.func101,Tryz.ntmps101;go_wp2_with fail;go_ret;exact⟨by rw[a.out];rfl,gM _ _⟩
theorem B6 (x y:gT) (vl vk vo vv vn ul uk uo uv un:Value) (F:Nat→Prop) (w:World) (g1:i4 w F vl vk vo vv vn x) (g2:i4 w F ul uk uo uv un y):
  Calls Tryz.prog 48 #[.agg #[x.id,x.up,x.inc,x.g,vl,vk,vo,x.led,x.version,vv,vn,x.round,x.low],.agg #[y.id,y.up,y.inc,y.g,ul,uk,uo,y.led,y.version,uv,un,y.round,y.low]] w fun q w' =>q= .returned (.bool (decide (x=y)))∧Below w.heap.size w w':=by
 obtain⟨R,c1,rfl,-⟩:=g1.la.shape;obtain⟨S,c2,rfl,-⟩:=g1.ke.shape;obtain⟨T,c3,rfl,-⟩:=g1.ou.shape;obtain⟨U,c4,rfl,-⟩:=g1.vi.shape;obtain⟨V,c5,rfl,-⟩:=g1.kn.shape;obtain⟨X,d1,rfl,-⟩:=g2.la.shape;obtain⟨Y,d2,rfl,-⟩:=g2.ke.shape;obtain⟨Z,d3,rfl,-⟩:=g2.ou.shape;obtain⟨B4,d4,rfl,-⟩:=g2.vi.shape;obtain⟨B5,d5,rfl,-⟩:=g2.kn.shape;have j:Below w.heap.size w ((w.alloc (.cells #[x.id,x.up,x.inc,x.g,.slice R x.lanes.length c1,.slice S x.kept.length c2,.slice T x.outs.length c3,x.led,x.version,.slice U x.views.length c4,.slice V x.known.length c5,x.round,x.low] 57)).alloc (.cells #[y.id,y.up,y.inc,y.g,.slice X y.lanes.length d1,.slice Y y.kept.length d2,.slice Z y.outs.length d3,y.led,y.version,.slice B4 y.views.length d4,.slice B5 y.known.length d5,y.round,y.low] 57)):=gs (gs (gM w.heap.size w) _) _;have a:((w.alloc (.cells #[x.id,x.up,x.inc,x.g,.slice R x.lanes.length c1,.slice S x.kept.length c2,.slice T x.outs.length c3,x.led,x.version,.slice U x.views.length c4,.slice V x.known.length c5,x.round,x.low] 57)).alloc (.cells #[y.id,y.up,y.inc,y.g,.slice X y.lanes.length d1,.slice Y y.kept.length d2,.slice Z y.outs.length d3,y.led,y.version,.slice B4 y.views.length d4,.slice B5 y.known.length d5,y.round,y.low] 57)).heap[w.heap.size]? =some (.cells #[x.id,x.up,x.inc,x.g,.slice R x.lanes.length c1,.slice S x.kept.length c2,.slice T x.outs.length c3,x.led,x.version,.slice U x.views.length c4,.slice V x.known.length c5,x.round,x.low] 57):=(gP sm).trans (gL rfl);have b:((w.alloc (.cells #[x.id,x.up,x.inc,x.g,.slice R x.lanes.length c1,.slice S x.kept.length c2,.slice T x.outs.length c3,x.led,x.version,.slice U x.views.length c4,.slice V x.known.length c5,x.round,x.low] 57)).alloc (.cells #[y.id,y.up,y.inc,y.g,.slice X y.lanes.length d1,.slice Y y.kept.length d2,.slice Z y.outs.length d3,y.led,y.version,.slice B4 y.views.length d4,.slice B5 y.known.length d5,y.round,y.low] 57)).heap[w.heap.size+1]? =some (.cells #[y.id,y.up,y.inc,y.g,.slice X y.lanes.length d1,.slice Y y.kept.length d2,.slice Z y.outs.length d3,y.led,y.version,.slice B4 y.views.length d4,.slice B5 y.known.length d5,y.round,y.low] 57):=gL sm;go_enter Tryz.func48,Tryz.ntmps48;by_cases k0_id:x.id=y.id
 case neg=>
  have ao:(x.id !=y.id)=true:=by simpa using k0_id
  have c:=fS (show decide (x=y)=false from ia (fun e=>k0_id (by rw[e])));clear k0_id;go_wp2_with fail;go_ret;exact⟨by rw[c.out];rfl,j⟩
 have ao:(x.id !=y.id)=false:=by simpa using k0_id
 have ac:=fS k0_id;by_cases k0_up:x.up=y.up
 case neg=>
  have ap:(!(x.up==y.up))=true:=by simpa using k0_up
  have c:=fS (show decide (x=y)=false from ia (fun e=>k0_up (by rw[e])));clear k0_id k0_up;go_wp2_with fail;go_ret;exact⟨by rw[c.out];rfl,j⟩
 have ap:(!(x.up==y.up))=false:=by simpa using k0_up
 have ad:=fS k0_up;by_cases k0_inc:x.inc=y.inc
 case neg=>
  have O:(x.inc !=y.inc)=true:=by simpa using k0_inc
  have c:=fS (show decide (x=y)=false from ia (fun e=>k0_inc (by rw[e])));clear k0_id k0_up k0_inc;go_wp2_with fail;go_ret;exact⟨by rw[c.out];rfl,j⟩
 have O:(x.inc !=y.inc)=false:=by simpa using k0_inc
 have J:=fS k0_inc;by_cases k0_g:x.g=y.g
 case neg=>
  have ay:(x.g !=y.g)=true:=by simpa using k0_g
  have c:=fS (show decide (x=y)=false from ia (fun e=>k0_g (by rw[e])));clear k0_id k0_up k0_inc k0_g;go_wp2_with fail;go_ret;exact⟨by rw[c.out];rfl,j⟩
 have ay:(x.g !=y.g)=false:=by simpa using k0_g
 have ax:=fS k0_g;clear k0_id k0_up k0_inc k0_g;go_wp2_with fail;generalize (w.alloc (.cells #[x.id,x.up,x.inc,x.g,.slice R x.lanes.length c1,.slice S x.kept.length c2,.slice T x.outs.length c3,x.led,x.version,.slice U x.views.length c4,.slice V x.known.length c5,x.round,x.low] 57)).alloc (.cells #[y.id,y.up,y.inc,y.g,.slice X y.lanes.length d1,.slice Y y.kept.length d2,.slice Z y.outs.length d3,y.led,y.version,.slice B4 y.views.length d4,.slice B5 y.known.length d5,y.round,y.low] 57)=W at*;obtain⟨t0,aq⟩:∃t,decide (x.lanes=y.lanes)=t:=⟨_,rfl⟩;refine(AD _ _ x.lanes y.lanes F _ (g1.la.below j) (g2.la.below j)).mono ?_;rintro q w0 ⟨rfl,D⟩;have o:=fU j D (Below.size j)
 (try rw[aq])
 have v:=fS aq;have d:=fu D (fx a) a;have f:=fu D (fx b) b;clear aq a b D;have a:=d;have b:=f;clear d f;have bg:=kU a;have bh:=mc a;have bi:=mM a;have bj:=mS a;have bk:=mN a;have bl:=nD a;have bm:=nE a;have bn:=om a;have bo:=ot a;have bp:=sA a;have aH:=md a;have aI:=rj a;have aJ:=rk a;have b5:=kU b;have b6:=mc b;have b7:=mM b;have b8:=mS b;have b9:=mN b;have b':=nD b;have ca:=nE b;have cb:=om b;have cc:=ot b;have cd:=sA b;have aW:=md b;have aX:=rj b;have aY:=rk b;apply_assumption;by_cases g0:t0=true
 case neg=>
  have g0':t0=false:=by simpa using g0
  have c:=fS (show decide (x=y)=false from ia (fun e=>by have i:=v.out;rw[g0',decide_eq_false_iff_not] at i;exact i (by rw[e])));clear g0 v;subst g0';go_wp2_with fail;go_ret;exact⟨by rw[c.out];rfl,o⟩
 have E0:=fS (show x.lanes=y.lanes from of_decide_eq_true (v.out.trans g0));clear v;subst g0;go_wp2_with fail;obtain⟨t1,ar⟩:∃t,decide (x.kept=y.kept)=t:=⟨_,rfl⟩;refine(oX _ _ x.kept y.kept F _ (g1.ke.below o) (g2.ke.below o)).mono ?_;rintro q w1 ⟨rfl,E⟩;have p:=fU o E (Below.size o)
 (try rw[ar])
 have z:=fS ar;have d:=fu E (fx a) a;have f:=fu E (fx b) b;clear ar a b E;have a:=d;have b:=f;clear d f;have bq:=kU a;have br:=mc a;have bs:=mM a;have bt:=mS a;have bu:=mN a;have bv:=nD a;have bw:=nE a;have bx:=om a;have bz:=ot a;have bA:=sA a;have aK:=md a;have aL:=rj a;have aM:=rk a;have ce:=kU b;have cf:=mc b;have cg:=mM b;have ch:=mS b;have ci:=mN b;have cj:=nD b;have ck:=nE b;have cl:=om b;have cm:=ot b;have cn:=sA b;have aZ:=md b;have a0:=rj b;have a1:=rk b;apply_assumption;by_cases g1:t1=true
 case neg=>
  have g1':t1=false:=by simpa using g1
  have c:=fS (show decide (x=y)=false from ia (fun e=>by have i:=z.out;rw[g1',decide_eq_false_iff_not] at i;exact i (by rw[e])));clear g1 z;subst g1';go_wp2_with fail;go_ret;exact⟨by rw[c.out];rfl,p⟩
 have E1:=fS (show x.kept=y.kept from of_decide_eq_true (z.out.trans g1));clear z;subst g1;go_wp2_with fail;obtain⟨t2,au⟩:∃t,decide (x.outs=y.outs)=t:=⟨_,rfl⟩;refine(rF _ _ x.outs y.outs F _ (g1.ou.below p) (g2.ou.below p)).mono ?_;rintro q w2 ⟨rfl,G⟩;have k:=fU p G (Below.size p)
 (try rw[au])
 have A:=fS au;have d:=fu G (fx a) a;have f:=fu G (fx b) b;clear au a b G;have a:=d;have b:=f;clear d f;have bB:=kU a;have bC:=mc a;have bD:=mM a;have bE:=mS a;have bF:=mN a;have bG:=nD a;have bH:=nE a;have bI:=om a;have bJ:=ot a;have bK:=sA a;have aN:=md a;have aO:=rj a;have aP:=rk a;have co:=kU b;have cp:=mc b;have cq:=mM b;have cr:=mS b;have cs:=mN b;have ct:=nD b;have cu:=nE b;have cv:=om b;have cw:=ot b;have cx:=sA b;have a2:=md b;have a3:=rj b;have a4:=rk b;apply_assumption;by_cases g2:t2=true
 case neg=>
  have g2':t2=false:=by simpa using g2
  have c:=fS (show decide (x=y)=false from ia (fun e=>by have i:=A.out;rw[g2',decide_eq_false_iff_not] at i;exact i (by rw[e])));clear g2 A;subst g2';go_wp2_with fail;go_ret;exact⟨by rw[c.out];rfl,k⟩
 have E2:=fS (show x.outs=y.outs from of_decide_eq_true (A.out.trans g2));clear A;subst g2;by_cases k3_led:x.led=y.led
 case neg=>
  have P:(x.led !=y.led)=true:=by simpa using k3_led
  have c:=fS (show decide (x=y)=false from ia (fun e=>k3_led (by rw[e])));clear k3_led;go_wp2_with fail;go_ret;exact⟨by rw[c.out];rfl,k⟩
 have P:(x.led !=y.led)=false:=by simpa using k3_led
 have L:=fS k3_led;by_cases k3_version:x.version=y.version
 case neg=>
  have m:(x.version !=y.version)=true:=by simpa using k3_version
  have c:=fS (show decide (x=y)=false from ia (fun e=>k3_version (by rw[e])));clear k3_led k3_version;go_wp2_with fail;go_ret;exact⟨by rw[c.out];rfl,k⟩
 have m:(x.version !=y.version)=false:=by simpa using k3_version
 have l:=fS k3_version;clear k3_led k3_version;go_wp2_with fail;obtain⟨t3,av⟩:∃t,decide (x.views=y.views)=t:=⟨_,rfl⟩;refine(AH _ _ x.views y.views F _ (g1.vi.below k) (g2.vi.below k)).mono ?_;rintro q w3 ⟨rfl,H⟩;have r:=fU k H (Below.size k)
 (try rw[av])
 have B:=fS av;have d:=fu H (fx a) a;have f:=fu H (fx b) b;clear av a b H;have a:=d;have b:=f;clear d f;have bL:=kU a;have bM:=mc a;have bN:=mM a;have bO:=mS a;have bP:=mN a;have bQ:=nD a;have bR:=nE a;have bS:=om a;have bT:=ot a;have bU:=sA a;have aQ:=md a;have aR:=rj a;have aS:=rk a;have cy:=kU b;have cz:=mc b;have cA:=mM b;have cB:=mS b;have cC:=mN b;have cD:=nD b;have cE:=nE b;have cF:=om b;have cG:=ot b;have cH:=sA b;have a5:=md b;have a6:=rj b;have a7:=rk b;apply_assumption;by_cases g3:t3=true
 case neg=>
  have g3':t3=false:=by simpa using g3
  have c:=fS (show decide (x=y)=false from ia (fun e=>by have i:=B.out;rw[g3',decide_eq_false_iff_not] at i;exact i (by rw[e])));clear g3 B;subst g3';go_wp2_with fail;go_ret;exact⟨by rw[c.out];rfl,r⟩
 have E3:=fS (show x.views=y.views from of_decide_eq_true (B.out.trans g3));clear B;subst g3;go_wp2_with fail;obtain⟨t4,aw⟩:∃t,decide (x.known=y.known)=t:=⟨_,rfl⟩;refine(t6 _ _ x.known y.known F _ (g1.kn.below r) (g2.kn.below r)).mono ?_;rintro q w4 ⟨rfl,I⟩;have u:=fU r I (Below.size r)
 (try rw[aw])
 have C:=fS aw;have d:=fu I (fx a) a;have f:=fu I (fx b) b;clear aw a b I;have a:=d;have b:=f;clear d f;have bV:=kU a;have bW:=mc a;have bX:=mM a;have bY:=mS a;have bZ:=mN a;have b0:=nD a;have b1:=nE a;have b2:=om a;have b3:=ot a;have b4:=sA a;have aT:=md a;have aU:=rj a;have aV:=rk a;have cI:=kU b;have cJ:=mc b;have cK:=mM b;have cL:=mS b;have cM:=mN b;have cN:=nD b;have cO:=nE b;have cP:=om b;have cQ:=ot b;have cR:=sA b;have a8:=md b;have a9:=rj b;have a':=rk b;apply_assumption;by_cases g4:t4=true
 case neg=>
  have g4':t4=false:=by simpa using g4
  have c:=fS (show decide (x=y)=false from ia (fun e=>by have i:=C.out;rw[g4',decide_eq_false_iff_not] at i;exact i (by rw[e])));clear g4 C;subst g4';go_wp2_with fail;go_ret;exact⟨by rw[c.out];rfl,u⟩
 have E4:=fS (show x.known=y.known from of_decide_eq_true (C.out.trans g4));clear C;subst g4;by_cases k5_round:x.round=y.round
 case neg=>
  have s:(x.round !=y.round)=true:=by simpa using k5_round
  have c:=fS (show decide (x=y)=false from ia (fun e=>k5_round (by rw[e])));clear k5_round;go_wp2_with fail;go_ret;exact⟨by rw[c.out];rfl,u⟩
 have s:(x.round !=y.round)=false:=by simpa using k5_round
 have n:=fS k5_round;by_cases k5_low:x.low=y.low
 case neg=>
  have Q:(x.low !=y.low)=true:=by simpa using k5_low
  have c:=fS (show decide (x=y)=false from ia (fun e=>k5_low (by rw[e])));clear k5_round k5_low;go_wp2_with fail;go_ret;exact⟨by rw[c.out];rfl,u⟩
 have Q:(x.low !=y.low)=false:=by simpa using k5_low
 have M:=fS k5_low;clear k5_round k5_low;have c:=fS (show decide (x=y)=true from iW (Du ac.out ad.out J.out ax.out E0.out E1.out E2.out L.out l.out E3.out E4.out n.out M.out));go_wp2_with fail;go_ret;exact⟨by rw[c.out];rfl,u⟩
end Go.Proofs.YtlndjfflhegkdaaGreatDoor
