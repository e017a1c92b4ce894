/- Parts of the proof: Td4, Nf3. -/
import Derived.Test.YtlndjfflhegkdaaGreatDoorQ22
import Derived.Test.YtlndjfflhegkdaaGreatDoorQ32
set_option linter.unusedVariables false
set_option linter.unusedSimpArgs false
set_option linter.unusedSectionVars false
set_option maxHeartbeats 4000000
set_option maxRecDepth 100000
namespace Go.Proofs.YtlndjfflhegkdaaGreatDoor
open Go.RowKit
theorem DV {x y:iD} (h0:x.kind=y.kind) (h1:x.from_=y.from_) (h2:x.dest=y.dest) (h3:x.inc=y.inc) (h4:x.version=y.version) (h5:x.round=y.round) (h6:x.g=y.g) (h7:x.incs=y.incs) (h8:x.versions=y.versions) (h9:x.events=y.events) (h10:x.outs=y.outs):x=y:=by cases x;cases y;simp_all
theorem ED {x y:oR} (h0:x.round=y.round) (h1:x.ones=y.ones) (h2:x.twos=y.twos) (h3:x.outs=y.outs):x=y:=by cases x;cases y;simp_all
theorem DL {x y:lB} (h0:x.time=y.time) (h1:x.apps=y.apps) (h2:x.nodes=y.nodes) (h3:x.radio=y.radio) (h4:x.hub=y.hub) (h5:x.sink=y.sink):x=y:=by cases x;cases y;simp_all
theorem Cc (x y:iD) (vi vj ve vo ui uj ue uo:Value) (F:Nat→Prop) (w:World) (g1:ks w F vi vj ve vo x) (g2:ks w F ui uj ue uo y):
  Calls Tryz.prog 49 #[.agg #[x.kind,x.from_,x.dest,x.inc,x.version,x.round,x.g,vi,vj,ve,vo],.agg #[y.kind,y.from_,y.dest,y.inc,y.version,y.round,y.g,ui,uj,ue,uo]] w fun q w' =>q= .returned (.bool (decide (x=y)))∧Below w.heap.size w w':=by
 obtain⟨P,Y,rfl,-⟩:=g1.ic.shape;obtain⟨Q,Z,rfl,-⟩:=g1.vs.shape;obtain⟨R,c3,rfl,-⟩:=g1.ev.shape;obtain⟨S,c4,rfl,-⟩:=g1.ou.shape;obtain⟨T,d1,rfl,-⟩:=g2.ic.shape;obtain⟨U,d2,rfl,-⟩:=g2.vs.shape;obtain⟨V,d3,rfl,-⟩:=g2.ev.shape;obtain⟨X,d4,rfl,-⟩:=g2.ou.shape;have d:Below w.heap.size w ((w.alloc (.cells #[x.kind,x.from_,x.dest,x.inc,x.version,x.round,x.g,.slice P x.incs.length Y,.slice Q x.versions.length Z,.slice R x.events.length c3,.slice S x.outs.length c4] 88)).alloc (.cells #[y.kind,y.from_,y.dest,y.inc,y.version,y.round,y.g,.slice T y.incs.length d1,.slice U y.versions.length d2,.slice V y.events.length d3,.slice X y.outs.length d4] 88)):=gs (gs (gM w.heap.size w) _) _;have a:((w.alloc (.cells #[x.kind,x.from_,x.dest,x.inc,x.version,x.round,x.g,.slice P x.incs.length Y,.slice Q x.versions.length Z,.slice R x.events.length c3,.slice S x.outs.length c4] 88)).alloc (.cells #[y.kind,y.from_,y.dest,y.inc,y.version,y.round,y.g,.slice T y.incs.length d1,.slice U y.versions.length d2,.slice V y.events.length d3,.slice X y.outs.length d4] 88)).heap[w.heap.size]? =some (.cells #[x.kind,x.from_,x.dest,x.inc,x.version,x.round,x.g,.slice P x.incs.length Y,.slice Q x.versions.length Z,.slice R x.events.length c3,.slice S x.outs.length c4] 88):=(gP sm).trans (gL rfl);have b:((w.alloc (.cells #[x.kind,x.from_,x.dest,x.inc,x.version,x.round,x.g,.slice P x.incs.length Y,.slice Q x.versions.length Z,.slice R x.events.length c3,.slice S x.outs.length c4] 88)).alloc (.cells #[y.kind,y.from_,y.dest,y.inc,y.version,y.round,y.g,.slice T y.incs.length d1,.slice U y.versions.length d2,.slice V y.events.length d3,.slice X y.outs.length d4] 88)).heap[w.heap.size+1]? =some (.cells #[y.kind,y.from_,y.dest,y.inc,y.version,y.round,y.g,.slice T y.incs.length d1,.slice U y.versions.length d2,.slice V y.events.length d3,.slice X y.outs.length d4] 88):=gL sm;go_enter Tryz.func49,Tryz.ntmps49;by_cases k0_kind:x.kind=y.kind
 case neg=>
  have B:(x.kind !=y.kind)=true:=by simpa using k0_kind
  have c:=fS (show decide (x=y)=false from ia (fun e=>k0_kind (by rw[e])));clear k0_kind;go_wp2_with fail;go_ret;exact⟨by rw[c.out];rfl,d⟩
 have B:(x.kind !=y.kind)=false:=by simpa using k0_kind
 have z:=fS k0_kind;by_cases k0_from_:x.from_=y.from_
 case neg=>
  have s:(x.from_ !=y.from_)=true:=by simpa using k0_from_
  have c:=fS (show decide (x=y)=false from ia (fun e=>k0_from_ (by rw[e])));clear k0_kind k0_from_;go_wp2_with fail;go_ret;exact⟨by rw[c.out];rfl,d⟩
 have s:(x.from_ !=y.from_)=false:=by simpa using k0_from_
 have m:=fS k0_from_;by_cases k0_dest:x.dest=y.dest
 case neg=>
  have A:(x.dest !=y.dest)=true:=by simpa using k0_dest
  have c:=fS (show decide (x=y)=false from ia (fun e=>k0_dest (by rw[e])));clear k0_kind k0_from_ k0_dest;go_wp2_with fail;go_ret;exact⟨by rw[c.out];rfl,d⟩
 have A:(x.dest !=y.dest)=false:=by simpa using k0_dest
 have v:=fS k0_dest;by_cases k0_inc:x.inc=y.inc
 case neg=>
  have O:(x.inc !=y.inc)=true:=by simpa using k0_inc
  have c:=fS (show decide (x=y)=false from ia (fun e=>k0_inc (by rw[e])));clear k0_kind k0_from_ k0_dest k0_inc;go_wp2_with fail;go_ret;exact⟨by rw[c.out];rfl,d⟩
 have O:(x.inc !=y.inc)=false:=by simpa using k0_inc
 have M:=fS k0_inc;by_cases k0_version:x.version=y.version
 case neg=>
  have l:(x.version !=y.version)=true:=by simpa using k0_version
  have c:=fS (show decide (x=y)=false from ia (fun e=>k0_version (by rw[e])));clear k0_kind k0_from_ k0_dest k0_inc k0_version;go_wp2_with fail;go_ret;exact⟨by rw[c.out];rfl,d⟩
 have l:(x.version !=y.version)=false:=by simpa using k0_version
 have k:=fS k0_version;by_cases k0_round:x.round=y.round
 case neg=>
  have u:(x.round !=y.round)=true:=by simpa using k0_round
  have c:=fS (show decide (x=y)=false from ia (fun e=>k0_round (by rw[e])));clear k0_kind k0_from_ k0_dest k0_inc k0_version k0_round;go_wp2_with fail;go_ret;exact⟨by rw[c.out];rfl,d⟩
 have u:(x.round !=y.round)=false:=by simpa using k0_round
 have n:=fS k0_round;by_cases k0_g:x.g=y.g
 case neg=>
  have al:(x.g !=y.g)=true:=by simpa using k0_g
  have c:=fS (show decide (x=y)=false from ia (fun e=>k0_g (by rw[e])));clear k0_kind k0_from_ k0_dest k0_inc k0_version k0_round k0_g;go_wp2_with fail;go_ret;exact⟨by rw[c.out];rfl,d⟩
 have al:(x.g !=y.g)=false:=by simpa using k0_g
 have ak:=fS k0_g;clear k0_kind k0_from_ k0_dest k0_inc k0_version k0_round k0_g;go_wp2_with fail;generalize (w.alloc (.cells #[x.kind,x.from_,x.dest,x.inc,x.version,x.round,x.g,.slice P x.incs.length Y,.slice Q x.versions.length Z,.slice R x.events.length c3,.slice S x.outs.length c4] 88)).alloc (.cells #[y.kind,y.from_,y.dest,y.inc,y.version,y.round,y.g,.slice T y.incs.length d1,.slice U y.versions.length d2,.slice V y.events.length d3,.slice X y.outs.length d4] 88)=W at*;obtain⟨t0,ag⟩:∃t,decide (x.incs=y.incs)=t:=⟨_,rfl⟩;refine(t6 _ _ x.incs y.incs F _ (g1.ic.below d) (g2.ic.below d)).mono ?_;rintro q w0 ⟨rfl,H⟩;have o:=fU d H (Below.size d)
 (try rw[ag])
 have C:=fS ag;have f:=fu H (fx a) a;have i:=fu H (fx b) b;clear ag a b H;have a:=f;have b:=i;clear f i;have aH:=kU a;have aI:=mc a;have aJ:=mM a;have aK:=mS a;have aL:=mN a;have aM:=nD a;have aN:=nE a;have aO:=om a;have aP:=ot a;have aQ:=sA a;have av:=md a;have bl:=kU b;have bm:=mc b;have bn:=mM b;have bo:=mS b;have bp:=mN b;have bq:=nD b;have br:=nE b;have bs:=om b;have bt:=ot b;have bu:=sA b;have az:=md b;apply_assumption;by_cases g0:t0=true
 case neg=>
  have g0':t0=false:=by simpa using g0
  have c:=fS (show decide (x=y)=false from ia (fun e=>by have j:=C.out;rw[g0',decide_eq_false_iff_not] at j;exact j (by rw[e])));clear g0 C;subst g0';go_wp2_with fail;go_ret;exact⟨by rw[c.out];rfl,o⟩
 have E0:=fS (show x.incs=y.incs from of_decide_eq_true (C.out.trans g0));clear C;subst g0;go_wp2_with fail;obtain⟨t1,ah⟩:∃t,decide (x.versions=y.versions)=t:=⟨_,rfl⟩;refine(t6 _ _ x.versions y.versions F _ (g1.vs.below o) (g2.vs.below o)).mono ?_;rintro q w1 ⟨rfl,I⟩;have p:=fU o I (Below.size o)
 (try rw[ah])
 have D:=fS ah;have f:=fu I (fx a) a;have i:=fu I (fx b) b;clear ah a b I;have a:=f;have b:=i;clear f i;have aR:=kU a;have aS:=mc a;have aT:=mM a;have aU:=mS a;have aV:=mN a;have aW:=nD a;have aX:=nE a;have aY:=om a;have aZ:=ot a;have a0:=sA a;have aw:=md a;have bv:=kU b;have bw:=mc b;have bx:=mM b;have bz:=mS b;have bA:=mN b;have bB:=nD b;have bC:=nE b;have bD:=om b;have bE:=ot b;have bF:=sA b;have aA:=md b;apply_assumption;by_cases g1:t1=true
 case neg=>
  have g1':t1=false:=by simpa using g1
  have c:=fS (show decide (x=y)=false from ia (fun e=>by have j:=D.out;rw[g1',decide_eq_false_iff_not] at j;exact j (by rw[e])));clear g1 D;subst g1';go_wp2_with fail;go_ret;exact⟨by rw[c.out];rfl,p⟩
 have E1:=fS (show x.versions=y.versions from of_decide_eq_true (D.out.trans g1));clear D;subst g1;go_wp2_with fail;obtain⟨t2,ai⟩:∃t,decide (x.events=y.events)=t:=⟨_,rfl⟩;refine(oX _ _ x.events y.events F _ (g1.ev.below p) (g2.ev.below p)).mono ?_;rintro q w2 ⟨rfl,J⟩;have r:=fU p J (Below.size p)
 (try rw[ai])
 have E:=fS ai;have f:=fu J (fx a) a;have i:=fu J (fx b) b;clear ai a b J;have a:=f;have b:=i;clear f i;have a1:=kU a;have a2:=mc a;have a3:=mM a;have a4:=mS a;have a5:=mN a;have a6:=nD a;have a7:=nE a;have a8:=om a;have a9:=ot a;have a':=sA a;have ax:=md a;have bG:=kU b;have bH:=mc b;have bI:=mM b;have bJ:=mS b;have bK:=mN b;have bL:=nD b;have bM:=nE b;have bN:=om b;have bO:=ot b;have bP:=sA b;have aB:=md b;apply_assumption;by_cases g2:t2=true
 case neg=>
  have g2':t2=false:=by simpa using g2
  have c:=fS (show decide (x=y)=false from ia (fun e=>by have j:=E.out;rw[g2',decide_eq_false_iff_not] at j;exact j (by rw[e])));clear g2 E;subst g2';go_wp2_with fail;go_ret;exact⟨by rw[c.out];rfl,r⟩
 have E2:=fS (show x.events=y.events from of_decide_eq_true (E.out.trans g2));clear E;subst g2;go_wp2_with fail;obtain⟨t3,aj⟩:∃t,decide (x.outs=y.outs)=t:=⟨_,rfl⟩;refine(rF _ _ x.outs y.outs F _ (g1.ou.below r) (g2.ou.below r)).mono ?_;rintro q w3 ⟨rfl,L⟩;have ao:=fU r L (Below.size r)
 (try rw[aj])
 have G:=fS aj;have f:=fu L (fx a) a;have i:=fu L (fx b) b;clear aj a b L;have a:=f;have b:=i;clear f i;have ba:=kU a;have bb:=mc a;have bc:=mM a;have bd:=mS a;have bf:=mN a;have bg:=nD a;have bh:=nE a;have bi:=om a;have bj:=ot a;have bk:=sA a;have ay:=md a;have bQ:=kU b;have bR:=mc b;have bS:=mM b;have bT:=mS b;have bU:=mN b;have bV:=nD b;have bW:=nE b;have bX:=om b;have bY:=ot b;have bZ:=sA b;have aC:=md b;apply_assumption;by_cases g3:t3=true
 case neg=>
  have g3':t3=false:=by simpa using g3
  have c:=fS (show decide (x=y)=false from ia (fun e=>by have j:=G.out;rw[g3',decide_eq_false_iff_not] at j;exact j (by rw[e])));clear g3 G;subst g3';go_wp2_with fail;go_ret;exact⟨by rw[c.out];rfl,ao⟩
 have E3:=fS (show x.outs=y.outs from of_decide_eq_true (G.out.trans g3));clear G;subst g3;have c:=fS (show decide (x=y)=true from iW (DV z.out m.out v.out M.out k.out n.out ak.out E0.out E1.out E2.out E3.out));go_wp2_with fail;go_ret;exact⟨by rw[c.out];rfl,ao⟩
theorem qq (v0 v1:Value) (xs ys:List iD) (F:Nat→Prop) (w:World) (h0:Rd mK w F v0 xs) (h1:Rd mK w F v1 ys):
  Calls Tryz.prog 25 #[v0,v1] w fun q w' =>q= .returned (.bool (decide (xs=ys)))∧Below w.heap.size w w':=by
 obtain⟨A0,c0,rfl,-,l0,-⟩:=id h0;obtain⟨A1,c1,rfl,-,l1,-⟩:=id h1;by_cases hl:xs.length=ys.length
 ·have r:(((xs.length:Nat):Int) !=((ys.length:Nat):Int))=false:=by simp[hl]
  have m:=fS hl;clear hl;go_enter Tryz.func25,Tryz.ntmps25;go_wp2_with fail
  go_loopw [5] (fun i wr=>∃k:Nat,i= .int .i64 k∧k≤xs.length∧Hid (xs.take k=ys.take k)∧Below w.heap.size w wr) (fun i _=>xs.length-(intOf i).toNat)
  case atStart=>exact⟨0,rfl,j8 _,rfl,gM _ _⟩
  case round=>
   obtain⟨k,rfl,hk,g,f⟩:=hrel;by_cases hlt:k<xs.length
   ·have b:k<ys.length:=by rw[←m.out];exact hlt
    have s:=h0.below f;have u:=h1.below f;obtain⟨b0,P,y,A,v,C,rfl,_,⟨R,S,T,U,V,W,X⟩,⟨Y,Z,aa,ab⟩,c⟩:=lq s k hlt;obtain⟨B0,E,rfl,-⟩:=c.ic.shape;obtain⟨B1,G,rfl,-⟩:=c.vs.shape;obtain⟨B2,H,rfl,-⟩:=c.ev.shape;obtain⟨B3,I,rfl,-⟩:=c.ou.shape;obtain⟨b1,Q,z,B,x,D,rfl,_,⟨ac,ad,ae,af,ag,ah,ai⟩,⟨aj,ak,al,am⟩,d⟩:=lq u k b;obtain⟨D0,J,rfl,-⟩:=d.ic.shape;obtain⟨D1,L,rfl,-⟩:=d.vs.shape;obtain⟨D2,M,rfl,-⟩:=d.ev.shape;obtain⟨D3,O,rfl,-⟩:=d.ou.shape;have p0:(k:Int)<(xs.length:Int):=fT;have p1:(k:Int)<(ys.length:Int):=fT;obtain⟨t,p⟩:∃t,decide (xs[k]=ys[k])=t:=⟨_,rfl⟩;have l:=fS p;clear p;go_upto_region 6 with fail;refine kA [.rd [0,1,2,3,4,5,6,7]] [8,9] ?_;refine vL ?_;intro N hN;go_wp2_with fail;refine fV (hN _ ?_);clear hN N;refine vF ?_;go_wp2_with fail;have o:=f.drew;refine(Cc xs[k] ys[k] _ _ _ _ _ _ _ _ _ _ (c.below (gM wr.heap.size wr).drew) (d.below (gM wr.heap.size wr).drew)).mono ?_;rintro q w1 ⟨rfl,n⟩;have j:=fU o n o.size;rw[l.out];apply_assumption;cases t
    case false=>
     have a:=fS (show decide (xs=ys)=false from ia (fun e=>of_decide_eq_false l.out (by simp[e])));go_wp2_with fail;go_ret;exact⟨by rw[a.out];rfl,j⟩
    case true=>
     have HS:=fS (jx g.out hlt b (of_decide_eq_true l.out));go_wp2_with fail;go_roundw
     case rel=>exact⟨k+1,by go_num,fT,HS,j⟩
     case measure=>exact ms
   ·have a:=fS (show decide (xs=ys)=true from iW (j5 g.out fT m.out))
    go_wp2_with fail;go_ret;exact⟨by rw[a.out];rfl,f⟩
 ·have r:(((xs.length:Nat):Int) !=((ys.length:Nat):Int))=true:=by rw[bne_iff_ne];omega
  have a:=fS (show decide (xs=ys)=false from ia (fun h=>hl (by simp[h])));clear hl;go_enter Tryz.func25,Tryz.ntmps25;go_wp2_with fail;go_ret;exact⟨by rw[a.out];rfl,gM _ _⟩
theorem Dh (x y:oR) (v1 v2 v3 u1 u2 u3:Value) (F:Nat→Prop) (w:World) (g1:k7 w F v1 v2 v3 x) (g2:k7 w F u1 u2 u3 y):
  Calls Tryz.prog 26 #[.agg #[x.round,v1,v2,v3],.agg #[y.round,u1,u2,u3]] w fun q w' =>q= .returned (.bool (decide (x=y)))∧Below w.heap.size w w':=by
 obtain⟨v,E,rfl,-⟩:=g1.on.shape;obtain⟨z,G,rfl,-⟩:=g1.tw.shape;obtain⟨A,H,rfl,-⟩:=g1.ou.shape;obtain⟨B,I,rfl,-⟩:=g2.on.shape;obtain⟨C,J,rfl,-⟩:=g2.tw.shape;obtain⟨D,L,rfl,-⟩:=g2.ou.shape;have f:Below w.heap.size w ((w.alloc (.cells #[x.round,.slice v x.ones.length E,.slice z x.twos.length G,.slice A x.outs.length H] 36)).alloc (.cells #[y.round,.slice B y.ones.length I,.slice C y.twos.length J,.slice D y.outs.length L] 36)):=gs (gs (gM w.heap.size w) _) _;have a:((w.alloc (.cells #[x.round,.slice v x.ones.length E,.slice z x.twos.length G,.slice A x.outs.length H] 36)).alloc (.cells #[y.round,.slice B y.ones.length I,.slice C y.twos.length J,.slice D y.outs.length L] 36)).heap[w.heap.size]? =some (.cells #[x.round,.slice v x.ones.length E,.slice z x.twos.length G,.slice A x.outs.length H] 36):=(gP sm).trans (gL rfl);have b:((w.alloc (.cells #[x.round,.slice v x.ones.length E,.slice z x.twos.length G,.slice A x.outs.length H] 36)).alloc (.cells #[y.round,.slice B y.ones.length I,.slice C y.twos.length J,.slice D y.outs.length L] 36)).heap[w.heap.size+1]? =some (.cells #[y.round,.slice B y.ones.length I,.slice C y.twos.length J,.slice D y.outs.length L] 36):=gL sm;go_enter Tryz.func26,Tryz.ntmps26;by_cases k0_round:x.round=y.round
 case neg=>
  have l:(x.round !=y.round)=true:=by simpa using k0_round
  have c:=fS (show decide (x=y)=false from ia (fun e=>k0_round (by rw[e])));clear k0_round;go_wp2_with fail;go_ret;exact⟨by rw[c.out];rfl,f⟩
 have l:(x.round !=y.round)=false:=by simpa using k0_round
 have d:=fS k0_round;clear k0_round;go_wp2_with fail;generalize (w.alloc (.cells #[x.round,.slice v x.ones.length E,.slice z x.twos.length G,.slice A x.outs.length H] 36)).alloc (.cells #[y.round,.slice B y.ones.length I,.slice C y.twos.length J,.slice D y.outs.length L] 36)=W at*;obtain⟨S,M⟩:∃t,decide (x.ones=y.ones)=t:=⟨_,rfl⟩;refine(qq _ _ x.ones y.ones F _ (g1.on.below f) (g2.on.below f)).mono ?_;rintro q w0 ⟨rfl,r⟩;have g:=fU f r (Below.size f)
 (try rw[M])
 have n:=fS M;have j:=fu r (fx a) a;have k:=fu r (fx b) b;clear M a b r;have a:=j;have b:=k;clear j k;obtain⟨Z,aa,ab,ac⟩:=Dp a;obtain⟨al,am,an,ao⟩:=Dp b;apply_assumption;by_cases Q:S=true
 case neg=>
  have g0':S=false:=by simpa using Q
  have c:=fS (show decide (x=y)=false from ia (fun e=>by have m:=n.out;rw[g0',decide_eq_false_iff_not] at m;exact m (by rw[e])));clear Q n;subst g0';go_wp2_with fail;go_ret;exact⟨by rw[c.out];rfl,g⟩
 have V:=fS (show x.ones=y.ones from of_decide_eq_true (n.out.trans Q));clear n;subst Q;go_wp2_with fail;obtain⟨T,O⟩:∃t,decide (x.twos=y.twos)=t:=⟨_,rfl⟩;refine(qq _ _ x.twos y.twos F _ (g1.tw.below g) (g2.tw.below g)).mono ?_;rintro q w1 ⟨rfl,s⟩;have i:=fU g s (Below.size g)
 (try rw[O])
 have o:=fS O;have j:=fu s (fx a) a;have k:=fu s (fx b) b;clear O a b s;have a:=j;have b:=k;clear j k;obtain⟨ad,ae,af,ag⟩:=Dp a;obtain⟨ap,aq,ar,au⟩:=Dp b;apply_assumption;by_cases g1:T=true
 case neg=>
  have g1':T=false:=by simpa using g1
  have c:=fS (show decide (x=y)=false from ia (fun e=>by have m:=o.out;rw[g1',decide_eq_false_iff_not] at m;exact m (by rw[e])));clear g1 o;subst g1';go_wp2_with fail;go_ret;exact⟨by rw[c.out];rfl,i⟩
 have X:=fS (show x.twos=y.twos from of_decide_eq_true (o.out.trans g1));clear o;subst g1;go_wp2_with fail;obtain⟨U,P⟩:∃t,decide (x.outs=y.outs)=t:=⟨_,rfl⟩;refine(qq _ _ x.outs y.outs F _ (g1.ou.below i) (g2.ou.below i)).mono ?_;rintro q w2 ⟨rfl,u⟩;have R:=fU i u (Below.size i)
 (try rw[P])
 have p:=fS P;have j:=fu u (fx a) a;have k:=fu u (fx b) b;clear P a b u;have a:=j;have b:=k;clear j k;obtain⟨ah,ai,aj,ak⟩:=Dp a;obtain⟨av,aw,ax,ay⟩:=Dp b;apply_assumption;by_cases g2:U=true
 case neg=>
  have g2':U=false:=by simpa using g2
  have c:=fS (show decide (x=y)=false from ia (fun e=>by have m:=p.out;rw[g2',decide_eq_false_iff_not] at m;exact m (by rw[e])));clear g2 p;subst g2';go_wp2_with fail;go_ret;exact⟨by rw[c.out];rfl,R⟩
 have Y:=fS (show x.outs=y.outs from of_decide_eq_true (p.out.trans g2));clear p;subst g2;have c:=fS (show decide (x=y)=true from iW (ED d.out V.out X.out Y.out));go_wp2_with fail;go_ret;exact⟨by rw[c.out];rfl,R⟩
theorem AE (v0 v1:Value) (xs ys:List gT) (F:Nat→Prop) (w:World) (h0:Rd nA w F v0 xs) (h1:Rd nA w F v1 ys):
  Calls Tryz.prog 24 #[v0,v1] w fun q w' =>q= .returned (.bool (decide (xs=ys)))∧Below w.heap.size w w':=by
 obtain⟨A0,c0,rfl,-,l0,-⟩:=id h0;obtain⟨A1,c1,rfl,-,l1,-⟩:=id h1;by_cases hl:xs.length=ys.length
 ·have r:(((xs.length:Nat):Int) !=((ys.length:Nat):Int))=false:=by simp[hl]
  have m:=fS hl;clear hl;go_enter Tryz.func24,Tryz.ntmps24;go_wp2_with fail
  go_loopw [5] (fun i wr=>∃k:Nat,i= .int .i64 k∧k≤xs.length∧Hid (xs.take k=ys.take k)∧Below w.heap.size w wr) (fun i _=>xs.length-(intOf i).toNat)
  case atStart=>exact⟨0,rfl,j8 _,rfl,gM _ _⟩
  case round=>
   obtain⟨k,rfl,hk,g,f⟩:=hrel;by_cases hlt:k<xs.length
   ·have d:k<ys.length:=by rw[←m.out];exact hlt
    have A:=h0.below f;have B:=h1.below f;obtain⟨b0,Z,E,C,J,M,H,rfl,_,ab,ac,ad,ae,af,ag,ah,ai,aj,ak,s,u,v,a⟩:=mY A k hlt;obtain⟨B0,P,rfl,-⟩:=a.la.shape;obtain⟨B1,Q,rfl,-⟩:=a.ke.shape;obtain⟨B2,R,rfl,-⟩:=a.ou.shape;obtain⟨B3,S,rfl,-⟩:=a.vi.shape;obtain⟨B4,T,rfl,-⟩:=a.kn.shape;obtain⟨b1,aa,G,D,L,O,I,rfl,_,al,am,an,ao,ap,aq,ar,au,av,aw,x,y,z,b⟩:=mY B k d;obtain⟨D0,U,rfl,-⟩:=b.la.shape;obtain⟨D1,V,rfl,-⟩:=b.ke.shape;obtain⟨D2,W,rfl,-⟩:=b.ou.shape;obtain⟨D3,X,rfl,-⟩:=b.vi.shape;obtain⟨D4,Y,rfl,-⟩:=b.kn.shape;have p0:(k:Int)<(xs.length:Int):=fT;have p1:(k:Int)<(ys.length:Int):=fT;obtain⟨t,p⟩:∃t,decide (xs[k]=ys[k])=t:=⟨_,rfl⟩;have l:=fS p;clear p;go_upto_region 6 with fail;refine kA [.rd [0,1,2,3,4,5,6,7]] [8,9] ?_;refine vL ?_;intro N hN;go_wp2_with fail;refine fV (hN _ ?_);clear hN N;refine vF ?_;go_wp2_with fail;have o:=f.drew;refine(B6 xs[k] ys[k] _ _ _ _ _ _ _ _ _ _ _ _ (a.below (gM wr.heap.size wr).drew) (b.below (gM wr.heap.size wr).drew)).mono ?_;rintro q w1 ⟨rfl,n⟩;have j:=fU o n o.size;rw[l.out];apply_assumption;cases t
    case false=>
     have c:=fS (show decide (xs=ys)=false from ia (fun e=>of_decide_eq_false l.out (by simp[e])));go_wp2_with fail;go_ret;exact⟨by rw[c.out];rfl,j⟩
    case true=>
     have HS:=fS (jx g.out hlt d (of_decide_eq_true l.out));go_wp2_with fail;go_roundw
     case rel=>exact⟨k+1,by go_num,fT,HS,j⟩
     case measure=>exact ms
   ·have c:=fS (show decide (xs=ys)=true from iW (j5 g.out fT m.out))
    go_wp2_with fail;go_ret;exact⟨by rw[c.out];rfl,f⟩
 ·have r:(((xs.length:Nat):Int) !=((ys.length:Nat):Int))=true:=by rw[bne_iff_ne];omega
  have c:=fS (show decide (xs=ys)=false from ia (fun h=>hl (by simp[h])));clear hl;go_enter Tryz.func24,Tryz.ntmps24;go_wp2_with fail;go_ret;exact⟨by rw[c.out];rfl,gM _ _⟩
theorem qL (x y:lB) (va vn vr v1 v2 v3 vs ua un ur u1 u2 u3 us:Value) (F:Nat→Prop) (w:World) (g1:kr w F va vn vr v1 v2 v3 vs x) (g2:kr w F ua un ur u1 u2 u3 us y):
  Calls Tryz.prog 8 #[.agg #[x.time,va,vn,vr,x.hub.round,v1,v2,v3,vs],.agg #[y.time,ua,un,ur,y.hub.round,u1,u2,u3,us]] w fun q w' =>q= .returned (.bool (decide (x=y)))∧Below w.heap.size w w':=by
 obtain⟨E,V,rfl,-⟩:=g1.ap.shape;obtain⟨G,X,rfl,-⟩:=g1.no.shape;obtain⟨H,Y,rfl,-⟩:=g1.ra.shape;obtain⟨I,Z,rfl,-⟩:=g1.hu.on.shape;obtain⟨J,c5,rfl,-⟩:=g1.hu.tw.shape;obtain⟨L,c6,rfl,-⟩:=g1.hu.ou.shape;obtain⟨M,c7,rfl,-⟩:=g1.si.shape;obtain⟨O,d1,rfl,-⟩:=g2.ap.shape;obtain⟨P,d2,rfl,-⟩:=g2.no.shape;obtain⟨Q,d3,rfl,-⟩:=g2.ra.shape;obtain⟨R,d4,rfl,-⟩:=g2.hu.on.shape;obtain⟨S,d5,rfl,-⟩:=g2.hu.tw.shape;obtain⟨T,d6,rfl,-⟩:=g2.hu.ou.shape;obtain⟨U,d7,rfl,-⟩:=g2.si.shape;have i:Below w.heap.size w ((w.alloc (.cells #[x.time,.slice E x.apps.length V,.slice G x.nodes.length X,.slice H x.radio.length Y,x.hub.round,.slice I x.hub.ones.length Z,.slice J x.hub.twos.length c5,.slice L x.hub.outs.length c6,.slice M x.sink.length c7] 39)).alloc (.cells #[y.time,.slice O y.apps.length d1,.slice P y.nodes.length d2,.slice Q y.radio.length d3,y.hub.round,.slice R y.hub.ones.length d4,.slice S y.hub.twos.length d5,.slice T y.hub.outs.length d6,.slice U y.sink.length d7] 39)):=gs (gs (gM w.heap.size w) _) _;have a:((w.alloc (.cells #[x.time,.slice E x.apps.length V,.slice G x.nodes.length X,.slice H x.radio.length Y,x.hub.round,.slice I x.hub.ones.length Z,.slice J x.hub.twos.length c5,.slice L x.hub.outs.length c6,.slice M x.sink.length c7] 39)).alloc (.cells #[y.time,.slice O y.apps.length d1,.slice P y.nodes.length d2,.slice Q y.radio.length d3,y.hub.round,.slice R y.hub.ones.length d4,.slice S y.hub.twos.length d5,.slice T y.hub.outs.length d6,.slice U y.sink.length d7] 39)).heap[w.heap.size]? =some (.cells #[x.time,.slice E x.apps.length V,.slice G x.nodes.length X,.slice H x.radio.length Y,x.hub.round,.slice I x.hub.ones.length Z,.slice J x.hub.twos.length c5,.slice L x.hub.outs.length c6,.slice M x.sink.length c7] 39):=(gP sm).trans (gL rfl);have b:((w.alloc (.cells #[x.time,.slice E x.apps.length V,.slice G x.nodes.length X,.slice H x.radio.length Y,x.hub.round,.slice I x.hub.ones.length Z,.slice J x.hub.twos.length c5,.slice L x.hub.outs.length c6,.slice M x.sink.length c7] 39)).alloc (.cells #[y.time,.slice O y.apps.length d1,.slice P y.nodes.length d2,.slice Q y.radio.length d3,y.hub.round,.slice R y.hub.ones.length d4,.slice S y.hub.twos.length d5,.slice T y.hub.outs.length d6,.slice U y.sink.length d7] 39)).heap[w.heap.size+1]? =some (.cells #[y.time,.slice O y.apps.length d1,.slice P y.nodes.length d2,.slice Q y.radio.length d3,y.hub.round,.slice R y.hub.ones.length d4,.slice S y.hub.twos.length d5,.slice T y.hub.outs.length d6,.slice U y.sink.length d7] 39):=gL sm;go_enter Tryz.func8,Tryz.ntmps8;by_cases k0_time:x.time=y.time
 case neg=>
  have o:(x.time !=y.time)=true:=by simpa using k0_time
  have g:=fS (show decide (x=y)=false from ia (fun e=>k0_time (by rw[e])));clear k0_time;go_wp2_with fail;go_ret;exact⟨by rw[g.out];rfl,i⟩
 have o:(x.time !=y.time)=false:=by simpa using k0_time
 have n:=fS k0_time;clear k0_time;go_wp2_with fail;generalize (w.alloc (.cells #[x.time,.slice E x.apps.length V,.slice G x.nodes.length X,.slice H x.radio.length Y,x.hub.round,.slice I x.hub.ones.length Z,.slice J x.hub.twos.length c5,.slice L x.hub.outs.length c6,.slice M x.sink.length c7] 39)).alloc (.cells #[y.time,.slice O y.apps.length d1,.slice P y.nodes.length d2,.slice Q y.radio.length d3,y.hub.round,.slice R y.hub.ones.length d4,.slice S y.hub.twos.length d5,.slice T y.hub.outs.length d6,.slice U y.sink.length d7] 39)=W at*;obtain⟨t0,ak⟩:∃t,decide (x.apps=y.apps)=t:=⟨_,rfl⟩;refine(BY _ _ x.apps y.apps F _ (g1.ap.below i) (g2.ap.below i)).mono ?_;rintro q w0 ⟨rfl,z⟩;have j:=fU i z (Below.size i)
 (try rw[ak])
 have p:=fS ak;have c:=fu z (fx a) a;have d:=fu z (fx b) b;clear ak a b z;have a:=c;have b:=d;clear c d;have aG:=kU a;have aH:=mc a;have aI:=mM a;have aJ:=mS a;have aK:=mN a;have aL:=nD a;have aM:=nE a;have aN:=om a;have aO:=ot a;have bp:=kU b;have bq:=mc b;have br:=mM b;have bs:=mS b;have bt:=mN b;have bu:=nD b;have bv:=nE b;have bw:=om b;have bx:=ot b;apply_assumption;by_cases g0:t0=true
 case neg=>
  have g0':t0=false:=by simpa using g0
  have g:=fS (show decide (x=y)=false from ia (fun e=>by have f:=p.out;rw[g0',decide_eq_false_iff_not] at f;exact f (by rw[e])));clear g0 p;subst g0';go_wp2_with fail;go_ret;exact⟨by rw[g.out];rfl,j⟩
 have E0:=fS (show x.apps=y.apps from of_decide_eq_true (p.out.trans g0));clear p;subst g0;go_wp2_with fail;obtain⟨t1,al⟩:∃t,decide (x.nodes=y.nodes)=t:=⟨_,rfl⟩;refine(AE _ _ x.nodes y.nodes F _ (g1.no.below j) (g2.no.below j)).mono ?_;rintro q w1 ⟨rfl,A⟩;have k:=fU j A (Below.size j)
 (try rw[al])
 have r:=fS al;have c:=fu A (fx a) a;have d:=fu A (fx b) b;clear al a b A;have a:=c;have b:=d;clear c d;have aP:=kU a;have aQ:=mc a;have aR:=mM a;have aS:=mS a;have aT:=mN a;have aU:=nD a;have aV:=nE a;have aW:=om a;have aX:=ot a;have bz:=kU b;have bA:=mc b;have bB:=mM b;have bC:=mS b;have bD:=mN b;have bE:=nD b;have bF:=nE b;have bG:=om b;have bH:=ot b;apply_assumption;by_cases g1:t1=true
 case neg=>
  have g1':t1=false:=by simpa using g1
  have g:=fS (show decide (x=y)=false from ia (fun e=>by have f:=r.out;rw[g1',decide_eq_false_iff_not] at f;exact f (by rw[e])));clear g1 r;subst g1';go_wp2_with fail;go_ret;exact⟨by rw[g.out];rfl,k⟩
 have E1:=fS (show x.nodes=y.nodes from of_decide_eq_true (r.out.trans g1));clear r;subst g1;go_wp2_with fail;obtain⟨t2,am⟩:∃t,decide (x.radio=y.radio)=t:=⟨_,rfl⟩;refine(qq _ _ x.radio y.radio F _ (g1.ra.below k) (g2.ra.below k)).mono ?_;rintro q w2 ⟨rfl,B⟩;have l:=fU k B (Below.size k)
 (try rw[am])
 have s:=fS am;have c:=fu B (fx a) a;have d:=fu B (fx b) b;clear am a b B;have a:=c;have b:=d;clear c d;have aY:=kU a;have aZ:=mc a;have a0:=mM a;have a1:=mS a;have a2:=mN a;have a3:=nD a;have a4:=nE a;have a5:=om a;have a6:=ot a;have bI:=kU b;have bJ:=mc b;have bK:=mM b;have bL:=mS b;have bM:=mN b;have bN:=nD b;have bO:=nE b;have bP:=om b;have bQ:=ot b;apply_assumption;by_cases g2:t2=true
 case neg=>
  have g2':t2=false:=by simpa using g2
  have g:=fS (show decide (x=y)=false from ia (fun e=>by have f:=s.out;rw[g2',decide_eq_false_iff_not] at f;exact f (by rw[e])));clear g2 s;subst g2';go_wp2_with fail;go_ret;exact⟨by rw[g.out];rfl,l⟩
 have E2:=fS (show x.radio=y.radio from of_decide_eq_true (s.out.trans g2));clear s;subst g2;go_wp2_with fail;obtain⟨t3,an⟩:∃t,decide (x.hub=y.hub)=t:=⟨_,rfl⟩;refine(Dh x.hub y.hub _ _ _ _ _ _ F _ (g1.hu.below l) (g2.hu.below l)).mono ?_;rintro q w3 ⟨rfl,C⟩;have m:=fU l C (Below.size l)
 (try rw[an])
 have u:=fS an;have c:=fu C (fx a) a;have d:=fu C (fx b) b;clear an a b C;have a:=c;have b:=d;clear c d;have a7:=kU a;have a8:=mc a;have a9:=mM a;have a':=mS a;have ba:=mN a;have bb:=nD a;have bc:=nE a;have bd:=om a;have bf:=ot a;have bR:=kU b;have bS:=mc b;have bT:=mM b;have bU:=mS b;have bV:=mN b;have bW:=nD b;have bX:=nE b;have bY:=om b;have bZ:=ot b;apply_assumption;by_cases g3:t3=true
 case neg=>
  have g3':t3=false:=by simpa using g3
  have g:=fS (show decide (x=y)=false from ia (fun e=>by have f:=u.out;rw[g3',decide_eq_false_iff_not] at f;exact f (by rw[e])));clear g3 u;subst g3';go_wp2_with fail;go_ret;exact⟨by rw[g.out];rfl,m⟩
 have E3:=fS (show x.hub=y.hub from of_decide_eq_true (u.out.trans g3));clear u;subst g3;go_wp2_with fail;obtain⟨t4,ao⟩:∃t,decide (x.sink=y.sink)=t:=⟨_,rfl⟩;refine(rF _ _ x.sink y.sink F _ (g1.si.below m) (g2.si.below m)).mono ?_;rintro q w4 ⟨rfl,D⟩;have av:=fU m D (Below.size m)
 (try rw[ao])
 have v:=fS ao;have c:=fu D (fx a) a;have d:=fu D (fx b) b;clear ao a b D;have a:=c;have b:=d;clear c d;have bg:=kU a;have bh:=mc a;have bi:=mM a;have bj:=mS a;have bk:=mN a;have bl:=nD a;have bm:=nE a;have bn:=om a;have bo:=ot a;have b0:=kU b;have b1:=mc b;have b2:=mM b;have b3:=mS b;have b4:=mN b;have b5:=nD b;have b6:=nE b;have b7:=om b;have b8:=ot b;apply_assumption;by_cases g4:t4=true
 case neg=>
  have g4':t4=false:=by simpa using g4
  have g:=fS (show decide (x=y)=false from ia (fun e=>by have f:=v.out;rw[g4',decide_eq_false_iff_not] at f;exact f (by rw[e])));clear g4 v;subst g4';go_wp2_with fail;go_ret;exact⟨by rw[g.out];rfl,av⟩
 have E4:=fS (show x.sink=y.sink from of_decide_eq_true (v.out.trans g4));clear v;subst g4;have g:=fS (show decide (x=y)=true from iW (DL n.out E0.out E1.out E2.out E3.out E4.out));go_wp2_with fail;go_ret;exact⟨by rw[g.out];rfl,av⟩
theorem AP (n:gT) (vl vk vo vv vn:Value) (F:Nat→Prop) (w:World) (h:i4 w F vl vk vo vv vn n) (hf:lX n):
  Calls Tryz.prog 112 #[.agg #[n.id,n.up,n.inc,n.g,vl,vk,vo,n.led,n.version,vv,vn,n.round,n.low]] w fun q w' =>∃u,q= .returned u∧Ow iw 91 w' (fun k=>w.heap.size≤k) u (jb n)∧Below w.heap.size w w':=by
 obtain⟨A1,c1,rfl,-⟩:=h.la.shape;obtain⟨A2,c2,rfl,-⟩:=h.ke.shape;obtain⟨A3,c3,rfl,-⟩:=h.ou.shape;obtain⟨A4,c4,rfl,-⟩:=h.vi.shape;obtain⟨A5,c5,rfl,-⟩:=h.kn.shape;obtain⟨W,hV,E,Z⟩:=nC w (.cells #[n.id,n.up,n.inc,n.g,.slice A1 n.lanes.length c1,.slice A2 n.kept.length c2,.slice A3 n.outs.length c3,n.led,n.version,.slice A4 n.views.length c4,.slice A5 n.known.length c5,n.round,n.low] 57);go_enter Tryz.func112,Tryz.ntmps112;go_upto_region 1 with fail;rw[hV.out];clear hV;replace h:=h.below E;have aa:=fx Z;obtain⟨H,I,J,L,M,O,P,Q,R,S,r,s,t⟩:=jS Z;have o:=gs (gM W.heap.size W) (.cells #[] 91);have B:Ow iw 91 (W.alloc (.cells #[] 91)) (fun k=>W.heap.size≤k) (.slice (some ⟨W.heap.size,0,none⟩) 0 0) []:=Ow.empty iw (gL rfl) (jn _);go_wp2_with (at_builtin;(refine jH rfl 49 rfl Tryz.underlying49 _ 56 jA rfl dc dc rfl B rfl (h.ke.below o) (by simp only[List.length_nil];have:=hf.kept;omega) (fun k=>W.heap.size≤k) (fun _ b=>b) (fun k b=>ly (Nat.le_of_lt sm) b) ?_);intro v9 w9 f v C);have x:=mq o v (fun k b=>B.inF b) o.size;rw[List.nil_append] at f;have aD:=fS (show jb n=n.kept++n.lanes.flatMap ko from rfl);have ai:n.kept++(n.lanes.take 0).flatMap ko=n.kept:=by simp
 have aH:=hf.lanes;clear H I J L M O P Q R S r s t o v C B
 go_loopw [3,4] (fun u i wr=>∃j:Nat,i= .int .i64 j∧j≤n.lanes.length∧Ow iw 91 wr (fun k=>W.heap.size≤k) u (n.kept++(n.lanes.take j).flatMap ko)∧Below W.heap.size W wr) (fun _ i _=>n.lanes.length-(intOf i).toNat)
 case atStart=>exact⟨0,rfl,j8 _,by rw[ai];exact f,x⟩
 case round=>
  clear f x;obtain⟨j,rfl,hj,d,a⟩:=hrel;obtain⟨l,y⟩:∃l,n.kept++(n.lanes.take j).flatMap ko=l:=⟨_,rfl⟩;rw[y] at d;have T:=fS y;have ae:=fS (show l.length≤504 by have:=xF hf j;rw[←y];exact this);clear y;obtain⟨A,c,rfl,-⟩:=d.shape;have G:=fu a aa Z;have D:=a.size;obtain⟨H,I,J,L,M,O,P,Q,R,S,r,s,t⟩:=jS G;by_cases hlt:j<n.lanes.length
  ·have p0:(j:Int)<(n.lanes.length:Int):=fT
   go_upto_region 6 with fail;clear H I J L M O P Q R S r s t G;have V:l++(n.lanes[j].done.take 0).flatMap (fun p=>p.sends)=l:=by simp
   go_loopw [3,5] (fun u i wr=>∃m:Nat,i= .int .i64 m∧m≤n.lanes[j].done.length∧Ow iw 91 wr (fun k=>W.heap.size≤k) u (l++(n.lanes[j].done.take m).flatMap (fun p=>p.sends))∧Below W.heap.size W wr) (fun _ i _=>n.lanes[j].done.length-(intOf i).toNat)
   case atStart=>exact⟨0,rfl,j8 _,by rw[V];exact d,a⟩
   case round=>
    clear d a D V;obtain⟨m,rfl,hm,d,a⟩:=hrel;have e:=hf.done n.lanes[j] (List.getElem_mem hlt);obtain⟨zs,z⟩:∃zs,l++(n.lanes[j].done.take m).flatMap (fun p=>p.sends)=zs:=⟨_,rfl⟩;rw[z] at d;have U:=fS z;have af:=fS (show zs.length≤706 by have:=ae.out;have:=pR e.1 e.2 m;rw[←z,List.length_append];omega);clear z;obtain⟨A,c,rfl,-⟩:=d.shape;have G:=fu a aa Z;have D:=a.size;obtain⟨H,I,J,L,M,O,P,Q,R,S,r,s,t⟩:=jS G;obtain⟨b0,o0,A6,c6,ag,aE,y0,y1,y2,r1⟩:=mr (h.la.below a) j hlt;subst ag;have aG:=e.1;by_cases hm2:m<n.lanes[j].done.length
    ·obtain⟨b1,o1,A7,c7,A8,c8,ah,aF,x0,x1,x2,x3,r2,r3⟩:=lM r1 m hm2
     subst ah;have p1:(m:Int)<(n.lanes[j].done.length:Int):=fT;have HF:=fS (mW (fun p:iP=>p.sends) hm2);have ad:=fS ((e.2 n.lanes[j].done[m] (List.getElem_mem hm2)).1);clear e;go_wp2_with (at_builtin;(refine jH rfl 49 rfl Tryz.underlying49 _ 56 jA rfl dc dc rfl d rfl r2 (by have:=af.out;have:=ad.out;omega) (fun k=>W.heap.size≤k) (fun _ b=>b) (fun k b=>fT) ?_);intro v9 w9 f v C);have x:=mq a v (fun k b=>d.inF b) a.size;go_roundw
     case rel=>exact⟨m+1,by go_num,fT,by rw[HF.out,←List.append_assoc,U.out];exact f,x⟩
     case measure=>exact ms
    ·have Y:m=n.lanes[j].done.length:=fT
     have HF:=fS (mW ko hlt);have p1:¬(m:Int)<(n.lanes[j].done.length:Int):=fT;have HM:=fS (show ko n.lanes[j]=(n.lanes[j].done.take m).flatMap (fun p=>p.sends) by rw[Y,li];rfl);clear Y e;go_wp2_with fail;go_roundw
     case rel=>exact⟨j+1,by go_num,fT,by rw[HF.out,HM.out,←List.append_assoc,T.out,U.out];exact d,a⟩
     case measure=>exact ms
  ·have X:j=n.lanes.length:=fT
   have HZ:=fS (show jb n=l by rw[←T.out,X,li];rfl);have p0:¬(j:Int)<(n.lanes.length:Int):=fT;clear X;go_wp2_with fail;go_ret;exact⟨_,rfl,by rw[HZ.out];exact d.mono (fun k b=>ly E.size b),fU E a E.size⟩
theorem oC (n:gT) (vl vk vo vv vn:Value) (p:Int) (F:Nat→Prop) (w:World) (h:i4 w F vl vk vo vv vn n) (hf:lX n):
  Calls Tryz.prog 68 #[.agg #[n.id,n.up,n.inc,n.g,vl,vk,vo,n.led,n.version,vv,vn,n.round,n.low],p] w fun q w' =>∃u,q= .returned u∧Ow iw 91 w' (fun k=>w.heap.size≤k) u (jq n p)∧Below w.heap.size w w':=by
 obtain⟨A1,c1,rfl,-⟩:=h.la.shape;obtain⟨A2,c2,rfl,-⟩:=h.ke.shape;obtain⟨A3,c3,rfl,-⟩:=h.ou.shape;obtain⟨A4,c4,rfl,-⟩:=h.vi.shape;obtain⟨A5,c5,rfl,-⟩:=h.kn.shape;obtain⟨W,hV,P,Z⟩:=nC w (.cells #[n.id,n.up,n.inc,n.g,.slice A1 n.lanes.length c1,.slice A2 n.kept.length c2,.slice A3 n.outs.length c3,n.led,n.version,.slice A4 n.views.length c4,.slice A5 n.known.length c5,n.round,n.low] 57);go_enter Tryz.func68,Tryz.ntmps68;go_upto_region 1 with fail;rw[hV.out];clear hV;replace h:=h.below P;have al:=fx Z;obtain⟨R,S,T,V,X,Y,d6,d7,d8,d9,B,C,D⟩:=jS Z;go_wp2_with fail;refine(AP n _ _ _ _ _ F W h hf).mono ?_;rintro q w1 ⟨u1,rfl,ai,ak⟩;apply_assumption;clear R S T V X Y d6 d7 d8 d9 B C D;go_wp2_with fail
 go_loopw [5,6] (fun u i wr=>∃j:Nat,i= .int .i64 j∧j≤3∧Ow iw 91 wr (fun k=>W.heap.size≤k) u (jb n++iY n j)∧Below W.heap.size W wr) (fun _ i _=>3-(intOf i).toNat)
 case atStart=>exact⟨0,rfl,j8 _,by simpa [iY] using ai,ak⟩
 case round=>
  clear ai ak;obtain⟨j,rfl,hj,t,m⟩:=hrel;obtain⟨a,E⟩:∃a,jb n++iY n j=a:=⟨_,rfl⟩;rw[E] at t;have s:=fS E;have x:=fS (show a.length≤804 by have h1:=pV hf;have h2:=rI hf j;rw[←E,List.length_append];omega);clear E;obtain⟨A,c,rfl,-⟩:=t.shape;have Q:=fu m al Z;have aS:=m.size;obtain⟨R,S,T,V,X,Y,d6,d7,d8,d9,B,C,D⟩:=jS Q;have a1:=fS hf.views;by_cases hlt:j<3
  ·have v:j<n.views.length:=by rw[hf.views];exact hlt
   have p0:(j:Int)<(n.views.length:Int):=fT;by_cases he:(j:Int)=n.id
   ·have e0:((j:Int) !=n.id)=false:=by simpa using he
    have HT:=fS (show iY n (j+1)=iY n j by simp only[iY];rw[if_pos he]);clear he;go_wp2_with fail;go_roundw
    case rel=>exact⟨j+1,by go_num,fT,by rw[HT.out,s.out];exact t,m⟩
    case measure=>exact ms
   ·have e0:((j:Int) !=n.id)=true:=by simpa using he
    have HT:=fS (show iY n (j+1)=iY n j++n.views[j].events by simp only[iY];rw[if_neg he,List.getD_eq_getElem?_getD,pE v];rfl);have aq:=fS (hf.evs _ (List.getElem_mem v));obtain⟨b0,o0,A6,c6,J,ax,y0,y1,y2,r1⟩:=nO (h.vi.below m) j v;subst J;clear he;go_wp2_with (at_builtin;(refine jH rfl 49 rfl Tryz.underlying49 _ 56 jA rfl dc dc rfl t rfl r1 (by have:=x.out;have:=aq.out;omega) (fun k=>W.heap.size≤k) (fun _ e=>e) (fun k e=>fT) ?_);intro v9 w9 M L an);have O:=mq m L (fun k e=>t.inF e) m.size;go_roundw
    case rel=>exact⟨j+1,by go_num,fT,by rw[HT.out,←List.append_assoc,s.out];exact M,O⟩
    case measure=>exact ms
  ·have r:j=3:=fT
   have p0:¬(j:Int)<(n.views.length:Int):=by rw[hf.views];omega
   have ar:=fS (show a=jb n++k6 n by rw[←s.out,r,k6,hf.views]);clear r hlt;go_upto_region 7 with fail;clear R S T V X Y d6 d7 d8 d9 B C D Q;obtain⟨U,hU⟩:∃U,U=wr:=⟨_,rfl⟩;have l:Below W.heap.size W U:=hU▸m;have aw:=hU▸t.rd;have a4:=l.size;go_wp2_with fail
   go_loopw [7,8] (fun u i wr=>∃k:Nat,i= .int .i64 k∧k≤a.length∧Ow iw 91 wr (fun q=>U.heap.size≤q) u ((a.take k).filter (lc n p))∧Below U.heap.size U wr) (fun _ i _=>a.length-(intOf i).toNat)
   case atStart=>subst hU;exact⟨0,rfl,j8 _,Ow.empty iw (gL rfl) (jn _),gs (gM _ _) _⟩
   case round=>
    clear t m hU;obtain⟨k,rfl,e,f,b⟩:=hrel;have a3:=x.out;obtain⟨zs,G⟩:∃zs,(a.take k).filter (lc n p)=zs:=⟨_,rfl⟩;have ah:=fS (show zs.length≤a.length by have:=wA (lc n p) a k;rw[←G];exact this);rw[G] at f;have z:=fS G;clear G;obtain⟨V2,a2,rfl,-⟩:=f.shape;have Q:=fu (fU l b l.size) al Z;obtain⟨R,S,T,V,X,Y,d6,d7,d8,d9,B,C,D⟩:=jS Q;have ao:=b.size;by_cases hlt:k<a.length
    ·have p0:(k:Int)<(a.length:Int):=fT
     obtain⟨b0,o0,J,ax,y0,y1,y2,y3,y4,y5,y6⟩:=jC (aw.below b) k hlt;subst J;have ag:=fS (wB (p:=lc n p) hlt);have H:=fS (wC (p:=lc n p) hlt);obtain⟨y,hy⟩:∃y,a[k]=y:=⟨_,rfl⟩;rw[hy] at ag H y0 y1 y2 y3 y4 y5 y6;clear hy;by_cases q1:y.to=p
     case neg=>
      have e1:(y.to==p)=false:=by simpa using q1
      have I:=fS (H.out (by simp[lc,q1]));clear q1;go_upto_region 11 with fail;refine kA [.rd [0,1,2,3,4,5,6,7,8,9,10,11,12,13,14,15]] [16] ?_;refine vL ?_;intro N hN;go_wp2_with fail;refine fV (hN _ ?_);clear hN N;refine vF ?_;have o:=fS b.drew;go_wp2_with fail;go_roundw
      case rel=>exact⟨k+1,by go_num,fT,by rw[I.out,z.out];exact f.drewN 1,o.out⟩
      case measure=>exact ms
     have e1:(y.to==p)=true:=by simpa using q1
     by_cases q2:n.g≤y.time
     case neg=>
      have e2:decide (n.g≤y.time)=false:=ia q2;have I:=fS (H.out (by simp[lc,q1,q2]));clear q1 q2;go_upto_region 11 with fail;refine kA [.rd [0,1,2,3,4,5,6,7,8,9,10,11,12,13,14,15]] [16] ?_;refine vL ?_;intro N hN;go_wp2_with fail;refine fV (hN _ ?_);clear hN N;refine vF ?_;have o:=fS b.drew;go_wp2_with fail;go_roundw
      case rel=>exact⟨k+1,by go_num,fT,by rw[I.out,z.out];exact f.drewN 1,o.out⟩
      case measure=>exact ms
     have e2:decide (n.g≤y.time)=true:=iW q2;have I:=fS (ag.out (by simp[lc,q1,q2]));clear q1 q2;go_upto_region 11 with fail;refine kA [.rd [0,1,2,3,4,5,6,7,8,9,10,11,12,13,14,15]] [16] ?_;refine vL ?_;intro N hN;go_wp2_with fail;refine fV (hN _ ?_);clear hN N;refine vF ?_;have o:=fS b.drew;have aj:=f.drewN 1;go_wp2_with (at_builtin;(refine ky (d:=iw) rfl 49 rfl Tryz.underlying49 _ 56 jA rfl dc dc rfl (aj.alloc _) y _ rfl (gL rfl) (fun _=>False) rfl (fun _ hf=>hf.elim) (fun _ hf=>hf.elim) (by have:=ah.out;have:=x.out;omega) (fun k=>U.heap.size≤k) (fun _ e=>e) (fun _ hf=>hf.elim) (fun k e=>ly ao (ly (by first|(simp;done)|(simp[World.drew,World.drewN];done)) e)) ?_);intro v9 w9 M L an);have O:=mq (gs o.out _) L (fun k e=>aj.inF e) (by simp only[lb,World.drewN,World.drew];omega);go_roundw
     case rel=>exact⟨k+1,by go_num,fT,by rw[I.out,z.out];exact M,O⟩
     case measure=>exact ms
    ·have r:k=a.length:=fT
     have HZ:=fS (show jq n p=iI ((a.take k).filter (lc n p)) by rw[r,li,ar.out];rfl);have p0:¬(k:Int)<(a.length:Int):=fT;have av:=f.rd;clear r;go_wp2_with fail;refine(sN _ zs _ _ av (by have:=ah.out;have:=x.out;omega)).mono ?_;rintro q w7 ⟨u7,rfl,au,ay⟩;apply_assumption;go_wp2_with fail;go_ret;exact⟨_,rfl,by rw[HZ.out,z.out];exact au.mono (fun k e=>ly P.size (ly l.size (ly b.size e))),fU P (fU l (fU b ay b.size) l.size) P.size⟩
end Go.Proofs.YtlndjfflhegkdaaGreatDoor
