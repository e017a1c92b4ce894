/- Parts of the proof: Td2, Te8. -/
import Derived.Test.YtlndjfflhegkdaaGreatDoorQ45
import Derived.Test.YtlndjfflhegkdaaGreatDoorQ47
set_option linter.unusedVariables false
set_option linter.unusedSimpArgs false
set_option linter.unusedSectionVars false
set_option maxHeartbeats 4000000
set_option maxRecDepth 100000
namespace Go.Proofs.YtlndjfflhegkdaaGreatDoor
open Go.RowKit
def mO (x:iD):Int:=(x.incs.length:Int)+(x.versions.length:Int)+(x.events.length:Int)+(x.outs.length:Int)
theorem qZ (x:iD):0≤mO x:=by unfold mO;omega
def tu (x:gT):Int:=((x.lanes.length:Int)+ix x.lanes)+(x.kept.length:Int)+(x.outs.length:Int)+((x.views.length:Int)+iH x.views)+(x.known.length:Int)
theorem sY (x:gT):0≤tu x:=by have:=jW x.lanes;have:=j7 x.views;unfold tu;omega
theorem CL (x:iD) (vi vj ve vo:Value) (left:Int) (F:Nat→Prop) (w:World) (h:ks w F vi vj ve vo x) (h0:0≤left) (h1:left≤1048576):
  Calls Tryz.prog 30 #[.agg #[x.kind,x.from_,x.dest,x.inc,x.version,x.round,x.g,vi,vj,ve,vo],left] w fun q w' =>q= .returned (.int .i64 (hM left ((x.incs.length:Int)+(x.versions.length:Int)+(x.events.length:Int)+(x.outs.length:Int))))∧Below w.heap.size w w':=by
 obtain⟨Y,c1,rfl,-,n1,-⟩:=id h.ic;obtain⟨A2,c2,rfl,-,n2,-⟩:=id h.vs;obtain⟨A3,c3,rfl,-,n3,-⟩:=id h.ev;obtain⟨A4,c4,rfl,-,n4,-⟩:=id h.ou;obtain⟨W,hV,P,Z⟩:=nC w (.cells #[x.kind,x.from_,x.dest,x.inc,x.version,x.round,x.g,.slice Y x.incs.length c1,.slice A2 x.versions.length c2,.slice A3 x.events.length c3,.slice A4 x.outs.length c4] 80);go_enter Tryz.func30,Tryz.ntmps30;go_wp2_with fail;rw[hV.out];clear hV;obtain⟨f,C⟩:∃t,hM left ((x.incs.length:Int))=t:=⟨_,rfl⟩;refine(vx _ x.incs.length left _ ⟨_,_,rfl⟩ n1 h0 h1).mono ?_;rintro q w1 ⟨rfl,I⟩
 (try rw[C])
 have y:=fS C;clear C;have r:=fU P I (Below.size P);have a:=fu I (fx Z) Z;have ah:=kU a;have ai:=mc a;have aj:=mM a;have ak:=mS a;have al:=mN a;have am:=nD a;have an:=nE a;have ao:=om a;have ap:=ot a;have aq:=sA a;have T:=md a;apply_assumption;by_cases g1:f<0
 ·have O:decide (f<0)=true:=iW g1
  have e:=fS (show hM left ((x.incs.length:Int)+(x.versions.length:Int)+(x.events.length:Int)+(x.outs.length:Int))= -1 from iZ (by have n:=iE y.out g1 h0;omega));clear g1;go_wp2_with fail;go_ret;exact⟨by rw[e.out];rfl,r⟩
 have a4:decide (f<0)=false:=ia g1;have k:=fS (show f=left-((x.incs.length:Int))∧0≤f by have n:=iz y.out g1;omega);have Q:0≤f:=k.out.2;have q1:f≤1048576:=by have:=k.out;omega
 clear g1 y;go_wp2_with fail;obtain⟨i,D⟩:∃t,hM f ((x.versions.length:Int))=t:=⟨_,rfl⟩;refine(vx _ x.versions.length f _ ⟨_,_,rfl⟩ n2 Q q1).mono ?_;rintro q w2 ⟨rfl,J⟩
 (try rw[D])
 have z:=fS D;clear D;have s:=fU r J (Below.size r);have b:=fu J (fx a) a;have ar:=kU b;have au:=mc b;have av:=mM b;have aw:=mS b;have ax:=mN b;have ay:=nD b;have az:=nE b;have aA:=om b;have aB:=ot b;have aC:=sA b;have U:=md b;apply_assumption;by_cases g2:i<0
 ·have O:decide (i<0)=true:=iW g2
  have e:=fS (show hM left ((x.incs.length:Int)+(x.versions.length:Int)+(x.events.length:Int)+(x.outs.length:Int))= -1 from iZ (by have n:=iE z.out g2 Q;have o:=k.out;omega));clear g2;go_wp2_with fail;go_ret;exact⟨by rw[e.out];rfl,s⟩
 have a5:decide (i<0)=false:=ia g2;have l:=fS (show i=left-((x.incs.length:Int)+(x.versions.length:Int))∧0≤i by have n:=iz z.out g2;have o:=k.out;omega);have R:0≤i:=l.out.2;have q2:i≤1048576:=by have:=l.out;have o:=k.out;omega
 clear g2 z;go_wp2_with fail;obtain⟨j,E⟩:∃t,hM i ((x.events.length:Int))=t:=⟨_,rfl⟩;refine(pp _ x.events.length i _ ⟨_,_,rfl⟩ n3 R q2).mono ?_;rintro q w3 ⟨rfl,L⟩
 (try rw[E])
 have A:=fS E;clear E;have u:=fU s L (Below.size s);have c:=fu L (fx b) b;have aD:=kU c;have aE:=mc c;have aF:=mM c;have aG:=mS c;have aH:=mN c;have aI:=nD c;have aJ:=nE c;have aK:=om c;have aL:=ot c;have aM:=sA c;have V:=md c;apply_assumption;by_cases g3:j<0
 ·have O:decide (j<0)=true:=iW g3
  have e:=fS (show hM left ((x.incs.length:Int)+(x.versions.length:Int)+(x.events.length:Int)+(x.outs.length:Int))= -1 from iZ (by have n:=iE A.out g3 R;have o:=l.out;omega));clear g3;go_wp2_with fail;go_ret;exact⟨by rw[e.out];rfl,u⟩
 have a6:decide (j<0)=false:=ia g3;have m:=fS (show j=left-((x.incs.length:Int)+(x.versions.length:Int)+(x.events.length:Int))∧0≤j by have n:=iz A.out g3;have o:=l.out;omega);have S:0≤j:=m.out.2;have q3:j≤1048576:=by have:=m.out;have o:=l.out;omega
 clear g3 A;go_wp2_with fail;obtain⟨p,G⟩:∃t,hM j ((x.outs.length:Int))=t:=⟨_,rfl⟩;refine(rZ _ x.outs.length j _ ⟨_,_,rfl⟩ n4 S q3).mono ?_;rintro q w4 ⟨rfl,M⟩
 (try rw[G])
 have B:=fS G;clear G;have H:=fU u M (Below.size u);have d:=fu M (fx c) c;have aN:=kU d;have aO:=mc d;have aP:=mM d;have aQ:=mS d;have aR:=mN d;have aS:=nD d;have aT:=nE d;have aU:=om d;have aV:=ot d;have aW:=sA d;have X:=md d;apply_assumption;by_cases g4:p<0
 ·have O:decide (p<0)=true:=iW g4
  have e:=fS (show hM left ((x.incs.length:Int)+(x.versions.length:Int)+(x.events.length:Int)+(x.outs.length:Int))= -1 from iZ (by have n:=iE B.out g4 S;have o:=m.out;omega));clear g4;go_wp2_with fail;go_ret;exact⟨by rw[e.out];rfl,H⟩
 have a7:decide (p<0)=false:=ia g4;have v:=fS (show p=left-((x.incs.length:Int)+(x.versions.length:Int)+(x.events.length:Int)+(x.outs.length:Int))∧0≤p by have n:=iz B.out g4;have o:=m.out;omega);have p4:0≤p:=v.out.2;have q4:p≤1048576:=by have:=v.out;have o:=m.out;omega
 clear g4 B;have e:=fS (show hM left ((x.incs.length:Int)+(x.versions.length:Int)+(x.events.length:Int)+(x.outs.length:Int))=p by have n:=v.out;rw[lp fT];omega);go_wp2_with fail;go_ret;exact⟨by rw[e.out];rfl,H⟩
theorem CM (x:iD) (vi vj ve vo:Value) (left:Int) (F:Nat→Prop) (w:World) (h:ks w F vi vj ve vo x) (h0:0≤left) (h1:left≤1048576):
  Calls Tryz.prog 30 #[.agg #[x.kind,x.from_,x.dest,x.inc,x.version,x.round,x.g,vi,vj,ve,vo],left] w fun q w' =>q= .returned (.int .i64 (hM left (mO x)))∧Below w.heap.size w w':=CL x vi vj ve vo left F w h h0 h1
theorem CH (x:gT) (vl vk vo vv vn:Value) (left:Int) (F:Nat→Prop) (w:World) (h:i4 w F vl vk vo vv vn x) (h0:0≤left) (h1:left≤1048576):
  Calls Tryz.prog 29 #[.agg #[x.id,x.up,x.inc,x.g,vl,vk,vo,x.led,x.version,vv,vn,x.round,x.low],left] w fun q w' =>q= .returned (.int .i64 (hM left (tu x)))∧Below w.heap.size w w':=CG x vl vk vo vv vn left F w h h0 h1
def gZ:List iD→Int
 | []=>0
 |r::rs=>(mO r)+gZ rs
theorem ie:∀rs,0≤gZ rs
 | []=>Int.le_refl _
 |r::rs=>by have:=ie rs;have h2:0≤(mO r):=(qZ r);simp only[gZ];omega
theorem pw:∀(rs:List iD) (k:Nat) (h:k<rs.length),gZ (rs.take (k+1))=gZ (rs.take k)+(mO rs[k])
 |r::rs,0,h=>by simp[gZ]
 |r::rs,k+1,h=>by
  have:=pw rs k (by simpa using h);simp only[List.take_succ_cons,gZ,List.getElem_cons_succ] at this ⊢;omega
theorem vJ:∀(rs:List iD) (k:Nat),gZ (rs.take k)≤gZ rs
 | [],k=>by simp
 |r::rs,0=>by simpa [gZ] using ie (r::rs)
 |r::rs,k+1=>by have:=vJ rs k;simp only[List.take_succ_cons,gZ];omega
theorem tp:∀(rs:List iD) (r:iD),r∈rs→(mO r)≤gZ rs
 |r'::rs,r,h=>by
  rcases List.mem_cons.1 h with rfl|h
  ·have:=ie rs;simp only[gZ];omega
  ·have:=tp rs r h
   have h2:0≤(fun r:iD=>((mO r):Int)) r':=(fun r:iD=>(show 0≤((mO r):Int) from (qZ r))) r';simp only[gZ] at h2 ⊢;omega
theorem qF (v:Value) (rs:List iD) (left:Int) (F:Nat→Prop) (w:World) (h:Rd mK w F v rs) (h0:0≤left) (h1:left≤1048576):
  Calls Tryz.prog 11 #[v,left] w fun q w' =>q= .returned (.int .i64 (hM left (rs.length+gZ rs)))∧Below w.heap.size w w':=by
 obtain⟨A,c,rfl,-,hn,-⟩:=id h;have hW:IntKind.i64.wrap (left-rs.length)=left-rs.length:=IntWalk.i64_in _ fT;have I:=ie rs;by_cases hneg:left-(rs.length:Int)<0
 ·have C:decide (left-(rs.length:Int)<0)=true:=iW hneg
  have a:=fS (show hM left (rs.length+gZ rs)= -1 by unfold hM;rw[if_pos fT]);clear hneg;go_enter Tryz.func11,Tryz.ntmps11;go_wp2_with fail;go_ret;exact⟨by rw[a.out];rfl,gM _ _⟩
 ·have C:decide (left-(rs.length:Int)<0)=false:=ia hneg
  have y:=fS hneg;clear hneg;go_enter Tryz.func11,Tryz.ntmps11;go_wp2_with fail
  go_loopw [1,5] (fun l i wr=>∃(k:Nat) (m:Int),i= .int .i64 k∧k≤rs.length∧l= .int .i64 m∧Hid (m=left-(rs.length+gZ (rs.take k))∧0≤m)∧Below w.heap.size w wr) (fun _ i _=>rs.length-(intOf i).toNat)
  case atStart=>exact⟨0,_,rfl,j8 _,rfl,⟨by simp[gZ],by have:=y.out;omega⟩,gM _ _⟩
  case round=>
   obtain⟨k,m,rfl,hk,rfl,d,f⟩:=hrel;by_cases hlt:k<rs.length
   ·obtain⟨b,ob,X,Y,W,Z,rfl,_,⟨J,L,M,O,P,Q,R⟩,⟨S,T,U,V⟩,e⟩:=lq (h.below f) k hlt
    obtain⟨B0,D,rfl,-⟩:=e.ic.shape;obtain⟨B1,E,rfl,-⟩:=e.vs.shape;obtain⟨B2,G,rfl,-⟩:=e.ev.shape;obtain⟨B3,H,rfl,-⟩:=e.ou.shape;have p0:(k:Int)<(rs.length:Int):=fT;have j:=d.out.2;have x:m≤1048576:=by have:=d.out.1;have:=ie (rs.take k);omega
    obtain⟨t,g⟩:∃t,hM m ((mO rs[k]))=t:=⟨_,rfl⟩;have p:=fS g;go_wp2_with fail;refine(CM rs[k] _ _ _ _ m _ wr e j x).mono ?_;rintro q w1 ⟨rfl,r⟩;rw[g];have o:=fU f r f.size;apply_assumption;by_cases hneg:t<0
    ·have s:decide (t<0)=true:=iW hneg
     have a:=fS (show hM left (rs.length+gZ rs)= -1 from iZ (by
      have n:=d.out.1;have z:=iE p.out hneg j;have B:=pw rs k hlt;have h6:=vJ rs (k+1);omega))
     clear hneg g;go_wp2_with fail;go_ret;exact⟨by rw[a.out];rfl,o⟩
    ·have s:decide (t<0)=false:=ia hneg
     have HM':=fS (show t=left-(rs.length+gZ (rs.take (k+1)))∧0≤t by
      have n:=d.out.1;have z:=iz p.out hneg;have B:=pw rs k hlt;omega)
     clear hneg g;go_wp2_with fail;go_roundw
     case rel=>exact⟨k+1,t,by go_num,fT,rfl,HM',o⟩
     case measure=>exact ms
   ·have u:k=rs.length:=fT
    subst u;have a:=fS (show hM left (rs.length+gZ rs)=m by
     have n:=d.out;rw[li] at n;rw[lp fT];omega)
    go_wp2_with fail;go_ret;exact⟨by rw[a.out];rfl,f⟩
def mR (x:oR):Int:=((x.ones.length:Int)+gZ x.ones)+((x.twos.length:Int)+gZ x.twos)+((x.outs.length:Int)+gZ x.outs)
theorem xo (x:oR):0≤mR x:=by have:=ie x.ones;have:=ie x.twos;have:=ie x.outs;unfold mR;omega
theorem DJ (x:oR) (v1 v2 v3:Value) (left:Int) (F:Nat→Prop) (w:World) (h:k7 w F v1 v2 v3 x) (h0:0≤left) (h1:left≤1048576):
  Calls Tryz.prog 12 #[.agg #[x.round,v1,v2,v3],left] w fun q w' =>q= .returned (.int .i64 (hM left (((x.ones.length:Int)+gZ x.ones)+((x.twos.length:Int)+gZ x.twos)+((x.outs.length:Int)+gZ x.outs))))∧Below w.heap.size w w':=by
 obtain⟨H,M,rfl,-,n1,-⟩:=id h.on;obtain⟨I,O,rfl,-,n2,-⟩:=id h.tw;obtain⟨J,P,rfl,-,n3,-⟩:=id h.ou;have ae:=ie x.ones;have af:=ie x.twos;have ag:=ie x.outs;obtain⟨W,hV,A,Z⟩:=nC w (.cells #[x.round,.slice H x.ones.length M,.slice I x.twos.length O,.slice J x.outs.length P] 26);go_enter Tryz.func12,Tryz.ntmps12;go_wp2_with fail;rw[hV.out];clear hV;obtain⟨a,p⟩:∃t,hM left (((x.ones.length:Int)+gZ x.ones))=t:=⟨_,rfl⟩;refine(qF _ x.ones left F _ (h.on.below A) h0 h1).mono ?_;rintro q w1 ⟨rfl,v⟩
 (try rw[p])
 have l:=fS p;clear p;have g:=fU A v (Below.size A);have B:=fu v (fx Z) Z;obtain⟨Q,R,S,T⟩:=Dp B;apply_assumption;by_cases g1:a<0
 ·have D:decide (a<0)=true:=iW g1
  have f:=fS (show hM left (((x.ones.length:Int)+gZ x.ones)+((x.twos.length:Int)+gZ x.twos)+((x.outs.length:Int)+gZ x.outs))= -1 from iZ (by have j:=iE l.out g1 h0;omega));clear g1;go_wp2_with fail;go_ret;exact⟨by rw[f.out];rfl,g⟩
 have aj:decide (a<0)=false:=ia g1;have c:=fS (show a=left-(((x.ones.length:Int)+gZ x.ones))∧0≤a by have j:=iz l.out g1;omega);have E:0≤a:=c.out.2;have q1:a≤1048576:=by have:=c.out;omega
 clear g1 l;go_wp2_with fail;obtain⟨b,r⟩:∃t,hM a (((x.twos.length:Int)+gZ x.twos))=t:=⟨_,rfl⟩;refine(qF _ x.twos a F _ (h.tw.below g) E q1).mono ?_;rintro q w2 ⟨rfl,y⟩
 (try rw[r])
 have m:=fS r;clear r;have i:=fU g y (Below.size g);have C:=fu y (fx B) B;obtain⟨U,V,X,Y⟩:=Dp C;apply_assumption;by_cases g2:b<0
 ·have D:decide (b<0)=true:=iW g2
  have f:=fS (show hM left (((x.ones.length:Int)+gZ x.ones)+((x.twos.length:Int)+gZ x.twos)+((x.outs.length:Int)+gZ x.outs))= -1 from iZ (by have j:=iE m.out g2 E;have o:=c.out;omega));clear g2;go_wp2_with fail;go_ret;exact⟨by rw[f.out];rfl,i⟩
 have ak:decide (b<0)=false:=ia g2;have d:=fS (show b=left-(((x.ones.length:Int)+gZ x.ones)+((x.twos.length:Int)+gZ x.twos))∧0≤b by have j:=iz m.out g2;have o:=c.out;omega);have G:0≤b:=d.out.2;have q2:b≤1048576:=by have:=d.out;have o:=c.out;omega
 clear g2 m;go_wp2_with fail;obtain⟨e,s⟩:∃t,hM b (((x.outs.length:Int)+gZ x.outs))=t:=⟨_,rfl⟩;refine(qF _ x.outs b F _ (h.ou.below i) G q2).mono ?_;rintro q w3 ⟨rfl,z⟩
 (try rw[s])
 have n:=fS s;clear s;have u:=fU i z (Below.size i);have L:=fu z (fx C) C;obtain⟨aa,ab,ac,ad⟩:=Dp L;apply_assumption;by_cases g3:e<0
 ·have D:decide (e<0)=true:=iW g3
  have f:=fS (show hM left (((x.ones.length:Int)+gZ x.ones)+((x.twos.length:Int)+gZ x.twos)+((x.outs.length:Int)+gZ x.outs))= -1 from iZ (by have j:=iE n.out g3 G;have o:=d.out;omega));clear g3;go_wp2_with fail;go_ret;exact⟨by rw[f.out];rfl,u⟩
 have al:decide (e<0)=false:=ia g3;have k:=fS (show e=left-(((x.ones.length:Int)+gZ x.ones)+((x.twos.length:Int)+gZ x.twos)+((x.outs.length:Int)+gZ x.outs))∧0≤e by have j:=iz n.out g3;have o:=d.out;omega);have p3:0≤e:=k.out.2;have q3:e≤1048576:=by have:=k.out;have o:=d.out;omega
 clear g3 n;have f:=fS (show hM left (((x.ones.length:Int)+gZ x.ones)+((x.twos.length:Int)+gZ x.twos)+((x.outs.length:Int)+gZ x.outs))=e by have j:=k.out;rw[lp fT];omega);go_wp2_with fail;go_ret;exact⟨by rw[f.out];rfl,u⟩
theorem DK (x:oR) (v1 v2 v3:Value) (left:Int) (F:Nat→Prop) (w:World) (h:k7 w F v1 v2 v3 x) (h0:0≤left) (h1:left≤1048576):
  Calls Tryz.prog 12 #[.agg #[x.round,v1,v2,v3],left] w fun q w' =>q= .returned (.int .i64 (hM left (mR x)))∧Below w.heap.size w w':=DJ x v1 v2 v3 left F w h h0 h1
def iv:List gT→Int
 | []=>0
 |r::rs=>(tu r)+iv rs
theorem jY:∀rs,0≤iv rs
 | []=>Int.le_refl _
 |r::rs=>by have:=jY rs;have h2:0≤(tu r):=(sY r);simp only[iv];omega
theorem pb:∀(rs:List gT) (k:Nat) (h:k<rs.length),iv (rs.take (k+1))=iv (rs.take k)+(tu rs[k])
 |r::rs,0,h=>by simp[iv]
 |r::rs,k+1,h=>by
  have:=pb rs k (by simpa using h);simp only[List.take_succ_cons,iv,List.getElem_cons_succ] at this ⊢;omega
theorem uE:∀(rs:List gT) (k:Nat),iv (rs.take k)≤iv rs
 | [],k=>by simp
 |r::rs,0=>by simpa [iv] using jY (r::rs)
 |r::rs,k+1=>by have:=uE rs k;simp only[List.take_succ_cons,iv];omega
theorem ta:∀(rs:List gT) (r:gT),r∈rs→(tu r)≤iv rs
 |r'::rs,r,h=>by
  rcases List.mem_cons.1 h with rfl|h
  ·have:=jY rs;simp only[iv];omega
  ·have:=ta rs r h
   have h2:0≤(fun r:gT=>((tu r):Int)) r':=(fun r:gT=>(show 0≤((tu r):Int) from (sY r))) r';simp only[iv] at h2 ⊢;omega
theorem Bo (v:Value) (rs:List gT) (left:Int) (F:Nat→Prop) (w:World) (h:Rd nA w F v rs) (h0:0≤left) (h1:left≤1048576):
  Calls Tryz.prog 10 #[v,left] w fun q w' =>q= .returned (.int .i64 (hM left (rs.length+iv rs)))∧Below w.heap.size w w':=by
 obtain⟨A,c,rfl,-,hn,-⟩:=id h;have hW:IntKind.i64.wrap (left-rs.length)=left-rs.length:=IntWalk.i64_in _ fT;have O:=jY rs;by_cases hneg:left-(rs.length:Int)<0
 ·have C:decide (left-(rs.length:Int)<0)=true:=iW hneg
  have d:=fS (show hM left (rs.length+iv rs)= -1 by unfold hM;rw[if_pos fT]);clear hneg;go_enter Tryz.func10,Tryz.ntmps10;go_wp2_with fail;go_ret;exact⟨by rw[d.out];rfl,gM _ _⟩
 ·have C:decide (left-(rs.length:Int)<0)=false:=ia hneg
  have y:=fS hneg;clear hneg;go_enter Tryz.func10,Tryz.ntmps10;go_wp2_with fail
  go_loopw [1,5] (fun l i wr=>∃(k:Nat) (m:Int),i= .int .i64 k∧k≤rs.length∧l= .int .i64 m∧Hid (m=left-(rs.length+iv (rs.take k))∧0≤m)∧Below w.heap.size w wr) (fun _ i _=>rs.length-(intOf i).toNat)
  case atStart=>exact⟨0,_,rfl,j8 _,rfl,⟨by simp[iv],by have:=y.out;omega⟩,gM _ _⟩
  case round=>
   obtain⟨k,m,rfl,hk,rfl,e,f⟩:=hrel;by_cases hlt:k<rs.length
   ·obtain⟨b,ob,aa,Z,ac,ad,ab,rfl,_,P,Q,R,S,T,U,V,W,X,Y,D,E,G,a⟩:=mY (h.below f) k hlt
    obtain⟨B0,H,rfl,-⟩:=a.la.shape;obtain⟨B1,I,rfl,-⟩:=a.ke.shape;obtain⟨B2,J,rfl,-⟩:=a.ou.shape;obtain⟨B3,L,rfl,-⟩:=a.vi.shape;obtain⟨B4,M,rfl,-⟩:=a.kn.shape;have p0:(k:Int)<(rs.length:Int):=fT;have j:=e.out.2;have x:m≤1048576:=by have:=e.out.1;have:=jY (rs.take k);omega
    obtain⟨t,g⟩:∃t,hM m ((tu rs[k]))=t:=⟨_,rfl⟩;have p:=fS g;go_wp2_with fail;refine(CH rs[k] _ _ _ _ _ m _ wr a j x).mono ?_;rintro q w1 ⟨rfl,r⟩;rw[g];have o:=fU f r f.size;apply_assumption;by_cases hneg:t<0
    ·have s:decide (t<0)=true:=iW hneg
     have d:=fS (show hM left (rs.length+iv rs)= -1 from iZ (by
      have n:=e.out.1;have z:=iE p.out hneg j;have B:=pb rs k hlt;have h6:=uE rs (k+1);omega))
     clear hneg g;go_wp2_with fail;go_ret;exact⟨by rw[d.out];rfl,o⟩
    ·have s:decide (t<0)=false:=ia hneg
     have HM':=fS (show t=left-(rs.length+iv (rs.take (k+1)))∧0≤t by
      have n:=e.out.1;have z:=iz p.out hneg;have B:=pb rs k hlt;omega)
     clear hneg g;go_wp2_with fail;go_roundw
     case rel=>exact⟨k+1,t,by go_num,fT,rfl,HM',o⟩
     case measure=>exact ms
   ·have u:k=rs.length:=fT
    subst u;have d:=fS (show hM left (rs.length+iv rs)=m by
     have n:=e.out;rw[li] at n;rw[lp fT];omega)
    go_wp2_with fail;go_ret;exact⟨by rw[d.out];rfl,f⟩
theorem wg (x:lB) (va vn vr v1 v2 v3 vs:Value) (left:Int) (F:Nat→Prop) (w:World) (h:kr w F va vn vr v1 v2 v3 vs x) (h0:0≤left) (h1:left≤1048576):
  Calls Tryz.prog 4 #[.agg #[x.time,va,vn,vr,x.hub.round,v1,v2,v3,vs],left] w fun q w' =>q= .returned (.int .i64 (hM left (((x.apps.length:Int)+iS x.apps)+((x.nodes.length:Int)+iv x.nodes)+((x.radio.length:Int)+gZ x.radio)+(mR x.hub)+(x.sink.length:Int))))∧Below w.heap.size w w':=by
 obtain⟨A1,c1,rfl,-,n1,-⟩:=id h.ap;obtain⟨A2,c2,rfl,-,n2,-⟩:=id h.no;obtain⟨A3,c3,rfl,-,n3,-⟩:=id h.ra;obtain⟨A4,c4,rfl,-,n4,-⟩:=id h.hu.on;obtain⟨A5,c5,rfl,-,n5,-⟩:=id h.hu.tw;obtain⟨A6,c6,rfl,-,n6,-⟩:=id h.hu.ou;obtain⟨A7,c7,rfl,-,n7,-⟩:=id h.si;have bb:=kv x.apps;have bc:=jY x.nodes;have bd:=ie x.radio;have bf:=xo x.hub;obtain⟨W,hV,V,Z⟩:=nC w (.cells #[x.time,.slice A1 x.apps.length c1,.slice A2 x.nodes.length c2,.slice A3 x.radio.length c3,x.hub.round,.slice A4 x.hub.ones.length c4,.slice A5 x.hub.twos.length c5,.slice A6 x.hub.outs.length c6,.slice A7 x.sink.length c7] 29);go_enter Tryz.func4,Tryz.ntmps4;go_wp2_with fail;rw[hV.out];clear hV;obtain⟨j,H⟩:∃t,hM left (((x.apps.length:Int)+iS x.apps))=t:=⟨_,rfl⟩;refine(CE _ x.apps left F _ (h.ap.below V) h0 h1).mono ?_;rintro q w1 ⟨rfl,Q⟩
 (try rw[H])
 have B:=fS H;clear H;have u:=fU V Q (Below.size V);have b:=fu Q (fx Z) Z;have ar:=kU b;have au:=mc b;have av:=mM b;have aw:=mS b;have ax:=mN b;have ay:=nD b;have az:=nE b;have aA:=om b;have aB:=ot b;apply_assumption;by_cases g1:j<0
 ·have O:decide (j<0)=true:=iW g1
  have a:=fS (show hM left (((x.apps.length:Int)+iS x.apps)+((x.nodes.length:Int)+iv x.nodes)+((x.radio.length:Int)+gZ x.radio)+(mR x.hub)+(x.sink.length:Int))= -1 from iZ (by have g:=iE B.out g1 h0;omega));clear g1;go_wp2_with fail;go_ret;exact⟨by rw[a.out];rfl,u⟩
 have bl:decide (j<0)=false:=ia g1;have n:=fS (show j=left-(((x.apps.length:Int)+iS x.apps))∧0≤j by have g:=iz B.out g1;omega);have X:0≤j:=n.out.2;have q1:j≤1048576:=by have:=n.out;omega
 clear g1 B;go_wp2_with fail;obtain⟨k,I⟩:∃t,hM j (((x.nodes.length:Int)+iv x.nodes))=t:=⟨_,rfl⟩;refine(Bo _ x.nodes j F _ (h.no.below u) X q1).mono ?_;rintro q w2 ⟨rfl,R⟩
 (try rw[I])
 have C:=fS I;clear I;have v:=fU u R (Below.size u);have c:=fu R (fx b) b;have aC:=kU c;have aD:=mc c;have aE:=mM c;have aF:=mS c;have aG:=mN c;have aH:=nD c;have aI:=nE c;have aJ:=om c;have aK:=ot c;apply_assumption;by_cases g2:k<0
 ·have O:decide (k<0)=true:=iW g2
  have a:=fS (show hM left (((x.apps.length:Int)+iS x.apps)+((x.nodes.length:Int)+iv x.nodes)+((x.radio.length:Int)+gZ x.radio)+(mR x.hub)+(x.sink.length:Int))= -1 from iZ (by have g:=iE C.out g2 X;have f:=n.out;omega));clear g2;go_wp2_with fail;go_ret;exact⟨by rw[a.out];rfl,v⟩
 have bm:decide (k<0)=false:=ia g2;have o:=fS (show k=left-(((x.apps.length:Int)+iS x.apps)+((x.nodes.length:Int)+iv x.nodes))∧0≤k by have g:=iz C.out g2;have f:=n.out;omega);have Y:0≤k:=o.out.2;have q2:k≤1048576:=by have:=o.out;have f:=n.out;omega
 clear g2 C;go_wp2_with fail;obtain⟨l,J⟩:∃t,hM k (((x.radio.length:Int)+gZ x.radio))=t:=⟨_,rfl⟩;refine(qF _ x.radio k F _ (h.ra.below v) Y q2).mono ?_;rintro q w3 ⟨rfl,S⟩
 (try rw[J])
 have D:=fS J;clear J;have y:=fU v S (Below.size v);have d:=fu S (fx c) c;have aL:=kU d;have aM:=mc d;have aN:=mM d;have aO:=mS d;have aP:=mN d;have aQ:=nD d;have aR:=nE d;have aS:=om d;have aT:=ot d;apply_assumption;by_cases g3:l<0
 ·have O:decide (l<0)=true:=iW g3
  have a:=fS (show hM left (((x.apps.length:Int)+iS x.apps)+((x.nodes.length:Int)+iv x.nodes)+((x.radio.length:Int)+gZ x.radio)+(mR x.hub)+(x.sink.length:Int))= -1 from iZ (by have g:=iE D.out g3 Y;have f:=o.out;omega));clear g3;go_wp2_with fail;go_ret;exact⟨by rw[a.out];rfl,y⟩
 have bn:decide (l<0)=false:=ia g3;have p:=fS (show l=left-(((x.apps.length:Int)+iS x.apps)+((x.nodes.length:Int)+iv x.nodes)+((x.radio.length:Int)+gZ x.radio))∧0≤l by have g:=iz D.out g3;have f:=o.out;omega);have p3:0≤l:=p.out.2;have q3:l≤1048576:=by have:=p.out;have f:=o.out;omega
 clear g3 D;go_wp2_with fail;obtain⟨m,L⟩:∃t,hM l ((mR x.hub))=t:=⟨_,rfl⟩;refine(DK x.hub _ _ _ l F _ (h.hu.below y) p3 q3).mono ?_;rintro q w4 ⟨rfl,T⟩
 (try rw[L])
 have E:=fS L;clear L;have z:=fU y T (Below.size y);have e:=fu T (fx d) d;have aU:=kU e;have aV:=mc e;have aW:=mM e;have aX:=mS e;have aY:=mN e;have aZ:=nD e;have a0:=nE e;have a1:=om e;have a2:=ot e;apply_assumption;by_cases g4:m<0
 ·have O:decide (m<0)=true:=iW g4
  have a:=fS (show hM left (((x.apps.length:Int)+iS x.apps)+((x.nodes.length:Int)+iv x.nodes)+((x.radio.length:Int)+gZ x.radio)+(mR x.hub)+(x.sink.length:Int))= -1 from iZ (by have g:=iE E.out g4 p3;have f:=p.out;omega));clear g4;go_wp2_with fail;go_ret;exact⟨by rw[a.out];rfl,z⟩
 have bo:decide (m<0)=false:=ia g4;have r:=fS (show m=left-(((x.apps.length:Int)+iS x.apps)+((x.nodes.length:Int)+iv x.nodes)+((x.radio.length:Int)+gZ x.radio)+(mR x.hub))∧0≤m by have g:=iz E.out g4;have f:=p.out;omega);have p4:0≤m:=r.out.2;have q4:m≤1048576:=by have:=r.out;have f:=p.out;omega
 clear g4 E;go_wp2_with fail;obtain⟨s,M⟩:∃t,hM m ((x.sink.length:Int))=t:=⟨_,rfl⟩;refine(rZ _ x.sink.length m _ ⟨_,_,rfl⟩ n7 p4 q4).mono ?_;rintro q w5 ⟨rfl,U⟩
 (try rw[M])
 have G:=fS M;clear M;have P:=fU z U (Below.size z);have i:=fu U (fx e) e;have a3:=kU i;have a4:=mc i;have a5:=mM i;have a6:=mS i;have a7:=mN i;have a8:=nD i;have a9:=nE i;have a':=om i;have ba:=ot i;apply_assumption;by_cases g5:s<0
 ·have O:decide (s<0)=true:=iW g5
  have a:=fS (show hM left (((x.apps.length:Int)+iS x.apps)+((x.nodes.length:Int)+iv x.nodes)+((x.radio.length:Int)+gZ x.radio)+(mR x.hub)+(x.sink.length:Int))= -1 from iZ (by have g:=iE G.out g5 p4;have f:=r.out;omega));clear g5;go_wp2_with fail;go_ret;exact⟨by rw[a.out];rfl,P⟩
 have bp:decide (s<0)=false:=ia g5;have A:=fS (show s=left-(((x.apps.length:Int)+iS x.apps)+((x.nodes.length:Int)+iv x.nodes)+((x.radio.length:Int)+gZ x.radio)+(mR x.hub)+(x.sink.length:Int))∧0≤s by have g:=iz G.out g5;have f:=r.out;omega);have p5:0≤s:=A.out.2;have q5:s≤1048576:=by have:=A.out;have f:=r.out;omega
 clear g5 G;have a:=fS (show hM left (((x.apps.length:Int)+iS x.apps)+((x.nodes.length:Int)+iv x.nodes)+((x.radio.length:Int)+gZ x.radio)+(mR x.hub)+(x.sink.length:Int))=s by have g:=A.out;rw[lp fT];omega);go_wp2_with fail;go_ret;exact⟨by rw[a.out];rfl,P⟩
def lW (w:World):Prop:=6≤w.heap.size∧∀k,k<6→∃t x,w.cell? ⟨k,0,none⟩=some (.iface t x)
theorem lW.below {w w':World} (h:lW w) (hb:Below w.heap.size w w'):lW w':=
 ⟨ly h.1 hb.size,fun k hk=>by
  obtain⟨t,x,e⟩:=h.2 k hk;exact⟨t,x,by rw[hb.cell (p:=⟨k,0,none⟩) (sF hk h.1)];exact e⟩⟩
theorem lW.ch {S:Nat→Prop} {w w':World} (h:lW w) (hc:Ch S w w') (hS:∀k,k<6→¬S k):lW w':=
 ⟨ly h.1 hc.size,fun k hk=>by
  obtain⟨t,x,e⟩:=h.2 k hk;exact⟨t,x,by rw[hc.cell (p:=⟨k,0,none⟩) (sF hk h.1) (hS k hk)];exact e⟩⟩
theorem kr.ch {S F:Nat→Prop} {w w':World} {va vn vr v1 v2 v3 vs:Value} {x:lB} (h:kr w F va vn vr v1 v2 v3 vs x) (hc:Ch S w w') (hS:∀k,F k→¬S k):kr w' F va vn vr v1 v2 v3 vs x:=
 ⟨h.ap.ch hc hS,h.no.ch hc hS,h.ra.ch hc hS,h.hu.ch hc hS,h.si.ch hc hS⟩
theorem kr.bound {F:Nat→Prop} {w:World} {va vn vr v1 v2 v3 vs:Value} {x:lB} (h:kr w F va vn vr v1 v2 v3 vs x):kr w (fun k=>F k∧k<w.heap.size) va vn vr v1 v2 v3 vs x:=
 ⟨h.ap.bound,h.no.bound,h.ra.bound,h.hu.bound,h.si.bound⟩
theorem DX (x:lB) (va vn vr v1 v2 v3 vs:Value) (F:Nat→Prop) (w:World) (h:kr w F va vn vr v1 v2 v3 vs x) (hE:lW w):
  Calls Tryz.prog 43 #[.agg #[x.time,va,vn,vr,x.hub.round,v1,v2,v3,vs]] w fun q w' =>(∃e,q= .returned e∧((lx x=true∧e= .nilIface)∨(lx x=false∧∃t y,e= .iface t y)))∧Below w.heap.size w w':=by
 obtain⟨W,c1,rfl,-⟩:=h.ap.shape;obtain⟨X,c2,rfl,-⟩:=h.no.shape;obtain⟨Y,c3,rfl,-⟩:=h.ra.shape;obtain⟨A4,c4,rfl,-⟩:=h.hu.on.shape;obtain⟨A5,c5,rfl,-⟩:=h.hu.tw.shape;obtain⟨A6,c6,rfl,-⟩:=h.hu.ou.shape;obtain⟨A7,c7,rfl,-⟩:=h.si.shape;go_enter Tryz.func43,Tryz.ntmps43;go_upto_region 3 with fail;have HW:Below w.heap.size w ((w.alloc (.cells #[x.time,.slice W x.apps.length c1,.slice X x.nodes.length c2,.slice Y x.radio.length c3,x.hub.round,.slice A4 x.hub.ones.length c4,.slice A5 x.hub.twos.length c5,.slice A6 x.hub.outs.length c6,.slice A7 x.sink.length c7] 39)).alloc (.cells #[.slice none 0 0] 146)):=gs (gs (gM _ _) _) _;have Z:((w.alloc (.cells #[x.time,.slice W x.apps.length c1,.slice X x.nodes.length c2,.slice Y x.radio.length c3,x.hub.round,.slice A4 x.hub.ones.length c4,.slice A5 x.hub.twos.length c5,.slice A6 x.hub.outs.length c6,.slice A7 x.sink.length c7] 39)).alloc (.cells #[.slice none 0 0] 146)).heap[w.heap.size]? =some (.cells #[x.time,.slice W x.apps.length c1,.slice X x.nodes.length c2,.slice Y x.radio.length c3,x.hub.round,.slice A4 x.hub.ones.length c4,.slice A5 x.hub.twos.length c5,.slice A6 x.hub.outs.length c6,.slice A7 x.sink.length c7] 39):=(gP sm).trans (gL rfl);have G:((w.alloc (.cells #[x.time,.slice W x.apps.length c1,.slice X x.nodes.length c2,.slice Y x.radio.length c3,x.hub.round,.slice A4 x.hub.ones.length c4,.slice A5 x.hub.twos.length c5,.slice A6 x.hub.outs.length c6,.slice A7 x.sink.length c7] 39)).alloc (.cells #[.slice none 0 0] 146)).heap[w.heap.size+1]? =some (.cells #[.slice none 0 0] 146):=gL sm;have h0:=h.bound.below HW;have E0:=hE.below HW;have h6:=hE.1;have L:=fS h6;have N0:sf ((w.alloc (.cells #[x.time,.slice W x.apps.length c1,.slice X x.nodes.length c2,.slice Y x.radio.length c3,x.hub.round,.slice A4 x.hub.ones.length c4,.slice A5 x.hub.twos.length c5,.slice A6 x.hub.outs.length c6,.slice A7 x.sink.length c7] 39)).alloc (.cells #[.slice none 0 0] 146)) (w.heap.size+1) true 0:=⟨_,[],G,Ow.nil _ _ _ _,(fun r hr=>by cases hr),jn _,by simp⟩;clear G h;obtain⟨g,hg⟩:∃g,g=w.heap.size+1:=⟨_,rfl⟩;rw[←hg] at N0;simp only[←hg];have cb:w.heap.size<g:=fT;clear hg;generalize (w.alloc (.cells #[x.time,.slice W x.apps.length c1,.slice X x.nodes.length c2,.slice Y x.radio.length c3,x.hub.round,.slice A4 x.hub.ones.length c4,.slice A5 x.hub.twos.length c5,.slice A6 x.hub.outs.length c6,.slice A7 x.sink.length c7] 39)).alloc (.cells #[.slice none 0 0] 146)=W0 at*;have aw:=HW;have Z0:=Z;clear HW Z;obtain⟨i,j,l,m,n,o,p,s,u⟩:=oM Z0;obtain⟨z,A,f⟩:=E0.2 0 dc;refine kA [.rd [0,1,2,4],.mid 3] [5] ?_;refine vL ?_;intro N hN;go_wp2_with fail;refine fV (hN _ ?_);clear hN N;refine vM ?_;intro N hN;go_wp2_with fail;refine(iF _ _ _ _).mono ?_;rintro e P0 ⟨d,bq⟩;have aE:Below W0.drew.heap.size W0.drew P0:=by rw[bq];exact gM _ _
 clear bq;obtain⟨V,b⟩:∃t,ib x.time 0 99999=t:=⟨_,rfl⟩;rw[b] at d;have bI:=fS b;clear b;subst d;apply_assumption;refine vN aE (hN _ _ ?_);clear hN;refine vF ?_;have C:=gK (gM W0.heap.size W0).drew aE;have a6:=N0.below C;have bb:=fu C (fx Z0) Z0;have bi:=h0.below C;have aZ:=E0.below C;have P:=fU aw C aw.size;clear i j l m n o p s u N0 Z0 h0 E0 aw aE C f;go_wp2_with fail;refine(sG V (true) z A g 0 P0 a6 dc).mono ?_;rintro q W1 ⟨rfl,N1,C1⟩;have Z1:=C1.heap bb fT;have h1:=bi.ch C1 (fun k a e=>by have M:=a.2;have c:g≤k:=e;omega);have E1:=aZ.ch C1 (fun k a e=>by have c:g≤k:=e;have O:=L.out;omega);have ax:=P.trans (C1.below (B:=w.heap.size) (fun k a=>by have c:g≤k:=a;omega) P.size);clear a6 bb bi aZ P C1;apply_assumption;go_upto_region 4 with fail;obtain⟨i,j,l,m,n,o,p,s,u⟩:=oM Z1;obtain⟨z,A,f⟩:=E1.2 1 dc;refine kA [.rd [0,1,2,4],.mid 3] [5] ?_;refine vL ?_;intro N hN;go_wp2_with fail;refine fV (hN _ ?_);clear hN N;refine vM ?_;intro N hN;go_wp2_with fail;refine(tL _ x.apps _ _ (h1.ap.below (gM W1.heap.size W1).drew)).mono ?_;rintro e P1 ⟨d,br⟩;have aF:=br;clear br;obtain⟨t1,b⟩:∃t,io x.apps=t:=⟨_,rfl⟩;rw[b] at d;have bJ:=fS b;clear b;subst d;apply_assumption;refine vN aF (hN _ _ ?_);clear hN;refine vF ?_;have D:=gK (gM W1.heap.size W1).drew aF;have a7:=N1.below D;have bc:=fu D (fx Z1) Z1;have bj:=h1.below D;have a0:=E1.below D;have Q:=fU ax D ax.size;clear i j l m n o p s u N1 Z1 h1 E1 ax aF D f;go_wp2_with fail;refine(sG t1 (true&&V) z A g 1 P1 a7 dc).mono ?_;rintro q W2 ⟨rfl,N2,C2⟩;have Z2:=C2.heap bc fT;have M:=bj.ch C2 (fun k a e=>by have M:=a.2;have c:g≤k:=e;omega);have E2:=a0.ch C2 (fun k a e=>by have c:g≤k:=e;have O:=L.out;omega);have az:=Q.trans (C2.below (B:=w.heap.size) (fun k a=>by have c:g≤k:=a;omega) Q.size);clear a7 bc bj a0 Q C2;apply_assumption;go_upto_region 5 with fail;obtain⟨i,j,l,m,n,o,p,s,u⟩:=oM Z2;obtain⟨z,A,f⟩:=E2.2 2 dc;refine kA [.rd [0,1,2,4],.mid 3] [5] ?_;refine vL ?_;intro N hN;go_wp2_with fail;refine fV (hN _ ?_);clear hN N;refine vM ?_;intro N hN;go_wp2_with fail;refine(zx _ x.nodes _ _ (M.no.below (gM W2.heap.size W2).drew)).mono ?_;rintro e P2 ⟨d,bs⟩;have aG:=bs;clear bs;obtain⟨t2,b⟩:∃t,lL x.nodes=t:=⟨_,rfl⟩;rw[b] at d;have bK:=fS b;clear b;subst d;apply_assumption;refine vN aG (hN _ _ ?_);clear hN;refine vF ?_;have E:=gK (gM W2.heap.size W2).drew aG;have a8:=N2.below E;have bd:=fu E (fx Z2) Z2;have bk:=M.below E;have a1:=E2.below E;have R:=fU az E az.size;clear i j l m n o p s u N2 Z2 M E2 az aG E f;go_wp2_with fail;refine(sG t2 ((true&&V)&&t1) z A g 2 P2 a8 dc).mono ?_;rintro q W3 ⟨rfl,N3,C3⟩;have Z3:=C3.heap bd fT;have c:=bk.ch C3 (fun k a e=>by have M:=a.2;have c:g≤k:=e;omega);have E3:=a1.ch C3 (fun k a e=>by have c:g≤k:=e;have O:=L.out;omega);have aA:=R.trans (C3.below (B:=w.heap.size) (fun k a=>by have c:g≤k:=a;omega) R.size);clear a8 bd bk a1 R C3;apply_assumption;go_upto_region 6 with fail;obtain⟨i,j,l,m,n,o,p,s,u⟩:=oM Z3;obtain⟨z,A,f⟩:=E3.2 3 dc;refine kA [.rd [0,1,2,4],.mid 3] [5] ?_;refine vL ?_;intro N hN;go_wp2_with fail;refine fV (hN _ ?_);clear hN N;refine vM ?_;intro N hN;go_wp2_with fail;refine(zE _ x.radio _ _ (c.ra.below (gM W3.heap.size W3).drew)).mono ?_;rintro e P3 ⟨d,bt⟩;have aH:=bt;clear bt;obtain⟨t3,b⟩:∃t,mu x.radio=t:=⟨_,rfl⟩;rw[b] at d;have bL:=fS b;clear b;subst d;apply_assumption;refine vN aH (hN _ _ ?_);clear hN;refine vF ?_;have H:=gK (gM W3.heap.size W3).drew aH;have a9:=N3.below H;have bf:=fu H (fx Z3) Z3;have bl:=c.below H;have a2:=E3.below H;have S:=fU aA H aA.size;clear i j l m n o p s u N3 Z3 c E3 aA aH H f;go_wp2_with fail;refine(sG t3 (((true&&V)&&t1)&&t2) z A g 3 P3 a9 dc).mono ?_;rintro q W4 ⟨rfl,N4,C4⟩;have Z4:=C4.heap bf fT;have O:=bl.ch C4 (fun k a e=>by have M:=a.2;have c:g≤k:=e;omega);have E4:=a2.ch C4 (fun k a e=>by have c:g≤k:=e;have O:=L.out;omega);have aB:=S.trans (C4.below (B:=w.heap.size) (fun k a=>by have c:g≤k:=a;omega) S.size);clear a9 bf bl a2 S C4;apply_assumption;go_upto_region 7 with fail;obtain⟨i,j,l,m,n,o,p,s,u⟩:=oM Z4;obtain⟨z,A,f⟩:=E4.2 4 dc;refine kA [.rd [0,1,2,4],.mid 3] [5] ?_;refine vL ?_;intro N hN;go_wp2_with fail;refine fV (hN _ ?_);clear hN N;refine vM ?_;intro N hN;go_wp2_with fail;refine(BB x.hub _ _ _ _ _ (O.hu.below (gM W4.heap.size W4).drew)).mono ?_;rintro e P4 ⟨d,bu⟩;have aI:=bu;clear bu;obtain⟨t4,b⟩:∃t,k8 x.hub=t:=⟨_,rfl⟩;rw[b] at d;have bM:=fS b;clear b;subst d;apply_assumption;refine vN aI (hN _ _ ?_);clear hN;refine vF ?_;have I:=gK (gM W4.heap.size W4).drew aI;have a':=N4.below I;have bg:=fu I (fx Z4) Z4;have bm:=O.below I;have a3:=E4.below I;have T:=fU aB I aB.size;clear i j l m n o p s u N4 Z4 O E4 aB aI I f;go_wp2_with fail;refine(sG t4 ((((true&&V)&&t1)&&t2)&&t3) z A g 4 P4 a' dc).mono ?_;rintro q W5 ⟨rfl,N5,C5⟩;have Z5:=C5.heap bg fT;have h5:=bm.ch C5 (fun k a e=>by have M:=a.2;have c:g≤k:=e;omega);have E5:=a3.ch C5 (fun k a e=>by have c:g≤k:=e;have O:=L.out;omega);have aC:=T.trans (C5.below (B:=w.heap.size) (fun k a=>by have c:g≤k:=a;omega) T.size);clear a' bg bm a3 T C5;apply_assumption;go_upto_region 8 with fail;obtain⟨i,j,l,m,n,o,p,s,u⟩:=oM Z5;obtain⟨z,A,f⟩:=E5.2 5 dc;refine kA [.rd [0,1,2,4],.mid 3] [5] ?_;refine vL ?_;intro N hN;go_wp2_with fail;refine fV (hN _ ?_);clear hN N;refine vM ?_;intro N hN;go_wp2_with fail;refine(oG _ x.sink _ _ _ (h5.si.below (gM W5.heap.size W5).drew)).mono ?_;rintro e P5 ⟨d,bv⟩;have aJ:=bv;clear bv;obtain⟨t5,b⟩:∃t,iu x.sink 96=t:=⟨_,rfl⟩;rw[b] at d;have bN:=fS b;clear b;subst d;apply_assumption;refine vN aJ (hN _ _ ?_);clear hN;refine vF ?_;have J:=gK (gM W5.heap.size W5).drew aJ;have ba:=N5.below J;have bh:=fu J (fx Z5) Z5;have bn:=h5.below J;have a4:=E5.below J;have U:=fU aC J aC.size;clear i j l m n o p s u N5 Z5 h5 E5 aC aJ J f;go_wp2_with fail;refine(sG t5 (((((true&&V)&&t1)&&t2)&&t3)&&t4) z A g 5 P5 ba dc).mono ?_;rintro q W6 ⟨rfl,N6,C6⟩;have Z6:=C6.heap bh fT;have h6:=bn.ch C6 (fun k a e=>by have M:=a.2;have c:g≤k:=e;omega);have E6:=a4.ch C6 (fun k a e=>by have c:g≤k:=e;have O:=L.out;omega);have bo:=U.trans (C6.below (B:=w.heap.size) (fun k a=>by have c:g≤k:=a;omega) U.size);clear ba bh bn a4 U C6;apply_assumption;obtain⟨v,rs,Zg,hO,hi,hl,bp⟩:=N6;obtain⟨A8,c8,rfl,-⟩:=hO.shape;have c0:=kU Zg;have HT:=fS (show lx x=((((((true&&V)&&t1)&&t2)&&t3)&&t4)&&t5) by simp only[lx,bI.out,bJ.out,bK.out,bL.out,bM.out,bN.out];simp[Bool.and_assoc]);have a5:=fS bp;clear bp;go_wp2_with fail;refine(Ei _ rs _ W6 hO.rd hi fT).mono ?_;rintro q w9 ⟨⟨e,rfl,hc⟩,bY⟩;have ay:=fU bo bY bo.size;apply_assumption;rcases hc with ⟨hn,rfl⟩|⟨hn,t,y,rfl⟩
 ·have HF:=fS (show lx x=true by rw[HT.out];exact a5.out.1 (E9 hn))
  clear hn;go_wp2_with fail;go_ret;exact⟨⟨_,rfl,.inl ⟨HF.out,rfl⟩⟩,ay⟩
 ·have HF:=fS (show lx x=false from Bool.eq_false_iff.2 fun b=>by rw[HT.out] at b;have h1:=a5.out.2 b;subst h1;simp at hn)
  clear hn;go_wp2_with fail;go_ret;exact⟨⟨_,rfl,.inr ⟨HF.out,_,_,rfl⟩⟩,ay⟩
theorem Ar (x:lB) (va vn vr v1 v2 v3 vs:Value) (F:Nat→Prop) (w:World) (h:kr w F va vn vr v1 v2 v3 vs x) (hE:lW w):
  Calls Tryz.prog 21 #[.agg #[x.time,va,vn,vr,x.hub.round,v1,v2,v3,vs]] w fun q w' =>q= .returned (.bool (lx x))∧Below w.heap.size w w':=by
 obtain⟨g,o,rfl,-⟩:=h.ap.shape;obtain⟨i,p,rfl,-⟩:=h.no.shape;obtain⟨j,r,rfl,-⟩:=h.ra.shape;obtain⟨k,s,rfl,-⟩:=h.hu.on.shape;obtain⟨l,u,rfl,-⟩:=h.hu.tw.shape;obtain⟨m,v,rfl,-⟩:=h.hu.ou.shape;obtain⟨n,z,rfl,-⟩:=h.si.shape;obtain⟨W,hV,b,Z⟩:=nC w (.cells #[x.time,.slice g x.apps.length o,.slice i x.nodes.length p,.slice j x.radio.length r,x.hub.round,.slice k x.hub.ones.length s,.slice l x.hub.twos.length u,.slice m x.hub.outs.length v,.slice n x.sink.length z] 39);go_enter Tryz.func21,Tryz.ntmps21;go_upto_region 1 with fail;rw[hV.out];clear hV;replace h:=h.below b;have B:=fx Z;obtain⟨C,D,E,G,H,I,J,L,M⟩:=oM Z;go_wp2_with fail;refine(DX x _ _ _ _ _ _ _ F W h (hE.below b)).mono ?_;rintro q O ⟨⟨e,rfl,A⟩,f⟩;have c:=fU b f b.size;apply_assumption;rcases A with ⟨a,rfl⟩|⟨a,t,y,rfl⟩
 ·have d:=fS a
  clear a;go_wp2_with fail;go_ret;exact⟨by rw[d.out];rfl,c⟩
 ·have d:=fS a
  clear a;go_wp2_with fail;go_ret;exact⟨by rw[d.out];rfl,c⟩
end Go.Proofs.YtlndjfflhegkdaaGreatDoor
