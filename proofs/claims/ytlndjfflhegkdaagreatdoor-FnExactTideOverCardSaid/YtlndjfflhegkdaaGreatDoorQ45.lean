/- Parts of the proof: Ne1, Te4. -/
import Derived.Test.YtlndjfflhegkdaaGreatDoorQ40
import Derived.Test.YtlndjfflhegkdaaGreatDoorQ44
set_option linter.unusedVariables false
set_option linter.unusedSimpArgs false
set_option linter.unusedSectionVars false
set_option maxHeartbeats 4000000
set_option maxRecDepth 100000
namespace Go.Proofs.YtlndjfflhegkdaaGreatDoor
open Go.RowKit
theorem vx (v:Value) (n:Nat) (left:Int) (w:World) (hv:∃A c,v= .slice A n c) (hn:n≤9223372036854775807) (h0:0≤left) (h1:left≤1048576):
  Calls Tryz.prog 55 #[v,left] w fun q w' =>q= .returned (.int .i64 (hM left n))∧Below w.heap.size w w':=by
 obtain⟨A,c,rfl⟩:=hv;have d:IntKind.i64.wrap (left-n)=left-n:=IntWalk.i64_in _ fT;by_cases h:left-(n:Int)<0
 ·have b:decide (left-(n:Int)<0)=true:=iW h
  have a:=fS (show hM left n= -1 by simp[hM,h]);clear h;go_enter Tryz.func55,Tryz.ntmps55;go_wp2_with fail;go_ret;exact⟨by rw[a.out];rfl,gM _ _⟩
 ·have b:decide (left-(n:Int)<0)=false:=ia h
  have a:=fS (show hM left n=left-n by simp[hM,h]);clear h;go_enter Tryz.func55,Tryz.ntmps55;go_wp2_with fail;go_ret;exact⟨by rw[a.out];rfl,gM _ _⟩
theorem CK (x:kK) (v:Value) (left:Int) (F:Nat→Prop) (w:World) (h:Rd iw w F v x.events) (h0:0≤left) (h1:left≤1048576):
  Calls Tryz.prog 104 #[.agg #[x.inc,x.version,v],left] w fun q w' =>q= .returned (.int .i64 (hM left ((x.events.length:Int))))∧Below w.heap.size w w':=by
 obtain⟨k,m,rfl,-,r,-⟩:=id h;obtain⟨W,hV,i,Z⟩:=nC w (.cells #[x.inc,x.version,.slice k x.events.length m] 172);go_enter Tryz.func104,Tryz.ntmps104;go_wp2_with fail;rw[hV.out];clear hV;obtain⟨a,d⟩:∃t,hM left ((x.events.length:Int))=t:=⟨_,rfl⟩;refine(pp _ x.events.length left _ ⟨_,_,rfl⟩ r h0 h1).mono ?_;rintro q A ⟨rfl,f⟩
 (try rw[d])
 have c:=fS d;clear d;have e:=fU i f (Below.size i);have l:=fu f (fx Z) Z;obtain⟨n,o,p⟩:=lm l;apply_assumption;by_cases g1:a<0
 ·have u:decide (a<0)=true:=iW g1
  have g:=fS (show hM left ((x.events.length:Int))= -1 from iZ (by have j:=iE c.out g1 h0;omega));clear g1;go_wp2_with fail;go_ret;exact⟨by rw[g.out];rfl,e⟩
 have s:decide (a<0)=false:=ia g1;have b:=fS (show a=left-((x.events.length:Int))∧0≤a by have j:=iz c.out g1;omega);have y:0≤a:=b.out.2;have z:a≤1048576:=by have:=b.out;omega
 clear g1 c;have g:=fS (show hM left ((x.events.length:Int))=a by have j:=b.out;rw[lp fT];omega);go_wp2_with fail;go_ret;exact⟨by rw[g.out];rfl,e⟩
def iH:List kK→Int
 | []=>0
 |r::rs=>(r.events.length:Int)+iH rs
theorem j7:∀rs,0≤iH rs
 | []=>Int.le_refl _
 |r::rs=>by have:=j7 rs;have h2:0≤(r.events.length:Int):=fT;simp only[iH];omega
theorem pt:∀(rs:List kK) (k:Nat) (h:k<rs.length),iH (rs.take (k+1))=iH (rs.take k)+(rs[k].events.length:Int)
 |r::rs,0,h=>by simp[iH]
 |r::rs,k+1,h=>by
  have:=pt rs k (by simpa using h);simp only[List.take_succ_cons,iH,List.getElem_cons_succ] at this ⊢;omega
theorem vI:∀(rs:List kK) (k:Nat),iH (rs.take k)≤iH rs
 | [],k=>by simp
 |r::rs,0=>by simpa [iH] using j7 (r::rs)
 |r::rs,k+1=>by have:=vI rs k;simp only[List.take_succ_cons,iH];omega
theorem tm:∀(rs:List kK) (r:kK),r∈rs→(r.events.length:Int)≤iH rs
 |r'::rs,r,h=>by
  rcases List.mem_cons.1 h with rfl|h
  ·have:=j7 rs;simp only[iH];omega
  ·have:=tm rs r h
   have h2:0≤(fun r:kK=>((r.events.length:Int):Int)) r':=(fun r:kK=>(show 0≤((r.events.length:Int):Int) from fT)) r';simp only[iH] at h2 ⊢;omega
theorem Bq (v:Value) (rs:List kK) (left:Int) (F:Nat→Prop) (w:World) (h:Rd pD w F v rs) (h0:0≤left) (h1:left≤1048576):
  Calls Tryz.prog 54 #[v,left] w fun q w' =>q= .returned (.int .i64 (hM left (rs.length+iH rs)))∧Below w.heap.size w w':=by
 obtain⟨A,c,rfl,-,O,-⟩:=id h;have L:IntKind.i64.wrap (left-rs.length)=left-rs.length:=IntWalk.i64_in _ fT;have G:=j7 rs;by_cases hneg:left-(rs.length:Int)<0
 ·have C:decide (left-(rs.length:Int)<0)=true:=iW hneg
  have a:=fS (show hM left (rs.length+iH rs)= -1 by unfold hM;rw[if_pos fT]);clear hneg;go_enter Tryz.func54,Tryz.ntmps54;go_wp2_with fail;go_ret;exact⟨by rw[a.out];rfl,gM _ _⟩
 ·have C:decide (left-(rs.length:Int)<0)=false:=ia hneg
  have y:=fS hneg;clear hneg;go_enter Tryz.func54,Tryz.ntmps54;go_wp2_with fail
  go_loopw [1,5] (fun l i wr=>∃(k:Nat) (m:Int),i= .int .i64 k∧k≤rs.length∧l= .int .i64 m∧Hid (m=left-(rs.length+iH (rs.take k))∧0≤m)∧Below w.heap.size w wr) (fun _ i _=>rs.length-(intOf i).toNat)
  case atStart=>exact⟨0,_,rfl,j8 _,rfl,⟨by simp[iH],by have:=y.out;omega⟩,gM _ _⟩
  case round=>
   obtain⟨k,m,rfl,M,rfl,d,e⟩:=hrel;by_cases hlt:k<rs.length
   ·obtain⟨b,o,H,I,rfl,E,R,S,T,D⟩:=nO (h.below e) k hlt
    have P:(k:Int)<(rs.length:Int):=fT;have g:=d.out.2;have x:m≤1048576:=by have:=d.out.1;have:=j7 (rs.take k);omega
    obtain⟨t,f⟩:∃t,hM m ((rs[k].events.length:Int))=t:=⟨_,rfl⟩;have p:=fS f;go_wp2_with fail;refine(CK rs[k] _ m _ wr D g x).mono ?_;rintro q Q ⟨rfl,r⟩;rw[f];have n:=fU e r e.size;apply_assumption;by_cases hneg:t<0
    ·have s:decide (t<0)=true:=iW hneg
     have a:=fS (show hM left (rs.length+iH rs)= -1 from iZ (by
      have j:=d.out.1;have z:=iE p.out hneg g;have B:=pt rs k hlt;have J:=vI rs (k+1);omega))
     clear hneg f;go_wp2_with fail;go_ret;exact⟨by rw[a.out];rfl,n⟩
    ·have s:decide (t<0)=false:=ia hneg
     have HM':=fS (show t=left-(rs.length+iH (rs.take (k+1)))∧0≤t by
      have j:=d.out.1;have z:=iz p.out hneg;have B:=pt rs k hlt;omega)
     clear hneg f;go_wp2_with fail;go_roundw
     case rel=>exact⟨k+1,t,by go_num,fT,rfl,HM',n⟩
     case measure=>exact ms
   ·have u:k=rs.length:=fT
    subst u;have a:=fS (show hM left (rs.length+iH rs)=m by
     have j:=d.out;rw[li] at j;rw[lp fT];omega)
    go_wp2_with fail;go_ret;exact⟨by rw[a.out];rfl,e⟩
def ix:List il→Int
 | []=>0
 |r::rs=>((r.done.length:Int)+iB r.done)+ix rs
theorem jW:∀rs,0≤ix rs
 | []=>Int.le_refl _
 |r::rs=>by have:=jW rs;have h2:0≤((r.done.length:Int)+iB r.done):=(by have:=jv r.done;omega);simp only[ix];omega
theorem o8:∀(rs:List il) (k:Nat) (h:k<rs.length),ix (rs.take (k+1))=ix (rs.take k)+((rs[k].done.length:Int)+iB rs[k].done)
 |r::rs,0,h=>by simp[ix]
 |r::rs,k+1,h=>by
  have:=o8 rs k (by simpa using h);simp only[List.take_succ_cons,ix,List.getElem_cons_succ] at this ⊢;omega
theorem ux:∀(rs:List il) (k:Nat),ix (rs.take k)≤ix rs
 | [],k=>by simp
 |r::rs,0=>by simpa [ix] using jW (r::rs)
 |r::rs,k+1=>by have:=ux rs k;simp only[List.take_succ_cons,ix];omega
theorem sW:∀(rs:List il) (r:il),r∈rs→((r.done.length:Int)+iB r.done)≤ix rs
 |r'::rs,r,h=>by
  rcases List.mem_cons.1 h with rfl|h
  ·have:=jW rs;simp only[ix];omega
  ·have:=sW rs r h
   have h2:0≤(fun r:il=>(((r.done.length:Int)+iB r.done):Int)) r':=(fun r:il=>(show 0≤(((r.done.length:Int)+iB r.done):Int) from (by have:=jv r.done;omega))) r';simp only[ix] at h2 ⊢;omega
theorem Bn (v:Value) (rs:List il) (left:Int) (F:Nat→Prop) (w:World) (h:Rd tk w F v rs) (h0:0≤left) (h1:left≤1048576):
  Calls Tryz.prog 52 #[v,left] w fun q w' =>q= .returned (.int .i64 (hM left (rs.length+ix rs)))∧Below w.heap.size w w':=by
 obtain⟨A,c,rfl,-,O,-⟩:=id h;have L:IntKind.i64.wrap (left-rs.length)=left-rs.length:=IntWalk.i64_in _ fT;have G:=jW rs;by_cases hneg:left-(rs.length:Int)<0
 ·have C:decide (left-(rs.length:Int)<0)=true:=iW hneg
  have a:=fS (show hM left (rs.length+ix rs)= -1 by unfold hM;rw[if_pos fT]);clear hneg;go_enter Tryz.func52,Tryz.ntmps52;go_wp2_with fail;go_ret;exact⟨by rw[a.out];rfl,gM _ _⟩
 ·have C:decide (left-(rs.length:Int)<0)=false:=ia hneg
  have y:=fS hneg;clear hneg;go_enter Tryz.func52,Tryz.ntmps52;go_wp2_with fail
  go_loopw [1,5] (fun l i wr=>∃(k:Nat) (m:Int),i= .int .i64 k∧k≤rs.length∧l= .int .i64 m∧Hid (m=left-(rs.length+ix (rs.take k))∧0≤m)∧Below w.heap.size w wr) (fun _ i _=>rs.length-(intOf i).toNat)
  case atStart=>exact⟨0,_,rfl,j8 _,rfl,⟨by simp[ix],by have:=y.out;omega⟩,gM _ _⟩
  case round=>
   obtain⟨k,m,rfl,M,rfl,d,e⟩:=hrel;by_cases hlt:k<rs.length
   ·obtain⟨b,o,H,I,rfl,E,R,⟨S,T,U⟩,V,D⟩:=mr (h.below e) k hlt
    have P:(k:Int)<(rs.length:Int):=fT;have g:=d.out.2;have x:m≤1048576:=by have:=d.out.1;have:=jW (rs.take k);omega
    obtain⟨t,f⟩:∃t,hM m ((rs[k].done.length:Int)+iB rs[k].done)=t:=⟨_,rfl⟩;have p:=fS f;go_wp2_with fail;refine(CF rs[k] _ m _ wr D g x).mono ?_;rintro q Q ⟨rfl,r⟩;rw[f];have n:=fU e r e.size;apply_assumption;by_cases hneg:t<0
    ·have s:decide (t<0)=true:=iW hneg
     have a:=fS (show hM left (rs.length+ix rs)= -1 from iZ (by
      have j:=d.out.1;have z:=iE p.out hneg g;have B:=o8 rs k hlt;have J:=ux rs (k+1);omega))
     clear hneg f;go_wp2_with fail;go_ret;exact⟨by rw[a.out];rfl,n⟩
    ·have s:decide (t<0)=false:=ia hneg
     have HM':=fS (show t=left-(rs.length+ix (rs.take (k+1)))∧0≤t by
      have j:=d.out.1;have z:=iz p.out hneg;have B:=o8 rs k hlt;omega)
     clear hneg f;go_wp2_with fail;go_roundw
     case rel=>exact⟨k+1,t,by go_num,fT,rfl,HM',n⟩
     case measure=>exact ms
   ·have u:k=rs.length:=fT
    subst u;have a:=fS (show hM left (rs.length+ix rs)=m by
     have j:=d.out;rw[li] at j;rw[lp fT];omega)
    go_wp2_with fail;go_ret;exact⟨by rw[a.out];rfl,e⟩
theorem CG (x:gT) (vl vk vo vv vn:Value) (left:Int) (F:Nat→Prop) (w:World) (h:i4 w F vl vk vo vv vn x) (h0:0≤left) (h1:left≤1048576):
  Calls Tryz.prog 29 #[.agg #[x.id,x.up,x.inc,x.g,vl,vk,vo,x.led,x.version,vv,vn,x.round,x.low],left] w fun q w' =>q= .returned (.int .i64 (hM left (((x.lanes.length:Int)+ix x.lanes)+(x.kept.length:Int)+(x.outs.length:Int)+((x.views.length:Int)+iH x.views)+(x.known.length:Int))))∧Below w.heap.size w w':=by
 obtain⟨A1,c1,rfl,-,n1,-⟩:=id h.la;obtain⟨A2,c2,rfl,-,n2,-⟩:=id h.ke;obtain⟨A3,c3,rfl,-,n3,-⟩:=id h.ou;obtain⟨A4,c4,rfl,-,n4,-⟩:=id h.vi;obtain⟨A5,c5,rfl,-,n5,-⟩:=id h.kn;have bG:=jW x.lanes;have bs:=j7 x.views;obtain⟨W,hV,X,Z⟩:=nC w (.cells #[x.id,x.up,x.inc,x.g,.slice A1 x.lanes.length c1,.slice A2 x.kept.length c2,.slice A3 x.outs.length c3,x.led,x.version,.slice A4 x.views.length c4,.slice A5 x.known.length c5,x.round,x.low] 77);go_enter Tryz.func29,Tryz.ntmps29;go_wp2_with fail;rw[hV.out];clear hV;obtain⟨k,I⟩:∃t,hM left (((x.lanes.length:Int)+ix x.lanes))=t:=⟨_,rfl⟩;refine(Bn _ x.lanes left F _ (h.la.below X) h0 h1).mono ?_;rintro q w1 ⟨rfl,R⟩
 (try rw[I])
 have C:=fS I;clear I;have y:=fU X R (Below.size X);have a:=fu R (fx Z) Z;have aE:=kU a;have aF:=mc a;have aG:=mM a;have aH:=mS a;have aI:=mN a;have aJ:=nD a;have aK:=nE a;have aL:=om a;have aM:=ot a;have aN:=sA a;have ad:=md a;have ae:=rj a;have af:=rk a;apply_assumption;by_cases g1:k<0
 ·have P:decide (k<0)=true:=iW g1
  have f:=fS (show hM left (((x.lanes.length:Int)+ix x.lanes)+(x.kept.length:Int)+(x.outs.length:Int)+((x.views.length:Int)+iH x.views)+(x.known.length:Int))= -1 from iZ (by have j:=iE C.out g1 h0;omega));clear g1;go_wp2_with fail;go_ret;exact⟨by rw[f.out];rfl,y⟩
 have bB:decide (k<0)=false:=ia g1;have o:=fS (show k=left-(((x.lanes.length:Int)+ix x.lanes))∧0≤k by have j:=iz C.out g1;omega);have Y:0≤k:=o.out.2;have q1:k≤1048576:=by have:=o.out;omega
 clear g1 C;go_wp2_with fail;obtain⟨l,J⟩:∃t,hM k ((x.kept.length:Int))=t:=⟨_,rfl⟩;refine(pp _ x.kept.length k _ ⟨_,_,rfl⟩ n2 Y q1).mono ?_;rintro q w2 ⟨rfl,S⟩
 (try rw[J])
 have D:=fS J;clear J;have z:=fU y S (Below.size y);have b:=fu S (fx a) a;have aO:=kU b;have aP:=mc b;have aQ:=mM b;have aR:=mS b;have aS:=mN b;have aT:=nD b;have aU:=nE b;have aV:=om b;have aW:=ot b;have aX:=sA b;have ag:=md b;have ah:=rj b;have ai:=rk b;apply_assumption;by_cases g2:l<0
 ·have P:decide (l<0)=true:=iW g2
  have f:=fS (show hM left (((x.lanes.length:Int)+ix x.lanes)+(x.kept.length:Int)+(x.outs.length:Int)+((x.views.length:Int)+iH x.views)+(x.known.length:Int))= -1 from iZ (by have j:=iE D.out g2 Y;have i:=o.out;omega));clear g2;go_wp2_with fail;go_ret;exact⟨by rw[f.out];rfl,z⟩
 have bC:decide (l<0)=false:=ia g2;have p:=fS (show l=left-(((x.lanes.length:Int)+ix x.lanes)+(x.kept.length:Int))∧0≤l by have j:=iz D.out g2;have i:=o.out;omega);have p2:0≤l:=p.out.2;have q2:l≤1048576:=by have:=p.out;have i:=o.out;omega
 clear g2 D;go_wp2_with fail;obtain⟨m,L⟩:∃t,hM l ((x.outs.length:Int))=t:=⟨_,rfl⟩;refine(rZ _ x.outs.length l _ ⟨_,_,rfl⟩ n3 p2 q2).mono ?_;rintro q w3 ⟨rfl,T⟩
 (try rw[L])
 have E:=fS L;clear L;have v:=fU z T (Below.size z);have c:=fu T (fx b) b;have aY:=kU c;have aZ:=mc c;have a0:=mM c;have a1:=mS c;have a2:=mN c;have a3:=nD c;have a4:=nE c;have a5:=om c;have a6:=ot c;have a7:=sA c;have aj:=md c;have ak:=rj c;have al:=rk c;apply_assumption;by_cases g3:m<0
 ·have P:decide (m<0)=true:=iW g3
  have f:=fS (show hM left (((x.lanes.length:Int)+ix x.lanes)+(x.kept.length:Int)+(x.outs.length:Int)+((x.views.length:Int)+iH x.views)+(x.known.length:Int))= -1 from iZ (by have j:=iE E.out g3 p2;have i:=p.out;omega));clear g3;go_wp2_with fail;go_ret;exact⟨by rw[f.out];rfl,v⟩
 have bD:decide (m<0)=false:=ia g3;have r:=fS (show m=left-(((x.lanes.length:Int)+ix x.lanes)+(x.kept.length:Int)+(x.outs.length:Int))∧0≤m by have j:=iz E.out g3;have i:=p.out;omega);have p3:0≤m:=r.out.2;have q3:m≤1048576:=by have:=r.out;have i:=p.out;omega
 clear g3 E;go_wp2_with fail;obtain⟨n,M⟩:∃t,hM m (((x.views.length:Int)+iH x.views))=t:=⟨_,rfl⟩;refine(Bq _ x.views m F _ (h.vi.below v) p3 q3).mono ?_;rintro q w4 ⟨rfl,U⟩
 (try rw[M])
 have G:=fS M;clear M;have A:=fU v U (Below.size v);have d:=fu U (fx c) c;have a8:=kU d;have a9:=mc d;have a':=mM d;have ba:=mS d;have bb:=mN d;have bc:=nD d;have bd:=nE d;have bf:=om d;have bg:=ot d;have bh:=sA d;have am:=md d;have an:=rj d;have ao:=rk d;apply_assumption;by_cases g4:n<0
 ·have P:decide (n<0)=true:=iW g4
  have f:=fS (show hM left (((x.lanes.length:Int)+ix x.lanes)+(x.kept.length:Int)+(x.outs.length:Int)+((x.views.length:Int)+iH x.views)+(x.known.length:Int))= -1 from iZ (by have j:=iE G.out g4 p3;have i:=r.out;omega));clear g4;go_wp2_with fail;go_ret;exact⟨by rw[f.out];rfl,A⟩
 have bE:decide (n<0)=false:=ia g4;have s:=fS (show n=left-(((x.lanes.length:Int)+ix x.lanes)+(x.kept.length:Int)+(x.outs.length:Int)+((x.views.length:Int)+iH x.views))∧0≤n by have j:=iz G.out g4;have i:=r.out;omega);have p4:0≤n:=s.out.2;have q4:n≤1048576:=by have:=s.out;have i:=r.out;omega
 clear g4 G;go_wp2_with fail;obtain⟨u,O⟩:∃t,hM n ((x.known.length:Int))=t:=⟨_,rfl⟩;refine(vx _ x.known.length n _ ⟨_,_,rfl⟩ n5 p4 q4).mono ?_;rintro q w5 ⟨rfl,V⟩
 (try rw[O])
 have H:=fS O;clear O;have Q:=fU A V (Below.size A);have e:=fu V (fx d) d;have bi:=kU e;have bj:=mc e;have bk:=mM e;have bl:=mS e;have bm:=mN e;have bn:=nD e;have bo:=nE e;have bp:=om e;have bq:=ot e;have br:=sA e;have ap:=md e;have aq:=rj e;have ar:=rk e;apply_assumption;by_cases g5:u<0
 ·have P:decide (u<0)=true:=iW g5
  have f:=fS (show hM left (((x.lanes.length:Int)+ix x.lanes)+(x.kept.length:Int)+(x.outs.length:Int)+((x.views.length:Int)+iH x.views)+(x.known.length:Int))= -1 from iZ (by have j:=iE H.out g5 p4;have i:=s.out;omega));clear g5;go_wp2_with fail;go_ret;exact⟨by rw[f.out];rfl,Q⟩
 have bF:decide (u<0)=false:=ia g5;have B:=fS (show u=left-(((x.lanes.length:Int)+ix x.lanes)+(x.kept.length:Int)+(x.outs.length:Int)+((x.views.length:Int)+iH x.views)+(x.known.length:Int))∧0≤u by have j:=iz H.out g5;have i:=s.out;omega);have p5:0≤u:=B.out.2;have q5:u≤1048576:=by have:=B.out;have i:=s.out;omega
 clear g5 H;have f:=fS (show hM left (((x.lanes.length:Int)+ix x.lanes)+(x.kept.length:Int)+(x.outs.length:Int)+((x.views.length:Int)+iH x.views)+(x.known.length:Int))=u by have j:=B.out;rw[lp fT];omega);go_wp2_with fail;go_ret;exact⟨by rw[f.out];rfl,Q⟩
theorem sL (v:Value) (kd:Int) (xs:List iD) (F:Nat→Prop) (w:World) (h:Rd mK w F v xs):
  Calls Tryz.prog 120 #[v,kd] w fun q w' =>q= .returned (.bool (jK kd xs))∧Below w.heap.size w w':=by
 obtain⟨A,c,rfl,-,aK,-⟩:=id h;go_enter Tryz.func120,Tryz.ntmps120;go_wp2_with fail
 go_loopw [9] (fun i wr=>∃k:Nat,i= .int .i64 k∧k≤xs.length∧Hid ((List.range k).all (sB kd xs)=true)∧Below w.heap.size w wr) (fun i _=>xs.length-(intOf i).toNat)
 case atStart=>exact⟨0,rfl,j8 _,fS rfl,gM _ _⟩
 case round=>
  obtain⟨k,rfl,hk,Z,G⟩:=hrel;by_cases hlt:k<xs.length
  ·have hr:=h.below G
   obtain⟨b0,aX,aO,aQ,aM,aS,rfl,_,⟨L,M,O,P,Q,R,S⟩,⟨T,U,W,X⟩,s⟩:=lq hr k hlt;obtain⟨B0,ad,rfl,-⟩:=s.ic.shape;obtain⟨B1,ae,rfl,-⟩:=s.vs.shape;obtain⟨B2,af,rfl,-⟩:=s.ev.shape;obtain⟨B3,ag,rfl,-⟩:=s.ou.shape;have p0:(k:Int)<(xs.length:Int):=fT;have l:=fS (wF (kd:=kd) hlt);obtain⟨x,hx⟩:∃x,xs[k]=x:=⟨_,rfl⟩;have HX:=fS hx;rw[hx] at L M O P Q R S T U W X s l;clear hx;have z:=fS hlt;go_upto_region 4 with fail;obtain⟨V,hV,u,D⟩:=nC wr (.cells #[x.kind,x.from_,x.dest,x.inc,x.version,x.round,x.g,.slice B0 x.incs.length ad,.slice B1 x.versions.length ae,.slice B2 x.events.length af,.slice B3 x.outs.length ag] 88);have sq:=s.below u;have am:=hr.below u;have b:=fU G u G.size;clear L M O P Q R S T U W X s;obtain⟨gx,E⟩:∃g,g=wr.heap.size:=⟨_,rfl⟩;rw[←E] at D;simp only[←E];rw[hV.out];clear hV;have aW:=fx D;clear E u;obtain⟨d0,d1,d2,d3,d4,d5,d6,d7,d8,d9,aU⟩:=nR D;by_cases q1:x.kind=kd
   case neg=>
    have e1:(x.kind !=kd)=true:=by simpa using q1
    have m:=fS (lg z.out (by rw[l.out];simp[q1]));clear q1;refine kA [.rd [0,1,2,3,4,5],.mid 6,.rd [7,8,9,10,11,12,13,14,15,16,17,18,19,20,21,22]] [23] ?_
    repeat (first|(refine vL ?_;intro N hN;go_wp2_with fail;refine fV (hN _ ?_);clear hN N)|(refine vM ?_;intro N hN;go_wp2_with fail;refine vN (gM _ _) (hN _ _ ?_);clear hN))
    refine vF ?_;have d:=fS (fU b (gM V.heap.size V).drew b.size);go_wp2_with fail;go_ret;exact⟨by rw[m.out];rfl,d.out⟩
   have e1:(x.kind !=kd)=false:=by simp[q1]
   have H:=fS q1;clear q1;by_cases q2:k=0
   case pos=>
    have e2:decide ((k:Int)>0)=false:=ia fT;have ai:decide ((0:Int)<(k:Int))=false:=ia fT;have aj:decide (0<k)=false:=ia fT;have C:=fS q2;clear q2;refine kA [.rd [0,1,2,3,4,5],.mid 6,.rd [7,8,9,10,11,12,13,14,15,16,17,18,19,20,21,22]] [23] ?_;refine vL ?_;intro N hN;go_wp2_with fail;refine fV (hN _ ?_);clear hN N;refine vM ?_;intro N hN;go_wp2_with fail;refine(ql x _ _ _ _ F _ (sq.below (gM V.heap.size V).drew)).mono ?_;rintro e Y ⟨p,f⟩;have a:=f;clear f;obtain⟨r,j⟩:∃t,g9 x=t:=⟨_,rfl⟩;rw[j] at p;have n:=fS j;clear j;subst p;apply_assumption;refine vN a (hN _ _ ?_);clear hN;cases r
    case false=>
     have m:=fS (lg z.out (by rw[l.out,n.out];simp))
     repeat (first|(refine vL ?_;intro N hN;go_wp2_with fail;refine fV (hN _ ?_);clear hN N)|(refine vM ?_;intro N hN;go_wp2_with fail;refine vN a (hN _ _ ?_);clear hN))
     refine vF ?_;have d:=fS (fU b ((gK ((gM V.heap.size V).drew) a)) b.size);go_wp2_with fail;go_ret;exact⟨by rw[m.out];rfl,d.out⟩
    refine vL ?_;intro N hN;go_wp2_with fail;refine fV (hN _ ?_);clear hN N;refine vF ?_;have d:=fS (fU b (gK ((gM V.heap.size V).drew) a) b.size);have HS:=fS (mm Z.out (by rw[l.out,n.out];simp[H.out,C.out]));go_wp2_with fail;go_roundw
    case rel=>exact⟨k+1,by go_num,fT,HS,d.out⟩
    case measure=>exact ms
   have e2:decide ((k:Int)>0)=true:=iW fT;have ai:decide ((0:Int)<(k:Int))=true:=iW fT;have aj:decide (0<k)=true:=iW fT;have C:=fS q2;have I:k-1<xs.length:=fT;have B:=fS (xm I);obtain⟨b1,aY,aP,aR,aN,aT,o,_,⟨ao,ap,aq,ar,au,av,aw⟩,⟨ax,ay,az,aA⟩,aB⟩:=lq am (k-1) I;injection o with o;injection o with o hA2;subst o hA2;have p1:(0:Int)≤(k:Int)-1:=fT;have p2:(k:Int)-1<(xs.length:Int):=fT;have p5:IntKind.i64.wrap ((k:Int)-1)=(k:Int)-1:=IntWalk.i64_in _ fT;have aV:((k:Int)-1).toNat=k-1:=fT;have p6:1≤k:=fT;have p7:(1:Int)≤(k:Int):=fT;obtain⟨y,hy⟩:∃y,xs[k-1]=y:=⟨_,rfl⟩;rw[hy] at ap B;clear ao aq ar au av aw ax ay az aA aB hy q2;by_cases q6:y.from_<x.from_
   case neg=>
    have e6:decide (y.from_≥x.from_)=true:=iW fT;have ak:decide (x.from_≤y.from_)=true:=iW fT;have ah:=fS (lg z.out (by rw[l.out,B.out];simp[q6,C.out]));clear q6;refine kA [.rd [0,1,2,3,4,5],.mid 6,.rd [7,8,9,10,11,12,13,14,15,16,17,18,19,20,21,22]] [23] ?_;refine vL ?_;intro N hN;go_wp2_with fail;refine fV (hN _ ?_);clear hN N;refine vM ?_;intro N hN;go_wp2_with fail;refine(ql x _ _ _ _ F _ (sq.below (gM V.heap.size V).drew)).mono ?_;rintro e Y ⟨p,f⟩;have a:=f;clear f;obtain⟨r,j⟩:∃t,g9 x=t:=⟨_,rfl⟩;rw[j] at p;have n:=fS j;clear j;subst p;apply_assumption;refine vN a (hN _ _ ?_);clear hN;cases r
    case false=>
     have m:=fS (lg z.out (by rw[l.out,n.out];simp))
     repeat (first|(refine vL ?_;intro N hN;go_wp2_with fail;refine fV (hN _ ?_);clear hN N)|(refine vM ?_;intro N hN;go_wp2_with fail;refine vN a (hN _ _ ?_);clear hN))
     refine vF ?_;have d:=fS (fU b ((gK ((gM V.heap.size V).drew) a)) b.size);go_wp2_with fail;go_ret;exact⟨by rw[m.out];rfl,d.out⟩
    refine vL ?_;intro N hN;go_wp2_with fail;refine fV (hN _ ?_);clear hN N;refine vF ?_;have m:=ah;have d:=fS (fU b (gK ((gM V.heap.size V).drew) a) b.size);go_wp2_with fail;go_ret;exact⟨by rw[m.out];rfl,d.out⟩
   have e6:decide (y.from_≥x.from_)=false:=ia fT;have ak:decide (x.from_≤y.from_)=false:=ia fT;have aa:=fS q6;clear q6;refine kA [.rd [0,1,2,3,4,5],.mid 6,.rd [7,8,9,10,11,12,13,14,15,16,17,18,19,20,21,22]] [23] ?_;refine vL ?_;intro N hN;go_wp2_with fail;refine fV (hN _ ?_);clear hN N;refine vM ?_;intro N hN;go_wp2_with fail;refine(ql x _ _ _ _ F _ (sq.below (gM V.heap.size V).drew)).mono ?_;rintro e Y ⟨p,f⟩;have a:=f;clear f;obtain⟨r,j⟩:∃t,g9 x=t:=⟨_,rfl⟩;rw[j] at p;have n:=fS j;clear j;subst p;apply_assumption;refine vN a (hN _ _ ?_);clear hN;cases r
   case false=>
    have m:=fS (lg z.out (by rw[l.out,n.out];simp))
    repeat (first|(refine vL ?_;intro N hN;go_wp2_with fail;refine fV (hN _ ?_);clear hN N)|(refine vM ?_;intro N hN;go_wp2_with fail;refine vN a (hN _ _ ?_);clear hN))
    refine vF ?_;have d:=fS (fU b ((gK ((gM V.heap.size V).drew) a)) b.size);go_wp2_with fail;go_ret;exact⟨by rw[m.out];rfl,d.out⟩
   refine vL ?_;intro N hN;go_wp2_with fail;refine fV (hN _ ?_);clear hN N;refine vF ?_;have d:=fS (fU b (gK ((gM V.heap.size V).drew) a) b.size);have HS:=fS (mm Z.out (by rw[l.out,n.out,B.out];simp[H.out,aa.out]));go_wp2_with fail;go_roundw
   case rel=>exact⟨k+1,by go_num,fT,HS,d.out⟩
   case measure=>exact ms
  ·have J:k=xs.length:=fT
   have p0:¬(k:Int)<(xs.length:Int):=fT;have m:=fS (show jK kd xs=true by have h1:=Z.out;rwa [J] at h1);clear J;go_wp2_with fail;go_ret;exact⟨by rw[m.out];rfl,G⟩
theorem sy (x:oR):k8 x=(ib x.round 0 9999&&(jK 3 x.ones&&(jK 5 x.twos&&(jK 7 x.outs&&x.ones.all iT)))):=by
 simp only[k8,lw];cases ib x.round 0 9999<;>cases jK 3 x.ones<;>cases jK 5 x.twos<;>cases jK 7 x.outs<;>cases x.ones.all iT<;>rfl
theorem BB (x:oR) (v1 v2 v3:Value) (F:Nat→Prop) (w:World) (h:k7 w F v1 v2 v3 x):
  Calls Tryz.prog 85 #[.agg #[x.round,v1,v2,v3]] w fun q w' =>q= .returned (.bool (k8 x))∧Below w.heap.size w w':=by
 obtain⟨A1,c1,rfl,-⟩:=h.on.shape;obtain⟨A2,c2,rfl,-⟩:=h.tw.shape;obtain⟨A3,c3,rfl,-⟩:=h.ou.shape;obtain⟨W,hV,c,Z⟩:=nC w (.cells #[x.round,.slice A1 x.ones.length c1,.slice A2 x.twos.length c2,.slice A3 x.outs.length c3] 36);go_enter Tryz.func85,Tryz.ntmps85;go_upto_region 1 with fail;rw[hV.out];clear hV;replace h:=h.below c;have B:=fx Z;obtain⟨n,o,r,s⟩:=zh Z;go_wp2_with fail;refine(iF _ _ _ _).mono ?_;rintro q w0 ⟨b,hw⟩;subst w0;obtain⟨t,a⟩:∃t,ib x.round 0 9999=t:=⟨_,rfl⟩;rw[a] at b;have j:=fS a;clear a;subst b;cases t
 case false=>
  have d:=fS (show k8 x=false by simp[sy,j.out]);apply_assumption;go_wp2_with fail;go_ret;exact⟨by rw[d.out];rfl,c⟩
 apply_assumption;go_wp2_with fail;refine(sL _ _ x.ones F W h.on).mono ?_;rintro q w1 ⟨b,M⟩;obtain⟨t,a⟩:∃t,jK 3 x.ones=t:=⟨_,rfl⟩;rw[a] at b;have u:=fS a;clear a;subst b;have e:=fU (gM W.heap.size W) M (Below.size (gM W.heap.size W));have Z1:=fu e B Z;have A:=h.below e;clear n o r s;obtain⟨n,o,r,s⟩:=zh Z1;cases t
 case false=>
  have d:=fS (show k8 x=false by simp[sy,j.out,u.out]);apply_assumption;go_wp2_with fail;go_ret;exact⟨by rw[d.out];rfl,fU c e c.size⟩
 apply_assumption;go_wp2_with fail;refine(sL _ _ x.twos F w1 A.tw).mono ?_;rintro q w2 ⟨b,m⟩;obtain⟨t,a⟩:∃t,jK 5 x.twos=t:=⟨_,rfl⟩;rw[a] at b;have z:=fS a;clear a;subst b;have f:=fU e m (Below.size e);have Z2:=fu f B Z;have h2:=h.below f;clear n o r s;obtain⟨n,o,r,s⟩:=zh Z2;cases t
 case false=>
  have d:=fS (show k8 x=false by simp[sy,j.out,u.out,z.out]);apply_assumption;go_wp2_with fail;go_ret;exact⟨by rw[d.out];rfl,fU c f c.size⟩
 apply_assumption;go_wp2_with fail;refine(sL _ _ x.outs F w2 h2.ou).mono ?_;rintro q w3 ⟨b,O⟩;obtain⟨t,a⟩:∃t,jK 7 x.outs=t:=⟨_,rfl⟩;rw[a] at b;have I:=fS a;clear a;subst b;have l:=fU f O (Below.size f);have Z3:=fu l B Z;have h3:=h.below l;clear n o r s;obtain⟨n,o,r,s⟩:=zh Z3;cases t
 case false=>
  have d:=fS (show k8 x=false by simp[sy,j.out,u.out,z.out,I.out]);apply_assumption;go_wp2_with fail;go_ret;exact⟨by rw[d.out];rfl,fU c l c.size⟩
 apply_assumption;obtain⟨_,_,_,-,aK,-⟩:=id h.on;go_wp2_with fail;clear n o r s
 go_loopw [28] (fun i wr=>∃k:Nat,i= .int .i64 k∧k≤x.ones.length∧Hid ((x.ones.take k).all iT=true)∧Below W.heap.size W wr) (fun i _=>x.ones.length-(intOf i).toNat)
 case atStart=>exact⟨0,rfl,j8 _,fS rfl,l⟩
 case round=>
  clear Z1 Z2 Z3 A h2 h3 e f l M m O;obtain⟨k,rfl,hk,V,C⟩:=hrel;have hr:=h.on.below C;by_cases hlt:k<x.ones.length
  ·obtain⟨b0,aL,aE,aF,aD,aG,rfl,_,⟨af,ag,ah,ai,aj,ak,al⟩,⟨am,an,ao,ap⟩,v⟩:=lq hr k hlt
   obtain⟨R,D,rfl,-⟩:=v.ic.shape;obtain⟨S,E,rfl,-⟩:=v.vs.shape;obtain⟨T,G,rfl,-⟩:=v.ev.shape;obtain⟨U,H,rfl,-⟩:=v.ou.shape;have p0:(k:Int)<(x.ones.length:Int):=fT;obtain⟨y,Q⟩:∃y,x.ones[k]=y:=⟨_,rfl⟩;have Y:=fS Q;rw[Q] at af ag ah ai aj ak al am an ao ap v;clear Q;have X:=fS hlt;have m:=fU C (gs (gM wr.heap.size wr) (.cells #[y.kind,y.from_,y.dest,y.inc,y.version,y.round,y.g,.slice R y.incs.length D,.slice S y.versions.length E,.slice T y.events.length G,.slice U y.outs.length H] 88)) C.size;have sq:=v.below (gs (gM wr.heap.size wr) (.cells #[y.kind,y.from_,y.dest,y.inc,y.version,y.round,y.g,.slice R y.incs.length D,.slice S y.versions.length E,.slice T y.events.length G,.slice U y.outs.length H] 88));go_wp2_with fail;refine(AL y _ _ _ _ F _ sq).mono ?_;rintro q w5 ⟨b,ae⟩;obtain⟨t,a⟩:∃t,iT y=t:=⟨_,rfl⟩;rw[a] at b;have J:=fS a;clear a;subst b;have L:=fU m ae m.size;cases t
   case false=>
    have d:=fS (show k8 x=false by have h9:=ig (p:=iT) X.out (by rw[Y.out];exact J.out);simp[sy,h9]);apply_assumption;go_wp2_with fail;go_ret;exact⟨by rw[d.out];rfl,fU c L c.size⟩
   apply_assumption;have HS:=fS (ir (p:=iT) X.out V.out (by rw[Y.out];exact J.out));go_wp2_with fail;go_roundw
   case rel=>exact⟨k+1,by go_num,fT,HS,L⟩
   case measure=>exact ms
  ·have P:k=x.ones.length:=fT
   have p0:¬(k:Int)<(x.ones.length:Int):=fT;have d:=fS (show k8 x=true by have A:=V.out;rw[P,li] at A;simp[sy,A,j.out,u.out,z.out,I.out]);clear P;go_wp2_with fail;go_ret;exact⟨by rw[d.out];rfl,fU c C c.size⟩
end Go.Proofs.YtlndjfflhegkdaaGreatDoor
