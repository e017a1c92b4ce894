/- Parts of the proof: Ez1, Nh7, Nh9, Te7. -/
import Derived.Test.YtlndjfflhegkdaaGreatDoorQ39
set_option linter.unusedVariables false
set_option linter.unusedSimpArgs false
set_option linter.unusedSectionVars false
set_option maxHeartbeats 4000000
set_option maxRecDepth 100000
namespace Go.Proofs.YtlndjfflhegkdaaGreatDoor
open Go.RowKit
theorem CI (x:iP) (vs vo:Value) (left:Int) (F:Nat→Prop) (w:World) (g1:Rd iw w F vs x.sends) (g2:Rd hJ w F vo x.outs) (h0:0≤left) (h1:left≤1048576):
  Calls Tryz.prog 171 #[.agg #[x.ev.time,x.ev.to,x.ev.from_,x.ev.count,x.ev.n,x.ev.kind,x.ev.arg,x.st.x,x.st.y,x.st.c,vs,vo],left] w fun q w' =>q= .returned (.int .i64 (hM left ((x.sends.length:Int)+(x.outs.length:Int))))∧Below w.heap.size w w':=by
 obtain⟨E,I,rfl,-,n1,-⟩:=id g1;obtain⟨G,J,rfl,-,n2,-⟩:=id g2;obtain⟨W,hV,u,Z⟩:=nC w (.cells #[x.ev.time,x.ev.to,x.ev.from_,x.ev.count,x.ev.n,x.ev.kind,x.ev.arg,x.st.x,x.st.y,x.st.c,.slice E x.sends.length I,.slice G x.outs.length J] 273);go_enter Tryz.func171,Tryz.ntmps171;go_wp2_with fail;rw[hV.out];clear hV;obtain⟨a,k⟩:∃t,hM left ((x.sends.length:Int))=t:=⟨_,rfl⟩;refine(pp _ x.sends.length left _ ⟨_,_,rfl⟩ n1 h0 h1).mono ?_;rintro q w1 ⟨rfl,p⟩
 (try rw[k])
 have i:=fS k;clear k;have e:=fU u p (Below.size u);have s:=fu p (fx Z) Z;obtain⟨L,M,O,P,Q,R,S,T,U,V,A,B⟩:=o6 s;apply_assumption;by_cases g1:a<0
 ·have hd:decide (a<0)=true:=iW g1
  have f:=fS (show hM left ((x.sends.length:Int)+(x.outs.length:Int))= -1 from iZ (by have m:=iE i.out g1 h0;omega));clear g1;go_wp2_with fail;go_ret;exact⟨by rw[f.out];rfl,e⟩
 have am:decide (a<0)=false:=ia g1;have b:=fS (show a=left-((x.sends.length:Int))∧0≤a by have m:=iz i.out g1;omega);have z:0≤a:=b.out.2;have q1:a≤1048576:=by have:=b.out;omega
 clear g1 i;go_wp2_with fail;obtain⟨d,l⟩:∃t,hM a ((x.outs.length:Int))=t:=⟨_,rfl⟩;refine(rZ _ x.outs.length a _ ⟨_,_,rfl⟩ n2 z q1).mono ?_;rintro q w2 ⟨rfl,r⟩
 (try rw[l])
 have j:=fS l;clear l;have o:=fU e r (Below.size e);have H:=fu r (fx s) s;obtain⟨X,Y,aa,ab,ac,ad,ae,af,ag,ah,C,D⟩:=o6 H;apply_assumption;by_cases g2:d<0
 ·have hd:decide (d<0)=true:=iW g2
  have f:=fS (show hM left ((x.sends.length:Int)+(x.outs.length:Int))= -1 from iZ (by have m:=iE j.out g2 z;have v:=b.out;omega));clear g2;go_wp2_with fail;go_ret;exact⟨by rw[f.out];rfl,o⟩
 have an:decide (d<0)=false:=ia g2;have g:=fS (show d=left-((x.sends.length:Int)+(x.outs.length:Int))∧0≤d by have m:=iz j.out g2;have v:=b.out;omega);have p2:0≤d:=g.out.2;have q2:d≤1048576:=by have:=g.out;have v:=b.out;omega
 clear g2 j;have f:=fS (show hM left ((x.sends.length:Int)+(x.outs.length:Int))=d by have m:=g.out;rw[lp fT];omega);go_wp2_with fail;go_ret;exact⟨by rw[f.out];rfl,o⟩
def iB:List iP→Int
 | []=>0
 |r::rs=>((r.sends.length:Int)+(r.outs.length:Int))+iB rs
theorem jv:∀rs,0≤iB rs
 | []=>Int.le_refl _
 |r::rs=>by have:=jv rs;have h2:0≤((r.sends.length:Int)+(r.outs.length:Int)):=fT;simp only[iB];omega
theorem pd:∀(rs:List iP) (k:Nat) (h:k<rs.length),iB (rs.take (k+1))=iB (rs.take k)+((rs[k].sends.length:Int)+(rs[k].outs.length:Int))
 |r::rs,0,h=>by simp[iB]
 |r::rs,k+1,h=>by
  have:=pd rs k (by simpa using h);simp only[List.take_succ_cons,iB,List.getElem_cons_succ] at this ⊢;omega
theorem uL:∀(rs:List iP) (k:Nat),iB (rs.take k)≤iB rs
 | [],k=>by simp
 |r::rs,0=>by simpa [iB] using jv (r::rs)
 |r::rs,k+1=>by have:=uL rs k;simp only[List.take_succ_cons,iB];omega
theorem tb:∀(rs:List iP) (r:iP),r∈rs→((r.sends.length:Int)+(r.outs.length:Int))≤iB rs
 |r'::rs,r,h=>by
  rcases List.mem_cons.1 h with rfl|h
  ·have:=jv rs;simp only[iB];omega
  ·have:=tb rs r h
   have h2:0≤(fun r:iP=>(((r.sends.length:Int)+(r.outs.length:Int)):Int)) r':=(fun r:iP=>(show 0≤(((r.sends.length:Int)+(r.outs.length:Int)):Int) from fT)) r';simp only[iB] at h2 ⊢;omega
theorem Bp (v:Value) (rs:List iP) (left:Int) (F:Nat→Prop) (w:World) (h:Rd kO w F v rs) (h0:0≤left) (h1:left≤1048576):
  Calls Tryz.prog 146 #[v,left] w fun q w' =>q= .returned (.int .i64 (hM left (rs.length+iB rs)))∧Below w.heap.size w w':=by
 obtain⟨A,c,rfl,-,T,-⟩:=id h;have R:IntKind.i64.wrap (left-rs.length)=left-rs.length:=IntWalk.i64_in _ fT;have H:=jv rs;by_cases hneg:left-(rs.length:Int)<0
 ·have E:decide (left-(rs.length:Int)<0)=true:=iW hneg
  have a:=fS (show hM left (rs.length+iB rs)= -1 by unfold hM;rw[if_pos fT]);clear hneg;go_enter Tryz.func146,Tryz.ntmps146;go_wp2_with fail;go_ret;exact⟨by rw[a.out];rfl,gM _ _⟩
 ·have E:decide (left-(rs.length:Int)<0)=false:=ia hneg
  have B:=fS hneg;clear hneg;go_enter Tryz.func146,Tryz.ntmps146;go_wp2_with fail
  go_loopw [1,5] (fun l i wr=>∃(k:Nat) (m:Int),i= .int .i64 k∧k≤rs.length∧l= .int .i64 m∧Hid (m=left-(rs.length+iB (rs.take k))∧0≤m)∧Below w.heap.size w wr) (fun _ i _=>rs.length-(intOf i).toNat)
  case atStart=>exact⟨0,_,rfl,j8 _,rfl,⟨by simp[iB],by have:=B.out;omega⟩,gM _ _⟩
  case round=>
   obtain⟨k,m,rfl,S,rfl,d,e⟩:=hrel;by_cases hlt:k<rs.length
   ·obtain⟨b,o,L,O,M,P,rfl,G,⟨W,X,Y,Z,z4,z5,z6⟩,⟨z7,z8,z9⟩,I,J,y,z⟩:=lM (h.below e) k hlt
    have U:(k:Int)<(rs.length:Int):=fT;have g:=d.out.2;have x:m≤1048576:=by have:=d.out.1;have:=jv (rs.take k);omega
    obtain⟨t,f⟩:∃t,hM m ((rs[k].sends.length:Int)+(rs[k].outs.length:Int))=t:=⟨_,rfl⟩;have p:=fS f;go_wp2_with fail;refine(CI rs[k] _ _ m _ wr y z g x).mono ?_;rintro q V ⟨rfl,r⟩;rw[f];have n:=fU e r e.size;apply_assumption;by_cases hneg:t<0
    ·have s:decide (t<0)=true:=iW hneg
     have a:=fS (show hM left (rs.length+iB rs)= -1 from iZ (by
      have j:=d.out.1;have C:=iE p.out hneg g;have D:=pd rs k hlt;have Q:=uL rs (k+1);omega))
     clear hneg f;go_wp2_with fail;go_ret;exact⟨by rw[a.out];rfl,n⟩
    ·have s:decide (t<0)=false:=ia hneg
     have HM':=fS (show t=left-(rs.length+iB (rs.take (k+1)))∧0≤t by
      have j:=d.out.1;have C:=iz p.out hneg;have D:=pd rs k hlt;omega)
     clear hneg f;go_wp2_with fail;go_roundw
     case rel=>exact⟨k+1,t,by go_num,fT,rfl,HM',n⟩
     case measure=>exact ms
   ·have u:k=rs.length:=fT
    subst u;have a:=fS (show hM left (rs.length+iB rs)=m by
     have j:=d.out;rw[li] at j;rw[lp fT];omega)
    go_wp2_with fail;go_ret;exact⟨by rw[a.out];rfl,e⟩
theorem CF (l:il) (v:Value) (left:Int) (F:Nat→Prop) (w:World) (h:Rd kO w F v l.done) (h0:0≤left) (h1:left≤1048576):
  Calls Tryz.prog 103 #[.agg #[l.proc,l.base.x,l.base.y,l.base.c,v],left] w fun q w' =>q= .returned (.int .i64 (hM left (((l.done.length:Int)+iB l.done))))∧Below w.heap.size w w':=by
 obtain⟨m,o,rfl,-⟩:=h.shape;have B:=jv l.done;obtain⟨W,hV,j,Z⟩:=nC w (.cells #[l.proc,l.base.x,l.base.y,l.base.c,.slice m l.done.length o] 169);go_enter Tryz.func103,Tryz.ntmps103;go_wp2_with fail;rw[hV.out];clear hV;obtain⟨a,e⟩:∃t,hM left (((l.done.length:Int)+iB l.done))=t:=⟨_,rfl⟩;refine(Bp _ l.done left _ _ (h.below j) h0 h1).mono ?_;rintro q G ⟨rfl,g⟩
 (try rw[e])
 have d:=fS e;clear e;have f:=fU j g (Below.size j);have n:=fu g (fx Z) Z;obtain⟨p,r,s,u,z⟩:=yQ n;apply_assumption;by_cases g1:a<0
 ·have C:decide (a<0)=true:=iW g1
  have i:=fS (show hM left (((l.done.length:Int)+iB l.done))= -1 from iZ (by have k:=iE d.out g1 h0;omega));clear g1;go_wp2_with fail;go_ret;exact⟨by rw[i.out];rfl,f⟩
 have A:decide (a<0)=false:=ia g1;have b:=fS (show a=left-(((l.done.length:Int)+iB l.done))∧0≤a by have k:=iz d.out g1;omega);have D:0≤a:=b.out.2;have E:a≤1048576:=by have:=b.out;omega
 clear g1 d;have i:=fS (show hM left (((l.done.length:Int)+iB l.done))=a by have k:=b.out;rw[lp fT];omega);go_wp2_with fail;go_ret;exact⟨by rw[i.out];rfl,f⟩
theorem EL (n:gT) (lo hi gb:Nat) (vb vk vo vd:Value) (gm:Nat) (vn:Value) (vs:List (lz 3)) (rs:List (lz 1)) (w:World) (h:mP w lo hi gb vb vk vo vd gm vn vs rs n) (hf:lX n):
  Calls Tryz.prog 179 #[.pointer (some ⟨gb,0,none⟩)] w fun q w' =>∃u,q= .returned u∧Ow iw 91 w' (fun k=>w.heap.size≤k) u (jb n)∧Below w.heap.size w w':=by
 obtain⟨Ad,cd,rfl⟩:=h.vdS;obtain⟨A2,c2,rfl,-⟩:=h.ke.shape;go_enter Tryz.func179,Tryz.ntmps179;have t:w.heap[gb]? =some (.cells #[n.id,n.inc,n.g,n.led,vb,.slice A2 n.kept.length c2,vo,n.up,.slice Ad n.lanes.length cd,n.version,.map (some gm),vn,n.round,n.low] 247):=(show _∧_ from mP.sets h |>.get 0 rfl).2;obtain⟨v,z,B,C,D,E,F,G,H,I,J,L,M,O⟩:=xf t;go_wp2_with fail;refine(Au _ n.kept _ _ h.ke (by have:=hf.kept;omega)).mono ?_;rintro q w1 ⟨u,rfl,aa,f⟩;apply_assumption;clear t v z B C D E F G H I J L M O;have h1:=h.keep f;have t:w1.heap[gb]? =some (.cells #[n.id,n.inc,n.g,n.led,vb,.slice A2 n.kept.length c2,vo,n.up,.slice Ad n.lanes.length cd,n.version,.map (some gm),vn,n.round,n.low] 247):=(show _∧_ from mP.sets h1 |>.get 0 rfl).2;obtain⟨v,z,B,C,D,E,F,G,H,I,J,L,M,O⟩:=xf t;have a6:=fS (show jb n=n.kept++n.lanes.flatMap ko from rfl);have ac:n.kept++(n.lanes.take 0).flatMap ko=n.kept:=by simp
 have a8:=hf.lanes;go_wp2_with fail;clear t v z B C D E F G H I J L M O
 go_loopw [3,19] (fun u i wr=>∃j:Nat,i= .int .i64 j∧j≤n.lanes.length∧Ow iw 91 wr (fun k=>w.heap.size≤k) u (n.kept++(n.lanes.take j).flatMap ko)∧Below w.heap.size w wr) (fun _ i _=>n.lanes.length-(intOf i).toNat)
 case atStart=>exact⟨0,rfl,j8 _,by rw[ac];exact aa,f⟩
 case round=>
  clear aa f h1 ac;obtain⟨j,rfl,hj,b,a⟩:=hrel;obtain⟨e,o⟩:∃e,n.kept++(n.lanes.take j).flatMap ko=e:=⟨_,rfl⟩;rw[o] at b;have Y:=fS o;have aq:=fS (show e.length≤504 by have:=xF hf j;rw[←o];exact this);clear o;obtain⟨A,c,rfl,-⟩:=b.shape;have ak:=a.size;by_cases hlt:j<n.lanes.length
  ·have p0:(j:Int)<(n.lanes.length:Int):=fT
   have pj:(0:Int)≤(j:Int):=fT;obtain⟨b0,o0,A6,c6,az,aD,s,r1⟩:=tR (h.keep a) j hlt;subst az;obtain⟨b9,o9,A9,c9,P,ae,T,S⟩:=tR h j hlt;injection P with P;injection P with u1 u2 _;subst u1 u2;rw[(a.cell (p:=⟨b0,_,none⟩) ae).trans T] at s;have aS:=Option.some.inj s;injection aS with u1 u2 u3;subst u1 u3;clear r1 s aD u2;have s:=(a.cell (p:=⟨b0,o0+j,none⟩) ae).trans T;replace S:=S.bound;have HF:=fS (mW ko hlt);have W:=fS (hf.done n.lanes[j] (List.getElem_mem hlt));have V:=fS (show ko n.lanes[j]=n.lanes[j].done.flatMap (fun p=>p.sends) from rfl);obtain⟨x,hx⟩:∃x,n.lanes[j]=x:=⟨_,rfl⟩;rw[hx] at s T S HF W V;clear hx T;have d:=W.out;go_upto_region 6 with fail;have ad:e++(x.done.take 0).flatMap (fun p=>p.sends)=e:=by simp
   clear s
   go_loopw [3,25] (fun u i wr=>∃m:Nat,i= .int .i64 m∧m≤x.done.length∧Ow iw 91 wr (fun k=>w.heap.size≤k) u (e++(x.done.take m).flatMap (fun p=>p.sends))∧Below w.heap.size w wr) (fun _ i _=>x.done.length-(intOf i).toNat)
   case atStart=>exact⟨0,rfl,j8 _,by rw[ad];exact b,a⟩
   case round=>
    clear b a ak ad;obtain⟨m,rfl,hm,b,a⟩:=hrel;obtain⟨zs,r⟩:∃zs,e++(x.done.take m).flatMap (fun p=>p.sends)=zs:=⟨_,rfl⟩;rw[r] at b;have Z:=fS r;have ar:=fS (show zs.length≤706 by have:=aq.out;have:=pR d.1 d.2 m;rw[←r,List.length_append];omega);clear r;obtain⟨A,c,rfl,-⟩:=b.shape;have a7:=d.1;by_cases hm2:m<x.done.length
    ·obtain⟨b1,o1,A7,c7,A8,c8,aA,f,⟨x0,x1,x2,x3,x4,x5,x6⟩,⟨x7,x8,x9⟩,ah,ai,r2,r3⟩:=lM (S.below a) m hm2
     subst aA;have p1:(m:Int)<(x.done.length:Int):=fT;have X:=fS (mW (fun p:iP=>p.sends) hm2);have U:=fS ((d.2 x.done[m] (List.getElem_mem hm2)).1);obtain⟨p,hp⟩:∃p,x.done[m]=p:=⟨_,rfl⟩;rw[hp] at x0 x1 x2 x3 x4 x5 x6 x7 x8 x9 ah ai r2 r3 X U;clear hp r3 d;go_upto_region 8 with fail;obtain⟨W5,hV,l,LX⟩:=nC wr (.cells #[p.ev.time,p.ev.to,p.ev.from_,p.ev.count,p.ev.n,p.ev.kind,p.ev.arg,p.st.x,p.st.y,p.st.c,.slice A7 p.sends.length c7,.slice A8 p.outs.length c8] 185);have ab:=b.bound.below l;have r5:=r2.below l;have Q:=fU a l a.size;obtain⟨g,hg⟩:∃g,g=wr.heap.size:=⟨_,rfl⟩;rw[←hg] at LX;simp only[←hg];rw[hV.out];clear hV;clear hg x0 x1 x2 x3 x4 x5 x6 x7 x8 x9 ah ai l b a r2;have a9:=md LX;go_wp2_with (at_builtin;(refine jH rfl 49 rfl Tryz.underlying49 _ 56 jA rfl dc dc rfl ab rfl r5 (by have:=ar.out;have:=U.out;omega) (fun k=>w.heap.size≤k) (fun _ R=>R.1) (fun k R=>ly Q.size R) ?_);intro v7 w7 aC aB aZ);have aE:=mq Q aB (fun k R=>(ab.inF R).1) Q.size;go_roundw
     case rel=>exact⟨m+1,by go_num,fT,by rw[X.out,←List.append_assoc,Z.out];exact aC,aE⟩
     case measure=>exact ms
    ·have ag:m=x.done.length:=fT
     have p1:¬(m:Int)<(x.done.length:Int):=fT;have HM:=fS (show ko x=(x.done.take m).flatMap (fun p=>p.sends) by rw[ag,li];exact V.out);clear ag d;go_wp2_with fail;go_roundw
     case rel=>exact⟨j+1,by go_num,fT,by rw[HF.out,HM.out,←List.append_assoc,Y.out,Z.out];exact b,a⟩
     case measure=>exact ms
  ·have af:j=n.lanes.length:=fT
   have HZ:=fS (show jb n=e by rw[←Y.out,af,li];rfl);have p0:¬(j:Int)<(n.lanes.length:Int):=fT;clear af;go_wp2_with fail;go_ret;exact⟨_,rfl,by rw[HZ.out];exact b,a⟩
theorem Bw {w:World} {lo hi gb:Nat} {vb vk vo vd:Value} {gm:Nat} {vn:Value} {vs:List (lz 3)} {rs:List (lz 1)} {n:gT} (h:mP w lo hi gb vb vk vo vd gm vn vs rs n) (hl:n.views.length≤1000) (j:Nat) (hj:j<n.views.length):
  ∃A c,(Instr.lookup 245 (.map (some gm)) (.int .i64 (j:Int)) false).run Tryz.prog w= .ok (.agg #[n.views[j].inc,n.views[j].version,.slice A n.views[j].events.length c]) w∧Rd iw w (tK lo hi) (.slice A n.views[j].events.length c) n.views[j].events:=by
 have f:=h.vi.1;obtain⟨r,e,v,g,d⟩:=h.vi.2 j n.views[j] (pE hj);obtain⟨A,c,rfl,-⟩:=d.shape;have i:w.heap[gm]? =some (og (vs.map tr)):=(show _∧_ from h.sets.get 2 rfl).2;have a:j<(vs.map (tr (m:=3))).length:=by rw[List.length_map,f];exact hj
 have k:=Dr i (by rw[List.length_map,f];exact hl) j a;refine⟨A,c,?_,d⟩;rw[k];have b:(vs.map (tr (m:=3)))[j]? =some (tr r):=by rw[List.getElem?_map,e];rfl
 rw[pE a] at b;rw[Option.some.inj b];show Result.ok (Value.agg r.cs.toArray) w=_;rw[g];rfl
theorem zm (a b:Int) (A:Option Addr) (m c:Nat) (w:World):(Instr.field 180 (.agg #[a,b,.slice A m c]) 2).run Tryz.prog w= .ok (.slice A m c) w:=by
 kernel_rfl
theorem Er (n:gT) (lo hi gb:Nat) (vb vk vo vd:Value) (gm:Nat) (vn:Value) (vs:List (lz 3)) (rs:List (lz 1)) (w:World) (h:mP w lo hi gb vb vk vo vd gm vn vs rs n) (hf:lX n) (hw:xc n) (p:Int):
  Calls Tryz.prog 156 #[.pointer (some ⟨gb,0,none⟩),p] w fun q w' =>∃u,q= .returned u∧Ow iw 91 w' (fun k=>w.heap.size≤k) u (jq n p)∧Below w.heap.size w w':=by
 obtain⟨W,hV,D,E,P⟩:=FK w (.cells #[.pointer (some ⟨gb,0,none⟩)] 236) (.cells #[p] 3);go_enter Tryz.func156,Tryz.ntmps156;go_upto_region 1 with fail;rw[hV.out];clear hV;replace h:=h.keep D;have o:=fx E;have B:=fx P;have t:=kU E;go_wp2_with fail;refine(EL n lo hi gb vb vk vo vd gm vn vs rs W h hf).mono ?_;rintro q w1 ⟨u1,rfl,J,v⟩;apply_assumption;clear t;have t:w1.cell? ⟨w.heap.size,0,none⟩=some (.pointer (some ⟨gb,0,none⟩)):=fw (fu v o E) 0;go_wp2_with fail;clear t
 go_loopw [5,9] (fun u i wr=>∃j:Nat,i= .int .i64 j∧j≤3∧Ow iw 91 wr (fun k=>W.heap.size≤k) u (jb n++iY n j)∧Below W.heap.size W wr) (fun _ i _=>3-(intOf i).toNat)
 case atStart=>exact⟨0,rfl,j8 _,by simpa [iY] using J,v⟩
 case round=>
  clear J v;obtain⟨j,rfl,hj,r,a⟩:=hrel;obtain⟨e,m⟩:∃e,jb n++iY n j=e:=⟨_,rfl⟩;rw[m] at r;have f:=fS m;have H:=fS (show e.length≤804 by have h1:=pV hf;have h2:=rI hf j;rw[←m,List.length_append];omega);clear m;obtain⟨A,c,rfl,-⟩:=r.shape;have Zr:=fu a o E;have b:=a.size;have t:=kU Zr;have M:=h.keep a;have O:wr.heap[gb]? =some (.cells #[n.id,n.inc,n.g,n.led,vb,vk,vo,n.up,vd,n.version,.map (some gm),vn,n.round,n.low] 247):=(show _∧_ from mP.sets M |>.get 0 rfl).2;obtain⟨Q,R,S,T,U,V,X,Y,Z,aa,ab,ac,ad,ae⟩:=xf O;have ay:=fS hf.views;by_cases hlt:j<3
  ·have l:j<n.views.length:=by rw[hf.views];exact hlt
   have p0:(j:Int)<3:=fT;by_cases he:(j:Int)=n.id
   ·have e0:((j:Int)==n.id)=true:=by simpa using he
    have C:=fS (show iY n (j+1)=iY n j by simp only[iY];rw[if_pos he]);clear he;go_wp2_with fail;go_roundw
    case rel=>exact⟨j+1,by go_num,fT,by rw[C.out,f.out];exact r,a⟩
    case measure=>exact ms
   ·have e0:((j:Int)==n.id)=false:=by simpa using he
    have C:=fS (show iY n (j+1)=iY n j++n.views[j].events by simp only[iY];rw[if_neg he,List.getD_eq_getElem?_getD,pE l];rfl);have G:=fS (hf.evs _ (List.getElem_mem l));obtain⟨A6,c6,al,r1⟩:=Bw M (by rw[hf.views];decide) j l;clear he;obtain⟨x,F⟩:∃x,n.views[j]=x:=⟨_,rfl⟩;rw[F] at al r1 C G;clear F;have az:=zm x.inc x.version A6 x.events.length c6 wr;go_wp2_with (at_builtin;(refine jH rfl 49 rfl Tryz.underlying49 _ 56 jA rfl dc dc rfl r rfl r1 (by have:=H.out;have:=G.out;omega) (fun k=>W.heap.size≤k) (fun _ s=>s) (fun k s=>fT) ?_);intro v9 w9 ai af au);have ak:=mq a af (fun k s=>r.inF s) a.size;go_roundw
    case rel=>exact⟨j+1,by go_num,fT,by rw[C.out,←List.append_assoc,f.out];exact ai,ak⟩
    case measure=>exact ms
  ·have L:j=3:=fT
   have p0:¬(j:Int)<3:=fT;have I:=fS (show jb n++k6 n=e by rw[←f.out,L,k6,hf.views]);clear L hlt;have aA:=H.out;have a2:wr.cell? ⟨w.heap.size+1,0,none⟩=some (.int .i64 p):=fw (fu a B P) 0;clear Q R S T U V X Y Z aa ab ac ad ae O;go_wp2_with fail;refine(zA (w.heap.size+1) w.heap.size (lc n p) _ e _ wr r.rd fT (fun y w5 d=>BP y p _ _ gb n lo hi vb vk vo vd gm vn vs rs w5 (M.keep d) ((d.cell (p:=⟨w.heap.size+1,0,none⟩) (sF B b)).trans a2) ((d.cell (p:=⟨w.heap.size,0,none⟩) (sF o b)).trans t) (sF B (ly b d.size)) (sF o (ly b d.size)))).mono ?_;rintro q w6 ⟨u6,rfl,ag,z⟩;apply_assumption;go_wp2_with fail;refine(oP _ (e.filter (lc n p)) _ _ ag.rd (by have:=List.length_filter_le (lc n p) e;omega) (fun x F=>Df hw x (by rw[I.out];exact(List.mem_filter.1 F).1))).mono ?_;rintro q w7 ⟨u7,rfl,ah,aj⟩;apply_assumption;go_wp2_with fail;go_ret;exact⟨_,rfl,by rw[show jq n p=iI (e.filter (lc n p)) by rw[←I.out];rfl];exact ah.mono (fun k s=>ly D.size (ly a.size (ly z.size s))),fU D (fU a (fU z aj z.size) a.size) D.size⟩
theorem ug:(Tryz.prog.info? 105).map (fun i=>(i.zero,i.size,i.bytes))=some (some .nilIface,1,16):=gY
def sf (w:World) (g:Nat) (b:Bool) (j:Nat):Prop:=
 ∃(v:Value) (rs:List (lz 1)),w.heap[g]? =some (.cells #[v] 146)∧Ow (kF 1) 105 w (fun k=>g<k) v rs∧(∀r∈rs,∃t x,r.cs=[.iface t x])∧rs.length≤j∧(rs=[]↔b=true)
theorem sf.below {w w':World} {g:Nat} {b:Bool} {j:Nat} (h:sf w g b j) (hb:Below w.heap.size w w'):sf w' g b j:=by
 obtain⟨v,e,a,c,d⟩:=h;exact⟨v,e,fu hb (fx a) a,c.below hb,d⟩
theorem sG (ok b:Bool) (t:TypeId) (x:Value) (g j:Nat) (w:World) (h:sf w g b j) (hj:j≤10):
  Calls Tryz.prog 81 #[.bool ok,.iface t x,.pointer (some ⟨g,0,none⟩)] w fun q w' =>q= .returned (.tuple #[])∧sf w' g (b&&ok) (j+1)∧Ch (fun k=>g≤k) w w':=by
 obtain⟨v,l,Z,f,s,O,B⟩:=h;obtain⟨A,c,rfl,-⟩:=f.shape;have L:=kU Z;have M:=ft Z 0;have C:=fx Z;cases ok
 case true=>
  go_enter Tryz.func81,Tryz.ntmps81;go_wp2_with fail
  go_end0
  exact⟨rfl,⟨_,l,Z,f,s,fT,by simpa using B⟩,Ch.refl _ _⟩
 case false=>
  go_enter Tryz.func81,Tryz.ntmps81;have G:=fS (show ∀r∈l++[DC (.iface t x) rfl],∃t x,r.cs=[.iface t x] from fun r a=>by
   rcases List.mem_append.1 a with a|a
   ·exact s r a
   ·simp only[List.mem_singleton] at a;subst a;exact⟨t,x,rfl⟩)
  clear s B;go_wp2_with (at_builtin;refine ky (d:=kF 1) rfl 146 rfl Tryz.underlying146 _ 16 ug rfl dc dc rfl (f.alloc _) (DC (.iface t x) rfl) _ rfl (gL rfl) (fun _=>False) (by rfl) (fun _ i=>i.elim) (fun _ i=>i.elim) fT (fun q=>g<q) (fun _ hq=>hq) (fun _ i=>i.elim) (fun q hq=>by simp only[lb] at hq;show g<q;omega) ?_;intro P Q n m I;obtain⟨E,H,D,-⟩:=n.shape;subst D;have o:=(m.block g (by simp only[lb];omega) (fun e=>by have z:g<g:=f.inF e.symm;omega)).trans ((gP C).trans Z);have J:=ft o 0;have y:=fw o 0;simp only[List.getElem?_cons_zero,List.getElem?_toArray] at y)
  go_end0
  have F:=((Ch.refl (fun k=>g≤k) w).alloc _).grown m (fun k u=>Or.inl (by have z:g<k:=f.inF u;show g≤k;omega));refine⟨rfl,⟨_,l++[DC (.iface t x) rfl],by simpa using gJ o 0 (.slice E (l++[DC (.iface t x) rfl]).length H),n.ch (Ch.setCell (p:=⟨g,0,none⟩) (Ch.refl (fun k=>k=g) _) (Or.inl rfl) _) (fun k u e=>by have z:g<k:=u;omega),G.out,by simp;omega,by simp⟩,?_⟩;exact Ch.setCell (p:=⟨g,0,none⟩) F (Or.inl (jn _)) _
def BC (n:Nat) (w:World) (q:Ending) (w':World):Prop:=(∃e,q= .returned e∧((n=0∧e= .nilIface)∨(0<n∧∃t x,e= .iface t x)))∧Below w.heap.size w w'
theorem Cd {w:World} {F:Nat→Prop} {A:Option Addr} {n c:Nat} {rs:List (lz 1)} (h:Rd (kF 1) w F (.slice A n c) rs) (hi:∀r∈rs,∃t x,r.cs=[.iface t x]) (j:Nat) (hj:j<rs.length):
  ∃b o t x,A=some ⟨b,o,none⟩∧b<w.heap.size∧w.cell? ⟨b,o+j,none⟩=some (.iface t x):=by
 obtain⟨b,o,d,rfl,_,a,e,f⟩:=h.at_ j hj;obtain⟨t,x,g⟩:=hi _ (List.getElem_mem hj);have hr':d=rs[j].cs:=e;rw[g] at hr';subst hr';have:=f 0 _ rfl;simp only[kF,kx,Nat.mul_one,Nat.add_zero] at this;exact⟨b,o,t,x,rfl,a,this⟩
theorem Ei (v:Value) (rs:List (lz 1)) (F:Nat→Prop) (w:World) (h:Rd (kF 1) w F v rs) (hi:∀r∈rs,∃t x,r.cs=[.iface t x]) (hl:rs.length≤10):
  Calls Tryz.prog 87 #[v] w (BC rs.length w):=by
 obtain⟨A,c,rfl,-,-,-⟩:=id h;go_enter Tryz.func87,Tryz.ntmps87;go_wp2_with fail
 go_loopw [3,11] (fun m i wr=>∃k:Nat,i= .int .i64 k∧m= .int .i64 k∧k≤rs.length∧wr=w) (fun _ i _=>rs.length-(intOf i).toNat)
 case atStart=>exact⟨0,rfl,rfl,j8 _,rfl⟩
 case round=>
  obtain⟨k,rfl,rfl,D,hw⟩:=hrel;subst wr;by_cases hlt:k<rs.length
  ·have E:(k:Int)<(rs.length:Int):=fT
   obtain⟨b0,o0,t,x,P,ab,y0⟩:=Cd h hi k hlt;subst P;go_wp2_with fail;go_roundw
   case rel=>exact⟨k+1,by go_num,by go_num,fT,trivial⟩
   case measure=>exact ms
  ·have b:k=rs.length:=fT
   have E:¬(k:Int)<(rs.length:Int):=fT;by_cases h0:rs.length=0
   ·have e0:((k:Int)==0)=true:=by simp;omega
    have X:decide ((k:Int)=0)=true:=by simp;omega
    have L:=fS h0;clear b h0;go_wp2_with fail;go_ret;exact⟨⟨_,rfl,.inl ⟨L.out,rfl⟩⟩,gM _ _⟩
   ·have e0:((k:Int)==0)=false:=by simp;omega
    have X:decide ((k:Int)=0)=false:=by simp;omega
    have L:=fS h0;have al:(k:Int)=(rs.length:Int):=fT;rw[b] at*;clear b h0;go_wp2_with (refine tH (d:=kF 1) (e:=105) rfl _ _ _ rfl Tryz.underlying146 _ 16 ug _ _ rs.length rfl rfl fT fT ?_;intro l s H);have ac:w.heap.size<l.heap.size:=s.block_lt rfl;have hB:=gs H (.cells #[.slice (some ⟨w.heap.size,0,none⟩) 0 rs.length] 198);have O:(l.alloc (.cells #[.slice (some ⟨w.heap.size,0,none⟩) 0 rs.length] 198)).heap[l.heap.size]? =some (.cells #[.slice (some ⟨w.heap.size,0,none⟩) 0 rs.length] 198):=gL rfl;have u:=(s.bound.mono (F':=fun q=>w.heap.size≤q∧¬q=l.heap.size) (fun q hq=>⟨hq.1,fun e=>by have:=hq.2;omega⟩)).alloc (.cells #[.slice (some ⟨w.heap.size,0,none⟩) 0 rs.length] 198);obtain⟨a,z⟩:∃a,a=l.heap.size:=⟨_,rfl⟩;rw[←z] at O u;simp only[←z];have aq:w.heap.size<a:=fT;clear s H ac z;generalize l.alloc (.cells #[.slice (some ⟨w.heap.size,0,none⟩) 0 rs.length] 198)=V at*
    go_loopw [28] (fun i wr=>∃(k:Nat) (v:Value),i= .int .i64 k∧k≤rs.length∧wr.heap[a]? =some (.cells #[v] 198)∧Ow (kF 1) 105 wr (fun q=>w.heap.size≤q∧¬q=a) v (rs.take k)∧Below w.heap.size w wr) (fun i _=>rs.length-(intOf i).toNat)
    case atStart=>exact⟨0,_,rfl,j8 _,O,u,hB⟩
    case round=>
     clear O u hB E;obtain⟨j,v,rfl,hj,Z,o,g⟩:=hrel;by_cases hlt:j<rs.length
     ·have E:(j:Int)<(rs.length:Int):=fT
      obtain⟨b0,o0,t,x,P,ab,y0⟩:=Cd (h.below g) hi j hlt;subst P;have S:=fS (vX hlt);have T:=fS (show(rs.take j).length=j by rw[List.length_take];omega);obtain⟨C,J⟩:∃C,rs.take j=C:=⟨_,rfl⟩;rw[J] at o S T;clear J;obtain⟨A2,c2,rfl,-⟩:=o.shape;have c0:=kU Z;have fz:=ft Z 0;have Q:=fx Z;have HX:=fS (show rs[j].cs=[.iface t x] by
       obtain⟨b1,o1,cs,n,_,_,hr,hu⟩:=(h.below g).at_ j hlt;injection n with n;injection n with e1 e2;subst e1 e2;obtain⟨t2,x2,hx⟩:=hi _ (List.getElem_mem hlt);have hr':cs=rs[j].cs:=hr;rw[hx] at hr';subst hr';have Y:=hu 0 _ rfl;simp only[kF,kx,Nat.mul_one,Nat.add_zero] at Y;rw[hx,←Option.some.inj (y0.symm.trans Y)])
      go_wp2_with (at_builtin;(refine ky (d:=kF 1) (xs:=C) rfl 146 rfl Tryz.underlying146 _ 16 ug rfl dc dc rfl (o.alloc _) rs[j] #[.iface t x] rfl (gL rfl) (fun _=>False) (show #[.iface t x].toList=rs[j].cs from HX.out.symm) (fun _ y=>y.elim) (fun _ y=>y.elim) (by have:=T.out;omega) (fun q=>w.heap.size≤q∧¬q=a) (fun _ hq=>hq) (fun _ y=>y.elim) (fun q hq=>by simp only[lb] at hq;have:=g.size;exact⟨fT,fT⟩) ?_);intro v9 w9 f G ak;obtain⟨R,U,ad,-⟩:=f.shape;subst ad;have M:=(G.block a (by simp only[lb];omega) (fun e=>(o.inF e.symm).2 rfl)).trans ((gP Q).trans Z);have ap:=ft M 0;have W:=fw M 0;simp only[List.getElem?_cons_zero,List.getElem?_toArray] at W);simp only[List.length_append,List.length_cons,List.length_nil,Nat.zero_add] at f;rw[←S.out] at f;have I:=mq (gs g _) G (fun q hq=>(o.inF hq).1) (by have:=g.size;simp only[lb];omega);go_roundw
      case rel=>
       refine⟨j+1,.slice R (C.length+1) U,by go_num,fT,by simpa using gJ M 0 (.slice R (C.length+1) U),f.ch (Ch.setCell (p:=⟨a,0,none⟩) (Ch.refl (fun k=>k=a) _) (Or.inl rfl) _) (fun k D e=>D.2 e),?_⟩;exact I.trans ((Ch.setCell (p:=⟨a,0,none⟩) (Ch.refl (fun k=>k=a) _) (Or.inl rfl) _).below (B:=w.heap.size) (fun k D=>by have h2:k=a:=D;omega) I.size)
      case measure=>exact ms
     ·have b:j=rs.length:=fT
      have E:¬(j:Int)<(rs.length:Int):=fT;clear b;go_wp2_with fail;go_ret;exact⟨⟨_,rfl,.inr ⟨Nat.pos_of_ne_zero L.out,_,_,rfl⟩⟩,g⟩
end Go.Proofs.YtlndjfflhegkdaaGreatDoor
