/- Parts of the proof: Nf3. -/
import Derived.Test.YtgilllnjhahkfaaGreatQ22
set_option linter.unusedVariables false
set_option linter.unusedSimpArgs false
set_option linter.unusedSectionVars false
set_option maxHeartbeats 4000000
set_option maxRecDepth 100000
namespace Go.Proofs.YtgilllnjhahkfaaGreat
open Go.RowKit
theorem xe (n:gW) (vl vk vo vv vn:Value) (F:Nat→Prop) (w:World) (h:iA w F vl vk vo vv vn n) (hf:iG n):
  Calls Tryz.prog 86 #[.agg #[n.id,n.up,n.inc,n.g,vl,vk,vo,n.led,n.version,vv,vn,n.round,n.low]] w fun q w' =>∃u,q= .returned u∧Ow iC 132 w' (fun k=>w.heap.size≤k) u (jg n)∧Below w.heap.size w w':=by
 obtain⟨A1,c1,rfl,-⟩:=h.la.shape;obtain⟨A2,c2,rfl,-⟩:=h.ke.shape;obtain⟨A3,c3,rfl,-⟩:=h.ou.shape;obtain⟨A4,c4,rfl,-⟩:=h.vi.shape;obtain⟨A5,c5,rfl,-⟩:=h.kn.shape;obtain⟨W,hV,E,Z⟩:=n8 w (.cells #[n.id,n.up,n.inc,n.g,.slice A1 n.lanes.length c1,.slice A2 n.kept.length c2,.slice A3 n.outs.length c3,n.led,n.version,.slice A4 n.views.length c4,.slice A5 n.known.length c5,n.round,n.low] 37);go_enter Tryz.func86,Tryz.ntmps86;go_upto_region 1 with fail;rw[hV.out];clear hV;replace h:=h.below E;have aa:=gL Z;obtain⟨H,I,J,L,M,O,P,Q,R,S,r,s,t⟩:=hJ Z;have o:=gU (gY W.heap.size W) (.cells #[] 132);have B:Ow iC 132 (W.alloc (.cells #[] 132)) (fun k=>W.heap.size≤k) (.slice (some ⟨W.heap.size,0,none⟩) 0 0) []:=Ow.empty iC (gX rfl) (j9 _);go_wp2_with (at_builtin;(refine lL rfl 33 rfl Tryz.underlying33 _ 56 kL rfl dc dc rfl B rfl (h.ke.below o) (by simp only[List.length_nil];have:=hf.kept;omega) (fun k=>W.heap.size≤k) (fun _ b=>b) (fun k b=>jb (Nat.le_of_lt sm) b) ?_);intro v9 w9 f v C);have x:=lz o v (fun k b=>B.inF b) o.size;rw[List.nil_append] at f;have aD:=gP (show jg n=n.kept++n.lanes.flatMap kI from rfl);have ai:n.kept++(n.lanes.take 0).flatMap kI=n.kept:=by simp
 have aH:=hf.lanes;clear H I J L M O P Q R S r s t o v C B
 go_loopw [3,4] (fun u i wr=>∃j:Nat,i= .int .i64 j∧j≤n.lanes.length∧Ow iC 132 wr (fun k=>W.heap.size≤k) u (n.kept++(n.lanes.take j).flatMap kI)∧Below W.heap.size W wr) (fun _ i _=>n.lanes.length-(intOf i).toNat)
 case atStart=>exact⟨0,rfl,jP _,by rw[ai];exact f,x⟩
 case round=>
  clear f x;obtain⟨j,rfl,hj,d,a⟩:=hrel;obtain⟨l,y⟩:∃l,n.kept++(n.lanes.take j).flatMap kI=l:=⟨_,rfl⟩;rw[y] at d;have T:=gP y;have ae:=gP (show l.length≤504 by have:=xQ hf j;rw[←y];exact this);clear y;obtain⟨A,c,rfl,-⟩:=d.shape;have G:=gJ a aa Z;have D:=a.size;obtain⟨H,I,J,L,M,O,P,Q,R,S,r,s,t⟩:=hJ G;by_cases hlt:j<n.lanes.length
  ·have p0:(j:Int)<(n.lanes.length:Int):=gO
   go_upto_region 6 with fail;clear H I J L M O P Q R S r s t G;have V:l++(n.lanes[j].done.take 0).flatMap (fun p=>p.sends)=l:=by simp
   go_loopw [3,5] (fun u i wr=>∃m:Nat,i= .int .i64 m∧m≤n.lanes[j].done.length∧Ow iC 132 wr (fun k=>W.heap.size≤k) u (l++(n.lanes[j].done.take m).flatMap (fun p=>p.sends))∧Below W.heap.size W wr) (fun _ i _=>n.lanes[j].done.length-(intOf i).toNat)
   case atStart=>exact⟨0,rfl,jP _,by rw[V];exact d,a⟩
   case round=>
    clear d a D V;obtain⟨m,rfl,hm,d,a⟩:=hrel;have e:=hf.done n.lanes[j] (List.getElem_mem hlt);obtain⟨zs,z⟩:∃zs,l++(n.lanes[j].done.take m).flatMap (fun p=>p.sends)=zs:=⟨_,rfl⟩;rw[z] at d;have U:=gP z;have af:=gP (show zs.length≤706 by have:=ae.out;have:=pR e.1 e.2 m;rw[←z,List.length_append];omega);clear z;obtain⟨A,c,rfl,-⟩:=d.shape;have G:=gJ a aa Z;have D:=a.size;obtain⟨H,I,J,L,M,O,P,Q,R,S,r,s,t⟩:=hJ G;obtain⟨b0,o0,A6,c6,ag,aE,y0,y1,y2,r1⟩:=kV (h.la.below a) j hlt;subst ag;have aG:=e.1;by_cases hm2:m<n.lanes[j].done.length
    ·obtain⟨b1,o1,A7,c7,A8,c8,ah,aF,x0,x1,x2,x3,r2,r3⟩:=k9 r1 m hm2
     subst ah;have p1:(m:Int)<(n.lanes[j].done.length:Int):=gO;have HF:=gP (ny (fun p:iq=>p.sends) hm2);have ad:=gP ((e.2 n.lanes[j].done[m] (List.getElem_mem hm2)).1);clear e;go_wp2_with (at_builtin;(refine lL rfl 33 rfl Tryz.underlying33 _ 56 kL rfl dc dc rfl d rfl r2 (by have:=af.out;have:=ad.out;omega) (fun k=>W.heap.size≤k) (fun _ b=>b) (fun k b=>gO) ?_);intro v9 w9 f v C);have x:=lz a v (fun k b=>d.inF b) a.size;go_roundw
     case rel=>exact⟨m+1,by go_num,gO,by rw[HF.out,←List.append_assoc,U.out];exact f,x⟩
     case measure=>exact ms
    ·have Y:m=n.lanes[j].done.length:=gO
     have HF:=gP (ny kI hlt);have p1:¬(m:Int)<(n.lanes[j].done.length:Int):=gO;have HM:=gP (show kI n.lanes[j]=(n.lanes[j].done.take m).flatMap (fun p=>p.sends) by rw[Y,ld];rfl);clear Y e;go_wp2_with fail;go_roundw
     case rel=>exact⟨j+1,by go_num,gO,by rw[HF.out,HM.out,←List.append_assoc,T.out,U.out];exact d,a⟩
     case measure=>exact ms
  ·have X:j=n.lanes.length:=gO
   have HZ:=gP (show jg n=l by rw[←T.out,X,ld];rfl);have p0:¬(j:Int)<(n.lanes.length:Int):=gO;clear X;go_wp2_with fail;go_ret;exact⟨_,rfl,by rw[HZ.out];exact d.mono (fun k b=>jb E.size b),gQ E a E.size⟩
theorem mO (n:gW) (vl vk vo vv vn:Value) (p:Int) (F:Nat→Prop) (w:World) (h:iA w F vl vk vo vv vn n) (hf:iG n):
  Calls Tryz.prog 27 #[.agg #[n.id,n.up,n.inc,n.g,vl,vk,vo,n.led,n.version,vv,vn,n.round,n.low],p] w fun q w' =>∃u,q= .returned u∧Ow iC 132 w' (fun k=>w.heap.size≤k) u (iT n p)∧Below w.heap.size w w':=by
 obtain⟨A1,c1,rfl,-⟩:=h.la.shape;obtain⟨A2,c2,rfl,-⟩:=h.ke.shape;obtain⟨A3,c3,rfl,-⟩:=h.ou.shape;obtain⟨A4,c4,rfl,-⟩:=h.vi.shape;obtain⟨A5,c5,rfl,-⟩:=h.kn.shape;obtain⟨W,hV,P,Z⟩:=n8 w (.cells #[n.id,n.up,n.inc,n.g,.slice A1 n.lanes.length c1,.slice A2 n.kept.length c2,.slice A3 n.outs.length c3,n.led,n.version,.slice A4 n.views.length c4,.slice A5 n.known.length c5,n.round,n.low] 37);go_enter Tryz.func27,Tryz.ntmps27;go_upto_region 1 with fail;rw[hV.out];clear hV;replace h:=h.below P;have al:=gL Z;obtain⟨R,S,T,V,X,Y,d6,d7,d8,d9,B,C,D⟩:=hJ Z;go_wp2_with fail;refine(xe n _ _ _ _ _ F W h hf).mono ?_;rintro q w1 ⟨u1,rfl,ai,ak⟩;apply_assumption;clear R S T V X Y d6 d7 d8 d9 B C D;go_wp2_with fail
 go_loopw [5,6] (fun u i wr=>∃j:Nat,i= .int .i64 j∧j≤3∧Ow iC 132 wr (fun k=>W.heap.size≤k) u (jg n++jy n j)∧Below W.heap.size W wr) (fun _ i _=>3-(intOf i).toNat)
 case atStart=>exact⟨0,rfl,jP _,by simpa [jy] using ai,ak⟩
 case round=>
  clear ai ak;obtain⟨j,rfl,hj,t,m⟩:=hrel;obtain⟨a,E⟩:∃a,jg n++jy n j=a:=⟨_,rfl⟩;rw[E] at t;have s:=gP E;have x:=gP (show a.length≤804 by have h1:=mZ hf;have h2:=sK hf j;rw[←E,List.length_append];omega);clear E;obtain⟨A,c,rfl,-⟩:=t.shape;have Q:=gJ m al Z;have aS:=m.size;obtain⟨R,S,T,V,X,Y,d6,d7,d8,d9,B,C,D⟩:=hJ Q;have a1:=gP hf.views;by_cases hlt:j<3
  ·have v:j<n.views.length:=by rw[hf.views];exact hlt
   have p0:(j:Int)<(n.views.length:Int):=gO;by_cases he:(j:Int)=n.id
   ·have e0:((j:Int) !=n.id)=false:=by simpa using he
    have HT:=gP (show jy n (j+1)=jy n j by simp only[jy];rw[if_pos he]);clear he;go_wp2_with fail;go_roundw
    case rel=>exact⟨j+1,by go_num,gO,by rw[HT.out,s.out];exact t,m⟩
    case measure=>exact ms
   ·have e0:((j:Int) !=n.id)=true:=by simpa using he
    have HT:=gP (show jy n (j+1)=jy n j++n.views[j].events by simp only[jy];rw[if_neg he,List.getD_eq_getElem?_getD,mc v];rfl);have aq:=gP (hf.evs _ (List.getElem_mem v));obtain⟨b0,o0,A6,c6,J,ax,y0,y1,y2,r1⟩:=mI (h.vi.below m) j v;subst J;clear he;go_wp2_with (at_builtin;(refine lL rfl 33 rfl Tryz.underlying33 _ 56 kL rfl dc dc rfl t rfl r1 (by have:=x.out;have:=aq.out;omega) (fun k=>W.heap.size≤k) (fun _ e=>e) (fun k e=>gO) ?_);intro v9 w9 M L an);have O:=lz m L (fun k e=>t.inF e) m.size;go_roundw
    case rel=>exact⟨j+1,by go_num,gO,by rw[HT.out,←List.append_assoc,s.out];exact M,O⟩
    case measure=>exact ms
  ·have r:j=3:=gO
   have p0:¬(j:Int)<(n.views.length:Int):=by rw[hf.views];omega
   have ar:=gP (show a=jg n++lK n by rw[←s.out,r,lK,hf.views]);clear r hlt;go_upto_region 7 with fail;clear R S T V X Y d6 d7 d8 d9 B C D Q;obtain⟨U,hU⟩:∃U,U=wr:=⟨_,rfl⟩;have l:Below W.heap.size W U:=hU▸m;have aw:=hU▸t.rd;have a4:=l.size;go_wp2_with fail
   go_loopw [7,8] (fun u i wr=>∃k:Nat,i= .int .i64 k∧k≤a.length∧Ow iC 132 wr (fun q=>U.heap.size≤q) u ((a.take k).filter (lQ n p))∧Below U.heap.size U wr) (fun _ i _=>a.length-(intOf i).toNat)
   case atStart=>subst hU;exact⟨0,rfl,jP _,Ow.empty iC (gX rfl) (j9 _),gU (gY _ _) _⟩
   case round=>
    clear t m hU;obtain⟨k,rfl,e,f,b⟩:=hrel;have a3:=x.out;obtain⟨zs,G⟩:∃zs,(a.take k).filter (lQ n p)=zs:=⟨_,rfl⟩;have ah:=gP (show zs.length≤a.length by have:=qO (lQ n p) a k;rw[←G];exact this);rw[G] at f;have z:=gP G;clear G;obtain⟨V2,a2,rfl,-⟩:=f.shape;have Q:=gJ (gQ l b l.size) al Z;obtain⟨R,S,T,V,X,Y,d6,d7,d8,d9,B,C,D⟩:=hJ Q;have ao:=b.size;by_cases hlt:k<a.length
    ·have p0:(k:Int)<(a.length:Int):=gO
     obtain⟨b0,o0,J,ax,y0,y1,y2,y3,y4,y5,y6⟩:=jD (aw.below b) k hlt;subst J;have ag:=gP (qN (p:=lQ n p) hlt);have H:=gP (qK (p:=lQ n p) hlt);obtain⟨y,hy⟩:∃y,a[k]=y:=⟨_,rfl⟩;rw[hy] at ag H y0 y1 y2 y3 y4 y5 y6;clear hy;by_cases q1:y.to=p
     case neg=>
      have e1:(y.to==p)=false:=by simpa using q1
      have I:=gP (H.out (by simp[lQ,q1]));clear q1;go_upto_region 11 with fail;refine kg [.rd [0,1,2,3,4,5,6,7,8,9,10,11,12,13,14,15]] [16] ?_;refine vL ?_;intro N hN;go_wp2_with fail;refine gR (hN _ ?_);clear hN N;refine vF ?_;have o:=gP b.drew;go_wp2_with fail;go_roundw
      case rel=>exact⟨k+1,by go_num,gO,by rw[I.out,z.out];exact f.drewN 1,o.out⟩
      case measure=>exact ms
     have e1:(y.to==p)=true:=by simpa using q1
     by_cases q2:n.g≤y.time
     case neg=>
      have e2:decide (n.g≤y.time)=false:=iU q2;have I:=gP (H.out (by simp[lQ,q1,q2]));clear q1 q2;go_upto_region 11 with fail;refine kg [.rd [0,1,2,3,4,5,6,7,8,9,10,11,12,13,14,15]] [16] ?_;refine vL ?_;intro N hN;go_wp2_with fail;refine gR (hN _ ?_);clear hN N;refine vF ?_;have o:=gP b.drew;go_wp2_with fail;go_roundw
      case rel=>exact⟨k+1,by go_num,gO,by rw[I.out,z.out];exact f.drewN 1,o.out⟩
      case measure=>exact ms
     have e2:decide (n.g≤y.time)=true:=jT q2;have I:=gP (ag.out (by simp[lQ,q1,q2]));clear q1 q2;go_upto_region 11 with fail;refine kg [.rd [0,1,2,3,4,5,6,7,8,9,10,11,12,13,14,15]] [16] ?_;refine vL ?_;intro N hN;go_wp2_with fail;refine gR (hN _ ?_);clear hN N;refine vF ?_;have o:=gP b.drew;have aj:=f.drewN 1;go_wp2_with (at_builtin;(refine jj (d:=iC) rfl 33 rfl Tryz.underlying33 _ 56 kL rfl dc dc rfl (aj.alloc _) y _ rfl (gX rfl) (fun _=>False) rfl (fun _ hf=>hf.elim) (fun _ hf=>hf.elim) (by have:=ah.out;have:=x.out;omega) (fun k=>U.heap.size≤k) (fun _ e=>e) (fun _ hf=>hf.elim) (fun k e=>jb ao (jb (by first|(simp;done)|(simp[World.drew,World.drewN];done)) e)) ?_);intro v9 w9 M L an);have O:=lz (gU o.out _) L (fun k e=>aj.inF e) (by simp only[lv,World.drewN,World.drew];omega);go_roundw
     case rel=>exact⟨k+1,by go_num,gO,by rw[I.out,z.out];exact M,O⟩
     case measure=>exact ms
    ·have r:k=a.length:=gO
     have HZ:=gP (show iT n p=jS ((a.take k).filter (lQ n p)) by rw[r,ld,ar.out];rfl);have p0:¬(k:Int)<(a.length:Int):=gO;have av:=f.rd;clear r;go_wp2_with fail;refine(pZ _ zs _ _ av (by have:=ah.out;have:=x.out;omega)).mono ?_;rintro q w7 ⟨u7,rfl,au,ay⟩;apply_assumption;go_wp2_with fail;go_ret;exact⟨_,rfl,by rw[HZ.out,z.out];exact au.mono (fun k e=>jb P.size (jb l.size (jb b.size e))),gQ P (gQ l (gQ b ay b.size) l.size) P.size⟩
theorem rK (n:gW) (vl vk vo vv vn:Value) (p:Int) (F:Nat→Prop) (w:World) (h:iA w F vl vk vo vv vn n) (hf:iG n) (hp0:0≤p) (hp3:p<3):
  Calls Tryz.prog 88 #[.agg #[n.id,n.up,n.inc,n.g,vl,vk,vo,n.led,n.version,vv,vn,n.round,n.low],p] w fun q w' =>∃u,q= .returned u∧Ow iC 132 w' (fun k=>w.heap.size≤k) u (iV n p)∧Below w.heap.size w w':=by
 obtain⟨p,rfl⟩:∃j:Nat,p=(j:Int):=⟨p.toNat,gO⟩;have I:p<n.known.length:=by rw[hf.known];omega
 obtain⟨z,H⟩:∃z,n.known[p]=z:=⟨_,rfl⟩;have Q:=gP H;have E:=gP (show ∀e,tu n (p:Int) e=(decide (iE e.to=(p:Int))&&decide (z≤e.time)) by
  intro e;simp only[tu,Int.toNat_natCast,List.getD_eq_getElem?_getD,mc I,Option.getD_some,H])
 clear H;obtain⟨A1,c1,rfl,-⟩:=h.la.shape;obtain⟨A2,c2,rfl,-⟩:=h.ke.shape;obtain⟨A3,c3,rfl,-⟩:=h.ou.shape;obtain⟨A4,c4,rfl,-⟩:=h.vi.shape;obtain⟨A5,c5,rfl,-⟩:=h.kn.shape;obtain⟨W,hV,L,Z⟩:=n8 w (.cells #[n.id,n.up,n.inc,n.g,.slice A1 n.lanes.length c1,.slice A2 n.kept.length c2,.slice A3 n.outs.length c3,n.led,n.version,.slice A4 n.views.length c4,.slice A5 n.known.length c5,n.round,n.low] 37);go_enter Tryz.func88,Tryz.ntmps88;go_upto_region 1 with fail;rw[hV.out];clear hV;replace h:=h.below L;have ay:=gL Z;obtain⟨d0,d1,d2,d3,d4,d5,d6,d7,d8,d9,S,T,V⟩:=hJ Z;have aa:=h.kn;go_wp2_with fail;refine(xe n _ _ _ _ _ F W h hf).mono ?_;rintro q w1 ⟨u1,rfl,s,t⟩;obtain⟨b,v⟩:∃b,jg n=b:=⟨_,rfl⟩;rw[v] at s;have ad:=gP (show b=jg n from v.symm);have C:=gP (show b.length≤804 by have h1:=mZ hf;rw[←v];omega);clear v;obtain⟨A,c,rfl,-⟩:=s.shape;apply_assumption;clear d0 d1 d2 d3 d4 d5 d6 d7 d8 d9 S T V;obtain⟨U,M⟩:∃U,U=w1:=⟨_,rfl⟩;have f:Below W.heap.size W U:=M▸t;have av:=M▸s.rd;have a4:=f.size;go_wp2_with fail
 go_loopw [6,7] (fun u i wr=>∃k:Nat,i= .int .i64 k∧k≤b.length∧Ow iC 132 wr (fun q=>U.heap.size≤q) u ((b.take k).filter (tu n (p:Int)))∧Below U.heap.size U wr) (fun _ i _=>b.length-(intOf i).toNat)
 case atStart=>subst M;exact⟨0,rfl,jP _,Ow.empty iC (gX rfl) (j9 _),gU (gY _ _) _⟩
 case round=>
  clear s t M;obtain⟨k,rfl,o,l,a⟩:=hrel;have a3:=C.out;obtain⟨O,x⟩:∃O,(b.take k).filter (tu n (p:Int))=O:=⟨_,rfl⟩;have R:=gP (show O.length≤b.length by have:=qO (tu n (p:Int)) b k;rw[←x];exact this);rw[x] at l;have r:=gP x;clear x;obtain⟨V2,a1,rfl,-⟩:=l.shape;have Zr:=gJ (gQ f a f.size) ay Z;obtain⟨d0,d1,d2,d3,d4,d5,d6,d7,d8,d9,S,T,V⟩:=hJ Zr;have ab:=a.size;by_cases hlt:k<b.length
  ·have p0:(k:Int)<(b.length:Int):=gO
   obtain⟨b0,o0,ao,a2,y0,y1,y2,y3,y4,y5,y6⟩:=jD (av.below a) k hlt;subst ao;have P:=gP (qN (p:=tu n (p:Int)) hlt);have B:=gP (qK (p:=tu n (p:Int)) hlt);obtain⟨y,hy⟩:∃y,b[k]=y:=⟨_,rfl⟩;rw[hy] at P B y0 y1 y2 y3 y4 y5 y6;clear hy;by_cases q1:iE y.to=(p:Int)
   case neg=>
    have e1:(iE y.to==(p:Int))=false:=by simpa using q1
    have D:=gP (B.out (by simp[E.out,q1]));clear q1;go_upto_region 6 with fail;refine kg [.rd [0,1,2,3,4,6],.mid 5,.rd [7,8,9,10,11,12,13,14,15,16,17,18,19]] [20] ?_;refine vL ?_;intro N hN;go_wp2_with fail;refine gR (hN _ ?_);clear hN N;refine vM ?_;intro N hN;go_wp2_with fail;refine(sx _ _).mono ?_;rintro q J ⟨rfl,hw⟩;subst J;apply_assumption;refine vN (gY _ _) (hN _ _ ?_);clear hN;refine vL ?_;intro N hN;go_wp2_with fail;refine gR (hN _ ?_);clear hN N;refine vF ?_;have m:=gP a.drew;go_wp2_with fail;go_roundw
    case rel=>exact⟨k+1,by go_num,gO,by rw[D.out,r.out];exact l.drewN 1,m.out⟩
    case measure=>exact ms
   have e1:(iE y.to==(p:Int))=true:=by simpa using q1
   by_cases q2:z≤y.time
   case neg=>
    have e2:decide (z≤y.time)=false:=iU q2;have D:=gP (B.out (by simp[E.out,q1,q2]));clear q1 q2;obtain⟨b1,o1,G,-,t,z0⟩:=lm (aa.below (gQ f a f.size)) p I;subst G;rw[Q.out] at z0;go_upto_region 6 with fail;refine kg [.rd [0,1,2,3,4,6],.mid 5,.rd [7,8,9,10,11,12,13,14,15,16,17,18,19]] [20] ?_;refine vL ?_;intro N hN;go_wp2_with fail;refine gR (hN _ ?_);clear hN N;refine vM ?_;intro N hN;go_wp2_with fail;refine(sx _ _).mono ?_;rintro q J ⟨rfl,hw⟩;subst J;apply_assumption;refine vN (gY _ _) (hN _ _ ?_);clear hN;refine vL ?_;intro N hN;go_wp2_with fail;refine gR (hN _ ?_);clear hN N;refine vF ?_;have m:=gP a.drew;go_wp2_with fail;go_roundw
    case rel=>exact⟨k+1,by go_num,gO,by rw[D.out,r.out];exact l.drewN 1,m.out⟩
    case measure=>exact ms
   have e2:decide (z≤y.time)=true:=jT q2;have D:=gP (P.out (by simp[E.out,q1,q2]));clear q1 q2;obtain⟨b1,o1,G,-,t,z0⟩:=lm (aa.below (gQ f a f.size)) p I;subst G;rw[Q.out] at z0;go_upto_region 6 with fail;refine kg [.rd [0,1,2,3,4,6],.mid 5,.rd [7,8,9,10,11,12,13,14,15,16,17,18,19]] [20] ?_;refine vL ?_;intro N hN;go_wp2_with fail;refine gR (hN _ ?_);clear hN N;refine vM ?_;intro N hN;go_wp2_with fail;refine(sx _ _).mono ?_;rintro q J ⟨rfl,hw⟩;subst J;apply_assumption;refine vN (gY _ _) (hN _ _ ?_);clear hN;refine vL ?_;intro N hN;go_wp2_with fail;refine gR (hN _ ?_);clear hN N;refine vF ?_;have m:=gP a.drew;have X:=l.drewN 1;go_wp2_with (at_builtin;(refine jj (d:=iC) rfl 33 rfl Tryz.underlying33 _ 56 kL rfl dc dc rfl (X.alloc _) y _ rfl (gX rfl) (fun _=>False) rfl (fun _ hf=>hf.elim) (fun _ hf=>hf.elim) (by have:=R.out;have:=C.out;omega) (fun k=>U.heap.size≤k) (fun _ o=>o) (fun _ hf=>hf.elim) (fun k o=>jb ab (jb (by first|(simp;done)|(simp[World.drew,World.drewN];done)) o)) ?_);intro v9 w9 ar ap aQ);have ax:=lz (gU m.out _) ap (fun k o=>X.inF o) (by simp only[lv,World.drewN,World.drew];omega);go_roundw
   case rel=>exact⟨k+1,by go_num,gO,by rw[D.out,r.out];exact ar,ax⟩
   case measure=>exact ms
  ·have Y:k=b.length:=gO
   have HZ:=gP (show iV n (p:Int)=jS ((b.take k).filter (tu n (p:Int))) by rw[Y,ld,ad.out];rfl);have p0:¬(k:Int)<(b.length:Int):=gO;have au:=l.rd;clear Y;go_wp2_with fail;refine(pZ _ O _ _ au (by have:=R.out;have:=C.out;omega)).mono ?_;rintro q w7 ⟨u7,rfl,aq,aw⟩;apply_assumption;go_wp2_with fail;go_ret;exact⟨_,rfl,by rw[HZ.out,r.out];exact aq.mono (fun k o=>jb L.size (jb f.size (jb a.size o))),gQ L (gQ f (gQ a aw a.size) f.size) L.size⟩
end Go.Proofs.YtgilllnjhahkfaaGreat
