/- Parts of the proof: Ni1, Ni4, Ni5, Nj0. -/
import Derived.Test.YtgilllnjhahkfaaGreatQ44
import Derived.Test.YtgilllnjhahkfaaGreatQ47
set_option linter.unusedVariables false
set_option linter.unusedSimpArgs false
set_option linter.unusedSectionVars false
set_option maxHeartbeats 4000000
set_option maxRecDepth 100000
namespace Go.Proofs.YtgilllnjhahkfaaGreat
open Go.RowKit
def Bj {α:Type} (d:Ty α) (e:TypeId):Ty (List α) where
 sz:=1
 rel:=fun w F xs cs=>∃v,cs=[v]∧Ow d e w F v xs
 len:=fun ⟨v,h,_⟩=>by rw[h];rfl
 one:=fun ⟨v,h,h1⟩ u hu=>by
  have g1:=h1.oneCell;rw[h] at hu;simp only[List.mem_cons,List.not_mem_nil,or_false] at hu;rcases hu with rfl;assumption
 mono:=fun hF ⟨v,h,h1⟩=>⟨v,h,h1.mono hF⟩
 move:=fun hm ⟨v,h,h1⟩=>⟨v,h,h1.move hm⟩
 bound:=fun ⟨v,h,h1⟩=>⟨v,h,h1.bound⟩
theorem Ow.rdRows {α:Type} {d:Ty α} {e e':TypeId} {w:World} {F:Nat→Prop} {v:Value} {xs:List (List α)} (h:Ow (Bj d e) e' w F v xs):Rd (qw d) w F v xs:=
 Rd.map (d:=Bj d e) rfl (fun x cs ⟨v,h1,h2⟩=>⟨v,h1,h2.rd⟩) h.rd
theorem Br {α:Type} {d:Ty α} {w:World} {F:Nat→Prop} {A:Option Addr} {m c:Nat} {xs:List (List α)} (h:Rd (qw d) w F (.slice A m c) xs) (j:Nat) (hj:j<xs.length):
  ∃b o A' c',A=some ⟨b,o,none⟩∧b<w.heap.size∧w.cell? ⟨b,o+j,none⟩=some (.slice A' xs[j].length c')∧Rd d w F (.slice A' xs[j].length c') xs[j]:=by
 obtain⟨b,o,n,g,-,i,⟨v,l,e⟩,k⟩:=h.at_ j hj;obtain⟨A',c',rfl,-⟩:=e.shape;have a:=k 0 _ (by rw[l];rfl);have f:(qw d).sz=1:=rfl;rw[f,Nat.mul_one,Nat.add_zero] at a;exact⟨b,o,A',c',g,i,a,e⟩
theorem Dh:(Tryz.prog.info? 33).map (fun i=>(i.zero,i.size,i.bytes))=some (some (.slice none 0 0),1,24):=ie
def oG (n:gW) (j:Nat):List (List im):=((([0,1,2]:List Int).take j).filter (fun p:Int=>decide (p≠n.id))).map (iV n)
theorem CT {n:gW} {j:Nat} (hj:j<3) (h:(j:Int)≠n.id):oG n (j+1)=oG n j++[iV n j]:=by
 unfold oG;rw[qp (by simpa using hj),List.filter_append,List.map_append];have e:([0,1,2]:List Int)[j]=(j:Int):=by match j,hj with|0,_=>rfl|1,_=>rfl|2,_=>rfl
 rw[e,List.filter_cons_of_pos (by simpa using h)];rfl
theorem Cd {n:gW} {j:Nat} (hj:j<3) (h:(j:Int)=n.id):oG n (j+1)=oG n j:=by
 unfold oG;rw[qp (by simpa using hj),List.filter_append,List.map_append];have e:([0,1,2]:List Int)[j]=(j:Int):=by match j,hj with|0,_=>rfl|1,_=>rfl|2,_=>rfl
 rw[e,List.filter_cons_of_neg (by simpa using h)];simp
theorem BU (n:gW) (j:Nat):(oG n j).length≤3:=by
 unfold oG;rw[List.length_map];have a:=List.length_filter_le (fun p:Int=>decide (p≠n.id)) (([0,1,2]:List Int).take j);have b:(([0,1,2]:List Int).take j).length≤3:=by rw[List.length_take];simp;omega
 omega
theorem Dw (n:gW) (lo hi gb:Nat) (vb vk vo vd:Value) (gm:Nat) (vn:Value) (vs:List (jE 3)) (rs:List (jE 1)) (w:World) (h:i4 w lo hi gb vb vk vo vd gm vn vs rs n) (hf:iG n) (hw:lM n):
  Calls Tryz.prog 41 #[.pointer (some ⟨gb,0,none⟩)] w fun q w' =>∃u,q= .returned u∧Rd (qw iC) w' (fun k=>w.heap.size≤k) u (oa n)∧Below w.heap.size w w':=by
 go_enter Tryz.func41,Tryz.ntmps41;go_wp2_with fail
 go_loopw [3,5] (fun u i wr=>∃j:Nat,i= .int .i64 j∧j≤3∧Ow (Bj iC 132) 33 wr (fun k=>w.heap.size≤k) u (oG n j)∧Below w.heap.size w wr) (fun _ i _=>3-(intOf i).toNat)
 case atStart=>exact⟨0,rfl,jP _,Ow.nil _ _ _ _,gY _ _⟩
 case round=>
  obtain⟨j,rfl,hj,l,b⟩:=hrel;obtain⟨o,f⟩:∃o,oG n j=o:=⟨_,rfl⟩;have v:=gP (show o.length≤3 by rw[←f];exact BU n j);rw[f] at l;have m:=gP f;clear f;obtain⟨A,c,rfl,-⟩:=l.shape;have T:=h.keep b;have t:wr.heap[gb]? =some (.cells #[n.id,n.inc,n.g,n.led,vb,vk,vo,n.up,vd,n.version,.map (some gm),vn,n.round,n.low] 93):=(show _∧_ from i4.sets T |>.get 0 rfl).2;obtain⟨x,y,z,C,D,E,F,G,H,I,J,L,M,O⟩:=ph t;by_cases hlt:j<3
  ·have X:(j:Int)<3:=gO
   by_cases he:(j:Int)=n.id
   ·have V:((j:Int)==n.id)=true:=by simpa using he
    have s:=gP (Cd hlt he);clear he;go_wp2_with fail;go_roundw
    case rel=>exact⟨j+1,by go_num,gO,by rw[s.out,m.out];exact l,b⟩
    case measure=>exact ms
   ·have V:((j:Int)==n.id)=false:=by simpa using he
    have s:=gP (CT hlt he);clear he;go_wp2_with fail;refine(EG n lo hi gb vb vk vo vd gm vn vs rs wr T hf hw j hlt).mono ?_;rintro q Y ⟨u2,rfl,p,e⟩;obtain⟨B,Z,rfl,-⟩:=p.shape;apply_assumption;clear t x y z C D E F G H I J L M O;go_wp2_with (at_builtin;(refine jj (d:=Bj iC 132) rfl 82 rfl Tryz.underlying82 _ 24 Dh rfl dc dc rfl ((l.bound.below e).alloc _) (iV n j) _ rfl (gX rfl) (fun k=>wr.heap.size≤k∧k<Y.heap.size) ⟨_,rfl,p.bound.alloc _⟩ (fun k a S=>by have h1:=a.1;have h2:=S.2;omega) (fun k a=>by simp only[lv];have:=a.2;omega) (by have:=v.out;omega) (fun k=>w.heap.size≤k) (fun _ a=>a.1) (fun k a=>jb b.size a.1) (fun k a=>by simp only[lv] at a;have:=b.size;have:=e.size;omega) ?_);intro v9 w9 Q P W);have R:=lz (gU (gQ b e b.size) _) P (fun k a=>l.inF a) (by simp only[lv];have:=b.size;have:=e.size;omega);go_roundw
    case rel=>exact⟨j+1,by go_num,gO,by rw[s.out,m.out];exact Q,R⟩
    case measure=>exact ms
  ·have r:j=3:=gO
   have X:¬(j:Int)<3:=gO;have U:=gP (show oa n=o by rw[←m.out,r];rfl);clear r;go_wp2_with fail;go_ret;exact⟨_,rfl,by rw[U.out];exact l.rdRows,b⟩
theorem zj (v0 v1:Value) (xs ys:List (List im)) (F G:Nat→Prop) (w:World) (h0:Rd (qw iC) w F v0 xs) (h1:Rd (qw iC) w G v1 ys):
  Calls Tryz.prog 121 #[v0,v1,.func (.func 122) #[] #[]] w fun q w' =>q= .returned (.bool (decide (xs=ys)))∧Below w.heap.size w w':=by
 obtain⟨I,Q,rfl,-,E,-⟩:=id h0;obtain⟨J,R,rfl,-,H,-⟩:=id h1;go_enter Tryz.func121,Tryz.ntmps121;by_cases hle:xs.length=ys.length
 ·have B:((xs.length:Int)==(ys.length:Int))=true:=by simp[hle]
  have j:=gP hle;clear hle;go_wp2_with fail
  go_loopw [17] (fun i wr=>∃k:Nat,i= .int .i64 k∧k≤xs.length∧xs.take k=ys.take k∧Below w.heap.size w wr) (fun i _=>xs.length-(intOf i).toNat)
  case atStart=>exact⟨0,rfl,jP _,by simp,gY _ _⟩
  case round=>
   obtain⟨k,rfl,U,v,c⟩:=hrel;have r:=gP v;clear v;by_cases hlt:k<xs.length
   ·have f:k<ys.length:=by rw[←j.out];exact hlt
    have A:(k:Int)<(xs.length:Int):=gO;have X:(k:Int)<(ys.length:Int):=gO;have Y:(0:Int)≤(k:Int):=gO;obtain⟨O,V,L,S,s,-,C,x⟩:=Br (h0.below c) k hlt;obtain⟨P,W,M,T,t,-,D,y⟩:=Br (h1.below c) k f;subst s t;have HS:=gP (show xs[k]=ys[k]→xs.take (k+1)=ys.take (k+1) from fun e=>by rw[qp hlt,qp f,r.out,e]);have p:=gP (show ¬xs[k]=ys[k]→¬xs=ys from fun e z=>e (by subst z;rfl));obtain⟨a,ha⟩:∃a,xs[k]=a:=⟨_,rfl⟩;obtain⟨b,d⟩:∃b,ys[k]=b:=⟨_,rfl⟩;rw[ha,d] at HS p;rw[ha] at C x;rw[d] at D y;clear ha d;go_wp2_with fail;refine(ww _ _ a b _ _ wr x y).mono ?_;rintro q Z ⟨rfl,u⟩;have l:=gQ c u c.size;by_cases e:a=b
    ·have n:=gP (HS.out e)
     have g:decide (a=b)=true:=jT e;rw[g];clear e g;apply_assumption;go_wp2_with fail;go_roundw
     case rel=>exact⟨k+1,by go_num,gO,n.out,l⟩
     case measure=>exact ms
    ·have n:=gP (p.out e)
     have g:decide (a=b)=false:=iU e;rw[g];clear e g;apply_assumption;go_wp2_with fail;go_ret;exact⟨by rw[iU n.out];rfl,l⟩
   ·have m:k=xs.length:=gO
    have o:=gP (show xs=ys by have h:=r.out;rw[m,ld] at h;rw[h,j.out,ld]);have A:¬(k:Int)<(xs.length:Int):=gO;clear m;go_wp2_with fail;go_ret;exact⟨by rw[jT o.out];rfl,c⟩
 ·have B:((xs.length:Int)==(ys.length:Int))=false:=by simp;omega
  have o:=gP (show ¬xs=ys from fun e=>hle (by rw[e]));clear hle;go_wp2_with fail;go_ret;exact⟨by rw[iU o.out];rfl,gY _ _⟩
theorem Rd.ch' {α:Type} {d:Ty α} {w w':World} {F S:Nat→Prop} {v:Value} {xs:List α} (h:Rd d w F v xs) (hc:Ch S w w') (hS:∀k,F k→¬S k):Rd d w' F v xs:=h.keep fun k hk hlt=>hc.block k hlt (hS k hk)
theorem iL.narrow {w w':World} {F:Nat→Prop} {ps:List rY} (h:iL w' (fun k=>F k∨w.heap.size≤k) ps) (hs:w'.heap.size=w.heap.size):iL w' F ps:=
 h.bound.mono (fun k hk=>by
  rcases hk with ⟨h1|h1,h2⟩
  ·exact h1
  ·rw[hs] at h2;omega)
theorem i4.vdH {w:World} {lo hi gb:Nat} {vb vk vo vd:Value} {gm:Nat} {vn:Value} {vs:List (jE 3)} {rs:List (jE 1)} {n:gW} (h:i4 w lo hi gb vb vk vo vd gm vn vs rs n) (hp:0<n.lanes.length):∃gd c,vd= .slice (some ⟨gd,0,none⟩) n.lanes.length c:=by
 have b:=h.done.1;rw[List.length_map] at b;obtain⟨g,c,d,a,-⟩:=(show Ow (jN 1) 63 w _ vd rs from h.sets.get 1 rfl).head gO;rw[b] at a;exact⟨g,c,a⟩
theorem i4.gbIn {w:World} {lo hi gb:Nat} {vb vk vo vd:Value} {gm:Nat} {vn:Value} {vs:List (jE 3)} {rs:List (jE 1)} {n:gW} (h:i4 w lo hi gb vb vk vo vd gm vn vs rs n):lo≤gb∧gb<hi:=(show _∧_ from h.sets.get 0 rfl).1
def Bt (A:Option Addr) (m c:Nat):jE 1:=⟨[.slice A m c],rfl,fun u hu=>by simp at hu;subst hu;rfl⟩
theorem zL {xs:List hZ} {i:Nat} (hi:i<xs.length) (ps:List iq):(xs.set i {xs[i] with done:=ps}).map (fun l=>l.base)=xs.map (fun l=>l.base):=by
 rw[List.map_set];refine List.ext_getElem? fun j=>?_;by_cases hj:i=j
 ·subst hj
  rw[List.getElem?_set_self (by rw[List.length_map];exact hi),List.getElem?_map,mc hi];rfl
 ·rw[List.getElem?_set_ne hj]
theorem i4.setDone {w:World} {lo hi gb:Nat} {vb vk vo:Value} {gd m cd:Nat} {gm:Nat} {vn:Value} {vs:List (jE 3)} {rs:List (jE 1)} {n:gW} (h:i4 w lo hi gb vb vk vo (.slice (some ⟨gd,0,none⟩) m cd) gm vn vs rs n) (i:Nat) (hi':i<n.lanes.length) (A:Option Addr) (m' c':Nat) (ps:List iq) (hR:Rd jm w (lO lo hi) (.slice A m' c') ps):
  (∃u,w.cell? ⟨gd,i,none⟩=some u)∧w.frozen? ⟨gd,i,none⟩=false∧(lo≤gd∧gd<hi)∧i4 (w.setCell ⟨gd,i,none⟩ (.slice A m' c')) lo hi gb vb vk vo (.slice (some ⟨gd,0,none⟩) m cd) gm vn vs (rs.set i (Bt A m' c')) (jR n i {n.lanes[i] with done:=ps})∧Ch (fun q=>q=gd) w (w.setCell ⟨gd,i,none⟩ (.slice A m' c')):=by
 have y:=h.done.1;rw[List.length_map] at y;obtain⟨f,d,B,-,o⟩:=(h.sets.mono (F':=fun k=>(lo≤k∧k<hi)∨w.heap.size≤k) (fun k x=>Or.inl x)).step 1 rfl;have c:Ow (jN 1) 63 w f (.slice (some ⟨gd,0,none⟩) m cd) rs:=d;obtain⟨p,r,s,b⟩:=c.setOne rfl (g:=gd) rfl i gO (Bt A m' c') (.slice A m' c') rfl;have j:f gd:=c.inF rfl;have l:lo≤gd∧gd<hi:=(show Ow (jN 1) 63 w (fun k=>lo≤k∧k<hi) (.slice (some ⟨gd,0,none⟩) m cd) rs from h.sets.get 1 rfl).inF rfl;have a:∀q,lO lo hi q→¬q=gd:=fun q hq e=>by subst e;rcases hq with t|t<;>omega
 have z:=o _ (ig (jN 1) 63 (.slice (some ⟨gd,0,none⟩) m cd) (rs.set i (Bt A m' c'))) (fun k=>(lo≤k∧k<hi)∨w.heap.size≤k) (b.mono (fun q hq=>by have v:q=gd:=hq;subst v;exact j)) (s.mono (fun q hq=>Or.inl hq)) (fun _ h=>h) (fun q hq=>Or.inr hq);refine⟨p,r,l,⟨?_,⟨h.size.1,by rw[World.size_setCell];exact h.size.2⟩,?_,h.ke.ch' b a,h.ou.ch' b a,h.vi.ch b a⟩,b⟩
 ·have:=z.narrow (World.size_setCell ..)
  simp only[wh,jR,zL hi'] at this ⊢;exact this
 ·have:=(h.done.ch b a).set i ps (Bt A m' c') ⟨_,rfl,hR.ch' b a⟩
  simp only[jR,List.map_set];exact this
theorem i4.setVer {w:World} {lo hi gb:Nat} {vb vk vo vd:Value} {gm:Nat} {vn:Value} {vs:List (jE 3)} {rs:List (jE 1)} {n:gW} (h:i4 w lo hi gb vb vk vo vd gm vn vs rs n) (v:Int):
  i4 (w.setCell ⟨gb,9,none⟩ (.int .i64 v)) lo hi gb vb vk vo vd gm vn vs rs {n with version:=v}∧Ch (fun q=>q=gb) w (w.setCell ⟨gb,9,none⟩ (.int .i64 v)):=by
 have f:=h.gbIn;have C:=Ch.setCell (p:=⟨gb,9,none⟩) (Ch.refl (fun q=>q=gb) w) (Or.inl rfl) (.int .i64 v);have a:∀q,lO lo hi q→¬q=gb:=fun q hq e=>by subst e;rcases hq with c|c<;>omega
 have d:=(h.sets.mono (F':=fun k=>(lo≤k∧k<hi)∨w.heap.size≤k) (fun k b=>Or.inl b)).store (fun k b=>Or.inr b) 9 (.int .i64 v);refine⟨⟨?_,⟨h.size.1,by rw[World.size_setCell];exact h.size.2⟩,h.done.ch C a,h.ke.ch' C a,h.ou.ch' C a,h.vi.ch C a⟩,C⟩;have:=d.narrow (World.size_setCell ..);simp only[DE,List.setIfInBounds_toArray,List.set_cons_zero,List.set_cons_succ] at this;exact this
theorem Ck (n:gW) (lo hi gb:Nat) (vb vk vo vd:Value) (gm:Nat) (vn:Value) (vs:List (jE 3)) (rs:List (jE 1)) (w:World) (h:i4 w lo hi gb vb vk vo vd gm vn vs rs n) (was:gW) (v0:Value) (E:Nat→Prop) (h0:Rd (qw iC) w E v0 (oa was)) (hver:was.version=n.version) (hv0:0≤n.version) (hv:n.version<9999) (hf:iG n) (hw:lM n):
  Calls Tryz.prog 48 #[.pointer (some ⟨gb,0,none⟩),v0] w fun q w' =>q= .returned (.tuple #[])∧i4 w' lo hi gb vb vk vo vd gm vn vs rs (ik was n)∧Ch (fun q=>q=gb) w w':=by
 obtain⟨L,O,rfl,-⟩:=h0.shape;have k:=gP (show ik was n=if oa was=oa n then n else {n with version:=was.version+1} from rfl);go_enter Tryz.func48,Tryz.ntmps48;go_wp2_with fail;refine(Dw n lo hi gb vb vk vo vd gm vn vs rs w h hf hw).mono ?_;rintro q s ⟨u1,rfl,c,a⟩;obtain⟨M,P,rfl,-⟩:=c.shape;apply_assumption;go_wp2_with fail;refine(zj _ _ (oa was) (oa n) _ _ s (h0.below a) c).mono ?_;rintro q o ⟨rfl,m⟩;have d:=gQ a m a.size;have i:=h.keep d;have l:Ch (fun q=>q=gb) w o:=Ch.of_below d;by_cases e:oa was=oa n
 ·have f:=gP (show ik was n=n by rw[k.out,if_pos e])
  have b:decide (oa was=oa n)=true:=jT e;rw[b];clear e b;apply_assumption;go_wp2_with fail
  go_end0
  exact⟨rfl,by rw[f.out];exact i,l⟩
 ·have f:=gP (show ik was n= {n with version:=n.version+1} by rw[k.out,if_neg e,hver])
  have b:decide (oa was=oa n)=false:=iU e;rw[b];clear e b;apply_assumption;have j:o.heap[gb]? =some (.cells #[n.id,n.inc,n.g,n.led,vb,vk,vo,n.up,vd,n.version,.map (some gm),vn,n.round,n.low] 93):=(show _∧_ from i4.sets i |>.get 0 rfl).2;obtain⟨t,u,v,x,y,z,A,B,C,D,F,G,H,I⟩:=ph j;have Q:=ft j;obtain⟨r,p⟩:=i.setVer (n.version+1);have J:IntKind.i64.wrap (n.version+1)=n.version+1:=IntWalk.i64_in _ gO;go_wp2_with fail
  go_end0
  exact⟨rfl,by rw[f.out];exact r,l.trans p⟩
theorem wn (x:gW) (j:Nat):(kW x j).lanes.map (fun l=>l.proc)=x.lanes.map (fun l=>l.proc):=by
 unfold kW;split
 ·next l hl=>
  refine List.ext_getElem? fun i=>?_;have a:=(List.getElem?_eq_some_iff.1 hl).1;by_cases hi:j=i
  ·subst hi
   rw[List.getElem?_map,List.getElem?_map,List.getElem?_set_self a,hl];rfl
  ·rw[List.getElem?_map,List.getElem?_map,List.getElem?_set_ne hi]
 ·rfl
theorem oD (x:gW):∀j,(jp x j).lanes.map (fun l=>l.proc)=x.lanes.map (fun l=>l.proc)
 |0=>rfl
 |j+1=>(wn (jp x j) j).trans (oD x j)
theorem Et (n:gW) (lo hi gb:Nat) (vb vk vo:Value) (gd L cd:Nat) (gm:Nat) (vn:Value) (vs:List (jE 3)) (rs:List (jE 1)) (w:World) (h:i4 w lo hi gb vb vk vo (.slice (some ⟨gd,0,none⟩) L cd) gm vn vs rs n) (hf:iG n) (hw:lM n) (hp:n.lanes.map (fun l=>l.proc)=ic n.id):
  Calls Tryz.prog 47 #[.pointer (some ⟨gb,0,none⟩)] w fun q w' =>q= .returned (.tuple #[])∧(∃rs',i4 w' lo hi gb vb vk vo (.slice (some ⟨gd,0,none⟩) L cd) gm vn vs rs' (kj n))∧Ch (fun q=>lo≤q∧q<hi) w w':=by
 have bn:=hf.lanes;go_enter Tryz.func47,Tryz.ntmps47;go_wp2_with fail
 go_loopg [2] (2*ks n+1) (fun gk t wr=>∃(b:Bool) (x:gW) (rs:List (jE 1)),t= .bool b∧Hid (gk=2*ks x+b.toNat∧k8 n x∧iG x∧lM x∧x.lanes.map (fun l=>l.proc)=ic x.id∧(b=true→kj x=kj n)∧(b=false→x=kj n))∧i4 wr lo hi gb vb vk vo (.slice (some ⟨gd,0,none⟩) L cd) gm vn vs rs x∧Ch (fun q=>lo≤q∧q<hi) w wr)
 case atStart=>exact⟨true,n,rs,rfl,gP ⟨rfl,k8.refl n,hf,hw,hp,fun _=>rfl,fun h=>by cases h⟩,h,Ch.refl _ _⟩
 case round=>
  clear h rs;obtain⟨b,x,rs,rfl,HI,h,p⟩:=hrel;cases b
  case false=>
   have hx:=HI.out.2.2.2.2.2.2 rfl;go_wp2_with fail
   go_end0
   exact⟨rfl,⟨rs,by rw[←hx];exact h⟩,p⟩
  case true=>
   have f:=HI.out;have aY:=gP f.2.1;have az:=gP f.2.2.1;have a0:=gP f.2.2.2.1;have aB:=gP f.2.2.2.2.1;have ar:=gP (f.2.2.2.2.2.1 (by first|exact rfl|trivial));have aV:=gP f.1;clear f HI;have bo:=az.out.lanes;have F:wr.heap[gb]? =some (.cells #[x.id,x.inc,x.g,x.led,vb,vk,vo,x.up,.slice (some ⟨gd,0,none⟩) L cd,x.version,.map (some gm),vn,x.round,x.low] 93):=(show _∧_ from i4.sets h |>.get 0 rfl).2;obtain⟨Q,R,S,T,U,V,X,Y,Z,aa,ab,ac,ad,ae⟩:=ph F;go_wp2_with fail;refine(nY x.id _).mono ?_;rintro q w1 ⟨u1,rfl,af,au⟩;obtain⟨Ap,cp,rfl,-⟩:=af.shape;have aq:=gP (show(ic x.id).length=x.lanes.length by rw[←aB.out,List.length_map]);apply_assumption;have d:=h.keep au;have aT:=p.trans (Ch.of_below au);have aN:=gP (af.rd.mono (F':=fun q=>hi≤q) (fun q hq=>jb h.size.2 hq));clear F Q R S T U V X Y Z aa ab ac ad ae af h p;obtain⟨pl,aX⟩:∃pl,(ic x.id).length=pl:=⟨_,rfl⟩;have bh:=gP aX;go_wp2_with fail;skip
   go_loopw [2,15] (fun t i wr=>∃(j:Nat) (rs:List (jE 1)),i= .int .i64 j∧j≤x.lanes.length∧t= .bool (jY x j)∧i4 wr lo hi gb vb vk vo (.slice (some ⟨gd,0,none⟩) L cd) gm vn vs rs (jp x j)∧Ch (fun q=>lo≤q∧q<hi) w1 wr) (fun _ i _=>x.lanes.length-(intOf i).toNat)
   case atStart=>exact⟨0,rs,rfl,jP _,rfl,d,Ch.refl _ _⟩
   case round=>
    clear d rs;obtain⟨j,rs,rfl,hj,rfl,h,p⟩:=hrel;obtain⟨b,hb⟩:∃b,jY x j=b:=⟨_,rfl⟩;have HB:=gP hb;simp only[hb];clear hb;have ap:=gP ((aY.out).trans (l3 x j));have u:=gP (nf az.out j);have P:=gP (rN a0.out j);have s:=gP (l3 x j);have v:=gP (show(jp x j).lanes.map (fun l=>l.proc)=ic x.id by rw[oD,aB.out]);have J:=gP (show jp x (j+1)=kW (jp x j) j from rfl);have M:=gP (show jY x (j+1)=(jY x j||sq (jp x j) j) from rfl);obtain⟨y,hy⟩:∃y,jp x j=y:=⟨_,rfl⟩;have HY:=gP hy;rw[hy] at h ap u P v s J M;clear hy;by_cases hlt:j<x.lanes.length
    ·have aA:j<(ic x.id).length:=by rw[aq.out];exact hlt
     have p0:(j:Int)<((ic x.id).length:Int):=gO;have a:j<y.lanes.length:=by have:=s.out.len;omega
     obtain⟨b3,o3,aS,-,bk,z0⟩:=lm (aN.out.keep (fun q hq hl=>p.block q hl (fun e=>by have d:hi≤q:=hq;omega))) j aA;subst aS;have am:=gP (show(ic x.id)[j]=y.lanes[j].proc from Option.some.inj (by rw[←mc aA,←v.out,List.getElem?_map,mc a];rfl));rw[am.out] at z0;have O:=gP (show y.lanes.map (fun l=>l.proc)=ic y.id by rw[v.out,s.out.id]);have ay:=u.out.done y.lanes[j] (List.getElem_mem a);have I:=gP (uA a);have r:=gP (tD a);have G:=FB y lo hi gb vb vk vo _ gm vn vs rs wr h O.out j a;have an:=fun (W:World) (h:i4 W lo hi gb vb vk vo (.slice (some ⟨gd,0,none⟩) L cd) gm vn vs rs y)=>h.setDone j a;obtain⟨l,hl⟩:∃l,y.lanes[j]=l:=⟨_,rfl⟩;rw[hl] at z0 ay I r G;simp only[hl] at an;clear hl am;have bl:=ay.1;go_wp2_with fail;refine G.mono ?_;clear G;rintro q w2 ⟨A6,c6,rfl,r1,A⟩;have h2:=h.keep A;apply_assumption;clear z0;go_wp2_with fail;refine(zO y lo hi gb vb vk vo _ gm vn vs rs w2 h2 u.out P.out l.proc).mono ?_;rintro q w3 ⟨u3,rfl,z,k⟩;obtain⟨E,ax⟩:∃E,iT y l.proc=E:=⟨_,rfl⟩;rw[ax] at z I r;clear ax;obtain⟨C3,bi,rfl,-⟩:=z.shape;have h3:=h2.keep k;have r3:=r1.below k;apply_assumption;go_wp2_with fail;have aI:=h3.size;refine(CA l _ _ E _ _ w3 r3 z.rd gO).mono ?_;rintro q w4 ⟨m,A4,c4,rfl,r4,ag⟩;replace r4:=r4.mono (F':=lO lo hi) (fun q hq=>by rcases hq with d|d;exact d;exact Or.inr (jb aI.2 d));have h4:=h3.keep ag;have av:=p.trans (Ch.of_below (gQ A (gQ k ag k.size) A.size));obtain⟨t,ht⟩:∃t,decide (il l.done E<l.done.length)=t:=⟨_,rfl⟩;rw[ht];have ao:=gP ht;clear ht z r3 r1 h3 h2 h p A k ag;apply_assumption;have aW:=gP (lR l.done E).1;go_upto_region 7 with fail;obtain⟨W5,hV,C,LX⟩:=n8 w4 (.cells #[l.proc,l.base.x,l.base.y,l.base.c,.slice A4 m c4] 65);have h5:=h4.keep C;have r5:=r4.below C;have aw:=av.trans (Ch.of_below C);obtain⟨g,hg⟩:∃g,g=w4.heap.size:=⟨_,rfl⟩;rw[←hg] at LX;simp only[←hg];rw[hV.out];clear hV;clear hg C h4 r4 av;have l4:=sO LX;cases t
     case false=>
      have H:=gP (I.out (by have d:=ao.out;simp at d;have:=aW.out;omega));go_wp2_with fail;go_roundw
      case rel=>exact⟨j+1,rs,by go_num,gO,by rw[M.out,H.out.2,HB.out,Bool.or_false],by rw[J.out,H.out.1];exact h5,aw⟩
      case measure=>exact ms
     case true=>
      have H:=gP (r.out (by have d:=ao.out;simpa using d));obtain⟨⟨u0,z0⟩,z1,z2,h6,C6⟩:=an W5 h5 A4 m c4 (lu l E).done r5;have F:W5.heap[gb]? =some (.cells #[y.id,y.inc,y.g,y.led,vb,vk,vo,y.up,.slice (some ⟨gd,0,none⟩) L cd,y.version,.map (some gm),vn,y.round,y.low] 93):=(show _∧_ from i4.sets h5 |>.get 0 rfl).2;obtain⟨Q,R,S,T,U,V,X,Y,Z,aa,ab,ac,ad,ae⟩:=ph F;have bj:(j:Int)<(L:Int):=by obtain⟨A9,c9,aZ⟩:=h5.vdS;injection aZ with e1 e2 e3;subst e2;omega
      have bm:(0:Int)≤(j:Int):=gO;go_wp2_with fail;refine kg [.rd [0,1,2,3,4,5,6,7]] [8] ?_;refine vL ?_;intro N hN;go_wp2_with fail;refine gR (hN _ ?_);clear hN N;refine vF ?_;go_wp2_with fail;have aU:=(aw.trans (C6.mono (fun q hq=>by have h9:q=gd:=hq;subst h9;exact z2))).drew;have h7:=h6.keep (Below.drew (gY _ _));clear F Q R S T U V X Y Z aa ab ac ad ae;go_roundw
      case rel=>exact⟨j+1,_,by go_num,gO,by rw[M.out,H.out.2,Bool.or_true],by rw[J.out,H.out.1];exact h7,aU⟩
      case measure=>exact ms
    ·have ah:j=x.lanes.length:=gO
     have p0:¬(j:Int)<((ic x.id).length:Int):=by rw[aq.out];omega
     have D:y=jp x x.lanes.length:=by rw[←ah];exact HY.out.symm
     have B:b=jY x x.lanes.length:=by rw[←ah];exact HB.out.symm
     have o:=lT x x.lanes.length;rw[←D,←B] at o;have HR:=gP (show((b=true→kj y=kj n)∧(b=false→y=kj n))∧2*ks y+b.toNat<gk from ⟨⟨fun h=>by rw[D,qv (by rw[←B,h]),ar.out],fun h=>by rw[D,nX (by rw[←B,h]),ar.out]⟩,by have d:=aV.out;cases b with|true=>have:=o.2 rfl;simp only[Bool.toNat_true] at *; omega|false=>have:=o.1;simp only[Bool.toNat_false,Bool.toNat_true] at *; omega⟩);have O:=gP (show y.lanes.map (fun l=>l.proc)=ic y.id by rw[v.out,s.out.id]);clear ah D B o;go_wp2_with fail
     go_roundg (2*ks y+b.toNat)
     case rel=>exact⟨b,y,rs,rfl,gP ⟨rfl,ap.out,u.out,P.out,O.out,HR.out.1.1,HR.out.1.2⟩,h,aT.trans p⟩
     case measure=>exact HR.out.2
theorem wM {P:gW→Prop} (hP:∀n,P n→P (jp n n.lanes.length)) {n:gW} (h:P n):P (kj n):=by
 induction hk:ks n using Nat.strongRecOn generalizing n with
 |_ m ih=>
  by_cases hc:jY n n.lanes.length=true
  ·rw[←qv hc]
   exact ih _ (by rw[←hk];exact(lT n _).2 hc) (hP n h) rfl
  ·rw[←nX (by simpa using hc)]
   exact hP n h
theorem D9 {n:gW} (h:lM n):lM (kj n):=wM (P:=lM) (fun n h=>rN h _) h
theorem zD (n:gW):(kj n).lanes.map (fun l=>l.proc)=n.lanes.map (fun l=>l.proc):=
 wM (P:=fun x=>x.lanes.map (fun l=>l.proc)=n.lanes.map (fun l=>l.proc)) (fun x h=>(oD x _).trans h) rfl
theorem Ct {m n:gW} (h:iG n) (hw:n.lanes.map (fun l=>l.proc)=ic n.id):iG (ik m n)∧(ik m n).lanes.map (fun l=>l.proc)=ic (ik m n).id:=by
 unfold ik;split
 ·exact⟨h,hw⟩
 ·exact⟨⟨h.kept,h.outs,h.lanes,h.done,h.views,h.evs,h.known⟩,hw⟩
theorem uI {a:iM} {l x:hZ} {came:List im} {bl:Bool} (ha:je a=true) (hl:iW l=true) (h:jn a l came=(x,bl)):x.proc=l.proc∧x.base=l.base∧∀p∈x.done,∀e∈p.sends,nQ e:=by
 have c:∀p∈l.done,∀e∈p.sends,nQ e:=fun p b=>((ti hl).2 p b).2.2;unfold jn at h;rw[if_pos hl] at h;split at h
 ·rename_i hh
  split at h
  ·rename_i e hn
   have d:lx l came=some e:=by unfold lx;rw[if_pos ⟨hl,hh.1⟩];exact hn
   have f:=(uh d).2.2.1;cases h;refine⟨rfl,rfl,fun p b q hq=>?_⟩;simp only[nN,List.mem_append,List.mem_cons,List.not_mem_nil,or_false] at b;rcases b with b|rfl
   ·exact c p b q hq
   ·exact nQ.of_ok ((rS ha (uN hl) f).sends q (((t8 vT _).2 q).1 hq)).1
  ·cases h;exact⟨rfl,rfl,c⟩
 ·cases h;exact⟨rfl,rfl,c⟩
theorem zV {n:gW} {i:Nat} {x:hZ} (h:lM n) (hx:∀p∈x.done,∀e∈p.sends,nQ e):lM (jR n i x):=
 ⟨h.kept,fun l hl=>by rcases List.mem_or_eq_of_mem_set hl with hl|rfl;exact h.sends l hl;exact hx,h.evs⟩
theorem wu {n:gW} {i:Nat} {x:hZ} (hi:i<n.lanes.length) (hx:x.proc=n.lanes[i].proc):(jR n i x).lanes.map (fun l=>l.proc)=n.lanes.map (fun l=>l.proc):=
 pb _ _ _ _ (fun y hy=>by rw[mc hi] at hy;cases hy;exact hx)
theorem Cn {apps:List iM} (h:ji apps=true) {i:Nat} (hi:i<apps.length):je apps[i]=true:=by
 simp only[ji,Bool.and_eq_true,List.all_eq_true] at h;exact h.2 _ (List.getElem_mem hi)
def yQ {α:Type} (d:Ty α) (U:World) (B:Nat→Prop) (w:World) (F:Nat→Prop) (v:Value) (xs:List α):Prop:=
 ∃w0,Rd d w0 (fun k=>B k∨F k) v xs∧(∀k,B k→w0.heap[k]? =U.heap[k]?)∧∀k,F k→w.heap[k]? =w0.heap[k]?
theorem yQ.move {α:Type} {d:Ty α} {U w w':World} {B F:Nat→Prop} {v:Value} {xs:List α} (h:yQ d U B w F v xs) (hm:∀k,F k→w'.heap[k]? =w.heap[k]?):yQ d U B w' F v xs:=by
 obtain⟨f,b,c,e⟩:=h;exact⟨f,b,c,fun k a=>(hm k a).trans (e k a)⟩
theorem yQ.out {α:Type} {d:Ty α} {U w:World} {B F:Nat→Prop} {v:Value} {xs:List α} (h:yQ d U B w F v xs) (hB:∀k,B k→w.heap[k]? =U.heap[k]?):Rd d w (fun k=>B k∨F k) v xs:=by
 obtain⟨f,b,c,e⟩:=h;exact b.keep fun k a _=>by rcases a with a|a;exact(hB k a).trans (c k a).symm;exact e k a
end Go.Proofs.YtgilllnjhahkfaaGreat
