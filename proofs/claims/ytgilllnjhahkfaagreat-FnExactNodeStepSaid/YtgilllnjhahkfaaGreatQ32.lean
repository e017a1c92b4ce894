/- Parts of the proof: Nf4, Ni2, Ne1. -/
import Derived.Test.YtgilllnjhahkfaaGreatQ22
import Derived.Test.YtgilllnjhahkfaaGreatQ29
set_option linter.unusedVariables false
set_option linter.unusedSimpArgs false
set_option linter.unusedSectionVars false
set_option maxHeartbeats 4000000
namespace Go.Proofs.YtgilllnjhahkfaaGreat
open Go.RowKit
theorem km (n:gW):jO n=true↔i2 n.id 0 2=true∧i2 n.inc 1 9999=true∧i2 n.g 0 41=true∧i2 n.led 0 9999=true∧jK n.kept 100=true∧jA n.outs 96=true∧jQ n=true∧
  (∀o∈n.outs,o.time<n.g)∧n.lanes.map (fun l=>l.proc)=ic n.id∧n.lanes.all iW=true:=by
 simp only[jO,jQ,Bool.and_eq_true,decide_eq_true_eq,List.all_eq_true];constructor
 ·rintro⟨j,k,m,p,q,r,s,t,u,a,b,c,d,e,f,i⟩
  exact⟨j,k,m,p,t,u,⟨d,f,q,r,s,e,i⟩,a,b,c⟩
 ·rintro⟨j,k,m,p,t,u,⟨d,f,q,r,s,e,i⟩,a,b,c⟩
  exact⟨j,k,m,p,q,r,s,t,u,a,b,c,d,e,f,i⟩
theorem qH {n:gW} (h:jz n=true):jO n=true:=by
 simp only[jz,Bool.and_eq_true] at h;exact h.1
theorem nE {n:gW} (h:¬jO n=true):jz n=false:=by
 cases hk:jz n with
 |false=>rfl
 |true=>exact absurd (qH hk) h
theorem xR {a b:iQ} (h:hM a b=true):a.time≤b.time:=by
 simp only[hM,iQ.key,ku] at h;by_cases h1:a.time<b.time
 ·omega
 ·by_cases h2:a.time=b.time
  ·omega
  ·simp[h1,h2] at h
theorem CI {os:List iQ} {g:Int} {m:Int} (h:jA os m=true) (hp:os.length-1<os.length) (hl:os[os.length-1].time<g):∀o∈os,o.time<g:=by
 intro o b;simp only[jA,Bool.and_eq_true] at h;have c:=(Dq qS os).1 h.2.2;obtain⟨i,a,rfl⟩:=List.getElem_of_mem b;by_cases h1:i=os.length-1
 ·subst h1;exact hl
 ·have:=xR (List.pairwise_iff_getElem.1 c i (os.length-1) a hp gO)
  omega
theorem EQ {n:gW} (h:iG n) (p:Int):(iT n p).length≤804:=by
 have b:=xb ((jg n++lK n).filter (lQ n p));have a:=List.length_filter_le (lQ n p) (jg n++lK n);have c:=mZ h;have d:=sK h n.views.length;have e:=h.views;rw[List.length_append] at a;rw[yT];unfold lK at*;omega
structure lM (n:gW):Prop where
 kept:∀e∈n.kept,nQ e
 sends:∀l∈n.lanes,∀p∈l.done,∀e∈p.sends,nQ e
 evs:∀v∈n.views,∀e∈v.events,nQ e
theorem AX {xs:List im} {m:Int} (h:jK xs m=true):∀e∈xs,nQ e:=by
 simp only[jK,Bool.and_eq_true,List.all_eq_true] at h;exact fun e a=>nQ.of_ok (h.2.1 e a)
theorem xM {xs:List im} {m:Nat} (h:jK xs (m:Int)=true):xs.length≤m:=by
 simp only[jK,Bool.and_eq_true,decide_eq_true_eq] at h;omega
theorem sb {xs:List iQ} {m:Nat} (h:jA xs (m:Int)=true):xs.length≤m:=by
 simp only[jA,Bool.and_eq_true,decide_eq_true_eq] at h;omega
theorem ti {l:hZ} (h:iW l=true):l.done.length≤100∧∀p∈l.done,p.sends.length≤2∧p.outs.length≤2∧∀e∈p.sends,nQ e:=by
 simp only[iW,Bool.and_eq_true,decide_eq_true_eq,List.all_eq_true] at h;refine⟨h.2.2.1,fun p b=>?_⟩;have a:=h.2.2.2.1 p b;simp only[i3,Bool.and_eq_true] at a;exact⟨xM (m:=2) a.2.2.2.1,sb (m:=2) a.2.2.2.2,AX a.2.2.2.1⟩
theorem tp {id:Int} (h:i2 id 0 2=true):(ic id).length≤2:=by
 rcases wm h with ⟨_,h⟩|⟨_,h⟩|⟨_,h⟩<;>rw[h]<;>simp
theorem tO {n:gW} (h:jQ n=true):n.views.length=3∧n.known.length=3∧∀v∈n.views,kx v=true:=by
 simp only[jQ,Bool.and_eq_true,decide_eq_true_eq,List.all_eq_true] at h;exact⟨h.1,h.2.1,h.2.2.2.2.2.1⟩
theorem zh {v:jl} (h:kx v=true):jK v.events 100=true:=by
 simp only[kx,Bool.and_eq_true] at h;exact h.2.2
theorem nV {n:gW} (h:jO n=true):iG n:=by
 obtain⟨c,q,s,t,d,e,f,u,g,a⟩:=(km n).1 h;obtain⟨k,o,p⟩:=tO f;refine⟨xM (m:=100) d,sb (m:=96) e,?_,fun l i=>?_,k,fun v j=>xM (m:=100) (zh (p v j)),o⟩
 ·have:=congrArg List.length g
  rw[List.length_map] at this;rw[this];exact tp c
 ·have:=ti (List.all_eq_true.1 a l i)
  exact⟨gO,fun r b=>⟨(this.2 r b).1,(this.2 r b).2.1⟩⟩
theorem Bv {n:gW} (h:jO n=true):lM n:=by
 obtain⟨i,j,k,m,b,o,c,q,r,a⟩:=(km n).1 h;obtain⟨s,t,g⟩:=tO c;exact⟨AX b,fun l d p e=>((ti (List.all_eq_true.1 a l d)).2 p e).2.2,fun v f=>AX (zh (g v f))⟩
theorem sY {n:gW} {e:im}:∀i,e∈jy n i→∃v∈n.views,e∈v.events
 |0,h=>by simp[jy] at h
 |i+1,h=>by
  simp only[jy] at h;split at h
  ·exact sY i h
  ·rcases List.mem_append.1 h with h|h
   ·exact sY i h
   ·rw[List.getD_eq_getElem?_getD] at h
    cases hv:n.views[i]? with
    |none=>rw[hv] at h;simp at h
    |some v=>rw[hv] at h;exact⟨v,List.mem_of_getElem? hv,h⟩
theorem Bm {n:gW} (h:lM n):∀e∈jg n,nQ e:=by
 intro e a;rw[yK] at a;rcases List.mem_append.1 a with a|a
 ·exact h.kept e a
 ·obtain⟨l,b,a⟩:=List.mem_flatMap.1 a
  obtain⟨p,c,a⟩:=List.mem_flatMap.1 a;exact h.sends l b p c e a
theorem Ez {n:gW} (h:lM n):∀e∈jg n++lK n,nQ e:=by
 intro e a;rcases List.mem_append.1 a with a|a
 ·exact Bm h e a
 ·obtain⟨v,b,a⟩:=sY _ a
  exact h.evs v b e a
theorem AH {n:gW} (h:lM n) (i:Nat):lM (kW n i):=by
 unfold kW;split
 ·rename_i l hl
  refine⟨h.kept,fun x a p b=>?_,h.evs⟩;rcases List.mem_or_eq_of_mem_set a with a|rfl
  ·exact h.sends x a p b
  ·exact h.sends l (List.mem_of_getElem? hl) p (List.mem_of_mem_take b)
 ·exact h
theorem rN {n:gW} (h:lM n):∀i,lM (jp n i)
 |0=>h
 |i+1=>AH (rN h i) i
def kG (n:gW) (l:hZ):Bool:=decide ((iT n l.proc).length≤100)&&decide (il l.done (iT n l.proc)=l.done.length)
theorem sW (n:gW):vC n=n.lanes.all (kG n):=rfl
theorem tl {n:gW} (h:n.lanes.map (fun l=>l.proc)=ic n.id) {k:Nat} (hk:k<n.lanes.length) (hk2:k<(ic n.id).length):n.lanes[k].proc=(ic n.id)[k]:=by
 have a:(n.lanes.map (fun l=>l.proc))[k]? =(ic n.id)[k]? :=by rw[h]
 rw[List.getElem?_map,mc hk,mc hk2] at a;simpa using a
set_option maxRecDepth 100000
theorem Df {x:iq} {vs vo nx u:Value}:(lq x vs vo nx).toArray.setIfInBounds 12 u=(lq x vs vo u).toArray:=by
 simp[lq,kY]
theorem Az {w:World} {E:Nat→Prop} {gc:Nat} {xs:List iq} {G:Nat→Nat} (h:kh w E gc xs G):kh ((w.setCell ⟨gc,0,none⟩ (.pointer none)).setCell ⟨gc,1,none⟩ (.pointer none)) E gc (xs.take 0) G:=by
 have b:=gN (gN h.blk 0 (.pointer none)) 1 (.pointer none);simp only[mo,mp,ml] at b;refine⟨?_,fun j a=>by simp at a,fun i j _ a=>by simp at a,fun j a=>by simp at a,h.sg,fun j a=>by simp at a,fun k c=>by rw[World.size_setCell,World.size_setCell];exact h.bd k c⟩;simpa [ns,pM] using b
theorem Cl {w:World} {E:Nat→Prop} {gc:Nat} {xs:List iq} {G:Nat→Nat} (h:kh w E gc xs G) (k:Nat) (h1:1≤k) (hk:k≤xs.length):kh ((w.setCell ⟨G (k-1),12,none⟩ (.pointer none)).setCell ⟨gc,1,none⟩ (.pointer (some ⟨G (k-1),0,none⟩))) E gc (xs.take k) G:=by
 have f:(xs.take k).length=k:=by rw[List.length_take];omega
 have x:=h.gt (k-1) gO;have o:=Ch.setCell (p:=⟨G (k-1),12,none⟩) (Ch.refl (fun q=>q=G (k-1)∨q=gc) w) (Or.inl (Or.inl rfl)) (.pointer none);have C:=Ch.setCell (p:=⟨gc,1,none⟩) o (Or.inl (Or.inr rfl)) (.pointer (some ⟨G (k-1),0,none⟩));have l:∀q,E q→¬(q=G (k-1)∨q=gc):=fun q hq e=>by
  rcases e with rfl|rfl
  ·exact h.sj (k-1) gO hq
  ·exact h.sg hq
 refine⟨?_,fun j d=>h.gt j gO,fun i j m d=>h.lt i j m gO,fun j d=>?_,h.sg,fun j d=>h.sj j gO,fun q hq=>nk (h.bd q hq) C.size⟩
 ·have b:=gN ((Below.heap_setCell _ (⟨G (k-1),12,none⟩:Addr) (.pointer none) gc (fun e=>by have:gc=G (k-1):=e;omega)).trans h.blk) 1 (.pointer (some ⟨G (k-1),0,none⟩))
  simp only[mo,mp,ml] at b;rw[f];have r:ns G xs.length 0=ns G k 0:=by rw[ns,ns,if_pos gO,if_pos gO]
  rw[r] at b;rw[pM,if_neg gO];exact b
 ·obtain⟨u,t,a,b,c⟩:=h.at_ j gO
  have v:=h.gt j gO;have s:(xs.take k)[j]=xs[j]'gO:=List.getElem_take ..;rw[s,f];refine⟨u,t,?_,b.ch C l,c.ch C l⟩;refine(Below.heap_setCell _ (⟨gc,1,none⟩:Addr) _ (G j) (fun e=>by have:G j=gc:=e;omega)).trans ?_;by_cases hj2:j=k-1
  ·subst hj2
   have:=gN a 12 (.pointer none);rw[Df] at this;have g:ns G k (k-1+1)= .pointer none:=by rw[ns,if_neg gO]
   rw[g];exact this
  ·have n:G j≠G (k-1):=by have:=h.lt j (k-1) (by rw[f] at d;omega) gO;omega
   have g:ns G k (j+1)=ns G xs.length (j+1):=by rw[ns,ns,if_pos (by rw[f] at d;omega),if_pos (by rw[f] at d;omega)]
   rw[g];exact(Below.heap_setCell _ (⟨G (k-1),12,none⟩:Addr) _ (G j) (fun e=>n e)).trans a
theorem Ft (gc gx:Nat) (E:Nat→Prop) (xs:List iq) (G:Nat→Nat) (k:Nat) (w:World) (h:kh w E gc xs G) (hk:k≤xs.length) (hl:xs.length≤1000) (hx:w.cell? ⟨gx,0,none⟩=some (.pointer (some ⟨gc,0,none⟩))) (hgx:gx<w.heap.size) (hg0:¬gx=gc) (hgj:∀j,j<xs.length→¬gx=G j):
  Calls Tryz.prog 191 #[(k:Int),.pointer (some ⟨gx,0,none⟩)] w fun q w' =>q= .returned (.tuple #[])∧kh w' E gc (xs.take k) G∧Ch (fun q=>gc≤q) w w':=by
 have x:=ft h.blk;by_cases h0:k=0
 ·subst h0
  have s:w.cell? ⟨gc,0,none⟩=some (ns G xs.length 0):=gM h.blk 0;have t:w.cell? ⟨gc,1,none⟩=some (pM G xs.length):=gM h.blk 1;go_enter Tryz.func191,Tryz.ntmps191;go_wp2_with fail;refine ib (fun w' =>Ch (fun k=>k=gc) w w') [tT 0,tT 1,tT 2,tT 3,tF 4,tT 5,tT 6,tF 7] ie ie qP ?_;have HS:=(Ch.refl (fun k=>k=gc) w).drew
  iterate 4 (refine jr (v:=?_) (by rfl) HS (by rfl) ?_ ?_;rotate_left;(focus (intro wS hS;obtain⟨b,kf⟩:=hS.cells;have kc:=fun o=>b gx o hgx hg0;clear b kf;go_simp;(try (with_reducible rfl));done));(intro K hK;go_simp;refine hK _ ?_;clear hK K))
  refine ia (by rfl) (by rfl) (fun K hK=>?_);go_simp;refine hK _ _ (Or.inr (Ch.setCell (p:=⟨gc,0,none⟩) HS (Or.inl rfl) _)) ?_;clear hK K;replace HS:=Ch.setCell (p:=⟨gc,0,none⟩) HS (Or.inl rfl) (.pointer none)
  iterate 2 (refine jr (v:=?_) (by rfl) HS (by rfl) ?_ ?_;rotate_left;(focus (intro wS hS;obtain⟨b,kf⟩:=hS.cells;have kc:=fun o=>b gx o hgx hg0;clear b kf;go_simp;(try (with_reducible rfl));done));(intro K hK;go_simp;refine hK _ ?_;clear hK K))
  refine ia (by rfl) (by rfl) (fun K hK=>?_);go_simp;refine hK _ _ (Or.inl ie) ?_;clear hK K;simp only[jc];go_wp2_with fail;refine bodyPost_ret (v:= .tuple #[]) (results_none rfl _ _ _) rfl ?_;exact⟨rfl,(Az h).below (Below.drew (gY _ _)),(Ch.setCell (p:=⟨gc,1,none⟩) (Ch.setCell (p:=⟨gc,0,none⟩) (Ch.refl (fun q=>gc≤q) w) (Or.inl (j9 _)) _) (Or.inl (j9 _)) _).drew⟩
 ·have B:¬(k:Int)≤0:=gO
  have e:=h.gt (k-1) gO;have s:w.cell? ⟨gc,0,none⟩=some (ns G xs.length 0):=gM h.blk 0;have t:w.cell? ⟨gc,1,none⟩=some (pM G xs.length):=gM h.blk 1;go_enter Tryz.func191,Tryz.ntmps191;go_wp2_with fail
  go_loopw [3,4] (fun l i wr=>∃j:Nat,i= .int .i64 j∧1≤j∧j≤k∧l=ns G xs.length (j-1)∧wr=w) (fun _ i _=>k-(intOf i).toNat)
  case atStart=>exact⟨1,rfl,j9 _,gO,rfl,rfl⟩
  case round=>
   obtain⟨j,rfl,f,y,rfl,m⟩:=hrel;subst m;obtain⟨D,C,a,-,-⟩:=h.at_ (j-1) gO;have d:ns G xs.length (j-1)= .pointer (some ⟨G (j-1),0,none⟩):=by rw[ns,if_pos gO]
   rw[d];clear d;by_cases hlt:j<k
   ·have u:(j:Int)<(k:Int):=gO
    have n:wr.cell? ⟨G (j-1),12,none⟩=some (ns G xs.length (j-1+1)):=by rw[gM a];rfl
    go_wp2_with fail;go_roundw
    case rel=>exact⟨j+1,by go_num,gO,gO,rfl,by first|rfl|trivial⟩
    case measure=>exact ms
   ·have c:j=k:=gO
    subst c;have u:¬(j:Int)<(j:Int):=gO;have n:wr.cell? ⟨G (j-1),12,none⟩=some (ns G xs.length (j-1+1)):=by rw[gM a];rfl
    have A:=ft a;have r:=Cl h j f hk;have g:¬gx=G (j-1):=hgj _ gO;have z:=((Ch.setCell (p:=⟨G (j-1),12,none⟩) (Ch.refl (fun q=>q=G (j-1)) wr) (Or.inl rfl) (.pointer none)).cell (p:=⟨gx,0,none⟩) hgx g).trans hx;go_wp2_with fail
    go_end0
    exact⟨rfl,r,Ch.setCell (p:=⟨gc,1,none⟩) (Ch.setCell (p:=⟨G (j-1),12,none⟩) (Ch.refl (fun q=>gc≤q) wr) (Or.inl (Nat.le_of_lt e)) _) (Or.inl (j9 _)) _⟩
theorem Dz (v:Value) (n:Nat) (left:Int) (w:World) (hv:∃A c,v= .slice A n c) (hn:n≤9223372036854775807) (h0:0≤left) (h1:left≤1048576):
  Calls Tryz.prog 20 #[v,left] w fun q w' =>q= .returned (.int .i64 (iR left n))∧Below w.heap.size w w':=by
 obtain⟨A,c,rfl⟩:=hv;have d:IntKind.i64.wrap (left-n)=left-n:=IntWalk.i64_in _ gO;by_cases h:left-(n:Int)<0
 ·have b:decide (left-(n:Int)<0)=true:=jT h
  have a:=gP (show iR left n= -1 by simp[iR,h]);clear h;go_enter Tryz.func20,Tryz.ntmps20;go_wp2_with fail;go_ret;exact⟨by rw[a.out];rfl,gY _ _⟩
 ·have b:decide (left-(n:Int)<0)=false:=iU h
  have a:=gP (show iR left n=left-n by simp[iR,h]);clear h;go_enter Tryz.func20,Tryz.ntmps20;go_wp2_with fail;go_ret;exact⟨by rw[a.out];rfl,gY _ _⟩
theorem Dp (x:jl) (v:Value) (left:Int) (F:Nat→Prop) (w:World) (h:Rd iC w F v x.events) (h0:0≤left) (h1:left≤1048576):
  Calls Tryz.prog 69 #[.agg #[x.inc,x.version,v],left] w fun q w' =>q= .returned (.int .i64 (iR left ((x.events.length:Int))))∧Below w.heap.size w w':=by
 obtain⟨k,m,rfl,-,r,-⟩:=id h;obtain⟨W,hV,i,Z⟩:=n8 w (.cells #[x.inc,x.version,.slice k x.events.length m] 115);go_enter Tryz.func69,Tryz.ntmps69;go_wp2_with fail;rw[hV.out];clear hV;obtain⟨a,d⟩:∃t,iR left ((x.events.length:Int))=t:=⟨_,rfl⟩;refine(rA _ x.events.length left _ ⟨_,_,rfl⟩ r h0 h1).mono ?_;rintro q A ⟨rfl,f⟩
 (try rw[d])
 have c:=gP d;clear d;have e:=gQ i f (Below.size i);have l:=gJ f (gL Z) Z;obtain⟨n,o,p⟩:=Ed l;apply_assumption;by_cases g1:a<0
 ·have u:decide (a<0)=true:=jT g1
  have g:=gP (show iR left ((x.events.length:Int))= -1 from lX (by have j:=lg c.out g1 h0;omega));clear g1;go_wp2_with fail;go_ret;exact⟨by rw[g.out];rfl,e⟩
 have s:decide (a<0)=false:=iU g1;have b:=gP (show a=left-((x.events.length:Int))∧0≤a by have j:=kS c.out g1;omega);have y:0≤a:=b.out.2;have z:a≤1048576:=by have:=b.out;omega
 clear g1 c;have g:=gP (show iR left ((x.events.length:Int))=a by have j:=b.out;rw[oe gO];omega);go_wp2_with fail;go_ret;exact⟨by rw[g.out];rfl,e⟩
def iz:List jl→Int
 | []=>0
 |r::rs=>(r.events.length:Int)+iz rs
theorem i5:∀rs,0≤iz rs
 | []=>Int.le_refl _
 |r::rs=>by have:=i5 rs;have h2:0≤(r.events.length:Int):=gO;simp only[iz];omega
theorem nz:∀(rs:List jl) (k:Nat) (h:k<rs.length),iz (rs.take (k+1))=iz (rs.take k)+(rs[k].events.length:Int)
 |r::rs,0,h=>by simp[iz]
 |r::rs,k+1,h=>by
  have:=nz rs k (by simpa using h);simp only[List.take_succ_cons,iz,List.getElem_cons_succ] at this ⊢;omega
theorem rL:∀(rs:List jl) (k:Nat),iz (rs.take k)≤iz rs
 | [],k=>by simp
 |r::rs,0=>by simpa [iz] using i5 (r::rs)
 |r::rs,k+1=>by have:=rL rs k;simp only[List.take_succ_cons,iz];omega
theorem tK:∀(rs:List jl) (r:jl),r∈rs→(r.events.length:Int)≤iz rs
 |r'::rs,r,h=>by
  rcases List.mem_cons.1 h with rfl|h
  ·have:=i5 rs;simp only[iz];omega
  ·have:=tK rs r h
   have h2:0≤(fun r:jl=>((r.events.length:Int):Int)) r':=(fun r:jl=>(show 0≤((r.events.length:Int):Int) from gO)) r';simp only[iz] at h2 ⊢;omega
theorem CY (v:Value) (rs:List jl) (left:Int) (F:Nat→Prop) (w:World) (h:Rd nn w F v rs) (h0:0≤left) (h1:left≤1048576):
  Calls Tryz.prog 19 #[v,left] w fun q w' =>q= .returned (.int .i64 (iR left (rs.length+iz rs)))∧Below w.heap.size w w':=by
 obtain⟨A,c,rfl,-,O,-⟩:=id h;have L:IntKind.i64.wrap (left-rs.length)=left-rs.length:=IntWalk.i64_in _ gO;have G:=i5 rs;by_cases hneg:left-(rs.length:Int)<0
 ·have C:decide (left-(rs.length:Int)<0)=true:=jT hneg
  have a:=gP (show iR left (rs.length+iz rs)= -1 by unfold iR;rw[if_pos gO]);clear hneg;go_enter Tryz.func19,Tryz.ntmps19;go_wp2_with fail;go_ret;exact⟨by rw[a.out];rfl,gY _ _⟩
 ·have C:decide (left-(rs.length:Int)<0)=false:=iU hneg
  have y:=gP hneg;clear hneg;go_enter Tryz.func19,Tryz.ntmps19;go_wp2_with fail
  go_loopw [1,5] (fun l i wr=>∃(k:Nat) (m:Int),i= .int .i64 k∧k≤rs.length∧l= .int .i64 m∧Hid (m=left-(rs.length+iz (rs.take k))∧0≤m)∧Below w.heap.size w wr) (fun _ i _=>rs.length-(intOf i).toNat)
  case atStart=>exact⟨0,_,rfl,jP _,rfl,⟨by simp[iz],by have:=y.out;omega⟩,gY _ _⟩
  case round=>
   obtain⟨k,m,rfl,M,rfl,d,e⟩:=hrel;by_cases hlt:k<rs.length
   ·obtain⟨b,o,H,I,rfl,E,R,S,T,D⟩:=mI (h.below e) k hlt
    have P:(k:Int)<(rs.length:Int):=gO;have g:=d.out.2;have x:m≤1048576:=by have:=d.out.1;have:=i5 (rs.take k);omega
    obtain⟨t,f⟩:∃t,iR m ((rs[k].events.length:Int))=t:=⟨_,rfl⟩;have p:=gP f;go_wp2_with fail;refine(Dp rs[k] _ m _ wr D g x).mono ?_;rintro q Q ⟨rfl,r⟩;rw[f];have n:=gQ e r e.size;apply_assumption;by_cases hneg:t<0
    ·have s:decide (t<0)=true:=jT hneg
     have a:=gP (show iR left (rs.length+iz rs)= -1 from lX (by
      have j:=d.out.1;have z:=lg p.out hneg g;have B:=nz rs k hlt;have J:=rL rs (k+1);omega))
     clear hneg f;go_wp2_with fail;go_ret;exact⟨by rw[a.out];rfl,n⟩
    ·have s:decide (t<0)=false:=iU hneg
     have HM':=gP (show t=left-(rs.length+iz (rs.take (k+1)))∧0≤t by
      have j:=d.out.1;have z:=kS p.out hneg;have B:=nz rs k hlt;omega)
     clear hneg f;go_wp2_with fail;go_roundw
     case rel=>exact⟨k+1,t,by go_num,gO,rfl,HM',n⟩
     case measure=>exact ms
   ·have u:k=rs.length:=gO
    subst u;have a:=gP (show iR left (rs.length+iz rs)=m by
     have j:=d.out;rw[ld] at j;rw[oe gO];omega)
    go_wp2_with fail;go_ret;exact⟨by rw[a.out];rfl,e⟩
def ix:List hZ→Int
 | []=>0
 |r::rs=>((r.done.length:Int)+iy r.done)+ix rs
theorem i7:∀rs,0≤ix rs
 | []=>Int.le_refl _
 |r::rs=>by have:=i7 rs;have h2:0≤((r.done.length:Int)+iy r.done):=(by have:=iS r.done;omega);simp only[ix];omega
theorem np:∀(rs:List hZ) (k:Nat) (h:k<rs.length),ix (rs.take (k+1))=ix (rs.take k)+((rs[k].done.length:Int)+iy rs[k].done)
 |r::rs,0,h=>by simp[ix]
 |r::rs,k+1,h=>by
  have:=np rs k (by simpa using h);simp only[List.take_succ_cons,ix,List.getElem_cons_succ] at this ⊢;omega
theorem rt:∀(rs:List hZ) (k:Nat),ix (rs.take k)≤ix rs
 | [],k=>by simp
 |r::rs,0=>by simpa [ix] using i7 (r::rs)
 |r::rs,k+1=>by have:=rt rs k;simp only[List.take_succ_cons,ix];omega
theorem t5:∀(rs:List hZ) (r:hZ),r∈rs→((r.done.length:Int)+iy r.done)≤ix rs
 |r'::rs,r,h=>by
  rcases List.mem_cons.1 h with rfl|h
  ·have:=i7 rs;simp only[ix];omega
  ·have:=t5 rs r h
   have h2:0≤(fun r:hZ=>(((r.done.length:Int)+iy r.done):Int)) r':=(fun r:hZ=>(show 0≤(((r.done.length:Int)+iy r.done):Int) from (by have:=iS r.done;omega))) r';simp only[ix] at h2 ⊢;omega
theorem Ci (v:Value) (rs:List hZ) (left:Int) (F:Nat→Prop) (w:World) (h:Rd oP w F v rs) (h0:0≤left) (h1:left≤1048576):
  Calls Tryz.prog 16 #[v,left] w fun q w' =>q= .returned (.int .i64 (iR left (rs.length+ix rs)))∧Below w.heap.size w w':=by
 obtain⟨A,c,rfl,-,O,-⟩:=id h;have L:IntKind.i64.wrap (left-rs.length)=left-rs.length:=IntWalk.i64_in _ gO;have G:=i7 rs;by_cases hneg:left-(rs.length:Int)<0
 ·have C:decide (left-(rs.length:Int)<0)=true:=jT hneg
  have a:=gP (show iR left (rs.length+ix rs)= -1 by unfold iR;rw[if_pos gO]);clear hneg;go_enter Tryz.func16,Tryz.ntmps16;go_wp2_with fail;go_ret;exact⟨by rw[a.out];rfl,gY _ _⟩
 ·have C:decide (left-(rs.length:Int)<0)=false:=iU hneg
  have y:=gP hneg;clear hneg;go_enter Tryz.func16,Tryz.ntmps16;go_wp2_with fail
  go_loopw [1,5] (fun l i wr=>∃(k:Nat) (m:Int),i= .int .i64 k∧k≤rs.length∧l= .int .i64 m∧Hid (m=left-(rs.length+ix (rs.take k))∧0≤m)∧Below w.heap.size w wr) (fun _ i _=>rs.length-(intOf i).toNat)
  case atStart=>exact⟨0,_,rfl,jP _,rfl,⟨by simp[ix],by have:=y.out;omega⟩,gY _ _⟩
  case round=>
   obtain⟨k,m,rfl,M,rfl,d,e⟩:=hrel;by_cases hlt:k<rs.length
   ·obtain⟨b,o,H,I,rfl,E,R,⟨S,T,U⟩,V,D⟩:=kV (h.below e) k hlt
    have P:(k:Int)<(rs.length:Int):=gO;have g:=d.out.2;have x:m≤1048576:=by have:=d.out.1;have:=i7 (rs.take k);omega
    obtain⟨t,f⟩:∃t,iR m ((rs[k].done.length:Int)+iy rs[k].done)=t:=⟨_,rfl⟩;have p:=gP f;go_wp2_with fail;refine(Da rs[k] _ m _ wr D g x).mono ?_;rintro q Q ⟨rfl,r⟩;rw[f];have n:=gQ e r e.size;apply_assumption;by_cases hneg:t<0
    ·have s:decide (t<0)=true:=jT hneg
     have a:=gP (show iR left (rs.length+ix rs)= -1 from lX (by
      have j:=d.out.1;have z:=lg p.out hneg g;have B:=np rs k hlt;have J:=rt rs (k+1);omega))
     clear hneg f;go_wp2_with fail;go_ret;exact⟨by rw[a.out];rfl,n⟩
    ·have s:decide (t<0)=false:=iU hneg
     have HM':=gP (show t=left-(rs.length+ix (rs.take (k+1)))∧0≤t by
      have j:=d.out.1;have z:=kS p.out hneg;have B:=np rs k hlt;omega)
     clear hneg f;go_wp2_with fail;go_roundw
     case rel=>exact⟨k+1,t,by go_num,gO,rfl,HM',n⟩
     case measure=>exact ms
   ·have u:k=rs.length:=gO
    subst u;have a:=gP (show iR left (rs.length+ix rs)=m by
     have j:=d.out;rw[ld] at j;rw[oe gO];omega)
    go_wp2_with fail;go_ret;exact⟨by rw[a.out];rfl,e⟩
theorem Dt (x:gW) (vl vk vo vv vn:Value) (left:Int) (F:Nat→Prop) (w:World) (h:iA w F vl vk vo vv vn x) (h0:0≤left) (h1:left≤1048576):
  Calls Tryz.prog 5 #[.agg #[x.id,x.up,x.inc,x.g,vl,vk,vo,x.led,x.version,vv,vn,x.round,x.low],left] w fun q w' =>q= .returned (.int .i64 (iR left (((x.lanes.length:Int)+ix x.lanes)+(x.kept.length:Int)+(x.outs.length:Int)+((x.views.length:Int)+iz x.views)+(x.known.length:Int))))∧Below w.heap.size w w':=by
 obtain⟨A1,c1,rfl,-,n1,-⟩:=id h.la;obtain⟨A2,c2,rfl,-,n2,-⟩:=id h.ke;obtain⟨A3,c3,rfl,-,n3,-⟩:=id h.ou;obtain⟨A4,c4,rfl,-,n4,-⟩:=id h.vi;obtain⟨A5,c5,rfl,-,n5,-⟩:=id h.kn;have bG:=i7 x.lanes;have bs:=i5 x.views;obtain⟨W,hV,X,Z⟩:=n8 w (.cells #[x.id,x.up,x.inc,x.g,.slice A1 x.lanes.length c1,.slice A2 x.kept.length c2,.slice A3 x.outs.length c3,x.led,x.version,.slice A4 x.views.length c4,.slice A5 x.known.length c5,x.round,x.low] 29);go_enter Tryz.func5,Tryz.ntmps5;go_wp2_with fail;rw[hV.out];clear hV;obtain⟨k,I⟩:∃t,iR left (((x.lanes.length:Int)+ix x.lanes))=t:=⟨_,rfl⟩;refine(Ci _ x.lanes left F _ (h.la.below X) h0 h1).mono ?_;rintro q w1 ⟨rfl,R⟩
 (try rw[I])
 have C:=gP I;clear I;have y:=gQ X R (Below.size X);have a:=gJ R (gL Z) Z;have aE:=nD a;have aF:=tY a;have aG:=ut a;have aH:=ui a;have aI:=sO a;have aJ:=xJ a;have aK:=xD a;have aL:=zQ a;have aM:=Ae a;have aN:=Ah a;have ad:=qZ a;have ae:=rO a;have af:=rG a;apply_assumption;by_cases g1:k<0
 ·have P:decide (k<0)=true:=jT g1
  have f:=gP (show iR left (((x.lanes.length:Int)+ix x.lanes)+(x.kept.length:Int)+(x.outs.length:Int)+((x.views.length:Int)+iz x.views)+(x.known.length:Int))= -1 from lX (by have j:=lg C.out g1 h0;omega));clear g1;go_wp2_with fail;go_ret;exact⟨by rw[f.out];rfl,y⟩
 have bB:decide (k<0)=false:=iU g1;have o:=gP (show k=left-(((x.lanes.length:Int)+ix x.lanes))∧0≤k by have j:=kS C.out g1;omega);have Y:0≤k:=o.out.2;have q1:k≤1048576:=by have:=o.out;omega
 clear g1 C;go_wp2_with fail;obtain⟨l,J⟩:∃t,iR k ((x.kept.length:Int))=t:=⟨_,rfl⟩;refine(rA _ x.kept.length k _ ⟨_,_,rfl⟩ n2 Y q1).mono ?_;rintro q w2 ⟨rfl,S⟩
 (try rw[J])
 have D:=gP J;clear J;have z:=gQ y S (Below.size y);have b:=gJ S (gL a) a;have aO:=nD b;have aP:=tY b;have aQ:=ut b;have aR:=ui b;have aS:=sO b;have aT:=xJ b;have aU:=xD b;have aV:=zQ b;have aW:=Ae b;have aX:=Ah b;have ag:=qZ b;have ah:=rO b;have ai:=rG b;apply_assumption;by_cases g2:l<0
 ·have P:decide (l<0)=true:=jT g2
  have f:=gP (show iR left (((x.lanes.length:Int)+ix x.lanes)+(x.kept.length:Int)+(x.outs.length:Int)+((x.views.length:Int)+iz x.views)+(x.known.length:Int))= -1 from lX (by have j:=lg D.out g2 Y;have i:=o.out;omega));clear g2;go_wp2_with fail;go_ret;exact⟨by rw[f.out];rfl,z⟩
 have bC:decide (l<0)=false:=iU g2;have p:=gP (show l=left-(((x.lanes.length:Int)+ix x.lanes)+(x.kept.length:Int))∧0≤l by have j:=kS D.out g2;have i:=o.out;omega);have p2:0≤l:=p.out.2;have q2:l≤1048576:=by have:=p.out;have i:=o.out;omega
 clear g2 D;go_wp2_with fail;obtain⟨m,L⟩:∃t,iR l ((x.outs.length:Int))=t:=⟨_,rfl⟩;refine(yy _ x.outs.length l _ ⟨_,_,rfl⟩ n3 p2 q2).mono ?_;rintro q w3 ⟨rfl,T⟩
 (try rw[L])
 have E:=gP L;clear L;have v:=gQ z T (Below.size z);have c:=gJ T (gL b) b;have aY:=nD c;have aZ:=tY c;have a0:=ut c;have a1:=ui c;have a2:=sO c;have a3:=xJ c;have a4:=xD c;have a5:=zQ c;have a6:=Ae c;have a7:=Ah c;have aj:=qZ c;have ak:=rO c;have al:=rG c;apply_assumption;by_cases g3:m<0
 ·have P:decide (m<0)=true:=jT g3
  have f:=gP (show iR left (((x.lanes.length:Int)+ix x.lanes)+(x.kept.length:Int)+(x.outs.length:Int)+((x.views.length:Int)+iz x.views)+(x.known.length:Int))= -1 from lX (by have j:=lg E.out g3 p2;have i:=p.out;omega));clear g3;go_wp2_with fail;go_ret;exact⟨by rw[f.out];rfl,v⟩
 have bD:decide (m<0)=false:=iU g3;have r:=gP (show m=left-(((x.lanes.length:Int)+ix x.lanes)+(x.kept.length:Int)+(x.outs.length:Int))∧0≤m by have j:=kS E.out g3;have i:=p.out;omega);have p3:0≤m:=r.out.2;have q3:m≤1048576:=by have:=r.out;have i:=p.out;omega
 clear g3 E;go_wp2_with fail;obtain⟨n,M⟩:∃t,iR m (((x.views.length:Int)+iz x.views))=t:=⟨_,rfl⟩;refine(CY _ x.views m F _ (h.vi.below v) p3 q3).mono ?_;rintro q w4 ⟨rfl,U⟩
 (try rw[M])
 have G:=gP M;clear M;have A:=gQ v U (Below.size v);have d:=gJ U (gL c) c;have a8:=nD d;have a9:=tY d;have a':=ut d;have ba:=ui d;have bb:=sO d;have bc:=xJ d;have bd:=xD d;have bf:=zQ d;have bg:=Ae d;have bh:=Ah d;have am:=qZ d;have an:=rO d;have ao:=rG d;apply_assumption;by_cases g4:n<0
 ·have P:decide (n<0)=true:=jT g4
  have f:=gP (show iR left (((x.lanes.length:Int)+ix x.lanes)+(x.kept.length:Int)+(x.outs.length:Int)+((x.views.length:Int)+iz x.views)+(x.known.length:Int))= -1 from lX (by have j:=lg G.out g4 p3;have i:=r.out;omega));clear g4;go_wp2_with fail;go_ret;exact⟨by rw[f.out];rfl,A⟩
 have bE:decide (n<0)=false:=iU g4;have s:=gP (show n=left-(((x.lanes.length:Int)+ix x.lanes)+(x.kept.length:Int)+(x.outs.length:Int)+((x.views.length:Int)+iz x.views))∧0≤n by have j:=kS G.out g4;have i:=r.out;omega);have p4:0≤n:=s.out.2;have q4:n≤1048576:=by have:=s.out;have i:=r.out;omega
 clear g4 G;go_wp2_with fail;obtain⟨u,O⟩:∃t,iR n ((x.known.length:Int))=t:=⟨_,rfl⟩;refine(Dz _ x.known.length n _ ⟨_,_,rfl⟩ n5 p4 q4).mono ?_;rintro q w5 ⟨rfl,V⟩
 (try rw[O])
 have H:=gP O;clear O;have Q:=gQ A V (Below.size A);have e:=gJ V (gL d) d;have bi:=nD e;have bj:=tY e;have bk:=ut e;have bl:=ui e;have bm:=sO e;have bn:=xJ e;have bo:=xD e;have bp:=zQ e;have bq:=Ae e;have br:=Ah e;have ap:=qZ e;have aq:=rO e;have ar:=rG e;apply_assumption;by_cases g5:u<0
 ·have P:decide (u<0)=true:=jT g5
  have f:=gP (show iR left (((x.lanes.length:Int)+ix x.lanes)+(x.kept.length:Int)+(x.outs.length:Int)+((x.views.length:Int)+iz x.views)+(x.known.length:Int))= -1 from lX (by have j:=lg H.out g5 p4;have i:=s.out;omega));clear g5;go_wp2_with fail;go_ret;exact⟨by rw[f.out];rfl,Q⟩
 have bF:decide (u<0)=false:=iU g5;have B:=gP (show u=left-(((x.lanes.length:Int)+ix x.lanes)+(x.kept.length:Int)+(x.outs.length:Int)+((x.views.length:Int)+iz x.views)+(x.known.length:Int))∧0≤u by have j:=kS H.out g5;have i:=s.out;omega);have p5:0≤u:=B.out.2;have q5:u≤1048576:=by have:=B.out;have i:=s.out;omega
 clear g5 H;have f:=gP (show iR left (((x.lanes.length:Int)+ix x.lanes)+(x.kept.length:Int)+(x.outs.length:Int)+((x.views.length:Int)+iz x.views)+(x.known.length:Int))=u by have j:=B.out;rw[oe gO];omega);go_wp2_with fail;go_ret;exact⟨by rw[f.out];rfl,Q⟩
end Go.Proofs.YtgilllnjhahkfaaGreat
