/- Parts of the proof: Nf6, Sets. -/
import Derived.Test.YtgilllnjhahkfaaGreatQ14
import Derived.Test.YtgilllnjhahkfaaGreatQ18
set_option linter.unusedVariables false
set_option linter.unusedSimpArgs false
set_option linter.unusedSectionVars false
set_option maxHeartbeats 4000000
namespace Go.Proofs.YtgilllnjhahkfaaGreat
open Go.RowKit
set_option maxRecDepth 100000
theorem xg (v0 v1:Value) (xs ys:List im) (F G:Nat→Prop) (w:World) (h0:Rd iC w F v0 xs) (h1:Rd iC w G v1 ys):
  Calls Tryz.prog 87 #[v0,v1] w fun q w' =>q= .returned (.bool (decide (xs=ys)))∧Below w.heap.size w w':=by
 obtain⟨T,X,rfl,-,Q,-⟩:=id h0;obtain⟨U,Y,rfl,-,R,-⟩:=id h1;go_enter Tryz.func87,Tryz.ntmps87;by_cases hn:xs.length=ys.length
 case neg=>
  have I:((xs.length:Int) !=(ys.length:Int))=true:=by simpa using (show ¬(xs.length:Int)=(ys.length:Int) by omega)
  have c:=gP (show decide (xs=ys)=false from iU fun e=>hn (by rw[e]));clear hn;go_wp2_with fail;go_ret;exact⟨by rw[c.out];rfl,gY _ _⟩
 have I:((xs.length:Int) !=(ys.length:Int))=false:=by simp[hn]
 have H:=gP hn;have S:ys.length≤xs.length:=gO;have L:xs.length≤ys.length:=gO;clear hn;go_wp2_with fail
 go_loopw [5] (fun i wr=>∃k:Nat,i= .int .i64 k∧k≤xs.length∧Hid (xs.take k=ys.take k)∧Below w.heap.size w wr) (fun i _=>xs.length-(intOf i).toNat)
 case atStart=>exact⟨0,rfl,jP _,gP sm,gY _ _⟩
 case round=>
  obtain⟨k,rfl,Z,l,d⟩:=hrel;by_cases hlt:k<xs.length
  ·have g:k<ys.length:=gO
   have M:(k:Int)<(xs.length:Int):=gO;have p1:(k:Int)<(ys.length:Int):=gO;obtain⟨V,o0,j,O,n,o,p,r,s,t,u⟩:=jD (h0.below d) k hlt;subst j;obtain⟨W,o1,j,P,v,z,A,B,C,D,E⟩:=jD (h1.below d) k g;subst j;by_cases he:xs[k]=ys[k]
   ·have HS:=gP (jZ l.out hlt g he)
    obtain⟨x,a⟩:∃x,xs[k]=x:=⟨_,rfl⟩;obtain⟨y,b⟩:∃y,ys[k]=y:=⟨_,rfl⟩;rw[a] at n o p r s t u;rw[b] at v z A B C D E;have J:decide (x=y)=true:=jT (by rw[←a,←b];exact he);clear a b he;go_upto_region 6 with fail;refine kg [.rd [0,1,2,3,4,5,6,7]] [8] ?_;refine vL ?_;intro N hN;go_wp2_with fail;refine gR (hN _ ?_);clear hN N;refine vF ?_;have f:=d.drew;go_wp2_with fail;go_roundw
    case rel=>exact⟨k+1,by go_num,gO,HS,f⟩
    case measure=>exact ms
   ·have c:=gP (show decide (xs=ys)=false from iU fun e=>he (by simp[e]))
    obtain⟨x,a⟩:∃x,xs[k]=x:=⟨_,rfl⟩;obtain⟨y,b⟩:∃y,ys[k]=y:=⟨_,rfl⟩;rw[a] at n o p r s t u;rw[b] at v z A B C D E;have J:decide (x=y)=false:=iU (by rw[←a,←b];exact he);clear a b he;go_upto_region 6 with fail;refine kg [.rd [0,1,2,3,4,5,6,7]] [8] ?_;refine vL ?_;intro N hN;go_wp2_with fail;refine gR (hN _ ?_);clear hN N;refine vF ?_;have f:=d.drew;go_wp2_with fail;go_ret;exact⟨by rw[c.out];rfl,f⟩
  ·have m:k=xs.length:=gO
   have c:=gP (show decide (xs=ys)=true from jT (kw l.out gO H.out));have M:¬(k:Int)<(xs.length:Int):=gO;clear m;go_wp2_with fail;go_ret;exact⟨by rw[c.out];rfl,d⟩
theorem ww (v0 v1:Value) (xs ys:List im) (F G:Nat→Prop) (w:World) (h0:Rd iC w F v0 xs) (h1:Rd iC w G v1 ys):
  Calls Tryz.prog 122 #[v0,v1] w fun q w' =>q= .returned (.bool (decide (xs=ys)))∧Below w.heap.size w w':=by
 obtain⟨T,X,rfl,-,Q,-⟩:=id h0;obtain⟨U,Y,rfl,-,R,-⟩:=id h1;go_enter Tryz.func122,Tryz.ntmps122;by_cases hn:xs.length=ys.length
 case neg=>
  have I:((xs.length:Int) !=(ys.length:Int))=true:=by simpa using (show ¬(xs.length:Int)=(ys.length:Int) by omega)
  have c:=gP (show decide (xs=ys)=false from iU fun e=>hn (by rw[e]));clear hn;go_wp2_with fail;go_ret;exact⟨by rw[c.out];rfl,gY _ _⟩
 have I:((xs.length:Int) !=(ys.length:Int))=false:=by simp[hn]
 have H:=gP hn;have S:ys.length≤xs.length:=gO;have L:xs.length≤ys.length:=gO;clear hn;go_wp2_with fail
 go_loopw [13] (fun i wr=>∃k:Nat,i= .int .i64 k∧k≤xs.length∧Hid (xs.take k=ys.take k)∧Below w.heap.size w wr) (fun i _=>xs.length-(intOf i).toNat)
 case atStart=>exact⟨0,rfl,jP _,gP sm,gY _ _⟩
 case round=>
  obtain⟨k,rfl,Z,l,d⟩:=hrel;by_cases hlt:k<xs.length
  ·have g:k<ys.length:=gO
   have M:(k:Int)<(xs.length:Int):=gO;have p1:(k:Int)<(ys.length:Int):=gO;obtain⟨V,o0,j,O,n,o,p,r,s,t,u⟩:=jD (h0.below d) k hlt;subst j;obtain⟨W,o1,j,P,v,z,A,B,C,D,E⟩:=jD (h1.below d) k g;subst j;by_cases he:xs[k]=ys[k]
   ·have HS:=gP (jZ l.out hlt g he)
    obtain⟨x,a⟩:∃x,xs[k]=x:=⟨_,rfl⟩;obtain⟨y,b⟩:∃y,ys[k]=y:=⟨_,rfl⟩;rw[a] at n o p r s t u;rw[b] at v z A B C D E;have J:decide (x=y)=true:=jT (by rw[←a,←b];exact he);clear a b he;go_upto_region 6 with fail;refine kg [.rd [0,1,2,3,4,5,6,7]] [8] ?_;refine vL ?_;intro N hN;go_wp2_with fail;refine gR (hN _ ?_);clear hN N;refine vF ?_;have f:=d.drew;go_wp2_with fail;go_roundw
    case rel=>exact⟨k+1,by go_num,gO,HS,f⟩
    case measure=>exact ms
   ·have c:=gP (show decide (xs=ys)=false from iU fun e=>he (by simp[e]))
    obtain⟨x,a⟩:∃x,xs[k]=x:=⟨_,rfl⟩;obtain⟨y,b⟩:∃y,ys[k]=y:=⟨_,rfl⟩;rw[a] at n o p r s t u;rw[b] at v z A B C D E;have J:decide (x=y)=false:=iU (by rw[←a,←b];exact he);clear a b he;go_upto_region 6 with fail;refine kg [.rd [0,1,2,3,4,5,6,7]] [8] ?_;refine vL ?_;intro N hN;go_wp2_with fail;refine gR (hN _ ?_);clear hN N;refine vF ?_;have f:=d.drew;go_wp2_with fail;go_ret;exact⟨by rw[c.out];rfl,f⟩
  ·have m:k=xs.length:=gO
   have c:=gP (show decide (xs=ys)=true from jT (kw l.out gO H.out));have M:¬(k:Int)<(xs.length:Int):=gO;clear m;go_wp2_with fail;go_ret;exact⟨by rw[c.out];rfl,d⟩
theorem yd {xs:List Int} {p:Int} {k:Nat} (hk:k<xs.length) (h:p ∉ xs.take k) (he:xs[k]=p):xs.idxOf p=k∧p∈xs:=by
 refine⟨?_,he▸List.getElem_mem hk⟩;have a:xs=xs.take k++xs.drop k:=(List.take_append_drop k xs).symm;rw[a,List.idxOf_append,if_neg h,List.drop_eq_getElem_cons hk,he,List.idxOf_cons_self,List.length_take];omega
theorem yj {xs:List Int} {p:Int} {k:Nat} (hk:k<xs.length) (h:p ∉ xs.take k) (he:¬xs[k]=p):p ∉ xs.take (k+1):=by
 rw[qp hk];intro a;rcases List.mem_append.1 a with a|a
 ·exact h a
 ·simp at a;exact he a.symm
def uf (xs:List Int) (p:Int):Int:=if p∈xs then (xs.idxOf p:Nat) else -1
theorem Co (n:gW) (vl vk vo vv vn:Value) (p:Int) (F:Nat→Prop) (w:World) (h:iA w F vl vk vo vv vn n):
  Calls Tryz.prog 22 #[.agg #[n.id,n.up,n.inc,n.g,vl,vk,vo,n.led,n.version,vv,vn,n.round,n.low],p] w fun q w' =>q= .returned (.int .i64 (uf (n.lanes.map (fun l=>l.proc)) p))∧Below w.heap.size w w':=by
 obtain⟨r,y,rfl,-⟩:=h.la.shape;obtain⟨s,z,rfl,-⟩:=h.ke.shape;obtain⟨t,A,rfl,-⟩:=h.ou.shape;obtain⟨u,B,rfl,-⟩:=h.vi.shape;obtain⟨v,C,rfl,-⟩:=h.kn.shape;obtain⟨W,hV,c,Z⟩:=n8 w (.cells #[n.id,n.up,n.inc,n.g,.slice r n.lanes.length y,.slice s n.kept.length z,.slice t n.outs.length A,n.led,n.version,.slice u n.views.length B,.slice v n.known.length C,n.round,n.low] 37);go_enter Tryz.func22,Tryz.ntmps22;go_upto_region 1 with fail;rw[hV.out];clear hV;replace h:=h.below c;have o:=gL Z;have G:=h.la;obtain⟨_,_,_,-,O,-⟩:=id G;go_wp2_with fail
 go_loopw [5] (fun i wr=>∃k:Nat,i= .int .i64 k∧k≤n.lanes.length∧Hid (p ∉ (n.lanes.map (fun l=>l.proc)).take k)∧Below W.heap.size W wr) (fun i _=>n.lanes.length-(intOf i).toNat)
 case atStart=>exact⟨0,rfl,jP _,gP sm,gY _ _⟩
 case round=>
  obtain⟨k,rfl,hk,f,d⟩:=hrel;have x:=gJ d o Z;obtain⟨S,T,U,V,X,Y,d6,d7,d8,d9,I,J,L⟩:=hJ x;by_cases hlt:k<n.lanes.length
  ·have H:(k:Int)<(n.lanes.length:Int):=gO
   obtain⟨Q,o0,P,R,j,M,y0,⟨y1,y2,y3⟩,y4,r1⟩:=kV (h.la.below d) k hlt;subst j;have b:k<(n.lanes.map (fun l=>l.proc)).length:=by simpa using hlt
   have a:(n.lanes.map (fun l=>l.proc))[k]=n.lanes[k].proc:=by simp
   by_cases he:n.lanes[k].proc=p
   ·have e:=gP (yd b f.out (by rw[a];exact he))
    have D:(n.lanes[k].proc==p)=true:=by simpa using he
    clear he a b;go_wp2_with fail;go_ret;exact⟨by rw[uf,if_pos e.out.2,e.out.1];rfl,gQ c d c.size⟩
   ·have HS:=gP (yj b f.out (by rw[a];exact he))
    have D:(n.lanes[k].proc==p)=false:=by simpa using he
    clear he a b;go_wp2_with fail;go_roundw
    case rel=>exact⟨k+1,by go_num,gO,HS,d⟩
    case measure=>exact ms
  ·have m:k=n.lanes.length:=gO
   have e:=gP (show p ∉ n.lanes.map (fun l=>l.proc) by have E:=f.out;rwa [List.take_of_length_le (by rw[List.length_map];omega)] at E);have H:¬(k:Int)<(n.lanes.length:Int):=gO;clear m;go_wp2_with fail;go_ret;exact⟨by rw[uf,if_neg e.out];rfl,gQ c d c.size⟩
theorem wt (v:Value) (xs:List Int) (p:Int) (F:Nat→Prop) (w:World) (h:Rd (ja .i64) w F v xs):
  Calls Tryz.prog 42 #[v,p] w fun q w' =>q= .returned (.int .i64 (uf xs p))∧Below w.heap.size w w':=by
 obtain⟨o,s,rfl,-,n,-⟩:=id h;go_enter Tryz.func42,Tryz.ntmps42;go_wp2_with fail
 go_loopw [8] (fun i wr=>∃k:Nat,i= .int .i64 k∧k≤xs.length∧Hid (p ∉ xs.take k)∧Below w.heap.size w wr) (fun i _=>xs.length-(intOf i).toNat)
 case atStart=>exact⟨0,rfl,jP _,gP sm,gY _ _⟩
 case round=>
  obtain⟨k,rfl,u,c,b⟩:=hrel;by_cases hlt:k<xs.length
  ·have l:(k:Int)<(xs.length:Int):=gO
   obtain⟨r,x,j,-,m,y⟩:=lm (h.below b) k hlt;subst j;by_cases he:xs[k]=p
   ·have a:=gP (yd hlt c.out he)
    have f:(p==xs[k])=true:=by simpa using he.symm
    have t:(xs[k]==p)=true:=by simpa using he
    clear he;go_wp2_with fail;go_ret;exact⟨by rw[uf,if_pos a.out.2,a.out.1];rfl,b⟩
   ·have HS:=gP (yj hlt c.out he)
    have f:(p==xs[k])=false:=by simpa using fun e:p=xs[k]=>he e.symm
    clear he;go_wp2_with fail;go_roundw
    case rel=>exact⟨k+1,by go_num,gO,HS,b⟩
    case measure=>exact ms
  ·have d:k=xs.length:=gO
   have a:=gP (show p ∉ xs by have g:=c.out;rwa [List.take_of_length_le gO] at g);have l:¬(k:Int)<(xs.length:Int):=gO;clear d;go_wp2_with fail;go_ret;exact⟨by rw[uf,if_neg a.out];rfl,b⟩
section
abbrev E5:=World→(Nat→Prop)→Prop
structure Gy (P:E5):Prop where
 keep:∀{w w' F},P w F→(∀k,F k→k<w.heap.size→w'.heap[k]? =w.heap[k]?)→P w' F
 mono:∀{w F F'},(∀k,F k→F' k)→P w F→P w F'
 bound:∀{w F},P w F→P w (fun k=>F k∧k<w.heap.size)
structure rY where
 says:E5
 good:Gy says
def ig {α:Type} (d:Ty α) (e:TypeId) (v:Value) (xs:List α):rY:=⟨fun w F=>Ow d e w F v xs,fun h hm=>h.keep hm,fun hF h=>h.mono hF,fun h=>h.bound⟩
def jL (g:Nat) (cs:Array Value) (t:TypeId):rY:=⟨fun w F=>F g∧w.heap[g]? =some (.cells cs t (0,0)),fun h hm=>⟨h.1,(hm g h.1 (gL h.2)).trans h.2⟩,fun hF h=>⟨hF g h.1,h.2⟩,fun h=>⟨⟨h.1,gL h.2⟩,h.2⟩⟩
def iL (w:World) (F:Nat→Prop) (ps:List rY):Prop:=∃col:Nat→Nat,∀(i:Nat) (p:rY),ps[i]? =some p→p.says w (fun k=>F k∧k<w.heap.size∧col k=i)
section
variable {w w':World} {F F':Nat→Prop} {ps:List rY}
theorem iL.nil (w:World) (F:Nat→Prop):iL w F []:=⟨fun _=>0,fun i p h=>by simp at h⟩
theorem iL.mono (hF:∀k,F k→F' k) (h:iL w F ps):iL w F' ps:=by
 obtain⟨a,h⟩:=h;exact⟨a,fun i p c=>p.good.mono (fun k b=>⟨hF k b.1,b.2⟩) (h i p c)⟩
theorem iL.get (h:iL w F ps) (i:Nat) {p:rY} (hp:ps[i]? =some p):p.says w F:=by
 obtain⟨b,h⟩:=h;exact p.good.mono (fun k a=>a.1) (h i p hp)
theorem iL.keep (h:iL w F ps) (hs:w.heap.size≤w'.heap.size) (hm:∀k,F k→k<w.heap.size→w'.heap[k]? =w.heap[k]?):iL w' F ps:=by
 obtain⟨b,h⟩:=h;exact⟨b,fun i p d=>p.good.mono (fun k a=>⟨a.1,nk a.2.1 hs,a.2.2⟩) (p.good.keep (h i p d) (fun k a c=>hm k a.1 c))⟩
theorem iL.below (h:iL w F ps) (hb:Below w.heap.size w w'):iL w' F ps:=h.keep hb.size fun k _ hk=>hb.block k hk
theorem iL.ch {S:Nat→Prop} (h:iL w F ps) (hc:Ch S w w') (hS:∀k,F k→¬S k):iL w' F ps:=h.keep hc.size fun k hk hlt=>hc.block k hlt (hS k hk)
theorem iL.add {p:rY} (h:iL w F ps) (hb:Below w.heap.size w w') (hp:p.says w' (fun k=>w.heap.size≤k)) (hF:∀k,F k→F' k) (hn:∀k,w.heap.size≤k→F' k):iL w' F' (ps++[p]):=by
 obtain⟨b,h⟩:=h;refine⟨fun k=>if k<w.heap.size then b k else ps.length,fun i q hq=>?_⟩;by_cases hi:i<ps.length
 ·rw[List.getElem?_append_left hi] at hq
  refine q.good.mono (fun k a=>?_) (q.good.keep (h i q hq) fun k _ a=>hb.block k a);exact⟨hF k a.1,nk a.2.1 hb.size,(if_pos a.2.1).trans a.2.2⟩
 ·rw[List.getElem?_append_right gO] at hq
  have c:i-ps.length=0:=by
   have:=(List.getElem?_eq_some_iff.1 hq).1;simpa using this
  rw[c] at hq;simp only[List.getElem?_cons_zero,Option.some.injEq] at hq;subst hq;refine p.good.mono (fun k a=>?_) (p.good.bound hp);exact⟨hn k a.1,a.2,(if_neg (Nat.not_lt.2 a.1)).trans gO⟩
theorem iL.step (h:iL w F ps) (i:Nat) {p:rY} (hp:ps[i]? =some p):
  ∃Fi:Nat→Prop,p.says w Fi∧(∀k,Fi k→F k∧k<w.heap.size)∧
   (∀(j:Nat) (q:rY),j≠i→ps[j]? =some q→∃Fj:Nat→Prop,q.says w Fj∧(∀k,Fj k→F k∧k<w.heap.size∧¬Fi k))∧
   ∀(w':World) (p':rY) (F':Nat→Prop),Ch Fi w w'→p'.says w' (fun k=>Fi k∨w.heap.size≤k)→(∀k,F k→F' k)→(∀k,w.heap.size≤k→F' k)→iL w' F' (ps.set i p'):=by
 obtain⟨d,h⟩:=h;refine⟨_,h i p hp,fun k a=>⟨a.1,a.2.1⟩,fun j q b hq=>⟨_,h j q hq,fun k a=>⟨a.1,a.2.1,fun c=>b (a.2.2.symm.trans c.2.2)⟩⟩,fun w' p' F' e l hF m=>⟨fun k=>if k<w.heap.size then d k else i,fun j q hq=>?_⟩⟩;by_cases b:i=j
 ·subst b
  rw[List.getElem?_set_self (List.getElem?_eq_some_iff.1 hp).1] at hq;cases hq;refine p'.good.mono (fun k a=>?_) (p'.good.bound l);rcases a with ⟨a|a,f⟩
  ·exact⟨hF k a.1,f,(if_pos a.2.1).trans a.2.2⟩
  ·exact⟨m k a,f,if_neg (Nat.not_lt.2 a)⟩
 ·rw[List.getElem?_set_ne b] at hq
  refine q.good.mono (fun k a=>?_) (q.good.keep (h j q hq) fun k a g=>e.block k g (fun c=>b (c.2.2.symm.trans a.2.2)));exact⟨hF k a.1,nk a.2.1 e.size,(if_pos a.2.1).trans a.2.2⟩
theorem iL.of (Fs:Nat→Nat→Prop) (hF:∀i k,Fs i k→F k) (hd:∀i j k,i<ps.length→j<ps.length→i≠j→Fs i k→Fs j k→False) (h:∀(i:Nat) (p:rY),ps[i]? =some p→p.says w (Fs i)):iL w F ps:=by
 classical
 refine⟨fun k=>if a:∃i,i<ps.length∧Fs i k then Classical.choose a else ps.length,fun i p e=>?_⟩;refine p.good.mono (fun k a=>⟨hF i k a.1,a.2,?_⟩) (p.good.bound (h i p e));have c:=(List.getElem?_eq_some_iff.1 e).1;have f:∃i,i<ps.length∧Fs i k:=⟨i,c,a.1⟩;refine(dif_pos f).trans ?_;have b:=Classical.choose_spec f;exact Classical.byContradiction fun d=>hd _ _ k b.1 c d b.2 a.1
theorem iL.turn (h:iL w F ps) (i:Nat) {p:rY} (hp:ps[i]? =some p) (p':rY) (hi:∀F,p.says w F→p'.says w F):iL w F (ps.set i p'):=by
 obtain⟨a,h⟩:=h;refine⟨a,fun j q hq=>?_⟩;by_cases hj:i=j
 ·subst hj
  rw[List.getElem?_set_self (List.getElem?_eq_some_iff.1 hp).1] at hq;cases hq;exact hi _ (h i p hp)
 ·rw[List.getElem?_set_ne hj] at hq
  exact h j q hq
theorem iL.pick (h:iL w F ps) (js:List Nat) (hn:js.Nodup) (qs:List rY) (hq:∀(i:Nat) (p:rY),qs[i]? =some p→∃j,js[i]? =some j∧ps[j]? =some p):iL w F qs:=by
 obtain⟨a,h⟩:=h;refine⟨fun k=>js.idxOf (a k),fun i p f=>?_⟩;obtain⟨j,e,c⟩:=hq i p f;obtain⟨d,rfl⟩:=List.getElem?_eq_some_iff.1 e;exact p.good.mono (fun k b=>⟨b.1,b.2.1,by show js.idxOf (a k)=i;rw[b.2.2];exact hn.idxOf_getElem i d⟩) (h _ p c)
theorem iL.store {g:Nat} {cs:Array Value} {t:TypeId} (h:iL w F (jL g cs t::ps)) (hn:∀k,w.heap.size≤k→F k) (i:Nat) (u:Value):iL (w.setCell ⟨g,i,none⟩ u) F (jL g (cs.setIfInBounds i u) t::ps):=by
 obtain⟨d,b,-,-,c⟩:=h.step 0 rfl;exact c _ (jL g (cs.setIfInBounds i u) t) F (Ch.setCell (p:=⟨g,i,none⟩) (Ch.refl _ _) (Or.inl b.1) u) ⟨.inl b.1,gN b.2 i u⟩ (fun _ h=>h) hn
theorem iL.cons {p:rY} (h:iL w F ps) (hb:Below w.heap.size w w') (hp:p.says w' (fun k=>w.heap.size≤k)) (hF:∀k,F k→F' k) (hn:∀k,w.heap.size≤k→F' k):iL w' F' (p::ps):=
 (h.add hb hp hF hn).pick (ps.length::List.range ps.length) (by simp[List.nodup_range]) _ fun i q hq=>by
  cases i with
  |zero=>exact⟨ps.length,rfl,by simpa using hq⟩
  |succ i=>
   have hl:i<ps.length:=(List.getElem?_eq_some_iff.1 (by simpa using hq)).1;exact⟨i,by simp[hl],by rw[List.getElem?_append_left hl];simpa using hq⟩
def EM:rY:=⟨fun _ _=>True,fun _ _=>trivial,fun _ _=>trivial,fun _=>trivial⟩
theorem iL.join {qs:List rY} (h:iL w F ps) (hb:Below w.heap.size w w') (hq:iL w' (fun k=>w.heap.size≤k) qs) (hF:∀k,F k→F' k) (hn:∀k,w.heap.size≤k→F' k):iL w' F' (ps++qs):=by
 obtain⟨d,h⟩:=h;obtain⟨c,hq⟩:=hq;refine⟨fun k=>if k<w.heap.size then d k else ps.length+c k,fun i q b=>?_⟩;by_cases hl:i<ps.length
 ·rw[List.getElem?_append_left hl] at b
  refine q.good.mono (fun k a=>?_) (q.good.keep (h i q b) fun k _ a=>hb.block k a);exact⟨hF k a.1,nk a.2.1 hb.size,(if_pos a.2.1).trans a.2.2⟩
 ·rw[List.getElem?_append_right gO] at b
  refine q.good.mono (fun k a=>?_) (hq _ q b);exact⟨hn k a.1,a.2.1,(if_neg (Nat.not_lt.2 a.1)).trans (by rw[a.2.2];omega)⟩
theorem iL.merge (h:iL w F ps) (i j:Nat) (hij:i≠j) {p q:rY} (hp:ps[i]? =some p) (hq:ps[j]? =some q):
  ∃Fi Fj:Nat→Prop,p.says w Fi∧q.says w Fj∧(∀k,Fi k→F k∧k<w.heap.size)∧(∀k,Fj k→F k∧k<w.heap.size∧¬Fi k)∧
   ∀(w':World) (p':rY) (F':Nat→Prop),Ch (fun k=>Fi k∨Fj k) w w'→p'.says w' (fun k=>(Fi k∨Fj k)∨w.heap.size≤k)→(∀k,F k→F' k)→(∀k,w.heap.size≤k→F' k)→iL w' F' ((ps.set i p').set j EM):=by
 obtain⟨d,h⟩:=h;refine⟨_,_,h i p hp,h j q hq,fun k a=>⟨a.1,a.2.1⟩,fun k a=>⟨a.1,a.2.1,fun b=>hij (b.2.2.symm.trans a.2.2)⟩,fun w' p' F' f n hF o=>⟨fun k=>if k<w.heap.size then (if d k=j then i else d k) else i,fun l r c=>?_⟩⟩;have g:j<(ps.set i p').length:=by rw[List.length_set];exact(List.getElem?_eq_some_iff.1 hq).1
 by_cases hlj:l=j
 ·subst hlj
  rw[List.getElem?_set_self g] at c;cases c;trivial
 ·rw[List.getElem?_set_ne (Ne.symm hlj)] at c
  by_cases hli:l=i
  ·subst hli
   rw[List.getElem?_set_self (List.getElem?_eq_some_iff.1 hp).1] at c;cases c;refine p'.good.mono (fun k a=>?_) (p'.good.bound n);rcases a with ⟨(a|a)|a,e⟩
   ·exact⟨hF k a.1,e,(if_pos a.2.1).trans ((if_neg (by rw[a.2.2];exact hij)).trans a.2.2)⟩
   ·exact⟨hF k a.1,e,(if_pos a.2.1).trans (if_pos a.2.2)⟩
   ·exact⟨o k a,e,if_neg (Nat.not_lt.2 a)⟩
  ·rw[List.getElem?_set_ne (Ne.symm hli)] at c
   refine r.good.mono (fun k a=>?_) (r.good.keep (h l r c) fun k a m=>f.block k m (fun b=>b.elim (fun b=>hli (a.2.2.symm.trans b.2.2)) (fun b=>hlj (a.2.2.symm.trans b.2.2))));exact⟨hF k a.1,nk a.2.1 f.size,(if_pos a.2.1).trans ((if_neg (by rw[a.2.2];exact hlj)).trans a.2.2)⟩
theorem iL.part {p:rY} (h:iL w F (p::ps)):∃Fp G:Nat→Prop,p.says w Fp∧iL w G ps∧(∀k,Fp k→F k∧k<w.heap.size)∧(∀k,G k→F k∧k<w.heap.size∧¬Fp k)∧
  ∀(w':World) (qs:List rY) (F':Nat→Prop),Ch G w w'→iL w' (fun k=>G k∨w.heap.size≤k) qs→(∀k,F k→F' k)→(∀k,w.heap.size≤k→F' k)→iL w' F' (p::qs):=by
 obtain⟨c,h⟩:=h;refine⟨_,fun k=>F k∧k<w.heap.size∧c k≠0,h 0 p rfl,⟨fun k=>c k-1,fun i q hq=>q.good.mono (fun k a=>⟨⟨a.1,a.2.1,by have:=a.2.2;omega⟩,a.2.1,by show c k-1=i;have:=a.2.2;omega⟩) (h (i+1) q (by simpa using hq))⟩,fun k a=>⟨a.1,a.2.1⟩,fun k a=>⟨a.1,a.2.1,fun e=>a.2.2 e.2.2⟩,fun w' qs F' d hq hF l=>?_⟩;obtain⟨g,hq⟩:=hq;refine⟨fun k=>if k<w.heap.size∧c k=0 then 0 else g k+1,fun i q f=>?_⟩;cases i with
 |zero=>
  have:p=q:=by simpa using f
  subst this;refine p.good.mono (fun k a=>?_) (p.good.keep (h 0 p rfl) fun k a j=>d.block k j (fun b=>b.2.2 a.2.2));exact⟨hF k a.1,nk a.2.1 d.size,if_pos a.2⟩
 |succ i=>
  refine q.good.mono (fun k a=>?_) (hq i q (by simpa using f));rcases a.1 with b|b
  ·exact⟨hF k b.1,a.2.1,(if_neg (fun e=>b.2.2 e.2)).trans (by rw[a.2.2])⟩
  ·exact⟨l k b,a.2.1,(if_neg (fun e=>Nat.not_lt.2 b e.1)).trans (by rw[a.2.2])⟩
end
end
end Go.Proofs.YtgilllnjhahkfaaGreat
