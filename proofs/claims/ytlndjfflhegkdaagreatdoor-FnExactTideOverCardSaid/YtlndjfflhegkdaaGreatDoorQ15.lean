/- Parts of the proof: Store, Reg2, Rec, Spc7. -/
import Derived.Test.YtlndjfflhegkdaaGreatDoorQ06
import Derived.Test.YtlndjfflhegkdaaGreatDoorQ07
import Derived.Test.YtlndjfflhegkdaaGreatDoorQ14
set_option linter.unusedVariables false
set_option linter.unusedSimpArgs false
set_option linter.unusedSectionVars false
set_option maxHeartbeats 4000000
namespace Go.Proofs.YtlndjfflhegkdaaGreatDoor
open Go.RowKit
section
def xy (l:List Value):Nat→List Value→List Value
 |_,[]=>l
 |o,v::r=>xy (l.set o v) (o+1) r
theorem tG:∀(vs l:List Value) (o:Nat),(xy l o vs).length=l.length
 | [],_,_=>rfl
 |v::r,l,o=>by rw[xy,tG r];simp
theorem xz:∀(vs b a c:List Value),b.length=vs.length→xy (a++b++c) a.length vs=a++vs++c
 | [],b,a,c,h=>by
  have:b=[]:=by simpa using h
  subst this;rfl
 |v::r,[],a,c,h=>by simp at h
 |v::r,u::b,a,c,h=>by
  have:=xz r b (a++[v]) c (by simpa using h);rw[xy,show(a++u::b++c).set a.length v=(a++[v])++b++c by simp[List.set_append],←(by simp:(a++[v]).length=a.length+1),this];simp
theorem uK:∀(vs l:List Value) (o n:Nat),(xy l o vs).take n=xy (l.take n) o vs
 | [],_,_,_=>rfl
 |v::r,l,o,n=>by rw[xy,xy,uK r,List.take_set]
theorem rA {g:Nat} {t:TypeId} {fr:Nat×Nat}:∀(vs:List Value) (o:Nat) (w:World) (cur:List Value),w.heap[g]? =some (.cells cur.toArray t fr)→(w.setCells g o vs).heap[g]? =some (.cells (xy cur o vs).toArray t fr)
 | [],_,_,_,h=>h
 |v::r,o,w,cur,h=>by
  rw[World.setCells,xy];exact rA r (o+1) _ _ (by rw[gJ h];simp)
theorem Ch.setCells {S:Nat→Prop} {w:World} {g:Nat}:∀(vs:List Value) (o:Nat) (w1:World),Ch S w w1→(S g∨w.heap.size≤g)→Ch S w (w1.setCells g o vs)
 | [],_,_,h,_=>h
 |v::r,o,w1,h,hg=>Ch.setCells r (o+1) _ (h.setCell (p:=⟨g,o,none⟩) hg v) hg
theorem oh {g:Nat}:∀(vs:List Value) (o:Nat) (w:World),(w.setCells g o vs).heap.size=w.heap.size
 | [],_,_=>rfl
 |v::r,o,w=>by rw[World.setCells,oh r];simp
theorem Ce {α:Type} {cells:α→List Value} {sz:Nat} (hl:∀x,(cells x).length=sz) (xs:List α) (j:Nat) (hj:j<xs.length) (x:α):xy (xs.flatMap cells) (j*sz) (cells x)=(xs.set j x).flatMap cells:=by
 have a:xs=xs.take j++xs[j]::xs.drop (j+1):=by simp
 have b:((xs.take j).flatMap cells).length=j*sz:=by rw[mD hl,List.length_take,Nat.min_eq_left fT]
 have c:xs.set j x=xs.take j++x::xs.drop (j+1):=by rw[List.set_eq_take_append_cons_drop,if_pos hj]
 rw[c]
 conv=>lhs;rw[a]
 simp only[List.flatMap_append,List.flatMap_cons,←b,←List.append_assoc];exact xz (cells x) (cells xs[j]) _ _ (by rw[hl,hl])
theorem Ow.setAt {α:Type} {cells:α→List Value} {sz:Nat} {hl:∀x,(cells x).length=sz} {ho:∀x,∀u∈cells x,u.oneCell' =true} {e:TypeId} {w:World} {F:Nat→Prop} {v:Value} {xs:List α}
  (h:Ow (kx cells sz hl ho) e w F v xs) {g:Nat} (hv:v.ownBlock=some g) (j:Nat) (hj:j<xs.length) (x:α):
  w.there g (j*sz) sz∧Ow (kx cells sz hl ho) e (w.setCells g (j*sz) (cells x)) F v (xs.set j x)∧Ch (fun k=>k=g) w (w.setCells g (j*sz) (cells x)):=by
 have s:=h.flatRow;have hF:∀k,v.ownBlock=some k→F k:=fun k r=>h.inF r;obtain⟨t,f⟩:=s;rcases f with ⟨rfl,f⟩|⟨q,d,a,rfl,y,c,l,m,b,n⟩
 ·simp[Value.ownBlock] at hv
 ·simp only[Value.ownBlock,Option.some.injEq] at hv
  subst hv;have o:(j+1)*sz≤a.size:=by rw[b];exact Nat.mul_le_mul_right _ fT
  rw[Nat.add_mul,Nat.one_mul] at o;refine⟨fun i z=>?_,?_,Ch.setCells _ _ _ (Ch.refl _ _) (.inl rfl)⟩
  ·have p:j*sz+i<a.size:=fT
   exact⟨by simp[World.cell?,c,p],by simp[World.frozen?,c]⟩
  ·refine Ow.of_flat (base:=0) ⟨?_,.inr ⟨q,d,(xy a.toList (j*sz) (cells x)).toArray,?_,j8 _,?_,?_,m,?_,?_⟩⟩ hF
   ·rw[mD hl]
   ·rw[List.length_set]
   ·exact rA _ _ _ _ c
   ·simpa using l
   ·simp[tG,b]
   ·rw[List.length_set,uK,n]
    exact Ce hl xs j hj x
variable {P:Program} {ops:Array Oper} {rest:List Oper} {o:Oper} {a:Act} {W:World} {Q:Exit→Act→World→Prop} {K:Act→World→Prop}
theorem lE {α:Type} {cells:α→List Value} {sz:Nat} {hl:∀x,(cells x).length=sz} {ho1:∀x,∀u∈cells x,u.oneCell' =true} {e:TypeId} {F:Nat→Prop} {v:Value} {xs:List α} (hgd:o.guard=none) (ty:TypeId) (x y:Operand) (ho:o.op= .store ty x y)
  (HO:Ow (kx cells sz hl ho1) e W F v xs) {g:Nat} (hv:v.ownBlock=some g) (j:Nat) (hj:j<xs.length) (z:α) (hx:a.eval x= .pointer (some ⟨g,j*sz,none⟩)) (hy:a.eval y= .agg (cells z).toArray)
  (hi:(P.info? ty).map (·.size)=some sz)
  (h:∀w1,Ow (kx cells sz hl ho1) e w1 F v (xs.set j z)→Ch (fun k=>k=g) W w1→wpList P ops Q rest (a.put o.dst undef) w1):wpList P ops Q (o::rest) a W:=by
 obtain⟨b,c,d⟩:=HO.setAt hv j hj z;refine wpList_store_mid hgd ty x y ho g (j*sz) (cells z).toArray hx hy (by simpa [hl] using b) (by simpa [hl] using hi) (all_oneCell_toArray (ho1 z)) ?_;exact h _ c d
end
section
inductive Pl where
 |nil
 |take (i:Nat) (p:Pl)
 |one (i:Nat) (p:Pl)
 |two (i:Nat) (p:Pl) (j:Nat) (q:Pl)
section
variable {P:Program} {ops:Array Oper} {Q:Exit→Act→World→Prop} {S:World→Prop}
def xP (P:Program) (ops:Array Oper) (Q:Exit→Act→World→Prop) (S:World→Prop):Pl→Act→World→Prop
 | .nil,a,w=>Q .normal a w
 | .take i r,a,w=>∃o v,ops[i]? =some o∧YieldsIf P ops S o v a∧S w∧xP P ops Q S r (a.put o.dst v) w
 | .one i r,a,w=>wpOp P ops Q i (fun a' w' =>(mj ops i=true∨S w')∧xP P ops Q S r a' w') a w
 | .two i p j q,a,w=>wpOp P ops Q i (fun a' w' =>(mj ops i=true∨S w')∧xP P ops Q S p a' w') a w∧wpOp P ops Q j (fun a' w' =>(mj ops j=true∨S w')∧xP P ops Q S q a' w') a w
def xO (ops:Array Oper):Nat→Pl→Array Bool→Bool
 |0,.nil,l=>(Region.ready .any ops l).isEmpty
 |n+1,.take i r,l=>Region.free .any ops l i&&(Region.ready .any ops l).contains i&&xO ops n r (l.setIfInBounds i true)
 |n+1,.one i r,l=>(Region.ready .any ops l==[i])&&xO ops n r (l.setIfInBounds i true)
 |n+1,.two i p j q,l=>(Region.ready .any ops l==[i,j])&&xO ops n p (l.setIfInBounds i true)&&xO ops n q (l.setIfInBounds j true)
 |_,_,_=>false
end
def xv (Q:Exit→Act→World→Prop):Exit→Act→World→Prop
 | .panic _,_,_=>False
 |e,a,w=>Q e a w
theorem zv {Q:Exit→Act→World→Prop}:∀e a w,xv Q e a w→Q e a w
 | .panic _,_,_,h=>h.elim
 | .normal,_,_,h=>h
 | .ret,_,_,h=>h
 | .outgrown,_,_,h=>h
 | .goto _,_,_,h=>h
 | .exit _,_,_,h=>h
theorem uQ {P:Program} {Q:Exit→Act→World→Prop} {id:Nat} {a:Act} {w:World} {l:List Oper} (S:World→Prop) (plan:List (Nat×Bool)) (hm:P.follows .mixedOrders=true)
  (hk:(Region.noSelect l.toArray&&plan.length==l.toArray.size&&pZ l.toArray plan (Array.replicate l.toArray.size false))=true)
  (h:iG P l.toArray (xv Q) S plan a w.drew):(Code.region id l.toArray true).wp P Q a w:=
 wp_mono (gV S plan hm hk (fun _ _ _ _ _ h=>h) h) zv
end
set_option maxRecDepth 100000
def CY (a:iy) (s:ll) (e:hY) (w:World) (q:Ending) (w':World):Prop:=
 (((je a&&jE s&&i7 e)=true∧q= .returned (.tuple #[]))∨((je a&&jE s&&i7 e)=false∧∃k:Int,q= .panicked [{v:= .iface 252 (.agg #[.int .i64 k]),recovered:=false}]))∧Below w.heap.size w w'
theorem zg (v:Value) (a:iy) (s:ll) (e:hY) (F:Nat→Prop) (w:World) (h:Rd kT w F v a.rules):
  Calls Tryz.prog 128 #[.agg #[v],.agg #[s.x,s.y,s.c],.agg #[e.time,e.to,e.from_,e.count,e.n,e.kind,e.arg]] w (CY a s e w):=by
 obtain⟨A,J,rfl,-⟩:=id h;go_enter Tryz.func128,Tryz.ntmps128;go_wp2_with fail;refine(xe _ a _ _ (h.below (by repeat (first|exact gM _ _|refine gs ?_ _)))).mono ?_;rintro q j ⟨rfl,b⟩;have k:j.heap[w.heap.size+1]? =some (.cells #[s.x,s.y,s.c] 127):=(b.block (w.heap.size+1) sm).trans ((gP sm).trans (gL sm));have g:j.heap[w.heap.size+1+1]? =some (.cells #[e.time,e.to,e.from_,e.count,e.n,e.kind,e.arg] 91):=(b.block (w.heap.size+1+1) sm).trans (gL sm);have i:Below w.heap.size w j:=gK (by repeat (first|exact gM _ _|refine gs ?_ _)) b;clear b h;apply_assumption;obtain⟨p,r,t,u⟩:=tV k;cases q1:je a with
 |false=>
  go_wp2_with fail;exact⟨rfl,Or.inr ⟨by simp[q1],1,rfl⟩,i⟩
 |true=>
  go_wp2_with fail;refine(nf s.x s.y s.c _).mono ?_;rintro q L ⟨rfl,d⟩;have l:=(d.block (w.heap.size+1+1) (fx g)).trans g;have m:=gK i d;clear k g i p r t u d;apply_assumption;obtain⟨⟨z,B,C,D,E,G,H⟩,I⟩:=nk l;rw[show jE ⟨s.x,s.y,s.c⟩=jE s from rfl];cases q2:jE s with
  |false=>
   go_wp2_with fail;exact⟨rfl,Or.inr ⟨by simp[q1,q2],2,rfl⟩,m⟩
  |true=>
   go_wp2_with fail;refine(oB e.time e.to e.from_ e.count e.n e.kind e.arg _).mono ?_;rintro q M ⟨rfl,f⟩;have o:=gK m f;clear f l z B C D E G H I;apply_assumption;rw[show i7 ⟨e.time,e.to,e.from_,e.count,e.n,e.kind,e.arg⟩=i7 e from rfl];cases q3:i7 e with
   |false=>
    go_wp2_with fail;exact⟨rfl,Or.inr ⟨by simp[q1,q2,q3],3,rfl⟩,o⟩
   |true=>
    go_wp2_with fail
    go_end0
    exact⟨Or.inl ⟨by simp[q1,q2,q3],rfl⟩,o⟩
def sc (w:World) (p q r:Nat):World:=((((w.setCell ⟨p,0,none⟩ (.int .i64 0)).setCell ⟨p,1,none⟩ (.int .i64 0)).setCell ⟨p,2,none⟩ (.int .i64 0)).setCell ⟨q,0,none⟩ (.slice none 0 0)).setCell ⟨r,0,none⟩ (.slice none 0 0)
theorem tt (p q r:Nat) (x y z v1 v2:Value) (u:TypeId) (pv:Value) (older:List PanicEntry) (w:World) (hp:w.heap[p]? =some (.cells #[x,y,z] 127)) (hq:w.heap[q]? =some (.cells #[v1] 49)) (hr:w.heap[r]? =some (.cells #[v2] 37))
  (hpq:p≠q) (hpr:p≠r) (hqr:q≠r):
  CallsD Tryz.prog 127 #[.pointer (some ⟨p,0,none⟩),.pointer (some ⟨q,0,none⟩),.pointer (some ⟨r,0,none⟩)] (.panicking ({v:= .iface u pv,recovered:=false}::older)) w fun e u' w' =>
   e= .returned (.tuple #[])∧u' = .panicking ({v:= .iface u pv,recovered:=true}::older)∧w' =sc w p q r:=by
 refine callsD_of_wpS Tryz.func127 rfl fun c₀ f a=>?_;apply wpS_seq;apply wpS_region;simp[wpOpsS,go_sem,recoverD,a,Tryz.ntmps127,Exit.thenS];refine wpS_cond (t:=true) (by simp[Act.eval,Array.replicate]) ?_;simp only[if_true];refine wpS_of_wp ?_;obtain⟨n,o,s,A⟩:=tV hp;have b:=fw hq 0;have B:=ft hq 0;have d:=fw hr 0;have C:=ft hr 0;simp at b d;have g:¬p=q:=hpq;have i:¬q=p:=fun h=>hpq h.symm;have j:¬p=r:=hpr;have k:¬r=p:=fun h=>hpr h.symm;have l:¬q=r:=hqr;have m:¬r=q:=fun h=>hqr h.symm;go_wp2_with fail;simp[bodyPostS,results,Tryz.results127,sc]
theorem tU (p q r:Value) (w:World):
  CallsD Tryz.prog 127 #[p,q,r] .returning w fun e u' w' =>e= .returned (.tuple #[])∧u' = .returning∧w' =w:=by
 refine callsD_of_wpS Tryz.func127 rfl fun c₀ b a=>?_;apply wpS_seq;apply wpS_region;simp[wpOpsS,go_sem,recoverD,a,Tryz.ntmps127,Exit.thenS];refine wpS_cond (t:=false) (by simp[Act.eval,Array.replicate]) ?_;simp only[Bool.false_eq_true,if_false];refine wpS_of_wp (wp_skip ?_);cases c₀
 simp_all [bodyPostS,results,Tryz.results127]
def E7 (s:kq):List (Nat×xb):=[(0,sK nB 127 []),(4,sK iw 91 []),(8,sK hJ 101 []),(3,sK nB 127 s.states),(7,sK iw 91 s.queue),(11,sK hJ 101 s.outs)]
theorem uu (vs vq vo:Value) (s:kq) (F:Nat→Prop) (w:World) (h:my w F vs vq vo s) (l1:s.states.length≤1000) (l2:s.queue.length≤1000) (l3:s.outs.length≤1000):
  Calls Tryz.prog 72 #[.agg #[vs,vq,vo]] w fun q w' =>∃us uq uo,q= .returned (.agg #[us,uq,uo])∧lr w' (fun k=>w.heap.size≤k) us uq uo s∧Below w.heap.size w w':=by
 obtain⟨z,t,rfl,m1⟩:=h.st.shape;obtain⟨A,x,rfl,m2⟩:=h.qu.shape;obtain⟨B,E,rfl,m3⟩:=h.ou.shape;go_enter Tryz.func72,Tryz.ntmps72;go_wp2_with fail;have y:=gs (gs (gM w.heap.size w) (.cells #[.slice z s.states.length t,.slice A s.queue.length x,.slice B s.outs.length E] 51)) (.cells #[.slice none 0 0,.slice none 0 0,.slice none 0 0] 51);have M:((w.alloc (.cells #[.slice z s.states.length t,.slice A s.queue.length x,.slice B s.outs.length E] 51)).alloc (.cells #[.slice none 0 0,.slice none 0 0,.slice none 0 0] 51)).heap[w.heap.size]? =some (.cells #[.slice z s.states.length t,.slice A s.queue.length x,.slice B s.outs.length E] 51):=(gP sm).trans (gL rfl);have O:((w.alloc (.cells #[.slice z s.states.length t,.slice A s.queue.length x,.slice B s.outs.length E] 51)).alloc (.cells #[.slice none 0 0,.slice none 0 0,.slice none 0 0] 51)).heap[w.heap.size+1]? =some (.cells #[.slice none 0 0,.slice none 0 0,.slice none 0 0] 51):=gL sm;generalize (w.alloc (.cells #[.slice z s.states.length t,.slice A s.queue.length x,.slice B s.outs.length E] 51)).alloc (.cells #[.slice none 0 0,.slice none 0 0,.slice none 0 0] 51)=W at*;obtain⟨d0,d1,d2⟩:=lm M;have g0:=fx M;have g1:=fx O;have J:=fS (h.below y);refine mI (fun w' =>Below W.heap.size W w') (.take 1 (.take 2 (.take 5 (.take 6 (.take 9 (.take 10 (.par [(0,[]),(4,[]),(8,[]),(3,[0]),(7,[4]),(11,[8])] [] (.take 12 (.one 13 (.nil)))))))))) gY gY qP ?_;have HS:=(gM W.heap.size W).drew
 iterate 6 refine DS ?_
 refine Eg [(0,some 3),(4,some 7),(8,some 11),(3,some 6),(7,some 10),(11,some 14)] (by rfl) (fun _=>False) (NN (E7 s)) (fun _ _=>False) (tz _ ⟨ki _ _ _,ki _ _ _,ki _ _ _,ki _ _ _,ki _ _ _,ki _ _ _,trivial⟩) (fun w' hc=>gK HS hc.below0) sm sm sm (g6 (kN (by rfl) (by rfl) ?_) (g6 (kN (by rfl) (by rfl) ?_) (g6 (kN (by rfl) (by rfl) ?_) (g6 (kN (by rfl) (by rfl) ?_) (g6 (kN (by rfl) (by rfl) ?_) (g6 (kN (by rfl) (by rfl) ?_) nw)))))) ?_
 ·intro u b c e hN hF d K hK
  clear hN hF d;simp only[jf,kE];go_simp;refine hK _ (.slice (some ⟨b.heap.size,0,none⟩) 0 0) _ (fun k=>k=b.heap.size) ?_ ((Ch.refl _ _).alloc _) (Ow.empty nB (gL rfl) rfl) (fun k a=>by subst a;exact⟨.inr (jn _),by simp⟩);rfl
 ·intro u b c e hN hF d K hK
  clear hN hF d;simp only[jf,kE];go_simp;refine hK _ (.slice (some ⟨b.heap.size,0,none⟩) 0 0) _ (fun k=>k=b.heap.size) ?_ ((Ch.refl _ _).alloc _) (Ow.empty iw (gL rfl) rfl) (fun k a=>by subst a;exact⟨.inr (jn _),by simp⟩);rfl
 ·intro u b c e hN hF d K hK
  clear hN hF d;simp only[jf,kE];go_simp;refine hK _ (.slice (some ⟨b.heap.size,0,none⟩) 0 0) _ (fun k=>k=b.heap.size) ?_ ((Ch.refl _ _).alloc _) (Ow.empty hJ (gL rfl) rfl) (fun k a=>by subst a;exact⟨.inr (jn _),by simp⟩);rfl
 ·intro u b c e hN hF d K hK
  have j:Ow nB 127 b (c 0) (u 0) []:=hN 0 sm;have p:Rd nB b F _ s.states:=((J.out.st).move (w':=W.drew) (fun _ _=>rfl)).ch e (fun _ _ I=>I);clear hN hF d;refine l8 48 (by rfl) Tryz.underlying48 _ 24 tD rfl dc dc (by rfl) j (by rfl) p (by simp only[List.length_nil];omega) (fun k=>c 0 k∨b.heap.size≤k) (fun _ a=> .inl a) (fun _ a=> .inr a) ?_;intro r i o m f;obtain⟨G,H,l⟩:=mg j o m f;exact hK _ r i (fun k=>r.ownBlock=some k) rfl (G.mono fun k a=>⟨0,by simp,a⟩) H (fun k a=>⟨(l k a).1.imp_left fun h=>⟨0,by simp,h⟩,(l k a).2⟩)
 ·intro u b c e hN hF d K hK
  have j:Ow iw 91 b (c 4) (u 4) []:=hN 4 sm;have p:Rd iw b F _ s.queue:=((J.out.qu).move (w':=W.drew) (fun _ _=>rfl)).ch e (fun _ _ I=>I);clear hN hF d;refine l8 49 (by rfl) Tryz.underlying49 _ 56 jA rfl dc dc (by rfl) j (by rfl) p (by simp only[List.length_nil];omega) (fun k=>c 4 k∨b.heap.size≤k) (fun _ a=> .inl a) (fun _ a=> .inr a) ?_;intro r i o m f;obtain⟨G,H,l⟩:=mg j o m f;exact hK _ r i (fun k=>r.ownBlock=some k) rfl (G.mono fun k a=>⟨4,by simp,a⟩) H (fun k a=>⟨(l k a).1.imp_left fun h=>⟨4,by simp,h⟩,(l k a).2⟩)
 ·intro u b c e hN hF d K hK
  have j:Ow hJ 101 b (c 8) (u 8) []:=hN 8 sm;have p:Rd hJ b F _ s.outs:=((J.out.ou).move (w':=W.drew) (fun _ _=>rfl)).ch e (fun _ _ I=>I);clear hN hF d;refine l8 37 (by rfl) Tryz.underlying37 _ 40 kz rfl dc dc (by rfl) j (by rfl) p (by simp only[List.length_nil];omega) (fun k=>c 8 k∨b.heap.size≤k) (fun _ a=> .inl a) (fun _ a=> .inr a) ?_;intro r i o m f;obtain⟨G,H,l⟩:=mg j o m f;exact hK _ r i (fun k=>r.ownBlock=some k) rfl (G.mono fun k a=>⟨8,by simp,a⟩) H (fun k a=>⟨(l k a).1.imp_left fun h=>⟨8,by simp,h⟩,(l k a).2⟩)
 intro K hK u i c e d hF hN;have V:Ow nB 127 i (c 3) (u 3) s.states:=hN 3 (by rfl);have X:Ow iw 91 i (c 7) (u 7) s.queue:=hN 7 (by rfl);have L:Ow hJ 101 i (c 11) (u 11) s.outs:=hN 11 (by rfl);have n:=lr.mk (F:=fun k=>w.heap.size≤k) (V.mono fun k a=>by have:=(hF 3 k (by rfl) a).1;rcases this with h|h;exact h.elim;have:=y.size;simp at h;omega) (X.mono fun k a=>by have:=(hF 7 k (by rfl) a).1;rcases this with h|h;exact h.elim;have:=y.size;simp at h;omega) (L.mono fun k a=>by have:=(hF 11 k (by rfl) a).1;rcases this with h|h;exact h.elim;have:=y.size;simp at h;omega);have D:=gK HS e.below0;have C:=fu D g1 O;clear HS V X L hN hF d e c J M O d0 d1 d2;have HS:=D;clear D;obtain⟨P,S,y1,z1⟩:=n.st.shape;obtain⟨Q,T,y2,z2⟩:=n.qu.shape;obtain⟨R,U,y3,z3⟩:=n.ou.shape;simp only[jf,kE];go_simp;generalize u 3=v3 at*;generalize u 7=v7 at*;generalize u 11=ao at*;subst y1 y2 y3;refine hK _ _ ?_;clear hK K
 iterate 1 refine DS ?_
 obtain⟨Z,t,x⟩:=lm C;have f0:=ft C;refine sM (by rfl) (by rfl) (fun K hK=>?_);go_simp;refine hK _ _ (Or.inl gY) ?_;clear hK K Z t x f0;obtain⟨Y,nW,hb⟩:=i8 (g:=w.heap.size+1) C n fT (y.trans (Below.mono HS y.size)) (.slice P s.states.length S) (.slice Q s.queue.length T) (.slice R s.outs.length U) rfl rfl rfl;generalize ((i.setCell ⟨w.heap.size+1,0,none⟩ (.slice P s.states.length S)).setCell ⟨w.heap.size+1,1,none⟩ (.slice Q s.queue.length T)).setCell ⟨w.heap.size+1,2,none⟩ (.slice R s.outs.length U)=W3 at*;simp only[tx];go_wp2_with fail;obtain⟨r0,r1,r2⟩:=lm Y;refine bodyPost_ret (v:= .agg #[.slice P s.states.length S,.slice Q s.queue.length T,.slice R s.outs.length U]) (by simp[results,Tryz.results72,go_sem,r0,r1,r2]) rfl ⟨_,_,_,rfl,nW,hb⟩
end Go.Proofs.YtlndjfflhegkdaaGreatDoor
