/- Parts of the proof: Nh3, Nh4. -/
import Derived.Test.YtgilllnjhahkfaaGreatQ35
set_option linter.unusedVariables false
set_option linter.unusedSimpArgs false
set_option linter.unusedSectionVars false
set_option maxHeartbeats 4000000
set_option maxRecDepth 100000
namespace Go.Proofs.YtgilllnjhahkfaaGreat
open Go.RowKit
section
open Go.RowKit Go.Maps
theorem qG:Keyed Tryz.prog 3:=int_keyed Tryz.underlying3
theorem xW {x:Int} (h:i64 x):∃l,keyOf Tryz.prog 3 (.int .i64 x)=some l:=⟨_,keyOf_int_mk Tryz.underlying3 (pY h)⟩
def nc:Nat→List Value→List MapEntry
 |j,v::vs=>⟨.int .i64 (j:Int),v,j⟩::nc (j+1) vs
 |_,[]=>[]
theorem pW:∀(vs:List Value) (b j:Nat) (h:j<vs.length),(nc b vs)[j]? =some ⟨.int .i64 ((b+j:Nat):Int),vs[j],b+j⟩
 |v::vs,b,0,h=>by simp[nc]
 |v::vs,b,j+1,h=>by
  have:=pW vs (b+1) j (by simpa using h);simp only[nc,List.getElem?_cons_succ,List.getElem_cons_succ,this];rw[show b+1+j=b+(j+1) by omega]
theorem qM:∀(vs:List Value) (b:Nat),(nc b vs).length=vs.length
 | [],_=>rfl
 |v::vs,b=>by simp[nc,qM vs (b+1)]
theorem wi:∀(vs:List Value) (v:Value) (b:Nat),nc b (vs++[v])=nc b vs++[⟨.int .i64 ((b+vs.length:Nat):Int),v,b+vs.length⟩]
 | [],v,b=>by simp[nc]
 |x::vs,v,b=>by
  have:=wi vs v (b+1);simp only[List.cons_append,nc,this,List.length_cons];rw[show b+1+vs.length=b+(vs.length+1) by omega]
theorem vD {vs:List Value} (hl:vs.length≤1000):∀e∈nc 0 vs,∃l,keyOf Tryz.prog 3 e.key=some l:=fun e he=>by
 obtain⟨j,hj,rfl⟩:=List.getElem_of_mem he;have hj':j<vs.length:=by rw[←qM vs 0];exact hj
 have h:=pW vs 0 j hj';rw[mc hj] at h;rw[Option.some.inj h];exact xW ⟨gO,gO⟩
def nP (vs:List Value):Obj:= .map (nc 0 vs).toArray vs.length
theorem Bd {w:World} {B:Nat} {vs:List Value} (h:w.heap[B]? =some (nP vs)) (hl:vs.length≤1000) (j:Nat) (hj:j<vs.length):
  (Instr.lookup 91 (.map (some B)) (.int .i64 (j:Int)) false).run Tryz.prog w= .ok vs[j] w:=by
 have s:i64 (j:Int):=⟨gO,gO⟩;obtain⟨l,d⟩:=xW s;have r:=Tryz.underlying91;have o:=qG.check w (nc 0 vs).isEmpty d;have n:w.heap[B]? =some (.map (nc 0 vs).toArray vs.length):=h;unfold Instr.lookup;rcases qG.find w d (nc 0 vs) (vD hl) with ⟨f,b⟩|⟨i,e,f,b,g⟩
 ·have c:=b _ (List.mem_of_getElem? (pW vs 0 j hj))
  simp at c
 ·have q:i<vs.length:=by rw[←qM vs 0];exact(List.getElem?_eq_some_iff.1 b).1
  have c:=pW vs 0 i q;rw[b] at c;have k:=Option.some.inj c;rw[k] at g;simp at g;have m:i=j:=gO;subst m;have p:e.val=vs[i]:=by rw[k]
  simp[run_underlying r,Go.getObj,Sem.run,n,o,f,p]
theorem E7 {w:World} {B:Nat} {vs:List Value} (h:w.heap[B]? =some (nP vs)) (hl:vs.length≤1000) (v:Value):
  (Instr.mapUpdate 91 (.map (some B)) (.int .i64 (vs.length:Int)) v).run Tryz.prog w= .ok () (lZ w B (nP (vs++[v]))):=by
 have o:i64 (vs.length:Int):=⟨gO,gO⟩;obtain⟨l,a⟩:=xW o;have n:=Tryz.underlying91;have k:=qG.check w false a;have j:w.heap[B]? =some (.map (nc 0 vs).toArray vs.length):=h;have p:=(Array.getElem?_eq_some_iff.1 h).1;unfold Instr.mapUpdate;rcases qG.find w a (nc 0 vs) (vD hl) with ⟨c,b⟩|⟨i,e,c,b,d⟩
 ·simp[run_underlying n,Go.getObj,Go.setObj,Sem.run,j,k,c,lZ,nP,wi vs v 0]
 ·exfalso
  have m:i<vs.length:=by rw[←qM vs 0];exact(List.getElem?_eq_some_iff.1 b).1
  have f:=pW vs 0 i m;rw[b] at f;have g:=Option.some.inj f;rw[g] at d;simp at d;omega
def ru (g:Nat) (vs:List Value):rY:=⟨fun w F=>F g∧w.heap[g]? =some (nP vs),fun h hm=>⟨h.1,(hm g h.1 (gL h.2)).trans h.2⟩,fun hF h=>⟨hF g h.1,h.2⟩,fun h=>⟨⟨h.1,gL h.2⟩,h.2⟩⟩
theorem GD {w:World} {g:Nat} {a0 a1 a2 a3 a4 a5 a6 b0 b1 b2 b3 b4 b5 b6:Value} {t:TypeId} (h:w.heap[g]? =some (.cells #[a0,a1,a2,a3,a4,a5,a6] t (0,0))):
  (((((((w.setCell ⟨g,0,none⟩ b0).setCell ⟨g,1,none⟩ b1).setCell ⟨g,2,none⟩ b2).setCell ⟨g,3,none⟩ b3).setCell ⟨g,4,none⟩ b4).setCell ⟨g,5,none⟩ b5).setCell ⟨g,6,none⟩ b6).heap[g]? =some (.cells #[b0,b1,b2,b3,b4,b5,b6] t (0,0))∧Ch (fun k=>k=g) w (((((((w.setCell ⟨g,0,none⟩ b0).setCell ⟨g,1,none⟩ b1).setCell ⟨g,2,none⟩ b2).setCell ⟨g,3,none⟩ b3).setCell ⟨g,4,none⟩ b4).setCell ⟨g,5,none⟩ b5).setCell ⟨g,6,none⟩ b6):=by
 refine⟨?_,Ch.setCell (p:=⟨g,6,none⟩) (Ch.setCell (p:=⟨g,5,none⟩) (Ch.setCell (p:=⟨g,4,none⟩) (Ch.setCell (p:=⟨g,3,none⟩) (Ch.setCell (p:=⟨g,2,none⟩) (Ch.setCell (p:=⟨g,1,none⟩) (Ch.setCell (p:=⟨g,0,none⟩) (Ch.refl (fun k=>k=g) w) (Or.inl rfl) _) (Or.inl rfl) _) (Or.inl rfl) _) (Or.inl rfl) _) (Or.inl rfl) _) (Or.inl rfl) _) (Or.inl rfl) _⟩;have:=gN (gN (gN (gN (gN (gN (gN h 0 b0) 1 b1) 2 b2) 3 b3) 4 b4) 5 b5) 6 b6;simpa only[List.setIfInBounds_toArray,List.set_cons_zero,List.set_cons_succ] using this
theorem DS (n:gW) (vl vk vo vv vn:Value) (F:Nat→Prop) (w:World) (h:iA w F vl vk vo vv vn n) (hf:iG n):
  Calls Tryz.prog 107 #[.agg #[n.id,n.up,n.inc,n.g,vl,vk,vo,n.led,n.version,vv,vn,n.round,n.low]] w fun q w' =>∃u,q= .returned (.agg #[n.id,n.inc,n.g,n.led,u,vk,vo])∧Ow rQ 62 w' (fun k=>w.heap.size≤k) u (n.lanes.map (fun l=>l.base))∧Below w.heap.size w w':=by
 obtain⟨A1,c1,rfl,-⟩:=h.la.shape;obtain⟨b,f,rfl,-⟩:=h.ke.shape;obtain⟨c,j,rfl,-⟩:=h.ou.shape;obtain⟨A4,c4,rfl,-⟩:=h.vi.shape;obtain⟨A5,c5,rfl,-⟩:=h.kn.shape;obtain⟨W,hV,z,Z,ZR⟩:=yb w (.cells #[n.id,n.up,n.inc,n.g,.slice A1 n.lanes.length c1,.slice b n.kept.length f,.slice c n.outs.length j,n.led,n.version,.slice A4 n.views.length c4,.slice A5 n.known.length c5,n.round,n.low] 37) (.cells #[.int .i64 0,.int .i64 0,.int .i64 0,.int .i64 0,.slice none 0 0,.slice none 0 0,.slice none 0 0] 89);go_enter Tryz.func107,Tryz.ntmps107;go_upto_region 1 with fail;rw[hV.out];clear hV;replace h:=h.below z;have aE:=gL ZR;have P:w.heap.size<W.heap.size:=gL Z;obtain⟨d0,d1,d2,d3,d4,d5,d6,d7,d8,d9,D,E,G⟩:=hJ Z;go_upto_region 2 with fail;have T:=(iL.nil W (fun k=>W.heap.size≤k)).cons (p:=jL W.heap.size #[n.id,n.inc,n.g,n.led,.slice none 0 0,.slice b n.kept.length f,.slice c n.outs.length j] 89) (gU (gY W.heap.size W) (.cells #[n.id,n.inc,n.g,n.led,.slice none 0 0,.slice b n.kept.length f,.slice c n.outs.length j] 89)) ⟨j9 _,gX rfl⟩ (fun _ h=>h) (fun k S=>S);have o:=gU (gY W.heap.size W) (.cells #[n.id,n.inc,n.g,n.led,.slice none 0 0,.slice b n.kept.length f,.slice c n.outs.length j] 89);have U:=T.add (p:=ig rQ 62 (.slice none 0 0) []) (gY _ _) (Ow.nil _ _ _ _) (fun _ h=>h) (fun k S=>jb o.size S);have a9:w.heap.size<W.heap.size:=P;obtain⟨go,O,X⟩:∃g,g=W.heap.size∧iL (W.alloc (.cells #[n.id,n.inc,n.g,n.led,.slice none 0 0,.slice b n.kept.length f,.slice c n.outs.length j] 89)) (fun k=>W.heap.size≤k) [jL g #[n.id,n.inc,n.g,n.led,.slice none 0 0,.slice b n.kept.length f,.slice c n.outs.length j] 89,ig rQ 62 (.slice none 0 0) []]:=⟨_,rfl,U⟩;have aV:W.heap.size≤go:=Nat.le_of_eq O.symm;simp only[←O];have ZV:=gJ o P Z;generalize W.alloc (.cells #[n.id,n.inc,n.g,n.led,.slice none 0 0,.slice b n.kept.length f,.slice c n.outs.length j] 89)=V at*;clear T U O d0 d1 d2 d3 d4 d5 d6 d7 d8 d9 D E G;obtain⟨d0,d1,d2,d3,d4,d5,d6,d7,d8,d9,D,E,G⟩:=hJ ZV;have bl:=hf.lanes;go_wp2_with fail;clear d0 d1 d2 d3 d4 d5 d6 d7 d8 d9 D E G
 go_loopw [22] (fun i wr=>∃(k:Nat) (u:Value),i= .int .i64 k∧k≤n.lanes.length∧iL wr (fun k=>W.heap.size≤k) [jL go #[n.id,n.inc,n.g,n.led,u,.slice b n.kept.length f,.slice c n.outs.length j] 89,ig rQ 62 u ((n.lanes.take k).map (fun l=>l.base))]∧Below W.heap.size W wr) (fun i _=>n.lanes.length-(intOf i).toNat)
 case atStart=>exact⟨0,_,rfl,jP _,X,o⟩
 case round=>
  clear X o ZV;obtain⟨k,u,rfl,S,HS,L⟩:=hrel;obtain⟨a,r⟩:∃a,(n.lanes.take k).map (fun l=>l.base)=a:=⟨_,rfl⟩;rw[r] at HS;have ab:=gP r;have aJ:=gP (show a.length≤n.lanes.length by rw[←r,List.length_map,List.length_take];omega);clear r;obtain⟨s,m,hu,-⟩:=Ow.shape (HS.get 1 rfl);subst hu;have M:=L.size;have Q:=mC HS;have bk:=gL Q;obtain⟨aM,aN,aO,aP,aQ,aR,aS⟩:=zY Q;by_cases hlt:k<n.lanes.length
  ·have p0:(k:Int)<(n.lanes.length:Int):=gO
   obtain⟨b0,o0,A6,c6,aT,bj,y0,⟨y1,y2,y3⟩,y4,r1⟩:=kV (h.la.below L) k hlt;subst aT;have aa:=gP (show(n.lanes.take (k+1)).map (fun l=>l.base)=a++[n.lanes[k].base] by rw[qp hlt,List.map_append,ab.out];rfl);obtain⟨x,hx⟩:∃x,n.lanes[k]=x:=⟨_,rfl⟩;rw[hx] at y0 y1 y2 y3 y4 r1 aa;clear hx r1;obtain⟨R,J,aD,-,am⟩:=HS.step 1 rfl;have I:Ow rQ 62 wr R (.slice s a.length m) a:=J;clear J HS;go_wp2_with (at_builtin;(refine jj (d:=rQ) rfl 87 rfl Tryz.underlying87 _ 24 EA rfl dc dc rfl ((I.alloc _).alloc _) x.base _ rfl (gX sm) (fun _=>False) rfl (fun _ hf=>hf.elim) (fun _ hf=>hf.elim) (by have:=aJ.out;omega) (fun q=>R q∨wr.heap.size≤q) (fun q hq=> .inl hq) (fun _ hf=>hf.elim) (fun q hq=> .inr (jb (by simp only[lv];omega) hq)) ?_;intro v9 w9 H aj aB;have t:Ch R wr w9:=Ch.grown (((Ch.refl R wr).alloc _).alloc _) aj (fun q hq=>Or.inl (I.inF hq));have Y:=am w9 (ig rQ 62 v9 (a++[x.base])) (fun k=>W.heap.size≤k) t H (fun _ h=>h) (fun q hq=>jb M hq);have B9:=mC Y;have bh:=ft B9;have ak:=L.trans (t.below (B:=W.heap.size) (fun q hq=>(aD q hq).1) M);obtain⟨ac,ad,ae,af,ag,ah,ai⟩:=zY B9;obtain⟨A,c9,aW,-⟩:=(show Ow rQ 62 w9 _ v9 (a++[x.base]) from H).shape;subst aW;clear aB H t am I aj Q));have y:=Y.store (fun q hq=>jb ak.size hq) 4 (.slice A (a++[x.base]).length c9);simp only[mo,mp,ml] at y;have aC:=ak.setCell (p:=⟨go,4,none⟩) aV (.slice A (a++[x.base]).length c9);go_roundw
   case rel=>exact⟨k+1,.slice A (a++[x.base]).length c9,by go_num,gO,by rw[aa.out];simpa using y,by simpa using aC⟩
   case measure=>exact ms
  ·have al:k=n.lanes.length:=gO
   have HL:=gP (show a=n.lanes.map (fun l=>l.base) by rw[←ab.out,al,ld]);have p0:¬(k:Int)<(n.lanes.length:Int):=gO;clear al;have C:=gJ L aE ZR;have bi:=ft C;obtain⟨ac,ad,ae,af,ag,ah,ai⟩:=zY C;go_wp2_with fail;obtain⟨BR,CR⟩:=GD (b0:= .int .i64 n.id) (b1:= .int .i64 n.inc) (b2:= .int .i64 n.g) (b3:= .int .i64 n.led) (b4:= .slice s a.length m) (b5:= .slice b n.kept.length f) (b6:= .slice c n.outs.length j) C;have aI:=HS.ch CR (fun q hq e=>by have h1:W.heap.size≤q:=hq;have h2:q=w.heap.size+1:=e;omega);have aU:=(gQ z L z.size).trans (CR.below (B:=w.heap.size) (fun q hq=>by have h2:q=w.heap.size+1:=hq;omega) (jb z.size M));clear ac ad ae af ag ah ai aM aN aO aP aQ aR aS Q;generalize (((((((wr.setCell ⟨w.heap.size+1,0,none⟩ (.int .i64 n.id)).setCell ⟨w.heap.size+1,1,none⟩ (.int .i64 n.inc)).setCell ⟨w.heap.size+1,2,none⟩ (.int .i64 n.g)).setCell ⟨w.heap.size+1,3,none⟩ (.int .i64 n.led)).setCell ⟨w.heap.size+1,4,none⟩ (.slice s a.length m)).setCell ⟨w.heap.size+1,5,none⟩ (.slice b n.kept.length f)).setCell ⟨w.heap.size+1,6,none⟩ (.slice c n.outs.length j))=A at*;obtain⟨s0,s1,s2,s3,s4,s5,s6⟩:=zY BR;refine bodyPost_ret (v:= .agg #[n.id,n.inc,n.g,n.led,.slice s a.length m,.slice b n.kept.length f,.slice c n.outs.length j]) (by simp only[results,Tryz.results107];go_simp) rfl ⟨.slice s a.length m,rfl,?_,aU⟩;rw[←HL.out];exact Ow.mono (fun q hq=>jb z.size hq) (show Ow rQ 62 A (fun k=>W.heap.size≤k) (.slice s a.length m) a from aI.get 1 rfl)
end
section
theorem BO {P:Program} {ops:Array Oper} {Q:Exit→Act→World→Prop} {w0:World} {r:List Sg} {f:List Nat} {a:Act} {w:World} (h:∀a0,a0=a→m6 P ops Q w0 r f a0 w):m6 P ops Q w0 r f a w:=h a rfl
theorem Ow.setOne {α:Type} {d:Ty α} {e:TypeId} {w:World} {F:Nat→Prop} {v:Value} {xs:List α} (h:Ow d e w F v xs) (hs:d.sz=1) {g:Nat} (hv:v.ownBlock=some g) (j:Nat) (hj:j<xs.length) (x':α) (u:Value) (hr:d.rel w (fun _=>False) x' [u]):
  (∃u0,w.cell? ⟨g,j,none⟩=some u0)∧w.frozen? ⟨g,j,none⟩=false∧Ow d e (w.setCell ⟨g,j,none⟩ u) F v (xs.set j x')∧Ch (fun k=>k=g) w (w.setCell ⟨g,j,none⟩ u):=by
 obtain⟨b,c,f⟩:=h.setElem hv j hj x' [u] (fun _=>False) F hr (fun _ a=>a.elim) (fun _ i=>i) (fun _ a=>a.elim);rw[hs,Nat.mul_one] at b c f;have:=b 0 gO;exact⟨Option.isSome_iff_exists.1 this.1,this.2,c,f⟩
theorem Ow.setAll {α:Type} {d:Ty α} {e:TypeId} {F:Nat→Prop} {v:Value} (hs:d.sz=1) (f:α→Value) (hf:∀w x,d.rel w (fun _=>False) x [f x]) {g:Nat} (hv:v.ownBlock=some g):∀(zs:List α) (k:Nat) (w:World) (xs:List α),Ow d e w F v xs→k+zs.length≤xs.length→
  (∀j,j<zs.length→(w.cell? ⟨g,k+j,none⟩).isSome=true∧w.frozen? ⟨g,k+j,none⟩=false)∧Ow d e (w.setCells g k (zs.map f)) F v (xs.take k++zs++xs.drop (k+zs.length))∧Ch (fun k=>k=g) w (w.setCells g k (zs.map f))
 | [],k,w,xs,h,hl=>⟨fun j hj=>by simp at hj,by simpa [World.setCells] using h,Ch.refl _ _⟩
 |z::zs,k,w,xs,h,hl=>by
  simp only[List.length_cons] at hl;obtain⟨a1,a2,a3,a4⟩:=h.setOne hs hv k gO z (f z) (hf w z);obtain⟨b1,b2,b3⟩:=Ow.setAll hs f hf hv zs (k+1) (w.setCell ⟨g,k,none⟩ (f z)) (xs.set k z) a3 (by rw[List.length_set];omega);refine⟨fun j hj=>?_,?_,a4.trans b3⟩
  ·cases j with
   |zero=>exact⟨Option.isSome_iff_exists.2 a1,a2⟩
   |succ j=>
    have:=h.setOne hs hv (k+(j+1)) (by simp only[List.length_cons] at hj;omega) z (f z) (hf w z);exact⟨Option.isSome_iff_exists.2 this.1,this.2.1⟩
  ·have e1:(xs.set k z).take (k+1)=xs.take k++[z]:=by
    rw[qp (by rw[List.length_set];omega),List.getElem_set_self,List.take_set_of_le (j9 _)]
   have a:(xs.set k z).drop (k+1+zs.length)=xs.drop (k+(zs.length+1)):=by
    rw[List.drop_set_of_lt gO,show k+1+zs.length=k+(zs.length+1) by omega]
   rw[e1,a] at b2;simpa [World.setCells] using b2
section
variable {P:Program} {o:Oper} {a:Act} {W:World} {K:Act→World→Prop} {Q:Exit→Act→World→Prop} {ops:Array Oper} {rest:List Oper}
theorem xS {e:TypeId} {F F':Nat→Prop} {ys:List (Option Int)} {xs:List Int} {n c c':Nat} {g:Nat} {A:Option Addr} (hgd:o.guard=none) (d s:Operand) (dT sT:TypeId) (ho:o.op= .call {callee:= .builtin .copy,args:= #[d,s],argTypes:= #[dT,sT]}) (hu:P.underlying dT=some (.slice e)) (hsz:(P.info? e).map (·.size)=some 1)
  (HO:Ow (l8 (ja .i64)) e W F (.slice (some ⟨g,0,none⟩) n c) ys) (hS:Rd (ja .i64) W F' (.slice A xs.length c') xs) (hl:ys.length=xs.length) (hn:n=xs.length) (hp:0<xs.length) (hd:a.eval d= .slice (some ⟨g,0,none⟩) n c) (hs:a.eval s= .slice A xs.length c')
  (h:∀w1,Ow (ja .i64) e w1 F (.slice (some ⟨g,0,none⟩) n c) xs→Ch (fun k=>k=g) W w1→wpList P ops Q rest (a.put o.dst (.int .i64 n)) w1):wpList P ops Q (o::rest) a W:=by
 refine wpList_plain hgd fun K hK=>?_;obtain⟨q,y,rfl,-,B,-⟩:=lm hS 0 hp;obtain⟨m,l,p⟩:=Ow.setAll (d:=l8 (ja .i64)) rfl (fun x=>match x with|some z=>Value.int .i64 z|none=> .int .i64 0) (fun w x=>by cases x<;>first|exact⟨rfl,by simp[Value.oneCell']⟩|rfl|exact Or.inl rfl) (g:=g) rfl (xs.map some) 0 W ys HO (by rw[List.length_map];omega);have i:=run_copy_cells (P:=P) W dT sT o.type e g 0 n c ⟨q,y,none⟩ xs.length c' (xs.map (Value.int .i64)) hu hsz (by rw[List.length_map,hn];exact(Nat.min_self _).symm) (fun j v b=>by
  have f:j<xs.length:=by have:=(List.getElem?_eq_some_iff.1 b).1;simpa using this
  obtain⟨C,D,t,-,-,z⟩:=lm hS j f;cases t;rw[List.getElem?_map,mc f] at b;cases b;rw[Addr.add_mid];exact z) (fun j b=>by simpa using (m j (by simpa using b)).1) (fun j b=>by simpa using (m j (by simpa using b)).2) (fun v u=>by
  obtain⟨z,-,rfl⟩:=List.mem_map.1 u;rfl)
 unfold Oper.wp;simp[execOp,ho,resolve,invoke,builtin,hd,hs,i,Result.andThen];rw[List.map_map] at l p;have r:((ys.take 0++xs.map some)++ys.drop (0+(xs.map some).length))=xs.map some:=by
  rw[List.length_map,List.drop_eq_nil_of_le gO];simp
 rw[r] at l;have:=h _ l.filled p;rw[hn] at this;exact hK _ _ this
theorem Ak {t:TypeId} (ho:o.op= .makeMap t none) (h:K (a.put o.dst (.map (some W.heap.size))) (W.alloc (.map #[] 0))):o.wp P a W K Q:=by
 unfold Oper.wp;simp only[execOp,ho];exact h
theorem Bq {α:Type} {d:Ty α} {e:TypeId} (l c:Operand) (t:TypeId) (hop:o.op=Op.makeSlice t l c) (ht:P.underlying t=some (.slice e)) (z:Value) (bytes:Nat)
  (hinfo:(P.info? e).map (fun i=>(i.zero,i.size,i.bytes))=some (some z,d.sz,bytes)) (hz:∀u∈z.cells.toList,u.oneCell' =true) (hz0:z.cells.size=d.sz) (hs:0<d.sz) (kl kc:IntKind) (n:Nat) (hl:a.eval l= .int kl (n:Int)) (hc:a.eval c= .int kc (n:Int)) (hb:bytes*n≤281474976710656) (hn:n≤9223372036854775807)
  (h:∀w1,Ow (l8 d) e w1 (fun k=>W.heap.size≤k) (.slice (some ⟨W.heap.size,0,none⟩) n n) (List.replicate n none)→Below W.heap.size W w1→K (a.put o.dst (.slice (some ⟨W.heap.size,0,none⟩) n n)) w1):o.wp P a W K Q:=by
 obtain⟨i,v,y,A,B⟩:=info_parts hinfo;obtain⟨G,m,s,F⟩:=run_make_full (P:=P) (w:=W) 0 t e i z d.sz ht v y A kl kc n (by rw[B];exact hb) (by unfold maxLen;omega) (jP _);unfold Oper.wp;simp only[execOp,hop,hl,hc];rw[Sem.run_bind,m];simp only[Result.andThen_ok,Sem.run_pure,Oper.upon_value];refine h G ⟨_,fun _ _=>False,by rw[List.length_replicate];exact s,fun g p=>by simp[Value.ownBlock] at p;subst p;exact j9 _,fun _ _ h=>h.elim,fun _ _ _ _ h=>h.elim,fun j x q=>?_⟩ ((Ch.refl _ W).grown F (fun k C=>by cases C)).below0;have b:j<n:=by have:=(List.getElem?_eq_some_iff.1 q).1;simpa using this
 have E:x=none:=by
  have:=q;rw[List.getElem?_replicate,if_pos b] at this;exact(Option.some.inj this).symm
 subst E;have f:=s.1;have r:(j+1)*d.sz≤n*d.sz:=Nat.mul_le_mul_right _ b;rw[Nat.add_mul,Nat.one_mul] at r;show List.length _=d.sz∧_;refine⟨?_,fun u D=>ro hz (by rw[hz0];exact hs) _ u (List.mem_of_mem_drop (List.mem_of_mem_take D))⟩;rw[List.length_take,List.length_drop,f];show min d.sz (n*d.sz-j*d.sz)=d.sz;omega
end
def qw {α:Type} (d:Ty α):Ty (List α) where
 sz:=1
 rel:=fun w F xs cs=>∃v,cs=[v]∧Rd d w F v xs
 len:=fun ⟨v,h,_⟩=>by rw[h];rfl
 one:=fun ⟨v,h,h1⟩ u hu=>by
  obtain⟨A,c,rfl,_⟩:=h1;rw[h] at hu;simp only[List.mem_cons,List.not_mem_nil,or_false] at hu;rcases hu with rfl;rfl
 mono:=fun hF ⟨v,h,h1⟩=>⟨v,h,h1.mono hF⟩
 move:=fun hm ⟨v,h,h1⟩=>⟨v,h,h1.move hm⟩
 bound:=fun ⟨v,h,h1⟩=>⟨v,h,h1.bound⟩
def Ga (bl:Nat):List nm:=
 [(4,[],fun _ v w F=>(∃g,v= .slice (some ⟨g,0,none⟩) bl bl)∧Ow (l8 (jN 1)) 63 w F v (List.replicate bl none)),
  (5,[],fun _ v w F=>∃g,v= .map (some g)∧F g∧w.heap[g]? =some (nP [])),
  (6,[],fun _ v w F=>(∃g,v= .slice (some ⟨g,0,none⟩) 3 3)∧Ow (l8 (ja .i64)) 3 w F v (List.replicate 3 none))]
theorem CX (bl:Nat):mj (Ga bl):=
 ⟨fun ds v w w' F ⟨h0,h⟩ hm=>⟨h0,Ow.move hm h⟩,fun ds v w w' F ⟨g,h1,h2,h3⟩ hm=>⟨g,h1,h2,(hm g h2).trans h3⟩,fun ds v w w' F ⟨h0,h⟩ hm=>⟨h0,Ow.move hm h⟩,trivial⟩
def GP (bl:Nat):List nH:=[]
abbrev dl2:List (Nat×Option Tmp):=[(4,some 7),(5,some 8),(6,some 9)]
theorem DG (id inc g led:Int) (A:Option Addr) (bl c:Nat) (vk vo:Value) (w:World) (hbl:bl≤1000) (hk1:vk.oneCell' =true) (ho1:vo.oneCell' =true):
  Calls Tryz.prog 106 #[.agg #[id,inc,g,led,.slice A bl c,vk,vo]] w fun q w' =>∃gb gm gd gn,q= .returned (.pointer (some ⟨gb,0,none⟩))∧iL w' (fun k=>w.heap.size≤k) [jL gb #[id,inc,g,led,.slice A bl c,vk,vo,.bool false,.slice (some ⟨gd,0,none⟩) bl bl,.int .i64 0,.map (some gm),.slice (some ⟨gn,0,none⟩) 3 3,.int .i64 0,.int .i64 41] 93,ru gm [],ig (l8 (jN 1)) 63 (.slice (some ⟨gd,0,none⟩) bl bl) (List.replicate bl none),ig (l8 (ja .i64)) 3 (.slice (some ⟨gn,0,none⟩) 3 3) (List.replicate 3 none)]∧Below w.heap.size w w':=by
 go_enter Tryz.func106,Tryz.ntmps106;go_upto_region 1 with fail;obtain⟨W,hV,C,Z⟩:=n8 w (.cells #[id,inc,g,led,.slice A bl c,vk,vo] 89);rw[hV.out];clear hV;have an:w.heap.size<W.heap.size:=gL Z;obtain⟨d0,d1,d2,d3,d4,d5,d6⟩:=zY Z;refine kg [.rd [0,1,2,3],.par [(4,[]),(5,[]),(6,[])] []] [7,8,9] ?_;refine vL ?_;intro N hN;go_wp2_with fail;refine gR (hN _ ?_);clear hN N;refine BO fun v t=>?_;have s6:=gP (show v.tmps[6]? =some (.int .i64 bl) by rw[t];rfl);have V:=gP (show ∀k,k<10→k<v.tmps.size from fun k a=>by rw[t];exact nk a (by show _≤Array.size _;simp));have J:=gP t;clear t;refine mT dl2 (by rfl) (fun _=>False) (NL (Ga bl)) (rR (GP bl)) (fun _ _=>False) (mH _ ie) (nI _ ie) (mF _ (CX bl)) (fun w' hc=>iJ.of_ch hc (fun _ H=>H.elim)) sm sm sm (gZ ?_ (gZ ?_ (gZ ?_ lS))) ?_
 ·refine iu (by rfl) (by rfl) ?_
  intro u f b m l hN hF n K hK;clear l hN hF n;have q6:=qo (dl:=dl2) (u:=u) s6.out;generalize iv dl2 v u=O at*;refine Bq (d:=jN 1) (e:=63) (.tmp 6) (.tmp 6) _ rfl Tryz.underlying90 (.slice none 0 0) 24 ie dc rfl dc _ _ bl (iw q6) (iw q6) gO gO ?_;intro s z B;have o:NL (Ga bl) 4 (iN u 4 (.slice (some ⟨f.heap.size,0,none⟩) bl bl)) s (fun k=>f.heap.size≤k∧k<s.heap.size):=⟨⟨_,rfl⟩,z.bound⟩;exact hK _ (.slice (some ⟨f.heap.size,0,none⟩) bl bl) _ (fun k=>f.heap.size≤k∧k<s.heap.size) rfl (Ch.of_below B) o (fun k a=>⟨.inr a.1,a.2⟩) trivial
 ·refine iu (by rfl) (by rfl) ?_
  intro u f b m l hN hF n K hK;clear l hN hF n;generalize iv dl2 v u=O at*;refine Ak rfl ?_;have o:NL (Ga bl) 5 (iN u 5 (.map (some f.heap.size))) (f.alloc (.map #[] 0)) (fun k=>k=f.heap.size):=⟨_,rfl,rfl,gX rfl⟩;exact hK _ (.map (some f.heap.size)) _ (fun k=>k=f.heap.size) rfl ((Ch.refl _ _).alloc _) o (fun k a=>by subst a;exact⟨.inr (j9 _),by simp⟩) trivial
 ·refine iu (by rfl) (by rfl) ?_
  intro u f b m l hN hF n K hK;clear l hN hF n;generalize iv dl2 v u=O at*;refine Bq (d:=(ja .i64)) (e:=3) (.const (.int .i64 3)) (.const (.int .i64 3)) _ rfl Tryz.underlying27 (.int .i64 0) 8 ie dc rfl dc _ _ 3 rfl rfl gO gO ?_;intro s z B;have o:NL (Ga bl) 6 (iN u 6 (.slice (some ⟨f.heap.size,0,none⟩) 3 3)) s (fun k=>f.heap.size≤k∧k<s.heap.size):=⟨⟨_,rfl⟩,z.bound⟩;exact hK _ (.slice (some ⟨f.heap.size,0,none⟩) 3 3) _ (fun k=>f.heap.size≤k∧k<s.heap.size) rfl (Ch.of_below B) o (fun k a=>⟨.inr a.1,a.2⟩) trivial
 intro K hK u r b m n hF hN U;obtain⟨⟨gd,P⟩,X⟩:(∃g,u 4= .slice (some ⟨g,0,none⟩) bl bl)∧Ow (l8 (jN 1)) 63 r (b 4) (u 4) (List.replicate bl none):=hN 4 (by rfl);obtain⟨gm,e5,R,Y⟩:∃g,u 5= .map (some g)∧b 5 g∧r.heap[g]? =some (nP []):=hN 5 (by rfl);obtain⟨⟨gn,Q⟩,n6⟩:(∃g,u 6= .slice (some ⟨g,0,none⟩) 3 3)∧Ow (l8 (ja .i64)) 3 r (b 6) (u 6) (List.replicate 3 none):=hN 6 (by rfl);have M:Below W.heap.size W r:=⟨m.below0.os,m.below0.tape,m.below0.output,m.below0.size,m.below0.block⟩;have L:iJ W.drew r:=iJ.of_ch m (fun _ H=>H.elim);have D:∀j k,kU [(4,[]),(5,[]),(6,[])] [] j=true→b j k→W.heap.size≤k:=fun j k E a=>by rcases(hF j k E a).1 with q|q;exact q.elim;exact q
 have HS:iL r (fun k=>w.heap.size≤k) [ru gm [],ig (l8 (jN 1)) 63 (u 4) (List.replicate bl none),ig (l8 (ja .i64)) 3 (u 6) (List.replicate 3 none)]:=by
  refine iL.of (fun i k=>if i=0 then b 5 k else if i=1 then b 4 k else b 6 k) (fun i k a=>?_) (fun i j k hi E F x y=>?_) (fun i p l=>?_)
  ·refine jb C.size ?_
   by_cases i0:i=0
   ·rw[if_pos i0] at a;exact D 5 k (by rfl) a
   ·rw[if_neg i0] at a
    by_cases i1:i=1
    ·rw[if_pos i1] at a;exact D 4 k (by rfl) a
    ·rw[if_neg i1] at a;exact D 6 k (by rfl) a
  ·have S:i<3:=hi
   have T:j<3:=E;have G:∀i j k,i<j→j<3→(if i=0 then b 5 k else if i=1 then b 4 k else b 6 k)→(if j=0 then b 5 k else if j=1 then b 4 k else b 6 k)→False:=fun i j k F E x y=>by
    have I:i=0∧j=1∨i=0∧j=2∨i=1∧j=2:=gO;rcases I with ⟨rfl,rfl⟩|⟨rfl,rfl⟩|⟨rfl,rfl⟩
    ·exact n 5 4 k (by rfl) (by rfl) dc x y
    ·exact n 5 6 k (by rfl) (by rfl) dc x y
    ·exact n 4 6 k (by rfl) (by rfl) dc x y
   rcases Nat.lt_or_gt_of_ne F with q|q
   ·exact G i j k q T x y
   ·exact G j i k q S y x
  ·match i,l with
   |0,l=>cases l;exact⟨R,Y⟩
   |1,l=>cases l;exact X
   |2,l=>cases l;exact n6
 clear hN hF n m U D X Y n6 R;rw[J.out];clear s6 V J v;simp only[j8,li];rw[P,Q] at HS;generalize u 4=ao at*;generalize u 5=ap at*;generalize u 6=aq at*;subst P e5 Q;go_simp;refine hK _ _ L ?_;clear hK K b u L;refine vF ?_;clear d0 d1 d2 d3 d4 d5 d6;go_wp2_with fail;go_ret;exact⟨r.heap.size,gm,gd,gn,rfl,HS.cons (p:=jL r.heap.size #[id,inc,g,led,.slice A bl c,vk,vo,.bool false,.slice (some ⟨gd,0,none⟩) bl bl,.int .i64 0,.map (some gm),.slice (some ⟨gn,0,none⟩) 3 3,.int .i64 0,.int .i64 41] 93) (gU (gY _ _) _) ⟨j9 _,gX rfl⟩ (fun _ h=>h) (fun k a=>jb C.size (jb M.size a)),gQ C (gU M _) C.size⟩
end
end Go.Proofs.YtgilllnjhahkfaaGreat
