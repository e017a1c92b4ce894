/- Parts of the proof: Nd3, Ex2, Act, Nh3, Nh4. -/
import Derived.Test.YtlndjfflhegkdaaGreatDoorQ15
import Derived.Test.YtlndjfflhegkdaaGreatDoorQ18
set_option linter.unusedVariables false
set_option linter.unusedSimpArgs false
set_option linter.unusedSectionVars false
set_option maxHeartbeats 4000000
namespace Go.Proofs.YtlndjfflhegkdaaGreatDoor
open Go.RowKit
theorem jS {w:World} {g:Nat} {v0 v1 v2 v3 v4 v5 v6 v7 v8 v9 v10 v11 v12:Value} {t:TypeId} {fr:Nat×Nat} (h:w.heap[g]? =some (.cells #[v0,v1,v2,v3,v4,v5,v6,v7,v8,v9,v10,v11,v12] t fr)):w.cell? ⟨g,0,none⟩=some v0∧w.cell? ⟨g,1,none⟩=some v1∧w.cell? ⟨g,2,none⟩=some v2∧w.cell? ⟨g,3,none⟩=some v3∧w.cell? ⟨g,4,none⟩=some v4∧w.cell? ⟨g,5,none⟩=some v5∧w.cell? ⟨g,6,none⟩=some v6∧w.cell? ⟨g,7,none⟩=some v7∧w.cell? ⟨g,8,none⟩=some v8∧w.cell? ⟨g,9,none⟩=some v9∧w.cell? ⟨g,10,none⟩=some v10∧w.cell? ⟨g,11,none⟩=some v11∧w.cell? ⟨g,12,none⟩=some v12:=⟨fw h 0,fw h 1,fw h 2,fw h 3,fw h 4,fw h 5,fw h 6,fw h 7,fw h 8,fw h 9,fw h 10,fw h 11,fw h 12⟩
structure C8 (col:Nat→Nat) (w:World) (F:Nat→Prop) (vl vk vo vv vn:Value) (n:gT):Prop where
 la:Ow pA 130 w (fun k=>F k∧col k=0) vl n.lanes
 ke:Ow iw 91 w (fun k=>F k∧col k=1) vk n.kept
 ou:Ow hJ 101 w (fun k=>F k∧col k=2) vo n.outs
 vi:Ow pB 180 w (fun k=>F k∧col k=3) vv n.views
 kn:Ow (jQ .i64) 3 w (fun k=>F k∧col k=4) vn n.known
def q9 (w:World) (F:Nat→Prop) (vl vk vo vv vn:Value) (n:gT):Prop:=∃col,C8 col w F vl vk vo vv vn n
theorem q9.rd {w:World} {F:Nat→Prop} {vl vk vo vv vn:Value} {n:gT} (h:q9 w F vl vk vo vv vn n):i4 w F vl vk vo vv vn n:=by
 obtain⟨b,h⟩:=h;exact⟨h.la.rdLanes.mono (fun _ a=>a.1),h.ke.rd.mono (fun _ a=>a.1),h.ou.rd.mono (fun _ a=>a.1),h.vi.rdViews.mono (fun _ a=>a.1),h.kn.rd.mono (fun _ a=>a.1)⟩
theorem q9.of {w:World} {F:Nat→Prop} {vl vk vo vv vn:Value} {n:gT} {a0 b0 a1 b1 a2 b2 a3 b3 a4 b4:Nat}
  (h0:Ow pA 130 w (fun k=>a0≤k∧k<b0) vl n.lanes) (h1:Ow iw 91 w (fun k=>a1≤k∧k<b1) vk n.kept) (h2:Ow hJ 101 w (fun k=>a2≤k∧k<b2) vo n.outs) (h3:Ow pB 180 w (fun k=>a3≤k∧k<b3) vv n.views) (h4:Ow (jQ .i64) 3 w (fun k=>a4≤k∧k<b4) vn n.known)
  (hd:(b0≤a1∨b1≤a0)∧(b0≤a2∨b2≤a0)∧(b0≤a3∨b3≤a0)∧(b0≤a4∨b4≤a0)∧(b1≤a2∨b2≤a1)∧(b1≤a3∨b3≤a1)∧(b1≤a4∨b4≤a1)∧(b2≤a3∨b3≤a2)∧(b2≤a4∨b4≤a2)∧(b3≤a4∨b4≤a3))
  (hF:∀k,a0≤k∨a1≤k∨a2≤k∨a3≤k∨a4≤k→F k):q9 w F vl vk vo vv vn n:=
 ⟨fun k=>if a0≤k∧k<b0 then 0 else if a1≤k∧k<b1 then 1 else if a2≤k∧k<b2 then 2 else if a3≤k∧k<b3 then 3 else 4,
  h0.mono (fun k hk=>⟨hF k fT,by rw[if_pos hk]⟩),
  h1.mono (fun k hk=>⟨hF k fT,by rw[if_neg fT,if_pos hk]⟩),
  h2.mono (fun k hk=>⟨hF k fT,by rw[if_neg fT,if_neg fT,if_pos hk]⟩),
  h3.mono (fun k hk=>⟨hF k fT,by rw[if_neg fT,if_neg fT,if_neg fT,if_pos hk]⟩),
  h4.mono (fun k hk=>⟨hF k fT,by rw[if_neg fT,if_neg fT,if_neg fT,if_neg fT]⟩)⟩
set_option maxRecDepth 100000
section
def lO {α:Type} (d:Ty α):Ty (Option α) where
 sz:=d.sz
 rel:=fun w F ox cs=>match ox with|some x=>d.rel w F x cs|none=>cs.length=d.sz∧∀u∈cs,u.oneCell' =true
 len:=fun {w F x cs} h=>by
  cases x with
  |none=>exact h.1
  |some x=>exact d.len h
 one:=fun {w F x cs} h=>by
  cases x with
  |none=>exact h.2
  |some x=>exact d.one h
 mono:=fun {w F F' x cs} hF h=>by
  cases x with
  |none=>exact h
  |some x=>exact d.mono hF h
 move:=fun {w w' F x cs} hm h=>by
  cases x with
  |none=>exact h
  |some x=>exact d.move hm h
 bound:=fun {w F x cs} h=>by
  cases x with
  |none=>exact h
  |some x=>exact d.bound h
theorem Ow.filled {α:Type} {d:Ty α} {e:TypeId} {w:World} {F:Nat→Prop} {v:Value} {xs:List α} (h:Ow (lO d) e w F v (xs.map some)):Ow d e w F v xs:=by
 obtain⟨a,b,c,f,g,i,k⟩:=h;have h1':w.ownsRow 0 e d.sz v (xs.map some).length a:=c;rw[List.length_map] at h1';refine⟨a,b,h1',f,g,i,fun j x l=>?_⟩;have:=k j (some x) (by simp[l]);exact this
theorem zU:∀(vs l:List Value) (o q:Nat),(q<o∨o+vs.length≤q)→(xy l o vs)[q]? =l[q]?
 | [],_,_,_,_=>rfl
 |v::r,l,o,q,h=>by
  simp only[List.length_cons] at h;rw[xy,zU r _ _ _ fT,List.getElem?_set_ne fT]
theorem qM {zs:Array Value} (hz:∀u∈zs.toList,u.oneCell' =true) (h0:0<zs.size) (m:Nat):∀u∈(madeCells zs m).toList,u.oneCell' =true:=by
 intro u a;simp only[madeCells,Array.toList_map,List.mem_map] at a;obtain⟨i,_,rfl⟩:=a;have:i % zs.size<zs.size:=Nat.mod_lt _ h0;rw[getElem!_pos zs _ this];exact hz _ sm
theorem Ow.setElem {α:Type} {d:Ty α} {e:TypeId} {w:World} {F:Nat→Prop} {v:Value} {xs:List α} (h:Ow d e w F v xs) {g:Nat} (hv:v.ownBlock=some g) (j:Nat) (hj:j<xs.length) (x':α) (cs':List Value) (F' G:Nat→Prop)
  (hr:d.rel w F' x' cs') (hF':∀k,F' k→¬F k) (hG:∀k,F k→G k) (hG':∀k,F' k→G k):
  w.there g (j*d.sz) d.sz∧Ow d e (w.setCells g (j*d.sz) cs') G v (xs.set j x')∧Ch (fun k=>k=g) w (w.setCells g (j*d.sz) cs'):=by
 have C:Ch (fun k=>k=g) w (w.setCells g (j*d.sz) cs'):=Ch.setCells _ _ _ (Ch.refl _ _) (.inl rfl);have y:F g:=h.inF hv;have Y:=h.block_lt hv;obtain⟨c,R,L,T,m,U,V⟩:=h.bound;have H:=L.1;have hl':=d.len hr;rcases L.2 with ⟨rfl,_⟩|⟨S,r,s,rfl,hb,D,u,M,O,P⟩
 ·simp[Value.ownBlock] at hv
 ·simp only[Value.ownBlock,Option.some.injEq] at hv
  subst hv;have Q:(j+1)*d.sz≤xs.length*d.sz:=Nat.mul_le_mul_right _ fT;have Z:xs.length*d.sz≤r*d.sz:=Nat.mul_le_mul_right _ u;rw[Nat.add_mul,Nat.one_mul] at Q;refine⟨fun i E=>?_,⟨xy c (j*d.sz) cs',fun q k=>if q=j then F' k∧k<w.heap.size else R q k,⟨by rw[tG,H,List.length_set],.inr ⟨S,r,(xy s.toList (j*d.sz) cs').toArray,by rw[List.length_set],j8 _,?_,by simpa using u,M,by simpa [tG] using O,?_⟩⟩,fun k p=>?_,?_,?_,?_⟩,C⟩
  ·have n:j*d.sz+i<s.size:=fT
   exact⟨by simp[World.cell?,D,n],by simp[World.frozen?,D]⟩
  ·exact rA _ _ _ _ D
  ·rw[List.length_set,uK,P]
  ·exact hG _ (T k p).1
  ·intro q k hq
   by_cases hqj:q=j
   ·subst hqj
    simp only[if_true] at hq;exact⟨hG' k hq.1,fun l=>by simp[Value.ownBlock] at l;subst l;exact hF' _ hq.1 y⟩
   ·simp only[if_neg hqj] at hq
    exact⟨hG k (m q k hq).1.1,(m q k hq).2⟩
  ·intro a b k t ha f
   by_cases haj:a=j
   ·subst haj
    simp only[if_true,if_neg (Ne.symm t)] at ha f;exact hF' k ha.1 (m b k f).1.1
   ·by_cases hbj:b=j
    ·subst hbj
     simp only[if_true,if_neg haj] at ha f;exact hF' k f.1 (m a k ha).1.1
    ·simp only[if_neg haj,if_neg hbj] at ha f
     exact U a b k t ha f
  ·intro q x hq
   by_cases hqj:q=j
   ·subst hqj
    simp only[List.getElem?_set_self hj,Option.some.injEq] at hq;subst hq;simp only[if_true];have o:((xy c (q*d.sz) cs').drop (q*d.sz)).take d.sz=cs':=by
     have l:c=c.take (q*d.sz)++(c.drop (q*d.sz)).take d.sz++(c.drop (q*d.sz)).drop d.sz:=by
      rw[List.append_assoc,List.take_append_drop,List.take_append_drop]
     have B:(c.take (q*d.sz)).length=q*d.sz:=by rw[List.length_take];omega
     have I:((c.drop (q*d.sz)).take d.sz).length=cs'.length:=by rw[List.length_take,List.length_drop];omega
     have J:=xz cs' ((c.drop (q*d.sz)).take d.sz) (c.take (q*d.sz)) ((c.drop (q*d.sz)).drop d.sz) I;rw[B,←l] at J;rw[J,List.append_assoc,List.drop_left' B,←hl',List.take_left]
    rw[o];exact d.move (fun k p=>C.block k p.2 (fun l=>hF' k p.1 (l▸y))) (d.bound hr)
   ·rw[List.getElem?_set_ne (Ne.symm hqj)] at hq
    simp only[if_neg hqj];have W:=V q x hq;have aa:(q+1)*d.sz≤xs.length*d.sz:=Nat.mul_le_mul_right _ (by have:=(List.getElem?_eq_some_iff.1 hq).1;omega);have X:((xy c (j*d.sz) cs').drop (q*d.sz)).take d.sz=(c.drop (q*d.sz)).take d.sz:=by
     apply List.ext_getElem?;intro i;rw[List.getElem?_take,List.getElem?_take];by_cases E:i<d.sz
     ·simp only[if_pos E,List.getElem?_drop]
      refine zU _ _ _ _ ?_;by_cases n:q<j
      ·have:(q+1)*d.sz≤j*d.sz:=Nat.mul_le_mul_right _ n
       rw[Nat.add_mul,Nat.one_mul] at this;left;omega
      ·have:(j+1)*d.sz≤q*d.sz:=Nat.mul_le_mul_right _ fT
       rw[Nat.add_mul,Nat.one_mul] at this;right;rw[hl'];omega
     ·simp only[if_neg E]
    rw[X];refine d.move (fun k z=>C.block k (m q k z).1.2 (fun l=>(m q k z).2 (by rw[l];rfl))) W
section
variable {P:Program} {ops:Array Oper} {rest:List Oper} {o:Oper} {a:Act} {W:World} {Q:Exit→Act→World→Prop}
theorem jP {α:Type} {d:Ty α} {e:TypeId} {F:Nat→Prop} {v:Value} {xs:List α} (hgd:o.guard=none) (ty:TypeId) (x y:Operand) (ho:o.op= .store ty x y)
  (HO:Ow d e W F v xs) {g:Nat} (hv:v.ownBlock=some g) (j:Nat) (hj:j<xs.length) (z:α) (cs':List Value) (F' G:Nat→Prop) (hr:d.rel W F' z cs') (hF':∀k,F' k→¬F k) (hG:∀k,F k→G k) (hG':∀k,F' k→G k)
  (hx:a.eval x= .pointer (some ⟨g,j*d.sz,none⟩)) (hy:a.eval y= .agg cs'.toArray) (hi:(P.info? ty).map (·.size)=some d.sz)
  (h:∀w1,Ow d e w1 G v (xs.set j z)→Ch (fun k=>k=g) W w1→wpList P ops Q rest (a.put o.dst undef) w1):wpList P ops Q (o::rest) a W:=by
 obtain⟨c,f,i⟩:=HO.setElem hv j hj z cs' F' G hr hF' hG hG';have b:=d.len hr;refine wpList_store_mid hgd ty x y ho g (j*d.sz) cs'.toArray hx hy (by simpa [b] using c) (by simpa [b] using hi) (all_oneCell_toArray (d.one hr)) ?_;exact h _ f i
theorem ma {α:Type} {d:Ty α} {e:TypeId} (hg:o.guard=none) (l c:Operand) (t:TypeId) (hop:o.op=Op.makeSlice t l c) (ht:P.underlying t=some (.slice e)) (z:Value) (bytes:Nat)
  (hinfo:(P.info? e).map (fun i=>(i.zero,i.size,i.bytes))=some (some z,d.sz,bytes)) (hz:∀u∈z.cells.toList,u.oneCell' =true) (hz0:z.cells.size=d.sz) (hs:0<d.sz) (kl kc:IntKind) (n:Nat) (hl:a.eval l= .int kl (n:Int)) (hc:a.eval c= .int kc (n:Int)) (hb:bytes*n≤281474976710656) (hn:n≤9223372036854775807)
  (h:∀w1,Ow (lO d) e w1 (fun k=>W.heap.size≤k) (.slice (some ⟨W.heap.size,0,none⟩) n n) (List.replicate n none)→Below W.heap.size W w1→wpList P ops Q rest (a.put o.dst (.slice (some ⟨W.heap.size,0,none⟩) n n)) w1):wpList P ops Q (o::rest) a W:=by
 obtain⟨i,v,y,A,B⟩:=info_parts hinfo;refine wpList_plain hg fun K p=>?_;obtain⟨G,m,s,F⟩:=run_make_full (P:=P) (w:=W) 0 t e i z d.sz ht v y A kl kc n (by rw[B];exact hb) (by unfold maxLen;omega) (j8 _);unfold Oper.wp;simp only[execOp,hop,hl,hc];rw[Sem.run_bind,m];simp only[Result.andThen_ok,Sem.run_pure,Oper.upon_value];refine p _ _ (h G ⟨_,fun _ _=>False,by rw[List.length_replicate];exact s,fun g hg=>by simp[Value.ownBlock] at hg;subst hg;exact jn _,fun _ _ h=>h.elim,fun _ _ _ _ h=>h.elim,fun j x q=>?_⟩ ((Ch.refl _ W).grown F (fun k C=>by cases C)).below0);have b:j<n:=by have:=(List.getElem?_eq_some_iff.1 q).1;simpa using this
 have E:x=none:=by
  have:=q;rw[List.getElem?_replicate,if_pos b] at this;exact(Option.some.inj this).symm
 subst E;have f:=s.1;have r:(j+1)*d.sz≤n*d.sz:=Nat.mul_le_mul_right _ b;rw[Nat.add_mul,Nat.one_mul] at r;show List.length _=d.sz∧_;refine⟨?_,fun u D=>qM hz (by rw[hz0];exact hs) _ u (List.mem_of_mem_drop (List.mem_of_mem_take D))⟩;rw[List.length_take,List.length_drop,f];show min d.sz (n*d.sz-j*d.sz)=d.sz;omega
end
end
theorem tS {B:Nat} {w W:World} (h:Below B w W):Below B w W.drew:=⟨h.os,h.tape,h.output,h.size,h.block⟩
theorem uA (n:Nat) (x:Value) (w:World):(method (n+1) 254 x "loop.example/slackwater/impl.do").run Tryz.prog w= .ok (208,x) w:=gY
theorem AR (n:Nat) (x:Value) (w:World):(method (n+1) 256 x "loop.example/slackwater/impl.do").run Tryz.prog w= .ok (209,x) w:=gY
theorem AU (n:Nat) (x:Value) (w:World):(method (n+1) 258 x "loop.example/slackwater/impl.do").run Tryz.prog w= .ok (210,x) w:=gY
theorem AS (n:Nat) (x:Value) (w:World):(method (n+1) 260 x "loop.example/slackwater/impl.do").run Tryz.prog w= .ok (211,x) w:=gY
theorem AT (n:Nat) (x:Value) (w:World):(method (n+1) 262 x "loop.example/slackwater/impl.do").run Tryz.prog w= .ok (212,x) w:=gY
theorem Cn (n:Nat) (x:Value) (w:World):(method (n+1) 263 x "loop.example/slackwater/impl.do").run Tryz.prog w= .ok (213,x) w:=gY
theorem yX (a b c e:Int) (w:World):
  Calls Tryz.prog 129 #[.agg #[.int .i64 1,a,b,c,e]] w fun q w' =>q= .returned (.iface 254 (.agg #[a,b,.bool true]))∧Below w.heap.size w w':=by
 go_enter Tryz.func129,Tryz.ntmps129;go_wp2_with fail
 go_region
 all_goals go_wp2_with fail
 all_goals go_ret
 all_goals exact⟨rfl,by repeat (first|exact gM _ _|refine tS ?_|refine gs ?_ _)⟩
theorem yY (a b c e:Int) (w:World):
  Calls Tryz.prog 129 #[.agg #[.int .i64 2,a,b,c,e]] w fun q w' =>q= .returned (.iface 256 (.agg #[a,b]))∧Below w.heap.size w w':=by
 go_enter Tryz.func129,Tryz.ntmps129;go_wp2_with fail
 all_goals go_ret
 all_goals exact⟨rfl,by repeat (first|exact gM _ _|refine tS ?_|refine gs ?_ _)⟩
theorem yZ (a b c e:Int) (w:World):
  Calls Tryz.prog 129 #[.agg #[.int .i64 3,a,b,c,e]] w fun q w' =>q= .returned (.iface 254 (.agg #[a,b,.bool false]))∧Below w.heap.size w w':=by
 go_enter Tryz.func129,Tryz.ntmps129;go_wp2_with fail
 go_region
 all_goals go_wp2_with fail
 all_goals go_ret
 all_goals exact⟨rfl,by repeat (first|exact gM _ _|refine tS ?_|refine gs ?_ _)⟩
theorem za (a b c e:Int) (w:World):
  Calls Tryz.prog 129 #[.agg #[.int .i64 4,a,b,c,e]] w fun q w' =>q= .returned (.iface 258 (.agg #[a]))∧Below w.heap.size w w':=by
 go_enter Tryz.func129,Tryz.ntmps129;go_wp2_with fail
 all_goals go_ret
 all_goals exact⟨rfl,by repeat (first|exact gM _ _|refine tS ?_|refine gs ?_ _)⟩
theorem zb (a b c e:Int) (w:World):
  Calls Tryz.prog 129 #[.agg #[.int .i64 5,a,b,c,e]] w fun q w' =>q= .returned (.iface 260 (.agg #[a,b,c]))∧Below w.heap.size w w':=by
 go_enter Tryz.func129,Tryz.ntmps129;go_wp2_with fail
 all_goals go_ret
 all_goals exact⟨rfl,by repeat (first|exact gM _ _|refine tS ?_|refine gs ?_ _)⟩
theorem zc (a b c e:Int) (w:World):
  Calls Tryz.prog 129 #[.agg #[.int .i64 6,a,b,c,e]] w fun q w' =>q= .returned (.iface 262 (.agg #[a,b,c,e]))∧Below w.heap.size w w':=by
 go_enter Tryz.func129,Tryz.ntmps129;go_wp2_with fail
 all_goals go_ret
 all_goals exact⟨rfl,by repeat (first|exact gM _ _|refine tS ?_|refine gs ?_ _)⟩
theorem zd (a b c e:Int) (w:World):
  Calls Tryz.prog 129 #[.agg #[.int .i64 7,a,b,c,e]] w fun q w' =>q= .returned (.iface 263 (.agg #[a]))∧Below w.heap.size w w':=by
 go_enter Tryz.func129,Tryz.ntmps129;go_wp2_with fail
 all_goals go_ret
 all_goals exact⟨rfl,by repeat (first|exact gM _ _|refine tS ?_|refine gs ?_ _)⟩
section
open Go.RowKit Go.Maps
theorem qz:Keyed Tryz.prog 3:=int_keyed Tryz.underlying3
theorem xt {x:Int} (h:i64 x):∃l,keyOf Tryz.prog 3 (.int .i64 x)=some l:=⟨_,keyOf_int_mk Tryz.underlying3 (qh h)⟩
def mF:Nat→List Value→List MapEntry
 |j,v::vs=>⟨.int .i64 (j:Int),v,j⟩::mF (j+1) vs
 |_,[]=>[]
theorem pO:∀(vs:List Value) (b j:Nat) (h:j<vs.length),(mF b vs)[j]? =some ⟨.int .i64 ((b+j:Nat):Int),vs[j],b+j⟩
 |v::vs,b,0,h=>by simp[mF]
 |v::vs,b,j+1,h=>by
  have:=pO vs (b+1) j (by simpa using h);simp only[mF,List.getElem?_cons_succ,List.getElem_cons_succ,this];rw[show b+1+j=b+(j+1) by omega]
theorem qv:∀(vs:List Value) (b:Nat),(mF b vs).length=vs.length
 | [],_=>rfl
 |v::vs,b=>by simp[mF,qv vs (b+1)]
theorem uf:∀(vs:List Value) (v:Value) (b:Nat),mF b (vs++[v])=mF b vs++[⟨.int .i64 ((b+vs.length:Nat):Int),v,b+vs.length⟩]
 | [],v,b=>by simp[mF]
 |x::vs,v,b=>by
  have:=uf vs v (b+1);simp only[List.cons_append,mF,this,List.length_cons];rw[show b+1+vs.length=b+(vs.length+1) by omega]
theorem ud {vs:List Value} (hl:vs.length≤1000):∀e∈mF 0 vs,∃l,keyOf Tryz.prog 3 e.key=some l:=fun e he=>by
 obtain⟨j,hj,rfl⟩:=List.getElem_of_mem he;have hj':j<vs.length:=by rw[←qv vs 0];exact hj
 have h:=pO vs 0 j hj';rw[pE hj] at h;rw[Option.some.inj h];exact xt ⟨fT,fT⟩
def og (vs:List Value):Obj:= .map (mF 0 vs).toArray vs.length
theorem Dr {w:World} {B:Nat} {vs:List Value} (h:w.heap[B]? =some (og vs)) (hl:vs.length≤1000) (j:Nat) (hj:j<vs.length):
  (Instr.lookup 245 (.map (some B)) (.int .i64 (j:Int)) false).run Tryz.prog w= .ok vs[j] w:=by
 have s:i64 (j:Int):=⟨fT,fT⟩;obtain⟨l,d⟩:=xt s;have r:=Tryz.underlying245;have o:=qz.check w (mF 0 vs).isEmpty d;have n:w.heap[B]? =some (.map (mF 0 vs).toArray vs.length):=h;unfold Instr.lookup;rcases qz.find w d (mF 0 vs) (ud hl) with ⟨f,b⟩|⟨i,e,f,b,g⟩
 ·have c:=b _ (List.mem_of_getElem? (pO vs 0 j hj))
  simp at c
 ·have q:i<vs.length:=by rw[←qv vs 0];exact(List.getElem?_eq_some_iff.1 b).1
  have c:=pO vs 0 i q;rw[b] at c;have k:=Option.some.inj c;rw[k] at g;simp at g;have m:i=j:=fT;subst m;have p:e.val=vs[i]:=by rw[k]
  simp[run_underlying r,Go.getObj,Sem.run,n,o,f,p]
theorem EI {w:World} {B:Nat} {vs:List Value} (h:w.heap[B]? =some (og vs)) (hl:vs.length≤1000) (v:Value):
  (Instr.mapUpdate 245 (.map (some B)) (.int .i64 (vs.length:Int)) v).run Tryz.prog w= .ok () (ln w B (og (vs++[v]))):=by
 have o:i64 (vs.length:Int):=⟨fT,fT⟩;obtain⟨l,a⟩:=xt o;have n:=Tryz.underlying245;have k:=qz.check w false a;have j:w.heap[B]? =some (.map (mF 0 vs).toArray vs.length):=h;have p:=(Array.getElem?_eq_some_iff.1 h).1;unfold Instr.mapUpdate;rcases qz.find w a (mF 0 vs) (ud hl) with ⟨c,b⟩|⟨i,e,c,b,d⟩
 ·simp[run_underlying n,Go.getObj,Go.setObj,Sem.run,j,k,c,ln,og,uf vs v 0]
 ·exfalso
  have m:i<vs.length:=by rw[←qv vs 0];exact(List.getElem?_eq_some_iff.1 b).1
  have f:=pO vs 0 i m;rw[b] at f;have g:=Option.some.inj f;rw[g] at d;simp at d;omega
def rl (g:Nat) (vs:List Value):tA:=⟨fun w F=>F g∧w.heap[g]? =some (og vs),fun h hm=>⟨h.1,(hm g h.1 (fx h.2)).trans h.2⟩,fun hF h=>⟨hF g h.1,h.2⟩,fun h=>⟨⟨h.1,fx h.2⟩,h.2⟩⟩
theorem FQ {w:World} {g:Nat} {a0 a1 a2 a3 a4 a5 a6 b0 b1 b2 b3 b4 b5 b6:Value} {t:TypeId} (h:w.heap[g]? =some (.cells #[a0,a1,a2,a3,a4,a5,a6] t (0,0))):
  (((((((w.setCell ⟨g,0,none⟩ b0).setCell ⟨g,1,none⟩ b1).setCell ⟨g,2,none⟩ b2).setCell ⟨g,3,none⟩ b3).setCell ⟨g,4,none⟩ b4).setCell ⟨g,5,none⟩ b5).setCell ⟨g,6,none⟩ b6).heap[g]? =some (.cells #[b0,b1,b2,b3,b4,b5,b6] t (0,0))∧Ch (fun k=>k=g) w (((((((w.setCell ⟨g,0,none⟩ b0).setCell ⟨g,1,none⟩ b1).setCell ⟨g,2,none⟩ b2).setCell ⟨g,3,none⟩ b3).setCell ⟨g,4,none⟩ b4).setCell ⟨g,5,none⟩ b5).setCell ⟨g,6,none⟩ b6):=by
 refine⟨?_,Ch.setCell (p:=⟨g,6,none⟩) (Ch.setCell (p:=⟨g,5,none⟩) (Ch.setCell (p:=⟨g,4,none⟩) (Ch.setCell (p:=⟨g,3,none⟩) (Ch.setCell (p:=⟨g,2,none⟩) (Ch.setCell (p:=⟨g,1,none⟩) (Ch.setCell (p:=⟨g,0,none⟩) (Ch.refl (fun k=>k=g) w) (Or.inl rfl) _) (Or.inl rfl) _) (Or.inl rfl) _) (Or.inl rfl) _) (Or.inl rfl) _) (Or.inl rfl) _) (Or.inl rfl) _⟩;have:=gJ (gJ (gJ (gJ (gJ (gJ (gJ h 0 b0) 1 b1) 2 b2) 3 b3) 4 b4) 5 b5) 6 b6;simpa only[List.setIfInBounds_toArray,List.set_cons_zero,List.set_cons_succ] using this
theorem Ck (n:gT) (vl vk vo vv vn:Value) (F:Nat→Prop) (w:World) (h:i4 w F vl vk vo vv vn n) (hf:lX n):
  Calls Tryz.prog 177 #[.agg #[n.id,n.up,n.inc,n.g,vl,vk,vo,n.led,n.version,vv,vn,n.round,n.low]] w fun q w' =>∃u,q= .returned (.agg #[n.id,n.inc,n.g,n.led,u,vk,vo])∧Ow nB 127 w' (fun k=>w.heap.size≤k) u (n.lanes.map (fun l=>l.base))∧Below w.heap.size w w':=by
 obtain⟨A1,c1,rfl,-⟩:=h.la.shape;obtain⟨b,f,rfl,-⟩:=h.ke.shape;obtain⟨c,j,rfl,-⟩:=h.ou.shape;obtain⟨A4,c4,rfl,-⟩:=h.vi.shape;obtain⟨A5,c5,rfl,-⟩:=h.kn.shape;obtain⟨W,hV,z,Z,ZR⟩:=FK w (.cells #[n.id,n.up,n.inc,n.g,.slice A1 n.lanes.length c1,.slice b n.kept.length f,.slice c n.outs.length j,n.led,n.version,.slice A4 n.views.length c4,.slice A5 n.known.length c5,n.round,n.low] 57) (.cells #[.int .i64 0,.int .i64 0,.int .i64 0,.int .i64 0,.slice none 0 0,.slice none 0 0,.slice none 0 0] 243);go_enter Tryz.func177,Tryz.ntmps177;go_upto_region 1 with fail;rw[hV.out];clear hV;replace h:=h.below z;have aE:=fx ZR;have P:w.heap.size<W.heap.size:=fx Z;obtain⟨d0,d1,d2,d3,d4,d5,d6,d7,d8,d9,D,E,G⟩:=jS Z;go_upto_region 2 with fail;have T:=(jy.nil W (fun k=>W.heap.size≤k)).cons (p:=ml W.heap.size #[n.id,n.inc,n.g,n.led,.slice none 0 0,.slice b n.kept.length f,.slice c n.outs.length j] 243) (gs (gM W.heap.size W) (.cells #[n.id,n.inc,n.g,n.led,.slice none 0 0,.slice b n.kept.length f,.slice c n.outs.length j] 243)) ⟨jn _,gL rfl⟩ (fun _ h=>h) (fun k S=>S);have o:=gs (gM W.heap.size W) (.cells #[n.id,n.inc,n.g,n.led,.slice none 0 0,.slice b n.kept.length f,.slice c n.outs.length j] 243);have U:=T.add (p:=ju nB 127 (.slice none 0 0) []) (gM _ _) (Ow.nil _ _ _ _) (fun _ h=>h) (fun k S=>ly o.size S);have a9:w.heap.size<W.heap.size:=P;obtain⟨go,O,X⟩:∃g,g=W.heap.size∧jy (W.alloc (.cells #[n.id,n.inc,n.g,n.led,.slice none 0 0,.slice b n.kept.length f,.slice c n.outs.length j] 243)) (fun k=>W.heap.size≤k) [ml g #[n.id,n.inc,n.g,n.led,.slice none 0 0,.slice b n.kept.length f,.slice c n.outs.length j] 243,ju nB 127 (.slice none 0 0) []]:=⟨_,rfl,U⟩;have aV:W.heap.size≤go:=Nat.le_of_eq O.symm;simp only[←O];have ZV:=fu o P Z;generalize W.alloc (.cells #[n.id,n.inc,n.g,n.led,.slice none 0 0,.slice b n.kept.length f,.slice c n.outs.length j] 243)=V at*;clear T U O d0 d1 d2 d3 d4 d5 d6 d7 d8 d9 D E G;obtain⟨d0,d1,d2,d3,d4,d5,d6,d7,d8,d9,D,E,G⟩:=jS ZV;have bl:=hf.lanes;go_wp2_with fail;clear d0 d1 d2 d3 d4 d5 d6 d7 d8 d9 D E G
 go_loopw [22] (fun i wr=>∃(k:Nat) (u:Value),i= .int .i64 k∧k≤n.lanes.length∧jy wr (fun k=>W.heap.size≤k) [ml go #[n.id,n.inc,n.g,n.led,u,.slice b n.kept.length f,.slice c n.outs.length j] 243,ju nB 127 u ((n.lanes.take k).map (fun l=>l.base))]∧Below W.heap.size W wr) (fun i _=>n.lanes.length-(intOf i).toNat)
 case atStart=>exact⟨0,_,rfl,j8 _,X,o⟩
 case round=>
  clear X o ZV;obtain⟨k,u,rfl,S,HS,L⟩:=hrel;obtain⟨a,r⟩:∃a,(n.lanes.take k).map (fun l=>l.base)=a:=⟨_,rfl⟩;rw[r] at HS;have ab:=fS r;have aJ:=fS (show a.length≤n.lanes.length by rw[←r,List.length_map,List.length_take];omega);clear r;obtain⟨s,m,hu,-⟩:=Ow.shape (HS.get 1 rfl);subst hu;have M:=L.size;have Q:=Ee HS;have bk:=fx Q;obtain⟨aM,aN,aO,aP,aQ,aR,aS⟩:=EV Q;by_cases hlt:k<n.lanes.length
  ·have p0:(k:Int)<(n.lanes.length:Int):=fT
   obtain⟨b0,o0,A6,c6,aT,bj,y0,⟨y1,y2,y3⟩,y4,r1⟩:=mr (h.la.below L) k hlt;subst aT;have aa:=fS (show(n.lanes.take (k+1)).map (fun l=>l.base)=a++[n.lanes[k].base] by rw[vX hlt,List.map_append,ab.out];rfl);obtain⟨x,hx⟩:∃x,n.lanes[k]=x:=⟨_,rfl⟩;rw[hx] at y0 y1 y2 y3 y4 r1 aa;clear hx r1;obtain⟨R,J,aD,-,am⟩:=HS.step 1 rfl;have I:Ow nB 127 wr R (.slice s a.length m) a:=J;clear J HS;go_wp2_with (at_builtin;(refine ky (d:=nB) rfl 48 rfl Tryz.underlying48 _ 24 tD rfl dc dc rfl ((I.alloc _).alloc _) x.base _ rfl (gL sm) (fun _=>False) rfl (fun _ hf=>hf.elim) (fun _ hf=>hf.elim) (by have:=aJ.out;omega) (fun q=>R q∨wr.heap.size≤q) (fun q hq=> .inl hq) (fun _ hf=>hf.elim) (fun q hq=> .inr (ly (by simp only[lb];omega) hq)) ?_;intro v9 w9 H aj aB;have t:Ch R wr w9:=Ch.grown (((Ch.refl R wr).alloc _).alloc _) aj (fun q hq=>Or.inl (I.inF hq));have Y:=am w9 (ju nB 127 v9 (a++[x.base])) (fun k=>W.heap.size≤k) t H (fun _ h=>h) (fun q hq=>ly M hq);have B9:=Ee Y;have bh:=ft B9;have ak:=L.trans (t.below (B:=W.heap.size) (fun q hq=>(aD q hq).1) M);obtain⟨ac,ad,ae,af,ag,ah,ai⟩:=EV B9;obtain⟨A,c9,aW,-⟩:=(show Ow nB 127 w9 _ v9 (a++[x.base]) from H).shape;subst aW;clear aB H t am I aj Q));have y:=Y.store (fun q hq=>ly ak.size hq) 4 (.slice A (a++[x.base]).length c9);simp only[qT,qU,qV] at y;have aC:=ak.setCell (p:=⟨go,4,none⟩) aV (.slice A (a++[x.base]).length c9);go_roundw
   case rel=>exact⟨k+1,.slice A (a++[x.base]).length c9,by go_num,fT,by rw[aa.out];simpa using y,by simpa using aC⟩
   case measure=>exact ms
  ·have al:k=n.lanes.length:=fT
   have HL:=fS (show a=n.lanes.map (fun l=>l.base) by rw[←ab.out,al,li]);have p0:¬(k:Int)<(n.lanes.length:Int):=fT;clear al;have C:=fu L aE ZR;have bi:=ft C;obtain⟨ac,ad,ae,af,ag,ah,ai⟩:=EV C;go_wp2_with fail;obtain⟨BR,CR⟩:=FQ (b0:= .int .i64 n.id) (b1:= .int .i64 n.inc) (b2:= .int .i64 n.g) (b3:= .int .i64 n.led) (b4:= .slice s a.length m) (b5:= .slice b n.kept.length f) (b6:= .slice c n.outs.length j) C;have aI:=HS.ch CR (fun q hq e=>by have h1:W.heap.size≤q:=hq;have h2:q=w.heap.size+1:=e;omega);have aU:=(fU z L z.size).trans (CR.below (B:=w.heap.size) (fun q hq=>by have h2:q=w.heap.size+1:=hq;omega) (ly z.size M));clear ac ad ae af ag ah ai aM aN aO aP aQ aR aS Q;generalize (((((((wr.setCell ⟨w.heap.size+1,0,none⟩ (.int .i64 n.id)).setCell ⟨w.heap.size+1,1,none⟩ (.int .i64 n.inc)).setCell ⟨w.heap.size+1,2,none⟩ (.int .i64 n.g)).setCell ⟨w.heap.size+1,3,none⟩ (.int .i64 n.led)).setCell ⟨w.heap.size+1,4,none⟩ (.slice s a.length m)).setCell ⟨w.heap.size+1,5,none⟩ (.slice b n.kept.length f)).setCell ⟨w.heap.size+1,6,none⟩ (.slice c n.outs.length j))=A at*;obtain⟨s0,s1,s2,s3,s4,s5,s6⟩:=EV BR;refine bodyPost_ret (v:= .agg #[n.id,n.inc,n.g,n.led,.slice s a.length m,.slice b n.kept.length f,.slice c n.outs.length j]) (by simp only[results,Tryz.results177];go_simp) rfl ⟨.slice s a.length m,rfl,?_,aU⟩;rw[←HL.out];exact Ow.mono (fun q hq=>ly z.size hq) (show Ow nB 127 A (fun k=>W.heap.size≤k) (.slice s a.length m) a from aI.get 1 rfl)
end
section
theorem Bj {P:Program} {ops:Array Oper} {Q:Exit→Act→World→Prop} {w0:World} {r:List Sg} {f:List Nat} {a:Act} {w:World} (h:∀a0,a0=a→m6 P ops Q w0 r f a0 w):m6 P ops Q w0 r f a w:=h a rfl
theorem Ow.setOne {α:Type} {d:Ty α} {e:TypeId} {w:World} {F:Nat→Prop} {v:Value} {xs:List α} (h:Ow d e w F v xs) (hs:d.sz=1) {g:Nat} (hv:v.ownBlock=some g) (j:Nat) (hj:j<xs.length) (x':α) (u:Value) (hr:d.rel w (fun _=>False) x' [u]):
  (∃u0,w.cell? ⟨g,j,none⟩=some u0)∧w.frozen? ⟨g,j,none⟩=false∧Ow d e (w.setCell ⟨g,j,none⟩ u) F v (xs.set j x')∧Ch (fun k=>k=g) w (w.setCell ⟨g,j,none⟩ u):=by
 obtain⟨b,c,f⟩:=h.setElem hv j hj x' [u] (fun _=>False) F hr (fun _ a=>a.elim) (fun _ i=>i) (fun _ a=>a.elim);rw[hs,Nat.mul_one] at b c f;have:=b 0 fT;exact⟨Option.isSome_iff_exists.1 this.1,this.2,c,f⟩
theorem Ow.setAll {α:Type} {d:Ty α} {e:TypeId} {F:Nat→Prop} {v:Value} (hs:d.sz=1) (f:α→Value) (hf:∀w x,d.rel w (fun _=>False) x [f x]) {g:Nat} (hv:v.ownBlock=some g):∀(zs:List α) (k:Nat) (w:World) (xs:List α),Ow d e w F v xs→k+zs.length≤xs.length→
  (∀j,j<zs.length→(w.cell? ⟨g,k+j,none⟩).isSome=true∧w.frozen? ⟨g,k+j,none⟩=false)∧Ow d e (w.setCells g k (zs.map f)) F v (xs.take k++zs++xs.drop (k+zs.length))∧Ch (fun k=>k=g) w (w.setCells g k (zs.map f))
 | [],k,w,xs,h,hl=>⟨fun j hj=>by simp at hj,by simpa [World.setCells] using h,Ch.refl _ _⟩
 |z::zs,k,w,xs,h,hl=>by
  simp only[List.length_cons] at hl;obtain⟨a1,a2,a3,a4⟩:=h.setOne hs hv k fT z (f z) (hf w z);obtain⟨b1,b2,b3⟩:=Ow.setAll hs f hf hv zs (k+1) (w.setCell ⟨g,k,none⟩ (f z)) (xs.set k z) a3 (by rw[List.length_set];omega);refine⟨fun j hj=>?_,?_,a4.trans b3⟩
  ·cases j with
   |zero=>exact⟨Option.isSome_iff_exists.2 a1,a2⟩
   |succ j=>
    have:=h.setOne hs hv (k+(j+1)) (by simp only[List.length_cons] at hj;omega) z (f z) (hf w z);exact⟨Option.isSome_iff_exists.2 this.1,this.2.1⟩
  ·have e1:(xs.set k z).take (k+1)=xs.take k++[z]:=by
    rw[vX (by rw[List.length_set];omega),List.getElem_set_self,List.take_set_of_le (jn _)]
   have a:(xs.set k z).drop (k+1+zs.length)=xs.drop (k+(zs.length+1)):=by
    rw[List.drop_set_of_lt fT,show k+1+zs.length=k+(zs.length+1) by omega]
   rw[e1,a] at b2;simpa [World.setCells] using b2
section
variable {P:Program} {o:Oper} {a:Act} {W:World} {K:Act→World→Prop} {Q:Exit→Act→World→Prop} {ops:Array Oper} {rest:List Oper}
theorem xA {e:TypeId} {F F':Nat→Prop} {ys:List (Option Int)} {xs:List Int} {n c c':Nat} {g:Nat} {A:Option Addr} (hgd:o.guard=none) (d s:Operand) (dT sT:TypeId) (ho:o.op= .call {callee:= .builtin .copy,args:= #[d,s],argTypes:= #[dT,sT]}) (hu:P.underlying dT=some (.slice e)) (hsz:(P.info? e).map (·.size)=some 1)
  (HO:Ow (lO (jQ .i64)) e W F (.slice (some ⟨g,0,none⟩) n c) ys) (hS:Rd (jQ .i64) W F' (.slice A xs.length c') xs) (hl:ys.length=xs.length) (hn:n=xs.length) (hp:0<xs.length) (hd:a.eval d= .slice (some ⟨g,0,none⟩) n c) (hs:a.eval s= .slice A xs.length c')
  (h:∀w1,Ow (jQ .i64) e w1 F (.slice (some ⟨g,0,none⟩) n c) xs→Ch (fun k=>k=g) W w1→wpList P ops Q rest (a.put o.dst (.int .i64 n)) w1):wpList P ops Q (o::rest) a W:=by
 refine wpList_plain hgd fun K hK=>?_;obtain⟨q,y,rfl,-,B,-⟩:=lY hS 0 hp;obtain⟨m,l,p⟩:=Ow.setAll (d:=lO (jQ .i64)) rfl (fun x=>match x with|some z=>Value.int .i64 z|none=> .int .i64 0) (fun w x=>by cases x<;>first|exact⟨rfl,by simp[Value.oneCell']⟩|rfl|exact Or.inl rfl) (g:=g) rfl (xs.map some) 0 W ys HO (by rw[List.length_map];omega);have i:=run_copy_cells (P:=P) W dT sT o.type e g 0 n c ⟨q,y,none⟩ xs.length c' (xs.map (Value.int .i64)) hu hsz (by rw[List.length_map,hn];exact(Nat.min_self _).symm) (fun j v b=>by
  have f:j<xs.length:=by have:=(List.getElem?_eq_some_iff.1 b).1;simpa using this
  obtain⟨C,D,t,-,-,z⟩:=lY hS j f;cases t;rw[List.getElem?_map,pE f] at b;cases b;rw[Addr.add_mid];exact z) (fun j b=>by simpa using (m j (by simpa using b)).1) (fun j b=>by simpa using (m j (by simpa using b)).2) (fun v u=>by
  obtain⟨z,-,rfl⟩:=List.mem_map.1 u;rfl)
 unfold Oper.wp;simp[execOp,ho,resolve,invoke,builtin,hd,hs,i,Result.andThen];rw[List.map_map] at l p;have r:((ys.take 0++xs.map some)++ys.drop (0+(xs.map some).length))=xs.map some:=by
  rw[List.length_map,List.drop_eq_nil_of_le fT];simp
 rw[r] at l;have:=h _ l.filled p;rw[hn] at this;exact hK _ _ this
theorem zJ {t:TypeId} (ho:o.op= .makeMap t none) (h:K (a.put o.dst (.map (some W.heap.size))) (W.alloc (.map #[] 0))):o.wp P a W K Q:=by
 unfold Oper.wp;simp only[execOp,ho];exact h
theorem Af {α:Type} {d:Ty α} {e:TypeId} (l c:Operand) (t:TypeId) (hop:o.op=Op.makeSlice t l c) (ht:P.underlying t=some (.slice e)) (z:Value) (bytes:Nat)
  (hinfo:(P.info? e).map (fun i=>(i.zero,i.size,i.bytes))=some (some z,d.sz,bytes)) (hz:∀u∈z.cells.toList,u.oneCell' =true) (hz0:z.cells.size=d.sz) (hs:0<d.sz) (kl kc:IntKind) (n:Nat) (hl:a.eval l= .int kl (n:Int)) (hc:a.eval c= .int kc (n:Int)) (hb:bytes*n≤281474976710656) (hn:n≤9223372036854775807)
  (h:∀w1,Ow (lO d) e w1 (fun k=>W.heap.size≤k) (.slice (some ⟨W.heap.size,0,none⟩) n n) (List.replicate n none)→Below W.heap.size W w1→K (a.put o.dst (.slice (some ⟨W.heap.size,0,none⟩) n n)) w1):o.wp P a W K Q:=by
 obtain⟨i,v,y,A,B⟩:=info_parts hinfo;obtain⟨G,m,s,F⟩:=run_make_full (P:=P) (w:=W) 0 t e i z d.sz ht v y A kl kc n (by rw[B];exact hb) (by unfold maxLen;omega) (j8 _);unfold Oper.wp;simp only[execOp,hop,hl,hc];rw[Sem.run_bind,m];simp only[Result.andThen_ok,Sem.run_pure,Oper.upon_value];refine h G ⟨_,fun _ _=>False,by rw[List.length_replicate];exact s,fun g p=>by simp[Value.ownBlock] at p;subst p;exact jn _,fun _ _ h=>h.elim,fun _ _ _ _ h=>h.elim,fun j x q=>?_⟩ ((Ch.refl _ W).grown F (fun k C=>by cases C)).below0;have b:j<n:=by have:=(List.getElem?_eq_some_iff.1 q).1;simpa using this
 have E:x=none:=by
  have:=q;rw[List.getElem?_replicate,if_pos b] at this;exact(Option.some.inj this).symm
 subst E;have f:=s.1;have r:(j+1)*d.sz≤n*d.sz:=Nat.mul_le_mul_right _ b;rw[Nat.add_mul,Nat.one_mul] at r;show List.length _=d.sz∧_;refine⟨?_,fun u D=>qM hz (by rw[hz0];exact hs) _ u (List.mem_of_mem_drop (List.mem_of_mem_take D))⟩;rw[List.length_take,List.length_drop,f];show min d.sz (n*d.sz-j*d.sz)=d.sz;omega
end
def Ac {α:Type} (d:Ty α):Ty (List α) where
 sz:=1
 rel:=fun w F xs cs=>∃v,cs=[v]∧Rd d w F v xs
 len:=fun ⟨v,h,_⟩=>by rw[h];rfl
 one:=fun ⟨v,h,h1⟩ u hu=>by
  obtain⟨A,c,rfl,_⟩:=h1;rw[h] at hu;simp only[List.mem_cons,List.not_mem_nil,or_false] at hu;rcases hu with rfl;rfl
 mono:=fun hF ⟨v,h,h1⟩=>⟨v,h,h1.mono hF⟩
 move:=fun hm ⟨v,h,h1⟩=>⟨v,h,h1.move hm⟩
 bound:=fun ⟨v,h,h1⟩=>⟨v,h,h1.bound⟩
def EZ (bl:Nat):List ow:=
 [(4,[],fun _ v w F=>(∃g,v= .slice (some ⟨g,0,none⟩) bl bl)∧Ow (lO (kF 1)) 128 w F v (List.replicate bl none)),
  (5,[],fun _ v w F=>∃g,v= .map (some g)∧F g∧w.heap[g]? =some (og [])),
  (6,[],fun _ v w F=>(∃g,v= .slice (some ⟨g,0,none⟩) 3 3)∧Ow (lO (jQ .i64)) 3 w F v (List.replicate 3 none))]
theorem At (bl:Nat):rt (EZ bl):=
 ⟨fun ds v w w' F ⟨h0,h⟩ hm=>⟨h0,Ow.move hm h⟩,fun ds v w w' F ⟨g,h1,h2,h3⟩ hm=>⟨g,h1,h2,(hm g h2).trans h3⟩,fun ds v w w' F ⟨h0,h⟩ hm=>⟨h0,Ow.move hm h⟩,trivial⟩
def F7 (bl:Nat):List pG:=[]
abbrev dl1:List (Nat×Option Tmp):=[(4,some 7),(5,some 8),(6,some 9)]
theorem BL (id inc g led:Int) (A:Option Addr) (bl c:Nat) (vk vo:Value) (w:World) (hbl:bl≤1000) (hk1:vk.oneCell' =true) (ho1:vo.oneCell' =true):
  Calls Tryz.prog 176 #[.agg #[id,inc,g,led,.slice A bl c,vk,vo]] w fun q w' =>∃gb gm gd gn,q= .returned (.pointer (some ⟨gb,0,none⟩))∧jy w' (fun k=>w.heap.size≤k) [ml gb #[id,inc,g,led,.slice A bl c,vk,vo,.bool false,.slice (some ⟨gd,0,none⟩) bl bl,.int .i64 0,.map (some gm),.slice (some ⟨gn,0,none⟩) 3 3,.int .i64 0,.int .i64 41] 247,rl gm [],ju (lO (kF 1)) 128 (.slice (some ⟨gd,0,none⟩) bl bl) (List.replicate bl none),ju (lO (jQ .i64)) 3 (.slice (some ⟨gn,0,none⟩) 3 3) (List.replicate 3 none)]∧Below w.heap.size w w':=by
 go_enter Tryz.func176,Tryz.ntmps176;go_upto_region 1 with fail;obtain⟨W,hV,C,Z⟩:=nC w (.cells #[id,inc,g,led,.slice A bl c,vk,vo] 243);rw[hV.out];clear hV;have an:w.heap.size<W.heap.size:=fx Z;obtain⟨d0,d1,d2,d3,d4,d5,d6⟩:=EV Z;refine kA [.rd [0,1,2,3],.par [(4,[]),(5,[]),(6,[])] []] [7,8,9] ?_;refine vL ?_;intro N hN;go_wp2_with fail;refine fV (hN _ ?_);clear hN N;refine Bj fun v t=>?_;have s6:=fS (show v.tmps[6]? =some (.int .i64 bl) by rw[t];rfl);have V:=fS (show ∀k,k<10→k<v.tmps.size from fun k a=>by rw[t];exact sF a (by show _≤Array.size _;simp));have J:=fS t;clear t;refine tI dl1 (by rfl) (fun _=>False) (NL (EZ bl)) (Al (F7 bl)) (fun _ _=>False) (rv _ gY) (tM _ gY) (ru _ (At bl)) (fun w' hc=>i3.of_ch hc (fun _ H=>H.elim)) sm sm sm (g6 ?_ (g6 ?_ (g6 ?_ nw))) ?_
 ·refine j0 (by rfl) (by rfl) ?_
  intro u f b m l hN hF n K hK;clear l hN hF n;have q6:=qo (dl:=dl1) (u:=u) s6.out;generalize iX dl1 v u=O at*;refine Af (d:=kF 1) (e:=128) (.tmp 6) (.tmp 6) _ rfl Tryz.underlying244 (.slice none 0 0) 24 gY dc rfl dc _ _ bl (kC q6) (kC q6) fT fT ?_;intro s z B;have o:NL (EZ bl) 4 (jd u 4 (.slice (some ⟨f.heap.size,0,none⟩) bl bl)) s (fun k=>f.heap.size≤k∧k<s.heap.size):=⟨⟨_,rfl⟩,z.bound⟩;exact hK _ (.slice (some ⟨f.heap.size,0,none⟩) bl bl) _ (fun k=>f.heap.size≤k∧k<s.heap.size) rfl (Ch.of_below B) o (fun k a=>⟨.inr a.1,a.2⟩) trivial
 ·refine j0 (by rfl) (by rfl) ?_
  intro u f b m l hN hF n K hK;clear l hN hF n;generalize iX dl1 v u=O at*;refine zJ rfl ?_;have o:NL (EZ bl) 5 (jd u 5 (.map (some f.heap.size))) (f.alloc (.map #[] 0)) (fun k=>k=f.heap.size):=⟨_,rfl,rfl,gL rfl⟩;exact hK _ (.map (some f.heap.size)) _ (fun k=>k=f.heap.size) rfl ((Ch.refl _ _).alloc _) o (fun k a=>by subst a;exact⟨.inr (jn _),by simp⟩) trivial
 ·refine j0 (by rfl) (by rfl) ?_
  intro u f b m l hN hF n K hK;clear l hN hF n;generalize iX dl1 v u=O at*;refine Af (d:=(jQ .i64)) (e:=3) (.const (.int .i64 3)) (.const (.int .i64 3)) _ rfl Tryz.underlying55 (.int .i64 0) 8 gY dc rfl dc _ _ 3 rfl rfl fT fT ?_;intro s z B;have o:NL (EZ bl) 6 (jd u 6 (.slice (some ⟨f.heap.size,0,none⟩) 3 3)) s (fun k=>f.heap.size≤k∧k<s.heap.size):=⟨⟨_,rfl⟩,z.bound⟩;exact hK _ (.slice (some ⟨f.heap.size,0,none⟩) 3 3) _ (fun k=>f.heap.size≤k∧k<s.heap.size) rfl (Ch.of_below B) o (fun k a=>⟨.inr a.1,a.2⟩) trivial
 intro K hK u r b m n hF hN U;obtain⟨⟨gd,P⟩,X⟩:(∃g,u 4= .slice (some ⟨g,0,none⟩) bl bl)∧Ow (lO (kF 1)) 128 r (b 4) (u 4) (List.replicate bl none):=hN 4 (by rfl);obtain⟨gm,e5,R,Y⟩:∃g,u 5= .map (some g)∧b 5 g∧r.heap[g]? =some (og []):=hN 5 (by rfl);obtain⟨⟨gn,Q⟩,n6⟩:(∃g,u 6= .slice (some ⟨g,0,none⟩) 3 3)∧Ow (lO (jQ .i64)) 3 r (b 6) (u 6) (List.replicate 3 none):=hN 6 (by rfl);have M:Below W.heap.size W r:=⟨m.below0.os,m.below0.tape,m.below0.output,m.below0.size,m.below0.block⟩;have L:i3 W.drew r:=i3.of_ch m (fun _ H=>H.elim);have D:∀j k,kj [(4,[]),(5,[]),(6,[])] [] j=true→b j k→W.heap.size≤k:=fun j k E a=>by rcases(hF j k E a).1 with q|q;exact q.elim;exact q
 have HS:jy r (fun k=>w.heap.size≤k) [rl gm [],ju (lO (kF 1)) 128 (u 4) (List.replicate bl none),ju (lO (jQ .i64)) 3 (u 6) (List.replicate 3 none)]:=by
  refine jy.of (fun i k=>if i=0 then b 5 k else if i=1 then b 4 k else b 6 k) (fun i k a=>?_) (fun i j k hi E F x y=>?_) (fun i p l=>?_)
  ·refine ly C.size ?_
   by_cases i0:i=0
   ·rw[if_pos i0] at a;exact D 5 k (by rfl) a
   ·rw[if_neg i0] at a
    by_cases i1:i=1
    ·rw[if_pos i1] at a;exact D 4 k (by rfl) a
    ·rw[if_neg i1] at a;exact D 6 k (by rfl) a
  ·have S:i<3:=hi
   have T:j<3:=E;have G:∀i j k,i<j→j<3→(if i=0 then b 5 k else if i=1 then b 4 k else b 6 k)→(if j=0 then b 5 k else if j=1 then b 4 k else b 6 k)→False:=fun i j k F E x y=>by
    have I:i=0∧j=1∨i=0∧j=2∨i=1∧j=2:=fT;rcases I with ⟨rfl,rfl⟩|⟨rfl,rfl⟩|⟨rfl,rfl⟩
    ·exact n 5 4 k (by rfl) (by rfl) dc x y
    ·exact n 5 6 k (by rfl) (by rfl) dc x y
    ·exact n 4 6 k (by rfl) (by rfl) dc x y
   rcases Nat.lt_or_gt_of_ne F with q|q
   ·exact G i j k q T x y
   ·exact G j i k q S y x
  ·match i,l with
   |0,l=>cases l;exact⟨R,Y⟩
   |1,l=>cases l;exact X
   |2,l=>cases l;exact n6
 clear hN hF n m U D X Y n6 R;rw[J.out];clear s6 V J v;simp only[jf,kE];rw[P,Q] at HS;generalize u 4=ao at*;generalize u 5=ap at*;generalize u 6=aq at*;subst P e5 Q;go_simp;refine hK _ _ L ?_;clear hK K b u L;refine vF ?_;clear d0 d1 d2 d3 d4 d5 d6;go_wp2_with fail;go_ret;exact⟨r.heap.size,gm,gd,gn,rfl,HS.cons (p:=ml r.heap.size #[id,inc,g,led,.slice A bl c,vk,vo,.bool false,.slice (some ⟨gd,0,none⟩) bl bl,.int .i64 0,.map (some gm),.slice (some ⟨gn,0,none⟩) 3 3,.int .i64 0,.int .i64 41] 247) (gs (gM _ _) _) ⟨jn _,gL rfl⟩ (fun _ h=>h) (fun k a=>ly C.size (ly M.size a)),fU C (gs M _) C.size⟩
end
end Go.Proofs.YtlndjfflhegkdaaGreatDoor
