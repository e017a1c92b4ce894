/- Parts of the proof: Ex2, Nd3, Imp5, Act. -/
import Derived.Test.YtgilllnjhahkfaaGreatQ17
set_option linter.unusedVariables false
set_option linter.unusedSimpArgs false
set_option linter.unusedSectionVars false
set_option maxHeartbeats 4000000
namespace Go.Proofs.YtgilllnjhahkfaaGreat
open Go.RowKit
set_option maxRecDepth 100000
section
def l8 {α:Type} (d:Ty α):Ty (Option α) where
 sz:=d.sz
 rel:=fun w F ox cs=>match ox with|some x=>d.rel w F x cs|none=>cs.length=d.sz∧∀u∈cs,u.oneCell' =true
 len:=fun {w F x cs} h=>by
  cases x with
  |none=>exact h.1
  |some x=>exact d.len h
 one:=fun {w F x cs} h=>by
  cases x with
  |none=>exact h.2
  |some x=>exact d.one h
 mono:=fun {w F F' x cs} hF h=>by
  cases x with
  |none=>exact h
  |some x=>exact d.mono hF h
 move:=fun {w w' F x cs} hm h=>by
  cases x with
  |none=>exact h
  |some x=>exact d.move hm h
 bound:=fun {w F x cs} h=>by
  cases x with
  |none=>exact h
  |some x=>exact d.bound h
theorem Ow.filled {α:Type} {d:Ty α} {e:TypeId} {w:World} {F:Nat→Prop} {v:Value} {xs:List α} (h:Ow (l8 d) e w F v (xs.map some)):Ow d e w F v xs:=by
 obtain⟨a,b,c,f,g,i,k⟩:=h;have h1':w.ownsRow 0 e d.sz v (xs.map some).length a:=c;rw[List.length_map] at h1';refine⟨a,b,h1',f,g,i,fun j x l=>?_⟩;have:=k j (some x) (by simp[l]);exact this
theorem sa:∀(vs l:List Value) (o q:Nat),(q<o∨o+vs.length≤q)→(tW l o vs)[q]? =l[q]?
 | [],_,_,_,_=>rfl
 |v::r,l,o,q,h=>by
  simp only[List.length_cons] at h;rw[tW,sa r _ _ _ gO,List.getElem?_set_ne gO]
theorem ro {zs:Array Value} (hz:∀u∈zs.toList,u.oneCell' =true) (h0:0<zs.size) (m:Nat):∀u∈(madeCells zs m).toList,u.oneCell' =true:=by
 intro u a;simp only[madeCells,Array.toList_map,List.mem_map] at a;obtain⟨i,_,rfl⟩:=a;have:i % zs.size<zs.size:=Nat.mod_lt _ h0;rw[getElem!_pos zs _ this];exact hz _ sm
theorem Ow.setElem {α:Type} {d:Ty α} {e:TypeId} {w:World} {F:Nat→Prop} {v:Value} {xs:List α} (h:Ow d e w F v xs) {g:Nat} (hv:v.ownBlock=some g) (j:Nat) (hj:j<xs.length) (x':α) (cs':List Value) (F' G:Nat→Prop)
  (hr:d.rel w F' x' cs') (hF':∀k,F' k→¬F k) (hG:∀k,F k→G k) (hG':∀k,F' k→G k):
  w.there g (j*d.sz) d.sz∧Ow d e (w.setCells g (j*d.sz) cs') G v (xs.set j x')∧Ch (fun k=>k=g) w (w.setCells g (j*d.sz) cs'):=by
 have C:Ch (fun k=>k=g) w (w.setCells g (j*d.sz) cs'):=Ch.setCells _ _ _ (Ch.refl _ _) (.inl rfl);have y:F g:=h.inF hv;have Y:=h.block_lt hv;obtain⟨c,R,L,T,m,U,V⟩:=h.bound;have H:=L.1;have hl':=d.len hr;rcases L.2 with ⟨rfl,_⟩|⟨S,r,s,rfl,hb,D,u,M,O,P⟩
 ·simp[Value.ownBlock] at hv
 ·simp only[Value.ownBlock,Option.some.injEq] at hv
  subst hv;have Q:(j+1)*d.sz≤xs.length*d.sz:=Nat.mul_le_mul_right _ gO;have Z:xs.length*d.sz≤r*d.sz:=Nat.mul_le_mul_right _ u;rw[Nat.add_mul,Nat.one_mul] at Q;refine⟨fun i E=>?_,⟨tW c (j*d.sz) cs',fun q k=>if q=j then F' k∧k<w.heap.size else R q k,⟨by rw[qU,H,List.length_set],.inr ⟨S,r,(tW s.toList (j*d.sz) cs').toArray,by rw[List.length_set],jP _,?_,by simpa using u,M,by simpa [qU] using O,?_⟩⟩,fun k p=>?_,?_,?_,?_⟩,C⟩
  ·have n:j*d.sz+i<s.size:=gO
   exact⟨by simp[World.cell?,D,n],by simp[World.frozen?,D]⟩
  ·exact lP _ _ _ _ D
  ·rw[List.length_set,rT,P]
  ·exact hG _ (T k p).1
  ·intro q k hq
   by_cases hqj:q=j
   ·subst hqj
    simp only[if_true] at hq;exact⟨hG' k hq.1,fun l=>by simp[Value.ownBlock] at l;subst l;exact hF' _ hq.1 y⟩
   ·simp only[if_neg hqj] at hq
    exact⟨hG k (m q k hq).1.1,(m q k hq).2⟩
  ·intro a b k t ha f
   by_cases haj:a=j
   ·subst haj
    simp only[if_true,if_neg (Ne.symm t)] at ha f;exact hF' k ha.1 (m b k f).1.1
   ·by_cases hbj:b=j
    ·subst hbj
     simp only[if_true,if_neg haj] at ha f;exact hF' k f.1 (m a k ha).1.1
    ·simp only[if_neg haj,if_neg hbj] at ha f
     exact U a b k t ha f
  ·intro q x hq
   by_cases hqj:q=j
   ·subst hqj
    simp only[List.getElem?_set_self hj,Option.some.injEq] at hq;subst hq;simp only[if_true];have o:((tW c (q*d.sz) cs').drop (q*d.sz)).take d.sz=cs':=by
     have l:c=c.take (q*d.sz)++(c.drop (q*d.sz)).take d.sz++(c.drop (q*d.sz)).drop d.sz:=by
      rw[List.append_assoc,List.take_append_drop,List.take_append_drop]
     have B:(c.take (q*d.sz)).length=q*d.sz:=by rw[List.length_take];omega
     have I:((c.drop (q*d.sz)).take d.sz).length=cs'.length:=by rw[List.length_take,List.length_drop];omega
     have J:=ug cs' ((c.drop (q*d.sz)).take d.sz) (c.take (q*d.sz)) ((c.drop (q*d.sz)).drop d.sz) I;rw[B,←l] at J;rw[J,List.append_assoc,List.drop_left' B,←hl',List.take_left]
    rw[o];exact d.move (fun k p=>C.block k p.2 (fun l=>hF' k p.1 (l▸y))) (d.bound hr)
   ·rw[List.getElem?_set_ne (Ne.symm hqj)] at hq
    simp only[if_neg hqj];have W:=V q x hq;have aa:(q+1)*d.sz≤xs.length*d.sz:=Nat.mul_le_mul_right _ (by have:=(List.getElem?_eq_some_iff.1 hq).1;omega);have X:((tW c (j*d.sz) cs').drop (q*d.sz)).take d.sz=(c.drop (q*d.sz)).take d.sz:=by
     apply List.ext_getElem?;intro i;rw[List.getElem?_take,List.getElem?_take];by_cases E:i<d.sz
     ·simp only[if_pos E,List.getElem?_drop]
      refine sa _ _ _ _ ?_;by_cases n:q<j
      ·have:(q+1)*d.sz≤j*d.sz:=Nat.mul_le_mul_right _ n
       rw[Nat.add_mul,Nat.one_mul] at this;left;omega
      ·have:(j+1)*d.sz≤q*d.sz:=Nat.mul_le_mul_right _ gO
       rw[Nat.add_mul,Nat.one_mul] at this;right;rw[hl'];omega
     ·simp only[if_neg E]
    rw[X];refine d.move (fun k z=>C.block k (m q k z).1.2 (fun l=>(m q k z).2 (by rw[l];rfl))) W
section
variable {P:Program} {ops:Array Oper} {rest:List Oper} {o:Oper} {a:Act} {W:World} {Q:Exit→Act→World→Prop}
theorem jv {α:Type} {d:Ty α} {e:TypeId} {F:Nat→Prop} {v:Value} {xs:List α} (hgd:o.guard=none) (ty:TypeId) (x y:Operand) (ho:o.op= .store ty x y)
  (HO:Ow d e W F v xs) {g:Nat} (hv:v.ownBlock=some g) (j:Nat) (hj:j<xs.length) (z:α) (cs':List Value) (F' G:Nat→Prop) (hr:d.rel W F' z cs') (hF':∀k,F' k→¬F k) (hG:∀k,F k→G k) (hG':∀k,F' k→G k)
  (hx:a.eval x= .pointer (some ⟨g,j*d.sz,none⟩)) (hy:a.eval y= .agg cs'.toArray) (hi:(P.info? ty).map (·.size)=some d.sz)
  (h:∀w1,Ow d e w1 G v (xs.set j z)→Ch (fun k=>k=g) W w1→wpList P ops Q rest (a.put o.dst undef) w1):wpList P ops Q (o::rest) a W:=by
 obtain⟨c,f,i⟩:=HO.setElem hv j hj z cs' F' G hr hF' hG hG';have b:=d.len hr;refine wpList_store_mid hgd ty x y ho g (j*d.sz) cs'.toArray hx hy (by simpa [b] using c) (by simpa [b] using hi) (all_oneCell_toArray (d.one hr)) ?_;exact h _ f i
theorem mg {α:Type} {d:Ty α} {e:TypeId} (hg:o.guard=none) (l c:Operand) (t:TypeId) (hop:o.op=Op.makeSlice t l c) (ht:P.underlying t=some (.slice e)) (z:Value) (bytes:Nat)
  (hinfo:(P.info? e).map (fun i=>(i.zero,i.size,i.bytes))=some (some z,d.sz,bytes)) (hz:∀u∈z.cells.toList,u.oneCell' =true) (hz0:z.cells.size=d.sz) (hs:0<d.sz) (kl kc:IntKind) (n:Nat) (hl:a.eval l= .int kl (n:Int)) (hc:a.eval c= .int kc (n:Int)) (hb:bytes*n≤281474976710656) (hn:n≤9223372036854775807)
  (h:∀w1,Ow (l8 d) e w1 (fun k=>W.heap.size≤k) (.slice (some ⟨W.heap.size,0,none⟩) n n) (List.replicate n none)→Below W.heap.size W w1→wpList P ops Q rest (a.put o.dst (.slice (some ⟨W.heap.size,0,none⟩) n n)) w1):wpList P ops Q (o::rest) a W:=by
 obtain⟨i,v,y,A,B⟩:=info_parts hinfo;refine wpList_plain hg fun K p=>?_;obtain⟨G,m,s,F⟩:=run_make_full (P:=P) (w:=W) 0 t e i z d.sz ht v y A kl kc n (by rw[B];exact hb) (by unfold maxLen;omega) (jP _);unfold Oper.wp;simp only[execOp,hop,hl,hc];rw[Sem.run_bind,m];simp only[Result.andThen_ok,Sem.run_pure,Oper.upon_value];refine p _ _ (h G ⟨_,fun _ _=>False,by rw[List.length_replicate];exact s,fun g hg=>by simp[Value.ownBlock] at hg;subst hg;exact j9 _,fun _ _ h=>h.elim,fun _ _ _ _ h=>h.elim,fun j x q=>?_⟩ ((Ch.refl _ W).grown F (fun k C=>by cases C)).below0);have b:j<n:=by have:=(List.getElem?_eq_some_iff.1 q).1;simpa using this
 have E:x=none:=by
  have:=q;rw[List.getElem?_replicate,if_pos b] at this;exact(Option.some.inj this).symm
 subst E;have f:=s.1;have r:(j+1)*d.sz≤n*d.sz:=Nat.mul_le_mul_right _ b;rw[Nat.add_mul,Nat.one_mul] at r;show List.length _=d.sz∧_;refine⟨?_,fun u D=>ro hz (by rw[hz0];exact hs) _ u (List.mem_of_mem_drop (List.mem_of_mem_take D))⟩;rw[List.length_take,List.length_drop,f];show min d.sz (n*d.sz-j*d.sz)=d.sz;omega
end
end
theorem hJ {w:World} {g:Nat} {v0 v1 v2 v3 v4 v5 v6 v7 v8 v9 v10 v11 v12:Value} {t:TypeId} {fr:Nat×Nat} (h:w.heap[g]? =some (.cells #[v0,v1,v2,v3,v4,v5,v6,v7,v8,v9,v10,v11,v12] t fr)):w.cell? ⟨g,0,none⟩=some v0∧w.cell? ⟨g,1,none⟩=some v1∧w.cell? ⟨g,2,none⟩=some v2∧w.cell? ⟨g,3,none⟩=some v3∧w.cell? ⟨g,4,none⟩=some v4∧w.cell? ⟨g,5,none⟩=some v5∧w.cell? ⟨g,6,none⟩=some v6∧w.cell? ⟨g,7,none⟩=some v7∧w.cell? ⟨g,8,none⟩=some v8∧w.cell? ⟨g,9,none⟩=some v9∧w.cell? ⟨g,10,none⟩=some v10∧w.cell? ⟨g,11,none⟩=some v11∧w.cell? ⟨g,12,none⟩=some v12:=⟨gM h 0,gM h 1,gM h 2,gM h 3,gM h 4,gM h 5,gM h 6,gM h 7,gM h 8,gM h 9,gM h 10,gM h 11,gM h 12⟩
structure Ev (col:Nat→Nat) (w:World) (F:Nat→Prop) (vl vk vo vv vn:Value) (n:gW):Prop where
 la:Ow iX 65 w (fun k=>F k∧col k=0) vl n.lanes
 ke:Ow iC 132 w (fun k=>F k∧col k=1) vk n.kept
 ou:Ow ii 120 w (fun k=>F k∧col k=2) vo n.outs
 vi:Ow jq 130 w (fun k=>F k∧col k=3) vv n.views
 kn:Ow (ja .i64) 3 w (fun k=>F k∧col k=4) vn n.known
def i9 (w:World) (F:Nat→Prop) (vl vk vo vv vn:Value) (n:gW):Prop:=∃col,Ev col w F vl vk vo vv vn n
theorem i9.rd {w:World} {F:Nat→Prop} {vl vk vo vv vn:Value} {n:gW} (h:i9 w F vl vk vo vv vn n):iA w F vl vk vo vv vn n:=by
 obtain⟨b,h⟩:=h;exact⟨h.la.rdLanes.mono (fun _ a=>a.1),h.ke.rd.mono (fun _ a=>a.1),h.ou.rd.mono (fun _ a=>a.1),h.vi.rdViews.mono (fun _ a=>a.1),h.kn.rd.mono (fun _ a=>a.1)⟩
theorem i9.mono {w:World} {F F':Nat→Prop} {vl vk vo vv vn:Value} {n:gW} (h:i9 w F vl vk vo vv vn n) (hF:∀k,F k→F' k):i9 w F' vl vk vo vv vn n:=by
 obtain⟨b,h⟩:=h;exact⟨b,h.la.mono (fun k a=>⟨hF k a.1,a.2⟩),h.ke.mono (fun k a=>⟨hF k a.1,a.2⟩),h.ou.mono (fun k a=>⟨hF k a.1,a.2⟩),h.vi.mono (fun k a=>⟨hF k a.1,a.2⟩),h.kn.mono (fun k a=>⟨hF k a.1,a.2⟩)⟩
theorem i9.keep {w w':World} {F:Nat→Prop} {vl vk vo vv vn:Value} {n:gW} (h:i9 w F vl vk vo vv vn n) (hm:∀k,F k→k<w.heap.size→w'.heap[k]? =w.heap[k]?):i9 w' F vl vk vo vv vn n:=by
 obtain⟨b,h⟩:=h;exact⟨b,h.la.keep (fun k a=>hm k a.1),h.ke.keep (fun k a=>hm k a.1),h.ou.keep (fun k a=>hm k a.1),h.vi.keep (fun k a=>hm k a.1),h.kn.keep (fun k a=>hm k a.1)⟩
theorem i9.below {w w':World} {F:Nat→Prop} {vl vk vo vv vn:Value} {n:gW} (h:i9 w F vl vk vo vv vn n) (hb:Below w.heap.size w w'):i9 w' F vl vk vo vv vn n:=h.keep fun k _ hk=>hb.block k hk
theorem i9.ch {S F:Nat→Prop} {w w':World} {vl vk vo vv vn:Value} {n:gW} (h:i9 w F vl vk vo vv vn n) (hc:Ch S w w') (hS:∀k,F k→¬S k):i9 w' F vl vk vo vv vn n:=h.keep fun k hk hlt=>hc.block k hlt (hS k hk)
theorem i9.of {w:World} {F:Nat→Prop} {vl vk vo vv vn:Value} {n:gW} {a0 b0 a1 b1 a2 b2 a3 b3 a4 b4:Nat}
  (h0:Ow iX 65 w (fun k=>a0≤k∧k<b0) vl n.lanes) (h1:Ow iC 132 w (fun k=>a1≤k∧k<b1) vk n.kept) (h2:Ow ii 120 w (fun k=>a2≤k∧k<b2) vo n.outs) (h3:Ow jq 130 w (fun k=>a3≤k∧k<b3) vv n.views) (h4:Ow (ja .i64) 3 w (fun k=>a4≤k∧k<b4) vn n.known)
  (hd:(b0≤a1∨b1≤a0)∧(b0≤a2∨b2≤a0)∧(b0≤a3∨b3≤a0)∧(b0≤a4∨b4≤a0)∧(b1≤a2∨b2≤a1)∧(b1≤a3∨b3≤a1)∧(b1≤a4∨b4≤a1)∧(b2≤a3∨b3≤a2)∧(b2≤a4∨b4≤a2)∧(b3≤a4∨b4≤a3))
  (hF:∀k,a0≤k∨a1≤k∨a2≤k∨a3≤k∨a4≤k→F k):i9 w F vl vk vo vv vn n:=
 ⟨fun k=>if a0≤k∧k<b0 then 0 else if a1≤k∧k<b1 then 1 else if a2≤k∧k<b2 then 2 else if a3≤k∧k<b3 then 3 else 4,
  h0.mono (fun k hk=>⟨hF k gO,by rw[if_pos hk]⟩),
  h1.mono (fun k hk=>⟨hF k gO,by rw[if_neg gO,if_pos hk]⟩),
  h2.mono (fun k hk=>⟨hF k gO,by rw[if_neg gO,if_neg gO,if_pos hk]⟩),
  h3.mono (fun k hk=>⟨hF k gO,by rw[if_neg gO,if_neg gO,if_neg gO,if_pos hk]⟩),
  h4.mono (fun k hk=>⟨hF k gO,by rw[if_neg gO,if_neg gO,if_neg gO,if_neg gO]⟩)⟩
theorem vV:(Tryz.prog.info? 217).map (fun i=>(i.zero,i.size,i.bytes))=some (some (.agg #[.int .i64 0,.int .i64 0,.int .i64 0,.int .i64 0,.int .i64 0,.int .i64 0,.int .i64 0]),7,56):=ie
theorem DT (g:Nat) (F:Nat→Prop) (v:Value) (l:List im) (x:im) (w:World) (h:ky iC 217 214 161 w g F v l) (hl:l.length≤1000):
  Calls Tryz.prog 163 #[.pointer (some ⟨g,0,none⟩),iZ x] w fun q w' =>q= .returned (.tuple #[])∧∃v' F',ky iC 217 214 161 w' g F' v' (mr hY l x)∧(∀k,F' k→F k∨w.heap.size≤k)∧Ch (fun k=>k=g∨F k) w w':=by
 obtain⟨A1,c1,rfl,m1⟩:=h.row.shape;unfold iZ;go_enter Tryz.func163,Tryz.ntmps163;go_wp2_with fail;have bc:=gL h.blk;have B0:=(ip (o:= .cells #[x.time,x.to,x.from_,x.count,x.n,x.kind,x.arg] 217) bc).trans h.blk;have BX:(w.alloc (.cells #[x.time,x.to,x.from_,x.count,x.n,x.kind,x.arg] 217)).heap[w.heap.size]? =some (.cells #[x.time,x.to,x.from_,x.count,x.n,x.kind,x.arg] 217):=gX rfl;have Z:=h.row.alloc (.cells #[x.time,x.to,x.from_,x.count,x.n,x.kind,x.arg] 217);have hC:=(Ch.refl (fun k=>k=g∨F k) w).alloc (.cells #[x.time,x.to,x.from_,x.count,x.n,x.kind,x.arg] 217);have ae:=h.apart;have bj:¬F w.heap.size:=fun L=>by have:=h.lt _ L;omega
 clear h;generalize w.alloc (.cells #[x.time,x.to,x.from_,x.count,x.n,x.kind,x.arg] 217)=W at*;have hs:=hC.size;have J:=nD B0;obtain⟨x0,x1,x2,x3,x4,x5,x6⟩:=yc BX;have aI:=gL B0;have bk:=gL BX;refine pP (fun w' =>yz F W w') (.take 0 (.take 1 (.take 2 (.take 3 (.take 4 (.take 5 (.one 6 (.one 7 (.take 8 (.take 9 (.one 10 (.nil)))))))))))) ie ie qP ?_;have HS:=(show yz F W W.drew from ⟨fun _ _ _=>rfl,j9 _⟩)
 iterate 6 refine Gj ?_
 refine yN (by rfl) (by rfl) (fun K hK=>?_);go_simp;refine hK _ _ (Or.inr ⟨fun k f hn=>(ip (by have:=HS.2;omega)).trans (HS.1 k f hn),jb HS.2 sm⟩) ?_;clear hK K;refine yN (by rfl) (by rfl) (fun K hK=>?_);refine kO (d:=iC) 212 (by rfl) Tryz.underlying212 _ 56 vV rfl dc dc (by rfl) ((Z.move (w':=W.drew) (fun _ _=>rfl)).alloc _) x _ (by rfl) (gX rfl) (fun _=>False) rfl (fun _ L=>L.elim) (fun _ L=>L.elim) gO (fun k=>F k∨w.heap.size≤k) (fun _ f=> .inl f) (fun _ L=>L.elim) (fun k f=> .inr (by first|omega|(simp at f;omega))) ?_;intro v3 w3 aa E aV;obtain⟨R,s,rfl,m3⟩:=aa.shape;have aD:Ch (fun k=>k=g∨F k) w w3:=((hC.drew).alloc _).grown E (fun k f=> .inl (.inr (Z.inF f)));have S:w3.heap[g]? =some (.cells #[.slice A1 l.length c1,.func (.func 161) #[] #[]] 214):=(E.block g (by simp;omega) (fun e=>ae (Z.inF e.symm))).trans ((ip (by simpa using aI)).trans B0);have X:yz F W w3:=⟨fun k f hn=>(E.block k (by simp;omega) (fun e=>hn (Z.inF e.symm))).trans (ip (by simpa using f)),by have:=E.size;simp at this;omega⟩;refine hK _ _ (Or.inr X) ?_;clear hK K HS;have HS:=X;clear X;go_simp
 iterate 2 refine Gj ?_
 have r:=nD S;have z:=ft S 0;refine yN (by rfl) (by rfl) (fun K hK=>?_);go_simp;refine hK _ _ (Or.inl ie) ?_;clear hK K r z;simp only[wN];have aE:¬(F g∨w.heap.size≤g):=fun hh=>hh.elim ae (fun h2=>gO);have c:=(aa.setCell (i:=0) S dc (.slice R (l++[x]).length s)).bound;have A:=aD.setCell (p:=⟨g,0,none⟩) (.inl (.inl rfl)) (.slice R (l++[x]).length s);have y:=gN S 0 (.slice R (l++[x]).length s);simp only[List.setIfInBounds_toArray,List.set_cons_zero] at y;have P:(l++[x]).length=l.length+1:=by simp
 rw[P] at c A y;have D:=gP (show mr hY l x=oI hY l.length (l++[x]) l.length from rfl);obtain⟨m0,ai⟩:∃m,m=l++[x]:=⟨_,rfl⟩;rw[←ai] at c P;rw[←ai] at D;have I:=gP P;have aK:l.length<m0.length:=gO;have ah:m0.length≤1001:=gO;clear ai P HS B0 BX Z hC ae bj J x0 x1 x2 x3 x4 x5 x6 aI bk hs aa E aV aD S m3;generalize w3.setCell ⟨g,0,none⟩ (.slice R (l.length+1) s)=V at*;obtain⟨J,a1⟩:=DA y;obtain⟨b,ab,aS,aG,aJ,aX,aW⟩:=c.head gO;obtain⟨rfl,rfl⟩:R=some ⟨b,0,none⟩∧s=ab:=by injection aG with u1 u2 u3;exact⟨u1,u3⟩
 clear aG aX aW aS;go_wp2_with fail
 go_loopw [4] (fun t wr=>∃(k:Nat) (m:List im),t= .int .i64 k∧k<m.length∧m.length≤1001∧Hid (m.length=l.length+1)∧wr.heap[g]? =some (.cells #[.slice (some ⟨b,0,none⟩) (l.length+1) s,.func (.func 161) #[] #[]] 214)∧Ow iC 217 wr (fun q=>(F q∨w.heap.size≤q)∧q<V.heap.size) (.slice (some ⟨b,0,none⟩) (l.length+1) s) m∧Ch (fun q=>q=g∨F q) w wr∧V.heap.size≤wr.heap.size∧Hid (mr hY l x=oI hY k m k)) (fun t _=>(intOf t).toNat)
 case atStart=>exact⟨l.length,m0,rfl,aK,ah,I,y,c,A,j9 _,D⟩
 case round=>
  clear y c A D I aK ah J a1;obtain⟨k,m,rfl,f,bd,I,y,c,A,ad,D⟩:=hrel;have M:∀{wz:World},wz.heap[g]? =some (.cells #[.slice (some ⟨b,0,none⟩) (l.length+1) s,.func (.func 161) #[] #[]] 214)→Ow iC 217 wz (fun q=>(F q∨w.heap.size≤q)∧q<V.heap.size) (.slice (some ⟨b,0,none⟩) (l.length+1) s) m→V.heap.size≤wz.heap.size→ky iC 217 214 161 wz g (fun q=>(F q∨w.heap.size≤q)∧q<V.heap.size) (.slice (some ⟨b,0,none⟩) (l.length+1) s) m:=fun r z e3=>⟨r,z,fun hh=>aE hh.1,fun q hq=>nk hq.2 e3⟩;obtain⟨J,a1⟩:=DA y;have ag:=gL y;by_cases h0:k=0
  ·have HE:=gP (show mr hY l x=m by rw[D.out,h0];rfl)
   have kd:decide ((k:Int)>0)=false:=iU gO;have kd':decide (0<k)=false:=iU gO;clear h0;go_wp2_with fail
   go_end0
   exact⟨rfl,_,(fun q=>(F q∨w.heap.size≤q)∧q<V.heap.size),by rw[HE.out];exact M y c ad,fun q hq=>hq.1,A⟩
  ·obtain⟨u,hu⟩:∃u,u=(k-1) / 2:=⟨_,rfl⟩
   have aM:((k:Int)-1) / 2=(u:Int):=gO;have bH:u<k:=gO;have B:u<m.length:=gO;have HU:=gP hu;have kd:decide ((k:Int)>0)=true:=jT gO;have kd':decide (0<k)=true:=jT gO;have p1:(1:Int)≤(k:Int):=gO;have p2:1≤k:=gO;have p3:(k:Int)<(l.length:Int)+1:=by have:=I.out;omega
   have p4:(u:Int)<(l.length:Int)+1:=by have:=I.out;omega
   clear h0 hu;go_upto_region 5 with fail;simp only[aM];clear aM;obtain⟨bb,oo,a,af,z0,z1,z2,z3,z4,z5,z6⟩:=jD (j:=k) c.rd f;injection a with a;injection a with r z _;subst r z;obtain⟨bb,oo,a,-,y0,y1,y2,y3,y4,y5,y6⟩:=jD (j:=u) c.rd B;injection a with a;injection a with r z _;subst r z;simp only[Nat.zero_add] at z0 z1 z2 z3 z4 z5 z6 y0 y1 y2 y3 y4 y5 y6;obtain⟨bt,H⟩:∃bt,hY m[k] m[u]=bt:=⟨_,rfl⟩;refine pP (fun w' =>Below wr.heap.size wr w') (.take 0 (.take 1 (.take 2 (.take 3 (.take 4 (.take 5 (.take 6 (.take 7 (.take 8 (.take 9 (.take 10 (.take 11 (.take 12 (.take 13 (.take 14 (.take 15 (.take 16 (.take 17 (.one 18 (.take 19 (.nil))))))))))))))))))))) ie ie qP ?_;have HS:=(gY wr.heap.size wr).drew
   iterate 18 refine FO ?_
   refine yN (by rfl) (by rfl) (fun K hK=>?_);go_simp;refine(qC m[k] m[u] _).mono ?_;rintro e C ⟨he,aH⟩;rw[H] at he;subst he;have U:=gV HS aH;refine hK _ _ (Or.inr U) ?_;clear hK K HS aH;have HS:=U;clear U
   iterate 1 refine FO ?_
   simp only[wN];have G:Ow iC 217 C (fun q=>(F q∨w.heap.size≤q)∧q<V.heap.size) (.slice (some ⟨b,0,none⟩) (l.length+1) s) m:=c.below HS;have T:=gJ HS ag y;have Y:=A.trans (Ch.of_below HS);have ac:=jb ad HS.size;clear c y A ad J a1 HS z0 z1 z2 z3 z4 z5 z6 y0 y1 y2 y3 y4 y5 y6 ag af;cases bt
   case false=>
    have HE:=gP (show mr hY l x=m by
     rw[D.out];obtain⟨k',rfl⟩:∃k',k=k'+1:=⟨k-1,gO⟩;rw[oI,if_neg gO,←HU.out,iP f,iP B,H];rfl)
    clear H;go_wp2_with fail
    go_end0
    exact⟨rfl,_,(fun q=>(F q∨w.heap.size≤q)∧q<V.heap.size),by rw[HE.out];exact M T G ac,fun q hq=>hq.1,Y⟩
   case true=>
    clear M;go_upto_region 6 with fail;have J:=nD T;have ba:=gL T;obtain⟨bb,oo,a,af,z0,z1,z2,z3,z4,z5,z6⟩:=jD (j:=k) G.rd f;injection a with a;injection a with r z _;subst r z;obtain⟨bb,oo,a,-,y0,y1,y2,y3,y4,y5,y6⟩:=jD (j:=u) G.rd B;injection a with a;injection a with r z _;subst r z;simp only[Nat.zero_add] at z0 z1 z2 z3 z4 z5 z6 y0 y1 y2 y3 y4 y5 y6;refine pX (fun w' =>Below C.heap.size C w') [3,8,13,16,20,23] (.pure 0 (.pure 1 (.pure 2 (.take 3 (.pure 4 (.pure 5 (.pure 6 (.pure 7 (.take 8 (.pure 9 (.pure 10 (.pure 11 (.pure 12 (.take 13 (.pure 14 (.pure 15 (.take 16 (.pure 17 (.pure 18 (.pure 19 (.take 20 (.pure 21 (.pure 22 (.take 23 (.one 24 (.one 25 (.one 26 (.one 27 (.nil))))))))))))))))))))))))))))) ie ie qP ?_;have HS:=(gY C.heap.size C).drew
    iterate 3 (refine mb (v:=?_) (by rfl) (by rfl) ?_ ?_;rotate_left;(focus (intro wS;go_simp;(try (with_reducible rfl));done));(intro K hK;go_simp;refine hK _ ?_;clear hK K))
    iterate 1 (refine ma (v:=?_) (by rfl) HS (by rfl) ?_ ?_;rotate_left;(focus (intro wS hS;obtain⟨kc,kf⟩:=kz hS;go_simp;(try (with_reducible rfl));done));(intro K hK;go_simp;refine hK _ ?_;clear hK K))
    iterate 4 (refine mb (v:=?_) (by rfl) (by rfl) ?_ ?_;rotate_left;(focus (intro wS;go_simp;(try (with_reducible rfl));done));(intro K hK;go_simp;refine hK _ ?_;clear hK K))
    iterate 1 (refine ma (v:=?_) (by rfl) HS (by rfl) ?_ ?_;rotate_left;(focus (intro wS hS;obtain⟨kc,kf⟩:=kz hS;go_simp;(try (with_reducible rfl));done));(intro K hK;go_simp;refine hK _ ?_;clear hK K))
    iterate 4 (refine mb (v:=?_) (by rfl) (by rfl) ?_ ?_;rotate_left;(focus (intro wS;go_simp;(try (with_reducible rfl));done));(intro K hK;go_simp;refine hK _ ?_;clear hK K))
    iterate 1 (refine ma (v:=?_) (by rfl) HS (by rfl) ?_ ?_;rotate_left;(focus (intro wS hS;obtain⟨kc,kf⟩:=kz hS;go_simp;(try (with_reducible rfl));done));(intro K hK;go_simp;refine hK _ ?_;clear hK K))
    iterate 2 (refine mb (v:=?_) (by rfl) (by rfl) ?_ ?_;rotate_left;(focus (intro wS;go_simp;(try (with_reducible rfl));done));(intro K hK;go_simp;refine hK _ ?_;clear hK K))
    iterate 1 (refine ma (v:=?_) (by rfl) HS (by rfl) ?_ ?_;rotate_left;(focus (intro wS hS;obtain⟨kc,kf⟩:=kz hS;go_simp;(try (with_reducible rfl));done));(intro K hK;go_simp;refine hK _ ?_;clear hK K))
    iterate 3 (refine mb (v:=?_) (by rfl) (by rfl) ?_ ?_;rotate_left;(focus (intro wS;go_simp;(try (with_reducible rfl));done));(intro K hK;go_simp;refine hK _ ?_;clear hK K))
    iterate 1 (refine ma (v:=?_) (by rfl) HS (by rfl) ?_ ?_;rotate_left;(focus (intro wS hS;obtain⟨kc,kf⟩:=kz hS;go_simp;(try (with_reducible rfl));done));(intro K hK;go_simp;refine hK _ ?_;clear hK K))
    iterate 2 (refine mb (v:=?_) (by rfl) (by rfl) ?_ ?_;rotate_left;(focus (intro wS;go_simp;(try (with_reducible rfl));done));(intro K hK;go_simp;refine hK _ ?_;clear hK K))
    iterate 1 (refine ma (v:=?_) (by rfl) HS (by rfl) ?_ ?_;rotate_left;(focus (intro wS hS;obtain⟨kc,kf⟩:=kz hS;go_simp;(try (with_reducible rfl));done));(intro K hK;go_simp;refine hK _ ?_;clear hK K))
    refine sl (by rfl) (by rfl) (fun K hK=>?_);go_simp;refine hK _ _ (Or.inl ie) ?_;clear hK K;have aF:Ow iC 217 C.drew (fun q=>(F q∨w.heap.size≤q)∧q<V.heap.size) (.slice (some ⟨b,0,none⟩) (l.length+1) s) m:=G.below HS;obtain⟨s1,s2,s3⟩:=aF.setAt (g:=b) rfl k f m[u];refine sl (by rfl) (by rfl) (fun K hK=>?_);refine wp_store_mid 217 (.tmp 71) (.tmp 63) (by rfl) b (k*7) (im.cells m[u]).toArray (by rfl) (by rfl) s1 ie (by simp[im.cells,Value.oneCell']) ?_;refine hK _ _ (Or.inl ie) ?_;clear hK K s1;simp only[List.toList_toArray];generalize C.drew.setCells b (k*7) (im.cells m[u])=Wa at*;go_simp;refine sl (by rfl) (by rfl) (fun K hK=>?_);go_simp;refine hK _ _ (Or.inl ie) ?_;clear hK K;obtain⟨q1,q2,q3⟩:=s2.setAt (g:=b) rfl u (by simpa using B) m[k];refine sl (by rfl) (by rfl) (fun K hK=>?_);refine wp_store_mid 217 (.tmp 72) (.tmp 70) (by rfl) b (u*7) (im.cells m[k]).toArray (by rfl) (by rfl) q1 ie (by simp[im.cells,Value.oneCell']) ?_;refine hK _ _ (Or.inl ie) ?_;clear hK K;have bg:g≠b:=fun r=>aE (r▸aJ.1);have O:Ch (fun q=>q=b) C.drew (Wa.setCells b (u*7) (im.cells m[k])):=s3.trans q3;have a4:=O.heap (show C.drew.heap[g]? =_ from T) bg;have a8:Ch (fun q=>q=g∨F q) w (Wa.setCells b (u*7) (im.cells m[k])):=(Y.drew).then O (fun q hq=>by
     have hq':q=b:=hq;subst hq';rcases aJ.1 with h1|h1
     ·exact .inl (.inr h1)
     ·exact .inr h1)
    have a9:V.heap.size≤(Wa.setCells b (u*7) (im.cells m[k])).heap.size:=jb ac O.size;have aL:(m.set k m[u]).set u m[k]=pa m k u:=by rw[pa,iP f,iP B]
    rw[aL] at q2;have Q:(pa m k u).length=m.length:=le m k u;have a5:=gP (show(pa m k u).length=l.length+1 by rw[Q];exact I.out);have a6:=gP (show mr hY l x=oI hY u (pa m k u) u by
     rw[D.out];obtain⟨k',rfl⟩:∃k',k=k'+1:=⟨k-1,gO⟩;rw[oI,if_neg gO,←HU.out,iP f,iP B,if_pos H];exact uS _ _ _ _ gO (j9 _))
    have bi:u<(pa m k u).length:=by rw[Q];exact B
    have bf:(pa m k u).length≤1001:=by rw[Q];exact bd
    clear H G T Y ac HS aF s2 s3 q1 q3 O aL Q z0 z1 z2 z3 z4 z5 z6 y0 y1 y2 y3 y4 y5 y6 J D I ba af;simp only[List.toList_toArray];generalize Wa.setCells b (u*7) (im.cells m[k])=W6 at*;go_simp;simp only[wI];go_wp2_with fail;go_roundw
    case rel=>exact⟨u,_,rfl,bi,bf,a5,a4,q2,a8,a9,a6⟩
    case measure=>exact ms
theorem uD {B:Nat} {w W:World} (h:Below B w W):Below B w W.drew:=⟨h.os,h.tape,h.output,h.size,h.block⟩
theorem vW (n:Nat) (x:Value) (w:World):(method (n+1) 241 x "loop.example/slackwater/impl.do").run Tryz.prog w= .ok (215,x) w:=ie
theorem CH (n:Nat) (x:Value) (w:World):(method (n+1) 243 x "loop.example/slackwater/impl.do").run Tryz.prog w= .ok (216,x) w:=ie
theorem BQ (n:Nat) (x:Value) (w:World):(method (n+1) 245 x "loop.example/slackwater/impl.do").run Tryz.prog w= .ok (217,x) w:=ie
theorem BK (n:Nat) (x:Value) (w:World):(method (n+1) 247 x "loop.example/slackwater/impl.do").run Tryz.prog w= .ok (218,x) w:=ie
theorem CM (n:Nat) (x:Value) (w:World):(method (n+1) 249 x "loop.example/slackwater/impl.do").run Tryz.prog w= .ok (219,x) w:=ie
theorem Eb (n:Nat) (x:Value) (w:World):(method (n+1) 250 x "loop.example/slackwater/impl.do").run Tryz.prog w= .ok (220,x) w:=ie
theorem AA (a b c e:Int) (w:World):
  Calls Tryz.prog 160 #[.agg #[.int .i64 1,a,b,c,e]] w fun q w' =>q= .returned (.iface 241 (.agg #[a,b,.bool true]))∧Below w.heap.size w w':=by
 go_enter Tryz.func160,Tryz.ntmps160;go_wp2_with fail
 go_region
 all_goals go_wp2_with fail
 all_goals go_ret
 all_goals exact⟨rfl,by repeat (first|exact gY _ _|refine uD ?_|refine gU ?_ _)⟩
theorem Ao (a b c e:Int) (w:World):
  Calls Tryz.prog 160 #[.agg #[.int .i64 2,a,b,c,e]] w fun q w' =>q= .returned (.iface 243 (.agg #[a,b]))∧Below w.heap.size w w':=by
 go_enter Tryz.func160,Tryz.ntmps160;go_wp2_with fail
 all_goals go_ret
 all_goals exact⟨rfl,by repeat (first|exact gY _ _|refine uD ?_|refine gU ?_ _)⟩
theorem Ac (a b c e:Int) (w:World):
  Calls Tryz.prog 160 #[.agg #[.int .i64 3,a,b,c,e]] w fun q w' =>q= .returned (.iface 241 (.agg #[a,b,.bool false]))∧Below w.heap.size w w':=by
 go_enter Tryz.func160,Tryz.ntmps160;go_wp2_with fail
 go_region
 all_goals go_wp2_with fail
 all_goals go_ret
 all_goals exact⟨rfl,by repeat (first|exact gY _ _|refine uD ?_|refine gU ?_ _)⟩
theorem Af (a b c e:Int) (w:World):
  Calls Tryz.prog 160 #[.agg #[.int .i64 4,a,b,c,e]] w fun q w' =>q= .returned (.iface 245 (.agg #[a]))∧Below w.heap.size w w':=by
 go_enter Tryz.func160,Tryz.ntmps160;go_wp2_with fail
 all_goals go_ret
 all_goals exact⟨rfl,by repeat (first|exact gY _ _|refine uD ?_|refine gU ?_ _)⟩
theorem zW (a b c e:Int) (w:World):
  Calls Tryz.prog 160 #[.agg #[.int .i64 5,a,b,c,e]] w fun q w' =>q= .returned (.iface 247 (.agg #[a,b,c]))∧Below w.heap.size w w':=by
 go_enter Tryz.func160,Tryz.ntmps160;go_wp2_with fail
 all_goals go_ret
 all_goals exact⟨rfl,by repeat (first|exact gY _ _|refine uD ?_|refine gU ?_ _)⟩
theorem AP (a b c e:Int) (w:World):
  Calls Tryz.prog 160 #[.agg #[.int .i64 6,a,b,c,e]] w fun q w' =>q= .returned (.iface 249 (.agg #[a,b,c,e]))∧Below w.heap.size w w':=by
 go_enter Tryz.func160,Tryz.ntmps160;go_wp2_with fail
 all_goals go_ret
 all_goals exact⟨rfl,by repeat (first|exact gY _ _|refine uD ?_|refine gU ?_ _)⟩
theorem Al (a b c e:Int) (w:World):
  Calls Tryz.prog 160 #[.agg #[.int .i64 7,a,b,c,e]] w fun q w' =>q= .returned (.iface 250 (.agg #[a]))∧Below w.heap.size w w':=by
 go_enter Tryz.func160,Tryz.ntmps160;go_wp2_with fail
 all_goals go_ret
 all_goals exact⟨rfl,by repeat (first|exact gY _ _|refine uD ?_|refine gU ?_ _)⟩
end Go.Proofs.YtgilllnjhahkfaaGreat
