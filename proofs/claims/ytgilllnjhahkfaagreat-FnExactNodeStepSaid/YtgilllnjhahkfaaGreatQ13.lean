/- Parts of the proof: Store, Do, Rec, Ex5, Ex7. -/
import Derived.RegionTactic
import Derived.Defers
import Derived.Recover
import Derived.Laws.Pointers
import Derived.Deep.Slices
import Derived.Test.YtgilllnjhahkfaaGreatQ07
import Derived.Test.YtgilllnjhahkfaaGreatQ08
import Derived.Test.YtgilllnjhahkfaaGreatQ11
set_option linter.unusedVariables false
set_option linter.unusedSimpArgs false
set_option linter.unusedSectionVars false
set_option maxHeartbeats 4000000
namespace Go.Proofs.YtgilllnjhahkfaaGreat
open Go.RowKit
section
def tW (l:List Value):Nat→List Value→List Value
 |_,[]=>l
 |o,v::r=>tW (l.set o v) (o+1) r
theorem qU:∀(vs l:List Value) (o:Nat),(tW l o vs).length=l.length
 | [],_,_=>rfl
 |v::r,l,o=>by rw[tW,qU r];simp
theorem ug:∀(vs b a c:List Value),b.length=vs.length→tW (a++b++c) a.length vs=a++vs++c
 | [],b,a,c,h=>by
  have:b=[]:=by simpa using h
  subst this;rfl
 |v::r,[],a,c,h=>by simp at h
 |v::r,u::b,a,c,h=>by
  have:=ug r b (a++[v]) c (by simpa using h);rw[tW,show(a++u::b++c).set a.length v=(a++[v])++b++c by simp[List.set_append],←(by simp:(a++[v]).length=a.length+1),this];simp
theorem rT:∀(vs l:List Value) (o n:Nat),(tW l o vs).take n=tW (l.take n) o vs
 | [],_,_,_=>rfl
 |v::r,l,o,n=>by rw[tW,tW,rT r,List.take_set]
theorem lP {g:Nat} {t:TypeId} {fr:Nat×Nat}:∀(vs:List Value) (o:Nat) (w:World) (cur:List Value),w.heap[g]? =some (.cells cur.toArray t fr)→(w.setCells g o vs).heap[g]? =some (.cells (tW cur o vs).toArray t fr)
 | [],_,_,_,h=>h
 |v::r,o,w,cur,h=>by
  rw[World.setCells,tW];exact lP r (o+1) _ _ (by rw[gN h];simp)
theorem Ch.setCells {S:Nat→Prop} {w:World} {g:Nat}:∀(vs:List Value) (o:Nat) (w1:World),Ch S w w1→(S g∨w.heap.size≤g)→Ch S w (w1.setCells g o vs)
 | [],_,_,h,_=>h
 |v::r,o,w1,h,hg=>Ch.setCells r (o+1) _ (h.setCell (p:=⟨g,o,none⟩) hg v) hg
theorem lb {g:Nat}:∀(vs:List Value) (o:Nat) (w:World),(w.setCells g o vs).heap.size=w.heap.size
 | [],_,_=>rfl
 |v::r,o,w=>by rw[World.setCells,lb r];simp
theorem DL {α:Type} {cells:α→List Value} {sz:Nat} (hl:∀x,(cells x).length=sz) (xs:List α) (j:Nat) (hj:j<xs.length) (x:α):tW (xs.flatMap cells) (j*sz) (cells x)=(xs.set j x).flatMap cells:=by
 have a:xs=xs.take j++xs[j]::xs.drop (j+1):=by simp
 have b:((xs.take j).flatMap cells).length=j*sz:=by rw[mW hl,List.length_take,Nat.min_eq_left gO]
 have c:xs.set j x=xs.take j++x::xs.drop (j+1):=by rw[List.set_eq_take_append_cons_drop,if_pos hj]
 rw[c]
 conv=>lhs;rw[a]
 simp only[List.flatMap_append,List.flatMap_cons,←b,←List.append_assoc];exact ug (cells x) (cells xs[j]) _ _ (by rw[hl,hl])
theorem Ow.setAt {α:Type} {cells:α→List Value} {sz:Nat} {hl:∀x,(cells x).length=sz} {ho:∀x,∀u∈cells x,u.oneCell' =true} {e:TypeId} {w:World} {F:Nat→Prop} {v:Value} {xs:List α}
  (h:Ow (k7 cells sz hl ho) e w F v xs) {g:Nat} (hv:v.ownBlock=some g) (j:Nat) (hj:j<xs.length) (x:α):
  w.there g (j*sz) sz∧Ow (k7 cells sz hl ho) e (w.setCells g (j*sz) (cells x)) F v (xs.set j x)∧Ch (fun k=>k=g) w (w.setCells g (j*sz) (cells x)):=by
 have s:=h.flatRow;have hF:∀k,v.ownBlock=some k→F k:=fun k r=>h.inF r;obtain⟨t,f⟩:=s;rcases f with ⟨rfl,f⟩|⟨q,d,a,rfl,y,c,l,m,b,n⟩
 ·simp[Value.ownBlock] at hv
 ·simp only[Value.ownBlock,Option.some.injEq] at hv
  subst hv;have o:(j+1)*sz≤a.size:=by rw[b];exact Nat.mul_le_mul_right _ gO
  rw[Nat.add_mul,Nat.one_mul] at o;refine⟨fun i z=>?_,?_,Ch.setCells _ _ _ (Ch.refl _ _) (.inl rfl)⟩
  ·have p:j*sz+i<a.size:=gO
   exact⟨by simp[World.cell?,c,p],by simp[World.frozen?,c]⟩
  ·refine Ow.of_flat (base:=0) ⟨?_,.inr ⟨q,d,(tW a.toList (j*sz) (cells x)).toArray,?_,jP _,?_,?_,m,?_,?_⟩⟩ hF
   ·rw[mW hl]
   ·rw[List.length_set]
   ·exact lP _ _ _ _ c
   ·simpa using l
   ·simp[qU,b]
   ·rw[List.length_set,rT,n]
    exact DL hl xs j hj x
variable {P:Program} {ops:Array Oper} {rest:List Oper} {o:Oper} {a:Act} {W:World} {Q:Exit→Act→World→Prop} {K:Act→World→Prop}
theorem ne {α:Type} {cells:α→List Value} {sz:Nat} {hl:∀x,(cells x).length=sz} {ho1:∀x,∀u∈cells x,u.oneCell' =true} {e:TypeId} {F:Nat→Prop} {v:Value} {xs:List α} (hgd:o.guard=none) (ty:TypeId) (x y:Operand) (ho:o.op= .store ty x y)
  (HO:Ow (k7 cells sz hl ho1) e W F v xs) {g:Nat} (hv:v.ownBlock=some g) (j:Nat) (hj:j<xs.length) (z:α) (hx:a.eval x= .pointer (some ⟨g,j*sz,none⟩)) (hy:a.eval y= .agg (cells z).toArray)
  (hi:(P.info? ty).map (·.size)=some sz)
  (h:∀w1,Ow (k7 cells sz hl ho1) e w1 F v (xs.set j z)→Ch (fun k=>k=g) W w1→wpList P ops Q rest (a.put o.dst undef) w1):wpList P ops Q (o::rest) a W:=by
 obtain⟨b,c,d⟩:=HO.setAt hv j hj z;refine wpList_store_mid hgd ty x y ho g (j*sz) (cells z).toArray hx hy (by simpa [hl] using b) (by simpa [hl] using hi) (all_oneCell_toArray (ho1 z)) ?_;exact h _ c d
end
set_option maxRecDepth 100000
def j5 (c:Int) (e:im) (r:iI) (sv ov:Value):Array Value:=
 #[.int .i64 r.x,.int .i64 r.y,.int .i64 e.time,.int .i64 e.to,.int .i64 e.from_,.int .i64 e.count,.int .i64 e.n,.int .i64 e.kind,.int .i64 e.arg,.int .i64 c,sv,ov]
structure mJ (w:World) (g B:Nat) (c:Int) (e:im) (r:iI) (sv ov:Value):Prop where
 blk:w.heap[g]? =some (.cells (j5 c e r sv ov) 205 (0,0))
 ge:B≤g
 sends:Ow iC 132 w (fun k=>B≤k) sv r.sends
 outs:Ow ii 120 w (fun k=>B≤k) ov r.outs
theorem mJ.set {w:World} {g B:Nat} {c:Int} {e:im} {r r':iI} {sv ov:Value} (h:mJ w g B c e r sv ov) (i:Nat) (u:Value) (hc:(j5 c e r sv ov).setIfInBounds i u=j5 c e r' sv ov) (hs:r'.sends=r.sends) (ho:r'.outs=r.outs):mJ (w.setCell ⟨g,i,none⟩ u) g B c e r' sv ov:=by
 refine⟨by rw[gN h.blk,hc],h.ge,?_,?_⟩
 ·rw[hs]
  exact(h.sends.tight.keep (fun k a f=>Below.heap_setCell _ _ _ _ (fun b=>h.sends.type_ne h.blk dc (by have d:k=g:=b;subst d;exact a)))).mono (fun k a=>h.sends.inF a)
 ·rw[ho]
  exact(h.outs.tight.keep (fun k a f=>Below.heap_setCell _ _ _ _ (fun b=>h.outs.type_ne h.blk dc (by have d:k=g:=b;subst d;exact a)))).mono (fun k a=>h.outs.inF a)
theorem mJ.below {w w':World} {g B:Nat} {c:Int} {e:im} {r:iI} {sv ov:Value} (h:mJ w g B c e r sv ov) (hb:Below w.heap.size w w'):mJ w' g B c e r sv ov:=
 ⟨(hb.block g (gL h.blk)).trans h.blk,h.ge,h.sends.below hb,h.outs.below hb⟩
def pG (B g:Nat) (c:Int) (e:im) (r:iI) (sv ov:Value) (o:mi) (w:World) (q:Ending) (w':World):Prop:=
 q= .returned (.int .i64 (jV e c o r).2)∧(∃sv ov,mJ w' g B c e (jV e c o r).1 sv ov)∧Ch (fun k=>k=g∨sv.ownBlock=some k∨ov.ownBlock=some k) w w'
theorem mJ.grown_sends {w w1:World} {g B:Nat} {c:Int} {e:im} {r:iI} {sv ov:Value} (h:mJ w g B c e r sv ov) (hG:w.grownBy w1 sv.ownBlock):
  w1.heap[g]? =some (.cells (j5 c e r sv ov) 205 (0,0))∧Ow ii 120 w1 (fun k=>B≤k) ov r.outs:=
 ⟨(hG.block g (gL h.blk) (fun e' =>h.sends.type_ne h.blk dc e'.symm)).trans h.blk,
  (h.outs.tight.keep (fun k hk hlt=>hG.block k hlt (fun e' =>h.outs.apart h.sends dc k hk e'.symm))).mono (fun k hk=>h.outs.inF hk)⟩
theorem mJ.grown_outs {w w1:World} {g B:Nat} {c:Int} {e:im} {r:iI} {sv ov:Value} (h:mJ w g B c e r sv ov) (hG:w.grownBy w1 ov.ownBlock):
  w1.heap[g]? =some (.cells (j5 c e r sv ov) 205 (0,0))∧Ow iC 132 w1 (fun k=>B≤k) sv r.sends:=
 ⟨(hG.block g (gL h.blk) (fun e' =>h.outs.type_ne h.blk dc e'.symm)).trans h.blk,
  (h.sends.tight.keep (fun k hk hlt=>hG.block k hlt (fun e' =>h.sends.apart h.outs dc k hk e'.symm))).mono (fun k hk=>h.sends.inF hk)⟩
theorem oF (g B:Nat) (c:Int) (e:im) (r:iI) (sv ov:Value) (k n:Int) (w:World) (h:mJ w g B c e r sv ov) (hk:k=0∨k=1) (hn:0≤n):
  Calls Tryz.prog 214 #[.pointer (some ⟨g,0,none⟩),.int .i64 k,.int .i64 n] w fun q w' =>q= .returned (.tuple #[])∧mJ w' g B c e (r.put k n) sv ov∧Ch (fun k=>k=g∨sv.ownBlock=some k∨ov.ownBlock=some k) w w':=by
 have a:=gM h.blk 0;have b:=gM h.blk 1;simp[j5] at a b;have d:=ft h.blk 0;have f:=ft h.blk 1;rcases hk with rfl|rfl
 ·go_enter Tryz.func214,Tryz.ntmps214
  go_wp2
  go_end0
  exact⟨rfl,h.set 0 _ rfl rfl rfl,Ch.setCell (p:=⟨g,0,none⟩) (Ch.refl _ _) (Or.inl (Or.inl rfl)) _⟩
 ·go_enter Tryz.func214,Tryz.ntmps214
  go_wp2
  go_end0
  exact⟨rfl,h.set 1 _ rfl rfl rfl,Ch.setCell (p:=⟨g,1,none⟩) (Ch.refl _ _) (Or.inl (Or.inl rfl)) _⟩
theorem D5 (g B:Nat) (c:Int) (e:im) (r:iI) (sv ov:Value) (a b cc ee:Int) (w:World) (h:mJ w g B c e r sv ov) (hB:B≤w.heap.size) (hr:md r) (he:jM e=true) (hns:r.sends.length≤1000) (hno:r.outs.length≤1000) (ha:a=0∨a=1) (hb0:0≤b∧b≤999):
  Calls Tryz.prog 215 #[.agg #[a,b,.bool false],.pointer (some ⟨g,0,none⟩)] w (pG B g c e r sv ov ⟨3,a,b,cc,ee⟩ w):=by
 have o:=And.intro hr.x0 hr.x1;have p:=And.intro hr.y0 hr.y1;have m:=hb0.1;have n:=hb0.2;have d:=h.below (gU (gY _ _) (.cells #[a,b,.bool false] 241));have j:=gM d.blk 0;have k:=gM d.blk 1;simp[j5] at j k;rcases ha with rfl|rfl
 ·go_enter Tryz.func215,Tryz.ntmps215
  go_wp2_with fail;refine jk 13 ie ie ?_;simp only[List.take_succ_cons,List.take_zero,List.drop_succ_cons,List.drop_zero]
  iterate 13 still_step
  refine wpStill_nil ?_;go_wp2_with (go_at_call 214;refine(oF g B c e r sv ov _ _ _ (d.below (gY _ _).drew) sm gO).mono ?_;rintro q l ⟨rfl,f,i⟩);go_ret;exact⟨rfl,⟨sv,ov,f⟩,(((Ch.refl _ _).alloc _).drew).trans i⟩
 ·go_enter Tryz.func215,Tryz.ntmps215
  go_wp2_with fail;refine jk 13 ie ie ?_;simp only[List.take_succ_cons,List.take_zero,List.drop_succ_cons,List.drop_zero]
  iterate 13 still_step
  refine wpStill_nil ?_;go_wp2_with (go_at_call 214;refine(oF g B c e r sv ov _ _ _ (d.below (gY _ _).drew) sm gO).mono ?_;rintro q l ⟨rfl,f,i⟩);go_ret;exact⟨rfl,⟨sv,ov,f⟩,(((Ch.refl _ _).alloc _).drew).trans i⟩
theorem Fl (g B:Nat) (c:Int) (e:im) (r:iI) (sv ov:Value) (a b cc ee:Int) (w:World) (h:mJ w g B c e r sv ov) (hB:B≤w.heap.size) (hr:md r) (he:jM e=true) (hns:r.sends.length≤1000) (hno:r.outs.length≤1000) (ha:a=0∨a=1) (hb0:b=0∨b=1):
  Calls Tryz.prog 216 #[.agg #[a,b],.pointer (some ⟨g,0,none⟩)] w (pG B g c e r sv ov ⟨2,a,b,cc,ee⟩ w):=by
 have m:=And.intro hr.x0 hr.x1;have n:=And.intro hr.y0 hr.y1;have i:=h.below (gU (gY _ _) (.cells #[a,b] 243));have k:=gM i.blk 0;have l:=gM i.blk 1;simp[j5] at k l;rcases ha with rfl|rfl<;>rcases hb0 with rfl|rfl
 ·go_enter Tryz.func216,Tryz.ntmps216
  go_wp2_with fail;refine jk 18 ie ie ?_;simp only[List.take_succ_cons,List.take_zero,List.drop_succ_cons,List.drop_zero]
  iterate 18 still_step
  refine wpStill_nil ?_;go_wp2_with (go_at_call 214;refine(oF g B c e r sv ov _ _ _ (i.below (gY _ _).drew) sm gO).mono ?_;rintro q j ⟨rfl,d,f⟩);go_ret;exact⟨rfl,⟨sv,ov,d⟩,(((Ch.refl _ _).alloc _).drew).trans f⟩
 ·go_enter Tryz.func216,Tryz.ntmps216
  go_wp2_with fail;refine jk 18 ie ie ?_;simp only[List.take_succ_cons,List.take_zero,List.drop_succ_cons,List.drop_zero]
  iterate 18 still_step
  refine wpStill_nil ?_;go_wp2_with (go_at_call 214;refine(oF g B c e r sv ov _ _ _ (i.below (gY _ _).drew) sm gO).mono ?_;rintro q j ⟨rfl,d,f⟩);go_ret;exact⟨rfl,⟨sv,ov,d⟩,(((Ch.refl _ _).alloc _).drew).trans f⟩
 ·go_enter Tryz.func216,Tryz.ntmps216
  go_wp2_with fail;refine jk 18 ie ie ?_;simp only[List.take_succ_cons,List.take_zero,List.drop_succ_cons,List.drop_zero]
  iterate 18 still_step
  refine wpStill_nil ?_;go_wp2_with (go_at_call 214;refine(oF g B c e r sv ov _ _ _ (i.below (gY _ _).drew) sm gO).mono ?_;rintro q j ⟨rfl,d,f⟩);go_ret;exact⟨rfl,⟨sv,ov,d⟩,(((Ch.refl _ _).alloc _).drew).trans f⟩
 ·go_enter Tryz.func216,Tryz.ntmps216
  go_wp2_with fail;refine jk 18 ie ie ?_;simp only[List.take_succ_cons,List.take_zero,List.drop_succ_cons,List.drop_zero]
  iterate 18 still_step
  refine wpStill_nil ?_;go_wp2_with (go_at_call 214;refine(oF g B c e r sv ov _ _ _ (i.below (gY _ _).drew) sm gO).mono ?_;rintro q j ⟨rfl,d,f⟩);go_ret;exact⟨rfl,⟨sv,ov,d⟩,(((Ch.refl _ _).alloc _).drew).trans f⟩
theorem FJ (g B:Nat) (c:Int) (e:im) (r:iI) (sv ov:Value) (a b cc ee:Int) (w:World) (h:mJ w g B c e r sv ov) (hB:B≤w.heap.size) (hr:md r) (he:jM e=true) (hns:r.sends.length≤1000) (hno:r.outs.length≤1000) (ha:a=0∨a=1):
  Calls Tryz.prog 217 #[.agg #[a],.pointer (some ⟨g,0,none⟩)] w (pG B g c e r sv ov ⟨4,a,b,cc,ee⟩ w):=by
 have m:=And.intro hr.x0 hr.x1;have n:=And.intro hr.y0 hr.y1;simp[jM,i2] at he;have l:=he.2.1;clear he;have i:=h.below (gU (gY _ _) (.cells #[a] 245));have j:=gM i.blk 8;simp[j5] at j;rcases ha with rfl|rfl
 ·go_enter Tryz.func217,Tryz.ntmps217
  go_wp2_with fail;refine jk 8 ie ie ?_;simp only[List.take_succ_cons,List.take_zero,List.drop_succ_cons,List.drop_zero]
  iterate 8 still_step
  refine wpStill_nil ?_;go_wp2_with (go_at_call 214;refine(oF g B c e r sv ov _ _ _ (i.below (gY _ _).drew) sm gO).mono ?_;rintro q k ⟨rfl,d,f⟩);go_ret;exact⟨rfl,⟨sv,ov,d⟩,(((Ch.refl _ _).alloc _).drew).trans f⟩
 ·go_enter Tryz.func217,Tryz.ntmps217
  go_wp2_with fail;refine jk 8 ie ie ?_;simp only[List.take_succ_cons,List.take_zero,List.drop_succ_cons,List.drop_zero]
  iterate 8 still_step
  refine wpStill_nil ?_;go_wp2_with (go_at_call 214;refine(oF g B c e r sv ov _ _ _ (i.below (gY _ _).drew) sm gO).mono ?_;rintro q k ⟨rfl,d,f⟩);go_ret;exact⟨rfl,⟨sv,ov,d⟩,(((Ch.refl _ _).alloc _).drew).trans f⟩
theorem Fw (g B:Nat) (c:Int) (e:im) (r:iI) (sv ov:Value) (a b cc ee:Int) (w:World) (h:mJ w g B c e r sv ov) (hB:B≤w.heap.size) (hr:md r) (he:jM e=true) (hns:r.sends.length≤1000) (hno:r.outs.length≤1000) (ha:a=0∨a=1):
  Calls Tryz.prog 218 #[.agg #[a,b,cc],.pointer (some ⟨g,0,none⟩)] w (pG B g c e r sv ov ⟨5,a,b,cc,ee⟩ w):=by
 have m:=And.intro hr.x0 hr.x1;have n:=And.intro hr.y0 hr.y1;have i:=h.below (gU (gY _ _) (.cells #[a,b,cc] 247));have k:=gM i.blk 0;have l:=gM i.blk 1;simp[j5] at k l;rcases ha with rfl|rfl
 ·by_cases hlt:r.get 0<b
  ·have f:jV e c ⟨5,0,b,cc,ee⟩ r=(r,cc):=by simp[jV,hlt]
   have j:decide (r.x<b)=true:=jT hlt;have d:=gP f;clear f hlt;go_enter Tryz.func218,Tryz.ntmps218;go_wp2_with fail
   go_quiet (fail)
   go_wp2;go_ret;exact⟨by rw[d.out];rfl,⟨sv,ov,by rw[d.out];exact i.below (jG (gY _ _) _)⟩,((Ch.refl _ _).alloc _).drewN _⟩
  ·have f:jV e c ⟨5,0,b,cc,ee⟩ r=(r,0):=by simp[jV,hlt]
   have j:decide (r.x<b)=false:=iU hlt;have d:=gP f;clear f hlt;go_enter Tryz.func218,Tryz.ntmps218;go_wp2_with fail
   go_quiet (fail)
   go_wp2;go_ret;exact⟨by rw[d.out];rfl,⟨sv,ov,by rw[d.out];exact i.below (jG (gY _ _) _)⟩,((Ch.refl _ _).alloc _).drewN _⟩
 ·by_cases hlt:r.get 1<b
  ·have f:jV e c ⟨5,1,b,cc,ee⟩ r=(r,cc):=by simp[jV,hlt]
   have j:decide (r.y<b)=true:=jT hlt;have d:=gP f;clear f hlt;go_enter Tryz.func218,Tryz.ntmps218;go_wp2_with fail
   go_quiet (fail)
   go_wp2;go_ret;exact⟨by rw[d.out];rfl,⟨sv,ov,by rw[d.out];exact i.below (jG (gY _ _) _)⟩,((Ch.refl _ _).alloc _).drewN _⟩
  ·have f:jV e c ⟨5,1,b,cc,ee⟩ r=(r,0):=by simp[jV,hlt]
   have j:decide (r.y<b)=false:=iU hlt;have d:=gP f;clear f hlt;go_enter Tryz.func218,Tryz.ntmps218;go_wp2_with fail
   go_quiet (fail)
   go_wp2;go_ret;exact⟨by rw[d.out];rfl,⟨sv,ov,by rw[d.out];exact i.below (jG (gY _ _) _)⟩,((Ch.refl _ _).alloc _).drewN _⟩
def EE (a:iM) (s:mL) (e:im) (w:World) (q:Ending) (w':World):Prop:=
 (((je a&&kR s&&jM e)=true∧q= .returned (.tuple #[]))∨((je a&&kR s&&jM e)=false∧∃k:Int,q= .panicked [{v:= .iface 239 (.agg #[.int .i64 k]),recovered:=false}]))∧Below w.heap.size w w'
theorem AC (v:Value) (a:iM) (s:mL) (e:im) (F:Nat→Prop) (w:World) (h:Rd k6 w F v a.rules):
  Calls Tryz.prog 159 #[.agg #[v],.agg #[s.x,s.y,s.c],.agg #[e.time,e.to,e.from_,e.count,e.n,e.kind,e.arg]] w (EE a s e w):=by
 obtain⟨A,J,rfl,-⟩:=id h;go_enter Tryz.func159,Tryz.ntmps159;go_wp2_with fail;refine(um _ a _ _ (h.below (by repeat (first|exact gY _ _|refine gU ?_ _)))).mono ?_;rintro q j ⟨rfl,b⟩;have k:j.heap[w.heap.size+1]? =some (.cells #[s.x,s.y,s.c] 62):=(b.block (w.heap.size+1) sm).trans ((ip sm).trans (gX sm));have g:j.heap[w.heap.size+1+1]? =some (.cells #[e.time,e.to,e.from_,e.count,e.n,e.kind,e.arg] 132):=(b.block (w.heap.size+1+1) sm).trans (gX sm);have i:Below w.heap.size w j:=gV (by repeat (first|exact gY _ _|refine gU ?_ _)) b;clear b h;apply_assumption;obtain⟨p,r,t,u⟩:=vp k;cases q1:je a with
 |false=>
  go_wp2_with fail;exact⟨rfl,Or.inr ⟨by simp[q1],1,rfl⟩,i⟩
 |true=>
  go_wp2_with fail;refine(oO s.x s.y s.c _).mono ?_;rintro q L ⟨rfl,d⟩;have l:=(d.block (w.heap.size+1+1) (gL g)).trans g;have m:=gV i d;clear k g i p r t u d;apply_assumption;obtain⟨⟨z,B,C,D,E,G,H⟩,I⟩:=oB l;rw[show kR ⟨s.x,s.y,s.c⟩=kR s from rfl];cases q2:kR s with
  |false=>
   go_wp2_with fail;exact⟨rfl,Or.inr ⟨by simp[q1,q2],2,rfl⟩,m⟩
  |true=>
   go_wp2_with fail;refine(oM e.time e.to e.from_ e.count e.n e.kind e.arg _).mono ?_;rintro q M ⟨rfl,f⟩;have o:=gV m f;clear f l z B C D E G H I;apply_assumption;rw[show jM ⟨e.time,e.to,e.from_,e.count,e.n,e.kind,e.arg⟩=jM e from rfl];cases q3:jM e with
   |false=>
    go_wp2_with fail;exact⟨rfl,Or.inr ⟨by simp[q1,q2,q3],3,rfl⟩,o⟩
   |true=>
    go_wp2_with fail
    go_end0
    exact⟨Or.inl ⟨by simp[q1,q2,q3],rfl⟩,o⟩
def so (w:World) (p q r:Nat):World:=((((w.setCell ⟨p,0,none⟩ (.int .i64 0)).setCell ⟨p,1,none⟩ (.int .i64 0)).setCell ⟨p,2,none⟩ (.int .i64 0)).setCell ⟨q,0,none⟩ (.slice none 0 0)).setCell ⟨r,0,none⟩ (.slice none 0 0)
theorem ue (p q r:Nat) (x y z v1 v2:Value) (u:TypeId) (pv:Value) (older:List PanicEntry) (w:World) (hp:w.heap[p]? =some (.cells #[x,y,z] 62)) (hq:w.heap[q]? =some (.cells #[v1] 33)) (hr:w.heap[r]? =some (.cells #[v2] 34))
  (hpq:p≠q) (hpr:p≠r) (hqr:q≠r):
  CallsD Tryz.prog 158 #[.pointer (some ⟨p,0,none⟩),.pointer (some ⟨q,0,none⟩),.pointer (some ⟨r,0,none⟩)] (.panicking ({v:= .iface u pv,recovered:=false}::older)) w fun e u' w' =>
   e= .returned (.tuple #[])∧u' = .panicking ({v:= .iface u pv,recovered:=true}::older)∧w' =so w p q r:=by
 refine callsD_of_wpS Tryz.func158 rfl fun c₀ f a=>?_;apply wpS_seq;apply wpS_region;simp[wpOpsS,go_sem,recoverD,a,Tryz.ntmps158,Exit.thenS];refine wpS_cond (t:=true) (by simp[Act.eval,Array.replicate]) ?_;simp only[if_true];refine wpS_of_wp ?_;obtain⟨n,o,s,A⟩:=vp hp;have b:=gM hq 0;have B:=ft hq 0;have d:=gM hr 0;have C:=ft hr 0;simp at b d;have g:¬p=q:=hpq;have i:¬q=p:=fun h=>hpq h.symm;have j:¬p=r:=hpr;have k:¬r=p:=fun h=>hpr h.symm;have l:¬q=r:=hqr;have m:¬r=q:=fun h=>hqr h.symm;go_wp2_with fail;simp[bodyPostS,results,Tryz.results158,so]
theorem uQ (p q r:Value) (w:World):
  CallsD Tryz.prog 158 #[p,q,r] .returning w fun e u' w' =>e= .returned (.tuple #[])∧u' = .returning∧w' =w:=by
 refine callsD_of_wpS Tryz.func158 rfl fun c₀ b a=>?_;apply wpS_seq;apply wpS_region;simp[wpOpsS,go_sem,recoverD,a,Tryz.ntmps158,Exit.thenS];refine wpS_cond (t:=false) (by simp[Act.eval,Array.replicate]) ?_;simp only[Bool.false_eq_true,if_false];refine wpS_of_wp (wp_skip ?_);cases c₀
 simp_all [bodyPostS,results,Tryz.results158]
def iK {α:Type} (f:Int→α) (s:Int) (m:Int):Nat→List α
 |0=>[]
 |n+1=>iK f s m n++[f (m+s*n)]
theorem kF {α:Type} (f:Int→α) (s m:Int):∀n,(iK f s m n).length=n
 |0=>rfl
 |n+1=>by simp[iK,kF f s m n]
theorem qI {α:Type} (f:Int→α) (s m:Int):∀(n j:Nat) (h:j<n),(iK f s m n)[j]? =some (f (m+s*j))
 |0,j,h=>gO
 |n+1,j,h=>by
  rw[iK];by_cases hj:j<n
  ·rw[List.getElem?_append_left (by rw[kF];exact hj),qI f s m n j hj]
  ·have:j=n:=gO
   subst this;rw[List.getElem?_append_right (by rw[kF];omega),kF];simp
theorem qL {α:Type} (f:Int→α) (s m:Int) (xs:List α) (j:Nat) (h:j<xs.length):(iK f s m j++xs.drop j).set j (f (m+s*j))=iK f s m (j+1)++xs.drop (j+1):=by
 rw[List.set_append_right _ _ (by rw[kF];omega),kF,Nat.sub_self,List.drop_eq_getElem_cons h,List.set_cons_zero,iK,List.append_assoc];rfl
theorem pq {α:Type} (f:Int→α) (s m:Int) (xs:List α) (j:Nat) (h:j≤xs.length):(iK f s m j++xs.drop j).length=xs.length:=by
 rw[List.length_append,kF,List.length_drop];omega
def nK (m:Int):im:=⟨m,m+1,m+1+1,m+1+1+1,m+1+1+1+1,m+1+1+1+1+1,m+1+1+1+1+1+1⟩
theorem pI (v:Value) (n:Nat) (m:Int) (F:Nat→Prop) (w:World) (h:Rd iC w F v (iK nK 7 m n)) (hm0:0≤m) (hm1:m≤1000000000) (hn:n≤1048576):
  Calls Tryz.prog 63 #[v,.int .i64 m] w fun q w' =>q= .returned (.int .i64 (m+7*n))∧Below w.heap.size w w':=by
 obtain⟨A,c,rfl,-⟩:=h.shape;have a:(iK nK 7 m n).length=n:=kF _ _ _ _;rw[a] at h ⊢;go_enter Tryz.func63,Tryz.ntmps63;go_wp2_with fail
 go_loopw [1,5] (fun l i wr=>∃(k:Nat) (t:Int),i= .int .i64 k∧k≤n∧l= .int .i64 t∧Hid (t=m+7*k)∧Below w.heap.size w wr) (fun _ i _=>n-(intOf i).toNat)
 case atStart=>exact⟨0,m,rfl,jP _,rfl,by show m=m+7*((0:Nat):Int);omega,gY _ _⟩
 case round=>
  obtain⟨k,t,rfl,C,rfl,b,d⟩:=hrel;by_cases hlt:k<n
  ·obtain⟨B,D,rfl,x,g,j,o,p,r,s,u⟩:=jD (h.below d) k (by rw[a];exact hlt)
   have e:(iK nK 7 m n)[k]'(by rw[a];exact hlt)=nK t:=by
    have:=qI nK 7 m n k hlt;rw[mc (by rw[a];exact hlt)] at this;rw[b.out];exact Option.some.inj this
   rw[e] at g j o p r s u;simp only[nK] at g j o p r s u;have E:(k:Int)<(n:Int):=gO;have y:0≤t:=by have:=b.out;omega
   have z:t≤2000000000:=by have:=b.out;omega
   have HT':=gP (show t+1+1+1+1+1+1+1=m+7*((k+1:Nat):Int) by have:=b.out;push_cast;omega);clear e;go_wp2_with fail;go_roundw
   case rel=>exact⟨k+1,_,by go_num,gO,rfl,HT',d⟩
   case measure=>exact ms
  ·have f:k=n:=gO
   subst f;go_wp2_with fail;go_ret;exact⟨by rw[b.out];rfl,d⟩
theorem pk (v:Value) (xs:List im) (m:Int) (F:Nat→Prop) (w:World) (h:Ow iC 132 w F v xs) (hm0:0≤m) (hm1:m≤1000000000) (hn:xs.length≤1048576):
  Calls Tryz.prog 58 #[v,.int .i64 m] w fun q w' =>q= .returned (.int .i64 (m+7*xs.length))∧Ow iC 132 w' F v (iK nK 7 m xs.length)∧Ch (fun q=>v.ownBlock=some q) w w':=by
 obtain⟨A,c,rfl,-⟩:=h.shape;go_enter Tryz.func58,Tryz.ntmps58;go_wp2_with fail
 go_loopw [1,5] (fun l i wr=>∃(k:Nat) (t:Int),i= .int .i64 k∧k≤xs.length∧l= .int .i64 t∧Hid (t=m+7*k)∧Ow iC 132 wr F (.slice A xs.length c) (iK nK 7 m k++xs.drop k)∧Ch (fun q=>(Value.slice A xs.length c).ownBlock=some q) w wr) (fun _ i _=>xs.length-(intOf i).toNat)
 case atStart=>exact⟨0,m,rfl,jP _,rfl,by show m=m+7*((0:Nat):Int);omega,by simpa [iK] using h,Ch.refl _ _⟩
 case round=>
  obtain⟨k,t,rfl,J,rfl,f,j,s⟩:=hrel;by_cases hlt:k<xs.length
  ·have z:=pq nK 7 m xs k J
   obtain⟨g,T,M,L,hF,P,a⟩:=j.head gO;injection L with hv1 hv2 hv3;subst hv1 hv3;have b:k<(iK nK 7 m k++xs.drop k).length:=gO;obtain⟨S,o0,r,O,B,C,D,E,G,H,I⟩:=jD j.rd k b;injection r with r;injection r with hA1 hA2 _;subst hA1 hA2;simp only[Nat.zero_add] at B C D E G H I;obtain⟨y,p⟩:∃y,(iK nK 7 m k++xs.drop k)[k]=y:=⟨_,rfl⟩;rw[p] at B C D E G H I;clear p;have U:=ft a (k*7);have V:=ft a (k*7+1);have W:=ft a (k*7+2);have X:=ft a (k*7+3);have Y:=ft a (k*7+4);have Z:=ft a (k*7+5);have f6:=ft a (k*7+6);have d:=j.setAt (g:=g) rfl k b (nK t);have n:(iK nK 7 m k++xs.drop k).set k (nK t)=iK nK 7 m (k+1)++xs.drop (k+1):=by rw[f.out];exact qL _ _ _ _ _ hlt
   have e:Ow iC 132 (((((((wr.setCell ⟨g,k*7,none⟩ (.int .i64 (t))).setCell ⟨g,k*7+1,none⟩ (.int .i64 (t+1))).setCell ⟨g,k*7+2,none⟩ (.int .i64 (t+1+1))).setCell ⟨g,k*7+3,none⟩ (.int .i64 (t+1+1+1))).setCell ⟨g,k*7+4,none⟩ (.int .i64 (t+1+1+1+1))).setCell ⟨g,k*7+5,none⟩ (.int .i64 (t+1+1+1+1+1))).setCell ⟨g,k*7+6,none⟩ (.int .i64 (t+1+1+1+1+1+1))) F (.slice (some ⟨g,0,none⟩) xs.length c) (iK nK 7 m (k+1)++xs.drop (k+1)):=by rw[←n];exact d.2.1
   have o:Ch (fun q=>(Value.slice (some ⟨g,0,none⟩) xs.length c).ownBlock=some q) w (((((((wr.setCell ⟨g,k*7,none⟩ (.int .i64 (t))).setCell ⟨g,k*7+1,none⟩ (.int .i64 (t+1))).setCell ⟨g,k*7+2,none⟩ (.int .i64 (t+1+1))).setCell ⟨g,k*7+3,none⟩ (.int .i64 (t+1+1+1))).setCell ⟨g,k*7+4,none⟩ (.int .i64 (t+1+1+1+1))).setCell ⟨g,k*7+5,none⟩ (.int .i64 (t+1+1+1+1+1))).setCell ⟨g,k*7+6,none⟩ (.int .i64 (t+1+1+1+1+1+1))):=s.trans (d.2.2.mono (fun q hq=>by simp[Value.ownBlock,hq]));have p0:(k:Int)<(xs.length:Int):=gO;have Q:0≤t:=by have:=f.out;omega
   have R:t≤2000000000:=by have:=f.out;omega
   have HT':=gP (show t+1+1+1+1+1+1+1=m+7*((k+1:Nat):Int) by have:=f.out;push_cast;omega);clear d n z j s a b hv2;have x:=gP e;have u:=gP o;clear e o;go_wp2_with fail;go_roundw
   case rel=>exact⟨k+1,_,by go_num,gO,rfl,HT',x.out,u.out⟩
   case measure=>exact ms
  ·have b:k=xs.length:=gO
   subst b;have e:Ow iC 132 wr F (.slice A xs.length c) (iK nK 7 m xs.length):=by
    have:=j
    rwa [List.drop_length,List.append_nil] at this
   go_wp2_with fail;go_ret;exact⟨by rw[f.out];rfl,e,s⟩
def my (m:Int):iQ:=⟨m,m+1,m+1+1,m+1+1+1,m+1+1+1+1⟩
theorem vh (v:Value) (n:Nat) (m:Int) (F:Nat→Prop) (w:World) (h:Rd ii w F v (iK my 5 m n)) (hm0:0≤m) (hm1:m≤1000000000) (hn:n≤1048576):
  Calls Tryz.prog 64 #[v,.int .i64 m] w fun q w' =>q= .returned (.int .i64 (m+5*n))∧Below w.heap.size w w':=by
 obtain⟨A,c,rfl,-⟩:=h.shape;have a:(iK my 5 m n).length=n:=kF _ _ _ _;rw[a] at h ⊢;go_enter Tryz.func64,Tryz.ntmps64;go_wp2_with fail
 go_loopw [1,5] (fun l i wr=>∃(k:Nat) (t:Int),i= .int .i64 k∧k≤n∧l= .int .i64 t∧Hid (t=m+5*k)∧Below w.heap.size w wr) (fun _ i _=>n-(intOf i).toNat)
 case atStart=>exact⟨0,m,rfl,jP _,rfl,by show m=m+5*((0:Nat):Int);omega,gY _ _⟩
 case round=>
  obtain⟨k,t,rfl,z,rfl,b,d⟩:=hrel;by_cases hlt:k<n
  ·obtain⟨y,B,rfl,s,g,j,o,p,r⟩:=ko (h.below d) k (by rw[a];exact hlt)
   have e:(iK my 5 m n)[k]'(by rw[a];exact hlt)=my t:=by
    have:=qI my 5 m n k hlt;rw[mc (by rw[a];exact hlt)] at this;rw[b.out];exact Option.some.inj this
   rw[e] at g j o p r;simp only[my] at g j o p r;have C:(k:Int)<(n:Int):=gO;have u:0≤t:=by have:=b.out;omega
   have x:t≤2000000000:=by have:=b.out;omega
   have HT':=gP (show t+1+1+1+1+1=m+5*((k+1:Nat):Int) by have:=b.out;push_cast;omega);clear e;go_wp2_with fail;go_roundw
   case rel=>exact⟨k+1,_,by go_num,gO,rfl,HT',d⟩
   case measure=>exact ms
  ·have f:k=n:=gO
   subst f;go_wp2_with fail;go_ret;exact⟨by rw[b.out];rfl,d⟩
theorem vg (v:Value) (xs:List iQ) (m:Int) (F:Nat→Prop) (w:World) (h:Ow ii 120 w F v xs) (hm0:0≤m) (hm1:m≤1000000000) (hn:xs.length≤1048576):
  Calls Tryz.prog 59 #[v,.int .i64 m] w fun q w' =>q= .returned (.int .i64 (m+5*xs.length))∧Ow ii 120 w' F v (iK my 5 m xs.length)∧Ch (fun q=>v.ownBlock=some q) w w':=by
 obtain⟨A,c,rfl,-⟩:=h.shape;go_enter Tryz.func59,Tryz.ntmps59;go_wp2_with fail
 go_loopw [1,5] (fun l i wr=>∃(k:Nat) (t:Int),i= .int .i64 k∧k≤xs.length∧l= .int .i64 t∧Hid (t=m+5*k)∧Ow ii 120 wr F (.slice A xs.length c) (iK my 5 m k++xs.drop k)∧Ch (fun q=>(Value.slice A xs.length c).ownBlock=some q) w wr) (fun _ i _=>xs.length-(intOf i).toNat)
 case atStart=>exact⟨0,m,rfl,jP _,rfl,by show m=m+5*((0:Nat):Int);omega,by simpa [iK] using h,Ch.refl _ _⟩
 case round=>
  obtain⟨k,t,rfl,H,rfl,f,j,s⟩:=hrel;by_cases hlt:k<xs.length
  ·have z:=pq my 5 m xs k H
   obtain⟨g,R,J,I,hF,M,a⟩:=j.head gO;injection I with hv1 hv2 hv3;subst hv1 hv3;have b:k<(iK my 5 m k++xs.drop k).length:=gO;obtain⟨Q,X,r,L,B,C,D,E,G⟩:=ko j.rd k b;injection r with r;injection r with hA1 hA2 _;subst hA1 hA2;simp only[Nat.zero_add] at B C D E G;obtain⟨y,p⟩:∃y,(iK my 5 m k++xs.drop k)[k]=y:=⟨_,rfl⟩;rw[p] at B C D E G;clear p;have S:=ft a (k*5);have T:=ft a (k*5+1);have U:=ft a (k*5+2);have V:=ft a (k*5+3);have W:=ft a (k*5+4);have d:=j.setAt (g:=g) rfl k b (my t);have n:(iK my 5 m k++xs.drop k).set k (my t)=iK my 5 m (k+1)++xs.drop (k+1):=by rw[f.out];exact qL _ _ _ _ _ hlt
   have e:Ow ii 120 (((((wr.setCell ⟨g,k*5,none⟩ (.int .i64 (t))).setCell ⟨g,k*5+1,none⟩ (.int .i64 (t+1))).setCell ⟨g,k*5+2,none⟩ (.int .i64 (t+1+1))).setCell ⟨g,k*5+3,none⟩ (.int .i64 (t+1+1+1))).setCell ⟨g,k*5+4,none⟩ (.int .i64 (t+1+1+1+1))) F (.slice (some ⟨g,0,none⟩) xs.length c) (iK my 5 m (k+1)++xs.drop (k+1)):=by rw[←n];exact d.2.1
   have o:Ch (fun q=>(Value.slice (some ⟨g,0,none⟩) xs.length c).ownBlock=some q) w (((((wr.setCell ⟨g,k*5,none⟩ (.int .i64 (t))).setCell ⟨g,k*5+1,none⟩ (.int .i64 (t+1))).setCell ⟨g,k*5+2,none⟩ (.int .i64 (t+1+1))).setCell ⟨g,k*5+3,none⟩ (.int .i64 (t+1+1+1))).setCell ⟨g,k*5+4,none⟩ (.int .i64 (t+1+1+1+1))):=s.trans (d.2.2.mono (fun q hq=>by simp[Value.ownBlock,hq]));have Y:(k:Int)<(xs.length:Int):=gO;have O:0≤t:=by have:=f.out;omega
   have P:t≤2000000000:=by have:=f.out;omega
   have HT':=gP (show t+1+1+1+1+1=m+5*((k+1:Nat):Int) by have:=f.out;push_cast;omega);clear d n z j s a b hv2;have x:=gP e;have u:=gP o;clear e o;go_wp2_with fail;go_roundw
   case rel=>exact⟨k+1,_,by go_num,gO,rfl,HT',x.out,u.out⟩
   case measure=>exact ms
  ·have b:k=xs.length:=gO
   subst b;have e:Ow ii 120 wr F (.slice A xs.length c) (iK my 5 m xs.length):=by
    have:=j
    rwa [List.drop_length,List.append_nil] at this
   go_wp2_with fail;go_ret;exact⟨by rw[f.out];rfl,e,s⟩
def sQ (m:Int):mi:=⟨m,m+1,m+1+1,m+1+1+1,m+1+1+1+1⟩
theorem CP (v:Value) (xs:List mi) (m:Int) (F:Nat→Prop) (w:World) (h:Ow pO 187 w F v xs) (hm0:0≤m) (hm1:m≤1000000000) (hn:xs.length≤1048576):
  Calls Tryz.prog 129 #[v,.int .i64 m] w fun q w' =>q= .returned (.int .i64 (m+5*xs.length))∧Ow pO 187 w' F v (iK sQ 5 m xs.length)∧Ch (fun q=>v.ownBlock=some q) w w':=by
 obtain⟨A,c,rfl,-⟩:=h.shape;go_enter Tryz.func129,Tryz.ntmps129;go_wp2_with fail
 go_loopw [1,5] (fun l i wr=>∃(k:Nat) (t:Int),i= .int .i64 k∧k≤xs.length∧l= .int .i64 t∧Hid (t=m+5*k)∧Ow pO 187 wr F (.slice A xs.length c) (iK sQ 5 m k++xs.drop k)∧Ch (fun q=>(Value.slice A xs.length c).ownBlock=some q) w wr) (fun _ i _=>xs.length-(intOf i).toNat)
 case atStart=>exact⟨0,m,rfl,jP _,rfl,by show m=m+5*((0:Nat):Int);omega,by simpa [iK] using h,Ch.refl _ _⟩
 case round=>
  obtain⟨k,t,rfl,H,rfl,f,j,s⟩:=hrel;by_cases hlt:k<xs.length
  ·have z:=pq sQ 5 m xs k H
   obtain⟨g,R,J,I,hF,M,a⟩:=j.head gO;injection I with hv1 hv2 hv3;subst hv1 hv3;have b:k<(iK sQ 5 m k++xs.drop k).length:=gO;obtain⟨Q,X,r,L,B,C,D,E,G⟩:=t6 j.rd k b;injection r with r;injection r with hA1 hA2 _;subst hA1 hA2;simp only[Nat.zero_add] at B C D E G;obtain⟨y,p⟩:∃y,(iK sQ 5 m k++xs.drop k)[k]=y:=⟨_,rfl⟩;rw[p] at B C D E G;clear p;have S:=ft a (k*5);have T:=ft a (k*5+1);have U:=ft a (k*5+2);have V:=ft a (k*5+3);have W:=ft a (k*5+4);have d:=j.setAt (g:=g) rfl k b (sQ t);have n:(iK sQ 5 m k++xs.drop k).set k (sQ t)=iK sQ 5 m (k+1)++xs.drop (k+1):=by rw[f.out];exact qL _ _ _ _ _ hlt
   have e:Ow pO 187 (((((wr.setCell ⟨g,k*5,none⟩ (.int .i64 (t))).setCell ⟨g,k*5+1,none⟩ (.int .i64 (t+1))).setCell ⟨g,k*5+2,none⟩ (.int .i64 (t+1+1))).setCell ⟨g,k*5+3,none⟩ (.int .i64 (t+1+1+1))).setCell ⟨g,k*5+4,none⟩ (.int .i64 (t+1+1+1+1))) F (.slice (some ⟨g,0,none⟩) xs.length c) (iK sQ 5 m (k+1)++xs.drop (k+1)):=by rw[←n];exact d.2.1
   have o:Ch (fun q=>(Value.slice (some ⟨g,0,none⟩) xs.length c).ownBlock=some q) w (((((wr.setCell ⟨g,k*5,none⟩ (.int .i64 (t))).setCell ⟨g,k*5+1,none⟩ (.int .i64 (t+1))).setCell ⟨g,k*5+2,none⟩ (.int .i64 (t+1+1))).setCell ⟨g,k*5+3,none⟩ (.int .i64 (t+1+1+1))).setCell ⟨g,k*5+4,none⟩ (.int .i64 (t+1+1+1+1))):=s.trans (d.2.2.mono (fun q hq=>by simp[Value.ownBlock,hq]));have Y:(k:Int)<(xs.length:Int):=gO;have O:0≤t:=by have:=f.out;omega
   have P:t≤2000000000:=by have:=f.out;omega
   have HT':=gP (show t+1+1+1+1+1=m+5*((k+1:Nat):Int) by have:=f.out;push_cast;omega);clear d n z j s a b hv2;have x:=gP e;have u:=gP o;clear e o;go_wp2_with fail;go_roundw
   case rel=>exact⟨k+1,_,by go_num,gO,rfl,HT',x.out,u.out⟩
   case measure=>exact ms
  ·have b:k=xs.length:=gO
   subst b;have e:Ow pO 187 wr F (.slice A xs.length c) (iK sQ 5 m xs.length):=by
    have:=j
    rwa [List.drop_length,List.append_nil] at this
   go_wp2_with fail;go_ret;exact⟨by rw[f.out];rfl,e,s⟩
section
open Go.ChangeShapes Go.WideShapes Go.ChangeAt Go.RowKit
theorem jd:Tryz.prog.cellsOf 3=1:=ie
theorem DQ {α:Type} {n:Nat} {p:Nat→α→Prop} (h:∀i,i<n→∃x,p i x):∃xs:List α,xs.length=n∧∀j x,xs[j]? =some x→p j x:=by
 induction n with
 |zero=>exact⟨[],rfl,fun j x a=>by simp at a⟩
 |succ n ih=>
  obtain⟨xs,b,e⟩:=ih (fun i d=>h i (Nat.lt_succ_of_lt d));obtain⟨y,f⟩:=h n (Nat.lt_succ_self n);refine⟨xs++[y],by simp[b],fun j x a=>?_⟩;by_cases hjn:j<n
  ·rw[List.getElem?_append_left gO] at a;exact e j x a
  ·have c:=(List.getElem?_eq_some_iff.1 a).1
   simp[b] at c;have:j=n:=gO;subst this;rw[List.getElem?_append_right gO,b,Nat.sub_self] at a;have:y=x:=by simpa using a
   rw[←this];exact f
theorem kZ {H:Type} {enc:TypeId×Value→H} {W:World} {α:Type} (d:Ty α) {t e:TypeId} {fuel:Nat} {cs:List Value} {x:DataW H×List MemPlace} (ht:Tryz.prog.underlying t=some (.slice e)) (hc:Tryz.prog.cellsOf e=d.sz) (hs:0<d.sz)
  (hel:∀fuel cs x,DataW.trod enc Tryz.prog W 0 (fun _=>true) true fuel e cs=some x→∃y,d.rel W (fun k=>k<W.heap.size) y cs)
  (h:DataW.trod enc Tryz.prog W 0 (fun _=>true) true fuel t cs=some x):∃(A:Option Addr) (c:Nat) (xs:List α),cs=[.slice A xs.length c]∧Rd d W (fun k=>k<W.heap.size) (.slice A xs.length c) xs:=by
 rcases Go.Deep.open_slice ht h with ⟨rfl,-⟩|⟨a,L,X,m,n,D,Pl,rfl,-,S,v,E,-,C⟩
 ·exact⟨none,0,[],rfl,Rd.nil _ _ _⟩
 ·simp only[if_true] at E
  subst E;rw[hc] at C;obtain⟨xs,J,I⟩:=DQ (n:=L) (p:=fun i y=>∃f,W.cells? 0 (a.add (i*d.sz)) d.sz=some f∧d.rel W (fun k=>k<W.heap.size) y f) (fun i g=>by
   obtain⟨f,O,P⟩:=C i gO;obtain⟨y,V⟩:=hel _ _ _ P;exact⟨y,f,O,V⟩)
  subst J;refine⟨some a,m,xs,rfl,_,m,rfl,S,by simp only[maxLen] at v;omega,fun T=>?_⟩;obtain⟨q,w,-⟩:=I 0 xs[0] (mc T);obtain⟨-,aa,B⟩:=World.cells?_some w;have l:=B 0 hs;obtain⟨u0,G⟩:∃u,q[0]? =some u:=⟨q[0]'gO,mc _⟩;rw[G] at l;obtain⟨b,o,M⟩:=a;have F:M=none:=by
   cases M with
   |none=>rfl
   |some s=>
    exfalso;unfold World.cell? Addr.add at l;revert l;split<;>simp_all
  subst F;have g:b<W.heap.size:=by have:=World.block_lt_of_cell? _ _ l;simpa [block_add] using this
  refine⟨b,o,rfl,g,g,fun j y R=>?_⟩;obtain⟨f,z,U⟩:=I j y R;refine⟨f,U,fun i u r=>?_⟩;obtain⟨-,Z,Q⟩:=World.cells?_some z;have Y:=(List.getElem?_eq_some_iff.1 r).1;have:=Q i gO;rw[r] at this;have ha:(((⟨b,o,none⟩:Addr).add (j*d.sz)).add i)=⟨b,o+j*d.sz+i,none⟩:=by
   rw[Go.Deep.add_add];unfold Addr.add;split
   ·rename_i h0;simp only[Addr.mk.injEq,true_and,and_true];omega
   ·simp[Nat.add_assoc]
  rw[ha] at this;exact this
theorem EI {H:Type} {enc:TypeId×Value→H} {W:World} (fuel:Nat) (cs:List Value) (x:DataW H×List MemPlace) (h:DataW.trod enc Tryz.prog W 0 (fun _=>true) true fuel 260 cs=some x):∃y:mi,cs=mi.cells y:=by
 obtain⟨C,n,-,-,i,b,a⟩:=DataW.trod_struct Tryz.underlying260 h;have B:Tryz.prog.cellsOf 260=5:=ie;rw[B] at i
 match cs,i,C,b,a with
 | [c0,c1,c2,c3,c4],_,[y0,y1,y2,y3,y4],_,a=>
  have c:DataW.trod enc Tryz.prog W 0 (fun _=>true) true n 3 ([c0,c1,c2,c3,c4].drop 0 |>.take (Tryz.prog.cellsOf 3))=some y0:=a 0 _ rfl;rw[jd] at c;obtain⟨j,p,-⟩:=DataW.trod_int Tryz.underlying3 c;have u:c0= .int .i64 j:=by simpa using p
  clear p;have d:DataW.trod enc Tryz.prog W 0 (fun _=>true) true n 3 ([c0,c1,c2,c3,c4].drop 1 |>.take (Tryz.prog.cellsOf 3))=some y1:=a 1 _ rfl;rw[jd] at d;obtain⟨k,q,-⟩:=DataW.trod_int Tryz.underlying3 d;have v:c1= .int .i64 k:=by simpa using q
  clear q;have e:DataW.trod enc Tryz.prog W 0 (fun _=>true) true n 3 ([c0,c1,c2,c3,c4].drop 2 |>.take (Tryz.prog.cellsOf 3))=some y2:=a 2 _ rfl;rw[jd] at e;obtain⟨l,r,-⟩:=DataW.trod_int Tryz.underlying3 e;have w:c2= .int .i64 l:=by simpa using r
  clear r;have f:DataW.trod enc Tryz.prog W 0 (fun _=>true) true n 3 ([c0,c1,c2,c3,c4].drop 3 |>.take (Tryz.prog.cellsOf 3))=some y3:=a 3 _ rfl;rw[jd] at f;obtain⟨m,s,-⟩:=DataW.trod_int Tryz.underlying3 f;have z:c3= .int .i64 m:=by simpa using s
  clear s;have g:DataW.trod enc Tryz.prog W 0 (fun _=>true) true n 3 ([c0,c1,c2,c3,c4].drop 4 |>.take (Tryz.prog.cellsOf 3))=some y4:=a 4 _ rfl;rw[jd] at g;obtain⟨o,t,-⟩:=DataW.trod_int Tryz.underlying3 g;have A:c4= .int .i64 o:=by simpa using t
  clear t;subst u v w z A;exact⟨⟨j,k,l,m,o⟩,rfl⟩
theorem uY {H:Type} {enc:TypeId×Value→H} {W:World} (fuel:Nat) (cs:List Value) (x:DataW H×List MemPlace) (h:DataW.trod enc Tryz.prog W 0 (fun _=>true) true fuel 109 cs=some x):∃y:mL,cs=mL.cells y:=by
 obtain⟨s,n,-,-,f,b,a⟩:=DataW.trod_struct Tryz.underlying109 h;have r:Tryz.prog.cellsOf 109=3:=ie;rw[r] at f
 match cs,f,s,b,a with
 | [c0,c1,c2],_,[y0,y1,y2],_,a=>
  have c:DataW.trod enc Tryz.prog W 0 (fun _=>true) true n 3 ([c0,c1,c2].drop 0 |>.take (Tryz.prog.cellsOf 3))=some y0:=a 0 _ rfl;rw[jd] at c;obtain⟨g,k,-⟩:=DataW.trod_int Tryz.underlying3 c;have o:c0= .int .i64 g:=by simpa using k
  clear k;have d:DataW.trod enc Tryz.prog W 0 (fun _=>true) true n 3 ([c0,c1,c2].drop 1 |>.take (Tryz.prog.cellsOf 3))=some y1:=a 1 _ rfl;rw[jd] at d;obtain⟨i,l,-⟩:=DataW.trod_int Tryz.underlying3 d;have p:c1= .int .i64 i:=by simpa using l
  clear l;have e:DataW.trod enc Tryz.prog W 0 (fun _=>true) true n 3 ([c0,c1,c2].drop 2 |>.take (Tryz.prog.cellsOf 3))=some y2:=a 2 _ rfl;rw[jd] at e;obtain⟨j,m,-⟩:=DataW.trod_int Tryz.underlying3 e;have q:c2= .int .i64 j:=by simpa using m
  clear m;subst o p q;exact⟨⟨g,i,j⟩,rfl⟩
theorem pi {H:Type} {enc:TypeId×Value→H} {W:World} (fuel:Nat) (cs:List Value) (x:DataW H×List MemPlace) (h:DataW.trod enc Tryz.prog W 0 (fun _=>true) true fuel 146 cs=some x):∃y:im,cs=im.cells y:=by
 obtain⟨M,n,-,-,k,b,a⟩:=DataW.trod_struct Tryz.underlying146 h;have L:Tryz.prog.cellsOf 146=7:=ie;rw[L] at k
 match cs,k,M,b,a with
 | [c0,c1,c2,c3,c4,c5,c6],_,[y0,y1,y2,y3,y4,y5,y6],_,a=>
  have c:DataW.trod enc Tryz.prog W 0 (fun _=>true) true n 3 ([c0,c1,c2,c3,c4,c5,c6].drop 0 |>.take (Tryz.prog.cellsOf 3))=some y0:=a 0 _ rfl;rw[jd] at c;obtain⟨l,t,-⟩:=DataW.trod_int Tryz.underlying3 c;have C:c0= .int .i64 l:=by simpa using t
  clear t;have d:DataW.trod enc Tryz.prog W 0 (fun _=>true) true n 3 ([c0,c1,c2,c3,c4,c5,c6].drop 1 |>.take (Tryz.prog.cellsOf 3))=some y1:=a 1 _ rfl;rw[jd] at d;obtain⟨m,u,-⟩:=DataW.trod_int Tryz.underlying3 d;have D:c1= .int .i64 m:=by simpa using u
  clear u;have e:DataW.trod enc Tryz.prog W 0 (fun _=>true) true n 3 ([c0,c1,c2,c3,c4,c5,c6].drop 2 |>.take (Tryz.prog.cellsOf 3))=some y2:=a 2 _ rfl;rw[jd] at e;obtain⟨o,v,-⟩:=DataW.trod_int Tryz.underlying3 e;have E:c2= .int .i64 o:=by simpa using v
  clear v;have f:DataW.trod enc Tryz.prog W 0 (fun _=>true) true n 3 ([c0,c1,c2,c3,c4,c5,c6].drop 3 |>.take (Tryz.prog.cellsOf 3))=some y3:=a 3 _ rfl;rw[jd] at f;obtain⟨p,w,-⟩:=DataW.trod_int Tryz.underlying3 f;have F:c3= .int .i64 p:=by simpa using w
  clear w;have g:DataW.trod enc Tryz.prog W 0 (fun _=>true) true n 3 ([c0,c1,c2,c3,c4,c5,c6].drop 4 |>.take (Tryz.prog.cellsOf 3))=some y4:=a 4 _ rfl;rw[jd] at g;obtain⟨q,z,-⟩:=DataW.trod_int Tryz.underlying3 g;have G:c4= .int .i64 q:=by simpa using z
  clear z;have i:DataW.trod enc Tryz.prog W 0 (fun _=>true) true n 3 ([c0,c1,c2,c3,c4,c5,c6].drop 5 |>.take (Tryz.prog.cellsOf 3))=some y5:=a 5 _ rfl;rw[jd] at i;obtain⟨r,A,-⟩:=DataW.trod_int Tryz.underlying3 i;have I:c5= .int .i64 r:=by simpa using A
  clear A;have j:DataW.trod enc Tryz.prog W 0 (fun _=>true) true n 3 ([c0,c1,c2,c3,c4,c5,c6].drop 6 |>.take (Tryz.prog.cellsOf 3))=some y6:=a 6 _ rfl;rw[jd] at j;obtain⟨s,B,-⟩:=DataW.trod_int Tryz.underlying3 j;have J:c6= .int .i64 s:=by simpa using B
  clear B;subst C D E F G I J;exact⟨⟨l,m,o,p,q,r,s⟩,rfl⟩
theorem Cq {H:Type} {enc:TypeId×Value→H} {W:World} (fuel:Nat) (cs:List Value) (x:DataW H×List MemPlace) (h:DataW.trod enc Tryz.prog W 0 (fun _=>true) true fuel 180 cs=some x):∃y:jJ,k6.rel W (fun k=>k<W.heap.size) y cs:=by
 obtain⟨s,n,-,-,j,e,b⟩:=DataW.trod_struct Tryz.underlying180 h;have p:Tryz.prog.cellsOf 180=2:=ie;rw[p] at j
 match cs,j,s,e,b with
 | [c0,c1],_,[y0,y1],_,b=>
  have i:DataW.trod enc Tryz.prog W 0 (fun _=>true) true n 3 ([c0,c1].drop 0 |>.take (Tryz.prog.cellsOf 3))=some y0:=b 0 _ rfl;rw[jd] at i;obtain⟨g,d,-⟩:=DataW.trod_int Tryz.underlying3 i;have d:c0= .int .i64 g:=by simpa using d
  subst d;have o:DataW.trod enc Tryz.prog W 0 (fun _=>true) true n 178 ([.int .i64 g,c1].drop 1 |>.take (Tryz.prog.cellsOf 178))=some y1:=b 1 _ rfl;obtain⟨A,c,m,a,q⟩:=kZ pO Tryz.underlying178 ie dc (fun f cs x h=>by obtain⟨y,r⟩:=EI f cs x h;exact⟨y,r⟩) o;have l:Tryz.prog.cellsOf 178=1:=ie;rw[l] at a;have a:c1= .slice A m.length c:=by simpa using a
  subst a;exact⟨⟨g,m⟩,_,rfl,q⟩
theorem D8 {H:Type} {enc:TypeId×Value→H} {W:World} (fuel:Nat) (cs:List Value) (x:DataW H×List MemPlace) (h:DataW.trod enc Tryz.prog W 0 (fun _=>true) true fuel 51 cs=some x):∃y:iM,oE.rel W (fun k=>k<W.heap.size) y cs:=by
 obtain⟨o,n,-,-,e,d,b⟩:=DataW.trod_struct Tryz.underlying51 h;have l:Tryz.prog.cellsOf 51=1:=ie;rw[l] at e
 match cs,e,o,d,b with
 | [c0],_,[y0],_,b=>
  have j:DataW.trod enc Tryz.prog W 0 (fun _=>true) true n 49 ([c0].drop 0 |>.take (Tryz.prog.cellsOf 49))=some y0:=b 0 _ rfl;obtain⟨A,c,i,a,m⟩:=kZ k6 Tryz.underlying49 ie dc (fun f cs x h=>Cq f cs x h) j;have g:Tryz.prog.cellsOf 49=1:=ie;rw[g] at a;have a:c0= .slice A i.length c:=by simpa using a
  subst a;exact⟨⟨i⟩,_,rfl,m⟩
end
end Go.Proofs.YtgilllnjhahkfaaGreat
