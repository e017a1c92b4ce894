/- Parts of the proof: Run, Draw2, Spc1. -/
import Derived.Deep.RegionLaw
import Derived.StillTailTactics
import Derived.BigRegion
import Derived.IntWalk
import Derived.Test.YtgilllnjhahkfaaGreatQ01
import Derived.Test.YtgilllnjhahkfaaGreatQ02
set_option linter.unusedVariables false
set_option linter.unusedSimpArgs false
set_option linter.unusedSectionVars false
set_option maxHeartbeats 4000000
set_option maxRecDepth 100000
namespace Go.Proofs.YtgilllnjhahkfaaGreat
open Go.RowKit
theorem jk {P:Program} {id:Nat} {Q:Exit→Act→World→Prop} {a:Act} {w:World} {l:List Oper} (n:Nat) (hm:P.follows .mixedOrders=true) (hB:Region.lexTailB .any l.toArray n=true)
  (h:wpStill P l.toArray w.drew (fun a' =>wpList P l.toArray Q (l.drop n) a' w.drew) (l.take n) a):(Code.region id l.toArray true).wp P Q a w:=wp_region_still_tail n hm hB h
theorem gX {W:World} {o:Obj} {H:Nat} (h:H=W.heap.size):(W.alloc o).heap[H]? =some o:=by subst h;exact heap_alloc_new W o
theorem Ow.tight {α:Type} {cells:α→List Value} {sz:Nat} {hl:∀x,(cells x).length=sz} {ho:∀x,∀u∈cells x,u.oneCell' =true} {e:TypeId} {w:World} {F:Nat→Prop} {v:Value} {xs:List α}
  (h:Ow (k7 cells sz hl ho) e w F v xs):Ow (k7 cells sz hl ho) e w (fun k=>v.ownBlock=some k) v xs:=Ow.of_flat h.flatRow (fun g hg=>hg)
theorem Ow.type_ne {α:Type} {d:Ty α} {e t:TypeId} {w:World} {F:Nat→Prop} {v:Value} {xs:List α} (h:Ow d e w F v xs) {g:Nat} {cs:Array Value} {fr:Nat×Nat} (hg:w.heap[g]? =some (.cells cs t fr)) (hne:e≠t):v.ownBlock≠some g:=by
 obtain⟨_,_,f,_⟩:=h;intro b;rcases f.2 with ⟨rfl,_⟩|⟨c,j,k,rfl,_,i,_⟩
 ·simp[Value.ownBlock] at b
 ·have:c=g:=by simpa [Value.ownBlock] using b
  subst this;rw[i] at hg;injection hg with hg;injection hg with _ ht;exact hne ht
theorem Ow.apart {α β:Type} {d:Ty α} {d':Ty β} {e e':TypeId} {w:World} {F F':Nat→Prop} {v v':Value} {xs:List α} {ys:List β} (h:Ow d e w F v xs) (h':Ow d' e' w F' v' ys) (hne:e≠e'):∀g,v.ownBlock=some g→v'.ownBlock≠some g:=by
 intro g a;obtain⟨_,_,c,_⟩:=h;rcases c.2 with ⟨rfl,_⟩|⟨b,i,j,rfl,_,f,_⟩
 ·simp[Value.ownBlock] at a
 ·have:b=g:=by simpa [Value.ownBlock] using a
  subst this;exact h'.type_ne f (fun e=>hne e.symm)
def kP (c:Int) (e:im) (r:iI) (sv ov:Value):Array Value:=
 #[.int .i64 r.x,.int .i64 r.y,.int .i64 c,.int .i64 e.time,.int .i64 e.to,.int .i64 e.from_,.int .i64 e.count,.int .i64 e.n,.int .i64 e.kind,.int .i64 e.arg,sv,ov]
structure lp (w:World) (g B:Nat) (c:Int) (e:im) (r:iI) (sv ov:Value):Prop where
 blk:w.heap[g]? =some (.cells (kP c e r sv ov) 190 (0,0))
 ge:B≤g
 sends:Ow iC 132 w (fun k=>B≤k) sv r.sends
 outs:Ow ii 120 w (fun k=>B≤k) ov r.outs
theorem gM {w:World} {g:Nat} {cs:Array Value} {t:TypeId} {fr:Nat×Nat} (h:w.heap[g]? =some (.cells cs t fr)) (i:Nat):w.cell? ⟨g,i,none⟩=cs[i]? :=by simp[World.cell?,h]
theorem ft {w:World} {g:Nat} {cs:Array Value} {t:TypeId} (h:w.heap[g]? =some (.cells cs t (0,0))) (i:Nat):w.frozen? ⟨g,i,none⟩=false:=by simp[World.frozen?,h]
theorem gL {w:World} {g:Nat} {o:Obj} (h:w.heap[g]? =some o):g<w.heap.size:=(Array.getElem?_eq_some_iff.1 h).1
theorem gN {w:World} {g:Nat} {cs:Array Value} {t:TypeId} {fr:Nat×Nat} (h:w.heap[g]? =some (.cells cs t fr)) (i:Nat) (u:Value):(w.setCell ⟨g,i,none⟩ u).heap[g]? =some (.cells (cs.setIfInBounds i u) t fr):=by
 simp[World.setCell,Array.getElem?_modify,h]
theorem lp.set {w:World} {g B:Nat} {c:Int} {e:im} {r r':iI} {sv ov:Value} (h:lp w g B c e r sv ov) (i:Nat) (u:Value) (hc:(kP c e r sv ov).setIfInBounds i u=kP c e r' sv ov) (hs:r'.sends=r.sends) (ho:r'.outs=r.outs):lp (w.setCell ⟨g,i,none⟩ u) g B c e r' sv ov:=by
 refine⟨by rw[gN h.blk,hc],h.ge,?_,?_⟩
 ·rw[hs]
  exact(h.sends.tight.keep (fun k a f=>Below.heap_setCell _ _ _ _ (fun b=>h.sends.type_ne h.blk dc (by have d:k=g:=b;subst d;exact a)))).mono (fun k a=>h.sends.inF a)
 ·rw[ho]
  exact(h.outs.tight.keep (fun k a f=>Below.heap_setCell _ _ _ _ (fun b=>h.outs.type_ne h.blk dc (by have d:k=g:=b;subst d;exact a)))).mono (fun k a=>h.outs.inF a)
theorem wW (g B:Nat) (c:Int) (e:im) (r:iI) (sv ov:Value) (k:Int) (w:World) (h:lp w g B c e r sv ov):
  Calls Tryz.prog 177 #[.pointer (some ⟨g,0,none⟩),.int .i64 k] w fun q w' =>q= .returned (.int .i64 (r.get k))∧w' =w:=by
 have d:w.cell? ⟨g,0,none⟩=some (.int .i64 r.x):=gM h.blk 0;have f:w.cell? ⟨g,1,none⟩=some (.int .i64 r.y):=gM h.blk 1;by_cases a:k=0
 ·subst a
  go_enter Tryz.func177,Tryz.ntmps177;go_wp2;go_ret;exact⟨rfl,rfl⟩
 ·have hk':(k==0)=false:=by simpa using a
  have b:r.get k=r.y:=by simp[iI.get,a]
  go_enter Tryz.func177,Tryz.ntmps177;go_wp2;go_ret;exact⟨by rw[b];rfl,rfl⟩
theorem Bc (g B:Nat) (c:Int) (e:im) (r:iI) (sv ov:Value) (k n:Int) (w:World) (h:lp w g B c e r sv ov) (hn:0≤n):
  Calls Tryz.prog 176 #[.pointer (some ⟨g,0,none⟩),.int .i64 k,.int .i64 n] w fun q w' =>q= .returned (.tuple #[])∧lp w' g B c e (r.put k n) sv ov∧Below B w w':=by
 have i:w.cell? ⟨g,0,none⟩=some (.int .i64 r.x):=gM h.blk 0;have j:w.cell? ⟨g,1,none⟩=some (.int .i64 r.y):=gM h.blk 1;have d:=ft h.blk 0;have f:=ft h.blk 1;by_cases a:k=0
 ·subst a
  go_enter Tryz.func176,Tryz.ntmps176;go_wp2
  go_end0
  exact⟨rfl,h.set 0 _ rfl rfl rfl,(gY _ _).setCell h.ge _⟩
 ·have hk':(k==0)=false:=by simpa using a
  have b:r.put k n= {r with y:=n % 1000}:=by simp[iI.put,a]
  go_enter Tryz.func176,Tryz.ntmps176;go_wp2
  go_end0
  exact⟨rfl,by rw[b];exact h.set 1 _ rfl rfl rfl,(gY _ _).setCell h.ge _⟩
theorem lp.below {w w':World} {g B:Nat} {c:Int} {e:im} {r:iI} {sv ov:Value} (h:lp w g B c e r sv ov) (hb:Below w.heap.size w w'):lp w' g B c e r sv ov:=
 ⟨(hb.block g (gL h.blk)).trans h.blk,h.ge,h.sends.below hb,h.outs.below hb⟩
theorem pB {r:iI} (hx:0≤r.x∧r.x≤999) (hy:0≤r.y∧r.y≤999) (k:Int):0≤r.get k∧r.get k≤999:=by unfold iI.get;split<;>assumption
abbrev GA (g:Nat) (o:mi):Array Value:= #[.pointer (some ⟨g,0,none⟩),.agg #[o.d,o.a,o.b,o.c,o.e]]
def oH (B g:Nat) (c:Int) (e:im) (r:iI) (o:mi) (w:World) (q:Ending) (w':World):Prop:=
 q= .returned (.int .i64 (jV e c o r).2)∧(∃sv ov,lp w' g B c e (jV e c o r).1 sv ov)∧Below B w w'
theorem kL:(Tryz.prog.info? 132).map (fun i=>(i.zero,i.size,i.bytes))=some (some (.agg #[.int .i64 0,.int .i64 0,.int .i64 0,.int .i64 0,.int .i64 0,.int .i64 0,.int .i64 0]),7,56):=ie
theorem lH:(Tryz.prog.info? 120).map (fun i=>(i.zero,i.size,i.bytes))=some (some (.agg #[.int .i64 0,.int .i64 0,.int .i64 0,.int .i64 0,.int .i64 0]),5,40):=ie
theorem FV (g B:Nat) (c:Int) (e:im) (r:iI) (sv ov:Value) (a b cc ee:Int) (w:World) (h:lp w g B c e r sv ov) (hB:B≤w.heap.size) (hx:0≤r.x∧r.x≤999) (hy:0≤r.y∧r.y≤999) (he:jM e=true) (hns:r.sends.length≤1000) (hno:r.outs.length≤1000) (ho:kC ⟨1,a,b,cc,ee⟩=true):
  Calls Tryz.prog 145 #[.pointer (some ⟨g,0,none⟩),.agg #[.int .i64 1,a,b,cc,ee]] w (oH B g c e r ⟨1,a,b,cc,ee⟩ w):=by
 simp[kC,i2] at ho;have d:=h.below (gU (gY _ _) (.cells #[.int .i64 1,a,b,cc,ee] 187));have hr':=d.below (gY _ _).drew;have j:=ho.2.1.1;clear ho;go_enter Tryz.func145,Tryz.ntmps145;go_wp2_with (go_at_call 176;refine(Bc g B c e r sv ov _ _ _ d gO).mono ?_;rintro q k ⟨rfl,f,i⟩);go_ret;exact⟨rfl,⟨sv,ov,f⟩,((gY _ _).alloc hB _).trans i⟩
theorem F3 (g B:Nat) (c:Int) (e:im) (r:iI) (sv ov:Value) (a b cc ee:Int) (w:World) (h:lp w g B c e r sv ov) (hB:B≤w.heap.size) (hx:0≤r.x∧r.x≤999) (hy:0≤r.y∧r.y≤999) (he:jM e=true) (hns:r.sends.length≤1000) (hno:r.outs.length≤1000) (ho:kC ⟨2,a,b,cc,ee⟩=true):
  Calls Tryz.prog 145 #[.pointer (some ⟨g,0,none⟩),.agg #[.int .i64 2,a,b,cc,ee]] w (oH B g c e r ⟨2,a,b,cc,ee⟩ w):=by
 simp[kC,i2] at ho;have i:=h.below (gU (gY _ _) (.cells #[.int .i64 2,a,b,cc,ee] 187));have hr':=i.below (gY _ _).drew;have j:=pB hx hy a;have k:=pB hx hy b;clear ho;go_enter Tryz.func145,Tryz.ntmps145;go_wp2_with fail;refine jk 12 ie ie ?_;simp only[List.take_succ_cons,List.take_zero,List.drop_succ_cons,List.drop_zero]
 iterate 6 still_step
 still_call (wW g B c e r sv ov _ _ hr')
 iterate 3 still_step
 still_call (wW g B c e r sv ov _ _ hr')
 still_step
 refine wpStill_nil ?_;go_wp2_with (go_at_call 176;refine(Bc g B c e r sv ov _ _ _ hr' gO).mono ?_;rintro q l ⟨rfl,d,f⟩);go_ret;exact⟨rfl,⟨sv,ov,d⟩,(((gY _ _).alloc hB _).drew).trans f⟩
theorem F8 (g B:Nat) (c:Int) (e:im) (r:iI) (sv ov:Value) (a b cc ee:Int) (w:World) (h:lp w g B c e r sv ov) (hB:B≤w.heap.size) (hx:0≤r.x∧r.x≤999) (hy:0≤r.y∧r.y≤999) (he:jM e=true) (hns:r.sends.length≤1000) (hno:r.outs.length≤1000) (ho:kC ⟨3,a,b,cc,ee⟩=true):
  Calls Tryz.prog 145 #[.pointer (some ⟨g,0,none⟩),.agg #[.int .i64 3,a,b,cc,ee]] w (oH B g c e r ⟨3,a,b,cc,ee⟩ w):=by
 simp[kC,i2] at ho;have i:=h.below (gU (gY _ _) (.cells #[.int .i64 3,a,b,cc,ee] 187));have hr':=i.below (gY _ _).drew;have k:=pB hx hy a;have l:=ho.2.1.1;have j:=ho.2.1.2;clear ho;go_enter Tryz.func145,Tryz.ntmps145;go_wp2_with fail;refine jk 10 ie ie ?_;simp only[List.take_succ_cons,List.take_zero,List.drop_succ_cons,List.drop_zero]
 iterate 6 still_step
 still_call (wW g B c e r sv ov _ _ hr')
 iterate 3 still_step
 refine wpStill_nil ?_;go_wp2_with (go_at_call 176;refine(Bc g B c e r sv ov _ _ _ hr' gO).mono ?_;rintro q m ⟨rfl,d,f⟩);go_ret;exact⟨rfl,⟨sv,ov,d⟩,(((gY _ _).alloc hB _).drew).trans f⟩
theorem FX (g B:Nat) (c:Int) (e:im) (r:iI) (sv ov:Value) (a b cc ee:Int) (w:World) (h:lp w g B c e r sv ov) (hB:B≤w.heap.size) (hx:0≤r.x∧r.x≤999) (hy:0≤r.y∧r.y≤999) (he:jM e=true) (hns:r.sends.length≤1000) (hno:r.outs.length≤1000) (ho:kC ⟨4,a,b,cc,ee⟩=true):
  Calls Tryz.prog 145 #[.pointer (some ⟨g,0,none⟩),.agg #[.int .i64 4,a,b,cc,ee]] w (oH B g c e r ⟨4,a,b,cc,ee⟩ w):=by
 simp[kC,i2] at ho;have d:=h.below (gU (gY _ _) (.cells #[.int .i64 4,a,b,cc,ee] 187));have hr':=d.below (gY _ _).drew;have f:=gM d.blk 9;simp[kP] at f;simp[jM,i2] at he;have ha:=he.2.1;clear ho;go_enter Tryz.func145,Tryz.ntmps145;go_wp2_with fail;refine jk 8 ie ie ?_;simp only[List.take_succ_cons,List.take_zero,List.drop_succ_cons,List.drop_zero]
 iterate 8 still_step
 refine wpStill_nil ?_;go_wp2_with (go_at_call 176;refine(Bc g B c e r sv ov _ _ _ hr' gO).mono ?_;rintro q k ⟨rfl,i,j⟩);go_ret;exact⟨rfl,⟨sv,ov,i⟩,(((gY _ _).alloc hB _).drew).trans j⟩
theorem F9 (g B:Nat) (c:Int) (e:im) (r:iI) (sv ov:Value) (a b cc ee:Int) (w:World) (h:lp w g B c e r sv ov) (hB:B≤w.heap.size) (hx:0≤r.x∧r.x≤999) (hy:0≤r.y∧r.y≤999) (he:jM e=true) (hns:r.sends.length≤1000) (hno:r.outs.length≤1000) (ho:kC ⟨5,a,b,cc,ee⟩=true):
  Calls Tryz.prog 145 #[.pointer (some ⟨g,0,none⟩),.agg #[.int .i64 5,a,b,cc,ee]] w (oH B g c e r ⟨5,a,b,cc,ee⟩ w):=by
 simp[kC,i2] at ho;have f:=h.below (gU (gY _ _) (.cells #[.int .i64 5,a,b,cc,ee] 187));have hr':=f.below (gY _ _).drew;have i:=pB hx hy a;clear ho;go_enter Tryz.func145,Tryz.ntmps145;go_wp2_with fail;refine jk 6 ie ie ?_;simp only[List.take_succ_cons,List.take_zero,List.drop_succ_cons,List.drop_zero]
 iterate 3 still_step
 still_call (wW g B c e r sv ov _ _ hr')
 iterate 2 still_step
 refine wpStill_nil ?_;by_cases hlt:r.get a<b
 ·have d:jV e c ⟨5,a,b,cc,ee⟩ r=(r,cc):=by simp[jV,hlt]
  go_wp2;go_ret;exact⟨by rw[d];rfl,⟨sv,ov,by rw[d];exact hr'⟩,((gY _ _).alloc hB _).drew⟩
 ·have d:jV e c ⟨5,a,b,cc,ee⟩ r=(r,0):=by simp[jV,hlt]
  go_wp2;go_ret;exact⟨by rw[d];rfl,⟨sv,ov,by rw[d];exact hr'⟩,((gY _ _).alloc hB _).drew⟩
theorem lp.grown_sends {w w1:World} {g B:Nat} {c:Int} {e:im} {r:iI} {sv ov:Value} (h:lp w g B c e r sv ov) (hG:w.grownBy w1 sv.ownBlock):
  w1.heap[g]? =some (.cells (kP c e r sv ov) 190 (0,0))∧Ow ii 120 w1 (fun k=>B≤k) ov r.outs:=
 ⟨(hG.block g (gL h.blk) (fun e' =>h.sends.type_ne h.blk dc e'.symm)).trans h.blk,
  (h.outs.tight.keep (fun k hk hlt=>hG.block k hlt (fun e' =>h.outs.apart h.sends dc k hk e'.symm))).mono (fun k hk=>h.outs.inF hk)⟩
theorem lp.grown_outs {w w1:World} {g B:Nat} {c:Int} {e:im} {r:iI} {sv ov:Value} (h:lp w g B c e r sv ov) (hG:w.grownBy w1 ov.ownBlock):
  w1.heap[g]? =some (.cells (kP c e r sv ov) 190 (0,0))∧Ow iC 132 w1 (fun k=>B≤k) sv r.sends:=
 ⟨(hG.block g (gL h.blk) (fun e' =>h.outs.type_ne h.blk dc e'.symm)).trans h.blk,
  (h.sends.tight.keep (fun k hk hlt=>hG.block k hlt (fun e' =>h.sends.apart h.outs dc k hk e'.symm))).mono (fun k hk=>h.sends.inF hk)⟩
theorem Ow.setCell {α:Type} {cells:α→List Value} {sz:Nat} {hl:∀x,(cells x).length=sz} {ho:∀x,∀u∈cells x,u.oneCell' =true} {e t:TypeId} {w:World} {F:Nat→Prop} {v:Value} {xs:List α}
  (h:Ow (k7 cells sz hl ho) e w F v xs) {g i:Nat} {cs:Array Value} {fr:Nat×Nat} (hg:w.heap[g]? =some (.cells cs t fr)) (hne:e≠t) (u:Value):Ow (k7 cells sz hl ho) e (w.setCell ⟨g,i,none⟩ u) F v xs:=
 (h.tight.keep (fun k hk hlt=>Below.heap_setCell _ _ _ _ (fun e' =>h.type_ne hg hne (by have e2:k=g:=e';subst e2;exact hk)))).mono (fun k hk=>h.inF hk)
theorem Ek {w w1 W:World} {g B:Nat} {c:Int} {e:im} {r r':iI} {sv ov v1:Value} {o:mi} {box:Obj} (hd:jV e c o r=(r',0)) (hG1:w1.heap[g]? =some (.cells (kP c e r sv ov) 190 (0,0))∧Ow ii 120 w1 (fun k=>B≤k) ov r.outs)
  (hO:Ow iC 132 w1 (fun k=>B≤k) v1 r'.sends) (hG:W.grownBy w1 sv.ownBlock) (HS:Ch (fun k=>sv.ownBlock=some k) (w.alloc box) w1) (hB:B≤w.heap.size) (hsv:∀k,sv.ownBlock=some k→B≤k) (hgB:B≤g) (hx:r'.x=r.x) (hy:r'.y=r.y) (ho:r'.outs=r.outs):
  oH B g c e r o w (.returned (.int .i64 0)) (w1.setCell ⟨g,10,none⟩ v1):=by
 refine⟨by rw[hd],⟨v1,ov,?_,hgB,?_,?_⟩,?_⟩
 ·rw[gN hG1.1,hd]
  simp[kP,hx,hy]
 ·rw[hd];exact hO.setCell hG1.1 dc _
 ·rw[hd];simp only[ho];exact hG1.2.setCell hG1.1 dc _
 ·exact(((gY _ _).alloc hB _).trans (HS.below (fun k a=>hsv k a) (by simp;omega))).setCell hgB _
theorem EN {w w1 W:World} {g B:Nat} {c:Int} {e:im} {r r':iI} {sv ov v1:Value} {o:mi} {box:Obj} (hd:jV e c o r=(r',0)) (hG1:w1.heap[g]? =some (.cells (kP c e r sv ov) 190 (0,0))∧Ow iC 132 w1 (fun k=>B≤k) sv r.sends)
  (hO:Ow ii 120 w1 (fun k=>B≤k) v1 r'.outs) (hG:W.grownBy w1 ov.ownBlock) (HS:Ch (fun k=>ov.ownBlock=some k) (w.alloc box) w1) (hB:B≤w.heap.size) (hsv:∀k,ov.ownBlock=some k→B≤k) (hgB:B≤g) (hx:r'.x=r.x) (hy:r'.y=r.y) (ho:r'.sends=r.sends):
  oH B g c e r o w (.returned (.int .i64 0)) (w1.setCell ⟨g,11,none⟩ v1):=by
 refine⟨by rw[hd],⟨sv,v1,?_,hgB,?_,?_⟩,?_⟩
 ·rw[gN hG1.1,hd]
  simp[kP,hx,hy]
 ·rw[hd];simp only[ho];exact hG1.2.setCell hG1.1 dc _
 ·rw[hd];exact hO.setCell hG1.1 dc _
 ·exact(((gY _ _).alloc hB _).trans (HS.below (fun k a=>hsv k a) (by simp;omega))).setCell hgB _
theorem F5 (g B:Nat) (c:Int) (e:im) (r:iI) (sv ov:Value) (a b cc ee:Int) (w:World) (h:lp w g B c e r sv ov) (hB:B≤w.heap.size) (hx:0≤r.x∧r.x≤999) (hy:0≤r.y∧r.y≤999) (he:jM e=true) (hns:r.sends.length≤1000) (hno:r.outs.length≤1000) (ho:kC ⟨6,a,b,cc,ee⟩=true):
  Calls Tryz.prog 145 #[.pointer (some ⟨g,0,none⟩),.agg #[.int .i64 6,a,b,cc,ee]] w (oH B g c e r ⟨6,a,b,cc,ee⟩ w):=by
 simp[kC,i2] at ho;simp[jM,i2] at he;obtain⟨A,o,rfl,U⟩:=h.sends.shape;have f:=h.below (gU (gY _ _) (.cells #[.int .i64 6,a,b,cc,ee] 187));have C:=gM f.blk 2;have D:=gM f.blk 3;have E:=gM f.blk 4;have t:=gM f.blk 10;simp[kP] at C D E t;have M:=ft f.blk 10;have X:=he.1.1.1.1.1.1;have W:=ho.2.2.1;clear he ho;have Q:=h.sends.type_ne h.blk dc;have T:=gL h.blk;have H:(Value.slice A r.sends.length o).ownBlock≠some w.heap.size:=fun F=>by have:=h.sends.block_lt F;omega
 have hg':g<w.heap.size+1:=gO;by_cases hle:e.time+cc≤40
 ·have G:decide (e.time+cc≤40)=true:=jT hle
  have l:jV e c ⟨6,a,b,cc,ee⟩ r=({r with sends:=r.sends++[⟨e.time+cc,a,e.to,c,(r.sends.length:Int),b,r.get ee⟩]},0):=by simp[jV,hle]
  have z:=gP l;clear l;go_enter Tryz.func145,Tryz.ntmps145;go_wp2_with fail
  go_quiet (fail)
  go_wp2_with fail;have V:IntKind.i64.wrap (e.time+cc)=e.time+cc:=IntWalk.i64_in _ gO;refine ib (fun I=>Ch (fun k=>(Value.slice A r.sends.length o).ownBlock=some k) (w.alloc (.cells #[.int .i64 6,a,b,cc,ee] 187)) I) [tT 0,tT 1,tT 2,tT 3,tT 4,tT 5,tT 6,tT 7,tT 8,tT 9,tT 10,tT 11,tT 12,tT 13,tT 14,tT 15,tT 16,tT 17,tT 18,tT 19,tT 20,tT 21,tT 22,tT 23,tT 24,tT 25,tT 26,tT 27,tT 28,tT 29,tT 30,tT 31,tT 32,tT 33,tT 34,tF 35,tT 36,tF 37,tF 38,tT 39,tT 40,tF 41] ie ie qP ?_;have HS:=((Ch.refl (fun k=>(Value.slice A r.sends.length o).ownBlock=some k) (w.alloc (.cells #[.int .i64 6,a,b,cc,ee] 187))).drewN nq).drew
  iterate 35 (refine jr (v:=?_) (by rfl) HS (by rfl) ?_ ?_;rotate_left;(focus (intro wS hS;obtain⟨kc,kf⟩:=hS.cells;go_simp;(try (with_reducible rfl));done));(intro K hK;go_simp;refine hK _ ?_;clear hK K))
  refine ia (by rfl) (by rfl) (fun K hK=>?_);go_simp;refine(wW g B c e r _ _ _ _ (f.below (by repeat (first|exact gY _ _|refine gU ?_ _|refine jG ?_ _|refine Below.drew ?_)))).mono ?_;rintro q J ⟨rfl,rfl⟩;refine hK _ _ (Or.inr HS) ?_;clear hK K
  iterate 1 (refine jr (v:=?_) (by rfl) HS (by rfl) ?_ ?_;rotate_left;(focus (intro wS hS;obtain⟨kc,kf⟩:=hS.cells;go_simp;(try (with_reducible rfl));done));(intro K hK;go_simp;refine hK _ ?_;clear hK K))
  refine ia (by rfl) (by rfl) (fun K hK=>?_);go_simp;refine hK _ _ (Or.inr (HS.alloc _)) ?_;clear hK K;refine ia (by rfl) (by rfl) (fun K hK=>?_);refine kO (d:=iC) 33 rfl Tryz.underlying33 _ 56 kL rfl dc dc rfl (f.below (by repeat (first|exact gY _ _|refine gU ?_ _|refine jG ?_ _|refine Below.drew ?_))).sends ⟨e.time+cc,a,e.to,c,(r.sends.length:Int),b,r.get ee⟩ _ rfl (gX sm) (fun _=>False) rfl (fun _ m=>m.elim) (fun _ m=>m.elim) gO (fun k=>B≤k) (fun _ i=>i) (fun _ m=>m.elim) (fun k i=>by simp at i;omega) ?_;intro Y J s p O;have j:=(HS.alloc _).grown p (fun k i=> .inl i);have n:=lp.grown_sends (f.below (by repeat (first|exact gY _ _|refine gU ?_ _|refine jG ?_ _|refine Below.drew ?_))) p;obtain⟨S,L,rfl,P⟩:=s.shape;simp only[List.length_append,List.length_singleton] at s;have u:=gM n.1 10;have R:=ft n.1 10;simp[kP] at u;refine hK _ _ (Or.inr j) ?_;clear hK K HS;have HS:=j;clear j
  iterate 2 (refine jr (v:=?_) (by rfl) HS (by rfl) ?_ ?_;rotate_left;(focus (intro wS hS;obtain⟨kc,kf⟩:=hS.cells;go_simp;(try (with_reducible rfl));done));(intro K hK;go_simp;refine hK _ ?_;clear hK K))
  refine ia (by rfl) (by rfl) (fun K hK=>?_);go_simp;refine hK _ _ (Or.inl ie) ?_;clear hK K;simp only[jc];go_wp2;go_ret;exact Ek (sv:=(Value.slice A r.sends.length o)) z.out n s p HS hB (fun k i=>h.sends.inF i) h.ge rfl rfl rfl
 ·have G:decide (e.time+cc≤40)=false:=iU hle
  have l:jV e c ⟨6,a,b,cc,ee⟩ r=(r,0):=by simp[jV,hle]
  go_enter Tryz.func145,Tryz.ntmps145;go_wp2_with fail
  go_quiet (fail)
  go_wp2_with fail;go_ret;exact⟨by rw[l];rfl,⟨_,_,by rw[l];exact f.below (jG (gY _ _) _)⟩,jG ((gY _ _).alloc hB _) _⟩
theorem Gi (g B:Nat) (c:Int) (e:im) (r:iI) (sv ov:Value) (a b cc ee:Int) (w:World) (h:lp w g B c e r sv ov) (hB:B≤w.heap.size) (hx:0≤r.x∧r.x≤999) (hy:0≤r.y∧r.y≤999) (he:jM e=true) (hns:r.sends.length≤1000) (hno:r.outs.length≤1000) (ho:kC ⟨7,a,b,cc,ee⟩=true):
  Calls Tryz.prog 145 #[.pointer (some ⟨g,0,none⟩),.agg #[.int .i64 7,a,b,cc,ee]] w (oH B g c e r ⟨7,a,b,cc,ee⟩ w):=by
 simp[kC,i2] at ho;simp[jM,i2] at he;obtain⟨A,n,rfl,R⟩:=h.outs.shape;have f:=h.below (gU (gY _ _) (.cells #[.int .i64 7,a,b,cc,ee] 187));have u:=gM f.blk 2;have z:=gM f.blk 3;have C:=gM f.blk 4;have s:=gM f.blk 11;simp[kP] at u z C s;have I:=ft f.blk 11;clear he ho;have M:=h.outs.type_ne h.blk dc;have Q:=gL h.blk;have E:(Value.slice A r.outs.length n).ownBlock≠some w.heap.size:=fun D=>by have:=h.outs.block_lt D;omega
 have hg':g<w.heap.size+1:=gO;go_enter Tryz.func145,Tryz.ntmps145;go_wp2_with fail;refine ib (fun F=>Ch (fun k=>(Value.slice A r.outs.length n).ownBlock=some k) (w.alloc (.cells #[.int .i64 7,a,b,cc,ee] 187)) F) [tT 0,tT 1,tT 2,tT 3,tT 4,tT 5,tT 6,tT 7,tT 8,tT 9,tT 10,tT 11,tT 12,tT 13,tT 14,tT 15,tT 16,tT 17,tT 18,tT 19,tT 20,tT 21,tT 22,tT 23,tT 24,tT 25,tT 26,tT 27,tF 28,tT 29,tF 30,tF 31,tT 32,tT 33,tF 34] ie ie qP ?_;have HS:=(Ch.refl (fun k=>(Value.slice A r.outs.length n).ownBlock=some k) (w.alloc (.cells #[.int .i64 7,a,b,cc,ee] 187))).drew
 iterate 28 (refine jr (v:=?_) (by rfl) HS (by rfl) ?_ ?_;rotate_left;(focus (intro wS hS;obtain⟨kc,kf⟩:=hS.cells;go_simp;(try (with_reducible rfl));done));(intro K hK;go_simp;refine hK _ ?_;clear hK K))
 refine ia (by rfl) (by rfl) (fun K hK=>?_);go_simp;refine(wW g B c e r _ _ _ _ (f.below (by repeat (first|exact gY _ _|refine gU ?_ _|refine jG ?_ _|refine Below.drew ?_)))).mono ?_;rintro q G ⟨rfl,rfl⟩;refine hK _ _ (Or.inr HS) ?_;clear hK K
 iterate 1 (refine jr (v:=?_) (by rfl) HS (by rfl) ?_ ?_;rotate_left;(focus (intro wS hS;obtain⟨kc,kf⟩:=hS.cells;go_simp;(try (with_reducible rfl));done));(intro K hK;go_simp;refine hK _ ?_;clear hK K))
 refine ia (by rfl) (by rfl) (fun K hK=>?_);go_simp;refine hK _ _ (Or.inr (HS.alloc _)) ?_;clear hK K;refine ia (by rfl) (by rfl) (fun K hK=>?_);refine kO (d:=ii) 34 rfl Tryz.underlying34 _ 40 lH rfl dc dc rfl (f.below (by repeat (first|exact gY _ _|refine gU ?_ _|refine jG ?_ _|refine Below.drew ?_))).outs ⟨e.time,e.to,c,(r.outs.length:Int),r.get a⟩ _ rfl (gX sm) (fun _=>False) rfl (fun _ l=>l.elim) (fun _ l=>l.elim) gO (fun k=>B≤k) (fun _ i=>i) (fun _ l=>l.elim) (fun k i=>by simp at i;omega) ?_;intro S G p o J;have j:=(HS.alloc _).grown o (fun k i=> .inl i);have m:=lp.grown_outs (f.below (by repeat (first|exact gY _ _|refine gU ?_ _|refine jG ?_ _|refine Below.drew ?_))) o;obtain⟨P,H,rfl,L⟩:=p.shape;simp only[List.length_append,List.length_singleton] at p;have t:=gM m.1 11;have O:=ft m.1 11;simp[kP] at t;refine hK _ _ (Or.inr j) ?_;clear hK K HS;have HS:=j;clear j
 iterate 2 (refine jr (v:=?_) (by rfl) HS (by rfl) ?_ ?_;rotate_left;(focus (intro wS hS;obtain⟨kc,kf⟩:=hS.cells;go_simp;(try (with_reducible rfl));done));(intro K hK;go_simp;refine hK _ ?_;clear hK K))
 refine ia (by rfl) (by rfl) (fun K hK=>?_);go_simp;refine hK _ _ (Or.inl ie) ?_;clear hK K;simp only[jc];go_wp2;go_ret;exact EN (ov:=(Value.slice A r.outs.length n)) rfl m p o HS hB (fun k i=>h.outs.inF i) h.ge rfl rfl rfl
theorem nD {w:World} {g:Nat} {v0:Value} {l:List Value} {t:TypeId} {f:Nat×Nat} (h:w.heap[g]? =some (.cells (List.toArray (v0::l)) t f)):w.cell? ⟨g,0,none⟩=some v0:=gM h 0
theorem tY {w:World} {g:Nat} {v0 v1:Value} {l:List Value} {t:TypeId} {f:Nat×Nat} (h:w.heap[g]? =some (.cells (List.toArray (v0::v1::l)) t f)):w.cell? ⟨g,1,none⟩=some v1:=gM h 1
theorem ut {w:World} {g:Nat} {v0 v1 v2:Value} {l:List Value} {t:TypeId} {f:Nat×Nat} (h:w.heap[g]? =some (.cells (List.toArray (v0::v1::v2::l)) t f)):w.cell? ⟨g,2,none⟩=some v2:=gM h 2
theorem ui {w:World} {g:Nat} {v0 v1 v2 v3:Value} {l:List Value} {t:TypeId} {f:Nat×Nat} (h:w.heap[g]? =some (.cells (List.toArray (v0::v1::v2::v3::l)) t f)):w.cell? ⟨g,3,none⟩=some v3:=gM h 3
theorem sO {w:World} {g:Nat} {v0 v1 v2 v3 v4:Value} {l:List Value} {t:TypeId} {f:Nat×Nat} (h:w.heap[g]? =some (.cells (List.toArray (v0::v1::v2::v3::v4::l)) t f)):w.cell? ⟨g,4,none⟩=some v4:=gM h 4
theorem xJ {w:World} {g:Nat} {v0 v1 v2 v3 v4 v5:Value} {l:List Value} {t:TypeId} {f:Nat×Nat} (h:w.heap[g]? =some (.cells (List.toArray (v0::v1::v2::v3::v4::v5::l)) t f)):w.cell? ⟨g,5,none⟩=some v5:=gM h 5
theorem xD {w:World} {g:Nat} {v0 v1 v2 v3 v4 v5 v6:Value} {l:List Value} {t:TypeId} {f:Nat×Nat} (h:w.heap[g]? =some (.cells (List.toArray (v0::v1::v2::v3::v4::v5::v6::l)) t f)):w.cell? ⟨g,6,none⟩=some v6:=gM h 6
theorem zQ {w:World} {g:Nat} {v0 v1 v2 v3 v4 v5 v6 v7:Value} {l:List Value} {t:TypeId} {f:Nat×Nat} (h:w.heap[g]? =some (.cells (List.toArray (v0::v1::v2::v3::v4::v5::v6::v7::l)) t f)):w.cell? ⟨g,7,none⟩=some v7:=gM h 7
theorem Ae {w:World} {g:Nat} {v0 v1 v2 v3 v4 v5 v6 v7 v8:Value} {l:List Value} {t:TypeId} {f:Nat×Nat} (h:w.heap[g]? =some (.cells (List.toArray (v0::v1::v2::v3::v4::v5::v6::v7::v8::l)) t f)):w.cell? ⟨g,8,none⟩=some v8:=gM h 8
theorem Ah {w:World} {g:Nat} {v0 v1 v2 v3 v4 v5 v6 v7 v8 v9:Value} {l:List Value} {t:TypeId} {f:Nat×Nat} (h:w.heap[g]? =some (.cells (List.toArray (v0::v1::v2::v3::v4::v5::v6::v7::v8::v9::l)) t f)):w.cell? ⟨g,9,none⟩=some v9:=gM h 9
theorem qZ {w:World} {g:Nat} {v0 v1 v2 v3 v4 v5 v6 v7 v8 v9 v10:Value} {l:List Value} {t:TypeId} {f:Nat×Nat} (h:w.heap[g]? =some (.cells (List.toArray (v0::v1::v2::v3::v4::v5::v6::v7::v8::v9::v10::l)) t f)):w.cell? ⟨g,10,none⟩=some v10:=gM h 10
theorem rO {w:World} {g:Nat} {v0 v1 v2 v3 v4 v5 v6 v7 v8 v9 v10 v11:Value} {l:List Value} {t:TypeId} {f:Nat×Nat} (h:w.heap[g]? =some (.cells (List.toArray (v0::v1::v2::v3::v4::v5::v6::v7::v8::v9::v10::v11::l)) t f)):w.cell? ⟨g,11,none⟩=some v11:=gM h 11
theorem rG {w:World} {g:Nat} {v0 v1 v2 v3 v4 v5 v6 v7 v8 v9 v10 v11 v12:Value} {l:List Value} {t:TypeId} {f:Nat×Nat} (h:w.heap[g]? =some (.cells (List.toArray (v0::v1::v2::v3::v4::v5::v6::v7::v8::v9::v10::v11::v12::l)) t f)):w.cell? ⟨g,12,none⟩=some v12:=gM h 12
theorem GR {w:World} {g:Nat} {v0 v1 v2 v3 v4 v5 v6 v7 v8 v9 v10 v11 v12 v13:Value} {l:List Value} {t:TypeId} {f:Nat×Nat} (h:w.heap[g]? =some (.cells (List.toArray (v0::v1::v2::v3::v4::v5::v6::v7::v8::v9::v10::v11::v12::v13::l)) t f)):w.cell? ⟨g,13,none⟩=some v13:=gM h 13
theorem DA {w:World} {g:Nat} {v0 v1:Value} {l:List Value} {t:TypeId} {f:Nat×Nat} (h:w.heap[g]? =some (.cells (List.toArray (v0::v1::l)) t f)):w.cell? ⟨g,0,none⟩=some v0∧w.cell? ⟨g,1,none⟩=some v1:=⟨gM h 0,gM h 1⟩
theorem Ed {w:World} {g:Nat} {v0 v1 v2:Value} {l:List Value} {t:TypeId} {f:Nat×Nat} (h:w.heap[g]? =some (.cells (List.toArray (v0::v1::v2::l)) t f)):w.cell? ⟨g,0,none⟩=some v0∧w.cell? ⟨g,1,none⟩=some v1∧w.cell? ⟨g,2,none⟩=some v2:=⟨gM h 0,gM h 1,gM h 2⟩
theorem GW {w:World} {g:Nat} {v0 v1 v2 v3:Value} {l:List Value} {t:TypeId} {f:Nat×Nat} (h:w.heap[g]? =some (.cells (List.toArray (v0::v1::v2::v3::l)) t f)):w.cell? ⟨g,0,none⟩=some v0∧w.cell? ⟨g,1,none⟩=some v1∧w.cell? ⟨g,2,none⟩=some v2∧w.cell? ⟨g,3,none⟩=some v3:=⟨gM h 0,gM h 1,gM h 2,gM h 3⟩
theorem ra {w:World} {g:Nat} {v0 v1 v2 v3 v4:Value} {l:List Value} {t:TypeId} {f:Nat×Nat} (h:w.heap[g]? =some (.cells (List.toArray (v0::v1::v2::v3::v4::l)) t f)):w.cell? ⟨g,0,none⟩=some v0∧w.cell? ⟨g,1,none⟩=some v1∧w.cell? ⟨g,2,none⟩=some v2∧w.cell? ⟨g,3,none⟩=some v3∧w.cell? ⟨g,4,none⟩=some v4:=⟨gM h 0,gM h 1,gM h 2,gM h 3,gM h 4⟩
theorem GU {w:World} {g:Nat} {v0 v1 v2 v3 v4 v5:Value} {l:List Value} {t:TypeId} {f:Nat×Nat} (h:w.heap[g]? =some (.cells (List.toArray (v0::v1::v2::v3::v4::v5::l)) t f)):w.cell? ⟨g,0,none⟩=some v0∧w.cell? ⟨g,1,none⟩=some v1∧w.cell? ⟨g,2,none⟩=some v2∧w.cell? ⟨g,3,none⟩=some v3∧w.cell? ⟨g,4,none⟩=some v4∧w.cell? ⟨g,5,none⟩=some v5:=⟨gM h 0,gM h 1,gM h 2,gM h 3,gM h 4,gM h 5⟩
theorem yc {w:World} {g:Nat} {v0 v1 v2 v3 v4 v5 v6:Value} {l:List Value} {t:TypeId} {f:Nat×Nat} (h:w.heap[g]? =some (.cells (List.toArray (v0::v1::v2::v3::v4::v5::v6::l)) t f)):w.cell? ⟨g,0,none⟩=some v0∧w.cell? ⟨g,1,none⟩=some v1∧w.cell? ⟨g,2,none⟩=some v2∧w.cell? ⟨g,3,none⟩=some v3∧w.cell? ⟨g,4,none⟩=some v4∧w.cell? ⟨g,5,none⟩=some v5∧w.cell? ⟨g,6,none⟩=some v6:=⟨gM h 0,gM h 1,gM h 2,gM h 3,gM h 4,gM h 5,gM h 6⟩
theorem oV {w:World} {g:Nat} {v0 v1 v2 v3 v4 v5 v6 v7 v8 v9 v10 v11:Value} {l:List Value} {t:TypeId} {f:Nat×Nat} (h:w.heap[g]? =some (.cells (List.toArray (v0::v1::v2::v3::v4::v5::v6::v7::v8::v9::v10::v11::l)) t f)):w.cell? ⟨g,0,none⟩=some v0∧w.cell? ⟨g,1,none⟩=some v1∧w.cell? ⟨g,2,none⟩=some v2∧w.cell? ⟨g,3,none⟩=some v3∧w.cell? ⟨g,4,none⟩=some v4∧w.cell? ⟨g,5,none⟩=some v5∧w.cell? ⟨g,6,none⟩=some v6∧w.cell? ⟨g,7,none⟩=some v7∧w.cell? ⟨g,8,none⟩=some v8∧w.cell? ⟨g,9,none⟩=some v9∧w.cell? ⟨g,10,none⟩=some v10∧w.cell? ⟨g,11,none⟩=some v11:=⟨gM h 0,gM h 1,gM h 2,gM h 3,gM h 4,gM h 5,gM h 6,gM h 7,gM h 8,gM h 9,gM h 10,gM h 11⟩
theorem GT {P:Prop} (t:P:=by repeat (refine Ch.setCell ?_ (by first|exact Or.inl rfl|exact Or.inl (Or.inl rfl)|exact Or.inl (Or.inr rfl)) _);exact Ch.refl _ _):P:=t
theorem n8 (w:World) (a:Obj):∃W,Hid (w.alloc a=W)∧Below w.heap.size w W∧W.heap[w.heap.size]? =some a:=⟨_,rfl,gU (Below.refl _ _) _,gX rfl⟩
theorem yb (w:World) (a b:Obj):∃W,Hid ((w.alloc a).alloc b=W)∧Below w.heap.size w W∧W.heap[w.heap.size]? =some a∧W.heap[w.heap.size+1]? =some b:=⟨_,rfl,gU (gU (Below.refl _ _) _) _,(Below.heap_alloc _ _ _ (by simp)).trans (gX rfl),gX (by simp)⟩
theorem Ee (w:World) (a b c:Obj):∃W,Hid (((w.alloc a).alloc b).alloc c=W)∧Below w.heap.size w W∧W.heap[w.heap.size]? =some a∧W.heap[w.heap.size+1]? =some b∧W.heap[w.heap.size+1+1]? =some c:=⟨_,rfl,gU (gU (gU (Below.refl _ _) _) _) _,(Below.heap_alloc _ _ _ (by simp only[World.size_alloc];omega)).trans ((Below.heap_alloc _ _ _ (by simp)).trans (gX rfl)),(Below.heap_alloc _ _ _ (by simp)).trans (gX (by simp)),gX (by simp)⟩
theorem gJ {B k:Nat} {w w':World} {o:Obj} (h:Below B w w') (hk:k<B) (ho:w.heap[k]? =some o):w'.heap[k]? =some o:=(h.block k hk).trans ho
def iZ (e:im):Value:= .agg #[e.time,e.to,e.from_,e.count,e.n,e.kind,e.arg]
theorem oB {w:World} {s:Nat} {t:TypeId} {a b c d e f g:Value} (h:w.heap[s]? =some (.cells #[a,b,c,d,e,f,g] t (0,0))):
  (w.cell? ⟨s,0,none⟩=some a∧w.cell? ⟨s,1,none⟩=some b∧w.cell? ⟨s,2,none⟩=some c∧w.cell? ⟨s,3,none⟩=some d∧w.cell? ⟨s,4,none⟩=some e∧w.cell? ⟨s,5,none⟩=some f∧w.cell? ⟨s,6,none⟩=some g)∧∀i,w.frozen? ⟨s,i,none⟩=false:=
 ⟨⟨gM h 0,gM h 1,gM h 2,gM h 3,gM h 4,gM h 5,gM h 6⟩,ft h⟩
def mB (o:iQ):Value:= .agg #[o.time,o.proc,o.count,o.n,o.value]
theorem oy (a b:im) (w:World):Calls Tryz.prog 135 #[iZ a,iZ b] w fun q w' =>q= .returned (.bool (hY a b))∧Below w.heap.size w w':=by
 unfold iZ;by_cases h0:a.time=b.time
 ·have d:(a.time !=b.time)=false:=by simp[h0]
  by_cases h1:a.to=b.to
  ·have f:(a.to !=b.to)=false:=by simp[h1]
   by_cases h2:a.from_=b.from_
   ·have g:(a.from_ !=b.from_)=false:=by simp[h2]
    by_cases h3:a.count=b.count
    ·have i:(a.count !=b.count)=false:=by simp[h3]
     by_cases h4:a.n=b.n
     ·have j:(a.n !=b.n)=false:=by simp[h4]
      by_cases h5:a.kind=b.kind
      ·have k:(a.kind !=b.kind)=false:=by simp[h5]
       have c:=gP (show hY a b=decide (a.arg<b.arg) by simp[hY,im.key,ku,h0,h1,h2,h3,h4,h5];intro e;omega);clear h0 h1 h2 h3 h4 h5;go_enter Tryz.func135,Tryz.ntmps135;go_wp2_with fail;go_ret;exact⟨by rw[c.out];rfl,by repeat (first|exact gY _ _|refine gU ?_ _)⟩
      ·have k:(a.kind !=b.kind)=true:=by simp[h5]
       have c:=gP (show hY a b=decide (a.kind<b.kind) by simp[hY,im.key,ku,h0,h1,h2,h3,h4,h5]);clear h0 h1 h2 h3 h4 h5;go_enter Tryz.func135,Tryz.ntmps135;go_wp2_with fail;go_ret;exact⟨by rw[c.out];rfl,by repeat (first|exact gY _ _|refine gU ?_ _)⟩
     ·have j:(a.n !=b.n)=true:=by simp[h4]
      have c:=gP (show hY a b=decide (a.n<b.n) by simp[hY,im.key,ku,h0,h1,h2,h3,h4]);clear h0 h1 h2 h3 h4;go_enter Tryz.func135,Tryz.ntmps135;go_wp2_with fail;go_ret;exact⟨by rw[c.out];rfl,by repeat (first|exact gY _ _|refine gU ?_ _)⟩
    ·have i:(a.count !=b.count)=true:=by simp[h3]
     have c:=gP (show hY a b=decide (a.count<b.count) by simp[hY,im.key,ku,h0,h1,h2,h3]);clear h0 h1 h2 h3;go_enter Tryz.func135,Tryz.ntmps135;go_wp2_with fail;go_ret;exact⟨by rw[c.out];rfl,by repeat (first|exact gY _ _|refine gU ?_ _)⟩
   ·have g:(a.from_ !=b.from_)=true:=by simp[h2]
    have c:=gP (show hY a b=decide (a.from_<b.from_) by simp[hY,im.key,ku,h0,h1,h2]);clear h0 h1 h2;go_enter Tryz.func135,Tryz.ntmps135;go_wp2_with fail;go_ret;exact⟨by rw[c.out];rfl,by repeat (first|exact gY _ _|refine gU ?_ _)⟩
  ·have f:(a.to !=b.to)=true:=by simp[h1]
   have c:=gP (show hY a b=decide (a.to<b.to) by simp[hY,im.key,ku,h0,h1]);clear h0 h1;go_enter Tryz.func135,Tryz.ntmps135;go_wp2_with fail;go_ret;exact⟨by rw[c.out];rfl,by repeat (first|exact gY _ _|refine gU ?_ _)⟩
 ·have d:(a.time !=b.time)=true:=by simp[h0]
  have c:=gP (show hY a b=decide (a.time<b.time) by simp[hY,im.key,ku,h0]);clear h0;go_enter Tryz.func135,Tryz.ntmps135;go_wp2_with fail;go_ret;exact⟨by rw[c.out];rfl,by repeat (first|exact gY _ _|refine gU ?_ _)⟩
theorem tq (a b:iQ) (w:World):Calls Tryz.prog 138 #[mB a,mB b] w fun q w' =>q= .returned (.bool (hM a b))∧Below w.heap.size w w':=by
 unfold mB;by_cases h0:a.time=b.time
 ·have d:(a.time !=b.time)=false:=by simp[h0]
  by_cases h1:a.proc=b.proc
  ·have f:(a.proc !=b.proc)=false:=by simp[h1]
   by_cases h2:a.count=b.count
   ·have g:(a.count !=b.count)=false:=by simp[h2]
    by_cases h3:a.n=b.n
    ·have i:(a.n !=b.n)=false:=by simp[h3]
     have c:=gP (show hM a b=decide (a.value<b.value) by simp[hM,iQ.key,ku,h0,h1,h2,h3];intro e;omega);clear h0 h1 h2 h3;go_enter Tryz.func138,Tryz.ntmps138;go_wp2_with fail;go_ret;exact⟨by rw[c.out];rfl,by repeat (first|exact gY _ _|refine gU ?_ _)⟩
    ·have i:(a.n !=b.n)=true:=by simp[h3]
     have c:=gP (show hM a b=decide (a.n<b.n) by simp[hM,iQ.key,ku,h0,h1,h2,h3]);clear h0 h1 h2 h3;go_enter Tryz.func138,Tryz.ntmps138;go_wp2_with fail;go_ret;exact⟨by rw[c.out];rfl,by repeat (first|exact gY _ _|refine gU ?_ _)⟩
   ·have g:(a.count !=b.count)=true:=by simp[h2]
    have c:=gP (show hM a b=decide (a.count<b.count) by simp[hM,iQ.key,ku,h0,h1,h2]);clear h0 h1 h2;go_enter Tryz.func138,Tryz.ntmps138;go_wp2_with fail;go_ret;exact⟨by rw[c.out];rfl,by repeat (first|exact gY _ _|refine gU ?_ _)⟩
  ·have f:(a.proc !=b.proc)=true:=by simp[h1]
   have c:=gP (show hM a b=decide (a.proc<b.proc) by simp[hM,iQ.key,ku,h0,h1]);clear h0 h1;go_enter Tryz.func138,Tryz.ntmps138;go_wp2_with fail;go_ret;exact⟨by rw[c.out];rfl,by repeat (first|exact gY _ _|refine gU ?_ _)⟩
 ·have d:(a.time !=b.time)=true:=by simp[h0]
  have c:=gP (show hM a b=decide (a.time<b.time) by simp[hM,iQ.key,ku,h0]);clear h0;go_enter Tryz.func138,Tryz.ntmps138;go_wp2_with fail;go_ret;exact⟨by rw[c.out];rfl,by repeat (first|exact gY _ _|refine gU ?_ _)⟩
end Go.Proofs.YtgilllnjhahkfaaGreat
