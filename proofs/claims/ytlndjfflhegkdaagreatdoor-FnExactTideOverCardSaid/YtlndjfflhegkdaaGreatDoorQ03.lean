/- Parts of the proof: Run, Draw2, Spc1. -/
import Derived.Deep.RegionLaw
import Derived.StillTailTactics
import Derived.BigRegion
import Derived.IntWalk
import Derived.Test.YtlndjfflhegkdaaGreatDoorQ01
import Derived.Test.YtlndjfflhegkdaaGreatDoorQ02
set_option linter.unusedVariables false
set_option linter.unusedSimpArgs false
set_option linter.unusedSectionVars false
set_option maxHeartbeats 4000000
set_option maxRecDepth 100000
namespace Go.Proofs.YtlndjfflhegkdaaGreatDoor
open Go.RowKit
theorem iR {P:Program} {id:Nat} {Q:Exit→Act→World→Prop} {a:Act} {w:World} {l:List Oper} (n:Nat) (hm:P.follows .mixedOrders=true) (hB:Region.lexTailB .any l.toArray n=true)
  (h:wpStill P l.toArray w.drew (fun a' =>wpList P l.toArray Q (l.drop n) a' w.drew) (l.take n) a):(Code.region id l.toArray true).wp P Q a w:=wp_region_still_tail n hm hB h
theorem gL {W:World} {o:Obj} {H:Nat} (h:H=W.heap.size):(W.alloc o).heap[H]? =some o:=by subst h;exact heap_alloc_new W o
theorem Ow.tight {α:Type} {cells:α→List Value} {sz:Nat} {hl:∀x,(cells x).length=sz} {ho:∀x,∀u∈cells x,u.oneCell' =true} {e:TypeId} {w:World} {F:Nat→Prop} {v:Value} {xs:List α}
  (h:Ow (kx cells sz hl ho) e w F v xs):Ow (kx cells sz hl ho) e w (fun k=>v.ownBlock=some k) v xs:=Ow.of_flat h.flatRow (fun g hg=>hg)
theorem Ow.type_ne {α:Type} {d:Ty α} {e t:TypeId} {w:World} {F:Nat→Prop} {v:Value} {xs:List α} (h:Ow d e w F v xs) {g:Nat} {cs:Array Value} {fr:Nat×Nat} (hg:w.heap[g]? =some (.cells cs t fr)) (hne:e≠t):v.ownBlock≠some g:=by
 obtain⟨_,_,f,_⟩:=h;intro b;rcases f.2 with ⟨rfl,_⟩|⟨c,j,k,rfl,_,i,_⟩
 ·simp[Value.ownBlock] at b
 ·have:c=g:=by simpa [Value.ownBlock] using b
  subst this;rw[i] at hg;injection hg with hg;injection hg with _ ht;exact hne ht
theorem Ow.apart {α β:Type} {d:Ty α} {d':Ty β} {e e':TypeId} {w:World} {F F':Nat→Prop} {v v':Value} {xs:List α} {ys:List β} (h:Ow d e w F v xs) (h':Ow d' e' w F' v' ys) (hne:e≠e'):∀g,v.ownBlock=some g→v'.ownBlock≠some g:=by
 intro g a;obtain⟨_,_,c,_⟩:=h;rcases c.2 with ⟨rfl,_⟩|⟨b,i,j,rfl,_,f,_⟩
 ·simp[Value.ownBlock] at a
 ·have:b=g:=by simpa [Value.ownBlock] using a
  subst this;exact h'.type_ne f (fun e=>hne e.symm)
def kB (c:Int) (e:hY) (r:im) (sv ov:Value):Array Value:=
 #[.int .i64 r.x,.int .i64 r.y,.int .i64 c,.int .i64 e.time,.int .i64 e.to,.int .i64 e.from_,.int .i64 e.count,.int .i64 e.n,.int .i64 e.kind,.int .i64 e.arg,sv,ov]
structure kJ (w:World) (g B:Nat) (c:Int) (e:hY) (r:im) (sv ov:Value):Prop where
 blk:w.heap[g]? =some (.cells (kB c e r sv ov) 189 (0,0))
 ge:B≤g
 sends:Ow iw 91 w (fun k=>B≤k) sv r.sends
 outs:Ow hJ 101 w (fun k=>B≤k) ov r.outs
theorem fw {w:World} {g:Nat} {cs:Array Value} {t:TypeId} {fr:Nat×Nat} (h:w.heap[g]? =some (.cells cs t fr)) (i:Nat):w.cell? ⟨g,i,none⟩=cs[i]? :=by simp[World.cell?,h]
theorem ft {w:World} {g:Nat} {cs:Array Value} {t:TypeId} (h:w.heap[g]? =some (.cells cs t (0,0))) (i:Nat):w.frozen? ⟨g,i,none⟩=false:=by simp[World.frozen?,h]
theorem fx {w:World} {g:Nat} {o:Obj} (h:w.heap[g]? =some o):g<w.heap.size:=(Array.getElem?_eq_some_iff.1 h).1
theorem gJ {w:World} {g:Nat} {cs:Array Value} {t:TypeId} {fr:Nat×Nat} (h:w.heap[g]? =some (.cells cs t fr)) (i:Nat) (u:Value):(w.setCell ⟨g,i,none⟩ u).heap[g]? =some (.cells (cs.setIfInBounds i u) t fr):=by
 simp[World.setCell,Array.getElem?_modify,h]
theorem kJ.set {w:World} {g B:Nat} {c:Int} {e:hY} {r r':im} {sv ov:Value} (h:kJ w g B c e r sv ov) (i:Nat) (u:Value) (hc:(kB c e r sv ov).setIfInBounds i u=kB c e r' sv ov) (hs:r'.sends=r.sends) (ho:r'.outs=r.outs):kJ (w.setCell ⟨g,i,none⟩ u) g B c e r' sv ov:=by
 refine⟨by rw[gJ h.blk,hc],h.ge,?_,?_⟩
 ·rw[hs]
  exact(h.sends.tight.keep (fun k a f=>Below.heap_setCell _ _ _ _ (fun b=>h.sends.type_ne h.blk dc (by have d:k=g:=b;subst d;exact a)))).mono (fun k a=>h.sends.inF a)
 ·rw[ho]
  exact(h.outs.tight.keep (fun k a f=>Below.heap_setCell _ _ _ _ (fun b=>h.outs.type_ne h.blk dc (by have d:k=g:=b;subst d;exact a)))).mono (fun k a=>h.outs.inF a)
theorem wD (g B:Nat) (c:Int) (e:hY) (r:im) (sv ov:Value) (k:Int) (w:World) (h:kJ w g B c e r sv ov):
  Calls Tryz.prog 149 #[.pointer (some ⟨g,0,none⟩),.int .i64 k] w fun q w' =>q= .returned (.int .i64 (r.get k))∧w' =w:=by
 have d:w.cell? ⟨g,0,none⟩=some (.int .i64 r.x):=fw h.blk 0;have f:w.cell? ⟨g,1,none⟩=some (.int .i64 r.y):=fw h.blk 1;by_cases a:k=0
 ·subst a
  go_enter Tryz.func149,Tryz.ntmps149;go_wp2;go_ret;exact⟨rfl,rfl⟩
 ·have hk':(k==0)=false:=by simpa using a
  have b:r.get k=r.y:=by simp[im.get,a]
  go_enter Tryz.func149,Tryz.ntmps149;go_wp2;go_ret;exact⟨by rw[b];rfl,rfl⟩
theorem zW (g B:Nat) (c:Int) (e:hY) (r:im) (sv ov:Value) (k n:Int) (w:World) (h:kJ w g B c e r sv ov) (hn:0≤n):
  Calls Tryz.prog 148 #[.pointer (some ⟨g,0,none⟩),.int .i64 k,.int .i64 n] w fun q w' =>q= .returned (.tuple #[])∧kJ w' g B c e (r.put k n) sv ov∧Below B w w':=by
 have i:w.cell? ⟨g,0,none⟩=some (.int .i64 r.x):=fw h.blk 0;have j:w.cell? ⟨g,1,none⟩=some (.int .i64 r.y):=fw h.blk 1;have d:=ft h.blk 0;have f:=ft h.blk 1;by_cases a:k=0
 ·subst a
  go_enter Tryz.func148,Tryz.ntmps148;go_wp2
  go_end0
  exact⟨rfl,h.set 0 _ rfl rfl rfl,(gM _ _).setCell h.ge _⟩
 ·have hk':(k==0)=false:=by simpa using a
  have b:r.put k n= {r with y:=n % 1000}:=by simp[im.put,a]
  go_enter Tryz.func148,Tryz.ntmps148;go_wp2
  go_end0
  exact⟨rfl,by rw[b];exact h.set 1 _ rfl rfl rfl,(gM _ _).setCell h.ge _⟩
theorem kJ.below {w w':World} {g B:Nat} {c:Int} {e:hY} {r:im} {sv ov:Value} (h:kJ w g B c e r sv ov) (hb:Below w.heap.size w w'):kJ w' g B c e r sv ov:=
 ⟨(hb.block g (fx h.blk)).trans h.blk,h.ge,h.sends.below hb,h.outs.below hb⟩
theorem oZ {r:im} (hx:0≤r.x∧r.x≤999) (hy:0≤r.y∧r.y≤999) (k:Int):0≤r.get k∧r.get k≤999:=by unfold im.get;split<;>assumption
abbrev FO (g:Nat) (o:lJ):Array Value:= #[.pointer (some ⟨g,0,none⟩),.agg #[o.d,o.a,o.b,o.c,o.e]]
def nQ (B g:Nat) (c:Int) (e:hY) (r:im) (o:lJ) (w:World) (q:Ending) (w':World):Prop:=
 q= .returned (.int .i64 (jl e c o r).2)∧(∃sv ov,kJ w' g B c e (jl e c o r).1 sv ov)∧Below B w w'
theorem jA:(Tryz.prog.info? 91).map (fun i=>(i.zero,i.size,i.bytes))=some (some (.agg #[.int .i64 0,.int .i64 0,.int .i64 0,.int .i64 0,.int .i64 0,.int .i64 0,.int .i64 0]),7,56):=gY
theorem kz:(Tryz.prog.info? 101).map (fun i=>(i.zero,i.size,i.bytes))=some (some (.agg #[.int .i64 0,.int .i64 0,.int .i64 0,.int .i64 0,.int .i64 0]),5,40):=gY
theorem Fd (g B:Nat) (c:Int) (e:hY) (r:im) (sv ov:Value) (a b cc ee:Int) (w:World) (h:kJ w g B c e r sv ov) (hB:B≤w.heap.size) (hx:0≤r.x∧r.x≤999) (hy:0≤r.y∧r.y≤999) (he:i7 e=true) (hns:r.sends.length≤1000) (hno:r.outs.length≤1000) (ho:kg ⟨1,a,b,cc,ee⟩=true):
  Calls Tryz.prog 113 #[.pointer (some ⟨g,0,none⟩),.agg #[.int .i64 1,a,b,cc,ee]] w (nQ B g c e r ⟨1,a,b,cc,ee⟩ w):=by
 simp[kg,ib] at ho;have d:=h.below (gs (gM _ _) (.cells #[.int .i64 1,a,b,cc,ee] 175));have hr':=d.below (gM _ _).drew;have j:=ho.2.1.1;clear ho;go_enter Tryz.func113,Tryz.ntmps113;go_wp2_with (go_at_call 148;refine(zW g B c e r sv ov _ _ _ d fT).mono ?_;rintro q k ⟨rfl,f,i⟩);go_ret;exact⟨rfl,⟨sv,ov,f⟩,((gM _ _).alloc hB _).trans i⟩
theorem Fe (g B:Nat) (c:Int) (e:hY) (r:im) (sv ov:Value) (a b cc ee:Int) (w:World) (h:kJ w g B c e r sv ov) (hB:B≤w.heap.size) (hx:0≤r.x∧r.x≤999) (hy:0≤r.y∧r.y≤999) (he:i7 e=true) (hns:r.sends.length≤1000) (hno:r.outs.length≤1000) (ho:kg ⟨2,a,b,cc,ee⟩=true):
  Calls Tryz.prog 113 #[.pointer (some ⟨g,0,none⟩),.agg #[.int .i64 2,a,b,cc,ee]] w (nQ B g c e r ⟨2,a,b,cc,ee⟩ w):=by
 simp[kg,ib] at ho;have i:=h.below (gs (gM _ _) (.cells #[.int .i64 2,a,b,cc,ee] 175));have hr':=i.below (gM _ _).drew;have j:=oZ hx hy a;have k:=oZ hx hy b;clear ho;go_enter Tryz.func113,Tryz.ntmps113;go_wp2_with fail;refine iR 12 gY gY ?_;simp only[List.take_succ_cons,List.take_zero,List.drop_succ_cons,List.drop_zero]
 iterate 6 still_step
 still_call (wD g B c e r sv ov _ _ hr')
 iterate 3 still_step
 still_call (wD g B c e r sv ov _ _ hr')
 still_step
 refine wpStill_nil ?_;go_wp2_with (go_at_call 148;refine(zW g B c e r sv ov _ _ _ hr' fT).mono ?_;rintro q l ⟨rfl,d,f⟩);go_ret;exact⟨rfl,⟨sv,ov,d⟩,(((gM _ _).alloc hB _).drew).trans f⟩
theorem Ff (g B:Nat) (c:Int) (e:hY) (r:im) (sv ov:Value) (a b cc ee:Int) (w:World) (h:kJ w g B c e r sv ov) (hB:B≤w.heap.size) (hx:0≤r.x∧r.x≤999) (hy:0≤r.y∧r.y≤999) (he:i7 e=true) (hns:r.sends.length≤1000) (hno:r.outs.length≤1000) (ho:kg ⟨3,a,b,cc,ee⟩=true):
  Calls Tryz.prog 113 #[.pointer (some ⟨g,0,none⟩),.agg #[.int .i64 3,a,b,cc,ee]] w (nQ B g c e r ⟨3,a,b,cc,ee⟩ w):=by
 simp[kg,ib] at ho;have i:=h.below (gs (gM _ _) (.cells #[.int .i64 3,a,b,cc,ee] 175));have hr':=i.below (gM _ _).drew;have k:=oZ hx hy a;have l:=ho.2.1.1;have j:=ho.2.1.2;clear ho;go_enter Tryz.func113,Tryz.ntmps113;go_wp2_with fail;refine iR 10 gY gY ?_;simp only[List.take_succ_cons,List.take_zero,List.drop_succ_cons,List.drop_zero]
 iterate 6 still_step
 still_call (wD g B c e r sv ov _ _ hr')
 iterate 3 still_step
 refine wpStill_nil ?_;go_wp2_with (go_at_call 148;refine(zW g B c e r sv ov _ _ _ hr' fT).mono ?_;rintro q m ⟨rfl,d,f⟩);go_ret;exact⟨rfl,⟨sv,ov,d⟩,(((gM _ _).alloc hB _).drew).trans f⟩
theorem Fg (g B:Nat) (c:Int) (e:hY) (r:im) (sv ov:Value) (a b cc ee:Int) (w:World) (h:kJ w g B c e r sv ov) (hB:B≤w.heap.size) (hx:0≤r.x∧r.x≤999) (hy:0≤r.y∧r.y≤999) (he:i7 e=true) (hns:r.sends.length≤1000) (hno:r.outs.length≤1000) (ho:kg ⟨4,a,b,cc,ee⟩=true):
  Calls Tryz.prog 113 #[.pointer (some ⟨g,0,none⟩),.agg #[.int .i64 4,a,b,cc,ee]] w (nQ B g c e r ⟨4,a,b,cc,ee⟩ w):=by
 simp[kg,ib] at ho;have d:=h.below (gs (gM _ _) (.cells #[.int .i64 4,a,b,cc,ee] 175));have hr':=d.below (gM _ _).drew;have f:=fw d.blk 9;simp[kB] at f;simp[i7,ib] at he;have ha:=he.2.1;clear ho;go_enter Tryz.func113,Tryz.ntmps113;go_wp2_with fail;refine iR 8 gY gY ?_;simp only[List.take_succ_cons,List.take_zero,List.drop_succ_cons,List.drop_zero]
 iterate 8 still_step
 refine wpStill_nil ?_;go_wp2_with (go_at_call 148;refine(zW g B c e r sv ov _ _ _ hr' fT).mono ?_;rintro q k ⟨rfl,i,j⟩);go_ret;exact⟨rfl,⟨sv,ov,i⟩,(((gM _ _).alloc hB _).drew).trans j⟩
theorem Fh (g B:Nat) (c:Int) (e:hY) (r:im) (sv ov:Value) (a b cc ee:Int) (w:World) (h:kJ w g B c e r sv ov) (hB:B≤w.heap.size) (hx:0≤r.x∧r.x≤999) (hy:0≤r.y∧r.y≤999) (he:i7 e=true) (hns:r.sends.length≤1000) (hno:r.outs.length≤1000) (ho:kg ⟨5,a,b,cc,ee⟩=true):
  Calls Tryz.prog 113 #[.pointer (some ⟨g,0,none⟩),.agg #[.int .i64 5,a,b,cc,ee]] w (nQ B g c e r ⟨5,a,b,cc,ee⟩ w):=by
 simp[kg,ib] at ho;have f:=h.below (gs (gM _ _) (.cells #[.int .i64 5,a,b,cc,ee] 175));have hr':=f.below (gM _ _).drew;have i:=oZ hx hy a;clear ho;go_enter Tryz.func113,Tryz.ntmps113;go_wp2_with fail;refine iR 6 gY gY ?_;simp only[List.take_succ_cons,List.take_zero,List.drop_succ_cons,List.drop_zero]
 iterate 3 still_step
 still_call (wD g B c e r sv ov _ _ hr')
 iterate 2 still_step
 refine wpStill_nil ?_;by_cases hlt:r.get a<b
 ·have d:jl e c ⟨5,a,b,cc,ee⟩ r=(r,cc):=by simp[jl,hlt]
  go_wp2;go_ret;exact⟨by rw[d];rfl,⟨sv,ov,by rw[d];exact hr'⟩,((gM _ _).alloc hB _).drew⟩
 ·have d:jl e c ⟨5,a,b,cc,ee⟩ r=(r,0):=by simp[jl,hlt]
  go_wp2;go_ret;exact⟨by rw[d];rfl,⟨sv,ov,by rw[d];exact hr'⟩,((gM _ _).alloc hB _).drew⟩
theorem kJ.grown_sends {w w1:World} {g B:Nat} {c:Int} {e:hY} {r:im} {sv ov:Value} (h:kJ w g B c e r sv ov) (hG:w.grownBy w1 sv.ownBlock):
  w1.heap[g]? =some (.cells (kB c e r sv ov) 189 (0,0))∧Ow hJ 101 w1 (fun k=>B≤k) ov r.outs:=
 ⟨(hG.block g (fx h.blk) (fun e' =>h.sends.type_ne h.blk dc e'.symm)).trans h.blk,
  (h.outs.tight.keep (fun k hk hlt=>hG.block k hlt (fun e' =>h.outs.apart h.sends dc k hk e'.symm))).mono (fun k hk=>h.outs.inF hk)⟩
theorem kJ.grown_outs {w w1:World} {g B:Nat} {c:Int} {e:hY} {r:im} {sv ov:Value} (h:kJ w g B c e r sv ov) (hG:w.grownBy w1 ov.ownBlock):
  w1.heap[g]? =some (.cells (kB c e r sv ov) 189 (0,0))∧Ow iw 91 w1 (fun k=>B≤k) sv r.sends:=
 ⟨(hG.block g (fx h.blk) (fun e' =>h.outs.type_ne h.blk dc e'.symm)).trans h.blk,
  (h.sends.tight.keep (fun k hk hlt=>hG.block k hlt (fun e' =>h.sends.apart h.outs dc k hk e'.symm))).mono (fun k hk=>h.sends.inF hk)⟩
theorem Ow.setCell {α:Type} {cells:α→List Value} {sz:Nat} {hl:∀x,(cells x).length=sz} {ho:∀x,∀u∈cells x,u.oneCell' =true} {e t:TypeId} {w:World} {F:Nat→Prop} {v:Value} {xs:List α}
  (h:Ow (kx cells sz hl ho) e w F v xs) {g i:Nat} {cs:Array Value} {fr:Nat×Nat} (hg:w.heap[g]? =some (.cells cs t fr)) (hne:e≠t) (u:Value):Ow (kx cells sz hl ho) e (w.setCell ⟨g,i,none⟩ u) F v xs:=
 (h.tight.keep (fun k hk hlt=>Below.heap_setCell _ _ _ _ (fun e' =>h.type_ne hg hne (by have e2:k=g:=e';subst e2;exact hk)))).mono (fun k hk=>h.inF hk)
theorem Dw {w w1 W:World} {g B:Nat} {c:Int} {e:hY} {r r':im} {sv ov v1:Value} {o:lJ} {box:Obj} (hd:jl e c o r=(r',0)) (hG1:w1.heap[g]? =some (.cells (kB c e r sv ov) 189 (0,0))∧Ow hJ 101 w1 (fun k=>B≤k) ov r.outs)
  (hO:Ow iw 91 w1 (fun k=>B≤k) v1 r'.sends) (hG:W.grownBy w1 sv.ownBlock) (HS:Ch (fun k=>sv.ownBlock=some k) (w.alloc box) w1) (hB:B≤w.heap.size) (hsv:∀k,sv.ownBlock=some k→B≤k) (hgB:B≤g) (hx:r'.x=r.x) (hy:r'.y=r.y) (ho:r'.outs=r.outs):
  nQ B g c e r o w (.returned (.int .i64 0)) (w1.setCell ⟨g,10,none⟩ v1):=by
 refine⟨by rw[hd],⟨v1,ov,?_,hgB,?_,?_⟩,?_⟩
 ·rw[gJ hG1.1,hd]
  simp[kB,hx,hy]
 ·rw[hd];exact hO.setCell hG1.1 dc _
 ·rw[hd];simp only[ho];exact hG1.2.setCell hG1.1 dc _
 ·exact(((gM _ _).alloc hB _).trans (HS.below (fun k a=>hsv k a) (by simp;omega))).setCell hgB _
theorem Dx {w w1 W:World} {g B:Nat} {c:Int} {e:hY} {r r':im} {sv ov v1:Value} {o:lJ} {box:Obj} (hd:jl e c o r=(r',0)) (hG1:w1.heap[g]? =some (.cells (kB c e r sv ov) 189 (0,0))∧Ow iw 91 w1 (fun k=>B≤k) sv r.sends)
  (hO:Ow hJ 101 w1 (fun k=>B≤k) v1 r'.outs) (hG:W.grownBy w1 ov.ownBlock) (HS:Ch (fun k=>ov.ownBlock=some k) (w.alloc box) w1) (hB:B≤w.heap.size) (hsv:∀k,ov.ownBlock=some k→B≤k) (hgB:B≤g) (hx:r'.x=r.x) (hy:r'.y=r.y) (ho:r'.sends=r.sends):
  nQ B g c e r o w (.returned (.int .i64 0)) (w1.setCell ⟨g,11,none⟩ v1):=by
 refine⟨by rw[hd],⟨sv,v1,?_,hgB,?_,?_⟩,?_⟩
 ·rw[gJ hG1.1,hd]
  simp[kB,hx,hy]
 ·rw[hd];simp only[ho];exact hG1.2.setCell hG1.1 dc _
 ·rw[hd];exact hO.setCell hG1.1 dc _
 ·exact(((gM _ _).alloc hB _).trans (HS.below (fun k a=>hsv k a) (by simp;omega))).setCell hgB _
theorem Fk (g B:Nat) (c:Int) (e:hY) (r:im) (sv ov:Value) (a b cc ee:Int) (w:World) (h:kJ w g B c e r sv ov) (hB:B≤w.heap.size) (hx:0≤r.x∧r.x≤999) (hy:0≤r.y∧r.y≤999) (he:i7 e=true) (hns:r.sends.length≤1000) (hno:r.outs.length≤1000) (ho:kg ⟨6,a,b,cc,ee⟩=true):
  Calls Tryz.prog 113 #[.pointer (some ⟨g,0,none⟩),.agg #[.int .i64 6,a,b,cc,ee]] w (nQ B g c e r ⟨6,a,b,cc,ee⟩ w):=by
 simp[kg,ib] at ho;simp[i7,ib] at he;obtain⟨A,o,rfl,U⟩:=h.sends.shape;have f:=h.below (gs (gM _ _) (.cells #[.int .i64 6,a,b,cc,ee] 175));have C:=fw f.blk 2;have D:=fw f.blk 3;have E:=fw f.blk 4;have t:=fw f.blk 10;simp[kB] at C D E t;have M:=ft f.blk 10;have X:=he.1.1.1.1.1.1;have W:=ho.2.2.1;clear he ho;have Q:=h.sends.type_ne h.blk dc;have T:=fx h.blk;have H:(Value.slice A r.sends.length o).ownBlock≠some w.heap.size:=fun F=>by have:=h.sends.block_lt F;omega
 have hg':g<w.heap.size+1:=fT;by_cases hle:e.time+cc≤40
 ·have G:decide (e.time+cc≤40)=true:=iW hle
  have l:jl e c ⟨6,a,b,cc,ee⟩ r=({r with sends:=r.sends++[⟨e.time+cc,a,e.to,c,(r.sends.length:Int),b,r.get ee⟩]},0):=by simp[jl,hle]
  have z:=fS l;clear l;go_enter Tryz.func113,Tryz.ntmps113;go_wp2_with fail
  go_quiet (fail)
  go_wp2_with fail;have V:IntKind.i64.wrap (e.time+cc)=e.time+cc:=IntWalk.i64_in _ fT;refine gV (fun I=>Ch (fun k=>(Value.slice A r.sends.length o).ownBlock=some k) (w.alloc (.cells #[.int .i64 6,a,b,cc,ee] 175)) I) [tT 0,tT 1,tT 2,tT 3,tT 4,tT 5,tT 6,tT 7,tT 8,tT 9,tT 10,tT 11,tT 12,tT 13,tT 14,tT 15,tT 16,tT 17,tT 18,tT 19,tT 20,tT 21,tT 22,tT 23,tT 24,tT 25,tT 26,tT 27,tT 28,tT 29,tT 30,tT 31,tT 32,tT 33,tT 34,tF 35,tT 36,tF 37,tF 38,tT 39,tT 40,tF 41] gY gY qP ?_;have HS:=((Ch.refl (fun k=>(Value.slice A r.sends.length o).ownBlock=some k) (w.alloc (.cells #[.int .i64 6,a,b,cc,ee] 175))).drewN nq).drew
  iterate 35 (refine jc (v:=?_) (by rfl) HS (by rfl) ?_ ?_;rotate_left;(focus (intro wS hS;obtain⟨kc,kf⟩:=hS.cells;go_simp;(try (with_reducible rfl));done));(intro K hK;go_simp;refine hK _ ?_;clear hK K))
  refine gU (by rfl) (by rfl) (fun K hK=>?_);go_simp;refine(wD g B c e r _ _ _ _ (f.below (by repeat (first|exact gM _ _|refine gs ?_ _|refine ja ?_ _|refine Below.drew ?_)))).mono ?_;rintro q J ⟨rfl,rfl⟩;refine hK _ _ (Or.inr HS) ?_;clear hK K
  iterate 1 (refine jc (v:=?_) (by rfl) HS (by rfl) ?_ ?_;rotate_left;(focus (intro wS hS;obtain⟨kc,kf⟩:=hS.cells;go_simp;(try (with_reducible rfl));done));(intro K hK;go_simp;refine hK _ ?_;clear hK K))
  refine gU (by rfl) (by rfl) (fun K hK=>?_);go_simp;refine hK _ _ (Or.inr (HS.alloc _)) ?_;clear hK K;refine gU (by rfl) (by rfl) (fun K hK=>?_);refine jO (d:=iw) 49 rfl Tryz.underlying49 _ 56 jA rfl dc dc rfl (f.below (by repeat (first|exact gM _ _|refine gs ?_ _|refine ja ?_ _|refine Below.drew ?_))).sends ⟨e.time+cc,a,e.to,c,(r.sends.length:Int),b,r.get ee⟩ _ rfl (gL sm) (fun _=>False) rfl (fun _ m=>m.elim) (fun _ m=>m.elim) fT (fun k=>B≤k) (fun _ i=>i) (fun _ m=>m.elim) (fun k i=>by simp at i;omega) ?_;intro Y J s p O;have j:=(HS.alloc _).grown p (fun k i=> .inl i);have n:=kJ.grown_sends (f.below (by repeat (first|exact gM _ _|refine gs ?_ _|refine ja ?_ _|refine Below.drew ?_))) p;obtain⟨S,L,rfl,P⟩:=s.shape;simp only[List.length_append,List.length_singleton] at s;have u:=fw n.1 10;have R:=ft n.1 10;simp[kB] at u;refine hK _ _ (Or.inr j) ?_;clear hK K HS;have HS:=j;clear j
  iterate 2 (refine jc (v:=?_) (by rfl) HS (by rfl) ?_ ?_;rotate_left;(focus (intro wS hS;obtain⟨kc,kf⟩:=hS.cells;go_simp;(try (with_reducible rfl));done));(intro K hK;go_simp;refine hK _ ?_;clear hK K))
  refine gU (by rfl) (by rfl) (fun K hK=>?_);go_simp;refine hK _ _ (Or.inl gY) ?_;clear hK K;simp only[iG];go_wp2;go_ret;exact Dw (sv:=(Value.slice A r.sends.length o)) z.out n s p HS hB (fun k i=>h.sends.inF i) h.ge rfl rfl rfl
 ·have G:decide (e.time+cc≤40)=false:=ia hle
  have l:jl e c ⟨6,a,b,cc,ee⟩ r=(r,0):=by simp[jl,hle]
  go_enter Tryz.func113,Tryz.ntmps113;go_wp2_with fail
  go_quiet (fail)
  go_wp2_with fail;go_ret;exact⟨by rw[l];rfl,⟨_,_,by rw[l];exact f.below (ja (gM _ _) _)⟩,ja ((gM _ _).alloc hB _) _⟩
theorem Fl (g B:Nat) (c:Int) (e:hY) (r:im) (sv ov:Value) (a b cc ee:Int) (w:World) (h:kJ w g B c e r sv ov) (hB:B≤w.heap.size) (hx:0≤r.x∧r.x≤999) (hy:0≤r.y∧r.y≤999) (he:i7 e=true) (hns:r.sends.length≤1000) (hno:r.outs.length≤1000) (ho:kg ⟨7,a,b,cc,ee⟩=true):
  Calls Tryz.prog 113 #[.pointer (some ⟨g,0,none⟩),.agg #[.int .i64 7,a,b,cc,ee]] w (nQ B g c e r ⟨7,a,b,cc,ee⟩ w):=by
 simp[kg,ib] at ho;simp[i7,ib] at he;obtain⟨A,n,rfl,R⟩:=h.outs.shape;have f:=h.below (gs (gM _ _) (.cells #[.int .i64 7,a,b,cc,ee] 175));have u:=fw f.blk 2;have z:=fw f.blk 3;have C:=fw f.blk 4;have s:=fw f.blk 11;simp[kB] at u z C s;have I:=ft f.blk 11;clear he ho;have M:=h.outs.type_ne h.blk dc;have Q:=fx h.blk;have E:(Value.slice A r.outs.length n).ownBlock≠some w.heap.size:=fun D=>by have:=h.outs.block_lt D;omega
 have hg':g<w.heap.size+1:=fT;go_enter Tryz.func113,Tryz.ntmps113;go_wp2_with fail;refine gV (fun F=>Ch (fun k=>(Value.slice A r.outs.length n).ownBlock=some k) (w.alloc (.cells #[.int .i64 7,a,b,cc,ee] 175)) F) [tT 0,tT 1,tT 2,tT 3,tT 4,tT 5,tT 6,tT 7,tT 8,tT 9,tT 10,tT 11,tT 12,tT 13,tT 14,tT 15,tT 16,tT 17,tT 18,tT 19,tT 20,tT 21,tT 22,tT 23,tT 24,tT 25,tT 26,tT 27,tF 28,tT 29,tF 30,tF 31,tT 32,tT 33,tF 34] gY gY qP ?_;have HS:=(Ch.refl (fun k=>(Value.slice A r.outs.length n).ownBlock=some k) (w.alloc (.cells #[.int .i64 7,a,b,cc,ee] 175))).drew
 iterate 28 (refine jc (v:=?_) (by rfl) HS (by rfl) ?_ ?_;rotate_left;(focus (intro wS hS;obtain⟨kc,kf⟩:=hS.cells;go_simp;(try (with_reducible rfl));done));(intro K hK;go_simp;refine hK _ ?_;clear hK K))
 refine gU (by rfl) (by rfl) (fun K hK=>?_);go_simp;refine(wD g B c e r _ _ _ _ (f.below (by repeat (first|exact gM _ _|refine gs ?_ _|refine ja ?_ _|refine Below.drew ?_)))).mono ?_;rintro q G ⟨rfl,rfl⟩;refine hK _ _ (Or.inr HS) ?_;clear hK K
 iterate 1 (refine jc (v:=?_) (by rfl) HS (by rfl) ?_ ?_;rotate_left;(focus (intro wS hS;obtain⟨kc,kf⟩:=hS.cells;go_simp;(try (with_reducible rfl));done));(intro K hK;go_simp;refine hK _ ?_;clear hK K))
 refine gU (by rfl) (by rfl) (fun K hK=>?_);go_simp;refine hK _ _ (Or.inr (HS.alloc _)) ?_;clear hK K;refine gU (by rfl) (by rfl) (fun K hK=>?_);refine jO (d:=hJ) 37 rfl Tryz.underlying37 _ 40 kz rfl dc dc rfl (f.below (by repeat (first|exact gM _ _|refine gs ?_ _|refine ja ?_ _|refine Below.drew ?_))).outs ⟨e.time,e.to,c,(r.outs.length:Int),r.get a⟩ _ rfl (gL sm) (fun _=>False) rfl (fun _ l=>l.elim) (fun _ l=>l.elim) fT (fun k=>B≤k) (fun _ i=>i) (fun _ l=>l.elim) (fun k i=>by simp at i;omega) ?_;intro S G p o J;have j:=(HS.alloc _).grown o (fun k i=> .inl i);have m:=kJ.grown_outs (f.below (by repeat (first|exact gM _ _|refine gs ?_ _|refine ja ?_ _|refine Below.drew ?_))) o;obtain⟨P,H,rfl,L⟩:=p.shape;simp only[List.length_append,List.length_singleton] at p;have t:=fw m.1 11;have O:=ft m.1 11;simp[kB] at t;refine hK _ _ (Or.inr j) ?_;clear hK K HS;have HS:=j;clear j
 iterate 2 (refine jc (v:=?_) (by rfl) HS (by rfl) ?_ ?_;rotate_left;(focus (intro wS hS;obtain⟨kc,kf⟩:=hS.cells;go_simp;(try (with_reducible rfl));done));(intro K hK;go_simp;refine hK _ ?_;clear hK K))
 refine gU (by rfl) (by rfl) (fun K hK=>?_);go_simp;refine hK _ _ (Or.inl gY) ?_;clear hK K;simp only[iG];go_wp2;go_ret;exact Dx (ov:=(Value.slice A r.outs.length n)) rfl m p o HS hB (fun k i=>h.outs.inF i) h.ge rfl rfl rfl
theorem kU {w:World} {g:Nat} {v0:Value} {l:List Value} {t:TypeId} {f:Nat×Nat} (h:w.heap[g]? =some (.cells (List.toArray (v0::l)) t f)):w.cell? ⟨g,0,none⟩=some v0:=fw h 0
theorem mc {w:World} {g:Nat} {v0 v1:Value} {l:List Value} {t:TypeId} {f:Nat×Nat} (h:w.heap[g]? =some (.cells (List.toArray (v0::v1::l)) t f)):w.cell? ⟨g,1,none⟩=some v1:=fw h 1
theorem mM {w:World} {g:Nat} {v0 v1 v2:Value} {l:List Value} {t:TypeId} {f:Nat×Nat} (h:w.heap[g]? =some (.cells (List.toArray (v0::v1::v2::l)) t f)):w.cell? ⟨g,2,none⟩=some v2:=fw h 2
theorem mS {w:World} {g:Nat} {v0 v1 v2 v3:Value} {l:List Value} {t:TypeId} {f:Nat×Nat} (h:w.heap[g]? =some (.cells (List.toArray (v0::v1::v2::v3::l)) t f)):w.cell? ⟨g,3,none⟩=some v3:=fw h 3
theorem mN {w:World} {g:Nat} {v0 v1 v2 v3 v4:Value} {l:List Value} {t:TypeId} {f:Nat×Nat} (h:w.heap[g]? =some (.cells (List.toArray (v0::v1::v2::v3::v4::l)) t f)):w.cell? ⟨g,4,none⟩=some v4:=fw h 4
theorem nD {w:World} {g:Nat} {v0 v1 v2 v3 v4 v5:Value} {l:List Value} {t:TypeId} {f:Nat×Nat} (h:w.heap[g]? =some (.cells (List.toArray (v0::v1::v2::v3::v4::v5::l)) t f)):w.cell? ⟨g,5,none⟩=some v5:=fw h 5
theorem nE {w:World} {g:Nat} {v0 v1 v2 v3 v4 v5 v6:Value} {l:List Value} {t:TypeId} {f:Nat×Nat} (h:w.heap[g]? =some (.cells (List.toArray (v0::v1::v2::v3::v4::v5::v6::l)) t f)):w.cell? ⟨g,6,none⟩=some v6:=fw h 6
theorem om {w:World} {g:Nat} {v0 v1 v2 v3 v4 v5 v6 v7:Value} {l:List Value} {t:TypeId} {f:Nat×Nat} (h:w.heap[g]? =some (.cells (List.toArray (v0::v1::v2::v3::v4::v5::v6::v7::l)) t f)):w.cell? ⟨g,7,none⟩=some v7:=fw h 7
theorem ot {w:World} {g:Nat} {v0 v1 v2 v3 v4 v5 v6 v7 v8:Value} {l:List Value} {t:TypeId} {f:Nat×Nat} (h:w.heap[g]? =some (.cells (List.toArray (v0::v1::v2::v3::v4::v5::v6::v7::v8::l)) t f)):w.cell? ⟨g,8,none⟩=some v8:=fw h 8
theorem sA {w:World} {g:Nat} {v0 v1 v2 v3 v4 v5 v6 v7 v8 v9:Value} {l:List Value} {t:TypeId} {f:Nat×Nat} (h:w.heap[g]? =some (.cells (List.toArray (v0::v1::v2::v3::v4::v5::v6::v7::v8::v9::l)) t f)):w.cell? ⟨g,9,none⟩=some v9:=fw h 9
theorem md {w:World} {g:Nat} {v0 v1 v2 v3 v4 v5 v6 v7 v8 v9 v10:Value} {l:List Value} {t:TypeId} {f:Nat×Nat} (h:w.heap[g]? =some (.cells (List.toArray (v0::v1::v2::v3::v4::v5::v6::v7::v8::v9::v10::l)) t f)):w.cell? ⟨g,10,none⟩=some v10:=fw h 10
theorem rj {w:World} {g:Nat} {v0 v1 v2 v3 v4 v5 v6 v7 v8 v9 v10 v11:Value} {l:List Value} {t:TypeId} {f:Nat×Nat} (h:w.heap[g]? =some (.cells (List.toArray (v0::v1::v2::v3::v4::v5::v6::v7::v8::v9::v10::v11::l)) t f)):w.cell? ⟨g,11,none⟩=some v11:=fw h 11
theorem rk {w:World} {g:Nat} {v0 v1 v2 v3 v4 v5 v6 v7 v8 v9 v10 v11 v12:Value} {l:List Value} {t:TypeId} {f:Nat×Nat} (h:w.heap[g]? =some (.cells (List.toArray (v0::v1::v2::v3::v4::v5::v6::v7::v8::v9::v10::v11::v12::l)) t f)):w.cell? ⟨g,12,none⟩=some v12:=fw h 12
theorem F9 {w:World} {g:Nat} {v0 v1 v2 v3 v4 v5 v6 v7 v8 v9 v10 v11 v12 v13:Value} {l:List Value} {t:TypeId} {f:Nat×Nat} (h:w.heap[g]? =some (.cells (List.toArray (v0::v1::v2::v3::v4::v5::v6::v7::v8::v9::v10::v11::v12::v13::l)) t f)):w.cell? ⟨g,13,none⟩=some v13:=fw h 13
theorem Cm {w:World} {g:Nat} {v0 v1:Value} {l:List Value} {t:TypeId} {f:Nat×Nat} (h:w.heap[g]? =some (.cells (List.toArray (v0::v1::l)) t f)):w.cell? ⟨g,0,none⟩=some v0∧w.cell? ⟨g,1,none⟩=some v1:=⟨fw h 0,fw h 1⟩
theorem lm {w:World} {g:Nat} {v0 v1 v2:Value} {l:List Value} {t:TypeId} {f:Nat×Nat} (h:w.heap[g]? =some (.cells (List.toArray (v0::v1::v2::l)) t f)):w.cell? ⟨g,0,none⟩=some v0∧w.cell? ⟨g,1,none⟩=some v1∧w.cell? ⟨g,2,none⟩=some v2:=⟨fw h 0,fw h 1,fw h 2⟩
theorem Dp {w:World} {g:Nat} {v0 v1 v2 v3:Value} {l:List Value} {t:TypeId} {f:Nat×Nat} (h:w.heap[g]? =some (.cells (List.toArray (v0::v1::v2::v3::l)) t f)):w.cell? ⟨g,0,none⟩=some v0∧w.cell? ⟨g,1,none⟩=some v1∧w.cell? ⟨g,2,none⟩=some v2∧w.cell? ⟨g,3,none⟩=some v3:=⟨fw h 0,fw h 1,fw h 2,fw h 3⟩
theorem yQ {w:World} {g:Nat} {v0 v1 v2 v3 v4:Value} {l:List Value} {t:TypeId} {f:Nat×Nat} (h:w.heap[g]? =some (.cells (List.toArray (v0::v1::v2::v3::v4::l)) t f)):w.cell? ⟨g,0,none⟩=some v0∧w.cell? ⟨g,1,none⟩=some v1∧w.cell? ⟨g,2,none⟩=some v2∧w.cell? ⟨g,3,none⟩=some v3∧w.cell? ⟨g,4,none⟩=some v4:=⟨fw h 0,fw h 1,fw h 2,fw h 3,fw h 4⟩
theorem Gh {w:World} {g:Nat} {v0 v1 v2 v3 v4 v5:Value} {l:List Value} {t:TypeId} {f:Nat×Nat} (h:w.heap[g]? =some (.cells (List.toArray (v0::v1::v2::v3::v4::v5::l)) t f)):w.cell? ⟨g,0,none⟩=some v0∧w.cell? ⟨g,1,none⟩=some v1∧w.cell? ⟨g,2,none⟩=some v2∧w.cell? ⟨g,3,none⟩=some v3∧w.cell? ⟨g,4,none⟩=some v4∧w.cell? ⟨g,5,none⟩=some v5:=⟨fw h 0,fw h 1,fw h 2,fw h 3,fw h 4,fw h 5⟩
theorem Fz {w:World} {g:Nat} {v0 v1 v2 v3 v4 v5 v6:Value} {l:List Value} {t:TypeId} {f:Nat×Nat} (h:w.heap[g]? =some (.cells (List.toArray (v0::v1::v2::v3::v4::v5::v6::l)) t f)):w.cell? ⟨g,0,none⟩=some v0∧w.cell? ⟨g,1,none⟩=some v1∧w.cell? ⟨g,2,none⟩=some v2∧w.cell? ⟨g,3,none⟩=some v3∧w.cell? ⟨g,4,none⟩=some v4∧w.cell? ⟨g,5,none⟩=some v5∧w.cell? ⟨g,6,none⟩=some v6:=⟨fw h 0,fw h 1,fw h 2,fw h 3,fw h 4,fw h 5,fw h 6⟩
theorem o6 {w:World} {g:Nat} {v0 v1 v2 v3 v4 v5 v6 v7 v8 v9 v10 v11:Value} {l:List Value} {t:TypeId} {f:Nat×Nat} (h:w.heap[g]? =some (.cells (List.toArray (v0::v1::v2::v3::v4::v5::v6::v7::v8::v9::v10::v11::l)) t f)):w.cell? ⟨g,0,none⟩=some v0∧w.cell? ⟨g,1,none⟩=some v1∧w.cell? ⟨g,2,none⟩=some v2∧w.cell? ⟨g,3,none⟩=some v3∧w.cell? ⟨g,4,none⟩=some v4∧w.cell? ⟨g,5,none⟩=some v5∧w.cell? ⟨g,6,none⟩=some v6∧w.cell? ⟨g,7,none⟩=some v7∧w.cell? ⟨g,8,none⟩=some v8∧w.cell? ⟨g,9,none⟩=some v9∧w.cell? ⟨g,10,none⟩=some v10∧w.cell? ⟨g,11,none⟩=some v11:=⟨fw h 0,fw h 1,fw h 2,fw h 3,fw h 4,fw h 5,fw h 6,fw h 7,fw h 8,fw h 9,fw h 10,fw h 11⟩
theorem Gg {P:Prop} (t:P:=by repeat (refine Ch.setCell ?_ (by first|exact Or.inl rfl|exact Or.inl (Or.inl rfl)|exact Or.inl (Or.inr rfl)) _);exact Ch.refl _ _):P:=t
theorem nC (w:World) (a:Obj):∃W,Hid (w.alloc a=W)∧Below w.heap.size w W∧W.heap[w.heap.size]? =some a:=⟨_,rfl,gs (Below.refl _ _) _,gL rfl⟩
theorem FK (w:World) (a b:Obj):∃W,Hid ((w.alloc a).alloc b=W)∧Below w.heap.size w W∧W.heap[w.heap.size]? =some a∧W.heap[w.heap.size+1]? =some b:=⟨_,rfl,gs (gs (Below.refl _ _) _) _,(Below.heap_alloc _ _ _ (by simp)).trans (gL rfl),gL (by simp)⟩
theorem Dc (w:World) (a b c:Obj):∃W,Hid (((w.alloc a).alloc b).alloc c=W)∧Below w.heap.size w W∧W.heap[w.heap.size]? =some a∧W.heap[w.heap.size+1]? =some b∧W.heap[w.heap.size+1+1]? =some c:=⟨_,rfl,gs (gs (gs (Below.refl _ _) _) _) _,(Below.heap_alloc _ _ _ (by simp only[World.size_alloc];omega)).trans ((Below.heap_alloc _ _ _ (by simp)).trans (gL rfl)),(Below.heap_alloc _ _ _ (by simp)).trans (gL (by simp)),gL (by simp)⟩
theorem fu {B k:Nat} {w w':World} {o:Obj} (h:Below B w w') (hk:k<B) (ho:w.heap[k]? =some o):w'.heap[k]? =some o:=(h.block k hk).trans ho
def ij (e:hY):Value:= .agg #[e.time,e.to,e.from_,e.count,e.n,e.kind,e.arg]
theorem nk {w:World} {s:Nat} {t:TypeId} {a b c d e f g:Value} (h:w.heap[s]? =some (.cells #[a,b,c,d,e,f,g] t (0,0))):
  (w.cell? ⟨s,0,none⟩=some a∧w.cell? ⟨s,1,none⟩=some b∧w.cell? ⟨s,2,none⟩=some c∧w.cell? ⟨s,3,none⟩=some d∧w.cell? ⟨s,4,none⟩=some e∧w.cell? ⟨s,5,none⟩=some f∧w.cell? ⟨s,6,none⟩=some g)∧∀i,w.frozen? ⟨s,i,none⟩=false:=
 ⟨⟨fw h 0,fw h 1,fw h 2,fw h 3,fw h 4,fw h 5,fw h 6⟩,ft h⟩
def l7 (o:ik):Value:= .agg #[o.time,o.proc,o.count,o.n,o.value]
theorem nG (a b:hY) (w:World):Calls Tryz.prog 107 #[ij a,ij b] w fun q w' =>q= .returned (.bool (gQ a b))∧Below w.heap.size w w':=by
 unfold ij;by_cases h0:a.time=b.time
 ·have d:(a.time !=b.time)=false:=by simp[h0]
  by_cases h1:a.to=b.to
  ·have f:(a.to !=b.to)=false:=by simp[h1]
   by_cases h2:a.from_=b.from_
   ·have g:(a.from_ !=b.from_)=false:=by simp[h2]
    by_cases h3:a.count=b.count
    ·have i:(a.count !=b.count)=false:=by simp[h3]
     by_cases h4:a.n=b.n
     ·have j:(a.n !=b.n)=false:=by simp[h4]
      by_cases h5:a.kind=b.kind
      ·have k:(a.kind !=b.kind)=false:=by simp[h5]
       have c:=fS (show gQ a b=decide (a.arg<b.arg) by simp[gQ,hY.key,jM,h0,h1,h2,h3,h4,h5];intro e;omega);clear h0 h1 h2 h3 h4 h5;go_enter Tryz.func107,Tryz.ntmps107;go_wp2_with fail;go_ret;exact⟨by rw[c.out];rfl,by repeat (first|exact gM _ _|refine gs ?_ _)⟩
      ·have k:(a.kind !=b.kind)=true:=by simp[h5]
       have c:=fS (show gQ a b=decide (a.kind<b.kind) by simp[gQ,hY.key,jM,h0,h1,h2,h3,h4,h5]);clear h0 h1 h2 h3 h4 h5;go_enter Tryz.func107,Tryz.ntmps107;go_wp2_with fail;go_ret;exact⟨by rw[c.out];rfl,by repeat (first|exact gM _ _|refine gs ?_ _)⟩
     ·have j:(a.n !=b.n)=true:=by simp[h4]
      have c:=fS (show gQ a b=decide (a.n<b.n) by simp[gQ,hY.key,jM,h0,h1,h2,h3,h4]);clear h0 h1 h2 h3 h4;go_enter Tryz.func107,Tryz.ntmps107;go_wp2_with fail;go_ret;exact⟨by rw[c.out];rfl,by repeat (first|exact gM _ _|refine gs ?_ _)⟩
    ·have i:(a.count !=b.count)=true:=by simp[h3]
     have c:=fS (show gQ a b=decide (a.count<b.count) by simp[gQ,hY.key,jM,h0,h1,h2,h3]);clear h0 h1 h2 h3;go_enter Tryz.func107,Tryz.ntmps107;go_wp2_with fail;go_ret;exact⟨by rw[c.out];rfl,by repeat (first|exact gM _ _|refine gs ?_ _)⟩
   ·have g:(a.from_ !=b.from_)=true:=by simp[h2]
    have c:=fS (show gQ a b=decide (a.from_<b.from_) by simp[gQ,hY.key,jM,h0,h1,h2]);clear h0 h1 h2;go_enter Tryz.func107,Tryz.ntmps107;go_wp2_with fail;go_ret;exact⟨by rw[c.out];rfl,by repeat (first|exact gM _ _|refine gs ?_ _)⟩
  ·have f:(a.to !=b.to)=true:=by simp[h1]
   have c:=fS (show gQ a b=decide (a.to<b.to) by simp[gQ,hY.key,jM,h0,h1]);clear h0 h1;go_enter Tryz.func107,Tryz.ntmps107;go_wp2_with fail;go_ret;exact⟨by rw[c.out];rfl,by repeat (first|exact gM _ _|refine gs ?_ _)⟩
 ·have d:(a.time !=b.time)=true:=by simp[h0]
  have c:=fS (show gQ a b=decide (a.time<b.time) by simp[gQ,hY.key,jM,h0]);clear h0;go_enter Tryz.func107,Tryz.ntmps107;go_wp2_with fail;go_ret;exact⟨by rw[c.out];rfl,by repeat (first|exact gM _ _|refine gs ?_ _)⟩
theorem sh (a b:ik) (w:World):Calls Tryz.prog 61 #[l7 a,l7 b] w fun q w' =>q= .returned (.bool (gO a b))∧Below w.heap.size w w':=by
 unfold l7;by_cases h0:a.time=b.time
 ·have d:(a.time !=b.time)=false:=by simp[h0]
  by_cases h1:a.proc=b.proc
  ·have f:(a.proc !=b.proc)=false:=by simp[h1]
   by_cases h2:a.count=b.count
   ·have g:(a.count !=b.count)=false:=by simp[h2]
    by_cases h3:a.n=b.n
    ·have i:(a.n !=b.n)=false:=by simp[h3]
     have c:=fS (show gO a b=decide (a.value<b.value) by simp[gO,ik.key,jM,h0,h1,h2,h3];intro e;omega);clear h0 h1 h2 h3;go_enter Tryz.func61,Tryz.ntmps61;go_wp2_with fail;go_ret;exact⟨by rw[c.out];rfl,by repeat (first|exact gM _ _|refine gs ?_ _)⟩
    ·have i:(a.n !=b.n)=true:=by simp[h3]
     have c:=fS (show gO a b=decide (a.n<b.n) by simp[gO,ik.key,jM,h0,h1,h2,h3]);clear h0 h1 h2 h3;go_enter Tryz.func61,Tryz.ntmps61;go_wp2_with fail;go_ret;exact⟨by rw[c.out];rfl,by repeat (first|exact gM _ _|refine gs ?_ _)⟩
   ·have g:(a.count !=b.count)=true:=by simp[h2]
    have c:=fS (show gO a b=decide (a.count<b.count) by simp[gO,ik.key,jM,h0,h1,h2]);clear h0 h1 h2;go_enter Tryz.func61,Tryz.ntmps61;go_wp2_with fail;go_ret;exact⟨by rw[c.out];rfl,by repeat (first|exact gM _ _|refine gs ?_ _)⟩
  ·have f:(a.proc !=b.proc)=true:=by simp[h1]
   have c:=fS (show gO a b=decide (a.proc<b.proc) by simp[gO,ik.key,jM,h0,h1]);clear h0 h1;go_enter Tryz.func61,Tryz.ntmps61;go_wp2_with fail;go_ret;exact⟨by rw[c.out];rfl,by repeat (first|exact gM _ _|refine gs ?_ _)⟩
 ·have d:(a.time !=b.time)=true:=by simp[h0]
  have c:=fS (show gO a b=decide (a.time<b.time) by simp[gO,ik.key,jM,h0]);clear h0;go_enter Tryz.func61,Tryz.ntmps61;go_wp2_with fail;go_ret;exact⟨by rw[c.out];rfl,by repeat (first|exact gM _ _|refine gs ?_ _)⟩
end Go.Proofs.YtlndjfflhegkdaaGreatDoor
