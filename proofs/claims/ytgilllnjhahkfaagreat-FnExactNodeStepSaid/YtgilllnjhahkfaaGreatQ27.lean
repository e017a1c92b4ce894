/- Parts of the proof: Do2. -/
import Derived.Test.YtgilllnjhahkfaaGreatQ13
set_option linter.unusedVariables false
set_option linter.unusedSimpArgs false
set_option linter.unusedSectionVars false
set_option maxHeartbeats 4000000
set_option maxRecDepth 100000
namespace Go.Proofs.YtgilllnjhahkfaaGreat
open Go.RowKit
theorem Bw {w w1 W:World} {g B:Nat} {c:Int} {e:im} {r r':iI} {sv ov v1:Value} {o:mi} {box:Obj} (hd:jV e c o r=(r',0)) (hG1:w1.heap[g]? =some (.cells (j5 c e r sv ov) 205 (0,0))∧Ow ii 120 w1 (fun k=>B≤k) ov r.outs)
  (hO:Ow iC 132 w1 (fun k=>B≤k) v1 r'.sends) (hG:W.grownBy w1 sv.ownBlock) (HS:Ch (fun k=>sv.ownBlock=some k) (w.alloc box) w1) (hB:B≤w.heap.size) (hsv:∀k,sv.ownBlock=some k→B≤k) (hgB:B≤g) (hx:r'.x=r.x) (hy:r'.y=r.y) (ho:r'.outs=r.outs):
  pG B g c e r sv ov o w (.returned (.int .i64 0)) (w1.setCell ⟨g,10,none⟩ v1):=by
 refine⟨by rw[hd],⟨v1,ov,?_,hgB,?_,?_⟩,?_⟩
 ·rw[gN hG1.1,hd]
  simp[j5,hx,hy]
 ·rw[hd];exact hO.setCell hG1.1 dc _
 ·rw[hd];simp only[ho];exact hG1.2.setCell hG1.1 dc _
 ·exact Ch.setCell (S:=fun k=>k=g∨sv.ownBlock=some k∨ov.ownBlock=some k) (p:=⟨g,10,none⟩) (((Ch.refl _ _).alloc _).trans (HS.mono (fun k a=>Or.inr (Or.inl a)))) (Or.inl (Or.inl rfl)) _
theorem Bp {w w1 W:World} {g B:Nat} {c:Int} {e:im} {r r':iI} {sv ov v1:Value} {o:mi} {box:Obj} (hd:jV e c o r=(r',0)) (hG1:w1.heap[g]? =some (.cells (j5 c e r sv ov) 205 (0,0))∧Ow iC 132 w1 (fun k=>B≤k) sv r.sends)
  (hO:Ow ii 120 w1 (fun k=>B≤k) v1 r'.outs) (hG:W.grownBy w1 ov.ownBlock) (HS:Ch (fun k=>ov.ownBlock=some k) (w.alloc box) w1) (hB:B≤w.heap.size) (hsv:∀k,ov.ownBlock=some k→B≤k) (hgB:B≤g) (hx:r'.x=r.x) (hy:r'.y=r.y) (ho:r'.sends=r.sends):
  pG B g c e r sv ov o w (.returned (.int .i64 0)) (w1.setCell ⟨g,11,none⟩ v1):=by
 refine⟨by rw[hd],⟨sv,v1,?_,hgB,?_,?_⟩,?_⟩
 ·rw[gN hG1.1,hd]
  simp[j5,hx,hy]
 ·rw[hd];simp only[ho];exact hG1.2.setCell hG1.1 dc _
 ·rw[hd];exact hO.setCell hG1.1 dc _
 ·exact Ch.setCell (S:=fun k=>k=g∨sv.ownBlock=some k∨ov.ownBlock=some k) (p:=⟨g,11,none⟩) (((Ch.refl _ _).alloc _).trans (HS.mono (fun k a=>Or.inr (Or.inr a)))) (Or.inl (Or.inl rfl)) _
theorem yx (r:iI) (a b:Int):(r.put a 0).put a b=r.put a b:=by unfold iI.put;split<;>rfl
theorem DC (g B:Nat) (c:Int) (e:im) (r:iI) (sv ov:Value) (a b cc ee:Int) (w:World) (h:mJ w g B c e r sv ov) (hB:B≤w.heap.size) (hr:md r) (he:jM e=true) (hns:r.sends.length≤1000) (hno:r.outs.length≤1000) (ha:a=0∨a=1) (hb0:0≤b∧b≤999):
  Calls Tryz.prog 215 #[.agg #[a,b,.bool true],.pointer (some ⟨g,0,none⟩)] w (pG B g c e r sv ov ⟨1,a,b,cc,ee⟩ w):=by
 have z:=And.intro hr.x0 hr.x1;have A:=And.intro hr.y0 hr.y1;have u:=hb0.1;have v:=hb0.2;have i:=h.below (gU (gY _ _) (.cells #[a,b,.bool true] 241));have o:=gM i.blk 0;have p:=gM i.blk 1;simp[j5] at o p;rcases ha with rfl|rfl
 ·have x:=ft i.blk 0
  have m:=gL h.blk;have n:¬g=w.heap.size:=gO;have hgn':¬w.heap.size=g:=gO;go_enter Tryz.func215,Tryz.ntmps215;go_wp2_with fail;refine jk 5 ie ie ?_;simp only[List.take_succ_cons,List.take_zero,List.drop_succ_cons,List.drop_zero]
  iterate 5 still_step
  refine wpStill_nil ?_;have d:=mJ.set (r':=r.put 0 0) h 0 (.int .i64 0) rfl rfl rfl;have j:=gM d.blk 0;have k:=gM d.blk 1;simp[j5,iI.put] at j k;have s:(w.setCell ⟨g,0,none⟩ (.int .i64 0)).cell? ⟨g,0,none⟩=some (.int .i64 0):=gM (gN h.blk 0 (.int .i64 0)) 0;go_wp2_with fail;refine jk 13 ie ie ?_;simp only[List.take_succ_cons,List.take_zero,List.drop_succ_cons,List.drop_zero]
  iterate 13 still_step
  refine wpStill_nil ?_;go_wp2_with (go_at_call 214;refine(oF g B c e _ sv ov _ _ _ (d.below (by repeat (first|exact gY _ _|refine gU ?_ _|refine Below.drew ?_))) sm gO).mono ?_;rintro q t ⟨rfl,f,l⟩);go_ret;exact⟨rfl,⟨sv,ov,by rw[yx] at f;exact f⟩,(by refine Ch.trans ?_ l;repeat (first|(with_reducible exact Ch.refl _ _)|(with_reducible refine Ch.drew ?_)|(with_reducible refine Ch.alloc ?_ _)|(with_reducible refine Ch.setCell ?_ (Or.inl (Or.inl rfl)) _)))⟩
 ·have y:=ft i.blk 1
  have m:=gL h.blk;have n:¬g=w.heap.size:=gO;have hgn':¬w.heap.size=g:=gO;go_enter Tryz.func215,Tryz.ntmps215;go_wp2_with fail;refine jk 5 ie ie ?_;simp only[List.take_succ_cons,List.take_zero,List.drop_succ_cons,List.drop_zero]
  iterate 5 still_step
  refine wpStill_nil ?_;have d:=mJ.set (r':=r.put 1 0) h 1 (.int .i64 0) rfl rfl rfl;have j:=gM d.blk 0;have k:=gM d.blk 1;simp[j5,iI.put] at j k;have s:(w.setCell ⟨g,1,none⟩ (.int .i64 0)).cell? ⟨g,1,none⟩=some (.int .i64 0):=gM (gN h.blk 1 (.int .i64 0)) 1;go_wp2_with fail;refine jk 13 ie ie ?_;simp only[List.take_succ_cons,List.take_zero,List.drop_succ_cons,List.drop_zero]
  iterate 13 still_step
  refine wpStill_nil ?_;go_wp2_with (go_at_call 214;refine(oF g B c e _ sv ov _ _ _ (d.below (by repeat (first|exact gY _ _|refine gU ?_ _|refine Below.drew ?_))) sm gO).mono ?_;rintro q t ⟨rfl,f,l⟩);go_ret;exact⟨rfl,⟨sv,ov,by rw[yx] at f;exact f⟩,(by refine Ch.trans ?_ l;repeat (first|(with_reducible exact Ch.refl _ _)|(with_reducible refine Ch.drew ?_)|(with_reducible refine Ch.alloc ?_ _)|(with_reducible refine Ch.setCell ?_ (Or.inl (Or.inl rfl)) _)))⟩
theorem Fk (g B:Nat) (c:Int) (e:im) (r:iI) (sv ov:Value) (a b cc ee:Int) (w:World) (h:mJ w g B c e r sv ov) (hB:B≤w.heap.size) (hr:md r) (he:jM e=true) (hns:r.sends.length≤1000) (hno:r.outs.length≤1000) (hcc:1≤cc∧cc≤40) (hee:ee=0∨ee=1):
  Calls Tryz.prog 219 #[.agg #[a,b,cc,ee],.pointer (some ⟨g,0,none⟩)] w (pG B g c e r sv ov ⟨6,a,b,cc,ee⟩ w):=by
 have W:=And.intro hr.x0 hr.x1;have X:=And.intro hr.y0 hr.y1;simp[jM,i2] at he;have Z:=he.1.1.1.1.1.1;clear he;obtain⟨A,p,rfl,V⟩:=h.sends.shape;have i:=h.below (gU (gY _ _) (.cells #[a,b,cc,ee] 249));have G:=gM i.blk 0;have H:=gM i.blk 1;have I:=gM i.blk 2;have J:=gM i.blk 3;have L:=gM i.blk 9;have y:=gM i.blk 10;simp[j5] at G H I J L y;have S:=ft i.blk 10;have Y:=hcc;have T:=h.sends.type_ne h.blk dc;have U:=gL h.blk;have O:(Value.slice A r.sends.length p).ownBlock≠some w.heap.size:=fun M=>by have:=h.sends.block_lt M;omega
 have hg':g<w.heap.size+1:=gO;rcases hee with rfl|rfl
 ·by_cases hle:e.time+cc≤40
  ·have u:decide (e.time+cc≤40)=true:=jT hle
   have l:jV e c ⟨6,a,b,cc,0⟩ r=({r with sends:=r.sends++[⟨e.time+cc,a,e.to,c,(r.sends.length:Int),b,r.get 0⟩]},0):=by simp[jV,hle]
   have o:=gP l;clear l;go_enter Tryz.func219,Tryz.ntmps219;go_wp2_with fail
   go_quiet (fail)
   go_wp2_with fail;have P:IntKind.i64.wrap (e.time+cc)=e.time+cc:=IntWalk.i64_in _ gO;refine ib (fun x=>Ch (fun k=>(Value.slice A r.sends.length p).ownBlock=some k) (w.alloc (.cells #[a,b,cc,.int .i64 0] 249)) x) [tT 0,tT 1,tT 2,tT 3,tT 4,tT 5,tT 6,tT 7,tT 8,tT 9,tT 10,tT 11,tT 12,tT 13,tT 14,tT 15,tT 16,tT 17,tT 18,tT 19,tT 20,tT 21,tT 22,tT 23,tT 24,tT 25,tT 26,tT 27,tT 28,tT 29,tT 30,tT 31,tF 32,tF 33,tT 34,tT 35,tF 36] ie ie qP ?_;have HS:=((Ch.refl (fun k=>(Value.slice A r.sends.length p).ownBlock=some k) (w.alloc (.cells #[a,b,cc,.int .i64 0] 249))).drewN nq).drew
   iterate 32 (refine jr (v:=?_) (by rfl) HS (by rfl) ?_ ?_;rotate_left;(focus (intro wS hS;obtain⟨kc,kf⟩:=hS.cells;go_simp;(try (with_reducible rfl));done));(intro K hK;go_simp;refine hK _ ?_;clear hK K))
   refine ia (by rfl) (by rfl) (fun K hK=>?_);go_simp;refine hK _ _ (Or.inr (HS.alloc _)) ?_;clear hK K;refine ia (by rfl) (by rfl) (fun K hK=>?_);refine kO (d:=iC) 33 rfl Tryz.underlying33 _ 56 kL rfl dc dc rfl (i.below (by repeat (first|exact gY _ _|refine gU ?_ _|refine jG ?_ _|refine Below.drew ?_))).sends ⟨e.time+cc,a,e.to,c,(r.sends.length:Int),b,r.get 0⟩ _ rfl (gX sm) (fun _=>False) rfl (fun _ m=>m.elim) (fun _ m=>m.elim) gO (fun k=>B≤k) (fun _ f=>f) (fun _ m=>m.elim) (fun k f=>by simp at f;omega) ?_;intro Q R s q C;have j:=(HS.alloc _).grown q (fun k f=> .inl f);have n:=mJ.grown_sends (i.below (by repeat (first|exact gY _ _|refine gU ?_ _|refine jG ?_ _|refine Below.drew ?_))) q;obtain⟨F,z,rfl,D⟩:=s.shape;simp only[List.length_append,List.length_singleton] at s;have t:=gM n.1 10;have E:=ft n.1 10;simp[j5] at t;refine hK _ _ (Or.inr j) ?_;clear hK K HS;have HS:=j;clear j
   iterate 2 (refine jr (v:=?_) (by rfl) HS (by rfl) ?_ ?_;rotate_left;(focus (intro wS hS;obtain⟨kc,kf⟩:=hS.cells;go_simp;(try (with_reducible rfl));done));(intro K hK;go_simp;refine hK _ ?_;clear hK K))
   refine ia (by rfl) (by rfl) (fun K hK=>?_);go_simp;refine hK _ _ (Or.inl ie) ?_;clear hK K;simp only[jc];go_wp2;go_ret;exact Bw (sv:=(Value.slice A r.sends.length p)) o.out n s q HS hB (fun k f=>h.sends.inF f) h.ge rfl rfl rfl
  ·have u:decide (e.time+cc≤40)=false:=iU hle
   have l:jV e c ⟨6,a,b,cc,0⟩ r=(r,0):=by simp[jV,hle]
   have o:=gP l;clear l;go_enter Tryz.func219,Tryz.ntmps219;go_wp2_with fail
   go_quiet (fail)
   go_wp2_with fail;go_ret;exact⟨by rw[o.out];rfl,⟨_,_,by rw[o.out];exact i.below (jG (gY _ _) _)⟩,((Ch.refl _ _).alloc _).drewN _⟩
 ·by_cases hle:e.time+cc≤40
  ·have u:decide (e.time+cc≤40)=true:=jT hle
   have l:jV e c ⟨6,a,b,cc,1⟩ r=({r with sends:=r.sends++[⟨e.time+cc,a,e.to,c,(r.sends.length:Int),b,r.get 1⟩]},0):=by simp[jV,hle]
   have o:=gP l;clear l;go_enter Tryz.func219,Tryz.ntmps219;go_wp2_with fail
   go_quiet (fail)
   go_wp2_with fail;have P:IntKind.i64.wrap (e.time+cc)=e.time+cc:=IntWalk.i64_in _ gO;refine ib (fun x=>Ch (fun k=>(Value.slice A r.sends.length p).ownBlock=some k) (w.alloc (.cells #[a,b,cc,.int .i64 1] 249)) x) [tT 0,tT 1,tT 2,tT 3,tT 4,tT 5,tT 6,tT 7,tT 8,tT 9,tT 10,tT 11,tT 12,tT 13,tT 14,tT 15,tT 16,tT 17,tT 18,tT 19,tT 20,tT 21,tT 22,tT 23,tT 24,tT 25,tT 26,tT 27,tT 28,tT 29,tT 30,tT 31,tF 32,tF 33,tT 34,tT 35,tF 36] ie ie qP ?_;have HS:=((Ch.refl (fun k=>(Value.slice A r.sends.length p).ownBlock=some k) (w.alloc (.cells #[a,b,cc,.int .i64 1] 249))).drewN nq).drew
   iterate 32 (refine jr (v:=?_) (by rfl) HS (by rfl) ?_ ?_;rotate_left;(focus (intro wS hS;obtain⟨kc,kf⟩:=hS.cells;go_simp;(try (with_reducible rfl));done));(intro K hK;go_simp;refine hK _ ?_;clear hK K))
   refine ia (by rfl) (by rfl) (fun K hK=>?_);go_simp;refine hK _ _ (Or.inr (HS.alloc _)) ?_;clear hK K;refine ia (by rfl) (by rfl) (fun K hK=>?_);refine kO (d:=iC) 33 rfl Tryz.underlying33 _ 56 kL rfl dc dc rfl (i.below (by repeat (first|exact gY _ _|refine gU ?_ _|refine jG ?_ _|refine Below.drew ?_))).sends ⟨e.time+cc,a,e.to,c,(r.sends.length:Int),b,r.get 1⟩ _ rfl (gX sm) (fun _=>False) rfl (fun _ m=>m.elim) (fun _ m=>m.elim) gO (fun k=>B≤k) (fun _ f=>f) (fun _ m=>m.elim) (fun k f=>by simp at f;omega) ?_;intro Q R s q C;have j:=(HS.alloc _).grown q (fun k f=> .inl f);have n:=mJ.grown_sends (i.below (by repeat (first|exact gY _ _|refine gU ?_ _|refine jG ?_ _|refine Below.drew ?_))) q;obtain⟨F,z,rfl,D⟩:=s.shape;simp only[List.length_append,List.length_singleton] at s;have t:=gM n.1 10;have E:=ft n.1 10;simp[j5] at t;refine hK _ _ (Or.inr j) ?_;clear hK K HS;have HS:=j;clear j
   iterate 2 (refine jr (v:=?_) (by rfl) HS (by rfl) ?_ ?_;rotate_left;(focus (intro wS hS;obtain⟨kc,kf⟩:=hS.cells;go_simp;(try (with_reducible rfl));done));(intro K hK;go_simp;refine hK _ ?_;clear hK K))
   refine ia (by rfl) (by rfl) (fun K hK=>?_);go_simp;refine hK _ _ (Or.inl ie) ?_;clear hK K;simp only[jc];go_wp2;go_ret;exact Bw (sv:=(Value.slice A r.sends.length p)) o.out n s q HS hB (fun k f=>h.sends.inF f) h.ge rfl rfl rfl
  ·have u:decide (e.time+cc≤40)=false:=iU hle
   have l:jV e c ⟨6,a,b,cc,1⟩ r=(r,0):=by simp[jV,hle]
   have o:=gP l;clear l;go_enter Tryz.func219,Tryz.ntmps219;go_wp2_with fail
   go_quiet (fail)
   go_wp2_with fail;go_ret;exact⟨by rw[o.out];rfl,⟨_,_,by rw[o.out];exact i.below (jG (gY _ _) _)⟩,((Ch.refl _ _).alloc _).drewN _⟩
theorem Gd (g B:Nat) (c:Int) (e:im) (r:iI) (sv ov:Value) (a b cc ee:Int) (w:World) (h:mJ w g B c e r sv ov) (hB:B≤w.heap.size) (hr:md r) (he:jM e=true) (hns:r.sends.length≤1000) (hno:r.outs.length≤1000) (ha:a=0∨a=1):
  Calls Tryz.prog 220 #[.agg #[a],.pointer (some ⟨g,0,none⟩)] w (pG B g c e r sv ov ⟨7,a,b,cc,ee⟩ w):=by
 have S:=And.intro hr.x0 hr.x1;have T:=And.intro hr.y0 hr.y1;obtain⟨A,n,rfl,R⟩:=h.outs.shape;have j:=h.below (gU (gY _ _) (.cells #[a] 250));have D:=gM j.blk 0;have E:=gM j.blk 1;have F:=gM j.blk 2;have G:=gM j.blk 3;have H:=gM j.blk 9;have t:=gM j.blk 11;simp[j5] at D E F G H t;have O:=ft j.blk 11;have P:=h.outs.type_ne h.blk dc;have Q:=gL h.blk;have J:(Value.slice A r.outs.length n).ownBlock≠some w.heap.size:=fun I=>by have:=h.outs.block_lt I;omega
 have hg':g<w.heap.size+1:=gO;rcases ha with rfl|rfl
 ·go_enter Tryz.func220,Tryz.ntmps220
  go_wp2_with fail;refine ib (fun s=>Ch (fun k=>(Value.slice A r.outs.length n).ownBlock=some k) (w.alloc (.cells #[.int .i64 0] 250)) s) [tT 0,tT 1,tT 2,tT 3,tT 4,tT 5,tT 6,tT 7,tT 8,tT 9,tT 10,tT 11,tT 12,tT 13,tT 14,tT 15,tT 16,tT 17,tT 18,tT 19,tT 20,tT 21,tT 22,tT 23,tT 24,tT 25,tT 26,tT 27,tT 28,tT 29,tT 30,tT 31,tF 32,tF 33,tT 34,tT 35,tF 36] ie ie qP ?_;have HS:=(Ch.refl (fun k=>(Value.slice A r.outs.length n).ownBlock=some k) (w.alloc (.cells #[.int .i64 0] 250))).drew
  iterate 32 (refine jr (v:=?_) (by rfl) HS (by rfl) ?_ ?_;rotate_left;(focus (intro wS hS;obtain⟨kc,kf⟩:=hS.cells;go_simp;(try (with_reducible rfl));done));(intro K hK;go_simp;refine hK _ ?_;clear hK K))
  refine ia (by rfl) (by rfl) (fun K hK=>?_);go_simp;refine hK _ _ (Or.inr (HS.alloc _)) ?_;clear hK K;refine ia (by rfl) (by rfl) (fun K hK=>?_);refine kO (d:=ii) 34 rfl Tryz.underlying34 _ 40 lH rfl dc dc rfl (j.below (by repeat (first|exact gY _ _|refine gU ?_ _|refine jG ?_ _|refine Below.drew ?_))).outs ⟨e.time,e.to,c,(r.outs.length:Int),r.get 0⟩ _ rfl (gX sm) (fun _=>False) rfl (fun _ l=>l.elim) (fun _ l=>l.elim) gO (fun k=>B≤k) (fun _ f=>f) (fun _ l=>l.elim) (fun k f=>by simp at f;omega) ?_;intro L M p o x;have i:=(HS.alloc _).grown o (fun k f=> .inl f);have m:=mJ.grown_outs (j.below (by repeat (first|exact gY _ _|refine gU ?_ _|refine jG ?_ _|refine Below.drew ?_))) o;obtain⟨C,u,rfl,y⟩:=p.shape;simp only[List.length_append,List.length_singleton] at p;have q:=gM m.1 11;have z:=ft m.1 11;simp[j5] at q;refine hK _ _ (Or.inr i) ?_;clear hK K HS;have HS:=i;clear i
  iterate 2 (refine jr (v:=?_) (by rfl) HS (by rfl) ?_ ?_;rotate_left;(focus (intro wS hS;obtain⟨kc,kf⟩:=hS.cells;go_simp;(try (with_reducible rfl));done));(intro K hK;go_simp;refine hK _ ?_;clear hK K))
  refine ia (by rfl) (by rfl) (fun K hK=>?_);go_simp;refine hK _ _ (Or.inl ie) ?_;clear hK K;simp only[jc];go_wp2;go_ret;exact Bp (ov:=(Value.slice A r.outs.length n)) rfl m p o HS hB (fun k f=>h.outs.inF f) h.ge rfl rfl rfl
 ·go_enter Tryz.func220,Tryz.ntmps220
  go_wp2_with fail;refine ib (fun s=>Ch (fun k=>(Value.slice A r.outs.length n).ownBlock=some k) (w.alloc (.cells #[.int .i64 1] 250)) s) [tT 0,tT 1,tT 2,tT 3,tT 4,tT 5,tT 6,tT 7,tT 8,tT 9,tT 10,tT 11,tT 12,tT 13,tT 14,tT 15,tT 16,tT 17,tT 18,tT 19,tT 20,tT 21,tT 22,tT 23,tT 24,tT 25,tT 26,tT 27,tT 28,tT 29,tT 30,tT 31,tF 32,tF 33,tT 34,tT 35,tF 36] ie ie qP ?_;have HS:=(Ch.refl (fun k=>(Value.slice A r.outs.length n).ownBlock=some k) (w.alloc (.cells #[.int .i64 1] 250))).drew
  iterate 32 (refine jr (v:=?_) (by rfl) HS (by rfl) ?_ ?_;rotate_left;(focus (intro wS hS;obtain⟨kc,kf⟩:=hS.cells;go_simp;(try (with_reducible rfl));done));(intro K hK;go_simp;refine hK _ ?_;clear hK K))
  refine ia (by rfl) (by rfl) (fun K hK=>?_);go_simp;refine hK _ _ (Or.inr (HS.alloc _)) ?_;clear hK K;refine ia (by rfl) (by rfl) (fun K hK=>?_);refine kO (d:=ii) 34 rfl Tryz.underlying34 _ 40 lH rfl dc dc rfl (j.below (by repeat (first|exact gY _ _|refine gU ?_ _|refine jG ?_ _|refine Below.drew ?_))).outs ⟨e.time,e.to,c,(r.outs.length:Int),r.get 1⟩ _ rfl (gX sm) (fun _=>False) rfl (fun _ l=>l.elim) (fun _ l=>l.elim) gO (fun k=>B≤k) (fun _ f=>f) (fun _ l=>l.elim) (fun k f=>by simp at f;omega) ?_;intro L M p o x;have i:=(HS.alloc _).grown o (fun k f=> .inl f);have m:=mJ.grown_outs (j.below (by repeat (first|exact gY _ _|refine gU ?_ _|refine jG ?_ _|refine Below.drew ?_))) o;obtain⟨C,u,rfl,y⟩:=p.shape;simp only[List.length_append,List.length_singleton] at p;have q:=gM m.1 11;have z:=ft m.1 11;simp[j5] at q;refine hK _ _ (Or.inr i) ?_;clear hK K HS;have HS:=i;clear i
  iterate 2 (refine jr (v:=?_) (by rfl) HS (by rfl) ?_ ?_;rotate_left;(focus (intro wS hS;obtain⟨kc,kf⟩:=hS.cells;go_simp;(try (with_reducible rfl));done));(intro K hK;go_simp;refine hK _ ?_;clear hK K))
  refine ia (by rfl) (by rfl) (fun K hK=>?_);go_simp;refine hK _ _ (Or.inl ie) ?_;clear hK K;simp only[jc];go_wp2;go_ret;exact Bp (ov:=(Value.slice A r.outs.length n)) rfl m p o HS hB (fun k f=>h.outs.inF f) h.ge rfl rfl rfl
end Go.Proofs.YtgilllnjhahkfaaGreat
