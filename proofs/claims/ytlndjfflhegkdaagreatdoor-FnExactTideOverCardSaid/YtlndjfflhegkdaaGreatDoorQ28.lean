/- Parts of the proof: Do2. -/
import Derived.Test.YtlndjfflhegkdaaGreatDoorQ17
set_option linter.unusedVariables false
set_option linter.unusedSimpArgs false
set_option linter.unusedSectionVars false
set_option maxHeartbeats 4000000
set_option maxRecDepth 100000
namespace Go.Proofs.YtlndjfflhegkdaaGreatDoor
open Go.RowKit
theorem zP {w w1 W:World} {g B:Nat} {c:Int} {e:hY} {r r':im} {sv ov v1:Value} {o:lJ} {box:Obj} (hd:jl e c o r=(r',0)) (hG1:w1.heap[g]? =some (.cells (jo c e r sv ov) 202 (0,0))∧Ow hJ 101 w1 (fun k=>B≤k) ov r.outs)
  (hO:Ow iw 91 w1 (fun k=>B≤k) v1 r'.sends) (hG:W.grownBy w1 sv.ownBlock) (HS:Ch (fun k=>sv.ownBlock=some k) (w.alloc box) w1) (hB:B≤w.heap.size) (hsv:∀k,sv.ownBlock=some k→B≤k) (hgB:B≤g) (hx:r'.x=r.x) (hy:r'.y=r.y) (ho:r'.outs=r.outs):
  oN B g c e r sv ov o w (.returned (.int .i64 0)) (w1.setCell ⟨g,10,none⟩ v1):=by
 refine⟨by rw[hd],⟨v1,ov,?_,hgB,?_,?_⟩,?_⟩
 ·rw[gJ hG1.1,hd]
  simp[jo,hx,hy]
 ·rw[hd];exact hO.setCell hG1.1 dc _
 ·rw[hd];simp only[ho];exact hG1.2.setCell hG1.1 dc _
 ·exact Ch.setCell (S:=fun k=>k=g∨sv.ownBlock=some k∨ov.ownBlock=some k) (p:=⟨g,10,none⟩) (((Ch.refl _ _).alloc _).trans (HS.mono (fun k a=>Or.inr (Or.inl a)))) (Or.inl (Or.inl rfl)) _
theorem zQ {w w1 W:World} {g B:Nat} {c:Int} {e:hY} {r r':im} {sv ov v1:Value} {o:lJ} {box:Obj} (hd:jl e c o r=(r',0)) (hG1:w1.heap[g]? =some (.cells (jo c e r sv ov) 202 (0,0))∧Ow iw 91 w1 (fun k=>B≤k) sv r.sends)
  (hO:Ow hJ 101 w1 (fun k=>B≤k) v1 r'.outs) (hG:W.grownBy w1 ov.ownBlock) (HS:Ch (fun k=>ov.ownBlock=some k) (w.alloc box) w1) (hB:B≤w.heap.size) (hsv:∀k,ov.ownBlock=some k→B≤k) (hgB:B≤g) (hx:r'.x=r.x) (hy:r'.y=r.y) (ho:r'.sends=r.sends):
  oN B g c e r sv ov o w (.returned (.int .i64 0)) (w1.setCell ⟨g,11,none⟩ v1):=by
 refine⟨by rw[hd],⟨sv,v1,?_,hgB,?_,?_⟩,?_⟩
 ·rw[gJ hG1.1,hd]
  simp[jo,hx,hy]
 ·rw[hd];simp only[ho];exact hG1.2.setCell hG1.1 dc _
 ·rw[hd];exact hO.setCell hG1.1 dc _
 ·exact Ch.setCell (S:=fun k=>k=g∨sv.ownBlock=some k∨ov.ownBlock=some k) (p:=⟨g,11,none⟩) (((Ch.refl _ _).alloc _).trans (HS.mono (fun k a=>Or.inr (Or.inr a)))) (Or.inl (Or.inl rfl)) _
theorem yF (r:im) (a b:Int):(r.put a 0).put a b=r.put a b:=by unfold im.put;split<;>rfl
theorem Cy (g B:Nat) (c:Int) (e:hY) (r:im) (sv ov:Value) (a b cc ee:Int) (w:World) (h:lV w g B c e r sv ov) (hB:B≤w.heap.size) (hr:lA r) (he:i7 e=true) (hns:r.sends.length≤1000) (hno:r.outs.length≤1000) (ha:a=0∨a=1) (hb0:0≤b∧b≤999):
  Calls Tryz.prog 208 #[.agg #[a,b,.bool true],.pointer (some ⟨g,0,none⟩)] w (oN B g c e r sv ov ⟨1,a,b,cc,ee⟩ w):=by
 have z:=And.intro hr.x0 hr.x1;have A:=And.intro hr.y0 hr.y1;have u:=hb0.1;have v:=hb0.2;have i:=h.below (gs (gM _ _) (.cells #[a,b,.bool true] 254));have o:=fw i.blk 0;have p:=fw i.blk 1;simp[jo] at o p;rcases ha with rfl|rfl
 ·have x:=ft i.blk 0
  have m:=fx h.blk;have n:¬g=w.heap.size:=fT;have hgn':¬w.heap.size=g:=fT;go_enter Tryz.func208,Tryz.ntmps208;go_wp2_with fail;refine iR 5 gY gY ?_;simp only[List.take_succ_cons,List.take_zero,List.drop_succ_cons,List.drop_zero]
  iterate 5 still_step
  refine wpStill_nil ?_;have d:=lV.set (r':=r.put 0 0) h 0 (.int .i64 0) rfl rfl rfl;have j:=fw d.blk 0;have k:=fw d.blk 1;simp[jo,im.put] at j k;have s:(w.setCell ⟨g,0,none⟩ (.int .i64 0)).cell? ⟨g,0,none⟩=some (.int .i64 0):=fw (gJ h.blk 0 (.int .i64 0)) 0;go_wp2_with fail;refine iR 13 gY gY ?_;simp only[List.take_succ_cons,List.take_zero,List.drop_succ_cons,List.drop_zero]
  iterate 13 still_step
  refine wpStill_nil ?_;go_wp2_with (go_at_call 206;refine(nS g B c e _ sv ov _ _ _ (d.below (by repeat (first|exact gM _ _|refine gs ?_ _|refine Below.drew ?_))) sm fT).mono ?_;rintro q t ⟨rfl,f,l⟩);go_ret;exact⟨rfl,⟨sv,ov,by rw[yF] at f;exact f⟩,(by refine Ch.trans ?_ l;repeat (first|(with_reducible exact Ch.refl _ _)|(with_reducible refine Ch.drew ?_)|(with_reducible refine Ch.alloc ?_ _)|(with_reducible refine Ch.setCell ?_ (Or.inl (Or.inl rfl)) _)))⟩
 ·have y:=ft i.blk 1
  have m:=fx h.blk;have n:¬g=w.heap.size:=fT;have hgn':¬w.heap.size=g:=fT;go_enter Tryz.func208,Tryz.ntmps208;go_wp2_with fail;refine iR 5 gY gY ?_;simp only[List.take_succ_cons,List.take_zero,List.drop_succ_cons,List.drop_zero]
  iterate 5 still_step
  refine wpStill_nil ?_;have d:=lV.set (r':=r.put 1 0) h 1 (.int .i64 0) rfl rfl rfl;have j:=fw d.blk 0;have k:=fw d.blk 1;simp[jo,im.put] at j k;have s:(w.setCell ⟨g,1,none⟩ (.int .i64 0)).cell? ⟨g,1,none⟩=some (.int .i64 0):=fw (gJ h.blk 1 (.int .i64 0)) 1;go_wp2_with fail;refine iR 13 gY gY ?_;simp only[List.take_succ_cons,List.take_zero,List.drop_succ_cons,List.drop_zero]
  iterate 13 still_step
  refine wpStill_nil ?_;go_wp2_with (go_at_call 206;refine(nS g B c e _ sv ov _ _ _ (d.below (by repeat (first|exact gM _ _|refine gs ?_ _|refine Below.drew ?_))) sm fT).mono ?_;rintro q t ⟨rfl,f,l⟩);go_ret;exact⟨rfl,⟨sv,ov,by rw[yF] at f;exact f⟩,(by refine Ch.trans ?_ l;repeat (first|(with_reducible exact Ch.refl _ _)|(with_reducible refine Ch.drew ?_)|(with_reducible refine Ch.alloc ?_ _)|(with_reducible refine Ch.setCell ?_ (Or.inl (Or.inl rfl)) _)))⟩
theorem EK (g B:Nat) (c:Int) (e:hY) (r:im) (sv ov:Value) (a b cc ee:Int) (w:World) (h:lV w g B c e r sv ov) (hB:B≤w.heap.size) (hr:lA r) (he:i7 e=true) (hns:r.sends.length≤1000) (hno:r.outs.length≤1000) (hcc:1≤cc∧cc≤40) (hee:ee=0∨ee=1):
  Calls Tryz.prog 212 #[.agg #[a,b,cc,ee],.pointer (some ⟨g,0,none⟩)] w (oN B g c e r sv ov ⟨6,a,b,cc,ee⟩ w):=by
 have W:=And.intro hr.x0 hr.x1;have X:=And.intro hr.y0 hr.y1;simp[i7,ib] at he;have Z:=he.1.1.1.1.1.1;clear he;obtain⟨A,p,rfl,V⟩:=h.sends.shape;have i:=h.below (gs (gM _ _) (.cells #[a,b,cc,ee] 262));have G:=fw i.blk 0;have H:=fw i.blk 1;have I:=fw i.blk 2;have J:=fw i.blk 3;have L:=fw i.blk 9;have y:=fw i.blk 10;simp[jo] at G H I J L y;have S:=ft i.blk 10;have Y:=hcc;have T:=h.sends.type_ne h.blk dc;have U:=fx h.blk;have O:(Value.slice A r.sends.length p).ownBlock≠some w.heap.size:=fun M=>by have:=h.sends.block_lt M;omega
 have hg':g<w.heap.size+1:=fT;rcases hee with rfl|rfl
 ·by_cases hle:e.time+cc≤40
  ·have u:decide (e.time+cc≤40)=true:=iW hle
   have l:jl e c ⟨6,a,b,cc,0⟩ r=({r with sends:=r.sends++[⟨e.time+cc,a,e.to,c,(r.sends.length:Int),b,r.get 0⟩]},0):=by simp[jl,hle]
   have o:=fS l;clear l;go_enter Tryz.func212,Tryz.ntmps212;go_wp2_with fail
   go_quiet (fail)
   go_wp2_with fail;have P:IntKind.i64.wrap (e.time+cc)=e.time+cc:=IntWalk.i64_in _ fT;refine gV (fun x=>Ch (fun k=>(Value.slice A r.sends.length p).ownBlock=some k) (w.alloc (.cells #[a,b,cc,.int .i64 0] 262)) x) [tT 0,tT 1,tT 2,tT 3,tT 4,tT 5,tT 6,tT 7,tT 8,tT 9,tT 10,tT 11,tT 12,tT 13,tT 14,tT 15,tT 16,tT 17,tT 18,tT 19,tT 20,tT 21,tT 22,tT 23,tT 24,tT 25,tT 26,tT 27,tT 28,tT 29,tT 30,tT 31,tF 32,tF 33,tT 34,tT 35,tF 36] gY gY qP ?_;have HS:=((Ch.refl (fun k=>(Value.slice A r.sends.length p).ownBlock=some k) (w.alloc (.cells #[a,b,cc,.int .i64 0] 262))).drewN nq).drew
   iterate 32 (refine jc (v:=?_) (by rfl) HS (by rfl) ?_ ?_;rotate_left;(focus (intro wS hS;obtain⟨kc,kf⟩:=hS.cells;go_simp;(try (with_reducible rfl));done));(intro K hK;go_simp;refine hK _ ?_;clear hK K))
   refine gU (by rfl) (by rfl) (fun K hK=>?_);go_simp;refine hK _ _ (Or.inr (HS.alloc _)) ?_;clear hK K;refine gU (by rfl) (by rfl) (fun K hK=>?_);refine jO (d:=iw) 49 rfl Tryz.underlying49 _ 56 jA rfl dc dc rfl (i.below (by repeat (first|exact gM _ _|refine gs ?_ _|refine ja ?_ _|refine Below.drew ?_))).sends ⟨e.time+cc,a,e.to,c,(r.sends.length:Int),b,r.get 0⟩ _ rfl (gL sm) (fun _=>False) rfl (fun _ m=>m.elim) (fun _ m=>m.elim) fT (fun k=>B≤k) (fun _ f=>f) (fun _ m=>m.elim) (fun k f=>by simp at f;omega) ?_;intro Q R s q C;have j:=(HS.alloc _).grown q (fun k f=> .inl f);have n:=lV.grown_sends (i.below (by repeat (first|exact gM _ _|refine gs ?_ _|refine ja ?_ _|refine Below.drew ?_))) q;obtain⟨F,z,rfl,D⟩:=s.shape;simp only[List.length_append,List.length_singleton] at s;have t:=fw n.1 10;have E:=ft n.1 10;simp[jo] at t;refine hK _ _ (Or.inr j) ?_;clear hK K HS;have HS:=j;clear j
   iterate 2 (refine jc (v:=?_) (by rfl) HS (by rfl) ?_ ?_;rotate_left;(focus (intro wS hS;obtain⟨kc,kf⟩:=hS.cells;go_simp;(try (with_reducible rfl));done));(intro K hK;go_simp;refine hK _ ?_;clear hK K))
   refine gU (by rfl) (by rfl) (fun K hK=>?_);go_simp;refine hK _ _ (Or.inl gY) ?_;clear hK K;simp only[iG];go_wp2;go_ret;exact zP (sv:=(Value.slice A r.sends.length p)) o.out n s q HS hB (fun k f=>h.sends.inF f) h.ge rfl rfl rfl
  ·have u:decide (e.time+cc≤40)=false:=ia hle
   have l:jl e c ⟨6,a,b,cc,0⟩ r=(r,0):=by simp[jl,hle]
   have o:=fS l;clear l;go_enter Tryz.func212,Tryz.ntmps212;go_wp2_with fail
   go_quiet (fail)
   go_wp2_with fail;go_ret;exact⟨by rw[o.out];rfl,⟨_,_,by rw[o.out];exact i.below (ja (gM _ _) _)⟩,((Ch.refl _ _).alloc _).drewN _⟩
 ·by_cases hle:e.time+cc≤40
  ·have u:decide (e.time+cc≤40)=true:=iW hle
   have l:jl e c ⟨6,a,b,cc,1⟩ r=({r with sends:=r.sends++[⟨e.time+cc,a,e.to,c,(r.sends.length:Int),b,r.get 1⟩]},0):=by simp[jl,hle]
   have o:=fS l;clear l;go_enter Tryz.func212,Tryz.ntmps212;go_wp2_with fail
   go_quiet (fail)
   go_wp2_with fail;have P:IntKind.i64.wrap (e.time+cc)=e.time+cc:=IntWalk.i64_in _ fT;refine gV (fun x=>Ch (fun k=>(Value.slice A r.sends.length p).ownBlock=some k) (w.alloc (.cells #[a,b,cc,.int .i64 1] 262)) x) [tT 0,tT 1,tT 2,tT 3,tT 4,tT 5,tT 6,tT 7,tT 8,tT 9,tT 10,tT 11,tT 12,tT 13,tT 14,tT 15,tT 16,tT 17,tT 18,tT 19,tT 20,tT 21,tT 22,tT 23,tT 24,tT 25,tT 26,tT 27,tT 28,tT 29,tT 30,tT 31,tF 32,tF 33,tT 34,tT 35,tF 36] gY gY qP ?_;have HS:=((Ch.refl (fun k=>(Value.slice A r.sends.length p).ownBlock=some k) (w.alloc (.cells #[a,b,cc,.int .i64 1] 262))).drewN nq).drew
   iterate 32 (refine jc (v:=?_) (by rfl) HS (by rfl) ?_ ?_;rotate_left;(focus (intro wS hS;obtain⟨kc,kf⟩:=hS.cells;go_simp;(try (with_reducible rfl));done));(intro K hK;go_simp;refine hK _ ?_;clear hK K))
   refine gU (by rfl) (by rfl) (fun K hK=>?_);go_simp;refine hK _ _ (Or.inr (HS.alloc _)) ?_;clear hK K;refine gU (by rfl) (by rfl) (fun K hK=>?_);refine jO (d:=iw) 49 rfl Tryz.underlying49 _ 56 jA rfl dc dc rfl (i.below (by repeat (first|exact gM _ _|refine gs ?_ _|refine ja ?_ _|refine Below.drew ?_))).sends ⟨e.time+cc,a,e.to,c,(r.sends.length:Int),b,r.get 1⟩ _ rfl (gL sm) (fun _=>False) rfl (fun _ m=>m.elim) (fun _ m=>m.elim) fT (fun k=>B≤k) (fun _ f=>f) (fun _ m=>m.elim) (fun k f=>by simp at f;omega) ?_;intro Q R s q C;have j:=(HS.alloc _).grown q (fun k f=> .inl f);have n:=lV.grown_sends (i.below (by repeat (first|exact gM _ _|refine gs ?_ _|refine ja ?_ _|refine Below.drew ?_))) q;obtain⟨F,z,rfl,D⟩:=s.shape;simp only[List.length_append,List.length_singleton] at s;have t:=fw n.1 10;have E:=ft n.1 10;simp[jo] at t;refine hK _ _ (Or.inr j) ?_;clear hK K HS;have HS:=j;clear j
   iterate 2 (refine jc (v:=?_) (by rfl) HS (by rfl) ?_ ?_;rotate_left;(focus (intro wS hS;obtain⟨kc,kf⟩:=hS.cells;go_simp;(try (with_reducible rfl));done));(intro K hK;go_simp;refine hK _ ?_;clear hK K))
   refine gU (by rfl) (by rfl) (fun K hK=>?_);go_simp;refine hK _ _ (Or.inl gY) ?_;clear hK K;simp only[iG];go_wp2;go_ret;exact zP (sv:=(Value.slice A r.sends.length p)) o.out n s q HS hB (fun k f=>h.sends.inF f) h.ge rfl rfl rfl
  ·have u:decide (e.time+cc≤40)=false:=ia hle
   have l:jl e c ⟨6,a,b,cc,1⟩ r=(r,0):=by simp[jl,hle]
   have o:=fS l;clear l;go_enter Tryz.func212,Tryz.ntmps212;go_wp2_with fail
   go_quiet (fail)
   go_wp2_with fail;go_ret;exact⟨by rw[o.out];rfl,⟨_,_,by rw[o.out];exact i.below (ja (gM _ _) _)⟩,((Ch.refl _ _).alloc _).drewN _⟩
theorem Fa (g B:Nat) (c:Int) (e:hY) (r:im) (sv ov:Value) (a b cc ee:Int) (w:World) (h:lV w g B c e r sv ov) (hB:B≤w.heap.size) (hr:lA r) (he:i7 e=true) (hns:r.sends.length≤1000) (hno:r.outs.length≤1000) (ha:a=0∨a=1):
  Calls Tryz.prog 213 #[.agg #[a],.pointer (some ⟨g,0,none⟩)] w (oN B g c e r sv ov ⟨7,a,b,cc,ee⟩ w):=by
 have S:=And.intro hr.x0 hr.x1;have T:=And.intro hr.y0 hr.y1;obtain⟨A,n,rfl,R⟩:=h.outs.shape;have j:=h.below (gs (gM _ _) (.cells #[a] 263));have D:=fw j.blk 0;have E:=fw j.blk 1;have F:=fw j.blk 2;have G:=fw j.blk 3;have H:=fw j.blk 9;have t:=fw j.blk 11;simp[jo] at D E F G H t;have O:=ft j.blk 11;have P:=h.outs.type_ne h.blk dc;have Q:=fx h.blk;have J:(Value.slice A r.outs.length n).ownBlock≠some w.heap.size:=fun I=>by have:=h.outs.block_lt I;omega
 have hg':g<w.heap.size+1:=fT;rcases ha with rfl|rfl
 ·go_enter Tryz.func213,Tryz.ntmps213
  go_wp2_with fail;refine gV (fun s=>Ch (fun k=>(Value.slice A r.outs.length n).ownBlock=some k) (w.alloc (.cells #[.int .i64 0] 263)) s) [tT 0,tT 1,tT 2,tT 3,tT 4,tT 5,tT 6,tT 7,tT 8,tT 9,tT 10,tT 11,tT 12,tT 13,tT 14,tT 15,tT 16,tT 17,tT 18,tT 19,tT 20,tT 21,tT 22,tT 23,tT 24,tT 25,tT 26,tT 27,tT 28,tT 29,tT 30,tT 31,tF 32,tF 33,tT 34,tT 35,tF 36] gY gY qP ?_;have HS:=(Ch.refl (fun k=>(Value.slice A r.outs.length n).ownBlock=some k) (w.alloc (.cells #[.int .i64 0] 263))).drew
  iterate 32 (refine jc (v:=?_) (by rfl) HS (by rfl) ?_ ?_;rotate_left;(focus (intro wS hS;obtain⟨kc,kf⟩:=hS.cells;go_simp;(try (with_reducible rfl));done));(intro K hK;go_simp;refine hK _ ?_;clear hK K))
  refine gU (by rfl) (by rfl) (fun K hK=>?_);go_simp;refine hK _ _ (Or.inr (HS.alloc _)) ?_;clear hK K;refine gU (by rfl) (by rfl) (fun K hK=>?_);refine jO (d:=hJ) 37 rfl Tryz.underlying37 _ 40 kz rfl dc dc rfl (j.below (by repeat (first|exact gM _ _|refine gs ?_ _|refine ja ?_ _|refine Below.drew ?_))).outs ⟨e.time,e.to,c,(r.outs.length:Int),r.get 0⟩ _ rfl (gL sm) (fun _=>False) rfl (fun _ l=>l.elim) (fun _ l=>l.elim) fT (fun k=>B≤k) (fun _ f=>f) (fun _ l=>l.elim) (fun k f=>by simp at f;omega) ?_;intro L M p o x;have i:=(HS.alloc _).grown o (fun k f=> .inl f);have m:=lV.grown_outs (j.below (by repeat (first|exact gM _ _|refine gs ?_ _|refine ja ?_ _|refine Below.drew ?_))) o;obtain⟨C,u,rfl,y⟩:=p.shape;simp only[List.length_append,List.length_singleton] at p;have q:=fw m.1 11;have z:=ft m.1 11;simp[jo] at q;refine hK _ _ (Or.inr i) ?_;clear hK K HS;have HS:=i;clear i
  iterate 2 (refine jc (v:=?_) (by rfl) HS (by rfl) ?_ ?_;rotate_left;(focus (intro wS hS;obtain⟨kc,kf⟩:=hS.cells;go_simp;(try (with_reducible rfl));done));(intro K hK;go_simp;refine hK _ ?_;clear hK K))
  refine gU (by rfl) (by rfl) (fun K hK=>?_);go_simp;refine hK _ _ (Or.inl gY) ?_;clear hK K;simp only[iG];go_wp2;go_ret;exact zQ (ov:=(Value.slice A r.outs.length n)) rfl m p o HS hB (fun k f=>h.outs.inF f) h.ge rfl rfl rfl
 ·go_enter Tryz.func213,Tryz.ntmps213
  go_wp2_with fail;refine gV (fun s=>Ch (fun k=>(Value.slice A r.outs.length n).ownBlock=some k) (w.alloc (.cells #[.int .i64 1] 263)) s) [tT 0,tT 1,tT 2,tT 3,tT 4,tT 5,tT 6,tT 7,tT 8,tT 9,tT 10,tT 11,tT 12,tT 13,tT 14,tT 15,tT 16,tT 17,tT 18,tT 19,tT 20,tT 21,tT 22,tT 23,tT 24,tT 25,tT 26,tT 27,tT 28,tT 29,tT 30,tT 31,tF 32,tF 33,tT 34,tT 35,tF 36] gY gY qP ?_;have HS:=(Ch.refl (fun k=>(Value.slice A r.outs.length n).ownBlock=some k) (w.alloc (.cells #[.int .i64 1] 263))).drew
  iterate 32 (refine jc (v:=?_) (by rfl) HS (by rfl) ?_ ?_;rotate_left;(focus (intro wS hS;obtain⟨kc,kf⟩:=hS.cells;go_simp;(try (with_reducible rfl));done));(intro K hK;go_simp;refine hK _ ?_;clear hK K))
  refine gU (by rfl) (by rfl) (fun K hK=>?_);go_simp;refine hK _ _ (Or.inr (HS.alloc _)) ?_;clear hK K;refine gU (by rfl) (by rfl) (fun K hK=>?_);refine jO (d:=hJ) 37 rfl Tryz.underlying37 _ 40 kz rfl dc dc rfl (j.below (by repeat (first|exact gM _ _|refine gs ?_ _|refine ja ?_ _|refine Below.drew ?_))).outs ⟨e.time,e.to,c,(r.outs.length:Int),r.get 1⟩ _ rfl (gL sm) (fun _=>False) rfl (fun _ l=>l.elim) (fun _ l=>l.elim) fT (fun k=>B≤k) (fun _ f=>f) (fun _ l=>l.elim) (fun k f=>by simp at f;omega) ?_;intro L M p o x;have i:=(HS.alloc _).grown o (fun k f=> .inl f);have m:=lV.grown_outs (j.below (by repeat (first|exact gM _ _|refine gs ?_ _|refine ja ?_ _|refine Below.drew ?_))) o;obtain⟨C,u,rfl,y⟩:=p.shape;simp only[List.length_append,List.length_singleton] at p;have q:=fw m.1 11;have z:=ft m.1 11;simp[jo] at q;refine hK _ _ (Or.inr i) ?_;clear hK K HS;have HS:=i;clear i
  iterate 2 (refine jc (v:=?_) (by rfl) HS (by rfl) ?_ ?_;rotate_left;(focus (intro wS hS;obtain⟨kc,kf⟩:=hS.cells;go_simp;(try (with_reducible rfl));done));(intro K hK;go_simp;refine hK _ ?_;clear hK K))
  refine gU (by rfl) (by rfl) (fun K hK=>?_);go_simp;refine hK _ _ (Or.inl gY) ?_;clear hK K;simp only[iG];go_wp2;go_ret;exact zQ (ov:=(Value.slice A r.outs.length n)) rfl m p o HS hB (fun k f=>h.outs.inF f) h.ge rfl rfl rfl
end Go.Proofs.YtlndjfflhegkdaaGreatDoor
