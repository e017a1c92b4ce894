/- Parts of the proof: Map, Do. -/
import Derived.OwnWalk
import Derived.Laws.EntriesVeiled
import Derived.Lib.AppendZeros
import Derived.Maps.Keyed
import Derived.DeepKeys4
import Derived.Test.YtlndjfflhegkdaaGreatDoorQ03
import Derived.Test.YtlndjfflhegkdaaGreatDoorQ04
set_option linter.unusedVariables false
set_option linter.unusedSimpArgs false
set_option linter.unusedSectionVars false
set_option maxHeartbeats 4000000
set_option maxRecDepth 100000
namespace Go.Proofs.YtlndjfflhegkdaaGreatDoor
open Go.RowKit
section
open Go.RowKit Go.Maps
def i64 (x:Int):Prop:= -9223372036854775808≤x∧x≤9223372036854775807
def nF (e:hY):Prop:=i64 e.time∧i64 e.to∧i64 e.from_∧i64 e.count∧i64 e.n∧i64 e.kind∧i64 e.arg
theorem nF.of_ok {e:hY} (h:i7 e=true):nF e:=by
 simp[i7,ib] at h;unfold nF i64;omega
theorem EF:laidOutB Tryz.prog=true:=gY
theorem rL:Keyed Tryz.prog 214:=Keyed.of_law (deep_law_laid EF (m:=5) dc (of_decide_eq_true gY) gY gY)
theorem qh {x:Int} (h:i64 x):(Lit.int .i64 x).wf=true:=by
 unfold Lit.wf;have a:IntKind.i64.min= -9223372036854775808:=by decide
 have b:IntKind.i64.max=9223372036854775807:=by decide
 simp only[a,b,Bool.and_eq_true,decide_eq_true_eq];exact h
theorem xr {e:hY} (h:nF e):∃l,keyOf Tryz.prog 214 (ij e)=some l:=by
 obtain⟨c,d,f,g,i,j,k⟩:=h;have o:=qh c;have p:=qh d;have q:=qh f;have r:=qh g;have s:=qh i;have t:=qh j;have v:=qh k;have w:Tryz.prog.keyType 214=true:=gY;have x:(ij e).formed Tryz.prog 214=true:=gY;have u:=Tryz.underlying214;have u3:=Tryz.underlying3;have a:Tryz.prog.cellsOf 214=7:=gY;have b:Tryz.prog.cellsOf 3=1:=gY;unfold keyOf;rw[u];simp only[w,x,Bool.and_self,if_true];obtain⟨n,m⟩:∃n,Tryz.prog.types.size=n+1:=⟨Tryz.prog.types.size-1,gY⟩;rw[m];unfold ij Program.keyLits;rw[u];simp[Value.cells,a,b,List.range_succ,Program.keyLits,u3,o,p,q,r,s,t,v]
theorem AI {a b:hY} (h:ij a=ij b):a=b:=by
 unfold ij at h;simp at h;obtain⟨c,d,e,f,g,i,j⟩:=h;cases a;cases b;simp_all
def mV:Nat→List hY→List Int→List MapEntry
 |j,y::ys,c::cs=>⟨ij y,.int .i64 c,j⟩::mV (j+1) ys cs
 |_,_,_=>[]
theorem lK:∀(ys:List hY) (cs:List Int) (b j:Nat),ys.length=cs.length→(h:j<ys.length)→(mV b ys cs)[j]? =some ⟨ij ys[j],.int .i64 (cs.getD j 0),b+j⟩
 |y::ys,c::cs,b,0,hl,h=>by simp[mV]
 |y::ys,c::cs,b,j+1,hl,h=>by
  have:=lK ys cs (b+1) j (by simpa using hl) (by simpa using h);simp only[mV,List.getElem?_cons_succ,List.getElem_cons_succ,this];rw[show b+1+j=b+(j+1) by omega];simp[List.getD]
theorem kZ:∀(ys:List hY) (cs:List Int) (b:Nat),ys.length=cs.length→(mV b ys cs).length=ys.length
 | [],_,_,_=>by simp[mV]
 |y::ys,c::cs,b,hl=>by simp[mV,kZ ys cs (b+1) (by simpa using hl)]
theorem AC (ys:List hY) (cs:List Int) (y:hY) (c:Int) (hl:ys.length=cs.length):mV 0 (ys++[y]) (cs++[c])=mV 0 ys cs++[⟨ij y,.int .i64 c,ys.length⟩]:=by
 refine List.ext_getElem? fun j=>?_;rcases Nat.lt_trichotomy j ys.length with h|h|h
 ·rw[lK _ _ 0 j (by simp[hl]) (by simp;omega),List.getElem?_append_left (by rw[kZ _ _ _ hl];exact h),lK _ _ 0 j hl h]
  simp[List.getElem_append_left h,List.getD,List.getElem?_append_left (hl▸h)]
 ·subst h
  rw[lK _ _ 0 _ (by simp[hl]) sm,List.getElem?_append_right (by rw[kZ _ _ _ hl];exact jn _)];simp[kZ _ _ _ hl,List.getD,hl]
 ·rw[List.getElem?_eq_none (by rw[kZ _ _ _ (by simp[hl])];simp;omega),List.getElem?_eq_none (by simp[kZ _ _ _ hl];omega)]
theorem BU (ys:List hY) (cs:List Int) (j:Nat) (c:Int) (hl:ys.length=cs.length) (hj:j<ys.length):mV 0 ys (cs.set j c)=(mV 0 ys cs).set j ⟨ij ys[j],.int .i64 c,j⟩:=by
 refine List.ext_getElem? fun i=>?_;rcases Nat.lt_or_ge i ys.length with h|h
 ·rw[lK _ _ 0 i (by simp[hl]) h,List.getElem?_set]
  by_cases hij:j=i
  ·subst hij
   rw[if_pos rfl,if_pos (by rw[kZ _ _ _ hl];exact hj)];simp[List.getD,hl▸hj]
  ·rw[if_neg hij,lK _ _ 0 i hl h]
   simp[List.getD,List.getElem?_set_ne hij]
 ·rw[List.getElem?_eq_none (by rw[kZ _ _ _ (by simp[hl])];exact h),List.getElem?_eq_none (by rw[List.length_set,kZ _ _ _ hl];exact h)]
structure lP (w:World) (B:Nat) (ys:List hY) (cs:List Int):Prop where
 blk:w.heap[B]? =some (.map (mV 0 ys cs).toArray ys.length)
 len:ys.length=cs.length
 nodup:ys.Nodup
 wf:∀y∈ys,nF y
theorem lP.keys {w:World} {B:Nat} {ys:List hY} {cs:List Int} (h:lP w B ys cs):∀e∈mV 0 ys cs,∃l,keyOf Tryz.prog 214 e.key=some l:=fun e he=>by
 obtain⟨j,hj,rfl⟩:=List.getElem_of_mem he;have hj':j<ys.length:=by rw[←kZ ys cs 0 h.len];exact hj
 have:=lK ys cs 0 j h.len hj';rw[pE hj] at this;rw[Option.some.inj this];exact xr (h.wf _ (List.getElem_mem hj'))
theorem lP.find {w:World} {B:Nat} {ys:List hY} {cs:List Int} (h:lP w B ys cs) (w':World) {x:hY} (hx:nF x):
  (x ∉ ys∧(Instr.findKey 214 (ij x) (mV 0 ys cs)).run Tryz.prog w' = .ok none w')∨(∃(j:Nat) (hj:j<ys.length),ys[j]=x∧(Instr.findKey 214 (ij x) (mV 0 ys cs)).run Tryz.prog w' = .ok (some (j,.int .i64 (cs.getD j 0))) w'):=by
 obtain⟨l,g⟩:=xr hx;rcases rL.find w' g (mV 0 ys cs) h.keys with ⟨b,a⟩|⟨j,e,b,a,c⟩
 ·refine .inl ⟨fun i=>?_,b⟩
  obtain⟨j,hj,rfl⟩:=List.getElem_of_mem i;exact a _ (List.mem_of_getElem? (lK ys cs 0 j h.len hj)) rfl
 ·have hj:j<ys.length:=by rw[←kZ ys cs 0 h.len];exact(List.getElem?_eq_some_iff.1 a).1
  have d:=lK ys cs 0 j h.len hj;rw[a] at d;have f:=Option.some.inj d;refine .inr ⟨j,hj,?_,?_⟩
  ·rw[f] at c;exact AI c
  ·rw[b,f]
def tl (ys:List hY) (cs:List Int) (x:hY):Int:=cs.getD (ys.idxOf x) 0
theorem sb {ys:List hY} {cs:List Int} (hn:ys.Nodup) {j:Nat} (hj:j<ys.length):tl ys cs ys[j]=cs.getD j 0:=by
 unfold tl;rw[hn.idxOf_getElem]
theorem wY {ys:List hY} {cs:List Int} (hl:ys.length=cs.length) {x:hY} (hx:x ∉ ys):tl ys cs x=0:=by
 unfold tl;rw[List.idxOf_eq_length hx,hl];simp[List.getD]
theorem vE {ys:List hY} {x:hY} (hn:(ys++[x]).Nodup) (cs:List Int):tl (ys++[x]) cs x=cs.getD ys.length 0:=by
 have h:=sb (cs:=cs) hn (j:=ys.length) sm;simpa using h
theorem lP.lookup {w:World} {B:Nat} {ys:List hY} {cs:List Int} (h:lP w B ys cs) {x:hY} (hx:nF x):
  (Instr.lookup 212 (.map (some B)) (ij x) false).run Tryz.prog w= .ok (.int .i64 (tl ys cs x)) w:=by
 obtain⟨l,f⟩:=xr hx;have c:=Tryz.underlying212;have d:(zeroValue 3).run Tryz.prog w= .ok (.int .i64 0) w:=gY;have b:=rL.check w (mV 0 ys cs).isEmpty f;unfold Instr.lookup;rcases h.find w hx with ⟨g,a⟩|⟨j,e,rfl,a⟩
 ·simp[run_underlying c,Go.getObj,Sem.run,h.blk,b,a,d,wY h.len g]
 ·simp[run_underlying c,Go.getObj,Sem.run,h.blk,b,a,d,sb h.nodup e]
def ln (w:World) (B:Nat) (o:Obj):World:= {w with heap:=w.heap.setIfInBounds B o}
theorem xG {w:World} {B:Nat} {o:Obj} (h:w.heap[B]? =some o):ln w B o=w:=by
 unfold ln;have:w.heap.setIfInBounds B o=w.heap:=by
  apply Array.ext_getElem?;intro k;rw[Array.getElem?_setIfInBounds];split
  ·rename_i hk
   subst hk;have:=(Array.getElem?_eq_some_iff.1 h).1;rw[if_pos this];exact h.symm
  ·rfl
 rw[this]
theorem rn {w:World} {B:Nat} {o o':Obj} (h:w.heap[B]? =some o'):(ln w B o).heap[B]? =some o:=by
 have:=(Array.getElem?_eq_some_iff.1 h).1;simp[ln,this]
theorem ro (w:World) (B:Nat) (o:Obj):Ch (fun k=>k=B) w (ln w B o):=
 ⟨rfl,rfl,rfl,by simp[ln],fun k hk hn=>by
  have hne:¬B=k:=fun e=>hn e.symm;simp[ln,Array.getElem?_setIfInBounds,hne]⟩
theorem lP.entry {w:World} {B:Nat} {ys:List hY} {cs:List Int} (h:lP w B ys cs) {x:hY} (hx:nF x):
  (x∈ys∧∃(j:Nat) (hj:j<ys.length),ys[j]=x∧(Instr.mapEntry 212 (.map (some B)) (ij x)).run Tryz.prog w= .ok (.tuple #[.int .i64 (cs.getD j 0),.int .i64 j]) w)∨
  (x ∉ ys∧∃w',(Instr.mapEntry 212 (.map (some B)) (ij x)).run Tryz.prog w= .ok (.tuple #[.int .i64 0,ys.length]) w'∧lP w' B (ys++[x]) (cs++[0])∧Ch (fun k=>k=B) w w'):=by
 obtain⟨l,g⟩:=xr hx;have n:=Tryz.underlying212;have p:(zeroValue 3).run Tryz.prog w= .ok (.int .i64 0) w:=gY;have d:=rL.check w false g;have q:=(Array.getElem?_eq_some_iff.1 h.blk).1;unfold Instr.mapEntry;rcases h.find w hx with ⟨m,c⟩|⟨j,hj,rfl,c⟩
 ·refine .inr ⟨m,ln w B (.map (mV 0 (ys++[x]) (cs++[0])).toArray (ys.length+1)),?_,⟨?_,by simp[h.len],?_,?_⟩,ro _ _ _⟩
  ·simp[run_underlying n,Go.getObj,Go.setObj,Sem.run,h.blk,d,c,p,goInt,ln,AC ys cs x 0 h.len]
  ·rw[rn h.blk];simp
  ·exact List.nodup_append.2 ⟨h.nodup,by simp,by simp;intro a ha e;subst e;exact m ha⟩
  ·intro y b
   rcases List.mem_append.1 b with b|b
   ·exact h.wf y b
   ·obtain rfl:y=x:=by simpa using b
    exact hx
 ·refine .inl ⟨List.getElem_mem hj,j,hj,rfl,?_⟩
  have f:=lK ys cs 0 j h.len hj;have o:=rL.stays w g;have i:(mV 0 ys cs).toArray.modify j (fun e=> {e with key:=ij ys[j]})=(mV 0 ys cs).toArray:=by
   apply Array.ext_getElem?;intro k;rw[Array.getElem?_modify];split
   ·rename_i hk
    subst hk;simp[f]
   ·rfl
  simp[run_underlying n,Go.getObj,Go.setObj,Sem.run,h.blk,d,c,goInt,f,o];simp at i;rw[i];exact xG h.blk
theorem lP.store {w:World} {B:Nat} {ys:List hY} {cs:List Int} (h:lP w B ys cs) (j:Nat) (hj:j<ys.length) (c:Int) (mt:TypeId):
  ∃w',(Instr.entryStore mt (.map (some B)) (.int .i64 j) (.int .i64 c)).run Tryz.prog w= .ok () w'∧lP w' B ys (cs.set j c)∧Ch (fun k=>k=B) w w':=by
 have g:=(Array.getElem?_eq_some_iff.1 h.blk).1;have b:=lK ys cs 0 j h.len hj;have a:=kZ ys cs 0 h.len;have d:(mV 0 ys cs).findIdx? (fun e=>(e.born:Int)==(j:Int))=some j:=by
  rw[List.findIdx?_eq_some_iff_getElem];refine⟨by rw[a];exact hj,?_,fun i l=>?_⟩
  ·have:=(List.getElem?_eq_some_iff.1 b).2
   rw[this];simp
  ·have:=(List.getElem?_eq_some_iff.1 (lK ys cs 0 i h.len fT)).2
   rw[this];simp;omega
 have f:(mV 0 ys cs).modify j (fun e=> {e with val:= .int .i64 c})=mV 0 ys (cs.set j c):=by
  rw[BU ys cs j c h.len hj];apply List.ext_getElem?;intro k;rw[List.getElem?_modify,List.getElem?_set];split
  ·rename_i hk
   subst hk;rw[if_pos (by rw[a];exact hj),b];simp
  ·simp
 refine⟨ln w B (.map (mV 0 ys (cs.set j c)).toArray ys.length),?_,⟨rn h.blk,by simp[h.len],h.nodup,h.wf⟩,ro _ _ _⟩;unfold Instr.entryStore;simp[Go.getObj,Go.setObj,Sem.run,h.blk,asInt,asIntOf,d,f,ln]
end
def jo (c:Int) (e:hY) (r:im) (sv ov:Value):Array Value:=
 #[.int .i64 r.x,.int .i64 r.y,.int .i64 e.time,.int .i64 e.to,.int .i64 e.from_,.int .i64 e.count,.int .i64 e.n,.int .i64 e.kind,.int .i64 e.arg,.int .i64 c,sv,ov]
structure lV (w:World) (g B:Nat) (c:Int) (e:hY) (r:im) (sv ov:Value):Prop where
 blk:w.heap[g]? =some (.cells (jo c e r sv ov) 202 (0,0))
 ge:B≤g
 sends:Ow iw 91 w (fun k=>B≤k) sv r.sends
 outs:Ow hJ 101 w (fun k=>B≤k) ov r.outs
theorem lV.set {w:World} {g B:Nat} {c:Int} {e:hY} {r r':im} {sv ov:Value} (h:lV w g B c e r sv ov) (i:Nat) (u:Value) (hc:(jo c e r sv ov).setIfInBounds i u=jo c e r' sv ov) (hs:r'.sends=r.sends) (ho:r'.outs=r.outs):lV (w.setCell ⟨g,i,none⟩ u) g B c e r' sv ov:=by
 refine⟨by rw[gJ h.blk,hc],h.ge,?_,?_⟩
 ·rw[hs]
  exact(h.sends.tight.keep (fun k a f=>Below.heap_setCell _ _ _ _ (fun b=>h.sends.type_ne h.blk dc (by have d:k=g:=b;subst d;exact a)))).mono (fun k a=>h.sends.inF a)
 ·rw[ho]
  exact(h.outs.tight.keep (fun k a f=>Below.heap_setCell _ _ _ _ (fun b=>h.outs.type_ne h.blk dc (by have d:k=g:=b;subst d;exact a)))).mono (fun k a=>h.outs.inF a)
theorem lV.below {w w':World} {g B:Nat} {c:Int} {e:hY} {r:im} {sv ov:Value} (h:lV w g B c e r sv ov) (hb:Below w.heap.size w w'):lV w' g B c e r sv ov:=
 ⟨(hb.block g (fx h.blk)).trans h.blk,h.ge,h.sends.below hb,h.outs.below hb⟩
def oN (B g:Nat) (c:Int) (e:hY) (r:im) (sv ov:Value) (o:lJ) (w:World) (q:Ending) (w':World):Prop:=
 q= .returned (.int .i64 (jl e c o r).2)∧(∃sv ov,lV w' g B c e (jl e c o r).1 sv ov)∧Ch (fun k=>k=g∨sv.ownBlock=some k∨ov.ownBlock=some k) w w'
theorem lV.grown_sends {w w1:World} {g B:Nat} {c:Int} {e:hY} {r:im} {sv ov:Value} (h:lV w g B c e r sv ov) (hG:w.grownBy w1 sv.ownBlock):
  w1.heap[g]? =some (.cells (jo c e r sv ov) 202 (0,0))∧Ow hJ 101 w1 (fun k=>B≤k) ov r.outs:=
 ⟨(hG.block g (fx h.blk) (fun e' =>h.sends.type_ne h.blk dc e'.symm)).trans h.blk,
  (h.outs.tight.keep (fun k hk hlt=>hG.block k hlt (fun e' =>h.outs.apart h.sends dc k hk e'.symm))).mono (fun k hk=>h.outs.inF hk)⟩
theorem lV.grown_outs {w w1:World} {g B:Nat} {c:Int} {e:hY} {r:im} {sv ov:Value} (h:lV w g B c e r sv ov) (hG:w.grownBy w1 ov.ownBlock):
  w1.heap[g]? =some (.cells (jo c e r sv ov) 202 (0,0))∧Ow iw 91 w1 (fun k=>B≤k) sv r.sends:=
 ⟨(hG.block g (fx h.blk) (fun e' =>h.outs.type_ne h.blk dc e'.symm)).trans h.blk,
  (h.sends.tight.keep (fun k hk hlt=>hG.block k hlt (fun e' =>h.sends.apart h.outs dc k hk e'.symm))).mono (fun k hk=>h.sends.inF hk)⟩
theorem nS (g B:Nat) (c:Int) (e:hY) (r:im) (sv ov:Value) (k n:Int) (w:World) (h:lV w g B c e r sv ov) (hk:k=0∨k=1) (hn:0≤n):
  Calls Tryz.prog 206 #[.pointer (some ⟨g,0,none⟩),.int .i64 k,.int .i64 n] w fun q w' =>q= .returned (.tuple #[])∧lV w' g B c e (r.put k n) sv ov∧Ch (fun k=>k=g∨sv.ownBlock=some k∨ov.ownBlock=some k) w w':=by
 have a:=fw h.blk 0;have b:=fw h.blk 1;simp[jo] at a b;have d:=ft h.blk 0;have f:=ft h.blk 1;rcases hk with rfl|rfl
 ·go_enter Tryz.func206,Tryz.ntmps206
  go_wp2
  go_end0
  exact⟨rfl,h.set 0 _ rfl rfl rfl,Ch.setCell (p:=⟨g,0,none⟩) (Ch.refl _ _) (Or.inl (Or.inl rfl)) _⟩
 ·go_enter Tryz.func206,Tryz.ntmps206
  go_wp2
  go_end0
  exact⟨rfl,h.set 1 _ rfl rfl rfl,Ch.setCell (p:=⟨g,1,none⟩) (Ch.refl _ _) (Or.inl (Or.inl rfl)) _⟩
theorem Cz (g B:Nat) (c:Int) (e:hY) (r:im) (sv ov:Value) (a b cc ee:Int) (w:World) (h:lV w g B c e r sv ov) (hB:B≤w.heap.size) (hr:lA r) (he:i7 e=true) (hns:r.sends.length≤1000) (hno:r.outs.length≤1000) (ha:a=0∨a=1) (hb0:0≤b∧b≤999):
  Calls Tryz.prog 208 #[.agg #[a,b,.bool false],.pointer (some ⟨g,0,none⟩)] w (oN B g c e r sv ov ⟨3,a,b,cc,ee⟩ w):=by
 have o:=And.intro hr.x0 hr.x1;have p:=And.intro hr.y0 hr.y1;have m:=hb0.1;have n:=hb0.2;have d:=h.below (gs (gM _ _) (.cells #[a,b,.bool false] 254));have j:=fw d.blk 0;have k:=fw d.blk 1;simp[jo] at j k;rcases ha with rfl|rfl
 ·go_enter Tryz.func208,Tryz.ntmps208
  go_wp2_with fail;refine iR 13 gY gY ?_;simp only[List.take_succ_cons,List.take_zero,List.drop_succ_cons,List.drop_zero]
  iterate 13 still_step
  refine wpStill_nil ?_;go_wp2_with (go_at_call 206;refine(nS g B c e r sv ov _ _ _ (d.below (gM _ _).drew) sm fT).mono ?_;rintro q l ⟨rfl,f,i⟩);go_ret;exact⟨rfl,⟨sv,ov,f⟩,(((Ch.refl _ _).alloc _).drew).trans i⟩
 ·go_enter Tryz.func208,Tryz.ntmps208
  go_wp2_with fail;refine iR 13 gY gY ?_;simp only[List.take_succ_cons,List.take_zero,List.drop_succ_cons,List.drop_zero]
  iterate 13 still_step
  refine wpStill_nil ?_;go_wp2_with (go_at_call 206;refine(nS g B c e r sv ov _ _ _ (d.below (gM _ _).drew) sm fT).mono ?_;rintro q l ⟨rfl,f,i⟩);go_ret;exact⟨rfl,⟨sv,ov,f⟩,(((Ch.refl _ _).alloc _).drew).trans i⟩
theorem EE (g B:Nat) (c:Int) (e:hY) (r:im) (sv ov:Value) (a b cc ee:Int) (w:World) (h:lV w g B c e r sv ov) (hB:B≤w.heap.size) (hr:lA r) (he:i7 e=true) (hns:r.sends.length≤1000) (hno:r.outs.length≤1000) (ha:a=0∨a=1) (hb0:b=0∨b=1):
  Calls Tryz.prog 209 #[.agg #[a,b],.pointer (some ⟨g,0,none⟩)] w (oN B g c e r sv ov ⟨2,a,b,cc,ee⟩ w):=by
 have m:=And.intro hr.x0 hr.x1;have n:=And.intro hr.y0 hr.y1;have i:=h.below (gs (gM _ _) (.cells #[a,b] 256));have k:=fw i.blk 0;have l:=fw i.blk 1;simp[jo] at k l;rcases ha with rfl|rfl<;>rcases hb0 with rfl|rfl
 ·go_enter Tryz.func209,Tryz.ntmps209
  go_wp2_with fail;refine iR 18 gY gY ?_;simp only[List.take_succ_cons,List.take_zero,List.drop_succ_cons,List.drop_zero]
  iterate 18 still_step
  refine wpStill_nil ?_;go_wp2_with (go_at_call 206;refine(nS g B c e r sv ov _ _ _ (i.below (gM _ _).drew) sm fT).mono ?_;rintro q j ⟨rfl,d,f⟩);go_ret;exact⟨rfl,⟨sv,ov,d⟩,(((Ch.refl _ _).alloc _).drew).trans f⟩
 ·go_enter Tryz.func209,Tryz.ntmps209
  go_wp2_with fail;refine iR 18 gY gY ?_;simp only[List.take_succ_cons,List.take_zero,List.drop_succ_cons,List.drop_zero]
  iterate 18 still_step
  refine wpStill_nil ?_;go_wp2_with (go_at_call 206;refine(nS g B c e r sv ov _ _ _ (i.below (gM _ _).drew) sm fT).mono ?_;rintro q j ⟨rfl,d,f⟩);go_ret;exact⟨rfl,⟨sv,ov,d⟩,(((Ch.refl _ _).alloc _).drew).trans f⟩
 ·go_enter Tryz.func209,Tryz.ntmps209
  go_wp2_with fail;refine iR 18 gY gY ?_;simp only[List.take_succ_cons,List.take_zero,List.drop_succ_cons,List.drop_zero]
  iterate 18 still_step
  refine wpStill_nil ?_;go_wp2_with (go_at_call 206;refine(nS g B c e r sv ov _ _ _ (i.below (gM _ _).drew) sm fT).mono ?_;rintro q j ⟨rfl,d,f⟩);go_ret;exact⟨rfl,⟨sv,ov,d⟩,(((Ch.refl _ _).alloc _).drew).trans f⟩
 ·go_enter Tryz.func209,Tryz.ntmps209
  go_wp2_with fail;refine iR 18 gY gY ?_;simp only[List.take_succ_cons,List.take_zero,List.drop_succ_cons,List.drop_zero]
  iterate 18 still_step
  refine wpStill_nil ?_;go_wp2_with (go_at_call 206;refine(nS g B c e r sv ov _ _ _ (i.below (gM _ _).drew) sm fT).mono ?_;rintro q j ⟨rfl,d,f⟩);go_ret;exact⟨rfl,⟨sv,ov,d⟩,(((Ch.refl _ _).alloc _).drew).trans f⟩
theorem ES (g B:Nat) (c:Int) (e:hY) (r:im) (sv ov:Value) (a b cc ee:Int) (w:World) (h:lV w g B c e r sv ov) (hB:B≤w.heap.size) (hr:lA r) (he:i7 e=true) (hns:r.sends.length≤1000) (hno:r.outs.length≤1000) (ha:a=0∨a=1):
  Calls Tryz.prog 210 #[.agg #[a],.pointer (some ⟨g,0,none⟩)] w (oN B g c e r sv ov ⟨4,a,b,cc,ee⟩ w):=by
 have m:=And.intro hr.x0 hr.x1;have n:=And.intro hr.y0 hr.y1;simp[i7,ib] at he;have l:=he.2.1;clear he;have i:=h.below (gs (gM _ _) (.cells #[a] 258));have j:=fw i.blk 8;simp[jo] at j;rcases ha with rfl|rfl
 ·go_enter Tryz.func210,Tryz.ntmps210
  go_wp2_with fail;refine iR 8 gY gY ?_;simp only[List.take_succ_cons,List.take_zero,List.drop_succ_cons,List.drop_zero]
  iterate 8 still_step
  refine wpStill_nil ?_;go_wp2_with (go_at_call 206;refine(nS g B c e r sv ov _ _ _ (i.below (gM _ _).drew) sm fT).mono ?_;rintro q k ⟨rfl,d,f⟩);go_ret;exact⟨rfl,⟨sv,ov,d⟩,(((Ch.refl _ _).alloc _).drew).trans f⟩
 ·go_enter Tryz.func210,Tryz.ntmps210
  go_wp2_with fail;refine iR 8 gY gY ?_;simp only[List.take_succ_cons,List.take_zero,List.drop_succ_cons,List.drop_zero]
  iterate 8 still_step
  refine wpStill_nil ?_;go_wp2_with (go_at_call 206;refine(nS g B c e r sv ov _ _ _ (i.below (gM _ _).drew) sm fT).mono ?_;rintro q k ⟨rfl,d,f⟩);go_ret;exact⟨rfl,⟨sv,ov,d⟩,(((Ch.refl _ _).alloc _).drew).trans f⟩
theorem EH (g B:Nat) (c:Int) (e:hY) (r:im) (sv ov:Value) (a b cc ee:Int) (w:World) (h:lV w g B c e r sv ov) (hB:B≤w.heap.size) (hr:lA r) (he:i7 e=true) (hns:r.sends.length≤1000) (hno:r.outs.length≤1000) (ha:a=0∨a=1):
  Calls Tryz.prog 211 #[.agg #[a,b,cc],.pointer (some ⟨g,0,none⟩)] w (oN B g c e r sv ov ⟨5,a,b,cc,ee⟩ w):=by
 have m:=And.intro hr.x0 hr.x1;have n:=And.intro hr.y0 hr.y1;have i:=h.below (gs (gM _ _) (.cells #[a,b,cc] 260));have k:=fw i.blk 0;have l:=fw i.blk 1;simp[jo] at k l;rcases ha with rfl|rfl
 ·by_cases hlt:r.get 0<b
  ·have f:jl e c ⟨5,0,b,cc,ee⟩ r=(r,cc):=by simp[jl,hlt]
   have j:decide (r.x<b)=true:=iW hlt;have d:=fS f;clear f hlt;go_enter Tryz.func211,Tryz.ntmps211;go_wp2_with fail
   go_quiet (fail)
   go_wp2;go_ret;exact⟨by rw[d.out];rfl,⟨sv,ov,by rw[d.out];exact i.below (ja (gM _ _) _)⟩,((Ch.refl _ _).alloc _).drewN _⟩
  ·have f:jl e c ⟨5,0,b,cc,ee⟩ r=(r,0):=by simp[jl,hlt]
   have j:decide (r.x<b)=false:=ia hlt;have d:=fS f;clear f hlt;go_enter Tryz.func211,Tryz.ntmps211;go_wp2_with fail
   go_quiet (fail)
   go_wp2;go_ret;exact⟨by rw[d.out];rfl,⟨sv,ov,by rw[d.out];exact i.below (ja (gM _ _) _)⟩,((Ch.refl _ _).alloc _).drewN _⟩
 ·by_cases hlt:r.get 1<b
  ·have f:jl e c ⟨5,1,b,cc,ee⟩ r=(r,cc):=by simp[jl,hlt]
   have j:decide (r.y<b)=true:=iW hlt;have d:=fS f;clear f hlt;go_enter Tryz.func211,Tryz.ntmps211;go_wp2_with fail
   go_quiet (fail)
   go_wp2;go_ret;exact⟨by rw[d.out];rfl,⟨sv,ov,by rw[d.out];exact i.below (ja (gM _ _) _)⟩,((Ch.refl _ _).alloc _).drewN _⟩
  ·have f:jl e c ⟨5,1,b,cc,ee⟩ r=(r,0):=by simp[jl,hlt]
   have j:decide (r.y<b)=false:=ia hlt;have d:=fS f;clear f hlt;go_enter Tryz.func211,Tryz.ntmps211;go_wp2_with fail
   go_quiet (fail)
   go_wp2;go_ret;exact⟨by rw[d.out];rfl,⟨sv,ov,by rw[d.out];exact i.below (ja (gM _ _) _)⟩,((Ch.refl _ _).alloc _).drewN _⟩
end Go.Proofs.YtlndjfflhegkdaaGreatDoor
