/- Parts of the proof: Nd4, Nf1, Nf2, Ezi. -/
import Derived.Test.YtgilllnjhahkfaaGreatQ12
import Derived.Test.YtgilllnjhahkfaaGreatQ21
set_option linter.unusedVariables false
set_option linter.unusedSimpArgs false
set_option linter.unusedSectionVars false
set_option maxHeartbeats 4000000
namespace Go.Proofs.YtgilllnjhahkfaaGreat
open Go.RowKit
section
structure jE (n:Nat) where
 cs:List Value
 hl:cs.length=n
 ho:∀u∈cs,u.oneCell' =true
def jN (n:Nat):Ty (jE n):=k7 (fun r=>r.cs) n (fun r=>r.hl) (fun r=>r.ho)
def jU {α:Type} (n:Nat) (d:Ty α) (w:World) (B:Nat→Prop) (rs:List (jE n)) (xs:List α):Prop:=
 rs.length=xs.length∧∀(j:Nat) (x:α),xs[j]? =some x→∃r,rs[j]? =some r∧d.rel w B x r.cs
section
variable {α:Type} {n:Nat} {d:Ty α} {w w':World} {B B' F:Nat→Prop} {rs:List (jE n)} {xs:List α}
theorem jU.nil:jU n d w B [] []:=⟨rfl,fun j x hj=>by simp at hj⟩
theorem jU.snoc (h:jU n d w B rs xs) (x:α) (r:jE n) (hr:d.rel w B x r.cs):jU n d w B (rs++[r]) (xs++[x]):=by
 refine⟨by simp[h.1],fun j y a=>?_⟩;by_cases hl:j<xs.length
 ·rw[List.getElem?_append_left hl] at a
  rw[List.getElem?_append_left (by rw[h.1];exact hl)];exact h.2 j y a
 ·rw[List.getElem?_append_right gO] at a
  rw[List.getElem?_append_right (by rw[h.1];omega),h.1];have b:j-xs.length=0:=by
   have:=(List.getElem?_eq_some_iff.1 a).1;simpa using this
  rw[b] at a ⊢;cases a;exact⟨r,rfl,hr⟩
theorem jU.set (h:jU n d w B rs xs) (j:Nat) (x:α) (r:jE n) (hr:d.rel w B x r.cs):jU n d w B (rs.set j r) (xs.set j x):=by
 refine⟨by simp[h.1],fun i y a=>?_⟩;by_cases hij:j=i
 ·subst hij
  have b:j<xs.length:=by simpa using (List.getElem?_eq_some_iff.1 a).1
  rw[List.getElem?_set_self b] at a;cases a;exact⟨r,List.getElem?_set_self (by rw[h.1];exact b),hr⟩
 ·rw[List.getElem?_set_ne hij] at a
  rw[List.getElem?_set_ne hij];exact h.2 i y a
theorem jU.keep (h:jU n d w B rs xs) (hm:∀k,B k→k<w.heap.size→w'.heap[k]? =w.heap[k]?):jU n d w' B rs xs:=
 ⟨h.1,fun j x hj=>by
  obtain⟨r,h1,h2⟩:=h.2 j x hj;exact⟨r,h1,Ty.keep h2 hm⟩⟩
theorem jU.mono (h:jU n d w B rs xs) (hB:∀k,B k→B' k):jU n d w B' rs xs:=
 ⟨h.1,fun j x hj=>by
  obtain⟨r,h1,h2⟩:=h.2 j x hj;exact⟨r,h1,d.mono hB h2⟩⟩
theorem jU.below (h:jU n d w B rs xs) (hb:Below w.heap.size w w'):jU n d w' B rs xs:=h.keep fun k _ hk=>hb.block k hk
theorem jU.ch {S:Nat→Prop} (h:jU n d w B rs xs) (hc:Ch S w w') (hS:∀k,B k→¬S k):jU n d w' B rs xs:=h.keep fun k hk hlt=>hc.block k hlt (hS k hk)
theorem jU.rd {v:Value} {e:TypeId} (h:jU n d w B rs xs) (hn:d.sz=n) (hO:Ow (jN n) e w F v rs):Rd d w (fun k=>F k∨B k) v xs:=by
 obtain⟨A,c,rfl,m,p,q⟩:=hO.rd;refine⟨A,c,by rw[h.1],by rw[←h.1];exact m,by rw[←h.1];exact p,fun C=>?_⟩;obtain⟨b,o,rfl,hF,a,s⟩:=q (by rw[h.1];exact C);refine⟨b,o,rfl,.inl hF,a,fun j x y=>?_⟩;obtain⟨r,D,G⟩:=h.2 j x y;obtain⟨f,g,E⟩:=s j r D;have l:f=r.cs:=g;subst l;exact⟨r.cs,d.mono (fun k z=> .inr z) G,fun i u t=>by rw[hn];exact E i u t⟩
end
def GO (v:Value) (h:v.oneCell' =true):jE 1:=⟨[v],rfl,fun u hu=>by simp at hu;subst hu;exact h⟩
def GF:Ty (List iq) where
 sz:=1
 rel:=fun w F x cs=>∃v,cs=[v]∧Rd jm w F v x
 len:=fun ⟨v,h,_⟩=>by rw[h];rfl
 one:=fun ⟨v,h,h1⟩ u hu=>by
  obtain⟨A,c,rfl,_⟩:=h1;rw[h] at hu;simp only[List.mem_cons,List.not_mem_nil,or_false] at hu;subst hu;rfl
 mono:=fun hF ⟨v,h,h1⟩=>⟨v,h,h1.mono hF⟩
 move:=fun hm ⟨v,h,h1⟩=>⟨v,h,h1.move hm⟩
 bound:=fun ⟨v,h,h1⟩=>⟨v,h,h1.bound⟩
def Gq (l:hZ) (v:Value) (h:v.oneCell' =true):jE 5:=⟨mz l v,rfl,fun u hu=>by
 simp only[mz,List.mem_cons,List.not_mem_nil,or_false] at hu;rcases hu with rfl|rfl|rfl|rfl|rfl<;>first|rfl|assumption⟩
def Gr (x:jl) (v:Value) (h:v.oneCell' =true):jE 3:=⟨mA x v,rfl,fun u hu=>by
 simp only[mA,List.mem_cons,List.not_mem_nil,or_false] at hu;rcases hu with rfl|rfl|rfl<;>first|rfl|assumption⟩
end
set_option maxRecDepth 100000
theorem lz {w W w1:World} {B:Nat} {v:Value} (hb:Below B w W) (hG:W.grownBy w1 v.ownBlock) (hv:∀k,v.ownBlock=some k→B≤k) (hB:B≤W.heap.size):Below B w w1:=
 hb.trans ⟨hG.os,hG.tape,hG.output,hG.size,fun k hk=>hG.block k gO (fun e=>by have:=hv k e.symm;omega)⟩
theorem nd (w:World):Calls Tryz.prog 24 #[] w fun q w' =>q= .returned (.int .i64 9999)∧w' =w:=by
 go_enter Tryz.func24,Tryz.ntmps24;go_wp2_with fail;go_ret;exact⟨rfl,rfl⟩
theorem DR (a:Int) (w:World):Calls Tryz.prog 180 #[a] w fun e w' =>e= .returned (.bool (i2 a 0 2))∧w' =w:=by
 go_enter Tryz.func180,Tryz.ntmps180;go_wp2_with (first|(go_at_call 153;refine(j6 _ _ _ _).mono ?_;rintro e w' ⟨rfl,rfl⟩));go_ret;exact⟨rfl,rfl⟩
theorem sx (p:Int) (w:World):Calls Tryz.prog 140 #[p] w fun e w' =>e= .returned (.int .i64 (iE p))∧w' =w:=by
 go_enter Tryz.func140,Tryz.ntmps140;go_wp2_with fail;refine(kT p _).mono ?_;rintro e g ⟨b,j⟩;subst g;cases h:i2 p 0 3
 ·rw[h] at b
  subst b;have a:=gP (pA h);clear h;apply_assumption;go_wp2_with fail;go_ret;exact⟨by rw[a.out];rfl,rfl⟩
 ·rw[h] at b
  subst b;have a:=gP (tA h);have f:0≤p∧p≤3:=by simpa [i2] using h
  have d:p.tmod 3=p % 3:=Int.tmod_eq_emod_of_nonneg f.1;have i:IntKind.i64.wrap (p % 3)=p % 3:=IntWalk.i64_in _ gO;have c:=gP d;clear h;apply_assumption;go_wp2_with fail;go_ret;exact⟨by first|(rw[a.out];rfl)|(rw[a.out,←c.out];rfl),rfl⟩
theorem mQ (p:Int) (w:World):Calls Tryz.prog 38 #[p] w fun e w' =>e= .returned (.int .i64 (iE p))∧w' =w:=by
 go_enter Tryz.func38,Tryz.ntmps38;go_wp2_with fail;refine(mE p _).mono ?_;rintro e g ⟨b,j⟩;subst g;cases h:i2 p 0 3
 ·rw[h] at b
  subst b;have a:=gP (pA h);clear h;apply_assumption;go_wp2_with fail;go_ret;exact⟨by rw[a.out];rfl,rfl⟩
 ·rw[h] at b
  subst b;have a:=gP (tA h);have f:0≤p∧p≤3:=by simpa [i2] using h
  have d:p.tmod 3=p % 3:=Int.tmod_eq_emod_of_nonneg f.1;have i:IntKind.i64.wrap (p % 3)=p % 3:=IntWalk.i64_in _ gO;have c:=gP d;clear h;apply_assumption;go_wp2_with fail;go_ret;exact⟨by first|(rw[a.out];rfl)|(rw[a.out,←c.out];rfl),rfl⟩
def wJ (p:Int):jE 5:=⟨[.int .i64 p,.int .i64 0,.int .i64 0,.int .i64 0,.slice none 0 0],rfl,fun u hu=>by
 simp only[List.mem_cons,List.not_mem_nil,or_false] at hu;rcases hu with rfl|rfl|rfl|rfl|rfl<;>rfl⟩
theorem tf:(Tryz.prog.info? 65).map (fun i=>(i.zero,i.size,i.bytes))=some (some (.agg #[.int .i64 0,.int .i64 0,.int .i64 0,.int .i64 0,.slice none 0 0]),5,56):=ie
theorem sr:(Tryz.prog.info? 3).map (fun i=>(i.zero,i.size,i.bytes))=some (some (.int .i64 0),1,8):=ie
theorem Au (id:Int) (w:World):Calls Tryz.prog 75 #[id] w fun q w' =>∃u,q= .returned u∧Ow (jN 5) 65 w' (fun k=>w.heap.size≤k) u ((ic id).map wJ)∧Below w.heap.size w w':=by
 go_enter Tryz.func75,Tryz.ntmps75;go_wp2_with fail;have l:Below w.heap.size w (w.alloc (.cells #[] 65)):=gU (gY _ _) _;have j:Ow (jN 5) 65 (w.alloc (.cells #[] 65)) (fun k=>w.heap.size≤k) (.slice (some ⟨w.heap.size,0,none⟩) 0 0) []:=Ow.empty _ (gX rfl) (j9 _);generalize w.alloc (.cells #[] 65)=W at*
 go_loopw [3,4] (fun u i wr=>∃k:Nat,i= .int .i64 k∧k≤4∧Ow (jN 5) 65 wr (fun k=>w.heap.size≤k) u ((kD id k).map wJ)∧Below w.heap.size w wr) (fun _ i _=>4-(intOf i).toNat)
 case atStart=>exact⟨0,rfl,jP _,j,l⟩
 case round=>
  clear j l;obtain⟨k,rfl,z,a,e⟩:=hrel;have y:=e.size;obtain⟨A,c,rfl,-⟩:=a.shape;by_cases hlt:k<4
  ·have v:(k:Int)<4:=gO
   have C:decide ((k:Int)<4)=true:=jT v;go_wp2_with fail;refine(sx (k:Int) _).mono ?_;rintro q x ⟨rfl,B⟩;subst x;apply_assumption;by_cases he:iE (k:Int)=id
   ·have g:=gP (show kD id (k+1)=kD id k++[(k:Int)] by simp only[kD];rw[if_pos he])
    have r:(iE (k:Int)==id)=true:=by simpa using he
    have s:decide (iE (k:Int)=id)=true:=by simpa using he
    have p:=gP (qi id k);clear he;go_wp2_with (at_builtin;refine jj (d:=jN 5) rfl 32 rfl Tryz.underlying32 _ 56 tf rfl dc dc rfl (a.alloc _) (wJ (k:Int)) _ rfl (gX rfl) (fun _=>False) (by rfl) (fun _ b=>b.elim) (fun _ b=>b.elim) (by simp only[List.length_map];have:=p.out;omega) (fun q=>w.heap.size≤q) (fun _ hq=>hq) (fun _ b=>b.elim) (fun q hq=>by simp only[lv] at hq;show w.heap.size≤q;omega) ?_;intro D E f m t);have n:=lz (gU e _) m (fun q hq=>a.inF hq) (by simp;omega);rw[←List.map_singleton,←List.map_append,←g.out] at f;go_roundw
    case rel=>exact⟨k+1,by go_num,gO,f,n⟩
    case measure=>exact ms
   ·have g:=gP (show kD id (k+1)=kD id k by simp only[kD];rw[if_neg he])
    have r:(iE (k:Int)==id)=false:=by simpa using he
    have s:decide (iE (k:Int)=id)=false:=by simpa using he
    clear he;go_wp2_with fail;go_roundw
    case rel=>exact⟨k+1,by go_num,gO,by rw[g.out];exact a,e⟩
    case measure=>exact ms
  ·have o:k=4:=gO
   subst o;go_wp2_with fail;go_ret;exact⟨_,rfl,by rw[←sc];exact a,e⟩
theorem nY (id:Int) (w:World):Calls Tryz.prog 43 #[id] w fun q w' =>∃u,q= .returned u∧Ow (ja .i64) 3 w' (fun k=>w.heap.size≤k) u (ic id)∧Below w.heap.size w w':=by
 go_enter Tryz.func43,Tryz.ntmps43;go_wp2_with fail
 go_loopw [3,5] (fun u i wr=>∃k:Nat,i= .int .i64 k∧k≤4∧Ow (ja .i64) 3 wr (fun k=>w.heap.size≤k) u (kD id k)∧Below w.heap.size w wr) (fun _ i _=>4-(intOf i).toNat)
 case atStart=>exact⟨0,rfl,jP _,Ow.nil _ _ _ _,gY _ _⟩
 case round=>
  obtain⟨k,rfl,x,a,e⟩:=hrel;have v:=e.size;obtain⟨A,c,rfl,-⟩:=a.shape;by_cases hlt:k<4
  ·have s:(k:Int)<4:=gO
   have z:decide ((k:Int)<4)=true:=jT s;go_wp2_with fail;refine(mQ (k:Int) _).mono ?_;rintro q t ⟨rfl,y⟩;subst t;apply_assumption;by_cases he:iE (k:Int)=id
   ·have g:=gP (show kD id (k+1)=kD id k++[(k:Int)] by simp only[kD];rw[if_pos he])
    have o:(iE (k:Int)==id)=true:=by simpa using he
    have p:decide (iE (k:Int)=id)=true:=by simpa using he
    have n:=gP (qi id k);clear he;go_wp2_with (at_builtin;refine jj (d:=ja .i64) rfl 27 rfl Tryz.underlying27 _ 8 sr rfl dc dc rfl (a.alloc _) (k:Int) _ rfl (gX rfl) (fun _=>False) (by rfl) (fun _ b=>b.elim) (fun _ b=>b.elim) (by have:=n.out;omega) (fun q=>w.heap.size≤q) (fun _ hq=>hq) (fun _ b=>b.elim) (fun q hq=>by simp only[lv] at hq;show w.heap.size≤q;omega) ?_;intro B C f j r);have l:=lz (gU e _) j (fun q hq=>a.inF hq) (by simp;omega);rw[←g.out] at f;go_roundw
    case rel=>exact⟨k+1,by go_num,gO,f,l⟩
    case measure=>exact ms
   ·have g:=gP (show kD id (k+1)=kD id k by simp only[kD];rw[if_neg he])
    have o:(iE (k:Int)==id)=false:=by simpa using he
    have p:decide (iE (k:Int)=id)=false:=by simpa using he
    clear he;go_wp2_with fail;go_roundw
    case rel=>exact⟨k+1,by go_num,gO,by rw[g.out];exact a,e⟩
    case measure=>exact ms
  ·have m:k=4:=gO
   subst m;go_wp2_with fail;go_ret;exact⟨_,rfl,by rw[←sc];exact a,e⟩
theorem ze (x:jl) (v:Value) (F:Nat→Prop) (w:World) (h:Rd iC w F v x.events):
  Calls Tryz.prog 139 #[.agg #[x.inc,x.version,v]] w fun q w' =>q= .returned (.bool (kx x))∧Below w.heap.size w w':=by
 obtain⟨A,c,rfl,-⟩:=h.shape;obtain⟨W,hV,f,Z⟩:=n8 w (.cells #[x.inc,x.version,.slice A x.events.length c] 130);go_enter Tryz.func139,Tryz.ntmps139;go_upto_region 1 with fail;rw[hV.out];clear hV;replace h:=h.below f;have G:=gL Z;obtain⟨H,I,J⟩:=zd Z;refine kg [.rd [0,1],.mid 2,.mid 3,.rd [4,5,6],.mid 7,.mid 8,.rd [9,10,11,12],.mid 13,.mid 14] [15,16] ?_;refine vL ?_;intro N hN;go_wp2_with fail;refine gR (hN _ ?_);clear hN N;refine vM ?_;intro N hN;go_wp2_with fail;refine(nd _).mono ?_;rintro e z ⟨a,p⟩;subst z;subst a;apply_assumption;refine vN (gY _ _) (hN _ _ ?_);clear hN;refine vM ?_;intro N hN;go_wp2_with fail;refine(i8 _ _ _ _).mono ?_;rintro e B ⟨a,p⟩;subst B;obtain⟨u,n⟩:∃t,i2 x.inc 0 9999=t:=⟨_,rfl⟩;rw[n] at a;have j:=gP n;clear n;subst a;apply_assumption;refine vN (gY _ _) (hN _ _ ?_);clear hN;cases u
 case false=>
  have g:=gP (show kx x=false by simp[kx,j.out])
  repeat (first|(refine vL ?_;intro N hN;go_wp2_with fail;refine gR (hN _ ?_);clear hN N)|(refine vM ?_;intro N hN;go_wp2_with fail;refine vN (gY _ _) (hN _ _ ?_);clear hN))
  refine vF ?_;have d:=gP (gY W.heap.size W).drew;go_wp2_with fail;go_ret;exact⟨by rw[g.out];rfl,gQ f d.out f.size⟩
 refine vL ?_;intro N hN;go_wp2_with fail;refine gR (hN _ ?_);clear hN N;refine vM ?_;intro N hN;go_wp2_with fail;refine(nd _).mono ?_;rintro e C ⟨a,p⟩;subst C;subst a;apply_assumption;refine vN (gY _ _) (hN _ _ ?_);clear hN;refine vM ?_;intro N hN;go_wp2_with fail;refine(i8 _ _ _ _).mono ?_;rintro e D ⟨a,p⟩;subst D;obtain⟨y,o⟩:∃t,i2 x.version 0 9999=t:=⟨_,rfl⟩;rw[o] at a;have m:=gP o;clear o;subst a;apply_assumption;refine vN (gY _ _) (hN _ _ ?_);clear hN;cases y
 case false=>
  have g:=gP (show kx x=false by simp[kx,j.out,m.out])
  repeat (first|(refine vL ?_;intro N hN;go_wp2_with fail;refine gR (hN _ ?_);clear hN N)|(refine vM ?_;intro N hN;go_wp2_with fail;refine vN (gY _ _) (hN _ _ ?_);clear hN))
  refine vF ?_;have d:=gP (gY W.heap.size W).drew;go_wp2_with fail;go_ret;exact⟨by rw[g.out];rfl,gQ f d.out f.size⟩
 refine vL ?_;intro N hN;go_wp2_with fail;refine gR (hN _ ?_);clear hN N;refine vM ?_;intro N hN;go_wp2_with fail;refine(nR _).mono ?_;rintro e s ⟨a,p⟩;subst s;subst a;apply_assumption;refine vN (gY _ _) (hN _ _ ?_);clear hN;refine vM ?_;intro N hN;go_wp2_with fail;refine(oY _ x.events _ F _ (h.below (gY W.heap.size W).drew)).mono ?_;rintro e E ⟨a,k⟩;have b:=k;clear k;obtain⟨r,i⟩:∃t,jK x.events 100=t:=⟨_,rfl⟩;rw[i] at a;have l:=gP i;clear i;subst a;apply_assumption;refine vN b (hN _ _ ?_);clear hN;cases r
 case false=>
  have g:=gP (show kx x=false by simp[kx,j.out,m.out,l.out])
  repeat (first|(refine vL ?_;intro N hN;go_wp2_with fail;refine gR (hN _ ?_);clear hN N)|(refine vM ?_;intro N hN;go_wp2_with fail;refine vN b (hN _ _ ?_);clear hN))
  refine vF ?_;have d:=gP ((gV ((gY W.heap.size W).drew) b));go_wp2_with fail;go_ret;exact⟨by rw[g.out];rfl,gQ f d.out f.size⟩
 refine vF ?_;have g:=gP (show kx x=true by simp[kx,j.out,m.out,l.out]);have d:=gP ((gV ((gY W.heap.size W).drew) b));go_wp2_with fail;go_ret;exact⟨by rw[g.out];rfl,gQ f d.out f.size⟩
def jQ (n:gW):Bool:=decide (n.views.length=3)&&(decide (n.known.length=3)&&(i2 n.version 0 9999&&(i2 n.round 0 9999&&(i2 n.low 0 41&&(n.views.all kx&&n.known.all (fun k=>i2 k 0 41))))))
theorem zT (n:gW) (vl vk vo vv vn:Value) (F:Nat→Prop) (w:World) (h:iA w F vl vk vo vv vn n):
  Calls Tryz.prog 74 #[.agg #[n.id,n.up,n.inc,n.g,vl,vk,vo,n.led,n.version,vv,vn,n.round,n.low]] w fun q w' =>q= .returned (.bool (jQ n))∧Below w.heap.size w w':=by
 obtain⟨A1,c1,rfl,-⟩:=h.la.shape;obtain⟨A2,c2,rfl,-⟩:=h.ke.shape;obtain⟨A3,c3,rfl,-⟩:=h.ou.shape;obtain⟨A4,c4,rfl,-⟩:=h.vi.shape;obtain⟨A5,c5,rfl,-⟩:=h.kn.shape;obtain⟨W,hV,d,Z⟩:=n8 w (.cells #[n.id,n.up,n.inc,n.g,.slice A1 n.lanes.length c1,.slice A2 n.kept.length c2,.slice A3 n.outs.length c3,n.led,n.version,.slice A4 n.views.length c4,.slice A5 n.known.length c5,n.round,n.low] 37);go_enter Tryz.func74,Tryz.ntmps74;go_upto_region 1 with fail;rw[hV.out];clear hV;have ay:=h.vi.below d;have av:=h.kn.below d;clear h;have ax:=gL Z;obtain⟨J,L,M,O,P,Q,R,S,T,U,s,u,v⟩:=hJ Z;by_cases q1:n.views.length=3
 case neg=>
  have c:=gP (show jQ n=false by simp[jQ,q1]);have e0:(((n.views.length:Nat):Int) !=3)=true:=by simpa using (show ¬((n.views.length:Nat):Int)=3 by omega)
  clear q1;refine kg [.rd [0,1,2,3,4,5,6,7,8,9,10,11,12],.mid 13,.mid 14,.rd [15,16,17,18,19],.mid 20,.mid 21,.rd [22,23,24,25,26],.mid 27] [28,29] ?_
  repeat (first|(refine vL ?_;intro N hN;go_wp2_with fail;refine gR (hN _ ?_);clear hN N)|(refine vM ?_;intro N hN;go_wp2_with fail;refine vN (gY _ _) (hN _ _ ?_);clear hN))
  refine vF ?_;have b:=gP (gY W.heap.size W).drew;go_wp2_with fail;go_ret;exact⟨by rw[c.out];rfl,gQ d b.out d.size⟩
 by_cases q2:n.known.length=3
 case neg=>
  have c:=gP (show jQ n=false by simp[jQ,q2]);have e0:(((n.views.length:Nat):Int) !=3)=false:=by simp[q1]
  have e1:(((n.known.length:Nat):Int) !=3)=true:=by simpa using (show ¬((n.known.length:Nat):Int)=3 by omega)
  have I:=gP q1;clear q1 q2;refine kg [.rd [0,1,2,3,4,5,6,7,8,9,10,11,12],.mid 13,.mid 14,.rd [15,16,17,18,19],.mid 20,.mid 21,.rd [22,23,24,25,26],.mid 27] [28,29] ?_
  repeat (first|(refine vL ?_;intro N hN;go_wp2_with fail;refine gR (hN _ ?_);clear hN N)|(refine vM ?_;intro N hN;go_wp2_with fail;refine vN (gY _ _) (hN _ _ ?_);clear hN))
  refine vF ?_;have b:=gP (gY W.heap.size W).drew;go_wp2_with fail;go_ret;exact⟨by rw[c.out];rfl,gQ d b.out d.size⟩
 have e0:(((n.views.length:Nat):Int) !=3)=false:=by simp[q1]
 have e1:(((n.known.length:Nat):Int) !=3)=false:=by simp[q2]
 have I:=gP q1;have X:=gP q2;clear q1 q2;refine kg [.rd [0,1,2,3,4,5,6,7,8,9,10,11,12],.mid 13,.mid 14,.rd [15,16,17,18,19],.mid 20,.mid 21,.rd [22,23,24,25,26],.mid 27] [28,29] ?_;refine vL ?_;intro N hN;go_wp2_with fail;refine gR (hN _ ?_);clear hN N;refine vM ?_;intro N hN;go_wp2_with fail;refine(nd _).mono ?_;rintro e af ⟨a,G⟩;subst af;subst a;apply_assumption;refine vN (gY _ _) (hN _ _ ?_);clear hN;refine vM ?_;intro N hN;go_wp2_with fail;refine(i8 _ _ _ _).mono ?_;rintro e ag ⟨a,G⟩;subst ag;obtain⟨ac,l⟩:∃t,i2 n.version 0 9999=t:=⟨_,rfl⟩;rw[l] at a;have A:=gP l;clear l;subst a;apply_assumption;refine vN (gY _ _) (hN _ _ ?_);clear hN;cases ac
 case false=>
  have c:=gP (show jQ n=false by simp[jQ,A.out])
  repeat (first|(refine vL ?_;intro N hN;go_wp2_with fail;refine gR (hN _ ?_);clear hN N)|(refine vM ?_;intro N hN;go_wp2_with fail;refine vN (gY _ _) (hN _ _ ?_);clear hN))
  refine vF ?_;have b:=gP (gY W.heap.size W).drew;go_wp2_with fail;go_ret;exact⟨by rw[c.out];rfl,gQ d b.out d.size⟩
 refine vL ?_;intro N hN;go_wp2_with fail;refine gR (hN _ ?_);clear hN N;refine vM ?_;intro N hN;go_wp2_with fail;refine(nd _).mono ?_;rintro e ah ⟨a,G⟩;subst ah;subst a;apply_assumption;refine vN (gY _ _) (hN _ _ ?_);clear hN;refine vM ?_;intro N hN;go_wp2_with fail;refine(i8 _ _ _ _).mono ?_;rintro e ai ⟨a,G⟩;subst ai;obtain⟨ad,m⟩:∃t,i2 n.round 0 9999=t:=⟨_,rfl⟩;rw[m] at a;have B:=gP m;clear m;subst a;apply_assumption;refine vN (gY _ _) (hN _ _ ?_);clear hN;cases ad
 case false=>
  have c:=gP (show jQ n=false by simp[jQ,B.out])
  repeat (first|(refine vL ?_;intro N hN;go_wp2_with fail;refine gR (hN _ ?_);clear hN N)|(refine vM ?_;intro N hN;go_wp2_with fail;refine vN (gY _ _) (hN _ _ ?_);clear hN))
  refine vF ?_;have b:=gP (gY W.heap.size W).drew;go_wp2_with fail;go_ret;exact⟨by rw[c.out];rfl,gQ d b.out d.size⟩
 refine vL ?_;intro N hN;go_wp2_with fail;refine gR (hN _ ?_);clear hN N;refine vM ?_;intro N hN;go_wp2_with fail;refine(i8 _ _ _ _).mono ?_;rintro e aj ⟨a,G⟩;subst aj;obtain⟨ae,o⟩:∃t,i2 n.low 0 41=t:=⟨_,rfl⟩;rw[o] at a;have C:=gP o;clear o;subst a;apply_assumption;refine vN (gY _ _) (hN _ _ ?_);clear hN;cases ae
 case false=>
  have c:=gP (show jQ n=false by simp[jQ,C.out])
  repeat (first|(refine vL ?_;intro N hN;go_wp2_with fail;refine gR (hN _ ?_);clear hN N)|(refine vM ?_;intro N hN;go_wp2_with fail;refine vN (gY _ _) (hN _ _ ?_);clear hN))
  refine vF ?_;have b:=gP (gY W.heap.size W).drew;go_wp2_with fail;go_ret;exact⟨by rw[c.out];rfl,gQ d b.out d.size⟩
 refine vF ?_;have b:=gP (gY W.heap.size W).drew;go_wp2_with fail
 go_loopw [3] (fun i wr=>∃k:Nat,i= .int .i64 k∧k≤3∧Hid ((n.views.take k).all kx=true∧(n.known.take k).all (fun k=>i2 k 0 41)=true)∧Below W.heap.size W wr) (fun i _=>3-(intOf i).toNat)
 case atStart=>exact⟨0,rfl,jP _,gP ⟨rfl,rfl⟩,b.out⟩
 case round=>
  obtain⟨k,rfl,hk,H,z⟩:=hrel;have f:=gQ d z d.size;have Y:=gJ z ax Z;clear J L M O P Q R S T U s u v;obtain⟨J,L,M,O,P,Q,R,S,T,U,s,u,v⟩:=hJ Y;have hv:=ay.below z;have hn:=av.below z;by_cases hlt:k<3
  ·have D:k<n.views.length:=by have:=I.out;omega
   have E:k<n.known.length:=by have:=X.out;omega
   have p0:(k:Int)<3:=gO;have p1:(k:Int)<(n.views.length:Int):=gO;have p2:(k:Int)<(n.known.length:Int):=gO;obtain⟨b0,o0,A6,c6,aq,aT,y0,y1,y2,r1⟩:=mI hv k D;subst aq;obtain⟨x,hx⟩:∃x,n.views[k]=x:=⟨_,rfl⟩;have HX:=gP hx;rw[hx] at y0 y1 y2 r1;clear hx;go_wp2_with fail;refine(ze x _ F _ r1).mono ?_;rintro q w5 ⟨a,j⟩;obtain⟨t,r⟩:∃t,kx x=t:=⟨_,rfl⟩;rw[r] at a;have HT:=gP r;clear r;subst a;cases t
   case false=>
    have c:=gP (show jQ n=false by have:=jw (p:=kx) D (by rw[HX.out];exact HT.out);simp[jQ,this]);apply_assumption;go_wp2_with fail;go_ret;exact⟨by rw[c.out];rfl,gQ f j f.size⟩
   have aw:=hn.below j;have Z5:=gJ j (gL Y) Y;clear J L M O P Q R S T U s u v y0 y1 y2;obtain⟨J,L,M,O,P,Q,R,S,T,U,s,u,v⟩:=hJ Z5;obtain⟨b1,o1,ar,-,aU,z0⟩:=lm aw k E;subst ar;obtain⟨y,hy⟩:∃y,n.known[k]=y:=⟨_,rfl⟩;have HY:=gP hy;rw[hy] at z0;clear hy;apply_assumption;go_wp2_with fail;refine(i8 _ _ _ _).mono ?_;rintro q w6 ⟨a,G⟩;subst w6;obtain⟨t,r⟩:∃t,i2 y 0 41=t:=⟨_,rfl⟩;rw[r] at a;have V:=gP r;clear r;subst a;cases t
   case false=>
    have c:=gP (show jQ n=false by have:=jw (p:=fun k=>i2 k 0 41) E (by rw[HY.out];exact V.out);simp[jQ,this]);apply_assumption;go_wp2_with fail;go_ret;exact⟨by rw[c.out];rfl,gQ f j f.size⟩
   have HS:=gP (And.intro (jI (p:=kx) D H.out.1 (by rw[HX.out];exact HT.out)) (jI (p:=fun k=>i2 k 0 41) E H.out.2 (by rw[HY.out];exact V.out)));apply_assumption;go_wp2_with fail;go_roundw
   case rel=>exact⟨k+1,by go_num,gO,HS,gQ z j z.size⟩
   case measure=>exact ms
  ·have au:k=3:=gO
   subst au;have c:=gP (show jQ n=true by
   have h1:=H.out.1;have h2:=H.out.2;rw[List.take_of_length_le (by have:=I.out;omega)] at h1;rw[List.take_of_length_le (by have:=X.out;omega)] at h2;simp[jQ,I.out,X.out,A.out,B.out,C.out,h1,h2])
   go_wp2_with fail;go_ret;exact⟨by rw[c.out];rfl,f⟩
theorem BP {H:Type} {enc:TypeId×Value→H} {W:World} (fuel:Nat) (cs:List Value) (x:DataW H×List MemPlace) (h:DataW.trod enc Tryz.prog W 0 (fun _=>true) true fuel 234 cs=some x):∃y:iq,jm.rel W (fun k=>k<W.heap.size) y cs:=by
 obtain⟨F,n,-,-,m,g,a⟩:=DataW.trod_struct Tryz.underlying234 h;have v:Tryz.prog.cellsOf 234=12:=ie;rw[v] at m
 match cs,m,F,g,a with
 | [c0,c1,c2,c3,c4,c5,c6,c7,c8,c9,c10,c11],_,[y0,y1,y2,y3],_,a=>
  have z:Tryz.prog.cellsOf 146=7:=ie;have B:Tryz.prog.cellsOf 109=3:=ie;have C:Tryz.prog.cellsOf 24=1:=ie;have D:Tryz.prog.cellsOf 25=1:=ie;have q:DataW.trod enc Tryz.prog W 0 (fun _=>true) true n 146 ([c0,c1,c2,c3,c4,c5,c6,c7,c8,c9,c10,c11].drop 0 |>.take (Tryz.prog.cellsOf 146))=some y0:=a 0 _ rfl;have r:DataW.trod enc Tryz.prog W 0 (fun _=>true) true n 109 ([c0,c1,c2,c3,c4,c5,c6,c7,c8,c9,c10,c11].drop 7 |>.take (Tryz.prog.cellsOf 109))=some y1:=a 1 _ rfl;have t:DataW.trod enc Tryz.prog W 0 (fun _=>true) true n 24 ([c0,c1,c2,c3,c4,c5,c6,c7,c8,c9,c10,c11].drop 10 |>.take (Tryz.prog.cellsOf 24))=some y2:=a 2 _ rfl;have u:DataW.trod enc Tryz.prog W 0 (fun _=>true) true n 25 ([c0,c1,c2,c3,c4,c5,c6,c7,c8,c9,c10,c11].drop 11 |>.take (Tryz.prog.cellsOf 25))=some y3:=a 3 _ rfl;obtain⟨e,d⟩:=pi _ _ _ q;obtain⟨s,i⟩:=uY _ _ _ r;obtain⟨A,c,E,j,w⟩:=kZ iC Tryz.underlying24 ie dc (fun f cs x h=>by obtain⟨y,l⟩:=pi f cs x h;exact⟨y,l⟩) t;obtain⟨G,I,p,b,o⟩:=kZ ii Tryz.underlying25 ie dc (fun f cs x h=>by obtain⟨y,l⟩:=zB f cs x h;exact⟨y,l⟩) u;rw[z] at d;rw[B] at i;rw[C] at j;rw[D] at b;simp only[List.drop_zero,List.drop_succ_cons,List.take_succ_cons,List.take_zero,im.cells,mL.cells,List.cons.injEq,and_true] at d i j b;obtain⟨rfl,rfl,rfl,rfl,rfl,rfl,rfl⟩:=d;obtain⟨rfl,rfl,rfl⟩:=i;subst j b;exact⟨⟨e,s,E,p⟩,_,_,rfl,w,o⟩
theorem BL {H:Type} {enc:TypeId×Value→H} {W:World} (fuel:Nat) (cs:List Value) (x:DataW H×List MemPlace) (h:DataW.trod enc Tryz.prog W 0 (fun _=>true) true fuel 112 cs=some x):∃(y:hZ) (v:Value),cs=[.int .i64 y.proc,.int .i64 y.base.x,.int .i64 y.base.y,.int .i64 y.base.c,v]∧Rd jm W (fun k=>k<W.heap.size) v y.done:=by
 obtain⟨w,n,-,-,i,b,a⟩:=DataW.trod_struct Tryz.underlying112 h;have o:Tryz.prog.cellsOf 112=5:=ie;rw[o] at i
 match cs,i,w,b,a with
 | [c0,c1,c2,c3,c4],_,[y0,y1,y2],_,a=>
  have r:Tryz.prog.cellsOf 109=3:=ie;have t:Tryz.prog.cellsOf 110=1:=ie;have g:DataW.trod enc Tryz.prog W 0 (fun _=>true) true n 3 ([c0,c1,c2,c3,c4].drop 0 |>.take (Tryz.prog.cellsOf 3))=some y0:=a 0 _ rfl;have l:DataW.trod enc Tryz.prog W 0 (fun _=>true) true n 109 ([c0,c1,c2,c3,c4].drop 1 |>.take (Tryz.prog.cellsOf 109))=some y1:=a 1 _ rfl;have m:DataW.trod enc Tryz.prog W 0 (fun _=>true) true n 110 ([c0,c1,c2,c3,c4].drop 4 |>.take (Tryz.prog.cellsOf 110))=some y2:=a 2 _ rfl;rw[jd] at g;obtain⟨q,j,-⟩:=DataW.trod_int Tryz.underlying3 g;obtain⟨s,d⟩:=uY _ _ _ l;obtain⟨A,c,u,e,p⟩:=kZ jm Tryz.underlying110 ie dc (fun f cs x h=>BP f cs x h) m;rw[r] at d;rw[t] at e;simp only[List.drop_zero,List.drop_succ_cons,List.take_succ_cons,List.take_zero,mL.cells,List.cons.injEq,and_true] at j d e;obtain⟨rfl,rfl,rfl⟩:=d;subst j e;exact⟨⟨q,s,u⟩,_,rfl,p⟩
end Go.Proofs.YtgilllnjhahkfaaGreat
