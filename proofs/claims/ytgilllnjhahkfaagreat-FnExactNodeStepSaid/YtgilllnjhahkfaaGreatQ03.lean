/- Parts of the proof: Pure1, Ok2, Ex1, Ey1. -/
import Derived.Maps.AppendAt
import Derived.Deep.AppendSrc
import Derived.Deep.RegionLaw
import Derived.StillTailTactics
import Derived.BigRegion
import Derived.IntWalk
import Derived.Deep.MidRow
import Derived.Deep.DeepCutAuto
import Derived.Test.YtgilllnjhahkfaaGreatQ02
set_option linter.unusedVariables false
set_option linter.unusedSimpArgs false
set_option linter.unusedSectionVars false
set_option maxHeartbeats 4000000
namespace Go.Proofs.YtgilllnjhahkfaaGreat
open Go.RowKit
structure md (r:iI):Prop where
 x0:0≤r.x
 x1:r.x≤999
 y0:0≤r.y
 y1:r.y≤999
theorem md.put {r:iI} (h:md r) (k v:Int):md (r.put k v):=by
 obtain⟨a,b,c,d⟩:=h;unfold iI.put;split
 ·exact⟨by show 0≤v % 1000;omega,by show v % 1000≤999;omega,c,d⟩
 ·exact⟨a,b,by show 0≤v % 1000;omega,by show v % 1000≤999;omega⟩
theorem iI.put_sends (r:iI) (k v:Int):(r.put k v).sends=r.sends:=by unfold iI.put;split<;>rfl
theorem iI.put_outs (r:iI) (k v:Int):(r.put k v).outs=r.outs:=by unfold iI.put;split<;>rfl
theorem xY {e:im} {c:Int} {o:mi} {r:iI} (h:md r):md (jV e c o r).1:=by
 unfold jV
 repeat' (split<;>first|exact h|exact h.put _ _|skip)
 all_goals exact⟨h.x0,h.x1,h.y0,h.y1⟩
theorem zl (e:im) (c:Int) (o:mi) (r:iI):(jV e c o r).1.sends.length≤r.sends.length+1∧(jV e c o r).1.outs.length≤r.outs.length+1:=by
 unfold jV
 repeat' (split<;>first|(rw[iI.put_sends,iI.put_outs];omega)|skip)
 all_goals simp
theorem xo {e:im} {c:Int} {o:mi} {r:iI} (h:kC o=true):0≤(jV e c o r).2∧(jV e c o r).2≤8:=by
 unfold jV;unfold kC at h
 repeat' split
 all_goals first
  |(simp;done)
  |(rename_i h5 _;simp[*,i2] at h;have:=h.2.2.1;simp;omega)
theorem AO (e:im) (c:Int):∀(n m:Nat) (l:List mi) (r:iI),l.length≤n→l.length≤m→kX e c n l r=kX e c m l r:=by
 intro n
 induction n with
 |zero=>intro m l r b d;cases l with
  |nil=>cases m<;>rfl
  |cons a l=>simp at b
 |succ n ih=>intro m l r b d;cases l with
  |nil=>cases m<;>rfl
  |cons a l=>
   cases m with
   |zero=>simp at d
   |succ m=>
    simp only[List.length_cons] at b d;simp only[kX];exact ih m _ _ (by simp;omega) (by simp;omega)
theorem vX (e:im) (c:Int) (n:Nat) {ops:List mi} {k:Nat} (r:iI) (h:k<ops.length) (hn:ops.length≤n):
  kX e c n (ops.drop k) r=kX e c n (ops.drop (k+(jV e c ops[k] r).2.toNat+1)) (jV e c ops[k] r).1:=by
 rw[List.drop_eq_getElem_cons h];cases n with
 |zero=>omega
 |succ n=>
  simp only[kX];rw[List.drop_drop];rw[show k+1+(jV e c ops[k] r).2.toNat=k+(jV e c ops[k] r).2.toNat+1 by omega];exact AO e c _ _ _ _ (by simp;omega) (by simp;omega)
theorem wH (e:im) (c:Int) (n:Nat) {ops:List mi} {k:Nat} (r:iI) (h:ops.length≤k):kX e c n (ops.drop k) r=r:=by
 rw[List.drop_eq_nil_of_le h];cases n<;>rfl
theorem nJ (a:iM):ji [a,⟨[]⟩,⟨[]⟩,⟨[]⟩]=je a:=by
 have b:je ⟨[]⟩=true:=by decide
 simp[ji,b]
theorem vH {a:iM} (h:je a=true) {i:Nat} (hi:i<a.rules.length):mD a.rules[i].ops=true:=by
 simp only[je,Bool.and_eq_true] at h;have:=List.all_eq_true.1 h.1.2 a.rules[i] (List.getElem_mem hi);simp only[lj,Bool.and_eq_true] at this;exact this.2
theorem yA {l:List mi} (h:mD l=true) {i:Nat} (hi:i<l.length):kC l[i]=true:=by
 simp only[mD,Bool.and_eq_true] at h;exact List.all_eq_true.1 h.1.1.1 l[i] (List.getElem_mem hi)
theorem wT {l:List mi} (h:mD l=true):l.length≤8:=by
 simp only[mD,Bool.and_eq_true,decide_eq_true_eq] at h;exact h.1.1.2
theorem wR {a:iM} (h:je a=true):a.rules.length≤4:=by
 simp only[je,Bool.and_eq_true,decide_eq_true_eq] at h;exact h.1.1
theorem nA (e:im) (c:Int) (l:List jJ) (r:iI) {k:Nat} (h:k<l.length):
  jx e c (l.take (k+1)) r=(if l[k].kind=e.kind then kX e c l[k].ops.length l[k].ops (jx e c (l.take k) r) else jx e c (l.take k) r):=by
 rw[List.take_succ_eq_append_getElem h];unfold jx;rw[List.foldl_append];rfl
theorem sd {s:mL} (h:kR s=true):md ⟨s.x,s.y,[],[]⟩:=by
 simp[kR,i2] at h;exact⟨h.1.1.1,h.1.1.2,h.1.2.1,h.1.2.2⟩
set_option maxRecDepth 100000
theorem j6 (a l h:Int) (w:World):Calls Tryz.prog 153 #[a,l,h] w fun e w' =>e= .returned (.bool (i2 a l h))∧w' =w:=by
 by_cases h1:l≤a<;>by_cases h2:a≤h
 all_goals
  go_enter Tryz.func153,Tryz.ntmps153;go_wp2;go_ret;exact⟨by simp[i2,h1,h2],rfl⟩
theorem se (a:Int) (w:World):Calls Tryz.prog 195 #[a] w fun e w' =>e= .returned (.bool (i2 a 0 1))∧w' =w:=by
 go_enter Tryz.func195,Tryz.ntmps195;go_wp2_with (first|(go_at_call 153;refine(j6 _ _ _ _).mono ?_;rintro e w' ⟨rfl,rfl⟩));go_ret;exact⟨rfl,rfl⟩
theorem mE (a:Int) (w:World):Calls Tryz.prog 98 #[a] w fun e w' =>e= .returned (.bool (i2 a 0 3))∧w' =w:=by
 go_enter Tryz.func98,Tryz.ntmps98;go_wp2_with (first|(go_at_call 153;refine(j6 _ _ _ _).mono ?_;rintro e w' ⟨rfl,rfl⟩));go_ret;exact⟨rfl,rfl⟩
theorem p8 (a:Int) (w:World):Calls Tryz.prog 187 #[a] w fun e w' =>e= .returned (.bool (i2 a 0 3))∧w' =w:=by
 go_enter Tryz.func187,Tryz.ntmps187;go_wp2_with (first|(go_at_call 153;refine(j6 _ _ _ _).mono ?_;rintro e w' ⟨rfl,rfl⟩));go_ret;exact⟨rfl,rfl⟩
theorem rZ (a:Int) (w:World):Calls Tryz.prog 183 #[a] w fun e w' =>e= .returned (.bool (i2 a 0 999))∧w' =w:=by
 go_enter Tryz.func183,Tryz.ntmps183;go_wp2_with (first|(go_at_call 153;refine(j6 _ _ _ _).mono ?_;rintro e w' ⟨rfl,rfl⟩));go_ret;exact⟨rfl,rfl⟩
theorem ly (x y c:Int) (w:World):Calls Tryz.prog 141 #[.agg #[x,y,c]] w fun r w' =>r= .returned (.bool (kR ⟨x,y,c⟩))∧Below w.heap.size w w':=by
 go_enter Tryz.func141,Tryz.ntmps141;go_wp2_with (first|(go_at_call 137;refine(ot _ _).mono ?_;rintro e w' ⟨rfl,rfl⟩)|(go_at_call 70;refine(i8 _ _ _ _).mono ?_;rintro e w' ⟨rfl,rfl⟩))
 all_goals
  go_ret;exact⟨by simp[kR, *],gU (gY _ _) _⟩
theorem oO (x y c:Int) (w:World):Calls Tryz.prog 184 #[.agg #[x,y,c]] w fun r w' =>r= .returned (.bool (kR ⟨x,y,c⟩))∧Below w.heap.size w w':=by
 go_enter Tryz.func184,Tryz.ntmps184;go_wp2_with (first|(go_at_call 183;refine(rZ _ _).mono ?_;rintro e w' ⟨rfl,rfl⟩)|(go_at_call 153;refine(j6 _ _ _ _).mono ?_;rintro e w' ⟨rfl,rfl⟩))
 all_goals
  go_ret;exact⟨by simp[kR, *],gU (gY _ _) _⟩
theorem lw (a b c d e f g:Int) (w:World):Calls Tryz.prog 134 #[.agg #[a,b,c,d,e,f,g]] w fun r w' =>r= .returned (.bool (jM ⟨a,b,c,d,e,f,g⟩))∧Below w.heap.size w w':=by
 go_enter Tryz.func134,Tryz.ntmps134;go_wp2_with (first|(go_at_call 137;refine(ot _ _).mono ?_;rintro e w' ⟨rfl,rfl⟩)|(go_at_call 136;refine(kT _ _).mono ?_;rintro e w' ⟨rfl,rfl⟩)|(go_at_call 70;refine(i8 _ _ _ _).mono ?_;rintro e w' ⟨rfl,rfl⟩))
 all_goals
  go_ret;exact⟨by simp[jM, *],gU (gY _ _) _⟩
theorem oM (a b c d e f g:Int) (w:World):Calls Tryz.prog 181 #[.agg #[a,b,c,d,e,f,g]] w fun r w' =>r= .returned (.bool (jM ⟨a,b,c,d,e,f,g⟩))∧Below w.heap.size w w':=by
 go_enter Tryz.func181,Tryz.ntmps181;go_wp2_with (first|(go_at_call 183;refine(rZ _ _).mono ?_;rintro e w' ⟨rfl,rfl⟩)|(go_at_call 98;refine(mE _ _).mono ?_;rintro e w' ⟨rfl,rfl⟩)|(go_at_call 187;refine(p8 _ _).mono ?_;rintro e w' ⟨rfl,rfl⟩)|(go_at_call 153;refine(j6 _ _ _ _).mono ?_;rintro e w' ⟨rfl,rfl⟩))
 all_goals
  go_ret;exact⟨by simp[jM, *],gU (gY _ _) _⟩
theorem xA (d a b c e:Int) (w:World):Calls Tryz.prog 186 #[.agg #[d,a,b,c,e]] w fun r w' =>r= .returned (.bool (kC ⟨d,a,b,c,e⟩))∧Below w.heap.size w w':=by
 by_cases k:d=1∨d=2∨d=3∨d=4∨d=5∨d=6∨d=7
 ·rcases k with rfl|rfl|rfl|rfl|rfl|rfl|rfl
  all_goals
   go_enter Tryz.func186,Tryz.ntmps186;go_wp2_with (first|(go_at_call 195;refine(se _ _).mono ?_;rintro e w' ⟨rfl,rfl⟩)|(go_at_call 183;refine(rZ _ _).mono ?_;rintro e w' ⟨rfl,rfl⟩)|(go_at_call 98;refine(mE _ _).mono ?_;rintro e w' ⟨rfl,rfl⟩)|(go_at_call 187;refine(p8 _ _).mono ?_;rintro e w' ⟨rfl,rfl⟩)|(go_at_call 153;refine(j6 _ _ _ _).mono ?_;rintro e w' ⟨rfl,rfl⟩))
   all_goals
    go_ret;exact⟨by simp[kC, *],gU (gY _ _) _⟩
 ·have g:(d==1)=false:=by simp;omega
  have i:(d==2)=false:=by simp;omega
  have j:(d==3)=false:=by simp;omega
  have l:(d==4)=false:=by simp;omega
  have m:(d==5)=false:=by simp;omega
  have n:(d==6)=false:=by simp;omega
  have o:(d==7)=false:=by simp;omega
  have f:kC ⟨d,a,b,c,e⟩=false:=by simp only[kC];rw[if_neg gO,if_neg gO,if_neg gO,if_neg gO,if_neg gO]
  clear k;go_enter Tryz.func186,Tryz.ntmps186;go_wp2_with (first|(go_at_call 195;refine(se _ _).mono ?_;rintro e w' ⟨rfl,rfl⟩)|(go_at_call 183;refine(rZ _ _).mono ?_;rintro e w' ⟨rfl,rfl⟩)|(go_at_call 98;refine(mE _ _).mono ?_;rintro e w' ⟨rfl,rfl⟩)|(go_at_call 187;refine(p8 _ _).mono ?_;rintro e w' ⟨rfl,rfl⟩)|(go_at_call 153;refine(j6 _ _ _ _).mono ?_;rintro e w' ⟨rfl,rfl⟩))
  all_goals
   go_ret;exact⟨by simp[f],gU (gY _ _) _⟩
def iR (left n:Int):Int:=if left-n<0 then -1 else left-n
def iB:List jJ→Int
 | []=>0
 |r::rs=>r.ops.length+iB rs
theorem jf:∀rs,0≤iB rs
 | []=>Int.le_refl _
 |r::rs=>by have:=jf rs;simp only[iB];omega
theorem mK:∀(rs:List jJ) (k:Nat) (h:k<rs.length),iB (rs.take (k+1))=iB (rs.take k)+rs[k].ops.length
 |r::rs,0,h=>by simp[iB]
 |r::rs,k+1,h=>by
  have:=mK rs k (by simpa using h);simp only[List.take_succ_cons,iB,List.getElem_cons_succ];omega
theorem rM:∀(rs:List jJ) (k:Nat),iB (rs.take k)≤iB rs
 | [],k=>by simp
 |r::rs,0=>by simpa [iB] using jf (r::rs)
 |r::rs,k+1=>by have:=rM rs k;simp only[List.take_succ_cons,iB];omega
theorem tI:∀(rs:List jJ) (r:jJ),r∈rs→(r.ops.length:Int)≤iB rs
 |r'::rs,r,h=>by
  rcases List.mem_cons.1 h with rfl|h
  ·have:=jf rs;simp only[iB];omega
  ·have:=tI rs r h;simp only[iB];omega
theorem Bh (v:Value) (n:Nat) (left:Int) (w:World) (hv:∃A c,v= .slice A n c) (hn:n≤9223372036854775807) (h0:0≤left) (h1:left≤1048576):
  Calls Tryz.prog 173 #[v,left] w fun q w' =>q= .returned (.int .i64 (iR left n))∧Below w.heap.size w w':=by
 obtain⟨A,c,rfl⟩:=hv;have d:IntKind.i64.wrap (left-n)=left-n:=IntWalk.i64_in _ gO;by_cases h:left-(n:Int)<0
 ·have b:decide (left-(n:Int)<0)=true:=jT h
  have a:=gP (show iR left n= -1 by simp[iR,h]);clear h;go_enter Tryz.func173,Tryz.ntmps173;go_wp2_with fail;go_ret;exact⟨by rw[a.out];rfl,gY _ _⟩
 ·have b:decide (left-(n:Int)<0)=false:=iU h
  have a:=gP (show iR left n=left-n by simp[iR,h]);clear h;go_enter Tryz.func173,Tryz.ntmps173;go_wp2_with fail;go_ret;exact⟨by rw[a.out];rfl,gY _ _⟩
theorem DB (r:jJ) (v:Value) (left:Int) (F:Nat→Prop) (w:World) (h:Rd pO w F v r.ops) (h0:0≤left) (h1:left≤1048576):
  Calls Tryz.prog 132 #[.agg #[r.kind,v],left] w fun q w' =>q= .returned (.int .i64 (iR left r.ops.length))∧Below w.heap.size w w':=by
 obtain⟨A,c,rfl,-,g,-⟩:=id h;obtain⟨t,b⟩:∃t,iR left r.ops.length=t:=⟨_,rfl⟩;have e:=gU (gY w.heap.size w) (.cells #[r.kind,.slice A r.ops.length c] 180);by_cases hneg:t<0
 ·have j:decide (t<0)=true:=jT hneg
  have f:t= -1:=by rw[←b] at hneg ⊢;unfold iR at hneg ⊢;split at hneg<;>simp_all
  have i:=gP f;clear hneg f;go_enter Tryz.func132,Tryz.ntmps132;go_wp2_with fail;refine(Bh _ r.ops.length left _ ⟨_,_,rfl⟩ g h0 h1).mono ?_;rintro q k ⟨rfl,a⟩;rw[b];have d:=gV e a;apply_assumption;go_wp2_with fail;go_ret;exact⟨by rw[b,i.out];rfl,d⟩
 ·have j:decide (t<0)=false:=iU hneg
  clear hneg;go_enter Tryz.func132,Tryz.ntmps132;go_wp2_with fail;refine(Bh _ r.ops.length left _ ⟨_,_,rfl⟩ g h0 h1).mono ?_;rintro q k ⟨rfl,a⟩;rw[b];have d:=gV e a;apply_assumption;go_wp2_with fail;go_ret;exact⟨by rw[b];rfl,d⟩
theorem xd (v:Value) (rs:List jJ) (left:Int) (F:Nat→Prop) (w:World) (h:Rd k6 w F v rs) (h0:0≤left) (h1:left≤1048576):
  Calls Tryz.prog 67 #[v,left] w fun q w' =>q= .returned (.int .i64 (iR left (rs.length+iB rs)))∧Below w.heap.size w w':=by
 obtain⟨A,c,rfl,-,O,-⟩:=id h;have L:IntKind.i64.wrap (left-rs.length)=left-rs.length:=IntWalk.i64_in _ gO;have G:=jf rs;by_cases hneg:left-(rs.length:Int)<0
 ·have C:decide (left-(rs.length:Int)<0)=true:=jT hneg
  have a:=gP (show iR left (rs.length+iB rs)= -1 by unfold iR;rw[if_pos gO]);clear hneg;go_enter Tryz.func67,Tryz.ntmps67;go_wp2_with fail;go_ret;exact⟨by rw[a.out];rfl,gY _ _⟩
 ·have C:decide (left-(rs.length:Int)<0)=false:=iU hneg
  have z:=gP hneg;clear hneg;go_enter Tryz.func67,Tryz.ntmps67;go_wp2_with fail
  go_loopw [1,5] (fun l i wr=>∃(k:Nat) (m:Int),i= .int .i64 k∧k≤rs.length∧l= .int .i64 m∧Hid (m=left-(rs.length+iB (rs.take k))∧0≤m)∧Below w.heap.size w wr) (fun _ i _=>rs.length-(intOf i).toNat)
  case atStart=>exact⟨0,_,rfl,jP _,rfl,⟨by simp[iB],by have:=z.out;omega⟩,gY _ _⟩
  case round=>
   obtain⟨k,m,rfl,M,rfl,d,f⟩:=hrel;by_cases hlt:k<rs.length
   ·obtain⟨b,o,H,I,rfl,E,R,S,D⟩:=mV (h.below f) k hlt
    have P:(k:Int)<(rs.length:Int):=gO;have x:=d.out.2;have y:m≤1048576:=by have:=d.out.1;have:=jf (rs.take k);omega
    obtain⟨t,g⟩:∃t,iR m rs[k].ops.length=t:=⟨_,rfl⟩;have p:=gP g;go_wp2_with fail;refine(DB rs[k] _ m _ wr D x y).mono ?_;rintro q Q ⟨rfl,r⟩;rw[g];have n:=gQ f r f.size;apply_assumption;by_cases hneg:t<0
    ·have s:decide (t<0)=true:=jT hneg
     have a:=gP (show iR left (rs.length+iB rs)= -1 by
      have j:=d.out.1;have e:=p.out;have B:=mK rs k hlt;have J:=rM rs (k+1);unfold iR at e ⊢;rw[if_pos];split at e<;>omega)
     clear hneg g;go_wp2_with fail;go_ret;exact⟨by rw[a.out];rfl,n⟩
    ·have s:decide (t<0)=false:=iU hneg
     have HM':=gP (show t=left-(rs.length+iB (rs.take (k+1)))∧0≤t by
      have j:=d.out.1;have e:=p.out;have B:=mK rs k hlt;unfold iR at e;split at e<;>omega)
     clear hneg g;go_wp2_with fail;go_roundw
     case rel=>exact⟨k+1,t,by go_num,gO,rfl,HM',n⟩
     case measure=>exact ms
   ·have u:k=rs.length:=gO
    subst u;have a:=gP (show iR left (rs.length+iB rs)=m by
     have j:=d.out;rw[ld] at j;unfold iR;rw[if_neg gO];omega)
    go_wp2_with fail;go_ret;exact⟨by rw[a.out];rfl,f⟩
theorem Eg (a:iM) (v:Value) (left:Int) (F:Nat→Prop) (w:World) (h:Rd k6 w F v a.rules) (h0:0≤left) (h1:left≤1048576):
  Calls Tryz.prog 15 #[.agg #[v],left] w fun q w' =>q= .returned (.int .i64 (iR left (a.rules.length+iB a.rules)))∧Below w.heap.size w w':=by
 obtain⟨A,c,rfl,-,m,-⟩:=id h;obtain⟨t,d⟩:∃t,iR left (a.rules.length+iB a.rules)=t:=⟨_,rfl⟩;have f:=gU (gY w.heap.size w) (.cells #[.slice A a.rules.length c] 51);have i:=h.below f;by_cases hneg:t<0
 ·have k:decide (t<0)=true:=jT hneg
  have g:t= -1:=by rw[←d] at hneg ⊢;unfold iR at hneg ⊢;split at hneg<;>simp_all
  have j:=gP g;clear hneg g;go_enter Tryz.func15,Tryz.ntmps15;go_wp2_with fail;refine(xd _ a.rules left _ _ i h0 h1).mono ?_;rintro q l ⟨rfl,b⟩;rw[d];have e:=gV f b;apply_assumption;go_wp2_with fail;go_ret;exact⟨by rw[d,j.out];rfl,e⟩
 ·have k:decide (t<0)=false:=iU hneg
  clear hneg;go_enter Tryz.func15,Tryz.ntmps15;go_wp2_with fail;refine(xd _ a.rules left _ _ i h0 h1).mono ?_;rintro q l ⟨rfl,b⟩;rw[d];have e:=gV f b;apply_assumption;go_wp2_with fail;go_ret;exact⟨by rw[d];rfl,e⟩
theorem lg {left n t:Int} (h:iR left n=t) (ht:t<0) (hl:0≤left):left-n<0∧t= -1:=by
 unfold iR at h;split at h<;>omega
theorem kS {left n t:Int} (h:iR left n=t) (ht:¬t<0):t=left-n∧0≤t:=by
 unfold iR at h;split at h<;>omega
theorem lX {left n:Int} (h:left-n<0):iR left n= -1:=by unfold iR;rw[if_pos h]
theorem oe {left n:Int} (h:0≤left-n):iR left n=left-n:=by unfold iR;rw[if_neg gO]
theorem rA (v:Value) (n:Nat) (left:Int) (w:World) (hv:∃A c,v= .slice A n c) (hn:n≤9223372036854775807) (h0:0≤left) (h1:left≤1048576):
  Calls Tryz.prog 17 #[v,left] w fun q w' =>q= .returned (.int .i64 (iR left n))∧Below w.heap.size w w':=by
 obtain⟨A,c,rfl⟩:=hv;have d:IntKind.i64.wrap (left-n)=left-n:=IntWalk.i64_in _ gO;by_cases h:left-(n:Int)<0
 ·have b:decide (left-(n:Int)<0)=true:=jT h
  have a:=gP (show iR left n= -1 by simp[iR,h]);clear h;go_enter Tryz.func17,Tryz.ntmps17;go_wp2_with fail;go_ret;exact⟨by rw[a.out];rfl,gY _ _⟩
 ·have b:decide (left-(n:Int)<0)=false:=iU h
  have a:=gP (show iR left n=left-n by simp[iR,h]);clear h;go_enter Tryz.func17,Tryz.ntmps17;go_wp2_with fail;go_ret;exact⟨by rw[a.out];rfl,gY _ _⟩
theorem yy (v:Value) (n:Nat) (left:Int) (w:World) (hv:∃A c,v= .slice A n c) (hn:n≤9223372036854775807) (h0:0≤left) (h1:left≤1048576):
  Calls Tryz.prog 18 #[v,left] w fun q w' =>q= .returned (.int .i64 (iR left n))∧Below w.heap.size w w':=by
 obtain⟨A,c,rfl⟩:=hv;have d:IntKind.i64.wrap (left-n)=left-n:=IntWalk.i64_in _ gO;by_cases h:left-(n:Int)<0
 ·have b:decide (left-(n:Int)<0)=true:=jT h
  have a:=gP (show iR left n= -1 by simp[iR,h]);clear h;go_enter Tryz.func18,Tryz.ntmps18;go_wp2_with fail;go_ret;exact⟨by rw[a.out];rfl,gY _ _⟩
 ·have b:decide (left-(n:Int)<0)=false:=iU h
  have a:=gP (show iR left n=left-n by simp[iR,h]);clear h;go_enter Tryz.func18,Tryz.ntmps18;go_wp2_with fail;go_ret;exact⟨by rw[a.out];rfl,gY _ _⟩
def kb:List iM→Int
 | []=>0
 |r::rs=>(r.rules.length+iB r.rules)+kb rs
theorem kr:∀rs,0≤kb rs
 | []=>Int.le_refl _
 |r::rs=>by have:=kr rs;have h2:0≤(r.rules.length+iB r.rules):=(by have:=jf r.rules;omega);simp only[kb];omega
theorem qx:∀(rs:List iM) (k:Nat) (h:k<rs.length),kb (rs.take (k+1))=kb (rs.take k)+(rs[k].rules.length+iB rs[k].rules)
 |r::rs,0,h=>by simp[kb]
 |r::rs,k+1,h=>by
  have:=qx rs k (by simpa using h);simp only[List.take_succ_cons,kb,List.getElem_cons_succ] at this ⊢;omega
theorem tm:∀(rs:List iM) (k:Nat),kb (rs.take k)≤kb rs
 | [],k=>by simp
 |r::rs,0=>by simpa [kb] using kr (r::rs)
 |r::rs,k+1=>by have:=tm rs k;simp only[List.take_succ_cons,kb];omega
theorem rP:∀(rs:List iM) (r:iM),r∈rs→(r.rules.length+iB r.rules)≤kb rs
 |r'::rs,r,h=>by
  rcases List.mem_cons.1 h with rfl|h
  ·have:=kr rs;simp only[kb];omega
  ·have:=rP rs r h
   have h2:0≤(fun r:iM=>((r.rules.length+iB r.rules):Int)) r':=(fun r:iM=>(show 0≤((r.rules.length+iB r.rules):Int) from (by have:=jf r.rules;omega))) r';simp only[kb] at h2 ⊢;omega
theorem Dn (v:Value) (rs:List iM) (left:Int) (F:Nat→Prop) (w:World) (h:Rd oE w F v rs) (h0:0≤left) (h1:left≤1048576):
  Calls Tryz.prog 4 #[v,left] w fun q w' =>q= .returned (.int .i64 (iR left (rs.length+kb rs)))∧Below w.heap.size w w':=by
 obtain⟨A,c,rfl,-,O,-⟩:=id h;have L:IntKind.i64.wrap (left-rs.length)=left-rs.length:=IntWalk.i64_in _ gO;have G:=kr rs;by_cases hneg:left-(rs.length:Int)<0
 ·have C:decide (left-(rs.length:Int)<0)=true:=jT hneg
  have a:=gP (show iR left (rs.length+kb rs)= -1 by unfold iR;rw[if_pos gO]);clear hneg;go_enter Tryz.func4,Tryz.ntmps4;go_wp2_with fail;go_ret;exact⟨by rw[a.out];rfl,gY _ _⟩
 ·have C:decide (left-(rs.length:Int)<0)=false:=iU hneg
  have y:=gP hneg;clear hneg;go_enter Tryz.func4,Tryz.ntmps4;go_wp2_with fail
  go_loopw [1,5] (fun l i wr=>∃(k:Nat) (m:Int),i= .int .i64 k∧k≤rs.length∧l= .int .i64 m∧Hid (m=left-(rs.length+kb (rs.take k))∧0≤m)∧Below w.heap.size w wr) (fun _ i _=>rs.length-(intOf i).toNat)
  case atStart=>exact⟨0,_,rfl,jP _,rfl,⟨by simp[kb],by have:=y.out;omega⟩,gY _ _⟩
  case round=>
   obtain⟨k,m,rfl,M,rfl,d,e⟩:=hrel;by_cases hlt:k<rs.length
   ·obtain⟨b,o,H,I,rfl,E,R,D⟩:=qg (h.below e) k hlt
    have P:(k:Int)<(rs.length:Int):=gO;have g:=d.out.2;have x:m≤1048576:=by have:=d.out.1;have:=kr (rs.take k);omega
    obtain⟨t,f⟩:∃t,iR m ((rs[k].rules.length:Int)+iB rs[k].rules)=t:=⟨_,rfl⟩;have p:=gP f;go_wp2_with fail;refine(Eg rs[k] _ m _ wr D g x).mono ?_;rintro q Q ⟨rfl,r⟩;rw[f];have n:=gQ e r e.size;apply_assumption;by_cases hneg:t<0
    ·have s:decide (t<0)=true:=jT hneg
     have a:=gP (show iR left (rs.length+kb rs)= -1 from lX (by
      have j:=d.out.1;have z:=lg p.out hneg g;have B:=qx rs k hlt;have J:=tm rs (k+1);omega))
     clear hneg f;go_wp2_with fail;go_ret;exact⟨by rw[a.out];rfl,n⟩
    ·have s:decide (t<0)=false:=iU hneg
     have HM':=gP (show t=left-(rs.length+kb (rs.take (k+1)))∧0≤t by
      have j:=d.out.1;have z:=kS p.out hneg;have B:=qx rs k hlt;omega)
     clear hneg f;go_wp2_with fail;go_roundw
     case rel=>exact⟨k+1,t,by go_num,gO,rfl,HM',n⟩
     case measure=>exact ms
   ·have u:k=rs.length:=gO
    subst u;have a:=gP (show iR left (rs.length+kb rs)=m by
     have j:=d.out;rw[ld] at j;rw[oe gO];omega)
    go_wp2_with fail;go_ret;exact⟨by rw[a.out];rfl,e⟩
end Go.Proofs.YtgilllnjhahkfaaGreat
