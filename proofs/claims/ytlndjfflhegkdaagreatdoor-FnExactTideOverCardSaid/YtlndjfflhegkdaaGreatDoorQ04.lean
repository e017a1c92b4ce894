/- Parts of the proof: Ex1, Pure1, Pure2, Ok2, Ey1. -/
import Derived.OrdersHeld
import Derived.StillTail
import Derived.Deep.RegionLaw
import Derived.StillTailTactics
import Derived.BigRegion
import Derived.IntWalk
import Derived.Deep.MidRow
import Derived.Deep.DeepCutAuto
import Derived.Test.YtlndjfflhegkdaaGreatDoorQ01
set_option linter.unusedVariables false
set_option linter.unusedSimpArgs false
set_option linter.unusedSectionVars false
set_option maxHeartbeats 4000000
namespace Go.Proofs.YtlndjfflhegkdaaGreatDoor
open Go.RowKit
set_option maxRecDepth 100000
def hM (left n:Int):Int:=if left-n<0 then -1 else left-n
def iM:List jL→Int
 | []=>0
 |r::rs=>r.ops.length+iM rs
theorem jZ:∀rs,0≤iM rs
 | []=>Int.le_refl _
 |r::rs=>by have:=jZ rs;simp only[iM];omega
theorem pg:∀(rs:List jL) (k:Nat) (h:k<rs.length),iM (rs.take (k+1))=iM (rs.take k)+rs[k].ops.length
 |r::rs,0,h=>by simp[iM]
 |r::rs,k+1,h=>by
  have:=pg rs k (by simpa using h);simp only[List.take_succ_cons,iM,List.getElem_cons_succ];omega
theorem uT:∀(rs:List jL) (k:Nat),iM (rs.take k)≤iM rs
 | [],k=>by simp
 |r::rs,0=>by simpa [iM] using jZ (r::rs)
 |r::rs,k+1=>by have:=uT rs k;simp only[List.take_succ_cons,iM];omega
theorem te:∀(rs:List jL) (r:jL),r∈rs→(r.ops.length:Int)≤iM rs
 |r'::rs,r,h=>by
  rcases List.mem_cons.1 h with rfl|h
  ·have:=jZ rs;simp only[iM];omega
  ·have:=te rs r h;simp only[iM];omega
theorem Ab (v:Value) (n:Nat) (left:Int) (w:World) (hv:∃A c,v= .slice A n c) (hn:n≤9223372036854775807) (h0:0≤left) (h1:left≤1048576):
  Calls Tryz.prog 145 #[v,left] w fun q w' =>q= .returned (.int .i64 (hM left n))∧Below w.heap.size w w':=by
 obtain⟨A,c,rfl⟩:=hv;have d:IntKind.i64.wrap (left-n)=left-n:=IntWalk.i64_in _ fT;by_cases h:left-(n:Int)<0
 ·have b:decide (left-(n:Int)<0)=true:=iW h
  have a:=fS (show hM left n= -1 by simp[hM,h]);clear h;go_enter Tryz.func145,Tryz.ntmps145;go_wp2_with fail;go_ret;exact⟨by rw[a.out];rfl,gM _ _⟩
 ·have b:decide (left-(n:Int)<0)=false:=ia h
  have a:=fS (show hM left n=left-n by simp[hM,h]);clear h;go_enter Tryz.func145,Tryz.ntmps145;go_wp2_with fail;go_ret;exact⟨by rw[a.out];rfl,gM _ _⟩
theorem CJ (r:jL) (v:Value) (left:Int) (F:Nat→Prop) (w:World) (h:Rd qG w F v r.ops) (h0:0≤left) (h1:left≤1048576):
  Calls Tryz.prog 102 #[.agg #[r.kind,v],left] w fun q w' =>q= .returned (.int .i64 (hM left r.ops.length))∧Below w.heap.size w w':=by
 obtain⟨A,c,rfl,-,g,-⟩:=id h;obtain⟨t,b⟩:∃t,hM left r.ops.length=t:=⟨_,rfl⟩;have e:=gs (gM w.heap.size w) (.cells #[r.kind,.slice A r.ops.length c] 164);by_cases hneg:t<0
 ·have j:decide (t<0)=true:=iW hneg
  have f:t= -1:=by rw[←b] at hneg ⊢;unfold hM at hneg ⊢;split at hneg<;>simp_all
  have i:=fS f;clear hneg f;go_enter Tryz.func102,Tryz.ntmps102;go_wp2_with fail;refine(Ab _ r.ops.length left _ ⟨_,_,rfl⟩ g h0 h1).mono ?_;rintro q k ⟨rfl,a⟩;rw[b];have d:=gK e a;apply_assumption;go_wp2_with fail;go_ret;exact⟨by rw[b,i.out];rfl,d⟩
 ·have j:decide (t<0)=false:=ia hneg
  clear hneg;go_enter Tryz.func102,Tryz.ntmps102;go_wp2_with fail;refine(Ab _ r.ops.length left _ ⟨_,_,rfl⟩ g h0 h1).mono ?_;rintro q k ⟨rfl,a⟩;rw[b];have d:=gK e a;apply_assumption;go_wp2_with fail;go_ret;exact⟨by rw[b];rfl,d⟩
theorem wV (v:Value) (rs:List jL) (left:Int) (F:Nat→Prop) (w:World) (h:Rd kT w F v rs) (h0:0≤left) (h1:left≤1048576):
  Calls Tryz.prog 51 #[v,left] w fun q w' =>q= .returned (.int .i64 (hM left (rs.length+iM rs)))∧Below w.heap.size w w':=by
 obtain⟨A,c,rfl,-,O,-⟩:=id h;have L:IntKind.i64.wrap (left-rs.length)=left-rs.length:=IntWalk.i64_in _ fT;have G:=jZ rs;by_cases hneg:left-(rs.length:Int)<0
 ·have C:decide (left-(rs.length:Int)<0)=true:=iW hneg
  have a:=fS (show hM left (rs.length+iM rs)= -1 by unfold hM;rw[if_pos fT]);clear hneg;go_enter Tryz.func51,Tryz.ntmps51;go_wp2_with fail;go_ret;exact⟨by rw[a.out];rfl,gM _ _⟩
 ·have C:decide (left-(rs.length:Int)<0)=false:=ia hneg
  have z:=fS hneg;clear hneg;go_enter Tryz.func51,Tryz.ntmps51;go_wp2_with fail
  go_loopw [1,5] (fun l i wr=>∃(k:Nat) (m:Int),i= .int .i64 k∧k≤rs.length∧l= .int .i64 m∧Hid (m=left-(rs.length+iM (rs.take k))∧0≤m)∧Below w.heap.size w wr) (fun _ i _=>rs.length-(intOf i).toNat)
  case atStart=>exact⟨0,_,rfl,j8 _,rfl,⟨by simp[iM],by have:=z.out;omega⟩,gM _ _⟩
  case round=>
   obtain⟨k,m,rfl,M,rfl,d,f⟩:=hrel;by_cases hlt:k<rs.length
   ·obtain⟨b,o,H,I,rfl,E,R,S,D⟩:=mv (h.below f) k hlt
    have P:(k:Int)<(rs.length:Int):=fT;have x:=d.out.2;have y:m≤1048576:=by have:=d.out.1;have:=jZ (rs.take k);omega
    obtain⟨t,g⟩:∃t,hM m rs[k].ops.length=t:=⟨_,rfl⟩;have p:=fS g;go_wp2_with fail;refine(CJ rs[k] _ m _ wr D x y).mono ?_;rintro q Q ⟨rfl,r⟩;rw[g];have n:=fU f r f.size;apply_assumption;by_cases hneg:t<0
    ·have s:decide (t<0)=true:=iW hneg
     have a:=fS (show hM left (rs.length+iM rs)= -1 by
      have j:=d.out.1;have e:=p.out;have B:=pg rs k hlt;have J:=uT rs (k+1);unfold hM at e ⊢;rw[if_pos];split at e<;>omega)
     clear hneg g;go_wp2_with fail;go_ret;exact⟨by rw[a.out];rfl,n⟩
    ·have s:decide (t<0)=false:=ia hneg
     have HM':=fS (show t=left-(rs.length+iM (rs.take (k+1)))∧0≤t by
      have j:=d.out.1;have e:=p.out;have B:=pg rs k hlt;unfold hM at e;split at e<;>omega)
     clear hneg g;go_wp2_with fail;go_roundw
     case rel=>exact⟨k+1,t,by go_num,fT,rfl,HM',n⟩
     case measure=>exact ms
   ·have u:k=rs.length:=fT
    subst u;have a:=fS (show hM left (rs.length+iM rs)=m by
     have j:=d.out;rw[li] at j;unfold hM;rw[if_neg fT];omega)
    go_wp2_with fail;go_ret;exact⟨by rw[a.out];rfl,f⟩
theorem DI (a:iy) (v:Value) (left:Int) (F:Nat→Prop) (w:World) (h:Rd kT w F v a.rules) (h0:0≤left) (h1:left≤1048576):
  Calls Tryz.prog 28 #[.agg #[v],left] w fun q w' =>q= .returned (.int .i64 (hM left (a.rules.length+iM a.rules)))∧Below w.heap.size w w':=by
 obtain⟨A,c,rfl,-,m,-⟩:=id h;obtain⟨t,d⟩:∃t,hM left (a.rules.length+iM a.rules)=t:=⟨_,rfl⟩;have f:=gs (gM w.heap.size w) (.cells #[.slice A a.rules.length c] 71);have i:=h.below f;by_cases hneg:t<0
 ·have k:decide (t<0)=true:=iW hneg
  have g:t= -1:=by rw[←d] at hneg ⊢;unfold hM at hneg ⊢;split at hneg<;>simp_all
  have j:=fS g;clear hneg g;go_enter Tryz.func28,Tryz.ntmps28;go_wp2_with fail;refine(wV _ a.rules left _ _ i h0 h1).mono ?_;rintro q l ⟨rfl,b⟩;rw[d];have e:=gK f b;apply_assumption;go_wp2_with fail;go_ret;exact⟨by rw[d,j.out];rfl,e⟩
 ·have k:decide (t<0)=false:=ia hneg
  clear hneg;go_enter Tryz.func28,Tryz.ntmps28;go_wp2_with fail;refine(wV _ a.rules left _ _ i h0 h1).mono ?_;rintro q l ⟨rfl,b⟩;rw[d];have e:=gK f b;apply_assumption;go_wp2_with fail;go_ret;exact⟨by rw[d];rfl,e⟩
structure lA (r:im):Prop where
 x0:0≤r.x
 x1:r.x≤999
 y0:0≤r.y
 y1:r.y≤999
theorem lA.put {r:im} (h:lA r) (k v:Int):lA (r.put k v):=by
 obtain⟨a,b,c,d⟩:=h;unfold im.put;split
 ·exact⟨by show 0≤v % 1000;omega,by show v % 1000≤999;omega,c,d⟩
 ·exact⟨a,b,by show 0≤v % 1000;omega,by show v % 1000≤999;omega⟩
theorem im.put_sends (r:im) (k v:Int):(r.put k v).sends=r.sends:=by unfold im.put;split<;>rfl
theorem im.put_outs (r:im) (k v:Int):(r.put k v).outs=r.outs:=by unfold im.put;split<;>rfl
theorem xi {e:hY} {c:Int} {o:lJ} {r:im} (h:lA r):lA (jl e c o r).1:=by
 unfold jl
 repeat' (split<;>first|exact h|exact h.put _ _|skip)
 all_goals exact⟨h.x0,h.x1,h.y0,h.y1⟩
theorem yj (e:hY) (c:Int) (o:lJ) (r:im):(jl e c o r).1.sends.length≤r.sends.length+1∧(jl e c o r).1.outs.length≤r.outs.length+1:=by
 unfold jl
 repeat' (split<;>first|(rw[im.put_sends,im.put_outs];omega)|skip)
 all_goals simp
theorem wu {e:hY} {c:Int} {o:lJ} {r:im} (h:kg o=true):0≤(jl e c o r).2∧(jl e c o r).2≤8:=by
 unfold jl;unfold kg at h
 repeat' split
 all_goals first
  |(simp;done)
  |(rename_i h5 _;simp[*,ib] at h;have:=h.2.2.1;simp;omega)
theorem zj (e:hY) (c:Int):∀(n m:Nat) (l:List lJ) (r:im),l.length≤n→l.length≤m→kR e c n l r=kR e c m l r:=by
 intro n
 induction n with
 |zero=>intro m l r b d;cases l with
  |nil=>cases m<;>rfl
  |cons a l=>simp at b
 |succ n ih=>intro m l r b d;cases l with
  |nil=>cases m<;>rfl
  |cons a l=>
   cases m with
   |zero=>simp at d
   |succ m=>
    simp only[List.length_cons] at b d;simp only[kR];exact ih m _ _ (by simp;omega) (by simp;omega)
theorem tY (e:hY) (c:Int) (n:Nat) {ops:List lJ} {k:Nat} (r:im) (h:k<ops.length) (hn:ops.length≤n):
  kR e c n (ops.drop k) r=kR e c n (ops.drop (k+(jl e c ops[k] r).2.toNat+1)) (jl e c ops[k] r).1:=by
 rw[List.drop_eq_getElem_cons h];cases n with
 |zero=>omega
 |succ n=>
  simp only[kR];rw[List.drop_drop];rw[show k+1+(jl e c ops[k] r).2.toNat=k+(jl e c ops[k] r).2.toNat+1 by omega];exact zj e c _ _ _ _ (by simp;omega) (by simp;omega)
theorem ww (e:hY) (c:Int) (n:Nat) {ops:List lJ} {k:Nat} (r:im) (h:ops.length≤k):kR e c n (ops.drop k) r=r:=by
 rw[List.drop_eq_nil_of_le h];cases n<;>rfl
theorem nj (a:iy):io [a,⟨[]⟩,⟨[]⟩,⟨[]⟩]=je a:=by
 have b:je ⟨[]⟩=true:=by decide
 simp[io,b]
theorem tP {a:iy} (h:je a=true) {i:Nat} (hi:i<a.rules.length):mG a.rules[i].ops=true:=by
 simp only[je,Bool.and_eq_true] at h;have:=List.all_eq_true.1 h.1.2 a.rules[i] (List.getElem_mem hi);simp only[kV,Bool.and_eq_true] at this;exact this.2
theorem yC {l:List lJ} (h:mG l=true) {i:Nat} (hi:i<l.length):kg l[i]=true:=by
 simp only[mG,Bool.and_eq_true] at h;exact List.all_eq_true.1 h.1.1.1 l[i] (List.getElem_mem hi)
theorem wQ {l:List lJ} (h:mG l=true):l.length≤8:=by
 simp only[mG,Bool.and_eq_true,decide_eq_true_eq] at h;exact h.1.1.2
theorem wk {a:iy} (h:je a=true):a.rules.length≤4:=by
 simp only[je,Bool.and_eq_true,decide_eq_true_eq] at h;exact h.1.1
theorem mU (e:hY) (c:Int) (l:List jL) (r:im) {k:Nat} (h:k<l.length):
  jh e c (l.take (k+1)) r=(if l[k].kind=e.kind then kR e c l[k].ops.length l[k].ops (jh e c (l.take k) r) else jh e c (l.take k) r):=by
 rw[List.take_succ_eq_append_getElem h];unfold jh;rw[List.foldl_append];rfl
theorem vt {s:ll} (h:jE s=true):lA ⟨s.x,s.y,[],[]⟩:=by
 simp[jE,ib] at h;exact⟨h.1.1.1,h.1.1.2,h.1.2.1,h.1.2.2⟩
theorem oW (e:hY) (c:Int) (o:lJ) (r:im):(jl e c o r).1.sends=if o.d=6∧e.time+o.c≤40 then r.sends++[⟨e.time+o.c,o.a,e.to,c,(r.sends.length:Int),o.b,r.get o.e⟩] else r.sends:=by
 unfold jl;by_cases h1:o.d=1
 ·simp[h1,im.put_sends]
 by_cases h2:o.d=2
 ·simp[h2,im.put_sends]
 by_cases h3:o.d=3
 ·simp[h3,im.put_sends]
 by_cases h4:o.d=4
 ·simp[h4,im.put_sends]
 by_cases h5:o.d=5
 ·simp[h5];split<;>rfl
 by_cases h6:o.d=6
 ·simp[h6];split<;>rfl
 by_cases h7:o.d=7
 ·simp[h7]
 simp[h1,h2,h3,h4,h5,h6,h7]
theorem su (e:hY) (c:Int) (o:lJ) (r:im):(jl e c o r).1.outs=if o.d=7 then r.outs++[⟨e.time,e.to,c,(r.outs.length:Int),r.get o.a⟩] else r.outs:=by
 unfold jl;by_cases h1:o.d=1
 ·simp[h1,im.put_outs]
 by_cases h2:o.d=2
 ·simp[h2,im.put_outs]
 by_cases h3:o.d=3
 ·simp[h3,im.put_outs]
 by_cases h4:o.d=4
 ·simp[h4,im.put_outs]
 by_cases h5:o.d=5
 ·simp[h5];split<;>rfl
 by_cases h6:o.d=6
 ·simp[h6];split<;>rfl
 by_cases h7:o.d=7
 ·simp[h7]
 simp[h1,h2,h3,h4,h5,h6,h7]
structure CZ (e:hY) (c:Int) (r:im):Prop where
 run:lA r
 sends:∀s∈r.sends,e.time<s.time∧s.from_=e.to∧s.count=c∧s.time≤40
 outs:∀o∈r.outs,o.time=e.time∧o.proc=e.to∧0≤o.value∧o.value≤999
theorem lA.get {r:im} (h:lA r) (k:Int):0≤r.get k∧r.get k≤999:=by
 unfold im.get;split
 ·exact⟨h.x0,h.x1⟩
 ·exact⟨h.y0,h.y1⟩
theorem Ax {e:hY} {c:Int} {o:lJ} {r:im} (h:CZ e c r) (ho:kg o=true):CZ e c (jl e c o r).1:=by
 refine⟨xi h.run,?_,?_⟩
 ·rw[oW]
  split
  ·rename_i h6
   intro s b;rcases List.mem_append.1 b with b|b
   ·exact h.sends s b
   ·simp only[List.mem_singleton] at b
    subst b;have d:1≤o.c∧o.c≤40:=by
     have:=ho;simp[kg,ib,h6.1] at this;exact this.2.2.1
    exact⟨by simp only;omega,rfl,rfl,h6.2⟩
  ·exact h.sends
 ·rw[su]
  split
  ·intro q hq
   rcases List.mem_append.1 hq with hq|hq
   ·exact h.outs q hq
   ·simp only[List.mem_singleton] at hq
    subst hq;have:=h.run.get o.a;exact⟨rfl,rfl,this.1,this.2⟩
  ·exact h.outs
theorem ye (k:Int) (o:lJ) (l:List lJ):mL k (o::l)=(if o.d=k then 1 else 0)+mL k l:=by
 unfold mL;rw[List.filter_cons];by_cases h:o.d=k<;>simp[h];omega
theorem yg (k:Int) (l:List lJ) (j:Nat):mL k (l.drop j)≤mL k l:=((List.drop_sublist j l).filter _).length_le
theorem wv (e:hY) (c:Int):∀(n:Nat) (l:List lJ) (r:im),(kR e c n l r).sends.length≤r.sends.length+mL 6 l∧(kR e c n l r).outs.length≤r.outs.length+mL 7 l
 |0,_,r=>by simp[kR]
 |n+1,[],r=>by simp[kR]
 |n+1,o::l,r=>by
  simp only[kR];obtain⟨h1,h2⟩:=wv e c n (l.drop (jl e c o r).2.toNat) (jl e c o r).1;have d6:=yg 6 l (jl e c o r).2.toNat;have d7:=yg 7 l (jl e c o r).2.toNat;have s6:(jl e c o r).1.sends.length≤r.sends.length+if o.d=6 then 1 else 0:=by
   rw[oW];split
   ·rename_i h;simp[h.1]
   ·omega
  have a:(jl e c o r).1.outs.length≤r.outs.length+if o.d=7 then 1 else 0:=by
   rw[su];split
   ·simp
   ·omega
  rw[ye,ye];constructor<;>omega
theorem yb (l:List jL):mz l=true↔l.Pairwise (fun a b=>a.kind<b.kind):=by
 induction l with
 |nil=>simp[mz]
 |cons a l ih=>
  cases l with
  |nil=>simp[mz]
  |cons b l=>
   simp only[mz,Bool.and_eq_true,decide_eq_true_eq,ih];constructor
   ·rintro⟨d,c⟩
    refine List.pairwise_cons.2 ⟨fun q hq=>?_,c⟩;rcases List.mem_cons.1 hq with rfl|hq
    ·exact d
    ·have:=(List.pairwise_cons.1 c).1 q hq;omega
   ·intro h
    obtain⟨d,c⟩:=List.pairwise_cons.1 h;exact⟨d b (List.mem_cons_self ..),c⟩
theorem rD (e:hY) (c:Int):∀(l:List jL) (r:im),(∀q∈l,q.kind≠e.kind)→jh e c l r=r
 | [],r,_=>rfl
 |q::l,r,h=>by
  have h1:jh e c (q::l) r=jh e c l (if q.kind=e.kind then kR e c q.ops.length q.ops r else r):=rfl;rw[h1,if_neg (h q (List.mem_cons_self ..))];exact rD e c l r (fun q' hq=>h q' (List.mem_cons_of_mem _ hq))
theorem sP (e:hY) (c:Int):∀(l:List jL) (r:im),mz l=true→jh e c l r=r∨∃q∈l,q.kind=e.kind∧jh e c l r=kR e c q.ops.length q.ops r
 | [],r,_=>Or.inl rfl
 |q::l,r,h=>by
  have hp:=(yb _).1 h;obtain⟨h1,h2⟩:=List.pairwise_cons.1 hp;have e1:jh e c (q::l) r=jh e c l (if q.kind=e.kind then kR e c q.ops.length q.ops r else r):=rfl;by_cases hk:q.kind=e.kind
  ·right
   rw[e1,if_pos hk];exact⟨q,List.mem_cons_self ..,hk,rD e c l _ (fun q' hq=>by have:=h1 q' hq;omega)⟩
  ·rw[e1,if_neg hk]
   rcases sP e c l r ((yb _).2 h2) with h3|⟨q',hq,hk',h3⟩
   ·exact Or.inl h3
   ·exact Or.inr ⟨q',List.mem_cons_of_mem _ hq,hk',h3⟩
def E8 (a:iy) (k:Int):iy:=⟨a.rules.filter (fun q=>decide (q.kind=k))⟩
structure Sh (m:Int) (r r':im):Prop where
 x:r'.x=r.x
 y:r'.y=r.y
 outs:r'.outs.length=r.outs.length
 sends:r'.sends.map (fun q=>(q.time,q.to,q.kind,q.arg))=(r.sends.filter (fun q=>decide (q.time+m≤40))).map (fun q=>(q.time+m,q.to,q.kind,q.arg))
theorem iF (a l h:Int) (w:World):Calls Tryz.prog 82 #[a,l,h] w fun e w' =>e= .returned (.bool (ib a l h))∧w' =w:=by
 by_cases h1:l≤a<;>by_cases h2:a≤h
 all_goals
  go_enter Tryz.func82,Tryz.ntmps82;go_wp2;go_ret;exact⟨by simp[ib,h1,h2],rfl⟩
theorem rK (a:Int) (w:World):Calls Tryz.prog 184 #[a] w fun e w' =>e= .returned (.bool (ib a 0 1))∧w' =w:=by
 go_enter Tryz.func184,Tryz.ntmps184;go_wp2_with (first|(go_at_call 82;refine(iF _ _ _ _).mono ?_;rintro e w' ⟨rfl,rfl⟩));go_ret;exact⟨rfl,rfl⟩
theorem lC (a:Int) (w:World):Calls Tryz.prog 122 #[a] w fun e w' =>e= .returned (.bool (ib a 0 3))∧w' =w:=by
 go_enter Tryz.func122,Tryz.ntmps122;go_wp2_with (first|(go_at_call 82;refine(iF _ _ _ _).mono ?_;rintro e w' ⟨rfl,rfl⟩));go_ret;exact⟨rfl,rfl⟩
theorem pP (a:Int) (w:World):Calls Tryz.prog 163 #[a] w fun e w' =>e= .returned (.bool (ib a 0 3))∧w' =w:=by
 go_enter Tryz.func163,Tryz.ntmps163;go_wp2_with (first|(go_at_call 82;refine(iF _ _ _ _).mono ?_;rintro e w' ⟨rfl,rfl⟩));go_ret;exact⟨rfl,rfl⟩
theorem rJ (a:Int) (w:World):Calls Tryz.prog 123 #[a] w fun e w' =>e= .returned (.bool (ib a 0 999))∧w' =w:=by
 go_enter Tryz.func123,Tryz.ntmps123;go_wp2_with (first|(go_at_call 82;refine(iF _ _ _ _).mono ?_;rintro e w' ⟨rfl,rfl⟩));go_ret;exact⟨rfl,rfl⟩
theorem kw (x y c:Int) (w:World):Calls Tryz.prog 110 #[.agg #[x,y,c]] w fun r w' =>r= .returned (.bool (jE ⟨x,y,c⟩))∧Below w.heap.size w w':=by
 go_enter Tryz.func110,Tryz.ntmps110;go_wp2_with (first|(go_at_call 60;refine(nI _ _).mono ?_;rintro e w' ⟨rfl,rfl⟩)|(go_at_call 31;refine(ii _ _ _ _).mono ?_;rintro e w' ⟨rfl,rfl⟩))
 all_goals
  go_ret;exact⟨by simp[jE, *],gs (gM _ _) _⟩
theorem nf (x y c:Int) (w:World):Calls Tryz.prog 139 #[.agg #[x,y,c]] w fun r w' =>r= .returned (.bool (jE ⟨x,y,c⟩))∧Below w.heap.size w w':=by
 go_enter Tryz.func139,Tryz.ntmps139;go_wp2_with (first|(go_at_call 123;refine(rJ _ _).mono ?_;rintro e w' ⟨rfl,rfl⟩)|(go_at_call 82;refine(iF _ _ _ _).mono ?_;rintro e w' ⟨rfl,rfl⟩))
 all_goals
  go_ret;exact⟨by simp[jE, *],gs (gM _ _) _⟩
theorem kS (a b c d e f g:Int) (w:World):Calls Tryz.prog 106 #[.agg #[a,b,c,d,e,f,g]] w fun r w' =>r= .returned (.bool (i7 ⟨a,b,c,d,e,f,g⟩))∧Below w.heap.size w w':=by
 go_enter Tryz.func106,Tryz.ntmps106;go_wp2_with (first|(go_at_call 60;refine(nI _ _).mono ?_;rintro e w' ⟨rfl,rfl⟩)|(go_at_call 59;refine(km _ _).mono ?_;rintro e w' ⟨rfl,rfl⟩)|(go_at_call 31;refine(ii _ _ _ _).mono ?_;rintro e w' ⟨rfl,rfl⟩))
 all_goals
  go_ret;exact⟨by simp[i7, *],gs (gM _ _) _⟩
theorem oB (a b c d e f g:Int) (w:World):Calls Tryz.prog 164 #[.agg #[a,b,c,d,e,f,g]] w fun r w' =>r= .returned (.bool (i7 ⟨a,b,c,d,e,f,g⟩))∧Below w.heap.size w w':=by
 go_enter Tryz.func164,Tryz.ntmps164;go_wp2_with (first|(go_at_call 123;refine(rJ _ _).mono ?_;rintro e w' ⟨rfl,rfl⟩)|(go_at_call 122;refine(lC _ _).mono ?_;rintro e w' ⟨rfl,rfl⟩)|(go_at_call 163;refine(pP _ _).mono ?_;rintro e w' ⟨rfl,rfl⟩)|(go_at_call 82;refine(iF _ _ _ _).mono ?_;rintro e w' ⟨rfl,rfl⟩))
 all_goals
  go_ret;exact⟨by simp[i7, *],gs (gM _ _) _⟩
theorem xw (d a b c e:Int) (w:World):Calls Tryz.prog 162 #[.agg #[d,a,b,c,e]] w fun r w' =>r= .returned (.bool (kg ⟨d,a,b,c,e⟩))∧Below w.heap.size w w':=by
 by_cases k:d=1∨d=2∨d=3∨d=4∨d=5∨d=6∨d=7
 ·rcases k with rfl|rfl|rfl|rfl|rfl|rfl|rfl
  all_goals
   go_enter Tryz.func162,Tryz.ntmps162;go_wp2_with (first|(go_at_call 184;refine(rK _ _).mono ?_;rintro e w' ⟨rfl,rfl⟩)|(go_at_call 123;refine(rJ _ _).mono ?_;rintro e w' ⟨rfl,rfl⟩)|(go_at_call 122;refine(lC _ _).mono ?_;rintro e w' ⟨rfl,rfl⟩)|(go_at_call 163;refine(pP _ _).mono ?_;rintro e w' ⟨rfl,rfl⟩)|(go_at_call 82;refine(iF _ _ _ _).mono ?_;rintro e w' ⟨rfl,rfl⟩))
   all_goals
    go_ret;exact⟨by simp[kg, *],gs (gM _ _) _⟩
 ·have g:(d==1)=false:=by simp;omega
  have i:(d==2)=false:=by simp;omega
  have j:(d==3)=false:=by simp;omega
  have l:(d==4)=false:=by simp;omega
  have m:(d==5)=false:=by simp;omega
  have n:(d==6)=false:=by simp;omega
  have o:(d==7)=false:=by simp;omega
  have f:kg ⟨d,a,b,c,e⟩=false:=by simp only[kg];rw[if_neg fT,if_neg fT,if_neg fT,if_neg fT,if_neg fT]
  clear k;go_enter Tryz.func162,Tryz.ntmps162;go_wp2_with (first|(go_at_call 184;refine(rK _ _).mono ?_;rintro e w' ⟨rfl,rfl⟩)|(go_at_call 123;refine(rJ _ _).mono ?_;rintro e w' ⟨rfl,rfl⟩)|(go_at_call 122;refine(lC _ _).mono ?_;rintro e w' ⟨rfl,rfl⟩)|(go_at_call 163;refine(pP _ _).mono ?_;rintro e w' ⟨rfl,rfl⟩)|(go_at_call 82;refine(iF _ _ _ _).mono ?_;rintro e w' ⟨rfl,rfl⟩))
  all_goals
   go_ret;exact⟨by simp[f],gs (gM _ _) _⟩
theorem iE {left n t:Int} (h:hM left n=t) (ht:t<0) (hl:0≤left):left-n<0∧t= -1:=by
 unfold hM at h;split at h<;>omega
theorem iz {left n t:Int} (h:hM left n=t) (ht:¬t<0):t=left-n∧0≤t:=by
 unfold hM at h;split at h<;>omega
theorem iZ {left n:Int} (h:left-n<0):hM left n= -1:=by unfold hM;rw[if_pos h]
theorem lp {left n:Int} (h:0≤left-n):hM left n=left-n:=by unfold hM;rw[if_neg fT]
theorem pp (v:Value) (n:Nat) (left:Int) (w:World) (hv:∃A c,v= .slice A n c) (hn:n≤9223372036854775807) (h0:0≤left) (h1:left≤1048576):
  Calls Tryz.prog 53 #[v,left] w fun q w' =>q= .returned (.int .i64 (hM left n))∧Below w.heap.size w w':=by
 obtain⟨A,c,rfl⟩:=hv;have d:IntKind.i64.wrap (left-n)=left-n:=IntWalk.i64_in _ fT;by_cases h:left-(n:Int)<0
 ·have b:decide (left-(n:Int)<0)=true:=iW h
  have a:=fS (show hM left n= -1 by simp[hM,h]);clear h;go_enter Tryz.func53,Tryz.ntmps53;go_wp2_with fail;go_ret;exact⟨by rw[a.out];rfl,gM _ _⟩
 ·have b:decide (left-(n:Int)<0)=false:=ia h
  have a:=fS (show hM left n=left-n by simp[hM,h]);clear h;go_enter Tryz.func53,Tryz.ntmps53;go_wp2_with fail;go_ret;exact⟨by rw[a.out];rfl,gM _ _⟩
theorem rZ (v:Value) (n:Nat) (left:Int) (w:World) (hv:∃A c,v= .slice A n c) (hn:n≤9223372036854775807) (h0:0≤left) (h1:left≤1048576):
  Calls Tryz.prog 13 #[v,left] w fun q w' =>q= .returned (.int .i64 (hM left n))∧Below w.heap.size w w':=by
 obtain⟨A,c,rfl⟩:=hv;have d:IntKind.i64.wrap (left-n)=left-n:=IntWalk.i64_in _ fT;by_cases h:left-(n:Int)<0
 ·have b:decide (left-(n:Int)<0)=true:=iW h
  have a:=fS (show hM left n= -1 by simp[hM,h]);clear h;go_enter Tryz.func13,Tryz.ntmps13;go_wp2_with fail;go_ret;exact⟨by rw[a.out];rfl,gM _ _⟩
 ·have b:decide (left-(n:Int)<0)=false:=ia h
  have a:=fS (show hM left n=left-n by simp[hM,h]);clear h;go_enter Tryz.func13,Tryz.ntmps13;go_wp2_with fail;go_ret;exact⟨by rw[a.out];rfl,gM _ _⟩
def iS:List iy→Int
 | []=>0
 |r::rs=>(r.rules.length+iM r.rules)+iS rs
theorem kv:∀rs,0≤iS rs
 | []=>Int.le_refl _
 |r::rs=>by have:=kv rs;have h2:0≤(r.rules.length+iM r.rules):=(by have:=jZ r.rules;omega);simp only[iS];omega
theorem pJ:∀(rs:List iy) (k:Nat) (h:k<rs.length),iS (rs.take (k+1))=iS (rs.take k)+(rs[k].rules.length+iM rs[k].rules)
 |r::rs,0,h=>by simp[iS]
 |r::rs,k+1,h=>by
  have:=pJ rs k (by simpa using h);simp only[List.take_succ_cons,iS,List.getElem_cons_succ] at this ⊢;omega
theorem wl:∀(rs:List iy) (k:Nat),iS (rs.take k)≤iS rs
 | [],k=>by simp
 |r::rs,0=>by simpa [iS] using kv (r::rs)
 |r::rs,k+1=>by have:=wl rs k;simp only[List.take_succ_cons,iS];omega
theorem tQ:∀(rs:List iy) (r:iy),r∈rs→(r.rules.length+iM r.rules)≤iS rs
 |r'::rs,r,h=>by
  rcases List.mem_cons.1 h with rfl|h
  ·have:=kv rs;simp only[iS];omega
  ·have:=tQ rs r h
   have h2:0≤(fun r:iy=>((r.rules.length+iM r.rules):Int)) r':=(fun r:iy=>(show 0≤((r.rules.length+iM r.rules):Int) from (by have:=jZ r.rules;omega))) r';simp only[iS] at h2 ⊢;omega
theorem CE (v:Value) (rs:List iy) (left:Int) (F:Nat→Prop) (w:World) (h:Rd me w F v rs) (h0:0≤left) (h1:left≤1048576):
  Calls Tryz.prog 9 #[v,left] w fun q w' =>q= .returned (.int .i64 (hM left (rs.length+iS rs)))∧Below w.heap.size w w':=by
 obtain⟨A,c,rfl,-,O,-⟩:=id h;have L:IntKind.i64.wrap (left-rs.length)=left-rs.length:=IntWalk.i64_in _ fT;have G:=kv rs;by_cases hneg:left-(rs.length:Int)<0
 ·have C:decide (left-(rs.length:Int)<0)=true:=iW hneg
  have a:=fS (show hM left (rs.length+iS rs)= -1 by unfold hM;rw[if_pos fT]);clear hneg;go_enter Tryz.func9,Tryz.ntmps9;go_wp2_with fail;go_ret;exact⟨by rw[a.out];rfl,gM _ _⟩
 ·have C:decide (left-(rs.length:Int)<0)=false:=ia hneg
  have y:=fS hneg;clear hneg;go_enter Tryz.func9,Tryz.ntmps9;go_wp2_with fail
  go_loopw [1,5] (fun l i wr=>∃(k:Nat) (m:Int),i= .int .i64 k∧k≤rs.length∧l= .int .i64 m∧Hid (m=left-(rs.length+iS (rs.take k))∧0≤m)∧Below w.heap.size w wr) (fun _ i _=>rs.length-(intOf i).toNat)
  case atStart=>exact⟨0,_,rfl,j8 _,rfl,⟨by simp[iS],by have:=y.out;omega⟩,gM _ _⟩
  case round=>
   obtain⟨k,m,rfl,M,rfl,d,e⟩:=hrel;by_cases hlt:k<rs.length
   ·obtain⟨b,o,H,I,rfl,E,R,D⟩:=oV (h.below e) k hlt
    have P:(k:Int)<(rs.length:Int):=fT;have g:=d.out.2;have x:m≤1048576:=by have:=d.out.1;have:=kv (rs.take k);omega
    obtain⟨t,f⟩:∃t,hM m ((rs[k].rules.length:Int)+iM rs[k].rules)=t:=⟨_,rfl⟩;have p:=fS f;go_wp2_with fail;refine(DI rs[k] _ m _ wr D g x).mono ?_;rintro q Q ⟨rfl,r⟩;rw[f];have n:=fU e r e.size;apply_assumption;by_cases hneg:t<0
    ·have s:decide (t<0)=true:=iW hneg
     have a:=fS (show hM left (rs.length+iS rs)= -1 from iZ (by
      have j:=d.out.1;have z:=iE p.out hneg g;have B:=pJ rs k hlt;have J:=wl rs (k+1);omega))
     clear hneg f;go_wp2_with fail;go_ret;exact⟨by rw[a.out];rfl,n⟩
    ·have s:decide (t<0)=false:=ia hneg
     have HM':=fS (show t=left-(rs.length+iS (rs.take (k+1)))∧0≤t by
      have j:=d.out.1;have z:=iz p.out hneg;have B:=pJ rs k hlt;omega)
     clear hneg f;go_wp2_with fail;go_roundw
     case rel=>exact⟨k+1,t,by go_num,fT,rfl,HM',n⟩
     case measure=>exact ms
   ·have u:k=rs.length:=fT
    subst u;have a:=fS (show hM left (rs.length+iS rs)=m by
     have j:=d.out;rw[li] at j;rw[lp fT];omega)
    go_wp2_with fail;go_ret;exact⟨by rw[a.out];rfl,e⟩
end Go.Proofs.YtlndjfflhegkdaaGreatDoor
