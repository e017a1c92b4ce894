/- Parts of the proof: Mod, Heap, Base, Reg. -/
import Derived.Test.YtgilllnjhahkfaaGreatProg
import Derived.WalkKit
import Derived.WalkSpells
import Derived.WalkLawsBesides
import Derived.Deep.QuietTactic
import Derived.BigQuiet
import Derived.Deep.LoopGhost
import Derived.KernelRfl
import Derived.OrdersHeld
import Derived.StillTail
set_option linter.unusedVariables false
set_option linter.unusedSimpArgs false
set_option linter.unusedSectionVars false
set_option maxHeartbeats 4000000
namespace Go.Proofs.YtgilllnjhahkfaaGreat
open Go.RowKit
structure mi where
 d:Int
 a:Int
 b:Int
 c:Int
 e:Int
 deriving DecidableEq,Inhabited
structure jJ where
 kind:Int
 ops:List mi
 deriving DecidableEq,Inhabited
structure iM where
 rules:List jJ
 deriving DecidableEq,Inhabited
structure mL where
 x:Int
 y:Int
 c:Int
 deriving DecidableEq,Inhabited
structure im where
 time:Int
 to:Int
 from_:Int
 count:Int
 n:Int
 kind:Int
 arg:Int
 deriving DecidableEq,Inhabited
structure iQ where
 time:Int
 proc:Int
 count:Int
 n:Int
 value:Int
 deriving DecidableEq,Inhabited
def yw:mL:=⟨0,0,0⟩
def i2 (v l h:Int):Bool:=decide (l≤v)&&decide (v≤h)
def kC (o:mi):Bool:=
 if o.d=1∨o.d=3 then i2 o.a 0 1&&(i2 o.b 0 999&&(o.c==0&&o.e==0))
 else if o.d=2 then i2 o.a 0 1&&(i2 o.b 0 1&&(o.c==0&&o.e==0))
 else if o.d=4∨o.d=7 then i2 o.a 0 1&&(o.b==0&&(o.c==0&&o.e==0))
 else if o.d=5 then i2 o.a 0 1&&(i2 o.b 0 999&&(i2 o.c 1 8&&o.e==0))
 else if o.d=6 then i2 o.a 0 3&&(i2 o.b 0 3&&(i2 o.c 1 40&&i2 o.e 0 1))
 else false
def ni (k:Int) (l:List mi):Nat:=(l.filter fun o=>decide (o.d=k)).length
def mD (l:List mi):Bool:=l.all kC&&decide (l.length≤8)&&decide (ni 6 l≤2)&&decide (ni 7 l≤2)
def lj (r:jJ):Bool:=i2 r.kind 0 3&&mD r.ops
def mN:List jJ→Bool
 | []=>true
 | [_]=>true
 |a::b::l=>decide (a.kind<b.kind)&&mN (b::l)
theorem wE (l:List jJ) (a:jJ):mN (l++[a])=(mN l&&match l.getLast? with|none=>true|some b=>decide (b.kind<a.kind)):=by
 induction l with
 |nil=>rfl
 |cons x l ih=>
  cases l with
  |nil=>simp[mN]
  |cons y l=>
   simp only[List.cons_append,mN] at ih ⊢;rw[ih,Bool.and_assoc];simp[List.getLast?_cons_cons]
def je (a:iM):Bool:=decide (a.rules.length≤4)&&a.rules.all lj&&mN a.rules
def ji (l:List iM):Bool:=decide (l.length=4)&&l.all je
def kR (s:mL):Bool:=i2 s.x 0 999&&i2 s.y 0 999&&i2 s.c 0 12
def jM (e:im):Bool:=i2 e.time 0 40&&i2 e.to 0 3&&i2 e.from_ (-1) 3&&i2 e.count 0 12&&i2 e.n 0 3&&i2 e.kind 0 3&&i2 e.arg 0 999
def om (o:iQ):Bool:=i2 o.time 0 40&&i2 o.proc 0 3&&i2 o.count 0 11&&i2 o.n 0 1&&i2 o.value 0 999
structure iI where
 x:Int
 y:Int
 sends:List im
 outs:List iQ
 deriving DecidableEq,Inhabited
def iI.get (r:iI) (k:Int):Int:=if k=0 then r.x else r.y
def iI.put (r:iI) (k v:Int):iI:=if k=0 then {r with x:=v % 1000} else {r with y:=v % 1000}
def jV (e:im) (c:Int) (o:mi) (r:iI):iI×Int:=
 if o.d=1 then (r.put o.a o.b,0)
 else if o.d=2 then (r.put o.a (r.get o.a+r.get o.b),0)
 else if o.d=3 then (r.put o.a (r.get o.a+o.b),0)
 else if o.d=4 then (r.put o.a e.arg,0)
 else if o.d=5 then (if r.get o.a<o.b then (r,o.c) else (r,0))
 else if o.d=6 then (if e.time+o.c≤40 then ({r with sends:=r.sends++[⟨e.time+o.c,o.a,e.to,c,(r.sends.length:Int),o.b,r.get o.e⟩]},0) else (r,0))
 else if o.d=7 then ({r with outs:=r.outs++[⟨e.time,e.to,c,(r.outs.length:Int),r.get o.a⟩]},0)
 else (r,0)
def kX (e:im) (c:Int):Nat→List mi→iI→iI
 |0,_,r=>r
 |_,[],r=>r
 |n+1,o::l,r=>kX e c n (l.drop (jV e c o r).2.toNat) (jV e c o r).1
def jx (e:im) (c:Int) (l:List jJ) (r:iI):iI:=
 l.foldl (fun r q=>if q.kind=e.kind then kX e c q.ops.length q.ops r else r) r
def iO (a:iM) (s:mL) (e:im):mL×List im×List iQ:=
 if je a&&kR s&&jM e then
  if s.c=12 then (s,[],[])
  else
   let r:=jx e s.c a.rules ⟨s.x,s.y,[],[]⟩
   (⟨r.x,r.y,s.c+1⟩,r.sends,r.outs)
 else (yw,[],[])
section
structure i6 {α:Type} (lt:α→α→Bool):Prop where
 asymm:∀a b,lt a b=true→lt b a=false
 trans:∀a b c,lt a b=true→lt b c=true→lt a c=true
 total:∀a b,lt a b=false→lt b a=false→a=b
section
variable {α:Type} [Inhabited α] {lt:α→α→Bool}
theorem i6.le_trans (O:i6 lt) {a b c:α} (h1:lt b a=false) (h2:lt c b=false):lt c a=false:=by
 cases h3:lt a b with
 |true=>
  cases h4:lt c a with
  |true=>have:=O.trans c a b h4 h3;rw[this] at h2;cases h2
  |false=>rfl
 |false=>
  have:=O.total a b h3 h1;subst this;exact h2
theorem i6.irrefl (O:i6 lt) (a:α):lt a a=false:=by
 cases h:lt a a with
 |true=>have:=O.asymm a a h;rw[h] at this;cases this
 |false=>rfl
def kK (l:List α) (i:Nat):α:=l.getD i default
theorem iP {l:List α} {i:Nat} (h:i<l.length):kK l i=l[i]:=by simp[kK,List.getD,h]
def pa (l:List α) (i j:Nat):List α:=(l.set i (kK l j)).set j (kK l i)
theorem le (l:List α) (i j:Nat):(pa l i j).length=l.length:=by simp[pa]
theorem uj (l:List α) (i:Nat) (x:α) (k:Nat) (hi:i<l.length):kK (l.set i x) k=if k=i then x else kK l k:=by
 unfold kK List.getD;by_cases h:k=i
 ·subst h;simp[hi]
 ·rw[List.getElem?_set_ne (Ne.symm h),if_neg h]
theorem oq (l:List α) (i j k:Nat) (hi:i<l.length) (hj:j<l.length):kK (pa l i j) k=if k=j then kK l i else if k=i then kK l j else kK l k:=by
 unfold pa;rw[uj _ _ _ _ (by simpa using hj),uj _ _ _ _ hi]
theorem uO (l:List α) (i j:Nat) (hi:i<l.length) (hj:j<l.length):(pa l i j).Perm l:=by
 unfold pa;rw[iP hi,iP hj];exact List.set_set_perm hi hj
variable (lt)
def oI:Nat→List α→Nat→List α
 |0,l,_=>l
 |n+1,l,k=>if k=0 then l else if lt (kK l k) (kK l ((k-1) / 2))=true then oI n (pa l k ((k-1) / 2)) ((k-1) / 2) else l
def mr (l:List α) (x:α):List α:=oI lt l.length (l++[x]) l.length
def na (l:List α) (k:Nat):Nat:=if 2*k+1+1<l.length∧lt (kK l (2*k+1+1)) (kK l (2*k+1))=true then 2*k+1+1 else 2*k+1
def lI:Nat→List α→Nat→List α
 |0,l,_=>l
 |n+1,l,k=>if l.length≤2*k+1 then l else if lt (kK l (na lt l k)) (kK l k)=true then lI n (pa l k (na lt l k)) (na lt l k) else l
def kB (l:List α):List α:=lI lt l.length ((l.set 0 (kK l (l.length-1))).take (l.length-1)) 0
def kA:Nat→List α→List α
 |0,_=>[]
 |n+1,l=>if l.length=0 then [] else kK l 0::kA n (kB lt l)
variable {lt}
def nW (lt:α→α→Bool) (l:List α):Prop:=∀i,0<i→i<l.length→lt (kK l i) (kK l ((i-1) / 2))=false
theorem uS:∀(n m:Nat) (l:List α) (k:Nat),k≤n→k≤m→oI lt n l k=oI lt m l k
 |0,0,_,_,_,_=>rfl
 |0,m+1,l,k,h,_=>by obtain rfl:k=0:=by omega
                    simp[oI]
 |n+1,0,l,k,_,h=>by obtain rfl:k=0:=by omega
                    simp[oI]
 |n+1,m+1,l,k,h1,h2=>by
  simp only[oI];split
  ·rfl
  ·split
   ·exact uS n m _ _ (by omega) (by omega)
   ·rfl
theorem yk:∀(n:Nat) (l:List α) (k:Nat),k<l.length→(oI lt n l k).Perm l
 |0,l,k,_=>List.Perm.refl _
 |n+1,l,k,h=>by
  simp only[oI];split
  ·exact List.Perm.refl _
  ·split
   ·exact(yk n _ _ (by rw[le];omega)).trans (uO l _ _ h (by omega))
   ·exact List.Perm.refl _
theorem yl (O:i6 lt):∀(n:Nat) (l:List α) (k:Nat),k≤n→k<l.length→
  (∀i,0<i→i<l.length→i≠k→lt (kK l i) (kK l ((i-1) / 2))=false)→(∀c,c<l.length→0<c→(c-1) / 2=k→0<k→lt (kK l c) (kK l ((k-1) / 2))=false)→nW lt (oI lt n l k)
 |0,l,k,hn,hk,h1,h2=>by
  obtain rfl:k=0:=by omega
  exact fun i b a=>h1 i b a (by omega)
 |n+1,l,k,hn,hk,h1,h2=>by
  simp only[oI];split
  ·rename_i b;subst b;exact fun i b a=>h1 i b a (by omega)
  ·rename_i hk0
   split
   ·rename_i hlt
    have g:(k-1) / 2<l.length:=by omega
    have s:(k-1) / 2<k:=by omega
    refine yl O n _ _ (by omega) (by rw[le];omega) (fun i f a j=>?_) (fun c o p q r=>?_)
    ·rw[le] at a
     rw[oq l _ _ _ hk g,oq l _ _ _ hk g];by_cases e1:i=k
     ·subst e1
      rw[if_neg j,if_pos rfl,if_pos rfl];exact O.asymm _ _ hlt
     ·rw[if_neg j,if_neg e1]
      by_cases e2:(i-1) / 2=(k-1) / 2
      ·rw[if_pos e2]
       have d:=h1 i f a e1;rw[e2] at d;exact O.le_trans (O.asymm _ _ hlt) d
      ·rw[if_neg e2]
       by_cases e3:(i-1) / 2=k
       ·rw[if_pos e3];exact h2 i a f e3 (by omega)
       ·rw[if_neg e3];exact h1 i f a e1
    ·rw[le] at o
     rw[oq l _ _ _ hk g,oq l _ _ _ hk g,if_neg (by omega:¬c=(k-1) / 2),if_neg (by omega:¬((k-1) / 2-1) / 2=(k-1) / 2),if_neg (by omega:¬((k-1) / 2-1) / 2=k)];have m:=h1 ((k-1) / 2) r g (by omega);by_cases e1:c=k
     ·rw[if_pos e1];exact m
     ·rw[if_neg e1]
      have d:=h1 c p o e1;rw[q] at d;exact O.le_trans m d
   ·rename_i hlt
    intro i b a;by_cases e:i=k
    ·subst e;simpa using hlt
    ·exact h1 i b a e
theorem vS (l:List α) (x:α) (i:Nat) (h:i<l.length):kK (l++[x]) i=kK l i:=by
 unfold kK List.getD;rw[List.getElem?_append_left h]
theorem Aa (l:List α) (x:α):(mr lt l x).Perm (l++[x]):=yk _ _ _ (by simp)
theorem AM (O:i6 lt) {l:List α} (h:nW lt l) (x:α):nW lt (mr lt l x):=by
 refine yl O _ _ _ (Nat.le_refl _) (by simp) (fun i a d g=>?_) (fun c b e f _=>?_)
 ·simp only[List.length_append,List.length_singleton] at d
  rw[vS _ _ _ (by omega),vS _ _ _ (by omega)];exact h i a (by omega)
 ·simp only[List.length_append,List.length_singleton] at b;omega
theorem qj {l:List α} {k:Nat} (h:¬l.length≤2*k+1):na lt l k<l.length:=by unfold na;split<;>omega
theorem qD (l:List α) (k:Nat):0<na lt l k∧(na lt l k-1) / 2=k∧k<na lt l k:=by unfold na;split<;>omega
theorem yY (O:i6 lt) {l:List α} {k c:Nat} (hc:c<l.length) (h0:0<c) (hp:(c-1) / 2=k):lt (kK l c) (kK l (na lt l k))=false:=by
 have a:c=2*k+1∨c=2*k+1+1:=by omega
 unfold na;split
 ·rename_i h
  rcases a with rfl|rfl
  ·exact O.asymm _ _ h.2
  ·exact O.irrefl _
 ·rename_i h
  rcases a with rfl|rfl
  ·exact O.irrefl _
  ·cases h2:lt (kK l (2*k+1+1)) (kK l (2*k+1)) with
   |true=>exact absurd ⟨hc,h2⟩ h
   |false=>rfl
theorem rJ:∀(n:Nat) (l:List α) (k:Nat),k<l.length→(lI lt n l k).Perm l
 |0,l,k,_=>List.Perm.refl _
 |n+1,l,k,h=>by
  simp only[lI];split
  ·exact List.Perm.refl _
  ·rename_i hk
   split
   ·exact(rJ n _ _ (by rw[le];exact qj hk)).trans (uO l _ _ h (qj hk))
   ·exact List.Perm.refl _
theorem xi (n k:Nat):lI lt n ([]:List α) k=[]:=by cases n<;>simp[lI]
theorem rB:∀(n m:Nat) (l:List α) (k:Nat),l.length≤k+n→l.length≤k+m→lI lt n l k=lI lt m l k
 |0,0,_,_,_,_=>rfl
 |0,m+1,l,k,h,_=>by
  simp only[lI];rw[if_pos (by omega)]
 |n+1,0,l,k,_,h=>by
  simp only[lI];rw[if_pos (by omega)]
 |n+1,m+1,l,k,h1,h2=>by
  simp only[lI];split
  ·rfl
  ·split
   ·have:=(qD (lt:=lt) l k).2.2
    exact rB n m _ _ (by rw[le];omega) (by rw[le];omega)
   ·rfl
theorem vG (O:i6 lt):∀(n:Nat) (l:List α) (k:Nat),l.length≤k+n→k<l.length→
  (∀i,0<i→i<l.length→(i-1) / 2≠k→lt (kK l i) (kK l ((i-1) / 2))=false)→(∀c,c<l.length→0<c→(c-1) / 2=k→0<k→lt (kK l c) (kK l ((k-1) / 2))=false)→nW lt (lI lt n l k)
 |0,l,k,hn,hk,h1,h2=>by omega
 |n+1,l,k,hn,hk,h1,h2=>by
  simp only[lI];split
  ·rename_i hle
   exact fun i h0 hi=>h1 i h0 hi (by omega)
  ·rename_i hle
   obtain⟨hc0,hcp,hck⟩:=qD (lt:=lt) l k;have hcl:=qj (lt:=lt) hle;split
   ·rename_i hlt
    have hmin:=fun (c:Nat) (hc:c<l.length) (h0:0<c) (hp:(c-1) / 2=k)=>yY O (lt:=lt) hc h0 hp;generalize na lt l k=d at*;refine vG O n _ _ (by rw[le];omega) (by rw[le];omega) (fun i hi0 hi hne=>?_) (fun c hc hc0' hcp' hd0=>?_)
    ·rw[le] at hi
     rw[oq l _ _ _ hk hcl,oq l _ _ _ hk hcl];by_cases e1:i=d
     ·subst e1
      rw[if_pos rfl,hcp,if_neg (by omega),if_pos rfl];exact O.asymm _ _ hlt
     ·rw[if_neg e1]
      by_cases e2:i=k
      ·subst e2
       rw[if_pos rfl,if_neg hne,if_neg (by omega)];exact h2 d hcl hc0 hcp (by omega)
      ·rw[if_neg e2,if_neg hne]
       by_cases e3:(i-1) / 2=k
       ·rw[if_pos e3];exact hmin i hi hi0 e3
       ·rw[if_neg e3];exact h1 i hi0 hi e3
    ·rw[le] at hc
     rw[oq l _ _ _ hk hcl,oq l _ _ _ hk hcl,if_neg (by omega:¬c=d),if_neg (by omega:¬c=k),hcp,if_neg (by omega),if_pos rfl];have h3:=h1 c hc0' hc (by omega);rw[hcp'] at h3;exact h3
   ·rename_i hlt
    intro i h0 hi;by_cases e:(i-1) / 2=k
    ·rw[e]
     have h3:=yY O (lt:=lt) hi h0 e;have h4:lt (kK l (na lt l k)) (kK l k)=false:=by simpa using hlt
     exact O.le_trans h4 h3
    ·exact h1 i h0 hi e
theorem Ea (O:i6 lt) {l:List α} (h:nW lt l):∀(i:Nat),i<l.length→lt (kK l i) (kK l 0)=false:=by
 intro i
 induction i using Nat.strongRecOn with
 |_ i ih=>
  intro a;by_cases h0:i=0
  ·subst h0;exact O.irrefl _
  ·exact O.le_trans (ih ((i-1) / 2) (by omega) (by omega)) (h i (by omega) a)
theorem zp (l:List α) (n i:Nat) (h:i<n):kK (l.take n) i=kK l i:=by
 unfold kK List.getD;rw[List.getElem?_take,if_pos h]
theorem mM (l:List α) (h:0<l.length):(kB lt l).length=l.length-1:=by
 unfold kB;by_cases h1:l.length=1
 ·have:(l.set 0 (kK l (l.length-1))).take (l.length-1)=[]:=by simp[h1]
  rw[this,xi];simp[h1]
 ·rw[(rJ _ _ _ (by simp;omega)).length_eq];simp
theorem vw (l:List α) (h:0<l.length):(kK l 0::kB lt l).Perm l:=by
 unfold kB;have b:(kK l 0::(l.set 0 (kK l (l.length-1))).take (l.length-1)).Perm l:=by
  have a:=uO l 0 (l.length-1) h (by omega);have c:pa l 0 (l.length-1)=(l.set 0 (kK l (l.length-1))).take (l.length-1)++[kK l 0]:=by
   refine List.ext_getElem? fun i=>?_;by_cases hi:i<l.length-1
   ·rw[List.getElem?_append_left (by simp;omega),List.getElem?_take,if_pos hi]
    unfold pa;rw[List.getElem?_set_ne (by omega)]
   ·by_cases hi2:i=l.length-1
    ·subst hi2
     rw[List.getElem?_append_right (by simp)];unfold pa;rw[List.getElem?_set_self (by simp;omega)];simp
    ·rw[List.getElem?_eq_none (by rw[le];omega),List.getElem?_eq_none (by simp;omega)]
  rw[c] at a;exact List.perm_append_singleton .. |>.symm.trans a
 refine List.Perm.trans ?_ b;refine List.Perm.cons _ ?_;by_cases a:l.length=1
 ·have:(l.set 0 (kK l (l.length-1))).take (l.length-1)=[]:=by simp[a]
  rw[this,xi]
 ·exact rJ _ _ _ (by simp;omega)
theorem As (O:i6 lt) {l:List α} (hh:nW lt l) (h:0<l.length):nW lt (kB lt l):=by
 by_cases h1:l.length=1
 ·intro i e a
  rw[mM l h] at a;omega
 ·unfold kB
  refine vG O _ _ _ (by simp) (by simp;omega) (fun i b a d=>?_) (fun c _ _ _ e=>by omega);simp only[List.length_take,List.length_set] at a;rw[zp _ _ _ (by omega),zp _ _ _ (by omega),uj _ _ _ _ h,uj _ _ _ _ h,if_neg (by omega),if_neg d];exact hh i b (by omega)
theorem mY:∀(n:Nat) (l:List α),l.length≤n→(kA lt n l).Perm l
 |0,l,h=>by obtain rfl:l=[]:=List.length_eq_zero_iff.1 (by omega)
            exact List.Perm.refl _
 |n+1,l,h=>by
  simp only[kA];split
  ·rename_i h0;obtain rfl:l=[]:=List.length_eq_zero_iff.1 h0;exact List.Perm.refl _
  ·rename_i h0
   exact((mY n _ (by rw[mM _ (by omega)];omega)).cons _).trans (vw l (by omega))
theorem oz (O:i6 lt):∀(n:Nat) (l:List α),l.length≤n→nW lt l→(kA lt n l).Pairwise (fun a b=>lt b a=false)
 |0,l,h,_=>List.Pairwise.nil
 |n+1,l,h,hh=>by
  simp only[kA];split
  ·exact List.Pairwise.nil
  ·rename_i h0
   refine List.pairwise_cons.2 ⟨fun b hb=>?_,oz O n _ (by rw[mM _ (by omega)];omega) (As O hh (by omega))⟩;have hb2:b∈l:=(vw (lt:=lt) l (by omega)).mem_iff.1 (List.mem_cons_of_mem _ ((mY n _ (by rw[mM _ (by omega)];omega)).mem_iff.1 hb));obtain⟨i,hi,rfl⟩:=List.getElem_of_mem hb2;rw[←iP hi];exact Ea O hh i hi
theorem wK (O:i6 lt) {l m:List α} (h1:l.Pairwise (fun a b=>lt b a=false)) (h2:m.Pairwise (fun a b=>lt b a=false)) (hp:l.Perm m):l=m:=
 hp.eq_of_pairwise (fun a b _ _ ha hb=>O.total a b hb ha) h1 h2
def jC (lt:α→α→Bool) (l:List α):List α:=l.foldl (mr lt) []
theorem tc (O:i6 lt) (l:List α):nW lt (jC lt l)∧(jC lt l).Perm l:=by
 unfold jC;have d:∀(l m:List α),nW lt m→nW lt (l.foldl (mr lt) m)∧(l.foldl (mr lt) m).Perm (m++l):=by
  intro l
  induction l with
  |nil=>intro m c;exact⟨c,by simp⟩
  |cons x l ih=>
   intro m c;obtain⟨a,b⟩:=ih (mr lt m x) (AM O c x);refine⟨a,b.trans ?_⟩;have:=(Aa (lt:=lt) m x).append_right l;simpa using this
 obtain⟨a,b⟩:=d l [] (fun i _ e=>by simp at e);exact⟨a,by simpa using b⟩
end
end
section
theorem gP {p:Prop} (h:p):Hid p:=h
structure Ty (α:Type) where
 sz:Nat
 rel:World→(Nat→Prop)→α→List Value→Prop
 len:∀{w F x cs},rel w F x cs→cs.length=sz
 one:∀{w F x cs},rel w F x cs→∀u∈cs,u.oneCell' =true
 mono:∀{w F F' x cs},(∀k,F k→F' k)→rel w F x cs→rel w F' x cs
 move:∀{w w' F x cs},(∀k,F k→w'.heap[k]? =w.heap[k]?)→rel w F x cs→rel w' F x cs
 bound:∀{w F x cs},rel w F x cs→rel w (fun k=>F k∧k<w.heap.size) x cs
theorem kz {W w1:World} (hb:Below W.heap.size W w1):(∀b o,b<W.heap.size→w1.cell? ⟨b,o,none⟩=W.cell? ⟨b,o,none⟩)∧(∀b o,b<W.heap.size→w1.frozen? ⟨b,o,none⟩=W.frozen? ⟨b,o,none⟩):=
 ⟨fun b o h=>hb.cell (p:=⟨b,o,none⟩) h,fun b o h=>hb.frozen (p:=⟨b,o,none⟩) h⟩
theorem gQ {B:Nat} {w w1 w2:World} (h:Below B w w1) (k:Below w1.heap.size w1 w2) (hB:B≤w1.heap.size):Below B w w2:=
 h.trans ⟨k.os,k.tape,k.output,k.size,fun i hi=>k.block i (Nat.lt_of_lt_of_le hi hB)⟩
theorem jG {B:Nat} {w W:World} (h:Below B w W) (n:Nat):Below B w (W.drewN n):=⟨h.os,h.tape,h.output,h.size,h.block⟩
theorem gU {w W:World} (h:Below w.heap.size w W) (o:Obj):Below w.heap.size w (W.alloc o):=h.alloc h.size o
theorem gV {w w1 w2:World} (h:Below w.heap.size w w1) (k:Below w1.heap.size w1 w2):Below w.heap.size w w2:=gQ h k h.size
section
variable {α:Type}
def Rd (d:Ty α) (w:World) (F:Nat→Prop) (v:Value) (xs:List α):Prop:=
 ∃A c,v= .slice A xs.length c∧xs.length≤c∧xs.length≤9223372036854775807∧
  (0<xs.length→∃b o,A=some ⟨b,o,none⟩∧F b∧b<w.heap.size∧
   ∀j x,xs[j]? =some x→∃cs,d.rel w F x cs∧∀i u,cs[i]? =some u→w.cell? ⟨b,o+j*d.sz+i,none⟩=some u)
variable {d:Ty α} {w w':World} {F F':Nat→Prop} {v:Value} {xs:List α}
theorem Rd.nil (d:Ty α) (w:World) (F:Nat→Prop):Rd d w F (.slice none 0 0) []:=⟨none,0,rfl,Nat.le_refl _,by simp,fun h=>absurd h (by simp)⟩
theorem Rd.mono (hF:∀k,F k→F' k) (h:Rd d w F v xs):Rd d w F' v xs:=by
 obtain⟨A,c,rfl,f,g,i⟩:=h;refine⟨A,c,rfl,f,g,fun p=>?_⟩;obtain⟨b,o,rfl,l,a,m⟩:=i p;refine⟨b,o,rfl,hF _ l,a,fun j x n=>?_⟩;obtain⟨e,q,r⟩:=m j x n;exact⟨e,d.mono hF q,r⟩
theorem Rd.move (hm:∀k,F k→w'.heap[k]? =w.heap[k]?) (h:Rd d w F v xs):Rd d w' F v xs:=by
 obtain⟨A,c,rfl,l,m,n⟩:=h;refine⟨A,c,rfl,l,m,fun s=>?_⟩;obtain⟨b,o,rfl,e,f,p⟩:=n s;have a:=hm b e;have hlt':b<w'.heap.size:=by
  have:w.heap[b]? =some w.heap[b]:=Array.getElem?_eq_getElem f;rw[this] at a;exact(Array.getElem?_eq_some_iff.1 a).1
 refine⟨b,o,rfl,e,hlt',fun j x r=>?_⟩;obtain⟨g,t,y⟩:=p j x r;exact⟨g,d.move hm t,fun i u q=>(World.cell?_of_block (w:=w) a).trans (y i u q)⟩
theorem Rd.bound (h:Rd d w F v xs):Rd d w (fun k=>F k∧k<w.heap.size) v xs:=by
 obtain⟨A,c,rfl,f,g,i⟩:=h;refine⟨A,c,rfl,f,g,fun p=>?_⟩;obtain⟨b,o,rfl,l,a,m⟩:=i p;refine⟨b,o,rfl,⟨l,a⟩,a,fun j x n=>?_⟩;obtain⟨e,q,r⟩:=m j x n;exact⟨e,d.bound q,r⟩
theorem Rd.keep (h:Rd d w F v xs) (hm:∀k,F k→k<w.heap.size→w'.heap[k]? =w.heap[k]?):Rd d w' F v xs:=
 ((h.bound).move (fun k hk=>hm k hk.1 hk.2)).mono (fun _ hk=>hk.1)
theorem Rd.below (h:Rd d w F v xs) (hb:Below w.heap.size w w'):Rd d w' F v xs:=h.keep fun k _ hk=>hb.block k hk
theorem Ty.keep {x:α} {cs:List Value} (h:d.rel w F x cs) (hm:∀k,F k→k<w.heap.size→w'.heap[k]? =w.heap[k]?):d.rel w' F x cs:=
 d.mono (fun _ hk=>hk.1) (d.move (fun k hk=>hm k hk.1 hk.2) (d.bound h))
theorem Rd.at_ {A:Option Addr} {n c:Nat} (h:Rd d w F (.slice A n c) xs) (j:Nat) (hj:j<xs.length):
  ∃b o cs,A=some ⟨b,o,none⟩∧F b∧b<w.heap.size∧d.rel w F xs[j] cs∧∀i u,cs[i]? =some u→w.cell? ⟨b,o+j*d.sz+i,none⟩=some u:=by
 obtain⟨q,r,l,_,_,f⟩:=h;injection l with hA _ _;subst hA;obtain⟨b,o,rfl,g,e,k⟩:=f (by omega);obtain⟨cs,m,p⟩:=k j xs[j] (List.getElem?_eq_getElem hj);exact⟨b,o,cs,rfl,g,e,m,p⟩
theorem Rd.len_ {A:Option Addr} {n c:Nat} (h:Rd d w F (.slice A n c) xs):n=xs.length∧xs.length≤c∧xs.length≤9223372036854775807:=by
 obtain⟨f,g,e,a,b,_⟩:=h;injection e with _ hn hc;subst hn hc;exact⟨rfl,a,b⟩
def k7 (cells:α→List Value) (sz:Nat) (hl:∀x,(cells x).length=sz) (ho:∀x,∀u∈cells x,u.oneCell' =true):Ty α where
 sz:=sz
 rel:=fun _ _ x cs=>cs=cells x
 len:=fun h=>by subst h;exact hl _
 one:=fun h=>by subst h;exact ho _
 mono:=fun _ h=>h
 move:=fun _ h=>h
 bound:=fun h=>h
end
def ja (k:IntKind):Ty Int:=k7 (fun x=>[.int k x]) 1 (fun _=>rfl) (fun _ u hu=>by simp at hu;subst hu;rfl)
def mi.cells (o:mi):List Value:=[.int .i64 o.d,.int .i64 o.a,.int .i64 o.b,.int .i64 o.c,.int .i64 o.e]
def mL.cells (s:mL):List Value:=[.int .i64 s.x,.int .i64 s.y,.int .i64 s.c]
def im.cells (e:im):List Value:=[.int .i64 e.time,.int .i64 e.to,.int .i64 e.from_,.int .i64 e.count,.int .i64 e.n,.int .i64 e.kind,.int .i64 e.arg]
def iQ.cells (o:iQ):List Value:=[.int .i64 o.time,.int .i64 o.proc,.int .i64 o.count,.int .i64 o.n,.int .i64 o.value]
def pO:Ty mi:=k7 mi.cells 5 (fun _=>rfl) (fun _ u hu=>by simp[mi.cells] at hu;rcases hu with rfl|rfl|rfl|rfl|rfl<;>rfl)
def rQ:Ty mL:=k7 mL.cells 3 (fun _=>rfl) (fun _ u hu=>by simp[mL.cells] at hu;rcases hu with rfl|rfl|rfl<;>rfl)
def iC:Ty im:=k7 im.cells 7 (fun _=>rfl) (fun _ u hu=>by simp[im.cells] at hu;rcases hu with rfl|rfl|rfl|rfl|rfl|rfl|rfl<;>rfl)
def ii:Ty iQ:=k7 iQ.cells 5 (fun _=>rfl) (fun _ u hu=>by simp[iQ.cells] at hu;rcases hu with rfl|rfl|rfl|rfl|rfl<;>rfl)
theorem t6 {w:World} {F:Nat→Prop} {A:Option Addr} {n c:Nat} {xs:List mi} (h:Rd pO w F (.slice A n c) xs) (j:Nat) (hj:j<xs.length):
  ∃b o,A=some ⟨b,o,none⟩∧b<w.heap.size∧w.cell? ⟨b,o+j*5,none⟩=some (.int .i64 xs[j].d)∧w.cell? ⟨b,o+j*5+1,none⟩=some (.int .i64 xs[j].a)∧w.cell? ⟨b,o+j*5+2,none⟩=some (.int .i64 xs[j].b)∧w.cell? ⟨b,o+j*5+3,none⟩=some (.int .i64 xs[j].c)∧w.cell? ⟨b,o+j*5+4,none⟩=some (.int .i64 xs[j].e):=by
 obtain⟨b,o,i,rfl,_,g,k,f⟩:=h.at_ j hj;obtain rfl:i=_:=k;exact⟨b,o,rfl,g,f 0 _ rfl,f 1 _ rfl,f 2 _ rfl,f 3 _ rfl,f 4 _ rfl⟩
theorem Gc {w:World} {F:Nat→Prop} {A:Option Addr} {n c:Nat} {xs:List mL} (h:Rd rQ w F (.slice A n c) xs) (j:Nat) (hj:j<xs.length):
  ∃b o,A=some ⟨b,o,none⟩∧b<w.heap.size∧w.cell? ⟨b,o+j*3,none⟩=some (.int .i64 xs[j].x)∧w.cell? ⟨b,o+j*3+1,none⟩=some (.int .i64 xs[j].y)∧w.cell? ⟨b,o+j*3+2,none⟩=some (.int .i64 xs[j].c):=by
 obtain⟨b,o,e,rfl,_,d,f,a⟩:=h.at_ j hj;obtain rfl:e=_:=f;exact⟨b,o,rfl,d,a 0 _ rfl,a 1 _ rfl,a 2 _ rfl⟩
theorem jD {w:World} {F:Nat→Prop} {A:Option Addr} {n c:Nat} {xs:List im} (h:Rd iC w F (.slice A n c) xs) (j:Nat) (hj:j<xs.length):
  ∃b o,A=some ⟨b,o,none⟩∧b<w.heap.size∧w.cell? ⟨b,o+j*7,none⟩=some (.int .i64 xs[j].time)∧w.cell? ⟨b,o+j*7+1,none⟩=some (.int .i64 xs[j].to)∧w.cell? ⟨b,o+j*7+2,none⟩=some (.int .i64 xs[j].from_)∧w.cell? ⟨b,o+j*7+3,none⟩=some (.int .i64 xs[j].count)∧w.cell? ⟨b,o+j*7+4,none⟩=some (.int .i64 xs[j].n)∧w.cell? ⟨b,o+j*7+5,none⟩=some (.int .i64 xs[j].kind)∧w.cell? ⟨b,o+j*7+6,none⟩=some (.int .i64 xs[j].arg):=by
 obtain⟨b,o,e,rfl,_,d,f,a⟩:=h.at_ j hj;obtain rfl:e=_:=f;exact⟨b,o,rfl,d,a 0 _ rfl,a 1 _ rfl,a 2 _ rfl,a 3 _ rfl,a 4 _ rfl,a 5 _ rfl,a 6 _ rfl⟩
theorem ko {w:World} {F:Nat→Prop} {A:Option Addr} {n c:Nat} {xs:List iQ} (h:Rd ii w F (.slice A n c) xs) (j:Nat) (hj:j<xs.length):
  ∃b o,A=some ⟨b,o,none⟩∧b<w.heap.size∧w.cell? ⟨b,o+j*5,none⟩=some (.int .i64 xs[j].time)∧w.cell? ⟨b,o+j*5+1,none⟩=some (.int .i64 xs[j].proc)∧w.cell? ⟨b,o+j*5+2,none⟩=some (.int .i64 xs[j].count)∧w.cell? ⟨b,o+j*5+3,none⟩=some (.int .i64 xs[j].n)∧w.cell? ⟨b,o+j*5+4,none⟩=some (.int .i64 xs[j].value):=by
 obtain⟨b,o,e,rfl,_,d,f,a⟩:=h.at_ j hj;obtain rfl:e=_:=f;exact⟨b,o,rfl,d,a 0 _ rfl,a 1 _ rfl,a 2 _ rfl,a 3 _ rfl,a 4 _ rfl⟩
def k6:Ty jJ where
 sz:=2
 rel:=fun w F x cs=>∃v,cs=[.int .i64 x.kind,v]∧Rd pO w F v x.ops
 len:=fun ⟨v,h,_⟩=>by rw[h];rfl
 one:=fun ⟨v,h,hr⟩ u hu=>by
  obtain⟨A,c,rfl,_⟩:=hr;rw[h] at hu;simp at hu;rcases hu with rfl|rfl<;>rfl
 mono:=fun hF ⟨v,h,hr⟩=>⟨v,h,hr.mono hF⟩
 move:=fun hm ⟨v,h,hr⟩=>⟨v,h,hr.move hm⟩
 bound:=fun ⟨v,h,hr⟩=>⟨v,h,hr.bound⟩
def oE:Ty iM where
 sz:=1
 rel:=fun w F x cs=>∃v,cs=[v]∧Rd k6 w F v x.rules
 len:=fun ⟨v,h,_⟩=>by rw[h];rfl
 one:=fun ⟨v,h,hr⟩ u hu=>by
  obtain⟨A,c,rfl,_⟩:=hr;rw[h] at hu;simp at hu;rcases hu with rfl;rfl
 mono:=fun hF ⟨v,h,hr⟩=>⟨v,h,hr.mono hF⟩
 move:=fun hm ⟨v,h,hr⟩=>⟨v,h,hr.move hm⟩
 bound:=fun ⟨v,h,hr⟩=>⟨v,h,hr.bound⟩
theorem mV {w:World} {F:Nat→Prop} {A:Option Addr} {n c:Nat} {xs:List jJ} (h:Rd k6 w F (.slice A n c) xs) (j:Nat) (hj:j<xs.length):
  ∃b o A1 c1,A=some ⟨b,o,none⟩∧b<w.heap.size∧w.cell? ⟨b,o+j*2,none⟩=some (.int .i64 xs[j].kind)∧w.cell? ⟨b,o+j*2+1,none⟩=some (.slice A1 xs[j].ops.length c1)∧Rd pO w F (.slice A1 xs[j].ops.length c1) xs[j].ops:=by
 obtain⟨b,o,f,rfl,_,a,⟨v,rfl,d⟩,e⟩:=h.at_ j hj;obtain⟨A1,c1,rfl,_⟩:=id d;exact⟨b,o,A1,c1,rfl,a,e 0 _ rfl,e 1 _ rfl,d⟩
theorem qg {w:World} {F:Nat→Prop} {A:Option Addr} {n c:Nat} {xs:List iM} (h:Rd oE w F (.slice A n c) xs) (j:Nat) (hj:j<xs.length):
  ∃b o A1 c1,A=some ⟨b,o,none⟩∧b<w.heap.size∧w.cell? ⟨b,o+j,none⟩=some (.slice A1 xs[j].rules.length c1)∧Rd k6 w F (.slice A1 xs[j].rules.length c1) xs[j].rules:=by
 obtain⟨b,o,f,rfl,_,a,⟨v,rfl,d⟩,e⟩:=h.at_ j hj;obtain⟨A1,c1,rfl,_⟩:=id d;have:=e 0 _ rfl;simp only[oE,Nat.mul_one,Nat.add_zero] at this;exact⟨b,o,A1,c1,rfl,a,this,d⟩
end
theorem iU {p:Prop} [Decidable p] (h:¬p):decide p=false:=decide_eq_false h
theorem jT {p:Prop} [Decidable p] (h:p):decide p=true:=decide_eq_true h
theorem jb {a b c:Nat} (h:a≤b) (k:b≤c):a≤c:=Nat.le_trans h k
theorem jP (a:Nat):0≤a:=Nat.zero_le a
theorem j9 (a:Nat):a≤a:=Nat.le_refl a
theorem nk {a b c:Nat} (h:a<b) (k:b≤c):a<c:=Nat.lt_of_lt_of_le h k
theorem mc {α:Type} {l:List α} {i:Nat} (h:i<l.length):l[i]? =some l[i]:=List.getElem?_eq_getElem h
theorem qp {α:Type} {l:List α} {i:Nat} (h:i<l.length):l.take (i+1)=l.take i++[l[i]]:=List.take_succ_eq_append_getElem h
theorem ld {α:Type} {l:List α}:l.take l.length=l:=List.take_length
theorem lv (w:World) (o:Obj):(w.alloc o).heap.size=w.heap.size+1:=World.size_alloc ..
theorem gY (n:Nat) (w:World):Below n w w:=Below.refl n w
abbrev tT (i:Nat):Nat×Bool:=(i,true)
abbrev tF (i:Nat):Nat×Bool:=(i,false)
instance :Coe Int Value:=⟨fun n=>.int .i64 n⟩
instance :Coe Nat Value:=⟨fun n=>.int .i64 (n:Int)⟩
instance :Coe Bool Value:=⟨fun n=>.bool n⟩
structure Bx (p:Prop):Prop where
 u:p
theorem ie {P:Prop} (t:P:=by kernel_rfl):P:=t
theorem gO {P:Prop} (t:P:=by omega):P:=t
theorem dc {P:Prop} (t:P:=by decide):P:=t
theorem sm {P:Prop} (t:P:=by simp):P:=t
theorem qP {P:Prop} (t:P:=by intro _ _ d _ _ h;cases d<;>exact h):P:=t
theorem ms {P:Prop} (t:P:=by simp[intOf];omega):P:=t
theorem mo {α:Type} (l:List α) (i:Nat) (x:α):l.toArray.setIfInBounds i x=(l.set i x).toArray:=List.setIfInBounds_toArray ..
theorem mp {α:Type} (a x:α) (l:List α):(a::l).set 0 x=x::l:=List.set_cons_zero ..
theorem ml {α:Type} (a x:α) (l:List α) (i:Nat):(a::l).set (i+1) x=a::l.set i x:=List.set_cons_succ ..
theorem wg {P:Prop} (t:P:=by repeat' (first|with_reducible exact gK.pure _|with_reducible exact gK.stuck _|with_reducible exact gK.unsupported _|with_reducible exact gK.boundsPanic _ _ _ _|with_reducible exact gK.nilDeref|with_reducible exact gK.underlying _|with_reducible exact gK.sizeOf _|with_reducible exact gK.typeInfo _|with_reducible exact gK.part _ _ _|with_reducible exact gK.getObj _|with_reducible exact gK.asIntOf _|with_reducible exact gK.asAgg _|with_reducible exact gK.asAddr _|with_reducible exact gK.asBool _|with_reducible exact gK.sureAddr _|with_reducible exact gK.load _ _|with_reducible exact gK.viewAt _|with_reducible exact gK.numberAt _|with_reducible exact gK.byteOf _|with_reducible exact gK.behindNumber _|with_reducible exact gK.unsafeAdd _ _ _|with_reducible exact gK.asNumber _ _|with_reducible exact gK.program|with_reducible exact gK.choose _|with_reducible exact gK.errorP|with_reducible exact gK.sliceBound _ _ _|(refine gK.shapeB (fun _=>?_) ?hn;case hn=>(intro w v w2 h0 h;simp at h;done))|with_reducible refine gK.bind ?_ (fun _=>?_)|split|dsimp only)):P:=t
section
section
variable {P:Program} {ops:Array Oper} {Q:Exit→Act→World→Prop} {S:World→Prop}
def mP (ops:Array Oper) (j:Nat):Bool:=j==ops.size-1&&Region.sinkB .any ops (ops.size-1)
structure ll (ops:Array Oper) (listed:Array Bool):Prop where
 size:listed.size=ops.size
 closed:∀j oj,ops[j]? =some oj→listed.getD j false=true→∀e∈oj.after,Region.binds .any e=true→listed.getD e.on false=true
theorem ll.set {listed:Array Bool} {i:Nat} (inv:ll ops listed) (hi:i∈Region.ready .any ops listed):ll ops (listed.setIfInBounds i true):=by
 obtain⟨_,l,g,a⟩:=mem_ready.1 hi;refine⟨by simp[inv.size],fun j k d f e c b=>?_⟩;by_cases hij:i=j
 ·subst hij
  have:k=l:=Option.some.inj (d.symm.trans g);subst this;exact getD_set_true (a e c b)
 ·rw[getD_set_ne false hij] at f
  exact getD_set_true (inv.closed j k d f e c b)
theorem ll.start (ops:Array Oper):ll ops (Array.replicate ops.size false):=⟨by simp,fun j oj _ hl=>(by rw[getD_replicate_false] at hl;cases hl)⟩
theorem xw {listed:Array Bool} {i j:Nat} (inv:ll ops listed) (hj:mP ops j=true) (hr:j∈Region.ready .any ops listed) (hij:i≠j) (hi:i<ops.size):listed.getD i false=true:=by
 simp only[mP,Bool.and_eq_true,beq_iff_eq] at hj;obtain⟨l,t⟩:=hj;obtain⟨_,u,n,f⟩:=mem_ready.1 hr;have o:∀d i,ops.size-1-i=d→i<ops.size-1→listed.getD i false=true:=by
  intro d
  induction d using Nat.strongRecOn with
  |_ d ih=>
   intro i v hi;have q:=List.all_eq_true.1 t i (List.mem_range.2 hi);obtain⟨m,r,a⟩:=List.any_eq_true.1 q;simp only[Bool.and_eq_true,decide_eq_true_eq] at a;obtain⟨p,b,e,k,g,c⟩:=Region.waitsFor_spec a.2;have s:m≤ops.size-1:=by have:=List.mem_range.1 r;omega
   by_cases hml:m=ops.size-1
   ·have:p=u:=Option.some.inj (b.symm.trans (by rw[hml,←l];exact n))
    subst this;rw[←c];exact f e k g
   ·rw[←c];exact inv.closed m p b (ih _ (by omega) m rfl (by omega)) e k g
 exact o _ i rfl (by omega)
def pd (P:Program) (ops:Array Oper) (Q:Exit→Act→World→Prop) (S:World→Prop):Nat→Array Bool→Act→World→Prop
 |0,listed,a,w=>Region.ready .any ops listed=[]∧Q .normal a w
 |fuel+1,listed,a,w=>
  (Region.ready .any ops listed=[]→Q .normal a w)∧
  ∀i∈Region.ready .any ops listed,wpOp P ops Q i (fun a' w' =>(mP ops i=true∨S w')∧pd P ops Q S fuel (listed.setIfInBounds i true) a' w') a w
theorem rE:∀(fuel:Nat) (listed:Array Bool) (a:Act) (w:World),pd P ops Q S fuel listed a w→wpAny P .any ops Q fuel listed a w
 |0,_,_,_,h=>h
 |fuel+1,_,_,_,h=>⟨h.1,fun i hi=>wpOp_mono (fun a' w' h' =>rE fuel _ a' w' h'.2) (h.2 i hi)⟩
theorem rW {i:Nat} {oi:Oper} {v:Value} (hi:ops[i]? =some oi) (hsel:∀(j:Nat) (o:Oper) cs b,ops[j]? =some o→o.op≠ .select cs b)
  (hQ:∀c a w,Q (.panic c) (a.put oi.dst v) w→Q (.panic c) a w):
  ∀(fuel:Nat) (listed:Array Bool) (a:Act) (w:World),ll ops listed→
   (∀j oj,ops[j]? =some oj→j≠i→listed.getD j true=false→(∀e∈oj.after,Region.binds .any e=true→e.on≠i)→oi.apart ops oj=true)→
   i∈Region.ready .any ops listed→YieldsIf P ops S oi v a→S w→
   pd P ops Q S fuel (listed.setIfInBounds i true) (a.put oi.dst v) w→pd P ops Q S (fuel+1) listed a w:=by
 intro fuel
 induction fuel with
 |zero=>
  intro listed a w g _ f t hS H;refine⟨fun h=>(by rw[h] at f;cases f),fun j m=>?_⟩;by_cases hji:j=i
  ·subst hji;exact t.wpOp hi hS ⟨.inr hS,H⟩
  ·have:=ready_mono m hji
   rw[H.1] at this;cases this
 |succ fuel ih=>
  intro listed a w g l f t hS H;refine⟨fun h=>(by rw[h] at f;cases f),fun j m=>?_⟩;by_cases hji:j=i
  ·subst hji;exact t.wpOp hi hS ⟨.inr hS,H⟩
  ·have d:=H.2 j (ready_mono m hji)
   obtain⟨q,oj,r,y⟩:=mem_ready.1 m;have z:∀e∈oj.after,Region.binds .any e=true→e.on≠i:=fun e R O B=>by
    have d:=y e R O;have p:=(mem_ready.1 f).1;rw[B] at d;rcases Nat.lt_or_ge i listed.size with n|n
    ·simp[n] at p d;rw[p] at d;cases d
    ·simp[Array.getElem?_eq_none n] at d
   have E:¬mP ops j=true:=fun U=>by
    have u:i<ops.size:=(Array.getElem?_eq_some_iff.1 hi).1;have d:=xw g U m (Ne.symm hji) u;have p:=(mem_ready.1 f).1;have n:i<listed.size:=by rw[g.size];exact u
    simp[n] at p d;rw[p] at d;cases d
   have C:=ready_mono f (Ne.symm hji);have L:=wpOp_putIf r (l j oj r hji q z) (fun cs b=>hsel i oi cs b hi) (fun cs b=>hsel j oj cs b r) hQ t d;have hfree':∀k s,ops[k]? =some s→k≠i→(listed.setIfInBounds j true).getD k true=false→
     (∀e∈s.after,Region.binds .any e=true→e.on≠i)→oi.apart ops s=true:=fun k s T D x F=>by
    refine l k s T D ?_ F;by_cases hjk:j=k
    ·subst hjk;exact q
    ·rw[getD_set_ne true hjk] at x;exact x
   refine wpOp_mono (fun J V M=>?_) L;obtain⟨I,A,G⟩:=M;have hS'':=A.resolve_left E;refine⟨.inr hS'',ih (listed.setIfInBounds j true) J V (g.set m) hfree' C I hS'' ?_⟩;rw[Array.setIfInBounds_comm _ _ hji];exact G
def jc (P:Program) (ops:Array Oper) (Q:Exit→Act→World→Prop) (S:World→Prop):List (Nat×Bool)→Act→World→Prop
 | [],a,w=>Q .normal a w
 |(i,true)::r,a,w=>∃o v,ops[i]? =some o∧YieldsIf P ops S o v a∧S w∧jc P ops Q S r (a.put o.dst v) w
 |(i,false)::r,a,w=>wpOp P ops Q i (fun a' w' =>(mP ops i=true∨S w')∧jc P ops Q S r a' w') a w
def qr (ops:Array Oper):List (Nat×Bool)→Array Bool→Bool
 | [],l=>(Region.ready .any ops l).isEmpty
 |(i,true)::r,l=>Region.free .any ops l i&&(Region.ready .any ops l).contains i&&qr ops r (l.setIfInBounds i true)
 |(i,false)::r,l=>(Region.ready .any ops l==[i])&&qr ops r (l.setIfInBounds i true)
theorem oA (hsel:Region.noSelect ops=true) (hQ:∀c a d v w,Q (.panic c) (Act.put a d v) w→Q (.panic c) a w):∀(plan:List (Nat×Bool)) (listed:Array Bool) (a:Act) (w:World),
  ll ops listed→qr ops plan listed=true→jc P ops Q S plan a w→pd P ops Q S plan.length listed a w
 | [],listed,a,w,_,hp,h=>⟨by simpa [qr] using hp,h⟩
 |(i,true)::r,listed,a,w,hcl,hp,h=>by
  simp only[qr,Bool.and_eq_true] at hp;obtain⟨o,v,hi,hy,hS,hr⟩:=h;have hmem:i∈Region.ready .any ops listed:=by simpa using hp.1.2
  exact rW hi (Region.noSelect_spec hsel) (fun c a w hq=>hQ c a _ _ w hq) r.length listed a w hcl (Region.free_spec hi hp.1.1) hmem hy hS
   (oA hsel hQ r _ _ w (hcl.set hmem) hp.2 hr)
 |(i,false)::r,listed,a,w,hcl,hp,h=>by
  simp only[qr,Bool.and_eq_true,beq_iff_eq] at hp;refine⟨fun f=>(by rw[hp.1] at f;cases f),fun j b=>?_⟩;have g:j=i:=by rw[hp.1] at b;simpa using b
  subst g;exact wpOp_mono (fun k l e=>⟨e.1,oA hsel hQ r _ k l (hcl.set b) hp.2 e.2⟩) h
theorem ib {id:Nat} {a:Act} {w:World} {l:List Oper} (S:World→Prop) (plan:List (Nat×Bool)) (hm:P.follows .mixedOrders=true)
  (hk:(Region.noSelect l.toArray&&plan.length==l.toArray.size&&qr l.toArray plan (Array.replicate l.toArray.size false))=true)
  (hQ:∀c a d v w,Q (.panic c) (Act.put a d v) w→Q (.panic c) a w) (h:jc P l.toArray Q S plan a w.drew):(Code.region id l.toArray true).wp P Q a w:=by
 simp only[Bool.and_eq_true,beq_iff_eq] at hk;have b:=rE _ _ _ _ (oA hk.1.1 hQ plan _ a w.drew (ll.start _) hk.2 h);rw[hk.1.2] at b;exact wp_region_any hm b
theorem jr {a:Act} {w:World} {i:Nat} {o:Oper} {v:Value} {r:List (Nat×Bool)} (hi:ops[i]? =some o) (hS:S w) (hw:Region.wanted o (yielded ops a.tmps)=true)
  (hy:∀w,S w→(execOp a.eval o).run P w= .ok (.value v) w) (h:∀K:Act→Prop,(∀a',jc P ops Q S r a' w→K a')→K (a.put o.dst v)):jc P ops Q S ((i,true)::r) a w:=⟨o,v,hi,.inl ⟨hw,hy⟩,hS,h _ fun _ h=>h⟩
theorem vU {a:Act} {w:World} {i:Nat} {o:Oper} {r:List (Nat×Bool)} (hi:ops[i]? =some o) (hS:S w) (hw:Region.wanted o (yielded ops a.tmps)=false)
  (h:∀K:Act→Prop,(∀a',jc P ops Q S r a' w→K a')→K (a.put o.dst undef)):jc P ops Q S ((i,true)::r) a w:=⟨o,undef,hi,.inr ⟨hw,rfl⟩,hS,h _ fun _ h=>h⟩
theorem jH {a:Act} {w:World} {i:Nat} {o:Oper} {r:List (Nat×Bool)} (hi:ops[i]? =some o) (hw:Region.wanted o (yielded ops a.tmps)=false)
  (h:∀K:Act→World→Prop,(∀a' w',(mP ops i=true∨S w')→jc P ops Q S r a' w'→K a' w')→K (a.put o.dst undef) w):jc P ops Q S ((i,false)::r) a w:=by
 show wpOp P ops Q i _ a w;unfold wpOp;simp only[hi,hw,Bool.false_eq_true,if_false];exact h (fun a' w' =>(mP ops i=true∨S w')∧jc P ops Q S r a' w') fun a' w' hS b=>⟨hS,b⟩
theorem ia {a:Act} {w:World} {i:Nat} {o:Oper} {r:List (Nat×Bool)} (hi:ops[i]? =some o) (hw:Region.wanted o (yielded ops a.tmps)=true)
  (h:∀K:Act→World→Prop,(∀a' w',(mP ops i=true∨S w')→jc P ops Q S r a' w'→K a' w')→o.wp P a w K Q):jc P ops Q S ((i,false)::r) a w:=by
 show wpOp P ops Q i _ a w;unfold wpOp;simp only[hi,hw,if_true];exact .inl (h _ fun a' w' hS b=>⟨hS,b⟩)
end
end
theorem kM {P Q:Prop} (h:Q) (t:Bx Q→P:=by
 intro hq
 first
  |(refine jr (v:=?_) (by rfl) HS (by rfl) ?_ ?_;rotate_left;(focus (intro wS hS;obtain⟨kc,kf⟩:=kz hS;go_simp;(try (with_reducible rfl));done));intro K hK;go_simp;refine hK _ ?_;exact hq.u)
  |(refine vU (by rfl) HS (by rfl) ?_;intro K hK;go_simp;refine hK _ ?_;exact hq.u)):P:=t ⟨h⟩
theorem Gg {P Q:Prop} (h:Q) (t:Bx Q→P:=by
 intro hq
 first
  |(refine jr (v:=?_) (by rfl) HS (by rfl) ?_ ?_;rotate_left;(focus (intro wS hS;obtain⟨kc,kf⟩:=hS.cells;go_simp;(try (with_reducible rfl));done));intro K hK;go_simp;refine hK _ ?_;exact hq.u)
  |(refine vU (by rfl) HS (by rfl) ?_;intro K hK;go_simp;refine hK _ ?_;exact hq.u)):P:=t ⟨h⟩
theorem Gp {P Q:Prop} (h:Q) (t:Bx Q→P:=by
 intro hq
 first
  |(refine jr (v:=?_) (by rfl) HS (by rfl) ?_ ?_;rotate_left;(focus (intro wS hS;obtain⟨kc,kf⟩:=(And.intro True.intro True.intro);go_simp;(try (with_reducible rfl));done));intro K hK;go_simp;refine hK _ ?_;exact hq.u)
  |(refine vU (by rfl) HS (by rfl) ?_;intro K hK;go_simp;refine hK _ ?_;exact hq.u)):P:=t ⟨h⟩
end Go.Proofs.YtgilllnjhahkfaaGreat
