/- Parts of the proof: Reg, Heap, Sort. -/
import Derived.OrdersHeld
import Derived.StillTail
import Derived.Test.YtlndjfflhegkdaaGreatDoorQ00
set_option linter.unusedVariables false
set_option linter.unusedSimpArgs false
set_option linter.unusedSectionVars false
set_option maxHeartbeats 4000000
namespace Go.Proofs.YtlndjfflhegkdaaGreatDoor
open Go.RowKit
section
section
variable {P:Program} {ops:Array Oper} {Q:Exit→Act→World→Prop} {S:World→Prop}
def mj (ops:Array Oper) (j:Nat):Bool:=j==ops.size-1&&Region.sinkB .any ops (ops.size-1)
structure kI (ops:Array Oper) (listed:Array Bool):Prop where
 size:listed.size=ops.size
 closed:∀j oj,ops[j]? =some oj→listed.getD j false=true→∀e∈oj.after,Region.binds .any e=true→listed.getD e.on false=true
theorem kI.set {listed:Array Bool} {i:Nat} (inv:kI ops listed) (hi:i∈Region.ready .any ops listed):kI ops (listed.setIfInBounds i true):=by
 obtain⟨_,l,g,a⟩:=mem_ready.1 hi;refine⟨by simp[inv.size],fun j k d f e c b=>?_⟩;by_cases hij:i=j
 ·subst hij
  have:k=l:=Option.some.inj (d.symm.trans g);subst this;exact getD_set_true (a e c b)
 ·rw[getD_set_ne false hij] at f
  exact getD_set_true (inv.closed j k d f e c b)
theorem kI.start (ops:Array Oper):kI ops (Array.replicate ops.size false):=⟨by simp,fun j oj _ hl=>(by rw[getD_replicate_false] at hl;cases hl)⟩
theorem xu {listed:Array Bool} {i j:Nat} (inv:kI ops listed) (hj:mj ops j=true) (hr:j∈Region.ready .any ops listed) (hij:i≠j) (hi:i<ops.size):listed.getD i false=true:=by
 simp only[mj,Bool.and_eq_true,beq_iff_eq] at hj;obtain⟨l,t⟩:=hj;obtain⟨_,u,n,f⟩:=mem_ready.1 hr;have o:∀d i,ops.size-1-i=d→i<ops.size-1→listed.getD i false=true:=by
  intro d
  induction d using Nat.strongRecOn with
  |_ d ih=>
   intro i v hi;have q:=List.all_eq_true.1 t i (List.mem_range.2 hi);obtain⟨m,r,a⟩:=List.any_eq_true.1 q;simp only[Bool.and_eq_true,decide_eq_true_eq] at a;obtain⟨p,b,e,k,g,c⟩:=Region.waitsFor_spec a.2;have s:m≤ops.size-1:=by have:=List.mem_range.1 r;omega
   by_cases hml:m=ops.size-1
   ·have:p=u:=Option.some.inj (b.symm.trans (by rw[hml,←l];exact n))
    subst this;rw[←c];exact f e k g
   ·rw[←c];exact inv.closed m p b (ih _ (by omega) m rfl (by omega)) e k g
 exact o _ i rfl (by omega)
def px (P:Program) (ops:Array Oper) (Q:Exit→Act→World→Prop) (S:World→Prop):Nat→Array Bool→Act→World→Prop
 |0,listed,a,w=>Region.ready .any ops listed=[]∧Q .normal a w
 |fuel+1,listed,a,w=>
  (Region.ready .any ops listed=[]→Q .normal a w)∧
  ∀i∈Region.ready .any ops listed,wpOp P ops Q i (fun a' w' =>(mj ops i=true∨S w')∧px P ops Q S fuel (listed.setIfInBounds i true) a' w') a w
theorem rq:∀(fuel:Nat) (listed:Array Bool) (a:Act) (w:World),px P ops Q S fuel listed a w→wpAny P .any ops Q fuel listed a w
 |0,_,_,_,h=>h
 |fuel+1,_,_,_,h=>⟨h.1,fun i hi=>wpOp_mono (fun a' w' h' =>rq fuel _ a' w' h'.2) (h.2 i hi)⟩
theorem se {i:Nat} {oi:Oper} {v:Value} (hi:ops[i]? =some oi) (hsel:∀(j:Nat) (o:Oper) cs b,ops[j]? =some o→o.op≠ .select cs b)
  (hQ:∀c a w,Q (.panic c) (a.put oi.dst v) w→Q (.panic c) a w):
  ∀(fuel:Nat) (listed:Array Bool) (a:Act) (w:World),kI ops listed→
   (∀j oj,ops[j]? =some oj→j≠i→listed.getD j true=false→(∀e∈oj.after,Region.binds .any e=true→e.on≠i)→oi.apart ops oj=true)→
   i∈Region.ready .any ops listed→YieldsIf P ops S oi v a→S w→
   px P ops Q S fuel (listed.setIfInBounds i true) (a.put oi.dst v) w→px P ops Q S (fuel+1) listed a w:=by
 intro fuel
 induction fuel with
 |zero=>
  intro listed a w g _ f t hS H;refine⟨fun h=>(by rw[h] at f;cases f),fun j m=>?_⟩;by_cases hji:j=i
  ·subst hji;exact t.wpOp hi hS ⟨.inr hS,H⟩
  ·have:=ready_mono m hji
   rw[H.1] at this;cases this
 |succ fuel ih=>
  intro listed a w g l f t hS H;refine⟨fun h=>(by rw[h] at f;cases f),fun j m=>?_⟩;by_cases hji:j=i
  ·subst hji;exact t.wpOp hi hS ⟨.inr hS,H⟩
  ·have d:=H.2 j (ready_mono m hji)
   obtain⟨q,oj,r,y⟩:=mem_ready.1 m;have z:∀e∈oj.after,Region.binds .any e=true→e.on≠i:=fun e R O B=>by
    have d:=y e R O;have p:=(mem_ready.1 f).1;rw[B] at d;rcases Nat.lt_or_ge i listed.size with n|n
    ·simp[n] at p d;rw[p] at d;cases d
    ·simp[Array.getElem?_eq_none n] at d
   have E:¬mj ops j=true:=fun U=>by
    have u:i<ops.size:=(Array.getElem?_eq_some_iff.1 hi).1;have d:=xu g U m (Ne.symm hji) u;have p:=(mem_ready.1 f).1;have n:i<listed.size:=by rw[g.size];exact u
    simp[n] at p d;rw[p] at d;cases d
   have C:=ready_mono f (Ne.symm hji);have L:=wpOp_putIf r (l j oj r hji q z) (fun cs b=>hsel i oi cs b hi) (fun cs b=>hsel j oj cs b r) hQ t d;have hfree':∀k s,ops[k]? =some s→k≠i→(listed.setIfInBounds j true).getD k true=false→
     (∀e∈s.after,Region.binds .any e=true→e.on≠i)→oi.apart ops s=true:=fun k s T D x F=>by
    refine l k s T D ?_ F;by_cases hjk:j=k
    ·subst hjk;exact q
    ·rw[getD_set_ne true hjk] at x;exact x
   refine wpOp_mono (fun J V M=>?_) L;obtain⟨I,A,G⟩:=M;have hS'':=A.resolve_left E;refine⟨.inr hS'',ih (listed.setIfInBounds j true) J V (g.set m) hfree' C I hS'' ?_⟩;rw[Array.setIfInBounds_comm _ _ hji];exact G
def iG (P:Program) (ops:Array Oper) (Q:Exit→Act→World→Prop) (S:World→Prop):List (Nat×Bool)→Act→World→Prop
 | [],a,w=>Q .normal a w
 |(i,true)::r,a,w=>∃o v,ops[i]? =some o∧YieldsIf P ops S o v a∧S w∧iG P ops Q S r (a.put o.dst v) w
 |(i,false)::r,a,w=>wpOp P ops Q i (fun a' w' =>(mj ops i=true∨S w')∧iG P ops Q S r a' w') a w
def pZ (ops:Array Oper):List (Nat×Bool)→Array Bool→Bool
 | [],l=>(Region.ready .any ops l).isEmpty
 |(i,true)::r,l=>Region.free .any ops l i&&(Region.ready .any ops l).contains i&&pZ ops r (l.setIfInBounds i true)
 |(i,false)::r,l=>(Region.ready .any ops l==[i])&&pZ ops r (l.setIfInBounds i true)
theorem ol (hsel:Region.noSelect ops=true) (hQ:∀c a d v w,Q (.panic c) (Act.put a d v) w→Q (.panic c) a w):∀(plan:List (Nat×Bool)) (listed:Array Bool) (a:Act) (w:World),
  kI ops listed→pZ ops plan listed=true→iG P ops Q S plan a w→px P ops Q S plan.length listed a w
 | [],listed,a,w,_,hp,h=>⟨by simpa [pZ] using hp,h⟩
 |(i,true)::r,listed,a,w,hcl,hp,h=>by
  simp only[pZ,Bool.and_eq_true] at hp;obtain⟨o,v,hi,hy,hS,hr⟩:=h;have hmem:i∈Region.ready .any ops listed:=by simpa using hp.1.2
  exact se hi (Region.noSelect_spec hsel) (fun c a w hq=>hQ c a _ _ w hq) r.length listed a w hcl (Region.free_spec hi hp.1.1) hmem hy hS
   (ol hsel hQ r _ _ w (hcl.set hmem) hp.2 hr)
 |(i,false)::r,listed,a,w,hcl,hp,h=>by
  simp only[pZ,Bool.and_eq_true,beq_iff_eq] at hp;refine⟨fun f=>(by rw[hp.1] at f;cases f),fun j b=>?_⟩;have g:j=i:=by rw[hp.1] at b;simpa using b
  subst g;exact wpOp_mono (fun k l e=>⟨e.1,ol hsel hQ r _ k l (hcl.set b) hp.2 e.2⟩) h
theorem gV {id:Nat} {a:Act} {w:World} {l:List Oper} (S:World→Prop) (plan:List (Nat×Bool)) (hm:P.follows .mixedOrders=true)
  (hk:(Region.noSelect l.toArray&&plan.length==l.toArray.size&&pZ l.toArray plan (Array.replicate l.toArray.size false))=true)
  (hQ:∀c a d v w,Q (.panic c) (Act.put a d v) w→Q (.panic c) a w) (h:iG P l.toArray Q S plan a w.drew):(Code.region id l.toArray true).wp P Q a w:=by
 simp only[Bool.and_eq_true,beq_iff_eq] at hk;have b:=rq _ _ _ _ (ol hk.1.1 hQ plan _ a w.drew (kI.start _) hk.2 h);rw[hk.1.2] at b;exact wp_region_any hm b
theorem jc {a:Act} {w:World} {i:Nat} {o:Oper} {v:Value} {r:List (Nat×Bool)} (hi:ops[i]? =some o) (hS:S w) (hw:Region.wanted o (yielded ops a.tmps)=true)
  (hy:∀w,S w→(execOp a.eval o).run P w= .ok (.value v) w) (h:∀K:Act→Prop,(∀a',iG P ops Q S r a' w→K a')→K (a.put o.dst v)):iG P ops Q S ((i,true)::r) a w:=⟨o,v,hi,.inl ⟨hw,hy⟩,hS,h _ fun _ h=>h⟩
theorem vg {a:Act} {w:World} {i:Nat} {o:Oper} {r:List (Nat×Bool)} (hi:ops[i]? =some o) (hS:S w) (hw:Region.wanted o (yielded ops a.tmps)=false)
  (h:∀K:Act→Prop,(∀a',iG P ops Q S r a' w→K a')→K (a.put o.dst undef)):iG P ops Q S ((i,true)::r) a w:=⟨o,undef,hi,.inr ⟨hw,rfl⟩,hS,h _ fun _ h=>h⟩
theorem iN {a:Act} {w:World} {i:Nat} {o:Oper} {r:List (Nat×Bool)} (hi:ops[i]? =some o) (hw:Region.wanted o (yielded ops a.tmps)=false)
  (h:∀K:Act→World→Prop,(∀a' w',(mj ops i=true∨S w')→iG P ops Q S r a' w'→K a' w')→K (a.put o.dst undef) w):iG P ops Q S ((i,false)::r) a w:=by
 show wpOp P ops Q i _ a w;unfold wpOp;simp only[hi,hw,Bool.false_eq_true,if_false];exact h (fun a' w' =>(mj ops i=true∨S w')∧iG P ops Q S r a' w') fun a' w' hS b=>⟨hS,b⟩
theorem gU {a:Act} {w:World} {i:Nat} {o:Oper} {r:List (Nat×Bool)} (hi:ops[i]? =some o) (hw:Region.wanted o (yielded ops a.tmps)=true)
  (h:∀K:Act→World→Prop,(∀a' w',(mj ops i=true∨S w')→iG P ops Q S r a' w'→K a' w')→o.wp P a w K Q):iG P ops Q S ((i,false)::r) a w:=by
 show wpOp P ops Q i _ a w;unfold wpOp;simp only[hi,hw,if_true];exact .inl (h _ fun a' w' hS b=>⟨hS,b⟩)
end
end
theorem jJ {P Q:Prop} (h:Q) (t:Bx Q→P:=by
 intro hq
 first
  |(refine jc (v:=?_) (by rfl) HS (by rfl) ?_ ?_;rotate_left;(focus (intro wS hS;obtain⟨kc,kf⟩:=j9 hS;go_simp;(try (with_reducible rfl));done));intro K hK;go_simp;refine hK _ ?_;exact hq.u)
  |(refine vg (by rfl) HS (by rfl) ?_;intro K hK;go_simp;refine hK _ ?_;exact hq.u)):P:=t ⟨h⟩
theorem Fv {P Q:Prop} (h:Q) (t:Bx Q→P:=by
 intro hq
 first
  |(refine jc (v:=?_) (by rfl) HS (by rfl) ?_ ?_;rotate_left;(focus (intro wS hS;obtain⟨kc,kf⟩:=hS.cells;go_simp;(try (with_reducible rfl));done));intro K hK;go_simp;refine hK _ ?_;exact hq.u)
  |(refine vg (by rfl) HS (by rfl) ?_;intro K hK;go_simp;refine hK _ ?_;exact hq.u)):P:=t ⟨h⟩
theorem FG {P Q:Prop} (h:Q) (t:Bx Q→P:=by
 intro hq
 first
  |(refine jc (v:=?_) (by rfl) HS (by rfl) ?_ ?_;rotate_left;(focus (intro wS hS;obtain⟨kc,kf⟩:=(And.intro True.intro True.intro);go_simp;(try (with_reducible rfl));done));intro K hK;go_simp;refine hK _ ?_;exact hq.u)
  |(refine vg (by rfl) HS (by rfl) ?_;intro K hK;go_simp;refine hK _ ?_;exact hq.u)):P:=t ⟨h⟩
section
structure iC {α:Type} (lt:α→α→Bool):Prop where
 asymm:∀a b,lt a b=true→lt b a=false
 trans:∀a b c,lt a b=true→lt b c=true→lt a c=true
 total:∀a b,lt a b=false→lt b a=false→a=b
section
variable {α:Type} [Inhabited α] {lt:α→α→Bool}
theorem iC.le_trans (O:iC lt) {a b c:α} (h1:lt b a=false) (h2:lt c b=false):lt c a=false:=by
 cases h3:lt a b with
 |true=>
  cases h4:lt c a with
  |true=>have:=O.trans c a b h4 h3;rw[this] at h2;cases h2
  |false=>rfl
 |false=>
  have:=O.total a b h3 h1;subst this;exact h2
theorem iC.irrefl (O:iC lt) (a:α):lt a a=false:=by
 cases h:lt a a with
 |true=>have:=O.asymm a a h;rw[h] at this;cases this
 |false=>rfl
def kp (l:List α) (i:Nat):α:=l.getD i default
theorem iq {l:List α} {i:Nat} (h:i<l.length):kp l i=l[i]:=by simp[kp,List.getD,h]
def po (l:List α) (i j:Nat):List α:=(l.set i (kp l j)).set j (kp l i)
theorem kH (l:List α) (i j:Nat):(po l i j).length=l.length:=by simp[po]
theorem tE (l:List α) (i:Nat) (x:α) (k:Nat) (hi:i<l.length):kp (l.set i x) k=if k=i then x else kp l k:=by
 unfold kp List.getD;by_cases h:k=i
 ·subst h;simp[hi]
 ·rw[List.getElem?_set_ne (Ne.symm h),if_neg h]
theorem nK (l:List α) (i j k:Nat) (hi:i<l.length) (hj:j<l.length):kp (po l i j) k=if k=j then kp l i else if k=i then kp l j else kp l k:=by
 unfold po;rw[tE _ _ _ _ (by simpa using hj),tE _ _ _ _ hi]
theorem vw (l:List α) (i j:Nat) (hi:i<l.length) (hj:j<l.length):(po l i j).Perm l:=by
 unfold po;rw[iq hi,iq hj];exact List.set_set_perm hi hj
variable (lt)
def vV:Nat→List α→Nat→List α
 |0,l,_=>l
 |n+1,l,k=>if k=0 then l else if lt (kp l k) (kp l ((k-1) / 2))=true then vV n (po l k ((k-1) / 2)) ((k-1) / 2) else l
def lR (l:List α) (x:α):List α:=vV lt l.length (l++[x]) l.length
def mB (l:List α) (k:Nat):Nat:=if 2*k+1+1<l.length∧lt (kp l (2*k+1+1)) (kp l (2*k+1))=true then 2*k+1+1 else 2*k+1
def k5:Nat→List α→Nat→List α
 |0,l,_=>l
 |n+1,l,k=>if l.length≤2*k+1 then l else if lt (kp l (mB lt l k)) (kp l k)=true then k5 n (po l k (mB lt l k)) (mB lt l k) else l
def jV (l:List α):List α:=k5 lt l.length ((l.set 0 (kp l (l.length-1))).take (l.length-1)) 0
def jU:Nat→List α→List α
 |0,_=>[]
 |n+1,l=>if l.length=0 then [] else kp l 0::jU n (jV lt l)
variable {lt}
def ni (lt:α→α→Bool) (l:List α):Prop:=∀i,0<i→i<l.length→lt (kp l i) (kp l ((i-1) / 2))=false
theorem uc:∀(n m:Nat) (l:List α) (k:Nat),k≤n→k≤m→vV lt n l k=vV lt m l k
 |0,0,_,_,_,_=>rfl
 |0,m+1,l,k,h,_=>by obtain rfl:k=0:=by omega
                    simp[vV]
 |n+1,0,l,k,_,h=>by obtain rfl:k=0:=by omega
                    simp[vV]
 |n+1,m+1,l,k,h1,h2=>by
  simp only[vV];split
  ·rfl
  ·split
   ·exact uc n m _ _ (by omega) (by omega)
   ·rfl
theorem yp:∀(n:Nat) (l:List α) (k:Nat),k<l.length→(vV lt n l k).Perm l
 |0,l,k,_=>List.Perm.refl _
 |n+1,l,k,h=>by
  simp only[vV];split
  ·exact List.Perm.refl _
  ·split
   ·exact(yp n _ _ (by rw[kH];omega)).trans (vw l _ _ h (by omega))
   ·exact List.Perm.refl _
theorem yo (O:iC lt):∀(n:Nat) (l:List α) (k:Nat),k≤n→k<l.length→
  (∀i,0<i→i<l.length→i≠k→lt (kp l i) (kp l ((i-1) / 2))=false)→(∀c,c<l.length→0<c→(c-1) / 2=k→0<k→lt (kp l c) (kp l ((k-1) / 2))=false)→ni lt (vV lt n l k)
 |0,l,k,hn,hk,h1,h2=>by
  obtain rfl:k=0:=by omega
  exact fun i b a=>h1 i b a (by omega)
 |n+1,l,k,hn,hk,h1,h2=>by
  simp only[vV];split
  ·rename_i b;subst b;exact fun i b a=>h1 i b a (by omega)
  ·rename_i hk0
   split
   ·rename_i hlt
    have g:(k-1) / 2<l.length:=by omega
    have s:(k-1) / 2<k:=by omega
    refine yo O n _ _ (by omega) (by rw[kH];omega) (fun i f a j=>?_) (fun c o p q r=>?_)
    ·rw[kH] at a
     rw[nK l _ _ _ hk g,nK l _ _ _ hk g];by_cases e1:i=k
     ·subst e1
      rw[if_neg j,if_pos rfl,if_pos rfl];exact O.asymm _ _ hlt
     ·rw[if_neg j,if_neg e1]
      by_cases e2:(i-1) / 2=(k-1) / 2
      ·rw[if_pos e2]
       have d:=h1 i f a e1;rw[e2] at d;exact O.le_trans (O.asymm _ _ hlt) d
      ·rw[if_neg e2]
       by_cases e3:(i-1) / 2=k
       ·rw[if_pos e3];exact h2 i a f e3 (by omega)
       ·rw[if_neg e3];exact h1 i f a e1
    ·rw[kH] at o
     rw[nK l _ _ _ hk g,nK l _ _ _ hk g,if_neg (by omega:¬c=(k-1) / 2),if_neg (by omega:¬((k-1) / 2-1) / 2=(k-1) / 2),if_neg (by omega:¬((k-1) / 2-1) / 2=k)];have m:=h1 ((k-1) / 2) r g (by omega);by_cases e1:c=k
     ·rw[if_pos e1];exact m
     ·rw[if_neg e1]
      have d:=h1 c p o e1;rw[q] at d;exact O.le_trans m d
   ·rename_i hlt
    intro i b a;by_cases e:i=k
    ·subst e;simpa using hlt
    ·exact h1 i b a e
theorem uF (l:List α) (x:α) (i:Nat) (h:i<l.length):kp (l++[x]) i=kp l i:=by
 unfold kp List.getD;rw[List.getElem?_append_left h]
theorem zo (l:List α) (x:α):(lR lt l x).Perm (l++[x]):=yp _ _ _ (by simp)
theorem zn (O:iC lt) {l:List α} (h:ni lt l) (x:α):ni lt (lR lt l x):=by
 refine yo O _ _ _ (Nat.le_refl _) (by simp) (fun i a d g=>?_) (fun c b e f _=>?_)
 ·simp only[List.length_append,List.length_singleton] at d
  rw[uF _ _ _ (by omega),uF _ _ _ (by omega)];exact h i a (by omega)
 ·simp only[List.length_append,List.length_singleton] at b;omega
theorem pL {l:List α} {k:Nat} (h:¬l.length≤2*k+1):mB lt l k<l.length:=by unfold mB;split<;>omega
theorem qp (l:List α) (k:Nat):0<mB lt l k∧(mB lt l k-1) / 2=k∧k<mB lt l k:=by unfold mB;split<;>omega
theorem yd (O:iC lt) {l:List α} {k c:Nat} (hc:c<l.length) (h0:0<c) (hp:(c-1) / 2=k):lt (kp l c) (kp l (mB lt l k))=false:=by
 have a:c=2*k+1∨c=2*k+1+1:=by omega
 unfold mB;split
 ·rename_i h
  rcases a with rfl|rfl
  ·exact O.asymm _ _ h.2
  ·exact O.irrefl _
 ·rename_i h
  rcases a with rfl|rfl
  ·exact O.irrefl _
  ·cases h2:lt (kp l (2*k+1+1)) (kp l (2*k+1)) with
   |true=>exact absurd ⟨hc,h2⟩ h
   |false=>rfl
theorem rh:∀(n:Nat) (l:List α) (k:Nat),k<l.length→(k5 lt n l k).Perm l
 |0,l,k,_=>List.Perm.refl _
 |n+1,l,k,h=>by
  simp only[k5];split
  ·exact List.Perm.refl _
  ·rename_i hk
   split
   ·exact(rh n _ _ (by rw[kH];exact pL hk)).trans (vw l _ _ h (pL hk))
   ·exact List.Perm.refl _
theorem wE (n k:Nat):k5 lt n ([]:List α) k=[]:=by cases n<;>simp[k5]
theorem rg:∀(n m:Nat) (l:List α) (k:Nat),l.length≤k+n→l.length≤k+m→k5 lt n l k=k5 lt m l k
 |0,0,_,_,_,_=>rfl
 |0,m+1,l,k,h,_=>by
  simp only[k5];rw[if_pos (by omega)]
 |n+1,0,l,k,_,h=>by
  simp only[k5];rw[if_pos (by omega)]
 |n+1,m+1,l,k,h1,h2=>by
  simp only[k5];split
  ·rfl
  ·split
   ·have:=(qp (lt:=lt) l k).2.2
    exact rg n m _ _ (by rw[kH];omega) (by rw[kH];omega)
   ·rfl
theorem t8 (O:iC lt):∀(n:Nat) (l:List α) (k:Nat),l.length≤k+n→k<l.length→
  (∀i,0<i→i<l.length→(i-1) / 2≠k→lt (kp l i) (kp l ((i-1) / 2))=false)→(∀c,c<l.length→0<c→(c-1) / 2=k→0<k→lt (kp l c) (kp l ((k-1) / 2))=false)→ni lt (k5 lt n l k)
 |0,l,k,hn,hk,h1,h2=>by omega
 |n+1,l,k,hn,hk,h1,h2=>by
  simp only[k5];split
  ·rename_i hle
   exact fun i h0 hi=>h1 i h0 hi (by omega)
  ·rename_i hle
   obtain⟨hc0,hcp,hck⟩:=qp (lt:=lt) l k;have hcl:=pL (lt:=lt) hle;split
   ·rename_i hlt
    have hmin:=fun (c:Nat) (hc:c<l.length) (h0:0<c) (hp:(c-1) / 2=k)=>yd O (lt:=lt) hc h0 hp;generalize mB lt l k=d at*;refine t8 O n _ _ (by rw[kH];omega) (by rw[kH];omega) (fun i hi0 hi hne=>?_) (fun c hc hc0' hcp' hd0=>?_)
    ·rw[kH] at hi
     rw[nK l _ _ _ hk hcl,nK l _ _ _ hk hcl];by_cases e1:i=d
     ·subst e1
      rw[if_pos rfl,hcp,if_neg (by omega),if_pos rfl];exact O.asymm _ _ hlt
     ·rw[if_neg e1]
      by_cases e2:i=k
      ·subst e2
       rw[if_pos rfl,if_neg hne,if_neg (by omega)];exact h2 d hcl hc0 hcp (by omega)
      ·rw[if_neg e2,if_neg hne]
       by_cases e3:(i-1) / 2=k
       ·rw[if_pos e3];exact hmin i hi hi0 e3
       ·rw[if_neg e3];exact h1 i hi0 hi e3
    ·rw[kH] at hc
     rw[nK l _ _ _ hk hcl,nK l _ _ _ hk hcl,if_neg (by omega:¬c=d),if_neg (by omega:¬c=k),hcp,if_neg (by omega),if_pos rfl];have h3:=h1 c hc0' hc (by omega);rw[hcp'] at h3;exact h3
   ·rename_i hlt
    intro i h0 hi;by_cases e:(i-1) / 2=k
    ·rw[e]
     have h3:=yd O (lt:=lt) hi h0 e;have h4:lt (kp l (mB lt l k)) (kp l k)=false:=by simpa using hlt
     exact O.le_trans h4 h3
    ·exact h1 i h0 hi e
theorem Cg (O:iC lt) {l:List α} (h:ni lt l):∀(i:Nat),i<l.length→lt (kp l i) (kp l 0)=false:=by
 intro i
 induction i using Nat.strongRecOn with
 |_ i ih=>
  intro a;by_cases h0:i=0
  ·subst h0;exact O.irrefl _
  ·exact O.le_trans (ih ((i-1) / 2) (by omega) (by omega)) (h i (by omega) a)
theorem yz (l:List α) (n i:Nat) (h:i<n):kp (l.take n) i=kp l i:=by
 unfold kp List.getD;rw[List.getElem?_take,if_pos h]
theorem mi (l:List α) (h:0<l.length):(jV lt l).length=l.length-1:=by
 unfold jV;by_cases h1:l.length=1
 ·have:(l.set 0 (kp l (l.length-1))).take (l.length-1)=[]:=by simp[h1]
  rw[this,wE];simp[h1]
 ·rw[(rh _ _ _ (by simp;omega)).length_eq];simp
theorem t9 (l:List α) (h:0<l.length):(kp l 0::jV lt l).Perm l:=by
 unfold jV;have b:(kp l 0::(l.set 0 (kp l (l.length-1))).take (l.length-1)).Perm l:=by
  have a:=vw l 0 (l.length-1) h (by omega);have c:po l 0 (l.length-1)=(l.set 0 (kp l (l.length-1))).take (l.length-1)++[kp l 0]:=by
   refine List.ext_getElem? fun i=>?_;by_cases hi:i<l.length-1
   ·rw[List.getElem?_append_left (by simp;omega),List.getElem?_take,if_pos hi]
    unfold po;rw[List.getElem?_set_ne (by omega)]
   ·by_cases hi2:i=l.length-1
    ·subst hi2
     rw[List.getElem?_append_right (by simp)];unfold po;rw[List.getElem?_set_self (by simp;omega)];simp
    ·rw[List.getElem?_eq_none (by rw[kH];omega),List.getElem?_eq_none (by simp;omega)]
  rw[c] at a;exact List.perm_append_singleton .. |>.symm.trans a
 refine List.Perm.trans ?_ b;refine List.Perm.cons _ ?_;by_cases a:l.length=1
 ·have:(l.set 0 (kp l (l.length-1))).take (l.length-1)=[]:=by simp[a]
  rw[this,wE]
 ·exact rh _ _ _ (by simp;omega)
theorem zp (O:iC lt) {l:List α} (hh:ni lt l) (h:0<l.length):ni lt (jV lt l):=by
 by_cases h1:l.length=1
 ·intro i e a
  rw[mi l h] at a;omega
 ·unfold jV
  refine t8 O _ _ _ (by simp) (by simp;omega) (fun i b a d=>?_) (fun c _ _ _ e=>by omega);simp only[List.length_take,List.length_set] at a;rw[yz _ _ _ (by omega),yz _ _ _ (by omega),tE _ _ _ _ h,tE _ _ _ _ h,if_neg (by omega),if_neg d];exact hh i b (by omega)
theorem mE:∀(n:Nat) (l:List α),l.length≤n→(jU lt n l).Perm l
 |0,l,h=>by obtain rfl:l=[]:=List.length_eq_zero_iff.1 (by omega)
            exact List.Perm.refl _
 |n+1,l,h=>by
  simp only[jU];split
  ·rename_i h0;obtain rfl:l=[]:=List.length_eq_zero_iff.1 h0;exact List.Perm.refl _
  ·rename_i h0
   exact((mE n _ (by rw[mi _ (by omega)];omega)).cons _).trans (t9 l (by omega))
theorem oe (O:iC lt):∀(n:Nat) (l:List α),l.length≤n→ni lt l→(jU lt n l).Pairwise (fun a b=>lt b a=false)
 |0,l,h,_=>List.Pairwise.nil
 |n+1,l,h,hh=>by
  simp only[jU];split
  ·exact List.Pairwise.nil
  ·rename_i h0
   refine List.pairwise_cons.2 ⟨fun b hb=>?_,oe O n _ (by rw[mi _ (by omega)];omega) (zp O hh (by omega))⟩;have hb2:b∈l:=(t9 (lt:=lt) l (by omega)).mem_iff.1 (List.mem_cons_of_mem _ ((mE n _ (by rw[mi _ (by omega)];omega)).mem_iff.1 hb));obtain⟨i,hi,rfl⟩:=List.getElem_of_mem hb2;rw[←iq hi];exact Cg O hh i hi
theorem wU (O:iC lt) {l m:List α} (h1:l.Pairwise (fun a b=>lt b a=false)) (h2:m.Pairwise (fun a b=>lt b a=false)) (hp:l.Perm m):l=m:=
 hp.eq_of_pairwise (fun a b _ _ ha hb=>O.total a b hb ha) h1 h2
def i5 (lt:α→α→Bool) (l:List α):List α:=l.foldl (lR lt) []
theorem sw (O:iC lt) (l:List α):ni lt (i5 lt l)∧(i5 lt l).Perm l:=by
 unfold i5;have d:∀(l m:List α),ni lt m→ni lt (l.foldl (lR lt) m)∧(l.foldl (lR lt) m).Perm (m++l):=by
  intro l
  induction l with
  |nil=>intro m c;exact⟨c,by simp⟩
  |cons x l ih=>
   intro m c;obtain⟨a,b⟩:=ih (lR lt m x) (zn O c x);refine⟨a,b.trans ?_⟩;have:=(zo (lt:=lt) m x).append_right l;simpa using this
 obtain⟨a,b⟩:=d l [] (fun i _ e=>by simp at e);exact⟨a,by simpa using b⟩
end
end
section
def jM:List Int→List Int→Bool
 |a::l,b::m=>if a=b then jM l m else decide (a<b)
 |_,_=>false
theorem pS:∀(l m:List Int),jM l m=true→jM m l=false
 | [],_,h=>by simp[jM] at h
 |_::_,[],h=>by simp[jM] at h
 |a::l,b::m,h=>by
  simp only[jM] at h ⊢;by_cases e:a=b
  ·subst e;rw[if_pos rfl] at h ⊢;exact pS l m h
  ·rw[if_neg e] at h;rw[if_neg (Ne.symm e)];simp at h ⊢;omega
theorem pU:∀(l m n:List Int),jM l m=true→jM m n=true→jM l n=true
 | [],_,_,h,_=>by simp[jM] at h
 |_::_,[],_,h,_=>by simp[jM] at h
 |_::_,_::_,[],_,h=>by simp[jM] at h
 |a::l,b::m,c::n,h1,h2=>by
  simp only[jM] at h1 h2 ⊢;by_cases e:a=b
  ·subst e
   rw[if_pos rfl] at h1;by_cases e2:a=c
   ·subst e2;rw[if_pos rfl] at h2 ⊢;exact pU l m n h1 h2
   ·rw[if_neg e2] at h2 ⊢;exact h2
  ·rw[if_neg e] at h1
   simp only[decide_eq_true_eq] at h1;by_cases e2:b=c
   ·subst e2;rw[if_neg e];simpa using h1
   ·rw[if_neg e2] at h2
    simp only[decide_eq_true_eq] at h2;rw[if_neg (by omega)];simp;omega
theorem pT:∀(l m:List Int),l.length=m.length→jM l m=false→jM m l=false→l=m
 | [],[],_,_,_=>rfl
 | [],_::_,h,_,_=>by simp at h
 |_::_,[],h,_,_=>by simp at h
 |a::l,b::m,h,h1,h2=>by
  simp only[jM] at h1 h2;by_cases e:a=b
  ·subst e;rw[if_pos rfl] at h1 h2;rw[pT l m (by simpa using h) h1 h2]
  ·rw[if_neg e] at h1;rw[if_neg (Ne.symm e)] at h2;simp at h1 h2;omega
def hY.key (e:hY):List Int:=[e.time,e.to,e.from_,e.count,e.n,e.kind,e.arg]
def ik.key (o:ik):List Int:=[o.time,o.proc,o.count,o.n,o.value]
def gQ (a b:hY):Bool:=jM a.key b.key
def gO (a b:ik):Bool:=jM a.key b.key
theorem nT:iC gQ where
 asymm a b:=pS _ _
 trans a b c:=pU _ _ _
 total a b h1 h2:=by
  have:=pT a.key b.key rfl h1 h2;cases a;cases b;simpa [hY.key] using this
theorem mZ:iC gO where
 asymm a b:=pS _ _
 trans a b c:=pU _ _ _
 total a b h1 h2:=by
  have:=pT a.key b.key rfl h1 h2;cases a;cases b;simpa [ik.key] using this
section
variable {α:Type} [Inhabited α] (lt:α→α→Bool)
def jD (l:List α) (x:α):Nat→Nat
 |0=>0
 |k+1=>if lt x (kp l k)=true then jD l x k else k+1
def pz (l:List α) (x:α) (k:Nat):List α:=l.take k++x::l.drop k
def ku [DecidableEq α] (l:List α) (x:α):List α:=if 0<jD lt l x l.length∧kp l (jD lt l x l.length-1)=x then l else pz l x (jD lt l x l.length)
def mJ [DecidableEq α] (l:List α):List α:=l.foldl (ku lt) []
def lf (l:List α) (x:α):List α:=pz l x (jD lt l x l.length)
def rY (l:List α):List α:=l.foldl (lf lt) []
variable {lt}
theorem pY (l:List α) (x:α):∀k,jD lt l x k≤k
 |0=>Nat.le_refl _
 |k+1=>by
  simp only[jD];split
  ·have:=pY l x k;omega
  ·exact Nat.le_refl _
theorem pW (l:List α) (x:α):∀k j,jD lt l x k≤j→j<k→lt x (kp l j)=true
 |0,j,_,h=>by omega
 |k+1,j,h1,h2=>by
  simp only[jD] at h1;split at h1
  ·rename_i hl
   by_cases e:j=k
   ·subst e;exact hl
   ·exact pW l x k j h1 (by omega)
  ·omega
theorem pX (l:List α) (x:α):∀k,0<jD lt l x k→lt x (kp l (jD lt l x k-1))=false
 |0,h=>by simp[jD] at h
 |k+1,h=>by
  simp only[jD] at h ⊢;split
  ·rename_i hl;rw[if_pos hl] at h;exact pX l x k h
  ·rename_i hl;simpa using hl
theorem um (l:List α) (x:α) (k:Nat):(pz l x k).Perm (l++[x]):=by
 unfold pz;have a:(l.take k++x::l.drop k).Perm (x::(l.take k++l.drop k)):=List.perm_middle;rw[List.take_append_drop] at a;exact a.trans (List.perm_append_singleton x l).symm
theorem rQ {l:List α} {k:Nat} {a:α} (h:a∈l.take k):∃i,i<k∧i<l.length∧a=kp l i:=by
 obtain⟨i,b,rfl⟩:=List.getElem_of_mem h;simp only[List.length_take] at b;exact⟨i,by omega,by omega,by rw[iq (by omega)];simp⟩
theorem rP {l:List α} {k:Nat} {a:α} (h:a∈l.drop k):∃i,k≤i∧i<l.length∧a=kp l i:=by
 obtain⟨i,b,rfl⟩:=List.getElem_of_mem h;simp only[List.length_drop] at b;exact⟨k+i,by omega,by omega,by rw[iq (by omega)];simp⟩
theorem vW (O:iC lt) {l:List α} (h:l.Pairwise (fun a b=>lt b a=false)) (x:α):(lf lt l x).Pairwise (fun a b=>lt b a=false):=by
 unfold lf pz;have m:=List.pairwise_iff_getElem.1 h;have g:∀a∈l.take (jD lt l x l.length),lt x a=false:=by
  intro a ha;obtain⟨i,k,d,rfl⟩:=rQ ha;have c:=pX (lt:=lt) l x l.length (by omega);have n:=pY (lt:=lt) l x l.length;by_cases e:i=jD lt l x l.length-1
  ·rw[e];exact c
  ·have j:=m i (jD lt l x l.length-1) d (by omega) (by omega)
   rw[←iq,←iq] at j;exact O.le_trans j c
 have f:∀a∈l.drop (jD lt l x l.length),lt a x=false:=by
  intro a ha;obtain⟨i,k,d,rfl⟩:=rP ha;exact O.asymm _ _ (pW l x l.length i k d)
 refine List.pairwise_append.2 ⟨h.sublist (List.take_sublist _ _),List.pairwise_cons.2 ⟨f,h.sublist (List.drop_sublist _ _)⟩,fun a ha b c=>?_⟩;rcases List.mem_cons.1 c with rfl|c
 ·exact g a ha
 ·exact O.le_trans (g a ha) (f b c)
theorem vp (O:iC lt) (l:List α):(rY lt l).Pairwise (fun a b=>lt b a=false)∧(rY lt l).Perm l:=by
 unfold rY;have f:∀(l m:List α),m.Pairwise (fun a b=>lt b a=false)→(l.foldl (lf lt) m).Pairwise (fun a b=>lt b a=false)∧(l.foldl (lf lt) m).Perm (m++l):=by
  intro l
  induction l with
  |nil=>intro m e;exact⟨e,by simp⟩
  |cons x l ih=>
   intro m e;obtain⟨c,d⟩:=ih (lf lt m x) (vW O e x);refine⟨c,d.trans ?_⟩;have:=(um m x (jD lt m x m.length)).append_right l;unfold lf;simpa using this
 obtain⟨c,d⟩:=f l [] List.Pairwise.nil;exact⟨c,by simpa using d⟩
theorem vT (O:iC lt) (l:List α):jU lt l.length (i5 lt l)=rY lt l:=by
 obtain⟨c,b⟩:=sw O l;obtain⟨d,e⟩:=vp O l;have a:(i5 lt l).length≤l.length:=by rw[b.length_eq];exact Nat.le_refl _
 exact wU O (oe O _ _ a c) d (((mE _ _ a).trans b).trans e.symm)
variable [DecidableEq α]
def jm (l:List α):List α:=l.foldl (fun m x=>if x∈m then m else m++[x]) []
theorem qC (l:List α) (x:α):jm (l++[x])=if x∈l then jm l else jm l++[x]:=by
 have c:∀y,y∈jm l↔y∈l:=by
  intro y;have d:∀(l m:List α),y∈l.foldl (fun m x=>if x∈m then m else m++[x]) m↔y∈m∨y∈l:=by
   intro l
   induction l with
   |nil=>intro m;simp
   |cons a l ih=>
    intro m;simp only[List.foldl_cons];rw[ih];by_cases h:a∈m
    ·rw[if_pos h];simp only[List.mem_cons]
     constructor
     ·rintro(b|b)
      ·exact Or.inl b
      ·exact Or.inr (Or.inr b)
     ·rintro(b|rfl|b)
      ·exact Or.inl b
      ·exact Or.inl h
      ·exact Or.inr b
    ·rw[if_neg h];simp[or_assoc]
  have:=d l [];unfold jm;simpa using this
 unfold jm at c ⊢;rw[List.foldl_append];simp only[List.foldl_cons,List.foldl_nil];by_cases h:x∈l
 ·rw[if_pos ((c x).2 h),if_pos h]
 ·rw[if_neg (fun e=>h ((c x).1 e)),if_neg h]
theorem uz (l:List α) (y:α):y∈jm l↔y∈l:=by
 have c:∀n,∀l:List α,l.length=n→(y∈jm l↔y∈l):=by
  intro n
  induction n with
  |zero=>intro l h;obtain rfl:=List.length_eq_zero_iff.1 h;simp[jm]
  |succ n ih=>
   intro l h;have b:l≠[]:=fun e=>by rw[e] at h;simp at h
   rw[←List.dropLast_concat_getLast b,qC];have a:=ih l.dropLast (by simp[h]);split
   ·rename_i hx
    rw[a];simp only[List.mem_append,List.mem_singleton];constructor
    ·exact Or.inl
    ·rintro(d|rfl)
     ·exact d
     ·exact hx
   ·simp only[List.mem_append,a]
 exact c _ l rfl
theorem zy (l:List α):(jm l).Nodup:=by
 have g:∀n,∀l:List α,l.length=n→(jm l).Nodup:=by
  intro n
  induction n with
  |zero=>intro l h;obtain rfl:=List.length_eq_zero_iff.1 h;simp[jm]
  |succ n ih=>
   intro l h;have f:l≠[]:=fun e=>by rw[e] at h;simp at h
   rw[←List.dropLast_concat_getLast f,qC];have c:=ih l.dropLast (by simp[h]);split
   ·exact c
   ·rename_i hx
    refine List.nodup_append.2 ⟨c,by simp,fun a ha b d=>?_⟩;simp only[List.mem_singleton] at d;subst d;intro e;subst e;exact hx ((uz _ _).1 ha)
 exact g _ l rfl
theorem zq (O:iC lt) {l:List α} (h:l.Pairwise (fun a b=>lt a b=true)) (x:α):(ku lt l x).Pairwise (fun a b=>lt a b=true)∧∀y,y∈ku lt l x↔y∈l∨y=x:=by
 have o:=List.pairwise_iff_getElem.1 h;have p:=pY (lt:=lt) l x l.length;unfold ku;split
 ·rename_i hx
  refine⟨h,fun y=>⟨Or.inl,?_⟩⟩;rintro(n|rfl)
  ·exact n
  ·rw[←hx.2,iq (by omega)];exact List.getElem_mem _
 ·rename_i hx
  refine⟨?_,fun y=>?_⟩
  ·unfold pz
   have j:∀a∈l.take (jD lt l x l.length),lt a x=true:=by
    intro a ha;obtain⟨i,m,f,rfl⟩:=rQ ha;have d:=pX (lt:=lt) l x l.length (by omega);have c:lt (kp l (jD lt l x l.length-1)) x=true:=by
     cases hc:lt (kp l (jD lt l x l.length-1)) x with
     |true=>rfl
     |false=>exact absurd ⟨by omega,O.total _ _ hc d⟩ hx
    by_cases e:i=jD lt l x l.length-1
    ·rw[e];exact c
    ·have k:=o i (jD lt l x l.length-1) f (by omega) (by omega)
     rw[←iq,←iq] at k;exact O.trans _ _ _ k c
   have g:∀a∈l.drop (jD lt l x l.length),lt x a=true:=by
    intro a ha;obtain⟨i,m,f,rfl⟩:=rP ha;exact pW l x l.length i m f
   refine List.pairwise_append.2 ⟨h.sublist (List.take_sublist _ _),List.pairwise_cons.2 ⟨g,h.sublist (List.drop_sublist _ _)⟩,fun a ha b d=>?_⟩;rcases List.mem_cons.1 d with rfl|d
   ·exact j a ha
   ·exact O.trans _ _ _ (j a ha) (g b d)
  ·rw[(um l x _).mem_iff];simp
theorem tj (O:iC lt) (l:List α):(mJ lt l).Pairwise (fun a b=>lt a b=true)∧∀y,y∈mJ lt l↔y∈l:=by
 unfold mJ;have f:∀(l m:List α),m.Pairwise (fun a b=>lt a b=true)→(l.foldl (ku lt) m).Pairwise (fun a b=>lt a b=true)∧∀y,y∈l.foldl (ku lt) m↔y∈m∨y∈l:=by
  intro l
  induction l with
  |nil=>intro m e;exact⟨e,fun y=>by simp⟩
  |cons x l ih=>
   intro m e;obtain⟨g,i⟩:=zq O e x;obtain⟨c,d⟩:=ih (ku lt m x) g;refine⟨c,fun y=>?_⟩;rw[List.foldl_cons,d,i];simp[or_assoc]
 obtain⟨c,d⟩:=f l [] List.Pairwise.nil;exact⟨c,fun y=>by simpa using d y⟩
theorem tZ (O:iC lt) (l:List α):jU lt (jm l).length (i5 lt (jm l))=mJ lt l:=by
 obtain⟨j,f⟩:=sw O (jm l);obtain⟨i,m⟩:=tj O l;have c:(i5 lt (jm l)).length≤(jm l).length:=by rw[f.length_eq];exact Nat.le_refl _
 have k:(mJ lt l).Pairwise (fun a b=>lt b a=false):=i.imp (fun h=>O.asymm _ _ h);have g:(mJ lt l).Nodup:=i.imp (fun h e=>by subst e;rw[O.irrefl] at h;cases h);have d:(jm l).Perm (mJ lt l):=(List.perm_ext_iff_of_nodup (zy l) g).2 (fun y=>by rw[uz,m]);exact wU O (oe O _ _ c j) k (((mE _ _ c).trans f).trans d)
end
def iI (l:List hY):List hY:=mJ gQ l
def iU (l:List ik):List ik:=rY gO l
end
end Go.Proofs.YtlndjfflhegkdaaGreatDoor
