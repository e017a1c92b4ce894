/- Parts of the proof: SimP, SimQ, Seg. -/
import Derived.Test.YtlndjfflhegkdaaGreatDoorQ04
import Derived.Test.YtlndjfflhegkdaaGreatDoorQ09
import Derived.Test.YtlndjfflhegkdaaGreatDoorQ10
set_option linter.unusedVariables false
set_option linter.unusedSimpArgs false
set_option linter.unusedSectionVars false
set_option maxHeartbeats 4000000
namespace Go.Proofs.YtlndjfflhegkdaaGreatDoor
open Go.RowKit
structure kq where
 states:List ll
 queue:List hY
 outs:List ik
 deriving DecidableEq,Inhabited
def we:kq:=⟨[],[],[]⟩
def jB (p:Int):hY:=if ib p 0 3=true then ⟨0,p,-1,0,p,0,p⟩ else ⟨0,0,0,0,0,0,0⟩
def gR:kq:=⟨[xM,xM,xM,xM],[jB 0,jB 1,jB 2,jB 3],[]⟩
def kX {α:Type} (lt:α→α→Bool):List α→Bool
 | []=>true
 | [_]=>true
 |a::b::l=>lt a b&&kX lt (b::l)
def iQ (l:List hY) (most:Int):Bool:=decide ((l.length:Int)≤most)&&(l.all i7&&kX gQ l)
def iu (l:List ik) (most:Int):Bool:=decide ((l.length:Int)≤most)&&(l.all nL&&kX gO l)
def jN (s:kq):Bool:=decide (s.states.length=4)&&(s.states.all jE&&(iQ s.queue 100&&iu s.outs 96))
def gW (apps:List iy) (s:kq):kq:=
 match s.queue with
 | []=>s
 |e::rest=>
  ⟨s.states.set e.to.toNat (iA (apps.getD e.to.toNat ⟨[]⟩) (s.states.getD e.to.toNat xM) e).1,
   iI (rest++(iA (apps.getD e.to.toNat ⟨[]⟩) (s.states.getD e.to.toNat xM) e).2.1),
   iU (s.outs++(iA (apps.getD e.to.toNat ⟨[]⟩) (s.states.getD e.to.toNat xM) e).2.2)⟩
def jg (apps:List iy) (s:kq):kq×Bool:=
 match s.queue with
 | []=>(s,false)
 |_::_=>if jN (gW apps s)=true then (gW apps s,true) else (s,false)
def k9 (apps:List iy) (s:kq):kq×Bool:=if jN s=true∧io apps=true then jg apps s else (we,false)
def jw (apps:List iy) (u:Int):Nat→kq→kq
 |0,s=>s
 |n+1,s=>
  match s.queue with
  | []=>s
  |e::_=>if e.time<u then (if (jg apps s).2=true then jw apps u n (jg apps s).1 else s) else s
def kM (apps:List iy) (u:Int):kq:=if io apps=true then jw apps u 200 gR else we
theorem As {α:Type} (lt:α→α→Bool) (l:List α) (a:α):kX lt (l++[a])=(kX lt l&&match l.getLast? with|none=>true|some b=>lt b a):=by
 induction l with
 |nil=>rfl
 |cons x l ih=>
  cases l with
  |nil=>simp[kX]
  |cons y l=>
   simp only[List.cons_append,kX] at ih ⊢;rw[ih,Bool.and_assoc];simp[List.getLast?_cons_cons]
theorem jF {α:Type} (lt:α→α→Bool) {l:List α} {k:Nat} (h:k<l.length):kX lt (l.take (k+1))=(kX lt (l.take k)&&(if k=0 then true else lt (l[k-1]'(by omega)) l[k])):=by
 rw[List.take_succ_eq_append_getElem h,As]
 congr 1
 by_cases hk:k=0
 ·subst hk;simp
 ·rw[if_neg hk]
  have:(l.take k).getLast? =some (l[k-1]'(by omega)):=by
   rw[List.getLast?_eq_getElem?,List.getElem?_take];simp only[List.length_take];rw[Nat.min_eq_left (by omega),if_pos (by omega),List.getElem?_eq_getElem]
  rw[this]
theorem oz {α:Type} (lt:α→α→Bool) {l:List α} {k:Nat} (h:kX lt (l.take k)=false):kX lt l=false:=by
 induction hn:l.length-k generalizing k with
 |zero=>rw[List.take_of_length_le (by omega)] at h;exact h
 |succ n ih=>
  have a:k<l.length:=by omega
  refine ih (k:=k+1) ?_ (by omega);rw[jF lt a,h];rfl
theorem rz {α:Type} {lt:α→α→Bool} (O:iC lt) (l:List α):kX lt l=true↔l.Pairwise (fun a b=>lt a b=true):=by
 induction l with
 |nil=>simp[kX]
 |cons a l ih=>
  cases l with
  |nil=>simp[kX]
  |cons b l=>
   simp only[kX,Bool.and_eq_true,ih];constructor
   ·rintro⟨c,d⟩
    refine List.pairwise_cons.2 ⟨fun q hq=>?_,d⟩;rcases List.mem_cons.1 hq with rfl|hq
    ·exact c
    ·exact O.trans _ _ _ c ((List.pairwise_cons.1 d).1 q hq)
   ·intro h
    obtain⟨c,d⟩:=List.pairwise_cons.1 h;exact⟨c b (List.mem_cons_self ..),d⟩
structure Ah (e:hY) (c:Int) (r:im):Prop where
 good:CZ e c r
 sends:∀q∈r.sends,(0≤q.to∧q.to≤3)∧(0≤q.n)∧(0≤q.kind∧q.kind≤3)∧(0≤q.arg∧q.arg≤999)
 outs:∀(i:Nat) o,r.outs[i]? =some o→o.n=i∧o.count=c
 sn:∀(i:Nat) q,r.sends[i]? =some q→q.n=i
theorem Ay {e:hY} {c:Int} {o:lJ} {r:im} (h:Ah e c r) (ho:kg o=true):Ah e c (jl e c o r).1:=by
 refine⟨Ax h.good ho,?_,?_,?_⟩
 ·rw[oW]
  split
  ·rename_i h6
   intro q hq;rcases List.mem_append.1 hq with hq|hq
   ·exact h.sends q hq
   ·simp only[List.mem_singleton] at hq
    subst hq;have a:=ho;simp[kg,ib,h6.1] at a;have d:=h.good.run.get o.e;exact⟨⟨a.1.1,a.1.2⟩,by simp,⟨a.2.1.1,a.2.1.2⟩,d⟩
  ·exact h.sends
 ·rw[su]
  split
  ·intro i q hq
   rw[List.getElem?_append] at hq;split at hq
   ·exact h.outs i q hq
   ·rename_i hge
    have b:i=r.outs.length:=by have:=(List.getElem?_eq_some_iff.1 hq).1;simp at this;omega
    subst b;simp only[Nat.sub_self,List.getElem?_cons_zero,Option.some.injEq] at hq;subst hq;exact⟨rfl,rfl⟩
  ·exact h.outs
 ·rw[oW]
  split
  ·intro i q hq
   rw[List.getElem?_append] at hq;split at hq
   ·exact h.sn i q hq
   ·rename_i hge
    have b:i=r.sends.length:=by have:=(List.getElem?_eq_some_iff.1 hq).1;simp at this;omega
    subst b;simp only[Nat.sub_self,List.getElem?_cons_zero,Option.some.injEq] at hq;subst hq;rfl
  ·exact h.sn
theorem tX {e:hY} {c:Int}:∀(n:Nat) (l:List lJ) (r:im),(∀o∈l,kg o=true)→Ah e c r→Ah e c (kR e c n l r)
 |0,_,r,_,h=>by simpa [kR] using h
 |n+1,[],r,_,h=>by simpa [kR] using h
 |n+1,o::l,r,hl,h=>by
  simp only[kR];exact tX n _ _ (fun q hq=>hl q (List.mem_cons_of_mem _ (List.mem_of_mem_drop hq))) (Ay h (hl o (List.mem_cons_self ..)))
structure DZ (s:ll) (e:hY) (r:ll×List hY×List ik):Prop where
 st:jE r.1=true
 way:(s.c=12∧r=(s,[],[]))∨(s.c<12∧r.1.c=s.c+1∧r.2.1.length≤2∧r.2.2.length≤2)
 sends:∀q∈r.2.1,i7 q=true∧e.time<q.time
 outs:∀o∈r.2.2,nL o=true∧o.time=e.time∧o.proc=e.to∧o.count=s.c
 nodup:r.2.2.Nodup
theorem oU {a:iy} {s:ll} {e:hY} (ha:je a=true) (hs:jE s=true) (he:i7 e=true):DZ s e (iA a s e):=by
 have A:=vt hs;have L:0≤s.c∧s.c≤12:=by simp[jE,ib] at hs;exact hs.2
 have w:=he;simp only[i7,ib,Bool.and_eq_true,decide_eq_true_eq] at w;unfold iA;rw[if_pos (by simp[ha,hs,he])];split
 ·rename_i h12
  exact⟨hs,Or.inl ⟨h12,rfl⟩,by simp,by simp,by simp⟩
 ·rename_i h12
  have n:Ah e s.c ⟨s.x,s.y,[],[]⟩:=⟨⟨A,by simp,by simp⟩,by simp,by simp,by simp⟩;have t:mz a.rules=true:=by simp only[je,Bool.and_eq_true] at ha;exact ha.2
  have p:Ah e s.c (jh e s.c a.rules ⟨s.x,s.y,[],[]⟩)∧(jh e s.c a.rules ⟨s.x,s.y,[],[]⟩).sends.length≤2∧(jh e s.c a.rules ⟨s.x,s.y,[],[]⟩).outs.length≤2:=by
   rcases sP e s.c a.rules ⟨s.x,s.y,[],[]⟩ t with d|⟨q,hq,_,d⟩
   ·rw[d];exact⟨n,by simp,by simp⟩
   ·rw[d]
    have l:mG q.ops=true:=by
     simp only[je,Bool.and_eq_true] at ha;have:=List.all_eq_true.1 ha.1.2 q hq;simp only[kV,Bool.and_eq_true] at this;exact this.2
    have ho':=l;simp only[mG,Bool.and_eq_true,decide_eq_true_eq] at ho';obtain⟨B,C⟩:=wv e s.c q.ops.length q.ops ⟨s.x,s.y,[],[]⟩;simp only[List.length_nil] at B C;exact⟨tX _ _ _ (fun o z=>List.all_eq_true.1 ho'.1.1.1 o z) n,by omega,by omega⟩
  generalize jh e s.c a.rules ⟨s.x,s.y,[],[]⟩=r at p;obtain⟨b,H,I⟩:=p;show DZ s e (⟨r.x,r.y,s.c+1⟩,r.sends,r.outs);refine⟨?_,Or.inr ⟨by omega,rfl,H,I⟩,fun q (hq:q∈r.sends)=>?_,fun o (l:o∈r.outs)=>?_,?_⟩
  ·have:=b.good.run
   simp only[jE,ib,Bool.and_eq_true,decide_eq_true_eq];exact⟨⟨⟨this.x0,this.x1⟩,this.y0,this.y1⟩,by omega,by omega⟩
  ·obtain⟨g,k,v,E⟩:=b.good.sends q hq
   obtain⟨M,O,P,Q⟩:=b.sends q hq;obtain⟨i,f,rfl⟩:=List.getElem_of_mem hq;have u:=b.sn i _ (List.getElem?_eq_getElem f);refine⟨?_,g⟩;simp only[i7,ib,Bool.and_eq_true,decide_eq_true_eq];rw[k,v,u];omega
  ·obtain⟨g,k,v,E⟩:=b.good.outs o l
   obtain⟨i,f,rfl⟩:=List.getElem_of_mem l;obtain⟨u,m⟩:=b.outs i _ (List.getElem?_eq_getElem f);refine⟨?_,g,k,m⟩;simp only[nL,ib,Bool.and_eq_true,decide_eq_true_eq];rw[g,k,m,u];omega
  ·refine List.pairwise_iff_getElem.2 fun i j f G J D=>?_
   have d:=(b.outs i _ (List.getElem?_eq_getElem f)).1;have F:=(b.outs j _ (List.getElem?_eq_getElem G)).1;rw[D,F] at d;omega
def By (l:List ll):Int:=(l.map (fun t=>12-t.c)).sum
theorem zL:∀(l:List ll) (i:Nat) (x:ll) (h:i<l.length),By (l.set i x)=By l+l[i].c-x.c
 | [],i,x,h=>by simp at h
 |t::l,0,x,h=>by simp[By];omega
 |t::l,i+1,x,h=>by
  have:=zL l i x (by simpa using h);simp[By] at this ⊢;omega
theorem rc:∀(l:List ll),(∀t∈l,jE t=true)→0≤By l
 | [],_=>by simp[By]
 |t::l,h=>by
  have h1:=rc l (fun x hx=>h x (List.mem_cons_of_mem _ hx));have h2:=h t (List.mem_cons_self ..);simp[jE,ib] at h2;simp[By] at h1 ⊢;omega
structure rx (s:kq):Prop where
 len:s.states.length=4
 st:∀t∈s.states,jE t=true
 q:∀e∈s.queue,i7 e=true
 qs:s.queue.Pairwise (fun a b=>gQ a b=true)
 o:∀o∈s.outs,nL o=true
 os:s.outs.Pairwise (fun a b=>gO a b=true)
 qn:(s.queue.length:Int)+2*By s.states≤100
 on:(s.outs.length:Int)+2*By s.states≤96
 oc:∀o∈s.outs,∀t,s.states[o.proc.toNat]? =some t→o.count<t.c
theorem rx.ok {s:kq} (h:rx s):jN s=true:=by
 have c:=rc _ h.st;have a:=h.qn;have b:=h.on;simp only[jN,iQ,iu,Bool.and_eq_true,decide_eq_true_eq];exact⟨h.len,List.all_eq_true.2 h.st,⟨by omega,List.all_eq_true.2 h.q,(rz nT _).2 h.qs⟩,by omega,List.all_eq_true.2 h.o,(rz mZ _).2 h.os⟩
theorem rx.start:rx gR:=by
 refine⟨rfl,by decide,by decide,?_,by simp[gR],by simp[gR],by decide,by decide,by simp[gR]⟩;exact(rz nT _).1 (by decide)
theorem Bm {l:List ik} (h:l.Pairwise (fun a b=>gO b a=false)) (hn:l.Nodup):l.Pairwise (fun a b=>gO a b=true):=by
 refine(List.pairwise_and_iff.2 ⟨h,hn⟩).imp (fun {a b} hab=>?_);cases hc:gO a b with
 |true=>rfl
 |false=>exact absurd (mZ.total a b hc hab.1) hab.2
structure Next (apps:List iy) (s:kq) (e:hY) (rest:List hY) (x:kq):Prop where
 inv:rx x
 less:(x.queue.length:Int)+2*By x.states<(s.queue.length:Int)+2*By s.states
 later:∀q∈x.queue,e.time≤q.time∧q≠e
 outs:∃new:List ik,x.outs=iU (s.outs++new)∧∀o∈new,o.time=e.time
 qlen:s.queue.length-1≤x.queue.length
 states:∀p,p≠e.to.toNat→x.states[p]? =s.states[p]?
 count:∀t t',s.states[e.to.toNat]? =some t→x.states[e.to.toNat]? =some t'→(t.c=12∧t' =t)∨(t.c<12∧t'.c=t.c+1)
 to_:0≤e.to∧e.to≤3
theorem yl {a b:hY} (h:gQ a b=true):a.time≤b.time:=by
 simp only[gQ,hY.key,jM] at h;split at h
 ·omega
 ·simp at h;omega
theorem uy:∀{l m:List hY},l.Nodup→(∀x∈l,x∈m)→l.length≤m.length
 | [],m,_,_=>Nat.zero_le _
 |a::l,m,h,hs=>by
  obtain⟨h1,h2⟩:=List.nodup_cons.1 h;have ham:a∈m:=hs a (List.mem_cons_self ..);have h3:=uy (l:=l) (m:=m.erase a) h2 (fun x hx=>(List.mem_erase_of_ne (fun e' =>by subst e';exact h1 hx)).2 (hs x (List.mem_cons_of_mem _ hx)));rw[List.length_erase_of_mem ham] at h3;have:=List.length_pos_of_mem ham;simp only[List.length_cons];omega
theorem rp {apps:List iy} {s:kq} (ha:io apps=true) (h:rx s) {e:hY} {rest:List hY} (hq:s.queue=e::rest):Next apps s e rest (gW apps s):=by
 have X:i7 e=true:=h.q e (by rw[hq];exact List.mem_cons_self ..);have Y:=X;simp only[i7,ib,Bool.and_eq_true,decide_eq_true_eq] at Y;have ag:0≤e.to∧e.to≤3:=⟨by omega,by omega⟩;have w:e.to.toNat<s.states.length:=by have:=h.len;omega
 have ap:apps.length=4:=by simp only[io,Bool.and_eq_true,decide_eq_true_eq] at ha;exact ha.1
 have Z:e.to.toNat<apps.length:=by omega
 have hA:je (apps.getD e.to.toNat ⟨[]⟩)=true:=by
  simp only[io,Bool.and_eq_true] at ha;simp only[List.getD,List.getElem?_eq_getElem Z,Option.getD_some];exact List.all_eq_true.1 ha.2 _ (List.getElem_mem _)
 have hS:s.states.getD e.to.toNat xM=s.states[e.to.toNat]:=by simp[List.getD,w]
 have af:=h.st _ (List.getElem_mem w);have W:=oU hA af X;have F:gW apps s=⟨s.states.set e.to.toNat (iA (apps.getD e.to.toNat ⟨[]⟩) s.states[e.to.toNat] e).1,iI (rest++(iA (apps.getD e.to.toNat ⟨[]⟩) s.states[e.to.toNat] e).2.1),iU (s.outs++(iA (apps.getD e.to.toNat ⟨[]⟩) s.states[e.to.toNat] e).2.2)⟩:=by
  unfold gW;rw[hq];simp only[hS]
 rw[F];generalize iA (apps.getD e.to.toNat ⟨[]⟩) s.states[e.to.toNat] e=r at W;obtain⟨S,u,A⟩:=r;obtain⟨T,U,M,C,V⟩:=W;simp only at T U M C V;obtain⟨q1,H⟩:=tj nT (rest++u);obtain⟨o1,G⟩:=vp mZ (s.outs++A);have J:=h.qs;rw[hq] at J;obtain⟨ac,ad⟩:=List.pairwise_cons.1 J;have R:(iI (rest++u)).Nodup:=q1.imp (fun y n=>by subst n;rw[nT.irrefl] at y;cases y);have I:(iI (rest++u)).length≤rest.length+u.length:=by
  have:=uy R (m:=rest++u) (fun x F=>(H x).1 F);simpa using this
 have Q:rest.length≤(iI (rest++u)).length:=by
  have aa:rest.Nodup:=ad.imp (fun y n=>by subst n;rw[nT.irrefl] at y;cases y);exact uy aa (fun x F=>(H x).2 (List.mem_append_left _ F))
 have ab:(iU (s.outs++A)).length=s.outs.length+A.length:=by
  have:=G.length_eq;unfold iU;simpa using this
 have B:=zL s.states e.to.toNat S w;have ae:(s.queue.length:Int)=rest.length+1:=by rw[hq];simp
 have v:(s.states[e.to.toNat].c=12∧S=s.states[e.to.toNat]∧u=[]∧A=[])∨(s.states[e.to.toNat].c<12∧S.c=s.states[e.to.toNat].c+1∧u.length≤2∧A.length≤2):=by
  rcases U with ⟨l,d⟩|k
  ·simp only[Prod.mk.injEq] at d;exact Or.inl ⟨l,d.1,d.2.1,d.2.2⟩
  ·exact Or.inr k
 have P:(s.outs++A).Nodup:=by
  refine List.nodup_append.2 ⟨h.os.imp (fun y n=>by subst n;rw[mZ.irrefl] at y;cases y),V,fun a ha b hb n=>?_⟩;subst n;obtain⟨_,_,i,j⟩:=C a hb;have:=h.oc a ha s.states[e.to.toNat] (by rw[i];exact List.getElem?_eq_getElem w);omega
 have ar:=h.qn;have aq:=h.on;refine⟨⟨by simpa using h.len,fun t g=>?_,fun q E=>?_,q1,fun o z=>?_,Bm o1 (G.nodup_iff.2 P),?_,?_,fun o z t g=>?_⟩,?_,fun q E=>?_,⟨A,rfl,fun o z=>(C o z).2.1⟩,?_,fun p D=>?_,fun t t2 g L=>?_,ag⟩
 ·rcases List.mem_or_eq_of_mem_set g with g|rfl
  ·exact h.st t g
  ·exact T
 ·rcases List.mem_append.1 ((H q).1 E) with f|f
  ·exact h.q q (by rw[hq];exact List.mem_cons_of_mem _ f)
  ·exact(M q f).1
 ·rcases List.mem_append.1 (G.mem_iff.1 z) with f|f
  ·exact h.o o f
  ·exact(C o f).1
 ·rw[B]
  rcases v with ⟨l,d,i,j⟩|⟨l,d,i,j⟩
  ·subst d i j
   simp only[List.length_nil] at I;show((iI (rest++[])).length:Int)+_≤_;omega
  ·show((iI (rest++u)).length:Int)+_≤_
   omega
 ·rw[B]
  show((iU (s.outs++A)).length:Int)+_≤_;rw[ab];rcases v with ⟨l,d,i,j⟩|⟨l,d,i,j⟩
  ·subst d i j;simp;omega
  ·omega
 ·rcases List.mem_append.1 (G.mem_iff.1 z) with f|f
  ·by_cases D:o.proc.toNat=e.to.toNat
   ·rw[D] at g
    simp only[List.getElem?_set_self w,Option.some.injEq] at g;subst g;have:=h.oc o f s.states[e.to.toNat] (by rw[D];exact List.getElem?_eq_getElem w);rcases v with ⟨l,d,i,j⟩|⟨l,d,i,j⟩
    ·rw[d];exact this
    ·omega
   ·rw[List.getElem?_set_ne (Ne.symm D)] at g
    exact h.oc o f t g
  ·obtain⟨_,_,i,j⟩:=C o f
   rw[i,List.getElem?_set_self w] at g;simp only[Option.some.injEq] at g;subst g;rcases v with ⟨j1,j2,j3,j4⟩|⟨j1,j2,j3,j4⟩
   ·subst j4;cases f
   ·omega
 ·rw[B,ae]
  rcases v with ⟨l,d,i,j⟩|⟨l,d,i,j⟩
  ·subst d i j
   simp only[List.length_nil] at I;show((iI (rest++[])).length:Int)+_<_;omega
  ·show((iI (rest++u)).length:Int)+_<_
   omega
 ·rcases List.mem_append.1 ((H q).1 E) with f|f
  ·have O:=ac q f
   exact⟨yl O,fun n=>by subst n;rw[nT.irrefl] at O;cases O⟩
  ·have:=(M q f).2
   exact⟨by omega,fun n=>by subst n;omega⟩
 ·have:s.queue.length-1=rest.length:=by rw[hq];simp
  rw[this];exact Q
 ·exact List.getElem?_set_ne (Ne.symm D)
 ·rw[List.getElem?_eq_getElem w] at g
  simp only[List.getElem?_set_self w,Option.some.injEq] at g L;subst g L;rcases v with ⟨l,d,i,j⟩|⟨l,d,i,j⟩
  ·exact Or.inl ⟨l,d⟩
  ·exact Or.inr ⟨l,d⟩
section
section
variable {P:Program} {ops:Array Oper} {Q:Exit→Act→World→Prop} {L:List Nat}
theorem vD {s:Sem Value} (hs:fv P s):fv P (do Pure.pure (Go.Next.value (←s)):Sem Go.Next)∧∀w n w2,(do Pure.pure (Go.Next.value (←s)):Sem Go.Next).run P w= .ok n w2→∃v,n= .value v:=
 ⟨hs.bind fun _=>fv.pure _,fun w n w2 h=>by
  rw[Sem.run_bind] at h;cases hr:s.run P w with
  |halt x w1=>rw[hr] at h;cases h
  |ok a w1=>
   rw[hr] at h;simp only[Result.andThen_ok,Sem.run_pure,Result.ok.injEq] at h;exact⟨a,h.1.symm⟩⟩
theorem DT (v:Value):fv P (Pure.pure (Go.Next.value v):Sem Go.Next)∧∀w n w2,(Pure.pure (Go.Next.value v):Sem Go.Next).run P w= .ok n w2→∃v,n= .value v:=
 ⟨fv.pure _,fun w n w2 h=>by simp only[Sem.run_pure,Result.ok.injEq] at h;exact⟨v,h.1.symm⟩⟩
theorem td {o:Oper} (h:ny P o=true) (ev:Operand→Value):fv P (execOp ev o)∧∀w n w2,(execOp ev o).run P w= .ok n w2→∃v,n= .value v:=by
 obtain⟨z,e,s,A,j,k⟩:=o;cases e<;>first|(exfalso;simp[ny] at h;done)|skip
 case move x=>exact DT _
 case assign x=>exact DT _
 case pick c a b=>
  refine⟨(fv.asBool _).bind fun _=>fv.pure _,fun w n w2 h=>?_⟩;have h:((asBool (ev c)) >>= fun q=>Pure.pure (Go.Next.value (if q=true then ev a else ev b))).run P w= .ok n w2:=h;rw[Sem.run_bind] at h;cases hr:(asBool (ev c)).run P w with
  |halt x w1=>rw[hr] at h;cases h
  |ok a w1=>
   rw[hr] at h;simp only[Result.andThen_ok,Sem.run_pure,Result.ok.injEq] at h;exact⟨_,h.1.symm⟩
 case load t a=>exact vD (fv.loadAt _ _)
 case nilCheck x=>
  unfold execOp;dsimp only;split
  ·exact⟨fv.nilDeref,fun w n w2 h=>by unfold runtimePanic at h;cases h⟩
  ·exact⟨fv.nilDeref,fun w n w2 h=>by unfold runtimePanic at h;cases h⟩
  ·exact⟨fv.nilDeref,fun w n w2 h=>by unfold runtimePanic at h;cases h⟩
  ·split
   ·exact⟨fv.nilDeref,fun w n w2 h=>by unfold runtimePanic at h;cases h⟩
   ·refine⟨fv.program.bind fun p=>(fv.nilAhead _ _ _ _).bind fun b=>?_,fun w n w2 h=>?_⟩
    ·split
     ·exact fv.unsupported _
     ·exact fv.pure _
    ·rw[Sem.run_bind,run_program] at h
     simp only[Result.andThen_ok] at h;rw[Sem.run_bind] at h;unfold Result.andThen at h;split at h
     ·dsimp only at h
      split at h
      ·cases h
      ·simp only[Sem.run_pure,Result.ok.injEq] at h
       exact⟨_,h.1.symm⟩
     ·cases h
   ·exact DT _
  ·exact DT _
 case binOp e t x y u=>
  have g:pK P t=true∧e∈[BinOp.lss,.leq,.gtr,.geq,.add,.sub,.eql,.neq]:=by
   cases e<;>simp[ny] at h<;>exact⟨h,by simp⟩
  exact vD ((fv.eqGuard g.1 _ _ _ _ _).bind fun _=>fv.binOpI g.1 g.2 _ _)
 case unOp e t x=>exact vD (fv.unary _ _)
 case slice t x lo hi mx=>exact vD (fv.sliceAt _ _ _ _ _)
 case fieldAddr t x f=>exact vD (fv.fieldAt h _)
 case field t x f=>exact vD (fv.field _ _ _)
 case indexAddr t x i=>exact vD (fv.indexAt _ _ _)
 case index t x i=>exact vD (fv.index _ _ _)
 case extract t i=>exact vD (fv.extract _ _)
 case call c=>
  obtain⟨d,l,B⟩:=c;cases d with
  |value f=>simp[ny] at h
  |invoke r m=>simp[ny] at h
  |builtin b=>
   cases b<;>first|(exfalso;simp[ny] at h;done)|skip
   case len=>exact vD (fv.len _ _ _)
   case cap=>exact vD (fv.cap _ _ _)
def lU (ops:Array Oper):List Nat→List Oper
 | []=>[]
 |i::r=>match ops[i]? with|some o=>o::lU ops r|none=>lU ops r
inductive Sg where
 |rd (l:List Nat)
 |mid (i:Nat)
 |par (D:List (Nat×List Nat)) (R:List Nat)
def Cj (ops:Array Oper) (i:Nat):Bool:=match ops[i]? with|some o=>(match o.op with| .move _=>true| .assign _=>true|_=>false)|none=>false
def r8 (ops:Array Oper):List Nat→Pe→Pe
 | [],p=>p
 |i::l,p=>if Cj ops i=true then .pure i (r8 ops l p) else .take i (r8 ops l p)
def zz:List Nat→Pe
 | []=> .nil
 |i::f=> .one i (zz f)
def yG (ops:Array Oper):List Sg→List Nat→Pe
 | [],f=>zz f
 | .rd l::r,f=>r8 ops l (yG ops r f)
 | .mid i::r,f=> .one i (yG ops r f)
 | .par D R::r,f=> .par D R (yG ops r f)
def qE:List Sg→List Nat
 | []=>[]
 | .rd l::r=>l++qE r
 | .mid _::r=>qE r
 | .par _ _::r=>qE r
def xH (ops:Array Oper) (s:List Sg):List Nat:=(qE s).filter fun i=>!Cj ops i
def En (w0:World) (next:Act→Prop):Exit→Act→World→Prop:=fun e a w=>e= .normal∧w.heap.size=w0.heap.size∧w.drawn=w0.drawn∧next a
def BD (w0:World) (Q:Exit→Act→World→Prop) (next:Act→World→Prop):Exit→Act→World→Prop:=fun e a w=>match e with| .normal=>i3 w0 w∧next a w|e=>Q e a w
def D9 (P:Program) (ops:Array Oper) (Q:Exit→Act→World→Prop) (S:World→Prop) (D:List (Nat×List Nat)) (R:List Nat) (next:Act→World→Prop) (a:Act) (w:World):Prop:=
 ∃(A:Nat→Prop) (N:Nat→(Nat→Value)→World→(Nat→Prop)→Prop) (PP:Nat→(Nat→Value)→Prop) (F0:Nat→Nat→Prop),(∀j i u v,PP j u→i≠j→jz ops j i=false→PP j (jd u i v))∧(∀j i u v w F,N j u w F→i≠j→jz ops j i=false→N j (jd u i v) w F)∧(∀j v w w' F,N j v w F→(∀k,F k→w'.heap[k]? =w.heap[k]?)→N j v w' F)∧(∀w',Ch A w w'→S w')∧
   (∀j∈R,∀u:Nat→Value,u j=undef→N j u w (F0 j))∧(∀j∈R,∀k,F0 j k→A k∧k<w.heap.size)∧(∀j∈R,∀j'∈R,∀k,j≠j'→F0 j k→F0 j' k→False)∧yD P ops Q (D.map (·.1)) a w A N PP D∧
   ∀u w' (F:Nat→Nat→Prop),Ch A w w'→(∀j j' k,kj D R j=true→kj D R j' =true→j≠j'→F j k→F j' k→False)→(∀j k,kj D R j=true→F j k→(A k∨w.heap.size≤k)∧k<w'.heap.size)→(∀j,kj D R j=true→N j u w' (F j))→(∀j∈D.map (·.1),PP j u)→next (i6 ops (D.map (·.1)) a u) w'
def m6 (P:Program) (ops:Array Oper) (Q:Exit→Act→World→Prop) (w0:World):List Sg→List Nat→Act→World→Prop
 | [],f,a,w=>wpList P ops Q (lU ops f) a w
 | .rd l::r,f,a,w=>wpList P ops (En w0 fun a' =>m6 P ops Q w0 r f a' w) (lU ops l) a w0
 | .mid i::r,f,a,w=>wpList P ops (BD w0 Q fun a' w' =>m6 P ops Q w0 r f a' w') (lU ops [i]) a w
 | .par D R::r,f,a,w=>D9 P ops Q (i3 w0) D R (fun a' w' =>i3 w0 w'∧m6 P ops Q w0 r f a' w') a w
theorem fV {w0:World} {next:Act→Prop} {a:Act} (h:next a):En w0 next .normal a w0:=⟨rfl,rfl,rfl,h⟩
theorem Co {w0 w:World} {next:Act→World→Prop} {a:Act} (hw:i3 w0 w) (h:next a w):BD w0 Q next .normal a w:=⟨hw,h⟩
def ri (P:Program) (ops:Array Oper) (i:Nat):Bool:=match ops[i]? with|some o=>ny P o|none=>false
theorem xE {w0:World} {next:Act→Prop}:∀(l:List Oper) (a:Act) (w:World),(∀o∈l,ny P o=true)→wpList P ops (En w0 next) l a w→w.heap.size≤w0.heap.size∧w.drawn≤w0.drawn
 | [],a,w,_,h=>by
  have h:En w0 next .normal a w:=h
  exact⟨Nat.le_of_eq h.2.1,Nat.le_of_eq h.2.2.1⟩
 |o::l,a,w,hr,h=>by
  unfold wpList at h;have hl:∀o∈l,ny P o=true:=fun q hq=>hr q (List.mem_cons_of_mem _ hq);split at h
  ·rcases h with h|⟨_,a',w',h,_⟩
   ·unfold Oper.wp at h
    obtain⟨g1,g2⟩:=td (hr o (List.mem_cons_self ..)) a.eval;cases hrun:(execOp a.eval o).run P w with
    |halt x w1=>
     rw[hrun] at h;cases x<;>first|exact h.elim|(cases h.1)
    |ok n w1=>
     obtain⟨v,rfl⟩:=g2 _ _ _ hrun;rw[hrun,Oper.upon_value] at h;obtain⟨m1,m2⟩:=xE l _ _ hl h;obtain⟨k1,k2,_⟩:=g1 _ _ _ hrun;omega
   ·cases h
  ·exact xE l _ _ hl h
theorem lF {w0 w:World} (r:Pe):∀(l:List Nat) (a:Act),(∀i∈l,ri P ops i=true)→i3 w0 w→
  wpList P ops (En w0 fun a' =>xa P ops Q (i3 w0) L r a' w) (lU ops l) a w0→xa P ops Q (i3 w0) L (r8 ops l r) a w
 | [],a,_,_,h=>h.2.2.2
 |i::l,a,hr,hA,h=>by
  have hi:=hr i (List.mem_cons_self ..);have hl:∀i∈l,ri P ops i=true:=fun q hq=>hr q (List.mem_cons_of_mem _ hq);unfold ri at hi;cases ho:ops[i]? with
  |none=>rw[ho] at hi;cases hi
  |some o=>
   rw[ho] at hi;have hi:ny P o=true:=hi;unfold lU at h;rw[ho] at h;simp only at h;have hlo:∀(l:List Nat),(∀i∈l,ri P ops i=true)→∀o∈lU ops l,ny P o=true:=by
    intro l
    induction l with
    |nil=>intro _ o ho;cases ho
    |cons j l ih=>
     intro hl o c;have b:=hl j (List.mem_cons_self ..);unfold ri at b;unfold lU at c;cases hoj:ops[j]? with
     |none=>rw[hoj] at b;cases b
     |some oj=>
      rw[hoj] at b c;rcases List.mem_cons.1 c with rfl|c
      ·exact b
      ·exact ih (fun q hq=>hl q (List.mem_cons_of_mem _ hq)) o c
   unfold wpList at h;unfold r8;by_cases hw:Region.wanted o (yielded ops a.tmps)=true
   ·rw[if_pos hw] at h
    rcases h with h|⟨_,a',t,h,_⟩
    ·unfold Oper.wp at h
     obtain⟨f,g⟩:=td hi a.eval;cases hrun:(execOp a.eval o).run P w0 with
     |halt x w1=>
      rw[hrun] at h;cases x<;>first|exact h.elim|(cases h.1)
     |ok n w1=>
      obtain⟨v,rfl⟩:=g _ _ _ hrun;rw[hrun,Oper.upon_value] at h;obtain⟨B,C⟩:=xE _ _ _ (hlo l hl) h;obtain⟨z,A,k⟩:=f _ _ _ hrun;obtain⟨rfl,m⟩:=k fT fT;by_cases hmv:Cj ops i=true
      ·rw[if_pos hmv]
       refine⟨o,v,ho,.inl ⟨hw,fun t _=>?_⟩,lF r l _ hl hA h⟩;unfold Cj at hmv;rw[ho] at hmv;obtain⟨u,p,s,y,d,e⟩:=o;cases p<;>first|(exfalso;simp at hmv;done)|skip
       case move=>
        simp only[execOp,Sem.run_pure,Result.ok.injEq,Go.Next.value.injEq,and_true] at hrun;subst hrun;rfl
       case assign=>
        simp only[execOp,Sem.run_pure,Result.ok.injEq,Go.Next.value.injEq,and_true] at hrun;subst hrun;rfl
      ·rw[if_neg hmv]
       exact⟨o,v,ho,.inl ⟨hw,m⟩,hA,lF r l _ hl hA h⟩
    ·cases h
   ·rw[if_neg hw] at h
    by_cases hmv:Cj ops i=true
    ·rw[if_pos hmv]
     exact⟨o,undef,ho,.inr ⟨by simpa using hw,rfl⟩,lF r l _ hl hA h⟩
    ·rw[if_neg hmv]
     exact⟨o,undef,ho,.inr ⟨by simpa using hw,rfl⟩,hA,lF r l _ hl hA h⟩
theorem vC {o:Oper} {a:Act} {K:Act→World→Prop} {Q Q':Exit→Act→World→Prop} (h1:∀c a w,Q' (.panic c) a w→Q (.panic c) a w) (h2:LetsOut Q'→LetsOut Q):∀r:Result Go.Next,o.upon P a K Q' r→o.upon P a K Q r
 | .ok n w',h=>by
  cases n
  case enter f args=>
   rw[Oper.upon_enter] at h ⊢;refine Calls.mono h fun e w hh=>?_;cases e with
   |returned v=>exact hh
   |panicked c=>exact h1 _ _ _ hh
   |outgrown=>exact h2 hh
  all_goals first|exact h|exact h.elim
 | .halt x w',h=>by
  cases x
  case panic v=>exact h1 _ _ _ h
  all_goals first|exact h|exact h.elim
theorem py {Q Q':Exit→Act→World→Prop} (hq:∀e a w,Q' e a w→Q e a w):∀(l:List Oper) (a:Act) (w:World),wpList P ops Q' l a w→wpList P ops Q l a w
 | [],a,w,h=>hq _ _ _ h
 |o::l,a,w,h=>by
  have h2:LetsOut Q'→LetsOut Q:=fun ⟨a,w,h⟩=>⟨a,w,hq _ _ _ h⟩;unfold wpList at h ⊢;split at h
  ·rename_i hw
   rw[if_pos hw];exact h.imp (fun h=>Oper.wp_mono (fun a w h=>py hq l a w h) (vC (fun _ _ _ h=>hq _ _ _ h) h2 _ h)) (fun h=>⟨h.1,h2 h.2⟩)
  ·rename_i hw
   rw[if_neg hw];exact py hq l _ w h
theorem vO {i:Nat} {o:Oper} {a:Act} {w:World} {K:Act→World→Prop} {Q':Exit→Act→World→Prop} (ho:ops[i]? =some o) (h1:∀c a w,Q' (.panic c) a w→Q (.panic c) a w) (h2:LetsOut Q'→LetsOut Q)
  (h:if Region.wanted o (yielded ops a.tmps)=true then o.wp P a w K Q'∨(o.asks P a w∧LetsOut Q') else K (a.put o.dst undef) w):wpOp P ops Q i K a w:=by
 unfold wpOp;rw[ho];by_cases hw:Region.wanted o (yielded ops a.tmps)=true
 ·rw[if_pos hw] at h
  simp only[hw,if_true];exact h.imp (vC h1 h2 _) (fun h=>⟨h.1,h2 h.2⟩)
 ·rw[if_neg hw] at h
  simp only[hw,if_false];exact h
theorem yP {w0:World}:∀(f:List Nat) (a:Act) (w:World),(∀i∈f,zu ops L i=true)→(∀i∈f,(ops[i]?).isSome=true)→wpList P ops Q (lU ops f) a w→xa P ops Q (i3 w0) L (zz f) a w
 | [],a,w,_,_,h=>h
 |i::f,a,w,hf,hs,h=>by
  have hi:=hs i (List.mem_cons_self ..);cases ho:ops[i]? with
  |none=>rw[ho] at hi;cases hi
  |some o=>
   unfold lU at h;rw[ho] at h;simp only at h;unfold wpList at h;have ih:=fun a w=>yP (w0:=w0) f a w (fun q hq=>hf q (List.mem_cons_of_mem _ hq)) (fun q hq=>hs q (List.mem_cons_of_mem _ hq));exact wpOp_mono (fun a' w' h' =>⟨.inl (hf i (List.mem_cons_self ..)),ih a' w' h'⟩) (vO ho (fun _ _ _ h=>h) (fun h=>h) h)
theorem qI {w0:World}:∀(s:List Sg) (f:List Nat) (a:Act) (w:World),(∀i∈qE s,ri P ops i=true)→(∀i∈f,zu ops L i=true)→
  (∀i,(Sg.mid i)∈s→(ops[i]?).isSome=true)→(∀i∈f,(ops[i]?).isSome=true)→i3 w0 w→m6 P ops Q w0 s f a w→xa P ops Q (i3 w0) L (yG ops s f) a w
 | [],f,a,w,hr,hf,hm,hs,hA',h=>yP f a w hf hs h
 | .rd l::r,f,a,w,hr,hf,hm,hs,hA',h=>by
  refine lF (L:=L) (yG ops r f) l a (fun i hi=>hr i (List.mem_append_left _ hi)) hA' ?_;have h:wpList P ops (En w0 fun a' =>m6 P ops Q w0 r f a' w) (lU ops l) a w0:=h;refine py (fun e a' w' hh=>?_) _ _ _ h;exact⟨hh.1,hh.2.1,hh.2.2.1,qI r f a' w (fun i hi=>hr i (List.mem_append_right _ hi)) hf (fun i hi=>hm i (List.mem_cons_of_mem _ hi)) hs hA' hh.2.2.2⟩
 | .mid i::r,f,a,w,hr,hf,hm,hs,hA',h=>by
  have hi:=hm i (List.mem_cons_self ..);cases ho:ops[i]? with
  |none=>rw[ho] at hi;cases hi
  |some o=>
   have h:wpList P ops (BD w0 Q fun a' w' =>m6 P ops Q w0 r f a' w') (lU ops [i]) a w:=h;unfold lU at h;rw[ho] at h;simp only at h;unfold wpList at h;exact wpOp_mono (fun a' w' (h':i3 w0 w'∧m6 P ops Q w0 r f a' w')=>⟨.inr fun _=>h'.1,qI r f a' w' hr hf (fun i hi=>hm i (List.mem_cons_of_mem _ hi)) hs h'.1 h'.2⟩)
    (vO (Q:=Q) ho (fun _ _ _ h=>h) (fun ⟨a,w,h⟩=>⟨a,w,h⟩) h)
 | .par D R::r,f,a,w,hr,hf,hm,hs,hA',h=>by
  have h:D9 P ops Q (i3 w0) D R (fun a' w' =>i3 w0 w'∧m6 P ops Q w0 r f a' w') a w:=h;obtain⟨A,N,PP,F0,h1,h2,h3,h4,h5,h6,h7,h8,h9⟩:=h;exact⟨A,N,PP,F0,h1,h2,h3,h4,h5,h6,h7,h8,fun u w' F e1 e2 e3 e4 e5=>qI r f _ w' hr hf (fun i hi=>hm i (List.mem_cons_of_mem _ hi)) hs (h9 u w' F e1 e2 e3 e4 e5).1 (h9 u w' F e1 e2 e3 e4 e5).2⟩
def vh:List Sg→List Nat
 | []=>[]
 | .rd _::r=>vh r
 | .mid i::r=>i::vh r
 | .par _ _::r=>vh r
theorem pa {i:Nat}:∀{s:List Sg},Sg.mid i∈s→i∈vh s
 | .rd l::r,h=>pa (s:=r) (by simpa using h)
 | .par D R::r,h=>pa (s:=r) (by simpa using h)
 | .mid j::r,h=>by
  rcases List.mem_cons.1 h with h|h
  ·injection h with h;subst h;exact List.mem_cons_self ..
  ·exact List.mem_cons_of_mem _ (pa h)
def EM (P:Program) (ops:Array Oper) (s:List Sg) (f:List Nat):Bool:=
 Region.noSelect ops&&(yG ops s f).len==ops.size&&Bz ops (xH ops s) (yG ops s f) (Array.replicate ops.size false)&&
 (qE s).all (ri P ops)&&f.all (fun i=>zu ops (xH ops s) i&&(ops[i]?).isSome)&&(vh s).all (fun i=>(ops[i]?).isSome)
theorem Bf {id:Nat} {a:Act} {w:World} {l:List Oper} (s:List Sg) (f:List Nat) (hm:P.follows .mixedOrders=true) (hk:EM P l.toArray s f=true)
  (hQ:∀c a d v w,Q (.panic c) (Act.put a d v) w→Q (.panic c) a w) (h:m6 P l.toArray Q w.drew s f a w.drew):(Code.region id l.toArray true).wp P Q a w:=by
 simp only[EM,Bool.and_eq_true] at hk;obtain⟨⟨⟨⟨⟨g,j⟩,k⟩,m⟩,e⟩,n⟩:=hk;refine p9 (i3 w.drew) (xH l.toArray s) (yG l.toArray s f) hm (by simp only[g,j,k,Bool.and_self]) hQ ?_;refine qI s f a w.drew (fun i b=>List.all_eq_true.1 m i b) (fun i b=>?_) (fun i b=>List.all_eq_true.1 n i (pa b)) (fun i b=>?_) (i3.refl _) h
 ·have:=List.all_eq_true.1 e i b
  simp only[Bool.and_eq_true] at this;exact this.1
 ·have:=List.all_eq_true.1 e i b
  simp only[Bool.and_eq_true] at this;exact this.2
theorem Fq {w0 w:World} {l:List Nat} {r:List Sg} {f:List Nat} {a:Act} (h:∀next:Act→Prop,(∀a',m6 P ops Q w0 r f a' w→next a')→wpList P ops (En w0 next) (lU ops l) a w0):m6 P ops Q w0 (.rd l::r) f a w:=h _ fun _ h=>h
theorem EO {w0 w:World} {i:Nat} {r:List Sg} {f:List Nat} {a:Act} (h:∀next:Act→World→Prop,(∀a' w',m6 P ops Q w0 r f a' w'→next a' w')→wpList P ops (BD w0 Q next) (lU ops [i]) a w):m6 P ops Q w0 (.mid i::r) f a w:=h _ fun _ _ h=>h
theorem EN {w0 w:World} {f:List Nat} {a:Act} (h:wpList P ops Q (lU ops f) a w):m6 P ops Q w0 [] f a w:=h
theorem tI {a:Act} {w:World} {D:List (Nat×List Nat)} {R:List Nat} {r:List Sg} {f:List Nat} {w0:World} (dl:List (Nat×Option Tmp)) (hdl:D.map (fun p=>(p.1,jT ops p.1))=dl) (A:Nat→Prop) (N:Nat→(Nat→Value)→World→(Nat→Prop)→Prop) (PP:Nat→(Nat→Value)→Prop) (F0:Nat→Nat→Prop)
  (hPP:∀j i u v,PP j u→i≠j→jz ops j i=false→PP j (jd u i v)) (hNu:∀j i u v w F,N j u w F→i≠j→jz ops j i=false→N j (jd u i v) w F) (hSt:∀j v w w' F,N j v w F→(∀k,F k→w'.heap[k]? =w.heap[k]?)→N j v w' F) (hS:∀w',Ch A w w'→i3 w0 w')
  (h0:∀j∈R,∀u:Nat→Value,u j=undef→N j u w (F0 j)) (h1:∀j∈R,∀k,F0 j k→A k∧k<w.heap.size) (h2:∀j∈R,∀j'∈R,∀k,j≠j'→F0 j k→F0 j' k→False) (hP:xD P ops Q dl a w A N PP D)
  (hend:∀K:Act→World→Prop,(∀a' w',i3 w0 w'→m6 P ops Q w0 r f a' w'→K a' w')→∀u w' (F:Nat→Nat→Prop),Ch A w w'→(∀j j' k,kj D R j=true→kj D R j' =true→j≠j'→F j k→F j' k→False)→(∀j k,kj D R j=true→F j k→(A k∨w.heap.size≤k)∧k<w'.heap.size)→(∀j,kj D R j=true→N j u w' (F j))→(∀j∈D.map (·.1),PP j u)→K (iX dl a u) w'):
  m6 P ops Q w0 (.par D R::r) f a w:=
 ⟨A,N,PP,F0,hPP,hNu,hSt,hS,h0,h1,h2,sH hdl D hP,fun u w' F e1 e2 e3 e4 e5=>by rw[nM (u:=u),hdl];exact hend (fun a' w' =>i3 w0 w'∧m6 P ops Q w0 r f a' w') (fun _ _ g h=>⟨g,h⟩) u w' F e1 e2 e3 e4 e5⟩
theorem EP {a:Act} {w:World} {D:List (Nat×List Nat)} {R:List Nat} {r:List Sg} {f:List Nat} {w0:World} (dl:List (Nat×Option Tmp)) (hdl:D.map (fun p=>(p.1,jT ops p.1))=dl) (A:Nat→Prop) (N:Nat→Value→World→(Nat→Prop)→Prop) (F0:Nat→Nat→Prop)
  (hSt:∀j v w w' F,N j v w F→(∀k,F k→w'.heap[k]? =w.heap[k]?)→N j v w' F) (hS:∀w',Ch A w w'→i3 w0 w')
  (h0:∀j∈R,N j undef w (F0 j)) (h1:∀j∈R,∀k,F0 j k→A k∧k<w.heap.size) (h2:∀j∈R,∀j'∈R,∀k,j≠j'→F0 j k→F0 j' k→False) (hP:xD P ops Q dl a w A (qQ N) (fun _ _=>True) D)
  (hend:∀K:Act→World→Prop,(∀a' w',i3 w0 w'→m6 P ops Q w0 r f a' w'→K a' w')→∀u w' (F:Nat→Nat→Prop),Ch A w w'→(∀j j' k,kj D R j=true→kj D R j' =true→j≠j'→F j k→F j' k→False)→(∀j k,kj D R j=true→F j k→(A k∨w.heap.size≤k)∧k<w'.heap.size)→(∀j,kj D R j=true→N j (u j) w' (F j))→K (iX dl a u) w'):
  m6 P ops Q w0 (.par D R::r) f a w:=
 tI dl hdl A (qQ N) (fun _ _=>True) F0 (fun _ _ _ _ _ _ _=>trivial) (fun j i u v w F h hij _=>by unfold qQ at h ⊢;simpa [jd,Ne.symm hij] using h) (fun j u w w' F h hm=>hSt j (u j) w w' F h hm) hS (fun j hj u hu=>by unfold qQ;rw[hu];exact h0 j hj) h1 h2 hP fun K hK u w' F e1 e2 e3 e4 _=>hend K hK u w' F e1 e2 e3 e4
end
end
theorem vL {P Q:Prop} (h:Q) (t:Bx Q→P:=by
 intro hq;refine Fq (fun N hN=>?_);simp only[lU,List.getElem?_toArray,List.getElem?_cons_zero,List.getElem?_cons_succ];revert hN;revert N;exact hq.u):P:=t ⟨h⟩
theorem vF {P Q:Prop} (h:Q) (t:Bx Q→P:=by
 intro hq;refine EN ?_;simp only[lU,List.getElem?_toArray,List.getElem?_cons_zero,List.getElem?_cons_succ];exact hq.u):P:=t ⟨h⟩
theorem vM {P Q:Prop} (h:Q) (t:Bx Q→P:=by
 intro hq;refine EO (fun N hN=>?_);simp only[lU,List.getElem?_toArray,List.getElem?_cons_zero,List.getElem?_cons_succ];revert hN;revert N;exact hq.u):P:=t ⟨h⟩
theorem vN {Q:Exit→Act→World→Prop} {w0 w:World} {n:Act→World→Prop} {a:Act} (hb:Below w0.heap.size w0 w) (h:n a w):BD w0 Q n .normal a w:=Co (i3.of_below hb) h
theorem kA {P:Program} {Q:Exit→Act→World→Prop} {id:Nat} {a:Act} {w:World} {l:List Oper} (s:List Sg) (f:List Nat) (h:m6 P l.toArray Q w.drew s f a w.drew) (hm:P.follows .mixedOrders=true:=by kernel_rfl) (hk:EM P l.toArray s f=true:=by kernel_rfl) (hQ:∀c a d v w,Q (.panic c) (Act.put a d v) w→Q (.panic c) a w:=by intro _ _ d _ _ h;cases d<;>exact h):(Code.region id l.toArray true).wp P Q a w:=Bf s f hm hk hQ h
end Go.Proofs.YtlndjfflhegkdaaGreatDoor
