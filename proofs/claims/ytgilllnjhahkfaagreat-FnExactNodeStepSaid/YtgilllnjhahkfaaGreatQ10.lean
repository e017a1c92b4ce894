/- Parts of the proof: Pure2, SimP, Seg. -/
import Derived.Test.YtgilllnjhahkfaaGreatQ03
import Derived.Test.YtgilllnjhahkfaaGreatQ06
import Derived.Test.YtgilllnjhahkfaaGreatQ09
set_option linter.unusedVariables false
set_option linter.unusedSimpArgs false
set_option linter.unusedSectionVars false
set_option maxHeartbeats 4000000
namespace Go.Proofs.YtgilllnjhahkfaaGreat
open Go.RowKit
theorem px (e:im) (c:Int) (o:mi) (r:iI):(jV e c o r).1.sends=if o.d=6∧e.time+o.c≤40 then r.sends++[⟨e.time+o.c,o.a,e.to,c,(r.sends.length:Int),o.b,r.get o.e⟩] else r.sends:=by
 unfold jV;by_cases h1:o.d=1
 ·simp[h1,iI.put_sends]
 by_cases h2:o.d=2
 ·simp[h2,iI.put_sends]
 by_cases h3:o.d=3
 ·simp[h3,iI.put_sends]
 by_cases h4:o.d=4
 ·simp[h4,iI.put_sends]
 by_cases h5:o.d=5
 ·simp[h5];split<;>rfl
 by_cases h6:o.d=6
 ·simp[h6];split<;>rfl
 by_cases h7:o.d=7
 ·simp[h7]
 simp[h1,h2,h3,h4,h5,h6,h7]
theorem tr (e:im) (c:Int) (o:mi) (r:iI):(jV e c o r).1.outs=if o.d=7 then r.outs++[⟨e.time,e.to,c,(r.outs.length:Int),r.get o.a⟩] else r.outs:=by
 unfold jV;by_cases h1:o.d=1
 ·simp[h1,iI.put_outs]
 by_cases h2:o.d=2
 ·simp[h2,iI.put_outs]
 by_cases h3:o.d=3
 ·simp[h3,iI.put_outs]
 by_cases h4:o.d=4
 ·simp[h4,iI.put_outs]
 by_cases h5:o.d=5
 ·simp[h5];split<;>rfl
 by_cases h6:o.d=6
 ·simp[h6];split<;>rfl
 by_cases h7:o.d=7
 ·simp[h7]
 simp[h1,h2,h3,h4,h5,h6,h7]
structure yv (e:im) (c:Int) (r:iI):Prop where
 run:md r
 sends:∀s∈r.sends,e.time<s.time∧s.from_=e.to∧s.count=c∧s.time≤40
 outs:∀o∈r.outs,o.time=e.time∧o.proc=e.to∧0≤o.value∧o.value≤999
theorem md.get {r:iI} (h:md r) (k:Int):0≤r.get k∧r.get k≤999:=by
 unfold iI.get;split
 ·exact⟨h.x0,h.x1⟩
 ·exact⟨h.y0,h.y1⟩
theorem wC {e:im} {c:Int} {o:mi} {r:iI} (h:yv e c r) (ho:kC o=true):yv e c (jV e c o r).1:=by
 refine⟨xY h.run,?_,?_⟩
 ·rw[px]
  split
  ·rename_i h6
   intro s b;rcases List.mem_append.1 b with b|b
   ·exact h.sends s b
   ·simp only[List.mem_singleton] at b
    subst b;have d:1≤o.c∧o.c≤40:=by
     have:=ho;simp[kC,i2,h6.1] at this;exact this.2.2.1
    exact⟨by simp only;omega,rfl,rfl,h6.2⟩
  ·exact h.sends
 ·rw[tr]
  split
  ·intro q hq
   rcases List.mem_append.1 hq with hq|hq
   ·exact h.outs q hq
   ·simp only[List.mem_singleton] at hq
    subst hq;have:=h.run.get o.a;exact⟨rfl,rfl,this.1,this.2⟩
  ·exact h.outs
theorem vK {e:im} {c:Int}:∀(n:Nat) (l:List mi) (r:iI),(∀o∈l,kC o=true)→yv e c r→yv e c (kX e c n l r)
 |0,_,r,_,h=>by simpa [kX] using h
 |n+1,[],r,_,h=>by simpa [kX] using h
 |n+1,o::l,r,hl,h=>by
  simp only[kX];exact vK n _ _ (fun q hq=>hl q (List.mem_cons_of_mem _ (List.mem_of_mem_drop hq))) (wC h (hl o (List.mem_cons_self ..)))
theorem yo (k:Int) (o:mi) (l:List mi):ni k (o::l)=(if o.d=k then 1 else 0)+ni k l:=by
 unfold ni;rw[List.filter_cons];by_cases h:o.d=k<;>simp[h];omega
theorem yJ (k:Int) (l:List mi) (j:Nat):ni k (l.drop j)≤ni k l:=((List.drop_sublist j l).filter _).length_le
theorem th (e:im) (c:Int):∀(n:Nat) (l:List mi) (r:iI),(kX e c n l r).sends.length≤r.sends.length+ni 6 l∧(kX e c n l r).outs.length≤r.outs.length+ni 7 l
 |0,_,r=>by simp[kX]
 |n+1,[],r=>by simp[kX]
 |n+1,o::l,r=>by
  simp only[kX];obtain⟨h1,h2⟩:=th e c n (l.drop (jV e c o r).2.toNat) (jV e c o r).1;have d6:=yJ 6 l (jV e c o r).2.toNat;have d7:=yJ 7 l (jV e c o r).2.toNat;have s6:(jV e c o r).1.sends.length≤r.sends.length+if o.d=6 then 1 else 0:=by
   rw[px];split
   ·rename_i h;simp[h.1]
   ·omega
  have a:(jV e c o r).1.outs.length≤r.outs.length+if o.d=7 then 1 else 0:=by
   rw[tr];split
   ·simp
   ·omega
  rw[yo,yo];constructor<;>omega
theorem yZ (l:List jJ):mN l=true↔l.Pairwise (fun a b=>a.kind<b.kind):=by
 induction l with
 |nil=>simp[mN]
 |cons a l ih=>
  cases l with
  |nil=>simp[mN]
  |cons b l=>
   simp only[mN,Bool.and_eq_true,decide_eq_true_eq,ih];constructor
   ·rintro⟨d,c⟩
    refine List.pairwise_cons.2 ⟨fun q hq=>?_,c⟩;rcases List.mem_cons.1 hq with rfl|hq
    ·exact d
    ·have:=(List.pairwise_cons.1 c).1 q hq;omega
   ·intro h
    obtain⟨d,c⟩:=List.pairwise_cons.1 h;exact⟨d b (List.mem_cons_self ..),c⟩
theorem r7 (e:im) (c:Int):∀(l:List jJ) (r:iI),(∀q∈l,q.kind≠e.kind)→jx e c l r=r
 | [],r,_=>rfl
 |q::l,r,h=>by
  have h1:jx e c (q::l) r=jx e c l (if q.kind=e.kind then kX e c q.ops.length q.ops r else r):=rfl;rw[h1,if_neg (h q (List.mem_cons_self ..))];exact r7 e c l r (fun q' hq=>h q' (List.mem_cons_of_mem _ hq))
theorem qa (e:im) (c:Int):∀(l:List jJ) (r:iI),mN l=true→jx e c l r=r∨∃q∈l,q.kind=e.kind∧jx e c l r=kX e c q.ops.length q.ops r
 | [],r,_=>Or.inl rfl
 |q::l,r,h=>by
  have hp:=(yZ _).1 h;obtain⟨h1,h2⟩:=List.pairwise_cons.1 hp;have e1:jx e c (q::l) r=jx e c l (if q.kind=e.kind then kX e c q.ops.length q.ops r else r):=rfl;by_cases hk:q.kind=e.kind
  ·right
   rw[e1,if_pos hk];exact⟨q,List.mem_cons_self ..,hk,r7 e c l _ (fun q' hq=>by have:=h1 q' hq;omega)⟩
  ·rw[e1,if_neg hk]
   rcases qa e c l r ((yZ _).2 h2) with h3|⟨q',hq,hk',h3⟩
   ·exact Or.inl h3
   ·exact Or.inr ⟨q',List.mem_cons_of_mem _ hq,hk',h3⟩
theorem pU (a:iM) (s:mL) (e:im):
  (∀q∈(iO a s e).2.1,e.time<q.time∧q.from_=e.to∧q.count=s.c∧q.time≤40)∧
  (∀o∈(iO a s e).2.2,o.time=e.time∧o.proc=e.to∧0≤o.value∧o.value≤999)∧
  (iO a s e).2.1.length≤2∧(iO a s e).2.2.length≤2∧
  0≤(iO a s e).1.x∧(iO a s e).1.x≤999∧0≤(iO a s e).1.y∧(iO a s e).1.y≤999∧
  ((iO a s e).1.c=s.c+1∨((iO a s e).1.c=s.c∧(iO a s e).2.1=[]∧(iO a s e).2.2=[])∨iO a s e=(yw,[],[])):=by
 unfold iO;split
 ·rename_i h
  simp only[Bool.and_eq_true] at h;obtain⟨⟨ha,p⟩,u⟩:=h;have b:=sd p;split
  ·refine⟨by simp,by simp,by simp,by simp,b.x0,b.x1,b.y0,b.y1,Or.inr (Or.inl ⟨rfl,rfl,rfl⟩)⟩
  ·have f:yv e s.c ⟨s.x,s.y,[],[]⟩:=⟨b,by simp,by simp⟩
   have i:mN a.rules=true:=by simp only[je,Bool.and_eq_true] at ha;exact ha.2
   have g:∀q∈a.rules,mD q.ops=true:=fun q hq=>by
    simp only[je,Bool.and_eq_true] at ha;have:=List.all_eq_true.1 ha.1.2 q hq;simp only[lj,Bool.and_eq_true] at this;exact this.2
   have k:yv e s.c (jx e s.c a.rules ⟨s.x,s.y,[],[]⟩)∧(jx e s.c a.rules ⟨s.x,s.y,[],[]⟩).sends.length≤2∧(jx e s.c a.rules ⟨s.x,s.y,[],[]⟩).outs.length≤2:=by
    rcases qa e s.c a.rules ⟨s.x,s.y,[],[]⟩ i with h1|⟨q,hq,_,h1⟩
    ·rw[h1];exact⟨f,by simp,by simp⟩
    ·rw[h1]
     have n:=g q hq;have ho':=n;simp only[mD,Bool.and_eq_true,decide_eq_true_eq] at ho';obtain⟨l,m⟩:=th e s.c q.ops.length q.ops ⟨s.x,s.y,[],[]⟩;simp only[List.length_nil] at l m;exact⟨vK _ _ _ (fun o j=>List.all_eq_true.1 ho'.1.1.1 o j) f,by omega,by omega⟩
   obtain⟨d,r,t⟩:=k;exact⟨d.sends,d.outs,r,t,d.run.x0,d.run.x1,d.run.y0,d.run.y1,Or.inl rfl⟩
 ·refine⟨by simp,by simp,by simp,by simp,by simp[yw],by simp[yw],by simp[yw],by simp[yw],Or.inr (Or.inr rfl)⟩
def FS (a:iM) (k:Int):iM:=⟨a.rules.filter (fun q=>decide (q.kind=k))⟩
structure Sh (m:Int) (r r':iI):Prop where
 x:r'.x=r.x
 y:r'.y=r.y
 outs:r'.outs.length=r.outs.length
 sends:r'.sends.map (fun q=>(q.time,q.to,q.kind,q.arg))=(r.sends.filter (fun q=>decide (q.time+m≤40))).map (fun q=>(q.time+m,q.to,q.kind,q.arg))
structure nT where
 states:List mL
 queue:List im
 outs:List iQ
 deriving DecidableEq,Inhabited
def Gh:nT:=⟨[],[],[]⟩
def nb (p:Int):im:=if i2 p 0 3=true then ⟨0,p,-1,0,p,0,p⟩ else ⟨0,0,0,0,0,0,0⟩
def vj:nT:=⟨[yw,yw,yw,yw],[nb 0,nb 1,nb 2,nb 3],[]⟩
def lG {α:Type} (lt:α→α→Bool):List α→Bool
 | []=>true
 | [_]=>true
 |a::b::l=>lt a b&&lG lt (b::l)
def jK (l:List im) (most:Int):Bool:=decide ((l.length:Int)≤most)&&(l.all jM&&lG hY l)
def jA (l:List iQ) (most:Int):Bool:=decide ((l.length:Int)≤most)&&(l.all om&&lG hM l)
def EY (s:nT):Bool:=decide (s.states.length=4)&&(s.states.all kR&&(jK s.queue 100&&jA s.outs 96))
def Bo (apps:List iM) (s:nT):nT:=
 match s.queue with
 | []=>s
 |e::rest=>
  ⟨s.states.set e.to.toNat (iO (apps.getD e.to.toNat ⟨[]⟩) (s.states.getD e.to.toNat yw) e).1,
   jS (rest++(iO (apps.getD e.to.toNat ⟨[]⟩) (s.states.getD e.to.toNat yw) e).2.1),
   jX (s.outs++(iO (apps.getD e.to.toNat ⟨[]⟩) (s.states.getD e.to.toNat yw) e).2.2)⟩
def nL (apps:List iM) (s:nT):nT×Bool:=
 match s.queue with
 | []=>(s,false)
 |_::_=>if EY (Bo apps s)=true then (Bo apps s,true) else (s,false)
def By (apps:List iM) (s:nT):nT×Bool:=if EY s=true∧ji apps=true then nL apps s else (Gh,false)
def BB (apps:List iM) (u:Int):Nat→nT→nT
 |0,s=>s
 |n+1,s=>
  match s.queue with
  | []=>s
  |e::_=>if e.time<u then (if (nL apps s).2=true then BB apps u n (nL apps s).1 else s) else s
def Fb (apps:List iM) (u:Int):nT:=if ji apps=true then BB apps u 200 vj else Gh
theorem Cs {α:Type} (lt:α→α→Bool) (l:List α) (a:α):lG lt (l++[a])=(lG lt l&&match l.getLast? with|none=>true|some b=>lt b a):=by
 induction l with
 |nil=>rfl
 |cons x l ih=>
  cases l with
  |nil=>simp[lG]
  |cons y l=>
   simp only[List.cons_append,lG] at ih ⊢;rw[ih,Bool.and_assoc];simp[List.getLast?_cons_cons]
theorem kp {α:Type} (lt:α→α→Bool) {l:List α} {k:Nat} (h:k<l.length):lG lt (l.take (k+1))=(lG lt (l.take k)&&(if k=0 then true else lt (l[k-1]'(by omega)) l[k])):=by
 rw[List.take_succ_eq_append_getElem h,Cs]
 congr 1
 by_cases hk:k=0
 ·subst hk;simp
 ·rw[if_neg hk]
  have:(l.take k).getLast? =some (l[k-1]'(by omega)):=by
   rw[List.getLast?_eq_getElem?,List.getElem?_take];simp only[List.length_take];rw[Nat.min_eq_left (by omega),if_pos (by omega),List.getElem?_eq_getElem]
  rw[this]
theorem oR {α:Type} (lt:α→α→Bool) {l:List α} {k:Nat} (h:lG lt (l.take k)=false):lG lt l=false:=by
 induction hn:l.length-k generalizing k with
 |zero=>rw[List.take_of_length_le (by omega)] at h;exact h
 |succ n ih=>
  have a:k<l.length:=by omega
  refine ih (k:=k+1) ?_ (by omega);rw[kp lt a,h];rfl
theorem Dq {α:Type} {lt:α→α→Bool} (O:i6 lt) (l:List α):lG lt l=true↔l.Pairwise (fun a b=>lt a b=true):=by
 induction l with
 |nil=>simp[lG]
 |cons a l ih=>
  cases l with
  |nil=>simp[lG]
  |cons b l=>
   simp only[lG,Bool.and_eq_true,ih];constructor
   ·rintro⟨c,d⟩
    refine List.pairwise_cons.2 ⟨fun q hq=>?_,d⟩;rcases List.mem_cons.1 hq with rfl|hq
    ·exact c
    ·exact O.trans _ _ _ c ((List.pairwise_cons.1 d).1 q hq)
   ·intro h
    obtain⟨c,d⟩:=List.pairwise_cons.1 h;exact⟨c b (List.mem_cons_self ..),d⟩
structure Cb (e:im) (c:Int) (r:iI):Prop where
 good:yv e c r
 sends:∀q∈r.sends,(0≤q.to∧q.to≤3)∧(0≤q.n)∧(0≤q.kind∧q.kind≤3)∧(0≤q.arg∧q.arg≤999)
 outs:∀(i:Nat) o,r.outs[i]? =some o→o.n=i∧o.count=c
 sn:∀(i:Nat) q,r.sends[i]? =some q→q.n=i
theorem BE {e:im} {c:Int} {o:mi} {r:iI} (h:Cb e c r) (ho:kC o=true):Cb e c (jV e c o r).1:=by
 refine⟨wC h.good ho,?_,?_,?_⟩
 ·rw[px]
  split
  ·rename_i h6
   intro q hq;rcases List.mem_append.1 hq with hq|hq
   ·exact h.sends q hq
   ·simp only[List.mem_singleton] at hq
    subst hq;have a:=ho;simp[kC,i2,h6.1] at a;have d:=h.good.run.get o.e;exact⟨⟨a.1.1,a.1.2⟩,by simp,⟨a.2.1.1,a.2.1.2⟩,d⟩
  ·exact h.sends
 ·rw[tr]
  split
  ·intro i q hq
   rw[List.getElem?_append] at hq;split at hq
   ·exact h.outs i q hq
   ·rename_i hge
    have b:i=r.outs.length:=by have:=(List.getElem?_eq_some_iff.1 hq).1;simp at this;omega
    subst b;simp only[Nat.sub_self,List.getElem?_cons_zero,Option.some.injEq] at hq;subst hq;exact⟨rfl,rfl⟩
  ·exact h.outs
 ·rw[px]
  split
  ·intro i q hq
   rw[List.getElem?_append] at hq;split at hq
   ·exact h.sn i q hq
   ·rename_i hge
    have b:i=r.sends.length:=by have:=(List.getElem?_eq_some_iff.1 hq).1;simp at this;omega
    subst b;simp only[Nat.sub_self,List.getElem?_cons_zero,Option.some.injEq] at hq;subst hq;rfl
  ·exact h.sn
theorem uR {e:im} {c:Int}:∀(n:Nat) (l:List mi) (r:iI),(∀o∈l,kC o=true)→Cb e c r→Cb e c (kX e c n l r)
 |0,_,r,_,h=>by simpa [kX] using h
 |n+1,[],r,_,h=>by simpa [kX] using h
 |n+1,o::l,r,hl,h=>by
  simp only[kX];exact uR n _ _ (fun q hq=>hl q (List.mem_cons_of_mem _ (List.mem_of_mem_drop hq))) (BE h (hl o (List.mem_cons_self ..)))
structure EZ (s:mL) (e:im) (r:mL×List im×List iQ):Prop where
 st:kR r.1=true
 way:(s.c=12∧r=(s,[],[]))∨(s.c<12∧r.1.c=s.c+1∧r.2.1.length≤2∧r.2.2.length≤2)
 sends:∀q∈r.2.1,jM q=true∧e.time<q.time
 outs:∀o∈r.2.2,om o=true∧o.time=e.time∧o.proc=e.to∧o.count=s.c
 nodup:r.2.2.Nodup
theorem rS {a:iM} {s:mL} {e:im} (ha:je a=true) (hs:kR s=true) (he:jM e=true):EZ s e (iO a s e):=by
 have A:=sd hs;have L:0≤s.c∧s.c≤12:=by simp[kR,i2] at hs;exact hs.2
 have w:=he;simp only[jM,i2,Bool.and_eq_true,decide_eq_true_eq] at w;unfold iO;rw[if_pos (by simp[ha,hs,he])];split
 ·rename_i h12
  exact⟨hs,Or.inl ⟨h12,rfl⟩,by simp,by simp,by simp⟩
 ·rename_i h12
  have n:Cb e s.c ⟨s.x,s.y,[],[]⟩:=⟨⟨A,by simp,by simp⟩,by simp,by simp,by simp⟩;have t:mN a.rules=true:=by simp only[je,Bool.and_eq_true] at ha;exact ha.2
  have p:Cb e s.c (jx e s.c a.rules ⟨s.x,s.y,[],[]⟩)∧(jx e s.c a.rules ⟨s.x,s.y,[],[]⟩).sends.length≤2∧(jx e s.c a.rules ⟨s.x,s.y,[],[]⟩).outs.length≤2:=by
   rcases qa e s.c a.rules ⟨s.x,s.y,[],[]⟩ t with d|⟨q,hq,_,d⟩
   ·rw[d];exact⟨n,by simp,by simp⟩
   ·rw[d]
    have l:mD q.ops=true:=by
     simp only[je,Bool.and_eq_true] at ha;have:=List.all_eq_true.1 ha.1.2 q hq;simp only[lj,Bool.and_eq_true] at this;exact this.2
    have ho':=l;simp only[mD,Bool.and_eq_true,decide_eq_true_eq] at ho';obtain⟨B,C⟩:=th e s.c q.ops.length q.ops ⟨s.x,s.y,[],[]⟩;simp only[List.length_nil] at B C;exact⟨uR _ _ _ (fun o z=>List.all_eq_true.1 ho'.1.1.1 o z) n,by omega,by omega⟩
  generalize jx e s.c a.rules ⟨s.x,s.y,[],[]⟩=r at p;obtain⟨b,H,I⟩:=p;show EZ s e (⟨r.x,r.y,s.c+1⟩,r.sends,r.outs);refine⟨?_,Or.inr ⟨by omega,rfl,H,I⟩,fun q (hq:q∈r.sends)=>?_,fun o (l:o∈r.outs)=>?_,?_⟩
  ·have:=b.good.run
   simp only[kR,i2,Bool.and_eq_true,decide_eq_true_eq];exact⟨⟨⟨this.x0,this.x1⟩,this.y0,this.y1⟩,by omega,by omega⟩
  ·obtain⟨g,k,v,E⟩:=b.good.sends q hq
   obtain⟨M,O,P,Q⟩:=b.sends q hq;obtain⟨i,f,rfl⟩:=List.getElem_of_mem hq;have u:=b.sn i _ (List.getElem?_eq_getElem f);refine⟨?_,g⟩;simp only[jM,i2,Bool.and_eq_true,decide_eq_true_eq];rw[k,v,u];omega
  ·obtain⟨g,k,v,E⟩:=b.good.outs o l
   obtain⟨i,f,rfl⟩:=List.getElem_of_mem l;obtain⟨u,m⟩:=b.outs i _ (List.getElem?_eq_getElem f);refine⟨?_,g,k,m⟩;simp only[om,i2,Bool.and_eq_true,decide_eq_true_eq];rw[g,k,m,u];omega
  ·refine List.pairwise_iff_getElem.2 fun i j f G J D=>?_
   have d:=(b.outs i _ (List.getElem?_eq_getElem f)).1;have F:=(b.outs j _ (List.getElem?_eq_getElem G)).1;rw[D,F] at d;omega
section
section
variable {P:Program} {ops:Array Oper} {Q:Exit→Act→World→Prop} {L:List Nat}
theorem vO {s:Sem Value} (hs:gK P s):gK P (do Pure.pure (Go.Next.value (←s)):Sem Go.Next)∧∀w n w2,(do Pure.pure (Go.Next.value (←s)):Sem Go.Next).run P w= .ok n w2→∃v,n= .value v:=
 ⟨hs.bind fun _=>gK.pure _,fun w n w2 h=>by
  rw[Sem.run_bind] at h;cases hr:s.run P w with
  |halt x w1=>rw[hr] at h;cases h
  |ok a w1=>
   rw[hr] at h;simp only[Result.andThen_ok,Sem.run_pure,Result.ok.injEq] at h;exact⟨a,h.1.symm⟩⟩
theorem Em (v:Value):gK P (Pure.pure (Go.Next.value v):Sem Go.Next)∧∀w n w2,(Pure.pure (Go.Next.value v):Sem Go.Next).run P w= .ok n w2→∃v,n= .value v:=
 ⟨gK.pure _,fun w n w2 h=>by simp only[Sem.run_pure,Result.ok.injEq] at h;exact⟨v,h.1.symm⟩⟩
theorem tZ {o:Oper} (h:nM P o=true) (ev:Operand→Value):gK P (execOp ev o)∧∀w n w2,(execOp ev o).run P w= .ok n w2→∃v,n= .value v:=by
 obtain⟨z,e,s,A,j,k⟩:=o;cases e<;>first|(exfalso;simp[nM] at h;done)|skip
 case move x=>exact Em _
 case assign x=>exact Em _
 case pick c a b=>
  refine⟨(gK.asBool _).bind fun _=>gK.pure _,fun w n w2 h=>?_⟩;have h:((asBool (ev c)) >>= fun q=>Pure.pure (Go.Next.value (if q=true then ev a else ev b))).run P w= .ok n w2:=h;rw[Sem.run_bind] at h;cases hr:(asBool (ev c)).run P w with
  |halt x w1=>rw[hr] at h;cases h
  |ok a w1=>
   rw[hr] at h;simp only[Result.andThen_ok,Sem.run_pure,Result.ok.injEq] at h;exact⟨_,h.1.symm⟩
 case load t a=>exact vO (gK.loadAt _ _)
 case nilCheck x=>
  unfold execOp;dsimp only;split
  ·exact⟨gK.nilDeref,fun w n w2 h=>by unfold runtimePanic at h;cases h⟩
  ·exact⟨gK.nilDeref,fun w n w2 h=>by unfold runtimePanic at h;cases h⟩
  ·exact⟨gK.nilDeref,fun w n w2 h=>by unfold runtimePanic at h;cases h⟩
  ·split
   ·exact⟨gK.nilDeref,fun w n w2 h=>by unfold runtimePanic at h;cases h⟩
   ·refine⟨gK.program.bind fun p=>(gK.nilAhead _ _ _ _).bind fun b=>?_,fun w n w2 h=>?_⟩
    ·split
     ·exact gK.unsupported _
     ·exact gK.pure _
    ·rw[Sem.run_bind,run_program] at h
     simp only[Result.andThen_ok] at h;rw[Sem.run_bind] at h;unfold Result.andThen at h;split at h
     ·dsimp only at h
      split at h
      ·cases h
      ·simp only[Sem.run_pure,Result.ok.injEq] at h
       exact⟨_,h.1.symm⟩
     ·cases h
   ·exact Em _
  ·exact Em _
 case binOp e t x y u=>
  have g:qq P t=true∧e∈[BinOp.lss,.leq,.gtr,.geq,.add,.sub,.eql,.neq]:=by
   cases e<;>simp[nM] at h<;>exact⟨h,by simp⟩
  exact vO ((gK.eqGuard g.1 _ _ _ _ _).bind fun _=>gK.binOpI g.1 g.2 _ _)
 case unOp e t x=>exact vO (gK.unary _ _)
 case slice t x lo hi mx=>exact vO (gK.sliceAt _ _ _ _ _)
 case fieldAddr t x f=>exact vO (gK.fieldAt h _)
 case field t x f=>exact vO (gK.field _ _ _)
 case indexAddr t x i=>exact vO (gK.indexAt _ _ _)
 case index t x i=>exact vO (gK.index _ _ _)
 case extract t i=>exact vO (gK.extract _ _)
 case call c=>
  obtain⟨d,l,B⟩:=c;cases d with
  |value f=>simp[nM] at h
  |invoke r m=>simp[nM] at h
  |builtin b=>
   cases b<;>first|(exfalso;simp[nM] at h;done)|skip
   case len=>exact vO (gK.len _ _ _)
   case cap=>exact vO (gK.cap _ _ _)
def mf (ops:Array Oper):List Nat→List Oper
 | []=>[]
 |i::r=>match ops[i]? with|some o=>o::mf ops r|none=>mf ops r
inductive Sg where
 |rd (l:List Nat)
 |mid (i:Nat)
 |par (D:List (Nat×List Nat)) (R:List Nat)
def C7 (ops:Array Oper) (i:Nat):Bool:=match ops[i]? with|some o=>(match o.op with| .move _=>true| .assign _=>true|_=>false)|none=>false
def sF (ops:Array Oper):List Nat→Pe→Pe
 | [],p=>p
 |i::l,p=>if C7 ops i=true then .pure i (sF ops l p) else .take i (sF ops l p)
def AJ:List Nat→Pe
 | []=> .nil
 |i::f=> .one i (AJ f)
def zi (ops:Array Oper):List Sg→List Nat→Pe
 | [],f=>AJ f
 | .rd l::r,f=>sF ops l (zi ops r f)
 | .mid i::r,f=> .one i (zi ops r f)
 | .par D R::r,f=> .par D R (zi ops r f)
def qF:List Sg→List Nat
 | []=>[]
 | .rd l::r=>l++qF r
 | .mid _::r=>qF r
 | .par _ _::r=>qF r
def xZ (ops:Array Oper) (s:List Sg):List Nat:=(qF s).filter fun i=>!C7 ops i
def Ff (w0:World) (next:Act→Prop):Exit→Act→World→Prop:=fun e a w=>e= .normal∧w.heap.size=w0.heap.size∧w.drawn=w0.drawn∧next a
def DY (w0:World) (Q:Exit→Act→World→Prop) (next:Act→World→Prop):Exit→Act→World→Prop:=fun e a w=>match e with| .normal=>iJ w0 w∧next a w|e=>Q e a w
def EW (P:Program) (ops:Array Oper) (Q:Exit→Act→World→Prop) (S:World→Prop) (D:List (Nat×List Nat)) (R:List Nat) (next:Act→World→Prop) (a:Act) (w:World):Prop:=
 ∃(A:Nat→Prop) (N:Nat→(Nat→Value)→World→(Nat→Prop)→Prop) (PP:Nat→(Nat→Value)→Prop) (F0:Nat→Nat→Prop),(∀j i u v,PP j u→i≠j→ka ops j i=false→PP j (iN u i v))∧(∀j i u v w F,N j u w F→i≠j→ka ops j i=false→N j (iN u i v) w F)∧(∀j v w w' F,N j v w F→(∀k,F k→w'.heap[k]? =w.heap[k]?)→N j v w' F)∧(∀w',Ch A w w'→S w')∧
   (∀j∈R,∀u:Nat→Value,u j=undef→N j u w (F0 j))∧(∀j∈R,∀k,F0 j k→A k∧k<w.heap.size)∧(∀j∈R,∀j'∈R,∀k,j≠j'→F0 j k→F0 j' k→False)∧zG P ops Q (D.map (·.1)) a w A N PP D∧
   ∀u w' (F:Nat→Nat→Prop),Ch A w w'→(∀j j' k,kU D R j=true→kU D R j' =true→j≠j'→F j k→F j' k→False)→(∀j k,kU D R j=true→F j k→(A k∨w.heap.size≤k)∧k<w'.heap.size)→(∀j,kU D R j=true→N j u w' (F j))→(∀j∈D.map (·.1),PP j u)→next (jB ops (D.map (·.1)) a u) w'
def m6 (P:Program) (ops:Array Oper) (Q:Exit→Act→World→Prop) (w0:World):List Sg→List Nat→Act→World→Prop
 | [],f,a,w=>wpList P ops Q (mf ops f) a w
 | .rd l::r,f,a,w=>wpList P ops (Ff w0 fun a' =>m6 P ops Q w0 r f a' w) (mf ops l) a w0
 | .mid i::r,f,a,w=>wpList P ops (DY w0 Q fun a' w' =>m6 P ops Q w0 r f a' w') (mf ops [i]) a w
 | .par D R::r,f,a,w=>EW P ops Q (iJ w0) D R (fun a' w' =>iJ w0 w'∧m6 P ops Q w0 r f a' w') a w
theorem gR {w0:World} {next:Act→Prop} {a:Act} (h:next a):Ff w0 next .normal a w0:=⟨rfl,rfl,rfl,h⟩
theorem mX {w0 w:World} {next:Act→World→Prop} {a:Act} (hw:iJ w0 w) (h:next a w):DY w0 Q next .normal a w:=⟨hw,h⟩
def rx (P:Program) (ops:Array Oper) (i:Nat):Bool:=match ops[i]? with|some o=>nM P o|none=>false
theorem xV {w0:World} {next:Act→Prop}:∀(l:List Oper) (a:Act) (w:World),(∀o∈l,nM P o=true)→wpList P ops (Ff w0 next) l a w→w.heap.size≤w0.heap.size∧w.drawn≤w0.drawn
 | [],a,w,_,h=>by
  have h:Ff w0 next .normal a w:=h
  exact⟨Nat.le_of_eq h.2.1,Nat.le_of_eq h.2.2.1⟩
 |o::l,a,w,hr,h=>by
  unfold wpList at h;have hl:∀o∈l,nM P o=true:=fun q hq=>hr q (List.mem_cons_of_mem _ hq);split at h
  ·rcases h with h|⟨_,a',w',h,_⟩
   ·unfold Oper.wp at h
    obtain⟨g1,g2⟩:=tZ (hr o (List.mem_cons_self ..)) a.eval;cases hrun:(execOp a.eval o).run P w with
    |halt x w1=>
     rw[hrun] at h;cases x<;>first|exact h.elim|(cases h.1)
    |ok n w1=>
     obtain⟨v,rfl⟩:=g2 _ _ _ hrun;rw[hrun,Oper.upon_value] at h;obtain⟨m1,m2⟩:=xV l _ _ hl h;obtain⟨k1,k2,_⟩:=g1 _ _ _ hrun;omega
   ·cases h
  ·exact xV l _ _ hl h
theorem me {w0 w:World} (r:Pe):∀(l:List Nat) (a:Act),(∀i∈l,rx P ops i=true)→iJ w0 w→
  wpList P ops (Ff w0 fun a' =>wI P ops Q (iJ w0) L r a' w) (mf ops l) a w0→wI P ops Q (iJ w0) L (sF ops l r) a w
 | [],a,_,_,h=>h.2.2.2
 |i::l,a,hr,hA,h=>by
  have hi:=hr i (List.mem_cons_self ..);have hl:∀i∈l,rx P ops i=true:=fun q hq=>hr q (List.mem_cons_of_mem _ hq);unfold rx at hi;cases ho:ops[i]? with
  |none=>rw[ho] at hi;cases hi
  |some o=>
   rw[ho] at hi;have hi:nM P o=true:=hi;unfold mf at h;rw[ho] at h;simp only at h;have hlo:∀(l:List Nat),(∀i∈l,rx P ops i=true)→∀o∈mf ops l,nM P o=true:=by
    intro l
    induction l with
    |nil=>intro _ o ho;cases ho
    |cons j l ih=>
     intro hl o c;have b:=hl j (List.mem_cons_self ..);unfold rx at b;unfold mf at c;cases hoj:ops[j]? with
     |none=>rw[hoj] at b;cases b
     |some oj=>
      rw[hoj] at b c;rcases List.mem_cons.1 c with rfl|c
      ·exact b
      ·exact ih (fun q hq=>hl q (List.mem_cons_of_mem _ hq)) o c
   unfold wpList at h;unfold sF;by_cases hw:Region.wanted o (yielded ops a.tmps)=true
   ·rw[if_pos hw] at h
    rcases h with h|⟨_,a',t,h,_⟩
    ·unfold Oper.wp at h
     obtain⟨f,g⟩:=tZ hi a.eval;cases hrun:(execOp a.eval o).run P w0 with
     |halt x w1=>
      rw[hrun] at h;cases x<;>first|exact h.elim|(cases h.1)
     |ok n w1=>
      obtain⟨v,rfl⟩:=g _ _ _ hrun;rw[hrun,Oper.upon_value] at h;obtain⟨B,C⟩:=xV _ _ _ (hlo l hl) h;obtain⟨z,A,k⟩:=f _ _ _ hrun;obtain⟨rfl,m⟩:=k gO gO;by_cases hmv:C7 ops i=true
      ·rw[if_pos hmv]
       refine⟨o,v,ho,.inl ⟨hw,fun t _=>?_⟩,me r l _ hl hA h⟩;unfold C7 at hmv;rw[ho] at hmv;obtain⟨u,p,s,y,d,e⟩:=o;cases p<;>first|(exfalso;simp at hmv;done)|skip
       case move=>
        simp only[execOp,Sem.run_pure,Result.ok.injEq,Go.Next.value.injEq,and_true] at hrun;subst hrun;rfl
       case assign=>
        simp only[execOp,Sem.run_pure,Result.ok.injEq,Go.Next.value.injEq,and_true] at hrun;subst hrun;rfl
      ·rw[if_neg hmv]
       exact⟨o,v,ho,.inl ⟨hw,m⟩,hA,me r l _ hl hA h⟩
    ·cases h
   ·rw[if_neg hw] at h
    by_cases hmv:C7 ops i=true
    ·rw[if_pos hmv]
     exact⟨o,undef,ho,.inr ⟨by simpa using hw,rfl⟩,me r l _ hl hA h⟩
    ·rw[if_neg hmv]
     exact⟨o,undef,ho,.inr ⟨by simpa using hw,rfl⟩,hA,me r l _ hl hA h⟩
theorem ve {o:Oper} {a:Act} {K:Act→World→Prop} {Q Q':Exit→Act→World→Prop} (h1:∀c a w,Q' (.panic c) a w→Q (.panic c) a w) (h2:LetsOut Q'→LetsOut Q):∀r:Result Go.Next,o.upon P a K Q' r→o.upon P a K Q r
 | .ok n w',h=>by
  cases n
  case enter f args=>
   rw[Oper.upon_enter] at h ⊢;refine Calls.mono h fun e w hh=>?_;cases e with
   |returned v=>exact hh
   |panicked c=>exact h1 _ _ _ hh
   |outgrown=>exact h2 hh
  all_goals first|exact h|exact h.elim
 | .halt x w',h=>by
  cases x
  case panic v=>exact h1 _ _ _ h
  all_goals first|exact h|exact h.elim
theorem pz {Q Q':Exit→Act→World→Prop} (hq:∀e a w,Q' e a w→Q e a w):∀(l:List Oper) (a:Act) (w:World),wpList P ops Q' l a w→wpList P ops Q l a w
 | [],a,w,h=>hq _ _ _ h
 |o::l,a,w,h=>by
  have h2:LetsOut Q'→LetsOut Q:=fun ⟨a,w,h⟩=>⟨a,w,hq _ _ _ h⟩;unfold wpList at h ⊢;split at h
  ·rename_i hw
   rw[if_pos hw];exact h.imp (fun h=>Oper.wp_mono (fun a w h=>pz hq l a w h) (ve (fun _ _ _ h=>hq _ _ _ h) h2 _ h)) (fun h=>⟨h.1,h2 h.2⟩)
  ·rename_i hw
   rw[if_neg hw];exact pz hq l _ w h
theorem vt {i:Nat} {o:Oper} {a:Act} {w:World} {K:Act→World→Prop} {Q':Exit→Act→World→Prop} (ho:ops[i]? =some o) (h1:∀c a w,Q' (.panic c) a w→Q (.panic c) a w) (h2:LetsOut Q'→LetsOut Q)
  (h:if Region.wanted o (yielded ops a.tmps)=true then o.wp P a w K Q'∨(o.asks P a w∧LetsOut Q') else K (a.put o.dst undef) w):wpOp P ops Q i K a w:=by
 unfold wpOp;rw[ho];by_cases hw:Region.wanted o (yielded ops a.tmps)=true
 ·rw[if_pos hw] at h
  simp only[hw,if_true];exact h.imp (ve h1 h2 _) (fun h=>⟨h.1,h2 h.2⟩)
 ·rw[if_neg hw] at h
  simp only[hw,if_false];exact h
theorem yC {w0:World}:∀(f:List Nat) (a:Act) (w:World),(∀i∈f,Am ops L i=true)→(∀i∈f,(ops[i]?).isSome=true)→wpList P ops Q (mf ops f) a w→wI P ops Q (iJ w0) L (AJ f) a w
 | [],a,w,_,_,h=>h
 |i::f,a,w,hf,hs,h=>by
  have hi:=hs i (List.mem_cons_self ..);cases ho:ops[i]? with
  |none=>rw[ho] at hi;cases hi
  |some o=>
   unfold mf at h;rw[ho] at h;simp only at h;unfold wpList at h;have ih:=fun a w=>yC (w0:=w0) f a w (fun q hq=>hf q (List.mem_cons_of_mem _ hq)) (fun q hq=>hs q (List.mem_cons_of_mem _ hq));exact wpOp_mono (fun a' w' h' =>⟨.inl (hf i (List.mem_cons_self ..)),ih a' w' h'⟩) (vt ho (fun _ _ _ h=>h) (fun h=>h) h)
theorem qV {w0:World}:∀(s:List Sg) (f:List Nat) (a:Act) (w:World),(∀i∈qF s,rx P ops i=true)→(∀i∈f,Am ops L i=true)→
  (∀i,(Sg.mid i)∈s→(ops[i]?).isSome=true)→(∀i∈f,(ops[i]?).isSome=true)→iJ w0 w→m6 P ops Q w0 s f a w→wI P ops Q (iJ w0) L (zi ops s f) a w
 | [],f,a,w,hr,hf,hm,hs,hA',h=>yC f a w hf hs h
 | .rd l::r,f,a,w,hr,hf,hm,hs,hA',h=>by
  refine me (L:=L) (zi ops r f) l a (fun i hi=>hr i (List.mem_append_left _ hi)) hA' ?_;have h:wpList P ops (Ff w0 fun a' =>m6 P ops Q w0 r f a' w) (mf ops l) a w0:=h;refine pz (fun e a' w' hh=>?_) _ _ _ h;exact⟨hh.1,hh.2.1,hh.2.2.1,qV r f a' w (fun i hi=>hr i (List.mem_append_right _ hi)) hf (fun i hi=>hm i (List.mem_cons_of_mem _ hi)) hs hA' hh.2.2.2⟩
 | .mid i::r,f,a,w,hr,hf,hm,hs,hA',h=>by
  have hi:=hm i (List.mem_cons_self ..);cases ho:ops[i]? with
  |none=>rw[ho] at hi;cases hi
  |some o=>
   have h:wpList P ops (DY w0 Q fun a' w' =>m6 P ops Q w0 r f a' w') (mf ops [i]) a w:=h;unfold mf at h;rw[ho] at h;simp only at h;unfold wpList at h;exact wpOp_mono (fun a' w' (h':iJ w0 w'∧m6 P ops Q w0 r f a' w')=>⟨.inr fun _=>h'.1,qV r f a' w' hr hf (fun i hi=>hm i (List.mem_cons_of_mem _ hi)) hs h'.1 h'.2⟩)
    (vt (Q:=Q) ho (fun _ _ _ h=>h) (fun ⟨a,w,h⟩=>⟨a,w,h⟩) h)
 | .par D R::r,f,a,w,hr,hf,hm,hs,hA',h=>by
  have h:EW P ops Q (iJ w0) D R (fun a' w' =>iJ w0 w'∧m6 P ops Q w0 r f a' w') a w:=h;obtain⟨A,N,PP,F0,h1,h2,h3,h4,h5,h6,h7,h8,h9⟩:=h;exact⟨A,N,PP,F0,h1,h2,h3,h4,h5,h6,h7,h8,fun u w' F e1 e2 e3 e4 e5=>qV r f _ w' hr hf (fun i hi=>hm i (List.mem_cons_of_mem _ hi)) hs (h9 u w' F e1 e2 e3 e4 e5).1 (h9 u w' F e1 e2 e3 e4 e5).2⟩
def vP:List Sg→List Nat
 | []=>[]
 | .rd _::r=>vP r
 | .mid i::r=>i::vP r
 | .par _ _::r=>vP r
theorem pF {i:Nat}:∀{s:List Sg},Sg.mid i∈s→i∈vP s
 | .rd l::r,h=>pF (s:=r) (by simpa using h)
 | .par D R::r,h=>pF (s:=r) (by simpa using h)
 | .mid j::r,h=>by
  rcases List.mem_cons.1 h with h|h
  ·injection h with h;subst h;exact List.mem_cons_self ..
  ·exact List.mem_cons_of_mem _ (pF h)
def FI (P:Program) (ops:Array Oper) (s:List Sg) (f:List Nat):Bool:=
 Region.noSelect ops&&(zi ops s f).len==ops.size&&C0 ops (xZ ops s) (zi ops s f) (Array.replicate ops.size false)&&
 (qF s).all (rx P ops)&&f.all (fun i=>Am ops (xZ ops s) i&&(ops[i]?).isSome)&&(vP s).all (fun i=>(ops[i]?).isSome)
theorem CN {id:Nat} {a:Act} {w:World} {l:List Oper} (s:List Sg) (f:List Nat) (hm:P.follows .mixedOrders=true) (hk:FI P l.toArray s f=true)
  (hQ:∀c a d v w,Q (.panic c) (Act.put a d v) w→Q (.panic c) a w) (h:m6 P l.toArray Q w.drew s f a w.drew):(Code.region id l.toArray true).wp P Q a w:=by
 simp only[FI,Bool.and_eq_true] at hk;obtain⟨⟨⟨⟨⟨g,j⟩,k⟩,m⟩,e⟩,n⟩:=hk;refine pX (iJ w.drew) (xZ l.toArray s) (zi l.toArray s f) hm (by simp only[g,j,k,Bool.and_self]) hQ ?_;refine qV s f a w.drew (fun i b=>List.all_eq_true.1 m i b) (fun i b=>?_) (fun i b=>List.all_eq_true.1 n i (pF b)) (fun i b=>?_) (iJ.refl _) h
 ·have:=List.all_eq_true.1 e i b
  simp only[Bool.and_eq_true] at this;exact this.1
 ·have:=List.all_eq_true.1 e i b
  simp only[Bool.and_eq_true] at this;exact this.2
theorem FQ {w0 w:World} {l:List Nat} {r:List Sg} {f:List Nat} {a:Act} (h:∀next:Act→Prop,(∀a',m6 P ops Q w0 r f a' w→next a')→wpList P ops (Ff w0 next) (mf ops l) a w0):m6 P ops Q w0 (.rd l::r) f a w:=h _ fun _ h=>h
theorem Dk {w0 w:World} {i:Nat} {r:List Sg} {f:List Nat} {a:Act} (h:∀next:Act→World→Prop,(∀a' w',m6 P ops Q w0 r f a' w'→next a' w')→wpList P ops (DY w0 Q next) (mf ops [i]) a w):m6 P ops Q w0 (.mid i::r) f a w:=h _ fun _ _ h=>h
theorem E6 {w0 w:World} {f:List Nat} {a:Act} (h:wpList P ops Q (mf ops f) a w):m6 P ops Q w0 [] f a w:=h
theorem mT {a:Act} {w:World} {D:List (Nat×List Nat)} {R:List Nat} {r:List Sg} {f:List Nat} {w0:World} (dl:List (Nat×Option Tmp)) (hdl:D.map (fun p=>(p.1,kE ops p.1))=dl) (A:Nat→Prop) (N:Nat→(Nat→Value)→World→(Nat→Prop)→Prop) (PP:Nat→(Nat→Value)→Prop) (F0:Nat→Nat→Prop)
  (hPP:∀j i u v,PP j u→i≠j→ka ops j i=false→PP j (iN u i v)) (hNu:∀j i u v w F,N j u w F→i≠j→ka ops j i=false→N j (iN u i v) w F) (hSt:∀j v w w' F,N j v w F→(∀k,F k→w'.heap[k]? =w.heap[k]?)→N j v w' F) (hS:∀w',Ch A w w'→iJ w0 w')
  (h0:∀j∈R,∀u:Nat→Value,u j=undef→N j u w (F0 j)) (h1:∀j∈R,∀k,F0 j k→A k∧k<w.heap.size) (h2:∀j∈R,∀j'∈R,∀k,j≠j'→F0 j k→F0 j' k→False) (hP:zC P ops Q dl a w A N PP D)
  (hend:∀K:Act→World→Prop,(∀a' w',iJ w0 w'→m6 P ops Q w0 r f a' w'→K a' w')→∀u w' (F:Nat→Nat→Prop),Ch A w w'→(∀j j' k,kU D R j=true→kU D R j' =true→j≠j'→F j k→F j' k→False)→(∀j k,kU D R j=true→F j k→(A k∨w.heap.size≤k)∧k<w'.heap.size)→(∀j,kU D R j=true→N j u w' (F j))→(∀j∈D.map (·.1),PP j u)→K (iv dl a u) w'):
  m6 P ops Q w0 (.par D R::r) f a w:=
 ⟨A,N,PP,F0,hPP,hNu,hSt,hS,h0,h1,h2,tn hdl D hP,fun u w' F e1 e2 e3 e4 e5=>by rw[ow (u:=u),hdl];exact hend (fun a' w' =>iJ w0 w'∧m6 P ops Q w0 r f a' w') (fun _ _ g h=>⟨g,h⟩) u w' F e1 e2 e3 e4 e5⟩
end
end
theorem vL {P Q:Prop} (h:Q) (t:Bx Q→P:=by
 intro hq;refine FQ (fun N hN=>?_);simp only[mf,List.getElem?_toArray,List.getElem?_cons_zero,List.getElem?_cons_succ];revert hN;revert N;exact hq.u):P:=t ⟨h⟩
theorem vF {P Q:Prop} (h:Q) (t:Bx Q→P:=by
 intro hq;refine E6 ?_;simp only[mf,List.getElem?_toArray,List.getElem?_cons_zero,List.getElem?_cons_succ];exact hq.u):P:=t ⟨h⟩
theorem vM {P Q:Prop} (h:Q) (t:Bx Q→P:=by
 intro hq;refine Dk (fun N hN=>?_);simp only[mf,List.getElem?_toArray,List.getElem?_cons_zero,List.getElem?_cons_succ];revert hN;revert N;exact hq.u):P:=t ⟨h⟩
theorem vN {Q:Exit→Act→World→Prop} {w0 w:World} {n:Act→World→Prop} {a:Act} (hb:Below w0.heap.size w0 w) (h:n a w):DY w0 Q n .normal a w:=mX (iJ.of_below hb) h
theorem kg {P:Program} {Q:Exit→Act→World→Prop} {id:Nat} {a:Act} {w:World} {l:List Oper} (s:List Sg) (f:List Nat) (h:m6 P l.toArray Q w.drew s f a w.drew) (hm:P.follows .mixedOrders=true:=by kernel_rfl) (hk:FI P l.toArray s f=true:=by kernel_rfl) (hQ:∀c a d v w,Q (.panic c) (Act.put a d v) w→Q (.panic c) a w:=by intro _ _ d _ _ h;cases d<;>exact h):(Code.region id l.toArray true).wp P Q a w:=CN s f hm hk hQ h
end Go.Proofs.YtgilllnjhahkfaaGreat
