/- Parts of the proof: Late. -/
import Derived.Test.YtlndjfflhegkdaaGreatDoorQ08
set_option linter.unusedVariables false
set_option linter.unusedSimpArgs false
set_option linter.unusedSectionVars false
set_option maxHeartbeats 4000000
namespace Go.Proofs.YtlndjfflhegkdaaGreatDoor
open Go.RowKit
section
section
variable {P:Program} {ops:Array Oper} {Q:Exit→Act→World→Prop} {S:World→Prop} {L:List Nat}
def zu (ops:Array Oper) (L:List Nat) (j:Nat):Bool:=L.all fun i=>(zO ops (tn ops j) (List.range ops.size).reverse).contains i
theorem yv {listed:Array Bool} {j i:Nat} (hcl:kI ops listed) (hl:zu ops L j=true) (hj:j∈Region.ready .any ops listed) (hi:i∈L):listed.getD i false=true:=by
 have c:=List.all_eq_true.1 hl i hi;obtain⟨_,k,b,a⟩:=mem_ready.1 hj;refine mT hcl _ (tn ops j) (fun q hq=>?_) i (by simpa using c);obtain⟨o,g,e,f,d,rfl⟩:=pu hq;obtain rfl:o=k:=Option.some.inj (g.symm.trans b);exact a e f d
def qi (P:Program) (ops:Array Oper) (Q:Exit→Act→World→Prop) (S:World→Prop) (L:List Nat):Nat→Array Bool→Act→World→Prop
 |0,listed,a,w=>Region.ready .any ops listed=[]∧Q .normal a w
 |fuel+1,listed,a,w=>
  (Region.ready .any ops listed=[]→Q .normal a w)∧
  ∀i∈Region.ready .any ops listed,wpOp P ops Q i (fun a' w' =>(zu ops L i=true∨(S w→S w'))∧qi P ops Q S L fuel (listed.setIfInBounds i true) a' w') a w
theorem vK:∀(fuel:Nat) (listed:Array Bool) (a:Act) (w:World),qi P ops Q S L fuel listed a w→wpAny P .any ops Q fuel listed a w
 |0,_,_,_,h=>h
 |fuel+1,_,_,_,h=>⟨h.1,fun i hi=>wpOp_mono (fun a' w' h' =>vK fuel _ a' w' h'.2) (h.2 i hi)⟩
theorem sd {T:World→Prop} {i:Nat} {oi:Oper} {v:Value} (hi:ops[i]? =some oi) (hsel:∀(j:Nat) (o:Oper) cs b,ops[j]? =some o→o.op≠ .select cs b)
  (hQ:∀c a w,Q (.panic c) (a.put oi.dst v) w→Q (.panic c) a w) (hST:∀w,S w→T w):
  ∀(fuel:Nat) (listed:Array Bool) (a:Act) (w:World),kI ops listed→
   (∀j oj,ops[j]? =some oj→j≠i→listed.getD j true=false→(∀e∈oj.after,Region.binds .any e=true→e.on≠i)→oi.apart ops oj=true)→
   i∈Region.ready .any ops listed→YieldsIf P ops T oi v a→((i∈L∧S w)∨∀w,T w)→
   qi P ops Q S L fuel (listed.setIfInBounds i true) (a.put oi.dst v) w→qi P ops Q S L (fuel+1) listed a w:=by
 intro fuel
 induction fuel with
 |zero=>
  intro listed a w l _ f t hS H;refine⟨fun h=>(by rw[h] at f;cases f),fun j n=>?_⟩;by_cases hji:j=i
  ·subst hji;exact t.wpOp hi (by rcases hS with hS|hS;exact hST _ hS.2;exact hS _) ⟨.inr id,H⟩
  ·have:=ready_mono n hji
   rw[H.1] at this;cases this
 |succ fuel ih=>
  intro listed a w l m f t hS H;refine⟨fun h=>(by rw[h] at f;cases f),fun j n=>?_⟩;by_cases hji:j=i
  ·subst hji;exact t.wpOp hi (by rcases hS with hS|hS;exact hST _ hS.2;exact hS _) ⟨.inr id,H⟩
  ·have s:=H.2 j (ready_mono n hji)
   obtain⟨p,oj,q,x⟩:=mem_ready.1 n;have d:listed.getD i false=false:=by
    have J:=(mem_ready.1 f).1;have B:i<ops.size:=(Array.getElem?_eq_some_iff.1 hi).1;have h':i<listed.size:=by rw[l.size];exact B
    simpa [h'] using J
   have y:∀e∈oj.after,Region.binds .any e=true→e.on≠i:=fun e U R A=>by
    have s:=x e U R;rw[A,d] at s;cases s
   have C:=ready_mono f (Ne.symm hji);have M:=wpOp_putIf q (m j oj q hji p y) (fun cs b=>hsel i oi cs b hi) (fun cs b=>hsel j oj cs b q) hQ t s;have hfree':∀k r,ops[k]? =some r→k≠i→(listed.setIfInBounds j true).getD k true=false→
     (∀e∈r.after,Region.binds .any e=true→e.on≠i)→oi.apart ops r=true:=fun k r V D d E=>by
    refine m k r V D ?_ E;by_cases hjk:j=k
    ·subst hjk;exact p
    ·rw[getD_set_ne true hjk] at d;exact d
   refine wpOp_mono (fun I X O=>?_) M;obtain⟨G,g,F⟩:=O;refine⟨g,?_⟩;have hcl':=l.set n;refine ih (listed.setIfInBounds j true) I X hcl' hfree' C G ?_ ?_
   ·rcases hS with ⟨u,hS⟩|z
    ·refine .inl ⟨u,?_⟩
     rcases g with W|g
     ·have:=yv l W n u
      rw[d] at this;cases this
     ·exact g hS
    ·exact .inr z
   ·rw[Array.setIfInBounds_comm _ _ hji]
    exact F
theorem zH {D:List (Nat×List Nat)} {R:List Nat} {l0:Array Bool} {a0:Act} {w0:World} {A:Nat→Prop} {N:Nat→(Nat→Value)→World→(Nat→Prop)→Prop} (hs0:l0.size=ops.size) {PP:Nat→(Nat→Value)→Prop} (hk:pC ops l0 D R=true) (hPP:∀j i u v,PP j u→i≠j→jz ops j i=false→PP j (jd u i v))
  (hNu:∀j i u v w F,N j u w F→i≠j→jz ops j i=false→N j (jd u i v) w F) (hSt:∀j v w w' F,N j v w F→(∀k,F k→w'.heap[k]? =w.heap[k]?)→N j v w' F) (hS:∀w',Ch A w0 w'→S w')
  (hP:yD P ops Q (D.map (·.1)) a0 w0 A N PP D) (m:Nat)
  (hend:∀u w' (F:Nat→Nat→Prop) listed,listed=setAll (D.map (·.1)) l0→Ch A w0 w'→(∀j j' k,kG D R listed j→kG D R listed j'→j≠j'→F j k→F j' k→False)→(∀j k,kG D R listed j→F j k→(A k∨w0.heap.size≤k)∧k<w'.heap.size)→
   (∀j,kG D R listed j→N j u w' (F j))→(∀j∈D.map (·.1),PP j u)→kI ops listed→qi P ops Q S L m listed (i6 ops (D.map (·.1)) a0 u) w'):
  ∀(n:Nat) (listed:Array Bool) (w:World) (u:Nat→Value) (F:Nat→Nat→Prop),xN listed (D.map (·.1))=n→kI ops listed→(∀i,i ∉ D.map (·.1)→listed.getD i false=l0.getD i false)→Ch A w0 w→
   (∀j,kG D R listed j→N j u w (F j))→(∀j k,kG D R listed j→F j k→(A k∨w0.heap.size≤k)∧k<w.heap.size)→(∀j j' k,kG D R listed j→kG D R listed j'→j≠j'→F j k→F j' k→False)→(∀j∈D.map (·.1),listed.getD j false=true→PP j u)→
   qi P ops Q S L (n+m) listed (i6 ops (D.map (·.1)) a0 u) w:=by
 simp only[pC,Bool.and_eq_true] at hk;obtain⟨⟨⟨⟨⟨aL,ax⟩,aO⟩,aN⟩,aP⟩,aM⟩:=hk;have hD:=rm aL;have aS:(D.map (·.1)).Nodup:=hD.imp fun h=>h.1;have hR:∀r∈R,ops.size≤r:=fun r hr=>by simpa using List.all_eq_true.1 aO r hr
 have hI:∀p∈D,∀q∈p.2,q∈R∨(jz ops p.1 q=true∧q∈D.map (·.1)):=fun p V q hq=>by
  have:=List.all_eq_true.1 (List.all_eq_true.1 aN p V) q hq;simp only[Bool.or_eq_true,Bool.and_eq_true,List.contains_iff_mem] at this;exact this
 have hU:∀p∈D,∀q∈D,p.1≠q.1→∀x∈p.2,x ∉ q.2:=fun p V q hq y x hx=>by
  have:=List.all_eq_true.1 (List.all_eq_true.1 aP p V) q hq;simp only[Bool.or_eq_true,beq_iff_eq] at this;rcases this with h|h
  ·exact absurd h y
  ·have:=List.all_eq_true.1 h x hx
   simpa using this
 intro n
 induction n with
 |zero=>
  intro listed w u F hn d E hC hN hF B Z;have af:∀i∈D.map (·.1),listed.getD i false=true:=fun i M=>by
   have:=List.countP_eq_zero.1 hn i M;simpa using this
  have hl:listed=setAll (D.map (·.1)) l0:=by
   apply Array.ext
   ·rw[tf,d.size,hs0]
   ·intro i a f
    have g:=pi (D.map (·.1)) l0 i (by rw[hs0,←d.size];exact a);have h4:listed.getD i false=(decide (i∈D.map (·.1))||l0.getD i false):=by
     by_cases O:i∈D.map (·.1)
     ·rw[af i O];simp only[O,decide_true,Bool.true_or]
     ·rw[E i O];simp only[O,decide_false,Bool.false_or]
    rw[←h4] at g;simpa [Array.getD_eq_getD_getElem?,a,f] using g.symm
  rw[Nat.zero_add];exact hend u w F listed hl hC B hF hN (fun j c=>Z j c (af j c)) d
 |succ n ih=>
  intro listed w u F hn d E hC hN hF B Z;rw[show n+1+m=(n+m)+1 from by omega];have Y:∃i∈D.map (·.1),listed.getD i false=false:=by
   have h0:0<(D.map (·.1)).countP (fun i=>!listed.getD i false):=by have:=hn;unfold xN at this;omega
   obtain⟨i,M,hu⟩:=List.countP_pos_iff.1 h0;exact⟨i,M,by simpa using hu⟩
  refine⟨fun h0=>?_,fun i M=>?_⟩
  ·have a2:∀(s i:Nat),(D.map (·.1))[s]? =some i→listed.getD i false=false→False:=by
    intro s
    induction s using Nat.strongRecOn with
    |_ s ihs=>
     intro i hs z;obtain⟨⟨o,C,an⟩,_⟩:=kP (D.map (·.1)) [] s i ax hs;have hlt':i<listed.size:=by rw[d.size];exact(Array.getElem?_eq_some_iff.1 C).1
     by_cases hex:∃s' j,s'<s∧(D.map (·.1))[s']? =some j∧listed.getD j false=false
     ·obtain⟨s',j,aR,c,ah⟩:=hex
      exact ihs s' aR j c ah
     ·have l:i∈Region.ready .any ops listed:=by
       refine mem_ready.2 ⟨by simpa [Array.getD_eq_getD_getElem?,hlt'] using z,o,C,fun e I H=>?_⟩;rcases an e I H with h|h
       ·by_cases O:e.on∈D.map (·.1)
        ·obtain⟨p2,aU,ak⟩:=List.getElem_of_mem O
         obtain⟨_,h5⟩:=kP (D.map (·.1)) [] p2 e.on ax (by rw[←ak];exact pE aU);exfalso;have:e.on<l0.size:=by
          rcases Nat.lt_or_ge e.on l0.size with hh|hh
          ·exact hh
          ·simp[Array.getD_eq_getD_getElem?,Array.getElem?_eq_none hh] at h
         simp[Array.getD_eq_getD_getElem?,this] at h h5;rw[h] at h5;cases h5
        ·rw[E _ O];exact h
       ·simp only[List.nil_append] at h
        obtain⟨p,aT,aw⟩:=List.getElem_of_mem h;have aW:p<s:=by simp at aT;omega
        rw[List.getElem_take] at aw;have ak:(D.map (·.1))[p]? =some e.on:=by rw[←aw];exact pE _
        cases hq:listed.getD e.on false with
        |true=>rfl
        |false=>exact absurd ⟨p,e.on,aW,ak,hq⟩ hex
      rw[h0] at l;cases l
   obtain⟨i,M,z⟩:=Y;obtain⟨s,hs,rfl⟩:=List.getElem_of_mem M;exact(a2 s _ (pE hs) z).elim
  ·have z:listed.getD i false=false:=by
    have a:=(mem_ready.1 M).1;rw[Array.getD_eq_getD_getElem?] at a ⊢;cases hq:listed[i]? with
    |none=>simp[hq] at a
    |some b=>simp[hq] at a ⊢;exact a
   obtain⟨_,oi,X,J⟩:=mem_ready.1 M;have ag:i<ops.size:=(Array.getElem?_eq_some_iff.1 X).1;have l:i∈D.map (·.1):=by
    refine Classical.byContradiction fun O=>?_;have a:=List.all_eq_true.1 aM i (List.mem_range.2 ag);have aQ:l0.getD i false=false:=by rw[←E i O];exact z
    have hm':(D.map (·.1)).contains i=false:=by simpa using O
    rw[aQ,hm'] at a;simp only[Bool.false_or,Bool.or_eq_true] at a;rcases a with a|a
    ·obtain⟨q,_,hq⟩:=List.any_eq_true.1 a
     simp only[Bool.and_eq_true,Bool.not_eq_true'] at hq;exact wP hq.1.1 (by rw[E q (by simpa using hq.2)];exact hq.1.2) M
    ·obtain⟨j,c,ah⟩:=Y
     have f:=List.all_eq_true.1 a j c;have g:=mT d (D.map (·.1)).reverse (tn ops i) (fun q hq=>by
      obtain⟨o,C,e,I,H,rfl⟩:=pu hq;obtain rfl:o=oi:=Option.some.inj (C.symm.trans X);exact J e I H) j (by simpa using f)
     rw[ah] at g;cases g
   obtain⟨p,V,aV⟩:=List.mem_map.1 l;subst aV;have ao:∀j∈p.2,j∈R∨(j∈D.map (·.1)∧listed.getD j false=true):=fun j c=>by
    rcases hI p V j c with h|⟨U,h⟩
    ·exact .inl h
    ·refine .inr ⟨h,?_⟩
     obtain⟨o,C,e,I,H,rfl⟩:=kW U;obtain rfl:o=oi:=Option.some.inj (C.symm.trans X);exact J e I H
   have G:∀j∈p.2,kG D R listed j:=fun j c=>⟨ao j c,fun q hq aa aK=>by
    by_cases hpq:p.1=q.1
    ·rw[←hpq,z] at aa;cases aa
    ·exact hU p V q hq hpq j c aK⟩
   have aZ:∀j,jz ops p.1 j=true→listed.getD j false=true:=fun j U=>by
    obtain⟨o,C,e,I,H,rfl⟩:=kW U;obtain rfl:o=oi:=Option.some.inj (C.symm.trans X);exact J e I H
   have aD:=xC D p hP V u w F hC (fun j c U=>Z j c (aZ j U)) (fun j c=>hN j (G j c)) (fun j c k=>hF j k (G j c)) (fun j c j' W k y=>B j j' k (G j c) (G j' W) y);refine wpOp_mono (fun a' w' h' =>?_) aD;obtain⟨v,F',rfl,ae,aH,av,aX⟩:=h';have au:Ch A w0 w':=hC.then ae fun k hk=>by obtain⟨j,c,aJ⟩:=hk;exact(hF j k (G j c) aJ).1
   refine⟨.inr fun _=>hS w' au,?_⟩;rw[uP hD l];have hisz':p.1<listed.size:=by rw[d.size];exact ag
   have t:∀j,kG D R (listed.setIfInBounds p.1 true) j→j≠p.1→kG D R listed j∧j ∉ p.2:=fun j c y=>by
    obtain⟨a,f⟩:=c;refine⟨⟨?_,fun q hq aa=>f q hq ?_⟩,f p V (by simp[hisz'])⟩
    ·rcases a with a|⟨a,g⟩
     ·exact .inl a
     ·rw[getD_set_ne false (Ne.symm y)] at g;exact .inr ⟨a,g⟩
    ·by_cases ab:p.1=q.1
     ·rw[←ab];simp[hisz']
     ·rw[getD_set_ne false ab];exact aa
   refine ih (listed.setIfInBounds p.1 true) w' (jd u p.1 v) (fun q=>if q=p.1 then F' else F q) ?_ (d.set M) ?_ au ?_ ?_ ?_ ?_
   ·have:=vA z hisz' aS
    rw[if_pos l] at this;omega
   ·intro j c
    have aI:p.1≠j:=fun e' =>c (e'▸l);rw[getD_set_ne false aI];exact E j c
   ·intro j c
    by_cases hjp:j=p.1
    ·subst hjp;simp only[if_true];exact aH
    ·obtain⟨a,f⟩:=t j c hjp
     simp only[if_neg hjp];have aY:jz ops j p.1=false:=by
      cases U:jz ops j p.1 with
      |false=>rfl
      |true=>
       exfalso;obtain⟨o,C,e,I,H,aj⟩:=kW U;rcases a.1 with g|g
       ·have:=hR j g
        have:=(Array.getElem?_eq_some_iff.1 C).1;omega
       ·have:=d.closed j o C g.2 e I H
        rw[aj,z] at this;cases this
     refine hSt j _ w w' (F j) (hNu j p.1 u v w (F j) (hN j a) (Ne.symm hjp) aY) fun k hk=>ae.block k (hF j k a hk).2 ?_;rintro⟨q,hq,al⟩;exact B j q k a (G q hq) (fun e' =>f (e'▸hq)) hk al
   ·intro j k c hk
    by_cases hjp:j=p.1
    ·subst hjp
     simp only[if_true] at hk;obtain⟨a,f⟩:=av k hk;refine⟨?_,f⟩;rcases a with ⟨q,hq,al⟩|a
     ·exact(hF q k (G q hq) al).1
     ·exact .inr (ly hC.size a)
    ·simp only[if_neg hjp] at hk
     obtain⟨a,_⟩:=t j c hjp;exact⟨(hF j k a hk).1,sF (hF j k a hk).2 ae.size⟩
   ·intro j j' k c W y hk T
    have ar:∀q,kG D R (listed.setIfInBounds p.1 true) q→q≠p.1→F' k→F q k→False:=fun q hq ab a f=>by
     obtain⟨g,h4⟩:=t q hq ab;rcases(av k a).1 with ⟨x,hx,a1⟩|h5
     ·exact B x q k (G x hx) g (fun e' =>h4 (e'▸hx)) a1 f
     ·have:=(hF q k g f).2;omega
    by_cases hjp:j=p.1
    ·subst hjp
     simp only[if_true] at hk;simp only[if_neg (Ne.symm y)] at T;exact ar j' W (Ne.symm y) hk T
    ·simp only[if_neg hjp] at hk
     by_cases hjp':j' =p.1
     ·subst hjp'
      simp only[if_true] at T;exact ar j c hjp T hk
     ·simp only[if_neg hjp'] at T
      obtain⟨a,_⟩:=t j c hjp;obtain⟨f,_⟩:=t j' W hjp';exact B j j' k a f y hk T
   ·intro j c hl
    by_cases hjp:j=p.1
    ·subst hjp;exact aX
    ·rw[getD_set_ne false (Ne.symm hjp)] at hl
     refine hPP j p.1 u v (Z j c hl) (Ne.symm hjp) ?_;cases U:jz ops j p.1 with
     |false=>rfl
     |true=>
      exfalso;obtain⟨o,C,e,I,H,aj⟩:=kW U;have:=d.closed j o C hl e I H;rw[aj,z] at this;cases this
inductive Pe where
 |nil
 |take (i:Nat) (p:Pe)
 |pure (i:Nat) (p:Pe)
 |one (i:Nat) (p:Pe)
 |par (D:List (Nat×List Nat)) (R:List Nat) (p:Pe)
def Pe.len:Pe→Nat
 | .nil=>0
 | .take _ p=>p.len+1
 | .pure _ p=>p.len+1
 | .one _ p=>p.len+1
 | .par D _ p=>D.length+p.len
def Pe.takes:Pe→List Nat
 | .nil=>[]
 | .take i p=>i::p.takes
 | .pure _ p=>p.takes
 | .one _ p=>p.takes
 | .par _ _ p=>p.takes
def xa (P:Program) (ops:Array Oper) (Q:Exit→Act→World→Prop) (S:World→Prop) (L:List Nat):Pe→Act→World→Prop
 | .nil,a,w=>Q .normal a w
 | .take i r,a,w=>∃o v,ops[i]? =some o∧YieldsIf P ops S o v a∧S w∧xa P ops Q S L r (a.put o.dst v) w
 | .pure i r,a,w=>∃o v,ops[i]? =some o∧YieldsIf P ops (fun _=>True) o v a∧xa P ops Q S L r (a.put o.dst v) w
 | .one i r,a,w=>wpOp P ops Q i (fun a' w' =>(zu ops L i=true∨(S w→S w'))∧xa P ops Q S L r a' w') a w
 | .par D R r,a,w=>∃(A:Nat→Prop) (N:Nat→(Nat→Value)→World→(Nat→Prop)→Prop) (PP:Nat→(Nat→Value)→Prop) (F0:Nat→Nat→Prop),(∀j i u v,PP j u→i≠j→jz ops j i=false→PP j (jd u i v))∧(∀j i u v w F,N j u w F→i≠j→jz ops j i=false→N j (jd u i v) w F)∧(∀j v w w' F,N j v w F→(∀k,F k→w'.heap[k]? =w.heap[k]?)→N j v w' F)∧(∀w',Ch A w w'→S w')∧
   (∀j∈R,∀u:Nat→Value,u j=undef→N j u w (F0 j))∧(∀j∈R,∀k,F0 j k→A k∧k<w.heap.size)∧(∀j∈R,∀j'∈R,∀k,j≠j'→F0 j k→F0 j' k→False)∧yD P ops Q (D.map (·.1)) a w A N PP D∧
   ∀u w' (F:Nat→Nat→Prop),Ch A w w'→(∀j j' k,kj D R j=true→kj D R j' =true→j≠j'→F j k→F j' k→False)→(∀j k,kj D R j=true→F j k→(A k∨w.heap.size≤k)∧k<w'.heap.size)→(∀j,kj D R j=true→N j u w' (F j))→(∀j∈D.map (·.1),PP j u)→xa P ops Q S L r (i6 ops (D.map (·.1)) a u) w'
def Bz (ops:Array Oper) (L:List Nat):Pe→Array Bool→Bool
 | .nil,l=>(Region.ready .any ops l).isEmpty
 | .take i r,l=>L.contains i&&Region.free .any ops l i&&(Region.ready .any ops l).contains i&&Bz ops L r (l.setIfInBounds i true)
 | .pure i r,l=>Region.free .any ops l i&&(Region.ready .any ops l).contains i&&Bz ops L r (l.setIfInBounds i true)
 | .one i r,l=>(Region.ready .any ops l==[i])&&Bz ops L r (l.setIfInBounds i true)
 | .par D R r,l=>pC ops l D R&&Bz ops L r (setAll (D.map (·.1)) l)
theorem oK (hsel:Region.noSelect ops=true) (hQ:∀c a d v w,Q (.panic c) (Act.put a d v) w→Q (.panic c) a w):∀(plan:Pe) (listed:Array Bool) (a:Act) (w:World),
  kI ops listed→Bz ops L plan listed=true→xa P ops Q S L plan a w→qi P ops Q S L plan.len listed a w
 | .nil,listed,a,w,_,hp,h=>⟨by simpa [Bz] using hp,h⟩
 | .take i r,listed,a,w,hcl,hp,h=>by
  simp only[Bz,Bool.and_eq_true] at hp;obtain⟨o,v,hi,hy,hS,hr⟩:=h;have hmem:i∈Region.ready .any ops listed:=by simpa using hp.1.2
  exact sd (T:=S) hi (Region.noSelect_spec hsel) (fun c a w hq=>hQ c a _ _ w hq) (fun _ h=>h) r.len listed a w hcl (Region.free_spec hi hp.1.1.2) hmem hy (.inl ⟨by simpa using hp.1.1.1,hS⟩)
   (oK hsel hQ r _ _ w (hcl.set hmem) hp.2 hr)
 | .pure i r,listed,a,w,hcl,hp,h=>by
  simp only[Bz,Bool.and_eq_true] at hp;obtain⟨o,v,hi,hy,hr⟩:=h;have hmem:i∈Region.ready .any ops listed:=by simpa using hp.1.2
  exact sd (T:=fun _=>True) hi (Region.noSelect_spec hsel) (fun c a w hq=>hQ c a _ _ w hq) (fun _ _=>trivial) r.len listed a w hcl (Region.free_spec hi hp.1.1) hmem hy (.inr fun _=>trivial)
   (oK hsel hQ r _ _ w (hcl.set hmem) hp.2 hr)
 | .one i r,listed,a,w,hcl,hp,h=>by
  simp only[Bz,Bool.and_eq_true,beq_iff_eq] at hp;refine⟨fun C=>(by rw[hp.1] at C;cases C),fun j e=>?_⟩;have ae:j=i:=by rw[hp.1] at e;simpa using e
  subst ae;exact wpOp_mono (fun a' G W=>⟨W.1,oK hsel hQ r _ a' G (hcl.set e) hp.2 W.2⟩) h
 | .par D R r,listed,a,w,hcl,hp,h=>by
  simp only[Bz,Bool.and_eq_true] at hp;obtain⟨A,N,PP,F0,Y,X,aa,hS,C,H,ab,hP,M⟩:=h;have m:=hp.1;have n:∀i∈D.map (·.1),listed.getD i false=false:=fun i hi=>by
   simp only[pC,Bool.and_eq_true] at m;obtain⟨s,x,rfl⟩:=List.getElem_of_mem hi;obtain⟨_,f⟩:=kP (D.map (·.1)) [] s _ m.1.1.1.1.2 (pE x);generalize (D.map (·.1))[s]=i at f;rw[Array.getD_eq_getD_getElem?] at f ⊢;cases hq:listed[i]? with
   |none=>rfl
   |some b=>simp[hq] at f ⊢;exact f
  have Z:∀j∈R,j ∉ D.map (·.1):=fun j e ad=>by
   simp only[pC,Bool.and_eq_true] at m;have f:ops.size≤j:=by simpa using List.all_eq_true.1 m.1.1.1.2 j e
   obtain⟨s,x,rfl⟩:=List.getElem_of_mem ad;obtain⟨⟨o,U,_⟩,_⟩:=kP (D.map (·.1)) [] s _ m.1.1.1.1.2 (pE x);have:=(Array.getElem?_eq_some_iff.1 U).1;omega
  have g:∀j,kG D R listed j→j∈R:=fun j e=>by
   rcases e.1 with f|⟨f,q⟩
   ·exact f
   ·rw[n j f] at q;cases q
  have ac:∀i∈D.map (·.1),i<ops.size:=fun i hi=>by
   simp only[pC,Bool.and_eq_true] at m;obtain⟨s,x,rfl⟩:=List.getElem_of_mem hi;obtain⟨⟨o,U,_⟩,_⟩:=kP (D.map (·.1)) [] s _ m.1.1.1.1.2 (pE x);exact(Array.getElem?_eq_some_iff.1 U).1
  have y:∀i∈D.map (·.1),(setAll (D.map (·.1)) listed).getD i false=true:=fun i hi=>by
   rw[pi _ _ _ (by rw[hcl.size];exact ac i hi)];simp only[hi,decide_true,Bool.true_or]
  have hend':∀j,kj D R j=true↔kG D R (setAll (D.map (·.1)) listed) j:=fun j=>by
   simp only[kj,Bool.and_eq_true,Bool.or_eq_true,List.contains_iff_mem,List.all_eq_true,Bool.not_eq_true'];constructor
   ·rintro⟨f,q⟩
    refine⟨f.imp_right fun h=>⟨h,y j h⟩,fun p hp _ e=>?_⟩;have:=q p hp;rw[List.contains_eq_mem,decide_eq_false_iff_not] at this;exact this e
   ·rintro⟨f,q⟩
    refine⟨f.imp_right fun h=>h.1,fun p hp=>?_⟩;rw[List.contains_eq_mem,decide_eq_false_iff_not];exact q p hp (y p.1 (List.mem_map_of_mem hp))
  have B:=zH (P:=P) (Q:=Q) (S:=S) (L:=L) (a0:=a) hcl.size m Y X aa hS hP r.len (fun u G F l E hC J hF hN af I=>by
    subst E;exact oK hsel hQ r _ _ G I hp.2 (M u G F hC (fun j z k e t=>J j z k ((hend' j).1 e) ((hend' z).1 t)) (fun j k e=>hF j k ((hend' j).1 e)) (fun j e=>hN j ((hend' j).1 e)) af))
   (D.map (·.1)).length listed w (fun i=>if i∈R then undef else nz ops a i) F0 (yL n) hcl (fun i _=>rfl) (Ch.refl _ _)
   (fun j e=>C j (g j e) _ (by simp only[if_pos (g j e)])) (fun j k e m=>⟨.inl (H j (g j e) k m).1,(H j (g j e) k m).2⟩) (fun j z k e t=>ab j (g j e) z (g z t) k) (fun j e E=>by rw[n j e] at E;cases E)
  have V:i6 ops (D.map (·.1)) a (fun i=>if i∈R then undef else nz ops a i)=a:=by
   rw[uO (u':=nz ops a) (fun i hi=>if_neg (fun hr=>Z i hr hi)),tc]
  rw[V] at B;show qi P ops Q S L (D.length+r.len) listed a w;have O:(D.map (·.1)).length=D.length:=List.length_map ..;rw[O] at B;exact B
theorem p9 {id:Nat} {a:Act} {w:World} {l:List Oper} (S:World→Prop) (L:List Nat) (plan:Pe) (hm:P.follows .mixedOrders=true)
  (hk:(Region.noSelect l.toArray&&plan.len==l.toArray.size&&Bz l.toArray L plan (Array.replicate l.toArray.size false))=true)
  (hQ:∀c a d v w,Q (.panic c) (Act.put a d v) w→Q (.panic c) a w) (h:xa P l.toArray Q S L plan a w.drew):(Code.region id l.toArray true).wp P Q a w:=by
 simp only[Bool.and_eq_true,beq_iff_eq] at hk;have b:=vK _ _ _ _ (oK hk.1.1 hQ plan _ a w.drew (kI.start _) hk.2 h);rw[hk.1.2] at b;exact wp_region_any hm b
theorem lv {a:Act} {w:World} {i:Nat} {o:Oper} {v:Value} {r:Pe} (hi:ops[i]? =some o) (hS:S w) (hw:Region.wanted o (yielded ops a.tmps)=true)
  (hy:∀w,S w→(execOp a.eval o).run P w= .ok (.value v) w) (h:∀K:Act→Prop,(∀a',xa P ops Q S L r a' w→K a')→K (a.put o.dst v)):xa P ops Q S L (.take i r) a w:=⟨o,v,hi,.inl ⟨hw,hy⟩,hS,h _ fun _ h=>h⟩
theorem lu {a:Act} {w:World} {i:Nat} {o:Oper} {v:Value} {r:Pe} (hi:ops[i]? =some o) (hw:Region.wanted o (yielded ops a.tmps)=true)
  (hy:∀w,(execOp a.eval o).run P w= .ok (.value v) w) (h:∀K:Act→Prop,(∀a',xa P ops Q S L r a' w→K a')→K (a.put o.dst v)):xa P ops Q S L (.pure i r) a w:=⟨o,v,hi,.inl ⟨hw,fun w _=>hy w⟩,h _ fun _ h=>h⟩
theorem rE {a:Act} {w:World} {i:Nat} {o:Oper} {r:Pe} (hi:ops[i]? =some o) (hw:Region.wanted o (yielded ops a.tmps)=true)
  (h:∀K:Act→World→Prop,(∀a' w',(zu ops L i=true∨(S w→S w'))→xa P ops Q S L r a' w'→K a' w')→o.wp P a w K Q):xa P ops Q S L (.one i r) a w:=by
 show wpOp P ops Q i _ a w;unfold wpOp;simp only[hi,hw,if_true];exact .inl (h _ fun a' w' hS b=>⟨hS,b⟩)
end
end
end Go.Proofs.YtlndjfflhegkdaaGreatDoor
