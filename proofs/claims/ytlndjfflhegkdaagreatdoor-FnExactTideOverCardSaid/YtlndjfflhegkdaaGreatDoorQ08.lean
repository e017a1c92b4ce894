/- Parts of the proof: Par. -/
import Derived.Test.YtlndjfflhegkdaaGreatDoorQ01
import Derived.Test.YtlndjfflhegkdaaGreatDoorQ02
set_option linter.unusedVariables false
set_option linter.unusedSimpArgs false
set_option linter.unusedSectionVars false
set_option maxHeartbeats 4000000
namespace Go.Proofs.YtlndjfflhegkdaaGreatDoor
open Go.RowKit
section
section
variable {P:Program} {ops:Array Oper} {Q:Exit→Act→World→Prop} {S:World→Prop}
def jT (ops:Array Oper) (i:Nat):Option Tmp:=(ops[i]?).bind (·.dst)
def i6 (ops:Array Oper) (D:List Nat) (a:Act) (u:Nat→Value):Act:=D.foldl (fun a i=>a.put (jT ops i) (u i)) a
def jd (u:Nat→Value) (i:Nat) (v:Value):Nat→Value:=fun j=>if j=i then v else u j
def BJ (ops:Array Oper) (i j:Nat):Prop:=i≠j∧∀d,jT ops i=some d→jT ops j≠some d
theorem zB {D:List Nat} {a:Act} {u:Nat→Value} {x:Option Tmp} {v:Value} (h:∀j∈D,∀d,x=some d→jT ops j≠some d):(i6 ops D a u).put x v=i6 ops D (a.put x v) u:=by
 induction D generalizing a with
 |nil=>rfl
 |cons j D ih=>
  show(i6 ops D (a.put (jT ops j) (u j)) u).put x v=i6 ops D ((a.put x v).put (jT ops j) (u j)) u;rw[ih (fun k b=>h k (List.mem_cons_of_mem _ b)),Act.put_comm a (x:=x) (y:=jT ops j) v (u j) (h j (List.mem_cons_self ..))]
theorem zC {D:List Nat} {a:Act} {u:Nat→Value} {i:Nat} {v:Value} (h:i ∉ D):i6 ops D a (jd u i v)=i6 ops D a u:=by
 induction D generalizing a with
 |nil=>rfl
 |cons j D ih=>
  show i6 ops D (a.put (jT ops j) (jd u i v j)) (jd u i v)=i6 ops D (a.put (jT ops j) (u j)) u;have b:j≠i:=fun e=>h (by rw[e];exact List.mem_cons_self ..);rw[ih (fun c=>h (List.mem_cons_of_mem _ c)),jd,if_neg b]
theorem DB (a:Act) (x:Option Tmp) (v u:Value):(a.put x v).put x u=a.put x u:=by
 cases x with
 |none=>rfl
 |some d=>simp[Act.put,Array.setIfInBounds_setIfInBounds]
theorem uP {D:List Nat} {a:Act} {u:Nat→Value} {i:Nat} {v:Value} (hD:D.Pairwise (BJ ops)) (hi:i∈D):(i6 ops D a u).put (jT ops i) v=i6 ops D a (jd u i v):=by
 induction D generalizing a with
 |nil=>cases hi
 |cons j D ih=>
  obtain⟨b,c⟩:=List.pairwise_cons.1 hD;by_cases hij:i=j
  ·subst hij
   show(i6 ops D (a.put (jT ops i) (u i)) u).put (jT ops i) v=i6 ops D (a.put (jT ops i) (jd u i v i)) (jd u i v);rw[zB (fun k d=>(b k d).2),DB,zC (fun e=>(b i e).1 rfl),jd,if_pos rfl]
  ·have hi':i∈D:=by rcases List.mem_cons.1 hi with h|h;exact absurd h hij;exact h
   show(i6 ops D (a.put (jT ops j) (u j)) u).put (jT ops i) v=i6 ops D (a.put (jT ops j) (jd u i v j)) (jd u i v);rw[ih c hi',jd,if_neg (Ne.symm hij)]
theorem uO {D:List Nat} {a:Act} {u u':Nat→Value} (h:∀i∈D,u i=u' i):i6 ops D a u=i6 ops D a u':=by
 induction D generalizing a with
 |nil=>rfl
 |cons j D ih=>
  show i6 ops D (a.put (jT ops j) (u j)) u=i6 ops D (a.put (jT ops j) (u' j)) u';rw[h j (List.mem_cons_self ..),ih (fun i b=>h i (List.mem_cons_of_mem _ b))]
def nz (ops:Array Oper) (a:Act) (i:Nat):Value:=match jT ops i with|some d=>a.tmps.getD d undef|none=>undef
theorem tc {D:List Nat} {a:Act}:i6 ops D a (nz ops a)=a:=by
 induction D with
 |nil=>rfl
 |cons j D ih=>
  have h:a.put (jT ops j) (nz ops a j)=a:=by
   unfold nz;cases hd:jT ops j with
   |none=>rfl
   |some d=>
    simp only[Act.put];have:a.tmps.setIfInBounds d (a.tmps.getD d undef)=a.tmps:=by
     apply Array.ext_getElem?;intro k;rw[Array.getElem?_setIfInBounds];split
     ·rename_i hk
      subst hk;split
      ·rename_i hlt;simp[hlt]
      ·rename_i hge;simp[Nat.not_lt.1 hge]
     ·rfl
    rw[this]
  show i6 ops D (a.put (jT ops j) (nz ops a j)) (nz ops a)=a;rw[h,ih]
def jz (ops:Array Oper) (j i:Nat):Bool:=match ops[j]? with|none=>false|some o=>o.after.any fun e=>Region.binds .any e&&e.on==i
theorem kW {j i:Nat} (h:jz ops j i=true):∃o,ops[j]? =some o∧∃e∈o.after,Region.binds .any e=true∧e.on=i:=by
 unfold jz at h;cases ho:ops[j]? with
 |none=>rw[ho] at h;cases h
 |some o=>
  rw[ho] at h;simp only[Array.any_eq_true] at h;obtain⟨k,a,h⟩:=h;simp only[Bool.and_eq_true,beq_iff_eq] at h;exact⟨o,rfl,o.after[k],Array.getElem_mem a,h.1,h.2⟩
theorem wP {listed:Array Bool} {j i:Nat} (h:jz ops j i=true) (hl:listed.getD i false=false):j ∉ Region.ready .any ops listed:=by
 intro g;obtain⟨o,f,e,d,c,rfl⟩:=kW h;obtain⟨_,k,b,a⟩:=mem_ready.1 g;obtain rfl:o=k:=Option.some.inj (f.symm.trans b);have:=a e d c;rw[hl] at this;cases this
def vB (ops:Array Oper) (l0:Array Bool):List Nat→List Nat→Bool
 |_,[]=>true
 |done,i::r=>(match ops[i]? with|none=>false|some o=>o.after.all fun e=>!Region.binds .any e||l0.getD e.on false||done.contains e.on)&&!(l0.getD i true)&&vB ops l0 (done++[i]) r
theorem kP {l0:Array Bool}:∀(D done:List Nat) (s i:Nat),vB ops l0 done D=true→D[s]? =some i→
  (∃o,ops[i]? =some o∧∀e∈o.after,Region.binds .any e=true→l0.getD e.on false=true∨e.on∈done++D.take s)∧l0.getD i true=false
 | [],_,_,_,_,hs=>by simp at hs
 |j::r,done,0,i,h,hs=>by
  have hji:j=i:=by simpa using hs
  subst hji;simp only[vB,Bool.and_eq_true] at h;obtain⟨⟨a,c⟩,_⟩:=h;refine⟨?_,by simpa using c⟩;cases ho:ops[j]? with
  |none=>rw[ho] at a;cases a
  |some o=>
   rw[ho] at a;refine⟨o,rfl,fun e f d=>?_⟩;have b:=(Array.all_eq_true_iff_forall_mem.1 a) e f;simp only[d,Bool.not_true,Bool.false_or,Bool.or_eq_true,List.contains_iff_mem] at b;simpa using b
 |j::r,done,s+1,i,h,hs=>by
  simp only[vB,Bool.and_eq_true] at h;have:=kP r (done++[j]) s i h.2 (by simpa using hs);simpa [List.append_assoc] using this
def zV (ops:Array Oper):List Nat→Bool
 | []=>true
 |i::r=>r.all (fun j=>i !=j&&match jT ops i with|none=>true|some d=>jT ops j !=some d)&&zV ops r
theorem rm:∀{D:List Nat},zV ops D=true→D.Pairwise (BJ ops)
 | [],_=> .nil
 |i::r,h=>by
  simp only[zV,Bool.and_eq_true] at h;refine List.pairwise_cons.2 ⟨fun j hj=>?_,rm h.2⟩;have:=List.all_eq_true.1 h.1 j hj;simp only[Bool.and_eq_true,bne_iff_ne] at this;refine⟨this.1,fun d hd=>?_⟩;have h2:=this.2;rw[hd] at h2;simpa using h2
def tn (ops:Array Oper) (j:Nat):List Nat:=match ops[j]? with|none=>[]|some o=>(o.after.toList.filter fun e=>Region.binds .any e).map (·.on)
theorem pu {j i:Nat} (h:i∈tn ops j):∃o,ops[j]? =some o∧∃e∈o.after,Region.binds .any e=true∧e.on=i:=by
 unfold tn at h;cases ho:ops[j]? with
 |none=>rw[ho] at h;cases h
 |some o=>
  rw[ho] at h;obtain⟨e,c,rfl⟩:=List.mem_map.1 h;obtain⟨a,b⟩:=List.mem_filter.1 c;exact⟨o,rfl,e,by simpa using a,b,rfl⟩
def zO (ops:Array Oper):List Nat→List Nat→List Nat
 |S,[]=>S
 |S,i::r=>zO ops (if S.contains i then tn ops i++S else S) r
theorem mT {listed:Array Bool} (hcl:kI ops listed):∀(D S:List Nat),(∀i∈S,listed.getD i false=true)→∀i∈zO ops S D,listed.getD i false=true
 | [],S,h=>h
 |j::r,S,h=>by
  refine mT hcl r _ fun i hi=>?_;split at hi
  ·rename_i hc
   have hj:=h j (by simpa using hc);rcases List.mem_append.1 hi with hi|hi
   ·obtain⟨o,ho,e,he,hb,rfl⟩:=pu hi
    exact hcl.closed j o ho hj e he hb
   ·exact h i hi
  ·exact h i hi
def pC (ops:Array Oper) (l0:Array Bool) (D:List (Nat×List Nat)) (R:List Nat):Bool:=
 zV ops (D.map (·.1))&&vB ops l0 [] (D.map (·.1))&&R.all (fun r=>decide (ops.size≤r))&&D.all (fun p=>p.2.all fun q=>R.contains q||(jz ops p.1 q&&(D.map (·.1)).contains q))&&
 D.all (fun p=>D.all fun q=>p.1==q.1||p.2.all fun x=>!q.2.contains x)&&
 (List.range ops.size).all fun j=>l0.getD j false||(D.map (·.1)).contains j||(List.range ops.size).any (fun q=>jz ops j q&&!(l0.getD q false)&&!(D.map (·.1)).contains q)||(D.map (·.1)).all (fun i=>(zO ops (tn ops j) (D.map (·.1)).reverse).contains i)
def Ef (P:Program) (ops:Array Oper) (Q:Exit→Act→World→Prop) (D:List Nat) (a0:Act) (w0:World) (A:Nat→Prop) (N:Nat→(Nat→Value)→World→(Nat→Prop)→Prop) (PP:Nat→(Nat→Value)→Prop) (i:Nat) (I:List Nat):Prop:=
 ∀(u:Nat→Value) (w:World) (F:Nat→Nat→Prop),Ch A w0 w→(∀j∈D,jz ops i j=true→PP j u)→(∀j∈I,N j u w (F j))→(∀j∈I,∀k,F j k→(A k∨w0.heap.size≤k)∧k<w.heap.size)→(∀j∈I,∀j'∈I,∀k,j≠j'→F j k→F j' k→False)→
   wpOp P ops Q i (fun a' w' =>∃v F',a' =(i6 ops D a0 u).put (jT ops i) v∧Ch (fun k=>∃j∈I,F j k) w w'∧N i (jd u i v) w' F'∧(∀k,F' k→((∃j∈I,F j k)∨w.heap.size≤k)∧k<w'.heap.size)∧PP i (jd u i v)) (i6 ops D a0 u) w
def yD (P:Program) (ops:Array Oper) (Q:Exit→Act→World→Prop) (D:List Nat) (a0:Act) (w0:World) (A:Nat→Prop) (N:Nat→(Nat→Value)→World→(Nat→Prop)→Prop) (PP:Nat→(Nat→Value)→Prop):List (Nat×List Nat)→Prop
 | []=>True
 |(i,I)::r=>Ef P ops Q D a0 w0 A N PP i I∧yD P ops Q D a0 w0 A N PP r
theorem xC {D0:List Nat} {a0:Act} {w0:World} {A:Nat→Prop} {N:Nat→(Nat→Value)→World→(Nat→Prop)→Prop} {PP:Nat→(Nat→Value)→Prop}:∀(D:List (Nat×List Nat)) (p:Nat×List Nat),yD P ops Q D0 a0 w0 A N PP D→p∈D→Ef P ops Q D0 a0 w0 A N PP p.1 p.2
 |(i,I)::r,p,h,hp=>by
  rcases List.mem_cons.1 hp with rfl|hp
  ·exact h.1
  ·exact xC r p h.2 hp
def xN (listed:Array Bool) (D:List Nat):Nat:=D.countP fun i=>!listed.getD i false
theorem vA {listed:Array Bool} {i:Nat} (hl:listed.getD i false=false) (hlt:i<listed.size):∀{D:List Nat},D.Nodup→(xN (listed.setIfInBounds i true) D+if i∈D then 1 else 0)=xN listed D
 | [],_=>rfl
 |j::D,h=>by
  obtain⟨h1,h2⟩:=List.nodup_cons.1 h;have ih:=vA hl hlt h2;unfold xN at ih ⊢;rw[List.countP_cons,List.countP_cons];by_cases hij:j=i
  ·subst hij
   rw[if_neg h1] at ih;have h3:(listed.setIfInBounds j true).getD j false=true:=by simp[hlt]
   rw[h3,hl,if_pos (List.mem_cons_self ..)];simp at ih ⊢;omega
  ·rw[getD_set_ne false (Ne.symm hij)]
   have:(i∈j::D)↔i∈D:=by simp[Ne.symm hij]
   by_cases hm:i∈D
   ·rw[if_pos hm] at ih;rw[if_pos (this.2 hm)];omega
   ·rw[if_neg hm] at ih;rw[if_neg (fun h=>hm (this.1 h))];omega
def kG (D:List (Nat×List Nat)) (R:List Nat) (listed:Array Bool) (j:Nat):Prop:=(j∈R∨(j∈D.map (·.1)∧listed.getD j false=true))∧∀p∈D,listed.getD p.1 false=true→j ∉ p.2
def setAll (D:List Nat) (l0:Array Bool):Array Bool:=D.foldl (fun l i=>l.setIfInBounds i true) l0
theorem tf:∀(D:List Nat) (l:Array Bool),(setAll D l).size=l.size:=by
 intro D
 induction D with
 |nil=>intro l;rfl
 |cons j D ih=>intro l;rw[setAll,List.foldl_cons];exact(ih _).trans sm
theorem pi:∀(D:List Nat) (l:Array Bool) (i:Nat),i<l.size→(setAll D l).getD i false=(decide (i∈D)||l.getD i false):=by
 intro D
 induction D with
 |nil=>intro l i a;simp[setAll]
 |cons j D ih=>
  intro l i a;have:=ih (l.setIfInBounds j true) i (by simpa using a);rw[setAll,List.foldl_cons];rw[setAll] at this;rw[this];by_cases hij:j=i
  ·subst hij;simp[a]
  ·rw[getD_set_ne false hij];simp[Ne.symm hij]
theorem zI {D:List (Nat×List Nat)} {R:List Nat} {l0:Array Bool} {a0:Act} {w0:World} {A:Nat→Prop} {N:Nat→(Nat→Value)→World→(Nat→Prop)→Prop} (hs0:l0.size=ops.size) {PP:Nat→(Nat→Value)→Prop} (hk:pC ops l0 D R=true) (hPP:∀j i u v,PP j u→i≠j→jz ops j i=false→PP j (jd u i v))
  (hNu:∀j i u v w F,N j u w F→i≠j→jz ops j i=false→N j (jd u i v) w F) (hSt:∀j v w w' F,N j v w F→(∀k,F k→w'.heap[k]? =w.heap[k]?)→N j v w' F) (hS:∀w',Ch A w0 w'→S w')
  (hP:yD P ops Q (D.map (·.1)) a0 w0 A N PP D) (m:Nat)
  (hend:∀u w' (F:Nat→Nat→Prop) listed,listed=setAll (D.map (·.1)) l0→Ch A w0 w'→(∀j j' k,kG D R listed j→kG D R listed j'→j≠j'→F j k→F j' k→False)→(∀j k,kG D R listed j→F j k→(A k∨w0.heap.size≤k)∧k<w'.heap.size)→
   (∀j,kG D R listed j→N j u w' (F j))→(∀j∈D.map (·.1),PP j u)→kI ops listed→px P ops Q S m listed (i6 ops (D.map (·.1)) a0 u) w'):
  ∀(n:Nat) (listed:Array Bool) (w:World) (u:Nat→Value) (F:Nat→Nat→Prop),xN listed (D.map (·.1))=n→kI ops listed→(∀i,i ∉ D.map (·.1)→listed.getD i false=l0.getD i false)→Ch A w0 w→
   (∀j,kG D R listed j→N j u w (F j))→(∀j k,kG D R listed j→F j k→(A k∨w0.heap.size≤k)∧k<w.heap.size)→(∀j j' k,kG D R listed j→kG D R listed j'→j≠j'→F j k→F j' k→False)→(∀j∈D.map (·.1),listed.getD j false=true→PP j u)→
   px P ops Q S (n+m) listed (i6 ops (D.map (·.1)) a0 u) w:=by
 simp only[pC,Bool.and_eq_true] at hk;obtain⟨⟨⟨⟨⟨aK,aw⟩,aN⟩,aM⟩,aO⟩,aL⟩:=hk;have hD:=rm aK;have aR:(D.map (·.1)).Nodup:=hD.imp fun h=>h.1;have hR:∀r∈R,ops.size≤r:=fun r hr=>by simpa using List.all_eq_true.1 aN r hr
 have hI:∀p∈D,∀q∈p.2,q∈R∨(jz ops p.1 q=true∧q∈D.map (·.1)):=fun p U q hq=>by
  have:=List.all_eq_true.1 (List.all_eq_true.1 aM p U) q hq;simp only[Bool.or_eq_true,Bool.and_eq_true,List.contains_iff_mem] at this;exact this
 have hU:∀p∈D,∀q∈D,p.1≠q.1→∀x∈p.2,x ∉ q.2:=fun p U q hq y x hx=>by
  have:=List.all_eq_true.1 (List.all_eq_true.1 aO p U) q hq;simp only[Bool.or_eq_true,beq_iff_eq] at this;rcases this with h|h
  ·exact absurd h y
  ·have:=List.all_eq_true.1 h x hx
   simpa using this
 intro n
 induction n with
 |zero=>
  intro listed w u F hn d E hC hN hF B Y;have ae:∀i∈D.map (·.1),listed.getD i false=true:=fun i L=>by
   have:=List.countP_eq_zero.1 hn i L;simpa using this
  have hl:listed=setAll (D.map (·.1)) l0:=by
   apply Array.ext
   ·rw[tf,d.size,hs0]
   ·intro i a f
    have g:=pi (D.map (·.1)) l0 i (by rw[hs0,←d.size];exact a);have h4:listed.getD i false=(decide (i∈D.map (·.1))||l0.getD i false):=by
     by_cases M:i∈D.map (·.1)
     ·rw[ae i M];simp only[M,decide_true,Bool.true_or]
     ·rw[E i M];simp only[M,decide_false,Bool.false_or]
    rw[←h4] at g;simpa [Array.getD_eq_getD_getElem?,a,f] using g.symm
  rw[Nat.zero_add];exact hend u w F listed hl hC B hF hN (fun j c=>Y j c (ae j c)) d
 |succ n ih=>
  intro listed w u F hn d E hC hN hF B Y;rw[show n+1+m=(n+m)+1 from by omega];have X:∃i∈D.map (·.1),listed.getD i false=false:=by
   have h0:0<(D.map (·.1)).countP (fun i=>!listed.getD i false):=by have:=hn;unfold xN at this;omega
   obtain⟨i,L,hu⟩:=List.countP_pos_iff.1 h0;exact⟨i,L,by simpa using hu⟩
  refine⟨fun h0=>?_,fun i L=>?_⟩
  ·have a1:∀(s i:Nat),(D.map (·.1))[s]? =some i→listed.getD i false=false→False:=by
    intro s
    induction s using Nat.strongRecOn with
    |_ s ihs=>
     intro i hs z;obtain⟨⟨o,C,am⟩,_⟩:=kP (D.map (·.1)) [] s i aw hs;have hlt':i<listed.size:=by rw[d.size];exact(Array.getElem?_eq_some_iff.1 C).1
     by_cases hex:∃s' j,s'<s∧(D.map (·.1))[s']? =some j∧listed.getD j false=false
     ·obtain⟨s',j,aQ,c,ag⟩:=hex
      exact ihs s' aQ j c ag
     ·have l:i∈Region.ready .any ops listed:=by
       refine mem_ready.2 ⟨by simpa [Array.getD_eq_getD_getElem?,hlt'] using z,o,C,fun e I H=>?_⟩;rcases am e I H with h|h
       ·by_cases M:e.on∈D.map (·.1)
        ·obtain⟨p2,aT,aj⟩:=List.getElem_of_mem M
         obtain⟨_,h5⟩:=kP (D.map (·.1)) [] p2 e.on aw (by rw[←aj];exact pE aT);exfalso;have:e.on<l0.size:=by
          rcases Nat.lt_or_ge e.on l0.size with hh|hh
          ·exact hh
          ·simp[Array.getD_eq_getD_getElem?,Array.getElem?_eq_none hh] at h
         simp[Array.getD_eq_getD_getElem?,this] at h h5;rw[h] at h5;cases h5
        ·rw[E _ M];exact h
       ·simp only[List.nil_append] at h
        obtain⟨p,aS,av⟩:=List.getElem_of_mem h;have aV:p<s:=by simp at aS;omega
        rw[List.getElem_take] at av;have aj:(D.map (·.1))[p]? =some e.on:=by rw[←av];exact pE _
        cases hq:listed.getD e.on false with
        |true=>rfl
        |false=>exact absurd ⟨p,e.on,aV,aj,hq⟩ hex
      rw[h0] at l;cases l
   obtain⟨i,L,z⟩:=X;obtain⟨s,hs,rfl⟩:=List.getElem_of_mem L;exact(a1 s _ (pE hs) z).elim
  ·have z:listed.getD i false=false:=by
    have a:=(mem_ready.1 L).1;rw[Array.getD_eq_getD_getElem?] at a ⊢;cases hq:listed[i]? with
    |none=>simp[hq] at a
    |some b=>simp[hq] at a ⊢;exact a
   obtain⟨_,oi,W,J⟩:=mem_ready.1 L;have af:i<ops.size:=(Array.getElem?_eq_some_iff.1 W).1;have l:i∈D.map (·.1):=by
    refine Classical.byContradiction fun M=>?_;have a:=List.all_eq_true.1 aL i (List.mem_range.2 af);have aP:l0.getD i false=false:=by rw[←E i M];exact z
    have hm':(D.map (·.1)).contains i=false:=by simpa using M
    rw[aP,hm'] at a;simp only[Bool.false_or,Bool.or_eq_true] at a;rcases a with a|a
    ·obtain⟨q,_,hq⟩:=List.any_eq_true.1 a
     simp only[Bool.and_eq_true,Bool.not_eq_true'] at hq;exact wP hq.1.1 (by rw[E q (by simpa using hq.2)];exact hq.1.2) L
    ·obtain⟨j,c,ag⟩:=X
     have f:=List.all_eq_true.1 a j c;have g:=mT d (D.map (·.1)).reverse (tn ops i) (fun q hq=>by
      obtain⟨o,C,e,I,H,rfl⟩:=pu hq;obtain rfl:o=oi:=Option.some.inj (C.symm.trans W);exact J e I H) j (by simpa using f)
     rw[ag] at g;cases g
   obtain⟨p,U,aU⟩:=List.mem_map.1 l;subst aU;have an:∀j∈p.2,j∈R∨(j∈D.map (·.1)∧listed.getD j false=true):=fun j c=>by
    rcases hI p U j c with h|⟨T,h⟩
    ·exact .inl h
    ·refine .inr ⟨h,?_⟩
     obtain⟨o,C,e,I,H,rfl⟩:=kW T;obtain rfl:o=oi:=Option.some.inj (C.symm.trans W);exact J e I H
   have G:∀j∈p.2,kG D R listed j:=fun j c=>⟨an j c,fun q hq Z aJ=>by
    by_cases hpq:p.1=q.1
    ·rw[←hpq,z] at Z;cases Z
    ·exact hU p U q hq hpq j c aJ⟩
   have aY:∀j,jz ops p.1 j=true→listed.getD j false=true:=fun j T=>by
    obtain⟨o,C,e,I,H,rfl⟩:=kW T;obtain rfl:o=oi:=Option.some.inj (C.symm.trans W);exact J e I H
   have aC:=xC D p hP U u w F hC (fun j c T=>Y j c (aY j T)) (fun j c=>hN j (G j c)) (fun j c k=>hF j k (G j c)) (fun j c j' V k y=>B j j' k (G j c) (G j' V) y);refine wpOp_mono (fun a' w' h' =>?_) aC;obtain⟨v,F',rfl,ad,aG,au,aW⟩:=h';have ar:Ch A w0 w':=hC.then ad fun k hk=>by obtain⟨j,c,aI⟩:=hk;exact(hF j k (G j c) aI).1
   refine⟨.inr (hS w' ar),?_⟩;rw[uP hD l];have hisz':p.1<listed.size:=by rw[d.size];exact af
   have t:∀j,kG D R (listed.setIfInBounds p.1 true) j→j≠p.1→kG D R listed j∧j ∉ p.2:=fun j c y=>by
    obtain⟨a,f⟩:=c;refine⟨⟨?_,fun q hq Z=>f q hq ?_⟩,f p U (by simp[hisz'])⟩
    ·rcases a with a|⟨a,g⟩
     ·exact .inl a
     ·rw[getD_set_ne false (Ne.symm y)] at g;exact .inr ⟨a,g⟩
    ·by_cases aa:p.1=q.1
     ·rw[←aa];simp[hisz']
     ·rw[getD_set_ne false aa];exact Z
   refine ih (listed.setIfInBounds p.1 true) w' (jd u p.1 v) (fun q=>if q=p.1 then F' else F q) ?_ (d.set L) ?_ ar ?_ ?_ ?_ ?_
   ·have:=vA z hisz' aR
    rw[if_pos l] at this;omega
   ·intro j c
    have aH:p.1≠j:=fun e' =>c (e'▸l);rw[getD_set_ne false aH];exact E j c
   ·intro j c
    by_cases hjp:j=p.1
    ·subst hjp;simp only[if_true];exact aG
    ·obtain⟨a,f⟩:=t j c hjp
     simp only[if_neg hjp];have aX:jz ops j p.1=false:=by
      cases T:jz ops j p.1 with
      |false=>rfl
      |true=>
       exfalso;obtain⟨o,C,e,I,H,ai⟩:=kW T;rcases a.1 with g|g
       ·have:=hR j g
        have:=(Array.getElem?_eq_some_iff.1 C).1;omega
       ·have:=d.closed j o C g.2 e I H
        rw[ai,z] at this;cases this
     refine hSt j _ w w' (F j) (hNu j p.1 u v w (F j) (hN j a) (Ne.symm hjp) aX) fun k hk=>ad.block k (hF j k a hk).2 ?_;rintro⟨q,hq,ak⟩;exact B j q k a (G q hq) (fun e' =>f (e'▸hq)) hk ak
   ·intro j k c hk
    by_cases hjp:j=p.1
    ·subst hjp
     simp only[if_true] at hk;obtain⟨a,f⟩:=au k hk;refine⟨?_,f⟩;rcases a with ⟨q,hq,ak⟩|a
     ·exact(hF q k (G q hq) ak).1
     ·exact .inr (ly hC.size a)
    ·simp only[if_neg hjp] at hk
     obtain⟨a,_⟩:=t j c hjp;exact⟨(hF j k a hk).1,sF (hF j k a hk).2 ad.size⟩
   ·intro j j' k c V y hk O
    have aq:∀q,kG D R (listed.setIfInBounds p.1 true) q→q≠p.1→F' k→F q k→False:=fun q hq aa a f=>by
     obtain⟨g,h4⟩:=t q hq aa;rcases(au k a).1 with ⟨x,hx,aZ⟩|h5
     ·exact B x q k (G x hx) g (fun e' =>h4 (e'▸hx)) aZ f
     ·have:=(hF q k g f).2;omega
    by_cases hjp:j=p.1
    ·subst hjp
     simp only[if_true] at hk;simp only[if_neg (Ne.symm y)] at O;exact aq j' V (Ne.symm y) hk O
    ·simp only[if_neg hjp] at hk
     by_cases hjp':j' =p.1
     ·subst hjp'
      simp only[if_true] at O;exact aq j c hjp O hk
     ·simp only[if_neg hjp'] at O
      obtain⟨a,_⟩:=t j c hjp;obtain⟨f,_⟩:=t j' V hjp';exact B j j' k a f y hk O
   ·intro j c hl
    by_cases hjp:j=p.1
    ·subst hjp;exact aW
    ·rw[getD_set_ne false (Ne.symm hjp)] at hl
     refine hPP j p.1 u v (Y j c hl) (Ne.symm hjp) ?_;cases T:jz ops j p.1 with
     |false=>rfl
     |true=>
      exfalso;obtain⟨o,C,e,I,H,ai⟩:=kW T;have:=d.closed j o C hl e I H;rw[ai,z] at this;cases this
inductive Pz where
 |nil
 |take (i:Nat) (p:Pz)
 |one (i:Nat) (p:Pz)
 |par (D:List (Nat×List Nat)) (R:List Nat) (p:Pz)
def Pz.len:Pz→Nat
 | .nil=>0
 | .take _ p=>p.len+1
 | .one _ p=>p.len+1
 | .par D _ p=>D.length+p.len
def Pz.takes:List Nat→Pz→Pz
 | [],p=>p
 |i::r,p=> .take i (Pz.takes r p)
def kj (D:List (Nat×List Nat)) (R:List Nat) (j:Nat):Bool:=(R.contains j||(D.map (·.1)).contains j)&&D.all fun p=>!p.2.contains j
def tx (P:Program) (ops:Array Oper) (Q:Exit→Act→World→Prop) (S:World→Prop):Pz→Act→World→Prop
 | .nil,a,w=>Q .normal a w
 | .take i r,a,w=>∃o v,ops[i]? =some o∧YieldsIf P ops S o v a∧S w∧tx P ops Q S r (a.put o.dst v) w
 | .one i r,a,w=>wpOp P ops Q i (fun a' w' =>(mj ops i=true∨S w')∧tx P ops Q S r a' w') a w
 | .par D R r,a,w=>∃(A:Nat→Prop) (N:Nat→(Nat→Value)→World→(Nat→Prop)→Prop) (PP:Nat→(Nat→Value)→Prop) (F0:Nat→Nat→Prop),(∀j i u v,PP j u→i≠j→jz ops j i=false→PP j (jd u i v))∧(∀j i u v w F,N j u w F→i≠j→jz ops j i=false→N j (jd u i v) w F)∧(∀j v w w' F,N j v w F→(∀k,F k→w'.heap[k]? =w.heap[k]?)→N j v w' F)∧(∀w',Ch A w w'→S w')∧
   (∀j∈R,∀u:Nat→Value,u j=undef→N j u w (F0 j))∧(∀j∈R,∀k,F0 j k→A k∧k<w.heap.size)∧(∀j∈R,∀j'∈R,∀k,j≠j'→F0 j k→F0 j' k→False)∧yD P ops Q (D.map (·.1)) a w A N PP D∧
   ∀u w' (F:Nat→Nat→Prop),Ch A w w'→(∀j j' k,kj D R j=true→kj D R j' =true→j≠j'→F j k→F j' k→False)→(∀j k,kj D R j=true→F j k→(A k∨w.heap.size≤k)∧k<w'.heap.size)→(∀j,kj D R j=true→N j u w' (F j))→(∀j∈D.map (·.1),PP j u)→tx P ops Q S r (i6 ops (D.map (·.1)) a u) w'
def DY (ops:Array Oper):Pz→Array Bool→Bool
 | .nil,l=>(Region.ready .any ops l).isEmpty
 | .take i r,l=>Region.free .any ops l i&&(Region.ready .any ops l).contains i&&DY ops r (l.setIfInBounds i true)
 | .one i r,l=>(Region.ready .any ops l==[i])&&DY ops r (l.setIfInBounds i true)
 | .par D R r,l=>pC ops l D R&&DY ops r (setAll (D.map (·.1)) l)
theorem yL {D:List Nat} {l0:Array Bool} (h:∀i∈D,l0.getD i false=false):xN l0 D=D.length:=by
 unfold xN;rw[List.countP_eq_length];intro i a;simp[h i a]
theorem nP (hsel:Region.noSelect ops=true) (hQ:∀c a d v w,Q (.panic c) (Act.put a d v) w→Q (.panic c) a w):∀(plan:Pz) (listed:Array Bool) (a:Act) (w:World),
  kI ops listed→DY ops plan listed=true→tx P ops Q S plan a w→px P ops Q S plan.len listed a w
 | .nil,listed,a,w,_,hp,h=>⟨by simpa [DY] using hp,h⟩
 | .take i r,listed,a,w,hcl,hp,h=>by
  simp only[DY,Bool.and_eq_true] at hp;obtain⟨o,v,hi,hy,hS,hr⟩:=h;have hmem:i∈Region.ready .any ops listed:=by simpa using hp.1.2
  exact se hi (Region.noSelect_spec hsel) (fun c a w hq=>hQ c a _ _ w hq) r.len listed a w hcl (Region.free_spec hi hp.1.1) hmem hy hS
   (nP hsel hQ r _ _ w (hcl.set hmem) hp.2 hr)
 | .one i r,listed,a,w,hcl,hp,h=>by
  simp only[DY,Bool.and_eq_true,beq_iff_eq] at hp;refine⟨fun C=>(by rw[hp.1] at C;cases C),fun j e=>?_⟩;have ac:j=i:=by rw[hp.1] at e;simpa using e
  subst ac;exact wpOp_mono (fun a' G U=>⟨U.1,nP hsel hQ r _ a' G (hcl.set e) hp.2 U.2⟩) h
 | .par D R r,listed,a,w,hcl,hp,h=>by
  simp only[DY,Bool.and_eq_true] at hp;obtain⟨A,N,PP,F0,W,V,Y,hS,C,H,Z,hP,L⟩:=h;have m:=hp.1;have n:∀i∈D.map (·.1),listed.getD i false=false:=fun i hi=>by
   simp only[pC,Bool.and_eq_true] at m;obtain⟨s,x,rfl⟩:=List.getElem_of_mem hi;obtain⟨_,f⟩:=kP (D.map (·.1)) [] s _ m.1.1.1.1.2 (pE x);generalize (D.map (·.1))[s]=i at f;rw[Array.getD_eq_getD_getElem?] at f ⊢;cases hq:listed[i]? with
   |none=>rfl
   |some b=>simp[hq] at f ⊢;exact f
  have X:∀j∈R,j ∉ D.map (·.1):=fun j e ab=>by
   simp only[pC,Bool.and_eq_true] at m;have f:ops.size≤j:=by simpa using List.all_eq_true.1 m.1.1.1.2 j e
   obtain⟨s,x,rfl⟩:=List.getElem_of_mem ab;obtain⟨⟨o,O,_⟩,_⟩:=kP (D.map (·.1)) [] s _ m.1.1.1.1.2 (pE x);have:=(Array.getElem?_eq_some_iff.1 O).1;omega
  have g:∀j,kG D R listed j→j∈R:=fun j e=>by
   rcases e.1 with f|⟨f,q⟩
   ·exact f
   ·rw[n j f] at q;cases q
  have aa:∀i∈D.map (·.1),i<ops.size:=fun i hi=>by
   simp only[pC,Bool.and_eq_true] at m;obtain⟨s,x,rfl⟩:=List.getElem_of_mem hi;obtain⟨⟨o,O,_⟩,_⟩:=kP (D.map (·.1)) [] s _ m.1.1.1.1.2 (pE x);exact(Array.getElem?_eq_some_iff.1 O).1
  have y:∀i∈D.map (·.1),(setAll (D.map (·.1)) listed).getD i false=true:=fun i hi=>by
   rw[pi _ _ _ (by rw[hcl.size];exact aa i hi)];simp only[hi,decide_true,Bool.true_or]
  have hend':∀j,kj D R j=true↔kG D R (setAll (D.map (·.1)) listed) j:=fun j=>by
   simp only[kj,Bool.and_eq_true,Bool.or_eq_true,List.contains_iff_mem,List.all_eq_true,Bool.not_eq_true'];constructor
   ·rintro⟨f,q⟩
    refine⟨f.imp_right fun h=>⟨h,y j h⟩,fun p hp _ e=>?_⟩;have:=q p hp;rw[List.contains_eq_mem,decide_eq_false_iff_not] at this;exact this e
   ·rintro⟨f,q⟩
    refine⟨f.imp_right fun h=>h.1,fun p hp=>?_⟩;rw[List.contains_eq_mem,decide_eq_false_iff_not];exact q p hp (y p.1 (List.mem_map_of_mem hp))
  have B:=zI (P:=P) (Q:=Q) (S:=S) (a0:=a) hcl.size m W V Y hS hP r.len (fun u G F l E hC J hF hN ad I=>by
    subst E;exact nP hsel hQ r _ _ G I hp.2 (L u G F hC (fun j z k e t=>J j z k ((hend' j).1 e) ((hend' z).1 t)) (fun j k e=>hF j k ((hend' j).1 e)) (fun j e=>hN j ((hend' j).1 e)) ad))
   (D.map (·.1)).length listed w (fun i=>if i∈R then undef else nz ops a i) F0 (yL n) hcl (fun i _=>rfl) (Ch.refl _ _)
   (fun j e=>C j (g j e) _ (by simp only[if_pos (g j e)])) (fun j k e m=>⟨.inl (H j (g j e) k m).1,(H j (g j e) k m).2⟩) (fun j z k e t=>Z j (g j e) z (g z t) k) (fun j e E=>by rw[n j e] at E;cases E)
  have T:i6 ops (D.map (·.1)) a (fun i=>if i∈R then undef else nz ops a i)=a:=by
   rw[uO (u':=nz ops a) (fun i hi=>if_neg (fun hr=>X i hr hi)),tc]
  rw[T] at B;show px P ops Q S (D.length+r.len) listed a w;have M:(D.map (·.1)).length=D.length:=List.length_map ..;rw[M] at B;exact B
theorem mI {id:Nat} {a:Act} {w:World} {l:List Oper} (S:World→Prop) (plan:Pz) (hm:P.follows .mixedOrders=true)
  (hk:(Region.noSelect l.toArray&&plan.len==l.toArray.size&&DY l.toArray plan (Array.replicate l.toArray.size false))=true)
  (hQ:∀c a d v w,Q (.panic c) (Act.put a d v) w→Q (.panic c) a w) (h:tx P l.toArray Q S plan a w.drew):(Code.region id l.toArray true).wp P Q a w:=by
 simp only[Bool.and_eq_true,beq_iff_eq] at hk;have b:=rq _ _ _ _ (nP hk.1.1 hQ plan _ a w.drew (kI.start _) hk.2 h);rw[hk.1.2] at b;exact wp_region_any hm b
theorem vQ {a:Act} {w:World} {i:Nat} {o:Oper} {v:Value} {r:Pz} (hi:ops[i]? =some o) (hS:S w) (hw:Region.wanted o (yielded ops a.tmps)=true)
  (hy:∀w,S w→(execOp a.eval o).run P w= .ok (.value v) w) (h:∀K:Act→Prop,(∀a',tx P ops Q S r a' w→K a')→K (a.put o.dst v)):tx P ops Q S (.take i r) a w:=⟨o,v,hi,.inl ⟨hw,hy⟩,hS,h _ fun _ h=>h⟩
theorem vP {a:Act} {w:World} {i:Nat} {o:Oper} {r:Pz} (hi:ops[i]? =some o) (hS:S w) (hw:Region.wanted o (yielded ops a.tmps)=false)
  (h:∀K:Act→Prop,(∀a',tx P ops Q S r a' w→K a')→K (a.put o.dst undef)):tx P ops Q S (.take i r) a w:=⟨o,undef,hi,.inr ⟨hw,rfl⟩,hS,h _ fun _ h=>h⟩
theorem sM {a:Act} {w:World} {i:Nat} {o:Oper} {r:Pz} (hi:ops[i]? =some o) (hw:Region.wanted o (yielded ops a.tmps)=true)
  (h:∀K:Act→World→Prop,(∀a' w',(mj ops i=true∨S w')→tx P ops Q S r a' w'→K a' w')→o.wp P a w K Q):tx P ops Q S (.one i r) a w:=by
 show wpOp P ops Q i _ a w;unfold wpOp;simp only[hi,hw,if_true];exact .inl (h _ fun a' w' hS b=>⟨hS,b⟩)
def iX (dl:List (Nat×Option Tmp)) (a:Act) (u:Nat→Value):Act:=dl.foldl (fun a p=>a.put p.2 (u p.1)) a
theorem jf (i:Nat) (d:Option Tmp) (r:List (Nat×Option Tmp)) (a:Act) (u:Nat→Value):iX ((i,d)::r) a u=iX r (a.put d (u i)) u:=rfl
theorem kE (a:Act) (u:Nat→Value):iX [] a u=a:=rfl
theorem nM {u:Nat→Value}:∀(D:List (Nat×List Nat)) (a:Act),i6 ops (D.map (·.1)) a u=iX (D.map fun p=>(p.1,jT ops p.1)) a u
 | [],a=>rfl
 |p::D,a=>by
  show i6 ops (D.map (·.1)) (a.put (jT ops p.1) (u p.1)) u=iX (D.map fun p=>(p.1,jT ops p.1)) (a.put (jT ops p.1) (u p.1)) u;exact nM D _
def yK (P:Program) (ops:Array Oper) (Q:Exit→Act→World→Prop) (dl:List (Nat×Option Tmp)) (a0:Act) (w0:World) (A:Nat→Prop) (N:Nat→(Nat→Value)→World→(Nat→Prop)→Prop) (PP:Nat→(Nat→Value)→Prop) (i:Nat) (I:List Nat):Prop:=
 ∃o,ops[i]? =some o∧o.guard.isNone=true∧∀(u:Nat→Value) (w:World) (F:Nat→Nat→Prop),Ch A w0 w→(∀j∈dl.map (·.1),jz ops i j=true→PP j u)→(∀j∈I,N j u w (F j))→(∀j∈I,∀k,F j k→(A k∨w0.heap.size≤k)∧k<w.heap.size)→(∀j∈I,∀j'∈I,∀k,j≠j'→F j k→F j' k→False)→
  ∀K:Act→World→Prop,(∀a' v w' (F':Nat→Prop),a' =(iX dl a0 u).put o.dst v→Ch (fun k=>∃j∈I,F j k) w w'→N i (jd u i v) w' F'→(∀k,F' k→((∃j∈I,F j k)∨w.heap.size≤k)∧k<w'.heap.size)→PP i (jd u i v)→K a' w')→o.wp P (iX dl a0 u) w K Q
def xD (P:Program) (ops:Array Oper) (Q:Exit→Act→World→Prop) (dl:List (Nat×Option Tmp)) (a0:Act) (w0:World) (A:Nat→Prop) (N:Nat→(Nat→Value)→World→(Nat→Prop)→Prop) (PP:Nat→(Nat→Value)→Prop):List (Nat×List Nat)→Prop
 | []=>True
 |p::r=>yK P ops Q dl a0 w0 A N PP p.1 p.2∧xD P ops Q dl a0 w0 A N PP r
section
variable {dl:List (Nat×Option Tmp)} {a0:Act} {w0:World} {A:Nat→Prop} {N:Nat→(Nat→Value)→World→(Nat→Prop)→Prop} {PP:Nat→(Nat→Value)→Prop} {i:Nat} {I:List Nat} {o:Oper} {r:List (Nat×List Nat)}
theorem g6 (h:yK P ops Q dl a0 w0 A N PP i I) (k:xD P ops Q dl a0 w0 A N PP r):xD P ops Q dl a0 w0 A N PP ((i,I)::r):=⟨h,k⟩
theorem nw:xD P ops Q dl a0 w0 A N PP []:=trivial
theorem j0 (ho:ops[i]? =some o) (hg:o.guard.isNone=true)
  (h:∀(u:Nat→Value) (w:World) (F:Nat→Nat→Prop),Ch A w0 w→(∀j∈dl.map (·.1),jz ops i j=true→PP j u)→(∀j∈I,N j u w (F j))→(∀j∈I,∀k,F j k→(A k∨w0.heap.size≤k)∧k<w.heap.size)→(∀j∈I,∀j'∈I,∀k,j≠j'→F j k→F j' k→False)→
   ∀K:Act→World→Prop,(∀a' v w' (F':Nat→Prop),a' =(iX dl a0 u).put o.dst v→Ch (fun k=>∃j∈I,F j k) w w'→N i (jd u i v) w' F'→(∀k,F' k→((∃j∈I,F j k)∨w.heap.size≤k)∧k<w'.heap.size)→PP i (jd u i v)→K a' w')→o.wp P (iX dl a0 u) w K Q):yK P ops Q dl a0 w0 A N PP i I:=⟨o,ho,hg,h⟩
theorem jI (ho:ops[i]? =some o) (hg:o.guard.isNone=true) (hN:∀u w,N i u w (fun _=>False))
  (h:∀(u:Nat→Value) (w:World),Ch A w0 w→(∀j∈dl.map (·.1),jz ops i j=true→PP j u)→∃v,(∀K:Act→World→Prop,K ((iX dl a0 u).put o.dst v) w→o.wp P (iX dl a0 u) w K Q)∧PP i (jd u i v)):yK P ops Q dl a0 w0 A N PP i []:=
 ⟨o,ho,hg,fun u w F hC hp _ _ _ K hK=>by
  obtain⟨v,h1,h2⟩:=h u w hC hp;exact h1 K (hK _ v w (fun _=>False) rfl (Ch.refl _ _) (hN _ w) (fun _ hf=>hf.elim) h2)⟩
def qQ (N:Nat→Value→World→(Nat→Prop)→Prop):Nat→(Nat→Value)→World→(Nat→Prop)→Prop:=fun j u w F=>N j (u j) w F
theorem kN {N:Nat→Value→World→(Nat→Prop)→Prop} (ho:ops[i]? =some o) (hg:o.guard.isNone=true)
  (h:∀(u:Nat→Value) (w:World) (F:Nat→Nat→Prop),Ch A w0 w→(∀j∈I,N j (u j) w (F j))→(∀j∈I,∀k,F j k→(A k∨w0.heap.size≤k)∧k<w.heap.size)→(∀j∈I,∀j'∈I,∀k,j≠j'→F j k→F j' k→False)→
   ∀K:Act→World→Prop,(∀a' v w' (F':Nat→Prop),a' =(iX dl a0 u).put o.dst v→Ch (fun k=>∃j∈I,F j k) w w'→N i v w' F'→(∀k,F' k→((∃j∈I,F j k)∨w.heap.size≤k)∧k<w'.heap.size)→K a' w')→o.wp P (iX dl a0 u) w K Q):yK P ops Q dl a0 w0 A (qQ N) (fun _ _=>True) i I:=
 ⟨o,ho,hg,fun u w F h1 _ h2 h3 h4 K hK=>h u w F h1 h2 h3 h4 K fun a' v w' F' e1 e2 e3 e4=>hK a' v w' F' e1 e2 (by unfold qQ;simpa [jd] using e3) e4 trivial⟩
end
theorem sH {D0:List (Nat×List Nat)} {dl:List (Nat×Option Tmp)} (hdl:D0.map (fun p=>(p.1,jT ops p.1))=dl) {a0:Act} {w0:World} {A:Nat→Prop} {N:Nat→(Nat→Value)→World→(Nat→Prop)→Prop} {PP:Nat→(Nat→Value)→Prop}:
  ∀(D:List (Nat×List Nat)),xD P ops Q dl a0 w0 A N PP D→yD P ops Q (D0.map (·.1)) a0 w0 A N PP D
 | [],_=>trivial
 |(i,I)::r,h=>by
  refine⟨fun u w F hC hp hN hF hd=>?_,sH hdl r h.2⟩;obtain⟨o,ho,hg,h1⟩:=h.1;have hdm:dl.map (·.1)=D0.map (·.1):=by rw[←hdl,List.map_map];rfl
  rw[nM (u:=u),hdl];unfold wpOp;have l:Region.wanted o (yielded ops (iX dl a0 u).tmps)=true:=by
   cases hgg:o.guard with
   |none=>simp[Region.wanted,hgg]
   |some g=>rw[hgg] at hg;cases hg
  simp only[ho,l,if_true];exact .inl (h1 u w F hC (fun j k=>hp j (hdm▸k)) hN hF hd _ fun m v n a b c d e f=>⟨v,a,by rw[b];simp[jT,ho],c,d,e,f⟩)
theorem CX {a:Act} {w:World} {D:List (Nat×List Nat)} {R:List Nat} {r:Pz} (dl:List (Nat×Option Tmp)) (hdl:D.map (fun p=>(p.1,jT ops p.1))=dl) (A:Nat→Prop) (N:Nat→(Nat→Value)→World→(Nat→Prop)→Prop) (PP:Nat→(Nat→Value)→Prop) (F0:Nat→Nat→Prop)
  (hPP:∀j i u v,PP j u→i≠j→jz ops j i=false→PP j (jd u i v)) (hNu:∀j i u v w F,N j u w F→i≠j→jz ops j i=false→N j (jd u i v) w F) (hSt:∀j v w w' F,N j v w F→(∀k,F k→w'.heap[k]? =w.heap[k]?)→N j v w' F) (hS:∀w',Ch A w w'→S w')
  (h0:∀j∈R,∀u:Nat→Value,u j=undef→N j u w (F0 j)) (h1:∀j∈R,∀k,F0 j k→A k∧k<w.heap.size) (h2:∀j∈R,∀j'∈R,∀k,j≠j'→F0 j k→F0 j' k→False) (hP:xD P ops Q dl a w A N PP D)
  (hend:∀K:Act→World→Prop,(∀a' w',tx P ops Q S r a' w'→K a' w')→∀u w' (F:Nat→Nat→Prop),Ch A w w'→(∀j j' k,kj D R j=true→kj D R j' =true→j≠j'→F j k→F j' k→False)→(∀j k,kj D R j=true→F j k→(A k∨w.heap.size≤k)∧k<w'.heap.size)→(∀j,kj D R j=true→N j u w' (F j))→(∀j∈D.map (·.1),PP j u)→K (iX dl a u) w'):
  tx P ops Q S (.par D R r) a w:=
 ⟨A,N,PP,F0,hPP,hNu,hSt,hS,h0,h1,h2,sH hdl D hP,fun u w' F e1 e2 e3 e4 e5=>by rw[nM (u:=u),hdl];exact hend _ (fun _ _ h=>h) u w' F e1 e2 e3 e4 e5⟩
theorem Eg {a:Act} {w:World} {D:List (Nat×List Nat)} {R:List Nat} {r:Pz} (dl:List (Nat×Option Tmp)) (hdl:D.map (fun p=>(p.1,jT ops p.1))=dl) (A:Nat→Prop) (N:Nat→Value→World→(Nat→Prop)→Prop) (F0:Nat→Nat→Prop)
  (hSt:∀j v w w' F,N j v w F→(∀k,F k→w'.heap[k]? =w.heap[k]?)→N j v w' F) (hS:∀w',Ch A w w'→S w')
  (h0:∀j∈R,N j undef w (F0 j)) (h1:∀j∈R,∀k,F0 j k→A k∧k<w.heap.size) (h2:∀j∈R,∀j'∈R,∀k,j≠j'→F0 j k→F0 j' k→False) (hP:xD P ops Q dl a w A (qQ N) (fun _ _=>True) D)
  (hend:∀K:Act→World→Prop,(∀a' w',tx P ops Q S r a' w'→K a' w')→∀u w' (F:Nat→Nat→Prop),Ch A w w'→(∀j j' k,kj D R j=true→kj D R j' =true→j≠j'→F j k→F j' k→False)→(∀j k,kj D R j=true→F j k→(A k∨w.heap.size≤k)∧k<w'.heap.size)→(∀j,kj D R j=true→N j (u j) w' (F j))→K (iX dl a u) w'):
  tx P ops Q S (.par D R r) a w:=
 CX dl hdl A (qQ N) (fun _ _=>True) F0 (fun _ _ _ _ _ _ _=>trivial) (fun j i u v w F h hij _=>by unfold qQ at h ⊢;simpa [jd,Ne.symm hij] using h) (fun j u w w' F h hm=>hSt j (u j) w w' F h hm) hS (fun j hj u hu=>by unfold qQ;rw[hu];exact h0 j hj) h1 h2 hP fun K hK u w' F e1 e2 e3 e4 _=>hend K hK u w' F e1 e2 e3 e4
end
end
theorem DS {P Q:Prop} (h:Q) (t:Bx Q→P:=by
 intro hq
 first
  |(refine vQ (v:=?_) (by rfl) HS (by rfl) ?_ ?_;rotate_left;(focus (intro wS hS;obtain⟨kc,kf⟩:=j9 hS;go_simp;(try (with_reducible rfl));done));intro K hK;go_simp;refine hK _ ?_;exact hq.u)
  |(refine vP (by rfl) HS (by rfl) ?_;intro K hK;go_simp;refine hK _ ?_;exact hq.u)):P:=t ⟨h⟩
theorem FH {P Q:Prop} (h:Q) (t:Bx Q→P:=by
 intro hq
 first
  |(refine vQ (v:=?_) (by rfl) HS (by rfl) ?_ ?_;rotate_left;(focus (intro wS hS;obtain⟨kc,kf⟩:=hS.cells;go_simp;(try (with_reducible rfl));done));intro K hK;go_simp;refine hK _ ?_;exact hq.u)
  |(refine vP (by rfl) HS (by rfl) ?_;intro K hK;go_simp;refine hK _ ?_;exact hq.u)):P:=t ⟨h⟩
theorem Gk {P Q:Prop} (h:Q) (t:Bx Q→P:=by
 intro hq
 first
  |(refine vQ (v:=?_) (by rfl) HS (by rfl) ?_ ?_;rotate_left;(focus (intro wS hS;obtain⟨kc,kf⟩:=(And.intro True.intro True.intro);go_simp;(try (with_reducible rfl));done));intro K hK;go_simp;refine hK _ ?_;exact hq.u)
  |(refine vP (by rfl) HS (by rfl) ?_;intro K hK;go_simp;refine hK _ ?_;exact hq.u)):P:=t ⟨h⟩
end Go.Proofs.YtlndjfflhegkdaaGreatDoor
