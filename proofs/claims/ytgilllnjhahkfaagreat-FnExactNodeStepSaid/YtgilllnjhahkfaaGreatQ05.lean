/- Parts of the proof: Par. -/
import Derived.Test.YtgilllnjhahkfaaGreatQ01
set_option linter.unusedVariables false
set_option linter.unusedSimpArgs false
set_option linter.unusedSectionVars false
set_option maxHeartbeats 4000000
namespace Go.Proofs.YtgilllnjhahkfaaGreat
open Go.RowKit
section
section
variable {P:Program} {ops:Array Oper} {Q:Exit→Act→World→Prop} {S:World→Prop}
def kE (ops:Array Oper) (i:Nat):Option Tmp:=(ops[i]?).bind (·.dst)
def jB (ops:Array Oper) (D:List Nat) (a:Act) (u:Nat→Value):Act:=D.foldl (fun a i=>a.put (kE ops i) (u i)) a
def iN (u:Nat→Value) (i:Nat) (v:Value):Nat→Value:=fun j=>if j=i then v else u j
def DJ (ops:Array Oper) (i j:Nat):Prop:=i≠j∧∀d,kE ops i=some d→kE ops j≠some d
theorem zP {D:List Nat} {a:Act} {u:Nat→Value} {x:Option Tmp} {v:Value} (h:∀j∈D,∀d,x=some d→kE ops j≠some d):(jB ops D a u).put x v=jB ops D (a.put x v) u:=by
 induction D generalizing a with
 |nil=>rfl
 |cons j D ih=>
  show(jB ops D (a.put (kE ops j) (u j)) u).put x v=jB ops D ((a.put x v).put (kE ops j) (u j)) u;rw[ih (fun k b=>h k (List.mem_cons_of_mem _ b)),Act.put_comm a (x:=x) (y:=kE ops j) v (u j) (h j (List.mem_cons_self ..))]
theorem Aq {D:List Nat} {a:Act} {u:Nat→Value} {i:Nat} {v:Value} (h:i ∉ D):jB ops D a (iN u i v)=jB ops D a u:=by
 induction D generalizing a with
 |nil=>rfl
 |cons j D ih=>
  show jB ops D (a.put (kE ops j) (iN u i v j)) (iN u i v)=jB ops D (a.put (kE ops j) (u j)) u;have b:j≠i:=fun e=>h (by rw[e];exact List.mem_cons_self ..);rw[ih (fun c=>h (List.mem_cons_of_mem _ c)),iN,if_neg b]
theorem EF (a:Act) (x:Option Tmp) (v u:Value):(a.put x v).put x u=a.put x u:=by
 cases x with
 |none=>rfl
 |some d=>simp[Act.put,Array.setIfInBounds_setIfInBounds]
theorem vQ {D:List Nat} {a:Act} {u:Nat→Value} {i:Nat} {v:Value} (hD:D.Pairwise (DJ ops)) (hi:i∈D):(jB ops D a u).put (kE ops i) v=jB ops D a (iN u i v):=by
 induction D generalizing a with
 |nil=>cases hi
 |cons j D ih=>
  obtain⟨b,c⟩:=List.pairwise_cons.1 hD;by_cases hij:i=j
  ·subst hij
   show(jB ops D (a.put (kE ops i) (u i)) u).put (kE ops i) v=jB ops D (a.put (kE ops i) (iN u i v i)) (iN u i v);rw[zP (fun k d=>(b k d).2),EF,Aq (fun e=>(b i e).1 rfl),iN,if_pos rfl]
  ·have hi':i∈D:=by rcases List.mem_cons.1 hi with h|h;exact absurd h hij;exact h
   show(jB ops D (a.put (kE ops j) (u j)) u).put (kE ops i) v=jB ops D (a.put (kE ops j) (iN u i v j)) (iN u i v);rw[ih c hi',iN,if_neg (Ne.symm hij)]
theorem uK {D:List Nat} {a:Act} {u u':Nat→Value} (h:∀i∈D,u i=u' i):jB ops D a u=jB ops D a u':=by
 induction D generalizing a with
 |nil=>rfl
 |cons j D ih=>
  show jB ops D (a.put (kE ops j) (u j)) u=jB ops D (a.put (kE ops j) (u' j)) u';rw[h j (List.mem_cons_self ..),ih (fun i b=>h i (List.mem_cons_of_mem _ b))]
def nF (ops:Array Oper) (a:Act) (i:Nat):Value:=match kE ops i with|some d=>a.tmps.getD d undef|none=>undef
theorem tL {D:List Nat} {a:Act}:jB ops D a (nF ops a)=a:=by
 induction D with
 |nil=>rfl
 |cons j D ih=>
  have h:a.put (kE ops j) (nF ops a j)=a:=by
   unfold nF;cases hd:kE ops j with
   |none=>rfl
   |some d=>
    simp only[Act.put];have:a.tmps.setIfInBounds d (a.tmps.getD d undef)=a.tmps:=by
     apply Array.ext_getElem?;intro k;rw[Array.getElem?_setIfInBounds];split
     ·rename_i hk
      subst hk;split
      ·rename_i hlt;simp[hlt]
      ·rename_i hge;simp[Nat.not_lt.1 hge]
     ·rfl
    rw[this]
  show jB ops D (a.put (kE ops j) (nF ops a j)) (nF ops a)=a;rw[h,ih]
def ka (ops:Array Oper) (j i:Nat):Bool:=match ops[j]? with|none=>false|some o=>o.after.any fun e=>Region.binds .any e&&e.on==i
theorem lA {j i:Nat} (h:ka ops j i=true):∃o,ops[j]? =some o∧∃e∈o.after,Region.binds .any e=true∧e.on=i:=by
 unfold ka at h;cases ho:ops[j]? with
 |none=>rw[ho] at h;cases h
 |some o=>
  rw[ho] at h;simp only[Array.any_eq_true] at h;obtain⟨k,a,h⟩:=h;simp only[Bool.and_eq_true,beq_iff_eq] at h;exact⟨o,rfl,o.after[k],Array.getElem_mem a,h.1,h.2⟩
theorem xm {listed:Array Bool} {j i:Nat} (h:ka ops j i=true) (hl:listed.getD i false=false):j ∉ Region.ready .any ops listed:=by
 intro g;obtain⟨o,f,e,d,c,rfl⟩:=lA h;obtain⟨_,k,b,a⟩:=mem_ready.1 g;obtain rfl:o=k:=Option.some.inj (f.symm.trans b);have:=a e d c;rw[hl] at this;cases this
def vr (ops:Array Oper) (l0:Array Bool):List Nat→List Nat→Bool
 |_,[]=>true
 |done,i::r=>(match ops[i]? with|none=>false|some o=>o.after.all fun e=>!Region.binds .any e||l0.getD e.on false||done.contains e.on)&&!(l0.getD i true)&&vr ops l0 (done++[i]) r
theorem lf {l0:Array Bool}:∀(D done:List Nat) (s i:Nat),vr ops l0 done D=true→D[s]? =some i→
  (∃o,ops[i]? =some o∧∀e∈o.after,Region.binds .any e=true→l0.getD e.on false=true∨e.on∈done++D.take s)∧l0.getD i true=false
 | [],_,_,_,_,hs=>by simp at hs
 |j::r,done,0,i,h,hs=>by
  have hji:j=i:=by simpa using hs
  subst hji;simp only[vr,Bool.and_eq_true] at h;obtain⟨⟨a,c⟩,_⟩:=h;refine⟨?_,by simpa using c⟩;cases ho:ops[j]? with
  |none=>rw[ho] at a;cases a
  |some o=>
   rw[ho] at a;refine⟨o,rfl,fun e f d=>?_⟩;have b:=(Array.all_eq_true_iff_forall_mem.1 a) e f;simp only[d,Bool.not_true,Bool.false_or,Bool.or_eq_true,List.contains_iff_mem] at b;simpa using b
 |j::r,done,s+1,i,h,hs=>by
  simp only[vr,Bool.and_eq_true] at h;have:=lf r (done++[j]) s i h.2 (by simpa using hs);simpa [List.append_assoc] using this
def Bs (ops:Array Oper):List Nat→Bool
 | []=>true
 |i::r=>r.all (fun j=>i !=j&&match kE ops i with|none=>true|some d=>kE ops j !=some d)&&Bs ops r
theorem rI:∀{D:List Nat},Bs ops D=true→D.Pairwise (DJ ops)
 | [],_=> .nil
 |i::r,h=>by
  simp only[Bs,Bool.and_eq_true] at h;refine List.pairwise_cons.2 ⟨fun j hj=>?_,rI h.2⟩;have:=List.all_eq_true.1 h.1 j hj;simp only[Bool.and_eq_true,bne_iff_ne] at this;refine⟨this.1,fun d hd=>?_⟩;have h2:=this.2;rw[hd] at h2;simpa using h2
def tM (ops:Array Oper) (j:Nat):List Nat:=match ops[j]? with|none=>[]|some o=>(o.after.toList.filter fun e=>Region.binds .any e).map (·.on)
theorem pu {j i:Nat} (h:i∈tM ops j):∃o,ops[j]? =some o∧∃e∈o.after,Region.binds .any e=true∧e.on=i:=by
 unfold tM at h;cases ho:ops[j]? with
 |none=>rw[ho] at h;cases h
 |some o=>
  rw[ho] at h;obtain⟨e,c,rfl⟩:=List.mem_map.1 h;obtain⟨a,b⟩:=List.mem_filter.1 c;exact⟨o,rfl,e,by simpa using a,b,rfl⟩
def Bf (ops:Array Oper):List Nat→List Nat→List Nat
 |S,[]=>S
 |S,i::r=>Bf ops (if S.contains i then tM ops i++S else S) r
theorem nu {listed:Array Bool} (hcl:ll ops listed):∀(D S:List Nat),(∀i∈S,listed.getD i false=true)→∀i∈Bf ops S D,listed.getD i false=true
 | [],S,h=>h
 |j::r,S,h=>by
  refine nu hcl r _ fun i hi=>?_;split at hi
  ·rename_i hc
   have hj:=h j (by simpa using hc);rcases List.mem_append.1 hi with hi|hi
   ·obtain⟨o,ho,e,he,hb,rfl⟩:=pu hi
    exact hcl.closed j o ho hj e he hb
   ·exact h i hi
  ·exact h i hi
def pL (ops:Array Oper) (l0:Array Bool) (D:List (Nat×List Nat)) (R:List Nat):Bool:=
 Bs ops (D.map (·.1))&&vr ops l0 [] (D.map (·.1))&&R.all (fun r=>decide (ops.size≤r))&&D.all (fun p=>p.2.all fun q=>R.contains q||(ka ops p.1 q&&(D.map (·.1)).contains q))&&
 D.all (fun p=>D.all fun q=>p.1==q.1||p.2.all fun x=>!q.2.contains x)&&
 (List.range ops.size).all fun j=>l0.getD j false||(D.map (·.1)).contains j||(List.range ops.size).any (fun q=>ka ops j q&&!(l0.getD q false)&&!(D.map (·.1)).contains q)||(D.map (·.1)).all (fun i=>(Bf ops (tM ops j) (D.map (·.1)).reverse).contains i)
def EU (P:Program) (ops:Array Oper) (Q:Exit→Act→World→Prop) (D:List Nat) (a0:Act) (w0:World) (A:Nat→Prop) (N:Nat→(Nat→Value)→World→(Nat→Prop)→Prop) (PP:Nat→(Nat→Value)→Prop) (i:Nat) (I:List Nat):Prop:=
 ∀(u:Nat→Value) (w:World) (F:Nat→Nat→Prop),Ch A w0 w→(∀j∈D,ka ops i j=true→PP j u)→(∀j∈I,N j u w (F j))→(∀j∈I,∀k,F j k→(A k∨w0.heap.size≤k)∧k<w.heap.size)→(∀j∈I,∀j'∈I,∀k,j≠j'→F j k→F j' k→False)→
   wpOp P ops Q i (fun a' w' =>∃v F',a' =(jB ops D a0 u).put (kE ops i) v∧Ch (fun k=>∃j∈I,F j k) w w'∧N i (iN u i v) w' F'∧(∀k,F' k→((∃j∈I,F j k)∨w.heap.size≤k)∧k<w'.heap.size)∧PP i (iN u i v)) (jB ops D a0 u) w
def zG (P:Program) (ops:Array Oper) (Q:Exit→Act→World→Prop) (D:List Nat) (a0:Act) (w0:World) (A:Nat→Prop) (N:Nat→(Nat→Value)→World→(Nat→Prop)→Prop) (PP:Nat→(Nat→Value)→Prop):List (Nat×List Nat)→Prop
 | []=>True
 |(i,I)::r=>EU P ops Q D a0 w0 A N PP i I∧zG P ops Q D a0 w0 A N PP r
theorem xE {D0:List Nat} {a0:Act} {w0:World} {A:Nat→Prop} {N:Nat→(Nat→Value)→World→(Nat→Prop)→Prop} {PP:Nat→(Nat→Value)→Prop}:∀(D:List (Nat×List Nat)) (p:Nat×List Nat),zG P ops Q D0 a0 w0 A N PP D→p∈D→EU P ops Q D0 a0 w0 A N PP p.1 p.2
 |(i,I)::r,p,h,hp=>by
  rcases List.mem_cons.1 hp with rfl|hp
  ·exact h.1
  ·exact xE r p h.2 hp
def xC (listed:Array Bool) (D:List Nat):Nat:=D.countP fun i=>!listed.getD i false
theorem uJ {listed:Array Bool} {i:Nat} (hl:listed.getD i false=false) (hlt:i<listed.size):∀{D:List Nat},D.Nodup→(xC (listed.setIfInBounds i true) D+if i∈D then 1 else 0)=xC listed D
 | [],_=>rfl
 |j::D,h=>by
  obtain⟨h1,h2⟩:=List.nodup_cons.1 h;have ih:=uJ hl hlt h2;unfold xC at ih ⊢;rw[List.countP_cons,List.countP_cons];by_cases hij:j=i
  ·subst hij
   rw[if_neg h1] at ih;have h3:(listed.setIfInBounds j true).getD j false=true:=by simp[hlt]
   rw[h3,hl,if_pos (List.mem_cons_self ..)];simp at ih ⊢;omega
  ·rw[getD_set_ne false (Ne.symm hij)]
   have:(i∈j::D)↔i∈D:=by simp[Ne.symm hij]
   by_cases hm:i∈D
   ·rw[if_pos hm] at ih;rw[if_pos (this.2 hm)];omega
   ·rw[if_neg hm] at ih;rw[if_neg (fun h=>hm (this.1 h))];omega
def lc (D:List (Nat×List Nat)) (R:List Nat) (listed:Array Bool) (j:Nat):Prop:=(j∈R∨(j∈D.map (·.1)∧listed.getD j false=true))∧∀p∈D,listed.getD p.1 false=true→j ∉ p.2
def setAll (D:List Nat) (l0:Array Bool):Array Bool:=D.foldl (fun l i=>l.setIfInBounds i true) l0
theorem tz:∀(D:List Nat) (l:Array Bool),(setAll D l).size=l.size:=by
 intro D
 induction D with
 |nil=>intro l;rfl
 |cons j D ih=>intro l;rw[setAll,List.foldl_cons];exact(ih _).trans sm
theorem pC:∀(D:List Nat) (l:Array Bool) (i:Nat),i<l.size→(setAll D l).getD i false=(decide (i∈D)||l.getD i false):=by
 intro D
 induction D with
 |nil=>intro l i a;simp[setAll]
 |cons j D ih=>
  intro l i a;have:=ih (l.setIfInBounds j true) i (by simpa using a);rw[setAll,List.foldl_cons];rw[setAll] at this;rw[this];by_cases hij:j=i
  ·subst hij;simp[a]
  ·rw[getD_set_ne false hij];simp[Ne.symm hij]
theorem Aj {D:List (Nat×List Nat)} {R:List Nat} {l0:Array Bool} {a0:Act} {w0:World} {A:Nat→Prop} {N:Nat→(Nat→Value)→World→(Nat→Prop)→Prop} (hs0:l0.size=ops.size) {PP:Nat→(Nat→Value)→Prop} (hk:pL ops l0 D R=true) (hPP:∀j i u v,PP j u→i≠j→ka ops j i=false→PP j (iN u i v))
  (hNu:∀j i u v w F,N j u w F→i≠j→ka ops j i=false→N j (iN u i v) w F) (hSt:∀j v w w' F,N j v w F→(∀k,F k→w'.heap[k]? =w.heap[k]?)→N j v w' F) (hS:∀w',Ch A w0 w'→S w')
  (hP:zG P ops Q (D.map (·.1)) a0 w0 A N PP D) (m:Nat)
  (hend:∀u w' (F:Nat→Nat→Prop) listed,listed=setAll (D.map (·.1)) l0→Ch A w0 w'→(∀j j' k,lc D R listed j→lc D R listed j'→j≠j'→F j k→F j' k→False)→(∀j k,lc D R listed j→F j k→(A k∨w0.heap.size≤k)∧k<w'.heap.size)→
   (∀j,lc D R listed j→N j u w' (F j))→(∀j∈D.map (·.1),PP j u)→ll ops listed→pd P ops Q S m listed (jB ops (D.map (·.1)) a0 u) w'):
  ∀(n:Nat) (listed:Array Bool) (w:World) (u:Nat→Value) (F:Nat→Nat→Prop),xC listed (D.map (·.1))=n→ll ops listed→(∀i,i ∉ D.map (·.1)→listed.getD i false=l0.getD i false)→Ch A w0 w→
   (∀j,lc D R listed j→N j u w (F j))→(∀j k,lc D R listed j→F j k→(A k∨w0.heap.size≤k)∧k<w.heap.size)→(∀j j' k,lc D R listed j→lc D R listed j'→j≠j'→F j k→F j' k→False)→(∀j∈D.map (·.1),listed.getD j false=true→PP j u)→
   pd P ops Q S (n+m) listed (jB ops (D.map (·.1)) a0 u) w:=by
 simp only[pL,Bool.and_eq_true] at hk;obtain⟨⟨⟨⟨⟨aK,aw⟩,aN⟩,aM⟩,aO⟩,aL⟩:=hk;have hD:=rI aK;have aR:(D.map (·.1)).Nodup:=hD.imp fun h=>h.1;have hR:∀r∈R,ops.size≤r:=fun r hr=>by simpa using List.all_eq_true.1 aN r hr
 have hI:∀p∈D,∀q∈p.2,q∈R∨(ka ops p.1 q=true∧q∈D.map (·.1)):=fun p U q hq=>by
  have:=List.all_eq_true.1 (List.all_eq_true.1 aM p U) q hq;simp only[Bool.or_eq_true,Bool.and_eq_true,List.contains_iff_mem] at this;exact this
 have hU:∀p∈D,∀q∈D,p.1≠q.1→∀x∈p.2,x ∉ q.2:=fun p U q hq y x hx=>by
  have:=List.all_eq_true.1 (List.all_eq_true.1 aO p U) q hq;simp only[Bool.or_eq_true,beq_iff_eq] at this;rcases this with h|h
  ·exact absurd h y
  ·have:=List.all_eq_true.1 h x hx
   simpa using this
 intro n
 induction n with
 |zero=>
  intro listed w u F hn d E hC hN hF B Y;have ae:∀i∈D.map (·.1),listed.getD i false=true:=fun i L=>by
   have:=List.countP_eq_zero.1 hn i L;simpa using this
  have hl:listed=setAll (D.map (·.1)) l0:=by
   apply Array.ext
   ·rw[tz,d.size,hs0]
   ·intro i a f
    have g:=pC (D.map (·.1)) l0 i (by rw[hs0,←d.size];exact a);have h4:listed.getD i false=(decide (i∈D.map (·.1))||l0.getD i false):=by
     by_cases M:i∈D.map (·.1)
     ·rw[ae i M];simp only[M,decide_true,Bool.true_or]
     ·rw[E i M];simp only[M,decide_false,Bool.false_or]
    rw[←h4] at g;simpa [Array.getD_eq_getD_getElem?,a,f] using g.symm
  rw[Nat.zero_add];exact hend u w F listed hl hC B hF hN (fun j c=>Y j c (ae j c)) d
 |succ n ih=>
  intro listed w u F hn d E hC hN hF B Y;rw[show n+1+m=(n+m)+1 from by omega];have X:∃i∈D.map (·.1),listed.getD i false=false:=by
   have h0:0<(D.map (·.1)).countP (fun i=>!listed.getD i false):=by have:=hn;unfold xC at this;omega
   obtain⟨i,L,hu⟩:=List.countP_pos_iff.1 h0;exact⟨i,L,by simpa using hu⟩
  refine⟨fun h0=>?_,fun i L=>?_⟩
  ·have a1:∀(s i:Nat),(D.map (·.1))[s]? =some i→listed.getD i false=false→False:=by
    intro s
    induction s using Nat.strongRecOn with
    |_ s ihs=>
     intro i hs z;obtain⟨⟨o,C,am⟩,_⟩:=lf (D.map (·.1)) [] s i aw hs;have hlt':i<listed.size:=by rw[d.size];exact(Array.getElem?_eq_some_iff.1 C).1
     by_cases hex:∃s' j,s'<s∧(D.map (·.1))[s']? =some j∧listed.getD j false=false
     ·obtain⟨s',j,aQ,c,ag⟩:=hex
      exact ihs s' aQ j c ag
     ·have l:i∈Region.ready .any ops listed:=by
       refine mem_ready.2 ⟨by simpa [Array.getD_eq_getD_getElem?,hlt'] using z,o,C,fun e I H=>?_⟩;rcases am e I H with h|h
       ·by_cases M:e.on∈D.map (·.1)
        ·obtain⟨p2,aT,aj⟩:=List.getElem_of_mem M
         obtain⟨_,h5⟩:=lf (D.map (·.1)) [] p2 e.on aw (by rw[←aj];exact mc aT);exfalso;have:e.on<l0.size:=by
          rcases Nat.lt_or_ge e.on l0.size with hh|hh
          ·exact hh
          ·simp[Array.getD_eq_getD_getElem?,Array.getElem?_eq_none hh] at h
         simp[Array.getD_eq_getD_getElem?,this] at h h5;rw[h] at h5;cases h5
        ·rw[E _ M];exact h
       ·simp only[List.nil_append] at h
        obtain⟨p,aS,av⟩:=List.getElem_of_mem h;have aV:p<s:=by simp at aS;omega
        rw[List.getElem_take] at av;have aj:(D.map (·.1))[p]? =some e.on:=by rw[←av];exact mc _
        cases hq:listed.getD e.on false with
        |true=>rfl
        |false=>exact absurd ⟨p,e.on,aV,aj,hq⟩ hex
      rw[h0] at l;cases l
   obtain⟨i,L,z⟩:=X;obtain⟨s,hs,rfl⟩:=List.getElem_of_mem L;exact(a1 s _ (mc hs) z).elim
  ·have z:listed.getD i false=false:=by
    have a:=(mem_ready.1 L).1;rw[Array.getD_eq_getD_getElem?] at a ⊢;cases hq:listed[i]? with
    |none=>simp[hq] at a
    |some b=>simp[hq] at a ⊢;exact a
   obtain⟨_,oi,W,J⟩:=mem_ready.1 L;have af:i<ops.size:=(Array.getElem?_eq_some_iff.1 W).1;have l:i∈D.map (·.1):=by
    refine Classical.byContradiction fun M=>?_;have a:=List.all_eq_true.1 aL i (List.mem_range.2 af);have aP:l0.getD i false=false:=by rw[←E i M];exact z
    have hm':(D.map (·.1)).contains i=false:=by simpa using M
    rw[aP,hm'] at a;simp only[Bool.false_or,Bool.or_eq_true] at a;rcases a with a|a
    ·obtain⟨q,_,hq⟩:=List.any_eq_true.1 a
     simp only[Bool.and_eq_true,Bool.not_eq_true'] at hq;exact xm hq.1.1 (by rw[E q (by simpa using hq.2)];exact hq.1.2) L
    ·obtain⟨j,c,ag⟩:=X
     have f:=List.all_eq_true.1 a j c;have g:=nu d (D.map (·.1)).reverse (tM ops i) (fun q hq=>by
      obtain⟨o,C,e,I,H,rfl⟩:=pu hq;obtain rfl:o=oi:=Option.some.inj (C.symm.trans W);exact J e I H) j (by simpa using f)
     rw[ag] at g;cases g
   obtain⟨p,U,aU⟩:=List.mem_map.1 l;subst aU;have an:∀j∈p.2,j∈R∨(j∈D.map (·.1)∧listed.getD j false=true):=fun j c=>by
    rcases hI p U j c with h|⟨T,h⟩
    ·exact .inl h
    ·refine .inr ⟨h,?_⟩
     obtain⟨o,C,e,I,H,rfl⟩:=lA T;obtain rfl:o=oi:=Option.some.inj (C.symm.trans W);exact J e I H
   have G:∀j∈p.2,lc D R listed j:=fun j c=>⟨an j c,fun q hq Z aJ=>by
    by_cases hpq:p.1=q.1
    ·rw[←hpq,z] at Z;cases Z
    ·exact hU p U q hq hpq j c aJ⟩
   have aY:∀j,ka ops p.1 j=true→listed.getD j false=true:=fun j T=>by
    obtain⟨o,C,e,I,H,rfl⟩:=lA T;obtain rfl:o=oi:=Option.some.inj (C.symm.trans W);exact J e I H
   have aC:=xE D p hP U u w F hC (fun j c T=>Y j c (aY j T)) (fun j c=>hN j (G j c)) (fun j c k=>hF j k (G j c)) (fun j c j' V k y=>B j j' k (G j c) (G j' V) y);refine wpOp_mono (fun a' w' h' =>?_) aC;obtain⟨v,F',rfl,ad,aG,au,aW⟩:=h';have ar:Ch A w0 w':=hC.then ad fun k hk=>by obtain⟨j,c,aI⟩:=hk;exact(hF j k (G j c) aI).1
   refine⟨.inr (hS w' ar),?_⟩;rw[vQ hD l];have hisz':p.1<listed.size:=by rw[d.size];exact af
   have t:∀j,lc D R (listed.setIfInBounds p.1 true) j→j≠p.1→lc D R listed j∧j ∉ p.2:=fun j c y=>by
    obtain⟨a,f⟩:=c;refine⟨⟨?_,fun q hq Z=>f q hq ?_⟩,f p U (by simp[hisz'])⟩
    ·rcases a with a|⟨a,g⟩
     ·exact .inl a
     ·rw[getD_set_ne false (Ne.symm y)] at g;exact .inr ⟨a,g⟩
    ·by_cases aa:p.1=q.1
     ·rw[←aa];simp[hisz']
     ·rw[getD_set_ne false aa];exact Z
   refine ih (listed.setIfInBounds p.1 true) w' (iN u p.1 v) (fun q=>if q=p.1 then F' else F q) ?_ (d.set L) ?_ ar ?_ ?_ ?_ ?_
   ·have:=uJ z hisz' aR
    rw[if_pos l] at this;omega
   ·intro j c
    have aH:p.1≠j:=fun e' =>c (e'▸l);rw[getD_set_ne false aH];exact E j c
   ·intro j c
    by_cases hjp:j=p.1
    ·subst hjp;simp only[if_true];exact aG
    ·obtain⟨a,f⟩:=t j c hjp
     simp only[if_neg hjp];have aX:ka ops j p.1=false:=by
      cases T:ka ops j p.1 with
      |false=>rfl
      |true=>
       exfalso;obtain⟨o,C,e,I,H,ai⟩:=lA T;rcases a.1 with g|g
       ·have:=hR j g
        have:=(Array.getElem?_eq_some_iff.1 C).1;omega
       ·have:=d.closed j o C g.2 e I H
        rw[ai,z] at this;cases this
     refine hSt j _ w w' (F j) (hNu j p.1 u v w (F j) (hN j a) (Ne.symm hjp) aX) fun k hk=>ad.block k (hF j k a hk).2 ?_;rintro⟨q,hq,ak⟩;exact B j q k a (G q hq) (fun e' =>f (e'▸hq)) hk ak
   ·intro j k c hk
    by_cases hjp:j=p.1
    ·subst hjp
     simp only[if_true] at hk;obtain⟨a,f⟩:=au k hk;refine⟨?_,f⟩;rcases a with ⟨q,hq,ak⟩|a
     ·exact(hF q k (G q hq) ak).1
     ·exact .inr (jb hC.size a)
    ·simp only[if_neg hjp] at hk
     obtain⟨a,_⟩:=t j c hjp;exact⟨(hF j k a hk).1,nk (hF j k a hk).2 ad.size⟩
   ·intro j j' k c V y hk O
    have aq:∀q,lc D R (listed.setIfInBounds p.1 true) q→q≠p.1→F' k→F q k→False:=fun q hq aa a f=>by
     obtain⟨g,h4⟩:=t q hq aa;rcases(au k a).1 with ⟨x,hx,aZ⟩|h5
     ·exact B x q k (G x hx) g (fun e' =>h4 (e'▸hx)) aZ f
     ·have:=(hF q k g f).2;omega
    by_cases hjp:j=p.1
    ·subst hjp
     simp only[if_true] at hk;simp only[if_neg (Ne.symm y)] at O;exact aq j' V (Ne.symm y) hk O
    ·simp only[if_neg hjp] at hk
     by_cases hjp':j' =p.1
     ·subst hjp'
      simp only[if_true] at O;exact aq j c hjp O hk
     ·simp only[if_neg hjp'] at O
      obtain⟨a,_⟩:=t j c hjp;obtain⟨f,_⟩:=t j' V hjp';exact B j j' k a f y hk O
   ·intro j c hl
    by_cases hjp:j=p.1
    ·subst hjp;exact aW
    ·rw[getD_set_ne false (Ne.symm hjp)] at hl
     refine hPP j p.1 u v (Y j c hl) (Ne.symm hjp) ?_;cases T:ka ops j p.1 with
     |false=>rfl
     |true=>
      exfalso;obtain⟨o,C,e,I,H,ai⟩:=lA T;have:=d.closed j o C hl e I H;rw[ai,z] at this;cases this
inductive Pz where
 |nil
 |take (i:Nat) (p:Pz)
 |one (i:Nat) (p:Pz)
 |par (D:List (Nat×List Nat)) (R:List Nat) (p:Pz)
def Pz.len:Pz→Nat
 | .nil=>0
 | .take _ p=>p.len+1
 | .one _ p=>p.len+1
 | .par D _ p=>D.length+p.len
def Pz.takes:List Nat→Pz→Pz
 | [],p=>p
 |i::r,p=> .take i (Pz.takes r p)
def kU (D:List (Nat×List Nat)) (R:List Nat) (j:Nat):Bool:=(R.contains j||(D.map (·.1)).contains j)&&D.all fun p=>!p.2.contains j
def wN (P:Program) (ops:Array Oper) (Q:Exit→Act→World→Prop) (S:World→Prop):Pz→Act→World→Prop
 | .nil,a,w=>Q .normal a w
 | .take i r,a,w=>∃o v,ops[i]? =some o∧YieldsIf P ops S o v a∧S w∧wN P ops Q S r (a.put o.dst v) w
 | .one i r,a,w=>wpOp P ops Q i (fun a' w' =>(mP ops i=true∨S w')∧wN P ops Q S r a' w') a w
 | .par D R r,a,w=>∃(A:Nat→Prop) (N:Nat→(Nat→Value)→World→(Nat→Prop)→Prop) (PP:Nat→(Nat→Value)→Prop) (F0:Nat→Nat→Prop),(∀j i u v,PP j u→i≠j→ka ops j i=false→PP j (iN u i v))∧(∀j i u v w F,N j u w F→i≠j→ka ops j i=false→N j (iN u i v) w F)∧(∀j v w w' F,N j v w F→(∀k,F k→w'.heap[k]? =w.heap[k]?)→N j v w' F)∧(∀w',Ch A w w'→S w')∧
   (∀j∈R,∀u:Nat→Value,u j=undef→N j u w (F0 j))∧(∀j∈R,∀k,F0 j k→A k∧k<w.heap.size)∧(∀j∈R,∀j'∈R,∀k,j≠j'→F0 j k→F0 j' k→False)∧zG P ops Q (D.map (·.1)) a w A N PP D∧
   ∀u w' (F:Nat→Nat→Prop),Ch A w w'→(∀j j' k,kU D R j=true→kU D R j' =true→j≠j'→F j k→F j' k→False)→(∀j k,kU D R j=true→F j k→(A k∨w.heap.size≤k)∧k<w'.heap.size)→(∀j,kU D R j=true→N j u w' (F j))→(∀j∈D.map (·.1),PP j u)→wN P ops Q S r (jB ops (D.map (·.1)) a u) w'
def EH (ops:Array Oper):Pz→Array Bool→Bool
 | .nil,l=>(Region.ready .any ops l).isEmpty
 | .take i r,l=>Region.free .any ops l i&&(Region.ready .any ops l).contains i&&EH ops r (l.setIfInBounds i true)
 | .one i r,l=>(Region.ready .any ops l==[i])&&EH ops r (l.setIfInBounds i true)
 | .par D R r,l=>pL ops l D R&&EH ops r (setAll (D.map (·.1)) l)
theorem zy {D:List Nat} {l0:Array Bool} (h:∀i∈D,l0.getD i false=false):xC l0 D=D.length:=by
 unfold xC;rw[List.countP_eq_length];intro i a;simp[h i a]
theorem og (hsel:Region.noSelect ops=true) (hQ:∀c a d v w,Q (.panic c) (Act.put a d v) w→Q (.panic c) a w):∀(plan:Pz) (listed:Array Bool) (a:Act) (w:World),
  ll ops listed→EH ops plan listed=true→wN P ops Q S plan a w→pd P ops Q S plan.len listed a w
 | .nil,listed,a,w,_,hp,h=>⟨by simpa [EH] using hp,h⟩
 | .take i r,listed,a,w,hcl,hp,h=>by
  simp only[EH,Bool.and_eq_true] at hp;obtain⟨o,v,hi,hy,hS,hr⟩:=h;have hmem:i∈Region.ready .any ops listed:=by simpa using hp.1.2
  exact rW hi (Region.noSelect_spec hsel) (fun c a w hq=>hQ c a _ _ w hq) r.len listed a w hcl (Region.free_spec hi hp.1.1) hmem hy hS
   (og hsel hQ r _ _ w (hcl.set hmem) hp.2 hr)
 | .one i r,listed,a,w,hcl,hp,h=>by
  simp only[EH,Bool.and_eq_true,beq_iff_eq] at hp;refine⟨fun C=>(by rw[hp.1] at C;cases C),fun j e=>?_⟩;have ac:j=i:=by rw[hp.1] at e;simpa using e
  subst ac;exact wpOp_mono (fun a' G U=>⟨U.1,og hsel hQ r _ a' G (hcl.set e) hp.2 U.2⟩) h
 | .par D R r,listed,a,w,hcl,hp,h=>by
  simp only[EH,Bool.and_eq_true] at hp;obtain⟨A,N,PP,F0,W,V,Y,hS,C,H,Z,hP,L⟩:=h;have m:=hp.1;have n:∀i∈D.map (·.1),listed.getD i false=false:=fun i hi=>by
   simp only[pL,Bool.and_eq_true] at m;obtain⟨s,x,rfl⟩:=List.getElem_of_mem hi;obtain⟨_,f⟩:=lf (D.map (·.1)) [] s _ m.1.1.1.1.2 (mc x);generalize (D.map (·.1))[s]=i at f;rw[Array.getD_eq_getD_getElem?] at f ⊢;cases hq:listed[i]? with
   |none=>rfl
   |some b=>simp[hq] at f ⊢;exact f
  have X:∀j∈R,j ∉ D.map (·.1):=fun j e ab=>by
   simp only[pL,Bool.and_eq_true] at m;have f:ops.size≤j:=by simpa using List.all_eq_true.1 m.1.1.1.2 j e
   obtain⟨s,x,rfl⟩:=List.getElem_of_mem ab;obtain⟨⟨o,O,_⟩,_⟩:=lf (D.map (·.1)) [] s _ m.1.1.1.1.2 (mc x);have:=(Array.getElem?_eq_some_iff.1 O).1;omega
  have g:∀j,lc D R listed j→j∈R:=fun j e=>by
   rcases e.1 with f|⟨f,q⟩
   ·exact f
   ·rw[n j f] at q;cases q
  have aa:∀i∈D.map (·.1),i<ops.size:=fun i hi=>by
   simp only[pL,Bool.and_eq_true] at m;obtain⟨s,x,rfl⟩:=List.getElem_of_mem hi;obtain⟨⟨o,O,_⟩,_⟩:=lf (D.map (·.1)) [] s _ m.1.1.1.1.2 (mc x);exact(Array.getElem?_eq_some_iff.1 O).1
  have y:∀i∈D.map (·.1),(setAll (D.map (·.1)) listed).getD i false=true:=fun i hi=>by
   rw[pC _ _ _ (by rw[hcl.size];exact aa i hi)];simp only[hi,decide_true,Bool.true_or]
  have hend':∀j,kU D R j=true↔lc D R (setAll (D.map (·.1)) listed) j:=fun j=>by
   simp only[kU,Bool.and_eq_true,Bool.or_eq_true,List.contains_iff_mem,List.all_eq_true,Bool.not_eq_true'];constructor
   ·rintro⟨f,q⟩
    refine⟨f.imp_right fun h=>⟨h,y j h⟩,fun p hp _ e=>?_⟩;have:=q p hp;rw[List.contains_eq_mem,decide_eq_false_iff_not] at this;exact this e
   ·rintro⟨f,q⟩
    refine⟨f.imp_right fun h=>h.1,fun p hp=>?_⟩;rw[List.contains_eq_mem,decide_eq_false_iff_not];exact q p hp (y p.1 (List.mem_map_of_mem hp))
  have B:=Aj (P:=P) (Q:=Q) (S:=S) (a0:=a) hcl.size m W V Y hS hP r.len (fun u G F l E hC J hF hN ad I=>by
    subst E;exact og hsel hQ r _ _ G I hp.2 (L u G F hC (fun j z k e t=>J j z k ((hend' j).1 e) ((hend' z).1 t)) (fun j k e=>hF j k ((hend' j).1 e)) (fun j e=>hN j ((hend' j).1 e)) ad))
   (D.map (·.1)).length listed w (fun i=>if i∈R then undef else nF ops a i) F0 (zy n) hcl (fun i _=>rfl) (Ch.refl _ _)
   (fun j e=>C j (g j e) _ (by simp only[if_pos (g j e)])) (fun j k e m=>⟨.inl (H j (g j e) k m).1,(H j (g j e) k m).2⟩) (fun j z k e t=>Z j (g j e) z (g z t) k) (fun j e E=>by rw[n j e] at E;cases E)
  have T:jB ops (D.map (·.1)) a (fun i=>if i∈R then undef else nF ops a i)=a:=by
   rw[uK (u':=nF ops a) (fun i hi=>if_neg (fun hr=>X i hr hi)),tL]
  rw[T] at B;show pd P ops Q S (D.length+r.len) listed a w;have M:(D.map (·.1)).length=D.length:=List.length_map ..;rw[M] at B;exact B
theorem pP {id:Nat} {a:Act} {w:World} {l:List Oper} (S:World→Prop) (plan:Pz) (hm:P.follows .mixedOrders=true)
  (hk:(Region.noSelect l.toArray&&plan.len==l.toArray.size&&EH l.toArray plan (Array.replicate l.toArray.size false))=true)
  (hQ:∀c a d v w,Q (.panic c) (Act.put a d v) w→Q (.panic c) a w) (h:wN P l.toArray Q S plan a w.drew):(Code.region id l.toArray true).wp P Q a w:=by
 simp only[Bool.and_eq_true,beq_iff_eq] at hk;have b:=rE _ _ _ _ (og hk.1.1 hQ plan _ a w.drew (ll.start _) hk.2 h);rw[hk.1.2] at b;exact wp_region_any hm b
theorem AR {a:Act} {w:World} {i:Nat} {o:Oper} {v:Value} {r:Pz} (hi:ops[i]? =some o) (hS:S w) (hw:Region.wanted o (yielded ops a.tmps)=true)
  (hy:∀w,S w→(execOp a.eval o).run P w= .ok (.value v) w) (h:∀K:Act→Prop,(∀a',wN P ops Q S r a' w→K a')→K (a.put o.dst v)):wN P ops Q S (.take i r) a w:=⟨o,v,hi,.inl ⟨hw,hy⟩,hS,h _ fun _ h=>h⟩
theorem zS {a:Act} {w:World} {i:Nat} {o:Oper} {r:Pz} (hi:ops[i]? =some o) (hS:S w) (hw:Region.wanted o (yielded ops a.tmps)=false)
  (h:∀K:Act→Prop,(∀a',wN P ops Q S r a' w→K a')→K (a.put o.dst undef)):wN P ops Q S (.take i r) a w:=⟨o,undef,hi,.inr ⟨hw,rfl⟩,hS,h _ fun _ h=>h⟩
theorem yN {a:Act} {w:World} {i:Nat} {o:Oper} {r:Pz} (hi:ops[i]? =some o) (hw:Region.wanted o (yielded ops a.tmps)=true)
  (h:∀K:Act→World→Prop,(∀a' w',(mP ops i=true∨S w')→wN P ops Q S r a' w'→K a' w')→o.wp P a w K Q):wN P ops Q S (.one i r) a w:=by
 show wpOp P ops Q i _ a w;unfold wpOp;simp only[hi,hw,if_true];exact .inl (h _ fun a' w' hS b=>⟨hS,b⟩)
def iv (dl:List (Nat×Option Tmp)) (a:Act) (u:Nat→Value):Act:=dl.foldl (fun a p=>a.put p.2 (u p.1)) a
theorem j8 (i:Nat) (d:Option Tmp) (r:List (Nat×Option Tmp)) (a:Act) (u:Nat→Value):iv ((i,d)::r) a u=iv r (a.put d (u i)) u:=rfl
theorem li (a:Act) (u:Nat→Value):iv [] a u=a:=rfl
theorem ow {u:Nat→Value}:∀(D:List (Nat×List Nat)) (a:Act),jB ops (D.map (·.1)) a u=iv (D.map fun p=>(p.1,kE ops p.1)) a u
 | [],a=>rfl
 |p::D,a=>by
  show jB ops (D.map (·.1)) (a.put (kE ops p.1) (u p.1)) u=iv (D.map fun p=>(p.1,kE ops p.1)) (a.put (kE ops p.1) (u p.1)) u;exact ow D _
def yH (P:Program) (ops:Array Oper) (Q:Exit→Act→World→Prop) (dl:List (Nat×Option Tmp)) (a0:Act) (w0:World) (A:Nat→Prop) (N:Nat→(Nat→Value)→World→(Nat→Prop)→Prop) (PP:Nat→(Nat→Value)→Prop) (i:Nat) (I:List Nat):Prop:=
 ∃o,ops[i]? =some o∧o.guard.isNone=true∧∀(u:Nat→Value) (w:World) (F:Nat→Nat→Prop),Ch A w0 w→(∀j∈dl.map (·.1),ka ops i j=true→PP j u)→(∀j∈I,N j u w (F j))→(∀j∈I,∀k,F j k→(A k∨w0.heap.size≤k)∧k<w.heap.size)→(∀j∈I,∀j'∈I,∀k,j≠j'→F j k→F j' k→False)→
  ∀K:Act→World→Prop,(∀a' v w' (F':Nat→Prop),a' =(iv dl a0 u).put o.dst v→Ch (fun k=>∃j∈I,F j k) w w'→N i (iN u i v) w' F'→(∀k,F' k→((∃j∈I,F j k)∨w.heap.size≤k)∧k<w'.heap.size)→PP i (iN u i v)→K a' w')→o.wp P (iv dl a0 u) w K Q
def zC (P:Program) (ops:Array Oper) (Q:Exit→Act→World→Prop) (dl:List (Nat×Option Tmp)) (a0:Act) (w0:World) (A:Nat→Prop) (N:Nat→(Nat→Value)→World→(Nat→Prop)→Prop) (PP:Nat→(Nat→Value)→Prop):List (Nat×List Nat)→Prop
 | []=>True
 |p::r=>yH P ops Q dl a0 w0 A N PP p.1 p.2∧zC P ops Q dl a0 w0 A N PP r
section
variable {dl:List (Nat×Option Tmp)} {a0:Act} {w0:World} {A:Nat→Prop} {N:Nat→(Nat→Value)→World→(Nat→Prop)→Prop} {PP:Nat→(Nat→Value)→Prop} {i:Nat} {I:List Nat} {o:Oper} {r:List (Nat×List Nat)}
theorem gZ (h:yH P ops Q dl a0 w0 A N PP i I) (k:zC P ops Q dl a0 w0 A N PP r):zC P ops Q dl a0 w0 A N PP ((i,I)::r):=⟨h,k⟩
theorem lS:zC P ops Q dl a0 w0 A N PP []:=trivial
theorem iu (ho:ops[i]? =some o) (hg:o.guard.isNone=true)
  (h:∀(u:Nat→Value) (w:World) (F:Nat→Nat→Prop),Ch A w0 w→(∀j∈dl.map (·.1),ka ops i j=true→PP j u)→(∀j∈I,N j u w (F j))→(∀j∈I,∀k,F j k→(A k∨w0.heap.size≤k)∧k<w.heap.size)→(∀j∈I,∀j'∈I,∀k,j≠j'→F j k→F j' k→False)→
   ∀K:Act→World→Prop,(∀a' v w' (F':Nat→Prop),a' =(iv dl a0 u).put o.dst v→Ch (fun k=>∃j∈I,F j k) w w'→N i (iN u i v) w' F'→(∀k,F' k→((∃j∈I,F j k)∨w.heap.size≤k)∧k<w'.heap.size)→PP i (iN u i v)→K a' w')→o.wp P (iv dl a0 u) w K Q):yH P ops Q dl a0 w0 A N PP i I:=⟨o,ho,hg,h⟩
theorem iD (ho:ops[i]? =some o) (hg:o.guard.isNone=true) (hN:∀u w,N i u w (fun _=>False))
  (h:∀(u:Nat→Value) (w:World),Ch A w0 w→(∀j∈dl.map (·.1),ka ops i j=true→PP j u)→∃v,(∀K:Act→World→Prop,K ((iv dl a0 u).put o.dst v) w→o.wp P (iv dl a0 u) w K Q)∧PP i (iN u i v)):yH P ops Q dl a0 w0 A N PP i []:=
 ⟨o,ho,hg,fun u w F hC hp _ _ _ K hK=>by
  obtain⟨v,h1,h2⟩:=h u w hC hp;exact h1 K (hK _ v w (fun _=>False) rfl (Ch.refl _ _) (hN _ w) (fun _ hf=>hf.elim) h2)⟩
def wX (N:Nat→Value→World→(Nat→Prop)→Prop):Nat→(Nat→Value)→World→(Nat→Prop)→Prop:=fun j u w F=>N j (u j) w F
theorem qz {N:Nat→Value→World→(Nat→Prop)→Prop} (ho:ops[i]? =some o) (hg:o.guard.isNone=true)
  (h:∀(u:Nat→Value) (w:World) (F:Nat→Nat→Prop),Ch A w0 w→(∀j∈I,N j (u j) w (F j))→(∀j∈I,∀k,F j k→(A k∨w0.heap.size≤k)∧k<w.heap.size)→(∀j∈I,∀j'∈I,∀k,j≠j'→F j k→F j' k→False)→
   ∀K:Act→World→Prop,(∀a' v w' (F':Nat→Prop),a' =(iv dl a0 u).put o.dst v→Ch (fun k=>∃j∈I,F j k) w w'→N i v w' F'→(∀k,F' k→((∃j∈I,F j k)∨w.heap.size≤k)∧k<w'.heap.size)→K a' w')→o.wp P (iv dl a0 u) w K Q):yH P ops Q dl a0 w0 A (wX N) (fun _ _=>True) i I:=
 ⟨o,ho,hg,fun u w F h1 _ h2 h3 h4 K hK=>h u w F h1 h2 h3 h4 K fun a' v w' F' e1 e2 e3 e4=>hK a' v w' F' e1 e2 (by unfold wX;simpa [iN] using e3) e4 trivial⟩
end
theorem tn {D0:List (Nat×List Nat)} {dl:List (Nat×Option Tmp)} (hdl:D0.map (fun p=>(p.1,kE ops p.1))=dl) {a0:Act} {w0:World} {A:Nat→Prop} {N:Nat→(Nat→Value)→World→(Nat→Prop)→Prop} {PP:Nat→(Nat→Value)→Prop}:
  ∀(D:List (Nat×List Nat)),zC P ops Q dl a0 w0 A N PP D→zG P ops Q (D0.map (·.1)) a0 w0 A N PP D
 | [],_=>trivial
 |(i,I)::r,h=>by
  refine⟨fun u w F hC hp hN hF hd=>?_,tn hdl r h.2⟩;obtain⟨o,ho,hg,h1⟩:=h.1;have hdm:dl.map (·.1)=D0.map (·.1):=by rw[←hdl,List.map_map];rfl
  rw[ow (u:=u),hdl];unfold wpOp;have l:Region.wanted o (yielded ops (iv dl a0 u).tmps)=true:=by
   cases hgg:o.guard with
   |none=>simp[Region.wanted,hgg]
   |some g=>rw[hgg] at hg;cases hg
  simp only[ho,l,if_true];exact .inl (h1 u w F hC (fun j k=>hp j (hdm▸k)) hN hF hd _ fun m v n a b c d e f=>⟨v,a,by rw[b];simp[kE,ho],c,d,e,f⟩)
theorem Fv {a:Act} {w:World} {D:List (Nat×List Nat)} {R:List Nat} {r:Pz} (dl:List (Nat×Option Tmp)) (hdl:D.map (fun p=>(p.1,kE ops p.1))=dl) (A:Nat→Prop) (N:Nat→(Nat→Value)→World→(Nat→Prop)→Prop) (PP:Nat→(Nat→Value)→Prop) (F0:Nat→Nat→Prop)
  (hPP:∀j i u v,PP j u→i≠j→ka ops j i=false→PP j (iN u i v)) (hNu:∀j i u v w F,N j u w F→i≠j→ka ops j i=false→N j (iN u i v) w F) (hSt:∀j v w w' F,N j v w F→(∀k,F k→w'.heap[k]? =w.heap[k]?)→N j v w' F) (hS:∀w',Ch A w w'→S w')
  (h0:∀j∈R,∀u:Nat→Value,u j=undef→N j u w (F0 j)) (h1:∀j∈R,∀k,F0 j k→A k∧k<w.heap.size) (h2:∀j∈R,∀j'∈R,∀k,j≠j'→F0 j k→F0 j' k→False) (hP:zC P ops Q dl a w A N PP D)
  (hend:∀K:Act→World→Prop,(∀a' w',wN P ops Q S r a' w'→K a' w')→∀u w' (F:Nat→Nat→Prop),Ch A w w'→(∀j j' k,kU D R j=true→kU D R j' =true→j≠j'→F j k→F j' k→False)→(∀j k,kU D R j=true→F j k→(A k∨w.heap.size≤k)∧k<w'.heap.size)→(∀j,kU D R j=true→N j u w' (F j))→(∀j∈D.map (·.1),PP j u)→K (iv dl a u) w'):
  wN P ops Q S (.par D R r) a w:=
 ⟨A,N,PP,F0,hPP,hNu,hSt,hS,h0,h1,h2,tn hdl D hP,fun u w' F e1 e2 e3 e4 e5=>by rw[ow (u:=u),hdl];exact hend _ (fun _ _ h=>h) u w' F e1 e2 e3 e4 e5⟩
theorem FP {a:Act} {w:World} {D:List (Nat×List Nat)} {R:List Nat} {r:Pz} (dl:List (Nat×Option Tmp)) (hdl:D.map (fun p=>(p.1,kE ops p.1))=dl) (A:Nat→Prop) (N:Nat→Value→World→(Nat→Prop)→Prop) (F0:Nat→Nat→Prop)
  (hSt:∀j v w w' F,N j v w F→(∀k,F k→w'.heap[k]? =w.heap[k]?)→N j v w' F) (hS:∀w',Ch A w w'→S w')
  (h0:∀j∈R,N j undef w (F0 j)) (h1:∀j∈R,∀k,F0 j k→A k∧k<w.heap.size) (h2:∀j∈R,∀j'∈R,∀k,j≠j'→F0 j k→F0 j' k→False) (hP:zC P ops Q dl a w A (wX N) (fun _ _=>True) D)
  (hend:∀K:Act→World→Prop,(∀a' w',wN P ops Q S r a' w'→K a' w')→∀u w' (F:Nat→Nat→Prop),Ch A w w'→(∀j j' k,kU D R j=true→kU D R j' =true→j≠j'→F j k→F j' k→False)→(∀j k,kU D R j=true→F j k→(A k∨w.heap.size≤k)∧k<w'.heap.size)→(∀j,kU D R j=true→N j (u j) w' (F j))→K (iv dl a u) w'):
  wN P ops Q S (.par D R r) a w:=
 Fv dl hdl A (wX N) (fun _ _=>True) F0 (fun _ _ _ _ _ _ _=>trivial) (fun j i u v w F h hij _=>by unfold wX at h ⊢;simpa [iN,Ne.symm hij] using h) (fun j u w w' F h hm=>hSt j (u j) w w' F h hm) hS (fun j hj u hu=>by unfold wX;rw[hu];exact h0 j hj) h1 h2 hP fun K hK u w' F e1 e2 e3 e4 _=>hend K hK u w' F e1 e2 e3 e4
end
end
theorem FO {P Q:Prop} (h:Q) (t:Bx Q→P:=by
 intro hq
 first
  |(refine AR (v:=?_) (by rfl) HS (by rfl) ?_ ?_;rotate_left;(focus (intro wS hS;obtain⟨kc,kf⟩:=kz hS;go_simp;(try (with_reducible rfl));done));intro K hK;go_simp;refine hK _ ?_;exact hq.u)
  |(refine zS (by rfl) HS (by rfl) ?_;intro K hK;go_simp;refine hK _ ?_;exact hq.u)):P:=t ⟨h⟩
theorem Gj {P Q:Prop} (h:Q) (t:Bx Q→P:=by
 intro hq
 first
  |(refine AR (v:=?_) (by rfl) HS (by rfl) ?_ ?_;rotate_left;(focus (intro wS hS;obtain⟨kc,kf⟩:=hS.cells;go_simp;(try (with_reducible rfl));done));intro K hK;go_simp;refine hK _ ?_;exact hq.u)
  |(refine zS (by rfl) HS (by rfl) ?_;intro K hK;go_simp;refine hK _ ?_;exact hq.u)):P:=t ⟨h⟩
theorem GX {P Q:Prop} (h:Q) (t:Bx Q→P:=by
 intro hq
 first
  |(refine AR (v:=?_) (by rfl) HS (by rfl) ?_ ?_;rotate_left;(focus (intro wS hS;obtain⟨kc,kf⟩:=(And.intro True.intro True.intro);go_simp;(try (with_reducible rfl));done));intro K hK;go_simp;refine hK _ ?_;exact hq.u)
  |(refine zS (by rfl) HS (by rfl) ?_;intro K hK;go_simp;refine hK _ ?_;exact hq.u)):P:=t ⟨h⟩
end Go.Proofs.YtgilllnjhahkfaaGreat
