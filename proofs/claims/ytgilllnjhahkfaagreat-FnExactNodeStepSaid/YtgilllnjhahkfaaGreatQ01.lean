/- Parts of the proof: Sort, Own, App. -/
import Derived.Maps.AppendAt
import Derived.Deep.AppendSrc
import Derived.Test.YtgilllnjhahkfaaGreatQ00
set_option linter.unusedVariables false
set_option linter.unusedSimpArgs false
set_option linter.unusedSectionVars false
set_option maxHeartbeats 4000000
namespace Go.Proofs.YtgilllnjhahkfaaGreat
open Go.RowKit
section
def ku:List Int→List Int→Bool
 |a::l,b::m=>if a=b then ku l m else decide (a<b)
 |_,_=>false
theorem pS:∀(l m:List Int),ku l m=true→ku m l=false
 | [],_,h=>by simp[ku] at h
 |_::_,[],h=>by simp[ku] at h
 |a::l,b::m,h=>by
  simp only[ku] at h ⊢;by_cases e:a=b
  ·subst e;rw[if_pos rfl] at h ⊢;exact pS l m h
  ·rw[if_neg e] at h;rw[if_neg (Ne.symm e)];simp at h ⊢;omega
theorem ql:∀(l m n:List Int),ku l m=true→ku m n=true→ku l n=true
 | [],_,_,h,_=>by simp[ku] at h
 |_::_,[],_,h,_=>by simp[ku] at h
 |_::_,_::_,[],_,h=>by simp[ku] at h
 |a::l,b::m,c::n,h1,h2=>by
  simp only[ku] at h1 h2 ⊢;by_cases e:a=b
  ·subst e
   rw[if_pos rfl] at h1;by_cases e2:a=c
   ·subst e2;rw[if_pos rfl] at h2 ⊢;exact ql l m n h1 h2
   ·rw[if_neg e2] at h2 ⊢;exact h2
  ·rw[if_neg e] at h1
   simp only[decide_eq_true_eq] at h1;by_cases e2:b=c
   ·subst e2;rw[if_neg e];simpa using h1
   ·rw[if_neg e2] at h2
    simp only[decide_eq_true_eq] at h2;rw[if_neg (by omega)];simp;omega
theorem qb:∀(l m:List Int),l.length=m.length→ku l m=false→ku m l=false→l=m
 | [],[],_,_,_=>rfl
 | [],_::_,h,_,_=>by simp at h
 |_::_,[],h,_,_=>by simp at h
 |a::l,b::m,h,h1,h2=>by
  simp only[ku] at h1 h2;by_cases e:a=b
  ·subst e;rw[if_pos rfl] at h1 h2;rw[qb l m (by simpa using h) h1 h2]
  ·rw[if_neg e] at h1;rw[if_neg (Ne.symm e)] at h2;simp at h1 h2;omega
def im.key (e:im):List Int:=[e.time,e.to,e.from_,e.count,e.n,e.kind,e.arg]
def iQ.key (o:iQ):List Int:=[o.time,o.proc,o.count,o.n,o.value]
def hY (a b:im):Bool:=ku a.key b.key
def hM (a b:iQ):Bool:=ku a.key b.key
theorem vT:i6 hY where
 asymm a b:=pS _ _
 trans a b c:=ql _ _ _
 total a b h1 h2:=by
  have:=qb a.key b.key rfl h1 h2;cases a;cases b;simpa [im.key] using this
theorem qS:i6 hM where
 asymm a b:=pS _ _
 trans a b c:=ql _ _ _
 total a b h1 h2:=by
  have:=qb a.key b.key rfl h1 h2;cases a;cases b;simpa [iQ.key] using this
section
variable {α:Type} [Inhabited α] (lt:α→α→Bool)
def ki (l:List α) (x:α):Nat→Nat
 |0=>0
 |k+1=>if lt x (kK l k)=true then ki l x k else k+1
def pK (l:List α) (x:α) (k:Nat):List α:=l.take k++x::l.drop k
def kN [DecidableEq α] (l:List α) (x:α):List α:=if 0<ki lt l x l.length∧kK l (ki lt l x l.length-1)=x then l else pK l x (ki lt l x l.length)
def nh [DecidableEq α] (l:List α):List α:=l.foldl (kN lt) []
def lW (l:List α) (x:α):List α:=pK l x (ki lt l x l.length)
def rV (l:List α):List α:=l.foldl (lW lt) []
variable {lt}
theorem qd (l:List α) (x:α):∀k,ki lt l x k≤k
 |0=>Nat.le_refl _
 |k+1=>by
  simp only[ki];split
  ·have:=qd l x k;omega
  ·exact Nat.le_refl _
theorem pQ (l:List α) (x:α):∀k j,ki lt l x k≤j→j<k→lt x (kK l j)=true
 |0,j,_,h=>by omega
 |k+1,j,h1,h2=>by
  simp only[ki] at h1;split at h1
  ·rename_i hl
   by_cases e:j=k
   ·subst e;exact hl
   ·exact pQ l x k j h1 (by omega)
  ·omega
theorem qh (l:List α) (x:α):∀k,0<ki lt l x k→lt x (kK l (ki lt l x k-1))=false
 |0,h=>by simp[ki] at h
 |k+1,h=>by
  simp only[ki] at h ⊢;split
  ·rename_i hl;rw[if_pos hl] at h;exact qh l x k h
  ·rename_i hl;simpa using hl
theorem uV (l:List α) (x:α) (k:Nat):(pK l x k).Perm (l++[x]):=by
 unfold pK;have a:(l.take k++x::l.drop k).Perm (x::(l.take k++l.drop k)):=List.perm_middle;rw[List.take_append_drop] at a;exact a.trans (List.perm_append_singleton x l).symm
theorem sS {l:List α} {k:Nat} {a:α} (h:a∈l.take k):∃i,i<k∧i<l.length∧a=kK l i:=by
 obtain⟨i,b,rfl⟩:=List.getElem_of_mem h;simp only[List.length_take] at b;exact⟨i,by omega,by omega,by rw[iP (by omega)];simp⟩
theorem sG {l:List α} {k:Nat} {a:α} (h:a∈l.drop k):∃i,k≤i∧i<l.length∧a=kK l i:=by
 obtain⟨i,b,rfl⟩:=List.getElem_of_mem h;simp only[List.length_drop] at b;exact⟨k+i,by omega,by omega,by rw[iP (by omega)];simp⟩
theorem wv (O:i6 lt) {l:List α} (h:l.Pairwise (fun a b=>lt b a=false)) (x:α):(lW lt l x).Pairwise (fun a b=>lt b a=false):=by
 unfold lW pK;have m:=List.pairwise_iff_getElem.1 h;have g:∀a∈l.take (ki lt l x l.length),lt x a=false:=by
  intro a ha;obtain⟨i,k,d,rfl⟩:=sS ha;have c:=qh (lt:=lt) l x l.length (by omega);have n:=qd (lt:=lt) l x l.length;by_cases e:i=ki lt l x l.length-1
  ·rw[e];exact c
  ·have j:=m i (ki lt l x l.length-1) d (by omega) (by omega)
   rw[←iP,←iP] at j;exact O.le_trans j c
 have f:∀a∈l.drop (ki lt l x l.length),lt a x=false:=by
  intro a ha;obtain⟨i,k,d,rfl⟩:=sG ha;exact O.asymm _ _ (pQ l x l.length i k d)
 refine List.pairwise_append.2 ⟨h.sublist (List.take_sublist _ _),List.pairwise_cons.2 ⟨f,h.sublist (List.drop_sublist _ _)⟩,fun a ha b c=>?_⟩;rcases List.mem_cons.1 c with rfl|c
 ·exact g a ha
 ·exact O.le_trans (g a ha) (f b c)
theorem uU (O:i6 lt) (l:List α):(rV lt l).Pairwise (fun a b=>lt b a=false)∧(rV lt l).Perm l:=by
 unfold rV;have f:∀(l m:List α),m.Pairwise (fun a b=>lt b a=false)→(l.foldl (lW lt) m).Pairwise (fun a b=>lt b a=false)∧(l.foldl (lW lt) m).Perm (m++l):=by
  intro l
  induction l with
  |nil=>intro m e;exact⟨e,by simp⟩
  |cons x l ih=>
   intro m e;obtain⟨c,d⟩:=ih (lW lt m x) (wv O e x);refine⟨c,d.trans ?_⟩;have:=(uV m x (ki lt m x m.length)).append_right l;unfold lW;simpa using this
 obtain⟨c,d⟩:=f l [] List.Pairwise.nil;exact⟨c,by simpa using d⟩
theorem wx (O:i6 lt) (l:List α):kA lt l.length (jC lt l)=rV lt l:=by
 obtain⟨c,b⟩:=tc O l;obtain⟨d,e⟩:=uU O l;have a:(jC lt l).length≤l.length:=by rw[b.length_eq];exact Nat.le_refl _
 exact wK O (oz O _ _ a c) d (((mY _ _ a).trans b).trans e.symm)
variable [DecidableEq α]
def jW (l:List α):List α:=l.foldl (fun m x=>if x∈m then m else m++[x]) []
theorem qT (l:List α) (x:α):jW (l++[x])=if x∈l then jW l else jW l++[x]:=by
 have c:∀y,y∈jW l↔y∈l:=by
  intro y;have d:∀(l m:List α),y∈l.foldl (fun m x=>if x∈m then m else m++[x]) m↔y∈m∨y∈l:=by
   intro l
   induction l with
   |nil=>intro m;simp
   |cons a l ih=>
    intro m;simp only[List.foldl_cons];rw[ih];by_cases h:a∈m
    ·rw[if_pos h];simp only[List.mem_cons]
     constructor
     ·rintro(b|b)
      ·exact Or.inl b
      ·exact Or.inr (Or.inr b)
     ·rintro(b|rfl|b)
      ·exact Or.inl b
      ·exact Or.inl h
      ·exact Or.inr b
    ·rw[if_neg h];simp[or_assoc]
  have:=d l [];unfold jW;simpa using this
 unfold jW at c ⊢;rw[List.foldl_append];simp only[List.foldl_cons,List.foldl_nil];by_cases h:x∈l
 ·rw[if_pos ((c x).2 h),if_pos h]
 ·rw[if_neg (fun e=>h ((c x).1 e)),if_neg h]
theorem vu (l:List α) (y:α):y∈jW l↔y∈l:=by
 have c:∀n,∀l:List α,l.length=n→(y∈jW l↔y∈l):=by
  intro n
  induction n with
  |zero=>intro l h;obtain rfl:=List.length_eq_zero_iff.1 h;simp[jW]
  |succ n ih=>
   intro l h;have b:l≠[]:=fun e=>by rw[e] at h;simp at h
   rw[←List.dropLast_concat_getLast b,qT];have a:=ih l.dropLast (by simp[h]);split
   ·rename_i hx
    rw[a];simp only[List.mem_append,List.mem_singleton];constructor
    ·exact Or.inl
    ·rintro(d|rfl)
     ·exact d
     ·exact hx
   ·simp only[List.mem_append,a]
 exact c _ l rfl
theorem AV (l:List α):(jW l).Nodup:=by
 have g:∀n,∀l:List α,l.length=n→(jW l).Nodup:=by
  intro n
  induction n with
  |zero=>intro l h;obtain rfl:=List.length_eq_zero_iff.1 h;simp[jW]
  |succ n ih=>
   intro l h;have f:l≠[]:=fun e=>by rw[e] at h;simp at h
   rw[←List.dropLast_concat_getLast f,qT];have c:=ih l.dropLast (by simp[h]);split
   ·exact c
   ·rename_i hx
    refine List.nodup_append.2 ⟨c,by simp,fun a ha b d=>?_⟩;simp only[List.mem_singleton] at d;subst d;intro e;subst e;exact hx ((vu _ _).1 ha)
 exact g _ l rfl
theorem AL (O:i6 lt) {l:List α} (h:l.Pairwise (fun a b=>lt a b=true)) (x:α):(kN lt l x).Pairwise (fun a b=>lt a b=true)∧∀y,y∈kN lt l x↔y∈l∨y=x:=by
 have o:=List.pairwise_iff_getElem.1 h;have p:=qd (lt:=lt) l x l.length;unfold kN;split
 ·rename_i hx
  refine⟨h,fun y=>⟨Or.inl,?_⟩⟩;rintro(n|rfl)
  ·exact n
  ·rw[←hx.2,iP (by omega)];exact List.getElem_mem _
 ·rename_i hx
  refine⟨?_,fun y=>?_⟩
  ·unfold pK
   have j:∀a∈l.take (ki lt l x l.length),lt a x=true:=by
    intro a ha;obtain⟨i,m,f,rfl⟩:=sS ha;have d:=qh (lt:=lt) l x l.length (by omega);have c:lt (kK l (ki lt l x l.length-1)) x=true:=by
     cases hc:lt (kK l (ki lt l x l.length-1)) x with
     |true=>rfl
     |false=>exact absurd ⟨by omega,O.total _ _ hc d⟩ hx
    by_cases e:i=ki lt l x l.length-1
    ·rw[e];exact c
    ·have k:=o i (ki lt l x l.length-1) f (by omega) (by omega)
     rw[←iP,←iP] at k;exact O.trans _ _ _ k c
   have g:∀a∈l.drop (ki lt l x l.length),lt x a=true:=by
    intro a ha;obtain⟨i,m,f,rfl⟩:=sG ha;exact pQ l x l.length i m f
   refine List.pairwise_append.2 ⟨h.sublist (List.take_sublist _ _),List.pairwise_cons.2 ⟨g,h.sublist (List.drop_sublist _ _)⟩,fun a ha b d=>?_⟩;rcases List.mem_cons.1 d with rfl|d
   ·exact j a ha
   ·exact O.trans _ _ _ (j a ha) (g b d)
  ·rw[(uV l x _).mem_iff];simp
theorem t8 (O:i6 lt) (l:List α):(nh lt l).Pairwise (fun a b=>lt a b=true)∧∀y,y∈nh lt l↔y∈l:=by
 unfold nh;have f:∀(l m:List α),m.Pairwise (fun a b=>lt a b=true)→(l.foldl (kN lt) m).Pairwise (fun a b=>lt a b=true)∧∀y,y∈l.foldl (kN lt) m↔y∈m∨y∈l:=by
  intro l
  induction l with
  |nil=>intro m e;exact⟨e,fun y=>by simp⟩
  |cons x l ih=>
   intro m e;obtain⟨g,i⟩:=AL O e x;obtain⟨c,d⟩:=ih (kN lt m x) g;refine⟨c,fun y=>?_⟩;rw[List.foldl_cons,d,i];simp[or_assoc]
 obtain⟨c,d⟩:=f l [] List.Pairwise.nil;exact⟨c,fun y=>by simpa using d y⟩
theorem uG (O:i6 lt) (l:List α):kA lt (jW l).length (jC lt (jW l))=nh lt l:=by
 obtain⟨j,f⟩:=tc O (jW l);obtain⟨i,m⟩:=t8 O l;have c:(jC lt (jW l)).length≤(jW l).length:=by rw[f.length_eq];exact Nat.le_refl _
 have k:(nh lt l).Pairwise (fun a b=>lt b a=false):=i.imp (fun h=>O.asymm _ _ h);have g:(nh lt l).Nodup:=i.imp (fun h e=>by subst e;rw[O.irrefl] at h;cases h);have d:(jW l).Perm (nh lt l):=(List.perm_ext_iff_of_nodup (AV l) g).2 (fun y=>by rw[vu,m]);exact wK O (oz O _ _ c j) k (((mY _ _ c).trans f).trans d)
end
def jS (l:List im):List im:=nh hY l
def jX (l:List iQ):List iQ:=rV hM l
end
section
structure Ch (S:Nat→Prop) (w w':World):Prop where
 os:w'.os=w.os
 tape:w'.tape=w.tape
 output:w'.output=w.output
 size:w.heap.size≤w'.heap.size
 block:∀k,k<w.heap.size→¬S k→w'.heap[k]? =w.heap[k]?
section
variable {S S':Nat→Prop} {w w1 w2:World} {B:Nat}
theorem Ch.refl (S:Nat→Prop) (w:World):Ch S w w:=⟨rfl,rfl,rfl,j9 _,fun _ _ _=>rfl⟩
theorem Ch.trans (h:Ch S w w1) (k:Ch S w1 w2):Ch S w w2:=
 ⟨k.os.trans h.os,k.tape.trans h.tape,k.output.trans h.output,jb h.size k.size,fun i hi hn=>(k.block i (nk hi h.size) hn).trans (h.block i hi hn)⟩
theorem Ch.mono (hS:∀k,S k→S' k) (h:Ch S w w1):Ch S' w w1:=⟨h.os,h.tape,h.output,h.size,fun i hi hn=>h.block i hi (fun hs=>hn (hS i hs))⟩
theorem Ch.then (h:Ch S w w1) (k:Ch S' w1 w2) (hS:∀i,S' i→S i∨w.heap.size≤i):Ch S w w2:=
 ⟨k.os.trans h.os,k.tape.trans h.tape,k.output.trans h.output,jb h.size k.size,fun i hi hn=>
  (k.block i (nk hi h.size) (fun hs=>(hS i hs).elim hn (fun hw=>absurd hi (Nat.not_lt.2 hw)))).trans (h.block i hi hn)⟩
theorem Ch.of_below (h:Below w.heap.size w w1):Ch S w w1:=⟨h.os,h.tape,h.output,h.size,fun i hi _=>h.block i hi⟩
theorem Ch.below (h:Ch S w w1) (hS:∀k,S k→B≤k) (hB:B≤w.heap.size):Below B w w1:=⟨h.os,h.tape,h.output,h.size,fun i hi=>h.block i gO (fun hs=>by have:=hS i hs;omega)⟩
theorem Ch.below0 (h:Ch (fun _=>False) w w1):Below w.heap.size w w1:=h.below (fun _ hf=>hf.elim) (j9 _)
theorem Ch.alloc (h:Ch S w w1) (o:Obj):Ch S w (w1.alloc o):=h.trans (Ch.of_below (gU (gY _ _) o))
theorem Ch.drew (h:Ch S w w1):Ch S w w1.drew:=⟨h.os,h.tape,h.output,h.size,h.block⟩
theorem Ch.drewN (h:Ch S w w1) (n:Nat):Ch S w (w1.drewN n):=⟨h.os,h.tape,h.output,h.size,h.block⟩
theorem Ch.setCell (h:Ch S w w1) {p:Addr} (hp:S p.block∨w.heap.size≤p.block) (u:Value):Ch S w (w1.setCell p u):=
 ⟨h.os,h.tape,h.output,by have:=h.size;simpa [World.setCell] using this,fun i hi hn=>by
  rw[Below.heap_setCell _ _ _ _ (fun e=>by subst e;rcases hp with hp|hp;exact hn hp;omega)];exact h.block i hi hn⟩
theorem Ch.grown (h:Ch S w w1) {row:Option Nat} (hg:w1.grownBy w2 row) (hr:∀k,row=some k→S k∨w.heap.size≤k):Ch S w w2:=
 h.then (S':=fun k=>row=some k) ⟨hg.os,hg.tape,hg.output,hg.size,fun i hi hn=>hg.block i hi (fun e=>hn e.symm)⟩ hr
theorem Ch.cell (h:Ch S w w1) {p:Addr} (hp:p.block<w.heap.size) (hn:¬S p.block):w1.cell? p=w.cell? p:=World.cell?_of_block (w:=w) (h.block _ hp hn)
theorem Ch.frozen (h:Ch S w w1) {p:Addr} (hp:p.block<w.heap.size) (hn:¬S p.block):w1.frozen? p=w.frozen? p:=World.frozen?_of_block (w:=w) (h.block _ hp hn)
theorem Ch.cells (h:Ch S w w1):(∀b o,b<w.heap.size→¬S b→w1.cell? ⟨b,o,none⟩=w.cell? ⟨b,o,none⟩)∧(∀b o,b<w.heap.size→¬S b→w1.frozen? ⟨b,o,none⟩=w.frozen? ⟨b,o,none⟩):=
 ⟨fun b o hb hn=>h.cell (p:=⟨b,o,none⟩) hb hn,fun b o hb hn=>h.frozen (p:=⟨b,o,none⟩) hb hn⟩
theorem Ch.heap (h:Ch S w w1) {k:Nat} {o:Obj} (ho:w.heap[k]? =some o) (hn:¬S k):w1.heap[k]? =some o:=(h.block k (Array.getElem?_eq_some_iff.1 ho).1 hn).trans ho
end
section
variable {α:Type} {d:Ty α} {e:TypeId} {w w':World} {F F':Nat→Prop} {v:Value} {xs:List α}
theorem Rd.ch {S:Nat→Prop} (h:Rd d w F v xs) (hc:Ch S w w') (hS:∀k,F k→¬S k):Rd d w' F v xs:=h.keep fun k hk hlt=>hc.block k hlt (hS k hk)
def Ow (d:Ty α) (e:TypeId) (w:World) (F:Nat→Prop) (v:Value) (xs:List α):Prop:=
 ∃(cs:List Value) (Fs:Nat→Nat→Prop),w.ownsRow 0 e d.sz v xs.length cs∧(∀g,v.ownBlock=some g→F g)∧
  (∀j k,Fs j k→F k∧some k≠v.ownBlock)∧(∀i j k,i≠j→Fs i k→Fs j k→False)∧
  ∀j x,xs[j]? =some x→d.rel w (Fs j) x ((cs.drop (j*d.sz)).take d.sz)
theorem Ow.nil (d:Ty α) (e:TypeId) (w:World) (F:Nat→Prop):Ow d e w F (.slice none 0 0) []:=
 ⟨[],fun _ _=>False,World.ownsRow_nil _ _ _ _,fun g hg=>by simp[Value.ownBlock] at hg,fun _ _ h=>h.elim,fun _ _ _ _ h=>h.elim,fun j x hj=>by simp at hj⟩
theorem Ow.mono (hF:∀k,F k→F' k) (h:Ow d e w F v xs):Ow d e w F' v xs:=by
 obtain⟨f,c,i,l,a,m,n⟩:=h;exact⟨f,c,i,fun g o=>hF g (l g o),fun j k b=>⟨hF k (a j k b).1,(a j k b).2⟩,m,n⟩
theorem xL {base size n:Nat} {cs:List Value} (h:w.ownsRow base e size v n cs) (hm:∀k,v.ownBlock=some k→w'.heap[k]? =w.heap[k]?):w'.ownsRow base e size v n cs:=by
 obtain⟨d,a⟩:=h;refine⟨d,?_⟩;rcases a with a|⟨g,b,c,rfl,f,i,r⟩
 ·exact .inl a
 ·exact .inr ⟨g,b,c,rfl,f,(hm g (by simp[Value.ownBlock])).trans i,r⟩
theorem Ow.move (hm:∀k,F k→w'.heap[k]? =w.heap[k]?) (h:Ow d e w F v xs):Ow d e w' F v xs:=by
 obtain⟨g,f,i,b,c,l,m⟩:=h;exact⟨g,f,xL i (fun k a=>hm k (b k a)),b,c,l,fun j x n=>d.move (fun k a=>hm k (c j k a).1) (m j x n)⟩
theorem Ow.bound (h:Ow d e w F v xs):Ow d e w (fun k=>F k∧k<w.heap.size) v xs:=by
 obtain⟨m,l,b,n,c,o,p⟩:=h;exact⟨m,fun j k=>l j k∧k<w.heap.size,b,fun g f=>⟨n g f,(b.lt g f).2⟩,fun j k a=>⟨⟨(c j k a.1).1,a.2⟩,(c j k a.1).2⟩,fun i j k s ha q=>o i j k s ha.1 q.1,fun j x r=>d.bound (p j x r)⟩
theorem Ow.keep (h:Ow d e w F v xs) (hm:∀k,F k→k<w.heap.size→w'.heap[k]? =w.heap[k]?):Ow d e w' F v xs:=
 ((h.bound).move (fun k hk=>hm k hk.1 hk.2)).mono (fun _ hk=>hk.1)
theorem Ow.below (h:Ow d e w F v xs) (hb:Below w.heap.size w w'):Ow d e w' F v xs:=h.keep fun k _ hk=>hb.block k hk
theorem Ow.ch {S:Nat→Prop} (h:Ow d e w F v xs) (hc:Ch S w w') (hS:∀k,F k→¬S k):Ow d e w' F v xs:=h.keep fun k hk hlt=>hc.block k hlt (hS k hk)
theorem Ow.alloc (h:Ow d e w F v xs) (o:Obj):Ow d e (w.alloc o) F v xs:=h.below (gU (gY _ _) o)
theorem Ow.drewN (h:Ow d e w F v xs) (n:Nat):Ow d e (w.drewN n) F v xs:=Ow.move (w:=w) (w':=w.drewN n) (fun _ _=>rfl) h
theorem Ow.block_lt (h:Ow d e w F v xs) {g:Nat} (hg:v.ownBlock=some g):g<w.heap.size:=by
 obtain⟨c,b,a,_⟩:=h;exact(a.lt g hg).2
theorem Ow.inF (h:Ow d e w F v xs) {g:Nat} (hg:v.ownBlock=some g):F g:=by
 obtain⟨c,b,f,a,_⟩:=h;exact a g hg
theorem Ow.shape (h:Ow d e w F v xs):∃A c,v= .slice A xs.length c∧xs.length≤9223372036854775807:=by
 obtain⟨l,k,f,_⟩:=h;rcases f.2 with ⟨rfl,b⟩|⟨g,a,j,rfl,_,_,m,i,_⟩
 ·exact⟨none,0,by rw[b],gO⟩
 ·refine⟨_,a,rfl,?_⟩
  simp only[maxLen] at i;omega
theorem Ow.head (h:Ow d e w F v xs) (hp:0<xs.length):∃g c cur,v= .slice (some ⟨g,0,none⟩) xs.length c∧F g∧g<w.heap.size∧w.heap[g]? =some (.cells cur e (0,0)):=by
 obtain⟨k,j,b,f,_⟩:=h;rcases b.2 with ⟨rfl,l⟩|⟨g,a,cur,rfl,_,i,_⟩
 ·omega
 ·exact⟨g,a,cur,rfl,f g rfl,(b.lt g rfl).2,i⟩
theorem Ow.rd (h:Ow d e w F v xs):Rd d w F v xs:=by
 obtain⟨C,B,b,o,p,D,q⟩:=h;have t:=b.1;rcases hx:b.2 with ⟨c,n⟩|⟨g,f,y,c,_,E,l,m,z,A⟩
 ·subst c
  have:xs=[]:=List.length_eq_zero_iff.1 n;subst this;exact Rd.nil _ _ _
 ·subst c
  refine⟨_,f,rfl,l,by simp only[maxLen] at m;omega,fun G=>⟨g,0,rfl,o g rfl,(b.lt g rfl).2,fun j x r=>⟨_,d.mono (fun k s=>(p j k s).1) (q j x r),fun i u a=>?_⟩⟩⟩;rw[List.getElem?_take] at a;split at a
  ·rw[List.getElem?_drop] at a
   have:=b.cells (g:=g) rfl (j*d.sz+i) u a;have ha:(⟨g,0,none⟩:Addr).add (j*d.sz+i)=⟨g,0+j*d.sz+i,none⟩:=by unfold Addr.add;split<;>simp_all<;>omega
   rwa [ha] at this
  ·cases a
theorem Ow.of_flat {cells:α→List Value} {sz:Nat} {hl:∀x,(cells x).length=sz} {ho:∀x,∀u∈cells x,u.oneCell' =true} {base:Nat}
  (h:w.ownsRow base e sz v xs.length (xs.flatMap cells)) (hF:∀g,v.ownBlock=some g→F g):Ow (k7 cells sz hl ho) e w F v xs:=by
 refine⟨xs.flatMap cells,fun _ _=>False,?_,hF,fun _ _ h=>h.elim,fun _ _ _ _ h=>h.elim,?_⟩
 ·obtain⟨i,b⟩:=h
  refine⟨i,?_⟩;rcases b with b|⟨g,c,d,rfl,k,r⟩
  ·exact .inl b
  ·exact .inr ⟨g,c,d,rfl,jP _,r⟩
 ·clear h hF
  induction xs with
  |nil=>intro j x a;simp at a
  |cons y ys ih=>
   intro j x a;cases j with
   |zero=>
    have f:y=x:=by simpa using a
    subst f;show _=_;simp only[k7,Nat.zero_mul,List.drop_zero,List.flatMap_cons];rw[←hl y,List.take_left]
   |succ j=>
    have:=ih j x (by simpa using a);simp only[k7,List.flatMap_cons] at this ⊢;rw[Nat.succ_mul,Nat.add_comm,←List.drop_drop,←hl y,List.drop_left,hl y];exact this
end
end
section
section
variable {α:Type} {P:Program} {W:World}
theorem uB (t ty e:TypeId) (ht:P.underlying t=some (.slice e)) {bytes:Nat} (size:Nat) {i:TypeInfo} (hi:P.info? e=some i) (hsz:i.size=size) (base:Nat) (v:Value) (n:Nat) (xs:List Value) (c:Nat)
  (hown:W.ownsRow base e size v n xs):(Builtin.append_ #[t,t] ty #[v,.slice none 0 c]).run P W= .ok v W:=by
 rcases hown.2 with ⟨rfl,rfl⟩|⟨g,a,b,rfl,_,f,d,_⟩
 ·have hS:Src P i.size t (.slice none 0 c) 0 [] W:=Src.ofNil (w:=W) ht c
  simp[Builtin.append_,run_underlying ht,sizeOf,typeInfo,hi,hS.len,hS.cells]
 ·have h:=run_append_room_src (P:=P) (w:=W) t t ty e i ht hi g 0 n a (.slice none 0 c) 0 [] (Src.ofNil (w:=W) ht c) gO sm sm
  simpa [World.setCells] using h
theorem oK (t ty e:TypeId) (ht:P.underlying t=some (.slice e)) (z:Value) (size bytes:Nat) (hinfo:(P.info? e).map (fun i=>(i.zero,i.size,i.bytes))=some (some z,size,bytes)) (hz:z.cells.size=size) (hs0:0<size) (hb0:0<bytes)
  (v:Value) (n:Nat) (cs:List Value) (hown:W.ownsRow 0 e size v n cs) (A:Option Addr) (m c:Nat) (news:List Value) (hl:news.length=m*size)
  (hA:0<m→∃b o,A=some ⟨b,o,none⟩∧∀j u,news[j]? =some u→W.cell? ⟨b,o+j,none⟩=some u) (h1:∀u∈news,u.oneCell' =true) (hbytes:(n+m)*bytes≤140737488355328):
  ∃v' w',(Builtin.append_ #[t,t] ty #[v,.slice A m c]).run P W= .ok v' w'∧w'.ownsRow 0 e size v' (n+m) (cs++news)∧W.grownBy w' v.ownBlock∧(v'.ownBlock=v.ownBlock∨v'.ownBlock=some W.heap.size):=by
 obtain⟨i,q,k⟩:=Option.map_eq_some_iff.1 hinfo;simp only[Prod.mk.injEq] at k;obtain⟨s,g,x⟩:=k;have p:n+m≤maxLen:=by
  have:n+m≤(n+m)*bytes:=Nat.le_mul_of_pos_right _ hb0;simp only[maxLen];omega
 cases A with
 |none=>
  rcases Nat.eq_zero_or_pos m with d|d
  ·subst d
   have l:news=[]:=List.length_eq_zero_iff.1 (by simpa using hl);subst l;exact⟨v,W,uB (bytes:=bytes) t ty e ht size q g 0 v n cs c hown,by simpa using hown,⟨rfl,rfl,rfl,j9 _,fun _ _ _=>rfl⟩,.inl rfl⟩
  ·obtain⟨b,o,h,_⟩:=hA d
   cases h
 |some ad=>
  have f:∀j u,news[j]? =some u→W.cell? (ad.add j)=some u:=by
   intro j u r;rcases Nat.eq_zero_or_pos m with d|d
   ·subst d
    have l:news=[]:=List.length_eq_zero_iff.1 (by simpa using hl);subst l;simp at r
   ·obtain⟨b,o,h,D⟩:=hA d
    cases h;have ha:(⟨b,o,none⟩:Addr).add j=⟨b,o+j,none⟩:=by unfold Addr.add;split<;>simp_all
    rw[ha];exact D j u r
  obtain⟨v',w',E,y,B,_,C⟩:=run_append_own_at (P:=P) (w:=W) 0 t ty e i z size bytes ht q s g x hz hs0 v n cs hown ad m c news hl f h1 p hbytes (jP _);exact⟨v',w',E,y,B,C⟩
variable {ops:Array Oper} {rest:List Oper} {o:Oper} {a:Act} {Q:Exit→Act→World→Prop} {K:Act→World→Prop}
theorem nw {s x:Operand} {t:TypeId} (ho:o.op= .call {callee:= .builtin .append,args:= #[s,x],argTypes:= #[t,t]}) {v y v':Value} {w':World} (hs:a.eval s=v) (hx:a.eval x=y)
  (hr:(Builtin.append_ #[t,t] o.type #[v,y]).run P W= .ok v' w') (h:K (a.put o.dst v') w'):o.wp P a W K Q:=by
 unfold Oper.wp execOp;simp only[ho,resolve,invoke,builtin,Sem.run_bind,Sem.run_pure,Result.andThen_ok,List.map_toArray,List.map_cons,List.map_nil,hs,hx,hr];exact h
variable {d:Ty α} {e:TypeId} {F G:Nat→Prop} {v:Value} {xs:List α}
theorem Ow.snoc {cs:List Value} {Fs:Nat→Nat→Prop} {w':World} {v':Value} {y:α} {news:List Value} {Fy:Nat→Prop}
  (hsz:0<d.sz) (h1:W.ownsRow 0 e d.sz v xs.length cs) (h2:∀g,v.ownBlock=some g→F g) (h3:∀j k,Fs j k→F k∧some k≠v.ownBlock) (h4:∀i j k,i≠j→Fs i k→Fs j k→False)
  (h5:∀j x,xs[j]? =some x→d.rel W (Fs j) x ((cs.drop (j*d.sz)).take d.sz))
  (hy:d.rel W Fy y news) (hyF:∀k,Fy k→¬F k) (hyw:∀k,Fy k→k<W.heap.size)
  (hown:w'.ownsRow 0 e d.sz v' (xs.length+1) (cs++news)) (hg:W.grownBy w' v.ownBlock) (hat:v'.ownBlock=v.ownBlock∨∃b,v'.ownBlock=some b∧W.heap.size≤b)
  (hFG:∀k,F k→G k) (hyG:∀k,Fy k→G k) (hnG:∀k,W.heap.size≤k→G k):Ow d e w' G v' (xs++[y]):=by
 have q:=h1.1;have z:=d.len hy;have t:∀j k,Fs j k→k<W.heap.size→w'.heap[k]? =W.heap[k]? :=fun j k a c=>hg.block k c (h3 j k a).2;refine⟨cs++news,fun j k=>(j<xs.length∧Fs j k∧k<W.heap.size)∨(j=xs.length∧Fy k),by simpa using hown,fun g p=>?_,fun j k a=>?_,fun i j k u s f=>?_,fun j x f=>?_⟩
 ·rcases hat with hat|⟨b,o,c⟩
  ·exact hFG g (h2 g (hat▸p))
  ·rw[o] at p;cases p;exact hnG g c
 ·have r:∀k,k<W.heap.size→(some k≠v.ownBlock)→some k≠v'.ownBlock:=fun k a A l=>by
   rcases hat with hat|⟨b,o,c⟩
   ·exact A (l.trans hat)
   ·rw[o] at l;cases l;omega
  rcases a with ⟨f,a,c⟩|⟨f,a⟩
  ·exact⟨hFG k (h3 j k a).1,r k c (h3 j k a).2⟩
  ·exact⟨hyG k a,r k (hyw k a) (fun l=>hyF k a (h2 k l.symm))⟩
 ·rcases s with ⟨s,m,_⟩|⟨s,m⟩<;>rcases f with ⟨f,n,_⟩|⟨f,n⟩
  ·exact h4 i j k u m n
  ·exact hyF k n (h3 i k m).1
  ·exact hyF k m (h3 j k n).1
  ·omega
 ·rcases Nat.lt_or_ge j xs.length with c|B
  ·rw[List.getElem?_append_left c] at f
   have C:j*d.sz+d.sz≤cs.length:=by rw[q,←Nat.succ_mul];exact Nat.mul_le_mul_right _ c
   rw[List.drop_append_of_le_length gO,List.take_append_of_le_length (by rw[List.length_drop];omega)];have o:=d.bound (h5 j x f);exact d.mono (fun k a=> .inl ⟨c,a.1,a.2⟩) (d.move (fun k a=>t j k a.1 a.2) o)
  ·have hj':j=xs.length:=by have:=(List.getElem?_eq_some_iff.1 f).1;simp at this;omega
   subst hj';have w:y=x:=by simpa using f
   subst w;rw[←q,List.drop_left,←z,ld];exact d.mono (fun k a=> .inr ⟨gO,a⟩) (d.move (fun k a=>hg.block k (hyw k a) (fun l=>hyF k a (h2 k l.symm))) hy)
theorem rl (t ty:TypeId) (ht:P.underlying t=some (.slice e)) (z:Value) (bytes:Nat) (hinfo:(P.info? e).map (fun i=>(i.zero,i.size,i.bytes))=some (some z,d.sz,bytes)) (hz:z.cells.size=d.sz) (hs0:0<d.sz) (hb0:0<bytes)
  (HO:Ow d e W F v xs) (y:α) (ys:Array Value) (H:Nat) {fr:Nat×Nat} {e':TypeId} (hH:W.heap[H]? =some (.cells ys e' fr)) (Fy:Nat→Prop) (hy:d.rel W Fy y ys.toList) (hyF:∀k,Fy k→¬F k) (hyw:∀k,Fy k→k<W.heap.size) (hl:(xs.length+1)*bytes≤140737488355328)
  (hFG:∀k,F k→G k) (hyG:∀k,Fy k→G k) (hnG:∀k,W.heap.size≤k→G k):
  ∃v1 w1,(Builtin.append_ #[t,t] ty #[v,.slice (some ⟨H,0,none⟩) 1 1]).run P W= .ok v1 w1∧Ow d e w1 G v1 (xs++[y])∧W.grownBy w1 v.ownBlock∧(v1.ownBlock=v.ownBlock∨∃b,v1.ownBlock=some b∧W.heap.size≤b):=by
 obtain⟨g,s,a,l,m,n,o⟩:=HO;obtain⟨v1,w1,r,q,f,c⟩:=oK (P:=P) (W:=W) t ty e ht z d.sz bytes hinfo hz hs0 hb0 v xs.length g a (some ⟨H,0,none⟩) 1 1 ys.toList (by rw[d.len hy,Nat.one_mul])
  (fun _=>⟨H,0,rfl,fun j u p=>by
   simp only[World.cell?,hH,Nat.zero_add];simpa using p⟩) (d.one hy) hl
 have hat':v1.ownBlock=v.ownBlock∨∃b,v1.ownBlock=some b∧W.heap.size≤b:=c.imp_right fun h=>⟨_,h,j9 _⟩;exact⟨v1,w1,r,Ow.snoc hs0 a l m n o hy hyF hyw q f hat' hFG hyG hnG,f,hat'⟩
theorem jj (hgd:o.guard=none) {s x:Operand} (t:TypeId) (ho:o.op= .call {callee:= .builtin .append,args:= #[s,x],argTypes:= #[t,t]}) (ht:P.underlying t=some (.slice e)) (z:Value) (bytes:Nat)
  (hinfo:(P.info? e).map (fun i=>(i.zero,i.size,i.bytes))=some (some z,d.sz,bytes)) (hz:z.cells.size=d.sz) (hs0:0<d.sz) (hb0:0<bytes)
  (hs:a.eval s=v) (HO:Ow d e W F v xs) (y:α) (ys:Array Value) {H:Nat} (hx:a.eval x= .slice (some ⟨H,0,none⟩) 1 1) {fr:Nat×Nat} {e':TypeId} (hH:W.heap[H]? =some (.cells ys e' fr)) (Fy:Nat→Prop) (hy:d.rel W Fy y ys.toList) (hyF:∀k,Fy k→¬F k) (hyw:∀k,Fy k→k<W.heap.size) (hl:(xs.length+1)*bytes≤140737488355328)
  (G:Nat→Prop) (hFG:∀k,F k→G k) (hyG:∀k,Fy k→G k) (hnG:∀k,W.heap.size≤k→G k)
  (h:∀v1 w1,Ow d e w1 G v1 (xs++[y])→W.grownBy w1 v.ownBlock→(v1.ownBlock=v.ownBlock∨∃b,v1.ownBlock=some b∧W.heap.size≤b)→wpList P ops Q rest (a.put o.dst v1) w1):
  wpList P ops Q (o::rest) a W:=
 wpList_plain hgd fun _ hK=>by
  obtain⟨v1,w1,hr,h1,h2,h3⟩:=rl (G:=G) t o.type ht z bytes hinfo hz hs0 hb0 HO y ys H hH Fy hy hyF hyw hl hFG hyG hnG;exact nw ho hs hx hr (hK _ _ (h v1 w1 h1 h2 h3))
theorem kO {s x:Operand} (t:TypeId) (ho:o.op= .call {callee:= .builtin .append,args:= #[s,x],argTypes:= #[t,t]}) (ht:P.underlying t=some (.slice e)) (z:Value) (bytes:Nat)
  (hinfo:(P.info? e).map (fun i=>(i.zero,i.size,i.bytes))=some (some z,d.sz,bytes)) (hz:z.cells.size=d.sz) (hs0:0<d.sz) (hb0:0<bytes)
  (hs:a.eval s=v) (HO:Ow d e W F v xs) (y:α) (ys:Array Value) {H:Nat} (hx:a.eval x= .slice (some ⟨H,0,none⟩) 1 1) {fr:Nat×Nat} {e':TypeId} (hH:W.heap[H]? =some (.cells ys e' fr)) (Fy:Nat→Prop) (hy:d.rel W Fy y ys.toList) (hyF:∀k,Fy k→¬F k) (hyw:∀k,Fy k→k<W.heap.size) (hl:(xs.length+1)*bytes≤140737488355328)
  (G:Nat→Prop) (hFG:∀k,F k→G k) (hyG:∀k,Fy k→G k) (hnG:∀k,W.heap.size≤k→G k)
  (h:∀v1 w1,Ow d e w1 G v1 (xs++[y])→W.grownBy w1 v.ownBlock→(v1.ownBlock=v.ownBlock∨∃b,v1.ownBlock=some b∧W.heap.size≤b)→K (a.put o.dst v1) w1):
  o.wp P a W K Q:=by
 obtain⟨v1,w1,j,c,f,g⟩:=rl (G:=G) t o.type ht z bytes hinfo hz hs0 hb0 HO y ys H hH Fy hy hyF hyw hl hFG hyG hnG;exact nw ho hs hx j (h v1 w1 c f g)
theorem uT {cells:α→List Value} {sz:Nat} (hl:∀x,(cells x).length=sz) {b:Nat}:∀(ys:List α) (o:Nat),(∀j x,ys[j]? =some x→∀i u,(cells x)[i]? =some u→W.cell? ⟨b,o+j*sz+i,none⟩=some u)→
  ∀j u,(ys.flatMap cells)[j]? =some u→W.cell? ⟨b,o+j,none⟩=some u
 | [],_,_,j,u,hj=>by simp at hj
 |y::ys,o,h,j,u,hj=>by
  rw[List.flatMap_cons] at hj;rcases Nat.lt_or_ge j (cells y).length with hlt|hge
  ·rw[List.getElem?_append_left hlt] at hj
   have:=h 0 y rfl j u hj;simpa using this
  ·rw[List.getElem?_append_right hge] at hj
   have:=uT hl ys (o+sz) (fun j' x hj' i u hi=>by
    have:=h (j'+1) x (by simpa using hj') i u hi;rw[Nat.succ_mul] at this;rw[show o+sz+j'*sz+i=o+(j'*sz+sz)+i from by omega];exact this) _ u hj
   rw[hl y] at this hge;rw[show o+j=o+sz+(j-sz) from by omega];exact this
theorem Ow.flatRow {cells:α→List Value} {sz:Nat} {hl:∀x,(cells x).length=sz} {ho:∀x,∀u∈cells x,u.oneCell' =true} (h:Ow (k7 cells sz hl ho) e W F v xs):W.ownsRow 0 e sz v xs.length (xs.flatMap cells):=by
 obtain⟨a,n,c,i,k,l,f⟩:=h;have g:a=xs.flatMap cells:=by
  have b:a.length=xs.length*sz:=c.1;have h5':∀j x,xs[j]? =some x→(a.drop (j*sz)).take sz=cells x:=f;clear c i k l f
  induction xs generalizing a with
  |nil=>simpa using b
  |cons y ys ih=>
   have d:=h5' 0 y rfl;simp only[Nat.zero_mul,List.drop_zero] at d;have:=ih (a.drop sz) (by rw[List.length_drop,b,List.length_cons,Nat.succ_mul];omega) (fun j x m=>by
    have:=h5' (j+1) x (by simpa using m);rw[Nat.succ_mul,Nat.add_comm,←List.drop_drop] at this;exact this)
   rw[List.flatMap_cons,←d,←this,List.take_append_drop]
 rw[g] at c;exact c
theorem mW {cells:α→List Value} {sz:Nat} (hl:∀x,(cells x).length=sz) (ys:List α):(ys.flatMap cells).length=ys.length*sz:=by
 induction ys with
 |nil=>simp
 |cons y ys ih=>rw[List.flatMap_cons,List.length_append,ih,hl,List.length_cons,Nat.succ_mul];omega
theorem rn {cells:α→List Value} {sz:Nat} {hl:∀x,(cells x).length=sz} {ho1:∀x,∀u∈cells x,u.oneCell' =true} (t ty:TypeId) (ht:P.underlying t=some (.slice e)) (z:Value) (bytes:Nat) (hinfo:(P.info? e).map (fun i=>(i.zero,i.size,i.bytes))=some (some z,sz,bytes)) (hz:z.cells.size=sz) (hs0:0<sz) (hb0:0<bytes)
  (HO:Ow (k7 cells sz hl ho1) e W F v xs) {vy:Value} {ys:List α} {Fy:Nat→Prop} (hy:Rd (k7 cells sz hl ho1) W Fy vy ys) (hb:(xs.length+ys.length)*bytes≤140737488355328)
  (hFG:∀k,F k→G k) (hnG:∀k,W.heap.size≤k→G k):
  ∃v1 w1,(Builtin.append_ #[t,t] ty #[v,vy]).run P W= .ok v1 w1∧Ow (k7 cells sz hl ho1) e w1 G v1 (xs++ys)∧W.grownBy w1 v.ownBlock∧(v1.ownBlock=v.ownBlock∨∃b,v1.ownBlock=some b∧W.heap.size≤b):=by
 have y:=HO.flatRow;obtain⟨A,c,rfl,L,_,B⟩:=hy;obtain⟨v1,w1,I,l,C,p⟩:=oK (P:=P) (W:=W) t ty e ht z sz bytes hinfo hz hs0 hb0 v xs.length _ y A ys.length c (ys.flatMap cells) (mW hl ys)
  (fun H=>by
   obtain⟨b,o,n,_,_,f⟩:=B H;exact⟨b,o,n,uT hl ys o (fun j x E i u D=>by
    obtain⟨w,r,m⟩:=f j x E;have hcs':w=cells x:=r;subst hcs';exact m i u D)⟩)
  (fun u m=>by obtain⟨x,_,J⟩:=List.mem_flatMap.1 m;exact ho1 x u J) hb
 have a:v1.ownBlock=v.ownBlock∨∃b,v1.ownBlock=some b∧W.heap.size≤b:=p.imp_right fun h=>⟨_,h,j9 _⟩;refine⟨v1,w1,I,Ow.of_flat (base:=0) (by rw[List.flatMap_append,List.length_append];exact l) (fun g d=>?_),C,a⟩;rcases a with a|⟨b,q,s⟩
 ·exact hFG g (HO.inF (a▸d))
 ·rw[q] at d;cases d;exact hnG _ s
theorem lL {cells:α→List Value} {sz:Nat} {hl:∀x,(cells x).length=sz} {ho1:∀x,∀u∈cells x,u.oneCell' =true} (hgd:o.guard=none) {s x:Operand} (t:TypeId) (ho:o.op= .call {callee:= .builtin .append,args:= #[s,x],argTypes:= #[t,t]}) (ht:P.underlying t=some (.slice e)) (z:Value) (bytes:Nat)
  (hinfo:(P.info? e).map (fun i=>(i.zero,i.size,i.bytes))=some (some z,sz,bytes)) (hz:z.cells.size=sz) (hs0:0<sz) (hb0:0<bytes)
  (hs:a.eval s=v) (HO:Ow (k7 cells sz hl ho1) e W F v xs) {vy:Value} (hx:a.eval x=vy) {ys:List α} {Fy:Nat→Prop} (hy:Rd (k7 cells sz hl ho1) W Fy vy ys) (hb:(xs.length+ys.length)*bytes≤140737488355328)
  (G:Nat→Prop) (hFG:∀k,F k→G k) (hnG:∀k,W.heap.size≤k→G k)
  (h:∀v1 w1,Ow (k7 cells sz hl ho1) e w1 G v1 (xs++ys)→W.grownBy w1 v.ownBlock→(v1.ownBlock=v.ownBlock∨∃b,v1.ownBlock=some b∧W.heap.size≤b)→wpList P ops Q rest (a.put o.dst v1) w1):
  wpList P ops Q (o::rest) a W:=
 wpList_plain hgd fun _ hK=>by
  obtain⟨v1,w1,hr,h1,h2,h3⟩:=rn (G:=G) t o.type ht z bytes hinfo hz hs0 hb0 HO hy hb hFG hnG;exact nw ho hs hx hr (hK _ _ (h v1 w1 h1 h2 h3))
theorem lY {cells:α→List Value} {sz:Nat} {hl:∀x,(cells x).length=sz} {ho1:∀x,∀u∈cells x,u.oneCell' =true} {s x:Operand} (t:TypeId) (ho:o.op= .call {callee:= .builtin .append,args:= #[s,x],argTypes:= #[t,t]}) (ht:P.underlying t=some (.slice e)) (z:Value) (bytes:Nat)
  (hinfo:(P.info? e).map (fun i=>(i.zero,i.size,i.bytes))=some (some z,sz,bytes)) (hz:z.cells.size=sz) (hs0:0<sz) (hb0:0<bytes)
  (hs:a.eval s=v) (HO:Ow (k7 cells sz hl ho1) e W F v xs) {vy:Value} (hx:a.eval x=vy) {ys:List α} {Fy:Nat→Prop} (hy:Rd (k7 cells sz hl ho1) W Fy vy ys) (hb:(xs.length+ys.length)*bytes≤140737488355328)
  (G:Nat→Prop) (hFG:∀k,F k→G k) (hnG:∀k,W.heap.size≤k→G k)
  (h:∀v1 w1,Ow (k7 cells sz hl ho1) e w1 G v1 (xs++ys)→W.grownBy w1 v.ownBlock→(v1.ownBlock=v.ownBlock∨∃b,v1.ownBlock=some b∧W.heap.size≤b)→K (a.put o.dst v1) w1):
  o.wp P a W K Q:=by
 obtain⟨v1,w1,g,c,d,f⟩:=rn (G:=G) t o.type ht z bytes hinfo hz hs0 hb0 HO hy hb hFG hnG;exact nw ho hs hx g (h v1 w1 c d f)
end
end
end Go.Proofs.YtgilllnjhahkfaaGreat
