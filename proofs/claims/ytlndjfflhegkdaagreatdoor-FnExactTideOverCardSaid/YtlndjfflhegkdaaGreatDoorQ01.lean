/- Parts of the proof: Own, App, Eq, Sc. -/
import Derived.Maps.AppendAt
import Derived.Deep.AppendSrc
import Derived.Laws.StructEq
import Derived.Test.YtlndjfflhegkdaaGreatDoorQ00
set_option linter.unusedVariables false
set_option linter.unusedSimpArgs false
set_option linter.unusedSectionVars false
set_option maxHeartbeats 4000000
namespace Go.Proofs.YtlndjfflhegkdaaGreatDoor
open Go.RowKit
section
structure Ch (S:Nat→Prop) (w w':World):Prop where
 os:w'.os=w.os
 tape:w'.tape=w.tape
 output:w'.output=w.output
 size:w.heap.size≤w'.heap.size
 block:∀k,k<w.heap.size→¬S k→w'.heap[k]? =w.heap[k]?
section
variable {S S':Nat→Prop} {w w1 w2:World} {B:Nat}
theorem Ch.refl (S:Nat→Prop) (w:World):Ch S w w:=⟨rfl,rfl,rfl,jn _,fun _ _ _=>rfl⟩
theorem Ch.trans (h:Ch S w w1) (k:Ch S w1 w2):Ch S w w2:=
 ⟨k.os.trans h.os,k.tape.trans h.tape,k.output.trans h.output,ly h.size k.size,fun i hi hn=>(k.block i (sF hi h.size) hn).trans (h.block i hi hn)⟩
theorem Ch.mono (hS:∀k,S k→S' k) (h:Ch S w w1):Ch S' w w1:=⟨h.os,h.tape,h.output,h.size,fun i hi hn=>h.block i hi (fun hs=>hn (hS i hs))⟩
theorem Ch.then (h:Ch S w w1) (k:Ch S' w1 w2) (hS:∀i,S' i→S i∨w.heap.size≤i):Ch S w w2:=
 ⟨k.os.trans h.os,k.tape.trans h.tape,k.output.trans h.output,ly h.size k.size,fun i hi hn=>
  (k.block i (sF hi h.size) (fun hs=>(hS i hs).elim hn (fun hw=>absurd hi (Nat.not_lt.2 hw)))).trans (h.block i hi hn)⟩
theorem Ch.of_below (h:Below w.heap.size w w1):Ch S w w1:=⟨h.os,h.tape,h.output,h.size,fun i hi _=>h.block i hi⟩
theorem Ch.below (h:Ch S w w1) (hS:∀k,S k→B≤k) (hB:B≤w.heap.size):Below B w w1:=⟨h.os,h.tape,h.output,h.size,fun i hi=>h.block i fT (fun hs=>by have:=hS i hs;omega)⟩
theorem Ch.below0 (h:Ch (fun _=>False) w w1):Below w.heap.size w w1:=h.below (fun _ hf=>hf.elim) (jn _)
theorem Ch.alloc (h:Ch S w w1) (o:Obj):Ch S w (w1.alloc o):=h.trans (Ch.of_below (gs (gM _ _) o))
theorem Ch.drew (h:Ch S w w1):Ch S w w1.drew:=⟨h.os,h.tape,h.output,h.size,h.block⟩
theorem Ch.drewN (h:Ch S w w1) (n:Nat):Ch S w (w1.drewN n):=⟨h.os,h.tape,h.output,h.size,h.block⟩
theorem Ch.setCell (h:Ch S w w1) {p:Addr} (hp:S p.block∨w.heap.size≤p.block) (u:Value):Ch S w (w1.setCell p u):=
 ⟨h.os,h.tape,h.output,by have:=h.size;simpa [World.setCell] using this,fun i hi hn=>by
  rw[Below.heap_setCell _ _ _ _ (fun e=>by subst e;rcases hp with hp|hp;exact hn hp;omega)];exact h.block i hi hn⟩
theorem Ch.grown (h:Ch S w w1) {row:Option Nat} (hg:w1.grownBy w2 row) (hr:∀k,row=some k→S k∨w.heap.size≤k):Ch S w w2:=
 h.then (S':=fun k=>row=some k) ⟨hg.os,hg.tape,hg.output,hg.size,fun i hi hn=>hg.block i hi (fun e=>hn e.symm)⟩ hr
theorem Ch.cell (h:Ch S w w1) {p:Addr} (hp:p.block<w.heap.size) (hn:¬S p.block):w1.cell? p=w.cell? p:=World.cell?_of_block (w:=w) (h.block _ hp hn)
theorem Ch.frozen (h:Ch S w w1) {p:Addr} (hp:p.block<w.heap.size) (hn:¬S p.block):w1.frozen? p=w.frozen? p:=World.frozen?_of_block (w:=w) (h.block _ hp hn)
theorem Ch.cells (h:Ch S w w1):(∀b o,b<w.heap.size→¬S b→w1.cell? ⟨b,o,none⟩=w.cell? ⟨b,o,none⟩)∧(∀b o,b<w.heap.size→¬S b→w1.frozen? ⟨b,o,none⟩=w.frozen? ⟨b,o,none⟩):=
 ⟨fun b o hb hn=>h.cell (p:=⟨b,o,none⟩) hb hn,fun b o hb hn=>h.frozen (p:=⟨b,o,none⟩) hb hn⟩
theorem Ch.heap (h:Ch S w w1) {k:Nat} {o:Obj} (ho:w.heap[k]? =some o) (hn:¬S k):w1.heap[k]? =some o:=(h.block k (Array.getElem?_eq_some_iff.1 ho).1 hn).trans ho
end
section
variable {α:Type} {d:Ty α} {e:TypeId} {w w':World} {F F':Nat→Prop} {v:Value} {xs:List α}
theorem Rd.ch {S:Nat→Prop} (h:Rd d w F v xs) (hc:Ch S w w') (hS:∀k,F k→¬S k):Rd d w' F v xs:=h.keep fun k hk hlt=>hc.block k hlt (hS k hk)
def Ow (d:Ty α) (e:TypeId) (w:World) (F:Nat→Prop) (v:Value) (xs:List α):Prop:=
 ∃(cs:List Value) (Fs:Nat→Nat→Prop),w.ownsRow 0 e d.sz v xs.length cs∧(∀g,v.ownBlock=some g→F g)∧
  (∀j k,Fs j k→F k∧some k≠v.ownBlock)∧(∀i j k,i≠j→Fs i k→Fs j k→False)∧
  ∀j x,xs[j]? =some x→d.rel w (Fs j) x ((cs.drop (j*d.sz)).take d.sz)
theorem Ow.nil (d:Ty α) (e:TypeId) (w:World) (F:Nat→Prop):Ow d e w F (.slice none 0 0) []:=
 ⟨[],fun _ _=>False,World.ownsRow_nil _ _ _ _,fun g hg=>by simp[Value.ownBlock] at hg,fun _ _ h=>h.elim,fun _ _ _ _ h=>h.elim,fun j x hj=>by simp at hj⟩
theorem Ow.mono (hF:∀k,F k→F' k) (h:Ow d e w F v xs):Ow d e w F' v xs:=by
 obtain⟨f,c,i,l,a,m,n⟩:=h;exact⟨f,c,i,fun g o=>hF g (l g o),fun j k b=>⟨hF k (a j k b).1,(a j k b).2⟩,m,n⟩
theorem xB {base size n:Nat} {cs:List Value} (h:w.ownsRow base e size v n cs) (hm:∀k,v.ownBlock=some k→w'.heap[k]? =w.heap[k]?):w'.ownsRow base e size v n cs:=by
 obtain⟨d,a⟩:=h;refine⟨d,?_⟩;rcases a with a|⟨g,b,c,rfl,f,i,r⟩
 ·exact .inl a
 ·exact .inr ⟨g,b,c,rfl,f,(hm g (by simp[Value.ownBlock])).trans i,r⟩
theorem Ow.move (hm:∀k,F k→w'.heap[k]? =w.heap[k]?) (h:Ow d e w F v xs):Ow d e w' F v xs:=by
 obtain⟨g,f,i,b,c,l,m⟩:=h;exact⟨g,f,xB i (fun k a=>hm k (b k a)),b,c,l,fun j x n=>d.move (fun k a=>hm k (c j k a).1) (m j x n)⟩
theorem Ow.bound (h:Ow d e w F v xs):Ow d e w (fun k=>F k∧k<w.heap.size) v xs:=by
 obtain⟨m,l,b,n,c,o,p⟩:=h;exact⟨m,fun j k=>l j k∧k<w.heap.size,b,fun g f=>⟨n g f,(b.lt g f).2⟩,fun j k a=>⟨⟨(c j k a.1).1,a.2⟩,(c j k a.1).2⟩,fun i j k s ha q=>o i j k s ha.1 q.1,fun j x r=>d.bound (p j x r)⟩
theorem Ow.keep (h:Ow d e w F v xs) (hm:∀k,F k→k<w.heap.size→w'.heap[k]? =w.heap[k]?):Ow d e w' F v xs:=
 ((h.bound).move (fun k hk=>hm k hk.1 hk.2)).mono (fun _ hk=>hk.1)
theorem Ow.below (h:Ow d e w F v xs) (hb:Below w.heap.size w w'):Ow d e w' F v xs:=h.keep fun k _ hk=>hb.block k hk
theorem Ow.ch {S:Nat→Prop} (h:Ow d e w F v xs) (hc:Ch S w w') (hS:∀k,F k→¬S k):Ow d e w' F v xs:=h.keep fun k hk hlt=>hc.block k hlt (hS k hk)
theorem Ow.alloc (h:Ow d e w F v xs) (o:Obj):Ow d e (w.alloc o) F v xs:=h.below (gs (gM _ _) o)
theorem Ow.drewN (h:Ow d e w F v xs) (n:Nat):Ow d e (w.drewN n) F v xs:=Ow.move (w:=w) (w':=w.drewN n) (fun _ _=>rfl) h
theorem Ow.block_lt (h:Ow d e w F v xs) {g:Nat} (hg:v.ownBlock=some g):g<w.heap.size:=by
 obtain⟨c,b,a,_⟩:=h;exact(a.lt g hg).2
theorem Ow.inF (h:Ow d e w F v xs) {g:Nat} (hg:v.ownBlock=some g):F g:=by
 obtain⟨c,b,f,a,_⟩:=h;exact a g hg
theorem Ow.shape (h:Ow d e w F v xs):∃A c,v= .slice A xs.length c∧xs.length≤9223372036854775807:=by
 obtain⟨l,k,f,_⟩:=h;rcases f.2 with ⟨rfl,b⟩|⟨g,a,j,rfl,_,_,m,i,_⟩
 ·exact⟨none,0,by rw[b],fT⟩
 ·refine⟨_,a,rfl,?_⟩
  simp only[maxLen] at i;omega
theorem Ow.head (h:Ow d e w F v xs) (hp:0<xs.length):∃g c cur,v= .slice (some ⟨g,0,none⟩) xs.length c∧F g∧g<w.heap.size∧w.heap[g]? =some (.cells cur e (0,0)):=by
 obtain⟨k,j,b,f,_⟩:=h;rcases b.2 with ⟨rfl,l⟩|⟨g,a,cur,rfl,_,i,_⟩
 ·omega
 ·exact⟨g,a,cur,rfl,f g rfl,(b.lt g rfl).2,i⟩
theorem Ow.rd (h:Ow d e w F v xs):Rd d w F v xs:=by
 obtain⟨C,B,b,o,p,D,q⟩:=h;have t:=b.1;rcases hx:b.2 with ⟨c,n⟩|⟨g,f,y,c,_,E,l,m,z,A⟩
 ·subst c
  have:xs=[]:=List.length_eq_zero_iff.1 n;subst this;exact Rd.nil _ _ _
 ·subst c
  refine⟨_,f,rfl,l,by simp only[maxLen] at m;omega,fun G=>⟨g,0,rfl,o g rfl,(b.lt g rfl).2,fun j x r=>⟨_,d.mono (fun k s=>(p j k s).1) (q j x r),fun i u a=>?_⟩⟩⟩;rw[List.getElem?_take] at a;split at a
  ·rw[List.getElem?_drop] at a
   have:=b.cells (g:=g) rfl (j*d.sz+i) u a;have ha:(⟨g,0,none⟩:Addr).add (j*d.sz+i)=⟨g,0+j*d.sz+i,none⟩:=by unfold Addr.add;split<;>simp_all<;>omega
   rwa [ha] at this
  ·cases a
theorem Ow.of_flat {cells:α→List Value} {sz:Nat} {hl:∀x,(cells x).length=sz} {ho:∀x,∀u∈cells x,u.oneCell' =true} {base:Nat}
  (h:w.ownsRow base e sz v xs.length (xs.flatMap cells)) (hF:∀g,v.ownBlock=some g→F g):Ow (kx cells sz hl ho) e w F v xs:=by
 refine⟨xs.flatMap cells,fun _ _=>False,?_,hF,fun _ _ h=>h.elim,fun _ _ _ _ h=>h.elim,?_⟩
 ·obtain⟨i,b⟩:=h
  refine⟨i,?_⟩;rcases b with b|⟨g,c,d,rfl,k,r⟩
  ·exact .inl b
  ·exact .inr ⟨g,c,d,rfl,j8 _,r⟩
 ·clear h hF
  induction xs with
  |nil=>intro j x a;simp at a
  |cons y ys ih=>
   intro j x a;cases j with
   |zero=>
    have f:y=x:=by simpa using a
    subst f;show _=_;simp only[kx,Nat.zero_mul,List.drop_zero,List.flatMap_cons];rw[←hl y,List.take_left]
   |succ j=>
    have:=ih j x (by simpa using a);simp only[kx,List.flatMap_cons] at this ⊢;rw[Nat.succ_mul,Nat.add_comm,←List.drop_drop,←hl y,List.drop_left,hl y];exact this
end
end
section
section
variable {α:Type} {P:Program} {W:World}
theorem uV (t ty e:TypeId) (ht:P.underlying t=some (.slice e)) {bytes:Nat} (size:Nat) {i:TypeInfo} (hi:P.info? e=some i) (hsz:i.size=size) (base:Nat) (v:Value) (n:Nat) (xs:List Value) (c:Nat)
  (hown:W.ownsRow base e size v n xs):(Builtin.append_ #[t,t] ty #[v,.slice none 0 c]).run P W= .ok v W:=by
 rcases hown.2 with ⟨rfl,rfl⟩|⟨g,a,b,rfl,_,f,d,_⟩
 ·have hS:Src P i.size t (.slice none 0 c) 0 [] W:=Src.ofNil (w:=W) ht c
  simp[Builtin.append_,run_underlying ht,sizeOf,typeInfo,hi,hS.len,hS.cells]
 ·have h:=run_append_room_src (P:=P) (w:=W) t t ty e i ht hi g 0 n a (.slice none 0 c) 0 [] (Src.ofNil (w:=W) ht c) fT sm sm
  simpa [World.setCells] using h
theorem oI (t ty e:TypeId) (ht:P.underlying t=some (.slice e)) (z:Value) (size bytes:Nat) (hinfo:(P.info? e).map (fun i=>(i.zero,i.size,i.bytes))=some (some z,size,bytes)) (hz:z.cells.size=size) (hs0:0<size) (hb0:0<bytes)
  (v:Value) (n:Nat) (cs:List Value) (hown:W.ownsRow 0 e size v n cs) (A:Option Addr) (m c:Nat) (news:List Value) (hl:news.length=m*size)
  (hA:0<m→∃b o,A=some ⟨b,o,none⟩∧∀j u,news[j]? =some u→W.cell? ⟨b,o+j,none⟩=some u) (h1:∀u∈news,u.oneCell' =true) (hbytes:(n+m)*bytes≤140737488355328):
  ∃v' w',(Builtin.append_ #[t,t] ty #[v,.slice A m c]).run P W= .ok v' w'∧w'.ownsRow 0 e size v' (n+m) (cs++news)∧W.grownBy w' v.ownBlock∧(v'.ownBlock=v.ownBlock∨v'.ownBlock=some W.heap.size):=by
 obtain⟨i,q,k⟩:=Option.map_eq_some_iff.1 hinfo;simp only[Prod.mk.injEq] at k;obtain⟨s,g,x⟩:=k;have p:n+m≤maxLen:=by
  have:n+m≤(n+m)*bytes:=Nat.le_mul_of_pos_right _ hb0;simp only[maxLen];omega
 cases A with
 |none=>
  rcases Nat.eq_zero_or_pos m with d|d
  ·subst d
   have l:news=[]:=List.length_eq_zero_iff.1 (by simpa using hl);subst l;exact⟨v,W,uV (bytes:=bytes) t ty e ht size q g 0 v n cs c hown,by simpa using hown,⟨rfl,rfl,rfl,jn _,fun _ _ _=>rfl⟩,.inl rfl⟩
  ·obtain⟨b,o,h,_⟩:=hA d
   cases h
 |some ad=>
  have f:∀j u,news[j]? =some u→W.cell? (ad.add j)=some u:=by
   intro j u r;rcases Nat.eq_zero_or_pos m with d|d
   ·subst d
    have l:news=[]:=List.length_eq_zero_iff.1 (by simpa using hl);subst l;simp at r
   ·obtain⟨b,o,h,D⟩:=hA d
    cases h;have ha:(⟨b,o,none⟩:Addr).add j=⟨b,o+j,none⟩:=by unfold Addr.add;split<;>simp_all
    rw[ha];exact D j u r
  obtain⟨v',w',E,y,B,_,C⟩:=run_append_own_at (P:=P) (w:=W) 0 t ty e i z size bytes ht q s g x hz hs0 v n cs hown ad m c news hl f h1 p hbytes (j8 _);exact⟨v',w',E,y,B,C⟩
variable {ops:Array Oper} {rest:List Oper} {o:Oper} {a:Act} {Q:Exit→Act→World→Prop} {K:Act→World→Prop}
theorem na {s x:Operand} {t:TypeId} (ho:o.op= .call {callee:= .builtin .append,args:= #[s,x],argTypes:= #[t,t]}) {v y v':Value} {w':World} (hs:a.eval s=v) (hx:a.eval x=y)
  (hr:(Builtin.append_ #[t,t] o.type #[v,y]).run P W= .ok v' w') (h:K (a.put o.dst v') w'):o.wp P a W K Q:=by
 unfold Oper.wp execOp;simp only[ho,resolve,invoke,builtin,Sem.run_bind,Sem.run_pure,Result.andThen_ok,List.map_toArray,List.map_cons,List.map_nil,hs,hx,hr];exact h
variable {d:Ty α} {e:TypeId} {F G:Nat→Prop} {v:Value} {xs:List α}
theorem Ow.snoc {cs:List Value} {Fs:Nat→Nat→Prop} {w':World} {v':Value} {y:α} {news:List Value} {Fy:Nat→Prop}
  (hsz:0<d.sz) (h1:W.ownsRow 0 e d.sz v xs.length cs) (h2:∀g,v.ownBlock=some g→F g) (h3:∀j k,Fs j k→F k∧some k≠v.ownBlock) (h4:∀i j k,i≠j→Fs i k→Fs j k→False)
  (h5:∀j x,xs[j]? =some x→d.rel W (Fs j) x ((cs.drop (j*d.sz)).take d.sz))
  (hy:d.rel W Fy y news) (hyF:∀k,Fy k→¬F k) (hyw:∀k,Fy k→k<W.heap.size)
  (hown:w'.ownsRow 0 e d.sz v' (xs.length+1) (cs++news)) (hg:W.grownBy w' v.ownBlock) (hat:v'.ownBlock=v.ownBlock∨∃b,v'.ownBlock=some b∧W.heap.size≤b)
  (hFG:∀k,F k→G k) (hyG:∀k,Fy k→G k) (hnG:∀k,W.heap.size≤k→G k):Ow d e w' G v' (xs++[y]):=by
 have q:=h1.1;have z:=d.len hy;have t:∀j k,Fs j k→k<W.heap.size→w'.heap[k]? =W.heap[k]? :=fun j k a c=>hg.block k c (h3 j k a).2;refine⟨cs++news,fun j k=>(j<xs.length∧Fs j k∧k<W.heap.size)∨(j=xs.length∧Fy k),by simpa using hown,fun g p=>?_,fun j k a=>?_,fun i j k u s f=>?_,fun j x f=>?_⟩
 ·rcases hat with hat|⟨b,o,c⟩
  ·exact hFG g (h2 g (hat▸p))
  ·rw[o] at p;cases p;exact hnG g c
 ·have r:∀k,k<W.heap.size→(some k≠v.ownBlock)→some k≠v'.ownBlock:=fun k a A l=>by
   rcases hat with hat|⟨b,o,c⟩
   ·exact A (l.trans hat)
   ·rw[o] at l;cases l;omega
  rcases a with ⟨f,a,c⟩|⟨f,a⟩
  ·exact⟨hFG k (h3 j k a).1,r k c (h3 j k a).2⟩
  ·exact⟨hyG k a,r k (hyw k a) (fun l=>hyF k a (h2 k l.symm))⟩
 ·rcases s with ⟨s,m,_⟩|⟨s,m⟩<;>rcases f with ⟨f,n,_⟩|⟨f,n⟩
  ·exact h4 i j k u m n
  ·exact hyF k n (h3 i k m).1
  ·exact hyF k m (h3 j k n).1
  ·omega
 ·rcases Nat.lt_or_ge j xs.length with c|B
  ·rw[List.getElem?_append_left c] at f
   have C:j*d.sz+d.sz≤cs.length:=by rw[q,←Nat.succ_mul];exact Nat.mul_le_mul_right _ c
   rw[List.drop_append_of_le_length fT,List.take_append_of_le_length (by rw[List.length_drop];omega)];have o:=d.bound (h5 j x f);exact d.mono (fun k a=> .inl ⟨c,a.1,a.2⟩) (d.move (fun k a=>t j k a.1 a.2) o)
  ·have hj':j=xs.length:=by have:=(List.getElem?_eq_some_iff.1 f).1;simp at this;omega
   subst hj';have w:y=x:=by simpa using f
   subst w;rw[←q,List.drop_left,←z,li];exact d.mono (fun k a=> .inr ⟨fT,a⟩) (d.move (fun k a=>hg.block k (hyw k a) (fun l=>hyF k a (h2 k l.symm))) hy)
theorem qR (t ty:TypeId) (ht:P.underlying t=some (.slice e)) (z:Value) (bytes:Nat) (hinfo:(P.info? e).map (fun i=>(i.zero,i.size,i.bytes))=some (some z,d.sz,bytes)) (hz:z.cells.size=d.sz) (hs0:0<d.sz) (hb0:0<bytes)
  (HO:Ow d e W F v xs) (y:α) (ys:Array Value) (H:Nat) {fr:Nat×Nat} {e':TypeId} (hH:W.heap[H]? =some (.cells ys e' fr)) (Fy:Nat→Prop) (hy:d.rel W Fy y ys.toList) (hyF:∀k,Fy k→¬F k) (hyw:∀k,Fy k→k<W.heap.size) (hl:(xs.length+1)*bytes≤140737488355328)
  (hFG:∀k,F k→G k) (hyG:∀k,Fy k→G k) (hnG:∀k,W.heap.size≤k→G k):
  ∃v1 w1,(Builtin.append_ #[t,t] ty #[v,.slice (some ⟨H,0,none⟩) 1 1]).run P W= .ok v1 w1∧Ow d e w1 G v1 (xs++[y])∧W.grownBy w1 v.ownBlock∧(v1.ownBlock=v.ownBlock∨∃b,v1.ownBlock=some b∧W.heap.size≤b):=by
 obtain⟨g,s,a,l,m,n,o⟩:=HO;obtain⟨v1,w1,r,q,f,c⟩:=oI (P:=P) (W:=W) t ty e ht z d.sz bytes hinfo hz hs0 hb0 v xs.length g a (some ⟨H,0,none⟩) 1 1 ys.toList (by rw[d.len hy,Nat.one_mul])
  (fun _=>⟨H,0,rfl,fun j u p=>by
   simp only[World.cell?,hH,Nat.zero_add];simpa using p⟩) (d.one hy) hl
 have hat':v1.ownBlock=v.ownBlock∨∃b,v1.ownBlock=some b∧W.heap.size≤b:=c.imp_right fun h=>⟨_,h,jn _⟩;exact⟨v1,w1,r,Ow.snoc hs0 a l m n o hy hyF hyw q f hat' hFG hyG hnG,f,hat'⟩
theorem ky (hgd:o.guard=none) {s x:Operand} (t:TypeId) (ho:o.op= .call {callee:= .builtin .append,args:= #[s,x],argTypes:= #[t,t]}) (ht:P.underlying t=some (.slice e)) (z:Value) (bytes:Nat)
  (hinfo:(P.info? e).map (fun i=>(i.zero,i.size,i.bytes))=some (some z,d.sz,bytes)) (hz:z.cells.size=d.sz) (hs0:0<d.sz) (hb0:0<bytes)
  (hs:a.eval s=v) (HO:Ow d e W F v xs) (y:α) (ys:Array Value) {H:Nat} (hx:a.eval x= .slice (some ⟨H,0,none⟩) 1 1) {fr:Nat×Nat} {e':TypeId} (hH:W.heap[H]? =some (.cells ys e' fr)) (Fy:Nat→Prop) (hy:d.rel W Fy y ys.toList) (hyF:∀k,Fy k→¬F k) (hyw:∀k,Fy k→k<W.heap.size) (hl:(xs.length+1)*bytes≤140737488355328)
  (G:Nat→Prop) (hFG:∀k,F k→G k) (hyG:∀k,Fy k→G k) (hnG:∀k,W.heap.size≤k→G k)
  (h:∀v1 w1,Ow d e w1 G v1 (xs++[y])→W.grownBy w1 v.ownBlock→(v1.ownBlock=v.ownBlock∨∃b,v1.ownBlock=some b∧W.heap.size≤b)→wpList P ops Q rest (a.put o.dst v1) w1):
  wpList P ops Q (o::rest) a W:=
 wpList_plain hgd fun _ hK=>by
  obtain⟨v1,w1,hr,h1,h2,h3⟩:=qR (G:=G) t o.type ht z bytes hinfo hz hs0 hb0 HO y ys H hH Fy hy hyF hyw hl hFG hyG hnG;exact na ho hs hx hr (hK _ _ (h v1 w1 h1 h2 h3))
theorem jO {s x:Operand} (t:TypeId) (ho:o.op= .call {callee:= .builtin .append,args:= #[s,x],argTypes:= #[t,t]}) (ht:P.underlying t=some (.slice e)) (z:Value) (bytes:Nat)
  (hinfo:(P.info? e).map (fun i=>(i.zero,i.size,i.bytes))=some (some z,d.sz,bytes)) (hz:z.cells.size=d.sz) (hs0:0<d.sz) (hb0:0<bytes)
  (hs:a.eval s=v) (HO:Ow d e W F v xs) (y:α) (ys:Array Value) {H:Nat} (hx:a.eval x= .slice (some ⟨H,0,none⟩) 1 1) {fr:Nat×Nat} {e':TypeId} (hH:W.heap[H]? =some (.cells ys e' fr)) (Fy:Nat→Prop) (hy:d.rel W Fy y ys.toList) (hyF:∀k,Fy k→¬F k) (hyw:∀k,Fy k→k<W.heap.size) (hl:(xs.length+1)*bytes≤140737488355328)
  (G:Nat→Prop) (hFG:∀k,F k→G k) (hyG:∀k,Fy k→G k) (hnG:∀k,W.heap.size≤k→G k)
  (h:∀v1 w1,Ow d e w1 G v1 (xs++[y])→W.grownBy w1 v.ownBlock→(v1.ownBlock=v.ownBlock∨∃b,v1.ownBlock=some b∧W.heap.size≤b)→K (a.put o.dst v1) w1):
  o.wp P a W K Q:=by
 obtain⟨v1,w1,j,c,f,g⟩:=qR (G:=G) t o.type ht z bytes hinfo hz hs0 hb0 HO y ys H hH Fy hy hyF hyw hl hFG hyG hnG;exact na ho hs hx j (h v1 w1 c f g)
theorem t7 {cells:α→List Value} {sz:Nat} (hl:∀x,(cells x).length=sz) {b:Nat}:∀(ys:List α) (o:Nat),(∀j x,ys[j]? =some x→∀i u,(cells x)[i]? =some u→W.cell? ⟨b,o+j*sz+i,none⟩=some u)→
  ∀j u,(ys.flatMap cells)[j]? =some u→W.cell? ⟨b,o+j,none⟩=some u
 | [],_,_,j,u,hj=>by simp at hj
 |y::ys,o,h,j,u,hj=>by
  rw[List.flatMap_cons] at hj;rcases Nat.lt_or_ge j (cells y).length with hlt|hge
  ·rw[List.getElem?_append_left hlt] at hj
   have:=h 0 y rfl j u hj;simpa using this
  ·rw[List.getElem?_append_right hge] at hj
   have:=t7 hl ys (o+sz) (fun j' x hj' i u hi=>by
    have:=h (j'+1) x (by simpa using hj') i u hi;rw[Nat.succ_mul] at this;rw[show o+sz+j'*sz+i=o+(j'*sz+sz)+i from by omega];exact this) _ u hj
   rw[hl y] at this hge;rw[show o+j=o+sz+(j-sz) from by omega];exact this
theorem Ow.flatRow {cells:α→List Value} {sz:Nat} {hl:∀x,(cells x).length=sz} {ho:∀x,∀u∈cells x,u.oneCell' =true} (h:Ow (kx cells sz hl ho) e W F v xs):W.ownsRow 0 e sz v xs.length (xs.flatMap cells):=by
 obtain⟨a,n,c,i,k,l,f⟩:=h;have g:a=xs.flatMap cells:=by
  have b:a.length=xs.length*sz:=c.1;have h5':∀j x,xs[j]? =some x→(a.drop (j*sz)).take sz=cells x:=f;clear c i k l f
  induction xs generalizing a with
  |nil=>simpa using b
  |cons y ys ih=>
   have d:=h5' 0 y rfl;simp only[Nat.zero_mul,List.drop_zero] at d;have:=ih (a.drop sz) (by rw[List.length_drop,b,List.length_cons,Nat.succ_mul];omega) (fun j x m=>by
    have:=h5' (j+1) x (by simpa using m);rw[Nat.succ_mul,Nat.add_comm,←List.drop_drop] at this;exact this)
   rw[List.flatMap_cons,←d,←this,List.take_append_drop]
 rw[g] at c;exact c
theorem mD {cells:α→List Value} {sz:Nat} (hl:∀x,(cells x).length=sz) (ys:List α):(ys.flatMap cells).length=ys.length*sz:=by
 induction ys with
 |nil=>simp
 |cons y ys ih=>rw[List.flatMap_cons,List.length_append,ih,hl,List.length_cons,Nat.succ_mul];omega
theorem qS {cells:α→List Value} {sz:Nat} {hl:∀x,(cells x).length=sz} {ho1:∀x,∀u∈cells x,u.oneCell' =true} (t ty:TypeId) (ht:P.underlying t=some (.slice e)) (z:Value) (bytes:Nat) (hinfo:(P.info? e).map (fun i=>(i.zero,i.size,i.bytes))=some (some z,sz,bytes)) (hz:z.cells.size=sz) (hs0:0<sz) (hb0:0<bytes)
  (HO:Ow (kx cells sz hl ho1) e W F v xs) {vy:Value} {ys:List α} {Fy:Nat→Prop} (hy:Rd (kx cells sz hl ho1) W Fy vy ys) (hb:(xs.length+ys.length)*bytes≤140737488355328)
  (hFG:∀k,F k→G k) (hnG:∀k,W.heap.size≤k→G k):
  ∃v1 w1,(Builtin.append_ #[t,t] ty #[v,vy]).run P W= .ok v1 w1∧Ow (kx cells sz hl ho1) e w1 G v1 (xs++ys)∧W.grownBy w1 v.ownBlock∧(v1.ownBlock=v.ownBlock∨∃b,v1.ownBlock=some b∧W.heap.size≤b):=by
 have y:=HO.flatRow;obtain⟨A,c,rfl,L,_,B⟩:=hy;obtain⟨v1,w1,I,l,C,p⟩:=oI (P:=P) (W:=W) t ty e ht z sz bytes hinfo hz hs0 hb0 v xs.length _ y A ys.length c (ys.flatMap cells) (mD hl ys)
  (fun H=>by
   obtain⟨b,o,n,_,_,f⟩:=B H;exact⟨b,o,n,t7 hl ys o (fun j x E i u D=>by
    obtain⟨w,r,m⟩:=f j x E;have hcs':w=cells x:=r;subst hcs';exact m i u D)⟩)
  (fun u m=>by obtain⟨x,_,J⟩:=List.mem_flatMap.1 m;exact ho1 x u J) hb
 have a:v1.ownBlock=v.ownBlock∨∃b,v1.ownBlock=some b∧W.heap.size≤b:=p.imp_right fun h=>⟨_,h,jn _⟩;refine⟨v1,w1,I,Ow.of_flat (base:=0) (by rw[List.flatMap_append,List.length_append];exact l) (fun g d=>?_),C,a⟩;rcases a with a|⟨b,q,s⟩
 ·exact hFG g (HO.inF (a▸d))
 ·rw[q] at d;cases d;exact hnG _ s
theorem jH {cells:α→List Value} {sz:Nat} {hl:∀x,(cells x).length=sz} {ho1:∀x,∀u∈cells x,u.oneCell' =true} (hgd:o.guard=none) {s x:Operand} (t:TypeId) (ho:o.op= .call {callee:= .builtin .append,args:= #[s,x],argTypes:= #[t,t]}) (ht:P.underlying t=some (.slice e)) (z:Value) (bytes:Nat)
  (hinfo:(P.info? e).map (fun i=>(i.zero,i.size,i.bytes))=some (some z,sz,bytes)) (hz:z.cells.size=sz) (hs0:0<sz) (hb0:0<bytes)
  (hs:a.eval s=v) (HO:Ow (kx cells sz hl ho1) e W F v xs) {vy:Value} (hx:a.eval x=vy) {ys:List α} {Fy:Nat→Prop} (hy:Rd (kx cells sz hl ho1) W Fy vy ys) (hb:(xs.length+ys.length)*bytes≤140737488355328)
  (G:Nat→Prop) (hFG:∀k,F k→G k) (hnG:∀k,W.heap.size≤k→G k)
  (h:∀v1 w1,Ow (kx cells sz hl ho1) e w1 G v1 (xs++ys)→W.grownBy w1 v.ownBlock→(v1.ownBlock=v.ownBlock∨∃b,v1.ownBlock=some b∧W.heap.size≤b)→wpList P ops Q rest (a.put o.dst v1) w1):
  wpList P ops Q (o::rest) a W:=
 wpList_plain hgd fun _ hK=>by
  obtain⟨v1,w1,hr,h1,h2,h3⟩:=qS (G:=G) t o.type ht z bytes hinfo hz hs0 hb0 HO hy hb hFG hnG;exact na ho hs hx hr (hK _ _ (h v1 w1 h1 h2 h3))
theorem l8 {cells:α→List Value} {sz:Nat} {hl:∀x,(cells x).length=sz} {ho1:∀x,∀u∈cells x,u.oneCell' =true} {s x:Operand} (t:TypeId) (ho:o.op= .call {callee:= .builtin .append,args:= #[s,x],argTypes:= #[t,t]}) (ht:P.underlying t=some (.slice e)) (z:Value) (bytes:Nat)
  (hinfo:(P.info? e).map (fun i=>(i.zero,i.size,i.bytes))=some (some z,sz,bytes)) (hz:z.cells.size=sz) (hs0:0<sz) (hb0:0<bytes)
  (hs:a.eval s=v) (HO:Ow (kx cells sz hl ho1) e W F v xs) {vy:Value} (hx:a.eval x=vy) {ys:List α} {Fy:Nat→Prop} (hy:Rd (kx cells sz hl ho1) W Fy vy ys) (hb:(xs.length+ys.length)*bytes≤140737488355328)
  (G:Nat→Prop) (hFG:∀k,F k→G k) (hnG:∀k,W.heap.size≤k→G k)
  (h:∀v1 w1,Ow (kx cells sz hl ho1) e w1 G v1 (xs++ys)→W.grownBy w1 v.ownBlock→(v1.ownBlock=v.ownBlock∨∃b,v1.ownBlock=some b∧W.heap.size≤b)→K (a.put o.dst v1) w1):
  o.wp P a W K Q:=by
 obtain⟨v1,w1,g,c,d,f⟩:=qS (G:=G) t o.type ht z bytes hinfo hz hs0 hb0 HO hy hb hFG hnG;exact na ho hs hx g (h v1 w1 c d f)
end
end
section
section
variable {P:Program} {d:Nat} {xs ys:Array Value} {f:Field} {fs:List Field} {a b:Value} {r s:Bool} {w:World}
theorem rG (hn:(f.name== "_")=false) (ha:(part f.type xs f.offset).run P w= .ok a w) (hb:(part f.type ys f.offset).run P w= .ok b w) (he:(Op.equalIn d f.type a b).run P w= .ok r w):(Op.eqFields d xs ys [f]).run P w= .ok r w:=by
 have hn':f.name≠ "_" :=by simpa using hn
 simp only[Op.eqFields,if_pos hn',Sem.run_bind,ha,hb,he,Result.andThen_ok];cases r<;>simp
theorem kk (hn:(f.name== "_")=false) (ha:(part f.type xs f.offset).run P w= .ok a w) (hb:(part f.type ys f.offset).run P w= .ok b w) (he:(Op.equalIn d f.type a b).run P w= .ok r w) (hr:(Op.eqFields d xs ys fs).run P w= .ok s w):(Op.eqFields d xs ys (f::fs)).run P w= .ok (r&&s) w:=by
 have hn':f.name≠ "_" :=by simpa using hn
 rw[Op.eqFields];simp only[if_pos hn',Sem.run_bind,ha,hb,he,Result.andThen_ok];cases r
 ·simp
 ·simpa using hr
theorem xj {t:TypeId} {fs:Array Field} (hu:P.underlying t=some (.struct fs)) (hp:P.stoodInHeld t=false) (h:(Op.eqFields d xs ys fs.toList).run P w= .ok r w):(Op.equalIn (d+1) t (.agg xs) (.agg ys)).run P w= .ok r w:=by
 have a:P.fieldsOf t=fs:=by simp[Program.fieldsOf,hu]
 rw[run_equalIn_struct (P:=P) w d t xs ys (by rw[a];exact hu) hp,a];exact h
end
theorem EC (d:Nat) (w:World) (x0 y0 x1 y1 x2 y2:Int):
  (Op.equalIn (d+2) 127 (.agg #[x0,x1,x2]) (.agg #[y0,y1,y2])).run Tryz.prog w= .ok (x0==y0&&(x1==y1&&(x2==y2))) w:=by
 refine xj Tryz.underlying127 gY ?_;refine kk (by rfl) (by go_simp;rfl) (by go_simp;rfl) (by go_simp) ?_;refine kk (by rfl) (by go_simp;rfl) (by go_simp;rfl) (by go_simp) ?_;exact rG (by rfl) (by go_simp;rfl) (by go_simp;rfl) (by go_simp)
theorem Ez (d:Nat) (w:World) (x y:ll):
  (Op.equalIn (d+2) 127 (.agg #[x.x,x.y,x.c]) (.agg #[y.x,y.y,y.c])).run Tryz.prog w= .ok (decide (x=y)) w:=by
 rw[EC]
 congr 1
 cases x;cases y;rw[Bool.eq_iff_iff];simp
theorem EA (d:Nat) (w:World) (x0 y0 x1 y1 x2 y2 x3 y3 x4 y4 x5 y5 x6 y6:Int):
  (Op.equalIn (d+2) 91 (.agg #[x0,x1,x2,x3,x4,x5,x6]) (.agg #[y0,y1,y2,y3,y4,y5,y6])).run Tryz.prog w= .ok (x0==y0&&(x1==y1&&(x2==y2&&(x3==y3&&(x4==y4&&(x5==y5&&(x6==y6))))))) w:=by
 refine xj Tryz.underlying91 gY ?_;refine kk (by rfl) (by go_simp;rfl) (by go_simp;rfl) (by go_simp) ?_;refine kk (by rfl) (by go_simp;rfl) (by go_simp;rfl) (by go_simp) ?_;refine kk (by rfl) (by go_simp;rfl) (by go_simp;rfl) (by go_simp) ?_;refine kk (by rfl) (by go_simp;rfl) (by go_simp;rfl) (by go_simp) ?_;refine kk (by rfl) (by go_simp;rfl) (by go_simp;rfl) (by go_simp) ?_;refine kk (by rfl) (by go_simp;rfl) (by go_simp;rfl) (by go_simp) ?_;exact rG (by rfl) (by go_simp;rfl) (by go_simp;rfl) (by go_simp)
theorem Ex (d:Nat) (w:World) (x y:hY):
  (Op.equalIn (d+2) 91 (.agg #[x.time,x.to,x.from_,x.count,x.n,x.kind,x.arg]) (.agg #[y.time,y.to,y.from_,y.count,y.n,y.kind,y.arg])).run Tryz.prog w= .ok (decide (x=y)) w:=by
 rw[EA]
 congr 1
 cases x;cases y;rw[Bool.eq_iff_iff];simp
theorem Dl (d:Nat) (w:World) (x0 y0 x1 y1 x2 y2 x3 y3 x4 y4:Int):
  (Op.equalIn (d+2) 101 (.agg #[x0,x1,x2,x3,x4]) (.agg #[y0,y1,y2,y3,y4])).run Tryz.prog w= .ok (x0==y0&&(x1==y1&&(x2==y2&&(x3==y3&&(x4==y4))))) w:=by
 refine xj Tryz.underlying101 gY ?_;refine kk (by rfl) (by go_simp;rfl) (by go_simp;rfl) (by go_simp) ?_;refine kk (by rfl) (by go_simp;rfl) (by go_simp;rfl) (by go_simp) ?_;refine kk (by rfl) (by go_simp;rfl) (by go_simp;rfl) (by go_simp) ?_;refine kk (by rfl) (by go_simp;rfl) (by go_simp;rfl) (by go_simp) ?_;exact rG (by rfl) (by go_simp;rfl) (by go_simp;rfl) (by go_simp)
theorem Dk (d:Nat) (w:World) (x y:ik):
  (Op.equalIn (d+2) 101 (.agg #[x.time,x.proc,x.count,x.n,x.value]) (.agg #[y.time,y.proc,y.count,y.n,y.value])).run Tryz.prog w= .ok (decide (x=y)) w:=by
 rw[Dl]
 congr 1
 cases x;cases y;rw[Bool.eq_iff_iff];simp
theorem EB (d:Nat) (w:World) (x0 y0 x1 y1 x2 y2 x3 y3 x4 y4:Int):
  (Op.equalIn (d+2) 175 (.agg #[x0,x1,x2,x3,x4]) (.agg #[y0,y1,y2,y3,y4])).run Tryz.prog w= .ok (x0==y0&&(x1==y1&&(x2==y2&&(x3==y3&&(x4==y4))))) w:=by
 refine xj Tryz.underlying175 gY ?_;refine kk (by rfl) (by go_simp;rfl) (by go_simp;rfl) (by go_simp) ?_;refine kk (by rfl) (by go_simp;rfl) (by go_simp;rfl) (by go_simp) ?_;refine kk (by rfl) (by go_simp;rfl) (by go_simp;rfl) (by go_simp) ?_;refine kk (by rfl) (by go_simp;rfl) (by go_simp;rfl) (by go_simp) ?_;exact rG (by rfl) (by go_simp;rfl) (by go_simp;rfl) (by go_simp)
theorem Ey (d:Nat) (w:World) (x y:lJ):
  (Op.equalIn (d+2) 175 (.agg #[x.d,x.a,x.b,x.c,x.e]) (.agg #[y.d,y.a,y.b,y.c,y.e])).run Tryz.prog w= .ok (decide (x=y)) w:=by
 rw[EB]
 congr 1
 cases x;cases y;rw[Bool.eq_iff_iff];simp
attribute [go_sem high] Ez Ex Dk Ey
end
theorem ii (a l h:Int) (w:World):Calls Tryz.prog 31 #[a,l,h] w fun e w' =>e= .returned (.bool (ib a l h))∧w' =w:=by
 by_cases h1:l≤a<;>by_cases h2:a≤h
 all_goals
  go_enter Tryz.func31,Tryz.ntmps31;go_wp2;go_ret;exact⟨by simp[ib,h1,h2],rfl⟩
theorem nI (a:Int) (w:World):Calls Tryz.prog 60 #[a] w fun e w' =>e= .returned (.bool (ib a 0 999))∧w' =w:=by
 go_enter Tryz.func60,Tryz.ntmps60;go_wp2_with (go_at_call 31;refine(ii _ _ _ _).mono ?_;rintro e w' ⟨rfl,rfl⟩);go_ret;exact⟨rfl,rfl⟩
theorem km (a:Int) (w:World):Calls Tryz.prog 59 #[a] w fun e w' =>e= .returned (.bool (ib a 0 3))∧w' =w:=by
 go_enter Tryz.func59,Tryz.ntmps59;go_wp2_with (go_at_call 31;refine(ii _ _ _ _).mono ?_;rintro e w' ⟨rfl,rfl⟩);go_ret;exact⟨rfl,rfl⟩
theorem zR (a:Int) (w:World):Calls Tryz.prog 147 #[a] w fun e w' =>e= .returned (.bool (ib a 0 1))∧w' =w:=by
 go_enter Tryz.func147,Tryz.ntmps147;go_wp2_with (go_at_call 31;refine(ii _ _ _ _).mono ?_;rintro e w' ⟨rfl,rfl⟩);go_ret;exact⟨rfl,rfl⟩
def lJ.val (o:lJ):Value:= .agg #[o.d,o.a,o.b,o.c,o.e]
theorem rM (d a b c e:Int) (w:World):Calls Tryz.prog 105 #[.agg #[d,a,b,c,e]] w fun r w' =>r= .returned (.bool (kg ⟨d,a,b,c,e⟩))∧Below w.heap.size w w':=by
 by_cases k:d=1∨d=2∨d=3∨d=4∨d=5∨d=6∨d=7
 ·rcases k with rfl|rfl|rfl|rfl|rfl|rfl|rfl
  all_goals
   go_enter Tryz.func105,Tryz.ntmps105;go_wp2_with (first|(go_at_call 147;refine(zR _ _).mono ?_;rintro e w' ⟨rfl,rfl⟩)|(go_at_call 60;refine(nI _ _).mono ?_;rintro e w' ⟨rfl,rfl⟩)|(go_at_call 59;refine(km _ _).mono ?_;rintro e w' ⟨rfl,rfl⟩)|(go_at_call 31;refine(ii _ _ _ _).mono ?_;rintro e w' ⟨rfl,rfl⟩))
   all_goals
    go_ret;exact⟨by simp[kg, *],gs (gM _ _) _⟩
 ·have g:(d==1)=false:=by simp;omega
  have i:(d==2)=false:=by simp;omega
  have j:(d==3)=false:=by simp;omega
  have l:(d==4)=false:=by simp;omega
  have m:(d==5)=false:=by simp;omega
  have n:(d==6)=false:=by simp;omega
  have o:(d==7)=false:=by simp;omega
  have f:kg ⟨d,a,b,c,e⟩=false:=by simp only[kg];rw[if_neg fT,if_neg fT,if_neg fT,if_neg fT,if_neg fT]
  clear k;go_enter Tryz.func105,Tryz.ntmps105;go_wp2_with (first|(go_at_call 147;refine(zR _ _).mono ?_;rintro e w' ⟨rfl,rfl⟩)|(go_at_call 60;refine(nI _ _).mono ?_;rintro e w' ⟨rfl,rfl⟩)|(go_at_call 59;refine(km _ _).mono ?_;rintro e w' ⟨rfl,rfl⟩)|(go_at_call 31;refine(ii _ _ _ _).mono ?_;rintro e w' ⟨rfl,rfl⟩))
  all_goals
   go_ret;exact⟨by simp[f],gs (gM _ _) _⟩
end Go.Proofs.YtlndjfflhegkdaaGreatDoor
