/- Parts of the proof: SimQ, SimR, Draw1, Spc3, Ins, Nest, SimW, Ln1, Nd1, Nd2, Imp1, Par2, Nf0, Imp11, Draw3, Draw4, Draw5, Lt, Spc11, Row. -/
import Derived.OwnWalk
import Derived.Laws.EntriesVeiled
import Derived.Test.YtgilllnjhahkfaaGreatRows
import Derived.Lib.SlBytesRowKit
import Derived.ProofKit
import Derived.Test.YtgilllnjhahkfaaGreatQ04
import Derived.Test.YtgilllnjhahkfaaGreatQ10
set_option linter.unusedVariables false
set_option linter.unusedSimpArgs false
set_option linter.unusedSectionVars false
set_option maxHeartbeats 4000000
namespace Go.Proofs.YtgilllnjhahkfaaGreat
open Go.RowKit
def F6 (l:List mL):Int:=(l.map (fun t=>12-t.c)).sum
structure GC (s:nT):Prop where
 len:s.states.length=4
 st:∀t∈s.states,kR t=true
 q:∀e∈s.queue,jM e=true
 qs:s.queue.Pairwise (fun a b=>hY a b=true)
 o:∀o∈s.outs,om o=true
 os:s.outs.Pairwise (fun a b=>hM a b=true)
 qn:(s.queue.length:Int)+2*F6 s.states≤100
 on:(s.outs.length:Int)+2*F6 s.states≤96
 oc:∀o∈s.outs,∀t,s.states[o.proc.toNat]? =some t→o.count<t.c
structure Next (apps:List iM) (s:nT) (e:im) (rest:List im) (x:nT):Prop where
 inv:GC x
 less:(x.queue.length:Int)+2*F6 x.states<(s.queue.length:Int)+2*F6 s.states
 later:∀q∈x.queue,e.time≤q.time∧q≠e
 outs:∃new:List iQ,x.outs=jX (s.outs++new)∧∀o∈new,o.time=e.time
 qlen:s.queue.length-1≤x.queue.length
 states:∀p,p≠e.to.toNat→x.states[p]? =s.states[p]?
 count:∀t t',s.states[e.to.toNat]? =some t→x.states[e.to.toNat]? =some t'→(t.c=12∧t' =t)∨(t.c<12∧t'.c=t.c+1)
 to_:0≤e.to∧e.to≤3
def left (s:nT):Int:=s.queue.length+2*F6 s.states
set_option maxRecDepth 100000
theorem Fz {w:World} {s:Nat} {t:TypeId} {a b c d e:Value} (h:w.heap[s]? =some (.cells #[a,b,c,d,e] t (0,0))):
  w.cell? ⟨s,0,none⟩=some a∧w.cell? ⟨s,1,none⟩=some b∧w.cell? ⟨s,2,none⟩=some c∧w.cell? ⟨s,3,none⟩=some d∧w.cell? ⟨s,4,none⟩=some e∧∀i,w.frozen? ⟨s,i,none⟩=false:=
 ⟨gM h 0,gM h 1,gM h 2,gM h 3,gM h 4,ft h⟩
def GK (o:mi):Value:= .agg #[o.d,o.a,o.b,o.c,o.e]
theorem Rd.alloc {α:Type} {d:Ty α} {w:World} {F:Nat→Prop} {v:Value} {xs:List α} (h:Rd d w F v xs) (o:Obj):Rd d (w.alloc o) F v xs:=h.below (gU (gY _ _) o)
section
section
variable {α:Type} [Inhabited α] {lt:α→α→Bool}
def Bb (l:List α) (x:α) (n:Nat):List α:=(l++[x]).take (n+1)++l.drop n
theorem Dy (l:List α) (x:α):Bb l x l.length=l++[x]:=by
 rw[Bb,List.take_of_length_le (by simp),List.drop_length,List.append_nil]
theorem ux (l:List α) (x:α) {n:Nat} (h:n≤l.length):(Bb l x n).length=l.length+1:=by
 simp[Bb];omega
theorem Fo (l:List α) (x:α) {n:Nat} (h0:0<n) (h:n≤l.length) (h2:n-1<(Bb l x n).length):(Bb l x n)[n-1]=kK l (n-1):=by
 rw[iP (by omega)];simp only[Bb];rw[List.getElem_append_left (by simp;omega),List.getElem_take,List.getElem_append_left (by omega)]
theorem DX (l:List α) (x:α) {n:Nat} (h0:0<n) (h:n≤l.length):(Bb l x n).set n (kK l (n-1))=Bb l x (n-1):=by
 obtain⟨m,rfl⟩:∃m,n=m+1:=⟨n-1,by omega⟩;simp only[Nat.add_sub_cancel];rw[iP (by omega)];have a:(l++[x]).take (m+1+1)=(l++[x]).take (m+1)++[(l++[x])[m+1]'(by simp;omega)]:=by rw[List.take_succ_eq_append_getElem]
 have b:((l++[x]).take (m+1)).length=m+1:=by simp;omega
 have c:l.drop m=l[m]::l.drop (m+1):=by rw[List.drop_eq_getElem_cons (by omega)]
 rw[Bb,Bb,a,c,List.append_assoc,List.set_append,if_neg (by omega),b];simp
theorem Ej (l:List α) (x:α) {k:Nat} (h:k≤l.length):(Bb l x k).set k x=pK l x k:=by
 have a:(l++[x]).take (k+1)=l.take k++[(l++[x])[k]'(by simp;omega)]:=by
  rw[List.take_succ_eq_append_getElem (by simp;omega),List.take_append_of_le_length h]
 have b:(l.take k).length=k:=by simp;omega
 rw[Bb,a,pK,List.append_assoc,List.set_append,if_neg (by omega),b];simp
theorem zA {l:List α} {x:α} {k:Nat} (h0:0<k) (h:lt x (kK l (k-1))=true):ki lt l x k=ki lt l x (k-1):=by
 obtain⟨m,rfl⟩:∃m,k=m+1:=⟨k-1,by omega⟩;simp only[Nat.add_sub_cancel] at h ⊢;rw[ki,if_pos h]
theorem vI {l:List α} {x:α} {k:Nat} (h:0<k→lt x (kK l (k-1))=false):ki lt l x k=k:=by
 cases k with
 |zero=>rfl
 |succ m=>
  have:=h (by omega);simp only[Nat.add_sub_cancel] at this;rw[ki,if_neg (by simp[this])]
theorem qE {β:Type} (f:List α→α→List α) {l:List α} {k:Nat} (h:k<l.length):(l.take (k+1)).foldl f []=f ((l.take k).foldl f []) l[k]:=by
 rw[List.take_succ_eq_append_getElem h,List.foldl_append];rfl
theorem zz [DecidableEq α] (l:List α) (x:α):(kN lt l x).length≤l.length+1:=by
 unfold kN;split
 ·omega
 ·have:=qd (lt:=lt) l x l.length
  simp[pK];omega
theorem po [DecidableEq α] (xs:List α):∀k,k≤xs.length→((xs.take k).foldl (kN lt) []).length≤k
 |0,_=>by simp
 |k+1,h=>by
  rw[qE (β:=α) _ (by omega)];have:=zz (lt:=lt) ((xs.take k).foldl (kN lt) []) (xs[k]'(by omega));have:=po xs k (by omega);omega
theorem tQ (xs:List α):∀k,k≤xs.length→((xs.take k).foldl (lW lt) []).length=k
 |0,_=>by simp
 |k+1,h=>by
  rw[qE (β:=α) _ (by omega)];have h1:=tQ xs k (by omega);have:=qd (lt:=lt) ((xs.take k).foldl (lW lt) []) (xs[k]'(by omega)) ((xs.take k).foldl (lW lt) []).length;simp[lW,pK];omega
end
end
theorem Ow.oneCell {α:Type} {d:Ty α} {e:TypeId} {w:World} {F:Nat→Prop} {v:Value} {xs:List α} (h:Ow d e w F v xs):v.oneCell' =true:=by
 obtain⟨A,c,rfl,_⟩:=h.shape;rfl
def l7:Ty jJ where
 sz:=2
 rel:=fun w F x cs=>∃v,cs=[.int .i64 x.kind,v]∧Ow pO 187 w F v x.ops
 len:=fun ⟨v,h,_⟩=>by rw[h];rfl
 one:=fun ⟨v,h,hr⟩ u hu=>by
  have h1:=hr.oneCell;rw[h] at hu;simp at hu;rcases hu with rfl|rfl
  ·rfl
  ·exact h1
 mono:=fun hF ⟨v,h,hr⟩=>⟨v,h,hr.mono hF⟩
 move:=fun hm ⟨v,h,hr⟩=>⟨v,h,hr.move hm⟩
 bound:=fun ⟨v,h,hr⟩=>⟨v,h,hr.bound⟩
def ob:Ty iM where
 sz:=1
 rel:=fun w F x cs=>∃v,cs=[v]∧Ow l7 126 w F v x.rules
 len:=fun ⟨v,h,_⟩=>by rw[h];rfl
 one:=fun ⟨v,h,hr⟩ u hu=>by
  have h1:=hr.oneCell;rw[h] at hu;simp at hu;rcases hu with rfl;exact h1
 mono:=fun hF ⟨v,h,hr⟩=>⟨v,h,hr.mono hF⟩
 move:=fun hm ⟨v,h,hr⟩=>⟨v,h,hr.move hm⟩
 bound:=fun ⟨v,h,hr⟩=>⟨v,h,hr.bound⟩
theorem Rd.map {α:Type} {d d':Ty α} {w:World} {F:Nat→Prop} {v:Value} {xs:List α} (hs:d.sz=d'.sz) (hr:∀x cs,d.rel w F x cs→d'.rel w F x cs) (h:Rd d w F v xs):Rd d' w F v xs:=by
 obtain⟨A,c,rfl,e,f,g⟩:=h;refine⟨A,c,rfl,e,f,fun n=>?_⟩;obtain⟨b,o,rfl,hF,a,l⟩:=g n;refine⟨b,o,rfl,hF,a,fun j x m=>?_⟩;obtain⟨cs,i,k⟩:=l j x m;exact⟨cs,hr x cs i,by rw[←hs];exact k⟩
theorem Ow.rdRules {w:World} {F:Nat→Prop} {v:Value} {xs:List jJ} {e:TypeId} (h:Ow l7 e w F v xs):Rd k6 w F v xs:=
 Rd.map (d:=l7) rfl (fun x cs ⟨v,h1,h2⟩=>⟨v,h1,h2.rd⟩) h.rd
theorem Ow.rdApps {w:World} {F:Nat→Prop} {v:Value} {xs:List iM} {e:TypeId} (h:Ow ob e w F v xs):Rd oE w F v xs:=
 Rd.map (d:=ob) rfl (fun x cs ⟨v,h1,h2⟩=>⟨v,h1,h2.rdRules⟩) h.rd
section
theorem EA:(Tryz.prog.info? 62).map (fun i=>(i.zero,i.size,i.bytes))=some (some (.agg #[.int .i64 0,.int .i64 0,.int .i64 0]),3,24):=ie
abbrev xp:=Value→World→(Nat→Prop)→Prop
def NN (l:List (Nat×xp)) (j:Nat) (v:Value) (w:World) (F:Nat→Prop):Prop:=match l with| []=>True|(i,p)::r=>if j=i then p v w F else NN r j v w F
def EV (p:xp):Prop:=∀v w w' F,p v w F→(∀k,F k→w'.heap[k]? =w.heap[k]?)→p v w' F
def DZ:List (Nat×xp)→Prop| []=>True|p::r=>EV p.2∧DZ r
theorem Be:∀(l:List (Nat×xp)),DZ l→∀j v w w' F,NN l j v w F→(∀k,F k→w'.heap[k]? =w.heap[k]?)→NN l j v w' F
 | [],_,_,_,_,_,_,_,_=>trivial
 |(i,p)::r,hl,j,v,w,w',F,h,hm=>by
  unfold NN at h ⊢;split
  ·rename_i hj;rw[if_pos hj] at h;exact hl.1 v w w' F h hm
  ·rename_i hj;rw[if_neg hj] at h;exact Be r hl.2 j v w w' F h hm
def tk {α:Type} (d:Ty α) (e:TypeId) (xs:List α):xp:=fun v w F=>Ow d e w F v xs
theorem pD {α:Type} (d:Ty α) (e:TypeId) (xs:List α):EV (tk d e xs):=fun v w w' F h hm=>Ow.move hm h
def GS (p:Value→Prop):xp:=fun v _ _=>p v
structure FR (w:World) (F:Nat→Prop) (vs vq vo:Value) (s:nT):Prop where
 st:Rd rQ w F vs s.states
 qu:Rd iC w F vq s.queue
 ou:Rd ii w F vo s.outs
structure DF (w:World) (F:Nat→Prop) (vs vq vo:Value) (s:nT):Prop where
 st:Ow rQ 62 w F vs s.states
 qu:Ow iC 132 w F vq s.queue
 ou:Ow ii 120 w F vo s.outs
section
variable {w w':World} {F F':Nat→Prop} {vs vq vo:Value} {s:nT}
end
theorem mn {α:Type} {cells:α→List Value} {sz:Nat} {hl:∀x,(cells x).length=sz} {ho:∀x,∀u∈cells x,u.oneCell' =true} {e:TypeId} {W w1:World} {F G:Nat→Prop} {v v1:Value} {xs ys:List α}
  (HO:Ow (k7 cells sz hl ho) e W F v xs) (hO1:Ow (k7 cells sz hl ho) e w1 G v1 ys) (hG1:W.grownBy w1 v.ownBlock) (hat1:v1.ownBlock=v.ownBlock∨∃b,v1.ownBlock=some b∧W.heap.size≤b):
  Ch F W w1∧Ow (k7 cells sz hl ho) e w1 (fun k=>v1.ownBlock=some k) v1 ys∧∀k,v1.ownBlock=some k→(F k∨W.heap.size≤k)∧k<w1.heap.size:=by
 refine⟨(Ch.refl _ _).grown hG1 fun k c=> .inl (HO.inF c),hO1.tight,fun k c=>⟨?_,hO1.block_lt c⟩⟩;rcases hat1 with h|⟨b,f,d⟩
 ·exact .inl (HO.inF (h▸c))
 ·rw[f] at c;cases c;exact .inr d
theorem Rd.dropO {α:Type} {d:Ty α} {w:World} {F:Nat→Prop} {xs:List α} {A:Option Addr} {n c:Nat} (h:Rd d w F (.slice A n c) xs) (k:Nat) (hk:k≤xs.length):Rd d w F (.slice (if c=k then A else A.map fun x=>x.add (k*d.sz)) (n-k) (c-k)) (xs.drop k):=by
 obtain⟨v,y,p,z,B,g⟩:=h;injection p with e1 e2 e3;subst e1 e2 e3;have r:(xs.drop k).length=xs.length-k:=by simp
 refine⟨_,c-k,by rw[r],gO,gO,fun C=>?_⟩;obtain⟨b,o,rfl,l,e,m⟩:=g gO;rw[if_neg gO];refine⟨b,o+k*d.sz,by simp[Addr.add],l,e,fun j x a=>?_⟩;rw[List.getElem?_drop] at a;obtain⟨f,s,t⟩:=m (k+j) x a;refine⟨f,s,fun i u q=>?_⟩;have:=t i u q;rw[Nat.add_mul,←Nat.add_assoc] at this;exact this
theorem Rd.capLe {α:Type} {d:Ty α} {w:World} {F:Nat→Prop} {xs:List α} {A:Option Addr} {n c:Nat} (h:Rd d w F (.slice A n c) xs):xs.length≤c:=by
 obtain⟨b,e,a,f,g,i⟩:=h;injection a with e1 e2 e3;omega
theorem Rd.shape {α:Type} {d:Ty α} {w:World} {F:Nat→Prop} {v:Value} {xs:List α} (h:Rd d w F v xs):∃A c,v= .slice A xs.length c∧xs.length≤9223372036854775807:=by
 obtain⟨A,c,rfl,_,a,_⟩:=h;exact⟨A,c,rfl,a⟩
end
structure iq where
 ev:im
 st:mL
 sends:List im
 outs:List iQ
deriving DecidableEq
structure hZ where
 proc:Int
 base:mL
 done:List iq
deriving DecidableEq
def oJ:hZ:=⟨0,⟨0,0,0⟩,[]⟩
def i3 (p:iq) (proc:Int):Bool:=jM p.ev&&(decide (p.ev.to=proc)&&(kR p.st&&(jK p.sends 2&&jA p.outs 2)))
def lV (p q:iq):Bool:=hY p.ev q.ev
def iW (l:hZ):Bool:=i2 l.proc 0 3&&(kR l.base&&(decide (l.done.length≤100)&&(l.done.all (fun p=>i3 p l.proc)&&lG lV l.done)))
def ij (l:hZ):mL:=match l.done.getLast? with|some p=>p.st|none=>l.base
def il:List iq→List im→Nat
 |p::ps,e::es=>if p.ev=e then il ps es+1 else 0
 |_,_=>0
def lk (l:hZ) (came:List im):Bool:=jK came 100&&came.all (fun e=>decide (e.to=l.proc))
def lD (l:hZ) (came:List im):Option im:=if il l.done came<l.done.length then none else came[il l.done came]?
def nN (a:iM) (l:hZ) (e:im):hZ:=
 {l with done:=l.done++[⟨e,(iO a (ij l) e).1,jS (iO a (ij l) e).2.1,jX (iO a (ij l) e).2.2⟩]}
def jn (a:iM) (l:hZ) (came:List im):hZ×Bool:=
 if iW l=true then
  (if lk l came=true∧je a=true then (match lD l came with|some e=>(nN a l e,true)|none=>(l,false)) else (l,false))
 else (oJ,false)
def kY (p:iq) (vs vo:Value):List Value:=
 [.int .i64 p.ev.time,.int .i64 p.ev.to,.int .i64 p.ev.from_,.int .i64 p.ev.count,.int .i64 p.ev.n,.int .i64 p.ev.kind,.int .i64 p.ev.arg,.int .i64 p.st.x,.int .i64 p.st.y,.int .i64 p.st.c,vs,vo]
def jm:Ty iq where
 sz:=12
 rel:=fun w F x cs=>∃vs vo,cs=kY x vs vo∧Rd iC w F vs x.sends∧Rd ii w F vo x.outs
 len:=fun ⟨vs,vo,h,_⟩=>by rw[h];rfl
 one:=fun ⟨vs,vo,h,h1,h2⟩ u hu=>by
  obtain⟨A,c,rfl,_⟩:=h1;obtain⟨A',c',rfl,_⟩:=h2;rw[h] at hu;simp only[kY,List.mem_cons,List.not_mem_nil,or_false] at hu;rcases hu with rfl|rfl|rfl|rfl|rfl|rfl|rfl|rfl|rfl|rfl|rfl|rfl<;>rfl
 mono:=fun hF ⟨vs,vo,h,h1,h2⟩=>⟨vs,vo,h,h1.mono hF,h2.mono hF⟩
 move:=fun hm ⟨vs,vo,h,h1,h2⟩=>⟨vs,vo,h,h1.move hm,h2.move hm⟩
 bound:=fun ⟨vs,vo,h,h1,h2⟩=>⟨vs,vo,h,h1.bound,h2.bound⟩
def kk:Ty iq where
 sz:=12
 rel:=fun w F x cs=>∃vs vo,cs=kY x vs vo∧Ow iC 132 w F vs x.sends∧Ow ii 120 w F vo x.outs
 len:=fun ⟨vs,vo,h,_⟩=>by rw[h];rfl
 one:=fun ⟨vs,vo,h,h1,h2⟩ u hu=>by
  have g1:=h1.oneCell;have g2:=h2.oneCell;rw[h] at hu;simp only[kY,List.mem_cons,List.not_mem_nil,or_false] at hu;rcases hu with rfl|rfl|rfl|rfl|rfl|rfl|rfl|rfl|rfl|rfl|rfl|rfl<;>first|rfl|assumption
 mono:=fun hF ⟨vs,vo,h,h1,h2⟩=>⟨vs,vo,h,h1.mono hF,h2.mono hF⟩
 move:=fun hm ⟨vs,vo,h,h1,h2⟩=>⟨vs,vo,h,h1.move hm,h2.move hm⟩
 bound:=fun ⟨vs,vo,h,h1,h2⟩=>⟨vs,vo,h,h1.bound,h2.bound⟩
theorem Ow.rdPasts {w:World} {F:Nat→Prop} {v:Value} {xs:List iq} {e:TypeId} (h:Ow kk e w F v xs):Rd jm w F v xs:=
 Rd.map (d:=kk) rfl (fun x cs ⟨vs,vo,h1,h2,h3⟩=>⟨vs,vo,h1,h2.rd,h3.rd⟩) h.rd
theorem k9 {w:World} {F:Nat→Prop} {A:Option Addr} {n c:Nat} {xs:List iq} (h:Rd jm w F (.slice A n c) xs) (j:Nat) (hj:j<xs.length):
  ∃b o A1 c1 A2 c2,A=some ⟨b,o,none⟩∧b<w.heap.size∧(w.cell? ⟨b,o+j*12,none⟩=some (.int .i64 xs[j].ev.time)∧w.cell? ⟨b,o+j*12+1,none⟩=some (.int .i64 xs[j].ev.to)∧w.cell? ⟨b,o+j*12+2,none⟩=some (.int .i64 xs[j].ev.from_)∧w.cell? ⟨b,o+j*12+3,none⟩=some (.int .i64 xs[j].ev.count)∧w.cell? ⟨b,o+j*12+4,none⟩=some (.int .i64 xs[j].ev.n)∧w.cell? ⟨b,o+j*12+5,none⟩=some (.int .i64 xs[j].ev.kind)∧w.cell? ⟨b,o+j*12+6,none⟩=some (.int .i64 xs[j].ev.arg))∧
   (w.cell? ⟨b,o+j*12+7,none⟩=some (.int .i64 xs[j].st.x)∧w.cell? ⟨b,o+j*12+8,none⟩=some (.int .i64 xs[j].st.y)∧w.cell? ⟨b,o+j*12+9,none⟩=some (.int .i64 xs[j].st.c))∧
   w.cell? ⟨b,o+j*12+10,none⟩=some (.slice A1 xs[j].sends.length c1)∧w.cell? ⟨b,o+j*12+11,none⟩=some (.slice A2 xs[j].outs.length c2)∧Rd iC w F (.slice A1 xs[j].sends.length c1) xs[j].sends∧Rd ii w F (.slice A2 xs[j].outs.length c2) xs[j].outs:=by
 obtain⟨b,o,g,rfl,_,d,⟨k,i,rfl,e,f⟩,a⟩:=h.at_ j hj;obtain⟨A1,c1,rfl,_⟩:=id e;obtain⟨A2,c2,rfl,_⟩:=id f;exact⟨b,o,A1,c1,A2,c2,rfl,d,⟨a 0 _ rfl,a 1 _ rfl,a 2 _ rfl,a 3 _ rfl,a 4 _ rfl,a 5 _ rfl,a 6 _ rfl⟩,⟨a 7 _ rfl,a 8 _ rfl,a 9 _ rfl⟩,a 10 _ rfl,a 11 _ rfl,e,f⟩
theorem AF {w:World} {g:Nat} {v0:Value} {t:TypeId} {fr:Nat×Nat} (h:w.heap[g]? =some (.cells #[v0] t fr)):w.cell? ⟨g,0,none⟩=some v0:=gM h 0
theorem zd {w:World} {g:Nat} {v0 v1 v2:Value} {t:TypeId} {fr:Nat×Nat} (h:w.heap[g]? =some (.cells #[v0,v1,v2] t fr)):w.cell? ⟨g,0,none⟩=some v0∧w.cell? ⟨g,1,none⟩=some v1∧w.cell? ⟨g,2,none⟩=some v2:=⟨gM h 0,gM h 1,gM h 2⟩
theorem lN {w:World} {g:Nat} {v0 v1 v2 v3 v4:Value} {t:TypeId} {fr:Nat×Nat} (h:w.heap[g]? =some (.cells #[v0,v1,v2,v3,v4] t fr)):w.cell? ⟨g,0,none⟩=some v0∧w.cell? ⟨g,1,none⟩=some v1∧w.cell? ⟨g,2,none⟩=some v2∧w.cell? ⟨g,3,none⟩=some v3∧w.cell? ⟨g,4,none⟩=some v4:=⟨gM h 0,gM h 1,gM h 2,gM h 3,gM h 4⟩
theorem zY {w:World} {g:Nat} {v0 v1 v2 v3 v4 v5 v6:Value} {t:TypeId} {fr:Nat×Nat} (h:w.heap[g]? =some (.cells #[v0,v1,v2,v3,v4,v5,v6] t fr)):w.cell? ⟨g,0,none⟩=some v0∧w.cell? ⟨g,1,none⟩=some v1∧w.cell? ⟨g,2,none⟩=some v2∧w.cell? ⟨g,3,none⟩=some v3∧w.cell? ⟨g,4,none⟩=some v4∧w.cell? ⟨g,5,none⟩=some v5∧w.cell? ⟨g,6,none⟩=some v6:=⟨gM h 0,gM h 1,gM h 2,gM h 3,gM h 4,gM h 5,gM h 6⟩
theorem pN {w:World} {g:Nat} {v0 v1 v2 v3 v4 v5 v6 v7 v8 v9 v10 v11:Value} {t:TypeId} {fr:Nat×Nat} (h:w.heap[g]? =some (.cells #[v0,v1,v2,v3,v4,v5,v6,v7,v8,v9,v10,v11] t fr)):w.cell? ⟨g,0,none⟩=some v0∧w.cell? ⟨g,1,none⟩=some v1∧w.cell? ⟨g,2,none⟩=some v2∧w.cell? ⟨g,3,none⟩=some v3∧w.cell? ⟨g,4,none⟩=some v4∧w.cell? ⟨g,5,none⟩=some v5∧w.cell? ⟨g,6,none⟩=some v6∧w.cell? ⟨g,7,none⟩=some v7∧w.cell? ⟨g,8,none⟩=some v8∧w.cell? ⟨g,9,none⟩=some v9∧w.cell? ⟨g,10,none⟩=some v10∧w.cell? ⟨g,11,none⟩=some v11:=⟨gM h 0,gM h 1,gM h 2,gM h 3,gM h 4,gM h 5,gM h 6,gM h 7,gM h 8,gM h 9,gM h 10,gM h 11⟩
structure jl where
 inc:Int
 version:Int
 events:List im
deriving DecidableEq
structure gW where
 id:Int
 up:Bool
 inc:Int
 g:Int
 lanes:List hZ
 kept:List im
 outs:List iQ
 led:Int
 version:Int
 views:List jl
 known:List Int
 round:Int
 low:Int
deriving DecidableEq
def vA:gW:=⟨0,false,0,0,[],[],[],0,0,[],[],0,0⟩
def iE (p:Int):Int:=if i2 p 0 3=true then p % 3 else -1
def ic (id:Int):List Int:=[0,1,2,3].filter (fun p=>decide (iE p=id))
def kx (v:jl):Bool:=i2 v.inc 0 9999&&(i2 v.version 0 9999&&jK v.events 100)
def jg (n:gW):List im:=n.kept++n.lanes.flatMap (fun l=>l.done.flatMap (fun p=>p.sends))
def jy (n:gW):Nat→List im
 |0=>[]
 |i+1=>if (i:Int)=n.id then jy n i else jy n i++(n.views.getD i ⟨0,0,[]⟩).events
def lK (n:gW):List im:=jy n n.views.length
def iT (n:gW) (p:Int):List im:=jS ((jg n++lK n).filter (fun e=>decide (e.to=p)&&decide (n.g≤e.time)))
def iV (n:gW) (p:Int):List im:=jS ((jg n).filter (fun e=>decide (iE e.to=p)&&decide (n.known.getD p.toNat 0≤e.time)))
def jO (n:gW):Bool:=
 i2 n.id 0 2&&(i2 n.inc 1 9999&&(i2 n.g 0 41&&(i2 n.led 0 9999&&(i2 n.version 0 9999&&(i2 n.round 0 9999&&(i2 n.low 0 41&&
 (jK n.kept 100&&(jA n.outs 96&&(n.outs.all (fun o=>decide (o.time<n.g))&&
 (decide (n.lanes.map (fun l=>l.proc)=ic n.id)&&(n.lanes.all iW&&
 (decide (n.views.length=3)&&(n.views.all kx&&(decide (n.known.length=3)&&n.known.all (fun k=>i2 k 0 41)))))))))))))))
def vC (n:gW):Bool:=n.lanes.all (fun l=>decide ((iT n l.proc).length≤100)&&decide (il l.done (iT n l.proc)=l.done.length))
def jz (n:gW):Bool:=jO n&&vC n
def mA (x:jl) (v:Value):List Value:=[.int .i64 x.inc,.int .i64 x.version,v]
def mz (x:hZ) (v:Value):List Value:=[.int .i64 x.proc,.int .i64 x.base.x,.int .i64 x.base.y,.int .i64 x.base.c,v]
def nn:Ty jl where
 sz:=3
 rel:=fun w F x cs=>∃v,cs=mA x v∧Rd iC w F v x.events
 len:=fun ⟨v,h,_⟩=>by rw[h];rfl
 one:=fun ⟨v,h,h1⟩ u hu=>by
  obtain⟨A,c,rfl,_⟩:=h1;rw[h] at hu;simp only[mA,List.mem_cons,List.not_mem_nil,or_false] at hu;rcases hu with rfl|rfl|rfl<;>rfl
 mono:=fun hF ⟨v,h,h1⟩=>⟨v,h,h1.mono hF⟩
 move:=fun hm ⟨v,h,h1⟩=>⟨v,h,h1.move hm⟩
 bound:=fun ⟨v,h,h1⟩=>⟨v,h,h1.bound⟩
def jq:Ty jl where
 sz:=3
 rel:=fun w F x cs=>∃v,cs=mA x v∧Ow iC 132 w F v x.events
 len:=fun ⟨v,h,_⟩=>by rw[h];rfl
 one:=fun ⟨v,h,h1⟩ u hu=>by
  have g1:=h1.oneCell;rw[h] at hu;simp only[mA,List.mem_cons,List.not_mem_nil,or_false] at hu;rcases hu with rfl|rfl|rfl<;>first|rfl|assumption
 mono:=fun hF ⟨v,h,h1⟩=>⟨v,h,h1.mono hF⟩
 move:=fun hm ⟨v,h,h1⟩=>⟨v,h,h1.move hm⟩
 bound:=fun ⟨v,h,h1⟩=>⟨v,h,h1.bound⟩
def oP:Ty hZ where
 sz:=5
 rel:=fun w F x cs=>∃v,cs=mz x v∧Rd jm w F v x.done
 len:=fun ⟨v,h,_⟩=>by rw[h];rfl
 one:=fun ⟨v,h,h1⟩ u hu=>by
  obtain⟨A,c,rfl,_⟩:=h1;rw[h] at hu;simp only[mz,List.mem_cons,List.not_mem_nil,or_false] at hu;rcases hu with rfl|rfl|rfl|rfl|rfl<;>rfl
 mono:=fun hF ⟨v,h,h1⟩=>⟨v,h,h1.mono hF⟩
 move:=fun hm ⟨v,h,h1⟩=>⟨v,h,h1.move hm⟩
 bound:=fun ⟨v,h,h1⟩=>⟨v,h,h1.bound⟩
def iX:Ty hZ where
 sz:=5
 rel:=fun w F x cs=>∃v,cs=mz x v∧Ow kk 141 w F v x.done
 len:=fun ⟨v,h,_⟩=>by rw[h];rfl
 one:=fun ⟨v,h,h1⟩ u hu=>by
  have g1:=h1.oneCell;rw[h] at hu;simp only[mz,List.mem_cons,List.not_mem_nil,or_false] at hu;rcases hu with rfl|rfl|rfl|rfl|rfl<;>first|rfl|assumption
 mono:=fun hF ⟨v,h,h1⟩=>⟨v,h,h1.mono hF⟩
 move:=fun hm ⟨v,h,h1⟩=>⟨v,h,h1.move hm⟩
 bound:=fun ⟨v,h,h1⟩=>⟨v,h,h1.bound⟩
theorem Ow.rdViews {w:World} {F:Nat→Prop} {v:Value} {xs:List jl} {e:TypeId} (h:Ow jq e w F v xs):Rd nn w F v xs:=
 Rd.map (d:=jq) rfl (fun x cs ⟨v,h1,h2⟩=>⟨v,h1,h2.rd⟩) h.rd
theorem Ow.rdLanes {w:World} {F:Nat→Prop} {v:Value} {xs:List hZ} {e:TypeId} (h:Ow iX e w F v xs):Rd oP w F v xs:=
 Rd.map (d:=iX) rfl (fun x cs ⟨v,h1,h2⟩=>⟨v,h1,h2.rdPasts⟩) h.rd
structure iA (w:World) (F:Nat→Prop) (vl vk vo vv vn:Value) (n:gW):Prop where
 la:Rd oP w F vl n.lanes
 ke:Rd iC w F vk n.kept
 ou:Rd ii w F vo n.outs
 vi:Rd nn w F vv n.views
 kn:Rd (ja .i64) w F vn n.known
theorem iA.below {w w':World} {F:Nat→Prop} {vl vk vo vv vn:Value} {n:gW} (h:iA w F vl vk vo vv vn n) (hb:Below w.heap.size w w'):iA w' F vl vk vo vv vn n:=
 ⟨h.la.below hb,h.ke.below hb,h.ou.below hb,h.vi.below hb,h.kn.below hb⟩
theorem iA.mono {w:World} {F F':Nat→Prop} {vl vk vo vv vn:Value} {n:gW} (h:iA w F vl vk vo vv vn n) (hF:∀k,F k→F' k):iA w F' vl vk vo vv vn n:=
 ⟨h.la.mono hF,h.ke.mono hF,h.ou.mono hF,h.vi.mono hF,h.kn.mono hF⟩
theorem iA.ch {S F:Nat→Prop} {w w':World} {vl vk vo vv vn:Value} {n:gW} (h:iA w F vl vk vo vv vn n) (hc:Ch S w w') (hS:∀k,F k→¬S k):iA w' F vl vk vo vv vn n:=
 ⟨h.la.ch hc hS,h.ke.ch hc hS,h.ou.ch hc hS,h.vi.ch hc hS,h.kn.ch hc hS⟩
theorem kV {w:World} {F:Nat→Prop} {A:Option Addr} {n c:Nat} {xs:List hZ} (h:Rd oP w F (.slice A n c) xs) (j:Nat) (hj:j<xs.length):
  ∃b o A1 c1,A=some ⟨b,o,none⟩∧b<w.heap.size∧w.cell? ⟨b,o+j*5,none⟩=some (.int .i64 xs[j].proc)∧(w.cell? ⟨b,o+j*5+1,none⟩=some (.int .i64 xs[j].base.x)∧w.cell? ⟨b,o+j*5+2,none⟩=some (.int .i64 xs[j].base.y)∧w.cell? ⟨b,o+j*5+3,none⟩=some (.int .i64 xs[j].base.c))∧
   w.cell? ⟨b,o+j*5+4,none⟩=some (.slice A1 xs[j].done.length c1)∧Rd jm w F (.slice A1 xs[j].done.length c1) xs[j].done:=by
 obtain⟨b,o,f,rfl,_,d,⟨v,rfl,e⟩,a⟩:=h.at_ j hj;obtain⟨A1,c1,rfl,_⟩:=id e;exact⟨b,o,A1,c1,rfl,d,a 0 _ rfl,⟨a 1 _ rfl,a 2 _ rfl,a 3 _ rfl⟩,a 4 _ rfl,e⟩
theorem mI {w:World} {F:Nat→Prop} {A:Option Addr} {n c:Nat} {xs:List jl} (h:Rd nn w F (.slice A n c) xs) (j:Nat) (hj:j<xs.length):
  ∃b o A1 c1,A=some ⟨b,o,none⟩∧b<w.heap.size∧w.cell? ⟨b,o+j*3,none⟩=some (.int .i64 xs[j].inc)∧w.cell? ⟨b,o+j*3+1,none⟩=some (.int .i64 xs[j].version)∧w.cell? ⟨b,o+j*3+2,none⟩=some (.slice A1 xs[j].events.length c1)∧Rd iC w F (.slice A1 xs[j].events.length c1) xs[j].events:=by
 obtain⟨b,o,f,rfl,_,d,⟨v,rfl,e⟩,a⟩:=h.at_ j hj;obtain⟨A1,c1,rfl,_⟩:=id e;exact⟨b,o,A1,c1,rfl,d,a 0 _ rfl,a 1 _ rfl,a 2 _ rfl,e⟩
def lu (l:hZ) (came:List im):hZ:= {l with done:=l.done.take (il l.done came)}
def kW (n:gW) (i:Nat):gW:=
 match n.lanes[i]? with
 |some l=> {n with lanes:=n.lanes.set i (lu l (iT n l.proc))}
 |none=>n
def sq (n:gW) (i:Nat):Bool:=
 match n.lanes[i]? with
 |some l=>decide (il l.done (iT n l.proc)<l.done.length)
 |none=>false
def jp (n:gW):Nat→gW
 |0=>n
 |i+1=>kW (jp n i) i
def jY (n:gW):Nat→Bool
 |0=>false
 |i+1=>jY n i||sq (jp n i) i
def ks (n:gW):Nat:=(n.lanes.map (fun l=>l.done.length)).sum
theorem lR:∀(ps:List iq) (es:List im),il ps es≤ps.length∧il ps es≤es.length
 | [],_=>⟨jP _,jP _⟩
 |_::_,[]=>⟨jP _,jP _⟩
 |p::ps,e::es=>by
  have:=lR ps es;simp only[il,List.length_cons];split<;>omega
theorem Bk:∀(xs:List hZ) (i:Nat) (h:i<xs.length) (y:hZ),((xs.set i y).map (fun l=>l.done.length)).sum+xs[i].done.length=(xs.map (fun l=>l.done.length)).sum+y.done.length
 |x::xs,0,_,y=>by simp;omega
 |x::xs,i+1,h,y=>by
  have:=Bk xs i (by simpa using h) y;simp only[List.set_cons_succ,List.map_cons,List.sum_cons,List.getElem_cons_succ];omega
theorem yF (n:gW) (i:Nat):ks (kW n i)≤ks n∧(sq n i=true→ks (kW n i)<ks n):=by
 unfold kW sq;cases h:n.lanes[i]? with
 |none=>exact⟨j9 _,fun h=>by cases h⟩
 |some l=>
  obtain⟨c,rfl⟩:=List.getElem?_eq_some_iff.1 h;have a:=Bk n.lanes i c (lu n.lanes[i] (iT n n.lanes[i].proc));have d:=(lR n.lanes[i].done (iT n n.lanes[i].proc)).1;have b:(lu n.lanes[i] (iT n n.lanes[i].proc)).done.length=il n.lanes[i].done (iT n n.lanes[i].proc):=by
   simp only[lu,List.length_take];omega
  simp only[ks,decide_eq_true_eq];rw[b] at a;exact⟨gO,fun h=>gO⟩
theorem lT (n:gW):∀i,ks (jp n i)≤ks n∧(jY n i=true→ks (jp n i)<ks n)
 |0=>⟨j9 _,fun h=>by cases h⟩
 |i+1=>by
  have h1:=lT n i;have h2:=yF (jp n i) i;simp only[jp,jY,Bool.or_eq_true];refine⟨gO,fun h=>?_⟩;rcases h with h|h
  ·have:=h1.2 h;omega
  ·have:=h2.2 h;omega
def kj (n:gW):gW:=
 if h:jY n n.lanes.length=true then kj (jp n n.lanes.length) else jp n n.lanes.length
termination_by ks n
decreasing_by exact(lT n _).2 h
def oa (n:gW):List (List im):=([0,1,2].filter (fun p:Int=>decide (p≠n.id))).map (iV n)
def ik (was n:gW):gW:=if oa was=oa n then n else {n with version:=was.version+1}
def jR (n:gW) (i:Nat) (l:hZ):gW:= {n with lanes:=n.lanes.set i l}
def mS (n x:gW):gW×Bool:=if jz x=true then (x,true) else (n,false)
def kH (apps:List iM) (n:gW) (p:Int):gW×Bool:=
 if jz n=true then
  (if n.up=true∧ji apps=true∧iE p=n.id∧n.version<9999 then
   (match jn (apps.getD p.toNat ⟨[]⟩) (n.lanes.getD ((ic n.id).idxOf p) oJ) (iT n p) with
   |(l,true)=>mS n (ik n (kj (jR n ((ic n.id).idxOf p) l)))
   |(_,false)=>(n,false))
  else (n,false))
 else (vA,false)
structure iG (n:gW):Prop where
 kept:n.kept.length≤100
 outs:n.outs.length≤96
 lanes:n.lanes.length≤2
 done:∀l∈n.lanes,l.done.length≤101∧∀r∈l.done,r.sends.length≤2∧r.outs.length≤2
 views:n.views.length=3
 evs:∀v∈n.views,v.events.length≤100
 known:n.known.length=3
theorem yG {n:gW} (h:iG n) (i:Nat):iG (kW n i):=by
 unfold kW;split
 ·rename_i l hl
  refine⟨h.kept,h.outs,by simpa using h.lanes,fun x a=>?_,h.views,h.evs,h.known⟩;rcases List.mem_or_eq_of_mem_set a with a|rfl
  ·exact h.done x a
  ·have:=h.done l (List.mem_of_getElem? hl)
   refine⟨by simp only[lu,List.length_take];omega,fun r b=>this.2 r (List.mem_of_mem_take b)⟩
 ·exact h
theorem nf {n:gW} (h:iG n):∀i,iG (jp n i)
 |0=>h
 |i+1=>yG (nf h i) i
structure k8 (n x:gW):Prop where
 id:x.id=n.id
 up:x.up=n.up
 inc:x.inc=n.inc
 g:x.g=n.g
 kept:x.kept=n.kept
 outs:x.outs=n.outs
 led:x.led=n.led
 version:x.version=n.version
 views:x.views=n.views
 known:x.known=n.known
 round:x.round=n.round
 low:x.low=n.low
 len:x.lanes.length=n.lanes.length
 procs:x.lanes.map (fun l=>l.proc)=n.lanes.map (fun l=>l.proc)
 bases:x.lanes.map (fun l=>l.base)=n.lanes.map (fun l=>l.base)
theorem k8.refl (n:gW):k8 n n:=⟨rfl,rfl,rfl,rfl,rfl,rfl,rfl,rfl,rfl,rfl,rfl,rfl,rfl,rfl,rfl⟩
theorem k8.trans {n x y:gW} (h:k8 n x) (k:k8 x y):k8 n y:=
 ⟨k.id.trans h.id,k.up.trans h.up,k.inc.trans h.inc,k.g.trans h.g,k.kept.trans h.kept,k.outs.trans h.outs,k.led.trans h.led,k.version.trans h.version,k.views.trans h.views,k.known.trans h.known,k.round.trans h.round,k.low.trans h.low,k.len.trans h.len,k.procs.trans h.procs,k.bases.trans h.bases⟩
theorem pb {α β:Type} (f:α→β) (xs:List α) (i:Nat) (y:α) (h:∀x,xs[i]? =some x→f y=f x):(xs.set i y).map f=xs.map f:=by
 apply List.ext_getElem?;intro j;rw[List.getElem?_map,List.getElem?_map];by_cases hj:i=j
 ·subst hj
  cases hx:xs[i]? with
  |none=>rw[List.getElem?_eq_none (by simpa using List.getElem?_eq_none_iff.1 hx)]
  |some x=>rw[List.getElem?_set_self (List.getElem?_eq_some_iff.1 hx).1];simp[h x hx]
 ·rw[List.getElem?_set_ne hj]
theorem xU (n:gW) (i:Nat):k8 n (kW n i):=by
 unfold kW;split
 ·rename_i l hl
  exact⟨rfl,rfl,rfl,rfl,rfl,rfl,rfl,rfl,rfl,rfl,rfl,rfl,by simp,pb _ _ _ _ (fun x a=>by rw[hl] at a;cases a;rfl),pb _ _ _ _ (fun x a=>by rw[hl] at a;cases a;rfl)⟩
 ·exact k8.refl n
theorem l3 (n:gW):∀i,k8 n (jp n i)
 |0=>k8.refl n
 |i+1=>(l3 n i).trans (xU _ _)
theorem EJ (e:im) (w:World):Calls Tryz.prog 165 #[iZ e] w fun q w' =>q= .returned (iZ e)∧Below w.heap.size w w':=by
 unfold iZ;go_enter Tryz.func165,Tryz.ntmps165;go_wp2_with fail;refine bodyPost_ret (v:= .agg #[e.time,e.to,e.from_,e.count,e.n,e.kind,e.arg]) (by simp[results,Tryz.results165,go_sem]) rfl ⟨rfl,?_⟩;exact Ch.below0 (by repeat (first|(with_reducible exact Ch.refl _ _)|(with_reducible refine Ch.setCell ?_ (Or.inr sm) _)|(with_reducible refine Ch.drew ?_)|(with_reducible refine Ch.alloc ?_ _)))
section
abbrev nH:=Nat×List Nat×(List Value→Value→Prop)
def rR (l:List nH) (j:Nat) (u:Nat→Value):Prop:=match l with| []=>True|(i,ds,p)::r=>if j=i then p (ds.map u) (u j) else rR r j u
def Fe (ops:Array Oper):List nH→Bool| []=>true|(i,ds,_)::r=>ds.all (fun d=>ka ops i d)&&Fe ops r
theorem mH {ops:Array Oper}:∀(l:List nH),Fe ops l=true→∀j i u v,rR l j u→i≠j→ka ops j i=false→rR l j (iN u i v)
 | [],_,_,_,_,_,_,_,_=>trivial
 |(k,ds,p)::r,h,j,i,u,v,hp,hij,hw=>by
  simp only[Fe,Bool.and_eq_true] at h;unfold rR at hp ⊢;split
  ·rename_i hjk
   rw[if_pos hjk] at hp;have h1:iN u i v j=u j:=by simp[iN,Ne.symm hij]
   have b:ds.map (iN u i v)=ds.map u:=List.map_congr_left fun d c=>by
    have a:=List.all_eq_true.1 h.1 d c;have:d≠i:=fun e=>by subst e;subst hjk;rw[hw] at a;cases a
    simp[iN,this]
   rw[h1,b];exact hp
  ·rename_i hjk
   rw[if_neg hjk] at hp;exact mH r h.2 j i u v hp hij hw
abbrev nm:=Nat×List Nat×(List Value→Value→World→(Nat→Prop)→Prop)
def NL (l:List nm) (j:Nat) (u:Nat→Value) (w:World) (F:Nat→Prop):Prop:=match l with| []=>True|(i,ds,p)::r=>if j=i then p (ds.map u) (u j) w F else NL r j u w F
def FD (ops:Array Oper):List nm→Bool| []=>true|(i,ds,_)::r=>ds.all (fun d=>ka ops i d)&&FD ops r
theorem nI {ops:Array Oper}:∀(l:List nm),FD ops l=true→∀j i u v w F,NL l j u w F→i≠j→ka ops j i=false→NL l j (iN u i v) w F
 | [],_,_,_,_,_,_,_,_,_,_=>trivial
 |(k,ds,p)::r,h,j,i,u,v,w,F,hp,hij,hw=>by
  simp only[FD,Bool.and_eq_true] at h;unfold NL at hp ⊢;split
  ·rename_i hjk
   rw[if_pos hjk] at hp;have h1:iN u i v j=u j:=by simp[iN,Ne.symm hij]
   have b:ds.map (iN u i v)=ds.map u:=List.map_congr_left fun d c=>by
    have a:=List.all_eq_true.1 h.1 d c;have:d≠i:=fun e=>by subst e;subst hjk;rw[hw] at a;cases a
    simp[iN,this]
   rw[h1,b];exact hp
  ·rename_i hjk
   rw[if_neg hjk] at hp;exact nI r h.2 j i u v w F hp hij hw
def E8 (p:List Value→Value→World→(Nat→Prop)→Prop):Prop:=∀ds v w w' F,p ds v w F→(∀k,F k→w'.heap[k]? =w.heap[k]?)→p ds v w' F
def mj:List nm→Prop| []=>True|p::r=>E8 p.2.2∧mj r
theorem mF:∀(l:List nm),mj l→∀j u w w' F,NL l j u w F→(∀k,F k→w'.heap[k]? =w.heap[k]?)→NL l j u w' F
 | [],_,_,_,_,_,_,_,_=>trivial
 |(i,ds,p)::r,hl,j,u,w,w',F,h,hm=>by
  unfold NL at h ⊢;split
  ·rename_i hj;rw[if_pos hj] at h;exact hl.1 _ _ w w' F h hm
  ·rename_i hj;rw[if_neg hj] at h;exact mF r hl.2 j u w w' F h hm
theorem kQ {w:World} {g n:Nat} {cs:Array Value} {t:TypeId} (h:w.heap[g]? =some (.cells cs t (0,0))) (hn:n≤cs.size):w.there g 0 n:=fun i hi=>by
 have hlt:i<cs.size:=gO;exact⟨by simp[World.cell?,h,hlt],by simp[World.frozen?,h]⟩
section
variable {P:Program} {o:Oper} {a:Act} {w:World} {K:Act→World→Prop} {Q:Exit→Act→World→Prop}
theorem EB {x:Operand} (ho:o.op= .move x∨o.op= .assign x) (h:K (a.put o.dst (a.eval x)) w):o.wp P a w K Q:=by
 unfold Oper.wp execOp;rcases ho with ho|ho
 all_goals
  simp only[ho,Sem.run_pure];exact h
theorem j7 {x:Operand} {n:Nat} {vs:Array Value} {v:Value} (ho:o.op= .extract x n) (hx:a.eval x= .tuple vs) (hv:vs[n]? =some v) (h:K (a.put o.dst v) w):o.wp P a w K Q:=by
 unfold Oper.wp execOp;simp only[ho,hx,Instr.extract,hv,Sem.run_bind,Sem.run_pure,Result.andThen_ok];exact h
end
def yi (k:Nat):List (Nat×Option Tmp)→Bool| []=>true|p::r=>p.2 !=some k&&yi k r
def FC (k i:Nat):List (Nat×Option Tmp)→Bool| []=>false|p::r=>if p.2==some k then p.1==i&&yi k r else FC k i r
theorem AZ (a:Act) (d:Option Tmp) (v:Value) (k:Nat) (h:d≠some k):(a.put d v).tmps[k]? =a.tmps[k]? :=by
 cases d with
 |none=>rfl
 |some d=>
  simp only[Act.put];rw[Array.getElem?_setIfInBounds_ne (fun e=>h (by rw[e]))]
theorem uZ {k:Nat}:∀(dl:List (Nat×Option Tmp)) (a:Act) (u:Nat→Value),yi k dl=true→(iv dl a u).tmps[k]? =a.tmps[k]?
 | [],_,_,_=>rfl
 |(i,d)::r,a,u,h=>by
  simp only[yi,Bool.and_eq_true,bne_iff_ne] at h;rw[j8,uZ r _ u h.2,AZ _ _ _ _ h.1]
theorem Dg (a:Act) (d:Option Tmp) (v:Value):(a.put d v).tmps.size=a.tmps.size:=by
 cases d with
 |none=>rfl
 |some d=>simp[Act.put]
theorem io {k i:Nat}:∀(dl:List (Nat×Option Tmp)) (a:Act) (u:Nat→Value),FC k i dl=true→k<a.tmps.size→(iv dl a u).tmps[k]? =some (u i)
 | [],_,_,h,_=>by cases h
 |(j,d)::r,a,u,h,hk=>by
  unfold FC at h;split at h
  ·rename_i hd
   simp only[Bool.and_eq_true,beq_iff_eq] at h hd;rw[j8,uZ r _ u h.2];subst hd;rw[h.1];simp only[Act.put];rw[Array.getElem?_setIfInBounds_self_of_lt hk]
  ·rw[j8,io r _ u h (by rw[Dg];exact hk)]
theorem iw {a:Act} {k:Nat} {v:Value} (h:a.tmps[k]? =some v):a.eval (.tmp k)=v:=by
 show a.tmps.getD k undef=v;rw[Array.getD_eq_getD_getElem?,h];rfl
theorem lE {P:Program} {o:Oper} {a:Act} {w:World} {K:Act→World→Prop} {Q:Exit→Act→World→Prop} {x:Operand} {v:Value} (ho:o.op= .move x∨o.op= .assign x) (hx:a.eval x=v) (h:K (a.put o.dst v) w):o.wp P a w K Q:=by
 subst hx;exact EB ho h
theorem m8 {W w1:World} {B:Nat} {v:Value} (hb:Below B W W) (hG:W.grownBy w1 v.ownBlock) (hv:∀k,v.ownBlock=some k→B≤k) (hB:B≤W.heap.size):Below B W w1:=
 ⟨hG.os,hG.tape,hG.output,hG.size,fun k hk=>hG.block k gO (fun e=>by have:=hv k e.symm;omega)⟩
end
theorem qo {k:Nat} {dl:List (Nat×Option Tmp)} {a:Act} {u:Nat→Value} {v:Value} (h:a.tmps[k]? =some v) (hx:yi k dl=true:=by rfl):(iv dl a u).tmps[k]? =some v:=(uZ dl a u hx).trans h
def kI (l:hZ):List im:=l.done.flatMap (fun p=>p.sends)
theorem yK (n:gW):jg n=n.kept++n.lanes.flatMap kI:=rfl
theorem rr {α β:Type} (f:α→List β) (c:Nat):∀(xs:List α),(∀x∈xs,(f x).length≤c)→(xs.flatMap f).length≤c*xs.length
 | [],_=>by simp
 |x::xs,h=>by
  have h1:=h x sm;have h2:=rr f c xs (fun y hy=>h y (by simp[hy]));simp only[List.flatMap_cons,List.length_append,List.length_cons,Nat.mul_add];omega
theorem ny {α β:Type} (f:α→List β) {xs:List α} {j:Nat} (h:j<xs.length):(xs.take (j+1)).flatMap f=(xs.take j).flatMap f++f xs[j]:=by
 rw[qp h,List.flatMap_append];simp
theorem pR {l:hZ} (h1:l.done.length≤101) (h2:∀r∈l.done,r.sends.length≤2∧r.outs.length≤2) (k:Nat):((l.done.take k).flatMap (fun p=>p.sends)).length≤202:=by
 have:=rr (fun p:iq=>p.sends) 2 (l.done.take k) (fun x a=>(h2 x (List.mem_of_mem_take a)).1);have b:(l.done.take k).length≤101:=by rw[List.length_take];omega
 omega
theorem xQ {n:gW} (h:iG n) (j:Nat):(n.kept++(n.lanes.take j).flatMap kI).length≤504:=by
 have c:=rr kI 202 (n.lanes.take j) (fun l b=>by
  have:=h.done l (List.mem_of_mem_take b);have a:=pR this.1 this.2 l.done.length
  rwa [ld] at a)
 have a:(n.lanes.take j).length≤2:=by rw[List.length_take];have:=h.lanes;omega
 have:=h.kept;rw[List.length_append];omega
theorem mZ {n:gW} (h:iG n):(jg n).length≤504:=by
 have:=xQ h n.lanes.length
 rwa [ld] at this
theorem sK {n:gW} (h:iG n):∀i,(jy n i).length≤100*i
 |0=>by simp[jy]
 |i+1=>by
  have h1:=sK h i;have h2:(n.views.getD i ⟨0,0,[]⟩).events.length≤100:=by
   rw[List.getD_eq_getElem?_getD];cases hv:n.views[i]? with
   |none=>simp
   |some v=>exact h.evs v (List.mem_of_getElem? hv)
  simp only[jy];split
  ·omega
  ·rw[List.length_append];omega
theorem sy {α:Type} (p:α→Bool) {xs:List α} {k:Nat} (h:k<xs.length):(xs.take (k+1)).filter p=(xs.take k).filter p++(if p xs[k]=true then [xs[k]] else []):=by
 rw[qp h,List.filter_append];simp only[List.filter_cons,List.filter_nil]
theorem qN {α:Type} {p:α→Bool} {xs:List α} {k:Nat} (h:k<xs.length) (hp:p xs[k]=true):(xs.take (k+1)).filter p=(xs.take k).filter p++[xs[k]]:=by
 rw[sy p h,if_pos hp]
theorem qK {α:Type} {p:α→Bool} {xs:List α} {k:Nat} (h:k<xs.length) (hp:p xs[k]=false):(xs.take (k+1)).filter p=(xs.take k).filter p:=by
 rw[sy p h,if_neg (by rw[hp];simp),List.append_nil]
theorem qO {α:Type} (p:α→Bool) (xs:List α) (k:Nat):((xs.take k).filter p).length≤xs.length:=
 jb (List.length_filter_le _ _) (by rw[List.length_take];omega)
def lQ (n:gW) (p:Int) (e:im):Bool:=decide (e.to=p)&&decide (n.g≤e.time)
def tu (n:gW) (p:Int) (e:im):Bool:=decide (iE e.to=p)&&decide (n.known.getD p.toNat 0≤e.time)
theorem yT (n:gW) (p:Int):iT n p=jS ((jg n++lK n).filter (lQ n p)):=rfl
def ES (r:jJ):Prop:=r.ops.length≤6
def Gz (a:iM):Prop:=a.rules.length=3∧∀r∈a.rules,ES r
theorem vp {w:World} {s:Nat} {t:TypeId} {a b c:Value} (h:w.heap[s]? =some (.cells #[a,b,c] t (0,0))):
  w.cell? ⟨s,0,none⟩=some a∧w.cell? ⟨s,1,none⟩=some b∧w.cell? ⟨s,2,none⟩=some c∧∀i,w.frozen? ⟨s,i,none⟩=false:=
 ⟨gM h 0,gM h 1,gM h 2,ft h⟩
theorem DH {w1:World} {s:Nat} {t:TypeId} {z0 z1 z2:Value} (hb:w1.heap[s]? =some (.cells #[z0,z1,z2] t (0,0))) (a b c:Value):
  (((w1.setCell ⟨s,0,none⟩ a).setCell ⟨s,1,none⟩ b).setCell ⟨s,2,none⟩ c).heap[s]? =some (.cells #[a,b,c] t (0,0)):=
 gN (gN (gN hb 0 _) 1 _) 2 _
def F2 (s:mL):Value:= .agg #[s.x,s.y,s.c]
def Gb (w:World) (q:Ending) (w':World):Prop:=
 ∃(v:Value) (a:iM) (s:mL) (e:im),q= .returned (.tuple #[.agg #[v],F2 s,iZ e])∧Rd k6 w' (fun k=>w.heap.size≤k) v a.rules∧a.rules.length≤4∧(0≤s.c∧s.c≤12)∧Below w.heap.size w w'
theorem jZ {α:Type} {xs ys:List α} {k:Nat} (h:xs.take k=ys.take k) (h0:k<xs.length) (h1:k<ys.length) (he:xs[k]=ys[k]):xs.take (k+1)=ys.take (k+1):=by
 rw[qp h0,qp h1,h,he]
theorem kw {α:Type} {xs ys:List α} {k:Nat} (h:xs.take k=ys.take k) (h0:xs.length≤k) (hl:xs.length=ys.length):xs=ys:=by
 rw[List.take_of_length_le h0,List.take_of_length_le gO] at h;exact h
section
open Go.ChangeShapes Go.WideShapes Go.ChangeAt Go.RowKit
theorem F7:ownKnob Tryz.prog.godebug=none:=ie
theorem tj:laidOutB Tryz.prog=true:=ie
end
end Go.Proofs.YtgilllnjhahkfaaGreat
