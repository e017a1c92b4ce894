/- Parts of the proof: Ez9, Eza. -/
import Derived.Test.YtgilllnjhahkfaaGreatQ25
set_option linter.unusedVariables false
set_option linter.unusedSimpArgs false
set_option linter.unusedSectionVars false
set_option maxHeartbeats 4000000
set_option maxRecDepth 100000
namespace Go.Proofs.YtgilllnjhahkfaaGreat
open Go.RowKit
def lq (x:iq) (vs vo nx:Value):List Value:=kY x vs vo++[nx]
def ns (G:Nat→Nat) (n j:Nat):Value:=if j<n then .pointer (some ⟨G j,0,none⟩) else .pointer none
def pM (G:Nat→Nat) (n:Nat):Value:=if n=0 then .pointer none else .pointer (some ⟨G (n-1),0,none⟩)
structure kh (w:World) (F:Nat→Prop) (gc:Nat) (xs:List iq) (G:Nat→Nat):Prop where
 blk:w.heap[gc]? =some (.cells #[ns G xs.length 0,pM G xs.length] 197)
 gt:∀j,j<xs.length→gc<G j
 lt:∀i j,i<j→j<xs.length→G i<G j
 at_:∀(j:Nat) (hj:j<xs.length),∃vs vo,w.heap[G j]? =some (.cells (lq xs[j] vs vo (ns G xs.length (j+1))).toArray 199 (0,0))∧Rd iC w F vs xs[j].sends∧Rd ii w F vo xs[j].outs
 sg:¬F gc
 sj:∀j,j<xs.length→¬F (G j)
 bd:∀k,F k→k<w.heap.size
theorem kh.mono {w:World} {F F':Nat→Prop} {gc:Nat} {xs:List iq} {G:Nat→Nat} (h:kh w F gc xs G) (hF:∀k,F k→F' k) (h1:¬F' gc) (h2:∀j,j<xs.length→¬F' (G j)) (h3:∀k,F' k→k<w.heap.size):kh w F' gc xs G:=
 ⟨h.blk,h.gt,h.lt,fun j hj=>by
  obtain⟨vs,vo,a,b,c⟩:=h.at_ j hj;exact⟨vs,vo,a,b.mono hF,c.mono hF⟩,h1,h2,h3⟩
theorem kh.below {w w':World} {F:Nat→Prop} {gc:Nat} {xs:List iq} {G:Nat→Nat} (h:kh w F gc xs G) (hb:Below w.heap.size w w'):kh w' F gc xs G:=
 ⟨gJ hb (gL h.blk) h.blk,h.gt,h.lt,fun j hj=>by
  obtain⟨vs,vo,h1,h2,h3⟩:=h.at_ j hj;exact⟨vs,vo,gJ hb (gL h1) h1,h2.below hb,h3.below hb⟩,h.sg,h.sj,fun k hk=>nk (h.bd k hk) hb.size⟩
theorem kh.grow {w w':World} {F:Nat→Prop} {gc gn:Nat} {xs:List iq} {G:Nat→Nat} (h:kh w F gc xs G) (x:iq) (vs vo:Value) (hg1:gc<gn) (hg2:∀j,j<xs.length→G j<gn) (hgn:¬F gn)
  (hC:Ch (fun k=>k=gc∨(0<xs.length∧k=G (xs.length-1))) w w')
  (h1:w'.heap[gc]? =some (.cells #[if xs.length=0 then .pointer (some ⟨gn,0,none⟩) else ns G xs.length 0,.pointer (some ⟨gn,0,none⟩)] 197))
  (h2:w'.heap[gn]? =some (.cells (lq x vs vo (.pointer none)).toArray 199 (0,0)))
  (h3:∀(hp:xs.length-1<xs.length),∀us uo,w.heap[G (xs.length-1)]? =some (.cells (lq xs[xs.length-1] us uo (.pointer none)).toArray 199 (0,0))→w'.heap[G (xs.length-1)]? =some (.cells (lq xs[xs.length-1] us uo (.pointer (some ⟨gn,0,none⟩))).toArray 199 (0,0)))
  (r1:Rd iC w F vs x.sends) (r2:Rd ii w F vo x.outs):
  kh w' F gc (xs++[x]) (fun j=>if j=xs.length then gn else G j):=by
 have p:=gL h.blk;have d:∀k,F k→¬(k=gc∨(0<xs.length∧k=G (xs.length-1))):=by
  rintro k a (rfl|⟨hp,rfl⟩)
  ·exact h.sg a
  ·exact h.sj (xs.length-1) gO a
 refine⟨?_,fun j b=>?_,fun i j g b=>?_,fun j b=>?_,h.sg,fun j b a=>?_,fun k a=>nk (h.bd k a) hC.size⟩
 ·rw[h1]
  by_cases e:xs.length=0
  ·simp[ns,pM,e]
  ·have h0':0<xs.length:=gO
   simp[ns,pM,e,h0',Ne.symm e]
 ·simp only[List.length_append,List.length_cons,List.length_nil] at b
  show gc<if j=xs.length then gn else G j
  split
  ·exact hg1
  ·exact h.gt j gO
 ·simp only[List.length_append,List.length_cons,List.length_nil] at b
  show(if i=xs.length then gn else G i)<if j=xs.length then gn else G j
  rw[if_neg gO];split
  ·exact hg2 i gO
  ·exact h.lt i j g gO
 ·simp only[List.length_append,List.length_cons,List.length_nil] at b ⊢
  show ∃vs vo,w'.heap[if j=xs.length then gn else G j]? =_∧_;by_cases hjl:j=xs.length
  ·subst hjl
   refine⟨vs,vo,?_,?_,?_⟩
   ·rw[if_pos rfl,h2];simp[ns]
   ·simpa using r1.ch hC (fun k a=>d k a)
   ·simpa using r2.ch hC (fun k a=>d k a)
  ·rw[if_neg hjl]
   have c:j<xs.length:=gO;obtain⟨us,uo,f,o,n⟩:=h.at_ j c;have l:(xs++[x])[j]'(by simp;omega)=xs[j]:=by rw[List.getElem_append_left c]
   rw[l];refine⟨us,uo,?_,o.ch hC (fun k a=>d k a),n.ch hC (fun k a=>d k a)⟩;by_cases hl:j=xs.length-1
   ·subst hl
    have h9':w.heap[G (xs.length-1)]? =some (.cells (lq xs[xs.length-1] us uo (.pointer none)).toArray 199 (0,0)):=by
     rw[f,ns,if_neg gO]
    rw[h3 c us uo h9',ns,if_pos gO,if_pos gO]
   ·rw[hC.heap f (by
     rintro(m|⟨hp,m⟩)
     ·have:=h.gt j c;omega
     ·have:=h.lt j (xs.length-1) gO gO;omega)]
    simp only[ns];rw[if_pos (show j+1<xs.length by omega),if_pos (show j+1<xs.length+1 by omega),if_neg gO]
 ·simp only[List.length_append,List.length_cons,List.length_nil] at b
  have hk':F (if j=xs.length then gn else G j):=a;by_cases hjl:j=xs.length
  ·rw[if_pos hjl] at hk';exact hgn hk'
  ·rw[if_neg hjl] at hk';exact h.sj j gO hk'
theorem uX (gc B:Nat) (F:Nat→Prop) (xs:List iq) (G:Nat→Nat) (x:iq) (vs vo:Value) (w:World) (h:kh w F gc xs G) (hB:B≤w.heap.size) (hgc:B≤gc) (r1:Rd iC w F vs x.sends) (r2:Rd ii w F vo x.outs):
  Calls Tryz.prog 113 #[.pointer (some ⟨gc,0,none⟩),.agg #[x.ev.time,x.ev.to,x.ev.from_,x.ev.count,x.ev.n,x.ev.kind,x.ev.arg,x.st.x,x.st.y,x.st.c,vs,vo]] w fun q w' =>q= .returned (.tuple #[])∧(∃G',kh w' F gc (xs++[x]) G')∧Below B w w':=by
 have o1:vs.oneCell' =true:=by obtain⟨i,l,rfl,-⟩:=r1.shape;rfl
 have o2:vo.oneCell' =true:=by obtain⟨i,l,rfl,-⟩:=r2.shape;rfl
 obtain⟨i,l,rfl,-⟩:=id r1.shape;obtain⟨m,o,rfl,-⟩:=id r2.shape;have af:=gL h.blk;have r:Below w.heap.size w ((w.alloc (.cells #[x.ev.time,x.ev.to,x.ev.from_,x.ev.count,x.ev.n,x.ev.kind,x.ev.arg,x.st.x,x.st.y,x.st.c,.slice i x.sends.length l,.slice m x.outs.length o] 141)).alloc (.cells #[x.ev.time,x.ev.to,x.ev.from_,x.ev.count,x.ev.n,x.ev.kind,x.ev.arg,x.st.x,x.st.y,x.st.c,.slice i x.sends.length l,.slice m x.outs.length o,.pointer none] 199)):=gU (gU (gY _ _) _) _;have M:((w.alloc (.cells #[x.ev.time,x.ev.to,x.ev.from_,x.ev.count,x.ev.n,x.ev.kind,x.ev.arg,x.st.x,x.st.y,x.st.c,.slice i x.sends.length l,.slice m x.outs.length o] 141)).alloc (.cells #[x.ev.time,x.ev.to,x.ev.from_,x.ev.count,x.ev.n,x.ev.kind,x.ev.arg,x.st.x,x.st.y,x.st.c,.slice i x.sends.length l,.slice m x.outs.length o,.pointer none] 199)).heap[w.heap.size+1]? =some (.cells #[x.ev.time,x.ev.to,x.ev.from_,x.ev.count,x.ev.n,x.ev.kind,x.ev.arg,x.st.x,x.st.y,x.st.c,.slice i x.sends.length l,.slice m x.outs.length o,.pointer none] 199):=gX sm;have d:=gJ r af h.blk;have R:¬F (w.heap.size+1):=fun D=>by have:=h.bd _ D;omega
 have H:=gP (h.below r);have I:=gP (r1.below r);have J:=gP (r2.below r);by_cases h0:xs.length=0
 ·have e0:ns G xs.length 0= .pointer none:=by simp[ns,h0]
  have A:pM G xs.length= .pointer none:=by simp[pM,h0]
  rw[e0,A] at d;have v:=gP h0;clear h r1 r2 h0 e0 A;go_enter Tryz.func113,Tryz.ntmps113;go_upto_region 2 with fail;obtain⟨W,s⟩:∃W,((w.alloc (.cells #[x.ev.time,x.ev.to,x.ev.from_,x.ev.count,x.ev.n,x.ev.kind,x.ev.arg,x.st.x,x.st.y,x.st.c,.slice i x.sends.length l,.slice m x.outs.length o] 141)).alloc (.cells #[x.ev.time,x.ev.to,x.ev.from_,x.ev.count,x.ev.n,x.ev.kind,x.ev.arg,x.st.x,x.st.y,x.st.c,.slice i x.sends.length l,.slice m x.outs.length o,.pointer none] 199))=W:=⟨_,rfl⟩;have E:W.heap.size=w.heap.size+1+1:=by rw[←s];simp
  have HS:=gP E;rw[s] at r M d H I J ⊢;clear s E;obtain⟨a0,a1⟩:=DA d;have f0:=ft d;go_wp2_with fail;have C:Ch (fun k=>k=gc) W ((W.setCell ⟨gc,0,none⟩ (.pointer (some ⟨w.heap.size+1,0,none⟩))).setCell ⟨gc,1,none⟩ (.pointer (some ⟨w.heap.size+1,0,none⟩))):=Ch.setCell (p:=⟨gc,1,none⟩) (Ch.setCell (p:=⟨gc,0,none⟩) (Ch.refl (fun k=>k=gc) _) (Or.inl rfl) _) (Or.inl rfl) _;have z:=gN (gN d 0 (.pointer (some ⟨w.heap.size+1,0,none⟩))) 1 (.pointer (some ⟨w.heap.size+1,0,none⟩));simp only[mo,mp,ml] at z;have U:=H.out.grow (w':=(W.setCell ⟨gc,0,none⟩ (.pointer (some ⟨w.heap.size+1,0,none⟩))).setCell ⟨gc,1,none⟩ (.pointer (some ⟨w.heap.size+1,0,none⟩))) (gn:=w.heap.size+1) x (.slice i x.sends.length l) (.slice m x.outs.length o) gO (fun j O=>by have:=v.out;omega) R (C.mono (fun k D=> .inl D)) (by rw[z,if_pos v.out]) (C.heap M gO) (fun Z=>by have:=v.out;omega) I.out J.out
  go_end0
  exact⟨rfl,⟨_,U⟩,((r.mono hB).setCell (p:=⟨gc,0,none⟩) hgc _).setCell (p:=⟨gc,1,none⟩) hgc _⟩
 ·have Z:xs.length-1<xs.length:=gO
  obtain⟨us,uo,P,-,-⟩:=h.at_ (xs.length-1) Z;have T:=gL P;have V:=h.gt (xs.length-1) Z;have S:=fun j (O:j<xs.length)=>(show G j<w.heap.size by obtain⟨a,b,L,-⟩:=h.at_ j O;exact gL L);have e2:ns G xs.length (xs.length-1+1)= .pointer none:=by rw[ns,if_neg gO]
  rw[e2] at P;have u:=gJ r T P;have A:pM G xs.length= .pointer (some ⟨G (xs.length-1),0,none⟩):=by simp[pM,h0]
  rw[A] at d;obtain⟨f,t⟩:∃g,G (xs.length-1)=g:=⟨_,rfl⟩;have Q:=gP t;rw[t] at d u T V;have v:=gP h0;have aa:=gP S;have X:gc≠f:=gO;have Y:f≠gc:=gO;clear h r1 r2 h0 A e2 t S P;go_enter Tryz.func113,Tryz.ntmps113;go_upto_region 2 with fail;obtain⟨W,s⟩:∃W,((w.alloc (.cells #[x.ev.time,x.ev.to,x.ev.from_,x.ev.count,x.ev.n,x.ev.kind,x.ev.arg,x.st.x,x.st.y,x.st.c,.slice i x.sends.length l,.slice m x.outs.length o] 141)).alloc (.cells #[x.ev.time,x.ev.to,x.ev.from_,x.ev.count,x.ev.n,x.ev.kind,x.ev.arg,x.st.x,x.st.y,x.st.c,.slice i x.sends.length l,.slice m x.outs.length o,.pointer none] 199))=W:=⟨_,rfl⟩;have E:W.heap.size=w.heap.size+1+1:=by rw[←s];simp
  have HS:=gP E;rw[s] at r M d H I J u ⊢;clear s E;obtain⟨a0,a1⟩:=DA d;have aj:W.cell? ⟨f,12,none⟩=some (.pointer none):=by rw[gM u];rfl
  have f0:=ft d;have f2:=ft u 12;go_wp2_with fail;have C:Ch (fun k=>k=gc∨k=f) W ((W.setCell ⟨f,12,none⟩ (.pointer (some ⟨w.heap.size+1,0,none⟩))).setCell ⟨gc,1,none⟩ (.pointer (some ⟨w.heap.size+1,0,none⟩))):=Ch.setCell (p:=⟨gc,1,none⟩) (Ch.setCell (p:=⟨f,12,none⟩) (Ch.refl (fun k=>k=gc∨k=f) _) (Or.inl (Or.inr rfl)) _) (Or.inl (Or.inl rfl)) _;have ad:Ch (fun k=>k=f) W (W.setCell ⟨f,12,none⟩ (.pointer (some ⟨w.heap.size+1,0,none⟩))):=Ch.setCell (p:=⟨f,12,none⟩) (Ch.refl (fun k=>k=f) _) (Or.inl rfl) _;have ae:Ch (fun k=>k=gc) (W.setCell ⟨f,12,none⟩ (.pointer (some ⟨w.heap.size+1,0,none⟩))) ((W.setCell ⟨f,12,none⟩ (.pointer (some ⟨w.heap.size+1,0,none⟩))).setCell ⟨gc,1,none⟩ (.pointer (some ⟨w.heap.size+1,0,none⟩))):=Ch.setCell (p:=⟨gc,1,none⟩) (Ch.refl (fun k=>k=gc) _) (Or.inl rfl) _;have z:=gN (ad.heap d X) 1 (.pointer (some ⟨w.heap.size+1,0,none⟩));simp only[mo,mp,ml] at z;have U:=H.out.grow (w':=(W.setCell ⟨f,12,none⟩ (.pointer (some ⟨w.heap.size+1,0,none⟩))).setCell ⟨gc,1,none⟩ (.pointer (some ⟨w.heap.size+1,0,none⟩))) (gn:=w.heap.size+1) x (.slice i x.sends.length l) (.slice m x.outs.length o) gO (fun j O=>by have:=aa.out j O;omega) R (C.mono (fun k D=>D.imp_right fun e=>⟨by have:=v.out;omega,by rw[Q.out];exact e⟩)) (by rw[z,if_neg v.out]) (C.heap M gO)
   (fun ak am al L=>by
    rw[Q.out] at L ⊢;have:=ae.heap (gN L 12 (.pointer (some ⟨w.heap.size+1,0,none⟩))) Y;rw[this];rfl) I.out J.out
  go_end0
  exact⟨rfl,⟨_,U⟩,((r.mono hB).setCell (p:=⟨f,12,none⟩) (by show B≤f;omega) _).setCell (p:=⟨gc,1,none⟩) hgc _⟩
theorem oN (v:Value) (xs:List iq) (F:Nat→Prop) (w:World) (h:Rd jm w F v xs) (hF:∀k,F k→k<w.heap.size):
  Calls Tryz.prog 95 #[v] w fun q w' =>∃gc G,q= .returned (.pointer (some ⟨gc,0,none⟩))∧w.heap.size≤gc∧kh w' F gc xs G∧Below w.heap.size w w':=by
 obtain⟨A,c,rfl,-,L,-⟩:=id h;have E:Below w.heap.size w (w.alloc (.cells #[.pointer none,.pointer none] 197)):=gU (gY _ _) _;have Z:(w.alloc (.cells #[.pointer none,.pointer none] 197)).heap[w.heap.size]? =some (.cells #[.pointer none,.pointer none] 197):=gX rfl;go_enter Tryz.func95,Tryz.ntmps95;go_wp2_with fail;obtain⟨gc,d⟩:∃g,g=w.heap.size:=⟨_,rfl⟩;have l:=gP (show w.heap.size≤gc∧gc≤w.heap.size by omega);rw[←d] at Z;simp only[←d];have p:kh (w.alloc (.cells #[.pointer none,.pointer none] 197)) F gc [] (fun j=>j):=⟨by simpa [ns,pM] using Z,fun j a=>by simp at a,fun i j _ a=>by simp at a,fun j a=>by simp at a,fun f=>by have J:gc<w.heap.size:=hF _ f;omega,fun j a=>by simp at a,fun k f=>by have J:k<w.heap.size:=hF _ f;simp;omega⟩;generalize w.alloc (.cells #[.pointer none,.pointer none] 197)=W at*;clear d Z
 go_loopw [10] (fun i wr=>∃(k:Nat) (G:Nat→Nat),i= .int .i64 k∧k≤xs.length∧kh wr F gc (xs.take k) G∧Below w.heap.size w wr) (fun i _=>xs.length-(intOf i).toNat)
 case atStart=>exact⟨0,_,rfl,jP _,by simpa using p,E⟩
 case round=>
  clear p;obtain⟨k,G,rfl,f,r,e⟩:=hrel;by_cases hlt:k<xs.length
  ·obtain⟨U,V,B,H,C,I,rfl,R,⟨y0,y1,y2,y3,y4,y5,y6⟩,⟨y7,y8,y9⟩,S,T,P,Q⟩:=k9 (h.below e) k hlt
   have X:(k:Int)<(xs.length:Int):=gO;have b:=gU (gY wr.heap.size wr) (.cells #[xs[k].ev.time,xs[k].ev.to,xs[k].ev.from_,xs[k].ev.count,xs[k].ev.n,xs[k].ev.kind,xs[k].ev.arg,xs[k].st.x,xs[k].st.y,xs[k].st.c,.slice B xs[k].sends.length H,.slice C xs[k].outs.length I] 141);have u:=r.below b;have M:=P.below b;have O:=Q.below b;have m:=gQ e b e.size;go_wp2_with fail;refine(uX gc w.heap.size _ (xs.take k) G xs[k] _ _ _ u m.size (by have:=l.out;omega) M O).mono ?_;rintro q Y ⟨rfl,⟨D,o⟩,s⟩;have t:=m.trans s;rw[←qp hlt] at o;apply_assumption;go_wp2_with fail;go_roundw
   case rel=>exact⟨k+1,D,by go_num,gO,o,t⟩
   case measure=>exact ms
  ·have z:k=xs.length:=gO
   subst z;rw[ld] at r;go_wp2_with fail;go_ret;exact⟨gc,G,rfl,l.out.1,r,e⟩
theorem o7 (gc:Nat) (E:Nat→Prop) (xs:List iq) (G:Nat→Nat) (came:List im) (vc:Value) (F:Nat→Prop) (w:World) (h:kh w E gc xs G) (hc:Rd iC w F vc came):
  Calls Tryz.prog 96 #[.pointer (some ⟨gc,0,none⟩),vc] w fun q w' =>q= .returned (.int .i64 (il xs came:Nat))∧Below w.heap.size w w':=by
 obtain⟨C,W,rfl,-,T,-⟩:=id hc;have M:w.cell? ⟨gc,0,none⟩=some (ns G xs.length 0):=gM h.blk 0;go_enter Tryz.func96,Tryz.ntmps96;go_wp2_with fail
 go_loopw [5,6] (fun i l wr=>∃k:Nat,i= .int .i64 k∧l=ns G xs.length k∧k≤xs.length∧k≤came.length∧Hid (il xs came=k+il (xs.drop k) (came.drop k))∧Below w.heap.size w wr) (fun i _ _=>xs.length-(intOf i).toNat)
 case atStart=>exact⟨0,rfl,rfl,jP _,jP _,gP sm,gY _ _⟩
 case round=>
  clear M;obtain⟨k,rfl,rfl,X,S,HS,g⟩:=hrel;have m:=hc.below g;have P:=h.below g;by_cases h1:k<xs.length
  case neg=>
   have j:=gP (show il xs came=k by have d:=HS.out;rw[vZ gO] at d;omega);have c:ns G xs.length k= .pointer none:=by rw[ns,if_neg h1]
   rw[c];clear h1 c;go_upto_region 3 with fail;refine kg [.rd [0],.mid 1,.rd [2,3,4,5,6,7,8,9,10,11,12,13,14,15,16,17]] [18,19] ?_;refine vL ?_;intro N hN;go_wp2_with fail;refine gR (hN _ ?_);clear hN N;refine vM ?_;intro N hN;go_wp2_with fail;refine vN (gY _ _) (hN _ _ ?_);clear hN;refine vL ?_;intro N hN;go_wp2_with fail;refine gR (hN _ ?_);clear hN N;refine vF ?_;have a:=g.drew;go_wp2_with fail;go_ret;exact⟨by rw[j.out];rfl,a⟩
  have c:ns G xs.length k= .pointer (some ⟨G k,0,none⟩):=by rw[ns,if_pos h1]
  rw[c];by_cases h2:k<came.length
  case neg=>
   have j:=gP (show il xs came=k by have d:=HS.out;rw[uM gO] at d;omega);have Q:decide ((k:Int)<(came.length:Int))=false:=iU gO;have Z:decide (k<came.length)=false:=iU h2;clear h2 c;go_upto_region 3 with fail;refine kg [.rd [0],.mid 1,.rd [2,3,4,5,6,7,8,9,10,11,12,13,14,15,16,17]] [18,19] ?_;refine vL ?_;intro N hN;go_wp2_with fail;refine gR (hN _ ?_);clear hN N;refine vM ?_;intro N hN;go_wp2_with fail;refine vN (gY _ _) (hN _ _ ?_);clear hN;refine vL ?_;intro N hN;go_wp2_with fail;refine gR (hN _ ?_);clear hN N;refine vF ?_;have a:=g.drew;go_wp2_with fail;go_ret;exact⟨by rw[j.out];rfl,a⟩
  have Q:(k:Int)<(came.length:Int):=gO;obtain⟨vs,vo,b,-,-⟩:=P.at_ k h1;obtain⟨V,Y,rfl,R,z,A,B,D,H,I,J⟩:=jD m k h2;have o:wr.cell? ⟨G k,0,none⟩=some (.int .i64 xs[k].ev.time):=by rw[gM b];rfl
  have p:wr.cell? ⟨G k,1,none⟩=some (.int .i64 xs[k].ev.to):=by rw[gM b];rfl
  have r:wr.cell? ⟨G k,2,none⟩=some (.int .i64 xs[k].ev.from_):=by rw[gM b];rfl
  have s:wr.cell? ⟨G k,3,none⟩=some (.int .i64 xs[k].ev.count):=by rw[gM b];rfl
  have t:wr.cell? ⟨G k,4,none⟩=some (.int .i64 xs[k].ev.n):=by rw[gM b];rfl
  have u:wr.cell? ⟨G k,5,none⟩=some (.int .i64 xs[k].ev.kind):=by rw[gM b];rfl
  have v:wr.cell? ⟨G k,6,none⟩=some (.int .i64 xs[k].ev.arg):=by rw[gM b];rfl
  have U:wr.cell? ⟨G k,12,none⟩=some (ns G xs.length (k+1)):=by rw[gM b];rfl
  by_cases he:xs[k].ev=came[k]
  ·have L:=gP (show il xs came=(k+1)+il (xs.drop (k+1)) (came.drop (k+1)) by have d:=HS.out;rw[BC h1 h2 he] at d;omega)
   obtain⟨x,e⟩:∃x,xs[k].ev=x:=⟨_,rfl⟩;obtain⟨y,f⟩:∃y,came[k]=y:=⟨_,rfl⟩;rw[e] at o p r s t u v;rw[f] at z A B D H I J;have O:decide (x=y)=true:=jT (by rw[←e,←f];exact he);clear e f he c b;go_upto_region 3 with fail;refine kg [.rd [0],.mid 1,.rd [2,3,4,5,6,7,8,9,10,11,12,13,14,15,16,17]] [18,19] ?_;refine vL ?_;intro N hN;go_wp2_with fail;refine gR (hN _ ?_);clear hN N;refine vM ?_;intro N hN;go_wp2_with fail;refine vN (gY _ _) (hN _ _ ?_);clear hN;refine vL ?_;intro N hN;go_wp2_with fail;refine gR (hN _ ?_);clear hN N;refine vF ?_;have a:=g.drew;go_wp2_with fail;go_roundw
   case rel=>exact⟨k+1,by go_num,rfl,gO,gO,L,a⟩
   case measure=>exact ms
  ·have j:=gP (show il xs came=k by have d:=HS.out;rw[vY h1 h2 he] at d;omega)
   obtain⟨x,e⟩:∃x,xs[k].ev=x:=⟨_,rfl⟩;obtain⟨y,f⟩:∃y,came[k]=y:=⟨_,rfl⟩;rw[e] at o p r s t u v;rw[f] at z A B D H I J;have O:decide (x=y)=false:=iU (by rw[←e,←f];exact he);clear e f he c b;go_upto_region 3 with fail;refine kg [.rd [0],.mid 1,.rd [2,3,4,5,6,7,8,9,10,11,12,13,14,15,16,17]] [18,19] ?_;refine vL ?_;intro N hN;go_wp2_with fail;refine gR (hN _ ?_);clear hN N;refine vM ?_;intro N hN;go_wp2_with fail;refine vN (gY _ _) (hN _ _ ?_);clear hN;refine vL ?_;intro N hN;go_wp2_with fail;refine gR (hN _ ?_);clear hN N;refine vF ?_;have a:=g.drew;go_wp2_with fail;go_ret;exact⟨by rw[j.out];rfl,a⟩
theorem yX (l:hZ) (v vc:Value) (came:List im) (F G:Nat→Prop) (w:World) (h:Rd jm w F v l.done) (hc:Rd iC w G vc came) (qk:iW l=true) (qc:lk l came=true):
  Calls Tryz.prog 110 #[.agg #[l.proc,l.base.x,l.base.y,l.base.c,v],vc] w (yR l came w):=by
 obtain⟨A,c,rfl,-,af,-⟩:=id h;obtain⟨B,b,rfl,-,aw,-⟩:=id hc;obtain⟨W,hV,d,Z,Y⟩:=yb w (.cells #[l.proc,l.base.x,l.base.y,l.base.c,.slice A l.done.length c] 65) (.cells #[.int .i64 0,.int .i64 0,.int .i64 0,.int .i64 0,.int .i64 0,.int .i64 0,.int .i64 0] 132);go_enter Tryz.func110,Tryz.ntmps110;go_wp2_with fail;rw[hV.out];clear hV;replace h:=h.below d;replace hc:=hc.below d;obtain⟨r,s,t,u,z⟩:=ra Z;obtain⟨C,D,E,H,I,J,L⟩:=yc Y;have M:=ft Y;refine(oN _ l.done _ _ h.bound (fun k hk=>hk.2)).mono ?_;rintro q w1 ⟨gc,G,rfl,-,P,a⟩;replace d:=gQ d a d.size;replace Z:=gJ a (gL Z) Z;replace Y:=gJ a (gL Y) Y;replace h:=h.below a;replace hc:=hc.below a;clear a;clear r s t u z C M D E H I J L;obtain⟨r,s,t,u,z⟩:=ra Z;obtain⟨C,D,E,H,I,J,L⟩:=yc Y;have M:=ft Y;apply_assumption;go_wp2_with fail;refine(o7 gc _ l.done G came _ _ _ P hc).mono ?_;rintro q m ⟨rfl,a⟩;clear P;replace d:=gQ d a d.size;replace Z:=gJ a (gL Z) Z;replace Y:=gJ a (gL Y) Y;replace h:=h.below a;replace hc:=hc.below a;clear a;clear r s t u z C M D E H I J L;obtain⟨r,s,t,u,z⟩:=ra Z;obtain⟨C,D,E,H,I,J,L⟩:=yc Y;have M:=ft Y;have Q:=gP (show lx l came=lD l came by unfold lx;rw[if_pos ⟨qk,qc⟩]);have j:=xG l.done came;obtain⟨n,g⟩:∃n,il l.done came=n:=⟨_,rfl⟩;rw[g] at j ⊢;have HN:=gP g;by_cases h1:n<l.done.length
 case pos=>
  have i:=gP (show lx l came=none by rw[Q.out,lD,g,if_pos h1]);have p0:decide ((n:Int)<(l.done.length:Int))=true:=jT gO;have p9:decide (n<l.done.length)=true:=jT h1;clear g h1 j;apply_assumption;go_wp2_with fail;have f:Below w.heap.size w (((((((m.setCell ⟨w.heap.size+1,0,none⟩ (.int .i64 0)).setCell ⟨w.heap.size+1,1,none⟩ (.int .i64 0)).setCell ⟨w.heap.size+1,2,none⟩ (.int .i64 0)).setCell ⟨w.heap.size+1,3,none⟩ (.int .i64 0)).setCell ⟨w.heap.size+1,4,none⟩ (.int .i64 0)).setCell ⟨w.heap.size+1,5,none⟩ (.int .i64 0)).setCell ⟨w.heap.size+1,6,none⟩ (.int .i64 0)):=(((((((d.setCell (p:=⟨w.heap.size+1,0,none⟩) (Nat.le_succ _) (.int .i64 0)).setCell (p:=⟨w.heap.size+1,1,none⟩) (Nat.le_succ _) (.int .i64 0)).setCell (p:=⟨w.heap.size+1,2,none⟩) (Nat.le_succ _) (.int .i64 0)).setCell (p:=⟨w.heap.size+1,3,none⟩) (Nat.le_succ _) (.int .i64 0)).setCell (p:=⟨w.heap.size+1,4,none⟩) (Nat.le_succ _) (.int .i64 0)).setCell (p:=⟨w.heap.size+1,5,none⟩) (Nat.le_succ _) (.int .i64 0)).setCell (p:=⟨w.heap.size+1,6,none⟩) (Nat.le_succ _) (.int .i64 0));have e:=(gN (gN (gN (gN (gN (gN (gN Y 0 (.int .i64 0)) 1 (.int .i64 0)) 2 (.int .i64 0)) 3 (.int .i64 0)) 4 (.int .i64 0)) 5 (.int .i64 0)) 6 (.int .i64 0));simp only[mo,mp,ml] at e;generalize (((((((m.setCell ⟨w.heap.size+1,0,none⟩ (.int .i64 0)).setCell ⟨w.heap.size+1,1,none⟩ (.int .i64 0)).setCell ⟨w.heap.size+1,2,none⟩ (.int .i64 0)).setCell ⟨w.heap.size+1,3,none⟩ (.int .i64 0)).setCell ⟨w.heap.size+1,4,none⟩ (.int .i64 0)).setCell ⟨w.heap.size+1,5,none⟩ (.int .i64 0)).setCell ⟨w.heap.size+1,6,none⟩ (.int .i64 0))=O at*;obtain⟨T,U,V,X,s4,s5,s6⟩:=yc e;refine bodyPost_ret (v:= .tuple #[.agg #[.int .i64 0,.int .i64 0,.int .i64 0,.int .i64 0,.int .i64 0,.int .i64 0,.int .i64 0],.bool false]) (by simp only[results,Tryz.results110];go_simp) rfl ⟨⟨0,0,0,0,0,0,0⟩,false,rfl,(fun o=>by cases o),(fun _=>i.out),f⟩
 have p0:decide ((n:Int)<(l.done.length:Int))=false:=iU gO;have p9:decide (n<l.done.length)=false:=iU h1;by_cases R:came.length≤n
 case pos=>
  have i:=gP (show lx l came=none by rw[Q.out,lD,g,if_neg h1,List.getElem?_eq_none R]);have p1:decide ((n:Int)=(came.length:Int))=true:=jT gO;have p2:decide (n=came.length)=true:=jT gO;have p3:((n:Int)==(came.length:Int))=true:=by simp;omega
  have p4:(n==came.length)=true:=by simp;omega
  clear g h1 R j;apply_assumption;go_wp2_with fail;have f:Below w.heap.size w (((((((m.setCell ⟨w.heap.size+1,0,none⟩ (.int .i64 0)).setCell ⟨w.heap.size+1,1,none⟩ (.int .i64 0)).setCell ⟨w.heap.size+1,2,none⟩ (.int .i64 0)).setCell ⟨w.heap.size+1,3,none⟩ (.int .i64 0)).setCell ⟨w.heap.size+1,4,none⟩ (.int .i64 0)).setCell ⟨w.heap.size+1,5,none⟩ (.int .i64 0)).setCell ⟨w.heap.size+1,6,none⟩ (.int .i64 0)):=(((((((d.setCell (p:=⟨w.heap.size+1,0,none⟩) (Nat.le_succ _) (.int .i64 0)).setCell (p:=⟨w.heap.size+1,1,none⟩) (Nat.le_succ _) (.int .i64 0)).setCell (p:=⟨w.heap.size+1,2,none⟩) (Nat.le_succ _) (.int .i64 0)).setCell (p:=⟨w.heap.size+1,3,none⟩) (Nat.le_succ _) (.int .i64 0)).setCell (p:=⟨w.heap.size+1,4,none⟩) (Nat.le_succ _) (.int .i64 0)).setCell (p:=⟨w.heap.size+1,5,none⟩) (Nat.le_succ _) (.int .i64 0)).setCell (p:=⟨w.heap.size+1,6,none⟩) (Nat.le_succ _) (.int .i64 0));have e:=(gN (gN (gN (gN (gN (gN (gN Y 0 (.int .i64 0)) 1 (.int .i64 0)) 2 (.int .i64 0)) 3 (.int .i64 0)) 4 (.int .i64 0)) 5 (.int .i64 0)) 6 (.int .i64 0));simp only[mo,mp,ml] at e;generalize (((((((m.setCell ⟨w.heap.size+1,0,none⟩ (.int .i64 0)).setCell ⟨w.heap.size+1,1,none⟩ (.int .i64 0)).setCell ⟨w.heap.size+1,2,none⟩ (.int .i64 0)).setCell ⟨w.heap.size+1,3,none⟩ (.int .i64 0)).setCell ⟨w.heap.size+1,4,none⟩ (.int .i64 0)).setCell ⟨w.heap.size+1,5,none⟩ (.int .i64 0)).setCell ⟨w.heap.size+1,6,none⟩ (.int .i64 0))=O at*;obtain⟨T,U,V,X,s4,s5,s6⟩:=yc e;refine bodyPost_ret (v:= .tuple #[.agg #[.int .i64 0,.int .i64 0,.int .i64 0,.int .i64 0,.int .i64 0,.int .i64 0,.int .i64 0],.bool false]) (by simp only[results,Tryz.results110];go_simp) rfl ⟨⟨0,0,0,0,0,0,0⟩,false,rfl,(fun o=>by cases o),(fun _=>i.out),f⟩
 have p1:decide ((n:Int)=(came.length:Int))=false:=iU gO;have p2:decide (n=came.length)=false:=iU gO;have p3:((n:Int)==(came.length:Int))=false:=beq_eq_false_iff_ne.2 gO;have p4:(n==came.length)=false:=beq_eq_false_iff_ne.2 gO;have h2':n<came.length:=gO;have p5:(n:Int)<(came.length:Int):=gO;obtain⟨b1,o1,rfl,av,z0,z1,z2,z3,z4,z5,z6⟩:=jD hc n h2';have i:=gP (show lx l came=some came[n] by rw[Q.out,lD,g,if_neg h1,mc h2']);obtain⟨x,S⟩:∃x,came[n]=x:=⟨_,rfl⟩;rw[S] at z0 z1 z2 z3 z4 z5 z6;have i:=gP (show lx l came=some x by rw[i.out,S]);clear g h1 R S j;apply_assumption;go_wp2_with fail;have f:Below w.heap.size w (((((((m.setCell ⟨w.heap.size+1,0,none⟩ (.int .i64 x.time)).setCell ⟨w.heap.size+1,1,none⟩ (.int .i64 x.to)).setCell ⟨w.heap.size+1,2,none⟩ (.int .i64 x.from_)).setCell ⟨w.heap.size+1,3,none⟩ (.int .i64 x.count)).setCell ⟨w.heap.size+1,4,none⟩ (.int .i64 x.n)).setCell ⟨w.heap.size+1,5,none⟩ (.int .i64 x.kind)).setCell ⟨w.heap.size+1,6,none⟩ (.int .i64 x.arg)):=(((((((d.setCell (p:=⟨w.heap.size+1,0,none⟩) (Nat.le_succ _) (.int .i64 x.time)).setCell (p:=⟨w.heap.size+1,1,none⟩) (Nat.le_succ _) (.int .i64 x.to)).setCell (p:=⟨w.heap.size+1,2,none⟩) (Nat.le_succ _) (.int .i64 x.from_)).setCell (p:=⟨w.heap.size+1,3,none⟩) (Nat.le_succ _) (.int .i64 x.count)).setCell (p:=⟨w.heap.size+1,4,none⟩) (Nat.le_succ _) (.int .i64 x.n)).setCell (p:=⟨w.heap.size+1,5,none⟩) (Nat.le_succ _) (.int .i64 x.kind)).setCell (p:=⟨w.heap.size+1,6,none⟩) (Nat.le_succ _) (.int .i64 x.arg));have e:=(gN (gN (gN (gN (gN (gN (gN Y 0 (.int .i64 x.time)) 1 (.int .i64 x.to)) 2 (.int .i64 x.from_)) 3 (.int .i64 x.count)) 4 (.int .i64 x.n)) 5 (.int .i64 x.kind)) 6 (.int .i64 x.arg));simp only[mo,mp,ml] at e;generalize (((((((m.setCell ⟨w.heap.size+1,0,none⟩ (.int .i64 x.time)).setCell ⟨w.heap.size+1,1,none⟩ (.int .i64 x.to)).setCell ⟨w.heap.size+1,2,none⟩ (.int .i64 x.from_)).setCell ⟨w.heap.size+1,3,none⟩ (.int .i64 x.count)).setCell ⟨w.heap.size+1,4,none⟩ (.int .i64 x.n)).setCell ⟨w.heap.size+1,5,none⟩ (.int .i64 x.kind)).setCell ⟨w.heap.size+1,6,none⟩ (.int .i64 x.arg))=O at*;obtain⟨T,U,V,X,s4,s5,s6⟩:=yc e;refine bodyPost_ret (v:= .tuple #[.agg #[x.time,x.to,x.from_,x.count,x.n,x.kind,x.arg],.bool true]) (by simp only[results,Tryz.results110];go_simp) rfl ⟨x,true,rfl,(fun _=>i.out),(fun o=>by cases o),f⟩
end Go.Proofs.YtgilllnjhahkfaaGreat
