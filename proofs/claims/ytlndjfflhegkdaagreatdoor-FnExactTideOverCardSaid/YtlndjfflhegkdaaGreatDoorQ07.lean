/- Parts of the proof: AppS. -/
import Derived.Test.YtlndjfflhegkdaaGreatDoorQ03
import Derived.Test.YtlndjfflhegkdaaGreatDoorQ04
import Derived.Test.YtlndjfflhegkdaaGreatDoorQ05
set_option linter.unusedVariables false
set_option linter.unusedSimpArgs false
set_option linter.unusedSectionVars false
set_option maxHeartbeats 4000000
set_option maxRecDepth 100000
namespace Go.Proofs.YtlndjfflhegkdaaGreatDoor
open Go.RowKit
theorem FP (g B:Nat) (c:Int) (e:hY) (r:im) (sv ov:Value) (o:lJ) (w:World) (h:kJ w g B c e r sv ov) (hB:B≤w.heap.size) (hr:lA r) (he:i7 e=true) (hns:r.sends.length≤1000) (hno:r.outs.length≤1000) (ho:kg o=true):
  Calls Tryz.prog 113 #[.pointer (some ⟨g,0,none⟩),.agg #[o.d,o.a,o.b,o.c,o.e]] w (nQ B g c e r o w):=by
 obtain⟨d,a,b,f,i⟩:=o;have j:=And.intro hr.x0 hr.x1;have l:=And.intro hr.y0 hr.y1;by_cases k:d=1∨d=2∨d=3∨d=4∨d=5∨d=6∨d=7
 ·rcases k with rfl|rfl|rfl|rfl|rfl|rfl|rfl
  ·exact Fd g B c e r sv ov a b f i w h hB j l he hns hno ho
  ·exact Fe g B c e r sv ov a b f i w h hB j l he hns hno ho
  ·exact Ff g B c e r sv ov a b f i w h hB j l he hns hno ho
  ·exact Fg g B c e r sv ov a b f i w h hB j l he hns hno ho
  ·exact Fh g B c e r sv ov a b f i w h hB j l he hns hno ho
  ·exact Fk g B c e r sv ov a b f i w h hB j l he hns hno ho
  ·exact Fl g B c e r sv ov a b f i w h hB j l he hns hno ho
 ·have m:kg ⟨d,a,b,f,i⟩=false:=by simp only[kg];rw[if_neg fT,if_neg fT,if_neg fT,if_neg fT,if_neg fT]
  rw[m] at ho;cases ho
theorem Fo {W:World} {F:Nat→Prop} {v:Value} {a:iy} (h:Rd kT W F v a.rules) {g:Nat} {t:TypeId} {fr:Nat×Nat} (hg:W.heap[g]? =some (.cells #[v,.slice none 0 0,.slice none 0 0,.slice none 0 0] t fr)):
  Rd me W (fun _=>True) (.slice (some ⟨g,0,none⟩) 4 4) [a,⟨[]⟩,⟨[]⟩,⟨[]⟩]:=by
 refine⟨_,4,rfl,by simp,by simp,fun _=>⟨g,0,rfl,trivial,(Array.getElem?_eq_some_iff.1 hg).1,fun j x d=>?_⟩⟩;have e:Rd kT W (fun _=>True) (.slice none 0 0) []:=Rd.nil _ _ _;have f:j<4:=by have:=(List.getElem?_eq_some_iff.1 d).1;simpa using this
 have c:∀k,W.cell? ⟨g,k,none⟩= #[v,Value.slice none 0 0,.slice none 0 0,.slice none 0 0][k]? :=fun k=>by simp[World.cell?,hg]
 match j,f with
 |0,_=>obtain rfl:a=x:=by simpa using d
       exact⟨[v],⟨v,rfl,h.mono (fun _ _=>trivial)⟩,fun i u b=>by cases i with|zero=>simp at b;subst b;exact c 0|succ i=>simp at b⟩
 |1,_=>obtain rfl:(⟨[]⟩:iy)=x:=by simpa using d
       exact⟨[_],⟨_,rfl,e⟩,fun i u b=>by cases i with|zero=>simp at b;subst b;exact c 1|succ i=>simp at b⟩
 |2,_=>obtain rfl:(⟨[]⟩:iy)=x:=by simpa using d
       exact⟨[_],⟨_,rfl,e⟩,fun i u b=>by cases i with|zero=>simp at b;subst b;exact c 2|succ i=>simp at b⟩
 |3,_=>obtain rfl:(⟨[]⟩:iy)=x:=by simpa using d
       exact⟨[_],⟨_,rfl,e⟩,fun i u b=>by cases i with|zero=>simp at b;subst b;exact c 3|succ i=>simp at b⟩
theorem gP {W:World} {o:Obj} {k:Nat} (h:k<W.heap.size):(W.alloc o).heap[k]? =W.heap[k]? :=Below.heap_alloc W o k h
theorem Ow.empty {α:Type} (d:Ty α) {e:TypeId} {w:World} {F:Nat→Prop} {g:Nat} (hg:w.heap[g]? =some (.cells #[] e (0,0))) (hF:F g):Ow d e w F (.slice (some ⟨g,0,none⟩) 0 0) []:=
 ⟨[],fun _ _=>False,⟨by simp,.inr ⟨g,0,#[],rfl,j8 _,hg,jn _,by simp[maxLen],by simp,by simp⟩⟩,fun k hk=>by simp[Value.ownBlock] at hk;subst hk;exact hF,fun _ _ h=>h.elim,fun _ _ _ _ h=>h.elim,fun j x hj=>by simp at hj⟩
def qj (a:iy) (s:ll) (e:hY) (w:World) (q:Ending) (w':World):Prop:=
 ∃sv ov,q= .returned (.tuple #[.agg #[.int .i64 (iA a s e).1.x,.int .i64 (iA a s e).1.y,.int .i64 (iA a s e).1.c],sv,ov])∧
  Ow iw 91 w' (fun k=>w.heap.size≤k) sv (iA a s e).2.1∧Ow hJ 101 w' (fun k=>w.heap.size≤k) ov (iA a s e).2.2∧Below w.heap.size w w'
theorem DE {w wr:World} {g B rb:Nat} {c:Int} {e:hY} {r:im} {sv ov:Value} {z:Array Value} (hR:kJ wr g B c e r sv ov) (hB3:wr.heap[rb]? =some (.cells z 127 (0,0))) (hne:¬g=rb) (hB:w.heap.size≤B) (hrb:w.heap.size≤rb) (hb:Below w.heap.size w wr) (u a b d:Value):
  Ow iw 91 (((((wr.setCell ⟨g,2,none⟩ u).drew).setCell ⟨rb,0,none⟩ a).setCell ⟨rb,1,none⟩ b).setCell ⟨rb,2,none⟩ d) (fun k=>w.heap.size≤k) sv r.sends∧
  Ow hJ 101 (((((wr.setCell ⟨g,2,none⟩ u).drew).setCell ⟨rb,0,none⟩ a).setCell ⟨rb,1,none⟩ b).setCell ⟨rb,2,none⟩ d) (fun k=>w.heap.size≤k) ov r.outs∧
  Below w.heap.size w (((((wr.setCell ⟨g,2,none⟩ u).drew).setCell ⟨rb,0,none⟩ a).setCell ⟨rb,1,none⟩ b).setCell ⟨rb,2,none⟩ d):=by
 have f:(wr.setCell ⟨g,2,none⟩ u).drew.heap[rb]? =some (.cells z 127 (0,0)):=(Below.heap_setCell wr ⟨g,2,none⟩ u rb (fun m=>hne m.symm)).trans hB3;have i:=gJ f 0 a;have l:=gJ i 1 b;have o:=hR.ge;refine⟨?_,?_,((((hb.setCell (by show _≤g;omega) _).drew).setCell hrb _).setCell hrb _).setCell hrb _⟩
 ·have j:Ow iw 91 (wr.setCell ⟨g,2,none⟩ u).drew _ sv r.sends:=(hR.sends.setCell hR.blk dc u).below (gM _ _).drew
  exact(((j.setCell f dc a).setCell i dc b).setCell l dc d).mono (fun k n=>fT)
 ·have j:Ow hJ 101 (wr.setCell ⟨g,2,none⟩ u).drew _ ov r.outs:=(hR.outs.setCell hR.blk dc u).below (gM _ _).drew
  exact(((j.setCell f dc a).setCell i dc b).setCell l dc d).mono (fun k n=>fT)
theorem pe {a:iy} {s s':ll} {e:hY} {w W:World} {H1 H2:Nat} {sv:Value} (hf:iA a s e=(s',[],[])) (hB:Below w.heap.size w W) (hs:sv= .agg #[s'.x,s'.y,s'.c]) (h1:H1=W.heap.size) (h2:H2=W.heap.size+1):
  qj a s e w (.returned (.tuple #[sv,.slice (some ⟨H1,0,none⟩) 0 0,.slice (some ⟨H2,0,none⟩) 0 0])) ((W.alloc (.cells #[] 91)).alloc (.cells #[] 101)):=by
 subst h1 h2 hs;have b:=hB.size;refine⟨_,_,by rw[hf],?_,?_,gs (gs hB _) _⟩
 ·rw[hf]
  refine(Ow.empty iw (F:=fun k=>w.heap.size≤k) (w:=W.alloc (.cells #[] 91)) (gL rfl) b).alloc _
 ·rw[hf]
  exact Ow.empty hJ (gL sm) fT
theorem xL (v:Value) (a:iy) (s:ll) (e:hY) (F:Nat→Prop) (w:World) (h:Rd kT w F v a.rules):
  Calls Tryz.prog 73 #[.agg #[v],.agg #[s.x,s.y,s.c],.agg #[e.time,e.to,e.from_,e.count,e.n,e.kind,e.arg]] w (qj a s e w):=by
 obtain⟨A,cp,rfl,-,bp,-⟩:=id h;have h:=h.bound;by_cases T:je a=true
 ·have q1':=T
  by_cases U:jE ⟨s.x,s.y,s.c⟩=true
  ·have q2':=U
   by_cases q3:i7 ⟨e.time,e.to,e.from_,e.count,e.n,e.kind,e.arg⟩=true
   ·have q3':=q3
    have hc:=fS (show 0≤s.c∧s.c≤12 by simp[jE,ib] at U;exact U.2);by_cases q4:s.c=12
    ·have J:iA a s e=(s,[],[]):=by
      have h2:jE s=true:=U;have h3:i7 e=true:=q3;simp[iA,T,h2,h3,q4]
     have S:=fS J;clear J T U q3;have aX:decide (12≤s.c)=true:=by simp;omega
     clear q4;go_enter Tryz.func73,Tryz.ntmps73;go_wp2_with (first|(go_at_call 32;refine(lH _ [a,⟨[]⟩,⟨[]⟩,⟨[]⟩] _ _ (Fo (h.below (by repeat (first|exact gM _ _|refine gs ?_ _))) (gL sm))).mono ?_;rintro q t ⟨m,d⟩;rw[nj,q1'] at m;subst m;obtain⟨O,P⟩:=j9 d;have z:w.heap.size<t.heap.size:=(by have:=d.size;simp only[lb] at this;omega);have E:w.heap.size+1<t.heap.size:=(by have:=d.size;simp only[lb] at this;omega);have C:w.heap.size+1+1<t.heap.size:=(by have:=d.size;simp only[lb] at this;omega);have D:w.heap.size+1+1+1<t.heap.size:=(by have:=d.size;simp only[lb] at this;omega))|(go_at_call 110;refine(kw _ _ _ _).mono ?_;rintro q u ⟨m,f⟩;rw[q2'] at m;subst m;obtain⟨Y,Z⟩:=j9 f;have G:w.heap.size<u.heap.size:=(by have:=f.size;omega);have M:w.heap.size+1<u.heap.size:=(by have:=f.size;omega);have H:w.heap.size+1+1<u.heap.size:=(by have:=f.size;omega);have I:w.heap.size+1+1+1<u.heap.size:=(by have:=f.size;omega))|(go_at_call 106;refine(kS _ _ _ _ _ _ _ _).mono ?_;rintro q g ⟨m,l⟩;rw[q3'] at m;subst m;obtain⟨ag,ah⟩:=j9 l;have V:w.heap.size<g.heap.size:=(by have:=l.size;omega);have aa:w.heap.size+1<g.heap.size:=(by have:=l.size;omega);have W:w.heap.size+1+1<g.heap.size:=(by have:=l.size;omega);have X:w.heap.size+1+1+1<g.heap.size:=(by have:=l.size;omega)));refine bodyPost_ret (v:= .tuple #[.agg #[s.x,s.y,s.c],.slice (some ⟨g.heap.size,0,none⟩) 0 0,.slice (some ⟨g.heap.size+1,0,none⟩) 0 0]) (by simp[results,Tryz.results73,go_sem,O,P,z,E,C,D,Y,Z,G,M,H,I,ag,ah,V,aa,W,X]) rfl ?_;exact pe S.out ((((gK (gK (gK (by repeat (first|exact gM _ _|refine gs ?_ _)) d) f) l).setCell (by simp;omega) _).setCell (by simp;omega) _).setCell (by simp;omega) _) rfl sm sm
    ·have bI:s.c<12:=by have:=hc.out;omega
     have aX:decide (12≤s.c)=false:=by simp;omega
     have bB:=hc.out;have J:iA a s e=(let r:=jh e s.c a.rules ⟨s.x,s.y,[],[]⟩;(⟨r.x,r.y,s.c+1⟩,r.sends,r.outs)):=by
      have h2:jE s=true:=U;have h3:i7 e=true:=q3;simp[iA,T,h2,h3,q4]
     have S:=fS J;clear J;have av:=vt (s:=s) U;have bM:=wk T;have HA:=fS T;have HE:=fS (show i7 e=true from q3);clear T U q3 q4 hc;go_enter Tryz.func73,Tryz.ntmps73;go_wp2_with (first|(go_at_call 32;refine(lH _ [a,⟨[]⟩,⟨[]⟩,⟨[]⟩] _ _ (Fo (h.below (by repeat (first|exact gM _ _|refine gs ?_ _))) (gL sm))).mono ?_;rintro q t ⟨m,d⟩;rw[nj,q1'] at m;subst m;obtain⟨O,P⟩:=j9 d;have z:w.heap.size<t.heap.size:=(by have:=d.size;simp only[lb] at this;omega);have E:w.heap.size+1<t.heap.size:=(by have:=d.size;simp only[lb] at this;omega);have C:w.heap.size+1+1<t.heap.size:=(by have:=d.size;simp only[lb] at this;omega);have D:w.heap.size+1+1+1<t.heap.size:=(by have:=d.size;simp only[lb] at this;omega))|(go_at_call 110;refine(kw _ _ _ _).mono ?_;rintro q u ⟨m,f⟩;rw[q2'] at m;subst m;obtain⟨Y,Z⟩:=j9 f;have G:w.heap.size<u.heap.size:=(by have:=f.size;omega);have M:w.heap.size+1<u.heap.size:=(by have:=f.size;omega);have H:w.heap.size+1+1<u.heap.size:=(by have:=f.size;omega);have I:w.heap.size+1+1+1<u.heap.size:=(by have:=f.size;omega))|(go_at_call 106;refine(kS _ _ _ _ _ _ _ _).mono ?_;rintro q g ⟨m,l⟩;rw[q3'] at m;subst m;obtain⟨ag,ah⟩:=j9 l;have V:w.heap.size<g.heap.size:=(by have:=l.size;omega);have aa:w.heap.size+1<g.heap.size:=(by have:=l.size;omega);have W:w.heap.size+1+1<g.heap.size:=(by have:=l.size;omega);have X:w.heap.size+1+1+1<g.heap.size:=(by have:=l.size;omega)));have B0:g.heap[w.heap.size]? =some (.cells #[.slice A a.rules.length cp] 96):=(l.block _ G).trans ((f.block _ z).trans ((d.block _ (by simp only[lb];omega)).trans ((gP (by simp only[lb];omega)).trans ((gP (by simp only[lb];omega)).trans ((gP (by simp only[lb];omega)).trans ((gP (by simp only[lb];omega)).trans (gL rfl)))))));have B2:g.heap[w.heap.size+1+1]? =some (.cells #[e.time,e.to,e.from_,e.count,e.n,e.kind,e.arg] 91):=(l.block _ H).trans ((f.block _ C).trans ((d.block _ (by simp only[lb];omega)).trans ((gP (by simp only[lb];omega)).trans ((gP (by simp only[lb];omega)).trans (gL (by simp only[lb]))))));have B3:g.heap[w.heap.size+1+1+1]? =some (.cells #[.int .i64 0,.int .i64 0,.int .i64 0] 127):=(l.block _ I).trans ((f.block _ D).trans ((d.block _ (by simp only[lb];omega)).trans ((gP (by simp only[lb];omega)).trans (gL (by simp only[lb])))));have c0:=fw B0 0;have c5:=fw B2 5;simp at c0 c5;have ae:Below w.heap.size w g:=(gK (gK (gK (by repeat (first|exact gM _ _|refine gs ?_ _)) d) f) l);have aL:=fS B3;clear B0 B2 B3
     go_loopw [10] (fun i wr=>∃(k:Nat) (r:im) (sv ov:Value),i= .int .i64 k∧k≤a.rules.length∧kJ wr (g.heap.size+1+1) g.heap.size s.c e r sv ov∧Hid (jh e s.c (a.rules.take k) ⟨s.x,s.y,[],[]⟩=r)∧lA r∧r.sends.length≤20*k∧r.outs.length≤20*k∧Below g.heap.size g wr) (fun i _=>a.rules.length-(intOf i).toNat)
     case atStart=>
      refine⟨0,⟨s.x,s.y,[],[]⟩,_,_,rfl,j8 _,⟨gL sm,fT,?_,?_⟩,rfl,av,by simp,by simp,by repeat (first|exact gM _ _|refine gs ?_ _)⟩
      ·exact((Ow.empty iw (F:=fun k=>g.heap.size≤k) (w:=g.alloc (.cells #[] 91)) (gL rfl) (jn _)).alloc _).alloc _
      ·exact(Ow.empty hJ (F:=fun k=>g.heap.size≤k) (w:=(g.alloc (.cells #[] 91)).alloc (.cells #[] 101)) (gL sm) fT).alloc _
     case round=>
      obtain⟨k,r,sv,ov,rfl,hk,Q,hD,hO,bK,bJ,hb⟩:=hrel;have d0:wr.cell? ⟨w.heap.size,0,none⟩=some (.slice A a.rules.length cp):=(hb.cell (p:=⟨w.heap.size,0,none⟩) V).trans c0;have d5:wr.cell? ⟨w.heap.size+1+1,5,none⟩=some (.int .i64 e.kind):=(hb.cell (p:=⟨w.heap.size+1+1,5,none⟩) W).trans c5;by_cases hkl:k<a.rules.length
      ·have a5:Rd kT wr (fun k=>F k∧k<w.heap.size) (.slice A a.rules.length cp) a.rules:=(h.below ae).keep (fun b hF _=>hb.block b (by have:=hF.2;omega))
       obtain⟨b1,o1,A2,c2,aS,bn,k0,k1,aZ⟩:=mv a5 k hkl;subst aS;have af:=tP HA.out hkl;have bL:=wQ af;have HO:=fS af;clear af;by_cases hke:a.rules[k].kind=e.kind
       ·have aY:(a.rules[k].kind !=e.kind)=false:=by simp[hke]
        have aW:=fS (mU e s.c a.rules ⟨s.x,s.y,[],[]⟩ hkl);have HK:=fS hke;clear hke;go_wp2
        go_quiet (fail)
        go_wp2;obtain⟨wo,az⟩:∃wo,wo=wr.drewN nq:=⟨_,rfl⟩
        go_loopw [12] (fun q u=>∃(j:Nat) (L:im) (sv ov:Value),q= .int .i64 j∧j≤a.rules[k].ops.length+8∧kJ u (g.heap.size+1+1) g.heap.size s.c e L sv ov∧Hid (kR e s.c a.rules[k].ops.length a.rules[k].ops r=kR e s.c a.rules[k].ops.length (a.rules[k].ops.drop j) L)∧lA L∧L.sends.length≤20*k+j∧L.outs.length≤20*k+j∧Below g.heap.size wo u) (fun q _=>a.rules[k].ops.length+20-(intOf q).toNat)
        case atStart=>subst az;exact⟨0,r,sv,ov,rfl,fT,Q.below (ja (gM _ _) _),rfl,hO,fT,fT,gM _ _⟩
        case round=>
         obtain⟨j,L,aB,aA,rfl,hj,ap,aw,ao,bs,br,aq⟩:=hrel;subst az;by_cases hjl:j<a.rules[k].ops.length
         ·have aG:Rd qG wr (fun k=>F k∧k<w.heap.size) (.slice A2 a.rules[k].ops.length c2) a.rules[k].ops:=aZ.keep (fun b hF bq=>aq.block b (by have:=hF.2;omega))
          obtain⟨b4,o4,rfl,bm,a0,a1,a2,a3,a4⟩:=uH aG j hjl;have aD:g.heap.size≤wr.heap.size:=by have:=fx ap.blk;omega
          have ay:=yC HO.out hjl;obtain⟨bN,bO⟩:=wu (e:=e) (c:=s.c) (r:=L) ay;have aN:=fS (tY e s.c a.rules[k].ops.length L hjl (jn _));obtain⟨bE,bF⟩:=yj e s.c a.rules[k].ops[j] L;have aF:=xi (e:=e) (c:=s.c) (o:=a.rules[k].ops[j]) ao;generalize hsk:(jl e s.c a.rules[k].ops[j] L).2=sk at*;have aM:=fS hsk;clear hsk;go_wp2_with (go_at_call 113;refine(FP _ _ s.c e L aB aA a.rules[k].ops[j] _ ap aD ao HE.out fT fT ay).mono ?_;rintro q w4 ⟨hq,⟨ba,a',aU⟩,aV⟩;rw[aM.out] at hq;subst hq);go_roundw
          case rel=>exact⟨j+sk.toNat+1,_,ba,a',by rw[show((j+sk.toNat+1:Nat):Int)=(j:Int)+sk+1 by omega],fT,aU,fS (aw.out.trans aN.out),aF,fT,fT,aq.trans aV⟩
          case measure=>exact ms
         ·have ar:=ww e s.c a.rules[k].ops.length L (Nat.le_of_not_lt hjl)
          have R:=fS (show jh e s.c (a.rules.take (k+1)) ⟨s.x,s.y,[],[]⟩=L by rw[aW.out,if_pos HK.out,hD.out,aw.out,ar]);clear ar;go_wp2;go_roundw
          case rel=>exact⟨k+1,L,aB,aA,by go_num,fT,ap,R,ao,fT,fT,(ja hb _).trans aq⟩
          case measure=>exact ms
       ·have aY:(a.rules[k].kind !=e.kind)=true:=by simp[hke]
        have R:=fS (show jh e s.c (a.rules.take (k+1)) ⟨s.x,s.y,[],[]⟩=r by rw[mU e s.c a.rules ⟨s.x,s.y,[],[]⟩ hkl,if_neg hke];exact hD.out);clear hke;go_wp2
        go_quiet (fail)
        go_wp2;go_roundw
        case rel=>exact⟨k+1,r,sv,ov,by go_num,fT,Q.below (ja (gM _ _) _),R,hO,fT,fT,ja hb _⟩
        case measure=>exact ms
      ·have ax:k=a.rules.length:=fT
       have an:=hD.out;rw[ax,li] at an;have R:=fS an;clear an hD ax;obtain⟨A5,aQ,rfl,bG⟩:=Q.sends.shape;obtain⟨A6,aR,rfl,bH⟩:=Q.outs.shape;have B3:wr.heap[w.heap.size+1+1+1]? =some (.cells #[.int .i64 0,.int .i64 0,.int .i64 0] 127):=(hb.block _ X).trans aL.out;have m0:=fw B3 0;have m1:=fw B3 1;have m2:=fw B3 2;have n0:=ft B3;have x0:=fw Q.blk 0;have x1:=fw Q.blk 1;have x2:=fw Q.blk 2;have bb:=fw Q.blk 10;have bc:=fw Q.blk 11;have y2:=ft Q.blk 2;simp[kB] at x0 x1 x2 bb bc m0 m1 m2;have bo:g.heap.size+1+1<wr.heap.size:=fx Q.blk;have bC:¬g.heap.size=w.heap.size+1:=fT;have bD:¬w.heap.size+1+1+1=g.heap.size+1+1:=fT;have hgr':¬g.heap.size+1+1=w.heap.size+1+1+1:=fT;go_wp2;refine gV (fun w' =>Ch (fun k=>k=w.heap.size+1+1+1) (wr.setCell ⟨g.heap.size+1+1,2,none⟩ (.int .i64 (s.c+1))) w') [tT 0,tT 1,tT 2,tT 3,tT 4,tT 5,tT 6,tT 7,tT 8,tT 9,tT 10,tT 11,tF 12,tT 13,tT 14] gY gY qP ?_;have HS:=(Ch.refl (fun k=>k=w.heap.size+1+1+1) (wr.setCell ⟨g.heap.size+1+1,2,none⟩ (.int .i64 (s.c+1)))).drew
       iterate 12 refine Fv ?_
       refine gU (by rfl) (by rfl) (fun K hK=>?_);go_simp;have ak:=((HS.setCell (p:=⟨w.heap.size+1+1+1,0,none⟩) (Or.inl rfl) (.int .i64 r.x)).setCell (p:=⟨w.heap.size+1+1+1,1,none⟩) (Or.inl rfl) (.int .i64 r.y)).setCell (p:=⟨w.heap.size+1+1+1,2,none⟩) (Or.inl rfl) (.int .i64 (s.c+1));refine hK _ _ (Or.inr ak) ?_;clear hK K HS;have HS:=ak;clear ak
       iterate 2 refine Fv ?_
       simp only[iG];go_wp2;refine bodyPost_ret (v:= .tuple #[.agg #[r.x,r.y,.int .i64 (s.c+1)],.slice A5 r.sends.length aQ,.slice A6 r.outs.length aR]) (by simp[results,Tryz.results73,go_sem,m0,m1,m2]) rfl ?_;have a6:w.heap.size≤g.heap.size:=ae.size;obtain⟨j1,j2,j3⟩:=DE (B:=g.heap.size) Q B3 hgr' a6 fT (gK ae hb) (.int .i64 (s.c+1)) (.int .i64 r.x) (.int .i64 r.y) (.int .i64 (s.c+1));refine⟨_,_,by rw[S.out,R.out],?_,?_,j3⟩
       ·rw[S.out,R.out];exact j1
       ·rw[S.out,R.out];exact j2
   ·have q3':i7 ⟨e.time,e.to,e.from_,e.count,e.n,e.kind,e.arg⟩=false:=by simpa using q3
    have J:iA a s e=(xM,[],[]):=by
     have h3:i7 e=false:=q3';simp[iA,h3]
    have S:=fS J;clear J T U q3;go_enter Tryz.func73,Tryz.ntmps73;go_wp2_with (first|(go_at_call 32;refine(lH _ [a,⟨[]⟩,⟨[]⟩,⟨[]⟩] _ _ (Fo (h.below (by repeat (first|exact gM _ _|refine gs ?_ _))) (gL sm))).mono ?_;rintro q t ⟨m,d⟩;rw[nj,q1'] at m;subst m;obtain⟨O,P⟩:=j9 d;have z:w.heap.size<t.heap.size:=(by have:=d.size;simp only[lb] at this;omega);have E:w.heap.size+1<t.heap.size:=(by have:=d.size;simp only[lb] at this;omega);have C:w.heap.size+1+1<t.heap.size:=(by have:=d.size;simp only[lb] at this;omega);have D:w.heap.size+1+1+1<t.heap.size:=(by have:=d.size;simp only[lb] at this;omega))|(go_at_call 110;refine(kw _ _ _ _).mono ?_;rintro q u ⟨m,f⟩;rw[q2'] at m;subst m;obtain⟨Y,Z⟩:=j9 f;have G:w.heap.size<u.heap.size:=(by have:=f.size;omega);have M:w.heap.size+1<u.heap.size:=(by have:=f.size;omega);have H:w.heap.size+1+1<u.heap.size:=(by have:=f.size;omega);have I:w.heap.size+1+1+1<u.heap.size:=(by have:=f.size;omega))|(go_at_call 106;refine(kS _ _ _ _ _ _ _ _).mono ?_;rintro q g ⟨m,l⟩;rw[q3'] at m;subst m;obtain⟨ag,ah⟩:=j9 l;have V:w.heap.size<g.heap.size:=(by have:=l.size;omega);have aa:w.heap.size+1<g.heap.size:=(by have:=l.size;omega);have W:w.heap.size+1+1<g.heap.size:=(by have:=l.size;omega);have X:w.heap.size+1+1+1<g.heap.size:=(by have:=l.size;omega)));refine bodyPost_ret (v:= .tuple #[.agg #[.int .i64 0,.int .i64 0,.int .i64 0],.slice (some ⟨g.heap.size,0,none⟩) 0 0,.slice (some ⟨g.heap.size+1,0,none⟩) 0 0]) (by simp[results,Tryz.results73,go_sem,O,P,z,E,C,D,Y,Z,G,M,H,I,ag,ah,V,aa,W,X]) rfl ?_;exact pe S.out ((((gK (gK (gK (by repeat (first|exact gM _ _|refine gs ?_ _)) d) f) l).setCell (by simp;omega) _).setCell (by simp;omega) _).setCell (by simp;omega) _) rfl sm sm
  ·have q2':jE ⟨s.x,s.y,s.c⟩=false:=by simpa using U
   have J:iA a s e=(xM,[],[]):=by
    have h2:jE s=false:=q2';simp[iA,h2]
   have S:=fS J;clear J T U;go_enter Tryz.func73,Tryz.ntmps73;go_wp2_with (first|(go_at_call 32;refine(lH _ [a,⟨[]⟩,⟨[]⟩,⟨[]⟩] _ _ (Fo (h.below (by repeat (first|exact gM _ _|refine gs ?_ _))) (gL sm))).mono ?_;rintro q t ⟨m,d⟩;rw[nj,q1'] at m;subst m;obtain⟨O,P⟩:=j9 d;have z:w.heap.size<t.heap.size:=(by have:=d.size;simp only[lb] at this;omega);have E:w.heap.size+1<t.heap.size:=(by have:=d.size;simp only[lb] at this;omega);have C:w.heap.size+1+1<t.heap.size:=(by have:=d.size;simp only[lb] at this;omega);have D:w.heap.size+1+1+1<t.heap.size:=(by have:=d.size;simp only[lb] at this;omega))|(go_at_call 110;refine(kw _ _ _ _).mono ?_;rintro q u ⟨m,f⟩;rw[q2'] at m;subst m;obtain⟨Y,Z⟩:=j9 f;have G:w.heap.size<u.heap.size:=(by have:=f.size;omega);have M:w.heap.size+1<u.heap.size:=(by have:=f.size;omega);have H:w.heap.size+1+1<u.heap.size:=(by have:=f.size;omega);have I:w.heap.size+1+1+1<u.heap.size:=(by have:=f.size;omega)));refine bodyPost_ret (v:= .tuple #[.agg #[.int .i64 0,.int .i64 0,.int .i64 0],.slice (some ⟨u.heap.size,0,none⟩) 0 0,.slice (some ⟨u.heap.size+1,0,none⟩) 0 0]) (by simp[results,Tryz.results73,go_sem,O,P,z,E,C,D,Y,Z,G,M,H,I]) rfl ?_;exact pe S.out ((((gK (gK (by repeat (first|exact gM _ _|refine gs ?_ _)) d) f).setCell (by simp;omega) _).setCell (by simp;omega) _).setCell (by simp;omega) _) rfl sm sm
 ·have q1':je a=false:=by simpa using T
  have J:iA a s e=(xM,[],[]):=by simp[iA,q1']
  have S:=fS J;clear J T;go_enter Tryz.func73,Tryz.ntmps73;go_wp2_with (first|(go_at_call 32;refine(lH _ [a,⟨[]⟩,⟨[]⟩,⟨[]⟩] _ _ (Fo (h.below (by repeat (first|exact gM _ _|refine gs ?_ _))) (gL sm))).mono ?_;rintro q t ⟨m,d⟩;rw[nj,q1'] at m;subst m;obtain⟨O,P⟩:=j9 d;have z:w.heap.size<t.heap.size:=(by have:=d.size;simp only[lb] at this;omega);have E:w.heap.size+1<t.heap.size:=(by have:=d.size;simp only[lb] at this;omega);have C:w.heap.size+1+1<t.heap.size:=(by have:=d.size;simp only[lb] at this;omega);have D:w.heap.size+1+1+1<t.heap.size:=(by have:=d.size;simp only[lb] at this;omega)));refine bodyPost_ret (v:= .tuple #[.agg #[.int .i64 0,.int .i64 0,.int .i64 0],.slice (some ⟨t.heap.size,0,none⟩) 0 0,.slice (some ⟨t.heap.size+1,0,none⟩) 0 0]) (by simp[results,Tryz.results73,go_sem,O,P,z,E,C,D]) rfl ?_;exact pe S.out ((((gK (by repeat (first|exact gM _ _|refine gs ?_ _)) d).setCell (by simp;omega) _).setCell (by simp;omega) _).setCell (by simp;omega) _) rfl sm sm
end Go.Proofs.YtlndjfflhegkdaaGreatDoor
