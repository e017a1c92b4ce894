/- Parts of the proof: Pure3, Nd5, Imp2, Imp10, Spc6, Ex6, Ey4, Ez1, Imp16, Ey6. -/
import Derived.Maps.Keyed
import Derived.DeepKeys4
import Derived.Test.YtgilllnjhahkfaaGreatQ13
import Derived.Test.YtgilllnjhahkfaaGreatQ15
set_option linter.unusedVariables false
set_option linter.unusedSimpArgs false
set_option linter.unusedSectionVars false
set_option maxHeartbeats 4000000
namespace Go.Proofs.YtgilllnjhahkfaaGreat
open Go.RowKit
def kD (id:Int):Nat→List Int
 |0=>[]
 |k+1=>if iE (k:Int)=id then kD id k++[(k:Int)] else kD id k
theorem sc (id:Int):kD id 4=ic id:=by
 have e:iE ((0:Nat):Int)=0:=by decide
 have f:iE ((1:Nat):Int)=1:=by decide
 have g:iE ((2:Nat):Int)=2:=by decide
 have i:iE ((3:Nat):Int)=0:=by decide
 have a:iE (0:Int)=0:=by decide
 have b:iE (1:Int)=1:=by decide
 have c:iE (2:Int)=2:=by decide
 have d:iE (3:Int)=0:=by decide
 simp only[kD,ic,e,f,g,i,a,b,c,d,List.filter_cons,List.filter_nil];by_cases e0:(0:Int)=id
 ·subst e0;decide
 ·by_cases e1:(1:Int)=id
  ·subst e1;decide
  ·by_cases e2:(2:Int)=id
   ·subst e2;decide
   ·simp[e0,e1,e2]
theorem qi (id:Int):∀k,(kD id k).length≤k
 |0=>j9 _
 |k+1=>by
  have:=qi id k;simp only[kD];split<;>simp<;>omega
theorem wm {id:Int} (h:i2 id 0 2=true):(id=0∧ic id=[0,3])∨(id=1∧ic id=[1])∨(id=2∧ic id=[2]):=by
 simp only[i2,Bool.and_eq_true,decide_eq_true_eq] at h;have a:id=0∨id=1∨id=2:=gO;rcases a with rfl|rfl|rfl
 ·exact .inl ⟨rfl,dc⟩
 ·exact .inr (.inl ⟨rfl,dc⟩)
 ·exact .inr (.inr ⟨rfl,dc⟩)
theorem pA {p:Int} (h:i2 p 0 3=false):iE p= -1:=by unfold iE;rw[if_neg (by rw[h];simp)]
theorem tA {p:Int} (h:i2 p 0 3=true):iE p=p % 3:=by unfold iE;rw[if_pos h]
theorem xa {id p:Int} (h:i2 id 0 2=true):p∈ic id↔iE p=id:=by
 have gP:0≤id∧id≤2:=by simpa [i2] using h
 constructor
 ·intro b
  have:=(List.mem_filter.1 b).2;simpa using this
 ·intro b
  refine List.mem_filter.2 ⟨?_,by simpa using b⟩;by_cases hi:i2 p 0 3=true
  ·have:0≤p∧p≤3:=by simpa [i2] using hi
   have c:p=0∨p=1∨p=2∨p=3:=gO;rcases c with rfl|rfl|rfl|rfl<;>simp
  ·have:=pA (p:=p) (by simpa using hi)
   omega
set_option maxRecDepth 100000
theorem qQ (v:Value) (xs:List im) (F:Nat→Prop) (w:World) (h:Rd iC w F v xs) (hl:xs.length≤1000):
  Calls Tryz.prog 101 #[v] w fun q w' =>∃u,q= .returned u∧Ow iC 132 w' (fun k=>w.heap.size≤k) u xs∧Below w.heap.size w w':=by
 obtain⟨A,c,rfl,y⟩:=h.shape;cases A with
 |none=>
  have j:xs=[]:=by
   obtain⟨s,t,p,_,_,l⟩:=h;injection p with e1 e2 e3;subst e1;cases xs with
   |nil=>rfl
   |cons x xs=>obtain⟨b,o,n,_⟩:=l sm;cases n
  subst j;have f:∀w,(binOp .eql 33 (.slice none 0 c) (.slice none 0 0)).run Tryz.prog w= .ok (.bool true) w:=fun w=>Lib.run_eql_slice_nil w 33 132 none 0 c 0 0 Tryz.underlying33;go_enter Tryz.func101,Tryz.ntmps101;go_wp2_with fail;go_ret;exact⟨_,rfl,Ow.nil _ _ _ _,by repeat (first|exact gY _ _|refine gU ?_ _)⟩
 |some a=>
  have f:∀w,(binOp .eql 33 (.slice (some a) xs.length c) (.slice none 0 0)).run Tryz.prog w= .ok (.bool false) w:=fun w=>Lib.run_eql_slice_nil w 33 132 (some a) xs.length c 0 0 Tryz.underlying33;go_enter Tryz.func101,Tryz.ntmps101;go_wp2_with (at_builtin;refine lL rfl 33 rfl Tryz.underlying33 _ 56 kL rfl dc dc rfl (Ow.empty iC (F:=fun k=>w.heap.size≤k) (gX rfl) (j9 _)) rfl (h.below (gU (gY _ _) _)) (by first|omega|(simp;done)|(simp;omega)) (fun k=>w.heap.size≤k) (fun _ d=>d) (fun k d=>by first|omega|(simp at d;omega)) ?_;intro z r e g m;have i:Below w.heap.size w r:=(gU (gY _ _) _).trans (m8 (gY _ _) g (fun k d=>Nat.le_of_eq (Option.some.inj d)) (by first|omega|simp)));go_ret;rw[List.nil_append] at e;exact⟨_,rfl,e,i⟩
theorem vf (v:Value) (xs:List iQ) (F:Nat→Prop) (w:World) (h:Rd ii w F v xs) (hl:xs.length≤1000):
  Calls Tryz.prog 102 #[v] w fun q w' =>∃u,q= .returned u∧Ow ii 120 w' (fun k=>w.heap.size≤k) u xs∧Below w.heap.size w w':=by
 obtain⟨A,c,rfl,y⟩:=h.shape;cases A with
 |none=>
  have j:xs=[]:=by
   obtain⟨s,t,p,_,_,l⟩:=h;injection p with e1 e2 e3;subst e1;cases xs with
   |nil=>rfl
   |cons x xs=>obtain⟨b,o,n,_⟩:=l sm;cases n
  subst j;have f:∀w,(binOp .eql 34 (.slice none 0 c) (.slice none 0 0)).run Tryz.prog w= .ok (.bool true) w:=fun w=>Lib.run_eql_slice_nil w 34 120 none 0 c 0 0 Tryz.underlying34;go_enter Tryz.func102,Tryz.ntmps102;go_wp2_with fail;go_ret;exact⟨_,rfl,Ow.nil _ _ _ _,by repeat (first|exact gY _ _|refine gU ?_ _)⟩
 |some a=>
  have f:∀w,(binOp .eql 34 (.slice (some a) xs.length c) (.slice none 0 0)).run Tryz.prog w= .ok (.bool false) w:=fun w=>Lib.run_eql_slice_nil w 34 120 (some a) xs.length c 0 0 Tryz.underlying34;go_enter Tryz.func102,Tryz.ntmps102;go_wp2_with (at_builtin;refine lL rfl 34 rfl Tryz.underlying34 _ 40 lH rfl dc dc rfl (Ow.empty ii (F:=fun k=>w.heap.size≤k) (gX rfl) (j9 _)) rfl (h.below (gU (gY _ _) _)) (by first|omega|(simp;done)|(simp;omega)) (fun k=>w.heap.size≤k) (fun _ d=>d) (fun k d=>by first|omega|(simp at d;omega)) ?_;intro z r e g m;have i:Below w.heap.size w r:=(gU (gY _ _) _).trans (m8 (gY _ _) g (fun k d=>Nat.le_of_eq (Option.some.inj d)) (by first|omega|simp)));go_ret;rw[List.nil_append] at e;exact⟨_,rfl,e,i⟩
theorem oh (v:Value) (xs:List im) (most:Int) (F:Nat→Prop) (w:World) (h:Rd iC w F v xs):
  Calls Tryz.prog 150 #[v,most] w fun e w' =>e= .returned (.bool (jK xs most))∧Below w.heap.size w w':=by
 obtain⟨A,X,rfl,-,ab,-⟩:=id h;by_cases hm:(xs.length:Int)≤most
 ·have hg:decide ((xs.length:Int)>most)=false:=by simp;omega
  have V:=gP hm;clear hm;go_enter Tryz.func150,Tryz.ntmps150;go_wp2_with fail
  go_loopw [13] (fun i wr=>∃k:Nat,i= .int .i64 k∧k≤xs.length∧Hid ((xs.take k).all jM=true)∧Hid (lG hY (xs.take k)=true)∧Below w.heap.size w wr) (fun i _=>xs.length-(intOf i).toNat)
  case atStart=>exact⟨0,rfl,jP _,rfl,rfl,gY _ _⟩
  case round=>
   obtain⟨k,rfl,hk,u,m,o⟩:=hrel;by_cases hlt:k<xs.length
   ·have r:Rd iC wr F (.slice A xs.length X) xs:=h.below o
    obtain⟨b0,o0,rfl,C,O,P,Q,R,S,T,U⟩:=jD r k hlt;have p0:(k:Int)<(xs.length:Int):=gO;go_upto_region 6 with fail;have I:=r.alloc (.cells #[xs[k].time,xs[k].to,xs[k].from_,xs[k].count,xs[k].n,xs[k].kind,xs[k].arg] 132);have d:=o.alloc o.size (.cells #[xs[k].time,xs[k].to,xs[k].from_,xs[k].count,xs[k].n,xs[k].kind,xs[k].arg] 132);have Z:(wr.alloc (.cells #[xs[k].time,xs[k].to,xs[k].from_,xs[k].count,xs[k].n,xs[k].kind,xs[k].arg] 132)).heap[wr.heap.size]? =some (.cells #[xs[k].time,xs[k].to,xs[k].from_,xs[k].count,xs[k].n,xs[k].kind,xs[k].arg] 132):=gX rfl;clear O P Q R S T U r C o;obtain⟨g,q⟩:∃g,g=wr.heap.size:=⟨_,rfl⟩;rw[←q] at Z;simp only[←q];generalize wr.alloc (.cells #[xs[k].time,xs[k].to,xs[k].from_,xs[k].count,xs[k].n,xs[k].kind,xs[k].arg] 132)=W at*;clear q;obtain⟨⟨O,P,Q,R,S,T,U⟩,-⟩:=oB Z;by_cases f:jM xs[k]=true
    ·have z:=gP (jI hlt u.out f)
     have s:jM ⟨xs[k].time,xs[k].to,xs[k].from_,xs[k].count,xs[k].n,xs[k].kind,xs[k].arg⟩=true:=f;clear f;by_cases q3:k=0
     ·have as':=gP (show lG hY (xs.take (k+1))=true by rw[kp _ hlt,m.out,if_pos q3];rfl)
      have E:decide ((k:Int)>0)=false:=by simp;omega
      have H:decide (0<k)=false:=by simp;omega
      clear q3;refine kg [.rd [0],.mid 1,.rd [2,3,4,5,6,7,8,9,10,11,12]] [13,14,15,16] ?_;refine vL ?_;intro N hN;go_wp2_with fail;refine gR (hN _ ?_);clear hN N;refine vM ?_;intro N hN;go_wp2_with fail;refine(oM _ _ _ _ _ _ _ _).mono ?_;rintro e M ⟨b,a⟩;rw[s] at b;subst b;apply_assumption;refine vN a (hN _ _ ?_);clear hN;refine vL ?_;intro N hN;go_wp2_with fail;refine gR (hN _ ?_);clear hN N;refine vF ?_;have c:=gQ d (gV (gY W.heap.size W).drew a) d.size;go_wp2_with fail;go_roundw
      case rel=>exact⟨k+1,by go_num,gO,z,as',c⟩
      case measure=>exact ms
     ·have E:decide ((k:Int)>0)=true:=by simp;omega
      have H:decide (0<k)=true:=by simp;omega
      have p1:(0:Int)≤(k:Int)-1:=gO;have p2:(k:Int)-1<(xs.length:Int):=gO;have p3:(1:Int)≤(k:Int):=gO;have p4:1≤k:=gO;have ac:((k:Int)-1).toNat=k-1:=gO;obtain⟨b2,o2,l,Y,y0,y1,y2,y3,y4,y5,y6⟩:=jD I (k-1) gO;injection l with l;injection l with e1 e2 _;subst e1 e2;obtain⟨L,J⟩:∃t,hY xs[k-1] xs[k]=t:=⟨_,rfl⟩;have B:=gP (show lG hY (xs.take (k+1))=L by rw[kp _ hlt,m.out,if_neg gO];simpa using J);clear q3;refine kg [.rd [0],.mid 1,.rd [2,3,4,5,6,7,8,9,10,11,12]] [13,14,15,16] ?_;refine vL ?_;intro N hN;go_wp2_with fail;refine gR (hN _ ?_);clear hN N;refine vM ?_;intro N hN;go_wp2_with fail;refine(oM _ _ _ _ _ _ _ _).mono ?_;rintro e M ⟨b,a⟩;rw[s] at b;subst b;apply_assumption;refine vN a (hN _ _ ?_);clear hN;refine vL ?_;intro N hN;go_wp2_with fail;refine gR (hN _ ?_);clear hN N;refine vF ?_;have p:=gQ d (gV (gY W.heap.size W).drew a) d.size;go_wp2_with fail;refine(sh xs[k-1] xs[k] _).mono ?_;rintro e w6 ⟨b,D⟩;rw[J] at b;subst b;apply_assumption;have c:=gQ p D p.size;cases L
      case true=>
       go_wp2_with fail;go_roundw
       case rel=>exact⟨k+1,by go_num,gO,z,B,c⟩
       case measure=>exact ms
      case false=>
       have j:=gP (show jK xs most=false by simp[jK,oR _ B.out]);go_wp2_with fail;go_ret;exact⟨by rw[j.out];rfl,c⟩
    ·replace f:jM xs[k]=false:=by simpa using f
     have j:=gP (show jK xs most=false by simp[jK,jw hlt f]);have s:jM ⟨xs[k].time,xs[k].to,xs[k].from_,xs[k].count,xs[k].n,xs[k].kind,xs[k].arg⟩=false:=f;clear f;refine kg [.rd [0],.mid 1,.rd [2,3,4,5,6,7,8,9,10,11,12]] [13,14,15,16] ?_;refine vL ?_;intro N hN;go_wp2_with fail;refine gR (hN _ ?_);clear hN N;refine vM ?_;intro N hN;go_wp2_with fail;refine(oM _ _ _ _ _ _ _ _).mono ?_;rintro e M ⟨b,a⟩;rw[s] at b;subst b;apply_assumption;refine vN a (hN _ _ ?_);clear hN;refine vL ?_;intro N hN;go_wp2_with fail;refine gR (hN _ ?_);clear hN N;refine vF ?_;have c:=gQ d (gV (gY W.heap.size W).drew a) d.size;go_wp2_with fail;go_ret;exact⟨by rw[j.out];rfl,c⟩
   ·have G:k=xs.length:=gO
    subst G;have x:=u.out;have y:=m.out;rw[ld] at x y;have j:=gP (show jK xs most=true by simp[jK,x,y,V.out]);clear x y;go_wp2_with fail;go_ret;exact⟨by rw[j.out];rfl,o⟩
 ·have hg:decide ((xs.length:Int)>most)=true:=by simp;omega
  have j:=gP (show jK xs most=false by simp[jK];intro h;omega);clear hm;go_enter Tryz.func150,Tryz.ntmps150;go_wp2_with fail;go_ret;exact⟨by rw[j.out];rfl,gY _ _⟩
theorem wy (v:Value) (xs:List iQ) (most:Int) (F:Nat→Prop) (w:World) (h:Rd ii w F v xs):
  Calls Tryz.prog 151 #[v,most] w fun e w' =>e= .returned (.bool (jA xs most))∧Below w.heap.size w w':=by
 obtain⟨A,S,rfl,-,V,-⟩:=id h;by_cases hm:(xs.length:Int)≤most
 ·have U:decide ((xs.length:Int)>most)=false:=by simp;omega
  have R:=gP hm;clear hm;go_enter Tryz.func151,Tryz.ntmps151;go_wp2_with fail
  go_loopw [14] (fun i wr=>∃k:Nat,i= .int .i64 k∧k≤xs.length∧Hid ((xs.take k).all om=true)∧Hid (lG hM (xs.take k)=true)∧Below w.heap.size w wr) (fun i _=>xs.length-(intOf i).toNat)
  case atStart=>exact⟨0,rfl,jP _,rfl,rfl,gY _ _⟩
  case round=>
   obtain⟨k,rfl,hk,q,d,f⟩:=hrel;by_cases hlt:k<xs.length
   ·have o:Rd ii wr F (.slice A xs.length S) xs:=h.below f
    obtain⟨Y,o0,rfl,y,L,M,O,P,Q⟩:=ko o k hlt;have p0:(k:Int)<(xs.length:Int):=gO;go_upto_region 6 with fail;have G:=o.alloc (.cells #[xs[k].time,xs[k].proc,xs[k].count,xs[k].n,xs[k].value] 120);have l:=f.alloc f.size (.cells #[xs[k].time,xs[k].proc,xs[k].count,xs[k].n,xs[k].value] 120);have Z:(wr.alloc (.cells #[xs[k].time,xs[k].proc,xs[k].count,xs[k].n,xs[k].value] 120)).heap[wr.heap.size]? =some (.cells #[xs[k].time,xs[k].proc,xs[k].count,xs[k].n,xs[k].value] 120):=gX rfl;clear L M O P Q o y f;obtain⟨g,m⟩:∃g,g=wr.heap.size:=⟨_,rfl⟩;rw[←m] at Z;simp only[←m];generalize wr.alloc (.cells #[xs[k].time,xs[k].proc,xs[k].count,xs[k].n,xs[k].value] 120)=W at*;clear m;obtain⟨L,M,O,P,Q,-⟩:=Fz Z
    go_cut [7] (fun t wc=>t= .bool (om xs[k])∧wc=W)
    case first=>
     go_wp2_with (first|(go_at_call 153;refine(j6 _ _ _ _).mono ?_;rintro e J ⟨rfl,rfl⟩)|(go_at_call 98;refine(mE _ _).mono ?_;rintro e J ⟨rfl,rfl⟩)|(go_at_call 183;refine(rZ _ _).mono ?_;rintro e J ⟨rfl,rfl⟩))
     all_goals
      go_meet;exact⟨by simp[om, *],rfl⟩
    case' rest=>obtain⟨rfl,rfl⟩:=hcut
    by_cases p:om xs[k]=true
    ·have u:=gP (jI hlt q.out p)
     by_cases q3:k=0
     ·have as':=gP (show lG hM (xs.take (k+1))=true by rw[kp _ hlt,d.out,if_pos q3];rfl)
      have C:decide ((k:Int)>0)=false:=by simp;omega
      have E:decide (0<k)=false:=by simp;omega
      clear q3;go_upto_region 7 with fail;refine kg [.rd [0,1,2,3,4,5,6,7,8,9,10,11]] [12,13,14,15] ?_;refine vL ?_;intro N hN;go_wp2_with fail;refine gR (hN _ ?_);clear hN N;refine vF ?_;have a:=l.drew;go_wp2_with fail;go_roundw
      case rel=>exact⟨k+1,by go_num,gO,u,as',a⟩
      case measure=>exact ms
     ·have C:decide ((k:Int)>0)=true:=by simp;omega
      have E:decide (0<k)=true:=by simp;omega
      have p1:(0:Int)≤(k:Int)-1:=gO;have p2:(k:Int)-1<(xs.length:Int):=gO;have p3:(1:Int)≤(k:Int):=gO;have p4:1≤k:=gO;have X:((k:Int)-1).toNat=k-1:=gO;obtain⟨b2,o2,c,T,y0,y1,y2,y3,y4⟩:=ko G (k-1) gO;injection c with c;injection c with e1 e2 _;subst e1 e2;obtain⟨I,H⟩:∃t,hM xs[k-1] xs[k]=t:=⟨_,rfl⟩;have x:=gP (show lG hM (xs.take (k+1))=I by rw[kp _ hlt,d.out,if_neg gO];simpa using H);clear q3;go_upto_region 7 with fail;refine kg [.rd [0,1,2,3,4,5,6,7,8,9,10,11]] [12,13,14,15] ?_;refine vL ?_;intro N hN;go_wp2_with fail;refine gR (hN _ ?_);clear hN N;refine vF ?_;have j:=l.drew;go_wp2_with fail;refine(pt xs[k-1] xs[k] _).mono ?_;rintro e w6 ⟨B,z⟩;rw[H] at B;subst B;apply_assumption;have a:=gQ j z j.size;cases I
      case true=>
       go_wp2_with fail;go_roundw
       case rel=>exact⟨k+1,by go_num,gO,u,x,a⟩
       case measure=>exact ms
      case false=>
       have b:=gP (show jA xs most=false by simp[jA,oR _ x.out]);go_wp2_with fail;go_ret;exact⟨by rw[b.out];rfl,a⟩
    ·replace p:om xs[k]=false:=by simpa using p
     have b:=gP (show jA xs most=false by simp[jA,jw hlt p]);go_upto_region 7 with fail;refine kg [.rd [0,1,2,3,4,5,6,7,8,9,10,11]] [12,13,14,15] ?_;refine vL ?_;intro N hN;go_wp2_with fail;refine gR (hN _ ?_);clear hN N;refine vF ?_;have a:=l.drew;go_wp2_with fail;go_ret;exact⟨by rw[b.out];rfl,a⟩
   ·have D:k=xs.length:=gO
    subst D;have r:=q.out;have s:=d.out;rw[ld] at r s;have b:=gP (show jA xs most=true by simp[jA,r,s,R.out]);clear r s;go_wp2_with fail;go_ret;exact⟨by rw[b.out];rfl,f⟩
 ·have U:decide ((xs.length:Int)>most)=true:=by simp;omega
  have b:=gP (show jA xs most=false by simp[jA];intro h;omega);clear hm;go_enter Tryz.func151,Tryz.ntmps151;go_wp2_with fail;go_ret;exact⟨by rw[b.out];rfl,gY _ _⟩
def GI (g:Nat) (o:Obj) (w:World):Prop:=w.heap[g]? =some o
def Gs:List im:=[nb 0,nb 1,nb 2,nb 3]
theorem Ow.updateIn {α:Type} {d:Ty α} {e:TypeId} {w:World} {F:Nat→Prop} {v:Value} {xs:List α} (h:Ow d e w F v xs) {g:Nat} (hv:v.ownBlock=some g) (j:Nat) (hj:j<xs.length):
  ∃(Fj:Nat→Prop) (csj:List Value),d.rel w Fj xs[j] csj∧(∀k,Fj k→F k∧k≠g∧k<w.heap.size)∧(∀i u,csj[i]? =some u→w.cell? ⟨g,j*d.sz+i,none⟩=some u)∧
   ∀(w':World) (x':α) (i:Nat) (u:Value) (F' G:Nat→Prop),i<d.sz→w'.heap[g]? =(w.setCell ⟨g,j*d.sz+i,none⟩ u).heap[g]? →(∀k,F k→k<w.heap.size→k≠g→¬Fj k→w'.heap[k]? =w.heap[k]?)→
    d.rel w' F' x' (csj.set i u)→(∀k,F' k→Fj k)→(∀k,F k→G k)→Ow d e w' G v (xs.set j x'):=by
 obtain⟨s,C,t,P,f,y,H⟩:=h.bound;have B:=t.1;rcases t.2 with ⟨rfl,_⟩|⟨o,D,E,rfl,S,U,I,J,L,M⟩
 ·simp[Value.ownBlock] at hv
 ·simp only[Value.ownBlock,Option.some.injEq] at hv
  subst hv;have W:=(t.lt o rfl).2;refine⟨C j,(s.drop (j*d.sz)).take d.sz,H j _ (mc hj),fun k r=>⟨(f j k r).1.1,fun z=>(f j k r).2 (by rw[z];rfl),(f j k r).1.2⟩,fun i u n=>?_,?_⟩
  ·rw[List.getElem?_take] at n
   split at n
   ·rw[List.getElem?_drop] at n
    have:=t.cells (g:=o) rfl (j*d.sz+i) u n;have ha:(⟨o,0,none⟩:Addr).add (j*d.sz+i)=⟨o,j*d.sz+i,none⟩:=by unfold Addr.add;split<;>simp_all
    rwa [ha] at this
   ·cases n
  ·intro w' x' i u F' G n T r V p A
   refine⟨s.set (j*d.sz+i) u,fun q k=>if q=j then F' k else C q k,⟨by simp[B],.inr ⟨o,D,E.setIfInBounds (j*d.sz+i) u,by simp,S,?_,by simpa using I,J,by simpa using L,?_⟩⟩,fun k c=>?_,?_,?_,?_⟩
   ·rw[T];exact gN U _ _
   ·simp[List.take_set,M]
   ·simp[Value.ownBlock] at c;subst c;exact A _ (P _ rfl).1
   ·intro q k hq
    by_cases hqj:q=j
    ·subst hqj
     simp only[if_true] at hq;have h':=p k hq;exact⟨A _ (f q k h').1.1,(f q k h').2⟩
    ·simp only[if_neg hqj] at hq
     exact⟨A _ (f q k hq).1.1,(f q k hq).2⟩
   ·intro a b k m ha l
    by_cases haj:a=j
    ·subst haj
     simp only[if_true,if_neg (Ne.symm m)] at ha l;exact y a b k m (p k ha) l
    ·by_cases hbj:b=j
     ·subst hbj
      simp only[if_true,if_neg haj] at ha l;exact y a b k m ha (p k l)
     ·simp only[if_neg haj,if_neg hbj] at ha l
      exact y a b k m ha l
   ·intro q x hq
    by_cases hqj:q=j
    ·subst hqj
     simp only[List.getElem?_set_self hj,Option.some.injEq] at hq;subst hq;simp only[if_true];rw[List.drop_set,if_neg gO,Nat.add_sub_cancel_left,List.take_set];exact V
    ·rw[List.getElem?_set_ne (Ne.symm hqj)] at hq
     simp only[if_neg hqj];have Q:=H q x hq;have R:((s.set (j*d.sz+i) u).drop (q*d.sz)).take d.sz=(s.drop (q*d.sz)).take d.sz:=by
      rw[List.drop_set];by_cases hlt':q<j
      ·have:(q+1)*d.sz≤j*d.sz:=Nat.mul_le_mul_right _ hlt'
       rw[Nat.add_mul,Nat.one_mul] at this;rw[if_neg gO,List.take_set_of_le gO]
      ·have:(j+1)*d.sz≤q*d.sz:=Nat.mul_le_mul_right _ gO
       rw[Nat.add_mul,Nat.one_mul] at this;rw[if_pos gO]
     rw[R];refine d.move (fun k c=>r k (f q k c).1.1 (f q k c).1.2 (fun z=>(f q k c).2 (by rw[z];rfl)) (fun O=>y q j k hqj c O)) Q
def uw (ys rs:List jJ):Prop:=ys.length=rs.length∧∀j:Nat,(ys[j]?).map (fun r:jJ=>r.ops.length)=(rs[j]?).map (fun r:jJ=>r.ops.length)
theorem uw.set {ys rs:List jJ} (h:uw ys rs) (j:Nat) (x:jJ) (hx:(rs[j]?).map (fun r:jJ=>r.ops.length)=some x.ops.length):uw (ys.set j x) rs:=by
 refine⟨by simpa using h.1,fun q=>?_⟩;by_cases hq:q=j
 ·subst hq
  have a:q<ys.length:=by
   rw[h.1];cases hr:rs[q]? with
   |none=>rw[hr] at hx;cases hx
   |some r=>exact(List.getElem?_eq_some_iff.1 hr).1
  rw[List.getElem?_set_self a,hx];rfl
 ·rw[List.getElem?_set_ne (Ne.symm hq)];exact h.2 q
theorem wk (rs:List jJ) (k:Nat) (h:k<rs.length):0≤iB (rs.take k)∧iB (rs.take k)+rs[k].ops.length≤iB rs:=
 ⟨jf _,by rw[←mK rs k h];exact rM _ _⟩
theorem yt (v:Value) (rs:List jJ) (m:Int) (F:Nat→Prop) (w:World) (h:Ow l7 126 w F v rs) (hm0:0≤m) (hm1:m≤100000000) (hn:(rs.length:Int)+iB rs≤1048576):
  Calls Tryz.prog 56 #[v,.int .i64 m] w fun q w' =>q= .returned (.int .i64 (m+rs.length+5*iB rs))∧Ch F w w':=by
 obtain⟨A,c,rfl,-⟩:=h.shape;have ao:=jf rs;go_enter Tryz.func56,Tryz.ntmps56;go_wp2_with fail
 go_loopw [1,5] (fun l i wr=>∃(k:Nat) (t:Int) (b:List jJ),i= .int .i64 k∧k≤rs.length∧l= .int .i64 t∧Hid (t=m+k+5*iB (rs.take k))∧Ow l7 126 wr F (.slice A rs.length c) b∧Hid (uw b rs)∧Ch F w wr) (fun _ i _=>rs.length-(intOf i).toNat)
 case atStart=>exact⟨0,m,rs,rfl,jP _,rfl,by show m=m+((0:Nat):Int)+5*iB (rs.take 0);simp[iB],h,⟨rfl,fun _=>rfl⟩,Ch.refl _ _⟩
 case round=>
  clear h;obtain⟨k,t,b,rfl,hk,rfl,E,Q,HS,P⟩:=hrel;by_cases hlt:k<rs.length
  ·have B:b.length=rs.length:=HS.out.1
   obtain⟨g,c',an,hv,hF,Y,e⟩:=Q.head gO;injection hv with hv1 hv2 hv3;subst hv1 hv3;have n:k<b.length:=gO;obtain⟨M,am,⟨vv,X,x⟩,s,y,oI⟩:=Q.updateIn (g:=g) rfl k n;subst X;have D:b[k].ops.length=rs[k].ops.length:=by
    have:=HS.out.2 k;rw[mc n,mc hlt] at this;simpa using this
   obtain⟨A2,c2,rfl,-⟩:=x.shape;have H:=y 0 _ rfl;have T:=y 1 _ rfl;have hz:l7.sz=2:=rfl;rw[hz] at H T;simp only[Nat.add_zero] at H;have f0:=ft e (k*2);have R:=wk rs k hlt;have ap:0≤t:=by have:=E.out;omega
   have aq:t≤200000000:=by have:=E.out;omega
   have G:Ch (fun q=>q=g) wr (wr.setCell ⟨g,k*2,none⟩ (.int .i64 t)):=Ch.setCell (p:=⟨g,k*2,none⟩) (Ch.refl (fun q=>q=g) _) (Or.inl rfl) _;have d:=x.ch G (fun q hq O=>(s q hq).2.1 O);have ab:(wr.setCell ⟨g,k*2,none⟩ (.int .i64 t)).heap.size=wr.heap.size:=by simp
   have C:b[k].ops.length≤1048576:=by have:=R.1;omega
   have p0:(k:Int)<(rs.length:Int):=gO;have V:=gP oI;have r:=gP D;have af:=gP B;have HB:=gP R;have ae:=gP e;obtain⟨a,z⟩:∃a,b[k]=a:=⟨_,rfl⟩;rw[z] at H T d C;have o:=gP z;clear oI D B R e z hv2 y x hz ab;go_wp2_with fail;refine(CP _ a.ops (t+1) M _ d gO gO C).mono ?_;rintro q S ⟨rfl,u,j⟩;have f:∀q,(Value.slice A2 a.ops.length c2).ownBlock=some q→M q:=fun q hq=>u.inF hq;have J:Ow l7 126 S F (.slice (some ⟨g,0,none⟩) rs.length c) (b.set k ⟨t,iK sQ 5 (t+1) a.ops.length⟩):=by
    refine V.out S ⟨t,iK sQ 5 (t+1) a.ops.length⟩ 0 (.int .i64 t) M F dc ?_ ?_ ?_ (fun _ hq=>hq) (fun _ hq=>hq)
    ·exact j.block g (by simpa using Y) (fun hq=>(s g (f g hq)).2.1 rfl)
    ·intro q hq L Z aa
     exact(j.block q (by simpa using L) (fun O=>aa (f q O))).trans (G.block q L Z)
    ·refine⟨_,?_,u⟩
     rw[o.out];rfl
   have W:=gP (HS.out.set k ⟨t,iK sQ 5 (t+1) a.ops.length⟩ (by rw[mc hlt];simp[kF,←o.out,r.out]));have I:Ch F w S:=P.trans (((G.mono (fun q hq=>by rw[hq];exact hF)).trans (j.mono (fun q hq=>(s q (f q hq)).1))));have HT':=gP (show t+1+5*(a.ops.length:Int)=m+((k+1:Nat):Int)+5*iB (rs.take (k+1)) by
    have h1:=E.out;have h2:=mK rs k hlt;have h3:a.ops.length=rs[k].ops.length:=by rw[←o.out];exact r.out
    rw[h2,h3];push_cast;omega)
   clear u j G d H T f0 Q P;have HN:=gP J;have U:=gP I;clear J I;apply_assumption;go_wp2_with fail;go_roundw
   case rel=>exact⟨k+1,_,_,by go_num,gO,rfl,HT',HN.out,W,U.out⟩
   case measure=>exact ms
  ·have n:k=rs.length:=gO
   subst n;go_wp2_with fail;go_ret;exact⟨by rw[E.out,ld];rfl,P⟩
theorem Ow.chOther {α β:Type} {d:Ty α} {e e':TypeId} {cells:β→List Value} {sz:Nat} {hl:∀x,(cells x).length=sz} {ho:∀x,∀u∈cells x,u.oneCell' =true} {w w8:World} {F F':Nat→Prop} {v v':Value} {xs:List α} {ys:List β}
  (h:Ow d e w F v xs) (h':Ow (k7 cells sz hl ho) e' w F' v' ys) (hne:e≠e') (hC:Ch (fun q=>v.ownBlock=some q) w w8):Ow (k7 cells sz hl ho) e' w8 F' v' ys:=
 (h'.tight.ch hC (fun k hk e1=>h.apart h' hne k e1 hk)).mono (fun k hk=>h'.inF hk)
theorem Ow.elems {α:Type} {d:Ty α} {e:TypeId} {w:World} {F:Nat→Prop} {v:Value} {xs:List α} (h:Ow d e w F v xs):
  ∃Fs:Nat→Nat→Prop,(∀j q,Fs j q→F q∧some q≠v.ownBlock)∧(∀i j q,i≠j→Fs i q→Fs j q→False)∧
   ∀(j:Nat) (hj:j<xs.length),∃csj,d.rel w (Fs j) xs[j] csj∧∀g,v.ownBlock=some g→∀i u,csj[i]? =some u→w.cell? ⟨g,j*d.sz+i,none⟩=some u:=by
 obtain⟨m,Fs,b,n,c,f,k⟩:=h;refine⟨Fs,c,f,fun j hj=>⟨_,k j _ (mc hj),fun g l i u a=>?_⟩⟩;rw[List.getElem?_take] at a;split at a
 ·rw[List.getElem?_drop] at a
  have:=b.cells l (j*d.sz+i) u a;have ha:(⟨g,0,none⟩:Addr).add (j*d.sz+i)=⟨g,j*d.sz+i,none⟩:=by unfold Addr.add;split<;>simp_all
  rwa [ha] at this
 ·cases a
def Fx (m:Int):mL:=⟨m,m+1,m+1+1⟩
def mm:List iM→Int
 | []=>0
 |r::rs=>((r.rules.length:Int)+5*iB r.rules)+mm rs
theorem mU:∀rs,0≤mm rs
 | []=>Int.le_refl _
 |r::rs=>by have:=mU rs;have h2:0≤((r.rules.length:Int)+5*iB r.rules):=(by have:=jf r.rules;omega);simp only[mm];omega
theorem tt:∀(rs:List iM) (k:Nat) (h:k<rs.length),mm (rs.take (k+1))=mm (rs.take k)+((rs[k].rules.length:Int)+5*iB rs[k].rules)
 |r::rs,0,h=>by simp[mm]
 |r::rs,k+1,h=>by
  have:=tt rs k (by simpa using h);simp only[List.take_succ_cons,mm,List.getElem_cons_succ] at this ⊢;omega
theorem oU:∀rs,mm rs≤5*kb rs
 | []=>Int.le_refl _
 |r::rs=>by have:=oU rs;have:=jf r.rules;simp only[mm,kb];omega
theorem Ag (v:Value) (rs:List iM) (m:Int) (F:Nat→Prop) (w:World) (h:Ow ob 70 w F v rs) (hm0:0≤m) (hm1:m≤10000000) (hn:(rs.length:Int)+kb rs≤1048576):
  Calls Tryz.prog 12 #[v,.int .i64 m] w fun q w' =>q= .returned (.int .i64 (m+mm rs))∧Ch F w w':=by
 obtain⟨A,c,rfl,-⟩:=h.shape;obtain⟨y,E,P,Q⟩:=h.elems;have Z:=oU rs;have aa:=kr rs;go_enter Tryz.func12,Tryz.ntmps12;go_wp2_with fail
 go_loopw [1,5] (fun l i wr=>∃(k:Nat) (t:Int),i= .int .i64 k∧k≤rs.length∧l= .int .i64 t∧Hid (t=m+mm (rs.take k))∧Ch (fun q=>∃j,j<k∧y j q) w wr) (fun _ i _=>rs.length-(intOf i).toNat)
 case atStart=>exact⟨0,m,rfl,jP _,rfl,by show m=m+mm (rs.take 0);simp[mm],Ch.refl _ _⟩
 case round=>
  obtain⟨k,t,rfl,hk,rfl,o,b⟩:=hrel;by_cases hlt:k<rs.length
  ·obtain⟨g,c',X,T,hF,I,B⟩:=h.head gO
   injection T with hv1 hv2 hv3;subst hv1 hv3;obtain⟨W,⟨vv,H,e⟩,x⟩:=Q k hlt;subst H;obtain⟨A2,c2,rfl,-⟩:=e.shape;have r:=x g rfl 0 _ rfl;have O:ob.sz=1:=rfl;rw[O] at r;simp only[Nat.add_zero,Nat.mul_one] at r;have V:=(b.cell (p:=⟨g,k,none⟩) I (fun ⟨j,_,n⟩=>(E j g n).2 rfl)).trans r;have d:=e.ch b (fun q hq ⟨j,Y,n⟩=>P j k q gO n hq);have L:0≤t:=by have:=o.out;have:=mU (rs.take k);omega
   have M:t≤100000000:=by have:=o.out;have:=oU rs;have:=mU rs;have:=oU (rs.take k);have:=tm rs k;omega
   have G:(rs[k].rules.length:Int)+iB rs[k].rules≤1048576:=by have:=rP rs rs[k] (List.getElem_mem _);omega
   have p0:(k:Int)<(rs.length:Int):=gO;obtain⟨a,f⟩:∃a,rs[k]=a:=⟨_,rfl⟩;rw[f] at d G V;have D:=gP f;clear x r O e hv2 f B;go_wp2_with fail;refine(yt _ a.rules t (y k) _ d L M G).mono ?_;rintro q U ⟨rfl,s⟩;have u:Ch (fun q=>∃j,j<k+1∧y j q) w U:=(b.mono (fun q ⟨j,R,z⟩=>⟨j,gO,z⟩)).trans (s.mono (fun q hq=>⟨k,gO,hq⟩));have HT':=gP (show t+a.rules.length+5*iB a.rules=m+mm (rs.take (k+1)) by
    have R:=o.out;have z:=tt rs k hlt;have S:=D.out;rw[S] at z;omega)
   clear b s d;have C:=gP u;clear u;apply_assumption;go_wp2_with fail;go_roundw
   case rel=>exact⟨k+1,_,by go_num,gO,rfl,HT',C.out⟩
   case measure=>exact ms
  ·have J:k=rs.length:=gO
   subst J;go_wp2_with fail;go_ret;exact⟨by rw[o.out,ld];rfl,b.mono (fun q ⟨j,_,n⟩=>(E j q n).1)⟩
def GH (m:Int) (a b c:Nat):nT:=⟨iK Fx 3 m a,iK nK 7 (m+3*a) b,iK my 5 (m+3*a+7*b) c⟩
theorem De (x:iq) (vs vo:Value) (left:Int) (F:Nat→Prop) (w:World) (g1:Rd iC w F vs x.sends) (g2:Rd ii w F vo x.outs) (h0:0≤left) (h1:left≤1048576):
  Calls Tryz.prog 174 #[.agg #[x.ev.time,x.ev.to,x.ev.from_,x.ev.count,x.ev.n,x.ev.kind,x.ev.arg,x.st.x,x.st.y,x.st.c,vs,vo],left] w fun q w' =>q= .returned (.int .i64 (iR left ((x.sends.length:Int)+(x.outs.length:Int))))∧Below w.heap.size w w':=by
 obtain⟨E,I,rfl,-,n1,-⟩:=id g1;obtain⟨G,J,rfl,-,n2,-⟩:=id g2;obtain⟨W,hV,u,Z⟩:=n8 w (.cells #[x.ev.time,x.ev.to,x.ev.from_,x.ev.count,x.ev.n,x.ev.kind,x.ev.arg,x.st.x,x.st.y,x.st.c,.slice E x.sends.length I,.slice G x.outs.length J] 234);go_enter Tryz.func174,Tryz.ntmps174;go_wp2_with fail;rw[hV.out];clear hV;obtain⟨a,k⟩:∃t,iR left ((x.sends.length:Int))=t:=⟨_,rfl⟩;refine(rA _ x.sends.length left _ ⟨_,_,rfl⟩ n1 h0 h1).mono ?_;rintro q w1 ⟨rfl,p⟩
 (try rw[k])
 have i:=gP k;clear k;have e:=gQ u p (Below.size u);have s:=gJ p (gL Z) Z;obtain⟨L,M,O,P,Q,R,S,T,U,V,A,B⟩:=oV s;apply_assumption;by_cases g1:a<0
 ·have hd:decide (a<0)=true:=jT g1
  have f:=gP (show iR left ((x.sends.length:Int)+(x.outs.length:Int))= -1 from lX (by have m:=lg i.out g1 h0;omega));clear g1;go_wp2_with fail;go_ret;exact⟨by rw[f.out];rfl,e⟩
 have am:decide (a<0)=false:=iU g1;have b:=gP (show a=left-((x.sends.length:Int))∧0≤a by have m:=kS i.out g1;omega);have z:0≤a:=b.out.2;have q1:a≤1048576:=by have:=b.out;omega
 clear g1 i;go_wp2_with fail;obtain⟨d,l⟩:∃t,iR a ((x.outs.length:Int))=t:=⟨_,rfl⟩;refine(yy _ x.outs.length a _ ⟨_,_,rfl⟩ n2 z q1).mono ?_;rintro q w2 ⟨rfl,r⟩
 (try rw[l])
 have j:=gP l;clear l;have o:=gQ e r (Below.size e);have H:=gJ r (gL s) s;obtain⟨X,Y,aa,ab,ac,ad,ae,af,ag,ah,C,D⟩:=oV H;apply_assumption;by_cases g2:d<0
 ·have hd:decide (d<0)=true:=jT g2
  have f:=gP (show iR left ((x.sends.length:Int)+(x.outs.length:Int))= -1 from lX (by have m:=lg j.out g2 z;have v:=b.out;omega));clear g2;go_wp2_with fail;go_ret;exact⟨by rw[f.out];rfl,o⟩
 have an:decide (d<0)=false:=iU g2;have g:=gP (show d=left-((x.sends.length:Int)+(x.outs.length:Int))∧0≤d by have m:=kS j.out g2;have v:=b.out;omega);have p2:0≤d:=g.out.2;have q2:d≤1048576:=by have:=g.out;have v:=b.out;omega
 clear g2 j;have f:=gP (show iR left ((x.sends.length:Int)+(x.outs.length:Int))=d by have m:=g.out;rw[oe gO];omega);go_wp2_with fail;go_ret;exact⟨by rw[f.out];rfl,o⟩
def iy:List iq→Int
 | []=>0
 |r::rs=>((r.sends.length:Int)+(r.outs.length:Int))+iy rs
theorem iS:∀rs,0≤iy rs
 | []=>Int.le_refl _
 |r::rs=>by have:=iS rs;have h2:0≤((r.sends.length:Int)+(r.outs.length:Int)):=gO;simp only[iy];omega
theorem nB:∀(rs:List iq) (k:Nat) (h:k<rs.length),iy (rs.take (k+1))=iy (rs.take k)+((rs[k].sends.length:Int)+(rs[k].outs.length:Int))
 |r::rs,0,h=>by simp[iy]
 |r::rs,k+1,h=>by
  have:=nB rs k (by simpa using h);simp only[List.take_succ_cons,iy,List.getElem_cons_succ] at this ⊢;omega
theorem rz:∀(rs:List iq) (k:Nat),iy (rs.take k)≤iy rs
 | [],k=>by simp
 |r::rs,0=>by simpa [iy] using iS (r::rs)
 |r::rs,k+1=>by have:=rz rs k;simp only[List.take_succ_cons,iy];omega
theorem tP:∀(rs:List iq) (r:iq),r∈rs→((r.sends.length:Int)+(r.outs.length:Int))≤iy rs
 |r'::rs,r,h=>by
  rcases List.mem_cons.1 h with rfl|h
  ·have:=iS rs;simp only[iy];omega
  ·have:=tP rs r h
   have h2:0≤(fun r:iq=>(((r.sends.length:Int)+(r.outs.length:Int)):Int)) r':=(fun r:iq=>(show 0≤(((r.sends.length:Int)+(r.outs.length:Int)):Int) from gO)) r';simp only[iy] at h2 ⊢;omega
theorem BM (v:Value) (rs:List iq) (left:Int) (F:Nat→Prop) (w:World) (h:Rd jm w F v rs) (h0:0≤left) (h1:left≤1048576):
  Calls Tryz.prog 133 #[v,left] w fun q w' =>q= .returned (.int .i64 (iR left (rs.length+iy rs)))∧Below w.heap.size w w':=by
 obtain⟨A,c,rfl,-,T,-⟩:=id h;have R:IntKind.i64.wrap (left-rs.length)=left-rs.length:=IntWalk.i64_in _ gO;have H:=iS rs;by_cases hneg:left-(rs.length:Int)<0
 ·have E:decide (left-(rs.length:Int)<0)=true:=jT hneg
  have a:=gP (show iR left (rs.length+iy rs)= -1 by unfold iR;rw[if_pos gO]);clear hneg;go_enter Tryz.func133,Tryz.ntmps133;go_wp2_with fail;go_ret;exact⟨by rw[a.out];rfl,gY _ _⟩
 ·have E:decide (left-(rs.length:Int)<0)=false:=iU hneg
  have B:=gP hneg;clear hneg;go_enter Tryz.func133,Tryz.ntmps133;go_wp2_with fail
  go_loopw [1,5] (fun l i wr=>∃(k:Nat) (m:Int),i= .int .i64 k∧k≤rs.length∧l= .int .i64 m∧Hid (m=left-(rs.length+iy (rs.take k))∧0≤m)∧Below w.heap.size w wr) (fun _ i _=>rs.length-(intOf i).toNat)
  case atStart=>exact⟨0,_,rfl,jP _,rfl,⟨by simp[iy],by have:=B.out;omega⟩,gY _ _⟩
  case round=>
   obtain⟨k,m,rfl,S,rfl,d,e⟩:=hrel;by_cases hlt:k<rs.length
   ·obtain⟨b,o,L,O,M,P,rfl,G,⟨W,X,Y,Z,z4,z5,z6⟩,⟨z7,z8,z9⟩,I,J,y,z⟩:=k9 (h.below e) k hlt
    have U:(k:Int)<(rs.length:Int):=gO;have g:=d.out.2;have x:m≤1048576:=by have:=d.out.1;have:=iS (rs.take k);omega
    obtain⟨t,f⟩:∃t,iR m ((rs[k].sends.length:Int)+(rs[k].outs.length:Int))=t:=⟨_,rfl⟩;have p:=gP f;go_wp2_with fail;refine(De rs[k] _ _ m _ wr y z g x).mono ?_;rintro q V ⟨rfl,r⟩;rw[f];have n:=gQ e r e.size;apply_assumption;by_cases hneg:t<0
    ·have s:decide (t<0)=true:=jT hneg
     have a:=gP (show iR left (rs.length+iy rs)= -1 from lX (by
      have j:=d.out.1;have C:=lg p.out hneg g;have D:=nB rs k hlt;have Q:=rz rs (k+1);omega))
     clear hneg f;go_wp2_with fail;go_ret;exact⟨by rw[a.out];rfl,n⟩
    ·have s:decide (t<0)=false:=iU hneg
     have HM':=gP (show t=left-(rs.length+iy (rs.take (k+1)))∧0≤t by
      have j:=d.out.1;have C:=kS p.out hneg;have D:=nB rs k hlt;omega)
     clear hneg f;go_wp2_with fail;go_roundw
     case rel=>exact⟨k+1,t,by go_num,gO,rfl,HM',n⟩
     case measure=>exact ms
   ·have u:k=rs.length:=gO
    subst u;have a:=gP (show iR left (rs.length+iy rs)=m by
     have j:=d.out;rw[ld] at j;rw[oe gO];omega)
    go_wp2_with fail;go_ret;exact⟨by rw[a.out];rfl,e⟩
theorem Da (l:hZ) (v:Value) (left:Int) (F:Nat→Prop) (w:World) (h:Rd jm w F v l.done) (h0:0≤left) (h1:left≤1048576):
  Calls Tryz.prog 68 #[.agg #[l.proc,l.base.x,l.base.y,l.base.c,v],left] w fun q w' =>q= .returned (.int .i64 (iR left (((l.done.length:Int)+iy l.done))))∧Below w.heap.size w w':=by
 obtain⟨m,o,rfl,-⟩:=h.shape;have B:=iS l.done;obtain⟨W,hV,j,Z⟩:=n8 w (.cells #[l.proc,l.base.x,l.base.y,l.base.c,.slice m l.done.length o] 112);go_enter Tryz.func68,Tryz.ntmps68;go_wp2_with fail;rw[hV.out];clear hV;obtain⟨a,e⟩:∃t,iR left (((l.done.length:Int)+iy l.done))=t:=⟨_,rfl⟩;refine(BM _ l.done left _ _ (h.below j) h0 h1).mono ?_;rintro q G ⟨rfl,g⟩
 (try rw[e])
 have d:=gP e;clear e;have f:=gQ j g (Below.size j);have n:=gJ g (gL Z) Z;obtain⟨p,r,s,u,z⟩:=ra n;apply_assumption;by_cases g1:a<0
 ·have C:decide (a<0)=true:=jT g1
  have i:=gP (show iR left (((l.done.length:Int)+iy l.done))= -1 from lX (by have k:=lg d.out g1 h0;omega));clear g1;go_wp2_with fail;go_ret;exact⟨by rw[i.out];rfl,f⟩
 have A:decide (a<0)=false:=iU g1;have b:=gP (show a=left-(((l.done.length:Int)+iy l.done))∧0≤a by have k:=kS d.out g1;omega);have D:0≤a:=b.out.2;have E:a≤1048576:=by have:=b.out;omega
 clear g1 d;have i:=gP (show iR left (((l.done.length:Int)+iy l.done))=a by have k:=b.out;rw[oe gO];omega);go_wp2_with fail;go_ret;exact⟨by rw[i.out];rfl,f⟩
theorem ws {apps:List iM} (h:(apps.length:Int)+kb apps≤1048576):apps.length≤1048576∧∀r∈apps,r.rules.length≤1048576∧∀q∈r.rules,q.ops.length≤1048576:=by
 have b:=kr apps;refine⟨gO,fun r a=>?_⟩;have c:=rP apps r a;have d:=jf r.rules;exact⟨gO,fun q hq=>by have e:=tI r.rules q hq;omega⟩
end Go.Proofs.YtgilllnjhahkfaaGreat
