/- Parts of the proof: Ex4. -/
import Derived.Test.YtlndjfflhegkdaaGreatDoorQ14
set_option linter.unusedVariables false
set_option linter.unusedSimpArgs false
set_option linter.unusedSectionVars false
set_option maxHeartbeats 4000000
set_option maxRecDepth 100000
namespace Go.Proofs.YtlndjfflhegkdaaGreatDoor
open Go.RowKit
theorem Ew (x y:lJ) (w:World):Calls Tryz.prog 185 #[.agg #[x.d,x.a,x.b,x.c,x.e],.agg #[y.d,y.a,y.b,y.c,y.e]] w fun q w' =>q= .returned (.bool (decide (x=y)))∧Below w.heap.size w w':=by
 have g:=gs (gs (gM w.heap.size w) (.cells #[x.d,x.a,x.b,x.c,x.e] 175)) (.cells #[y.d,y.a,y.b,y.c,y.e] 175);by_cases h0:x.d=y.d
 case neg=>
  have i:(x.d !=y.d)=true:=by simpa using h0
  have f:=fS (show decide (x=y)=false from ia (fun e=>h0 (by rw[e])));clear h0;go_enter Tryz.func185,Tryz.ntmps185;go_wp2_with fail;go_ret;exact⟨by rw[f.out];rfl,g⟩
 have i:(x.d !=y.d)=false:=by simpa using h0
 by_cases h1:x.a=y.a
 case neg=>
  have j:(x.a !=y.a)=true:=by simpa using h1
  have f:=fS (show decide (x=y)=false from ia (fun e=>h1 (by rw[e])));clear h0 h1;go_enter Tryz.func185,Tryz.ntmps185;go_wp2_with fail;go_ret;exact⟨by rw[f.out];rfl,g⟩
 have j:(x.a !=y.a)=false:=by simpa using h1
 by_cases h2:x.b=y.b
 case neg=>
  have k:(x.b !=y.b)=true:=by simpa using h2
  have f:=fS (show decide (x=y)=false from ia (fun e=>h2 (by rw[e])));clear h0 h1 h2;go_enter Tryz.func185,Tryz.ntmps185;go_wp2_with fail;go_ret;exact⟨by rw[f.out];rfl,g⟩
 have k:(x.b !=y.b)=false:=by simpa using h2
 by_cases h3:x.c=y.c
 case neg=>
  have l:(x.c !=y.c)=true:=by simpa using h3
  have f:=fS (show decide (x=y)=false from ia (fun e=>h3 (by rw[e])));clear h0 h1 h2 h3;go_enter Tryz.func185,Tryz.ntmps185;go_wp2_with fail;go_ret;exact⟨by rw[f.out];rfl,g⟩
 have l:(x.c !=y.c)=false:=by simpa using h3
 by_cases h4:x.e=y.e
 case neg=>
  have m:(x.e !=y.e)=true:=by simpa using h4
  have f:=fS (show decide (x=y)=false from ia (fun e=>h4 (by rw[e])));clear h0 h1 h2 h3 h4;go_enter Tryz.func185,Tryz.ntmps185;go_wp2_with fail;go_ret;exact⟨by rw[f.out];rfl,g⟩
 have m:(x.e !=y.e)=false:=by simpa using h4
 have f:=fS (show decide (x=y)=true from iW (by cases x;cases y;simp_all));clear h0 h1 h2 h3 h4;go_enter Tryz.func185,Tryz.ntmps185;go_wp2_with fail;go_ret;exact⟨by rw[f.out];rfl,g⟩
theorem Di (v0 v1:Value) (xs ys:List lJ) (F:Nat→Prop) (w:World) (h0:Rd qG w F v0 xs) (h1:Rd qG w F v1 ys):
  Calls Tryz.prog 168 #[v0,v1] w fun q w' =>q= .returned (.bool (decide (xs=ys)))∧Below w.heap.size w w':=by
 obtain⟨s,y,rfl,-,B,-⟩:=id h0;obtain⟨u,z,rfl,-,C,-⟩:=id h1;by_cases hl:xs.length=ys.length
 ·have o:(((xs.length:Nat):Int) !=((ys.length:Nat):Int))=false:=by simp[hl]
  have j:=fS hl;clear hl;go_enter Tryz.func168,Tryz.ntmps168;go_wp2_with fail
  go_loopw [5] (fun i wr=>∃k:Nat,i= .int .i64 k∧k≤xs.length∧Hid (xs.take k=ys.take k)∧Below w.heap.size w wr) (fun i _=>xs.length-(intOf i).toNat)
  case atStart=>exact⟨0,rfl,j8 _,rfl,gM _ _⟩
  case round=>
   obtain⟨k,rfl,A,d,c⟩:=hrel;by_cases hlt:k<xs.length
   ·have b:k<ys.length:=by rw[←j.out];exact hlt
    have p:=h0.below c;have r:=h1.below c;obtain⟨v,D,rfl,_,J,L,M,O,P⟩:=uH p k hlt;obtain⟨x,E,rfl,_,Q,R,S,T,U⟩:=uH r k b;have G:(k:Int)<(xs.length:Int):=fT;have H:(k:Int)<(ys.length:Int):=fT;obtain⟨t,n⟩:∃t,decide (xs[k]=ys[k])=t:=⟨_,rfl⟩;have g:=fS n;clear n;go_upto_region 6 with fail;refine kA [.rd [0,1,2,3,4,5,6,7]] [8,9] ?_;refine vL ?_;intro N hN;go_wp2_with fail;refine fV (hN _ ?_);clear hN N;refine vF ?_;go_wp2_with fail;have m:=c.drew;refine(Ew xs[k] ys[k] _).mono ?_;rintro q I ⟨rfl,l⟩;have f:=fU m l m.size;rw[g.out];apply_assumption;cases t
    case false=>
     have a:=fS (show decide (xs=ys)=false from ia (fun e=>of_decide_eq_false g.out (by simp[e])));go_wp2_with fail;go_ret;exact⟨by rw[a.out];rfl,f⟩
    case true=>
     have HS:=fS (jx d.out hlt b (of_decide_eq_true g.out));go_wp2_with fail;go_roundw
     case rel=>exact⟨k+1,by go_num,fT,HS,f⟩
     case measure=>exact ms
   ·have a:=fS (show decide (xs=ys)=true from iW (j5 d.out fT j.out))
    go_wp2_with fail;go_ret;exact⟨by rw[a.out];rfl,c⟩
 ·have o:(((xs.length:Nat):Int) !=((ys.length:Nat):Int))=true:=by rw[bne_iff_ne];omega
  have a:=fS (show decide (xs=ys)=false from ia (fun h=>hl (by simp[h])));clear hl;go_enter Tryz.func168,Tryz.ntmps168;go_wp2_with fail;go_ret;exact⟨by rw[a.out];rfl,gM _ _⟩
theorem wy (x y:ll) (w:World):Calls Tryz.prog 169 #[.agg #[x.x,x.y,x.c],.agg #[y.x,y.y,y.c]] w fun q w' =>q= .returned (.bool (decide (x=y)))∧Below w.heap.size w w':=by
 have b:=gs (gs (gM w.heap.size w) (.cells #[x.x,x.y,x.c] 127)) (.cells #[y.x,y.y,y.c] 127);by_cases h0:x.x=y.x
 case neg=>
  have d:(x.x !=y.x)=true:=by simpa using h0
  have a:=fS (show decide (x=y)=false from ia (fun e=>h0 (by rw[e])));clear h0;go_enter Tryz.func169,Tryz.ntmps169;go_wp2_with fail;go_ret;exact⟨by rw[a.out];rfl,b⟩
 have d:(x.x !=y.x)=false:=by simpa using h0
 by_cases h1:x.y=y.y
 case neg=>
  have f:(x.y !=y.y)=true:=by simpa using h1
  have a:=fS (show decide (x=y)=false from ia (fun e=>h1 (by rw[e])));clear h0 h1;go_enter Tryz.func169,Tryz.ntmps169;go_wp2_with fail;go_ret;exact⟨by rw[a.out];rfl,b⟩
 have f:(x.y !=y.y)=false:=by simpa using h1
 by_cases h2:x.c=y.c
 case neg=>
  have g:(x.c !=y.c)=true:=by simpa using h2
  have a:=fS (show decide (x=y)=false from ia (fun e=>h2 (by rw[e])));clear h0 h1 h2;go_enter Tryz.func169,Tryz.ntmps169;go_wp2_with fail;go_ret;exact⟨by rw[a.out];rfl,b⟩
 have g:(x.c !=y.c)=false:=by simpa using h2
 have a:=fS (show decide (x=y)=true from iW (by cases x;cases y;simp_all));clear h0 h1 h2;go_enter Tryz.func169,Tryz.ntmps169;go_wp2_with fail;go_ret;exact⟨by rw[a.out];rfl,b⟩
theorem wx (x y:hY) (w:World):Calls Tryz.prog 143 #[.agg #[x.time,x.to,x.from_,x.count,x.n,x.kind,x.arg],.agg #[y.time,y.to,y.from_,y.count,y.n,y.kind,y.arg]] w fun q w' =>q= .returned (.bool (decide (x=y)))∧Below w.heap.size w w':=by
 have b:=gs (gs (gM w.heap.size w) (.cells #[x.time,x.to,x.from_,x.count,x.n,x.kind,x.arg] 91)) (.cells #[y.time,y.to,y.from_,y.count,y.n,y.kind,y.arg] 91);by_cases h0:x.time=y.time
 case neg=>
  have c:(x.time !=y.time)=true:=by simpa using h0
  have a:=fS (show decide (x=y)=false from ia (fun e=>h0 (by rw[e])));clear h0;go_enter Tryz.func143,Tryz.ntmps143;go_wp2_with fail;go_ret;exact⟨by rw[a.out];rfl,b⟩
 have c:(x.time !=y.time)=false:=by simpa using h0
 by_cases h1:x.to=y.to
 case neg=>
  have d:(x.to !=y.to)=true:=by simpa using h1
  have a:=fS (show decide (x=y)=false from ia (fun e=>h1 (by rw[e])));clear h0 h1;go_enter Tryz.func143,Tryz.ntmps143;go_wp2_with fail;go_ret;exact⟨by rw[a.out];rfl,b⟩
 have d:(x.to !=y.to)=false:=by simpa using h1
 by_cases h2:x.from_=y.from_
 case neg=>
  have f:(x.from_ !=y.from_)=true:=by simpa using h2
  have a:=fS (show decide (x=y)=false from ia (fun e=>h2 (by rw[e])));clear h0 h1 h2;go_enter Tryz.func143,Tryz.ntmps143;go_wp2_with fail;go_ret;exact⟨by rw[a.out];rfl,b⟩
 have f:(x.from_ !=y.from_)=false:=by simpa using h2
 by_cases h3:x.count=y.count
 case neg=>
  have g:(x.count !=y.count)=true:=by simpa using h3
  have a:=fS (show decide (x=y)=false from ia (fun e=>h3 (by rw[e])));clear h0 h1 h2 h3;go_enter Tryz.func143,Tryz.ntmps143;go_wp2_with fail;go_ret;exact⟨by rw[a.out];rfl,b⟩
 have g:(x.count !=y.count)=false:=by simpa using h3
 by_cases h4:x.n=y.n
 case neg=>
  have i:(x.n !=y.n)=true:=by simpa using h4
  have a:=fS (show decide (x=y)=false from ia (fun e=>h4 (by rw[e])));clear h0 h1 h2 h3 h4;go_enter Tryz.func143,Tryz.ntmps143;go_wp2_with fail;go_ret;exact⟨by rw[a.out];rfl,b⟩
 have i:(x.n !=y.n)=false:=by simpa using h4
 by_cases h5:x.kind=y.kind
 case neg=>
  have j:(x.kind !=y.kind)=true:=by simpa using h5
  have a:=fS (show decide (x=y)=false from ia (fun e=>h5 (by rw[e])));clear h0 h1 h2 h3 h4 h5;go_enter Tryz.func143,Tryz.ntmps143;go_wp2_with fail;go_ret;exact⟨by rw[a.out];rfl,b⟩
 have j:(x.kind !=y.kind)=false:=by simpa using h5
 by_cases h6:x.arg=y.arg
 case neg=>
  have k:(x.arg !=y.arg)=true:=by simpa using h6
  have a:=fS (show decide (x=y)=false from ia (fun e=>h6 (by rw[e])));clear h0 h1 h2 h3 h4 h5 h6;go_enter Tryz.func143,Tryz.ntmps143;go_wp2_with fail;go_ret;exact⟨by rw[a.out];rfl,b⟩
 have k:(x.arg !=y.arg)=false:=by simpa using h6
 have a:=fS (show decide (x=y)=true from iW (by cases x;cases y;simp_all));clear h0 h1 h2 h3 h4 h5 h6;go_enter Tryz.func143,Tryz.ntmps143;go_wp2_with fail;go_ret;exact⟨by rw[a.out];rfl,b⟩
theorem Dj (x y:ik) (w:World):Calls Tryz.prog 50 #[.agg #[x.time,x.proc,x.count,x.n,x.value],.agg #[y.time,y.proc,y.count,y.n,y.value]] w fun q w' =>q= .returned (.bool (decide (x=y)))∧Below w.heap.size w w':=by
 have b:=gs (gs (gM w.heap.size w) (.cells #[x.time,x.proc,x.count,x.n,x.value] 101)) (.cells #[y.time,y.proc,y.count,y.n,y.value] 101);by_cases h0:x.time=y.time
 case neg=>
  have c:(x.time !=y.time)=true:=by simpa using h0
  have a:=fS (show decide (x=y)=false from ia (fun e=>h0 (by rw[e])));clear h0;go_enter Tryz.func50,Tryz.ntmps50;go_wp2_with fail;go_ret;exact⟨by rw[a.out];rfl,b⟩
 have c:(x.time !=y.time)=false:=by simpa using h0
 by_cases h1:x.proc=y.proc
 case neg=>
  have d:(x.proc !=y.proc)=true:=by simpa using h1
  have a:=fS (show decide (x=y)=false from ia (fun e=>h1 (by rw[e])));clear h0 h1;go_enter Tryz.func50,Tryz.ntmps50;go_wp2_with fail;go_ret;exact⟨by rw[a.out];rfl,b⟩
 have d:(x.proc !=y.proc)=false:=by simpa using h1
 by_cases h2:x.count=y.count
 case neg=>
  have f:(x.count !=y.count)=true:=by simpa using h2
  have a:=fS (show decide (x=y)=false from ia (fun e=>h2 (by rw[e])));clear h0 h1 h2;go_enter Tryz.func50,Tryz.ntmps50;go_wp2_with fail;go_ret;exact⟨by rw[a.out];rfl,b⟩
 have f:(x.count !=y.count)=false:=by simpa using h2
 by_cases h3:x.n=y.n
 case neg=>
  have g:(x.n !=y.n)=true:=by simpa using h3
  have a:=fS (show decide (x=y)=false from ia (fun e=>h3 (by rw[e])));clear h0 h1 h2 h3;go_enter Tryz.func50,Tryz.ntmps50;go_wp2_with fail;go_ret;exact⟨by rw[a.out];rfl,b⟩
 have g:(x.n !=y.n)=false:=by simpa using h3
 by_cases h4:x.value=y.value
 case neg=>
  have i:(x.value !=y.value)=true:=by simpa using h4
  have a:=fS (show decide (x=y)=false from ia (fun e=>h4 (by rw[e])));clear h0 h1 h2 h3 h4;go_enter Tryz.func50,Tryz.ntmps50;go_wp2_with fail;go_ret;exact⟨by rw[a.out];rfl,b⟩
 have i:(x.value !=y.value)=false:=by simpa using h4
 have a:=fS (show decide (x=y)=true from iW (by cases x;cases y;simp_all));clear h0 h1 h2 h3 h4;go_enter Tryz.func50,Tryz.ntmps50;go_wp2_with fail;go_ret;exact⟨by rw[a.out];rfl,b⟩
theorem oX (v0 v1:Value) (xs ys:List hY) (F:Nat→Prop) (w:World) (h0:Rd iw w F v0 xs) (h1:Rd iw w F v1 ys):
  Calls Tryz.prog 99 #[v0,v1] w fun q w' =>q= .returned (.bool (decide (xs=ys)))∧Below w.heap.size w w':=by
 obtain⟨s,y,rfl,-,B,-⟩:=id h0;obtain⟨u,z,rfl,-,C,-⟩:=id h1;by_cases hl:xs.length=ys.length
 ·have o:(((xs.length:Nat):Int) !=((ys.length:Nat):Int))=false:=by simp[hl]
  have j:=fS hl;clear hl;go_enter Tryz.func99,Tryz.ntmps99;go_wp2_with fail
  go_loopw [5] (fun i wr=>∃k:Nat,i= .int .i64 k∧k≤xs.length∧Hid (xs.take k=ys.take k)∧Below w.heap.size w wr) (fun i _=>xs.length-(intOf i).toNat)
  case atStart=>exact⟨0,rfl,j8 _,rfl,gM _ _⟩
  case round=>
   obtain⟨k,rfl,A,d,c⟩:=hrel;by_cases hlt:k<xs.length
   ·have b:k<ys.length:=by rw[←j.out];exact hlt
    have p:=h0.below c;have r:=h1.below c;obtain⟨v,D,rfl,_,J,L,M,O,P,Q,R⟩:=jC p k hlt;obtain⟨x,E,rfl,_,S,T,U,V,W,X,Y⟩:=jC r k b;have G:(k:Int)<(xs.length:Int):=fT;have H:(k:Int)<(ys.length:Int):=fT;obtain⟨t,n⟩:∃t,decide (xs[k]=ys[k])=t:=⟨_,rfl⟩;have g:=fS n;clear n;go_upto_region 6 with fail;refine kA [.rd [0,1,2,3,4,5,6,7]] [8,9] ?_;refine vL ?_;intro N hN;go_wp2_with fail;refine fV (hN _ ?_);clear hN N;refine vF ?_;go_wp2_with fail;have m:=c.drew;refine(wx xs[k] ys[k] _).mono ?_;rintro q I ⟨rfl,l⟩;have f:=fU m l m.size;rw[g.out];apply_assumption;cases t
    case false=>
     have a:=fS (show decide (xs=ys)=false from ia (fun e=>of_decide_eq_false g.out (by simp[e])));go_wp2_with fail;go_ret;exact⟨by rw[a.out];rfl,f⟩
    case true=>
     have HS:=fS (jx d.out hlt b (of_decide_eq_true g.out));go_wp2_with fail;go_roundw
     case rel=>exact⟨k+1,by go_num,fT,HS,f⟩
     case measure=>exact ms
   ·have a:=fS (show decide (xs=ys)=true from iW (j5 d.out fT j.out))
    go_wp2_with fail;go_ret;exact⟨by rw[a.out];rfl,c⟩
 ·have o:(((xs.length:Nat):Int) !=((ys.length:Nat):Int))=true:=by rw[bne_iff_ne];omega
  have a:=fS (show decide (xs=ys)=false from ia (fun h=>hl (by simp[h])));clear hl;go_enter Tryz.func99,Tryz.ntmps99;go_wp2_with fail;go_ret;exact⟨by rw[a.out];rfl,gM _ _⟩
theorem rF (v0 v1:Value) (xs ys:List ik) (F:Nat→Prop) (w:World) (h0:Rd hJ w F v0 xs) (h1:Rd hJ w F v1 ys):
  Calls Tryz.prog 27 #[v0,v1] w fun q w' =>q= .returned (.bool (decide (xs=ys)))∧Below w.heap.size w w':=by
 obtain⟨s,y,rfl,-,B,-⟩:=id h0;obtain⟨u,z,rfl,-,C,-⟩:=id h1;by_cases hl:xs.length=ys.length
 ·have o:(((xs.length:Nat):Int) !=((ys.length:Nat):Int))=false:=by simp[hl]
  have j:=fS hl;clear hl;go_enter Tryz.func27,Tryz.ntmps27;go_wp2_with fail
  go_loopw [5] (fun i wr=>∃k:Nat,i= .int .i64 k∧k≤xs.length∧Hid (xs.take k=ys.take k)∧Below w.heap.size w wr) (fun i _=>xs.length-(intOf i).toNat)
  case atStart=>exact⟨0,rfl,j8 _,rfl,gM _ _⟩
  case round=>
   obtain⟨k,rfl,A,d,c⟩:=hrel;by_cases hlt:k<xs.length
   ·have b:k<ys.length:=by rw[←j.out];exact hlt
    have p:=h0.below c;have r:=h1.below c;obtain⟨v,D,rfl,_,J,L,M,O,P⟩:=kh p k hlt;obtain⟨x,E,rfl,_,Q,R,S,T,U⟩:=kh r k b;have G:(k:Int)<(xs.length:Int):=fT;have H:(k:Int)<(ys.length:Int):=fT;obtain⟨t,n⟩:∃t,decide (xs[k]=ys[k])=t:=⟨_,rfl⟩;have g:=fS n;clear n;go_upto_region 6 with fail;refine kA [.rd [0,1,2,3,4,5,6,7]] [8,9] ?_;refine vL ?_;intro N hN;go_wp2_with fail;refine fV (hN _ ?_);clear hN N;refine vF ?_;go_wp2_with fail;have m:=c.drew;refine(Dj xs[k] ys[k] _).mono ?_;rintro q I ⟨rfl,l⟩;have f:=fU m l m.size;rw[g.out];apply_assumption;cases t
    case false=>
     have a:=fS (show decide (xs=ys)=false from ia (fun e=>of_decide_eq_false g.out (by simp[e])));go_wp2_with fail;go_ret;exact⟨by rw[a.out];rfl,f⟩
    case true=>
     have HS:=fS (jx d.out hlt b (of_decide_eq_true g.out));go_wp2_with fail;go_roundw
     case rel=>exact⟨k+1,by go_num,fT,HS,f⟩
     case measure=>exact ms
   ·have a:=fS (show decide (xs=ys)=true from iW (j5 d.out fT j.out))
    go_wp2_with fail;go_ret;exact⟨by rw[a.out];rfl,c⟩
 ·have o:(((xs.length:Nat):Int) !=((ys.length:Nat):Int))=true:=by rw[bne_iff_ne];omega
  have a:=fS (show decide (xs=ys)=false from ia (fun h=>hl (by simp[h])));clear hl;go_enter Tryz.func27,Tryz.ntmps27;go_wp2_with fail;go_ret;exact⟨by rw[a.out];rfl,gM _ _⟩
theorem Ca (x y:jL) (v0 v1:Value) (F:Nat→Prop) (w:World) (h0:Rd qG w F v0 x.ops) (h1:Rd qG w F v1 y.ops):Calls Tryz.prog 141 #[.agg #[x.kind,v0],.agg #[y.kind,v1]] w fun q w' =>q= .returned (.bool (decide (x=y)))∧Below w.heap.size w w':=by
 obtain⟨g,k,rfl,-⟩:=h0.shape;obtain⟨i,l,rfl,-⟩:=h1.shape;have a:=gs (gs (gM w.heap.size w) (.cells #[x.kind,.slice g x.ops.length k] 118)) (.cells #[y.kind,.slice i y.ops.length l] 118);by_cases k0:x.kind=y.kind
 case neg=>
  have m:(x.kind !=y.kind)=true:=by simpa using k0
  have j:=fS (show decide (x=y)=false from ia (fun e=>k0 (by rw[e])));clear k0;go_enter Tryz.func141,Tryz.ntmps141;go_wp2_with fail;go_ret;exact⟨by rw[j.out];rfl,a⟩
 have m:(x.kind !=y.kind)=false:=by simpa using k0
 obtain⟨t,b⟩:∃t,decide (x.ops=y.ops)=t:=⟨_,rfl⟩;have d:=fS (show decide (x=y)=t by
  rw[←b,decide_eq_decide];constructor
  ·intro e;rw[e]
  ·intro e;cases x;cases y;simp_all)
 clear k0;go_enter Tryz.func141,Tryz.ntmps141;go_wp2_with fail;refine(Di _ _ x.ops y.ops _ _ (h0.below a) (h1.below a)).mono ?_;rintro q n ⟨rfl,f⟩;have c:=gK a f;rw[b];have HT':=fS b;clear b;apply_assumption;cases t
 case false=>
  go_wp2_with fail;go_ret;exact⟨by rw[d.out];rfl,c⟩
 case true=>
  go_wp2_with fail;go_ret;exact⟨by rw[d.out];rfl,c⟩
theorem AG (v0 v1:Value) (xs ys:List jL) (F:Nat→Prop) (w:World) (h0:Rd kT w F v0 xs) (h1:Rd kT w F v1 ys):
  Calls Tryz.prog 97 #[v0,v1] w fun q w' =>q= .returned (.bool (decide (xs=ys)))∧Below w.heap.size w w':=by
 obtain⟨v,C,rfl,-,I,-⟩:=id h0;obtain⟨x,D,rfl,-,J,-⟩:=id h1;by_cases hl:xs.length=ys.length
 ·have o:(((xs.length:Nat):Int) !=((ys.length:Nat):Int))=false:=by simp[hl]
  have j:=fS hl;clear hl;go_enter Tryz.func97,Tryz.ntmps97;go_wp2_with fail
  go_loopw [5] (fun i wr=>∃k:Nat,i= .int .i64 k∧k≤xs.length∧Hid (xs.take k=ys.take k)∧Below w.heap.size w wr) (fun i _=>xs.length-(intOf i).toNat)
  case atStart=>exact⟨0,rfl,j8 _,rfl,gM _ _⟩
  case round=>
   obtain⟨k,rfl,H,d,c⟩:=hrel;by_cases hlt:k<xs.length
   ·have b:k<ys.length:=by rw[←j.out];exact hlt
    have p:=h0.below c;have r:=h1.below c;obtain⟨A,L,y,E,rfl,_,R,S,s⟩:=mv p k hlt;obtain⟨B,M,z,G,rfl,_,T,U,u⟩:=mv r k b;have O:(k:Int)<(xs.length:Int):=fT;have P:(k:Int)<(ys.length:Int):=fT;obtain⟨t,n⟩:∃t,decide (xs[k]=ys[k])=t:=⟨_,rfl⟩;have g:=fS n;clear n;go_upto_region 6 with fail;refine kA [.rd [0,1,2,3,4,5,6,7]] [8,9] ?_;refine vL ?_;intro N hN;go_wp2_with fail;refine fV (hN _ ?_);clear hN N;refine vF ?_;go_wp2_with fail;have m:=c.drew;refine(Ca xs[k] ys[k] _ _ _ _ (s.below (gM wr.heap.size wr).drew) (u.below (gM wr.heap.size wr).drew)).mono ?_;rintro q Q ⟨rfl,l⟩;have f:=fU m l m.size;rw[g.out];apply_assumption;cases t
    case false=>
     have a:=fS (show decide (xs=ys)=false from ia (fun e=>of_decide_eq_false g.out (by simp[e])));go_wp2_with fail;go_ret;exact⟨by rw[a.out];rfl,f⟩
    case true=>
     have HS:=fS (jx d.out hlt b (of_decide_eq_true g.out));go_wp2_with fail;go_roundw
     case rel=>exact⟨k+1,by go_num,fT,HS,f⟩
     case measure=>exact ms
   ·have a:=fS (show decide (xs=ys)=true from iW (j5 d.out fT j.out))
    go_wp2_with fail;go_ret;exact⟨by rw[a.out];rfl,c⟩
 ·have o:(((xs.length:Nat):Int) !=((ys.length:Nat):Int))=true:=by rw[bne_iff_ne];omega
  have a:=fS (show decide (xs=ys)=false from ia (fun h=>hl (by simp[h])));clear hl;go_enter Tryz.func97,Tryz.ntmps97;go_wp2_with fail;go_ret;exact⟨by rw[a.out];rfl,gM _ _⟩
theorem Dg (x y:iy) (v0 v1:Value) (F:Nat→Prop) (w:World) (h0:Rd kT w F v0 x.rules) (h1:Rd kT w F v1 y.rules):Calls Tryz.prog 47 #[.agg #[v0],.agg #[v1]] w fun q w' =>q= .returned (.bool (decide (x=y)))∧Below w.heap.size w w':=by
 obtain⟨g,j,rfl,-⟩:=h0.shape;obtain⟨i,k,rfl,-⟩:=h1.shape;have c:=gs (gs (gM w.heap.size w) (.cells #[.slice g x.rules.length j] 96)) (.cells #[.slice i y.rules.length k] 96);obtain⟨t,a⟩:∃t,decide (x.rules=y.rules)=t:=⟨_,rfl⟩;have d:=fS (show decide (x=y)=t by
  rw[←a,decide_eq_decide];constructor
  ·intro e;rw[e]
  ·intro e;cases x;cases y;simp_all)
 go_enter Tryz.func47,Tryz.ntmps47;go_wp2_with fail;refine(AG _ _ x.rules y.rules _ _ (h0.below c) (h1.below c)).mono ?_;rintro q l ⟨rfl,f⟩;have b:=gK c f;rw[a];have HT':=fS a;clear a;apply_assumption;cases t
 case false=>
  go_wp2_with fail;go_ret;exact⟨by rw[d.out];rfl,b⟩
 case true=>
  go_wp2_with fail;go_ret;exact⟨by rw[d.out];rfl,b⟩
end Go.Proofs.YtlndjfflhegkdaaGreatDoor
