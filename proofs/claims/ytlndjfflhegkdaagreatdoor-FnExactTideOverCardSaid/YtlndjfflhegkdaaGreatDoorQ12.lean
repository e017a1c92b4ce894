/- Parts of the proof: Nest, Ln1, Cmp, Lt, Par2, Draw5, Sets, Tf4. -/
import Derived.OwnWalk
import Derived.Laws.EntriesVeiled
import Derived.Lib.AppendZeros
import Derived.Maps.Keyed
import Derived.DeepKeys4
import Derived.RegionTactic
import Derived.Defers
import Derived.Recover
import Derived.Laws.Pointers
import Derived.Test.YtlndjfflhegkdaaGreatDoorRows
import Derived.Lib.SlBytesRowKit
import Derived.ProofKit
import Derived.LaidMore
import Derived.Stop.LaidErr
import Derived.Stop.Joined
import Derived.MakeChecks
import Derived.Test.YtlndjfflhegkdaaGreatDoorQ03
import Derived.Test.YtlndjfflhegkdaaGreatDoorQ11
set_option linter.unusedVariables false
set_option linter.unusedSimpArgs false
set_option linter.unusedSectionVars false
set_option maxHeartbeats 4000000
namespace Go.Proofs.YtlndjfflhegkdaaGreatDoor
open Go.RowKit
set_option maxRecDepth 100000
theorem Ow.oneCell {α:Type} {d:Ty α} {e:TypeId} {w:World} {F:Nat→Prop} {v:Value} {xs:List α} (h:Ow d e w F v xs):v.oneCell' =true:=by
 obtain⟨A,c,rfl,_⟩:=h.shape;rfl
def lS:Ty jL where
 sz:=2
 rel:=fun w F x cs=>∃v,cs=[.int .i64 x.kind,v]∧Ow qG 175 w F v x.ops
 len:=fun ⟨v,h,_⟩=>by rw[h];rfl
 one:=fun ⟨v,h,hr⟩ u hu=>by
  have h1:=hr.oneCell;rw[h] at hu;simp at hu;rcases hu with rfl|rfl
  ·rfl
  ·exact h1
 mono:=fun hF ⟨v,h,hr⟩=>⟨v,h,hr.mono hF⟩
 move:=fun hm ⟨v,h,hr⟩=>⟨v,h,hr.move hm⟩
 bound:=fun ⟨v,h,hr⟩=>⟨v,h,hr.bound⟩
def pF:Ty iy where
 sz:=1
 rel:=fun w F x cs=>∃v,cs=[v]∧Ow lS 118 w F v x.rules
 len:=fun ⟨v,h,_⟩=>by rw[h];rfl
 one:=fun ⟨v,h,hr⟩ u hu=>by
  have h1:=hr.oneCell;rw[h] at hu;simp at hu;rcases hu with rfl;exact h1
 mono:=fun hF ⟨v,h,hr⟩=>⟨v,h,hr.mono hF⟩
 move:=fun hm ⟨v,h,hr⟩=>⟨v,h,hr.move hm⟩
 bound:=fun ⟨v,h,hr⟩=>⟨v,h,hr.bound⟩
theorem Rd.map {α:Type} {d d':Ty α} {w:World} {F:Nat→Prop} {v:Value} {xs:List α} (hs:d.sz=d'.sz) (hr:∀x cs,d.rel w F x cs→d'.rel w F x cs) (h:Rd d w F v xs):Rd d' w F v xs:=by
 obtain⟨A,c,rfl,e,f,g⟩:=h;refine⟨A,c,rfl,e,f,fun n=>?_⟩;obtain⟨b,o,rfl,hF,a,l⟩:=g n;refine⟨b,o,rfl,hF,a,fun j x m=>?_⟩;obtain⟨cs,i,k⟩:=l j x m;exact⟨cs,hr x cs i,by rw[←hs];exact k⟩
theorem Ow.rdRules {w:World} {F:Nat→Prop} {v:Value} {xs:List jL} {e:TypeId} (h:Ow lS e w F v xs):Rd kT w F v xs:=
 Rd.map (d:=lS) rfl (fun x cs ⟨v,h1,h2⟩=>⟨v,h1,h2.rd⟩) h.rd
theorem Ow.rdApps {w:World} {F:Nat→Prop} {v:Value} {xs:List iy} {e:TypeId} (h:Ow pF e w F v xs):Rd me w F v xs:=
 Rd.map (d:=pF) rfl (fun x cs ⟨v,h1,h2⟩=>⟨v,h1,h2.rdRules⟩) h.rd
structure iP where
 ev:hY
 st:ll
 sends:List hY
 outs:List ik
deriving DecidableEq
structure il where
 proc:Int
 base:ll
 done:List iP
deriving DecidableEq
def Ec:il:=⟨0,⟨0,0,0⟩,[]⟩
def iJ (p:iP) (proc:Int):Bool:=i7 p.ev&&(decide (p.ev.to=proc)&&(jE p.st&&(iQ p.sends 2&&iu p.outs 2)))
def lj (p q:iP):Bool:=gQ p.ev q.ev
def jj (l:il):Bool:=ib l.proc 0 3&&(jE l.base&&(decide (l.done.length≤100)&&(l.done.all (fun p=>iJ p l.proc)&&kX lj l.done)))
def mX (l:il):ll:=match l.done.getLast? with|some p=>p.st|none=>l.base
def hZ:List iP→List hY→Nat
 |p::ps,e::es=>if p.ev=e then hZ ps es+1 else 0
 |_,_=>0
def BQ (l:il) (came:List hY):Bool:=iQ came 100&&came.all (fun e=>decide (e.to=l.proc))
def yt (l:il) (came:List hY):Option hY:=if hZ l.done came<l.done.length then none else came[hZ l.done came]?
def EG (a:iy) (l:il) (e:hY):il:=
 {l with done:=l.done++[⟨e,(iA a (mX l) e).1,iI (iA a (mX l) e).2.1,iU (iA a (mX l) e).2.2⟩]}
def uw (a:iy) (l:il) (came:List hY):il×Bool:=
 if jj l=true then
  (if BQ l came=true∧je a=true then (match yt l came with|some e=>(EG a l e,true)|none=>(l,false)) else (l,false))
 else (Ec,false)
def lT (p:iP) (vs vo:Value):List Value:=
 [.int .i64 p.ev.time,.int .i64 p.ev.to,.int .i64 p.ev.from_,.int .i64 p.ev.count,.int .i64 p.ev.n,.int .i64 p.ev.kind,.int .i64 p.ev.arg,.int .i64 p.st.x,.int .i64 p.st.y,.int .i64 p.st.c,vs,vo]
def kO:Ty iP where
 sz:=12
 rel:=fun w F x cs=>∃vs vo,cs=lT x vs vo∧Rd iw w F vs x.sends∧Rd hJ w F vo x.outs
 len:=fun ⟨vs,vo,h,_⟩=>by rw[h];rfl
 one:=fun ⟨vs,vo,h,h1,h2⟩ u hu=>by
  obtain⟨A,c,rfl,_⟩:=h1;obtain⟨A',c',rfl,_⟩:=h2;rw[h] at hu;simp only[lT,List.mem_cons,List.not_mem_nil,or_false] at hu;rcases hu with rfl|rfl|rfl|rfl|rfl|rfl|rfl|rfl|rfl|rfl|rfl|rfl<;>rfl
 mono:=fun hF ⟨vs,vo,h,h1,h2⟩=>⟨vs,vo,h,h1.mono hF,h2.mono hF⟩
 move:=fun hm ⟨vs,vo,h,h1,h2⟩=>⟨vs,vo,h,h1.move hm,h2.move hm⟩
 bound:=fun ⟨vs,vo,h,h1,h2⟩=>⟨vs,vo,h,h1.bound,h2.bound⟩
def oF:Ty iP where
 sz:=12
 rel:=fun w F x cs=>∃vs vo,cs=lT x vs vo∧Ow iw 91 w F vs x.sends∧Ow hJ 101 w F vo x.outs
 len:=fun ⟨vs,vo,h,_⟩=>by rw[h];rfl
 one:=fun ⟨vs,vo,h,h1,h2⟩ u hu=>by
  have g1:=h1.oneCell;have g2:=h2.oneCell;rw[h] at hu;simp only[lT,List.mem_cons,List.not_mem_nil,or_false] at hu;rcases hu with rfl|rfl|rfl|rfl|rfl|rfl|rfl|rfl|rfl|rfl|rfl|rfl<;>first|rfl|assumption
 mono:=fun hF ⟨vs,vo,h,h1,h2⟩=>⟨vs,vo,h,h1.mono hF,h2.mono hF⟩
 move:=fun hm ⟨vs,vo,h,h1,h2⟩=>⟨vs,vo,h,h1.move hm,h2.move hm⟩
 bound:=fun ⟨vs,vo,h,h1,h2⟩=>⟨vs,vo,h,h1.bound,h2.bound⟩
theorem Ow.rdPasts {w:World} {F:Nat→Prop} {v:Value} {xs:List iP} {e:TypeId} (h:Ow oF e w F v xs):Rd kO w F v xs:=
 Rd.map (d:=oF) rfl (fun x cs ⟨vs,vo,h1,h2,h3⟩=>⟨vs,vo,h1,h2.rd,h3.rd⟩) h.rd
theorem lM {w:World} {F:Nat→Prop} {A:Option Addr} {n c:Nat} {xs:List iP} (h:Rd kO w F (.slice A n c) xs) (j:Nat) (hj:j<xs.length):
  ∃b o A1 c1 A2 c2,A=some ⟨b,o,none⟩∧b<w.heap.size∧(w.cell? ⟨b,o+j*12,none⟩=some (.int .i64 xs[j].ev.time)∧w.cell? ⟨b,o+j*12+1,none⟩=some (.int .i64 xs[j].ev.to)∧w.cell? ⟨b,o+j*12+2,none⟩=some (.int .i64 xs[j].ev.from_)∧w.cell? ⟨b,o+j*12+3,none⟩=some (.int .i64 xs[j].ev.count)∧w.cell? ⟨b,o+j*12+4,none⟩=some (.int .i64 xs[j].ev.n)∧w.cell? ⟨b,o+j*12+5,none⟩=some (.int .i64 xs[j].ev.kind)∧w.cell? ⟨b,o+j*12+6,none⟩=some (.int .i64 xs[j].ev.arg))∧
   (w.cell? ⟨b,o+j*12+7,none⟩=some (.int .i64 xs[j].st.x)∧w.cell? ⟨b,o+j*12+8,none⟩=some (.int .i64 xs[j].st.y)∧w.cell? ⟨b,o+j*12+9,none⟩=some (.int .i64 xs[j].st.c))∧
   w.cell? ⟨b,o+j*12+10,none⟩=some (.slice A1 xs[j].sends.length c1)∧w.cell? ⟨b,o+j*12+11,none⟩=some (.slice A2 xs[j].outs.length c2)∧Rd iw w F (.slice A1 xs[j].sends.length c1) xs[j].sends∧Rd hJ w F (.slice A2 xs[j].outs.length c2) xs[j].outs:=by
 obtain⟨b,o,g,rfl,_,d,⟨k,i,rfl,e,f⟩,a⟩:=h.at_ j hj;obtain⟨A1,c1,rfl,_⟩:=id e;obtain⟨A2,c2,rfl,_⟩:=id f;exact⟨b,o,A1,c1,A2,c2,rfl,d,⟨a 0 _ rfl,a 1 _ rfl,a 2 _ rfl,a 3 _ rfl,a 4 _ rfl,a 5 _ rfl,a 6 _ rfl⟩,⟨a 7 _ rfl,a 8 _ rfl,a 9 _ rfl⟩,a 10 _ rfl,a 11 _ rfl,e,f⟩
theorem Et {w:World} {g:Nat} {v0 v1 v2:Value} {t:TypeId} {fr:Nat×Nat} (h:w.heap[g]? =some (.cells #[v0,v1,v2] t fr)):w.cell? ⟨g,0,none⟩=some v0∧w.cell? ⟨g,1,none⟩=some v1∧w.cell? ⟨g,2,none⟩=some v2:=⟨fw h 0,fw h 1,fw h 2⟩
theorem Eb {w:World} {g:Nat} {v0 v1 v2 v3 v4:Value} {t:TypeId} {fr:Nat×Nat} (h:w.heap[g]? =some (.cells #[v0,v1,v2,v3,v4] t fr)):w.cell? ⟨g,0,none⟩=some v0∧w.cell? ⟨g,1,none⟩=some v1∧w.cell? ⟨g,2,none⟩=some v2∧w.cell? ⟨g,3,none⟩=some v3∧w.cell? ⟨g,4,none⟩=some v4:=⟨fw h 0,fw h 1,fw h 2,fw h 3,fw h 4⟩
theorem EV {w:World} {g:Nat} {v0 v1 v2 v3 v4 v5 v6:Value} {t:TypeId} {fr:Nat×Nat} (h:w.heap[g]? =some (.cells #[v0,v1,v2,v3,v4,v5,v6] t fr)):w.cell? ⟨g,0,none⟩=some v0∧w.cell? ⟨g,1,none⟩=some v1∧w.cell? ⟨g,2,none⟩=some v2∧w.cell? ⟨g,3,none⟩=some v3∧w.cell? ⟨g,4,none⟩=some v4∧w.cell? ⟨g,5,none⟩=some v5∧w.cell? ⟨g,6,none⟩=some v6:=⟨fw h 0,fw h 1,fw h 2,fw h 3,fw h 4,fw h 5,fw h 6⟩
theorem sr {w:World} {g:Nat} {v0 v1 v2 v3 v4 v5 v6 v7 v8 v9 v10 v11:Value} {t:TypeId} {fr:Nat×Nat} (h:w.heap[g]? =some (.cells #[v0,v1,v2,v3,v4,v5,v6,v7,v8,v9,v10,v11] t fr)):w.cell? ⟨g,0,none⟩=some v0∧w.cell? ⟨g,1,none⟩=some v1∧w.cell? ⟨g,2,none⟩=some v2∧w.cell? ⟨g,3,none⟩=some v3∧w.cell? ⟨g,4,none⟩=some v4∧w.cell? ⟨g,5,none⟩=some v5∧w.cell? ⟨g,6,none⟩=some v6∧w.cell? ⟨g,7,none⟩=some v7∧w.cell? ⟨g,8,none⟩=some v8∧w.cell? ⟨g,9,none⟩=some v9∧w.cell? ⟨g,10,none⟩=some v10∧w.cell? ⟨g,11,none⟩=some v11:=⟨fw h 0,fw h 1,fw h 2,fw h 3,fw h 4,fw h 5,fw h 6,fw h 7,fw h 8,fw h 9,fw h 10,fw h 11⟩
theorem xp (x:Int) (w:World):Calls Tryz.prog 189 #[x] w fun e w' =>e= .returned (.bool false)∧w' =w:=by
 have h:(x !=x)=false:=by simp
 go_enter Tryz.func189,Tryz.ntmps189;go_wp2_with fail;go_ret;exact⟨rfl,rfl⟩
def pM (x y:Int):Int:=if x<y then -1 else if y<x then 1 else 0
theorem wt (x y:Int) (w:World):Calls Tryz.prog 183 #[x,y] w fun e w' =>e= .returned (.int .i64 (pM x y))∧w' =w:=by
 by_cases h1:x<y
 ·have c:decide (x<y)=true:=iW h1
  have a:=fS (show pM x y= -1 by simp[pM,h1]);go_enter Tryz.func183,Tryz.ntmps183;go_wp2_with (go_at_call 189;refine(xp _ _).mono ?_;rintro e w' ⟨rfl,rfl⟩);go_ret;exact⟨by rw[a.out];rfl,rfl⟩
 ·have c:decide (x<y)=false:=ia h1
  by_cases h2:y<x
  ·have b:decide (y<x)=true:=iW h2
   have a:=fS (show pM x y=1 by simp[pM,h1,h2]);go_enter Tryz.func183,Tryz.ntmps183;go_wp2_with (go_at_call 189;refine(xp _ _).mono ?_;rintro e w' ⟨rfl,rfl⟩);go_ret;exact⟨by rw[a.out];rfl,rfl⟩
  ·have b:decide (y<x)=false:=ia h2
   have a:=fS (show pM x y=0 by simp[pM,h1,h2]);go_enter Tryz.func183,Tryz.ntmps183;go_wp2_with (go_at_call 189;refine(xp _ _).mono ?_;rintro e w' ⟨rfl,rfl⟩);go_ret;exact⟨by rw[a.out];rfl,rfl⟩
def rB:List Int→List Int→Int
 |a::l,b::m=>if pM a b=0 then rB l m else pM a b
 |_,_=>0
theorem ws {x y:Int}:pM x y=0↔x=y:=by unfold pM;split<;>(try split)<;>omega
theorem xg:∀(l m:List Int),decide (rB l m<0)=jM l m
 | [],m=>by simp[rB,jM]
 |_::_,[]=>by simp[rB,jM]
 |a::l,b::m=>by
  simp only[rB,jM];by_cases h:a=b
  ·simp only[if_pos (ws.2 h),if_pos h]
   exact xg l m
  ·simp only[if_neg (fun e=>h (ws.1 e)),if_neg h]
   refine decide_eq_decide.2 ?_;unfold pM;split
   ·omega
   ·split<;>omega
theorem Aw {xs ys:List Int} {k:Nat} (h:k<xs.length) (h2:k<ys.length):rB (xs.drop k) (ys.drop k)=if pM xs[k] ys[k]=0 then rB (xs.drop (k+1)) (ys.drop (k+1)) else pM xs[k] ys[k]:=by
 rw[List.drop_eq_getElem_cons h,List.drop_eq_getElem_cons h2];simp only[rB]
theorem lY {w:World} {F:Nat→Prop} {A:Option Addr} {n c:Nat} {xs:List Int} (h:Rd (jQ .i64) w F (.slice A n c) xs) (j:Nat) (hj:j<xs.length):
  ∃b o,A=some ⟨b,o,none⟩∧F b∧b<w.heap.size∧w.cell? ⟨b,o+j,none⟩=some (.int .i64 xs[j]):=by
 obtain⟨b,o,d,rfl,hF,a,e,f⟩:=h.at_ j hj;have hr':d=[.int .i64 xs[j]]:=e;subst hr';have:=f 0 _ rfl;exact⟨b,o,rfl,hF,a,by simpa [jQ,kx] using this⟩
theorem uX (v0 v1:Value) (xs ys:List Int) (F:Nat→Prop) (w:World) (h0:Rd (jQ .i64) w F v0 xs) (h1:Rd (jQ .i64) w F v1 ys) (hl:xs.length=ys.length):
  Calls Tryz.prog 161 #[v0,v1] w fun e w' =>e= .returned (.int .i64 (rB xs ys))∧w' =w:=by
 obtain⟨m,s,rfl,-,x,-⟩:=id h0;obtain⟨n,t,rfl,-,y,-⟩:=id h1;have l:xs.length≤ys.length:=fT;have j:ys.length≤xs.length:=fT;have g:decide ((xs.length:Int)<(ys.length:Int))=false:=ia fT;clear hl;go_enter Tryz.func161,Tryz.ntmps161;go_wp2_with fail
 go_loop [11] (fun i=>∃k:Nat,i= .int .i64 k∧k≤xs.length∧Hid (rB xs ys=rB (xs.drop k) (ys.drop k))) (fun i=>xs.length-(intOf i).toNat)
 case atStart=>exact⟨0,rfl,j8 _,fS rfl⟩
 case round=>
  obtain⟨k,rfl,v,c⟩:=hrel;by_cases hlt:k<xs.length
  ·obtain⟨q,z,rfl,_,_,o⟩:=lY h0 k hlt
   obtain⟨r,A,rfl,_,_,p⟩:=lY h1 k fT;have d:k<ys.length:=fT;have u:decide ((ys.length:Int)≤(k:Int))=false:=ia fT;have a:=Aw hlt d;by_cases he:pM xs[k] ys[k]=0
   ·rw[if_pos he] at a
    have b:=fS (c.out.trans a);clear a;have f:(pM xs[k] ys[k] !=0)=false:=by simp[he]
    clear he;go_wp2_with (go_at_call 183;refine(wt _ _ _).mono ?_;rintro e w' ⟨rfl,rfl⟩)
    go_round
    case rel=>exact⟨k+1,by go_num,fT,b⟩
    case measure=>exact ms
   ·rw[if_neg he] at a
    have b:=fS (c.out.trans a);clear a;have f:(pM xs[k] ys[k] !=0)=true:=by simp[he]
    clear he;go_wp2_with (go_at_call 183;refine(wt _ _ _).mono ?_;rintro e w' ⟨rfl,rfl⟩);go_ret;exact⟨by rw[b.out];rfl,rfl⟩
  ·have b:=fS (show rB xs ys=0 by rw[c.out,List.drop_eq_nil_of_le fT,List.drop_eq_nil_of_le fT];rfl)
   go_wp2_with fail;go_ret;exact⟨by rw[b.out];rfl,rfl⟩
theorem jx {α:Type} {xs ys:List α} {k:Nat} (h:xs.take k=ys.take k) (h0:k<xs.length) (h1:k<ys.length) (he:xs[k]=ys[k]):xs.take (k+1)=ys.take (k+1):=by
 rw[vX h0,vX h1,h,he]
theorem j5 {α:Type} {xs ys:List α} {k:Nat} (h:xs.take k=ys.take k) (h0:xs.length≤k) (hl:xs.length=ys.length):xs=ys:=by
 rw[List.take_of_length_le h0,List.take_of_length_le fT] at h;exact h
section
abbrev pG:=Nat×List Nat×(List Value→Value→Prop)
def Al (l:List pG) (j:Nat) (u:Nat→Value):Prop:=match l with| []=>True|(i,ds,p)::r=>if j=i then p (ds.map u) (u j) else Al r j u
def El (ops:Array Oper):List pG→Bool| []=>true|(i,ds,_)::r=>ds.all (fun d=>jz ops i d)&&El ops r
theorem rv {ops:Array Oper}:∀(l:List pG),El ops l=true→∀j i u v,Al l j u→i≠j→jz ops j i=false→Al l j (jd u i v)
 | [],_,_,_,_,_,_,_,_=>trivial
 |(k,ds,p)::r,h,j,i,u,v,hp,hij,hw=>by
  simp only[El,Bool.and_eq_true] at h;unfold Al at hp ⊢;split
  ·rename_i hjk
   rw[if_pos hjk] at hp;have h1:jd u i v j=u j:=by simp[jd,Ne.symm hij]
   have b:ds.map (jd u i v)=ds.map u:=List.map_congr_left fun d c=>by
    have a:=List.all_eq_true.1 h.1 d c;have:d≠i:=fun e=>by subst e;subst hjk;rw[hw] at a;cases a
    simp[jd,this]
   rw[h1,b];exact hp
  ·rename_i hjk
   rw[if_neg hjk] at hp;exact rv r h.2 j i u v hp hij hw
abbrev ow:=Nat×List Nat×(List Value→Value→World→(Nat→Prop)→Prop)
def NL (l:List ow) (j:Nat) (u:Nat→Value) (w:World) (F:Nat→Prop):Prop:=match l with| []=>True|(i,ds,p)::r=>if j=i then p (ds.map u) (u j) w F else NL r j u w F
def Ek (ops:Array Oper):List ow→Bool| []=>true|(i,ds,_)::r=>ds.all (fun d=>jz ops i d)&&Ek ops r
theorem tM {ops:Array Oper}:∀(l:List ow),Ek ops l=true→∀j i u v w F,NL l j u w F→i≠j→jz ops j i=false→NL l j (jd u i v) w F
 | [],_,_,_,_,_,_,_,_,_,_=>trivial
 |(k,ds,p)::r,h,j,i,u,v,w,F,hp,hij,hw=>by
  simp only[Ek,Bool.and_eq_true] at h;unfold NL at hp ⊢;split
  ·rename_i hjk
   rw[if_pos hjk] at hp;have h1:jd u i v j=u j:=by simp[jd,Ne.symm hij]
   have b:ds.map (jd u i v)=ds.map u:=List.map_congr_left fun d c=>by
    have a:=List.all_eq_true.1 h.1 d c;have:d≠i:=fun e=>by subst e;subst hjk;rw[hw] at a;cases a
    simp[jd,this]
   rw[h1,b];exact hp
  ·rename_i hjk
   rw[if_neg hjk] at hp;exact tM r h.2 j i u v w F hp hij hw
def Ej (p:List Value→Value→World→(Nat→Prop)→Prop):Prop:=∀ds v w w' F,p ds v w F→(∀k,F k→w'.heap[k]? =w.heap[k]?)→p ds v w' F
def rt:List ow→Prop| []=>True|p::r=>Ej p.2.2∧rt r
theorem ru:∀(l:List ow),rt l→∀j u w w' F,NL l j u w F→(∀k,F k→w'.heap[k]? =w.heap[k]?)→NL l j u w' F
 | [],_,_,_,_,_,_,_,_=>trivial
 |(i,ds,p)::r,hl,j,u,w,w',F,h,hm=>by
  unfold NL at h ⊢;split
  ·rename_i hj;rw[if_pos hj] at h;exact hl.1 _ _ w w' F h hm
  ·rename_i hj;rw[if_neg hj] at h;exact ru r hl.2 j u w w' F h hm
theorem qg {w:World} {g n:Nat} {cs:Array Value} {t:TypeId} (h:w.heap[g]? =some (.cells cs t (0,0))) (hn:n≤cs.size):w.there g 0 n:=fun i hi=>by
 have hlt:i<cs.size:=fT;exact⟨by simp[World.cell?,h,hlt],by simp[World.frozen?,h]⟩
section
variable {P:Program} {o:Oper} {a:Act} {w:World} {K:Act→World→Prop} {Q:Exit→Act→World→Prop}
theorem DW {x:Operand} (ho:o.op= .move x∨o.op= .assign x) (h:K (a.put o.dst (a.eval x)) w):o.wp P a w K Q:=by
 unfold Oper.wp execOp;rcases ho with ho|ho
 all_goals
  simp only[ho,Sem.run_pure];exact h
theorem mo {x:Operand} {n:Nat} {vs:Array Value} {v:Value} (ho:o.op= .extract x n) (hx:a.eval x= .tuple vs) (hv:vs[n]? =some v) (h:K (a.put o.dst v) w):o.wp P a w K Q:=by
 unfold Oper.wp execOp;simp only[ho,hx,Instr.extract,hv,Sem.run_bind,Sem.run_pure,Result.andThen_ok];exact h
end
def yi (k:Nat):List (Nat×Option Tmp)→Bool| []=>true|p::r=>p.2 !=some k&&yi k r
def Ev (k i:Nat):List (Nat×Option Tmp)→Bool| []=>false|p::r=>if p.2==some k then p.1==i&&yi k r else Ev k i r
theorem zD (a:Act) (d:Option Tmp) (v:Value) (k:Nat) (h:d≠some k):(a.put d v).tmps[k]? =a.tmps[k]? :=by
 cases d with
 |none=>rfl
 |some d=>
  simp only[Act.put];rw[Array.getElem?_setIfInBounds_ne (fun e=>h (by rw[e]))]
theorem oH {k:Nat}:∀(dl:List (Nat×Option Tmp)) (a:Act) (u:Nat→Value),yi k dl=true→(iX dl a u).tmps[k]? =a.tmps[k]?
 | [],_,_,_=>rfl
 |(i,d)::r,a,u,h=>by
  simp only[yi,Bool.and_eq_true,bne_iff_ne] at h;rw[jf,oH r _ u h.2,zD _ _ _ _ h.1]
theorem Cx (a:Act) (d:Option Tmp) (v:Value):(a.put d v).tmps.size=a.tmps.size:=by
 cases d with
 |none=>rfl
 |some d=>simp[Act.put]
theorem ji {k i:Nat}:∀(dl:List (Nat×Option Tmp)) (a:Act) (u:Nat→Value),Ev k i dl=true→k<a.tmps.size→(iX dl a u).tmps[k]? =some (u i)
 | [],_,_,h,_=>by cases h
 |(j,d)::r,a,u,h,hk=>by
  unfold Ev at h;split at h
  ·rename_i hd
   simp only[Bool.and_eq_true,beq_iff_eq] at h hd;rw[jf,oH r _ u h.2];subst hd;rw[h.1];simp only[Act.put];rw[Array.getElem?_setIfInBounds_self_of_lt hk]
  ·rw[jf,ji r _ u h (by rw[Cx];exact hk)]
theorem kC {a:Act} {k:Nat} {v:Value} (h:a.tmps[k]? =some v):a.eval (.tmp k)=v:=by
 show a.tmps.getD k undef=v;rw[Array.getD_eq_getD_getElem?,h];rfl
theorem EU {P:Program} {ops:Array Oper} {Q:Exit→Act→World→Prop} {S:World→Prop} {r:Pz} {a:Act} {w:World} (h:∀a0,a0=a→tx P ops Q S r a0 w):tx P ops Q S r a w:=h a rfl
theorem oL {P:Program} {o:Oper} {a:Act} {w:World} {K:Act→World→Prop} {Q:Exit→Act→World→Prop} {x:Operand} {v:Value} (ho:o.op= .move x∨o.op= .assign x) (hx:a.eval x=v) (h:K (a.put o.dst v) w):o.wp P a w K Q:=by
 subst hx;exact DW ho h
theorem Ow.chApart {α β:Type} {d:Ty α} {e e':TypeId} {cells:β→List Value} {sz:Nat} {hl:∀x,(cells x).length=sz} {ho:∀x,∀u∈cells x,u.oneCell' =true} {w w8:World} {F F':Nat→Prop} {v v':Value} {xs:List α} {ys:List β} {g:Nat}
  (h:Ow d e w F v xs) (hg:v.ownBlock=some g) (h':Ow (kx cells sz hl ho) e' w F' v' ys) (hne:e≠e') (hC:Ch (fun k=>k=g) w w8):Ow (kx cells sz hl ho) e' w8 F' v' ys:=
 (h'.tight.ch hC (fun k hk e1=>h.apart h' hne g hg (e1▸hk))).mono (fun k hk=>h'.inF hk)
theorem Ow.blkApart {α:Type} {d:Ty α} {e t:TypeId} {w w8:World} {F:Nat→Prop} {v:Value} {xs:List α} {g k:Nat} {cs:Array Value} {fr:Nat×Nat}
  (h:Ow d e w F v xs) (hg:v.ownBlock=some g) (hne:e≠t) (hk:w.heap[k]? =some (.cells cs t fr)) (hC:Ch (fun k=>k=g) w w8):w8.heap[k]? =some (.cells cs t fr):=
 hC.heap hk (fun e1=>h.type_ne hk hne (by rw[e1];exact hg))
theorem lQ {W w1:World} {B:Nat} {v:Value} (hb:Below B W W) (hG:W.grownBy w1 v.ownBlock) (hv:∀k,v.ownBlock=some k→B≤k) (hB:B≤W.heap.size):Below B W w1:=
 ⟨hG.os,hG.tape,hG.output,hG.size,fun k hk=>hG.block k fT (fun e=>by have:=hv k e.symm;omega)⟩
end
theorem qo {k:Nat} {dl:List (Nat×Option Tmp)} {a:Act} {u:Nat→Value} {v:Value} (h:a.tmps[k]? =some v) (hx:yi k dl=true:=by rfl):(iX dl a u).tmps[k]? =some v:=(oH dl a u hx).trans h
theorem tV {w:World} {s:Nat} {t:TypeId} {a b c:Value} (h:w.heap[s]? =some (.cells #[a,b,c] t (0,0))):
  w.cell? ⟨s,0,none⟩=some a∧w.cell? ⟨s,1,none⟩=some b∧w.cell? ⟨s,2,none⟩=some c∧∀i,w.frozen? ⟨s,i,none⟩=false:=
 ⟨fw h 0,fw h 1,fw h 2,ft h⟩
theorem CD {w1:World} {s:Nat} {t:TypeId} {z0 z1 z2:Value} (hb:w1.heap[s]? =some (.cells #[z0,z1,z2] t (0,0))) (a b c:Value):
  (((w1.setCell ⟨s,0,none⟩ a).setCell ⟨s,1,none⟩ b).setCell ⟨s,2,none⟩ c).heap[s]? =some (.cells #[a,b,c] t (0,0)):=
 gJ (gJ (gJ hb 0 _) 1 _) 2 _
def Ft (s:ll):Value:= .agg #[s.x,s.y,s.c]
def EW (w:World) (q:Ending) (w':World):Prop:=
 ∃(v:Value) (a:iy) (s:ll) (e:hY),q= .returned (.tuple #[.agg #[v],Ft s,ij e])∧Rd kT w' (fun k=>w.heap.size≤k) v a.rules∧a.rules.length≤4∧(0≤s.c∧s.c≤12)∧Below w.heap.size w w'
section
abbrev Ea:=World→(Nat→Prop)→Prop
structure FJ (P:Ea):Prop where
 keep:∀{w w' F},P w F→(∀k,F k→k<w.heap.size→w'.heap[k]? =w.heap[k]?)→P w' F
 mono:∀{w F F'},(∀k,F k→F' k)→P w F→P w F'
 bound:∀{w F},P w F→P w (fun k=>F k∧k<w.heap.size)
structure tA where
 says:Ea
 good:FJ says
def ju {α:Type} (d:Ty α) (e:TypeId) (v:Value) (xs:List α):tA:=⟨fun w F=>Ow d e w F v xs,fun h hm=>h.keep hm,fun hF h=>h.mono hF,fun h=>h.bound⟩
def ml (g:Nat) (cs:Array Value) (t:TypeId):tA:=⟨fun w F=>F g∧w.heap[g]? =some (.cells cs t (0,0)),fun h hm=>⟨h.1,(hm g h.1 (fx h.2)).trans h.2⟩,fun hF h=>⟨hF g h.1,h.2⟩,fun h=>⟨⟨h.1,fx h.2⟩,h.2⟩⟩
def jy (w:World) (F:Nat→Prop) (ps:List tA):Prop:=∃col:Nat→Nat,∀(i:Nat) (p:tA),ps[i]? =some p→p.says w (fun k=>F k∧k<w.heap.size∧col k=i)
section
variable {w w':World} {F F':Nat→Prop} {ps:List tA}
theorem jy.nil (w:World) (F:Nat→Prop):jy w F []:=⟨fun _=>0,fun i p h=>by simp at h⟩
theorem jy.mono (hF:∀k,F k→F' k) (h:jy w F ps):jy w F' ps:=by
 obtain⟨a,h⟩:=h;exact⟨a,fun i p c=>p.good.mono (fun k b=>⟨hF k b.1,b.2⟩) (h i p c)⟩
theorem jy.get (h:jy w F ps) (i:Nat) {p:tA} (hp:ps[i]? =some p):p.says w F:=by
 obtain⟨b,h⟩:=h;exact p.good.mono (fun k a=>a.1) (h i p hp)
theorem jy.keep (h:jy w F ps) (hs:w.heap.size≤w'.heap.size) (hm:∀k,F k→k<w.heap.size→w'.heap[k]? =w.heap[k]?):jy w' F ps:=by
 obtain⟨b,h⟩:=h;exact⟨b,fun i p d=>p.good.mono (fun k a=>⟨a.1,sF a.2.1 hs,a.2.2⟩) (p.good.keep (h i p d) (fun k a c=>hm k a.1 c))⟩
theorem jy.below (h:jy w F ps) (hb:Below w.heap.size w w'):jy w' F ps:=h.keep hb.size fun k _ hk=>hb.block k hk
theorem jy.ch {S:Nat→Prop} (h:jy w F ps) (hc:Ch S w w') (hS:∀k,F k→¬S k):jy w' F ps:=h.keep hc.size fun k hk hlt=>hc.block k hlt (hS k hk)
theorem jy.add {p:tA} (h:jy w F ps) (hb:Below w.heap.size w w') (hp:p.says w' (fun k=>w.heap.size≤k)) (hF:∀k,F k→F' k) (hn:∀k,w.heap.size≤k→F' k):jy w' F' (ps++[p]):=by
 obtain⟨b,h⟩:=h;refine⟨fun k=>if k<w.heap.size then b k else ps.length,fun i q hq=>?_⟩;by_cases hi:i<ps.length
 ·rw[List.getElem?_append_left hi] at hq
  refine q.good.mono (fun k a=>?_) (q.good.keep (h i q hq) fun k _ a=>hb.block k a);exact⟨hF k a.1,sF a.2.1 hb.size,(if_pos a.2.1).trans a.2.2⟩
 ·rw[List.getElem?_append_right fT] at hq
  have c:i-ps.length=0:=by
   have:=(List.getElem?_eq_some_iff.1 hq).1;simpa using this
  rw[c] at hq;simp only[List.getElem?_cons_zero,Option.some.injEq] at hq;subst hq;refine p.good.mono (fun k a=>?_) (p.good.bound hp);exact⟨hn k a.1,a.2,(if_neg (Nat.not_lt.2 a.1)).trans fT⟩
theorem jy.step (h:jy w F ps) (i:Nat) {p:tA} (hp:ps[i]? =some p):
  ∃Fi:Nat→Prop,p.says w Fi∧(∀k,Fi k→F k∧k<w.heap.size)∧
   (∀(j:Nat) (q:tA),j≠i→ps[j]? =some q→∃Fj:Nat→Prop,q.says w Fj∧(∀k,Fj k→F k∧k<w.heap.size∧¬Fi k))∧
   ∀(w':World) (p':tA) (F':Nat→Prop),Ch Fi w w'→p'.says w' (fun k=>Fi k∨w.heap.size≤k)→(∀k,F k→F' k)→(∀k,w.heap.size≤k→F' k)→jy w' F' (ps.set i p'):=by
 obtain⟨d,h⟩:=h;refine⟨_,h i p hp,fun k a=>⟨a.1,a.2.1⟩,fun j q b hq=>⟨_,h j q hq,fun k a=>⟨a.1,a.2.1,fun c=>b (a.2.2.symm.trans c.2.2)⟩⟩,fun w' p' F' e l hF m=>⟨fun k=>if k<w.heap.size then d k else i,fun j q hq=>?_⟩⟩;by_cases b:i=j
 ·subst b
  rw[List.getElem?_set_self (List.getElem?_eq_some_iff.1 hp).1] at hq;cases hq;refine p'.good.mono (fun k a=>?_) (p'.good.bound l);rcases a with ⟨a|a,f⟩
  ·exact⟨hF k a.1,f,(if_pos a.2.1).trans a.2.2⟩
  ·exact⟨m k a,f,if_neg (Nat.not_lt.2 a)⟩
 ·rw[List.getElem?_set_ne b] at hq
  refine q.good.mono (fun k a=>?_) (q.good.keep (h j q hq) fun k a g=>e.block k g (fun c=>b (c.2.2.symm.trans a.2.2)));exact⟨hF k a.1,sF a.2.1 e.size,(if_pos a.2.1).trans a.2.2⟩
theorem jy.of (Fs:Nat→Nat→Prop) (hF:∀i k,Fs i k→F k) (hd:∀i j k,i<ps.length→j<ps.length→i≠j→Fs i k→Fs j k→False) (h:∀(i:Nat) (p:tA),ps[i]? =some p→p.says w (Fs i)):jy w F ps:=by
 classical
 refine⟨fun k=>if a:∃i,i<ps.length∧Fs i k then Classical.choose a else ps.length,fun i p e=>?_⟩;refine p.good.mono (fun k a=>⟨hF i k a.1,a.2,?_⟩) (p.good.bound (h i p e));have c:=(List.getElem?_eq_some_iff.1 e).1;have f:∃i,i<ps.length∧Fs i k:=⟨i,c,a.1⟩;refine(dif_pos f).trans ?_;have b:=Classical.choose_spec f;exact Classical.byContradiction fun d=>hd _ _ k b.1 c d b.2 a.1
theorem jy.turn (h:jy w F ps) (i:Nat) {p:tA} (hp:ps[i]? =some p) (p':tA) (hi:∀F,p.says w F→p'.says w F):jy w F (ps.set i p'):=by
 obtain⟨a,h⟩:=h;refine⟨a,fun j q hq=>?_⟩;by_cases hj:i=j
 ·subst hj
  rw[List.getElem?_set_self (List.getElem?_eq_some_iff.1 hp).1] at hq;cases hq;exact hi _ (h i p hp)
 ·rw[List.getElem?_set_ne hj] at hq
  exact h j q hq
theorem jy.pick (h:jy w F ps) (js:List Nat) (hn:js.Nodup) (qs:List tA) (hq:∀(i:Nat) (p:tA),qs[i]? =some p→∃j,js[i]? =some j∧ps[j]? =some p):jy w F qs:=by
 obtain⟨a,h⟩:=h;refine⟨fun k=>js.idxOf (a k),fun i p f=>?_⟩;obtain⟨j,e,c⟩:=hq i p f;obtain⟨d,rfl⟩:=List.getElem?_eq_some_iff.1 e;exact p.good.mono (fun k b=>⟨b.1,b.2.1,by show js.idxOf (a k)=i;rw[b.2.2];exact hn.idxOf_getElem i d⟩) (h _ p c)
theorem jy.store {g:Nat} {cs:Array Value} {t:TypeId} (h:jy w F (ml g cs t::ps)) (hn:∀k,w.heap.size≤k→F k) (i:Nat) (u:Value):jy (w.setCell ⟨g,i,none⟩ u) F (ml g (cs.setIfInBounds i u) t::ps):=by
 obtain⟨d,b,-,-,c⟩:=h.step 0 rfl;exact c _ (ml g (cs.setIfInBounds i u) t) F (Ch.setCell (p:=⟨g,i,none⟩) (Ch.refl _ _) (Or.inl b.1) u) ⟨.inl b.1,gJ b.2 i u⟩ (fun _ h=>h) hn
theorem jy.cons {p:tA} (h:jy w F ps) (hb:Below w.heap.size w w') (hp:p.says w' (fun k=>w.heap.size≤k)) (hF:∀k,F k→F' k) (hn:∀k,w.heap.size≤k→F' k):jy w' F' (p::ps):=
 (h.add hb hp hF hn).pick (ps.length::List.range ps.length) (by simp[List.nodup_range]) _ fun i q hq=>by
  cases i with
  |zero=>exact⟨ps.length,rfl,by simpa using hq⟩
  |succ i=>
   have hl:i<ps.length:=(List.getElem?_eq_some_iff.1 (by simpa using hq)).1;exact⟨i,by simp[hl],by rw[List.getElem?_append_left hl];simpa using hq⟩
def FB:tA:=⟨fun _ _=>True,fun _ _=>trivial,fun _ _=>trivial,fun _=>trivial⟩
theorem jy.join {qs:List tA} (h:jy w F ps) (hb:Below w.heap.size w w') (hq:jy w' (fun k=>w.heap.size≤k) qs) (hF:∀k,F k→F' k) (hn:∀k,w.heap.size≤k→F' k):jy w' F' (ps++qs):=by
 obtain⟨d,h⟩:=h;obtain⟨c,hq⟩:=hq;refine⟨fun k=>if k<w.heap.size then d k else ps.length+c k,fun i q b=>?_⟩;by_cases hl:i<ps.length
 ·rw[List.getElem?_append_left hl] at b
  refine q.good.mono (fun k a=>?_) (q.good.keep (h i q b) fun k _ a=>hb.block k a);exact⟨hF k a.1,sF a.2.1 hb.size,(if_pos a.2.1).trans a.2.2⟩
 ·rw[List.getElem?_append_right fT] at b
  refine q.good.mono (fun k a=>?_) (hq _ q b);exact⟨hn k a.1,a.2.1,(if_neg (Nat.not_lt.2 a.1)).trans (by rw[a.2.2];omega)⟩
end
end
section
open Go.ChangeShapes Go.WideShapes Go.ChangeAt Go.RowKit
theorem BT (os:Os) (args:Array Value):laidMetH Tryz.prog Rows.fnExactTideOverRow.laid ((World.doorLaid Tryz.prog 123 os).forCall (fun _ _=>0) ⟨#[],args,[]⟩).memory:=
 laidMetH_of_parts3 (fuel:=8) (laidMet_of_run' 8 gY gY) gY gY
end
end Go.Proofs.YtlndjfflhegkdaaGreatDoor
