/- Parts of the proof: SimW, Imp12, Ez8. -/
import Derived.Test.YtlndjfflhegkdaaGreatDoorQ12
set_option linter.unusedVariables false
set_option linter.unusedSimpArgs false
set_option linter.unusedSectionVars false
set_option maxHeartbeats 4000000
namespace Go.Proofs.YtlndjfflhegkdaaGreatDoor
open Go.RowKit
section
theorem tD:(Tryz.prog.info? 127).map (fun i=>(i.zero,i.size,i.bytes))=some (some (.agg #[.int .i64 0,.int .i64 0,.int .i64 0]),3,24):=gY
abbrev xb:=Value→World→(Nat→Prop)→Prop
def NN (l:List (Nat×xb)) (j:Nat) (v:Value) (w:World) (F:Nat→Prop):Prop:=match l with| []=>True|(i,p)::r=>if j=i then p v w F else NN r j v w F
def D8 (p:xb):Prop:=∀v w w' F,p v w F→(∀k,F k→w'.heap[k]? =w.heap[k]?)→p v w' F
def BE:List (Nat×xb)→Prop| []=>True|p::r=>D8 p.2∧BE r
theorem tz:∀(l:List (Nat×xb)),BE l→∀j v w w' F,NN l j v w F→(∀k,F k→w'.heap[k]? =w.heap[k]?)→NN l j v w' F
 | [],_,_,_,_,_,_,_,_=>trivial
 |(i,p)::r,hl,j,v,w,w',F,h,hm=>by
  unfold NN at h ⊢;split
  ·rename_i hj;rw[if_pos hj] at h;exact hl.1 v w w' F h hm
  ·rename_i hj;rw[if_neg hj] at h;exact tz r hl.2 j v w w' F h hm
def sK {α:Type} (d:Ty α) (e:TypeId) (xs:List α):xb:=fun v w F=>Ow d e w F v xs
theorem ki {α:Type} (d:Ty α) (e:TypeId) (xs:List α):D8 (sK d e xs):=fun v w w' F h hm=>Ow.move hm h
def Gd (p:Value→Prop):xb:=fun v _ _=>p v
structure my (w:World) (F:Nat→Prop) (vs vq vo:Value) (s:kq):Prop where
 st:Rd nB w F vs s.states
 qu:Rd iw w F vq s.queue
 ou:Rd hJ w F vo s.outs
structure lr (w:World) (F:Nat→Prop) (vs vq vo:Value) (s:kq):Prop where
 st:Ow nB 127 w F vs s.states
 qu:Ow iw 91 w F vq s.queue
 ou:Ow hJ 101 w F vo s.outs
section
variable {w w':World} {F F':Nat→Prop} {vs vq vo:Value} {s:kq}
theorem my.mono (h:my w F vs vq vo s) (hF:∀k,F k→F' k):my w F' vs vq vo s:=⟨h.st.mono hF,h.qu.mono hF,h.ou.mono hF⟩
theorem my.below (h:my w F vs vq vo s) (hb:Below w.heap.size w w'):my w' F vs vq vo s:=⟨h.st.below hb,h.qu.below hb,h.ou.below hb⟩
theorem lr.mono (h:lr w F vs vq vo s) (hF:∀k,F k→F' k):lr w F' vs vq vo s:=⟨h.st.mono hF,h.qu.mono hF,h.ou.mono hF⟩
theorem lr.below (h:lr w F vs vq vo s) (hb:Below w.heap.size w w'):lr w' F vs vq vo s:=⟨h.st.below hb,h.qu.below hb,h.ou.below hb⟩
theorem lr.rd (h:lr w F vs vq vo s):my w F vs vq vo s:=⟨h.st.rd,h.qu.rd,h.ou.rd⟩
end
theorem mg {α:Type} {cells:α→List Value} {sz:Nat} {hl:∀x,(cells x).length=sz} {ho:∀x,∀u∈cells x,u.oneCell' =true} {e:TypeId} {W w1:World} {F G:Nat→Prop} {v v1:Value} {xs ys:List α}
  (HO:Ow (kx cells sz hl ho) e W F v xs) (hO1:Ow (kx cells sz hl ho) e w1 G v1 ys) (hG1:W.grownBy w1 v.ownBlock) (hat1:v1.ownBlock=v.ownBlock∨∃b,v1.ownBlock=some b∧W.heap.size≤b):
  Ch F W w1∧Ow (kx cells sz hl ho) e w1 (fun k=>v1.ownBlock=some k) v1 ys∧∀k,v1.ownBlock=some k→(F k∨W.heap.size≤k)∧k<w1.heap.size:=by
 refine⟨(Ch.refl _ _).grown hG1 fun k c=> .inl (HO.inF c),hO1.tight,fun k c=>⟨?_,hO1.block_lt c⟩⟩;rcases hat1 with h|⟨b,f,d⟩
 ·exact .inl (HO.inF (h▸c))
 ·rw[f] at c;cases c;exact .inr d
theorem Rd.dropO {α:Type} {d:Ty α} {w:World} {F:Nat→Prop} {xs:List α} {A:Option Addr} {n c:Nat} (h:Rd d w F (.slice A n c) xs) (k:Nat) (hk:k≤xs.length):Rd d w F (.slice (if c=k then A else A.map fun x=>x.add (k*d.sz)) (n-k) (c-k)) (xs.drop k):=by
 obtain⟨v,y,p,z,B,g⟩:=h;injection p with e1 e2 e3;subst e1 e2 e3;have r:(xs.drop k).length=xs.length-k:=by simp
 refine⟨_,c-k,by rw[r],fT,fT,fun C=>?_⟩;obtain⟨b,o,rfl,l,e,m⟩:=g fT;rw[if_neg fT];refine⟨b,o+k*d.sz,by simp[Addr.add],l,e,fun j x a=>?_⟩;rw[List.getElem?_drop] at a;obtain⟨f,s,t⟩:=m (k+j) x a;refine⟨f,s,fun i u q=>?_⟩;have:=t i u q;rw[Nat.add_mul,←Nat.add_assoc] at this;exact this
theorem Rd.capLe {α:Type} {d:Ty α} {w:World} {F:Nat→Prop} {xs:List α} {A:Option Addr} {n c:Nat} (h:Rd d w F (.slice A n c) xs):xs.length≤c:=by
 obtain⟨b,e,a,f,g,i⟩:=h;injection a with e1 e2 e3;omega
theorem Rd.shape {α:Type} {d:Ty α} {w:World} {F:Nat→Prop} {v:Value} {xs:List α} (h:Rd d w F v xs):∃A c,v= .slice A xs.length c∧xs.length≤9223372036854775807:=by
 obtain⟨A,c,rfl,_,a,_⟩:=h;exact⟨A,c,rfl,a⟩
theorem i8 {w w1:World} {g:Nat} {us uq uo vs vq vo:Value} {s:kq} {B:Nat} {fr:Nat×Nat} (h:w1.heap[g]? =some (.cells #[us,uq,uo] 51 fr)) (n:lr w1 (fun k=>B≤k) vs vq vo s) (hg:w.heap.size≤g) (hb:Below w.heap.size w w1) (v1 v2 v3:Value) (e1:v1=vs) (e2:v2=vq) (e3:v3=vo):
  (((w1.setCell ⟨g,0,none⟩ v1).setCell ⟨g,1,none⟩ v2).setCell ⟨g,2,none⟩ v3).heap[g]? =some (.cells #[v1,v2,v3] 51 fr)∧lr (((w1.setCell ⟨g,0,none⟩ v1).setCell ⟨g,1,none⟩ v2).setCell ⟨g,2,none⟩ v3) (fun k=>B≤k) v1 v2 v3 s∧Below w.heap.size w (((w1.setCell ⟨g,0,none⟩ v1).setCell ⟨g,1,none⟩ v2).setCell ⟨g,2,none⟩ v3):=by
 subst e1 e2 e3;have b:=gJ h 0 v1;have c:=gJ b 1 v2;have d:=gJ c 2 v3;refine⟨by simpa using d,⟨?_,?_,?_⟩,?_⟩
 ·exact((n.st.setCell h dc v1).setCell b dc v2).setCell c dc v3
 ·exact((n.qu.setCell h dc v1).setCell b dc v2).setCell c dc v3
 ·exact((n.ou.setCell h dc v1).setCell b dc v2).setCell c dc v3
 ·exact((hb.setCell (p:=⟨g,0,none⟩) hg v1).setCell (p:=⟨g,1,none⟩) hg v2).setCell (p:=⟨g,2,none⟩) hg v3
end
set_option maxRecDepth 100000
theorem Ow.fresh {α:Type} {d:Ty α} {e:TypeId} {w:World} {F:Nat→Prop} {g c:Nat} {cur:Array Value} (h:w.heap[g]? =some (.cells cur e (0,0))) (hc:cur.size=c*d.sz) (hm:c≤9223372036854775807) (hF:F g):Ow d e w F (.slice (some ⟨g,0,none⟩) 0 c) []:=
 ⟨[],fun _ _=>False,⟨by simp,.inr ⟨g,c,cur,rfl,j8 _,h,j8 _,by unfold maxLen;omega,hc,by simp⟩⟩,fun g hg=>by simp[Value.ownBlock] at hg;subst hg;exact hF,fun _ _ h=>h.elim,fun _ _ _ _ h=>h.elim,fun j x hj=>by simp at hj⟩
theorem Cf (n:Nat) (w:World) (hn:n≤4000):
  Calls Tryz.prog 135 #[.slice none 0 0,.int .i64 n] w fun q w' =>∃u,q= .returned u∧Ow iw 91 w' (fun k=>w.heap.size≤k) u []∧Below w.heap.size w w':=by
 by_cases h0:n=0
 ·subst h0
  go_enter Tryz.func135,Tryz.ntmps135;go_wp2_with fail;go_ret;exact⟨_,rfl,Ow.nil _ _ _ _,gM _ _⟩
 ·have d:0<n:=fT
  have r:decide ((n:Int)>0)=true:=iW fT;have s:decide (0<n)=true:=iW d;have t:decide ((n:Int)<0)=false:=ia fT;obtain⟨i,m,f,g,j⟩:=info_parts jA;have p:=grownCap_ge w n 0 91;have b:=grownCap_le_maxLen w n 0 91 (by unfold maxLen;omega);unfold maxLen at b;have a:=Lib.run_append_nil_zeros (P:=Tryz.prog) w 49 3 49 91 i _ .i64 .i64 Tryz.underlying49 Tryz.underlying3 m f n d (by rw[g];decide) fT (by rw[j];omega);have e:(Builtin.zeroCells (Value.agg #[.int .i64 0,.int .i64 0,.int .i64 0,.int .i64 0,.int .i64 0,.int .i64 0,.int .i64 0]).cells n++Builtin.zeroCells (Value.agg #[.int .i64 0,.int .i64 0,.int .i64 0,.int .i64 0,.int .i64 0,.int .i64 0,.int .i64 0]).cells (grownCap w n 0 91-n)).size=grownCap w n 0 91*7:=by
   rw[Array.size_append,size_zeroCells,size_zeroCells];show n*7+(grownCap w n 0 91-n)*7=_;rw[←Nat.add_mul];congr 1;omega
  generalize grownCap w n 0 91=c at*;generalize Builtin.zeroCells (Value.agg #[.int .i64 0,.int .i64 0,.int .i64 0,.int .i64 0,.int .i64 0,.int .i64 0,.int .i64 0]).cells n++Builtin.zeroCells (Value.agg #[.int .i64 0,.int .i64 0,.int .i64 0,.int .i64 0,.int .i64 0,.int .i64 0,.int .i64 0]).cells (c-n)=o at*;have v:(0:Int)≤(c:Int):=fT;have x:¬c=0:=fT;have l:=fS a;clear a h0;go_enter Tryz.func135,Tryz.ntmps135;go_wp2_with (at_builtin;refine Lib.wpList_append_run _ rfl _ _ _ _ rfl _ _ rfl rfl _ _ l.out ?_);go_ret;exact⟨_,rfl,Ow.fresh (gL rfl) e fT (jn _),(gM _ w).drew.alloc (jn _) _⟩
theorem zi (b o c:Nat) (v1 v2:Value) (xs ys:List hY) (F:Nat→Prop) (w:World) (h1:Rd iw w F v1 xs) (h2:Rd iw w F v2 ys) (hb:b<w.heap.size) (c1:w.cell? ⟨b,o,none⟩=some v1) (c2:w.cell? ⟨b,o+1,none⟩=some v2) (l1:xs.length≤1000) (l2:ys.length≤1000):
  Calls Tryz.prog 93 #[.slice (some ⟨b,o,none⟩) 2 c] w fun q w' =>∃u,q= .returned u∧Ow iw 91 w' (fun k=>w.heap.size≤k) u (xs++ys)∧Below w.heap.size w w':=by
 obtain⟨D,G,rfl,T⟩:=h1.shape;obtain⟨E,H,rfl,U⟩:=h2.shape;go_enter Tryz.func93,Tryz.ntmps93;go_wp2_with fail
 go_loop [3,11] (fun s i=>∃(k:Nat) (m:Nat),i= .int .i64 k∧s= .int .i64 m∧k≤2∧Hid (m=((xs.length::ys.length::[]).take k).sum)∧m≤2000) (fun _ i=>2-(intOf i).toNat)
 case atStart=>exact⟨0,0,rfl,rfl,fT,rfl,fT⟩
 case round=>
  obtain⟨k,m,rfl,rfl,a,v,Q⟩:=hrel;by_cases hlt:k<2
  ·have R:∀n:Nat,decide ((m:Int)+(n:Int)<0)=false:=fun n=>ia fT
   have hk':k=0∨k=1:=fT;rcases hk' with rfl|rfl
   ·have j:=v.out
    simp at j;subst j;have O:decide ((xs.length:Int)<0)=false:=ia fT;have y:=fS (show xs.length=((xs.length::ys.length::[]).take 1).sum by simp);go_wp2_with fail
    go_round
    case rel=>exact⟨1,xs.length,by go_num,by first|rfl|go_num,fT,y,fT⟩
    case measure=>simp[intOf]
   ·have j:=v.out
    simp at j;subst j;have y:=fS (show xs.length+ys.length=((xs.length::ys.length::[]).take 2).sum by simp);have O:decide ((xs.length:Int)+(ys.length:Int)<0)=false:=ia fT;go_wp2_with fail
    go_round
    case rel=>exact⟨2,xs.length+ys.length,by go_num,by first|rfl|go_num,fT,y,fT⟩
    case measure=>simp[intOf]
  ·obtain rfl:k=2:=fT
   have j:=v.out;simp at j;subst j;clear v hlt a;go_wp2_with fail;refine(Cf (xs.length+ys.length) _ fT).mono ?_;rintro e L ⟨u5,rfl,x,g⟩;have A:=h1.below g;have B:=h2.below g;have I:L.cell? ⟨b,o,none⟩=some (.slice D xs.length G):=by rw[g.cell (p:=⟨b,o,none⟩) hb];exact c1
   have J:L.cell? ⟨b,o+1,none⟩=some (.slice E ys.length H):=by rw[g.cell (p:=⟨b,o+1,none⟩) hb];exact c2
   apply_assumption;go_wp2_with fail
   go_loopw [6,27] (fun u i wr=>∃k:Nat,i= .int .i64 k∧k≤2∧Ow iw 91 wr (fun k=>w.heap.size≤k) u (if k=0 then [] else if k=1 then xs else xs++ys)∧Below w.heap.size w wr) (fun _ i _=>2-(intOf i).toNat)
   case atStart=>exact⟨0,rfl,fT,x,g⟩
   case round=>
    clear A B I J x g;obtain⟨k,rfl,a,f,d⟩:=hrel;have A:=h1.below d;have B:=h2.below d;have I:wr.cell? ⟨b,o,none⟩=some (.slice D xs.length G):=by rw[d.cell (p:=⟨b,o,none⟩) hb];exact c1
    have J:wr.cell? ⟨b,o+1,none⟩=some (.slice E ys.length H):=by rw[d.cell (p:=⟨b,o+1,none⟩) hb];exact c2
    have M:=d.size;have hk':k=0∨k=1∨k=2:=fT;rcases hk' with rfl|rfl|rfl
    ·have f:Ow iw 91 wr (fun k=>w.heap.size≤k) _ []:=f
     go_wp2_with (at_builtin;refine jH rfl 49 rfl Tryz.underlying49 _ 56 jA rfl dc dc rfl f rfl A (by simp;omega) (fun k=>w.heap.size≤k) (fun _ a=>a) (fun k a=>fT) ?_;intro P C l r z);have t:Below w.heap.size w C:=((Ch.of_below (S:=fun k=>w.heap.size≤k) d).grown r (fun k a=> .inl (f.inF a))).below (fun k a=>a) (jn _);rw[List.nil_append] at l;go_roundw
     case rel=>exact⟨1,by go_num,fT,l,t⟩
     case measure=>simp[intOf]
    ·have f:Ow iw 91 wr (fun k=>w.heap.size≤k) _ xs:=f
     go_wp2_with (at_builtin;refine jH rfl 49 rfl Tryz.underlying49 _ 56 jA rfl dc dc rfl f rfl B fT (fun k=>w.heap.size≤k) (fun _ a=>a) (fun k a=>fT) ?_;intro P C l r z);have t:Below w.heap.size w C:=((Ch.of_below (S:=fun k=>w.heap.size≤k) d).grown r (fun k a=> .inl (f.inF a))).below (fun k a=>a) (jn _);go_roundw
     case rel=>exact⟨2,by go_num,fT,l,t⟩
     case measure=>simp[intOf]
    ·have f:Ow iw 91 wr (fun k=>w.heap.size≤k) _ (xs++ys):=f
     go_wp2_with fail;go_ret;exact⟨_,rfl,f,d⟩
theorem AM (n:Nat) (w:World) (hn:n≤4000):
  Calls Tryz.prog 138 #[.slice none 0 0,.int .i64 n] w fun q w' =>∃u,q= .returned u∧Ow hJ 101 w' (fun k=>w.heap.size≤k) u []∧Below w.heap.size w w':=by
 by_cases h0:n=0
 ·subst h0
  go_enter Tryz.func138,Tryz.ntmps138;go_wp2_with fail;go_ret;exact⟨_,rfl,Ow.nil _ _ _ _,gM _ _⟩
 ·have d:0<n:=fT
  have r:decide ((n:Int)>0)=true:=iW fT;have s:decide (0<n)=true:=iW d;have t:decide ((n:Int)<0)=false:=ia fT;obtain⟨i,m,f,g,j⟩:=info_parts kz;have p:=grownCap_ge w n 0 101;have b:=grownCap_le_maxLen w n 0 101 (by unfold maxLen;omega);unfold maxLen at b;have a:=Lib.run_append_nil_zeros (P:=Tryz.prog) w 37 3 37 101 i _ .i64 .i64 Tryz.underlying37 Tryz.underlying3 m f n d (by rw[g];decide) fT (by rw[j];omega);have e:(Builtin.zeroCells (Value.agg #[.int .i64 0,.int .i64 0,.int .i64 0,.int .i64 0,.int .i64 0]).cells n++Builtin.zeroCells (Value.agg #[.int .i64 0,.int .i64 0,.int .i64 0,.int .i64 0,.int .i64 0]).cells (grownCap w n 0 101-n)).size=grownCap w n 0 101*5:=by
   rw[Array.size_append,size_zeroCells,size_zeroCells];show n*5+(grownCap w n 0 101-n)*5=_;rw[←Nat.add_mul];congr 1;omega
  generalize grownCap w n 0 101=c at*;generalize Builtin.zeroCells (Value.agg #[.int .i64 0,.int .i64 0,.int .i64 0,.int .i64 0,.int .i64 0]).cells n++Builtin.zeroCells (Value.agg #[.int .i64 0,.int .i64 0,.int .i64 0,.int .i64 0,.int .i64 0]).cells (c-n)=o at*;have v:(0:Int)≤(c:Int):=fT;have x:¬c=0:=fT;have l:=fS a;clear a h0;go_enter Tryz.func138,Tryz.ntmps138;go_wp2_with (at_builtin;refine Lib.wpList_append_run _ rfl _ _ _ _ rfl _ _ rfl rfl _ _ l.out ?_);go_ret;exact⟨_,rfl,Ow.fresh (gL rfl) e fT (jn _),(gM _ w).drew.alloc (jn _) _⟩
theorem yh (b o c:Nat) (v1 v2:Value) (xs ys:List ik) (F:Nat→Prop) (w:World) (h1:Rd hJ w F v1 xs) (h2:Rd hJ w F v2 ys) (hb:b<w.heap.size) (c1:w.cell? ⟨b,o,none⟩=some v1) (c2:w.cell? ⟨b,o+1,none⟩=some v2) (l1:xs.length≤1000) (l2:ys.length≤1000):
  Calls Tryz.prog 95 #[.slice (some ⟨b,o,none⟩) 2 c] w fun q w' =>∃u,q= .returned u∧Ow hJ 101 w' (fun k=>w.heap.size≤k) u (xs++ys)∧Below w.heap.size w w':=by
 obtain⟨D,G,rfl,T⟩:=h1.shape;obtain⟨E,H,rfl,U⟩:=h2.shape;go_enter Tryz.func95,Tryz.ntmps95;go_wp2_with fail
 go_loop [3,11] (fun s i=>∃(k:Nat) (m:Nat),i= .int .i64 k∧s= .int .i64 m∧k≤2∧Hid (m=((xs.length::ys.length::[]).take k).sum)∧m≤2000) (fun _ i=>2-(intOf i).toNat)
 case atStart=>exact⟨0,0,rfl,rfl,fT,rfl,fT⟩
 case round=>
  obtain⟨k,m,rfl,rfl,a,v,Q⟩:=hrel;by_cases hlt:k<2
  ·have R:∀n:Nat,decide ((m:Int)+(n:Int)<0)=false:=fun n=>ia fT
   have hk':k=0∨k=1:=fT;rcases hk' with rfl|rfl
   ·have j:=v.out
    simp at j;subst j;have O:decide ((xs.length:Int)<0)=false:=ia fT;have y:=fS (show xs.length=((xs.length::ys.length::[]).take 1).sum by simp);go_wp2_with fail
    go_round
    case rel=>exact⟨1,xs.length,by go_num,by first|rfl|go_num,fT,y,fT⟩
    case measure=>simp[intOf]
   ·have j:=v.out
    simp at j;subst j;have y:=fS (show xs.length+ys.length=((xs.length::ys.length::[]).take 2).sum by simp);have O:decide ((xs.length:Int)+(ys.length:Int)<0)=false:=ia fT;go_wp2_with fail
    go_round
    case rel=>exact⟨2,xs.length+ys.length,by go_num,by first|rfl|go_num,fT,y,fT⟩
    case measure=>simp[intOf]
  ·obtain rfl:k=2:=fT
   have j:=v.out;simp at j;subst j;clear v hlt a;go_wp2_with fail;refine(AM (xs.length+ys.length) _ fT).mono ?_;rintro e L ⟨u5,rfl,x,g⟩;have A:=h1.below g;have B:=h2.below g;have I:L.cell? ⟨b,o,none⟩=some (.slice D xs.length G):=by rw[g.cell (p:=⟨b,o,none⟩) hb];exact c1
   have J:L.cell? ⟨b,o+1,none⟩=some (.slice E ys.length H):=by rw[g.cell (p:=⟨b,o+1,none⟩) hb];exact c2
   apply_assumption;go_wp2_with fail
   go_loopw [6,27] (fun u i wr=>∃k:Nat,i= .int .i64 k∧k≤2∧Ow hJ 101 wr (fun k=>w.heap.size≤k) u (if k=0 then [] else if k=1 then xs else xs++ys)∧Below w.heap.size w wr) (fun _ i _=>2-(intOf i).toNat)
   case atStart=>exact⟨0,rfl,fT,x,g⟩
   case round=>
    clear A B I J x g;obtain⟨k,rfl,a,f,d⟩:=hrel;have A:=h1.below d;have B:=h2.below d;have I:wr.cell? ⟨b,o,none⟩=some (.slice D xs.length G):=by rw[d.cell (p:=⟨b,o,none⟩) hb];exact c1
    have J:wr.cell? ⟨b,o+1,none⟩=some (.slice E ys.length H):=by rw[d.cell (p:=⟨b,o+1,none⟩) hb];exact c2
    have M:=d.size;have hk':k=0∨k=1∨k=2:=fT;rcases hk' with rfl|rfl|rfl
    ·have f:Ow hJ 101 wr (fun k=>w.heap.size≤k) _ []:=f
     go_wp2_with (at_builtin;refine jH rfl 37 rfl Tryz.underlying37 _ 40 kz rfl dc dc rfl f rfl A (by simp;omega) (fun k=>w.heap.size≤k) (fun _ a=>a) (fun k a=>fT) ?_;intro P C l r z);have t:Below w.heap.size w C:=((Ch.of_below (S:=fun k=>w.heap.size≤k) d).grown r (fun k a=> .inl (f.inF a))).below (fun k a=>a) (jn _);rw[List.nil_append] at l;go_roundw
     case rel=>exact⟨1,by go_num,fT,l,t⟩
     case measure=>simp[intOf]
    ·have f:Ow hJ 101 wr (fun k=>w.heap.size≤k) _ xs:=f
     go_wp2_with (at_builtin;refine jH rfl 37 rfl Tryz.underlying37 _ 40 kz rfl dc dc rfl f rfl B fT (fun k=>w.heap.size≤k) (fun _ a=>a) (fun k a=>fT) ?_;intro P C l r z);have t:Below w.heap.size w C:=((Ch.of_below (S:=fun k=>w.heap.size≤k) d).grown r (fun k a=> .inl (f.inF a))).below (fun k a=>a) (jn _);go_roundw
     case rel=>exact⟨2,by go_num,fT,l,t⟩
     case measure=>simp[intOf]
    ·have f:Ow hJ 101 wr (fun k=>w.heap.size≤k) _ (xs++ys):=f
     go_wp2_with fail;go_ret;exact⟨_,rfl,f,d⟩
theorem zX {ps:List iP} {es:List hY} {k:Nat} (h1:k<ps.length) (h2:k<es.length) (he:ps[k].ev=es[k]):hZ (ps.drop k) (es.drop k)=hZ (ps.drop (k+1)) (es.drop (k+1))+1:=by
 rw[List.drop_eq_getElem_cons h1,List.drop_eq_getElem_cons h2,hZ,if_pos he]
theorem vf {ps:List iP} {es:List hY} {k:Nat} (h1:k<ps.length) (h2:k<es.length) (he:¬ps[k].ev=es[k]):hZ (ps.drop k) (es.drop k)=0:=by
 rw[List.drop_eq_getElem_cons h1,List.drop_eq_getElem_cons h2,hZ,if_neg he]
theorem uY {ps:List iP} {es:List hY} {k:Nat} (h:ps.length≤k):hZ (ps.drop k) (es.drop k)=0:=by
 rw[List.drop_eq_nil_of_le h];rfl
theorem uZ {ps:List iP} {es:List hY} {k:Nat} (h:es.length≤k):hZ (ps.drop k) (es.drop k)=0:=by
 rw[List.drop_eq_nil_of_le h];cases ps.drop k<;>rfl
theorem sC (l:il) (v vc:Value) (came:List hY) (F G:Nat→Prop) (w:World) (h:Rd kO w F v l.done) (hc:Rd iw w G vc came):
  Calls Tryz.prog 67 #[.agg #[l.proc,l.base.x,l.base.y,l.base.c,v],vc] w fun q w' =>q= .returned (.int .i64 (hZ l.done came:Nat))∧Below w.heap.size w w':=by
 obtain⟨A,c,rfl,-,S,-⟩:=id h;obtain⟨B,b,rfl,-,ac,-⟩:=id hc;obtain⟨W,hV,d,Z⟩:=nC w (.cells #[l.proc,l.base.x,l.base.y,l.base.c,.slice A l.done.length c] 130);go_enter Tryz.func67,Tryz.ntmps67;go_wp2_with fail;rw[hV.out];clear hV;replace hc:=hc.below d;replace h:=h.below d;have o:=fx Z
 go_loopw [5] (fun i wr=>∃k:Nat,i= .int .i64 k∧k≤l.done.length∧k≤came.length∧Hid (hZ l.done came=k+hZ (l.done.drop k) (came.drop k))∧Below W.heap.size W wr) (fun i _=>l.done.length-(intOf i).toNat)
 case atStart=>exact⟨0,rfl,j8 _,j8 _,fS sm,gM _ _⟩
 case round=>
  obtain⟨k,rfl,hk,ab,HS,e⟩:=hrel;have X:=fU d e d.size;have Q:=fu e o Z;have T:=h.below e;have n:=hc.below e;have c4:=mN Q;by_cases h1:k<l.done.length
  case neg=>
   have m:=fS (show hZ l.done came=k by have f:=HS.out;rw[uY fT] at f;omega);have p:decide ((k:Int)<(l.done.length:Int))=false:=ia fT;have V:decide (k<l.done.length)=false:=ia h1;clear h1;go_upto_region 2 with fail;refine kA [.rd [0,1,2,3,4,5,6,7,8,9,10,11,12,13,14,15,16,17,18,19,20,21]] [22,23] ?_;refine vL ?_;intro N hN;go_wp2_with fail;refine fV (hN _ ?_);clear hN N;refine vF ?_;have a:=e.drew;go_wp2_with fail;go_ret;exact⟨by rw[m.out];rfl,d.trans (a.mono d.size)⟩
  by_cases h2:k<came.length
  case neg=>
   have m:=fS (show hZ l.done came=k by have f:=HS.out;rw[uZ fT] at f;omega);have p:(k:Int)<(l.done.length:Int):=fT;have U:decide ((k:Int)<(came.length:Int))=false:=ia fT;have V:decide (k<came.length)=false:=ia h2;clear h2;go_upto_region 2 with fail;refine kA [.rd [0,1,2,3,4,5,6,7,8,9,10,11,12,13,14,15,16,17,18,19,20,21]] [22,23] ?_;refine vL ?_;intro N hN;go_wp2_with fail;refine fV (hN _ ?_);clear hN N;refine vF ?_;have a:=e.drew;go_wp2_with fail;go_ret;exact⟨by rw[m.out];rfl,d.trans (a.mono d.size)⟩
  have p:(k:Int)<(l.done.length:Int):=fT;have U:(k:Int)<(came.length:Int):=fT;obtain⟨b0,o0,A1,c1,A2,c2,rfl,Y,⟨r,s,t,u,z,C,D⟩,-,-,-,-,-⟩:=lM T k h1;obtain⟨b1,o1,rfl,aa,E,H,I,J,L,M,O⟩:=jC n k h2;by_cases he:l.done[k].ev=came[k]
  ·have P:=fS (show hZ l.done came=(k+1)+hZ (l.done.drop (k+1)) (came.drop (k+1)) by have f:=HS.out;rw[zX h1 h2 he] at f;omega)
   obtain⟨x,g⟩:∃x,l.done[k].ev=x:=⟨_,rfl⟩;obtain⟨y,j⟩:∃y,came[k]=y:=⟨_,rfl⟩;rw[g] at r s t u z C D;rw[j] at E H I J L M O;have R:decide (x=y)=true:=iW (by rw[←g,←j];exact he);clear g j he;go_upto_region 2 with fail;refine kA [.rd [0,1,2,3,4,5,6,7,8,9,10,11,12,13,14,15,16,17,18,19,20,21]] [22,23] ?_;refine vL ?_;intro N hN;go_wp2_with fail;refine fV (hN _ ?_);clear hN N;refine vF ?_;have a:=e.drew;go_wp2_with fail;go_roundw
   case rel=>exact⟨k+1,by go_num,fT,fT,P,a⟩
   case measure=>exact ms
  ·have m:=fS (show hZ l.done came=k by have f:=HS.out;rw[vf h1 h2 he] at f;omega)
   obtain⟨x,g⟩:∃x,l.done[k].ev=x:=⟨_,rfl⟩;obtain⟨y,j⟩:∃y,came[k]=y:=⟨_,rfl⟩;rw[g] at r s t u z C D;rw[j] at E H I J L M O;have R:decide (x=y)=false:=ia (by rw[←g,←j];exact he);clear g j he;go_upto_region 2 with fail;refine kA [.rd [0,1,2,3,4,5,6,7,8,9,10,11,12,13,14,15,16,17,18,19,20,21]] [22,23] ?_;refine vL ?_;intro N hN;go_wp2_with fail;refine fV (hN _ ?_);clear hN N;refine vF ?_;have a:=e.drew;go_wp2_with fail;go_ret;exact⟨by rw[m.out];rfl,d.trans (a.mono d.size)⟩
def Ed (l:il) (came:List hY):Option hY:=if jj l=true∧BQ l came=true then yt l came else none
def EY (l:il) (came:List hY) (w:World) (q:Ending) (w':World):Prop:=
 ∃(e:hY) (bl:Bool),q= .returned (.tuple #[.agg #[e.time,e.to,e.from_,e.count,e.n,e.kind,e.arg],.bool bl])∧(bl=true→Ed l came=some e)∧(bl=false→Ed l came=none)∧Below w.heap.size w w'
end Go.Proofs.YtlndjfflhegkdaaGreatDoor
