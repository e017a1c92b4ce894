/- Parts of the proof: Rdr, Spc5, Eze, Ez5, Imp15, Spc12, Imp17, Nk2. -/
import Derived.Test.YtgilllnjhahkfaaGreatQ22
import Derived.Test.YtgilllnjhahkfaaGreatQ29
set_option linter.unusedVariables false
set_option linter.unusedSimpArgs false
set_option linter.unusedSectionVars false
set_option maxHeartbeats 4000000
set_option maxRecDepth 100000
namespace Go.Proofs.YtgilllnjhahkfaaGreat
open Go.RowKit
theorem sU {a:iM} {l:hZ} {came:List im} (h:iW l=false):jn a l came=(oJ,false):=by
 unfold jn;rw[if_neg (by rw[h];simp)]
theorem su {a:iM} {l:hZ} {came:List im} {x:hZ} {bl:Bool} (h:jn a l came=(x,bl)):x.done.length≤101∧∀r∈x.done,r.sends.length≤2∧r.outs.length≤2:=by
 cases qk:iW l with
 |false=>rw[sU qk] at h;cases h;exact⟨dc,fun r b=>by cases b⟩
 |true=>
  obtain⟨-,i,g⟩:=l6 qk;have c:l.done.length≤101∧∀r∈l.done,r.sends.length≤2∧r.outs.length≤2:=⟨gO,fun r b=>(mG (g r b)).2.2⟩;have f:∀e,(nN a l e).done.length≤101∧∀r∈(nN a l e).done,r.sends.length≤2∧r.outs.length≤2:=fun e=>by
   have d:=pU a (ij l) e;refine⟨by simp only[nN,List.length_append,List.length_cons,List.length_nil];omega,fun r b=>?_⟩;simp only[nN,List.mem_append,List.mem_cons,List.not_mem_nil,or_false] at b;rcases b with b|rfl
   ·exact c.2 r b
   ·exact⟨jb (xb _) d.2.2.1,by show(jX _).length≤2;rw[yS];exact d.2.2.2.1⟩
  unfold jn at h;rw[if_pos qk] at h;split at h
  ·split at h
   ·cases h;exact f _
   ·cases h;exact c
  ·cases h;exact c
def Dl (a:iM) (l:hZ) (came:List im) (w:World) (q:Ending) (w':World):Prop:=
 ∃(x:hZ) (bl:Bool) (u:Value),jn a l came=(x,bl)∧q= .returned (.tuple #[.agg #[x.proc,x.base.x,x.base.y,x.base.c,u],.bool bl])∧Ow kk 141 w' (fun k=>w.heap.size≤k) u x.done∧Below w.heap.size w w'
theorem yh (v:Value) (xs:List iq) (m:Int) (F:Nat→Prop) (w:World) (h:Rd jm w F v (ju m xs)) (hm0:0≤m) (hm1:m≤500000000) (hn:(xs.length:Int)+iy xs≤1048576):
  Calls Tryz.prog 131 #[v,.int .i64 m] w fun q w' =>q= .returned (.int .i64 (m+iF xs))∧Below w.heap.size w w':=by
 obtain⟨A,c,rfl,-⟩:=h.shape;have f:(ju m xs).length=xs.length:=mv _ _;rw[f] at h ⊢;have ab:=iS xs;go_enter Tryz.func131,Tryz.ntmps131;go_wp2_with fail
 go_loopw [1,5] (fun l i wr=>∃(k:Nat) (t:Int),i= .int .i64 k∧k≤xs.length∧l= .int .i64 t∧Hid (t=m+iF (xs.take k))∧Below w.heap.size w wr) (fun _ i _=>xs.length-(intOf i).toNat)
 case atStart=>exact⟨0,m,rfl,jP _,rfl,by show m=m+iF (xs.take 0);simp[iF],gY _ _⟩
 case round=>
  obtain⟨k,t,rfl,Y,rfl,b,o⟩:=hrel;by_cases hlt:k<xs.length
  ·have s:k<(ju m xs).length:=by rw[f];exact hlt
   obtain⟨b0,Z,A1,c1,A2,c2,rfl,E,⟨O,P,Q,R,S,T,U⟩,⟨V,W,X⟩,j,a,p,g⟩:=k9 (h.below o) k s;have I:(ju m xs)[k]'s=td t xs[k].sends.length xs[k].outs.length:=by
    have:=tB xs m k hlt;rw[mc s] at this;rw[b.out];exact Option.some.inj this
   rw[I] at O P Q R S T U V W X j a p g;simp only[td,nK,Fx,kF] at O P Q R S T U V W X j a p g;have B:=rg xs k hlt;have H:=rq xs k Y;have p0:(k:Int)<(xs.length:Int):=gO;have ac:0≤t:=by have:=b.out;omega
   have ad:t≤600000000:=by have:=b.out;omega
   have d:=gP (show t+1+1+1+1+1+1+1+1+1+1+7*(xs[k].sends.length:Int)+5*(xs[k].outs.length:Int)=m+iF (xs.take (k+1)) by
    have h1:=b.out;have h2:=pH xs k hlt;omega)
   have u:xs[k].sends.length≤1048576:=by have:=B.1;omega
   have x:xs[k].outs.length≤1048576:=by have:=B.1;omega
   obtain⟨C,y⟩:∃n,xs[k].sends.length=n:=⟨_,rfl⟩;obtain⟨L,z⟩:∃n,xs[k].outs.length=n:=⟨_,rfl⟩;rw[y] at j p g u d;rw[z] at a g x d;have e1:decide (t+1+1+1+1+1+1+1+1+1+1+7*(C:Int)<0)=false:=iU gO;have e2:decide (t+1+1+1+1+1+1+1+1+1+1+7*(C:Int)+5*(L:Int)<0)=false:=iU gO;clear I y z B H;go_wp2_with fail;refine(pI _ C (t+1+1+1+1+1+1+1+1+1+1) F _ p gO gO u).mono ?_;rintro q w1 ⟨rfl,e⟩;have r:=gQ o e o.size;have M:=(kz e).1 _ (Z+k*12+11) E;rw[a] at M;have r3:=g.below e;apply_assumption;go_wp2_with fail;refine(vh _ L _ F _ r3 gO gO x).mono ?_;rintro q w2 ⟨rfl,G⟩;have D:=gQ r G r.size;apply_assumption;go_wp2_with fail;go_roundw
   case rel=>exact⟨k+1,_,by go_num,gO,rfl,d,D⟩
   case measure=>exact ms
  ·have J:k=xs.length:=gO
   subst J;go_wp2_with fail;go_ret;exact⟨by rw[b.out,ld];rfl,o⟩
def Fg (v:Value):Prop:=∃A n c,v= .slice A n c
def GV:List nH:=[(2,[],fun _ v=>Fg v),(9,[],fun _ v=>Fg v),(15,[],fun _ v=>Fg v),(16,[2,9,15],fun ds v=>∀a b c,ds=[a,b,c]→v= .agg #[a,b,c])]
def FM (apps:List iM) (s:nT) (F:Nat→Prop) (w:World) (q:Ending) (w':World):Prop:=
 ∃us uq uo,q= .returned (.tuple #[.agg #[us,uq,uo],.bool (nL apps s).2])∧((nL apps s).2=true→DF w' (fun k=>w.heap.size≤k) us uq uo (nL apps s).1)∧FR w' (fun k=>F k∨w.heap.size≤k) us uq uo (nL apps s).1∧Below w.heap.size w w'
def FW (apps:List iM) (u:Int) (w:World) (q:Ending) (w':World):Prop:=
 ∃us uq uo,q= .returned (.agg #[us,uq,uo])∧DF w' (fun k=>w.heap.size≤k) us uq uo (Fb apps u)∧Below w.heap.size w w'
theorem D6 {H:Type} {enc:TypeId×Value→H} {W:World} (fuel:Nat) (cs:List Value) (x:DataW H×List MemPlace) (h:DataW.trod enc Tryz.prog W 0 (fun _=>true) true fuel 3 cs=some x):∃y:Int,(ja .i64).rel W (fun k=>k<W.heap.size) y cs:=by
 obtain⟨a,b,-⟩:=DataW.trod_int Tryz.underlying3 h;exact⟨a,b⟩
theorem Cg {H:Type} {enc:TypeId×Value→H} {W:World} (fuel:Nat) (cs:List Value) (x:DataW H×List MemPlace) (h:DataW.trod enc Tryz.prog W 0 (fun _=>true) true fuel 115 cs=some x):∃y:jl,nn.rel W (fun k=>k<W.heap.size) y cs:=by
 obtain⟨t,n,-,-,g,b,a⟩:=DataW.trod_struct Tryz.underlying115 h;have m:Tryz.prog.cellsOf 115=3:=ie;rw[m] at g
 match cs,g,t,b,a with
 | [c0,c1,c2],_,[y0,y1,y2],_,a=>
  have c:DataW.trod enc Tryz.prog W 0 (fun _=>true) true n 3 ([c0,c1,c2].drop 0 |>.take (Tryz.prog.cellsOf 3))=some y0:=a 0 _ rfl;have d:DataW.trod enc Tryz.prog W 0 (fun _=>true) true n 3 ([c0,c1,c2].drop 1 |>.take (Tryz.prog.cellsOf 3))=some y1:=a 1 _ rfl;have e:DataW.trod enc Tryz.prog W 0 (fun _=>true) true n 24 ([c0,c1,c2].drop 2 |>.take (Tryz.prog.cellsOf 24))=some y2:=a 2 _ rfl;rw[show Tryz.prog.cellsOf 3=1 from by kernel_rfl] at c;obtain⟨p,i,-⟩:=DataW.trod_int Tryz.underlying3 c;rw[show Tryz.prog.cellsOf 3=1 from by kernel_rfl] at d;obtain⟨q,j,-⟩:=DataW.trod_int Tryz.underlying3 d;rw[show Tryz.prog.cellsOf 24=1 from by kernel_rfl] at e;obtain⟨u,v,r,l,s⟩:=kZ iC Tryz.underlying24 ie dc (fun f cs x h=>by obtain⟨y,o⟩:=pi f cs x h;exact⟨y,o⟩) e;simp only[List.drop_zero,List.drop_succ_cons,List.take_succ_cons,List.take_zero,List.cons.injEq,and_true] at i j l;subst i j l;exact⟨⟨p,q,r⟩,_,rfl,s⟩
theorem CO {H:Type} {enc:TypeId×Value→H} {W:World} (fuel:Nat) (cs:List Value) (x:DataW H×List MemPlace) (h:DataW.trod enc Tryz.prog W 0 (fun _=>true) true fuel 29 cs=some x):∃(n:gW) (vl vk vo vv vn:Value),cs=[.int .i64 n.id,.bool n.up,.int .i64 n.inc,.int .i64 n.g,vl,vk,vo,.int .i64 n.led,.int .i64 n.version,vv,vn,.int .i64 n.round,.int .i64 n.low]∧iA W (fun k=>k<W.heap.size) vl vk vo vv vn n:=by
 obtain⟨ys,n,-,-,B,o,a⟩:=DataW.trod_struct Tryz.underlying29 h;have T:Tryz.prog.cellsOf 29=13:=ie;rw[T] at B
 match cs,B,ys,o,a with
 | [c0,c1,c2,c3,c4,c5,c6,c7,c8,c9,c10,c11,c12],_,[y0,y1,y2,y3,y4,y5,y6,y7,y8,y9,y10,y11,y12],_,a=>
  have q:DataW.trod enc Tryz.prog W 0 (fun _=>true) true n 3 ([c0,c1,c2,c3,c4,c5,c6,c7,c8,c9,c10,c11,c12].drop 0 |>.take (Tryz.prog.cellsOf 3))=some y0:=a 0 _ rfl;have b:DataW.trod enc Tryz.prog W 0 (fun _=>true) true n 4 ([c0,c1,c2,c3,c4,c5,c6,c7,c8,c9,c10,c11,c12].drop 1 |>.take (Tryz.prog.cellsOf 4))=some y1:=a 1 _ rfl;have c:DataW.trod enc Tryz.prog W 0 (fun _=>true) true n 3 ([c0,c1,c2,c3,c4,c5,c6,c7,c8,c9,c10,c11,c12].drop 2 |>.take (Tryz.prog.cellsOf 3))=some y2:=a 2 _ rfl;have r:DataW.trod enc Tryz.prog W 0 (fun _=>true) true n 3 ([c0,c1,c2,c3,c4,c5,c6,c7,c8,c9,c10,c11,c12].drop 3 |>.take (Tryz.prog.cellsOf 3))=some y3:=a 3 _ rfl;have s:DataW.trod enc Tryz.prog W 0 (fun _=>true) true n 23 ([c0,c1,c2,c3,c4,c5,c6,c7,c8,c9,c10,c11,c12].drop 4 |>.take (Tryz.prog.cellsOf 23))=some y4:=a 4 _ rfl;have t:DataW.trod enc Tryz.prog W 0 (fun _=>true) true n 24 ([c0,c1,c2,c3,c4,c5,c6,c7,c8,c9,c10,c11,c12].drop 5 |>.take (Tryz.prog.cellsOf 24))=some y5:=a 5 _ rfl;have u:DataW.trod enc Tryz.prog W 0 (fun _=>true) true n 25 ([c0,c1,c2,c3,c4,c5,c6,c7,c8,c9,c10,c11,c12].drop 6 |>.take (Tryz.prog.cellsOf 25))=some y6:=a 6 _ rfl;have w:DataW.trod enc Tryz.prog W 0 (fun _=>true) true n 3 ([c0,c1,c2,c3,c4,c5,c6,c7,c8,c9,c10,c11,c12].drop 7 |>.take (Tryz.prog.cellsOf 3))=some y7:=a 7 _ rfl;have z:DataW.trod enc Tryz.prog W 0 (fun _=>true) true n 3 ([c0,c1,c2,c3,c4,c5,c6,c7,c8,c9,c10,c11,c12].drop 8 |>.take (Tryz.prog.cellsOf 3))=some y8:=a 8 _ rfl;have A:DataW.trod enc Tryz.prog W 0 (fun _=>true) true n 26 ([c0,c1,c2,c3,c4,c5,c6,c7,c8,c9,c10,c11,c12].drop 9 |>.take (Tryz.prog.cellsOf 26))=some y9:=a 9 _ rfl;have d:DataW.trod enc Tryz.prog W 0 (fun _=>true) true n 27 ([c0,c1,c2,c3,c4,c5,c6,c7,c8,c9,c10,c11,c12].drop 10 |>.take (Tryz.prog.cellsOf 27))=some y10:=a 10 _ rfl;have e:DataW.trod enc Tryz.prog W 0 (fun _=>true) true n 3 ([c0,c1,c2,c3,c4,c5,c6,c7,c8,c9,c10,c11,c12].drop 11 |>.take (Tryz.prog.cellsOf 3))=some y11:=a 11 _ rfl;have i:DataW.trod enc Tryz.prog W 0 (fun _=>true) true n 3 ([c0,c1,c2,c3,c4,c5,c6,c7,c8,c9,c10,c11,c12].drop 12 |>.take (Tryz.prog.cellsOf 3))=some y12:=a 12 _ rfl;rw[show Tryz.prog.cellsOf 3=1 from by kernel_rfl] at q;obtain⟨U,F,-⟩:=DataW.trod_int Tryz.underlying3 q;rw[show Tryz.prog.cellsOf 4=1 from by kernel_rfl] at b;obtain⟨V,G,-⟩:=DataW.trod_bool Tryz.underlying4 b;rw[show Tryz.prog.cellsOf 3=1 from by kernel_rfl] at c;obtain⟨X,I,-⟩:=DataW.trod_int Tryz.underlying3 c;rw[show Tryz.prog.cellsOf 3=1 from by kernel_rfl] at r;obtain⟨Y,J,-⟩:=DataW.trod_int Tryz.underlying3 r;rw[show Tryz.prog.cellsOf 23=1 from by kernel_rfl] at s;obtain⟨A4,d4,Z,L,r4⟩:=kZ oP Tryz.underlying23 ie dc (fun f cs x h=>by obtain⟨y,v,b,c⟩:=BL f cs x h;exact⟨y,v,b,c⟩) s;rw[show Tryz.prog.cellsOf 24=1 from by kernel_rfl] at t;obtain⟨A5,d5,n5,M,r5⟩:=kZ iC Tryz.underlying24 ie dc (fun f cs x h=>by obtain⟨y,p⟩:=pi f cs x h;exact⟨y,p⟩) t;rw[show Tryz.prog.cellsOf 25=1 from by kernel_rfl] at u;obtain⟨A6,d6,n6,O,r6⟩:=kZ ii Tryz.underlying25 ie dc (fun f cs x h=>by obtain⟨y,p⟩:=zB f cs x h;exact⟨y,p⟩) u;rw[show Tryz.prog.cellsOf 3=1 from by kernel_rfl] at w;obtain⟨n7,P,-⟩:=DataW.trod_int Tryz.underlying3 w;rw[show Tryz.prog.cellsOf 3=1 from by kernel_rfl] at z;obtain⟨n8,Q,-⟩:=DataW.trod_int Tryz.underlying3 z;rw[show Tryz.prog.cellsOf 26=1 from by kernel_rfl] at A;obtain⟨A9,d9,n9,R,r9⟩:=kZ nn Tryz.underlying26 ie dc (fun f cs x h=>Cg f cs x h) A;rw[show Tryz.prog.cellsOf 27=1 from by kernel_rfl] at d;obtain⟨ak,al,C,j,S⟩:=kZ (ja .i64) Tryz.underlying27 ie dc (fun f cs x h=>D6 f cs x h) d;rw[show Tryz.prog.cellsOf 3=1 from by kernel_rfl] at e;obtain⟨D,l,-⟩:=DataW.trod_int Tryz.underlying3 e;rw[show Tryz.prog.cellsOf 3=1 from by kernel_rfl] at i;obtain⟨E,m,-⟩:=DataW.trod_int Tryz.underlying3 i;simp only[List.drop_zero,List.drop_succ_cons,List.take_succ_cons,List.take_zero,List.cons.injEq,and_true] at F G I J L M O P Q R j l m;subst F G I J L M O P Q R j l m;exact⟨⟨U,V,X,Y,Z,n5,n6,n7,n8,n9,C,D,E⟩,_,_,_,_,_,rfl,⟨r4,r5,r6,r9,S⟩⟩
end Go.Proofs.YtgilllnjhahkfaaGreat
