/- Parts of the proof: Ins, Sub, Nd1, Cmp2, Nd2, Nd4, Ezf, Nf7, Ex6. -/
import Derived.Test.YtlndjfflhegkdaaGreatDoorQ07
import Derived.Test.YtlndjfflhegkdaaGreatDoorQ12
import Derived.Test.YtlndjfflhegkdaaGreatDoorQ17
set_option linter.unusedVariables false
set_option linter.unusedSimpArgs false
set_option linter.unusedSectionVars false
set_option maxHeartbeats 4000000
namespace Go.Proofs.YtlndjfflhegkdaaGreatDoor
open Go.RowKit
section
section
variable {α:Type} [Inhabited α] {lt:α→α→Bool}
def zZ (l:List α) (x:α) (n:Nat):List α:=(l++[x]).take (n+1)++l.drop n
theorem CB (l:List α) (x:α):zZ l x l.length=l++[x]:=by
 rw[zZ,List.take_of_length_le (by simp),List.drop_length,List.append_nil]
theorem tJ (l:List α) (x:α) {n:Nat} (h:n≤l.length):(zZ l x n).length=l.length+1:=by
 simp[zZ];omega
theorem EQ (l:List α) (x:α) {n:Nat} (h0:0<n) (h:n≤l.length) (h2:n-1<(zZ l x n).length):(zZ l x n)[n-1]=kp l (n-1):=by
 rw[iq (by omega)];simp only[zZ];rw[List.getElem_append_left (by simp;omega),List.getElem_take,List.getElem_append_left (by omega)]
theorem CC (l:List α) (x:α) {n:Nat} (h0:0<n) (h:n≤l.length):(zZ l x n).set n (kp l (n-1))=zZ l x (n-1):=by
 obtain⟨m,rfl⟩:∃m,n=m+1:=⟨n-1,by omega⟩;simp only[Nat.add_sub_cancel];rw[iq (by omega)];have a:(l++[x]).take (m+1+1)=(l++[x]).take (m+1)++[(l++[x])[m+1]'(by simp;omega)]:=by rw[List.take_succ_eq_append_getElem]
 have b:((l++[x]).take (m+1)).length=m+1:=by simp;omega
 have c:l.drop m=l[m]::l.drop (m+1):=by rw[List.drop_eq_getElem_cons (by omega)]
 rw[zZ,zZ,a,c,List.append_assoc,List.set_append,if_neg (by omega),b];simp
theorem DH (l:List α) (x:α) {k:Nat} (h:k≤l.length):(zZ l x k).set k x=pz l x k:=by
 have a:(l++[x]).take (k+1)=l.take k++[(l++[x])[k]'(by simp;omega)]:=by
  rw[List.take_succ_eq_append_getElem (by simp;omega),List.take_append_of_le_length h]
 have b:(l.take k).length=k:=by simp;omega
 rw[zZ,a,pz,List.append_assoc,List.set_append,if_neg (by omega),b];simp
theorem yE {l:List α} {x:α} {k:Nat} (h0:0<k) (h:lt x (kp l (k-1))=true):jD lt l x k=jD lt l x (k-1):=by
 obtain⟨m,rfl⟩:∃m,k=m+1:=⟨k-1,by omega⟩;simp only[Nat.add_sub_cancel] at h ⊢;rw[jD,if_pos h]
theorem uM {l:List α} {x:α} {k:Nat} (h:0<k→lt x (kp l (k-1))=false):jD lt l x k=k:=by
 cases k with
 |zero=>rfl
 |succ m=>
  have:=h (by omega);simp only[Nat.add_sub_cancel] at this;rw[jD,if_neg (by simp[this])]
theorem qt {β:Type} (f:List α→α→List α) {l:List α} {k:Nat} (h:k<l.length):(l.take (k+1)).foldl f []=f ((l.take k).foldl f []) l[k]:=by
 rw[List.take_succ_eq_append_getElem h,List.foldl_append];rfl
theorem yq [DecidableEq α] (l:List α) (x:α):(ku lt l x).length≤l.length+1:=by
 unfold ku;split
 ·omega
 ·have:=pY (lt:=lt) l x l.length
  simp[pz];omega
theorem pk [DecidableEq α] (xs:List α):∀k,k≤xs.length→((xs.take k).foldl (ku lt) []).length≤k
 |0,_=>by simp
 |k+1,h=>by
  rw[qt (β:=α) _ (by omega)];have:=yq (lt:=lt) ((xs.take k).foldl (ku lt) []) (xs[k]'(by omega));have:=pk xs k (by omega);omega
theorem ti (xs:List α):∀k,k≤xs.length→((xs.take k).foldl (lf lt) []).length=k
 |0,_=>by simp
 |k+1,h=>by
  rw[qt (β:=α) _ (by omega)];have h1:=ti xs k (by omega);have:=pY (lt:=lt) ((xs.take k).foldl (lf lt) []) (xs[k]'(by omega)) ((xs.take k).foldl (lf lt) []).length;simp[lf,pz];omega
end
end
section
section
variable {α:Type} {d:Ty α} {w:World} {F:Nat→Prop} {xs:List α} {A:Option Addr} {n c:Nat}
theorem Rd.takeP (h:Rd d w F (.slice A n c) xs) (k:Nat) (hk:k≤xs.length):Rd d w F (.slice A k c) (xs.take k):=by
 obtain⟨p,q,l,r,s,f⟩:=h;injection l with e1 e2 e3;subst e1 e2 e3;have m:(xs.take k).length=k:=by simp;omega
 refine⟨A,c,by rw[m],fT,fT,fun t=>?_⟩;obtain⟨b,o,rfl,g,e,i⟩:=f fT;refine⟨b,o,rfl,g,e,fun j x a=>?_⟩;rw[List.getElem?_take] at a;split at a
 ·exact i j x a
 ·cases a
end
end
structure kK where
 inc:Int
 version:Int
 events:List hY
deriving DecidableEq
structure gT where
 id:Int
 up:Bool
 inc:Int
 g:Int
 lanes:List il
 kept:List hY
 outs:List ik
 led:Int
 version:Int
 views:List kK
 known:List Int
 round:Int
 low:Int
deriving DecidableEq
def zT:gT:=⟨0,false,0,0,[],[],[],0,0,[],[],0,0⟩
def jk (p:Int):Int:=if ib p 0 3=true then p % 3 else -1
def iO (id:Int):List Int:=[0,1,2,3].filter (fun p=>decide (jk p=id))
def j6 (v:kK):Bool:=ib v.inc 0 9999&&(ib v.version 0 9999&&iQ v.events 100)
def jb (n:gT):List hY:=n.kept++n.lanes.flatMap (fun l=>l.done.flatMap (fun p=>p.sends))
def iY (n:gT):Nat→List hY
 |0=>[]
 |i+1=>if (i:Int)=n.id then iY n i else iY n i++(n.views.getD i ⟨0,0,[]⟩).events
def k6 (n:gT):List hY:=iY n n.views.length
def jq (n:gT) (p:Int):List hY:=iI ((jb n++k6 n).filter (fun e=>decide (e.to=p)&&decide (n.g≤e.time)))
def qA (n:gT) (p:Int):List hY:=iI ((jb n).filter (fun e=>decide (jk e.to=p)&&decide (n.known.getD p.toNat 0≤e.time)))
def jr (n:gT):Bool:=
 ib n.id 0 2&&(ib n.inc 1 9999&&(ib n.g 0 41&&(ib n.led 0 9999&&(ib n.version 0 9999&&(ib n.round 0 9999&&(ib n.low 0 41&&
 (iQ n.kept 100&&(iu n.outs 96&&(n.outs.all (fun o=>decide (o.time<n.g))&&
 (decide (n.lanes.map (fun l=>l.proc)=iO n.id)&&(n.lanes.all jj&&
 (decide (n.views.length=3)&&(n.views.all j6&&(decide (n.known.length=3)&&n.known.all (fun k=>ib k 0 41)))))))))))))))
def uB (n:gT):Bool:=n.lanes.all (fun l=>decide ((jq n l.proc).length≤100)&&decide (hZ l.done (jq n l.proc)=l.done.length))
def jt (n:gT):Bool:=jr n&&uB n
def nh (x:kK) (v:Value):List Value:=[.int .i64 x.inc,.int .i64 x.version,v]
def ne (x:il) (v:Value):List Value:=[.int .i64 x.proc,.int .i64 x.base.x,.int .i64 x.base.y,.int .i64 x.base.c,v]
def pD:Ty kK where
 sz:=3
 rel:=fun w F x cs=>∃v,cs=nh x v∧Rd iw w F v x.events
 len:=fun ⟨v,h,_⟩=>by rw[h];rfl
 one:=fun ⟨v,h,h1⟩ u hu=>by
  obtain⟨A,c,rfl,_⟩:=h1;rw[h] at hu;simp only[nh,List.mem_cons,List.not_mem_nil,or_false] at hu;rcases hu with rfl|rfl|rfl<;>rfl
 mono:=fun hF ⟨v,h,h1⟩=>⟨v,h,h1.mono hF⟩
 move:=fun hm ⟨v,h,h1⟩=>⟨v,h,h1.move hm⟩
 bound:=fun ⟨v,h,h1⟩=>⟨v,h,h1.bound⟩
def pB:Ty kK where
 sz:=3
 rel:=fun w F x cs=>∃v,cs=nh x v∧Ow iw 91 w F v x.events
 len:=fun ⟨v,h,_⟩=>by rw[h];rfl
 one:=fun ⟨v,h,h1⟩ u hu=>by
  have g1:=h1.oneCell;rw[h] at hu;simp only[nh,List.mem_cons,List.not_mem_nil,or_false] at hu;rcases hu with rfl|rfl|rfl<;>first|rfl|assumption
 mono:=fun hF ⟨v,h,h1⟩=>⟨v,h,h1.mono hF⟩
 move:=fun hm ⟨v,h,h1⟩=>⟨v,h,h1.move hm⟩
 bound:=fun ⟨v,h,h1⟩=>⟨v,h,h1.bound⟩
def tk:Ty il where
 sz:=5
 rel:=fun w F x cs=>∃v,cs=ne x v∧Rd kO w F v x.done
 len:=fun ⟨v,h,_⟩=>by rw[h];rfl
 one:=fun ⟨v,h,h1⟩ u hu=>by
  obtain⟨A,c,rfl,_⟩:=h1;rw[h] at hu;simp only[ne,List.mem_cons,List.not_mem_nil,or_false] at hu;rcases hu with rfl|rfl|rfl|rfl|rfl<;>rfl
 mono:=fun hF ⟨v,h,h1⟩=>⟨v,h,h1.mono hF⟩
 move:=fun hm ⟨v,h,h1⟩=>⟨v,h,h1.move hm⟩
 bound:=fun ⟨v,h,h1⟩=>⟨v,h,h1.bound⟩
def pA:Ty il where
 sz:=5
 rel:=fun w F x cs=>∃v,cs=ne x v∧Ow oF 185 w F v x.done
 len:=fun ⟨v,h,_⟩=>by rw[h];rfl
 one:=fun ⟨v,h,h1⟩ u hu=>by
  have g1:=h1.oneCell;rw[h] at hu;simp only[ne,List.mem_cons,List.not_mem_nil,or_false] at hu;rcases hu with rfl|rfl|rfl|rfl|rfl<;>first|rfl|assumption
 mono:=fun hF ⟨v,h,h1⟩=>⟨v,h,h1.mono hF⟩
 move:=fun hm ⟨v,h,h1⟩=>⟨v,h,h1.move hm⟩
 bound:=fun ⟨v,h,h1⟩=>⟨v,h,h1.bound⟩
theorem Ow.rdViews {w:World} {F:Nat→Prop} {v:Value} {xs:List kK} {e:TypeId} (h:Ow pB e w F v xs):Rd pD w F v xs:=
 Rd.map (d:=pB) rfl (fun x cs ⟨v,h1,h2⟩=>⟨v,h1,h2.rd⟩) h.rd
theorem Ow.rdLanes {w:World} {F:Nat→Prop} {v:Value} {xs:List il} {e:TypeId} (h:Ow pA e w F v xs):Rd tk w F v xs:=
 Rd.map (d:=pA) rfl (fun x cs ⟨v,h1,h2⟩=>⟨v,h1,h2.rdPasts⟩) h.rd
structure i4 (w:World) (F:Nat→Prop) (vl vk vo vv vn:Value) (n:gT):Prop where
 la:Rd tk w F vl n.lanes
 ke:Rd iw w F vk n.kept
 ou:Rd hJ w F vo n.outs
 vi:Rd pD w F vv n.views
 kn:Rd (jQ .i64) w F vn n.known
theorem i4.below {w w':World} {F:Nat→Prop} {vl vk vo vv vn:Value} {n:gT} (h:i4 w F vl vk vo vv vn n) (hb:Below w.heap.size w w'):i4 w' F vl vk vo vv vn n:=
 ⟨h.la.below hb,h.ke.below hb,h.ou.below hb,h.vi.below hb,h.kn.below hb⟩
theorem i4.mono {w:World} {F F':Nat→Prop} {vl vk vo vv vn:Value} {n:gT} (h:i4 w F vl vk vo vv vn n) (hF:∀k,F k→F' k):i4 w F' vl vk vo vv vn n:=
 ⟨h.la.mono hF,h.ke.mono hF,h.ou.mono hF,h.vi.mono hF,h.kn.mono hF⟩
theorem mr {w:World} {F:Nat→Prop} {A:Option Addr} {n c:Nat} {xs:List il} (h:Rd tk w F (.slice A n c) xs) (j:Nat) (hj:j<xs.length):
  ∃b o A1 c1,A=some ⟨b,o,none⟩∧b<w.heap.size∧w.cell? ⟨b,o+j*5,none⟩=some (.int .i64 xs[j].proc)∧(w.cell? ⟨b,o+j*5+1,none⟩=some (.int .i64 xs[j].base.x)∧w.cell? ⟨b,o+j*5+2,none⟩=some (.int .i64 xs[j].base.y)∧w.cell? ⟨b,o+j*5+3,none⟩=some (.int .i64 xs[j].base.c))∧
   w.cell? ⟨b,o+j*5+4,none⟩=some (.slice A1 xs[j].done.length c1)∧Rd kO w F (.slice A1 xs[j].done.length c1) xs[j].done:=by
 obtain⟨b,o,f,rfl,_,d,⟨v,rfl,e⟩,a⟩:=h.at_ j hj;obtain⟨A1,c1,rfl,_⟩:=id e;exact⟨b,o,A1,c1,rfl,d,a 0 _ rfl,⟨a 1 _ rfl,a 2 _ rfl,a 3 _ rfl⟩,a 4 _ rfl,e⟩
theorem nO {w:World} {F:Nat→Prop} {A:Option Addr} {n c:Nat} {xs:List kK} (h:Rd pD w F (.slice A n c) xs) (j:Nat) (hj:j<xs.length):
  ∃b o A1 c1,A=some ⟨b,o,none⟩∧b<w.heap.size∧w.cell? ⟨b,o+j*3,none⟩=some (.int .i64 xs[j].inc)∧w.cell? ⟨b,o+j*3+1,none⟩=some (.int .i64 xs[j].version)∧w.cell? ⟨b,o+j*3+2,none⟩=some (.slice A1 xs[j].events.length c1)∧Rd iw w F (.slice A1 xs[j].events.length c1) xs[j].events:=by
 obtain⟨b,o,f,rfl,_,d,⟨v,rfl,e⟩,a⟩:=h.at_ j hj;obtain⟨A1,c1,rfl,_⟩:=id e;exact⟨b,o,A1,c1,rfl,d,a 0 _ rfl,a 1 _ rfl,a 2 _ rfl,e⟩
set_option maxRecDepth 100000
theorem rU {W:World} {K:Nat} {t:TypeId} {fr:Nat×Nat} {ys:Array Value} (xs:List Int) (hx:xs.length≤9223372036854775807) (h:W.heap[K]? =some (.cells ys t fr)) (hy:ys.toList=xs.map (.int .i64)):Rd (jQ .i64) W (fun k=>k=K) (.slice (some ⟨K,0,none⟩) xs.length xs.length) xs:=by
 refine⟨_,xs.length,rfl,jn _,hx,fun _=>⟨K,0,rfl,rfl,fx h,fun j x b=>⟨_,rfl,fun i u a=>?_⟩⟩⟩;have c:(jQ .i64).sz=1:=rfl;cases i with
 |zero=>
  obtain rfl:Value.int .i64 x=u:=by simpa using a
  rw[fw h,c];have:ys.toList[j]? =some (Value.int .i64 x):=by rw[hy,List.getElem?_map,b];rfl
  simpa using this
 |succ i=>simp at a
theorem BK {B:Nat} {w W:World} (h:Below B w W):Below B w W.drew:=⟨h.os,h.tape,h.output,h.size,h.block⟩
theorem xq (a:hY) (w:World):Calls Tryz.prog 131 #[ij a] w fun q w' =>q= .returned (ij a)∧Below w.heap.size w w':=by
 unfold ij;go_enter Tryz.func131,Tryz.ntmps131;go_wp2_with fail;have B:Below w.heap.size w _:=gs (gs (gM _ _) (.cells #[a.time,a.to,a.from_,a.count,a.n,a.kind,a.arg] 91)) (.cells #[a.time,a.to,a.from_,a.count,a.n,a.kind,a.arg] 214);exact bodyPost_ret (v:= .agg #[a.time,a.to,a.from_,a.count,a.n,a.kind,a.arg]) (by simp[results,Tryz.results131,go_sem]) rfl ⟨rfl,B⟩
theorem qy (a b:hY) (w:World):Calls Tryz.prog 130 #[ij a,ij b] w fun q w' =>q= .returned (.bool (gQ a b))∧Below w.heap.size w w':=by
 have c:=fS (show decide (rB a.key b.key<0)=gQ a b from xg _ _);have d:Rd (jQ .i64) ((w.alloc (.cells #[a.time,a.to,a.from_,a.count,a.n,a.kind,a.arg] 214)).alloc (.cells #[b.time,b.to,b.from_,b.count,b.n,b.kind,b.arg] 214)) (fun _=>True) (.slice (some ⟨w.heap.size,0,none⟩) 7 7) a.key:=(rU (W:=(w.alloc (.cells #[a.time,a.to,a.from_,a.count,a.n,a.kind,a.arg] 214)).alloc (.cells #[b.time,b.to,b.from_,b.count,b.n,b.kind,b.arg] 214)) a.key (by simp[hY.key]) ((gP sm).trans (gL rfl)) rfl).mono (fun _ _=>trivial);have e:Rd (jQ .i64) ((w.alloc (.cells #[a.time,a.to,a.from_,a.count,a.n,a.kind,a.arg] 214)).alloc (.cells #[b.time,b.to,b.from_,b.count,b.n,b.kind,b.arg] 214)) (fun _=>True) (.slice (some ⟨w.heap.size+1,0,none⟩) 7 7) b.key:=(rU b.key (by simp[hY.key]) (gL sm) rfl).mono (fun _ _=>trivial);have B:Below w.heap.size w ((w.alloc (.cells #[a.time,a.to,a.from_,a.count,a.n,a.kind,a.arg] 214)).alloc (.cells #[b.time,b.to,b.from_,b.count,b.n,b.kind,b.arg] 214)):=gs (gs (gM _ _) _) _;unfold ij;go_enter Tryz.func130,Tryz.ntmps130;go_wp2_with fail;generalize hW:(w.alloc (.cells #[a.time,a.to,a.from_,a.count,a.n,a.kind,a.arg] 214)).alloc (.cells #[b.time,b.to,b.from_,b.count,b.n,b.kind,b.arg] 214)=W at*;clear hW;refine gV (fun w' =>w' =W.drew) [tT 0,tT 1,tF 2,tT 3,tT 4] gY gY qP ?_;have HS:=(rfl:W.drew=W.drew)
 iterate 2 refine FG ?_
 refine gU (by rfl) (by rfl) (fun K hK=>?_);go_simp;refine(uX _ _ a.key b.key (fun _=>True) W.drew (Rd.move (w:=W) (fun _ _=>rfl) d) (Rd.move (w:=W) (fun _ _=>rfl) e) rfl).mono ?_;rintro q w' ⟨rfl,rfl⟩;refine hK _ _ (Or.inr HS) ?_;clear hK K
 iterate 2 refine FG ?_
 simp only[iG];go_wp2_with fail;go_ret;exact⟨by rw[c.out];rfl,BK B⟩
theorem rr (a b:hY) (w:World):Calls Tryz.prog 167 #[ij a,ij b] w fun q w' =>q= .returned (.bool (gQ a b))∧Below w.heap.size w w':=by
 have B:Below w.heap.size w ((w.alloc (.cells #[a.time,a.to,a.from_,a.count,a.n,a.kind,a.arg] 91)).alloc (.cells #[b.time,b.to,b.from_,b.count,b.n,b.kind,b.arg] 91)):=gs (gs (gM _ _) _) _;have c:((w.alloc (.cells #[a.time,a.to,a.from_,a.count,a.n,a.kind,a.arg] 91)).alloc (.cells #[b.time,b.to,b.from_,b.count,b.n,b.kind,b.arg] 91)).heap[w.heap.size]? =some (.cells #[a.time,a.to,a.from_,a.count,a.n,a.kind,a.arg] 91):=(gP sm).trans (gL rfl);have d:((w.alloc (.cells #[a.time,a.to,a.from_,a.count,a.n,a.kind,a.arg] 91)).alloc (.cells #[b.time,b.to,b.from_,b.count,b.n,b.kind,b.arg] 91)).heap[w.heap.size+1]? =some (.cells #[b.time,b.to,b.from_,b.count,b.n,b.kind,b.arg] 91):=gL sm;unfold ij;go_enter Tryz.func167,Tryz.ntmps167;go_wp2_with fail;generalize hW:(w.alloc (.cells #[a.time,a.to,a.from_,a.count,a.n,a.kind,a.arg] 91)).alloc (.cells #[b.time,b.to,b.from_,b.count,b.n,b.kind,b.arg] 91)=W at*;clear hW;obtain⟨⟨i,j,k,l,m,o,p⟩,-⟩:=nk c;obtain⟨⟨r,s,t,u,v,x,y⟩,-⟩:=nk d;have D:=fx c;have E:=fx d;refine gV (fun w' =>Ch (fun _=>False) W w') [tT 0,tT 2,tF 1,tF 3,tF 4,tT 5] gY gY qP ?_;have HS:=(Ch.refl (fun _=>False) W).drew
 iterate 2 refine Fv ?_
 refine gU (by rfl) (by rfl) (fun K hK=>?_);go_simp;refine(xq a _).mono ?_;rintro q z ⟨rfl,e⟩;have HS:=HS.trans (Ch.of_below e);refine hK _ _ (Or.inr HS) ?_;clear hK K;refine gU (by rfl) (by rfl) (fun K hK=>?_);go_simp;refine(xq b _).mono ?_;rintro q A ⟨rfl,f⟩;have HS:=HS.trans (Ch.of_below f);refine hK _ _ (Or.inr HS) ?_;clear hK K;refine gU (by rfl) (by rfl) (fun K hK=>?_);go_simp;refine(qy a b _).mono ?_;rintro q C ⟨rfl,g⟩;have HS:=HS.trans (Ch.of_below g);refine hK _ _ (Or.inr HS) ?_;clear hK K
 iterate 1 refine Fv ?_
 simp only[iG];go_wp2_with fail;go_ret;exact⟨rfl,gK B HS.below0⟩
theorem oS (a b:ik) (w:World):Calls Tryz.prog 124 #[l7 a,l7 b] w fun q w' =>q= .returned (.bool (gO a b))∧Below w.heap.size w w':=by
 have c:=fS (show decide (rB a.key b.key<0)=gO a b from xg _ _);unfold l7;go_enter Tryz.func124,Tryz.ntmps124;go_wp2_with fail;have B:Below w.heap.size w ((((w.alloc (.cells #[a.time,a.proc,a.count,a.n,a.value] 101)).alloc (.cells #[b.time,b.proc,b.count,b.n,b.value] 101)).alloc (.cells #[a.time,a.proc,a.count,a.n,a.value] 249)).alloc (.cells #[b.time,b.proc,b.count,b.n,b.value] 249)):=gs (gs (gs (gs (gM _ _) _) _) _) _;have d:Rd (jQ .i64) ((((w.alloc (.cells #[a.time,a.proc,a.count,a.n,a.value] 101)).alloc (.cells #[b.time,b.proc,b.count,b.n,b.value] 101)).alloc (.cells #[a.time,a.proc,a.count,a.n,a.value] 249)).alloc (.cells #[b.time,b.proc,b.count,b.n,b.value] 249)) (fun _=>True) (.slice (some ⟨w.heap.size+1+1,0,none⟩) 5 5) a.key:=(rU (W:=(((w.alloc (.cells #[a.time,a.proc,a.count,a.n,a.value] 101)).alloc (.cells #[b.time,b.proc,b.count,b.n,b.value] 101)).alloc (.cells #[a.time,a.proc,a.count,a.n,a.value] 249)).alloc (.cells #[b.time,b.proc,b.count,b.n,b.value] 249)) a.key (by simp[ik.key]) ((gP sm).trans (gL sm)) rfl).mono (fun _ _=>trivial);have e:Rd (jQ .i64) ((((w.alloc (.cells #[a.time,a.proc,a.count,a.n,a.value] 101)).alloc (.cells #[b.time,b.proc,b.count,b.n,b.value] 101)).alloc (.cells #[a.time,a.proc,a.count,a.n,a.value] 249)).alloc (.cells #[b.time,b.proc,b.count,b.n,b.value] 249)) (fun _=>True) (.slice (some ⟨w.heap.size+1+1+1,0,none⟩) 5 5) b.key:=(rU b.key (by simp[ik.key]) (gL sm) rfl).mono (fun _ _=>trivial);generalize hW:(((w.alloc (.cells #[a.time,a.proc,a.count,a.n,a.value] 101)).alloc (.cells #[b.time,b.proc,b.count,b.n,b.value] 101)).alloc (.cells #[a.time,a.proc,a.count,a.n,a.value] 249)).alloc (.cells #[b.time,b.proc,b.count,b.n,b.value] 249)=W at*;clear hW;refine gV (fun w' =>w' =W.drew) [tT 0,tT 1,tF 2,tT 3,tT 4] gY gY qP ?_;have HS:=(rfl:W.drew=W.drew)
 iterate 2 refine FG ?_
 refine gU (by rfl) (by rfl) (fun K hK=>?_);go_simp;refine(uX _ _ a.key b.key (fun _=>True) W.drew (Rd.move (w:=W) (fun _ _=>rfl) d) (Rd.move (w:=W) (fun _ _=>rfl) e) rfl).mono ?_;rintro q w' ⟨rfl,rfl⟩;refine hK _ _ (Or.inr HS) ?_;clear hK K
 iterate 2 refine FG ?_
 simp only[iG];go_wp2_with fail;go_ret;exact⟨by rw[c.out];rfl,BK B⟩
def rN (l:il) (came:List hY):il:= {l with done:=l.done.take (hZ l.done came)}
def tC (n:gT) (i:Nat):gT:=
 match n.lanes[i]? with
 |some l=> {n with lanes:=n.lanes.set i (rN l (jq n l.proc))}
 |none=>n
def BS (n:gT) (i:Nat):Bool:=
 match n.lanes[i]? with
 |some l=>decide (hZ l.done (jq n l.proc)<l.done.length)
 |none=>false
def nH (n:gT):Nat→gT
 |0=>n
 |i+1=>tC (nH n i) i
def ry (n:gT):Nat→Bool
 |0=>false
 |i+1=>ry n i||BS (nH n i) i
def mp (n:gT):Nat:=(n.lanes.map (fun l=>l.done.length)).sum
theorem nJ:∀(ps:List iP) (es:List hY),hZ ps es≤ps.length∧hZ ps es≤es.length
 | [],_=>⟨j8 _,j8 _⟩
 |_::_,[]=>⟨j8 _,j8 _⟩
 |p::ps,e::es=>by
  have:=nJ ps es;simp only[hZ,List.length_cons];split<;>omega
theorem Aa:∀(xs:List il) (i:Nat) (h:i<xs.length) (y:il),((xs.set i y).map (fun l=>l.done.length)).sum+xs[i].done.length=(xs.map (fun l=>l.done.length)).sum+y.done.length
 |x::xs,0,_,y=>by simp;omega
 |x::xs,i+1,h,y=>by
  have:=Aa xs i (by simpa using h) y;simp only[List.set_cons_succ,List.map_cons,List.sum_cons,List.getElem_cons_succ];omega
theorem ya (n:gT) (i:Nat):mp (tC n i)≤mp n∧(BS n i=true→mp (tC n i)<mp n):=by
 unfold tC BS;cases h:n.lanes[i]? with
 |none=>exact⟨jn _,fun h=>by cases h⟩
 |some l=>
  obtain⟨c,rfl⟩:=List.getElem?_eq_some_iff.1 h;have a:=Aa n.lanes i c (rN n.lanes[i] (jq n n.lanes[i].proc));have d:=(nJ n.lanes[i].done (jq n n.lanes[i].proc)).1;have b:(rN n.lanes[i] (jq n n.lanes[i].proc)).done.length=hZ n.lanes[i].done (jq n n.lanes[i].proc):=by
   simp only[rN,List.length_take];omega
  simp only[mp,decide_eq_true_eq];rw[b] at a;exact⟨fT,fun h=>fT⟩
theorem sO (n:gT):∀i,mp (nH n i)≤mp n∧(ry n i=true→mp (nH n i)<mp n)
 |0=>⟨jn _,fun h=>by cases h⟩
 |i+1=>by
  have h1:=sO n i;have h2:=ya (nH n i) i;simp only[nH,ry,Bool.or_eq_true];refine⟨fT,fun h=>?_⟩;rcases h with h|h
  ·have:=h1.2 h;omega
  ·have:=h2.2 h;omega
def wj (n:gT):gT:=
 if h:ry n n.lanes.length=true then wj (nH n n.lanes.length) else nH n n.lanes.length
termination_by mp n
decreasing_by exact(sO n _).2 h
def DR (n:gT):List (List hY):=([0,1,2].filter (fun p:Int=>decide (p≠n.id))).map (qA n)
def zw (was n:gT):gT:=if DR was=DR n then n else {n with version:=was.version+1}
def DG (n:gT) (i:Nat) (l:il):gT:= {n with lanes:=n.lanes.set i l}
def Dt (n x:gT):gT×Bool:=if jt x=true then (x,true) else (n,false)
def Cr (apps:List iy) (n:gT) (p:Int):gT×Bool:=
 if jt n=true then
  (if n.up=true∧io apps=true∧jk p=n.id∧n.version<9999 then
   (match uw (apps.getD p.toNat ⟨[]⟩) (n.lanes.getD ((iO n.id).idxOf p) Ec) (jq n p) with
   |(l,true)=>Dt n (zw n (wj (DG n ((iO n.id).idxOf p) l)))
   |(_,false)=>(n,false))
  else (n,false))
 else (zT,false)
structure lX (n:gT):Prop where
 kept:n.kept.length≤100
 outs:n.outs.length≤96
 lanes:n.lanes.length≤2
 done:∀l∈n.lanes,l.done.length≤101∧∀r∈l.done,r.sends.length≤2∧r.outs.length≤2
 views:n.views.length=3
 evs:∀v∈n.views,v.events.length≤100
 known:n.known.length=3
structure Fx (n x:gT):Prop where
 id:x.id=n.id
 up:x.up=n.up
 inc:x.inc=n.inc
 g:x.g=n.g
 kept:x.kept=n.kept
 outs:x.outs=n.outs
 led:x.led=n.led
 version:x.version=n.version
 views:x.views=n.views
 known:x.known=n.known
 round:x.round=n.round
 low:x.low=n.low
 len:x.lanes.length=n.lanes.length
 procs:x.lanes.map (fun l=>l.proc)=n.lanes.map (fun l=>l.proc)
 bases:x.lanes.map (fun l=>l.base)=n.lanes.map (fun l=>l.base)
section
structure lz (n:Nat) where
 cs:List Value
 hl:cs.length=n
 ho:∀u∈cs,u.oneCell' =true
def kF (n:Nat):Ty (lz n):=kx (fun r=>r.cs) n (fun r=>r.hl) (fun r=>r.ho)
def kQ {α:Type} (n:Nat) (d:Ty α) (w:World) (B:Nat→Prop) (rs:List (lz n)) (xs:List α):Prop:=
 rs.length=xs.length∧∀(j:Nat) (x:α),xs[j]? =some x→∃r,rs[j]? =some r∧d.rel w B x r.cs
section
variable {α:Type} {n:Nat} {d:Ty α} {w w':World} {B B' F:Nat→Prop} {rs:List (lz n)} {xs:List α}
theorem kQ.nil:kQ n d w B [] []:=⟨rfl,fun j x hj=>by simp at hj⟩
theorem kQ.snoc (h:kQ n d w B rs xs) (x:α) (r:lz n) (hr:d.rel w B x r.cs):kQ n d w B (rs++[r]) (xs++[x]):=by
 refine⟨by simp[h.1],fun j y a=>?_⟩;by_cases hl:j<xs.length
 ·rw[List.getElem?_append_left hl] at a
  rw[List.getElem?_append_left (by rw[h.1];exact hl)];exact h.2 j y a
 ·rw[List.getElem?_append_right fT] at a
  rw[List.getElem?_append_right (by rw[h.1];omega),h.1];have b:j-xs.length=0:=by
   have:=(List.getElem?_eq_some_iff.1 a).1;simpa using this
  rw[b] at a ⊢;cases a;exact⟨r,rfl,hr⟩
theorem kQ.keep (h:kQ n d w B rs xs) (hm:∀k,B k→k<w.heap.size→w'.heap[k]? =w.heap[k]?):kQ n d w' B rs xs:=
 ⟨h.1,fun j x hj=>by
  obtain⟨r,h1,h2⟩:=h.2 j x hj;exact⟨r,h1,Ty.keep h2 hm⟩⟩
theorem kQ.mono (h:kQ n d w B rs xs) (hB:∀k,B k→B' k):kQ n d w B' rs xs:=
 ⟨h.1,fun j x hj=>by
  obtain⟨r,h1,h2⟩:=h.2 j x hj;exact⟨r,h1,d.mono hB h2⟩⟩
theorem kQ.below (h:kQ n d w B rs xs) (hb:Below w.heap.size w w'):kQ n d w' B rs xs:=h.keep fun k _ hk=>hb.block k hk
theorem kQ.ch {S:Nat→Prop} (h:kQ n d w B rs xs) (hc:Ch S w w') (hS:∀k,B k→¬S k):kQ n d w' B rs xs:=h.keep fun k hk hlt=>hc.block k hlt (hS k hk)
end
def DC (v:Value) (h:v.oneCell' =true):lz 1:=⟨[v],rfl,fun u hu=>by simp at hu;subst hu;exact h⟩
def F3:Ty (List iP) where
 sz:=1
 rel:=fun w F x cs=>∃v,cs=[v]∧Rd kO w F v x
 len:=fun ⟨v,h,_⟩=>by rw[h];rfl
 one:=fun ⟨v,h,h1⟩ u hu=>by
  obtain⟨A,c,rfl,_⟩:=h1;rw[h] at hu;simp only[List.mem_cons,List.not_mem_nil,or_false] at hu;subst hu;rfl
 mono:=fun hF ⟨v,h,h1⟩=>⟨v,h,h1.mono hF⟩
 move:=fun hm ⟨v,h,h1⟩=>⟨v,h,h1.move hm⟩
 bound:=fun ⟨v,h,h1⟩=>⟨v,h,h1.bound⟩
def FC (l:il) (v:Value) (h:v.oneCell' =true):lz 5:=⟨ne l v,rfl,fun u hu=>by
 simp only[ne,List.mem_cons,List.not_mem_nil,or_false] at hu;rcases hu with rfl|rfl|rfl|rfl|rfl<;>first|rfl|assumption⟩
def FD (x:kK) (v:Value) (h:v.oneCell' =true):lz 3:=⟨nh x v,rfl,fun u hu=>by
 simp only[nh,List.mem_cons,List.not_mem_nil,or_false] at hu;rcases hu with rfl|rfl|rfl<;>first|rfl|assumption⟩
end
def Gl (y:iP):List ow:=
 [(6,[],fun _ v w F=>Ow iw 91 w F v []),
  (9,[],fun _ v w F=>Ow iw 91 w F v y.sends),
  (10,[],fun _ v w F=>Ow hJ 101 w F v []),
  (13,[],fun _ v w F=>Ow hJ 101 w F v y.outs)]
def Gm (y:iP):List pG:=[]
def Fw:kK:=⟨0,0,[]⟩
theorem Ee {w:World} {F:Nat→Prop} {g:Nat} {cs:Array Value} {t:TypeId} {ps:List tA} (h:jy w F (ml g cs t::ps)):w.heap[g]? =some (.cells cs t (0,0)):=(h.get 0 rfl).2
def BM (l:il):il:= {l with done:=[]}
def FL (n:gT):gT:= {n with lanes:=n.lanes.map BM,version:=0,views:=List.replicate 3 Fw,known:=List.replicate 3 0,round:=0,low:=41}
def Cq (vl vk vo vv vn:Value) (n:gT):List tA:=[ju pA 130 vl n.lanes,ju iw 91 vk n.kept,ju hJ 101 vo n.outs,ju pB 180 vv n.views,ju (jQ .i64) 3 vn n.known]
def Ge (n:gT):List ow:=
 [(8,[],fun _ v w F=>Ow iw 91 w F v []),
  (11,[],fun _ v w F=>Ow iw 91 w F v n.kept),
  (12,[],fun _ v w F=>Ow hJ 101 w F v []),
  (15,[],fun _ v w F=>Ow hJ 101 w F v n.outs),
  (19,[],fun _ v w F=>∃g,v= .pointer (some ⟨g,0,none⟩)∧F g∧w.heap[g]? =some (.cells #[.int .i64 0,.bool false,.int .i64 0,.int .i64 0,.slice none 0 0,.slice none 0 0,.slice none 0 0,.int .i64 0,.int .i64 0,.slice none 0 0,.slice none 0 0,.int .i64 0,.int .i64 0] 57))]
def Gf (n:gT):List pG:=[(11,[],fun _ v=>∃A c,v= .slice A n.kept.length c),(15,[],fun _ v=>∃A c,v= .slice A n.outs.length c),(18,[11,15],fun ds v=>∀a b,ds=[a,b]→v= .agg #[n.id,n.up,n.inc,n.g,.slice none 0 0,a,b,n.led,.int .i64 0,.slice none 0 0,.slice none 0 0,.int .i64 0,.int .i64 41])]
def FE (ys rs:List jL):Prop:=ys.length=rs.length∧∀j:Nat,(ys[j]?).map (fun r:jL=>r.ops.length)=(rs[j]?).map (fun r:jL=>r.ops.length)
end Go.Proofs.YtlndjfflhegkdaaGreatDoor
