/- Parts of the proof: Rdr, Draw1, SimR, Ey3, Nf0, Eza, Ezc, Draw3, Nh1, Nh5, Nh6, Ni1, Ni3, Ni5. -/
import Derived.Test.YtlndjfflhegkdaaGreatDoorQ16
import Derived.Test.YtlndjfflhegkdaaGreatDoorQ20
set_option linter.unusedVariables false
set_option linter.unusedSimpArgs false
set_option linter.unusedSectionVars false
set_option maxHeartbeats 4000000
namespace Go.Proofs.YtlndjfflhegkdaaGreatDoor
open Go.RowKit
set_option maxRecDepth 100000
theorem Es {w:World} {s:Nat} {t:TypeId} {a b c d e:Value} (h:w.heap[s]? =some (.cells #[a,b,c,d,e] t (0,0))):
  w.cell? ⟨s,0,none⟩=some a∧w.cell? ⟨s,1,none⟩=some b∧w.cell? ⟨s,2,none⟩=some c∧w.cell? ⟨s,3,none⟩=some d∧w.cell? ⟨s,4,none⟩=some e∧∀i,w.frozen? ⟨s,i,none⟩=false:=
 ⟨fw h 0,fw h 1,fw h 2,fw h 3,fw h 4,ft h⟩
def FY (o:lJ):Value:= .agg #[o.d,o.a,o.b,o.c,o.e]
theorem qc {apps:List iy} {s:kq} (ha:io apps=true) (h:rx s) {e:hY} {rest:List hY} (hq:s.queue=e::rest):jg apps s=(gW apps s,true):=by
 have hN:=(rp ha h hq).inv.ok;unfold jg;rw[hq];simp only;rw[if_pos hN]
theorem m5 {apps:List iy} {s:kq} (u:Int) (n:Nat) (ha:io apps=true) (h:rx s) {e:hY} {rest:List hY} (hq:s.queue=e::rest):
  jw apps u (n+1) s=if e.time<u then jw apps u n (gW apps s) else s:=by
 have a:jw apps u (n+1) s=if e.time<u then (if (jg apps s).2=true then jw apps u n (jg apps s).1 else s) else s:=by
  conv=>lhs;unfold jw
  rw[hq]
 rw[a,qc ha h hq];simp
theorem tg {apps:List iy} {s:kq} (u:Int) (n:Nat) (hq:s.queue=[]):jw apps u n s=s:=by
 cases n with
 |zero=>rfl
 |succ n=>unfold jw;rw[hq]
def left (s:kq):Int:=s.queue.length+2*By s.states
theorem rx.left_nonneg {s:kq} (h:rx s):(s.queue.length:Int)≤left s:=by
 have:=rc _ h.st;unfold left;omega
theorem BY (v0 v1:Value) (xs ys:List iy) (F:Nat→Prop) (w:World) (h0:Rd me w F v0 xs) (h1:Rd me w F v1 ys):
  Calls Tryz.prog 23 #[v0,v1] w fun q w' =>q= .returned (.bool (decide (xs=ys)))∧Below w.heap.size w w':=by
 obtain⟨v,C,rfl,-,I,-⟩:=id h0;obtain⟨x,D,rfl,-,J,-⟩:=id h1;by_cases hl:xs.length=ys.length
 ·have o:(((xs.length:Nat):Int) !=((ys.length:Nat):Int))=false:=by simp[hl]
  have j:=fS hl;clear hl;go_enter Tryz.func23,Tryz.ntmps23;go_wp2_with fail
  go_loopw [5] (fun i wr=>∃k:Nat,i= .int .i64 k∧k≤xs.length∧Hid (xs.take k=ys.take k)∧Below w.heap.size w wr) (fun i _=>xs.length-(intOf i).toNat)
  case atStart=>exact⟨0,rfl,j8 _,rfl,gM _ _⟩
  case round=>
   obtain⟨k,rfl,H,d,c⟩:=hrel;by_cases hlt:k<xs.length
   ·have b:k<ys.length:=by rw[←j.out];exact hlt
    have p:=h0.below c;have r:=h1.below c;obtain⟨A,L,y,E,rfl,_,R,s⟩:=oV p k hlt;obtain⟨B,M,z,G,rfl,_,S,u⟩:=oV r k b;have O:(k:Int)<(xs.length:Int):=fT;have P:(k:Int)<(ys.length:Int):=fT;obtain⟨t,n⟩:∃t,decide (xs[k]=ys[k])=t:=⟨_,rfl⟩;have g:=fS n;clear n;go_upto_region 6 with fail;refine kA [.rd [0,1,2,3,4,5,6,7]] [8,9] ?_;refine vL ?_;intro N hN;go_wp2_with fail;refine fV (hN _ ?_);clear hN N;refine vF ?_;go_wp2_with fail;have m:=c.drew;refine(Dg xs[k] ys[k] _ _ _ _ (s.below (gM wr.heap.size wr).drew) (u.below (gM wr.heap.size wr).drew)).mono ?_;rintro q Q ⟨rfl,l⟩;have f:=fU m l m.size;rw[g.out];apply_assumption;cases t
    case false=>
     have a:=fS (show decide (xs=ys)=false from ia (fun e=>of_decide_eq_false g.out (by simp[e])));go_wp2_with fail;go_ret;exact⟨by rw[a.out];rfl,f⟩
    case true=>
     have HS:=fS (jx d.out hlt b (of_decide_eq_true g.out));go_wp2_with fail;go_roundw
     case rel=>exact⟨k+1,by go_num,fT,HS,f⟩
     case measure=>exact ms
   ·have a:=fS (show decide (xs=ys)=true from iW (j5 d.out fT j.out))
    go_wp2_with fail;go_ret;exact⟨by rw[a.out];rfl,c⟩
 ·have o:(((xs.length:Nat):Int) !=((ys.length:Nat):Int))=true:=by rw[bne_iff_ne];omega
  have a:=fS (show decide (xs=ys)=false from ia (fun h=>hl (by simp[h])));clear hl;go_enter Tryz.func23,Tryz.ntmps23;go_wp2_with fail;go_ret;exact⟨by rw[a.out];rfl,gM _ _⟩
def ko (l:il):List hY:=l.done.flatMap (fun p=>p.sends)
theorem yy (n:gT):jb n=n.kept++n.lanes.flatMap ko:=rfl
theorem re {α β:Type} (f:α→List β) (c:Nat):∀(xs:List α),(∀x∈xs,(f x).length≤c)→(xs.flatMap f).length≤c*xs.length
 | [],_=>by simp
 |x::xs,h=>by
  have h1:=h x sm;have h2:=re f c xs (fun y hy=>h y (by simp[hy]));simp only[List.flatMap_cons,List.length_append,List.length_cons,Nat.mul_add];omega
theorem mW {α β:Type} (f:α→List β) {xs:List α} {j:Nat} (h:j<xs.length):(xs.take (j+1)).flatMap f=(xs.take j).flatMap f++f xs[j]:=by
 rw[vX h,List.flatMap_append];simp
theorem pR {l:il} (h1:l.done.length≤101) (h2:∀r∈l.done,r.sends.length≤2∧r.outs.length≤2) (k:Nat):((l.done.take k).flatMap (fun p=>p.sends)).length≤202:=by
 have:=re (fun p:iP=>p.sends) 2 (l.done.take k) (fun x a=>(h2 x (List.mem_of_mem_take a)).1);have b:(l.done.take k).length≤101:=by rw[List.length_take];omega
 omega
theorem xF {n:gT} (h:lX n) (j:Nat):(n.kept++(n.lanes.take j).flatMap ko).length≤504:=by
 have c:=re ko 202 (n.lanes.take j) (fun l b=>by
  have:=h.done l (List.mem_of_mem_take b);have a:=pR this.1 this.2 l.done.length
  rwa [li] at a)
 have a:(n.lanes.take j).length≤2:=by rw[List.length_take];have:=h.lanes;omega
 have:=h.kept;rw[List.length_append];omega
theorem pV {n:gT} (h:lX n):(jb n).length≤504:=by
 have:=xF h n.lanes.length
 rwa [li] at this
theorem rI {n:gT} (h:lX n):∀i,(iY n i).length≤100*i
 |0=>by simp[iY]
 |i+1=>by
  have h1:=rI h i;have h2:(n.views.getD i ⟨0,0,[]⟩).events.length≤100:=by
   rw[List.getD_eq_getElem?_getD];cases hv:n.views[i]? with
   |none=>simp
   |some v=>exact h.evs v (List.mem_of_getElem? hv)
  simp only[iY];split
  ·omega
  ·rw[List.length_append];omega
theorem rH {α:Type} (p:α→Bool) {xs:List α} {k:Nat} (h:k<xs.length):(xs.take (k+1)).filter p=(xs.take k).filter p++(if p xs[k]=true then [xs[k]] else []):=by
 rw[vX h,List.filter_append];simp only[List.filter_cons,List.filter_nil]
theorem wB {α:Type} {p:α→Bool} {xs:List α} {k:Nat} (h:k<xs.length) (hp:p xs[k]=true):(xs.take (k+1)).filter p=(xs.take k).filter p++[xs[k]]:=by
 rw[rH p h,if_pos hp]
theorem wC {α:Type} {p:α→Bool} {xs:List α} {k:Nat} (h:k<xs.length) (hp:p xs[k]=false):(xs.take (k+1)).filter p=(xs.take k).filter p:=by
 rw[rH p h,if_neg (by rw[hp];simp),List.append_nil]
theorem wA {α:Type} (p:α→Bool) (xs:List α) (k:Nat):((xs.take k).filter p).length≤xs.length:=
 ly (List.length_filter_le _ _) (by rw[List.length_take];omega)
def lc (n:gT) (p:Int) (e:hY):Bool:=decide (e.to=p)&&decide (n.g≤e.time)
def F4 (n:gT) (p:Int) (e:hY):Bool:=decide (jk e.to=p)&&decide (n.known.getD p.toNat 0≤e.time)
theorem yx (n:gT) (p:Int):jq n p=iI ((jb n++k6 n).filter (lc n p)):=rfl
def Da (r:jL):Prop:=r.ops.length≤6
def FI (a:iy):Prop:=a.rules.length=3∧∀r∈a.rules,Da r
def Ep (vb vk vo vd:Value) (gm:Nat) (vn:Value) (n:gT):Array Value:= #[n.id,n.inc,n.g,n.led,vb,vk,vo,n.up,vd,n.version,.map (some gm),vn,n.round,n.low]
def tK (lo hi:Nat) (k:Nat):Prop:=k<lo∨hi≤k
def yc (gb:Nat) (vb vk vo vd:Value) (gm:Nat) (vn:Value) (vs:List Value) (rs:List (lz 1)) (n:gT):List tA:=[ml gb (Ep vb vk vo vd gm vn n) 247,ju (kF 1) 128 vd rs,rl gm vs,ju (jQ .i64) 3 vn n.known,ju nB 127 vb (n.lanes.map (fun l=>l.base))]
def tr {m:Nat} (r:lz m):Value:= .agg r.cs.toArray
structure mP (w:World) (lo hi gb:Nat) (vb vk vo vd:Value) (gm:Nat) (vn:Value) (vs:List (lz 3)) (rs:List (lz 1)) (n:gT):Prop where
 sets:jy w (fun k=>lo≤k∧k<hi) (yc gb vb vk vo vd gm vn (vs.map tr) rs n)
 size:lo≤hi∧hi≤w.heap.size
 done:kQ 1 (Ac kO) w (tK lo hi) rs (n.lanes.map (fun l=>l.done))
 ke:Rd iw w (tK lo hi) vk n.kept
 ou:Rd hJ w (tK lo hi) vo n.outs
 vi:kQ 3 pD w (tK lo hi) vs n.views
theorem mP.keep {w w':World} {lo hi gb:Nat} {vb vk vo vd:Value} {gm:Nat} {vn:Value} {vs:List (lz 3)} {rs:List (lz 1)} {n:gT} (h:mP w lo hi gb vb vk vo vd gm vn vs rs n) (hb:Below w.heap.size w w'):mP w' lo hi gb vb vk vo vd gm vn vs rs n:=
 ⟨h.sets.below hb,⟨h.size.1,ly h.size.2 hb.size⟩,h.done.below hb,h.ke.below hb,h.ou.below hb,h.vi.below hb⟩
theorem jy.bound {w:World} {F:Nat→Prop} {ps:List tA} (h:jy w F ps):jy w (fun k=>F k∧k<w.heap.size) ps:=by
 obtain⟨b,h⟩:=h;exact⟨b,fun i p c=>p.good.mono (fun k a=>⟨⟨a.1,a.2.1⟩,a.2.1,a.2.2⟩) (h i p c)⟩
theorem AK {α:Type} (xs:List α) (x:α) (m:Nat) (h:xs.length<m):(xs.map some++List.replicate (m-xs.length) none).set xs.length (some x)=(xs++[x]).map some++List.replicate (m-(xs++[x]).length) none:=by
 obtain⟨d,a⟩:∃d,m-xs.length=d+1:=⟨m-xs.length-1,fT⟩;rw[List.set_append_right _ _ sm,List.length_map,Nat.sub_self,a,List.replicate_succ,List.set_cons_zero,List.length_append,List.length_singleton,show m-(xs.length+1)=d by omega];simp
theorem Fp {w:World} {g:Nat} {cs:Array Value} {t:TypeId} (h:w.heap[g]? =some (.cells cs t (0,0))) (a b c d:Value):
  ((((w.setCell ⟨g,7,none⟩ a).setCell ⟨g,9,none⟩ b).setCell ⟨g,12,none⟩ c).setCell ⟨g,13,none⟩ d).heap[g]? =some (.cells ((((cs.setIfInBounds 7 a).setIfInBounds 9 b).setIfInBounds 12 c).setIfInBounds 13 d) t (0,0))∧Ch (fun k=>k=g) w ((((w.setCell ⟨g,7,none⟩ a).setCell ⟨g,9,none⟩ b).setCell ⟨g,12,none⟩ c).setCell ⟨g,13,none⟩ d):=
 ⟨gJ (gJ (gJ (gJ h 7 a) 9 b) 12 c) 13 d,Ch.setCell (p:=⟨g,13,none⟩) (Ch.setCell (p:=⟨g,12,none⟩) (Ch.setCell (p:=⟨g,9,none⟩) (Ch.setCell (p:=⟨g,7,none⟩) (Ch.refl (fun k=>k=g) w) (Or.inl rfl) _) (Or.inl rfl) _) (Or.inl rfl) _) (Or.inl rfl) _⟩
theorem xf {w:World} {g:Nat} {v0 v1 v2 v3 v4 v5 v6 v7 v8 v9 v10 v11 v12 v13:Value} {t:TypeId} {fr:Nat×Nat} (h:w.heap[g]? =some (.cells #[v0,v1,v2,v3,v4,v5,v6,v7,v8,v9,v10,v11,v12,v13] t fr)):w.cell? ⟨g,0,none⟩=some v0∧w.cell? ⟨g,1,none⟩=some v1∧w.cell? ⟨g,2,none⟩=some v2∧w.cell? ⟨g,3,none⟩=some v3∧w.cell? ⟨g,4,none⟩=some v4∧w.cell? ⟨g,5,none⟩=some v5∧w.cell? ⟨g,6,none⟩=some v6∧w.cell? ⟨g,7,none⟩=some v7∧w.cell? ⟨g,8,none⟩=some v8∧w.cell? ⟨g,9,none⟩=some v9∧w.cell? ⟨g,10,none⟩=some v10∧w.cell? ⟨g,11,none⟩=some v11∧w.cell? ⟨g,12,none⟩=some v12∧w.cell? ⟨g,13,none⟩=some v13:=
 ⟨fw h 0,fw h 1,fw h 2,fw h 3,fw h 4,fw h 5,fw h 6,fw h 7,fw h 8,fw h 9,fw h 10,fw h 11,fw h 12,fw h 13⟩
theorem BO (n:gT) (vl vk vo vv vn:Value) (F:Nat→Prop) (w:World) (h:i4 w F vl vk vo vv vn n) (hf:lX n) (hv3:n.views.length≤1000) (hk3:n.known.length=3):
  Calls Tryz.prog 154 #[.agg #[n.id,n.up,n.inc,n.g,vl,vk,vo,n.led,n.version,vv,vn,n.round,n.low]] w fun q w' =>∃gb vb vk vo vd gm vn vs rs,q= .returned (.pointer (some ⟨gb,0,none⟩))∧mP w' w.heap.size w'.heap.size gb vb vk vo vd gm vn vs rs n∧Below w.heap.size w w':=by
 have a3:=fS hk3;clear hk3;obtain⟨A1,c1,rfl,-⟩:=h.la.shape;obtain⟨T,V,rfl,-⟩:=h.ke.shape;obtain⟨U,X,rfl,-⟩:=h.ou.shape;obtain⟨A4,c4,rfl,-⟩:=h.vi.shape;obtain⟨A5,c5,rfl,-⟩:=h.kn.shape;obtain⟨W,hV,HW,Z⟩:=nC w (.cells #[n.id,n.up,n.inc,n.g,.slice A1 n.lanes.length c1,.slice T n.kept.length V,.slice U n.outs.length X,n.led,n.version,.slice A4 n.views.length c4,.slice A5 n.known.length c5,n.round,n.low] 57);go_enter Tryz.func154,Tryz.ntmps154;go_upto_region 1 with fail;rw[hV.out];clear hV;have hE:∀{k:Nat},F k∧k<w.heap.size→k<w.heap.size:=fun b=>b.2;have h0:i4 W (fun k=>k<w.heap.size) (.slice A1 n.lanes.length c1) (.slice T n.kept.length V) (.slice U n.outs.length X) (.slice A4 n.views.length c4) (.slice A5 n.known.length c5) n:=i4.below ⟨h.la.bound.mono (fun k b=>b.2),h.ke.bound.mono (fun k b=>b.2),h.ou.bound.mono (fun k b=>b.2),h.vi.bound.mono (fun k b=>b.2),h.kn.bound.mono (fun k b=>b.2)⟩ HW;clear h hE;have Q:w.heap.size<W.heap.size:=fx Z;obtain⟨d0,d1,d2,d3,d4,d5,d6,d7,d8,d9,A,C,D⟩:=jS Z;go_wp2_with fail;refine(Ck n _ _ _ _ _ _ W h0 hf).mono ?_;rintro q w1 ⟨ub,rfl,a',aB⟩;obtain⟨M,f,bw,-⟩:=a'.shape;rw[List.length_map] at bw;subst bw;apply_assumption;have Z1:=fu aB Q Z;clear d0 d1 d2 d3 d4 d5 d6 d7 d8 d9 A C D;obtain⟨d0,d1,d2,d3,d4,d5,d6,d7,d8,d9,A,C,D⟩:=jS Z1;go_wp2_with fail;have b8:=hf.lanes;have h1:=h0.below aB;obtain⟨y2,z2,bR,-⟩:=h1.ke.shape;refine(BL n.id n.inc n.g n.led M n.lanes.length f (.slice T n.kept.length V) (.slice U n.outs.length X) w1 fT rfl rfl).mono ?_;clear bR y2 z2;rintro q w2 ⟨gb,gm,a,r,rfl,a5,ba⟩;apply_assumption;have bH:=(a5.mono (F':=fun k=>W.heap.size≤k) (fun k b=>ly aB.size b));have br:jy w1 (fun k=>W.heap.size≤k) [ju nB 127 (.slice M n.lanes.length f) (n.lanes.map (fun l=>l.base))]:=(jy.of (fun _ k=>W.heap.size≤k) (fun _ _ b=>b) (fun i j k hi hj bP _ _=>bP (by have:i<1:=hi;have:j<1:=hj;omega)) (fun i p J=>by match i,J with|0,J=>cases J;exact a'));have bq:=(br.join ba a5 (fun _ h=>h) (fun k b=>ly aB.size b)).pick [1,3,2,4,0] dc [ml gb #[n.id,n.inc,n.g,n.led,.slice M n.lanes.length f,.slice T n.kept.length V,.slice U n.outs.length X,.bool false,.slice (some ⟨a,0,none⟩) n.lanes.length n.lanes.length,.int .i64 0,.map (some gm),.slice (some ⟨r,0,none⟩) 3 3,.int .i64 0,.int .i64 41] 247,ju (lO (kF 1)) 128 (.slice (some ⟨a,0,none⟩) n.lanes.length n.lanes.length) (List.replicate n.lanes.length none),rl gm [],ju (lO (jQ .i64)) 3 (.slice (some ⟨r,0,none⟩) 3 3) (List.replicate 3 none),ju nB 127 (.slice M n.lanes.length f) (n.lanes.map (fun l=>l.base))] (fun i p J=>by match i,J with|0,J=>cases J;exact⟨_,rfl,rfl⟩|1,J=>cases J;exact⟨_,rfl,rfl⟩|2,J=>cases J;exact⟨_,rfl,rfl⟩|3,J=>cases J;exact⟨_,rfl,rfl⟩|4,J=>cases J;exact⟨_,rfl,rfl⟩);have s:=fU aB ba aB.size;have Z2:=fu s Q Z;clear d0 d1 d2 d3 d4 d5 d6 d7 d8 d9 A C D a5 bH br a' ba aB h1 Z1;go_upto_region 2 with fail;obtain⟨d0,d1,d2,d3,d4,d5,d6,d7,d8,d9,A,C,D⟩:=jS Z2;have bo:kQ 1 (Ac kO) w2 (fun k=>k<w.heap.size) [] ((n.lanes.take 0).map (fun l=>l.done)):=by simpa using kQ.nil
 go_wp2_with fail;clear d0 d1 d2 d3 d4 d5 d6 d7 d8 d9 A C D
 go_loopw [14] (fun i wr=>∃(k:Nat) (rs:List (lz 1)),i= .int .i64 k∧k≤n.lanes.length∧rs.length=k∧jy wr (fun k=>W.heap.size≤k) [ml gb #[n.id,n.inc,n.g,n.led,.slice M n.lanes.length f,.slice T n.kept.length V,.slice U n.outs.length X,.bool false,.slice (some ⟨a,0,none⟩) n.lanes.length n.lanes.length,.int .i64 0,.map (some gm),.slice (some ⟨r,0,none⟩) 3 3,.int .i64 0,.int .i64 41] 247,ju (lO (kF 1)) 128 (.slice (some ⟨a,0,none⟩) n.lanes.length n.lanes.length) (rs.map some++List.replicate (n.lanes.length-rs.length) none),rl gm [],ju (lO (jQ .i64)) 3 (.slice (some ⟨r,0,none⟩) 3 3) (List.replicate 3 none),ju nB 127 (.slice M n.lanes.length f) (n.lanes.map (fun l=>l.base))]∧kQ 1 (Ac kO) wr (fun k=>k<w.heap.size) rs ((n.lanes.take k).map (fun l=>l.done))∧Below W.heap.size W wr) (fun i _=>n.lanes.length-(intOf i).toNat)
 case atStart=>exact⟨0,[],rfl,j8 _,rfl,by simpa using bq,bo,s⟩
 case round=>
  clear bq bo s Z2;obtain⟨k,rs,rfl,b,bd,HS,HR,s⟩:=hrel;by_cases hlt:k<n.lanes.length
  ·have p0:(k:Int)<(n.lanes.length:Int):=fT
   have b7:(0:Int)≤(k:Int):=fT;obtain⟨b0,o0,O,P,a9,bO,y0,⟨y1,y2,y3⟩,y4,r1⟩:=mr (h0.la.below s) k hlt;subst a9;have aJ:=fS (show(n.lanes.take (k+1)).map (fun l=>l.done)=(n.lanes.take k).map (fun l=>l.done)++[n.lanes[k].done] by rw[vX hlt,List.map_append];rfl);obtain⟨x,hx⟩:∃x,n.lanes[k]=x:=⟨_,rfl⟩;rw[hx] at y0 y1 y2 y3 y4 r1 aJ;clear hx;go_upto_region 5 with fail;obtain⟨W5,hV,t,LX⟩:=nC wr (.cells #[x.proc,x.base.x,x.base.y,x.base.c,.slice O x.done.length P] 130);have aa:=HS.below t;have aF:=HR.below t;have r5:=r1.below t;have aC:=fU s t s.size;obtain⟨g,hg⟩:∃g,g=wr.heap.size:=⟨_,rfl⟩;rw[←hg] at LX;simp only[←hg];rw[hV.out];clear hV;clear hg y0 y1 y2 y3 y4 t HS HR s r1;have l4:=mN LX;have Bg:W5.heap[gb]? =some (.cells #[n.id,n.inc,n.g,n.led,.slice M n.lanes.length f,.slice T n.kept.length V,.slice U n.outs.length X,.bool false,.slice (some ⟨a,0,none⟩) n.lanes.length n.lanes.length,.int .i64 0,.map (some gm),.slice (some ⟨r,0,none⟩) 3 3,.int .i64 0,.int .i64 41] 247):=(show _∧_ from aa.get 0 rfl).2;obtain⟨al,am,an,ao,ap,aq,ar,au,av,aw,ax,ay,az,aA⟩:=xf Bg;obtain⟨Fi,E,G,-,S⟩:=aa.step 1 rfl;have d:Ow (lO (kF 1)) 128 W5 Fi (.slice (some ⟨a,0,none⟩) n.lanes.length n.lanes.length) (rs.map some++List.replicate (n.lanes.length-rs.length) none):=E;clear E;have b9:(.slice O x.done.length P:Value).oneCell' =true:=rfl;obtain⟨⟨u0,z0⟩,z1,z2,z3⟩:=d.setOne rfl (g:=a) rfl k (by simp;omega) (some ⟨[.slice O x.done.length P],rfl,fun u hu=>by simp at hu;subst hu;rfl⟩) (.slice O x.done.length P) rfl;have aM:Fi a:=d.inF rfl;go_wp2_with fail;refine kA [.rd [0,1,2,3,4,5,6,7]] [8] ?_;refine vL ?_;intro N hN;go_wp2_with fail;refine fV (hN _ ?_);clear hN N;refine vF ?_;go_wp2_with fail;have L:=S _ (ju (lO (kF 1)) 128 (.slice (some ⟨a,0,none⟩) n.lanes.length n.lanes.length) _) (fun k=>W.heap.size≤k) (z3.mono (fun q hq=>by have z:q=a:=hq;subst z;exact aM)) (z2.mono (fun q hq=>Or.inl hq)) (fun _ h=>h) (fun q hq=>ly aC.size hq);have I:=G a aM;have R:=aC.trans (z3.below (B:=W.heap.size) (fun q hq=>by have z:q=a:=hq;subst z;exact I.1) aC.size);have Y:=(aF.ch z3 (fun q hq e=>by have h1:q<w.heap.size:=hq;have z:q=a:=e;have h3:W.heap.size≤a:=I.1;omega));have r6:Rd kO _ (fun k=>k<w.heap.size) (.slice O x.done.length P) x.done:=r5.keep (fun q hq hl=>z3.block q hl (fun e=>by have h1:q<w.heap.size:=hq;have z:q=a:=e;have h3:W.heap.size≤a:=I.1;omega));have Y:=aF.ch z3 (fun q hq e=>by have h1:q<w.heap.size:=hq;have z:q=a:=e;have h3:W.heap.size≤a:=I.1;omega);have bp:=Y.snoc x.done ⟨[.slice O x.done.length P],rfl,fun u hu=>by simp at hu;subst hu;rfl⟩ ⟨_,rfl,r6⟩;rw[←aJ.out] at bp;subst bd;rw[AK rs _ _ hlt] at L;clear S d G z0 z1 z2 z3 Y aF aa r6 r5 al am an ao ap aq ar au av aw ax ay az aA;go_roundw
   case rel=>exact⟨rs.length+1,_,by go_num,fT,by simp,L.below (Below.drew (gM _ _)),bp,R.drew⟩
   case measure=>exact ms
  ·have bb:k=n.lanes.length:=fT
   have p0:¬(k:Int)<(n.lanes.length:Int):=fT;subst bb;rw[li] at HR;rw[bd,Nat.sub_self,List.replicate_zero,List.append_nil] at HS;go_upto_region 7 with fail;have Z2:=fu s Q Z;obtain⟨d0,d1,d2,d3,d4,d5,d6,d7,d8,d9,A,C,D⟩:=jS Z2;have bs:kQ 3 pD wr (fun k=>k<w.heap.size) [] (n.views.take 0):=by simpa using kQ.nil
   go_wp2_with fail;clear d0 d1 d2 d3 d4 d5 d6 d7 d8 d9 A C D bd b;skip
   go_loopw [31] (fun i wr=>∃(k:Nat) (vs:List (lz 3)),i= .int .i64 k∧k≤n.views.length∧vs.length=k∧jy wr (fun k=>W.heap.size≤k) [ml gb #[n.id,n.inc,n.g,n.led,.slice M n.lanes.length f,.slice T n.kept.length V,.slice U n.outs.length X,.bool false,.slice (some ⟨a,0,none⟩) n.lanes.length n.lanes.length,.int .i64 0,.map (some gm),.slice (some ⟨r,0,none⟩) 3 3,.int .i64 0,.int .i64 41] 247,ju (lO (kF 1)) 128 (.slice (some ⟨a,0,none⟩) n.lanes.length n.lanes.length) (rs.map some),rl gm (vs.map tr),ju (lO (jQ .i64)) 3 (.slice (some ⟨r,0,none⟩) 3 3) (List.replicate 3 none),ju nB 127 (.slice M n.lanes.length f) (n.lanes.map (fun l=>l.base))]∧kQ 3 pD wr (fun k=>k<w.heap.size) vs (n.views.take k)∧kQ 1 (Ac kO) wr (fun k=>k<w.heap.size) rs (n.lanes.map (fun l=>l.done))∧Below W.heap.size W wr) (fun i _=>n.views.length-(intOf i).toNat)
   case atStart=>exact⟨0,[],rfl,j8 _,rfl,HS,bs,HR,s⟩
   case round=>
    clear HS HR s Z2 bs;obtain⟨k,vs,rfl,b,bx,HS,HV,HR,s⟩:=hrel;by_cases hlt:k<n.views.length
    ·have p0:(k:Int)<(n.views.length:Int):=fT
     obtain⟨b0,o0,O,P,a9,bO,y0,y1,y2,r1⟩:=nO (h0.vi.below s) k hlt;subst a9;have aJ:=fS (vX hlt);obtain⟨x,hx⟩:∃x,n.views[k]=x:=⟨_,rfl⟩;rw[hx] at y0 y1 y2 r1 aJ;clear hx;go_upto_region 10 with fail;obtain⟨W5,hV,t,LX⟩:=nC wr (.cells #[x.inc,x.version,.slice O x.events.length P] 180);have aa:=HS.below t;have aF:=HR.below t;have bt:=HV.below t;have r5:=r1.below t;have aC:=fU s t s.size;obtain⟨g,hg⟩:∃g,g=wr.heap.size:=⟨_,rfl⟩;rw[←hg] at LX;simp only[←hg];rw[hV.out];clear hV;clear hg y0 y1 y2 t HS HR HV s r1;obtain⟨l0,l1,l2⟩:=Et LX;have Bg:W5.heap[gb]? =some (.cells #[n.id,n.inc,n.g,n.led,.slice M n.lanes.length f,.slice T n.kept.length V,.slice U n.outs.length X,.bool false,.slice (some ⟨a,0,none⟩) n.lanes.length n.lanes.length,.int .i64 0,.map (some gm),.slice (some ⟨r,0,none⟩) 3 3,.int .i64 0,.int .i64 41] 247):=(show _∧_ from aa.get 0 rfl).2;obtain⟨al,am,an,ao,ap,aq,ar,au,av,aw,ax,ay,az,aA⟩:=xf Bg;obtain⟨Fi,E,G,-,S⟩:=aa.step 2 rfl;have d:Fi gm∧W5.heap[gm]? =some (og (vs.map tr)):=E;clear E;have bQ:(vs.map (tr (m:=3))).length=k:=by rw[List.length_map,bx]
     have bv:=EI (w:=W5.drew) d.2 fT (.agg #[x.inc,x.version,.slice O x.events.length P]);rw[bQ] at bv;have I:=G gm d.1;have C5:=((Ch.refl (fun k=>k=gm) W5).drew).trans (ro W5.drew gm (og (vs.map tr++[.agg #[x.inc,x.version,.slice O x.events.length P]])));have L:=S _ (rl gm (vs.map tr++[.agg #[x.inc,x.version,.slice O x.events.length P]])) (fun k=>W.heap.size≤k) (C5.mono (fun q hq=>by have z:q=gm:=hq;subst z;exact d.1)) ⟨Or.inl d.1,rn (w:=W5.drew) d.2⟩ (fun _ h=>h) (fun q hq=>ly aC.size hq);have R:=aC.trans (C5.below (B:=W.heap.size) (fun q hq=>by have z:q=gm:=hq;subst z;exact I.1) aC.size);have aG:∀q,q<w.heap.size→¬q=gm:=fun q h1 z=>by have h3:W.heap.size≤gm:=I.1;omega
     have r6:Rd iw _ (fun k=>k<w.heap.size) (.slice O x.events.length P) x.events:=r5.keep (fun q hq hl=>C5.block q hl (aG q hq));have Y:=aF.ch C5 aG;have aU:=(bt.ch C5 aG).snoc x ⟨[.int .i64 x.inc,.int .i64 x.version,.slice O x.events.length P],rfl,fun u hu=>by simp only[List.mem_cons,List.not_mem_nil,or_false] at hu;rcases hu with rfl|rfl|rfl<;>rfl⟩ ⟨_,rfl,r6⟩;rw[←aJ.out] at aU;go_wp2_with fail;refine kA [.rd [0,1,2,3,4,5]] [6] ?_;refine vL ?_;intro N hN;go_wp2_with fail;refine fV (hN _ ?_);clear hN N;refine vF ?_;go_wp2_with fail;clear S d G C5 aF aa bt r6 r5 bv al am an ao ap aq ar au av aw ax ay az aA;go_roundw
     case rel=>exact⟨k+1,_,by go_num,fT,by simp[bx],by simpa [tr] using L,aU,Y,R⟩
     case measure=>exact ms
    ·have bb:k=n.views.length:=fT
     have p0:¬(k:Int)<(n.views.length:Int):=fT;subst bb;rw[li] at HV;go_upto_region 12 with fail;have Z2:=fu s Q Z;obtain⟨d0,d1,d2,d3,d4,d5,d6,d7,d8,d9,A,C,D⟩:=jS Z2;have Bg:wr.heap[gb]? =some (.cells #[n.id,n.inc,n.g,n.led,.slice M n.lanes.length f,.slice T n.kept.length V,.slice U n.outs.length X,.bool false,.slice (some ⟨a,0,none⟩) n.lanes.length n.lanes.length,.int .i64 0,.map (some gm),.slice (some ⟨r,0,none⟩) 3 3,.int .i64 0,.int .i64 41] 247):=(show _∧_ from HS.get 0 rfl).2;obtain⟨al,am,an,ao,ap,aq,ar,au,av,aw,ax,ay,az,aA⟩:=xf Bg;obtain⟨Fi,E,G,-,S⟩:=HS.step 3 rfl;have d:Ow (lO (jQ .i64)) 3 wr.drew Fi (.slice (some ⟨r,0,none⟩) 3 3) (List.replicate 3 none):=E;clear E;have aM:Fi r:=d.inF rfl;have I:=G r aM;go_wp2_with fail;refine kA [.rd [0,1,2,3,4,5]] [6] ?_;refine vL ?_;intro N hN;go_wp2_with fail;refine fV (hN _ ?_);clear hN N;refine vF ?_;refine xA rfl _ _ _ _ rfl Tryz.underlying55 gY d (h0.kn.below s.drew) (by simp[a3.out]) (by rw[a3.out]) (by rw[a3.out];decide) rfl rfl ?_;intro w9 bu C9;go_wp2_with fail;replace C9:=((Ch.refl (fun k=>k=r) wr).drew).trans C9;have L:=S _ (ju (jQ .i64) 3 (.slice (some ⟨r,0,none⟩) 3 3) n.known) (fun k=>W.heap.size≤k) (C9.mono (fun q hq=>by have z:q=r:=hq;subst z;exact aM)) (bu.mono (fun q hq=>Or.inl hq)) (fun _ h=>h) (fun q hq=>ly s.size hq);have R:=s.trans (C9.below (B:=W.heap.size) (fun q hq=>by have z:q=r:=hq;subst z;exact I.1) s.size);have aG:∀q,q<w.heap.size→¬q=r:=fun q h1 z=>by have h3:W.heap.size≤r:=I.1;omega
     have Y:=HR.ch C9 aG;have aU:=HV.ch C9 aG;clear S d G bu C9 HS HR HV al am an ao ap aq ar au av aw ax ay az aA d0 d1 d2 d3 d4 d5 d6 d7 d8 d9 A C D Bg Z2;have Z3:=fu R Q Z;obtain⟨d0,d1,d2,d3,d4,d5,d6,d7,d8,d9,A,C,D⟩:=jS Z3;have Bg:w9.heap[gb]? =some (.cells #[n.id,n.inc,n.g,n.led,.slice M n.lanes.length f,.slice T n.kept.length V,.slice U n.outs.length X,.bool false,.slice (some ⟨a,0,none⟩) n.lanes.length n.lanes.length,.int .i64 0,.map (some gm),.slice (some ⟨r,0,none⟩) 3 3,.int .i64 0,.int .i64 41] 247):=(show _∧_ from L.get 0 rfl).2;have b5:=ft Bg;obtain⟨al,am,an,ao,ap,aq,ar,au,av,aw,ax,ay,az,aA⟩:=xf Bg;go_upto_region 13 with fail;go_wp2_with fail;refine gV (fun w' =>Ch (fun k=>k=gb) w9 w') [tT 0,tT 1,tT 2,tT 3,tT 4,tT 5,tT 6,tT 7,tT 8,tT 9,tT 10,tT 11,tT 12,tT 13,tF 14,tT 15,tT 16,tF 17,tT 18,tT 19,tF 20,tT 21,tT 22,tF 23] gY gY qP ?_;have HS:=(Ch.refl (fun k=>k=gb) w9).drew;have aW:w.heap.size≠gb:=fun e=>by have:W.heap.size≤gb:=(show _∧_ from L.get 0 rfl).1;omega
     have aX:w.heap.size<w9.heap.size:=fx Z3
     iterate 14 (refine jc (v:=?_) (by rfl) HS (by rfl) ?_ ?_;rotate_left;(focus (intro wS hS;obtain⟨H,kf⟩:=hS.cells;have kc:=fun o=>H w.heap.size o aX aW;clear H kf;go_simp;(try (with_reducible rfl));done));(intro K hK;go_simp;refine hK _ ?_;clear hK K))
     refine gU (by rfl) (by rfl) (fun K hK=>?_);go_simp;refine hK _ _ (Or.inr (Ch.setCell (p:=⟨gb,7,none⟩) HS (Or.inl rfl) _)) ?_;clear hK K;replace HS:=Ch.setCell (p:=⟨gb,7,none⟩) HS (Or.inl rfl) (.bool n.up)
     iterate 2 (refine jc (v:=?_) (by rfl) HS (by rfl) ?_ ?_;rotate_left;(focus (intro wS hS;obtain⟨H,kf⟩:=hS.cells;have kc:=fun o=>H w.heap.size o aX aW;clear H kf;go_simp;(try (with_reducible rfl));done));(intro K hK;go_simp;refine hK _ ?_;clear hK K))
     refine gU (by rfl) (by rfl) (fun K hK=>?_);go_simp;refine hK _ _ (Or.inr (Ch.setCell (p:=⟨gb,9,none⟩) HS (Or.inl rfl) _)) ?_;clear hK K;replace HS:=Ch.setCell (p:=⟨gb,9,none⟩) HS (Or.inl rfl) (.int .i64 n.version)
     iterate 2 (refine jc (v:=?_) (by rfl) HS (by rfl) ?_ ?_;rotate_left;(focus (intro wS hS;obtain⟨H,kf⟩:=hS.cells;have kc:=fun o=>H w.heap.size o aX aW;clear H kf;go_simp;(try (with_reducible rfl));done));(intro K hK;go_simp;refine hK _ ?_;clear hK K))
     refine gU (by rfl) (by rfl) (fun K hK=>?_);go_simp;refine hK _ _ (Or.inr (Ch.setCell (p:=⟨gb,12,none⟩) HS (Or.inl rfl) _)) ?_;clear hK K;replace HS:=Ch.setCell (p:=⟨gb,12,none⟩) HS (Or.inl rfl) (.int .i64 n.round)
     iterate 2 (refine jc (v:=?_) (by rfl) HS (by rfl) ?_ ?_;rotate_left;(focus (intro wS hS;obtain⟨H,kf⟩:=hS.cells;have kc:=fun o=>H w.heap.size o aX aW;clear H kf;go_simp;(try (with_reducible rfl));done));(intro K hK;go_simp;refine hK _ ?_;clear hK K))
     refine gU (by rfl) (by rfl) (fun K hK=>?_);go_simp;refine hK _ _ (Or.inl gY) ?_;clear hK K;simp only[iG];go_wp2_with fail;obtain⟨BR,CR⟩:=Fp Bg (.bool n.up) (.int .i64 n.version) (.int .i64 n.round) (.int .i64 n.low);have aI:∀k,w9.heap.size≤k→W.heap.size≤k:=fun q hq=>ly R.size hq;have aT:=(((L.store aI 7 (.bool n.up)).store (fun q hq=>by rw[World.size_setCell] at hq;exact aI q hq) 9 (.int .i64 n.version)).store (fun q hq=>by rw[World.size_setCell,World.size_setCell] at hq;exact aI q hq) 12 (.int .i64 n.round)).store (fun q hq=>by rw[World.size_setCell,World.size_setCell,World.size_setCell] at hq;exact aI q hq) 13 (.int .i64 n.low);simp only[qT,qU,qV] at aT BR;have b6:W.heap.size≤gb:=(show _∧_ from L.get 0 rfl).1;have bc:∀q,q<w.heap.size→¬q=gb:=fun q h1 z=>fT;have a4:=Y.ch CR bc;have a7:=aU.ch CR bc;have aV:=R.trans (CR.below (B:=W.heap.size) (fun q hq=>by have z:q=gb:=hq;omega) R.size);clear al am an ao ap aq ar au av aw ax ay az aA d0 d1 d2 d3 d4 d5 d6 d7 d8 d9 A C D;replace aT:=aT.below (Below.drew (gM _ _));replace a4:=a4.below (Below.drew (gM _ _));replace a7:=a7.below (Below.drew (gM _ _));replace aV:=aV.drew;clear BR CR;generalize ((((w9.setCell ⟨gb,7,none⟩ (.bool n.up)).setCell ⟨gb,9,none⟩ (.int .i64 n.version)).setCell ⟨gb,12,none⟩ (.int .i64 n.round)).setCell ⟨gb,13,none⟩ (.int .i64 n.low)).drew=w8 at*;go_ret;have bn:=fU HW aV HW.size;have aY:∀k,k<w.heap.size→tK w.heap.size w8.heap.size k:=fun k b=>Or.inl b;have h8:=h0.below aV;refine⟨gb,.slice M n.lanes.length f,.slice T n.kept.length V,.slice U n.outs.length X,.slice (some ⟨a,0,none⟩) n.lanes.length n.lanes.length,gm,.slice (some ⟨r,0,none⟩) 3 3,vs,rs,rfl,⟨?_,⟨bn.size,jn _⟩,a4.mono aY,h8.ke.mono aY,h8.ou.mono aY,a7.mono aY⟩,bn⟩;have HT:jy w8 (fun k=>W.heap.size≤k∧k<w8.heap.size) (yc gb (.slice M n.lanes.length f) (.slice T n.kept.length V) (.slice U n.outs.length X) (.slice (some ⟨a,0,none⟩) n.lanes.length n.lanes.length) gm (.slice (some ⟨r,0,none⟩) 3 3) (vs.map tr) rs n):=(aT.turn 1 rfl (ju (kF 1) 128 (.slice (some ⟨a,0,none⟩) n.lanes.length n.lanes.length) rs) (fun F h=>Ow.filled h)).bound;exact HT.mono (fun k b=>⟨ly (Nat.le_of_lt Q) b.1,b.2⟩)
theorem mP.vdS {w:World} {lo hi gb:Nat} {vb vk vo vd:Value} {gm:Nat} {vn:Value} {vs:List (lz 3)} {rs:List (lz 1)} {n:gT} (h:mP w lo hi gb vb vk vo vd gm vn vs rs n):∃A c,vd= .slice A n.lanes.length c:=by
 obtain⟨A,c,a,-⟩:=(show Ow (kF 1) 128 w _ vd rs from h.sets.get 1 rfl).shape;have:=h.done.1;rw[List.length_map] at this;rw[this] at a;exact⟨A,c,a⟩
theorem tR {w:World} {lo hi gb:Nat} {vb vk vo:Value} {Ad:Option Addr} {m cd:Nat} {gm:Nat} {vn:Value} {vs:List (lz 3)} {rs:List (lz 1)} {n:gT} (h:mP w lo hi gb vb vk vo (.slice Ad m cd) gm vn vs rs n) (j:Nat) (hj:j<n.lanes.length):
  ∃b o A c,Ad=some ⟨b,o,none⟩∧b<w.heap.size∧w.cell? ⟨b,o+j,none⟩=some (.slice A n.lanes[j].done.length c)∧Rd kO w (tK lo hi) (.slice A n.lanes[j].done.length c) n.lanes[j].done:=by
 have q:Ow (kF 1) 128 w _ (.slice Ad m cd) rs:=h.sets.get 1 rfl;have t:=h.done.1;rw[List.length_map] at t;obtain⟨b,o,g,p,-,s,u,x⟩:=q.rd.at_ j fT;obtain⟨r,a,v,y,f⟩:=h.done.2 j n.lanes[j].done (by rw[List.getElem?_map,pE hj];rfl);rw[pE fT] at a;have i:=Option.some.inj a;have d:g=rs[j].cs:=u;rw[i] at d;have k:=d.trans y;have e:=x 0 v (by rw[k];rfl);obtain⟨A,c,rfl,-⟩:=f.shape;refine⟨b,o,A,c,p,s,?_,f⟩;have l:(kF 1).sz=1:=rfl;rw[l,Nat.mul_one,Nat.add_zero] at e;exact e
def FX {α:Type} (d:Ty α) (e:TypeId):Ty (List α) where
 sz:=1
 rel:=fun w F xs cs=>∃v,cs=[v]∧Ow d e w F v xs
 len:=fun ⟨v,h,_⟩=>by rw[h];rfl
 one:=fun ⟨v,h,h1⟩ u hu=>by
  have g1:=h1.oneCell;rw[h] at hu;simp only[List.mem_cons,List.not_mem_nil,or_false] at hu;rcases hu with rfl;assumption
 mono:=fun hF ⟨v,h,h1⟩=>⟨v,h,h1.mono hF⟩
 move:=fun hm ⟨v,h,h1⟩=>⟨v,h,h1.move hm⟩
 bound:=fun ⟨v,h,h1⟩=>⟨v,h,h1.bound⟩
def FR (n:gT) (j:Nat):List (List hY):=((([0,1,2]:List Int).take j).filter (fun p:Int=>decide (p≠n.id))).map (qA n)
end Go.Proofs.YtlndjfflhegkdaaGreatDoor
