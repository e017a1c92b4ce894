/- Parts of the proof: Ng1, Ne4. -/
import Derived.Test.YtgilllnjhahkfaaGreatQ23
import Derived.Test.YtgilllnjhahkfaaGreatQ32
import Derived.Test.YtgilllnjhahkfaaGreatQ35
set_option linter.unusedVariables false
set_option linter.unusedSimpArgs false
set_option linter.unusedSectionVars false
set_option maxHeartbeats 4000000
set_option maxRecDepth 100000
namespace Go.Proofs.YtgilllnjhahkfaaGreat
open Go.RowKit
def pJ (m n:gW):Nat→Int
 |0=>n.version
 |k+1=>if (k:Int)≠n.id∧iV m (k:Int)≠iV n (k:Int) then m.version+1 else pJ m n k
theorem yr {m n:gW} (h:m.id=n.id):pJ m n 3=(ik m n).version:=by
 have b:((0:Nat):Int)=0:=rfl;have c:((1:Nat):Int)=1:=rfl;have d:((2:Nat):Int)=2:=rfl;have a:oa m=oa n↔((0:Int)≠n.id→iV m 0=iV n 0)∧((1:Int)≠n.id→iV m 1=iV n 1)∧((2:Int)≠n.id→iV m 2=iV n 2):=by
  unfold oa;rw[h];by_cases a0:(0:Int)=n.id<;>by_cases a1:(1:Int)=n.id<;>by_cases a2:(2:Int)=n.id<;>simp[a0,a1,a2,List.filter_cons]
 unfold ik;simp only[pJ,b,c,d];by_cases hh:oa m=oa n
 ·rw[if_pos hh]
  obtain⟨f,i,j⟩:=a.1 hh;rw[if_neg (fun e=>e.2 (j e.1)),if_neg (fun e=>e.2 (i e.1)),if_neg (fun e=>e.2 (f e.1))]
 ·rw[if_neg hh]
  by_cases b2:(2:Int)≠n.id∧iV m 2≠iV n 2
  ·rw[if_pos b2]
  ·rw[if_neg b2]
   by_cases b1:(1:Int)≠n.id∧iV m 1≠iV n 1
   ·rw[if_pos b1]
   ·rw[if_neg b1]
    by_cases b0:(0:Int)≠n.id∧iV m 0≠iV n 0
    ·rw[if_pos b0]
    ·exact absurd (a.2 ⟨fun g=>Classical.not_not.1 fun e=>b0 ⟨g,e⟩,fun g=>Classical.not_not.1 fun e=>b1 ⟨g,e⟩,fun g=>Classical.not_not.1 fun e=>b2 ⟨g,e⟩⟩) hh
theorem tG (n:gW) (v:Int) (vl vk vo vv vn:Value) (p:Int) (F:Nat→Prop) (w:World) (h:iA w F vl vk vo vv vn n) (hf:iG n) (hp0:0≤p) (hp3:p<3):
  Calls Tryz.prog 88 #[.agg #[n.id,n.up,n.inc,n.g,vl,vk,vo,n.led,v,vv,vn,n.round,n.low],p] w fun q w' =>∃u,q= .returned u∧Ow iC 132 w' (fun k=>w.heap.size≤k) u (iV n p)∧Below w.heap.size w w':=
 rK {n with version:=v} vl vk vo vv vn p F w ⟨h.la,h.ke,h.ou,h.vi,h.kn⟩ ⟨hf.kept,hf.outs,hf.lanes,hf.done,hf.views,hf.evs,hf.known⟩ hp0 hp3
theorem zb (m n:gW) (vl vk vo vv vn ul uk uo uv un:Value) (F G:Nat→Prop) (w:World) (hm:iA w F vl vk vo vv vn m) (hn:iA w G ul uk uo uv un n) (hfm:iG m) (hfn:iG n) (hid':m.id=n.id) (hv0:0≤m.version) (hv1:m.version<9999):
  Calls Tryz.prog 28 #[.agg #[m.id,m.up,m.inc,m.g,vl,vk,vo,m.led,m.version,vv,vn,m.round,m.low],.agg #[n.id,n.up,n.inc,n.g,ul,uk,uo,n.led,n.version,uv,un,n.round,n.low]] w fun q w' =>q= .returned (.agg #[.int .i64 (ik m n).id,.bool (ik m n).up,.int .i64 (ik m n).inc,.int .i64 (ik m n).g,ul,uk,uo,.int .i64 (ik m n).led,.int .i64 (ik m n).version,uv,un,.int .i64 (ik m n).round,.int .i64 (ik m n).low])∧Below w.heap.size w w':=by
 obtain⟨A1,c1,rfl,-⟩:=hm.la.shape;obtain⟨A2,c2,rfl,-⟩:=hm.ke.shape;obtain⟨A3,c3,rfl,-⟩:=hm.ou.shape;obtain⟨A4,c4,rfl,-⟩:=hm.vi.shape;obtain⟨A5,c5,rfl,-⟩:=hm.kn.shape;obtain⟨B1,x1,rfl,-⟩:=hn.la.shape;obtain⟨B2,x2,rfl,-⟩:=hn.ke.shape;obtain⟨B3,x3,rfl,-⟩:=hn.ou.shape;obtain⟨B4,x4,rfl,-⟩:=hn.vi.shape;obtain⟨B5,x5,rfl,-⟩:=hn.kn.shape;have a0:=gP hid';clear hid';obtain⟨W,hV,HW,Z,Y,ZR⟩:=Ee w (.cells #[m.id,m.up,m.inc,m.g,.slice A1 m.lanes.length c1,.slice A2 m.kept.length c2,.slice A3 m.outs.length c3,m.led,m.version,.slice A4 m.views.length c4,.slice A5 m.known.length c5,m.round,m.low] 37) (.cells #[n.id,n.up,n.inc,n.g,.slice B1 n.lanes.length x1,.slice B2 n.kept.length x2,.slice B3 n.outs.length x3,n.led,n.version,.slice B4 n.views.length x4,.slice B5 n.known.length x5,n.round,n.low] 37) (.cells #[.int .i64 0,.bool false,.int .i64 0,.int .i64 0,.slice none 0 0,.slice none 0 0,.slice none 0 0,.int .i64 0,.int .i64 0,.slice none 0 0,.slice none 0 0,.int .i64 0,.int .i64 0] 37);go_enter Tryz.func28,Tryz.ntmps28;go_upto_region 1 with fail;rw[hV.out];clear hV;have bc:iA W (fun k=>F k∧k<w.heap.size) (.slice A1 m.lanes.length c1) (.slice A2 m.kept.length c2) (.slice A3 m.outs.length c3) (.slice A4 m.views.length c4) (.slice A5 m.known.length c5) m:=iA.below ⟨hm.la.bound,hm.ke.bound,hm.ou.bound,hm.vi.bound,hm.kn.bound⟩ HW;have bd:iA W (fun k=>G k∧k<w.heap.size) (.slice B1 n.lanes.length x1) (.slice B2 n.kept.length x2) (.slice B3 n.outs.length x3) (.slice B4 n.views.length x4) (.slice B5 n.known.length x5) n:=iA.below ⟨hn.la.bound,hn.ke.bound,hn.ou.bound,hn.vi.bound,hn.kn.bound⟩ HW;clear hm hn;have bu:=gL Z;have bv:=gL Y;have bw:=gL ZR;go_wp2_with fail
 go_loopw [5] (fun i wr=>∃(k:Nat) (v:Int),i= .int .i64 k∧k≤3∧Hid (v=pJ m n k)∧wr.heap[w.heap.size+1]? =some (.cells #[n.id,n.up,n.inc,n.g,.slice B1 n.lanes.length x1,.slice B2 n.kept.length x2,.slice B3 n.outs.length x3,n.led,v,.slice B4 n.views.length x4,.slice B5 n.known.length x5,n.round,n.low] 37)∧Ch (fun q=>q=w.heap.size+1) W wr) (fun i _=>3-(intOf i).toNat)
 case atStart=>exact⟨0,n.version,rfl,jP _,gP rfl,Y,Ch.refl _ _⟩
 case round=>
  clear Y;obtain⟨k,v,rfl,hk,HV,r,t⟩:=hrel;have s:=t.heap Z gO;obtain⟨d0,d1,d2,d3,d4,d5,d6,d7,d8,d9,A,C,D⟩:=hJ s;obtain⟨E,H,I,J,L,M,O,P,Q,R,S,T,U⟩:=hJ r;by_cases hlt:k<3
  ·have p0:(k:Int)<3:=gO
   by_cases he:(k:Int)=n.id
   case pos=>
    have e0:((k:Int) !=n.id)=false:=by simpa using he
    have HT:=gP (show pJ m n (k+1)=pJ m n k by simp only[pJ];rw[if_neg (fun e=>e.1 he)]);clear he;go_upto_region 4 with fail;refine kg [.rd [0,1,2,3,4,5,6,8,9],.mid 7,.mid 10,.mid 11] [12,13] ?_
    repeat (first|(refine vL ?_;intro N hN;go_wp2_with fail;refine gR (hN _ ?_);clear hN N)|(refine vM ?_;intro N hN;go_wp2_with fail;refine vN (gY _ _) (hN _ _ ?_);clear hN))
    refine vF ?_;have bb:=t.drew;go_wp2_with fail;go_roundw
    case rel=>exact⟨k+1,v,by go_num,gO,gP (by rw[HT.out];exact HV.out),r,bb⟩
    case measure=>exact ms
   have e0:((k:Int) !=n.id)=true:=by simpa using he
   have a1:=gP he;clear he;obtain⟨u,aE⟩:∃u,iV m (k:Int)=u:=⟨_,rfl⟩;have y:=gP aE;clear aE;obtain⟨x,aF⟩:∃x,iV n (k:Int)=x:=⟨_,rfl⟩;have z:=gP aF;clear aF;have X:(k:Int)<3:=p0;have V:(0:Int)≤(k:Int):=gO;have aa:iA wr F (.slice A1 m.lanes.length c1) (.slice A2 m.kept.length c2) (.slice A3 m.outs.length c3) (.slice A4 m.views.length c4) (.slice A5 m.known.length c5) m:=bc.ch t (fun q hq e=>by have h9:q=w.heap.size+1:=e;have:=hq.2;omega) |>.mono (fun q hq=>hq.1)
   have ab:iA wr G (.slice B1 n.lanes.length x1) (.slice B2 n.kept.length x2) (.slice B3 n.outs.length x3) (.slice B4 n.views.length x4) (.slice B5 n.known.length x5) n:=bd.ch t (fun q hq e=>by have h9:q=w.heap.size+1:=e;have:=hq.2;omega) |>.mono (fun q hq=>hq.1)
   by_cases q:u=x
   case pos=>
    have hd:decide (u=x)=true:=jT q;have HT:=gP (show pJ m n (k+1)=pJ m n k by simp only[pJ];rw[if_neg (fun e=>e.2 (by rw[y.out,z.out,q]))]);clear q;go_upto_region 4 with fail;refine kg [.rd [0,1,2,3,4,5,6,8,9],.mid 7,.mid 10,.mid 11] [12,13] ?_;refine vL ?_;intro N hN;go_wp2_with fail;refine gR (hN _ ?_);clear hN N;refine vM ?_;intro N hN;go_wp2_with fail;refine(rK m _ _ _ _ _ (k:Int) F _ (aa.below (gY wr.heap.size wr).drew) hfm V X).mono ?_;rintro q w7 ⟨u7,rfl,j,d⟩;rw[y.out] at j;obtain⟨C1,a5,rfl,-⟩:=j.shape;apply_assumption;refine vN d (hN _ _ ?_);clear hN;refine vM ?_;intro N hN;go_wp2_with fail;refine(tG n v _ _ _ _ _ (k:Int) G _ (ab.below (gV (gY wr.heap.size wr).drew d)) hfn V X).mono ?_;rintro q bf ⟨u10,rfl,b,f⟩;rw[z.out] at b;obtain⟨C2,a6,rfl,-⟩:=b.shape;have a:=gQ d f d.size;apply_assumption;refine vN a (hN _ _ ?_);clear hN;refine vM ?_;intro N hN;go_wp2_with fail;refine(xg _ _ u x _ _ _ (j.rd.below f) b.rd).mono ?_;rintro q bg ⟨rfl,l⟩;rw[hd];have c:=gQ a l a.size;apply_assumption;refine vN c (hN _ _ ?_);clear hN;refine vF ?_;have o:=gV (gY wr.heap.size wr).drew c;have ak:=t.trans (Ch.of_below o);have Yu:=gJ o (gL r) r;have Zu:=gJ o (gL s) s;clear d f a l c j b aa ab d0 d1 d2 d3 d4 d5 d6 d7 d8 d9 A C D E H I J L M O P Q R S T U r s;go_wp2_with fail;go_roundw
    case rel=>exact⟨k+1,v,by go_num,gO,gP (by rw[HT.out];exact HV.out),Yu,ak⟩
    case measure=>exact ms
   have hd:decide (u=x)=false:=iU q;have HT:=gP (show pJ m n (k+1)=m.version+1 by simp only[pJ];rw[if_pos ⟨a1.out,by rw[y.out,z.out];exact q⟩]);clear q;go_upto_region 4 with fail;refine kg [.rd [0,1,2,3,4,5,6,8,9],.mid 7,.mid 10,.mid 11] [12,13] ?_;refine vL ?_;intro N hN;go_wp2_with fail;refine gR (hN _ ?_);clear hN N;refine vM ?_;intro N hN;go_wp2_with fail;refine(rK m _ _ _ _ _ (k:Int) F _ (aa.below (gY wr.heap.size wr).drew) hfm V X).mono ?_;rintro q w7 ⟨u7,rfl,j,d⟩;rw[y.out] at j;obtain⟨C1,a5,rfl,-⟩:=j.shape;apply_assumption;refine vN d (hN _ _ ?_);clear hN;refine vM ?_;intro N hN;go_wp2_with fail;refine(tG n v _ _ _ _ _ (k:Int) G _ (ab.below (gV (gY wr.heap.size wr).drew d)) hfn V X).mono ?_;rintro q bf ⟨u10,rfl,b,f⟩;rw[z.out] at b;obtain⟨C2,a6,rfl,-⟩:=b.shape;have a:=gQ d f d.size;apply_assumption;refine vN a (hN _ _ ?_);clear hN;refine vM ?_;intro N hN;go_wp2_with fail;refine(xg _ _ u x _ _ _ (j.rd.below f) b.rd).mono ?_;rintro q bg ⟨rfl,l⟩;rw[hd];have c:=gQ a l a.size;apply_assumption;refine vN c (hN _ _ ?_);clear hN;refine vF ?_;have o:=gV (gY wr.heap.size wr).drew c;have ak:=t.trans (Ch.of_below o);have Yu:=gJ o (gL r) r;have Zu:=gJ o (gL s) s;clear d f a l c j b aa ab d0 d1 d2 d3 d4 d5 d6 d7 d8 d9 A C D E H I J L M O P Q R S T U r s;obtain⟨d0,d1,d2,d3,d4,d5,d6,d7,d8,d9,A,C,D⟩:=hJ Zu;obtain⟨E,H,I,J,L,M,O,P,Q,R,S,T,U⟩:=hJ Yu;have fy:=ft Yu;go_wp2_with fail;have Y9:=gN Yu 8 (.int .i64 (m.version+1));simp only[mo,mp,ml] at Y9;have ba:=ak.setCell (p:=⟨w.heap.size+1,8,none⟩) (Or.inl rfl) (.int .i64 (m.version+1));go_roundw
   case rel=>exact⟨k+1,m.version+1,by go_num,gO,gP HT.out.symm,Y9,ba⟩
   case measure=>exact ms
  ·have aD:k=3:=gO
   have HF:=gP (show v=(ik m n).version by rw[HV.out,aD,yr a0.out]);have HG:=gP (show(ik m n).id=n.id∧(ik m n).up=n.up∧(ik m n).inc=n.inc∧(ik m n).g=n.g∧(ik m n).led=n.led∧(ik m n).round=n.round∧(ik m n).low=n.low by unfold ik;split<;>exact⟨rfl,rfl,rfl,rfl,rfl,rfl,rfl⟩);have aj:=t.heap ZR gO;have bt:=ft aj;obtain⟨g0,g1,g2,g3,g4,g5,g6,g7,g8,g9,a7,a8,a9⟩:=hJ aj;subst aD;go_wp2_with fail;refine m5 aj ?_;intro V9 BR CR;have a':=HW.trans ((t.mono (S':=fun q=>w.heap.size≤q) (fun q hq=>by have h9:q=w.heap.size+1:=hq;omega)).then CR (fun q hq=> .inl (by have h9:q=w.heap.size+1+1:=hq;omega)) |>.below (B:=w.heap.size) (fun q hq=>hq) HW.size);clear g0 g1 g2 g3 g4 g5 g6 g7 g8 g9 a7 a8 a9 d0 d1 d2 d3 d4 d5 d6 d7 d8 d9 A C D E H I J L M O P Q R S T U s;obtain⟨s0,s1,s2,s3,s4,s5,s6,s7,s8,s9,bx,bz,bA⟩:=hJ BR;refine bodyPost_ret (v:= .agg #[n.id,n.up,n.inc,n.g,.slice B1 n.lanes.length x1,.slice B2 n.kept.length x2,.slice B3 n.outs.length x3,n.led,v,.slice B4 n.views.length x4,.slice B5 n.known.length x5,n.round,n.low]) (by simp only[results,Tryz.results28];go_simp) rfl ⟨?_,a'⟩;obtain⟨g1,g2,g3,g4,g5,g6,g7⟩:=HG.out;rw[g1,g2,g3,g4,g5,g6,g7,HF.out]
def sV (m:Int) (x:jl):jl:=⟨m,m+1,iK nK 7 (m+1+1) x.events.length⟩
def iH:List jl→Int
 | []=>0
 |r::rs=>(2+7*(r.events.length:Int))+iH rs
theorem lh:∀rs,0≤iH rs
 | []=>Int.le_refl _
 |r::rs=>by have:=lh rs;have h2:0≤(2+7*(r.events.length:Int)):=gO;simp only[iH];omega
theorem pp:∀(rs:List jl) (k:Nat) (h:k<rs.length),iH (rs.take (k+1))=iH (rs.take k)+(2+7*(rs[k].events.length:Int))
 |r::rs,0,h=>by simp[iH]
 |r::rs,k+1,h=>by
  have:=pp rs k (by simpa using h);simp only[List.take_succ_cons,iH,List.getElem_cons_succ] at this ⊢;omega
theorem wj:∀(rs:List jl) (k:Nat),iH (rs.take k)≤iH rs
 | [],k=>by simp
 |r::rs,0=>by simpa [iH] using lh (r::rs)
 |r::rs,k+1=>by have:=wj rs k;simp only[List.take_succ_cons,iH];omega
def jt (m:Int):List jl→List jl
 | []=>[]
 |x::xs=>sV m x::jt (m+(2+7*(x.events.length:Int))) xs
theorem mw:∀(xs:List jl) (m:Int),(jt m xs).length=xs.length
 | [],_=>rfl
 |x::xs,m=>by simp[jt,mw xs]
theorem tU:∀(xs:List jl) (m:Int) (j:Nat) (h:j<xs.length),(jt m xs)[j]? =some (sV (m+iH (xs.take j)) xs[j])
 |x::xs,m,0,h=>by simp[jt,iH]
 |x::xs,m,j+1,h=>by
  have:=tU xs (m+(2+7*(x.events.length:Int))) j (by simpa using h);simp only[jt,List.getElem?_cons_succ,List.take_succ_cons,iH,List.getElem_cons_succ];rw[this,Int.add_assoc m]
theorem tR:∀(xs ys:List jl) (m:Int),jt m (xs++ys)=jt m xs++jt (m+iH xs) ys
 | [],ys,m=>by simp[jt,iH]
 |x::xs,ys,m=>by simp only[List.cons_append,jt,tR xs,iH,Int.add_assoc]
theorem yM (xs:List jl) (m t:Int) (k:Nat) (h:k<xs.length) (ht:t=m+iH (xs.take k)):(jt m (xs.take k)++xs.drop k).set k (sV t xs[k])=jt m (xs.take (k+1))++xs.drop (k+1):=by
 have a:(jt m (xs.take k)).length=k:=by rw[mw,List.length_take];omega
 rw[List.set_append_right _ _ gO,a,Nat.sub_self,List.drop_eq_getElem_cons h,List.set_cons_zero,qp h,tR,List.append_assoc,ht];rfl
theorem xT (xs:List jl) (m:Int) (k:Nat) (h:k≤xs.length):(jt m (xs.take k)++xs.drop k).length=xs.length:=by
 rw[List.length_append,mw,List.length_take,List.length_drop];omega
theorem zN (xs:List jl) (m:Int) (k:Nat) (h:k<xs.length) (h':k<(jt m (xs.take k)++xs.drop k).length):(jt m (xs.take k)++xs.drop k)[k]=xs[k]:=by
 have a:(jt m (xs.take k)).length=k:=by rw[mw,List.length_take];omega
 apply Option.some.inj;rw[←mc,List.getElem?_append_right gO,a,Nat.sub_self,List.getElem?_drop,Nat.add_zero,mc h]
theorem rh (rs:List jl) (k:Nat) (h:k<rs.length):0≤iz (rs.take k)∧iz (rs.take k)+(rs[k].events.length:Int)≤iz rs:=
 ⟨i5 _,by rw[←nz rs k h];exact rL _ _⟩
theorem nZ:∀rs,iH rs≤14*(rs.length:Int)+10*iz rs
 | []=>Int.le_refl _
 |r::rs=>by have:=nZ rs;simp only[iH,iz,List.length_cons];push_cast;omega
theorem re (rs:List jl) (k:Nat) (h:k≤rs.length):0≤iH (rs.take k)∧iH (rs.take k)≤14*(rs.length:Int)+10*iz rs:=
 ⟨lh _,Int.le_trans (wj _ _) (nZ _)⟩
theorem yu (v:Value) (xs:List jl) (m:Int) (F:Nat→Prop) (w:World) (h:Ow jq 130 w F v xs) (hm0:0≤m) (hm1:m≤100000000) (hn:(xs.length:Int)+iz xs≤1048576):
  Calls Tryz.prog 60 #[v,.int .i64 m] w fun q w' =>q= .returned (.int .i64 (m+iH xs))∧Ow jq 130 w' F v (jt m xs)∧Ch F w w':=by
 obtain⟨A,c,rfl,-⟩:=h.shape;have au:=i5 xs;go_enter Tryz.func60,Tryz.ntmps60;go_wp2_with fail
 go_loopw [1,5] (fun l i wr=>∃(k:Nat) (t:Int),i= .int .i64 k∧k≤xs.length∧l= .int .i64 t∧Hid (t=m+iH (xs.take k))∧Ow jq 130 wr F (.slice A xs.length c) (jt m (xs.take k)++xs.drop k)∧Ch F w wr) (fun _ i _=>xs.length-(intOf i).toNat)
 case atStart=>exact⟨0,m,rfl,jP _,rfl,by show m=m+iH (xs.take 0);simp[iH],by simpa [jt] using h,Ch.refl _ _⟩
 case round=>
  clear h;obtain⟨k,t,rfl,hk,rfl,r,x,O⟩:=hrel;by_cases hlt:k<xs.length
  ·have aa:=xT xs m k hk
   obtain⟨g,c',B,hv,hF,ac,b⟩:=x.head gO;injection hv with hv1 hv2 hv3;subst hv1 hv3;have d:k<(jt m (xs.take k)++xs.drop k).length:=gO;obtain⟨L,ar,⟨vs,Z,n⟩,u,a,oI⟩:=x.updatePre (g:=g) rfl k d;subst Z;rw[zN xs m k hlt d] at n a oI;obtain⟨A1,c1,rfl,-⟩:=n.shape;have hz:jq.sz=3:=rfl;simp only[hz] at a oI;have S:=a 0 _ rfl;have z1:=a 1 _ rfl;have z2:=a 2 _ rfl;simp only[Nat.add_zero] at S;have f0:=ft b (k*3);have f1:=ft b (k*3+1);have X:=rh xs k hlt;have Y:=re xs k hk;have av:0≤t:=by have:=r.out;omega
   have aw:t≤200000000:=by have:=r.out;omega
   have I:xs[k].events.length≤1048576:=by have:=X.1;omega
   have P:Ch (fun q=>q=g) wr ((wr.setCell ⟨g,k*3,none⟩ (.int .i64 (t))).setCell ⟨g,k*3+1,none⟩ (.int .i64 (t+1))):=(Ch.setCell (p:=⟨g,k*3+1,none⟩) (Ch.setCell (p:=⟨g,k*3,none⟩) (Ch.refl (fun q=>q=g) _) (Or.inl rfl) _) (Or.inl rfl) _);have e:=n.ch P (fun q hq M=>(u q hq).2.1 M);have C:((wr.setCell ⟨g,k*3,none⟩ (.int .i64 (t))).setCell ⟨g,k*3+1,none⟩ (.int .i64 (t+1))).heap[g]? =some (.cells (tW B.toList (k*3) [.int .i64 (t),.int .i64 (t+1)]).toArray 130 (0,0)):=lP [.int .i64 (t),.int .i64 (t+1)] (k*3) wr B.toList (by simpa using b);have y:((wr.setCell ⟨g,k*3,none⟩ (.int .i64 (t))).setCell ⟨g,k*3+1,none⟩ (.int .i64 (t+1))).heap.size=wr.heap.size:=by simp
   have p0:(k:Int)<(xs.length:Int):=gO;have E:=gP (yM xs m t k hlt r.out);have z:=gP (show t+1+1+(7*(xs[k].events.length:Int))=m+iH (xs.take (k+1)) by
    have h1:=r.out;have h2:=pp xs k hlt;omega)
   obtain⟨s,H⟩:∃s,xs[k]=s:=⟨_,rfl⟩;rw[H] at E z e I oI S z1 z2;have U:=gP oI;have V:=gP P;have o:=gP y;have aq:=gP C;have HF:=gP hF;have HO:=gP x;clear oI a hz n hv2 H b X Y C P y aa d x;go_wp2_with fail;refine(pk _ s.events (t+1+1) L _ e gO gO I).mono ?_;rintro q R ⟨rfl,Q,j⟩;have f:∀q,(Value.slice A1 s.events.length c1).ownBlock=some q→L q:=fun q hq=>Q.inF hq;have G:Ow jq 130 R F (.slice (some ⟨g,0,none⟩) xs.length c) (jt m (xs.take (k+1))++xs.drop (k+1)):=by
    rw[←E.out];have ab:g<((wr.setCell ⟨g,k*3,none⟩ (.int .i64 (t))).setCell ⟨g,k*3+1,none⟩ (.int .i64 (t+1))).heap.size:=by rw[o.out];exact ac
    have:=U.out R (sV t s) [.int .i64 (t),.int .i64 (t+1)] L F sm (j.block g ab (fun hq=>(u g (f g hq)).2.1 rfl))
     (fun q hq J ae af=>(j.block q (by rw[o.out];exact J) (fun M=>af (f q M))).trans (V.out.block q J ae))
     ⟨_,rfl,Q⟩ (fun _ hq=>hq) (fun _ hq=>hq)
    exact this
   have D:Ch F w R:=O.trans ((V.out.mono (fun q hq=>by rw[hq];exact HF.out)).trans (j.mono (fun q hq=>(u q (f q hq)).1)));have HN:=gP G;have T:=gP D;clear G D O Q j e S z1 z2 f0 f1;apply_assumption;go_wp2_with fail;go_roundw
   case rel=>exact⟨k+1,_,by go_num,gO,rfl,z,HN.out,T.out⟩
   case measure=>exact ms
  ·have d:k=xs.length:=gO
   subst d;have W:Ow jq 130 wr F (.slice A xs.length c) (jt m xs):=by
    have:=x
    rwa [List.drop_length,List.append_nil,ld] at this
   go_wp2_with fail;go_ret;exact⟨by rw[r.out,ld];rfl,W,O⟩
def sZ (m:Int) (x:hZ):hZ:=⟨m,⟨m+1,m+1+1,m+1+1+1⟩,ju (m+1+1+1+1) x.done⟩
def ir:List hZ→Int
 | []=>0
 |r::rs=>(4+iF r.done)+ir rs
theorem ln:∀rs,0≤ir rs
 | []=>Int.le_refl _
 |r::rs=>by have:=ln rs;have h2:0≤(4+iF r.done):=(by have:=lU r.done;omega);simp only[ir];omega
theorem o8:∀(rs:List hZ) (k:Nat) (h:k<rs.length),ir (rs.take (k+1))=ir (rs.take k)+(4+iF rs[k].done)
 |r::rs,0,h=>by simp[ir]
 |r::rs,k+1,h=>by
  have:=o8 rs k (by simpa using h);simp only[List.take_succ_cons,ir,List.getElem_cons_succ] at this ⊢;omega
theorem uH:∀(rs:List hZ) (k:Nat),ir (rs.take k)≤ir rs
 | [],k=>by simp
 |r::rs,0=>by simpa [ir] using ln (r::rs)
 |r::rs,k+1=>by have:=uH rs k;simp only[List.take_succ_cons,ir];omega
def jo (m:Int):List hZ→List hZ
 | []=>[]
 |x::xs=>sZ m x::jo (m+(4+iF x.done)) xs
theorem mq:∀(xs:List hZ) (m:Int),(jo m xs).length=xs.length
 | [],_=>rfl
 |x::xs,m=>by simp[jo,mq xs]
theorem tN:∀(xs:List hZ) (m:Int) (j:Nat) (h:j<xs.length),(jo m xs)[j]? =some (sZ (m+ir (xs.take j)) xs[j])
 |x::xs,m,0,h=>by simp[jo,ir]
 |x::xs,m,j+1,h=>by
  have:=tN xs (m+(4+iF x.done)) j (by simpa using h);simp only[jo,List.getElem?_cons_succ,List.take_succ_cons,ir,List.getElem_cons_succ];rw[this,Int.add_assoc m]
theorem tE:∀(xs ys:List hZ) (m:Int),jo m (xs++ys)=jo m xs++jo (m+ir xs) ys
 | [],ys,m=>by simp[jo,ir]
 |x::xs,ys,m=>by simp only[List.cons_append,jo,tE xs,ir,Int.add_assoc]
theorem yI (xs:List hZ) (m t:Int) (k:Nat) (h:k<xs.length) (ht:t=m+ir (xs.take k)):(jo m (xs.take k)++xs.drop k).set k (sZ t xs[k])=jo m (xs.take (k+1))++xs.drop (k+1):=by
 have a:(jo m (xs.take k)).length=k:=by rw[mq,List.length_take];omega
 rw[List.set_append_right _ _ gO,a,Nat.sub_self,List.drop_eq_getElem_cons h,List.set_cons_zero,qp h,tE,List.append_assoc,ht];rfl
theorem xy (xs:List hZ) (m:Int) (k:Nat) (h:k≤xs.length):(jo m (xs.take k)++xs.drop k).length=xs.length:=by
 rw[List.length_append,mq,List.length_take,List.length_drop];omega
theorem Ax (xs:List hZ) (m:Int) (k:Nat) (h:k<xs.length) (h':k<(jo m (xs.take k)++xs.drop k).length):(jo m (xs.take k)++xs.drop k)[k]=xs[k]:=by
 have a:(jo m (xs.take k)).length=k:=by rw[mq,List.length_take];omega
 apply Option.some.inj;rw[←mc,List.getElem?_append_right gO,a,Nat.sub_self,List.getElem?_drop,Nat.add_zero,mc h]
theorem ri (rs:List hZ) (k:Nat) (h:k<rs.length):0≤ix (rs.take k)∧ix (rs.take k)+((rs[k].done.length:Int)+iy rs[k].done)≤ix rs:=
 ⟨i7 _,by rw[←np rs k h];exact rt _ _⟩
theorem nG:∀rs,ir rs≤14*(rs.length:Int)+10*ix rs
 | []=>Int.le_refl _
 |r::rs=>by have:=nG rs;have:=rH r.done;have:=iS r.done;simp only[ir,ix,List.length_cons];push_cast;omega
theorem rp (rs:List hZ) (k:Nat) (h:k≤rs.length):0≤ir (rs.take k)∧ir (rs.take k)≤14*(rs.length:Int)+10*ix rs:=
 ⟨ln _,Int.le_trans (uH _ _) (nG _)⟩
theorem za (v:Value) (xs:List hZ) (m:Int) (F:Nat→Prop) (w:World) (h:Ow iX 65 w F v xs) (hm0:0≤m) (hm1:m≤100000000) (hn:(xs.length:Int)+ix xs≤1048576):
  Calls Tryz.prog 57 #[v,.int .i64 m] w fun q w' =>q= .returned (.int .i64 (m+ir xs))∧Ow iX 65 w' F v (jo m xs)∧Ch F w w':=by
 obtain⟨A,c,rfl,-⟩:=h.shape;have aw:=i7 xs;go_enter Tryz.func57,Tryz.ntmps57;go_wp2_with fail
 go_loopw [1,5] (fun l i wr=>∃(k:Nat) (t:Int),i= .int .i64 k∧k≤xs.length∧l= .int .i64 t∧Hid (t=m+ir (xs.take k))∧Ow iX 65 wr F (.slice A xs.length c) (jo m (xs.take k)++xs.drop k)∧Ch F w wr) (fun _ i _=>xs.length-(intOf i).toNat)
 case atStart=>exact⟨0,m,rfl,jP _,rfl,by show m=m+ir (xs.take 0);simp[ir],by simpa [jo] using h,Ch.refl _ _⟩
 case round=>
  clear h;obtain⟨k,t,rfl,hk,rfl,r,u,O⟩:=hrel;by_cases hlt:k<xs.length
  ·have Z:=xy xs m k hk
   obtain⟨g,c',C,hv,hF,ab,a⟩:=u.head gO;injection hv with hv1 hv2 hv3;subst hv1 hv3;have d:k<(jo m (xs.take k)++xs.drop k).length:=gO;obtain⟨y,av,⟨vs,Y,n⟩,s,b,oI⟩:=u.updatePre (g:=g) rfl k d;subst Y;rw[Ax xs m k hlt d] at n b oI;obtain⟨A1,c1,rfl,-⟩:=n.shape;have hz:iX.sz=5:=rfl;simp only[hz] at b oI;have R:=b 0 _ rfl;have z1:=b 1 _ rfl;have z2:=b 2 _ rfl;have z3:=b 3 _ rfl;have z4:=b 4 _ rfl;simp only[Nat.add_zero] at R;have f0:=ft a (k*5);have f1:=ft a (k*5+1);have f2:=ft a (k*5+2);have f3:=ft a (k*5+3);have W:=ri xs k hlt;have X:=rp xs k hk;have ax:0≤t:=by have:=r.out;omega
   have ay:t≤200000000:=by have:=r.out;omega
   have J:(xs[k].done.length:Int)+iy xs[k].done≤1048576:=by have:=W.1;have:=iS xs[k].done;omega
   have P:Ch (fun q=>q=g) wr ((((wr.setCell ⟨g,k*5,none⟩ (.int .i64 (t))).setCell ⟨g,k*5+1,none⟩ (.int .i64 (t+1))).setCell ⟨g,k*5+2,none⟩ (.int .i64 (t+1+1))).setCell ⟨g,k*5+3,none⟩ (.int .i64 (t+1+1+1))):=(Ch.setCell (p:=⟨g,k*5+3,none⟩) (Ch.setCell (p:=⟨g,k*5+2,none⟩) (Ch.setCell (p:=⟨g,k*5+1,none⟩) (Ch.setCell (p:=⟨g,k*5,none⟩) (Ch.refl (fun q=>q=g) _) (Or.inl rfl) _) (Or.inl rfl) _) (Or.inl rfl) _) (Or.inl rfl) _);have e:=n.ch P (fun q hq M=>(s q hq).2.1 M);have D:((((wr.setCell ⟨g,k*5,none⟩ (.int .i64 (t))).setCell ⟨g,k*5+1,none⟩ (.int .i64 (t+1))).setCell ⟨g,k*5+2,none⟩ (.int .i64 (t+1+1))).setCell ⟨g,k*5+3,none⟩ (.int .i64 (t+1+1+1))).heap[g]? =some (.cells (tW C.toList (k*5) [.int .i64 (t),.int .i64 (t+1),.int .i64 (t+1+1),.int .i64 (t+1+1+1)]).toArray 65 (0,0)):=lP [.int .i64 (t),.int .i64 (t+1),.int .i64 (t+1+1),.int .i64 (t+1+1+1)] (k*5) wr C.toList (by simpa using a);have x:((((wr.setCell ⟨g,k*5,none⟩ (.int .i64 (t))).setCell ⟨g,k*5+1,none⟩ (.int .i64 (t+1))).setCell ⟨g,k*5+2,none⟩ (.int .i64 (t+1+1))).setCell ⟨g,k*5+3,none⟩ (.int .i64 (t+1+1+1))).heap.size=wr.heap.size:=by simp
   have p0:(k:Int)<(xs.length:Int):=gO;have G:=gP (yI xs m t k hlt r.out);have B:=gP (show t+1+1+1+1+(iF xs[k].done)=m+ir (xs.take (k+1)) by
    have h1:=r.out;have h2:=o8 xs k hlt;omega)
   obtain⟨z,I⟩:∃z,xs[k]=z:=⟨_,rfl⟩;rw[I] at G B e J oI R z1 z2 z3 z4;have T:=gP oI;have U:=gP P;have o:=gP x;have au:=gP D;have HF:=gP hF;have HO:=gP u;clear oI b hz n hv2 I a W X D P x Z d u;go_wp2_with fail;refine(zt _ z.done (t+1+1+1+1) y _ e gO gO J).mono ?_;rintro q Q ⟨rfl,nS,j⟩;have f:∀q,y q→y q:=fun q hq=>hq;have H:Ow iX 65 Q F (.slice (some ⟨g,0,none⟩) xs.length c) (jo m (xs.take (k+1))++xs.drop (k+1)):=by
    rw[←G.out];have aa:g<((((wr.setCell ⟨g,k*5,none⟩ (.int .i64 (t))).setCell ⟨g,k*5+1,none⟩ (.int .i64 (t+1))).setCell ⟨g,k*5+2,none⟩ (.int .i64 (t+1+1))).setCell ⟨g,k*5+3,none⟩ (.int .i64 (t+1+1+1))).heap.size:=by rw[o.out];exact ab
    have:=T.out Q (sZ t z) [.int .i64 (t),.int .i64 (t+1),.int .i64 (t+1+1),.int .i64 (t+1+1+1)] y F sm (j.block g aa (fun hq=>(s g (f g hq)).2.1 rfl))
     (fun q hq L ad ae=>(j.block q (by rw[o.out];exact L) (fun M=>ae (f q M))).trans (U.out.block q L ad))
     ⟨_,rfl,nS⟩ (fun _ hq=>hq) (fun _ hq=>hq)
    exact this
   have E:Ch F w Q:=O.trans ((U.out.mono (fun q hq=>by rw[hq];exact HF.out)).trans (j.mono (fun q hq=>(s q (f q hq)).1)));have HN:=gP H;have S:=gP E;clear H E O nS j e R z1 z2 z3 z4 f0 f1 f2 f3;apply_assumption;go_wp2_with fail;go_roundw
   case rel=>exact⟨k+1,_,by go_num,gO,rfl,B,HN.out,S.out⟩
   case measure=>exact ms
  ·have d:k=xs.length:=gO
   subst d;have V:Ow iX 65 wr F (.slice A xs.length c) (jo m xs):=by
    have:=u
    rwa [List.drop_length,List.append_nil,ld] at this
   go_wp2_with fail;go_ret;exact⟨by rw[r.out,ld];rfl,V,O⟩
def wY (m:Int):Int:=m
theorem AE (v:Value) (xs:List Int) (m:Int) (F:Nat→Prop) (w:World) (h:Ow (ja .i64) 3 w F v xs) (hm0:0≤m) (hm1:m≤1000000000) (hn:xs.length≤1048576):
  Calls Tryz.prog 61 #[v,.int .i64 m] w fun q w' =>q= .returned (.int .i64 (m+1*xs.length))∧Ow (ja .i64) 3 w' F v (iK wY 1 m xs.length)∧Ch (fun q=>v.ownBlock=some q) w w':=by
 obtain⟨A,c,rfl,-⟩:=h.shape;go_enter Tryz.func61,Tryz.ntmps61;go_wp2_with fail
 go_loopw [1,5] (fun l i wr=>∃(k:Nat) (t:Int),i= .int .i64 k∧k≤xs.length∧l= .int .i64 t∧Hid (t=m+1*k)∧Ow (ja .i64) 3 wr F (.slice A xs.length c) (iK wY 1 m k++xs.drop k)∧Ch (fun q=>(Value.slice A xs.length c).ownBlock=some q) w wr) (fun _ i _=>xs.length-(intOf i).toNat)
 case atStart=>exact⟨0,m,rfl,jP _,rfl,by show m=m+1*((0:Nat):Int);omega,by simpa [iK] using h,Ch.refl _ _⟩
 case round=>
  obtain⟨k,t,rfl,C,rfl,e,f,s⟩:=hrel;by_cases hlt:k<xs.length
  ·have z:=pq wY 1 m xs k C
   obtain⟨g,M,E,D,hF,H,j⟩:=f.head gO;injection D with hv1 hv2 hv3;subst hv1 hv3;have a:k<(iK wY 1 m k++xs.drop k).length:=gO;obtain⟨L,P,r,-,G,B⟩:=lm f.rd k a;injection r with r;injection r with hA1 hA2 _;subst hA1 hA2;simp only[Nat.zero_add] at B;obtain⟨y,p⟩:∃y,(iK wY 1 m k++xs.drop k)[k]=y:=⟨_,rfl⟩;rw[p] at B;clear p;have O:=ft j k;have b:=f.setAt (g:=g) rfl k a (wY t);have n:(iK wY 1 m k++xs.drop k).set k (wY t)=iK wY 1 m (k+1)++xs.drop (k+1):=by rw[e.out];exact qL _ _ _ _ _ hlt
   have d:Ow (ja .i64) 3 (wr.setCell ⟨g,k,none⟩ (.int .i64 (t))) F (.slice (some ⟨g,0,none⟩) xs.length c) (iK wY 1 m (k+1)++xs.drop (k+1)):=by rw[←n];have:=b.2.1;simpa [World.setCells,ja,wY] using this
   have o:Ch (fun q=>(Value.slice (some ⟨g,0,none⟩) xs.length c).ownBlock=some q) w (wr.setCell ⟨g,k,none⟩ (.int .i64 (t))):=s.trans (by have:=b.2.2.mono (S':=fun q=>(Value.slice (some ⟨g,0,none⟩) xs.length c).ownBlock=some q) (fun q hq=>by simp[Value.ownBlock,hq]);simpa [World.setCells,wY] using this);have Q:(k:Int)<(xs.length:Int):=gO;have I:0≤t:=by have:=e.out;omega
   have J:t≤2000000000:=by have:=e.out;omega
   have HT':=gP (show t+1=m+1*((k+1:Nat):Int) by have:=e.out;push_cast;omega);clear b n z f s j a hv2;have x:=gP d;have u:=gP o;clear d o;go_wp2_with fail;go_roundw
   case rel=>exact⟨k+1,_,by go_num,gO,rfl,HT',x.out,u.out⟩
   case measure=>exact ms
  ·have a:k=xs.length:=gO
   subst a;have d:Ow (ja .i64) 3 wr F (.slice A xs.length c) (iK wY 1 m xs.length):=by
    have:=f
    rwa [List.drop_length,List.append_nil] at this
   go_wp2_with fail;go_ret;exact⟨by rw[e.out];rfl,d,s⟩
def At (m:Int) (n:gW):gW:=
 {n with lanes:=jo m n.lanes,kept:=iK nK 7 (m+ir n.lanes) n.kept.length,outs:=iK my 5 (m+ir n.lanes+7*n.kept.length) n.outs.length,views:=jt (m+ir n.lanes+7*n.kept.length+5*n.outs.length) n.views,known:=iK wY 1 (m+ir n.lanes+7*n.kept.length+5*n.outs.length+iH n.views) n.known.length}
def nU (n:gW):Int:=ir n.lanes+7*n.kept.length+5*n.outs.length+iH n.views+1*n.known.length
def l9 (n:gW):Int:=(n.lanes.length+ix n.lanes)+n.kept.length+n.outs.length+(n.views.length+iz n.views)+n.known.length
theorem i9.bound {w:World} {F:Nat→Prop} {vl vk vo vv vn:Value} {n:gW} (h:i9 w F vl vk vo vv vn n):i9 w (fun k=>F k∧k<w.heap.size) vl vk vo vv vn n:=by
 obtain⟨b,h⟩:=h;exact⟨b,h.la.bound.mono (fun k a=>⟨⟨a.1.1,a.2⟩,a.1.2⟩),h.ke.bound.mono (fun k a=>⟨⟨a.1.1,a.2⟩,a.1.2⟩),h.ou.bound.mono (fun k a=>⟨⟨a.1.1,a.2⟩,a.1.2⟩),h.vi.bound.mono (fun k a=>⟨⟨a.1.1,a.2⟩,a.1.2⟩),h.kn.bound.mono (fun k a=>⟨⟨a.1.1,a.2⟩,a.1.2⟩)⟩
theorem uE (x:gW) (vl vk vo vv vn:Value) (m:Int) (F:Nat→Prop) (w:World) (h:i9 w F vl vk vo vv vn x) (hm0:0≤m) (hm1:m≤50000000) (hn:l9 x≤1048576):
  Calls Tryz.prog 13 #[.agg #[x.id,x.up,x.inc,x.g,vl,vk,vo,x.led,x.version,vv,vn,x.round,x.low],.int .i64 m] w fun q w' =>q= .returned (.int .i64 (m+nU x))∧i9 w' F vl vk vo vv vn (At m x)∧Ch F w w':=by
 obtain⟨s,h⟩:=h.bound;have hF:∀k,(F k∧k<w.heap.size)→k<w.heap.size:=fun k a=>a.2;obtain⟨f,t⟩:∃f,f=(fun k=>F k∧k<w.heap.size):=⟨_,rfl⟩;rw[←t] at h;have A:∀k,f k→F k:=fun k a=>by rw[t] at a;exact a.1
 replace hF:∀k,f k→k<w.heap.size:=fun k a=>by rw[t] at a;exact a.2
 clear t;obtain⟨T,c1,rfl,-⟩:=h.la.shape;obtain⟨U,c2,rfl,-⟩:=h.ke.shape;obtain⟨V,c3,rfl,-⟩:=h.ou.shape;obtain⟨X,c4,rfl,-⟩:=h.vi.shape;obtain⟨Y,c5,rfl,-⟩:=h.kn.shape;have aV:=i7 x.lanes;have aW:=i5 x.views;have aX:=ln x.lanes;have aY:=lh x.views;have aZ:=nG x.lanes;have a0:=nZ x.views;unfold l9 at hn;obtain⟨W,hV,u,Z⟩:=n8 w (.cells #[x.id,x.up,x.inc,x.g,.slice T x.lanes.length c1,.slice U x.kept.length c2,.slice V x.outs.length c3,x.led,x.version,.slice X x.views.length c4,.slice Y x.known.length c5,x.round,x.low] 37);have C:=h.la.below u;have z:=h.ke.below u;have v:=h.ou.below u;have p:=h.vi.below u;have n:=h.kn.below u;clear h;go_enter Tryz.func13,Tryz.ntmps13;go_wp2_with fail;rw[hV.out];clear hV;have i:Ch f w W:=Ch.of_below u;refine(za _ x.lanes (m) _ _ C gO gO gO).mono ?_;rintro q w1 ⟨rfl,o,j⟩;replace i:=i.then (j.mono (S':=f) (fun k a=>a.1)) (fun k a=> .inl a);replace Z:=j.heap Z (fun a=>absurd (hF _ a.1) (Nat.lt_irrefl _));replace z:=z.ch j (fun k a b=>by have:=a.2;have:=b.2;omega);replace v:=v.ch j (fun k a b=>by have:=a.2;have:=b.2;omega);replace p:=p.ch j (fun k a b=>by have:=a.2;have:=b.2;omega);replace n:=n.ch j (fun k a b=>by have:=a.2;have:=b.2;omega);clear C j;obtain⟨af,ag,ah,ai,aj,ak,al,am,an,ao,E,G,H⟩:=hJ Z;apply_assumption;go_wp2_with fail;refine(pk _ x.kept (m+ir x.lanes) _ _ z gO gO gO).mono ?_;rintro q w2 ⟨rfl,r,c⟩;replace c:=c.mono (S':=fun k=>f k∧s k=1) (fun k a=>r.inF a);replace i:=i.then (c.mono (S':=f) (fun k a=>a.1)) (fun k a=> .inl a);replace Z:=c.heap Z (fun a=>absurd (hF _ a.1) (Nat.lt_irrefl _));replace o:=o.ch c (fun k a b=>by have:=a.2;have:=b.2;omega);replace v:=v.ch c (fun k a b=>by have:=a.2;have:=b.2;omega);replace p:=p.ch c (fun k a b=>by have:=a.2;have:=b.2;omega);replace n:=n.ch c (fun k a b=>by have:=a.2;have:=b.2;omega);clear z c;obtain⟨ap,aq,ar,au,av,aw,ax,ay,az,aA,I,J,L⟩:=hJ Z;apply_assumption;go_wp2_with fail;refine(vg _ x.outs (m+ir x.lanes+7*(x.kept.length:Int)) _ _ v gO gO gO).mono ?_;rintro q w3 ⟨rfl,y,d⟩;replace d:=d.mono (S':=fun k=>f k∧s k=2) (fun k a=>y.inF a);replace i:=i.then (d.mono (S':=f) (fun k a=>a.1)) (fun k a=> .inl a);replace Z:=d.heap Z (fun a=>absurd (hF _ a.1) (Nat.lt_irrefl _));replace o:=o.ch d (fun k a b=>by have:=a.2;have:=b.2;omega);replace r:=r.ch d (fun k a b=>by have:=a.2;have:=b.2;omega);replace p:=p.ch d (fun k a b=>by have:=a.2;have:=b.2;omega);replace n:=n.ch d (fun k a b=>by have:=a.2;have:=b.2;omega);clear v d;obtain⟨aB,aC,aD,aE,aF,aG,aH,aI,aJ,aK,M,O,P⟩:=hJ Z;apply_assumption;go_wp2_with fail;refine(yu _ x.views (m+ir x.lanes+7*(x.kept.length:Int)+5*(x.outs.length:Int)) _ _ p gO gO gO).mono ?_;rintro q w4 ⟨rfl,B,l⟩;replace i:=i.then (l.mono (S':=f) (fun k a=>a.1)) (fun k a=> .inl a);replace Z:=l.heap Z (fun a=>absurd (hF _ a.1) (Nat.lt_irrefl _));replace o:=o.ch l (fun k a b=>by have:=a.2;have:=b.2;omega);replace r:=r.ch l (fun k a b=>by have:=a.2;have:=b.2;omega);replace y:=y.ch l (fun k a b=>by have:=a.2;have:=b.2;omega);replace n:=n.ch l (fun k a b=>by have:=a.2;have:=b.2;omega);clear p l;obtain⟨aL,aM,aN,aO,aP,aQ,aR,aS,aT,aU,Q,R,S⟩:=hJ Z;apply_assumption;go_wp2_with fail;refine(AE _ x.known (m+ir x.lanes+7*(x.kept.length:Int)+5*(x.outs.length:Int)+iH x.views) _ _ n gO gO gO).mono ?_;rintro q w5 ⟨rfl,D,e⟩;replace e:=e.mono (S':=fun k=>f k∧s k=4) (fun k a=>D.inF a);replace i:=i.then (e.mono (S':=f) (fun k a=>a.1)) (fun k a=> .inl a);replace Z:=e.heap Z (fun a=>absurd (hF _ a.1) (Nat.lt_irrefl _));replace o:=o.ch e (fun k a b=>by have:=a.2;have:=b.2;omega);replace r:=r.ch e (fun k a b=>by have:=a.2;have:=b.2;omega);replace y:=y.ch e (fun k a b=>by have:=a.2;have:=b.2;omega);replace B:=B.ch e (fun k a b=>by have:=a.2;have:=b.2;omega);clear n e;apply_assumption;go_wp2_with fail;go_ret;exact⟨by rw[show m+nU x=m+ir x.lanes+7*(x.kept.length:Int)+5*(x.outs.length:Int)+iH x.views+1*(x.known.length:Int) by unfold nU;omega];rfl,i9.mono ⟨s,o,r,y,B,D⟩ A,i.mono A⟩
end Go.Proofs.YtgilllnjhahkfaaGreat
