/- Parts of the proof: Td1, Nd5, Nf1, Imp3, Upd, Draw4, Ng1, Ey6. -/
import Derived.Test.YtlndjfflhegkdaaGreatDoorQ21
import Derived.Test.YtlndjfflhegkdaaGreatDoorQ31
set_option linter.unusedVariables false
set_option linter.unusedSimpArgs false
set_option linter.unusedSectionVars false
set_option maxHeartbeats 4000000
namespace Go.Proofs.YtlndjfflhegkdaaGreatDoor
open Go.RowKit
section
structure iD where
 kind:Int
 from_:Int
 dest:Int
 inc:Int
 version:Int
 round:Int
 g:Int
 incs:List Int
 versions:List Int
 events:List hY
 outs:List ik
deriving DecidableEq
structure oR where
 round:Int
 ones:List iD
 twos:List iD
 outs:List iD
deriving DecidableEq
structure lB where
 time:Int
 apps:List iy
 nodes:List gT
 radio:List iD
 hub:oR
 sink:List ik
deriving DecidableEq
def wZ:iD:=⟨0,0,0,0,0,0,0,[],[],[],[]⟩
def mQ (l:List Int):Bool:=(decide (l.length=0)||decide (l.length=3))&&l.all (fun k=>ib k 0 9999)
def g9 (x:iD):Bool:=
 ib x.kind 1 7&&(ib x.from_ 0 2&&(ib x.dest 0 2&&(ib x.inc 0 9999&&(ib x.version 0 9999&&(ib x.round 0 9999&&(ib x.g 0 41&&
 (mQ x.incs&&(mQ x.versions&&(iQ x.events 100&&iu x.outs 96)))))))))
def sB (kind:Int) (l:List iD) (i:Nat):Bool:=
 decide ((l.getD i wZ).kind=kind)&&(g9 (l.getD i wZ)&&(decide (i=0)||decide ((l.getD (i-1) wZ).from_<(l.getD i wZ).from_)))
def jK (kind:Int) (l:List iD):Bool:=(List.range l.length).all (sB kind l)
def iT (x:iD):Bool:=decide (x.incs.length=3)&&decide (x.versions.length=3)
def lw (kind:Int) (l:List iD):Bool:=jK kind l&&(decide (kind≠3)||l.all iT)
def k8 (h:oR):Bool:=ib h.round 0 9999&&(lw 3 h.ones&&(lw 5 h.twos&&lw 7 h.outs))
def lZ (l:List gT) (i:Nat):Bool:=decide ((l.getD i zT).id=(i:Int))&&jt (l.getD i zT)
def lL (l:List gT):Bool:=decide (l.length=3)&&(List.range l.length).all (lZ l)
def mu (l:List iD):Bool:=decide (l.length≤40)&&l.all g9
def lx (t:lB):Bool:=
 ib t.time 0 99999&&(io t.apps&&(lL t.nodes&&(mu t.radio&&(k8 t.hub&&iu t.sink 96))))
theorem mm {p:Nat→Bool} {k:Nat} (ha:(List.range k).all p=true) (hp:p k=true):(List.range (k+1)).all p=true:=by
 rw[List.range_succ,List.all_append,ha];simp[hp]
theorem mH {p:Nat→Bool} {k n:Nat} (h:k<n) (hp:p k=false):(List.range n).all p=false:=by
 rw[List.all_eq_false];exact⟨k,List.mem_range.2 h,by simp[hp]⟩
theorem zh {w:World} {g:Nat} {v0 v1 v2 v3:Value} {t:TypeId} {fr:Nat×Nat} (h:w.heap[g]? =some (.cells #[v0,v1,v2,v3] t fr)):w.cell? ⟨g,0,none⟩=some v0∧w.cell? ⟨g,1,none⟩=some v1∧w.cell? ⟨g,2,none⟩=some v2∧w.cell? ⟨g,3,none⟩=some v3:=⟨fw h 0,fw h 1,fw h 2,fw h 3⟩
theorem oM {w:World} {g:Nat} {v0 v1 v2 v3 v4 v5 v6 v7 v8:Value} {t:TypeId} {fr:Nat×Nat} (h:w.heap[g]? =some (.cells #[v0,v1,v2,v3,v4,v5,v6,v7,v8] t fr)):w.cell? ⟨g,0,none⟩=some v0∧w.cell? ⟨g,1,none⟩=some v1∧w.cell? ⟨g,2,none⟩=some v2∧w.cell? ⟨g,3,none⟩=some v3∧w.cell? ⟨g,4,none⟩=some v4∧w.cell? ⟨g,5,none⟩=some v5∧w.cell? ⟨g,6,none⟩=some v6∧w.cell? ⟨g,7,none⟩=some v7∧w.cell? ⟨g,8,none⟩=some v8:=⟨fw h 0,fw h 1,fw h 2,fw h 3,fw h 4,fw h 5,fw h 6,fw h 7,fw h 8⟩
theorem nR {w:World} {g:Nat} {v0 v1 v2 v3 v4 v5 v6 v7 v8 v9 v10:Value} {t:TypeId} {fr:Nat×Nat} (h:w.heap[g]? =some (.cells #[v0,v1,v2,v3,v4,v5,v6,v7,v8,v9,v10] t fr)):w.cell? ⟨g,0,none⟩=some v0∧w.cell? ⟨g,1,none⟩=some v1∧w.cell? ⟨g,2,none⟩=some v2∧w.cell? ⟨g,3,none⟩=some v3∧w.cell? ⟨g,4,none⟩=some v4∧w.cell? ⟨g,5,none⟩=some v5∧w.cell? ⟨g,6,none⟩=some v6∧w.cell? ⟨g,7,none⟩=some v7∧w.cell? ⟨g,8,none⟩=some v8∧w.cell? ⟨g,9,none⟩=some v9∧w.cell? ⟨g,10,none⟩=some v10:=⟨fw h 0,fw h 1,fw h 2,fw h 3,fw h 4,fw h 5,fw h 6,fw h 7,fw h 8,fw h 9,fw h 10⟩
def wO (x:gT) (vl vk vo vv vn:Value):List Value:=[.int .i64 x.id,.bool x.up,.int .i64 x.inc,.int .i64 x.g,vl,vk,vo,.int .i64 x.led,.int .i64 x.version,vv,vn,.int .i64 x.round,.int .i64 x.low]
def oJ (x:iD) (vi vj ve vo:Value):List Value:=[.int .i64 x.kind,.int .i64 x.from_,.int .i64 x.dest,.int .i64 x.inc,.int .i64 x.version,.int .i64 x.round,.int .i64 x.g,vi,vj,ve,vo]
theorem i4.move {w w':World} {F:Nat→Prop} {vl vk vo vv vn:Value} {n:gT} (h:i4 w F vl vk vo vv vn n) (hm:∀k,F k→w'.heap[k]? =w.heap[k]?):i4 w' F vl vk vo vv vn n:=
 ⟨h.la.move hm,h.ke.move hm,h.ou.move hm,h.vi.move hm,h.kn.move hm⟩
theorem i4.bound {w:World} {F:Nat→Prop} {vl vk vo vv vn:Value} {n:gT} (h:i4 w F vl vk vo vv vn n):i4 w (fun k=>F k∧k<w.heap.size) vl vk vo vv vn n:=
 ⟨h.la.bound,h.ke.bound,h.ou.bound,h.vi.bound,h.kn.bound⟩
theorem Rd.oneCell {α:Type} {d:Ty α} {w:World} {F:Nat→Prop} {v:Value} {xs:List α} (h:Rd d w F v xs):v.oneCell' =true:=by
 obtain⟨A,c,rfl,_⟩:=h;rfl
def nA:Ty gT where
 sz:=13
 rel:=fun w F x cs=>∃vl vk vo vv vn,cs=wO x vl vk vo vv vn∧i4 w F vl vk vo vv vn x
 len:=fun ⟨_,_,_,_,_,h,_⟩=>by rw[h];rfl
 one:=fun ⟨vl,vk,vo,vv,vn,h,h1⟩ u hu=>by
  have g1:=h1.la.oneCell;have g2:=h1.ke.oneCell;have g3:=h1.ou.oneCell;have g4:=h1.vi.oneCell;have g5:=h1.kn.oneCell;rw[h] at hu;simp only[wO,List.mem_cons,List.not_mem_nil,or_false] at hu;rcases hu with rfl|rfl|rfl|rfl|rfl|rfl|rfl|rfl|rfl|rfl|rfl|rfl|rfl<;>first|rfl|assumption
 mono:=fun hF ⟨vl,vk,vo,vv,vn,h,h1⟩=>⟨vl,vk,vo,vv,vn,h,h1.mono hF⟩
 move:=fun hm ⟨vl,vk,vo,vv,vn,h,h1⟩=>⟨vl,vk,vo,vv,vn,h,h1.move hm⟩
 bound:=fun ⟨vl,vk,vo,vv,vn,h,h1⟩=>⟨vl,vk,vo,vv,vn,h,h1.bound⟩
theorem mY {w:World} {F:Nat→Prop} {A:Option Addr} {n c:Nat} {xs:List gT} (h:Rd nA w F (.slice A n c) xs) (j:Nat) (hj:j<xs.length):
  ∃b o vl vk vo vv vn,A=some ⟨b,o,none⟩∧b<w.heap.size∧w.cell? ⟨b,o+j*13,none⟩=some (.int .i64 xs[j].id)∧w.cell? ⟨b,o+j*13+1,none⟩=some (.bool xs[j].up)∧w.cell? ⟨b,o+j*13+2,none⟩=some (.int .i64 xs[j].inc)∧w.cell? ⟨b,o+j*13+3,none⟩=some (.int .i64 xs[j].g)∧
   w.cell? ⟨b,o+j*13+4,none⟩=some vl∧w.cell? ⟨b,o+j*13+5,none⟩=some vk∧w.cell? ⟨b,o+j*13+6,none⟩=some vo∧w.cell? ⟨b,o+j*13+7,none⟩=some (.int .i64 xs[j].led)∧w.cell? ⟨b,o+j*13+8,none⟩=some (.int .i64 xs[j].version)∧
   w.cell? ⟨b,o+j*13+9,none⟩=some vv∧w.cell? ⟨b,o+j*13+10,none⟩=some vn∧w.cell? ⟨b,o+j*13+11,none⟩=some (.int .i64 xs[j].round)∧w.cell? ⟨b,o+j*13+12,none⟩=some (.int .i64 xs[j].low)∧i4 w F vl vk vo vv vn xs[j]:=by
 obtain⟨b,o,f,rfl,_,d,⟨vl,vk,vo,vv,vn,rfl,e⟩,a⟩:=h.at_ j hj;exact⟨b,o,vl,vk,vo,vv,vn,rfl,d,a 0 _ rfl,a 1 _ rfl,a 2 _ rfl,a 3 _ rfl,a 4 _ rfl,a 5 _ rfl,a 6 _ rfl,a 7 _ rfl,a 8 _ rfl,a 9 _ rfl,a 10 _ rfl,a 11 _ rfl,a 12 _ rfl,e⟩
structure ks (w:World) (F:Nat→Prop) (vi vj ve vo:Value) (x:iD):Prop where
 ic:Rd (jQ .i64) w F vi x.incs
 vs:Rd (jQ .i64) w F vj x.versions
 ev:Rd iw w F ve x.events
 ou:Rd hJ w F vo x.outs
section
variable {w w':World} {F F' S:Nat→Prop} {vi vj ve vo:Value} {x:iD}
theorem ks.below (h:ks w F vi vj ve vo x) (hb:Below w.heap.size w w'):ks w' F vi vj ve vo x:=⟨h.ic.below hb,h.vs.below hb,h.ev.below hb,h.ou.below hb⟩
theorem ks.mono (h:ks w F vi vj ve vo x) (hF:∀k,F k→F' k):ks w F' vi vj ve vo x:=⟨h.ic.mono hF,h.vs.mono hF,h.ev.mono hF,h.ou.mono hF⟩
theorem ks.move (h:ks w F vi vj ve vo x) (hm:∀k,F k→w'.heap[k]? =w.heap[k]?):ks w' F vi vj ve vo x:=⟨h.ic.move hm,h.vs.move hm,h.ev.move hm,h.ou.move hm⟩
theorem ks.bound (h:ks w F vi vj ve vo x):ks w (fun k=>F k∧k<w.heap.size) vi vj ve vo x:=⟨h.ic.bound,h.vs.bound,h.ev.bound,h.ou.bound⟩
end
structure Db (col:Nat→Nat) (w:World) (F:Nat→Prop) (vi vj ve vo:Value) (x:iD):Prop where
 ic:Ow (jQ .i64) 3 w (fun k=>F k∧col k=0) vi x.incs
 vs:Ow (jQ .i64) 3 w (fun k=>F k∧col k=1) vj x.versions
 ev:Ow iw 91 w (fun k=>F k∧col k=2) ve x.events
 ou:Ow hJ 101 w (fun k=>F k∧col k=3) vo x.outs
def ls (w:World) (F:Nat→Prop) (vi vj ve vo:Value) (x:iD):Prop:=∃col,Db col w F vi vj ve vo x
section
variable {w w':World} {F F' S:Nat→Prop} {vi vj ve vo:Value} {x:iD}
theorem ls.rd (h:ls w F vi vj ve vo x):ks w F vi vj ve vo x:=by
 obtain⟨b,h⟩:=h;exact⟨h.ic.rd.mono (fun _ a=>a.1),h.vs.rd.mono (fun _ a=>a.1),h.ev.rd.mono (fun _ a=>a.1),h.ou.rd.mono (fun _ a=>a.1)⟩
theorem ls.mono (h:ls w F vi vj ve vo x) (hF:∀k,F k→F' k):ls w F' vi vj ve vo x:=by
 obtain⟨b,h⟩:=h;exact⟨b,h.ic.mono (fun k a=>⟨hF k a.1,a.2⟩),h.vs.mono (fun k a=>⟨hF k a.1,a.2⟩),h.ev.mono (fun k a=>⟨hF k a.1,a.2⟩),h.ou.mono (fun k a=>⟨hF k a.1,a.2⟩)⟩
theorem ls.move (h:ls w F vi vj ve vo x) (hm:∀k,F k→w'.heap[k]? =w.heap[k]?):ls w' F vi vj ve vo x:=by
 obtain⟨b,h⟩:=h;exact⟨b,h.ic.move (fun k a=>hm k a.1),h.vs.move (fun k a=>hm k a.1),h.ev.move (fun k a=>hm k a.1),h.ou.move (fun k a=>hm k a.1)⟩
theorem ls.bound (h:ls w F vi vj ve vo x):ls w (fun k=>F k∧k<w.heap.size) vi vj ve vo x:=by
 obtain⟨b,h⟩:=h;exact⟨b,h.ic.bound.mono (fun k a=>⟨⟨a.1.1,a.2⟩,a.1.2⟩),h.vs.bound.mono (fun k a=>⟨⟨a.1.1,a.2⟩,a.1.2⟩),h.ev.bound.mono (fun k a=>⟨⟨a.1.1,a.2⟩,a.1.2⟩),h.ou.bound.mono (fun k a=>⟨⟨a.1.1,a.2⟩,a.1.2⟩)⟩
theorem ls.of {a0 b0 a1 b1 a2 b2 a3 b3:Nat}
  (h0:Ow (jQ .i64) 3 w (fun k=>a0≤k∧k<b0) vi x.incs) (h1:Ow (jQ .i64) 3 w (fun k=>a1≤k∧k<b1) vj x.versions) (h2:Ow iw 91 w (fun k=>a2≤k∧k<b2) ve x.events) (h3:Ow hJ 101 w (fun k=>a3≤k∧k<b3) vo x.outs)
  (hd:(b0≤a1∨b1≤a0)∧(b0≤a2∨b2≤a0)∧(b0≤a3∨b3≤a0)∧(b1≤a2∨b2≤a1)∧(b1≤a3∨b3≤a1)∧(b2≤a3∨b3≤a2))
  (hF:∀k,a0≤k∨a1≤k∨a2≤k∨a3≤k→F k):ls w F vi vj ve vo x:=
 ⟨fun k=>if a0≤k∧k<b0 then 0 else if a1≤k∧k<b1 then 1 else if a2≤k∧k<b2 then 2 else 3,
  h0.mono (fun k hk=>⟨hF k fT,by rw[if_pos hk]⟩),
  h1.mono (fun k hk=>⟨hF k fT,by rw[if_neg fT,if_pos hk]⟩),
  h2.mono (fun k hk=>⟨hF k fT,by rw[if_neg fT,if_neg fT,if_pos hk]⟩),
  h3.mono (fun k hk=>⟨hF k fT,by rw[if_neg fT,if_neg fT,if_neg fT]⟩)⟩
end
def mK:Ty iD where
 sz:=11
 rel:=fun w F x cs=>∃vi vj ve vo,cs=oJ x vi vj ve vo∧ks w F vi vj ve vo x
 len:=fun ⟨_,_,_,_,h,_⟩=>by rw[h];rfl
 one:=fun ⟨vi,vj,ve,vo,h,h1⟩ u hu=>by
  have g1:=h1.ic.oneCell;have g2:=h1.vs.oneCell;have g3:=h1.ev.oneCell;have g4:=h1.ou.oneCell;rw[h] at hu;simp only[oJ,List.mem_cons,List.not_mem_nil,or_false] at hu;rcases hu with rfl|rfl|rfl|rfl|rfl|rfl|rfl|rfl|rfl|rfl|rfl<;>first|rfl|assumption
 mono:=fun hF ⟨vi,vj,ve,vo,h,h1⟩=>⟨vi,vj,ve,vo,h,h1.mono hF⟩
 move:=fun hm ⟨vi,vj,ve,vo,h,h1⟩=>⟨vi,vj,ve,vo,h,h1.move hm⟩
 bound:=fun ⟨vi,vj,ve,vo,h,h1⟩=>⟨vi,vj,ve,vo,h,h1.bound⟩
def nt:Ty iD where
 sz:=11
 rel:=fun w F x cs=>∃vi vj ve vo,cs=oJ x vi vj ve vo∧ls w F vi vj ve vo x
 len:=fun ⟨_,_,_,_,h,_⟩=>by rw[h];rfl
 one:=fun ⟨vi,vj,ve,vo,h,h1⟩ u hu=>by
  have g1:=h1.rd.ic.oneCell;have g2:=h1.rd.vs.oneCell;have g3:=h1.rd.ev.oneCell;have g4:=h1.rd.ou.oneCell;rw[h] at hu;simp only[oJ,List.mem_cons,List.not_mem_nil,or_false] at hu;rcases hu with rfl|rfl|rfl|rfl|rfl|rfl|rfl|rfl|rfl|rfl|rfl<;>first|rfl|assumption
 mono:=fun hF ⟨vi,vj,ve,vo,h,h1⟩=>⟨vi,vj,ve,vo,h,h1.mono hF⟩
 move:=fun hm ⟨vi,vj,ve,vo,h,h1⟩=>⟨vi,vj,ve,vo,h,h1.move hm⟩
 bound:=fun ⟨vi,vj,ve,vo,h,h1⟩=>⟨vi,vj,ve,vo,h,h1.bound⟩
theorem Ow.rdWords {w:World} {F:Nat→Prop} {v:Value} {xs:List iD} {e:TypeId} (h:Ow nt e w F v xs):Rd mK w F v xs:=
 Rd.map (d:=nt) rfl (fun x cs ⟨vi,vj,ve,vo,h1,h2⟩=>⟨vi,vj,ve,vo,h1,h2.rd⟩) h.rd
theorem lq {w:World} {F:Nat→Prop} {A:Option Addr} {n c:Nat} {xs:List iD} (h:Rd mK w F (.slice A n c) xs) (j:Nat) (hj:j<xs.length):
  ∃b o vi vj ve vo,A=some ⟨b,o,none⟩∧b<w.heap.size∧(w.cell? ⟨b,o+j*11,none⟩=some (.int .i64 xs[j].kind)∧w.cell? ⟨b,o+j*11+1,none⟩=some (.int .i64 xs[j].from_)∧w.cell? ⟨b,o+j*11+2,none⟩=some (.int .i64 xs[j].dest)∧w.cell? ⟨b,o+j*11+3,none⟩=some (.int .i64 xs[j].inc)∧
   w.cell? ⟨b,o+j*11+4,none⟩=some (.int .i64 xs[j].version)∧w.cell? ⟨b,o+j*11+5,none⟩=some (.int .i64 xs[j].round)∧w.cell? ⟨b,o+j*11+6,none⟩=some (.int .i64 xs[j].g))∧(w.cell? ⟨b,o+j*11+7,none⟩=some vi∧w.cell? ⟨b,o+j*11+8,none⟩=some vj∧
   w.cell? ⟨b,o+j*11+9,none⟩=some ve∧w.cell? ⟨b,o+j*11+10,none⟩=some vo)∧ks w F vi vj ve vo xs[j]:=by
 obtain⟨b,o,f,rfl,_,d,⟨vi,vj,ve,vo,rfl,e⟩,a⟩:=h.at_ j hj;exact⟨b,o,vi,vj,ve,vo,rfl,d,⟨a 0 _ rfl,a 1 _ rfl,a 2 _ rfl,a 3 _ rfl,a 4 _ rfl,a 5 _ rfl,a 6 _ rfl⟩,⟨a 7 _ rfl,a 8 _ rfl,a 9 _ rfl,a 10 _ rfl⟩,e⟩
structure k7 (w:World) (F:Nat→Prop) (v1 v2 v3:Value) (x:oR):Prop where
 on:Rd mK w F v1 x.ones
 tw:Rd mK w F v2 x.twos
 ou:Rd mK w F v3 x.outs
section
variable {w w':World} {F F' S:Nat→Prop} {v1 v2 v3:Value} {x:oR}
theorem k7.below (h:k7 w F v1 v2 v3 x) (hb:Below w.heap.size w w'):k7 w' F v1 v2 v3 x:=⟨h.on.below hb,h.tw.below hb,h.ou.below hb⟩
theorem k7.mono (h:k7 w F v1 v2 v3 x) (hF:∀k,F k→F' k):k7 w F' v1 v2 v3 x:=⟨h.on.mono hF,h.tw.mono hF,h.ou.mono hF⟩
theorem k7.ch (h:k7 w F v1 v2 v3 x) (hc:Ch S w w') (hS:∀k,F k→¬S k):k7 w' F v1 v2 v3 x:=⟨h.on.ch hc hS,h.tw.ch hc hS,h.ou.ch hc hS⟩
theorem k7.bound (h:k7 w F v1 v2 v3 x):k7 w (fun k=>F k∧k<w.heap.size) v1 v2 v3 x:=⟨h.on.bound,h.tw.bound,h.ou.bound⟩
end
structure Eh (col:Nat→Nat) (w:World) (F:Nat→Prop) (v1 v2 v3:Value) (x:oR):Prop where
 on:Ow nt 88 w (fun k=>F k∧col k=0) v1 x.ones
 tw:Ow nt 88 w (fun k=>F k∧col k=1) v2 x.twos
 ou:Ow nt 88 w (fun k=>F k∧col k=2) v3 x.outs
def wi (w:World) (F:Nat→Prop) (v1 v2 v3:Value) (x:oR):Prop:=∃col,Eh col w F v1 v2 v3 x
section
variable {w w':World} {F F' S:Nat→Prop} {v1 v2 v3:Value} {x:oR}
theorem wi.rd (h:wi w F v1 v2 v3 x):k7 w F v1 v2 v3 x:=by
 obtain⟨b,h⟩:=h;exact⟨h.on.rdWords.mono (fun _ a=>a.1),h.tw.rdWords.mono (fun _ a=>a.1),h.ou.rdWords.mono (fun _ a=>a.1)⟩
theorem wi.of {a0 b0 a1 b1 a2 b2:Nat}
  (h0:Ow nt 88 w (fun k=>a0≤k∧k<b0) v1 x.ones) (h1:Ow nt 88 w (fun k=>a1≤k∧k<b1) v2 x.twos) (h2:Ow nt 88 w (fun k=>a2≤k∧k<b2) v3 x.outs)
  (hd:(b0≤a1∨b1≤a0)∧(b0≤a2∨b2≤a0)∧(b1≤a2∨b2≤a1))
  (hF:∀k,a0≤k∨a1≤k∨a2≤k→F k):wi w F v1 v2 v3 x:=
 ⟨fun k=>if a0≤k∧k<b0 then 0 else if a1≤k∧k<b1 then 1 else 2,
  h0.mono (fun k hk=>⟨hF k fT,by rw[if_pos hk]⟩),
  h1.mono (fun k hk=>⟨hF k fT,by rw[if_neg fT,if_pos hk]⟩),
  h2.mono (fun k hk=>⟨hF k fT,by rw[if_neg fT,if_neg fT]⟩)⟩
end
structure kr (w:World) (F:Nat→Prop) (va vn vr v1 v2 v3 vs:Value) (x:lB):Prop where
 ap:Rd me w F va x.apps
 no:Rd nA w F vn x.nodes
 ra:Rd mK w F vr x.radio
 hu:k7 w F v1 v2 v3 x.hub
 si:Rd hJ w F vs x.sink
section
variable {w w':World} {F F' S:Nat→Prop} {va vn vr v1 v2 v3 vs:Value} {x:lB}
theorem kr.below (h:kr w F va vn vr v1 v2 v3 vs x) (hb:Below w.heap.size w w'):kr w' F va vn vr v1 v2 v3 vs x:=⟨h.ap.below hb,h.no.below hb,h.ra.below hb,h.hu.below hb,h.si.below hb⟩
theorem kr.mono (h:kr w F va vn vr v1 v2 v3 vs x) (hF:∀k,F k→F' k):kr w F' va vn vr v1 v2 v3 vs x:=⟨h.ap.mono hF,h.no.mono hF,h.ra.mono hF,h.hu.mono hF,h.si.mono hF⟩
end
end
def ka (id:Int):Nat→List Int
 |0=>[]
 |k+1=>if jk (k:Int)=id then ka id k++[(k:Int)] else ka id k
theorem rT (id:Int):ka id 4=iO id:=by
 have e:jk ((0:Nat):Int)=0:=by decide
 have f:jk ((1:Nat):Int)=1:=by decide
 have g:jk ((2:Nat):Int)=2:=by decide
 have i:jk ((3:Nat):Int)=0:=by decide
 have a:jk (0:Int)=0:=by decide
 have b:jk (1:Int)=1:=by decide
 have c:jk (2:Int)=2:=by decide
 have d:jk (3:Int)=0:=by decide
 simp only[ka,iO,e,f,g,i,a,b,c,d,List.filter_cons,List.filter_nil];by_cases e0:(0:Int)=id
 ·subst e0;decide
 ·by_cases e1:(1:Int)=id
  ·subst e1;decide
  ·by_cases e2:(2:Int)=id
   ·subst e2;decide
   ·simp[e0,e1,e2]
theorem p8 (id:Int):∀k,(ka id k).length≤k
 |0=>jn _
 |k+1=>by
  have:=p8 id k;simp only[ka];split<;>simp<;>omega
theorem vZ {id:Int} (h:ib id 0 2=true):(id=0∧iO id=[0,3])∨(id=1∧iO id=[1])∨(id=2∧iO id=[2]):=by
 simp only[ib,Bool.and_eq_true,decide_eq_true_eq] at h;have a:id=0∨id=1∨id=2:=fT;rcases a with rfl|rfl|rfl
 ·exact .inl ⟨rfl,dc⟩
 ·exact .inr (.inl ⟨rfl,dc⟩)
 ·exact .inr (.inr ⟨rfl,dc⟩)
theorem uC {p:Int} (h:ib p 0 3=false):jk p= -1:=by unfold jk;rw[if_neg (by rw[h];simp)]
theorem sZ {p:Int} (h:ib p 0 3=true):jk p=p % 3:=by unfold jk;rw[if_pos h]
set_option maxRecDepth 100000
theorem mq {w W w1:World} {B:Nat} {v:Value} (hb:Below B w W) (hG:W.grownBy w1 v.ownBlock) (hv:∀k,v.ownBlock=some k→B≤k) (hB:B≤W.heap.size):Below B w w1:=
 hb.trans ⟨hG.os,hG.tape,hG.output,hG.size,fun k hk=>hG.block k fT (fun e=>by have:=hv k e.symm;omega)⟩
theorem lh (w:World):Calls Tryz.prog 57 #[] w fun q w' =>q= .returned (.int .i64 9999)∧w' =w:=by
 go_enter Tryz.func57,Tryz.ntmps57;go_wp2_with fail;go_ret;exact⟨rfl,rfl⟩
theorem ut (a:Int) (w:World):Calls Tryz.prog 159 #[a] w fun e w' =>e= .returned (.bool (ib a 0 2))∧w' =w:=by
 go_enter Tryz.func159,Tryz.ntmps159;go_wp2_with (first|(go_at_call 82;refine(iF _ _ _ _).mono ?_;rintro e w' ⟨rfl,rfl⟩));go_ret;exact⟨rfl,rfl⟩
theorem BF (p:Int) (w:World):Calls Tryz.prog 109 #[p] w fun e w' =>e= .returned (.int .i64 (jk p))∧w' =w:=by
 go_enter Tryz.func109,Tryz.ntmps109;go_wp2_with fail;refine(km p _).mono ?_;rintro e g ⟨b,j⟩;subst g;cases h:ib p 0 3
 ·rw[h] at b
  subst b;have a:=fS (uC h);clear h;apply_assumption;go_wp2_with fail;go_ret;exact⟨by rw[a.out];rfl,rfl⟩
 ·rw[h] at b
  subst b;have a:=fS (sZ h);have f:0≤p∧p≤3:=by simpa [ib] using h
  have d:p.tmod 3=p % 3:=Int.tmod_eq_emod_of_nonneg f.1;have i:IntKind.i64.wrap (p % 3)=p % 3:=IntWalk.i64_in _ fT;have c:=fS d;clear h;apply_assumption;go_wp2_with fail;go_ret;exact⟨by first|(rw[a.out];rfl)|(rw[a.out,←c.out];rfl),rfl⟩
theorem Ai (p:Int) (w:World):Calls Tryz.prog 178 #[p] w fun e w' =>e= .returned (.int .i64 (jk p))∧w' =w:=by
 go_enter Tryz.func178,Tryz.ntmps178;go_wp2_with fail;refine(lC p _).mono ?_;rintro e g ⟨b,j⟩;subst g;cases h:ib p 0 3
 ·rw[h] at b
  subst b;have a:=fS (uC h);clear h;apply_assumption;go_wp2_with fail;go_ret;exact⟨by rw[a.out];rfl,rfl⟩
 ·rw[h] at b
  subst b;have a:=fS (sZ h);have f:0≤p∧p≤3:=by simpa [ib] using h
  have d:p.tmod 3=p % 3:=Int.tmod_eq_emod_of_nonneg f.1;have i:IntKind.i64.wrap (p % 3)=p % 3:=IntWalk.i64_in _ fT;have c:=fS d;clear h;apply_assumption;go_wp2_with fail;go_ret;exact⟨by first|(rw[a.out];rfl)|(rw[a.out,←c.out];rfl),rfl⟩
def wR (p:Int):lz 5:=⟨[.int .i64 p,.int .i64 0,.int .i64 0,.int .i64 0,.slice none 0 0],rfl,fun u hu=>by
 simp only[List.mem_cons,List.not_mem_nil,or_false] at hu;rcases hu with rfl|rfl|rfl|rfl|rfl<;>rfl⟩
theorem AN:(Tryz.prog.info? 130).map (fun i=>(i.zero,i.size,i.bytes))=some (some (.agg #[.int .i64 0,.int .i64 0,.int .i64 0,.int .i64 0,.slice none 0 0]),5,56):=gY
theorem Ci:(Tryz.prog.info? 3).map (fun i=>(i.zero,i.size,i.bytes))=some (some (.int .i64 0),1,8):=gY
theorem zt (id:Int) (w:World):Calls Tryz.prog 65 #[id] w fun q w' =>∃u,q= .returned u∧Ow (kF 5) 130 w' (fun k=>w.heap.size≤k) u ((iO id).map wR)∧Below w.heap.size w w':=by
 go_enter Tryz.func65,Tryz.ntmps65;go_wp2_with fail;have l:Below w.heap.size w (w.alloc (.cells #[] 130)):=gs (gM _ _) _;have j:Ow (kF 5) 130 (w.alloc (.cells #[] 130)) (fun k=>w.heap.size≤k) (.slice (some ⟨w.heap.size,0,none⟩) 0 0) []:=Ow.empty _ (gL rfl) (jn _);generalize w.alloc (.cells #[] 130)=W at*
 go_loopw [3,4] (fun u i wr=>∃k:Nat,i= .int .i64 k∧k≤4∧Ow (kF 5) 130 wr (fun k=>w.heap.size≤k) u ((ka id k).map wR)∧Below w.heap.size w wr) (fun _ i _=>4-(intOf i).toNat)
 case atStart=>exact⟨0,rfl,j8 _,j,l⟩
 case round=>
  clear j l;obtain⟨k,rfl,z,a,e⟩:=hrel;have y:=e.size;obtain⟨A,c,rfl,-⟩:=a.shape;by_cases hlt:k<4
  ·have v:(k:Int)<4:=fT
   have C:decide ((k:Int)<4)=true:=iW v;go_wp2_with fail;refine(BF (k:Int) _).mono ?_;rintro q x ⟨rfl,B⟩;subst x;apply_assumption;by_cases he:jk (k:Int)=id
   ·have g:=fS (show ka id (k+1)=ka id k++[(k:Int)] by simp only[ka];rw[if_pos he])
    have r:(jk (k:Int)==id)=true:=by simpa using he
    have s:decide (jk (k:Int)=id)=true:=by simpa using he
    have p:=fS (p8 id k);clear he;go_wp2_with (at_builtin;refine ky (d:=kF 5) rfl 53 rfl Tryz.underlying53 _ 56 AN rfl dc dc rfl (a.alloc _) (wR (k:Int)) _ rfl (gL rfl) (fun _=>False) (by rfl) (fun _ b=>b.elim) (fun _ b=>b.elim) (by simp only[List.length_map];have:=p.out;omega) (fun q=>w.heap.size≤q) (fun _ hq=>hq) (fun _ b=>b.elim) (fun q hq=>by simp only[lb] at hq;show w.heap.size≤q;omega) ?_;intro D E f m t);have n:=mq (gs e _) m (fun q hq=>a.inF hq) (by simp;omega);rw[←List.map_singleton,←List.map_append,←g.out] at f;go_roundw
    case rel=>exact⟨k+1,by go_num,fT,f,n⟩
    case measure=>exact ms
   ·have g:=fS (show ka id (k+1)=ka id k by simp only[ka];rw[if_neg he])
    have r:(jk (k:Int)==id)=false:=by simpa using he
    have s:decide (jk (k:Int)=id)=false:=by simpa using he
    clear he;go_wp2_with fail;go_roundw
    case rel=>exact⟨k+1,by go_num,fT,by rw[g.out];exact a,e⟩
    case measure=>exact ms
  ·have o:k=4:=fT
   subst o;go_wp2_with fail;go_ret;exact⟨_,rfl,by rw[←rT];exact a,e⟩
theorem uN (id:Int) (w:World):Calls Tryz.prog 155 #[id] w fun q w' =>∃u,q= .returned u∧Ow (jQ .i64) 3 w' (fun k=>w.heap.size≤k) u (iO id)∧Below w.heap.size w w':=by
 go_enter Tryz.func155,Tryz.ntmps155;go_wp2_with fail
 go_loopw [3,5] (fun u i wr=>∃k:Nat,i= .int .i64 k∧k≤4∧Ow (jQ .i64) 3 wr (fun k=>w.heap.size≤k) u (ka id k)∧Below w.heap.size w wr) (fun _ i _=>4-(intOf i).toNat)
 case atStart=>exact⟨0,rfl,j8 _,Ow.nil _ _ _ _,gM _ _⟩
 case round=>
  obtain⟨k,rfl,x,a,e⟩:=hrel;have v:=e.size;obtain⟨A,c,rfl,-⟩:=a.shape;by_cases hlt:k<4
  ·have s:(k:Int)<4:=fT
   have z:decide ((k:Int)<4)=true:=iW s;go_wp2_with fail;refine(Ai (k:Int) _).mono ?_;rintro q t ⟨rfl,y⟩;subst t;apply_assumption;by_cases he:jk (k:Int)=id
   ·have g:=fS (show ka id (k+1)=ka id k++[(k:Int)] by simp only[ka];rw[if_pos he])
    have o:(jk (k:Int)==id)=true:=by simpa using he
    have p:decide (jk (k:Int)=id)=true:=by simpa using he
    have n:=fS (p8 id k);clear he;go_wp2_with (at_builtin;refine ky (d:=jQ .i64) rfl 55 rfl Tryz.underlying55 _ 8 Ci rfl dc dc rfl (a.alloc _) (k:Int) _ rfl (gL rfl) (fun _=>False) (by rfl) (fun _ b=>b.elim) (fun _ b=>b.elim) (by have:=n.out;omega) (fun q=>w.heap.size≤q) (fun _ hq=>hq) (fun _ b=>b.elim) (fun q hq=>by simp only[lb] at hq;show w.heap.size≤q;omega) ?_;intro B C f j r);have l:=mq (gs e _) j (fun q hq=>a.inF hq) (by simp;omega);rw[←g.out] at f;go_roundw
    case rel=>exact⟨k+1,by go_num,fT,f,l⟩
    case measure=>exact ms
   ·have g:=fS (show ka id (k+1)=ka id k by simp only[ka];rw[if_neg he])
    have o:(jk (k:Int)==id)=false:=by simpa using he
    have p:decide (jk (k:Int)=id)=false:=by simpa using he
    clear he;go_wp2_with fail;go_roundw
    case rel=>exact⟨k+1,by go_num,fT,by rw[g.out];exact a,e⟩
    case measure=>exact ms
  ·have m:k=4:=fT
   subst m;go_wp2_with fail;go_ret;exact⟨_,rfl,by rw[←rT];exact a,e⟩
def Fc (m n:gT):Nat→Int
 |0=>n.version
 |k+1=>if (k:Int)≠n.id∧qA m (k:Int)≠qA n (k:Int) then m.version+1 else Fc m n k
theorem vR {apps:List iy} (h:(apps.length:Int)+iS apps≤1048576):apps.length≤1048576∧∀r∈apps,r.rules.length≤1048576∧∀q∈r.rules,q.ops.length≤1048576:=by
 have b:=kv apps;refine⟨fT,fun r a=>?_⟩;have c:=tQ apps r a;have d:=jZ r.rules;exact⟨fT,fun q hq=>by have e:=te r.rules q hq;omega⟩
end Go.Proofs.YtlndjfflhegkdaaGreatDoor
