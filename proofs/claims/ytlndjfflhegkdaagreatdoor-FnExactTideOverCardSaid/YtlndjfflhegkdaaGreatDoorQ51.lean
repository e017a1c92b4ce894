/- Parts of the proof: Tf3. -/
import Derived.Test.YtlndjfflhegkdaaGreatDoorQ48
set_option linter.unusedVariables false
set_option linter.unusedSimpArgs false
set_option linter.unusedSectionVars false
set_option maxHeartbeats 4000000
set_option maxRecDepth 100000
namespace Go.Proofs.YtlndjfflhegkdaaGreatDoor
open Go.RowKit
section
open Go.ChangeShapes Go.WideShapes Go.ChangeAt Go.RowKit
theorem yk: "*" ++ "errors.errorString" = "*errors.errorString" :=by decide
theorem qr (u:TypeId) (h:Tryz.prog.typeName? 3 u=some "*errors.errorString"):u=289:=
 typeName_ptr_named (nm:= "errors.errorString") (by rw[yk];kernel_rfl) gY dc u (by rw[yk];exact h)
theorem nd (a:Addr):IsIface (.iface 289 (.pointer (some a))):=trivial
theorem nc:Tryz.prog.cellsOf 306=1:=gY
theorem ng:Tryz.prog.cellsOf 9=1:=gY
theorem mn {W W':World} {n:String} {cs:Array Value} (hb:Below W.heap.size W W') (h:W.var? Tryz.prog n=some cs):W'.var? Tryz.prog n=some cs:=by
 unfold World.var? at h ⊢;cases hg:Tryz.prog.globalNamed n with
 |none=>simp[hg] at h
 |some g=>
  simp only[hg,Option.bind_some] at h ⊢;have b:g<W.heap.size:=by
   rcases Nat.lt_or_ge g W.heap.size with a|a
   ·exact a
   ·simp[Array.getElem?_eq_none a] at h
  rw[hb.block g b];exact h
theorem oa:Tryz.prog.globalNamed "loop.example/slackwater/impl.errTideTime" =some 0:=gY
theorem qY:(Tryz.prog.globals[0]?).map (·.type)=some 105:=gY
theorem nU:Tryz.prog.globalNamed "loop.example/slackwater/impl.errTideApps" =some 1:=gY
theorem qW:(Tryz.prog.globals[1]?).map (·.type)=some 105:=gY
theorem np:Tryz.prog.globalNamed "loop.example/slackwater/impl.errTideNodes" =some 2:=gY
theorem qd:(Tryz.prog.globals[2]?).map (·.type)=some 105:=gY
theorem nr:Tryz.prog.globalNamed "loop.example/slackwater/impl.errTideRadio" =some 3:=gY
theorem qe:(Tryz.prog.globals[3]?).map (·.type)=some 105:=gY
theorem oY:Tryz.prog.globalNamed "loop.example/slackwater/impl.errTideHub" =some 4:=gY
theorem r7:(Tryz.prog.globals[4]?).map (·.type)=some 105:=gY
theorem nZ:Tryz.prog.globalNamed "loop.example/slackwater/impl.errTideSink" =some 5:=gY
theorem qX:(Tryz.prog.globals[5]?).map (·.type)=some 105:=gY
structure oO (W:World) (a0 a1 a2 a3 a4 a5:Addr):Prop where
 v0:W.var? Tryz.prog "loop.example/slackwater/impl.errTideTime" =some #[.iface 289 (.pointer (some a0))]
 v1:W.var? Tryz.prog "loop.example/slackwater/impl.errTideApps" =some #[.iface 289 (.pointer (some a1))]
 v2:W.var? Tryz.prog "loop.example/slackwater/impl.errTideNodes" =some #[.iface 289 (.pointer (some a2))]
 v3:W.var? Tryz.prog "loop.example/slackwater/impl.errTideRadio" =some #[.iface 289 (.pointer (some a3))]
 v4:W.var? Tryz.prog "loop.example/slackwater/impl.errTideHub" =some #[.iface 289 (.pointer (some a4))]
 v5:W.var? Tryz.prog "loop.example/slackwater/impl.errTideSink" =some #[.iface 289 (.pointer (some a5))]
theorem oO.below {W W':World} {a0 a1 a2 a3 a4 a5:Addr} (h:oO W a0 a1 a2 a3 a4 a5) (hb:Below W.heap.size W W'):oO W' a0 a1 a2 a3 a4 a5:=
 ⟨mn hb h.v0,mn hb h.v1,mn hb h.v2,mn hb h.v3,mn hb h.v4,mn hb h.v5⟩
theorem oO.vars {W:World} {a0 a1 a2 a3 a4 a5:Addr} (h:oO W a0 a1 a2 a3 a4 a5):lW W:=by
 have e:∀(g:Nat) (x:Value) (n:String),Tryz.prog.globalNamed n=some g→W.var? Tryz.prog n=some #[x]→W.cell? ⟨g,0,none⟩=some x:=fun g x n j m=>by simpa using World.var?_cell j m 0
 have b:=e 0 _ _ oa h.v0;have c:=e 1 _ _ nU h.v1;have d:=e 2 _ _ np h.v2;have f:=e 3 _ _ nr h.v3;have i:=e 4 _ _ oY h.v4;have a:=e 5 _ _ nZ h.v5;refine⟨by have:=World.block_lt_of_cell? _ _ a;show 5<W.heap.size;exact this,fun k l=>?_⟩
 match k,l with
 |0,_=>exact⟨_,_,b⟩
 |1,_=>exact⟨_,_,c⟩
 |2,_=>exact⟨_,_,d⟩
 |3,_=>exact⟨_,_,f⟩
 |4,_=>exact⟨_,_,i⟩
 |5,_=>exact⟨_,_,a⟩
theorem xn {W:World} (h:laidMetH Tryz.prog Rows.fnExactTideOverRow.laid W):∃a0 a1 a2 a3 a4 a5,oO W a0 a1 a2 a3 a4 a5:=by
 rw[MakeChecks.laidMetH_plain _ _ _ gY] at h;have a:laidMet Tryz.prog Rows.fnExactTideOverRow.laid W:=h;unfold Rows.fnExactTideOverRow at a;obtain⟨a0,n,g,-,-,-⟩:=laid_sentinel a oa qY Tryz.underlying105 qr Tryz.underlying289 Tryz.underlying306 rfl rfl Tryz.underlying9 nc ng;have b:=laidMet.tail a;obtain⟨a1,o,i,-,-,-⟩:=laid_sentinel b nU qW Tryz.underlying105 qr Tryz.underlying289 Tryz.underlying306 rfl rfl Tryz.underlying9 nc ng;have c:=laidMet.tail b;obtain⟨a2,p,j,-,-,-⟩:=laid_sentinel c np qd Tryz.underlying105 qr Tryz.underlying289 Tryz.underlying306 rfl rfl Tryz.underlying9 nc ng;have d:=laidMet.tail c;obtain⟨a3,q,k,-,-,-⟩:=laid_sentinel d nr qe Tryz.underlying105 qr Tryz.underlying289 Tryz.underlying306 rfl rfl Tryz.underlying9 nc ng;have e:=laidMet.tail d;obtain⟨a4,r,l,-,-,-⟩:=laid_sentinel e oY r7 Tryz.underlying105 qr Tryz.underlying289 Tryz.underlying306 rfl rfl Tryz.underlying9 nc ng;have f:=laidMet.tail e;obtain⟨a5,s,m,-,-,-⟩:=laid_sentinel f nZ qX Tryz.underlying105 qr Tryz.underlying289 Tryz.underlying306 rfl rfl Tryz.underlying9 nc ng;exact⟨a0,a1,a2,a3,a4,a5,⟨g,i,j,k,l,m⟩⟩
theorem vG {H:Type} (enc:TypeId×Value→H) {W:World} {a0 a1 a2 a3 a4 a5:Addr} (h:oO W a0 a1 a2 a3 a4 a5) (sp:Nat→Bool):
  DataW.TrodVars enc Tryz.prog W sp ["loop.example/slackwater/impl.errTideTime","loop.example/slackwater/impl.errTideApps","loop.example/slackwater/impl.errTideNodes","loop.example/slackwater/impl.errTideRadio","loop.example/slackwater/impl.errTideHub","loop.example/slackwater/impl.errTideSink"] [tok enc (.iface 289 (.pointer (some a0))),tok enc (.iface 289 (.pointer (some a1))),tok enc (.iface 289 (.pointer (some a2))),tok enc (.iface 289 (.pointer (some a3))),tok enc (.iface 289 (.pointer (some a4))),tok enc (.iface 289 (.pointer (some a5)))] [.cell 0 0,.cell 1 0,.cell 2 0,.cell 3 0,.cell 4 0,.cell 5 0]:=
 ⟨0,105,#[.iface 289 (.pointer (some a0))],1,[],[.cell 1 0,.cell 2 0,.cell 3 0,.cell 4 0,.cell 5 0],oa,qY,h.v0,trod_held Tryz.underlying105 (nd _) 0,⟨1,105,#[.iface 289 (.pointer (some a1))],1,[],[.cell 2 0,.cell 3 0,.cell 4 0,.cell 5 0],nU,qW,h.v1,trod_held Tryz.underlying105 (nd _) 0,⟨2,105,#[.iface 289 (.pointer (some a2))],1,[],[.cell 3 0,.cell 4 0,.cell 5 0],np,qd,h.v2,trod_held Tryz.underlying105 (nd _) 0,⟨3,105,#[.iface 289 (.pointer (some a3))],1,[],[.cell 4 0,.cell 5 0],nr,qe,h.v3,trod_held Tryz.underlying105 (nd _) 0,⟨4,105,#[.iface 289 (.pointer (some a4))],1,[],[.cell 5 0],oY,r7,h.v4,trod_held Tryz.underlying105 (nd _) 0,⟨5,105,#[.iface 289 (.pointer (some a5))],1,[],[],nZ,qX,h.v5,trod_held Tryz.underlying105 (nd _) 0,rfl,rfl⟩,rfl⟩,rfl⟩,rfl⟩,rfl⟩,rfl⟩
end
end Go.Proofs.YtlndjfflhegkdaaGreatDoor
