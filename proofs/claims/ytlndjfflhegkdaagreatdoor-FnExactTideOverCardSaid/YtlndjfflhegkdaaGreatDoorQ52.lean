/- Parts of the proof: Tf5, Tf6. -/
import Derived.Test.YtlndjfflhegkdaaGreatDoorQ50
import Derived.Test.YtlndjfflhegkdaaGreatDoorQ51
set_option linter.unusedVariables false
set_option linter.unusedSimpArgs false
set_option linter.unusedSectionVars false
set_option maxHeartbeats 4000000
set_option maxRecDepth 100000
namespace Go.Proofs.YtlndjfflhegkdaaGreatDoor
open Go.RowKit
section
open Go.ChangeShapes Go.WideShapes Go.ChangeAt Go.RowKit
theorem oQ (os:Os) (started:os.Started) (H:Type) (enc:TypeId×Value→H):
  ReturnsInHanded {} Tryz.checked os 3 .any (fun w args=>(Rows.fnExactTideOverSpec.pre enc Tryz.prog Tryz.f3 [] false w args∧laidMetH Tryz.prog Rows.fnExactTideOverRow.laid w)∧sizedMet enc Tryz.prog Tryz.f3 (OpenSpec.ofChange Rows.fnExactTideOverSpec) false w args)
   (Rows.fnExactTideOverSpec.post enc Tryz.prog Tryz.f3 false true false false):=by
 refine returnsInHanded_of_change_and (C:=Tryz.checked) (X:=fun w _=>laidMetH Tryz.prog Rows.fnExactTideOverRow.laid w) (fun _ _ _ V h=>h.of_heap V) Fm started gY Tryz.func3
  (ChangeSpec.witness_shaped (enc:=enc) (C:=Tryz.checked) (os:=os) (X:=fun w _=>laidMetH Tryz.prog Rows.fnExactTideOverRow.laid w) false (World.doorLaid Tryz.prog 123 os) #[.agg #[.int .i64 0,.slice none 0 0,.slice none 0 0,.slice none 0 0,.int .i64 0,.slice none 0 0,.slice none 0 0,.slice none 0 0,.slice none 0 0]] 8 rfl (World.shaped_of_RefB gY gY) gY gY gY (BT os _)) ?_
 intro W i args R T y a E _ _ U _;have c:∀(j:Nat) t v,Tryz.f3.params[j]? =some t→args[j]? =some v→Value.okWide Tryz.prog W .any i t v:=a;have hW':=E;obtain⟨p,q,f,g,rfl,ab,ac⟩:=E;have D:DataW.TrodAll enc Tryz.prog W 0 (fun _=>true) true Tryz.f3.params.toList args.toList R p:=f;have hV:DataW.TrodVars enc Tryz.prog W (fun _=>true) ["loop.example/slackwater/impl.errTideTime","loop.example/slackwater/impl.errTideApps","loop.example/slackwater/impl.errTideNodes","loop.example/slackwater/impl.errTideRadio","loop.example/slackwater/impl.errTideHub","loop.example/slackwater/impl.errTideSink"] T q:=g;rw[Tryz.params3] at D c;obtain⟨Z,A,rfl,rfl,B⟩:=trodAll_one D;obtain⟨z,rfl,-⟩:=okWide_struct Tryz.underlying29 (c 0 29 Z rfl rfl);obtain⟨m,n,o,r,s,u,l⟩:=xn U;obtain⟨rfl,rfl⟩:=hV.unique (vG enc l _);clear f g a;have G:∀x∈p,x.block<W.heap.size:=fun x d=>hW'.lt x (by simp[d]);obtain⟨aa,Y⟩:=id B;obtain⟨x,M,O,P,I,J,L,Q,S,d⟩:=Bb _ _ _ Y;obtain rfl:z= #[.int .i64 x.time,M,O,P,.int .i64 x.hub.round,I,J,L,Q]:=by simpa [Value.cells,←Array.toList_inj] using S
 refine(qJ x M O P I J L Q W d l.vars).mono fun e9 W' ⟨F,b⟩=>?_;subst F;have e:=Below.trod AQ gY (of_decide_eq_true gY) B b (fun x d=>G x d);have k:Rows.fnExactTideOverSpec.fn H ([A]++[tok enc (.iface 289 (.pointer (some m))),tok enc (.iface 289 (.pointer (some n))),tok enc (.iface 289 (.pointer (some o))),tok enc (.iface 289 (.pointer (some r))),tok enc (.iface 289 (.pointer (some s))),tok enc (.iface 289 (.pointer (some u)))])= {results:=[.lit (.bool true)],args:=[A],vars:=[tok enc (.iface 289 (.pointer (some m))),tok enc (.iface 289 (.pointer (some n))),tok enc (.iface 289 (.pointer (some o))),tok enc (.iface 289 (.pointer (some r))),tok enc (.iface 289 (.pointer (some s))),tok enc (.iface 289 (.pointer (some u)))]}:=rfl;refine⟨.bool true,rfl,_,_,_,[],p,[.cell 0 0,.cell 1 0,.cell 2 0,.cell 3 0,.cell 4 0,.cell 5 0],hW',?_,?_,?_,b.frame _,fun h=>by cases h⟩
 ·rw[k];exact trodAll_mk1 (shut_bool Tryz.underlying4 _)
 ·rw[k];exact trodAll_mk1 e
 ·rw[k];exact vG enc (l.below b) _
end
section
open Go.ChangeShapes Go.WideShapes Go.ChangeAt Go.RowKit
theorem pN:Rows.FnExactTideOverSaid:=
 OpenClaim.holds_of_wide 3 Tryz.f3 rfl rfl rfl rfl rfl rfl rfl ⟨rfl,rfl,rfl,rfl,rfl⟩ rfl rfl rfl rfl rfl gY Tryz.func3 gY
  (of_decide_eq_true gY) (by unfold Func.isWrapper;first|(rw[if_pos (by decide+kernel)];kernel_rfl)|(rw[if_neg (by decide+kernel)];exact⟨rfl,rfl⟩))
  (fun os started H enc _=>oQ os started H enc)
end
end Go.Proofs.YtlndjfflhegkdaaGreatDoor
