/- FnExactNodeStep: whatever the input, true. -/
import Derived.Test.YtgilllnjhahkfaaGreatQ53
set_option linter.unusedVariables false
set_option linter.unusedSimpArgs false
set_option linter.unusedSectionVars false
set_option maxHeartbeats 4000000
namespace Go.Proofs.YtgilllnjhahkfaaGreat
open Go.RowKit
section
open Go.ChangeShapes Go.WideShapes Go.ChangeAt Go.RowKit
set_option maxRecDepth 100000 in
theorem o6 (os:Os) (started:os.Started) (H:Type) (enc:TypeId×Value→H):
  ReturnsInHanded {} Tryz.checked os 3 .any (Rows.fnExactNodeStepSpec.pre6 enc Tryz.prog Tryz.f3 Rows.fnExactNodeStepRow.domain false) (Rows.fnExactNodeStepSpec.post enc Tryz.prog Tryz.f3 false true false false):=by
 refine returnsInHanded_of_change (C:=Tryz.checked) F7 started ie Tryz.func3
  (ChangeSpec.witness6 (enc:=enc) (C:=Tryz.checked) false ⟨#[],#[.slice none 0 0,.agg #[.int .i64 0,.bool false,.int .i64 0,.int .i64 0,.slice none 0 0,.slice none 0 0,.slice none 0 0,.int .i64 0,.int .i64 0,.slice none 0 0,.slice none 0 0,.int .i64 0,.int .i64 0],.int .i64 0],[]⟩ 8 ie ie ie ie) ?_
 intro W s i U gs y e G _ _;have a:∀(j:Nat) t v,Tryz.f3.params[j]? =some t→i[j]? =some v→Value.okWide Tryz.prog W .any s t v:=e;have hW':=G;obtain⟨p,q,r,hV,rfl,_,_⟩:=G;have F:DataW.TrodAll enc Tryz.prog W 0 (fun _=>true) true Tryz.f3.params.toList i.toList U p:=r;rw[Tryz.params3] at F a;obtain⟨v0,v1,v2,d0,d1,d2,J,L,M,rfl,rfl,rfl,B,D,E⟩:=trodAll_three F;obtain⟨rfl,rfl⟩:=trodVars_none hV;obtain⟨T,w,u,rfl⟩:=okWide_slice Tryz.underlying22 (a 0 22 v0 rfl rfl);obtain⟨z,rfl,-⟩:=okWide_struct Tryz.underlying29 (a 1 29 v1 rfl rfl);obtain⟨Z,rfl⟩:=okWide_int Tryz.underlying3 (a 2 3 v2 rfl rfl);clear r e;simp only[List.append_nil,List.append_assoc] at hW';have k:∀x∈J++(L++M),x.block<W.heap.size:=fun x b=>hW'.lt x (by simpa using b);obtain⟨af,t0⟩:=id B;obtain⟨A,c,f,V,ha⟩:=CG t0;obtain⟨rfl,rfl,rfl⟩:T=A∧w=f.length∧u=c:=by simpa [Value.cells] using V
 obtain⟨ag,t1⟩:=id D;obtain⟨n,P,O,R,S,Q,X,Y⟩:=CO _ _ _ t1;obtain rfl:z= #[.int .i64 n.id,.bool n.up,.int .i64 n.inc,.int .i64 n.g,P,O,R,.int .i64 n.led,.int .i64 n.version,S,Q,.int .i64 n.round,.int .i64 n.low]:=by simpa [Value.cells,←Array.toList_inj] using X
 obtain⟨ah,t2⟩:=id E;refine(qW _ f P O R S Q n Z W ha Y).mono fun e9 W' ⟨I,d⟩=>?_;subst I;have l:=Below.trod tj ie (of_decide_eq_true ie) B d (fun x b=>k x (by simp[b]));have m:=Below.trod tj ie (of_decide_eq_true ie) D d (fun x b=>k x (by simp[b]));have o:=Below.trod tj ie (of_decide_eq_true ie) E d (fun x b=>k x (by simp[b]));refine⟨.bool true,rfl,_,_,_,[],J++(L++M),[],hW',?_,trodAll_mk3 l m o,rfl,d.frame _,fun h=>by cases h⟩;exact trodAll_mk1 (shut_bool Tryz.underlying4 _)
theorem fnExactNodeStep_holds:Rows.FnExactNodeStepSaid:=
 OpenClaim.holds_of_wide 3 Tryz.f3 rfl rfl rfl rfl rfl rfl rfl ⟨rfl,rfl,rfl,rfl,rfl⟩ rfl rfl rfl rfl rfl ie Tryz.func3 ie
  (of_decide_eq_true ie) (by unfold Func.isWrapper;first|(rw[if_pos (by decide+kernel)];kernel_rfl)|(rw[if_neg (by decide+kernel)];exact⟨rfl,rfl⟩))
  (fun os started H enc _=>o6 os started H enc)
#print axioms fnExactNodeStep_holds
end
end Go.Proofs.YtgilllnjhahkfaaGreat
