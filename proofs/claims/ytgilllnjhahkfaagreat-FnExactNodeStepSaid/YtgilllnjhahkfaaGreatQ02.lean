/- Parts of the proof: Eq, Sc. -/
import Derived.Laws.StructEq
import Derived.Test.YtgilllnjhahkfaaGreatQ00
set_option linter.unusedVariables false
set_option linter.unusedSimpArgs false
set_option linter.unusedSectionVars false
set_option maxHeartbeats 4000000
namespace Go.Proofs.YtgilllnjhahkfaaGreat
open Go.RowKit
section
section
variable {P:Program} {d:Nat} {xs ys:Array Value} {f:Field} {fs:List Field} {a b:Value} {r s:Bool} {w:World}
theorem sC (hn:(f.name== "_")=false) (ha:(part f.type xs f.offset).run P w= .ok a w) (hb:(part f.type ys f.offset).run P w= .ok b w) (he:(Op.equalIn d f.type a b).run P w= .ok r w):(Op.eqFields d xs ys [f]).run P w= .ok r w:=by
 have hn':f.name≠ "_" :=by simpa using hn
 simp only[Op.eqFields,if_pos hn',Sem.run_bind,ha,hb,he,Result.andThen_ok];cases r<;>simp
theorem kJ (hn:(f.name== "_")=false) (ha:(part f.type xs f.offset).run P w= .ok a w) (hb:(part f.type ys f.offset).run P w= .ok b w) (he:(Op.equalIn d f.type a b).run P w= .ok r w) (hr:(Op.eqFields d xs ys fs).run P w= .ok s w):(Op.eqFields d xs ys (f::fs)).run P w= .ok (r&&s) w:=by
 have hn':f.name≠ "_" :=by simpa using hn
 rw[Op.eqFields];simp only[if_pos hn',Sem.run_bind,ha,hb,he,Result.andThen_ok];cases r
 ·simp
 ·simpa using hr
theorem xN {t:TypeId} {fs:Array Field} (hu:P.underlying t=some (.struct fs)) (hp:P.stoodInHeld t=false) (h:(Op.eqFields d xs ys fs.toList).run P w= .ok r w):(Op.equalIn (d+1) t (.agg xs) (.agg ys)).run P w= .ok r w:=by
 have a:P.fieldsOf t=fs:=by simp[Program.fieldsOf,hu]
 rw[run_equalIn_struct (P:=P) w d t xs ys (by rw[a];exact hu) hp,a];exact h
end
theorem FH (d:Nat) (w:World) (x0 y0 x1 y1 x2 y2:Int):
  (Op.equalIn (d+2) 62 (.agg #[x0,x1,x2]) (.agg #[y0,y1,y2])).run Tryz.prog w= .ok (x0==y0&&(x1==y1&&(x2==y2))) w:=by
 refine xN Tryz.underlying62 ie ?_;refine kJ (by rfl) (by go_simp;rfl) (by go_simp;rfl) (by go_simp) ?_;refine kJ (by rfl) (by go_simp;rfl) (by go_simp;rfl) (by go_simp) ?_;exact sC (by rfl) (by go_simp;rfl) (by go_simp;rfl) (by go_simp)
theorem Fq (d:Nat) (w:World) (x y:mL):
  (Op.equalIn (d+2) 62 (.agg #[x.x,x.y,x.c]) (.agg #[y.x,y.y,y.c])).run Tryz.prog w= .ok (decide (x=y)) w:=by
 rw[FH]
 congr 1
 cases x;cases y;rw[Bool.eq_iff_iff];simp
theorem Fr (d:Nat) (w:World) (x0 y0 x1 y1 x2 y2 x3 y3 x4 y4 x5 y5 x6 y6:Int):
  (Op.equalIn (d+2) 132 (.agg #[x0,x1,x2,x3,x4,x5,x6]) (.agg #[y0,y1,y2,y3,y4,y5,y6])).run Tryz.prog w= .ok (x0==y0&&(x1==y1&&(x2==y2&&(x3==y3&&(x4==y4&&(x5==y5&&(x6==y6))))))) w:=by
 refine xN Tryz.underlying132 ie ?_;refine kJ (by rfl) (by go_simp;rfl) (by go_simp;rfl) (by go_simp) ?_;refine kJ (by rfl) (by go_simp;rfl) (by go_simp;rfl) (by go_simp) ?_;refine kJ (by rfl) (by go_simp;rfl) (by go_simp;rfl) (by go_simp) ?_;refine kJ (by rfl) (by go_simp;rfl) (by go_simp;rfl) (by go_simp) ?_;refine kJ (by rfl) (by go_simp;rfl) (by go_simp;rfl) (by go_simp) ?_;refine kJ (by rfl) (by go_simp;rfl) (by go_simp;rfl) (by go_simp) ?_;exact sC (by rfl) (by go_simp;rfl) (by go_simp;rfl) (by go_simp)
theorem FF (d:Nat) (w:World) (x y:im):
  (Op.equalIn (d+2) 132 (.agg #[x.time,x.to,x.from_,x.count,x.n,x.kind,x.arg]) (.agg #[y.time,y.to,y.from_,y.count,y.n,y.kind,y.arg])).run Tryz.prog w= .ok (decide (x=y)) w:=by
 rw[Fr]
 congr 1
 cases x;cases y;rw[Bool.eq_iff_iff];simp
theorem EC (d:Nat) (w:World) (x0 y0 x1 y1 x2 y2 x3 y3 x4 y4:Int):
  (Op.equalIn (d+2) 120 (.agg #[x0,x1,x2,x3,x4]) (.agg #[y0,y1,y2,y3,y4])).run Tryz.prog w= .ok (x0==y0&&(x1==y1&&(x2==y2&&(x3==y3&&(x4==y4))))) w:=by
 refine xN Tryz.underlying120 ie ?_;refine kJ (by rfl) (by go_simp;rfl) (by go_simp;rfl) (by go_simp) ?_;refine kJ (by rfl) (by go_simp;rfl) (by go_simp;rfl) (by go_simp) ?_;refine kJ (by rfl) (by go_simp;rfl) (by go_simp;rfl) (by go_simp) ?_;refine kJ (by rfl) (by go_simp;rfl) (by go_simp;rfl) (by go_simp) ?_;exact sC (by rfl) (by go_simp;rfl) (by go_simp;rfl) (by go_simp)
theorem EK (d:Nat) (w:World) (x y:iQ):
  (Op.equalIn (d+2) 120 (.agg #[x.time,x.proc,x.count,x.n,x.value]) (.agg #[y.time,y.proc,y.count,y.n,y.value])).run Tryz.prog w= .ok (decide (x=y)) w:=by
 rw[EC]
 congr 1
 cases x;cases y;rw[Bool.eq_iff_iff];simp
theorem Fa (d:Nat) (w:World) (x0 y0 x1 y1 x2 y2 x3 y3 x4 y4:Int):
  (Op.equalIn (d+2) 187 (.agg #[x0,x1,x2,x3,x4]) (.agg #[y0,y1,y2,y3,y4])).run Tryz.prog w= .ok (x0==y0&&(x1==y1&&(x2==y2&&(x3==y3&&(x4==y4))))) w:=by
 refine xN Tryz.underlying187 ie ?_;refine kJ (by rfl) (by go_simp;rfl) (by go_simp;rfl) (by go_simp) ?_;refine kJ (by rfl) (by go_simp;rfl) (by go_simp;rfl) (by go_simp) ?_;refine kJ (by rfl) (by go_simp;rfl) (by go_simp;rfl) (by go_simp) ?_;refine kJ (by rfl) (by go_simp;rfl) (by go_simp;rfl) (by go_simp) ?_;exact sC (by rfl) (by go_simp;rfl) (by go_simp;rfl) (by go_simp)
theorem FA (d:Nat) (w:World) (x y:mi):
  (Op.equalIn (d+2) 187 (.agg #[x.d,x.a,x.b,x.c,x.e]) (.agg #[y.d,y.a,y.b,y.c,y.e])).run Tryz.prog w= .ok (decide (x=y)) w:=by
 rw[Fa]
 congr 1
 cases x;cases y;rw[Bool.eq_iff_iff];simp
attribute [go_sem high] Fq FF EK FA
end
theorem i8 (a l h:Int) (w:World):Calls Tryz.prog 70 #[a,l,h] w fun e w' =>e= .returned (.bool (i2 a l h))∧w' =w:=by
 by_cases h1:l≤a<;>by_cases h2:a≤h
 all_goals
  go_enter Tryz.func70,Tryz.ntmps70;go_wp2;go_ret;exact⟨by simp[i2,h1,h2],rfl⟩
theorem ot (a:Int) (w:World):Calls Tryz.prog 137 #[a] w fun e w' =>e= .returned (.bool (i2 a 0 999))∧w' =w:=by
 go_enter Tryz.func137,Tryz.ntmps137;go_wp2_with (go_at_call 70;refine(i8 _ _ _ _).mono ?_;rintro e w' ⟨rfl,rfl⟩);go_ret;exact⟨rfl,rfl⟩
theorem kT (a:Int) (w:World):Calls Tryz.prog 136 #[a] w fun e w' =>e= .returned (.bool (i2 a 0 3))∧w' =w:=by
 go_enter Tryz.func136,Tryz.ntmps136;go_wp2_with (go_at_call 70;refine(i8 _ _ _ _).mono ?_;rintro e w' ⟨rfl,rfl⟩);go_ret;exact⟨rfl,rfl⟩
theorem Bu (a:Int) (w:World):Calls Tryz.prog 175 #[a] w fun e w' =>e= .returned (.bool (i2 a 0 1))∧w' =w:=by
 go_enter Tryz.func175,Tryz.ntmps175;go_wp2_with (go_at_call 70;refine(i8 _ _ _ _).mono ?_;rintro e w' ⟨rfl,rfl⟩);go_ret;exact⟨rfl,rfl⟩
def mi.val (o:mi):Value:= .agg #[o.d,o.a,o.b,o.c,o.e]
theorem ss (d a b c e:Int) (w:World):Calls Tryz.prog 143 #[.agg #[d,a,b,c,e]] w fun r w' =>r= .returned (.bool (kC ⟨d,a,b,c,e⟩))∧Below w.heap.size w w':=by
 by_cases k:d=1∨d=2∨d=3∨d=4∨d=5∨d=6∨d=7
 ·rcases k with rfl|rfl|rfl|rfl|rfl|rfl|rfl
  all_goals
   go_enter Tryz.func143,Tryz.ntmps143;go_wp2_with (first|(go_at_call 175;refine(Bu _ _).mono ?_;rintro e w' ⟨rfl,rfl⟩)|(go_at_call 137;refine(ot _ _).mono ?_;rintro e w' ⟨rfl,rfl⟩)|(go_at_call 136;refine(kT _ _).mono ?_;rintro e w' ⟨rfl,rfl⟩)|(go_at_call 70;refine(i8 _ _ _ _).mono ?_;rintro e w' ⟨rfl,rfl⟩))
   all_goals
    go_ret;exact⟨by simp[kC, *],gU (gY _ _) _⟩
 ·have g:(d==1)=false:=by simp;omega
  have i:(d==2)=false:=by simp;omega
  have j:(d==3)=false:=by simp;omega
  have l:(d==4)=false:=by simp;omega
  have m:(d==5)=false:=by simp;omega
  have n:(d==6)=false:=by simp;omega
  have o:(d==7)=false:=by simp;omega
  have f:kC ⟨d,a,b,c,e⟩=false:=by simp only[kC];rw[if_neg gO,if_neg gO,if_neg gO,if_neg gO,if_neg gO]
  clear k;go_enter Tryz.func143,Tryz.ntmps143;go_wp2_with (first|(go_at_call 175;refine(Bu _ _).mono ?_;rintro e w' ⟨rfl,rfl⟩)|(go_at_call 137;refine(ot _ _).mono ?_;rintro e w' ⟨rfl,rfl⟩)|(go_at_call 136;refine(kT _ _).mono ?_;rintro e w' ⟨rfl,rfl⟩)|(go_at_call 70;refine(i8 _ _ _ _).mono ?_;rintro e w' ⟨rfl,rfl⟩))
  all_goals
   go_ret;exact⟨by simp[f],gU (gY _ _) _⟩
end Go.Proofs.YtgilllnjhahkfaaGreat
