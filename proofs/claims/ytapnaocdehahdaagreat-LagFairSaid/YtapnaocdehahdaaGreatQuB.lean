/-
  Layer 24 (queue): change.
-/
import Derived.Test.YtapnaocdehahdaaGreatQuA
namespace Go.Proofs.YtapnaocdehahdaaGreat
open Go.RowKit Go.Maps Go.IntWalk Go.Lib
set_option linter.unusedVariables false
set_option linter.unusedSimpArgs false
@[go_sem] theorem run_field_ent2 (a b c:Value) (w:World):Sem.run Tryz.prog (Instr.field 107 (.agg #[a,b,c]) 2) w=.ok c w:=by kernel_rfl
def tkOk (t:Int):Prop:=0≤t∧t≤4294967295
instance (t:Int):Decidable (tkOk t):=by unfold tkOk;infer_instance
def wgOk (k:Int):Prop:=1≤k∧k≤65536
instance (t:Int):Decidable (wgOk t):=by unfold wgOk;infer_instance
def chgX (t:Int) (y:Ent):Ent:=(Ch.addV y.1 y.2.1 y.2.2 t,Ch.addR y.1 y.2.1 y.2.2 t,y.2.2)
end Go.Proofs.YtapnaocdehahdaaGreat
