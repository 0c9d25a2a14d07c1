/-
  Layer 31 (sched), in plain words: the state of a scheduler, what operations make of it, and what stays true.
-/
import Derived.Test.YtapnaocdehahdaaGreatTreeM
namespace Go.Proofs.YtapnaocdehahdaaGreat
open Go.RowKit Go.Maps Go.IntWalk Go.Lib
set_option linter.unusedVariables false
set_option linter.unusedSimpArgs false
structure Tsk where
 g:Nat
 w:Int
 cpu:Nat
 mask:Int
 rdy:Bool
 run:Ent
structure SSt where
 Gs:Grps
 C:Nat
 cr:Int
 Q:Nat→TSt
 cl:Nat→Int
 cu:Nat→Int
 ld:Nat→Int
 T:Int→Option Tsk
 c:Nat
 wk:Int
theorem nameV_iff {id:Int}:nameV id=true↔1≤id∧id≤65535:=by unfold nameV;exact decide_eq_true_iff
def bitM (m:Int) (c:Nat):Bool:=decide (m / 2 ^ c % 2=1)
end Go.Proofs.YtapnaocdehahdaaGreat
