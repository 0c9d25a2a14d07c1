/-
  The walks of layer 18 (heap): what compares; the small methods.
-/
import Derived.Test.YtapnaocdehahdaaGreatHeapLay
import Derived.Test.YtapnaocdehahdaaGreatKtA
import Derived.RegionTactic
import Derived.Deep.RegionHeld3
import Derived.Outline
import Derived.Test.YtapnaocdehahdaaGreatHpA
import Derived.BigRegion
import Derived.Scope
namespace Go.Proofs.YtapnaocdehahdaaGreat
open Go.RowKit Go.Maps Go.IntWalk Go.Lib Go.Sort
set_option linter.unusedVariables false
def Fits (n:Int) (L:Items):Prop:=∀ x∈L,(0≤x.1∧x.1<n)∧0≤x.2∧x.2≤18446744073709551615
def hasV (n id:Int):Bool:=decide (0≤id∧id<n)
def jumps (J:Nat→Act→World→Prop) (Q:Exit→Act→World→Prop):Exit→Act→World→Prop
 | .goto l,a,w=>J l a w
 | e,a,w=>Q e a w
@[go_sem] theorem jumps_normal {J:Nat→Act→World→Prop} {Q:Exit→Act→World→Prop} {a:Act} {w:World}:jumps J Q .normal a w=Q .normal a w:=rfl
@[go_sem] theorem jumps_ret {J:Nat→Act→World→Prop} {Q:Exit→Act→World→Prop} {a:Act} {w:World}:jumps J Q .ret a w=Q .ret a w:=rfl
end Go.Proofs.YtapnaocdehahdaaGreat
