/-
  Opening slices of elements that hold slices of plain elements.
-/
import Derived.Test.YtapnaocdehahdaaGreatKtA
import Derived.SizedLaws
namespace Go.Proofs.YtapnaocdehahdaaGreat
open Go.RowKit Go.WideShapes
set_option linter.unusedVariables false
set_option linter.unusedSimpArgs false
section
variable {H:Type} {enc:TypeId×Value→H} {P:Program} {w:World} {base:Nat} {spare:Nat→Bool} {held:Bool}
end
end Go.Proofs.YtapnaocdehahdaaGreat
