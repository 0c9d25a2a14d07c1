/-
  Layer 24 (queue): plain facts on members in lists; no program.
-/
import Derived.Test.YtapnaocdehahdaaGreatHpA
import Derived.Test.YtapnaocdehahdaaGreatChA
import Derived.Test.YtapnaocdehahdaaGreatKtA
import Derived.Test.YtapnaocdehahdaaGreatHeapSt
import Derived.Test.YtapnaocdehahdaaGreatChargeR
namespace Go.Proofs.YtapnaocdehahdaaGreat
set_option linter.unusedVariables false
abbrev Ent:=Int×Int×Int
abbrev Mems:=List (Int×Ent)
end Go.Proofs.YtapnaocdehahdaaGreat
