/-
  Layer 18 (heap): Put.
-/
import Derived.Test.YtapnaocdehahdaaGreatHeapT
import Derived.Test.YtapnaocdehahdaaGreatHpA
import Derived.Test.YtapnaocdehahdaaGreatKtA
import Derived.Deep.DeepCutAuto
