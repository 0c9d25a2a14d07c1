/-
  Layer 18 (heap): New; from call to call.
-/
import Derived.Test.YtapnaocdehahdaaGreatHpP
import Derived.Test.YtapnaocdehahdaaGreatKtB
