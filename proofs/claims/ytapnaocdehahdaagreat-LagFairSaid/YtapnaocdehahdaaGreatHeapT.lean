/-
  Layer 18 (heap): settle.
-/
import Derived.Test.YtapnaocdehahdaaGreatHpS
import Derived.WalkMore
