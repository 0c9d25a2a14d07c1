/-
  The walks of the reference of layer 22: each function returns what the plain functions of chargeM say.
-/
import Derived.Test.YtapnaocdehahdaaGreatChA
import Derived.RegionTactic
