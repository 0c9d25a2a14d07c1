/-
  The library's slices.SortFunc and cmp.Compare at the items of layer 18, laid by the shelf.
-/
import Derived.Test.YtpbaegdmjmickaaRows
import Derived.Shelf.SlSortCmp.WholeK
import Derived.Shelf.SlicesG.Cmp
import Derived.Shelf.Lay
import Derived.Shelf.LaySoft
import Derived.Ground.SlsfProg
import Derived.Ground.SlgcProg
namespace Go.Proofs
open Go.Shelf
shelf_try shelf_lay_g SlLaysF0.n6 Slsf 6 at Try 32 as Ytpbaegdmjmickaa.sortRun
shelf_try shelf_lay_g SlLaysC2.n5 Slgc 5 at Try 45 as Ytpbaegdmjmickaa.cmpInt
shelf_tried
end Go.Proofs
