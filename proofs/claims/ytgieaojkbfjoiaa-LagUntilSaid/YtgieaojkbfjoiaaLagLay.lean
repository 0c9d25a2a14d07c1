/-
  The library's slices.SortFunc and cmp.Compare at the tasks of layer 39, laid by the shelf.
-/
import Derived.Test.YtgieaojkbfjoiaaRows
import Derived.Shelf.SlSortCmp.WholeK
import Derived.Shelf.SlicesG.Cmp
import Derived.Shelf.Lay
import Derived.Ground.SlsfProg
import Derived.Ground.SlgcProg
namespace Go.Proofs
open Go.Shelf Go.RowKit Go.Lib Go.Sort
shelf_lay_g SlLaysF0.n6 Slsf 6 at Try 30 as Ytgieaojkbfjoiaa.sortRun
shelf_lay_g SlLaysC2.n5 Slgc 5 at Try 33 as Ytgieaojkbfjoiaa.cmpInt


end Go.Proofs
