/-
  LagFair: the row's closed fact. No condition.
-/
import Derived.Test.YtapnaocdehahdaaGreatRows
import Derived.JoinedOf
import Derived.ProofKit
namespace Go.Proofs.YtapnaocdehahdaaGreat.lagFair
open Go.ChangeShapes Go.WideShapes Go.ChangeAt Go.RowKit
theorem closed:joinedFacts Tryz.pinned.checked.prog 12 Tryz.f12 Rows.lagFairSpec Rows.lagFairRow=true:=by kernel_rfl
end Go.Proofs.YtapnaocdehahdaaGreat.lagFair
