/-
  SchedViews: the row's closed fact. No condition.
-/
import Derived.Test.YtapnaocdehahdaaGreatRows
import Derived.JoinedOf
import Derived.ProofKit
namespace Go.Proofs.YtapnaocdehahdaaGreat.schedViews
open Go.ChangeShapes Go.WideShapes Go.ChangeAt Go.RowKit
theorem closed : joinedFacts Tryz.pinned.checked.prog 5 Tryz.f5 Rows.schedViewsSpec Rows.schedViewsRow = true := by kernel_rfl
end Go.Proofs.YtapnaocdehahdaaGreat.schedViews
