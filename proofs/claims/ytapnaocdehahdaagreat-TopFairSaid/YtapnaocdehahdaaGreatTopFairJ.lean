/-
  TopFair: the row's closed fact. No condition.
-/
import Derived.Test.YtapnaocdehahdaaGreatRows
import Derived.JoinedOf
import Derived.ProofKit
namespace Go.Proofs.YtapnaocdehahdaaGreat.topFair
open Go.ChangeShapes Go.WideShapes Go.ChangeAt Go.RowKit
theorem closed : joinedFacts Tryz.pinned.checked.prog 10 Tryz.f10 Rows.topFairSpec Rows.topFairRow = true := by kernel_rfl
end Go.Proofs.YtapnaocdehahdaaGreat.topFair
