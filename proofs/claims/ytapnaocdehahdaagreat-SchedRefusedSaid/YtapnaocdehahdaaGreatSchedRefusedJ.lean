/-
  SchedRefused: the row's closed fact. No condition.
-/
import Derived.Test.YtapnaocdehahdaaGreatRows
import Derived.JoinedOf
import Derived.ProofKit
namespace Go.Proofs.YtapnaocdehahdaaGreat.schedRefused
open Go.ChangeShapes Go.WideShapes Go.ChangeAt Go.RowKit
theorem closed : joinedFacts Tryz.pinned.checked.prog 3 Tryz.f3 Rows.schedRefusedSpec Rows.schedRefusedRow = true := by kernel_rfl
end Go.Proofs.YtapnaocdehahdaaGreat.schedRefused
