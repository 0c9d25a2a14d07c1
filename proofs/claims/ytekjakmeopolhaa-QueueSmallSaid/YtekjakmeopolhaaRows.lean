/-
  No cell of these rows narrows 'for every input' (looked for: loops, veiled, ifaces, maps, wideKeys, modest, calm, conditions, laid).
  DERIVED. THE GIVEN ROWS OF THIS SEAT. 7 by the template 'for every input the law returns true; each argument reads behind the call as it read before'; 0 by the template 'total and deterministic' (their statements: YtekjakmeopolhaaTotals.lean).
  GIVEN WITH THE SEED: the statements are not yours to turn. If you find one false, say at which input.
  Laid BY PROGRAM, IN A SANDBOX (cutbox-rows.mjs): the forced cells as the released guide's own fill.sh prints them over the translation b890756d91c5dab7… (all of the seat's roots in one cut). By AI agents, Wed Nov 11 2026. No macro, syntax, notation, axiom, sorry.
-/
import Derived.Test.YtekjakmeopolhaaChecked
import GoSem.Claim
import GoSem.ClaimJoined
import GoSem.ClaimMapViews
import Derived.JoinedTies
import Derived.KernelRfl
namespace Go.Proofs.Ytekjakmeopolhaa
/- THE CELL 'sum', in the pinned program and in every row, IS THE sha256 OF THE DUMP (.gsa) THAT YtekjakmeopolhaaProg.lean LOADS. Nothing in Lean hashes anything: it is a label: what it is worth is what the hold of that sum in a sandbox is worth. -/
noncomputable def Try.pinned : Pinned := { name := "ytekjakmeopolhaa", sum := "b890756d91c5dab78d786d95d9bd7553866fd46e2e8577234f9b72f2c7f96046", checked := Try.checked }
namespace Rows
def none {H : Type} : Left H := { results := [], args := [] }

/-- 'quantumlaw24.QueueBack': WHATEVER THE INPUT: true; the input reads as it did. -/
def queueBackSpec : ChangeSpec := { name := "queueBack", fn := fun _ => fun
  | [d1, d2, d3, d4, d5] => { results := [.lit (.bool true)], args := [d1, d2, d3, d4, d5] }
  | _ => none }
def queueBackRow : OpenClaim := { program := "ytekjakmeopolhaa", sum := "b890756d91c5dab78d786d95d9bd7553866fd46e2e8577234f9b72f2c7f96046", func := "quantum/quantumlaw24.QueueBack", spec := "queueBack", unfollowed := true, recurses := true, apart := false }
def QueueBackSaid : Prop := queueBackRow.holds Try.pinned (OpenSpec.ofChange queueBackSpec)

/-- ITS FALSE NEIGHBOUR: 'it returns false'. Refute it at one input. -/
def queueBackWrong : ChangeSpec := { name := "queueBack", fn := fun _ => fun
  | [d1, d2, d3, d4, d5] => { results := [.lit (.bool false)], args := [d1, d2, d3, d4, d5] }
  | _ => none }
def QueueBackWrongFalsely : Prop := queueBackRow.holds Try.pinned (OpenSpec.ofChange queueBackWrong)

/-- 'quantumlaw24.QueueFair': WHATEVER THE INPUT: true; the input reads as it did. -/
def queueFairSpec : ChangeSpec := { name := "queueFair", fn := fun _ => fun
  | [d1, d2] => { results := [.lit (.bool true)], args := [d1, d2] }
  | _ => none }
def queueFairRow : OpenClaim := { program := "ytekjakmeopolhaa", sum := "b890756d91c5dab78d786d95d9bd7553866fd46e2e8577234f9b72f2c7f96046", func := "quantum/quantumlaw24.QueueFair", spec := "queueFair", unfollowed := true, recurses := true, apart := false }
def QueueFairSaid : Prop := queueFairRow.holds Try.pinned (OpenSpec.ofChange queueFairSpec)

/-- ITS FALSE NEIGHBOUR: 'it returns false'. Refute it at one input. -/
def queueFairWrong : ChangeSpec := { name := "queueFair", fn := fun _ => fun
  | [d1, d2] => { results := [.lit (.bool false)], args := [d1, d2] }
  | _ => none }
def QueueFairWrongFalsely : Prop := queueFairRow.holds Try.pinned (OpenSpec.ofChange queueFairWrong)

/-- 'quantumlaw24.QueueWrong': WHATEVER THE INPUT: true; the input reads as it did. -/
def queueWrongSpec : ChangeSpec := { name := "queueWrong", fn := fun _ => fun
  | [d1, d2, d3] => { results := [.lit (.bool true)], args := [d1, d2, d3] }
  | _ => none }
def queueWrongRow : OpenClaim := { program := "ytekjakmeopolhaa", sum := "b890756d91c5dab78d786d95d9bd7553866fd46e2e8577234f9b72f2c7f96046", func := "quantum/quantumlaw24.QueueWrong", spec := "queueWrong", unfollowed := true, recurses := true, apart := false }
def QueueWrongSaid : Prop := queueWrongRow.holds Try.pinned (OpenSpec.ofChange queueWrongSpec)

/-- ITS FALSE NEIGHBOUR: 'it returns false'. Refute it at one input. -/
def queueWrongWrong : ChangeSpec := { name := "queueWrong", fn := fun _ => fun
  | [d1, d2, d3] => { results := [.lit (.bool false)], args := [d1, d2, d3] }
  | _ => none }
def QueueWrongWrongFalsely : Prop := queueWrongRow.holds Try.pinned (OpenSpec.ofChange queueWrongWrong)

/-- 'quantumlaw24.QueueOne': WHATEVER THE INPUT: true; the input reads as it did. -/
def queueOneSpec : ChangeSpec := { name := "queueOne", fn := fun _ => fun
  | [d1, d2, d3, d4, d5] => { results := [.lit (.bool true)], args := [d1, d2, d3, d4, d5] }
  | _ => none }
def queueOneRow : OpenClaim := { program := "ytekjakmeopolhaa", sum := "b890756d91c5dab78d786d95d9bd7553866fd46e2e8577234f9b72f2c7f96046", func := "quantum/quantumlaw24.QueueOne", spec := "queueOne", unfollowed := true, recurses := true, apart := false }
def QueueOneSaid : Prop := queueOneRow.holds Try.pinned (OpenSpec.ofChange queueOneSpec)

/-- ITS FALSE NEIGHBOUR: 'it returns false'. Refute it at one input. -/
def queueOneWrong : ChangeSpec := { name := "queueOne", fn := fun _ => fun
  | [d1, d2, d3, d4, d5] => { results := [.lit (.bool false)], args := [d1, d2, d3, d4, d5] }
  | _ => none }
def QueueOneWrongFalsely : Prop := queueOneRow.holds Try.pinned (OpenSpec.ofChange queueOneWrong)

/-- 'quantumlaw24.QueueFloor': WHATEVER THE INPUT: true; the input reads as it did. -/
def queueFloorSpec : ChangeSpec := { name := "queueFloor", fn := fun _ => fun
  | [d1, d2] => { results := [.lit (.bool true)], args := [d1, d2] }
  | _ => none }
def queueFloorRow : OpenClaim := { program := "ytekjakmeopolhaa", sum := "b890756d91c5dab78d786d95d9bd7553866fd46e2e8577234f9b72f2c7f96046", func := "quantum/quantumlaw24.QueueFloor", spec := "queueFloor", unfollowed := true, recurses := true, apart := false }
def QueueFloorSaid : Prop := queueFloorRow.holds Try.pinned (OpenSpec.ofChange queueFloorSpec)

/-- ITS FALSE NEIGHBOUR: 'it returns false'. Refute it at one input. -/
def queueFloorWrong : ChangeSpec := { name := "queueFloor", fn := fun _ => fun
  | [d1, d2] => { results := [.lit (.bool false)], args := [d1, d2] }
  | _ => none }
def QueueFloorWrongFalsely : Prop := queueFloorRow.holds Try.pinned (OpenSpec.ofChange queueFloorWrong)

/-- 'quantumlaw24.QueueTells': WHATEVER THE INPUT: true; the input reads as it did. -/
def queueTellsSpec : ChangeSpec := { name := "queueTells", fn := fun _ => fun
  | [d1, d2] => { results := [.lit (.bool true)], args := [d1, d2] }
  | _ => none }
def queueTellsRow : OpenClaim := { program := "ytekjakmeopolhaa", sum := "b890756d91c5dab78d786d95d9bd7553866fd46e2e8577234f9b72f2c7f96046", func := "quantum/quantumlaw24.QueueTells", spec := "queueTells", unfollowed := true, recurses := true, apart := false }
def QueueTellsSaid : Prop := queueTellsRow.holds Try.pinned (OpenSpec.ofChange queueTellsSpec)

/-- ITS FALSE NEIGHBOUR: 'it returns false'. Refute it at one input. -/
def queueTellsWrong : ChangeSpec := { name := "queueTells", fn := fun _ => fun
  | [d1, d2] => { results := [.lit (.bool false)], args := [d1, d2] }
  | _ => none }
def QueueTellsWrongFalsely : Prop := queueTellsRow.holds Try.pinned (OpenSpec.ofChange queueTellsWrong)

/-- 'quantumlaw24.QueueSmall': WHATEVER THE INPUT: true; the input reads as it did. -/
def queueSmallSpec : ChangeSpec := { name := "queueSmall", fn := fun _ => fun
  | [] => { results := [.lit (.bool true)], args := [] }
  | _ => none }
def queueSmallRow : OpenClaim := { program := "ytekjakmeopolhaa", sum := "b890756d91c5dab78d786d95d9bd7553866fd46e2e8577234f9b72f2c7f96046", func := "quantum/quantumlaw24.QueueSmall", spec := "queueSmall", unfollowed := true, recurses := true, apart := false }
def QueueSmallSaid : Prop := queueSmallRow.holds Try.pinned (OpenSpec.ofChange queueSmallSpec)

/-- ITS FALSE NEIGHBOUR: 'it returns false'. Refute it at one input. -/
def queueSmallWrong : ChangeSpec := { name := "queueSmall", fn := fun _ => fun
  | [] => { results := [.lit (.bool false)], args := [] }
  | _ => none }
def QueueSmallWrongFalsely : Prop := queueSmallRow.holds Try.pinned (OpenSpec.ofChange queueSmallWrong)

/- THE SECOND FORM. 'bulk': how many values and letters a reading holds, each counted each time it is reached (what is shared counts as often as it is met; a slice's spare places count too). A statement '..UptoSaid' is the law's where the arguments, and the package variables that the reading takes, are together of bulk at most 1048576: NARROWER than '..Said'. Prove '..Said' where nothing that the law and all that it calls make is longer than what came in: it says more and counts as full. Else prove '..UptoSaid'. A law counts once. -/
mutual
def uptoBulk {H : Type} : DataW H → Nat
  | .lit (.string bytes) => bytes.length + 1
  | .lit _ => 1
  | .nil => 1
  | .ptr d => uptoBulk d + 1
  | .slice elems spare => uptoBulkAll elems + uptoBulkAll spare + 1
  | .agg parts => uptoBulkAll parts + 1
  | .iface _ d => uptoBulk d + 1
  | .map entries => uptoBulkEntries entries + 1
  | .held _ => 1
def uptoBulkAll {H : Type} : List (DataW H) → Nat
  | [] => 0
  | d :: r => uptoBulk d + uptoBulkAll r
def uptoBulkEntries {H : Type} : List (Lit × DataW H) → Nat
  | [] => 0
  | x :: r => uptoBulkEntry x + uptoBulkEntries r
def uptoBulkEntry {H : Type} : Lit × DataW H → Nat
  | (.string bytes, d) => bytes.length + uptoBulk d + 1
  | (_, d) => uptoBulk d + 1
 end
def uptoSmall : (H : Type) → List (DataW H) → Bool := fun _ ds => decide (uptoBulkAll ds ≤ 1048576)
def OpenSpec.upto (s : _root_.Go.ChangeSpec) : _root_.Go.OpenSpec := { _root_.Go.OpenSpec.ofChange s with cond := some uptoSmall }

/-- 'quantumlaw24.QueueBack', WHERE WHAT IT READS IS OF BULK AT MOST 1048576: true; the input reads as it did. -/
def queueBackUptoRow : OpenClaim := { program := "ytekjakmeopolhaa", sum := "b890756d91c5dab78d786d95d9bd7553866fd46e2e8577234f9b72f2c7f96046", func := "quantum/quantumlaw24.QueueBack", spec := "queueBack", unfollowed := true, recurses := true, apart := false, narrowed := true }
def QueueBackUptoSaid : Prop := queueBackUptoRow.holds Try.pinned (OpenSpec.upto queueBackSpec)

/-- 'quantumlaw24.QueueFair', WHERE WHAT IT READS IS OF BULK AT MOST 1048576: true; the input reads as it did. -/
def queueFairUptoRow : OpenClaim := { program := "ytekjakmeopolhaa", sum := "b890756d91c5dab78d786d95d9bd7553866fd46e2e8577234f9b72f2c7f96046", func := "quantum/quantumlaw24.QueueFair", spec := "queueFair", unfollowed := true, recurses := true, apart := false, narrowed := true }
def QueueFairUptoSaid : Prop := queueFairUptoRow.holds Try.pinned (OpenSpec.upto queueFairSpec)

/-- 'quantumlaw24.QueueWrong', WHERE WHAT IT READS IS OF BULK AT MOST 1048576: true; the input reads as it did. -/
def queueWrongUptoRow : OpenClaim := { program := "ytekjakmeopolhaa", sum := "b890756d91c5dab78d786d95d9bd7553866fd46e2e8577234f9b72f2c7f96046", func := "quantum/quantumlaw24.QueueWrong", spec := "queueWrong", unfollowed := true, recurses := true, apart := false, narrowed := true }
def QueueWrongUptoSaid : Prop := queueWrongUptoRow.holds Try.pinned (OpenSpec.upto queueWrongSpec)

/-- 'quantumlaw24.QueueOne', WHERE WHAT IT READS IS OF BULK AT MOST 1048576: true; the input reads as it did. -/
def queueOneUptoRow : OpenClaim := { program := "ytekjakmeopolhaa", sum := "b890756d91c5dab78d786d95d9bd7553866fd46e2e8577234f9b72f2c7f96046", func := "quantum/quantumlaw24.QueueOne", spec := "queueOne", unfollowed := true, recurses := true, apart := false, narrowed := true }
def QueueOneUptoSaid : Prop := queueOneUptoRow.holds Try.pinned (OpenSpec.upto queueOneSpec)

/-- 'quantumlaw24.QueueFloor', WHERE WHAT IT READS IS OF BULK AT MOST 1048576: true; the input reads as it did. -/
def queueFloorUptoRow : OpenClaim := { program := "ytekjakmeopolhaa", sum := "b890756d91c5dab78d786d95d9bd7553866fd46e2e8577234f9b72f2c7f96046", func := "quantum/quantumlaw24.QueueFloor", spec := "queueFloor", unfollowed := true, recurses := true, apart := false, narrowed := true }
def QueueFloorUptoSaid : Prop := queueFloorUptoRow.holds Try.pinned (OpenSpec.upto queueFloorSpec)

/-- 'quantumlaw24.QueueTells', WHERE WHAT IT READS IS OF BULK AT MOST 1048576: true; the input reads as it did. -/
def queueTellsUptoRow : OpenClaim := { program := "ytekjakmeopolhaa", sum := "b890756d91c5dab78d786d95d9bd7553866fd46e2e8577234f9b72f2c7f96046", func := "quantum/quantumlaw24.QueueTells", spec := "queueTells", unfollowed := true, recurses := true, apart := false, narrowed := true }
def QueueTellsUptoSaid : Prop := queueTellsUptoRow.holds Try.pinned (OpenSpec.upto queueTellsSpec)

/-- 'quantumlaw24.QueueSmall', WHERE WHAT IT READS IS OF BULK AT MOST 1048576: true; the input reads as it did. -/
def queueSmallUptoRow : OpenClaim := { program := "ytekjakmeopolhaa", sum := "b890756d91c5dab78d786d95d9bd7553866fd46e2e8577234f9b72f2c7f96046", func := "quantum/quantumlaw24.QueueSmall", spec := "queueSmall", unfollowed := true, recurses := true, apart := false, narrowed := true }
def QueueSmallUptoSaid : Prop := queueSmallUptoRow.holds Try.pinned (OpenSpec.upto queueSmallSpec)

end Rows
end Go.Proofs.Ytekjakmeopolhaa
