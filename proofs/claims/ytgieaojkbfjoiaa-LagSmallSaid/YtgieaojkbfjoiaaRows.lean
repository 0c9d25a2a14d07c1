/-
  No cell of these rows narrows 'for every input' (looked for: loops, veiled, ifaces, maps, wideKeys, modest, calm, conditions, laid).
  DERIVED. THE GIVEN ROWS OF THIS SEAT. 7 by the template 'for every input the law returns true; each argument reads behind the call as it read before'; 0 by the template 'total and deterministic' (their statements: YtgieaojkbfjoiaaTotals.lean).
  GIVEN WITH THE SEED: the statements are not yours to turn. If you find one false, say at which input.
  Laid BY PROGRAM, IN A SANDBOX (cutbox-rows.mjs): the forced cells as the released guide's own fill.sh prints them over the translation d6bc8b95fa1f3349… (all of the seat's roots in one cut). By AI agents, Wed Nov 11 2026. No macro, syntax, notation, axiom, sorry.
-/
import Derived.Test.YtgieaojkbfjoiaaChecked
import GoSem.Claim
import GoSem.ClaimJoined
import GoSem.ClaimMapViews
import Derived.JoinedTies
import Derived.KernelRfl
namespace Go.Proofs.Ytgieaojkbfjoiaa
/- THE CELL 'sum', in the pinned program and in every row, IS THE sha256 OF THE DUMP (.gsa) THAT YtgieaojkbfjoiaaProg.lean LOADS. Nothing in Lean hashes anything: it is a label: what it is worth is what the hold of that sum in a sandbox is worth. -/
noncomputable def Try.pinned : Pinned := { name := "ytgieaojkbfjoiaa", sum := "d6bc8b95fa1f3349510550a1bb81d2254422d139b73fc7201a4af97e7dd95c0e", checked := Try.checked }
namespace Rows
def none {H : Type} : Left H := { results := [], args := [] }

/-- 'quantumlaw39.LagOrder': WHATEVER THE INPUT: true; the input reads as it did. -/
def lagOrderSpec : ChangeSpec := { name := "lagOrder", fn := fun _ => fun
  | [d1, d2, d3, d4, d5] => { results := [.lit (.bool true)], args := [d1, d2, d3, d4, d5] }
  | _ => none }
def lagOrderRow : OpenClaim := { program := "ytgieaojkbfjoiaa", sum := "d6bc8b95fa1f3349510550a1bb81d2254422d139b73fc7201a4af97e7dd95c0e", func := "quantum/quantumlaw39.LagOrder", spec := "lagOrder", unfollowed := true, recurses := true, apart := false }
def LagOrderSaid : Prop := lagOrderRow.holds Try.pinned (OpenSpec.ofChange lagOrderSpec)

/-- ITS FALSE NEIGHBOUR: 'it returns false'. Refute it at one input. -/
def lagOrderWrong : ChangeSpec := { name := "lagOrder", fn := fun _ => fun
  | [d1, d2, d3, d4, d5] => { results := [.lit (.bool false)], args := [d1, d2, d3, d4, d5] }
  | _ => none }
def LagOrderWrongFalsely : Prop := lagOrderRow.holds Try.pinned (OpenSpec.ofChange lagOrderWrong)

/-- 'quantumlaw39.LagUntil': WHATEVER THE INPUT: true; the input reads as it did. -/
def lagUntilSpec : ChangeSpec := { name := "lagUntil", fn := fun _ => fun
  | [d1, d2, d3] => { results := [.lit (.bool true)], args := [d1, d2, d3] }
  | _ => none }
def lagUntilRow : OpenClaim := { program := "ytgieaojkbfjoiaa", sum := "d6bc8b95fa1f3349510550a1bb81d2254422d139b73fc7201a4af97e7dd95c0e", func := "quantum/quantumlaw39.LagUntil", spec := "lagUntil", unfollowed := true, recurses := true, apart := false }
def LagUntilSaid : Prop := lagUntilRow.holds Try.pinned (OpenSpec.ofChange lagUntilSpec)

/-- ITS FALSE NEIGHBOUR: 'it returns false'. Refute it at one input. -/
def lagUntilWrong : ChangeSpec := { name := "lagUntil", fn := fun _ => fun
  | [d1, d2, d3] => { results := [.lit (.bool false)], args := [d1, d2, d3] }
  | _ => none }
def LagUntilWrongFalsely : Prop := lagUntilRow.holds Try.pinned (OpenSpec.ofChange lagUntilWrong)

/-- 'quantumlaw39.LagNext': WHATEVER THE INPUT: true; the input reads as it did. -/
def lagNextSpec : ChangeSpec := { name := "lagNext", fn := fun _ => fun
  | [d1, d2] => { results := [.lit (.bool true)], args := [d1, d2] }
  | _ => none }
def lagNextRow : OpenClaim := { program := "ytgieaojkbfjoiaa", sum := "d6bc8b95fa1f3349510550a1bb81d2254422d139b73fc7201a4af97e7dd95c0e", func := "quantum/quantumlaw39.LagNext", spec := "lagNext", unfollowed := true, recurses := true, apart := false }
def LagNextSaid : Prop := lagNextRow.holds Try.pinned (OpenSpec.ofChange lagNextSpec)

/-- ITS FALSE NEIGHBOUR: 'it returns false'. Refute it at one input. -/
def lagNextWrong : ChangeSpec := { name := "lagNext", fn := fun _ => fun
  | [d1, d2] => { results := [.lit (.bool false)], args := [d1, d2] }
  | _ => none }
def LagNextWrongFalsely : Prop := lagNextRow.holds Try.pinned (OpenSpec.ofChange lagNextWrong)

/-- 'quantumlaw39.LagTells': WHATEVER THE INPUT: true; the input reads as it did. -/
def lagTellsSpec : ChangeSpec := { name := "lagTells", fn := fun _ => fun
  | [d1, d2, d3] => { results := [.lit (.bool true)], args := [d1, d2, d3] }
  | _ => none }
def lagTellsRow : OpenClaim := { program := "ytgieaojkbfjoiaa", sum := "d6bc8b95fa1f3349510550a1bb81d2254422d139b73fc7201a4af97e7dd95c0e", func := "quantum/quantumlaw39.LagTells", spec := "lagTells", unfollowed := true, recurses := true, apart := false }
def LagTellsSaid : Prop := lagTellsRow.holds Try.pinned (OpenSpec.ofChange lagTellsSpec)

/-- ITS FALSE NEIGHBOUR: 'it returns false'. Refute it at one input. -/
def lagTellsWrong : ChangeSpec := { name := "lagTells", fn := fun _ => fun
  | [d1, d2, d3] => { results := [.lit (.bool false)], args := [d1, d2, d3] }
  | _ => none }
def LagTellsWrongFalsely : Prop := lagTellsRow.holds Try.pinned (OpenSpec.ofChange lagTellsWrong)

/-- 'quantumlaw39.LagSmall': WHATEVER THE INPUT: true; the input reads as it did. -/
def lagSmallSpec : ChangeSpec := { name := "lagSmall", fn := fun _ => fun
  | [] => { results := [.lit (.bool true)], args := [] }
  | _ => none }
def lagSmallRow : OpenClaim := { program := "ytgieaojkbfjoiaa", sum := "d6bc8b95fa1f3349510550a1bb81d2254422d139b73fc7201a4af97e7dd95c0e", func := "quantum/quantumlaw39.LagSmall", spec := "lagSmall", unfollowed := true, recurses := true, apart := false }
def LagSmallSaid : Prop := lagSmallRow.holds Try.pinned (OpenSpec.ofChange lagSmallSpec)

/-- ITS FALSE NEIGHBOUR: 'it returns false'. Refute it at one input. -/
def lagSmallWrong : ChangeSpec := { name := "lagSmall", fn := fun _ => fun
  | [] => { results := [.lit (.bool false)], args := [] }
  | _ => none }
def LagSmallWrongFalsely : Prop := lagSmallRow.holds Try.pinned (OpenSpec.ofChange lagSmallWrong)

/-- 'quantumlaw39.LagZero': WHATEVER THE INPUT: true; the input reads as it did. -/
def lagZeroSpec : ChangeSpec := { name := "lagZero", fn := fun _ => fun
  | [d1, d2] => { results := [.lit (.bool true)], args := [d1, d2] }
  | _ => none }
def lagZeroRow : OpenClaim := { program := "ytgieaojkbfjoiaa", sum := "d6bc8b95fa1f3349510550a1bb81d2254422d139b73fc7201a4af97e7dd95c0e", func := "quantum/quantumlaw39.LagZero", spec := "lagZero", unfollowed := true, recurses := true, apart := false }
def LagZeroSaid : Prop := lagZeroRow.holds Try.pinned (OpenSpec.ofChange lagZeroSpec)

/-- ITS FALSE NEIGHBOUR: 'it returns false'. Refute it at one input. -/
def lagZeroWrong : ChangeSpec := { name := "lagZero", fn := fun _ => fun
  | [d1, d2] => { results := [.lit (.bool false)], args := [d1, d2] }
  | _ => none }
def LagZeroWrongFalsely : Prop := lagZeroRow.holds Try.pinned (OpenSpec.ofChange lagZeroWrong)

/-- 'quantumlaw39.LagWrong': WHATEVER THE INPUT: true; the input reads as it did. -/
def lagWrongSpec : ChangeSpec := { name := "lagWrong", fn := fun _ => fun
  | [d1, d2, d3, d4, d5] => { results := [.lit (.bool true)], args := [d1, d2, d3, d4, d5] }
  | _ => none }
def lagWrongRow : OpenClaim := { program := "ytgieaojkbfjoiaa", sum := "d6bc8b95fa1f3349510550a1bb81d2254422d139b73fc7201a4af97e7dd95c0e", func := "quantum/quantumlaw39.LagWrong", spec := "lagWrong", unfollowed := true, recurses := true, apart := false }
def LagWrongSaid : Prop := lagWrongRow.holds Try.pinned (OpenSpec.ofChange lagWrongSpec)

/-- ITS FALSE NEIGHBOUR: 'it returns false'. Refute it at one input. -/
def lagWrongWrong : ChangeSpec := { name := "lagWrong", fn := fun _ => fun
  | [d1, d2, d3, d4, d5] => { results := [.lit (.bool false)], args := [d1, d2, d3, d4, d5] }
  | _ => none }
def LagWrongWrongFalsely : Prop := lagWrongRow.holds Try.pinned (OpenSpec.ofChange lagWrongWrong)

/- THE SECOND FORM. 'bulk': how many values and letters a reading holds, each counted each time it is reached (what is shared counts as often as it is met; a slice's spare places count too). A statement '..UptoSaid' is the law's where the arguments, and the package variables that the reading takes, are together of bulk at most 1048576: NARROWER than '..Said'. Prove '..Said' where nothing that the law and all that it calls make is longer than what came in: it says more and counts as full. Else prove '..UptoSaid'. A law counts once. -/
mutual
def uptoBulk {H : Type} : DataW H → Nat
  | .lit (.string bytes) => bytes.length + 1
  | .lit _ => 1
  | .nil => 1
  | .ptr d => uptoBulk d + 1
  | .slice elems spare => uptoBulkAll elems + uptoBulkAll spare + 1
  | .agg parts => uptoBulkAll parts + 1
  | .iface _ d => uptoBulk d + 1
  | .map entries => uptoBulkEntries entries + 1
  | .held _ => 1
def uptoBulkAll {H : Type} : List (DataW H) → Nat
  | [] => 0
  | d :: r => uptoBulk d + uptoBulkAll r
def uptoBulkEntries {H : Type} : List (Lit × DataW H) → Nat
  | [] => 0
  | x :: r => uptoBulkEntry x + uptoBulkEntries r
def uptoBulkEntry {H : Type} : Lit × DataW H → Nat
  | (.string bytes, d) => bytes.length + uptoBulk d + 1
  | (_, d) => uptoBulk d + 1
 end
def uptoSmall : (H : Type) → List (DataW H) → Bool := fun _ ds => decide (uptoBulkAll ds ≤ 1048576)
def OpenSpec.upto (s : _root_.Go.ChangeSpec) : _root_.Go.OpenSpec := { _root_.Go.OpenSpec.ofChange s with cond := some uptoSmall }

/-- 'quantumlaw39.LagOrder', WHERE WHAT IT READS IS OF BULK AT MOST 1048576: true; the input reads as it did. -/
def lagOrderUptoRow : OpenClaim := { program := "ytgieaojkbfjoiaa", sum := "d6bc8b95fa1f3349510550a1bb81d2254422d139b73fc7201a4af97e7dd95c0e", func := "quantum/quantumlaw39.LagOrder", spec := "lagOrder", unfollowed := true, recurses := true, apart := false, narrowed := true }
def LagOrderUptoSaid : Prop := lagOrderUptoRow.holds Try.pinned (OpenSpec.upto lagOrderSpec)

/-- 'quantumlaw39.LagUntil', WHERE WHAT IT READS IS OF BULK AT MOST 1048576: true; the input reads as it did. -/
def lagUntilUptoRow : OpenClaim := { program := "ytgieaojkbfjoiaa", sum := "d6bc8b95fa1f3349510550a1bb81d2254422d139b73fc7201a4af97e7dd95c0e", func := "quantum/quantumlaw39.LagUntil", spec := "lagUntil", unfollowed := true, recurses := true, apart := false, narrowed := true }
def LagUntilUptoSaid : Prop := lagUntilUptoRow.holds Try.pinned (OpenSpec.upto lagUntilSpec)

/-- 'quantumlaw39.LagNext', WHERE WHAT IT READS IS OF BULK AT MOST 1048576: true; the input reads as it did. -/
def lagNextUptoRow : OpenClaim := { program := "ytgieaojkbfjoiaa", sum := "d6bc8b95fa1f3349510550a1bb81d2254422d139b73fc7201a4af97e7dd95c0e", func := "quantum/quantumlaw39.LagNext", spec := "lagNext", unfollowed := true, recurses := true, apart := false, narrowed := true }
def LagNextUptoSaid : Prop := lagNextUptoRow.holds Try.pinned (OpenSpec.upto lagNextSpec)

/-- 'quantumlaw39.LagTells', WHERE WHAT IT READS IS OF BULK AT MOST 1048576: true; the input reads as it did. -/
def lagTellsUptoRow : OpenClaim := { program := "ytgieaojkbfjoiaa", sum := "d6bc8b95fa1f3349510550a1bb81d2254422d139b73fc7201a4af97e7dd95c0e", func := "quantum/quantumlaw39.LagTells", spec := "lagTells", unfollowed := true, recurses := true, apart := false, narrowed := true }
def LagTellsUptoSaid : Prop := lagTellsUptoRow.holds Try.pinned (OpenSpec.upto lagTellsSpec)

/-- 'quantumlaw39.LagSmall', WHERE WHAT IT READS IS OF BULK AT MOST 1048576: true; the input reads as it did. -/
def lagSmallUptoRow : OpenClaim := { program := "ytgieaojkbfjoiaa", sum := "d6bc8b95fa1f3349510550a1bb81d2254422d139b73fc7201a4af97e7dd95c0e", func := "quantum/quantumlaw39.LagSmall", spec := "lagSmall", unfollowed := true, recurses := true, apart := false, narrowed := true }
def LagSmallUptoSaid : Prop := lagSmallUptoRow.holds Try.pinned (OpenSpec.upto lagSmallSpec)

/-- 'quantumlaw39.LagZero', WHERE WHAT IT READS IS OF BULK AT MOST 1048576: true; the input reads as it did. -/
def lagZeroUptoRow : OpenClaim := { program := "ytgieaojkbfjoiaa", sum := "d6bc8b95fa1f3349510550a1bb81d2254422d139b73fc7201a4af97e7dd95c0e", func := "quantum/quantumlaw39.LagZero", spec := "lagZero", unfollowed := true, recurses := true, apart := false, narrowed := true }
def LagZeroUptoSaid : Prop := lagZeroUptoRow.holds Try.pinned (OpenSpec.upto lagZeroSpec)

/-- 'quantumlaw39.LagWrong', WHERE WHAT IT READS IS OF BULK AT MOST 1048576: true; the input reads as it did. -/
def lagWrongUptoRow : OpenClaim := { program := "ytgieaojkbfjoiaa", sum := "d6bc8b95fa1f3349510550a1bb81d2254422d139b73fc7201a4af97e7dd95c0e", func := "quantum/quantumlaw39.LagWrong", spec := "lagWrong", unfollowed := true, recurses := true, apart := false, narrowed := true }
def LagWrongUptoSaid : Prop := lagWrongUptoRow.holds Try.pinned (OpenSpec.upto lagWrongSpec)

end Rows
end Go.Proofs.Ytgieaojkbfjoiaa
