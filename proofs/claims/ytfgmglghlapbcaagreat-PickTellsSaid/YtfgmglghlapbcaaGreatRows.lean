/-
  No cell of these rows narrows 'for every input' (looked for: loops, veiled, ifaces, maps, wideKeys, modest, calm, conditions, laid).
  DERIVED. THE GIVEN ROWS OF THIS SEAT. 6 by the template 'for every input the law returns true; each argument reads behind the call as it read before'; 0 by the template 'total and deterministic' (their statements: YtfgmglghlapbcaaGreatTotals.lean).
  GIVEN WITH THE SEED: the statements are not yours to turn. If you find one false, say at which input.
  Laid BY PROGRAM, IN A SANDBOX (cutbox-rows.mjs): the forced cells as the released guide's own fill.sh prints them over the translation 2f1b047f10c03a75… (all of the seat's roots in one cut). By AI agents, Wed Nov 11 2026. No macro, syntax, notation, axiom, sorry.
-/
import Derived.Test.YtfgmglghlapbcaaGreatChecked
import GoSem.Claim
import GoSem.ClaimJoined
import GoSem.ClaimMapViews
import Derived.JoinedTies
import Derived.KernelRfl
namespace Go.Proofs.YtfgmglghlapbcaaGreat
/- THE CELL 'sum', in the pinned program and in every row, IS THE sha256 OF THE DUMP (.gsa) THAT YtfgmglghlapbcaaGreatProg.lean LOADS. Nothing in Lean hashes anything: it is a label: what it is worth is what the hold of that sum in a sandbox is worth. -/
noncomputable def Tryz.pinned : Pinned := { name := "ytfgmglghlapbcaagreat", sum := "2f1b047f10c03a758cf1e583da96d17e4d90439754e990d677e0cade76c959e1", checked := Tryz.checked }
namespace Rows
def none {H : Type} : Left H := { results := [], args := [] }

/-- 'quantumlaw25.PickBack': WHATEVER THE INPUT: true; the input reads as it did. -/
def pickBackSpec : ChangeSpec := { name := "pickBack", fn := fun _ => fun
  | [d1, d2, d3, d4, d5, d6, d7] => { results := [.lit (.bool true)], args := [d1, d2, d3, d4, d5, d6, d7] }
  | _ => none }
def pickBackRow : OpenClaim := { program := "ytfgmglghlapbcaagreat", sum := "2f1b047f10c03a758cf1e583da96d17e4d90439754e990d677e0cade76c959e1", func := "quantum/quantumlaw25.PickBack", spec := "pickBack", unfollowed := true, recurses := true, apart := false }
def PickBackSaid : Prop := pickBackRow.holds Tryz.pinned (OpenSpec.ofChange pickBackSpec)

/-- ITS FALSE NEIGHBOUR: 'it returns false'. Refute it at one input. -/
def pickBackWrong : ChangeSpec := { name := "pickBack", fn := fun _ => fun
  | [d1, d2, d3, d4, d5, d6, d7] => { results := [.lit (.bool false)], args := [d1, d2, d3, d4, d5, d6, d7] }
  | _ => none }
def PickBackWrongFalsely : Prop := pickBackRow.holds Tryz.pinned (OpenSpec.ofChange pickBackWrong)

/-- 'quantumlaw25.PickFirst': WHATEVER THE INPUT: true; the input reads as it did. -/
def pickFirstSpec : ChangeSpec := { name := "pickFirst", fn := fun _ => fun
  | [d1, d2, d3, d4] => { results := [.lit (.bool true)], args := [d1, d2, d3, d4] }
  | _ => none }
def pickFirstRow : OpenClaim := { program := "ytfgmglghlapbcaagreat", sum := "2f1b047f10c03a758cf1e583da96d17e4d90439754e990d677e0cade76c959e1", func := "quantum/quantumlaw25.PickFirst", spec := "pickFirst", unfollowed := true, recurses := true, apart := false }
def PickFirstSaid : Prop := pickFirstRow.holds Tryz.pinned (OpenSpec.ofChange pickFirstSpec)

/-- ITS FALSE NEIGHBOUR: 'it returns false'. Refute it at one input. -/
def pickFirstWrong : ChangeSpec := { name := "pickFirst", fn := fun _ => fun
  | [d1, d2, d3, d4] => { results := [.lit (.bool false)], args := [d1, d2, d3, d4] }
  | _ => none }
def PickFirstWrongFalsely : Prop := pickFirstRow.holds Tryz.pinned (OpenSpec.ofChange pickFirstWrong)

/-- 'quantumlaw25.PickFloors': WHATEVER THE INPUT: true; the input reads as it did. -/
def pickFloorsSpec : ChangeSpec := { name := "pickFloors", fn := fun _ => fun
  | [d1, d2, d3, d4] => { results := [.lit (.bool true)], args := [d1, d2, d3, d4] }
  | _ => none }
def pickFloorsRow : OpenClaim := { program := "ytfgmglghlapbcaagreat", sum := "2f1b047f10c03a758cf1e583da96d17e4d90439754e990d677e0cade76c959e1", func := "quantum/quantumlaw25.PickFloors", spec := "pickFloors", unfollowed := true, recurses := true, apart := false }
def PickFloorsSaid : Prop := pickFloorsRow.holds Tryz.pinned (OpenSpec.ofChange pickFloorsSpec)

/-- ITS FALSE NEIGHBOUR: 'it returns false'. Refute it at one input. -/
def pickFloorsWrong : ChangeSpec := { name := "pickFloors", fn := fun _ => fun
  | [d1, d2, d3, d4] => { results := [.lit (.bool false)], args := [d1, d2, d3, d4] }
  | _ => none }
def PickFloorsWrongFalsely : Prop := pickFloorsRow.holds Tryz.pinned (OpenSpec.ofChange pickFloorsWrong)

/-- 'quantumlaw25.PickTells': WHATEVER THE INPUT: true; the input reads as it did. -/
def pickTellsSpec : ChangeSpec := { name := "pickTells", fn := fun _ => fun
  | [d1, d2, d3] => { results := [.lit (.bool true)], args := [d1, d2, d3] }
  | _ => none }
def pickTellsRow : OpenClaim := { program := "ytfgmglghlapbcaagreat", sum := "2f1b047f10c03a758cf1e583da96d17e4d90439754e990d677e0cade76c959e1", func := "quantum/quantumlaw25.PickTells", spec := "pickTells", unfollowed := true, recurses := true, apart := false }
def PickTellsSaid : Prop := pickTellsRow.holds Tryz.pinned (OpenSpec.ofChange pickTellsSpec)

/-- ITS FALSE NEIGHBOUR: 'it returns false'. Refute it at one input. -/
def pickTellsWrong : ChangeSpec := { name := "pickTells", fn := fun _ => fun
  | [d1, d2, d3] => { results := [.lit (.bool false)], args := [d1, d2, d3] }
  | _ => none }
def PickTellsWrongFalsely : Prop := pickTellsRow.holds Tryz.pinned (OpenSpec.ofChange pickTellsWrong)

/-- 'quantumlaw25.PickSmall': WHATEVER THE INPUT: true; the input reads as it did. -/
def pickSmallSpec : ChangeSpec := { name := "pickSmall", fn := fun _ => fun
  | [] => { results := [.lit (.bool true)], args := [] }
  | _ => none }
def pickSmallRow : OpenClaim := { program := "ytfgmglghlapbcaagreat", sum := "2f1b047f10c03a758cf1e583da96d17e4d90439754e990d677e0cade76c959e1", func := "quantum/quantumlaw25.PickSmall", spec := "pickSmall", unfollowed := true, recurses := true, apart := false }
def PickSmallSaid : Prop := pickSmallRow.holds Tryz.pinned (OpenSpec.ofChange pickSmallSpec)

/-- ITS FALSE NEIGHBOUR: 'it returns false'. Refute it at one input. -/
def pickSmallWrong : ChangeSpec := { name := "pickSmall", fn := fun _ => fun
  | [] => { results := [.lit (.bool false)], args := [] }
  | _ => none }
def PickSmallWrongFalsely : Prop := pickSmallRow.holds Tryz.pinned (OpenSpec.ofChange pickSmallWrong)

/-- 'quantumlaw25.PickWrong': WHATEVER THE INPUT: true; the input reads as it did. -/
def pickWrongSpec : ChangeSpec := { name := "pickWrong", fn := fun _ => fun
  | [d1, d2, d3, d4, d5] => { results := [.lit (.bool true)], args := [d1, d2, d3, d4, d5] }
  | _ => none }
def pickWrongRow : OpenClaim := { program := "ytfgmglghlapbcaagreat", sum := "2f1b047f10c03a758cf1e583da96d17e4d90439754e990d677e0cade76c959e1", func := "quantum/quantumlaw25.PickWrong", spec := "pickWrong", unfollowed := true, recurses := true, apart := false }
def PickWrongSaid : Prop := pickWrongRow.holds Tryz.pinned (OpenSpec.ofChange pickWrongSpec)

/-- ITS FALSE NEIGHBOUR: 'it returns false'. Refute it at one input. -/
def pickWrongWrong : ChangeSpec := { name := "pickWrong", fn := fun _ => fun
  | [d1, d2, d3, d4, d5] => { results := [.lit (.bool false)], args := [d1, d2, d3, d4, d5] }
  | _ => none }
def PickWrongWrongFalsely : Prop := pickWrongRow.holds Tryz.pinned (OpenSpec.ofChange pickWrongWrong)

/- THE SECOND FORM. 'bulk': how many values and letters a reading holds, each counted each time it is reached (what is shared counts as often as it is met; a slice's spare places count too). A statement '..UptoSaid' is the law's where the arguments, and the package variables that the reading takes, are together of bulk at most 1048576: NARROWER than '..Said'. Prove '..Said' where nothing that the law and all that it calls make is longer than what came in: it says more and counts as full. Else prove '..UptoSaid'. A law counts once. -/
mutual
def uptoBulk {H : Type} : DataW H → Nat
  | .lit (.string bytes) => bytes.length + 1
  | .lit _ => 1
  | .nil => 1
  | .ptr d => uptoBulk d + 1
  | .slice elems spare => uptoBulkAll elems + uptoBulkAll spare + 1
  | .agg parts => uptoBulkAll parts + 1
  | .iface _ d => uptoBulk d + 1
  | .map entries => uptoBulkEntries entries + 1
  | .held _ => 1
def uptoBulkAll {H : Type} : List (DataW H) → Nat
  | [] => 0
  | d :: r => uptoBulk d + uptoBulkAll r
def uptoBulkEntries {H : Type} : List (Lit × DataW H) → Nat
  | [] => 0
  | x :: r => uptoBulkEntry x + uptoBulkEntries r
def uptoBulkEntry {H : Type} : Lit × DataW H → Nat
  | (.string bytes, d) => bytes.length + uptoBulk d + 1
  | (_, d) => uptoBulk d + 1
 end
def uptoSmall : (H : Type) → List (DataW H) → Bool := fun _ ds => decide (uptoBulkAll ds ≤ 1048576)
def OpenSpec.upto (s : _root_.Go.ChangeSpec) : _root_.Go.OpenSpec := { _root_.Go.OpenSpec.ofChange s with cond := some uptoSmall }

/-- 'quantumlaw25.PickBack', WHERE WHAT IT READS IS OF BULK AT MOST 1048576: true; the input reads as it did. -/
def pickBackUptoRow : OpenClaim := { program := "ytfgmglghlapbcaagreat", sum := "2f1b047f10c03a758cf1e583da96d17e4d90439754e990d677e0cade76c959e1", func := "quantum/quantumlaw25.PickBack", spec := "pickBack", unfollowed := true, recurses := true, apart := false, narrowed := true }
def PickBackUptoSaid : Prop := pickBackUptoRow.holds Tryz.pinned (OpenSpec.upto pickBackSpec)

/-- 'quantumlaw25.PickFirst', WHERE WHAT IT READS IS OF BULK AT MOST 1048576: true; the input reads as it did. -/
def pickFirstUptoRow : OpenClaim := { program := "ytfgmglghlapbcaagreat", sum := "2f1b047f10c03a758cf1e583da96d17e4d90439754e990d677e0cade76c959e1", func := "quantum/quantumlaw25.PickFirst", spec := "pickFirst", unfollowed := true, recurses := true, apart := false, narrowed := true }
def PickFirstUptoSaid : Prop := pickFirstUptoRow.holds Tryz.pinned (OpenSpec.upto pickFirstSpec)

/-- 'quantumlaw25.PickFloors', WHERE WHAT IT READS IS OF BULK AT MOST 1048576: true; the input reads as it did. -/
def pickFloorsUptoRow : OpenClaim := { program := "ytfgmglghlapbcaagreat", sum := "2f1b047f10c03a758cf1e583da96d17e4d90439754e990d677e0cade76c959e1", func := "quantum/quantumlaw25.PickFloors", spec := "pickFloors", unfollowed := true, recurses := true, apart := false, narrowed := true }
def PickFloorsUptoSaid : Prop := pickFloorsUptoRow.holds Tryz.pinned (OpenSpec.upto pickFloorsSpec)

/-- 'quantumlaw25.PickTells', WHERE WHAT IT READS IS OF BULK AT MOST 1048576: true; the input reads as it did. -/
def pickTellsUptoRow : OpenClaim := { program := "ytfgmglghlapbcaagreat", sum := "2f1b047f10c03a758cf1e583da96d17e4d90439754e990d677e0cade76c959e1", func := "quantum/quantumlaw25.PickTells", spec := "pickTells", unfollowed := true, recurses := true, apart := false, narrowed := true }
def PickTellsUptoSaid : Prop := pickTellsUptoRow.holds Tryz.pinned (OpenSpec.upto pickTellsSpec)

/-- 'quantumlaw25.PickSmall', WHERE WHAT IT READS IS OF BULK AT MOST 1048576: true; the input reads as it did. -/
def pickSmallUptoRow : OpenClaim := { program := "ytfgmglghlapbcaagreat", sum := "2f1b047f10c03a758cf1e583da96d17e4d90439754e990d677e0cade76c959e1", func := "quantum/quantumlaw25.PickSmall", spec := "pickSmall", unfollowed := true, recurses := true, apart := false, narrowed := true }
def PickSmallUptoSaid : Prop := pickSmallUptoRow.holds Tryz.pinned (OpenSpec.upto pickSmallSpec)

/-- 'quantumlaw25.PickWrong', WHERE WHAT IT READS IS OF BULK AT MOST 1048576: true; the input reads as it did. -/
def pickWrongUptoRow : OpenClaim := { program := "ytfgmglghlapbcaagreat", sum := "2f1b047f10c03a758cf1e583da96d17e4d90439754e990d677e0cade76c959e1", func := "quantum/quantumlaw25.PickWrong", spec := "pickWrong", unfollowed := true, recurses := true, apart := false, narrowed := true }
def PickWrongUptoSaid : Prop := pickWrongUptoRow.holds Tryz.pinned (OpenSpec.upto pickWrongSpec)

end Rows
end Go.Proofs.YtfgmglghlapbcaaGreat
