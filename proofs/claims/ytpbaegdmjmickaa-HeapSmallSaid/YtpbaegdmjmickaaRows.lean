/-
  No cell of these rows narrows 'for every input' (looked for: loops, veiled, ifaces, maps, wideKeys, modest, calm, conditions, laid).
  DERIVED. THE GIVEN ROWS OF THIS SEAT. 7 by the template 'for every input the law returns true; each argument reads behind the call as it read before'; 0 by the template 'total and deterministic' (their statements: YtpbaegdmjmickaaTotals.lean).
  GIVEN WITH THE SEED: the statements are not yours to turn. If you find one false, say at which input.
  Laid BY PROGRAM, IN A SANDBOX (cutbox-rows.mjs): the forced cells as the released guide's own fill.sh prints them over the translation b00318fb2831de25… (all of the seat's roots in one cut). By AI agents, Wed Nov 11 2026. No macro, syntax, notation, axiom, sorry.
-/
import Derived.Test.YtpbaegdmjmickaaChecked
import GoSem.Claim
import GoSem.ClaimJoined
import GoSem.ClaimMapViews
import Derived.JoinedTies
import Derived.KernelRfl
namespace Go.Proofs.Ytpbaegdmjmickaa
/- THE CELL 'sum', in the pinned program and in every row, IS THE sha256 OF THE DUMP (.gsa) THAT YtpbaegdmjmickaaProg.lean LOADS. Nothing in Lean hashes anything: it is a label: what it is worth is what the hold of that sum in a sandbox is worth. -/
noncomputable def Try.pinned : Pinned := { name := "ytpbaegdmjmickaa", sum := "b00318fb2831de259bed2947f7e6f803dc4c71a0fa111276009cfbf209cb6868", checked := Try.checked }
namespace Rows
def none {H : Type} : Left H := { results := [], args := [] }

/-- 'quantumlaw18.HeapBelow': WHATEVER THE INPUT: true; the input reads as it did. -/
def heapBelowSpec : ChangeSpec := { name := "heapBelow", fn := fun _ => fun
  | [d1, d2, d3, d4] => { results := [.lit (.bool true)], args := [d1, d2, d3, d4] }
  | _ => none }
def heapBelowRow : OpenClaim := { program := "ytpbaegdmjmickaa", sum := "b00318fb2831de259bed2947f7e6f803dc4c71a0fa111276009cfbf209cb6868", func := "quantum/quantumlaw18.HeapBelow", spec := "heapBelow", unfollowed := true, recurses := true, apart := false }
def HeapBelowSaid : Prop := heapBelowRow.holds Try.pinned (OpenSpec.ofChange heapBelowSpec)

/-- ITS FALSE NEIGHBOUR: 'it returns false'. Refute it at one input. -/
def heapBelowWrong : ChangeSpec := { name := "heapBelow", fn := fun _ => fun
  | [d1, d2, d3, d4] => { results := [.lit (.bool false)], args := [d1, d2, d3, d4] }
  | _ => none }
def HeapBelowWrongFalsely : Prop := heapBelowRow.holds Try.pinned (OpenSpec.ofChange heapBelowWrong)

/-- 'quantumlaw18.HeapWrong': WHATEVER THE INPUT: true; the input reads as it did. -/
def heapWrongSpec : ChangeSpec := { name := "heapWrong", fn := fun _ => fun
  | [d1, d2, d3] => { results := [.lit (.bool true)], args := [d1, d2, d3] }
  | _ => none }
def heapWrongRow : OpenClaim := { program := "ytpbaegdmjmickaa", sum := "b00318fb2831de259bed2947f7e6f803dc4c71a0fa111276009cfbf209cb6868", func := "quantum/quantumlaw18.HeapWrong", spec := "heapWrong", unfollowed := true, recurses := true, apart := false }
def HeapWrongSaid : Prop := heapWrongRow.holds Try.pinned (OpenSpec.ofChange heapWrongSpec)

/-- ITS FALSE NEIGHBOUR: 'it returns false'. Refute it at one input. -/
def heapWrongWrong : ChangeSpec := { name := "heapWrong", fn := fun _ => fun
  | [d1, d2, d3] => { results := [.lit (.bool false)], args := [d1, d2, d3] }
  | _ => none }
def HeapWrongWrongFalsely : Prop := heapWrongRow.holds Try.pinned (OpenSpec.ofChange heapWrongWrong)

/-- 'quantumlaw18.HeapSorts': WHATEVER THE INPUT: true; the input reads as it did. -/
def heapSortsSpec : ChangeSpec := { name := "heapSorts", fn := fun _ => fun
  | [d] => { results := [.lit (.bool true)], args := [d] }
  | _ => none }
def heapSortsRow : OpenClaim := { program := "ytpbaegdmjmickaa", sum := "b00318fb2831de259bed2947f7e6f803dc4c71a0fa111276009cfbf209cb6868", func := "quantum/quantumlaw18.HeapSorts", spec := "heapSorts", unfollowed := true, recurses := true, apart := false }
def HeapSortsSaid : Prop := heapSortsRow.holds Try.pinned (OpenSpec.ofChange heapSortsSpec)

/-- ITS FALSE NEIGHBOUR: 'it returns false'. Refute it at one input. -/
def heapSortsWrong : ChangeSpec := { name := "heapSorts", fn := fun _ => fun
  | [d] => { results := [.lit (.bool false)], args := [d] }
  | _ => none }
def HeapSortsWrongFalsely : Prop := heapSortsRow.holds Try.pinned (OpenSpec.ofChange heapSortsWrong)

/-- 'quantumlaw18.HeapOrder': WHATEVER THE INPUT: true; the input reads as it did. -/
def heapOrderSpec : ChangeSpec := { name := "heapOrder", fn := fun _ => fun
  | [d1, d2, d3, d4] => { results := [.lit (.bool true)], args := [d1, d2, d3, d4] }
  | _ => none }
def heapOrderRow : OpenClaim := { program := "ytpbaegdmjmickaa", sum := "b00318fb2831de259bed2947f7e6f803dc4c71a0fa111276009cfbf209cb6868", func := "quantum/quantumlaw18.HeapOrder", spec := "heapOrder", unfollowed := true, recurses := true, apart := false }
def HeapOrderSaid : Prop := heapOrderRow.holds Try.pinned (OpenSpec.ofChange heapOrderSpec)

/-- ITS FALSE NEIGHBOUR: 'it returns false'. Refute it at one input. -/
def heapOrderWrong : ChangeSpec := { name := "heapOrder", fn := fun _ => fun
  | [d1, d2, d3, d4] => { results := [.lit (.bool false)], args := [d1, d2, d3, d4] }
  | _ => none }
def HeapOrderWrongFalsely : Prop := heapOrderRow.holds Try.pinned (OpenSpec.ofChange heapOrderWrong)

/-- 'quantumlaw18.HeapChanges': WHATEVER THE INPUT: true; the input reads as it did. -/
def heapChangesSpec : ChangeSpec := { name := "heapChanges", fn := fun _ => fun
  | [d1, d2, d3] => { results := [.lit (.bool true)], args := [d1, d2, d3] }
  | _ => none }
def heapChangesRow : OpenClaim := { program := "ytpbaegdmjmickaa", sum := "b00318fb2831de259bed2947f7e6f803dc4c71a0fa111276009cfbf209cb6868", func := "quantum/quantumlaw18.HeapChanges", spec := "heapChanges", unfollowed := true, recurses := true, apart := false }
def HeapChangesSaid : Prop := heapChangesRow.holds Try.pinned (OpenSpec.ofChange heapChangesSpec)

/-- ITS FALSE NEIGHBOUR: 'it returns false'. Refute it at one input. -/
def heapChangesWrong : ChangeSpec := { name := "heapChanges", fn := fun _ => fun
  | [d1, d2, d3] => { results := [.lit (.bool false)], args := [d1, d2, d3] }
  | _ => none }
def HeapChangesWrongFalsely : Prop := heapChangesRow.holds Try.pinned (OpenSpec.ofChange heapChangesWrong)

/-- 'quantumlaw18.HeapTells': WHATEVER THE INPUT: true; the input reads as it did. -/
def heapTellsSpec : ChangeSpec := { name := "heapTells", fn := fun _ => fun
  | [d1, d2] => { results := [.lit (.bool true)], args := [d1, d2] }
  | _ => none }
def heapTellsRow : OpenClaim := { program := "ytpbaegdmjmickaa", sum := "b00318fb2831de259bed2947f7e6f803dc4c71a0fa111276009cfbf209cb6868", func := "quantum/quantumlaw18.HeapTells", spec := "heapTells", unfollowed := true, recurses := true, apart := false }
def HeapTellsSaid : Prop := heapTellsRow.holds Try.pinned (OpenSpec.ofChange heapTellsSpec)

/-- ITS FALSE NEIGHBOUR: 'it returns false'. Refute it at one input. -/
def heapTellsWrong : ChangeSpec := { name := "heapTells", fn := fun _ => fun
  | [d1, d2] => { results := [.lit (.bool false)], args := [d1, d2] }
  | _ => none }
def HeapTellsWrongFalsely : Prop := heapTellsRow.holds Try.pinned (OpenSpec.ofChange heapTellsWrong)

/-- 'quantumlaw18.HeapSmall': WHATEVER THE INPUT: true; the input reads as it did. -/
def heapSmallSpec : ChangeSpec := { name := "heapSmall", fn := fun _ => fun
  | [] => { results := [.lit (.bool true)], args := [] }
  | _ => none }
def heapSmallRow : OpenClaim := { program := "ytpbaegdmjmickaa", sum := "b00318fb2831de259bed2947f7e6f803dc4c71a0fa111276009cfbf209cb6868", func := "quantum/quantumlaw18.HeapSmall", spec := "heapSmall", unfollowed := true, recurses := true, apart := false }
def HeapSmallSaid : Prop := heapSmallRow.holds Try.pinned (OpenSpec.ofChange heapSmallSpec)

/-- ITS FALSE NEIGHBOUR: 'it returns false'. Refute it at one input. -/
def heapSmallWrong : ChangeSpec := { name := "heapSmall", fn := fun _ => fun
  | [] => { results := [.lit (.bool false)], args := [] }
  | _ => none }
def HeapSmallWrongFalsely : Prop := heapSmallRow.holds Try.pinned (OpenSpec.ofChange heapSmallWrong)

/- THE SECOND FORM. 'bulk': how many values and letters a reading holds, each counted each time it is reached (what is shared counts as often as it is met; a slice's spare places count too). A statement '..UptoSaid' is the law's where the arguments, and the package variables that the reading takes, are together of bulk at most 1048576: NARROWER than '..Said'. Prove '..Said' where nothing that the law and all that it calls make is longer than what came in: it says more and counts as full. Else prove '..UptoSaid'. A law counts once. -/
mutual
def uptoBulk {H : Type} : DataW H → Nat
  | .lit (.string bytes) => bytes.length + 1
  | .lit _ => 1
  | .nil => 1
  | .ptr d => uptoBulk d + 1
  | .slice elems spare => uptoBulkAll elems + uptoBulkAll spare + 1
  | .agg parts => uptoBulkAll parts + 1
  | .iface _ d => uptoBulk d + 1
  | .map entries => uptoBulkEntries entries + 1
  | .held _ => 1
def uptoBulkAll {H : Type} : List (DataW H) → Nat
  | [] => 0
  | d :: r => uptoBulk d + uptoBulkAll r
def uptoBulkEntries {H : Type} : List (Lit × DataW H) → Nat
  | [] => 0
  | x :: r => uptoBulkEntry x + uptoBulkEntries r
def uptoBulkEntry {H : Type} : Lit × DataW H → Nat
  | (.string bytes, d) => bytes.length + uptoBulk d + 1
  | (_, d) => uptoBulk d + 1
 end
def uptoSmall : (H : Type) → List (DataW H) → Bool := fun _ ds => decide (uptoBulkAll ds ≤ 1048576)
def OpenSpec.upto (s : _root_.Go.ChangeSpec) : _root_.Go.OpenSpec := { _root_.Go.OpenSpec.ofChange s with cond := some uptoSmall }

/-- 'quantumlaw18.HeapBelow', WHERE WHAT IT READS IS OF BULK AT MOST 1048576: true; the input reads as it did. -/
def heapBelowUptoRow : OpenClaim := { program := "ytpbaegdmjmickaa", sum := "b00318fb2831de259bed2947f7e6f803dc4c71a0fa111276009cfbf209cb6868", func := "quantum/quantumlaw18.HeapBelow", spec := "heapBelow", unfollowed := true, recurses := true, apart := false, narrowed := true }
def HeapBelowUptoSaid : Prop := heapBelowUptoRow.holds Try.pinned (OpenSpec.upto heapBelowSpec)

/-- 'quantumlaw18.HeapWrong', WHERE WHAT IT READS IS OF BULK AT MOST 1048576: true; the input reads as it did. -/
def heapWrongUptoRow : OpenClaim := { program := "ytpbaegdmjmickaa", sum := "b00318fb2831de259bed2947f7e6f803dc4c71a0fa111276009cfbf209cb6868", func := "quantum/quantumlaw18.HeapWrong", spec := "heapWrong", unfollowed := true, recurses := true, apart := false, narrowed := true }
def HeapWrongUptoSaid : Prop := heapWrongUptoRow.holds Try.pinned (OpenSpec.upto heapWrongSpec)

/-- 'quantumlaw18.HeapSorts', WHERE WHAT IT READS IS OF BULK AT MOST 1048576: true; the input reads as it did. -/
def heapSortsUptoRow : OpenClaim := { program := "ytpbaegdmjmickaa", sum := "b00318fb2831de259bed2947f7e6f803dc4c71a0fa111276009cfbf209cb6868", func := "quantum/quantumlaw18.HeapSorts", spec := "heapSorts", unfollowed := true, recurses := true, apart := false, narrowed := true }
def HeapSortsUptoSaid : Prop := heapSortsUptoRow.holds Try.pinned (OpenSpec.upto heapSortsSpec)

/-- 'quantumlaw18.HeapOrder', WHERE WHAT IT READS IS OF BULK AT MOST 1048576: true; the input reads as it did. -/
def heapOrderUptoRow : OpenClaim := { program := "ytpbaegdmjmickaa", sum := "b00318fb2831de259bed2947f7e6f803dc4c71a0fa111276009cfbf209cb6868", func := "quantum/quantumlaw18.HeapOrder", spec := "heapOrder", unfollowed := true, recurses := true, apart := false, narrowed := true }
def HeapOrderUptoSaid : Prop := heapOrderUptoRow.holds Try.pinned (OpenSpec.upto heapOrderSpec)

/-- 'quantumlaw18.HeapChanges', WHERE WHAT IT READS IS OF BULK AT MOST 1048576: true; the input reads as it did. -/
def heapChangesUptoRow : OpenClaim := { program := "ytpbaegdmjmickaa", sum := "b00318fb2831de259bed2947f7e6f803dc4c71a0fa111276009cfbf209cb6868", func := "quantum/quantumlaw18.HeapChanges", spec := "heapChanges", unfollowed := true, recurses := true, apart := false, narrowed := true }
def HeapChangesUptoSaid : Prop := heapChangesUptoRow.holds Try.pinned (OpenSpec.upto heapChangesSpec)

/-- 'quantumlaw18.HeapTells', WHERE WHAT IT READS IS OF BULK AT MOST 1048576: true; the input reads as it did. -/
def heapTellsUptoRow : OpenClaim := { program := "ytpbaegdmjmickaa", sum := "b00318fb2831de259bed2947f7e6f803dc4c71a0fa111276009cfbf209cb6868", func := "quantum/quantumlaw18.HeapTells", spec := "heapTells", unfollowed := true, recurses := true, apart := false, narrowed := true }
def HeapTellsUptoSaid : Prop := heapTellsUptoRow.holds Try.pinned (OpenSpec.upto heapTellsSpec)

/-- 'quantumlaw18.HeapSmall', WHERE WHAT IT READS IS OF BULK AT MOST 1048576: true; the input reads as it did. -/
def heapSmallUptoRow : OpenClaim := { program := "ytpbaegdmjmickaa", sum := "b00318fb2831de259bed2947f7e6f803dc4c71a0fa111276009cfbf209cb6868", func := "quantum/quantumlaw18.HeapSmall", spec := "heapSmall", unfollowed := true, recurses := true, apart := false, narrowed := true }
def HeapSmallUptoSaid : Prop := heapSmallUptoRow.holds Try.pinned (OpenSpec.upto heapSmallSpec)

end Rows
end Go.Proofs.Ytpbaegdmjmickaa
