/-
  No cell of these rows narrows 'for every input' (looked for: loops, veiled, ifaces, maps, wideKeys, modest, calm, conditions, laid).
  DERIVED. THE GIVEN ROWS OF THIS SEAT. 9 by the template 'for every input the law returns true; each argument reads behind the call as it read before'; 0 by the template 'total and deterministic' (their statements: YtbddiagnijcmhaaTotals.lean).
  GIVEN WITH THE SEED: the statements are not yours to turn. If you find one false, say at which input.
  Laid BY PROGRAM, IN A SANDBOX (cutbox-rows.mjs): the forced cells as the released guide's own fill.sh prints them over the translation ff2b7513c51d2085… (all of the seat's roots in one cut). By AI agents, Wed Nov 11 2026. No macro, syntax, notation, axiom, sorry.
-/
import Derived.Test.YtbddiagnijcmhaaChecked
import GoSem.Claim
import GoSem.ClaimJoined
import GoSem.ClaimMapViews
import Derived.JoinedTies
import Derived.KernelRfl
namespace Go.Proofs.Ytbddiagnijcmhaa
/- THE CELL 'sum', in the pinned program and in every row, IS THE sha256 OF THE DUMP (.gsa) THAT YtbddiagnijcmhaaProg.lean LOADS. Nothing in Lean hashes anything: it is a label: what it is worth is what the hold of that sum in a sandbox is worth. -/
noncomputable def Try.pinned : Pinned := { name := "ytbddiagnijcmhaa", sum := "ff2b7513c51d20858e587498deebd155b725230f1b45a2300694794a25a31be2", checked := Try.checked }
namespace Rows
def none {H : Type} : Left H := { results := [], args := [] }

/-- 'quantumlaw22.ChargeAdds': WHATEVER THE INPUT: true; the input reads as it did. -/
def chargeAddsSpec : ChangeSpec := { name := "chargeAdds", fn := fun _ => fun
  | [d1, d2, d3, d4, d5] => { results := [.lit (.bool true)], args := [d1, d2, d3, d4, d5] }
  | _ => none }
def chargeAddsRow : OpenClaim := { program := "ytbddiagnijcmhaa", sum := "ff2b7513c51d20858e587498deebd155b725230f1b45a2300694794a25a31be2", func := "quantum/quantumlaw22.ChargeAdds", spec := "chargeAdds", unfollowed := true, recurses := true, apart := false }
def ChargeAddsSaid : Prop := chargeAddsRow.holds Try.pinned (OpenSpec.ofChange chargeAddsSpec)

/-- ITS FALSE NEIGHBOUR: 'it returns false'. Refute it at one input. -/
def chargeAddsWrong : ChangeSpec := { name := "chargeAdds", fn := fun _ => fun
  | [d1, d2, d3, d4, d5] => { results := [.lit (.bool false)], args := [d1, d2, d3, d4, d5] }
  | _ => none }
def ChargeAddsWrongFalsely : Prop := chargeAddsRow.holds Try.pinned (OpenSpec.ofChange chargeAddsWrong)

/-- 'quantumlaw22.ChargeExact': WHATEVER THE INPUT: true; the input reads as it did. -/
def chargeExactSpec : ChangeSpec := { name := "chargeExact", fn := fun _ => fun
  | [d1, d2, d3, d4] => { results := [.lit (.bool true)], args := [d1, d2, d3, d4] }
  | _ => none }
def chargeExactRow : OpenClaim := { program := "ytbddiagnijcmhaa", sum := "ff2b7513c51d20858e587498deebd155b725230f1b45a2300694794a25a31be2", func := "quantum/quantumlaw22.ChargeExact", spec := "chargeExact", unfollowed := true, recurses := true, apart := false }
def ChargeExactSaid : Prop := chargeExactRow.holds Try.pinned (OpenSpec.ofChange chargeExactSpec)

/-- ITS FALSE NEIGHBOUR: 'it returns false'. Refute it at one input. -/
def chargeExactWrong : ChangeSpec := { name := "chargeExact", fn := fun _ => fun
  | [d1, d2, d3, d4] => { results := [.lit (.bool false)], args := [d1, d2, d3, d4] }
  | _ => none }
def ChargeExactWrongFalsely : Prop := chargeExactRow.holds Try.pinned (OpenSpec.ofChange chargeExactWrong)

/-- 'quantumlaw22.ChargeSlower': WHATEVER THE INPUT: true; the input reads as it did. -/
def chargeSlowerSpec : ChangeSpec := { name := "chargeSlower", fn := fun _ => fun
  | [d1, d2, d3, d4, d5] => { results := [.lit (.bool true)], args := [d1, d2, d3, d4, d5] }
  | _ => none }
def chargeSlowerRow : OpenClaim := { program := "ytbddiagnijcmhaa", sum := "ff2b7513c51d20858e587498deebd155b725230f1b45a2300694794a25a31be2", func := "quantum/quantumlaw22.ChargeSlower", spec := "chargeSlower", unfollowed := true, recurses := true, apart := false }
def ChargeSlowerSaid : Prop := chargeSlowerRow.holds Try.pinned (OpenSpec.ofChange chargeSlowerSpec)

/-- ITS FALSE NEIGHBOUR: 'it returns false'. Refute it at one input. -/
def chargeSlowerWrong : ChangeSpec := { name := "chargeSlower", fn := fun _ => fun
  | [d1, d2, d3, d4, d5] => { results := [.lit (.bool false)], args := [d1, d2, d3, d4, d5] }
  | _ => none }
def ChargeSlowerWrongFalsely : Prop := chargeSlowerRow.holds Try.pinned (OpenSpec.ofChange chargeSlowerWrong)

/-- 'quantumlaw22.ChargeUntil': WHATEVER THE INPUT: true; the input reads as it did. -/
def chargeUntilSpec : ChangeSpec := { name := "chargeUntil", fn := fun _ => fun
  | [d1, d2, d3, d4, d5] => { results := [.lit (.bool true)], args := [d1, d2, d3, d4, d5] }
  | _ => none }
def chargeUntilRow : OpenClaim := { program := "ytbddiagnijcmhaa", sum := "ff2b7513c51d20858e587498deebd155b725230f1b45a2300694794a25a31be2", func := "quantum/quantumlaw22.ChargeUntil", spec := "chargeUntil", unfollowed := true, recurses := true, apart := false }
def ChargeUntilSaid : Prop := chargeUntilRow.holds Try.pinned (OpenSpec.ofChange chargeUntilSpec)

/-- ITS FALSE NEIGHBOUR: 'it returns false'. Refute it at one input. -/
def chargeUntilWrong : ChangeSpec := { name := "chargeUntil", fn := fun _ => fun
  | [d1, d2, d3, d4, d5] => { results := [.lit (.bool false)], args := [d1, d2, d3, d4, d5] }
  | _ => none }
def ChargeUntilWrongFalsely : Prop := chargeUntilRow.holds Try.pinned (OpenSpec.ofChange chargeUntilWrong)

/-- 'quantumlaw22.ChargeLess': WHATEVER THE INPUT: true; the input reads as it did. -/
def chargeLessSpec : ChangeSpec := { name := "chargeLess", fn := fun _ => fun
  | [d1, d2, d3, d4] => { results := [.lit (.bool true)], args := [d1, d2, d3, d4] }
  | _ => none }
def chargeLessRow : OpenClaim := { program := "ytbddiagnijcmhaa", sum := "ff2b7513c51d20858e587498deebd155b725230f1b45a2300694794a25a31be2", func := "quantum/quantumlaw22.ChargeLess", spec := "chargeLess", unfollowed := true, recurses := true, apart := false }
def ChargeLessSaid : Prop := chargeLessRow.holds Try.pinned (OpenSpec.ofChange chargeLessSpec)

/-- ITS FALSE NEIGHBOUR: 'it returns false'. Refute it at one input. -/
def chargeLessWrong : ChangeSpec := { name := "chargeLess", fn := fun _ => fun
  | [d1, d2, d3, d4] => { results := [.lit (.bool false)], args := [d1, d2, d3, d4] }
  | _ => none }
def ChargeLessWrongFalsely : Prop := chargeLessRow.holds Try.pinned (OpenSpec.ofChange chargeLessWrong)

/-- 'quantumlaw22.ChargeTells': WHATEVER THE INPUT: true; the input reads as it did. -/
def chargeTellsSpec : ChangeSpec := { name := "chargeTells", fn := fun _ => fun
  | [d1, d2, d3, d4, d5] => { results := [.lit (.bool true)], args := [d1, d2, d3, d4, d5] }
  | _ => none }
def chargeTellsRow : OpenClaim := { program := "ytbddiagnijcmhaa", sum := "ff2b7513c51d20858e587498deebd155b725230f1b45a2300694794a25a31be2", func := "quantum/quantumlaw22.ChargeTells", spec := "chargeTells", unfollowed := true, recurses := true, apart := false }
def ChargeTellsSaid : Prop := chargeTellsRow.holds Try.pinned (OpenSpec.ofChange chargeTellsSpec)

/-- ITS FALSE NEIGHBOUR: 'it returns false'. Refute it at one input. -/
def chargeTellsWrong : ChangeSpec := { name := "chargeTells", fn := fun _ => fun
  | [d1, d2, d3, d4, d5] => { results := [.lit (.bool false)], args := [d1, d2, d3, d4, d5] }
  | _ => none }
def ChargeTellsWrongFalsely : Prop := chargeTellsRow.holds Try.pinned (OpenSpec.ofChange chargeTellsWrong)

/-- 'quantumlaw22.ChargeSmall': WHATEVER THE INPUT: true; the input reads as it did. -/
def chargeSmallSpec : ChangeSpec := { name := "chargeSmall", fn := fun _ => fun
  | [] => { results := [.lit (.bool true)], args := [] }
  | _ => none }
def chargeSmallRow : OpenClaim := { program := "ytbddiagnijcmhaa", sum := "ff2b7513c51d20858e587498deebd155b725230f1b45a2300694794a25a31be2", func := "quantum/quantumlaw22.ChargeSmall", spec := "chargeSmall", unfollowed := true, recurses := true, apart := false }
def ChargeSmallSaid : Prop := chargeSmallRow.holds Try.pinned (OpenSpec.ofChange chargeSmallSpec)

/-- ITS FALSE NEIGHBOUR: 'it returns false'. Refute it at one input. -/
def chargeSmallWrong : ChangeSpec := { name := "chargeSmall", fn := fun _ => fun
  | [] => { results := [.lit (.bool false)], args := [] }
  | _ => none }
def ChargeSmallWrongFalsely : Prop := chargeSmallRow.holds Try.pinned (OpenSpec.ofChange chargeSmallWrong)

/-- 'quantumlaw22.ChargeChains': WHATEVER THE INPUT: true; the input reads as it did. -/
def chargeChainsSpec : ChangeSpec := { name := "chargeChains", fn := fun _ => fun
  | [d1, d2] => { results := [.lit (.bool true)], args := [d1, d2] }
  | _ => none }
def chargeChainsRow : OpenClaim := { program := "ytbddiagnijcmhaa", sum := "ff2b7513c51d20858e587498deebd155b725230f1b45a2300694794a25a31be2", func := "quantum/quantumlaw22.ChargeChains", spec := "chargeChains", unfollowed := true, recurses := true, apart := false }
def ChargeChainsSaid : Prop := chargeChainsRow.holds Try.pinned (OpenSpec.ofChange chargeChainsSpec)

/-- ITS FALSE NEIGHBOUR: 'it returns false'. Refute it at one input. -/
def chargeChainsWrong : ChangeSpec := { name := "chargeChains", fn := fun _ => fun
  | [d1, d2] => { results := [.lit (.bool false)], args := [d1, d2] }
  | _ => none }
def ChargeChainsWrongFalsely : Prop := chargeChainsRow.holds Try.pinned (OpenSpec.ofChange chargeChainsWrong)

/-- 'quantumlaw22.ChargeWrong': WHATEVER THE INPUT: true; the input reads as it did. -/
def chargeWrongSpec : ChangeSpec := { name := "chargeWrong", fn := fun _ => fun
  | [d1, d2, d3] => { results := [.lit (.bool true)], args := [d1, d2, d3] }
  | _ => none }
def chargeWrongRow : OpenClaim := { program := "ytbddiagnijcmhaa", sum := "ff2b7513c51d20858e587498deebd155b725230f1b45a2300694794a25a31be2", func := "quantum/quantumlaw22.ChargeWrong", spec := "chargeWrong", unfollowed := true, recurses := true, apart := false }
def ChargeWrongSaid : Prop := chargeWrongRow.holds Try.pinned (OpenSpec.ofChange chargeWrongSpec)

/-- ITS FALSE NEIGHBOUR: 'it returns false'. Refute it at one input. -/
def chargeWrongWrong : ChangeSpec := { name := "chargeWrong", fn := fun _ => fun
  | [d1, d2, d3] => { results := [.lit (.bool false)], args := [d1, d2, d3] }
  | _ => none }
def ChargeWrongWrongFalsely : Prop := chargeWrongRow.holds Try.pinned (OpenSpec.ofChange chargeWrongWrong)

/- THE SECOND FORM. 'bulk': how many values and letters a reading holds, each counted each time it is reached (what is shared counts as often as it is met; a slice's spare places count too). A statement '..UptoSaid' is the law's where the arguments, and the package variables that the reading takes, are together of bulk at most 1048576: NARROWER than '..Said'. Prove '..Said' where nothing that the law and all that it calls make is longer than what came in: it says more and counts as full. Else prove '..UptoSaid'. A law counts once. -/
mutual
def uptoBulk {H : Type} : DataW H → Nat
  | .lit (.string bytes) => bytes.length + 1
  | .lit _ => 1
  | .nil => 1
  | .ptr d => uptoBulk d + 1
  | .slice elems spare => uptoBulkAll elems + uptoBulkAll spare + 1
  | .agg parts => uptoBulkAll parts + 1
  | .iface _ d => uptoBulk d + 1
  | .map entries => uptoBulkEntries entries + 1
  | .held _ => 1
def uptoBulkAll {H : Type} : List (DataW H) → Nat
  | [] => 0
  | d :: r => uptoBulk d + uptoBulkAll r
def uptoBulkEntries {H : Type} : List (Lit × DataW H) → Nat
  | [] => 0
  | x :: r => uptoBulkEntry x + uptoBulkEntries r
def uptoBulkEntry {H : Type} : Lit × DataW H → Nat
  | (.string bytes, d) => bytes.length + uptoBulk d + 1
  | (_, d) => uptoBulk d + 1
 end
def uptoSmall : (H : Type) → List (DataW H) → Bool := fun _ ds => decide (uptoBulkAll ds ≤ 1048576)
def OpenSpec.upto (s : _root_.Go.ChangeSpec) : _root_.Go.OpenSpec := { _root_.Go.OpenSpec.ofChange s with cond := some uptoSmall }

/-- 'quantumlaw22.ChargeAdds', WHERE WHAT IT READS IS OF BULK AT MOST 1048576: true; the input reads as it did. -/
def chargeAddsUptoRow : OpenClaim := { program := "ytbddiagnijcmhaa", sum := "ff2b7513c51d20858e587498deebd155b725230f1b45a2300694794a25a31be2", func := "quantum/quantumlaw22.ChargeAdds", spec := "chargeAdds", unfollowed := true, recurses := true, apart := false, narrowed := true }
def ChargeAddsUptoSaid : Prop := chargeAddsUptoRow.holds Try.pinned (OpenSpec.upto chargeAddsSpec)

/-- 'quantumlaw22.ChargeExact', WHERE WHAT IT READS IS OF BULK AT MOST 1048576: true; the input reads as it did. -/
def chargeExactUptoRow : OpenClaim := { program := "ytbddiagnijcmhaa", sum := "ff2b7513c51d20858e587498deebd155b725230f1b45a2300694794a25a31be2", func := "quantum/quantumlaw22.ChargeExact", spec := "chargeExact", unfollowed := true, recurses := true, apart := false, narrowed := true }
def ChargeExactUptoSaid : Prop := chargeExactUptoRow.holds Try.pinned (OpenSpec.upto chargeExactSpec)

/-- 'quantumlaw22.ChargeSlower', WHERE WHAT IT READS IS OF BULK AT MOST 1048576: true; the input reads as it did. -/
def chargeSlowerUptoRow : OpenClaim := { program := "ytbddiagnijcmhaa", sum := "ff2b7513c51d20858e587498deebd155b725230f1b45a2300694794a25a31be2", func := "quantum/quantumlaw22.ChargeSlower", spec := "chargeSlower", unfollowed := true, recurses := true, apart := false, narrowed := true }
def ChargeSlowerUptoSaid : Prop := chargeSlowerUptoRow.holds Try.pinned (OpenSpec.upto chargeSlowerSpec)

/-- 'quantumlaw22.ChargeUntil', WHERE WHAT IT READS IS OF BULK AT MOST 1048576: true; the input reads as it did. -/
def chargeUntilUptoRow : OpenClaim := { program := "ytbddiagnijcmhaa", sum := "ff2b7513c51d20858e587498deebd155b725230f1b45a2300694794a25a31be2", func := "quantum/quantumlaw22.ChargeUntil", spec := "chargeUntil", unfollowed := true, recurses := true, apart := false, narrowed := true }
def ChargeUntilUptoSaid : Prop := chargeUntilUptoRow.holds Try.pinned (OpenSpec.upto chargeUntilSpec)

/-- 'quantumlaw22.ChargeLess', WHERE WHAT IT READS IS OF BULK AT MOST 1048576: true; the input reads as it did. -/
def chargeLessUptoRow : OpenClaim := { program := "ytbddiagnijcmhaa", sum := "ff2b7513c51d20858e587498deebd155b725230f1b45a2300694794a25a31be2", func := "quantum/quantumlaw22.ChargeLess", spec := "chargeLess", unfollowed := true, recurses := true, apart := false, narrowed := true }
def ChargeLessUptoSaid : Prop := chargeLessUptoRow.holds Try.pinned (OpenSpec.upto chargeLessSpec)

/-- 'quantumlaw22.ChargeTells', WHERE WHAT IT READS IS OF BULK AT MOST 1048576: true; the input reads as it did. -/
def chargeTellsUptoRow : OpenClaim := { program := "ytbddiagnijcmhaa", sum := "ff2b7513c51d20858e587498deebd155b725230f1b45a2300694794a25a31be2", func := "quantum/quantumlaw22.ChargeTells", spec := "chargeTells", unfollowed := true, recurses := true, apart := false, narrowed := true }
def ChargeTellsUptoSaid : Prop := chargeTellsUptoRow.holds Try.pinned (OpenSpec.upto chargeTellsSpec)

/-- 'quantumlaw22.ChargeSmall', WHERE WHAT IT READS IS OF BULK AT MOST 1048576: true; the input reads as it did. -/
def chargeSmallUptoRow : OpenClaim := { program := "ytbddiagnijcmhaa", sum := "ff2b7513c51d20858e587498deebd155b725230f1b45a2300694794a25a31be2", func := "quantum/quantumlaw22.ChargeSmall", spec := "chargeSmall", unfollowed := true, recurses := true, apart := false, narrowed := true }
def ChargeSmallUptoSaid : Prop := chargeSmallUptoRow.holds Try.pinned (OpenSpec.upto chargeSmallSpec)

/-- 'quantumlaw22.ChargeChains', WHERE WHAT IT READS IS OF BULK AT MOST 1048576: true; the input reads as it did. -/
def chargeChainsUptoRow : OpenClaim := { program := "ytbddiagnijcmhaa", sum := "ff2b7513c51d20858e587498deebd155b725230f1b45a2300694794a25a31be2", func := "quantum/quantumlaw22.ChargeChains", spec := "chargeChains", unfollowed := true, recurses := true, apart := false, narrowed := true }
def ChargeChainsUptoSaid : Prop := chargeChainsUptoRow.holds Try.pinned (OpenSpec.upto chargeChainsSpec)

/-- 'quantumlaw22.ChargeWrong', WHERE WHAT IT READS IS OF BULK AT MOST 1048576: true; the input reads as it did. -/
def chargeWrongUptoRow : OpenClaim := { program := "ytbddiagnijcmhaa", sum := "ff2b7513c51d20858e587498deebd155b725230f1b45a2300694794a25a31be2", func := "quantum/quantumlaw22.ChargeWrong", spec := "chargeWrong", unfollowed := true, recurses := true, apart := false, narrowed := true }
def ChargeWrongUptoSaid : Prop := chargeWrongUptoRow.holds Try.pinned (OpenSpec.upto chargeWrongSpec)

end Rows
end Go.Proofs.Ytbddiagnijcmhaa
