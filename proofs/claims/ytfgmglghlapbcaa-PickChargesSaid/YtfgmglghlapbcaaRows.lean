/-
  No cell of these rows narrows 'for every input' (looked for: loops, veiled, ifaces, maps, wideKeys, modest, calm, conditions, laid).
  DERIVED. THE GIVEN ROWS OF THIS SEAT. 2 by the template 'for every input the law returns true; each argument reads behind the call as it read before'; 0 by the template 'total and deterministic' (their statements: YtfgmglghlapbcaaTotals.lean).
  GIVEN WITH THE SEED: the statements are not yours to turn. If you find one false, say at which input.
  Laid BY PROGRAM, IN A SANDBOX (cutbox-rows.mjs): the forced cells as the released guide's own fill.sh prints them over the translation e8626f44d5465e29… (all of the seat's roots in one cut). By AI agents, Wed Nov 11 2026. No macro, syntax, notation, axiom, sorry.
-/
import Derived.Test.YtfgmglghlapbcaaChecked
import GoSem.Claim
import GoSem.ClaimJoined
import GoSem.ClaimMapViews
import Derived.JoinedTies
import Derived.KernelRfl
namespace Go.Proofs.Ytfgmglghlapbcaa
/- THE CELL 'sum', in the pinned program and in every row, IS THE sha256 OF THE DUMP (.gsa) THAT YtfgmglghlapbcaaProg.lean LOADS. Nothing in Lean hashes anything: it is a label: what it is worth is what the hold of that sum in a sandbox is worth. -/
noncomputable def Try.pinned : Pinned := { name := "ytfgmglghlapbcaa", sum := "e8626f44d5465e296af839001eaf9a6dc194cd2bce202e15e1a3fff67463544f", checked := Try.checked }
namespace Rows
def none {H : Type} : Left H := { results := [], args := [] }

/-- 'quantumlaw25.PickLays': WHATEVER THE INPUT: true; the input reads as it did. -/
def pickLaysSpec : ChangeSpec := { name := "pickLays", fn := fun _ => fun
  | [d1, d2, d3, d4, d5] => { results := [.lit (.bool true)], args := [d1, d2, d3, d4, d5] }
  | _ => none }
def pickLaysRow : OpenClaim := { program := "ytfgmglghlapbcaa", sum := "e8626f44d5465e296af839001eaf9a6dc194cd2bce202e15e1a3fff67463544f", func := "quantum/quantumlaw25.PickLays", spec := "pickLays", unfollowed := true, recurses := true, apart := false }
def PickLaysSaid : Prop := pickLaysRow.holds Try.pinned (OpenSpec.ofChange pickLaysSpec)

/-- ITS FALSE NEIGHBOUR: 'it returns false'. Refute it at one input. -/
def pickLaysWrong : ChangeSpec := { name := "pickLays", fn := fun _ => fun
  | [d1, d2, d3, d4, d5] => { results := [.lit (.bool false)], args := [d1, d2, d3, d4, d5] }
  | _ => none }
def PickLaysWrongFalsely : Prop := pickLaysRow.holds Try.pinned (OpenSpec.ofChange pickLaysWrong)

/-- 'quantumlaw25.PickCharges': WHATEVER THE INPUT: true; the input reads as it did. -/
def pickChargesSpec : ChangeSpec := { name := "pickCharges", fn := fun _ => fun
  | [d1, d2, d3, d4, d5] => { results := [.lit (.bool true)], args := [d1, d2, d3, d4, d5] }
  | _ => none }
def pickChargesRow : OpenClaim := { program := "ytfgmglghlapbcaa", sum := "e8626f44d5465e296af839001eaf9a6dc194cd2bce202e15e1a3fff67463544f", func := "quantum/quantumlaw25.PickCharges", spec := "pickCharges", unfollowed := true, recurses := true, apart := false }
def PickChargesSaid : Prop := pickChargesRow.holds Try.pinned (OpenSpec.ofChange pickChargesSpec)

/-- ITS FALSE NEIGHBOUR: 'it returns false'. Refute it at one input. -/
def pickChargesWrong : ChangeSpec := { name := "pickCharges", fn := fun _ => fun
  | [d1, d2, d3, d4, d5] => { results := [.lit (.bool false)], args := [d1, d2, d3, d4, d5] }
  | _ => none }
def PickChargesWrongFalsely : Prop := pickChargesRow.holds Try.pinned (OpenSpec.ofChange pickChargesWrong)

/- THE SECOND FORM. 'bulk': how many values and letters a reading holds, each counted each time it is reached (what is shared counts as often as it is met; a slice's spare places count too). A statement '..UptoSaid' is the law's where the arguments, and the package variables that the reading takes, are together of bulk at most 1048576: NARROWER than '..Said'. Prove '..Said' where nothing that the law and all that it calls make is longer than what came in: it says more and counts as full. Else prove '..UptoSaid'. A law counts once. -/
mutual
def uptoBulk {H : Type} : DataW H → Nat
  | .lit (.string bytes) => bytes.length + 1
  | .lit _ => 1
  | .nil => 1
  | .ptr d => uptoBulk d + 1
  | .slice elems spare => uptoBulkAll elems + uptoBulkAll spare + 1
  | .agg parts => uptoBulkAll parts + 1
  | .iface _ d => uptoBulk d + 1
  | .map entries => uptoBulkEntries entries + 1
  | .held _ => 1
def uptoBulkAll {H : Type} : List (DataW H) → Nat
  | [] => 0
  | d :: r => uptoBulk d + uptoBulkAll r
def uptoBulkEntries {H : Type} : List (Lit × DataW H) → Nat
  | [] => 0
  | x :: r => uptoBulkEntry x + uptoBulkEntries r
def uptoBulkEntry {H : Type} : Lit × DataW H → Nat
  | (.string bytes, d) => bytes.length + uptoBulk d + 1
  | (_, d) => uptoBulk d + 1
 end
def uptoSmall : (H : Type) → List (DataW H) → Bool := fun _ ds => decide (uptoBulkAll ds ≤ 1048576)
def OpenSpec.upto (s : _root_.Go.ChangeSpec) : _root_.Go.OpenSpec := { _root_.Go.OpenSpec.ofChange s with cond := some uptoSmall }

/-- 'quantumlaw25.PickLays', WHERE WHAT IT READS IS OF BULK AT MOST 1048576: true; the input reads as it did. -/
def pickLaysUptoRow : OpenClaim := { program := "ytfgmglghlapbcaa", sum := "e8626f44d5465e296af839001eaf9a6dc194cd2bce202e15e1a3fff67463544f", func := "quantum/quantumlaw25.PickLays", spec := "pickLays", unfollowed := true, recurses := true, apart := false, narrowed := true }
def PickLaysUptoSaid : Prop := pickLaysUptoRow.holds Try.pinned (OpenSpec.upto pickLaysSpec)

/-- 'quantumlaw25.PickCharges', WHERE WHAT IT READS IS OF BULK AT MOST 1048576: true; the input reads as it did. -/
def pickChargesUptoRow : OpenClaim := { program := "ytfgmglghlapbcaa", sum := "e8626f44d5465e296af839001eaf9a6dc194cd2bce202e15e1a3fff67463544f", func := "quantum/quantumlaw25.PickCharges", spec := "pickCharges", unfollowed := true, recurses := true, apart := false, narrowed := true }
def PickChargesUptoSaid : Prop := pickChargesUptoRow.holds Try.pinned (OpenSpec.upto pickChargesSpec)

end Rows
end Go.Proofs.Ytfgmglghlapbcaa
