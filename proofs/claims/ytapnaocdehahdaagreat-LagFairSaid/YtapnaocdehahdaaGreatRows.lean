/-
  No cell of these rows narrows 'for every input' (looked for: loops, veiled, ifaces, maps, wideKeys, modest, calm, conditions, laid).
  DERIVED. THE GIVEN ROWS OF THIS SEAT. 10 by the template 'for every input the law returns true; each argument reads behind the call as it read before'; 0 by the template 'total and deterministic' (their statements: YtapnaocdehahdaaGreatTotals.lean).
  GIVEN WITH THE SEED: the statements are not yours to turn. If you find one false, say at which input.
  Laid BY PROGRAM, IN A SANDBOX (cutbox-rows.mjs): the forced cells as the released guide's own fill.sh prints them over the translation bbec72ad4614c5a6… (all of the seat's roots in one cut). By AI agents, Wed Nov 11 2026. No macro, syntax, notation, axiom, sorry.
-/
import Derived.Test.YtapnaocdehahdaaGreatChecked
import GoSem.Claim
import GoSem.ClaimJoined
import GoSem.ClaimMapViews
import Derived.JoinedTies
import Derived.KernelRfl
namespace Go.Proofs.YtapnaocdehahdaaGreat
/- THE CELL 'sum', in the pinned program and in every row, IS THE sha256 OF THE DUMP (.gsa) THAT YtapnaocdehahdaaGreatProg.lean LOADS. Nothing in Lean hashes anything: it is a label: what it is worth is what the hold of that sum in a sandbox is worth. -/
noncomputable def Tryz.pinned : Pinned := { name := "ytapnaocdehahdaagreat", sum := "bbec72ad4614c5a6feb929e9391a7c5e9a9bae7cd49fff96202d1a4febdfc9cd", checked := Tryz.checked }
namespace Rows
def none {H : Type} : Left H := { results := [], args := [] }

/-- 'quantumlaw31.SchedRefused': WHATEVER THE INPUT: true; the input reads as it did. -/
def schedRefusedSpec : ChangeSpec := { name := "schedRefused", fn := fun _ => fun
  | [d1, d2, d3] => { results := [.lit (.bool true)], args := [d1, d2, d3] }
  | _ => none }
def schedRefusedRow : OpenClaim := { program := "ytapnaocdehahdaagreat", sum := "bbec72ad4614c5a6feb929e9391a7c5e9a9bae7cd49fff96202d1a4febdfc9cd", func := "quantum/quantumlaw31.SchedRefused", spec := "schedRefused", unfollowed := true, recurses := true, plainKeys := false, apart := false }
def SchedRefusedSaid : Prop := schedRefusedRow.holds Tryz.pinned (OpenSpec.ofChange schedRefusedSpec)

/-- ITS FALSE NEIGHBOUR: 'it returns false'. Refute it at one input. -/
def schedRefusedWrong : ChangeSpec := { name := "schedRefused", fn := fun _ => fun
  | [d1, d2, d3] => { results := [.lit (.bool false)], args := [d1, d2, d3] }
  | _ => none }
def SchedRefusedWrongFalsely : Prop := schedRefusedRow.holds Tryz.pinned (OpenSpec.ofChange schedRefusedWrong)

/-- 'quantumlaw31.SchedTells': WHATEVER THE INPUT: true; the input reads as it did. -/
def schedTellsSpec : ChangeSpec := { name := "schedTells", fn := fun _ => fun
  | [d1, d2, d3, d4] => { results := [.lit (.bool true)], args := [d1, d2, d3, d4] }
  | _ => none }
def schedTellsRow : OpenClaim := { program := "ytapnaocdehahdaagreat", sum := "bbec72ad4614c5a6feb929e9391a7c5e9a9bae7cd49fff96202d1a4febdfc9cd", func := "quantum/quantumlaw31.SchedTells", spec := "schedTells", unfollowed := true, recurses := true, plainKeys := false, apart := false }
def SchedTellsSaid : Prop := schedTellsRow.holds Tryz.pinned (OpenSpec.ofChange schedTellsSpec)

/-- ITS FALSE NEIGHBOUR: 'it returns false'. Refute it at one input. -/
def schedTellsWrong : ChangeSpec := { name := "schedTells", fn := fun _ => fun
  | [d1, d2, d3, d4] => { results := [.lit (.bool false)], args := [d1, d2, d3, d4] }
  | _ => none }
def SchedTellsWrongFalsely : Prop := schedTellsRow.holds Tryz.pinned (OpenSpec.ofChange schedTellsWrong)

/-- 'quantumlaw31.SchedViews': WHATEVER THE INPUT: true; the input reads as it did. -/
def schedViewsSpec : ChangeSpec := { name := "schedViews", fn := fun _ => fun
  | [d1, d2, d3] => { results := [.lit (.bool true)], args := [d1, d2, d3] }
  | _ => none }
def schedViewsRow : OpenClaim := { program := "ytapnaocdehahdaagreat", sum := "bbec72ad4614c5a6feb929e9391a7c5e9a9bae7cd49fff96202d1a4febdfc9cd", func := "quantum/quantumlaw31.SchedViews", spec := "schedViews", unfollowed := true, recurses := true, plainKeys := false, apart := false }
def SchedViewsSaid : Prop := schedViewsRow.holds Tryz.pinned (OpenSpec.ofChange schedViewsSpec)

/-- ITS FALSE NEIGHBOUR: 'it returns false'. Refute it at one input. -/
def schedViewsWrong : ChangeSpec := { name := "schedViews", fn := fun _ => fun
  | [d1, d2, d3] => { results := [.lit (.bool false)], args := [d1, d2, d3] }
  | _ => none }
def SchedViewsWrongFalsely : Prop := schedViewsRow.holds Tryz.pinned (OpenSpec.ofChange schedViewsWrong)

/-- 'quantumlaw31.SchedAgain': WHATEVER THE INPUT: true; the input reads as it did. -/
def schedAgainSpec : ChangeSpec := { name := "schedAgain", fn := fun _ => fun
  | [d1, d2, d3] => { results := [.lit (.bool true)], args := [d1, d2, d3] }
  | _ => none }
def schedAgainRow : OpenClaim := { program := "ytapnaocdehahdaagreat", sum := "bbec72ad4614c5a6feb929e9391a7c5e9a9bae7cd49fff96202d1a4febdfc9cd", func := "quantum/quantumlaw31.SchedAgain", spec := "schedAgain", unfollowed := true, recurses := true, plainKeys := false, apart := false }
def SchedAgainSaid : Prop := schedAgainRow.holds Tryz.pinned (OpenSpec.ofChange schedAgainSpec)

/-- ITS FALSE NEIGHBOUR: 'it returns false'. Refute it at one input. -/
def schedAgainWrong : ChangeSpec := { name := "schedAgain", fn := fun _ => fun
  | [d1, d2, d3] => { results := [.lit (.bool false)], args := [d1, d2, d3] }
  | _ => none }
def SchedAgainWrongFalsely : Prop := schedAgainRow.holds Tryz.pinned (OpenSpec.ofChange schedAgainWrong)

/-- 'quantumlaw31.SchedSame': WHATEVER THE INPUT: true; the input reads as it did. -/
def schedSameSpec : ChangeSpec := { name := "schedSame", fn := fun _ => fun
  | [d1, d2, d3] => { results := [.lit (.bool true)], args := [d1, d2, d3] }
  | _ => none }
def schedSameRow : OpenClaim := { program := "ytapnaocdehahdaagreat", sum := "bbec72ad4614c5a6feb929e9391a7c5e9a9bae7cd49fff96202d1a4febdfc9cd", func := "quantum/quantumlaw31.SchedSame", spec := "schedSame", inPlace := ["slices.overlaps[quantum/api.Task]"], unfollowed := true, recurses := true, plainKeys := false, apart := false }
def SchedSameSaid : Prop := schedSameRow.holds Tryz.pinned (OpenSpec.ofChange schedSameSpec)

/-- ITS FALSE NEIGHBOUR: 'it returns false'. Refute it at one input. -/
def schedSameWrong : ChangeSpec := { name := "schedSame", fn := fun _ => fun
  | [d1, d2, d3] => { results := [.lit (.bool false)], args := [d1, d2, d3] }
  | _ => none }
def SchedSameWrongFalsely : Prop := schedSameRow.holds Tryz.pinned (OpenSpec.ofChange schedSameWrong)

/-- 'quantumlaw31.SchedLoads': WHATEVER THE INPUT: true; the input reads as it did. -/
def schedLoadsSpec : ChangeSpec := { name := "schedLoads", fn := fun _ => fun
  | [d1, d2] => { results := [.lit (.bool true)], args := [d1, d2] }
  | _ => none }
def schedLoadsRow : OpenClaim := { program := "ytapnaocdehahdaagreat", sum := "bbec72ad4614c5a6feb929e9391a7c5e9a9bae7cd49fff96202d1a4febdfc9cd", func := "quantum/quantumlaw31.SchedLoads", spec := "schedLoads", unfollowed := true, recurses := true, plainKeys := false, apart := false }
def SchedLoadsSaid : Prop := schedLoadsRow.holds Tryz.pinned (OpenSpec.ofChange schedLoadsSpec)

/-- ITS FALSE NEIGHBOUR: 'it returns false'. Refute it at one input. -/
def schedLoadsWrong : ChangeSpec := { name := "schedLoads", fn := fun _ => fun
  | [d1, d2] => { results := [.lit (.bool false)], args := [d1, d2] }
  | _ => none }
def SchedLoadsWrongFalsely : Prop := schedLoadsRow.holds Tryz.pinned (OpenSpec.ofChange schedLoadsWrong)

/-- 'quantumlaw31.SchedSmall': WHATEVER THE INPUT: true; the input reads as it did. -/
def schedSmallSpec : ChangeSpec := { name := "schedSmall", fn := fun _ => fun
  | [] => { results := [.lit (.bool true)], args := [] }
  | _ => none }
def schedSmallRow : OpenClaim := { program := "ytapnaocdehahdaagreat", sum := "bbec72ad4614c5a6feb929e9391a7c5e9a9bae7cd49fff96202d1a4febdfc9cd", func := "quantum/quantumlaw31.SchedSmall", spec := "schedSmall", unfollowed := true, recurses := true, plainKeys := false, apart := false }
def SchedSmallSaid : Prop := schedSmallRow.holds Tryz.pinned (OpenSpec.ofChange schedSmallSpec)

/-- ITS FALSE NEIGHBOUR: 'it returns false'. Refute it at one input. -/
def schedSmallWrong : ChangeSpec := { name := "schedSmall", fn := fun _ => fun
  | [] => { results := [.lit (.bool false)], args := [] }
  | _ => none }
def SchedSmallWrongFalsely : Prop := schedSmallRow.holds Tryz.pinned (OpenSpec.ofChange schedSmallWrong)

/-- 'quantumtop.TopFair': WHATEVER THE INPUT: true; the input reads as it did. -/
def topFairSpec : ChangeSpec := { name := "topFair", fn := fun _ => fun
  | [d1, d2, d3] => { results := [.lit (.bool true)], args := [d1, d2, d3] }
  | _ => none }
def topFairRow : OpenClaim := { program := "ytapnaocdehahdaagreat", sum := "bbec72ad4614c5a6feb929e9391a7c5e9a9bae7cd49fff96202d1a4febdfc9cd", func := "quantum/quantumtop.TopFair", spec := "topFair", unfollowed := true, recurses := true, plainKeys := false, apart := false }
def TopFairSaid : Prop := topFairRow.holds Tryz.pinned (OpenSpec.ofChange topFairSpec)

/-- ITS FALSE NEIGHBOUR: 'it returns false'. Refute it at one input. -/
def topFairWrong : ChangeSpec := { name := "topFair", fn := fun _ => fun
  | [d1, d2, d3] => { results := [.lit (.bool false)], args := [d1, d2, d3] }
  | _ => none }
def TopFairWrongFalsely : Prop := topFairRow.holds Tryz.pinned (OpenSpec.ofChange topFairWrong)

/-- 'quantumtop.TopSame': WHATEVER THE INPUT: true; the input reads as it did. -/
def topSameSpec : ChangeSpec := { name := "topSame", fn := fun _ => fun
  | [d1, d2, d3, d4, d5] => { results := [.lit (.bool true)], args := [d1, d2, d3, d4, d5] }
  | _ => none }
def topSameRow : OpenClaim := { program := "ytapnaocdehahdaagreat", sum := "bbec72ad4614c5a6feb929e9391a7c5e9a9bae7cd49fff96202d1a4febdfc9cd", func := "quantum/quantumtop.TopSame", spec := "topSame", inPlace := ["slices.overlaps[quantum/api.Task]"], unfollowed := true, recurses := true, plainKeys := false, apart := false }
def TopSameSaid : Prop := topSameRow.holds Tryz.pinned (OpenSpec.ofChange topSameSpec)

/-- ITS FALSE NEIGHBOUR: 'it returns false'. Refute it at one input. -/
def topSameWrong : ChangeSpec := { name := "topSame", fn := fun _ => fun
  | [d1, d2, d3, d4, d5] => { results := [.lit (.bool false)], args := [d1, d2, d3, d4, d5] }
  | _ => none }
def TopSameWrongFalsely : Prop := topSameRow.holds Tryz.pinned (OpenSpec.ofChange topSameWrong)

/-- 'quantumlaw39.LagFair': WHATEVER THE INPUT: true; the input reads as it did. -/
def lagFairSpec : ChangeSpec := { name := "lagFair", fn := fun _ => fun
  | [d1, d2] => { results := [.lit (.bool true)], args := [d1, d2] }
  | _ => none }
def lagFairRow : OpenClaim := { program := "ytapnaocdehahdaagreat", sum := "bbec72ad4614c5a6feb929e9391a7c5e9a9bae7cd49fff96202d1a4febdfc9cd", func := "quantum/quantumlaw39.LagFair", spec := "lagFair", inPlace := ["slices.overlaps[quantum/api.Task]"], unfollowed := true, recurses := true, plainKeys := false, apart := false }
def LagFairSaid : Prop := lagFairRow.holds Tryz.pinned (OpenSpec.ofChange lagFairSpec)

/-- ITS FALSE NEIGHBOUR: 'it returns false'. Refute it at one input. -/
def lagFairWrong : ChangeSpec := { name := "lagFair", fn := fun _ => fun
  | [d1, d2] => { results := [.lit (.bool false)], args := [d1, d2] }
  | _ => none }
def LagFairWrongFalsely : Prop := lagFairRow.holds Tryz.pinned (OpenSpec.ofChange lagFairWrong)

/- THE SECOND FORM. 'bulk': how many values and letters a reading holds, each counted each time it is reached (what is shared counts as often as it is met; a slice's spare places count too). A statement '..UptoSaid' is the law's where the arguments, and the package variables that the reading takes, are together of bulk at most 1048576: NARROWER than '..Said'. Prove '..Said' where nothing that the law and all that it calls make is longer than what came in: it says more and counts as full. Else prove '..UptoSaid'. A law counts once. -/
mutual
def uptoBulk {H : Type} : DataW H → Nat
  | .lit (.string bytes) => bytes.length + 1
  | .lit _ => 1
  | .nil => 1
  | .ptr d => uptoBulk d + 1
  | .slice elems spare => uptoBulkAll elems + uptoBulkAll spare + 1
  | .agg parts => uptoBulkAll parts + 1
  | .iface _ d => uptoBulk d + 1
  | .map entries => uptoBulkEntries entries + 1
  | .held _ => 1
def uptoBulkAll {H : Type} : List (DataW H) → Nat
  | [] => 0
  | d :: r => uptoBulk d + uptoBulkAll r
def uptoBulkEntries {H : Type} : List (Lit × DataW H) → Nat
  | [] => 0
  | x :: r => uptoBulkEntry x + uptoBulkEntries r
def uptoBulkEntry {H : Type} : Lit × DataW H → Nat
  | (.string bytes, d) => bytes.length + uptoBulk d + 1
  | (_, d) => uptoBulk d + 1
 end
def uptoSmall : (H : Type) → List (DataW H) → Bool := fun _ ds => decide (uptoBulkAll ds ≤ 1048576)
def OpenSpec.upto (s : _root_.Go.ChangeSpec) : _root_.Go.OpenSpec := { _root_.Go.OpenSpec.ofChange s with cond := some uptoSmall }

/-- 'quantumlaw31.SchedRefused', WHERE WHAT IT READS IS OF BULK AT MOST 1048576: true; the input reads as it did. -/
def schedRefusedUptoRow : OpenClaim := { program := "ytapnaocdehahdaagreat", sum := "bbec72ad4614c5a6feb929e9391a7c5e9a9bae7cd49fff96202d1a4febdfc9cd", func := "quantum/quantumlaw31.SchedRefused", spec := "schedRefused", unfollowed := true, recurses := true, plainKeys := false, apart := false, narrowed := true }
def SchedRefusedUptoSaid : Prop := schedRefusedUptoRow.holds Tryz.pinned (OpenSpec.upto schedRefusedSpec)

/-- 'quantumlaw31.SchedTells', WHERE WHAT IT READS IS OF BULK AT MOST 1048576: true; the input reads as it did. -/
def schedTellsUptoRow : OpenClaim := { program := "ytapnaocdehahdaagreat", sum := "bbec72ad4614c5a6feb929e9391a7c5e9a9bae7cd49fff96202d1a4febdfc9cd", func := "quantum/quantumlaw31.SchedTells", spec := "schedTells", unfollowed := true, recurses := true, plainKeys := false, apart := false, narrowed := true }
def SchedTellsUptoSaid : Prop := schedTellsUptoRow.holds Tryz.pinned (OpenSpec.upto schedTellsSpec)

/-- 'quantumlaw31.SchedViews', WHERE WHAT IT READS IS OF BULK AT MOST 1048576: true; the input reads as it did. -/
def schedViewsUptoRow : OpenClaim := { program := "ytapnaocdehahdaagreat", sum := "bbec72ad4614c5a6feb929e9391a7c5e9a9bae7cd49fff96202d1a4febdfc9cd", func := "quantum/quantumlaw31.SchedViews", spec := "schedViews", unfollowed := true, recurses := true, plainKeys := false, apart := false, narrowed := true }
def SchedViewsUptoSaid : Prop := schedViewsUptoRow.holds Tryz.pinned (OpenSpec.upto schedViewsSpec)

/-- 'quantumlaw31.SchedAgain', WHERE WHAT IT READS IS OF BULK AT MOST 1048576: true; the input reads as it did. -/
def schedAgainUptoRow : OpenClaim := { program := "ytapnaocdehahdaagreat", sum := "bbec72ad4614c5a6feb929e9391a7c5e9a9bae7cd49fff96202d1a4febdfc9cd", func := "quantum/quantumlaw31.SchedAgain", spec := "schedAgain", unfollowed := true, recurses := true, plainKeys := false, apart := false, narrowed := true }
def SchedAgainUptoSaid : Prop := schedAgainUptoRow.holds Tryz.pinned (OpenSpec.upto schedAgainSpec)

/-- 'quantumlaw31.SchedSame', WHERE WHAT IT READS IS OF BULK AT MOST 1048576: true; the input reads as it did. -/
def schedSameUptoRow : OpenClaim := { program := "ytapnaocdehahdaagreat", sum := "bbec72ad4614c5a6feb929e9391a7c5e9a9bae7cd49fff96202d1a4febdfc9cd", func := "quantum/quantumlaw31.SchedSame", spec := "schedSame", inPlace := ["slices.overlaps[quantum/api.Task]"], unfollowed := true, recurses := true, plainKeys := false, apart := false, narrowed := true }
def SchedSameUptoSaid : Prop := schedSameUptoRow.holds Tryz.pinned (OpenSpec.upto schedSameSpec)

/-- 'quantumlaw31.SchedLoads', WHERE WHAT IT READS IS OF BULK AT MOST 1048576: true; the input reads as it did. -/
def schedLoadsUptoRow : OpenClaim := { program := "ytapnaocdehahdaagreat", sum := "bbec72ad4614c5a6feb929e9391a7c5e9a9bae7cd49fff96202d1a4febdfc9cd", func := "quantum/quantumlaw31.SchedLoads", spec := "schedLoads", unfollowed := true, recurses := true, plainKeys := false, apart := false, narrowed := true }
def SchedLoadsUptoSaid : Prop := schedLoadsUptoRow.holds Tryz.pinned (OpenSpec.upto schedLoadsSpec)

/-- 'quantumlaw31.SchedSmall', WHERE WHAT IT READS IS OF BULK AT MOST 1048576: true; the input reads as it did. -/
def schedSmallUptoRow : OpenClaim := { program := "ytapnaocdehahdaagreat", sum := "bbec72ad4614c5a6feb929e9391a7c5e9a9bae7cd49fff96202d1a4febdfc9cd", func := "quantum/quantumlaw31.SchedSmall", spec := "schedSmall", unfollowed := true, recurses := true, plainKeys := false, apart := false, narrowed := true }
def SchedSmallUptoSaid : Prop := schedSmallUptoRow.holds Tryz.pinned (OpenSpec.upto schedSmallSpec)

/-- 'quantumtop.TopFair', WHERE WHAT IT READS IS OF BULK AT MOST 1048576: true; the input reads as it did. -/
def topFairUptoRow : OpenClaim := { program := "ytapnaocdehahdaagreat", sum := "bbec72ad4614c5a6feb929e9391a7c5e9a9bae7cd49fff96202d1a4febdfc9cd", func := "quantum/quantumtop.TopFair", spec := "topFair", unfollowed := true, recurses := true, plainKeys := false, apart := false, narrowed := true }
def TopFairUptoSaid : Prop := topFairUptoRow.holds Tryz.pinned (OpenSpec.upto topFairSpec)

/-- 'quantumtop.TopSame', WHERE WHAT IT READS IS OF BULK AT MOST 1048576: true; the input reads as it did. -/
def topSameUptoRow : OpenClaim := { program := "ytapnaocdehahdaagreat", sum := "bbec72ad4614c5a6feb929e9391a7c5e9a9bae7cd49fff96202d1a4febdfc9cd", func := "quantum/quantumtop.TopSame", spec := "topSame", inPlace := ["slices.overlaps[quantum/api.Task]"], unfollowed := true, recurses := true, plainKeys := false, apart := false, narrowed := true }
def TopSameUptoSaid : Prop := topSameUptoRow.holds Tryz.pinned (OpenSpec.upto topSameSpec)

/-- 'quantumlaw39.LagFair', WHERE WHAT IT READS IS OF BULK AT MOST 1048576: true; the input reads as it did. -/
def lagFairUptoRow : OpenClaim := { program := "ytapnaocdehahdaagreat", sum := "bbec72ad4614c5a6feb929e9391a7c5e9a9bae7cd49fff96202d1a4febdfc9cd", func := "quantum/quantumlaw39.LagFair", spec := "lagFair", inPlace := ["slices.overlaps[quantum/api.Task]"], unfollowed := true, recurses := true, plainKeys := false, apart := false, narrowed := true }
def LagFairUptoSaid : Prop := lagFairUptoRow.holds Tryz.pinned (OpenSpec.upto lagFairSpec)

end Rows
end Go.Proofs.YtapnaocdehahdaaGreat
