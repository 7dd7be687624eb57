/-
  No cell of these rows narrows 'for every input' (looked for: loops, veiled, ifaces, maps, wideKeys, modest, calm, conditions, laid).
  DERIVED. THE GIVEN ROWS OF THIS SEAT. 10 by the template 'for every input the law returns true; each argument reads behind the call as it read before'; 0 by the template 'total and deterministic' (their statements: YtanndepgepgfoaaTotals.lean).
  GIVEN WITH THE SEED: the statements are not yours to turn. If you find one false, say at which input.
  Laid BY PROGRAM, IN A SANDBOX (cutbox-rows.mjs): the forced cells as the released guide's own fill.sh prints them over the translation b2784c130ed8aed9… (all of the seat's roots in one cut). By AI agents, Wed Nov 11 2026. No macro, syntax, notation, axiom, sorry.
-/
import Derived.Test.YtanndepgepgfoaaChecked
import GoSem.Claim
import GoSem.ClaimJoined
import GoSem.ClaimMapViews
import Derived.JoinedTies
import Derived.KernelRfl
namespace Go.Proofs.Ytanndepgepgfoaa
/- THE CELL 'sum', in the pinned program and in every row, IS THE sha256 OF THE DUMP (.gsa) THAT YtanndepgepgfoaaProg.lean LOADS. Nothing in Lean hashes anything: it is a label: what it is worth is what the hold of that sum in a sandbox is worth. -/
noncomputable def Try.pinned : Pinned := { name := "ytanndepgepgfoaa", sum := "b2784c130ed8aed99139172b7b8f49a6b58cc74f8fbe8c4e1b1ff254de5278ff", checked := Try.checked }
namespace Rows
def none {H : Type} : Left H := { results := [], args := [] }

/-- 'laws.FnExactSumGraph': WHATEVER THE INPUT: true; the input reads as it did. -/
def fnExactSumGraphSpec : ChangeSpec := { name := "fnExactSumGraph", fn := fun _ => fun
  | [d] => { results := [.lit (.bool true)], args := [d] }
  | _ => none }
def fnExactSumGraphRow : OpenClaim := { program := "ytanndepgepgfoaa", sum := "b2784c130ed8aed99139172b7b8f49a6b58cc74f8fbe8c4e1b1ff254de5278ff", func := "loop.example/g01142/laws.FnExactSumGraph", spec := "fnExactSumGraph", plainKeys := false, apart := false }
def FnExactSumGraphSaid : Prop := fnExactSumGraphRow.holds Try.pinned (OpenSpec.ofChange fnExactSumGraphSpec)

/-- ITS FALSE NEIGHBOUR: 'it returns false'. Refute it at one input. -/
def fnExactSumGraphWrong : ChangeSpec := { name := "fnExactSumGraph", fn := fun _ => fun
  | [d] => { results := [.lit (.bool false)], args := [d] }
  | _ => none }
def FnExactSumGraphWrongFalsely : Prop := fnExactSumGraphRow.holds Try.pinned (OpenSpec.ofChange fnExactSumGraphWrong)

/-- 'laws.FnExactRunGraph': WHATEVER THE INPUT: true; the input reads as it did. -/
def fnExactRunGraphSpec : ChangeSpec := { name := "fnExactRunGraph", fn := fun _ => fun
  | [d1, d2] => { results := [.lit (.bool true)], args := [d1, d2] }
  | _ => none }
def fnExactRunGraphRow : OpenClaim := { program := "ytanndepgepgfoaa", sum := "b2784c130ed8aed99139172b7b8f49a6b58cc74f8fbe8c4e1b1ff254de5278ff", func := "loop.example/g01142/laws.FnExactRunGraph", spec := "fnExactRunGraph", plainKeys := false, apart := false }
def FnExactRunGraphSaid : Prop := fnExactRunGraphRow.holds Try.pinned (OpenSpec.ofChange fnExactRunGraphSpec)

/-- ITS FALSE NEIGHBOUR: 'it returns false'. Refute it at one input. -/
def fnExactRunGraphWrong : ChangeSpec := { name := "fnExactRunGraph", fn := fun _ => fun
  | [d1, d2] => { results := [.lit (.bool false)], args := [d1, d2] }
  | _ => none }
def FnExactRunGraphWrongFalsely : Prop := fnExactRunGraphRow.holds Try.pinned (OpenSpec.ofChange fnExactRunGraphWrong)

/-- 'laws.FnExactValidGraph': WHATEVER THE INPUT: true; the input reads as it did. -/
def fnExactValidGraphSpec : ChangeSpec := { name := "fnExactValidGraph", fn := fun _ => fun
  | [d] => { results := [.lit (.bool true)], args := [d] }
  | _ => none }
def fnExactValidGraphRow : OpenClaim := { program := "ytanndepgepgfoaa", sum := "b2784c130ed8aed99139172b7b8f49a6b58cc74f8fbe8c4e1b1ff254de5278ff", func := "loop.example/g01142/laws.FnExactValidGraph", spec := "fnExactValidGraph", plainKeys := false, apart := false }
def FnExactValidGraphSaid : Prop := fnExactValidGraphRow.holds Try.pinned (OpenSpec.ofChange fnExactValidGraphSpec)

/-- ITS FALSE NEIGHBOUR: 'it returns false'. Refute it at one input. -/
def fnExactValidGraphWrong : ChangeSpec := { name := "fnExactValidGraph", fn := fun _ => fun
  | [d] => { results := [.lit (.bool false)], args := [d] }
  | _ => none }
def FnExactValidGraphWrongFalsely : Prop := fnExactValidGraphRow.holds Try.pinned (OpenSpec.ofChange fnExactValidGraphWrong)

/-- 'laws.FnExactFirstTelling': WHATEVER THE INPUT: true; the input reads as it did. -/
def fnExactFirstTellingSpec : ChangeSpec := { name := "fnExactFirstTelling", fn := fun _ => fun
  | [d1, d2, d3, d4] => { results := [.lit (.bool true)], args := [d1, d2, d3, d4] }
  | _ => none }
def fnExactFirstTellingRow : OpenClaim := { program := "ytanndepgepgfoaa", sum := "b2784c130ed8aed99139172b7b8f49a6b58cc74f8fbe8c4e1b1ff254de5278ff", func := "loop.example/g01142/laws.FnExactFirstTelling", spec := "fnExactFirstTelling", plainKeys := false, apart := false }
def FnExactFirstTellingSaid : Prop := fnExactFirstTellingRow.holds Try.pinned (OpenSpec.ofChange fnExactFirstTellingSpec)

/-- ITS FALSE NEIGHBOUR: 'it returns false'. Refute it at one input. -/
def fnExactFirstTellingWrong : ChangeSpec := { name := "fnExactFirstTelling", fn := fun _ => fun
  | [d1, d2, d3, d4] => { results := [.lit (.bool false)], args := [d1, d2, d3, d4] }
  | _ => none }
def FnExactFirstTellingWrongFalsely : Prop := fnExactFirstTellingRow.holds Try.pinned (OpenSpec.ofChange fnExactFirstTellingWrong)

/-- 'laws.FnExactIsConnected': WHATEVER THE INPUT: true; the input reads as it did. -/
def fnExactIsConnectedSpec : ChangeSpec := { name := "fnExactIsConnected", fn := fun _ => fun
  | [d] => { results := [.lit (.bool true)], args := [d] }
  | _ => none }
def fnExactIsConnectedRow : OpenClaim := { program := "ytanndepgepgfoaa", sum := "b2784c130ed8aed99139172b7b8f49a6b58cc74f8fbe8c4e1b1ff254de5278ff", func := "loop.example/g01142/laws.FnExactIsConnected", spec := "fnExactIsConnected", plainKeys := false, apart := false }
def FnExactIsConnectedSaid : Prop := fnExactIsConnectedRow.holds Try.pinned (OpenSpec.ofChange fnExactIsConnectedSpec)

/-- ITS FALSE NEIGHBOUR: 'it returns false'. Refute it at one input. -/
def fnExactIsConnectedWrong : ChangeSpec := { name := "fnExactIsConnected", fn := fun _ => fun
  | [d] => { results := [.lit (.bool false)], args := [d] }
  | _ => none }
def FnExactIsConnectedWrongFalsely : Prop := fnExactIsConnectedRow.holds Try.pinned (OpenSpec.ofChange fnExactIsConnectedWrong)

/-- 'laws.FnExactReachedFrom': WHATEVER THE INPUT: true; the input reads as it did. -/
def fnExactReachedFromSpec : ChangeSpec := { name := "fnExactReachedFrom", fn := fun _ => fun
  | [d1, d2] => { results := [.lit (.bool true)], args := [d1, d2] }
  | _ => none }
def fnExactReachedFromRow : OpenClaim := { program := "ytanndepgepgfoaa", sum := "b2784c130ed8aed99139172b7b8f49a6b58cc74f8fbe8c4e1b1ff254de5278ff", func := "loop.example/g01142/laws.FnExactReachedFrom", spec := "fnExactReachedFrom", plainKeys := false, apart := false }
def FnExactReachedFromSaid : Prop := fnExactReachedFromRow.holds Try.pinned (OpenSpec.ofChange fnExactReachedFromSpec)

/-- ITS FALSE NEIGHBOUR: 'it returns false'. Refute it at one input. -/
def fnExactReachedFromWrong : ChangeSpec := { name := "fnExactReachedFrom", fn := fun _ => fun
  | [d1, d2] => { results := [.lit (.bool false)], args := [d1, d2] }
  | _ => none }
def FnExactReachedFromWrongFalsely : Prop := fnExactReachedFromRow.holds Try.pinned (OpenSpec.ofChange fnExactReachedFromWrong)

/-- 'laws.FnExactIsCodeVector': WHATEVER THE INPUT: true; the input reads as it did. -/
def fnExactIsCodeVectorSpec : ChangeSpec := { name := "fnExactIsCodeVector", fn := fun _ => fun
  | [d1, d2, d3, d4] => { results := [.lit (.bool true)], args := [d1, d2, d3, d4] }
  | _ => none }
def fnExactIsCodeVectorRow : OpenClaim := { program := "ytanndepgepgfoaa", sum := "b2784c130ed8aed99139172b7b8f49a6b58cc74f8fbe8c4e1b1ff254de5278ff", func := "loop.example/g01142/laws.FnExactIsCodeVector", spec := "fnExactIsCodeVector", plainKeys := false, apart := false }
def FnExactIsCodeVectorSaid : Prop := fnExactIsCodeVectorRow.holds Try.pinned (OpenSpec.ofChange fnExactIsCodeVectorSpec)

/-- ITS FALSE NEIGHBOUR: 'it returns false'. Refute it at one input. -/
def fnExactIsCodeVectorWrong : ChangeSpec := { name := "fnExactIsCodeVector", fn := fun _ => fun
  | [d1, d2, d3, d4] => { results := [.lit (.bool false)], args := [d1, d2, d3, d4] }
  | _ => none }
def FnExactIsCodeVectorWrongFalsely : Prop := fnExactIsCodeVectorRow.holds Try.pinned (OpenSpec.ofChange fnExactIsCodeVectorWrong)

/-- 'laws.FnExactCountAllowed': WHATEVER THE INPUT: true; the input reads as it did. -/
def fnExactCountAllowedSpec : ChangeSpec := { name := "fnExactCountAllowed", fn := fun _ => fun
  | [d1, d2, d3] => { results := [.lit (.bool true)], args := [d1, d2, d3] }
  | _ => none }
def fnExactCountAllowedRow : OpenClaim := { program := "ytanndepgepgfoaa", sum := "b2784c130ed8aed99139172b7b8f49a6b58cc74f8fbe8c4e1b1ff254de5278ff", func := "loop.example/g01142/laws.FnExactCountAllowed", spec := "fnExactCountAllowed", plainKeys := false, apart := false }
def FnExactCountAllowedSaid : Prop := fnExactCountAllowedRow.holds Try.pinned (OpenSpec.ofChange fnExactCountAllowedSpec)

/-- ITS FALSE NEIGHBOUR: 'it returns false'. Refute it at one input. -/
def fnExactCountAllowedWrong : ChangeSpec := { name := "fnExactCountAllowed", fn := fun _ => fun
  | [d1, d2, d3] => { results := [.lit (.bool false)], args := [d1, d2, d3] }
  | _ => none }
def FnExactCountAllowedWrongFalsely : Prop := fnExactCountAllowedRow.holds Try.pinned (OpenSpec.ofChange fnExactCountAllowedWrong)

/-- 'laws.FnExactBitsAt': WHATEVER THE INPUT: true; the input reads as it did. -/
def fnExactBitsAtSpec : ChangeSpec := { name := "fnExactBitsAt", fn := fun _ => fun
  | [d1, d2, d3, d4] => { results := [.lit (.bool true)], args := [d1, d2, d3, d4] }
  | _ => none }
def fnExactBitsAtRow : OpenClaim := { program := "ytanndepgepgfoaa", sum := "b2784c130ed8aed99139172b7b8f49a6b58cc74f8fbe8c4e1b1ff254de5278ff", func := "loop.example/g01142/laws.FnExactBitsAt", spec := "fnExactBitsAt", plainKeys := false, apart := false }
def FnExactBitsAtSaid : Prop := fnExactBitsAtRow.holds Try.pinned (OpenSpec.ofChange fnExactBitsAtSpec)

/-- ITS FALSE NEIGHBOUR: 'it returns false'. Refute it at one input. -/
def fnExactBitsAtWrong : ChangeSpec := { name := "fnExactBitsAt", fn := fun _ => fun
  | [d1, d2, d3, d4] => { results := [.lit (.bool false)], args := [d1, d2, d3, d4] }
  | _ => none }
def FnExactBitsAtWrongFalsely : Prop := fnExactBitsAtRow.holds Try.pinned (OpenSpec.ofChange fnExactBitsAtWrong)

/-- 'laws.FnExactMergeGraph': WHATEVER THE INPUT: true; the input reads as it did. -/
def fnExactMergeGraphSpec : ChangeSpec := { name := "fnExactMergeGraph", fn := fun _ => fun
  | [d] => { results := [.lit (.bool true)], args := [d] }
  | _ => none }
def fnExactMergeGraphRow : OpenClaim := { program := "ytanndepgepgfoaa", sum := "b2784c130ed8aed99139172b7b8f49a6b58cc74f8fbe8c4e1b1ff254de5278ff", func := "loop.example/g01142/laws.FnExactMergeGraph", spec := "fnExactMergeGraph", unfollowed := true, recurses := true, plainKeys := false, apart := false }
def FnExactMergeGraphSaid : Prop := fnExactMergeGraphRow.holds Try.pinned (OpenSpec.ofChange fnExactMergeGraphSpec)

/-- ITS FALSE NEIGHBOUR: 'it returns false'. Refute it at one input. -/
def fnExactMergeGraphWrong : ChangeSpec := { name := "fnExactMergeGraph", fn := fun _ => fun
  | [d] => { results := [.lit (.bool false)], args := [d] }
  | _ => none }
def FnExactMergeGraphWrongFalsely : Prop := fnExactMergeGraphRow.holds Try.pinned (OpenSpec.ofChange fnExactMergeGraphWrong)

/- THE SECOND FORM. 'bulk': how many values and letters a reading holds, each counted each time it is reached (what is shared counts as often as it is met; a slice's spare places count too). A statement '..UptoSaid' is the law's where the arguments, and the package variables that the reading takes, are together of bulk at most 1048576: NARROWER than '..Said'. Prove '..Said' where nothing that the law and all that it calls make is longer than what came in: it says more and counts as full. Else prove '..UptoSaid'. A law counts once. -/
mutual
def uptoBulk {H : Type} : DataW H → Nat
  | .lit (.string bytes) => bytes.length + 1
  | .lit _ => 1
  | .nil => 1
  | .ptr d => uptoBulk d + 1
  | .slice elems spare => uptoBulkAll elems + uptoBulkAll spare + 1
  | .agg parts => uptoBulkAll parts + 1
  | .iface _ d => uptoBulk d + 1
  | .map entries => uptoBulkEntries entries + 1
  | .held _ => 1
def uptoBulkAll {H : Type} : List (DataW H) → Nat
  | [] => 0
  | d :: r => uptoBulk d + uptoBulkAll r
def uptoBulkEntries {H : Type} : List (Lit × DataW H) → Nat
  | [] => 0
  | x :: r => uptoBulkEntry x + uptoBulkEntries r
def uptoBulkEntry {H : Type} : Lit × DataW H → Nat
  | (.string bytes, d) => bytes.length + uptoBulk d + 1
  | (_, d) => uptoBulk d + 1
 end
def uptoSmall : (H : Type) → List (DataW H) → Bool := fun _ ds => decide (uptoBulkAll ds ≤ 1048576)
def OpenSpec.upto (s : _root_.Go.ChangeSpec) : _root_.Go.OpenSpec := { _root_.Go.OpenSpec.ofChange s with cond := some uptoSmall }

/-- 'laws.FnExactSumGraph', WHERE WHAT IT READS IS OF BULK AT MOST 1048576: true; the input reads as it did. -/
def fnExactSumGraphUptoRow : OpenClaim := { program := "ytanndepgepgfoaa", sum := "b2784c130ed8aed99139172b7b8f49a6b58cc74f8fbe8c4e1b1ff254de5278ff", func := "loop.example/g01142/laws.FnExactSumGraph", spec := "fnExactSumGraph", plainKeys := false, apart := false, narrowed := true }
def FnExactSumGraphUptoSaid : Prop := fnExactSumGraphUptoRow.holds Try.pinned (OpenSpec.upto fnExactSumGraphSpec)

/-- 'laws.FnExactRunGraph', WHERE WHAT IT READS IS OF BULK AT MOST 1048576: true; the input reads as it did. -/
def fnExactRunGraphUptoRow : OpenClaim := { program := "ytanndepgepgfoaa", sum := "b2784c130ed8aed99139172b7b8f49a6b58cc74f8fbe8c4e1b1ff254de5278ff", func := "loop.example/g01142/laws.FnExactRunGraph", spec := "fnExactRunGraph", plainKeys := false, apart := false, narrowed := true }
def FnExactRunGraphUptoSaid : Prop := fnExactRunGraphUptoRow.holds Try.pinned (OpenSpec.upto fnExactRunGraphSpec)

/-- 'laws.FnExactValidGraph', WHERE WHAT IT READS IS OF BULK AT MOST 1048576: true; the input reads as it did. -/
def fnExactValidGraphUptoRow : OpenClaim := { program := "ytanndepgepgfoaa", sum := "b2784c130ed8aed99139172b7b8f49a6b58cc74f8fbe8c4e1b1ff254de5278ff", func := "loop.example/g01142/laws.FnExactValidGraph", spec := "fnExactValidGraph", plainKeys := false, apart := false, narrowed := true }
def FnExactValidGraphUptoSaid : Prop := fnExactValidGraphUptoRow.holds Try.pinned (OpenSpec.upto fnExactValidGraphSpec)

/-- 'laws.FnExactFirstTelling', WHERE WHAT IT READS IS OF BULK AT MOST 1048576: true; the input reads as it did. -/
def fnExactFirstTellingUptoRow : OpenClaim := { program := "ytanndepgepgfoaa", sum := "b2784c130ed8aed99139172b7b8f49a6b58cc74f8fbe8c4e1b1ff254de5278ff", func := "loop.example/g01142/laws.FnExactFirstTelling", spec := "fnExactFirstTelling", plainKeys := false, apart := false, narrowed := true }
def FnExactFirstTellingUptoSaid : Prop := fnExactFirstTellingUptoRow.holds Try.pinned (OpenSpec.upto fnExactFirstTellingSpec)

/-- 'laws.FnExactIsConnected', WHERE WHAT IT READS IS OF BULK AT MOST 1048576: true; the input reads as it did. -/
def fnExactIsConnectedUptoRow : OpenClaim := { program := "ytanndepgepgfoaa", sum := "b2784c130ed8aed99139172b7b8f49a6b58cc74f8fbe8c4e1b1ff254de5278ff", func := "loop.example/g01142/laws.FnExactIsConnected", spec := "fnExactIsConnected", plainKeys := false, apart := false, narrowed := true }
def FnExactIsConnectedUptoSaid : Prop := fnExactIsConnectedUptoRow.holds Try.pinned (OpenSpec.upto fnExactIsConnectedSpec)

/-- 'laws.FnExactReachedFrom', WHERE WHAT IT READS IS OF BULK AT MOST 1048576: true; the input reads as it did. -/
def fnExactReachedFromUptoRow : OpenClaim := { program := "ytanndepgepgfoaa", sum := "b2784c130ed8aed99139172b7b8f49a6b58cc74f8fbe8c4e1b1ff254de5278ff", func := "loop.example/g01142/laws.FnExactReachedFrom", spec := "fnExactReachedFrom", plainKeys := false, apart := false, narrowed := true }
def FnExactReachedFromUptoSaid : Prop := fnExactReachedFromUptoRow.holds Try.pinned (OpenSpec.upto fnExactReachedFromSpec)

/-- 'laws.FnExactIsCodeVector', WHERE WHAT IT READS IS OF BULK AT MOST 1048576: true; the input reads as it did. -/
def fnExactIsCodeVectorUptoRow : OpenClaim := { program := "ytanndepgepgfoaa", sum := "b2784c130ed8aed99139172b7b8f49a6b58cc74f8fbe8c4e1b1ff254de5278ff", func := "loop.example/g01142/laws.FnExactIsCodeVector", spec := "fnExactIsCodeVector", plainKeys := false, apart := false, narrowed := true }
def FnExactIsCodeVectorUptoSaid : Prop := fnExactIsCodeVectorUptoRow.holds Try.pinned (OpenSpec.upto fnExactIsCodeVectorSpec)

/-- 'laws.FnExactCountAllowed', WHERE WHAT IT READS IS OF BULK AT MOST 1048576: true; the input reads as it did. -/
def fnExactCountAllowedUptoRow : OpenClaim := { program := "ytanndepgepgfoaa", sum := "b2784c130ed8aed99139172b7b8f49a6b58cc74f8fbe8c4e1b1ff254de5278ff", func := "loop.example/g01142/laws.FnExactCountAllowed", spec := "fnExactCountAllowed", plainKeys := false, apart := false, narrowed := true }
def FnExactCountAllowedUptoSaid : Prop := fnExactCountAllowedUptoRow.holds Try.pinned (OpenSpec.upto fnExactCountAllowedSpec)

/-- 'laws.FnExactBitsAt', WHERE WHAT IT READS IS OF BULK AT MOST 1048576: true; the input reads as it did. -/
def fnExactBitsAtUptoRow : OpenClaim := { program := "ytanndepgepgfoaa", sum := "b2784c130ed8aed99139172b7b8f49a6b58cc74f8fbe8c4e1b1ff254de5278ff", func := "loop.example/g01142/laws.FnExactBitsAt", spec := "fnExactBitsAt", plainKeys := false, apart := false, narrowed := true }
def FnExactBitsAtUptoSaid : Prop := fnExactBitsAtUptoRow.holds Try.pinned (OpenSpec.upto fnExactBitsAtSpec)

/-- 'laws.FnExactMergeGraph', WHERE WHAT IT READS IS OF BULK AT MOST 1048576: true; the input reads as it did. -/
def fnExactMergeGraphUptoRow : OpenClaim := { program := "ytanndepgepgfoaa", sum := "b2784c130ed8aed99139172b7b8f49a6b58cc74f8fbe8c4e1b1ff254de5278ff", func := "loop.example/g01142/laws.FnExactMergeGraph", spec := "fnExactMergeGraph", unfollowed := true, recurses := true, plainKeys := false, apart := false, narrowed := true }
def FnExactMergeGraphUptoSaid : Prop := fnExactMergeGraphUptoRow.holds Try.pinned (OpenSpec.upto fnExactMergeGraphSpec)

end Rows
end Go.Proofs.Ytanndepgepgfoaa
