/-
  No cell of these rows narrows 'for every input' (looked for: loops, veiled, ifaces, maps, wideKeys, modest, calm, conditions, laid).
  DERIVED. THE GIVEN ROWS OF THIS SEAT. 3 by the template 'for every input the law returns true; each argument reads behind the call as it read before'; 0 by the template 'total and deterministic' (their statements: YtkjipfblokiodaaTotals.lean).
  GIVEN WITH THE SEED: the statements are not yours to turn. If you find one false, say at which input.
  Laid BY PROGRAM, IN A SANDBOX (cutbox-rows.mjs): the forced cells as the released guide's own fill.sh prints them over the translation e3c1f106934024fb… (all of the seat's roots in one cut). By AI agents, Wed Nov 11 2026. No macro, syntax, notation, axiom, sorry.
-/
import Derived.Test.YtkjipfblokiodaaChecked
import GoSem.Claim
import GoSem.ClaimJoined
import GoSem.ClaimMapViews
import Derived.JoinedTies
import Derived.KernelRfl
namespace Go.Proofs.Ytkjipfblokiodaa
/- THE CELL 'sum', in the pinned program and in every row, IS THE sha256 OF THE DUMP (.gsa) THAT YtkjipfblokiodaaProg.lean LOADS. Nothing in Lean hashes anything: it is a label: what it is worth is what the hold of that sum in a sandbox is worth. -/
noncomputable def Try.pinned : Pinned := { name := "ytkjipfblokiodaa", sum := "e3c1f106934024fb4ba66e77725f99a08040e4ca18f4219a9e34fc3c1ed1767d", checked := Try.checked }
namespace Rows
def none {H : Type} : Left H := { results := [], args := [] }

/-- 'laws.FnMergedGraphs': WHATEVER THE INPUT: true; the input reads as it did. -/
def fnMergedGraphsSpec : ChangeSpec := { name := "fnMergedGraphs", fn := fun _ => fun
  | [d1, d2] => { results := [.lit (.bool true)], args := [d1, d2] }
  | _ => none }
def fnMergedGraphsRow : OpenClaim := { program := "ytkjipfblokiodaa", sum := "e3c1f106934024fb4ba66e77725f99a08040e4ca18f4219a9e34fc3c1ed1767d", func := "loop.example/g01142/laws.FnMergedGraphs", spec := "fnMergedGraphs", unfollowed := true, recurses := true, plainKeys := false, apart := false }
def FnMergedGraphsSaid : Prop := fnMergedGraphsRow.holds Try.pinned (OpenSpec.ofChange fnMergedGraphsSpec)

/-- ITS FALSE NEIGHBOUR: 'it returns false'. Refute it at one input. -/
def fnMergedGraphsWrong : ChangeSpec := { name := "fnMergedGraphs", fn := fun _ => fun
  | [d1, d2] => { results := [.lit (.bool false)], args := [d1, d2] }
  | _ => none }
def FnMergedGraphsWrongFalsely : Prop := fnMergedGraphsRow.holds Try.pinned (OpenSpec.ofChange fnMergedGraphsWrong)

/-- 'laws.FnExactFirstTelling': WHATEVER THE INPUT: true; the input reads as it did. -/
def fnExactFirstTellingSpec : ChangeSpec := { name := "fnExactFirstTelling", fn := fun _ => fun
  | [d1, d2, d3, d4] => { results := [.lit (.bool true)], args := [d1, d2, d3, d4] }
  | _ => none }
def fnExactFirstTellingRow : OpenClaim := { program := "ytkjipfblokiodaa", sum := "e3c1f106934024fb4ba66e77725f99a08040e4ca18f4219a9e34fc3c1ed1767d", func := "loop.example/g01142/laws.FnExactFirstTelling", spec := "fnExactFirstTelling", plainKeys := false, apart := false }
def FnExactFirstTellingSaid : Prop := fnExactFirstTellingRow.holds Try.pinned (OpenSpec.ofChange fnExactFirstTellingSpec)

/-- ITS FALSE NEIGHBOUR: 'it returns false'. Refute it at one input. -/
def fnExactFirstTellingWrong : ChangeSpec := { name := "fnExactFirstTelling", fn := fun _ => fun
  | [d1, d2, d3, d4] => { results := [.lit (.bool false)], args := [d1, d2, d3, d4] }
  | _ => none }
def FnExactFirstTellingWrongFalsely : Prop := fnExactFirstTellingRow.holds Try.pinned (OpenSpec.ofChange fnExactFirstTellingWrong)

/-- 'laws.FnExactMergeGraph': WHATEVER THE INPUT: true; the input reads as it did. -/
def fnExactMergeGraphSpec : ChangeSpec := { name := "fnExactMergeGraph", fn := fun _ => fun
  | [d] => { results := [.lit (.bool true)], args := [d] }
  | _ => none }
def fnExactMergeGraphRow : OpenClaim := { program := "ytkjipfblokiodaa", sum := "e3c1f106934024fb4ba66e77725f99a08040e4ca18f4219a9e34fc3c1ed1767d", func := "loop.example/g01142/laws.FnExactMergeGraph", spec := "fnExactMergeGraph", unfollowed := true, recurses := true, plainKeys := false, apart := false }
def FnExactMergeGraphSaid : Prop := fnExactMergeGraphRow.holds Try.pinned (OpenSpec.ofChange fnExactMergeGraphSpec)

/-- ITS FALSE NEIGHBOUR: 'it returns false'. Refute it at one input. -/
def fnExactMergeGraphWrong : ChangeSpec := { name := "fnExactMergeGraph", fn := fun _ => fun
  | [d] => { results := [.lit (.bool false)], args := [d] }
  | _ => none }
def FnExactMergeGraphWrongFalsely : Prop := fnExactMergeGraphRow.holds Try.pinned (OpenSpec.ofChange fnExactMergeGraphWrong)

/- THE SECOND FORM. 'bulk': how many values and letters a reading holds, each counted each time it is reached (what is shared counts as often as it is met; a slice's spare places count too). A statement '..UptoSaid' is the law's where the arguments, and the package variables that the reading takes, are together of bulk at most 1048576: NARROWER than '..Said'. Prove '..Said' where nothing that the law and all that it calls make is longer than what came in: it says more and counts as full. Else prove '..UptoSaid'. A law counts once. -/
mutual
def uptoBulk {H : Type} : DataW H → Nat
  | .lit (.string bytes) => bytes.length + 1
  | .lit _ => 1
  | .nil => 1
  | .ptr d => uptoBulk d + 1
  | .slice elems spare => uptoBulkAll elems + uptoBulkAll spare + 1
  | .agg parts => uptoBulkAll parts + 1
  | .iface _ d => uptoBulk d + 1
  | .map entries => uptoBulkEntries entries + 1
  | .held _ => 1
def uptoBulkAll {H : Type} : List (DataW H) → Nat
  | [] => 0
  | d :: r => uptoBulk d + uptoBulkAll r
def uptoBulkEntries {H : Type} : List (Lit × DataW H) → Nat
  | [] => 0
  | x :: r => uptoBulkEntry x + uptoBulkEntries r
def uptoBulkEntry {H : Type} : Lit × DataW H → Nat
  | (.string bytes, d) => bytes.length + uptoBulk d + 1
  | (_, d) => uptoBulk d + 1
 end
def uptoSmall : (H : Type) → List (DataW H) → Bool := fun _ ds => decide (uptoBulkAll ds ≤ 1048576)
def OpenSpec.upto (s : _root_.Go.ChangeSpec) : _root_.Go.OpenSpec := { _root_.Go.OpenSpec.ofChange s with cond := some uptoSmall }

/-- 'laws.FnMergedGraphs', WHERE WHAT IT READS IS OF BULK AT MOST 1048576: true; the input reads as it did. -/
def fnMergedGraphsUptoRow : OpenClaim := { program := "ytkjipfblokiodaa", sum := "e3c1f106934024fb4ba66e77725f99a08040e4ca18f4219a9e34fc3c1ed1767d", func := "loop.example/g01142/laws.FnMergedGraphs", spec := "fnMergedGraphs", unfollowed := true, recurses := true, plainKeys := false, apart := false, narrowed := true }
def FnMergedGraphsUptoSaid : Prop := fnMergedGraphsUptoRow.holds Try.pinned (OpenSpec.upto fnMergedGraphsSpec)

/-- 'laws.FnExactFirstTelling', WHERE WHAT IT READS IS OF BULK AT MOST 1048576: true; the input reads as it did. -/
def fnExactFirstTellingUptoRow : OpenClaim := { program := "ytkjipfblokiodaa", sum := "e3c1f106934024fb4ba66e77725f99a08040e4ca18f4219a9e34fc3c1ed1767d", func := "loop.example/g01142/laws.FnExactFirstTelling", spec := "fnExactFirstTelling", plainKeys := false, apart := false, narrowed := true }
def FnExactFirstTellingUptoSaid : Prop := fnExactFirstTellingUptoRow.holds Try.pinned (OpenSpec.upto fnExactFirstTellingSpec)

/-- 'laws.FnExactMergeGraph', WHERE WHAT IT READS IS OF BULK AT MOST 1048576: true; the input reads as it did. -/
def fnExactMergeGraphUptoRow : OpenClaim := { program := "ytkjipfblokiodaa", sum := "e3c1f106934024fb4ba66e77725f99a08040e4ca18f4219a9e34fc3c1ed1767d", func := "loop.example/g01142/laws.FnExactMergeGraph", spec := "fnExactMergeGraph", unfollowed := true, recurses := true, plainKeys := false, apart := false, narrowed := true }
def FnExactMergeGraphUptoSaid : Prop := fnExactMergeGraphUptoRow.holds Try.pinned (OpenSpec.upto fnExactMergeGraphSpec)

end Rows
end Go.Proofs.Ytkjipfblokiodaa
