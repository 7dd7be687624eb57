/-
  No cell of these rows narrows 'for every input' (looked for: loops, veiled, ifaces, maps, wideKeys, modest, calm, conditions, laid).
  DERIVED. THE GIVEN ROWS OF THIS SEAT. 3 by the template 'for every input the law returns true; each argument reads behind the call as it read before'; 0 by the template 'total and deterministic' (their statements: YtanndepgepgfoabTotals.lean).
  GIVEN WITH THE SEED: the statements are not yours to turn. If you find one false, say at which input.
  Laid BY PROGRAM, IN A SANDBOX (cutbox-rows.mjs): the forced cells as the released guide's own fill.sh prints them over the translation 45eb76153ce1507f… (all of the seat's roots in one cut). By AI agents, Wed Nov 11 2026. No macro, syntax, notation, axiom, sorry.
-/
import Derived.Test.YtanndepgepgfoabChecked
import GoSem.Claim
import GoSem.ClaimJoined
import GoSem.ClaimMapViews
import Derived.JoinedTies
import Derived.KernelRfl
namespace Go.Proofs.Ytanndepgepgfoab
/- THE CELL 'sum', in the pinned program and in every row, IS THE sha256 OF THE DUMP (.gsa) THAT YtanndepgepgfoabProg.lean LOADS. Nothing in Lean hashes anything: it is a label: what it is worth is what the hold of that sum in a sandbox is worth. -/
noncomputable def Try.pinned : Pinned := { name := "ytanndepgepgfoab", sum := "45eb76153ce1507faf21b260a227878b04fdf73bdd220f24e3a1230c341e20f9", checked := Try.checked }
namespace Rows
def none {H : Type} : Left H := { results := [], args := [] }

/-- 'laws.FnExactCodeVector': WHATEVER THE INPUT: true; the input reads as it did. -/
def fnExactCodeVectorSpec : ChangeSpec := { name := "fnExactCodeVector", fn := fun _ => fun
  | [d1, d2, d3, d4] => { results := [.lit (.bool true)], args := [d1, d2, d3, d4] }
  | _ => none }
def fnExactCodeVectorRow : OpenClaim := { program := "ytanndepgepgfoab", sum := "45eb76153ce1507faf21b260a227878b04fdf73bdd220f24e3a1230c341e20f9", func := "loop.example/g01142/laws.FnExactCodeVector", spec := "fnExactCodeVector", plainKeys := false, apart := false }
def FnExactCodeVectorSaid : Prop := fnExactCodeVectorRow.holds Try.pinned (OpenSpec.ofChange fnExactCodeVectorSpec)

/-- ITS FALSE NEIGHBOUR: 'it returns false'. Refute it at one input. -/
def fnExactCodeVectorWrong : ChangeSpec := { name := "fnExactCodeVector", fn := fun _ => fun
  | [d1, d2, d3, d4] => { results := [.lit (.bool false)], args := [d1, d2, d3, d4] }
  | _ => none }
def FnExactCodeVectorWrongFalsely : Prop := fnExactCodeVectorRow.holds Try.pinned (OpenSpec.ofChange fnExactCodeVectorWrong)

/-- 'laws.FnMergedGraphs': WHATEVER THE INPUT: true; the input reads as it did. -/
def fnMergedGraphsSpec : ChangeSpec := { name := "fnMergedGraphs", fn := fun _ => fun
  | [d1, d2] => { results := [.lit (.bool true)], args := [d1, d2] }
  | _ => none }
def fnMergedGraphsRow : OpenClaim := { program := "ytanndepgepgfoab", sum := "45eb76153ce1507faf21b260a227878b04fdf73bdd220f24e3a1230c341e20f9", func := "loop.example/g01142/laws.FnMergedGraphs", spec := "fnMergedGraphs", unfollowed := true, recurses := true, plainKeys := false, apart := false }
def FnMergedGraphsSaid : Prop := fnMergedGraphsRow.holds Try.pinned (OpenSpec.ofChange fnMergedGraphsSpec)

/-- ITS FALSE NEIGHBOUR: 'it returns false'. Refute it at one input. -/
def fnMergedGraphsWrong : ChangeSpec := { name := "fnMergedGraphs", fn := fun _ => fun
  | [d1, d2] => { results := [.lit (.bool false)], args := [d1, d2] }
  | _ => none }
def FnMergedGraphsWrongFalsely : Prop := fnMergedGraphsRow.holds Try.pinned (OpenSpec.ofChange fnMergedGraphsWrong)

/-- 'laws.FnCodeVectors': WHATEVER THE INPUT: true; the input reads as it did. -/
def fnCodeVectorsSpec : ChangeSpec := { name := "fnCodeVectors", fn := fun _ => fun
  | [d1, d2] => { results := [.lit (.bool true)], args := [d1, d2] }
  | _ => none }
def fnCodeVectorsRow : OpenClaim := { program := "ytanndepgepgfoab", sum := "45eb76153ce1507faf21b260a227878b04fdf73bdd220f24e3a1230c341e20f9", func := "loop.example/g01142/laws.FnCodeVectors", spec := "fnCodeVectors", plainKeys := false, apart := false }
def FnCodeVectorsSaid : Prop := fnCodeVectorsRow.holds Try.pinned (OpenSpec.ofChange fnCodeVectorsSpec)

/-- ITS FALSE NEIGHBOUR: 'it returns false'. Refute it at one input. -/
def fnCodeVectorsWrong : ChangeSpec := { name := "fnCodeVectors", fn := fun _ => fun
  | [d1, d2] => { results := [.lit (.bool false)], args := [d1, d2] }
  | _ => none }
def FnCodeVectorsWrongFalsely : Prop := fnCodeVectorsRow.holds Try.pinned (OpenSpec.ofChange fnCodeVectorsWrong)

/- THE SECOND FORM. 'bulk': how many values and letters a reading holds, each counted each time it is reached (what is shared counts as often as it is met; a slice's spare places count too). A statement '..UptoSaid' is the law's where the arguments, and the package variables that the reading takes, are together of bulk at most 1048576: NARROWER than '..Said'. Prove '..Said' where nothing that the law and all that it calls make is longer than what came in: it says more and counts as full. Else prove '..UptoSaid'. A law counts once. -/
mutual
def uptoBulk {H : Type} : DataW H → Nat
  | .lit (.string bytes) => bytes.length + 1
  | .lit _ => 1
  | .nil => 1
  | .ptr d => uptoBulk d + 1
  | .slice elems spare => uptoBulkAll elems + uptoBulkAll spare + 1
  | .agg parts => uptoBulkAll parts + 1
  | .iface _ d => uptoBulk d + 1
  | .map entries => uptoBulkEntries entries + 1
  | .held _ => 1
def uptoBulkAll {H : Type} : List (DataW H) → Nat
  | [] => 0
  | d :: r => uptoBulk d + uptoBulkAll r
def uptoBulkEntries {H : Type} : List (Lit × DataW H) → Nat
  | [] => 0
  | x :: r => uptoBulkEntry x + uptoBulkEntries r
def uptoBulkEntry {H : Type} : Lit × DataW H → Nat
  | (.string bytes, d) => bytes.length + uptoBulk d + 1
  | (_, d) => uptoBulk d + 1
 end
def uptoSmall : (H : Type) → List (DataW H) → Bool := fun _ ds => decide (uptoBulkAll ds ≤ 1048576)
def OpenSpec.upto (s : _root_.Go.ChangeSpec) : _root_.Go.OpenSpec := { _root_.Go.OpenSpec.ofChange s with cond := some uptoSmall }

/-- 'laws.FnExactCodeVector', WHERE WHAT IT READS IS OF BULK AT MOST 1048576: true; the input reads as it did. -/
def fnExactCodeVectorUptoRow : OpenClaim := { program := "ytanndepgepgfoab", sum := "45eb76153ce1507faf21b260a227878b04fdf73bdd220f24e3a1230c341e20f9", func := "loop.example/g01142/laws.FnExactCodeVector", spec := "fnExactCodeVector", plainKeys := false, apart := false, narrowed := true }
def FnExactCodeVectorUptoSaid : Prop := fnExactCodeVectorUptoRow.holds Try.pinned (OpenSpec.upto fnExactCodeVectorSpec)

/-- 'laws.FnMergedGraphs', WHERE WHAT IT READS IS OF BULK AT MOST 1048576: true; the input reads as it did. -/
def fnMergedGraphsUptoRow : OpenClaim := { program := "ytanndepgepgfoab", sum := "45eb76153ce1507faf21b260a227878b04fdf73bdd220f24e3a1230c341e20f9", func := "loop.example/g01142/laws.FnMergedGraphs", spec := "fnMergedGraphs", unfollowed := true, recurses := true, plainKeys := false, apart := false, narrowed := true }
def FnMergedGraphsUptoSaid : Prop := fnMergedGraphsUptoRow.holds Try.pinned (OpenSpec.upto fnMergedGraphsSpec)

/-- 'laws.FnCodeVectors', WHERE WHAT IT READS IS OF BULK AT MOST 1048576: true; the input reads as it did. -/
def fnCodeVectorsUptoRow : OpenClaim := { program := "ytanndepgepgfoab", sum := "45eb76153ce1507faf21b260a227878b04fdf73bdd220f24e3a1230c341e20f9", func := "loop.example/g01142/laws.FnCodeVectors", spec := "fnCodeVectors", plainKeys := false, apart := false, narrowed := true }
def FnCodeVectorsUptoSaid : Prop := fnCodeVectorsUptoRow.holds Try.pinned (OpenSpec.upto fnCodeVectorsSpec)

end Rows
end Go.Proofs.Ytanndepgepgfoab
