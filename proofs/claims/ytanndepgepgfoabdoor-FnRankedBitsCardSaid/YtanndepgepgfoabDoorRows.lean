/-
  NARROWER THAN 'FOR EVERY INPUT', by the rows' own cells (each row's printed sentence says how): FnExactIsAllowed: laid · FnExactStateBehind: laid · FnExactRankOfBits: laid · FnKnownGraphs: laid · FnTellingBits: laid · FnRankedBits: laid.
  DERIVED. THE GIVEN ROWS OF THIS SEAT. 6 by the template 'for every input the law returns true; each argument reads behind the call as it read before'; 0 by the template 'total and deterministic' (their statements: YtanndepgepgfoabDoorTotals.lean).
  GIVEN WITH THE SEED: the statements are not yours to turn. If you find one false, say at which input.
  Laid BY PROGRAM, IN A SANDBOX (cutbox-rows.mjs): the forced cells as the released guide's own fill.sh prints them over the translation f8acc61fb827b5e4… (all of the seat's roots in one cut). By AI agents, Wed Nov 11 2026. No macro, syntax, notation, axiom, sorry.
-/
import Derived.Test.YtanndepgepgfoabDoorChecked
import GoSem.PinnedTables
import GoSem.Claim
import GoSem.ClaimJoined
import GoSem.ClaimMapViews
import Derived.JoinedTies
import Derived.KernelRfl
namespace Go.Proofs.YtanndepgepgfoabDoor
/- THE CELL 'sum', in the pinned program and in every row, IS THE sha256 OF THE DUMP (.gsa) THAT YtanndepgepgfoabDoorProg.lean LOADS. Nothing in Lean hashes anything: it is a label: what it is worth is what the hold of that sum in a sandbox is worth. -/
noncomputable def Tryd.pinned : Pinned := { name := "ytanndepgepgfoabdoor", sum := "f8acc61fb827b5e43706d8a56462951334e67415538571ea71ae350eb920c4e9", checked := Tryd.checked }
namespace Rows
def none {H : Type} : Left H := { results := [], args := [] }

/- WHAT THE LISTED PACKAGE-LEVEL VARIABLES READ AS WHEN THE CALL BEGINS. Each datum BY PROGRAM (the guide's laid-datum.mjs) off the statement by which the dump's own 'gosem.cut.vars' lays the variable. In a bare row this is a premise. The card (YtanndepgepgfoabDoorCards.lean) ties it to the program's text. -/
def laid_unicode_utf8_acceptRanges {H : Type} : DataW H := .agg [.agg [.lit (.int .u8 128), .lit (.int .u8 191)], .agg [.lit (.int .u8 160), .lit (.int .u8 191)], .agg [.lit (.int .u8 128), .lit (.int .u8 159)], .agg [.lit (.int .u8 144), .lit (.int .u8 191)], .agg [.lit (.int .u8 128), .lit (.int .u8 143)], .agg [.lit (.int .u8 0), .lit (.int .u8 0)], .agg [.lit (.int .u8 0), .lit (.int .u8 0)], .agg [.lit (.int .u8 0), .lit (.int .u8 0)], .agg [.lit (.int .u8 0), .lit (.int .u8 0)], .agg [.lit (.int .u8 0), .lit (.int .u8 0)], .agg [.lit (.int .u8 0), .lit (.int .u8 0)], .agg [.lit (.int .u8 0), .lit (.int .u8 0)], .agg [.lit (.int .u8 0), .lit (.int .u8 0)], .agg [.lit (.int .u8 0), .lit (.int .u8 0)], .agg [.lit (.int .u8 0), .lit (.int .u8 0)], .agg [.lit (.int .u8 0), .lit (.int .u8 0)]]
/-- One of Go's own tables, pinned by name: the form's constant. -/
def laid_unicode_utf8_first : DataW Unit := Go.Pinned.utf8First

/-- 'laws.FnExactIsAllowed': WHATEVER THE INPUT: true; the input reads as it did. -/
def fnExactIsAllowedSpec : ChangeSpec := { name := "fnExactIsAllowed", fn := fun _ => fun
  | [d1, d2, d3] => { results := [.lit (.bool true)], args := [d1, d2, d3] }
  | _ => none }
def fnExactIsAllowedRow : OpenClaim := { program := "ytanndepgepgfoabdoor", sum := "f8acc61fb827b5e43706d8a56462951334e67415538571ea71ae350eb920c4e9", func := "loop.example/g01142/laws.FnExactIsAllowed", spec := "fnExactIsAllowed", inPlace := ["internal/bytealg.IndexByteString", "internal/bytealg.IndexString"], named := ["unicode/utf8.first", "unicode/utf8.acceptRanges", "internal/bytealg.MaxLen"], plainKeys := false, apart := false, laid := [("unicode/utf8.acceptRanges", laid_unicode_utf8_acceptRanges), ("unicode/utf8.first", laid_unicode_utf8_first)] }
def FnExactIsAllowedSaid : Prop := fnExactIsAllowedRow.holds Tryd.pinned (OpenSpec.ofChange fnExactIsAllowedSpec)

/-- ITS FALSE NEIGHBOUR: 'it returns false'. Refute it at one input. -/
def fnExactIsAllowedWrong : ChangeSpec := { name := "fnExactIsAllowed", fn := fun _ => fun
  | [d1, d2, d3] => { results := [.lit (.bool false)], args := [d1, d2, d3] }
  | _ => none }
def FnExactIsAllowedWrongFalsely : Prop := fnExactIsAllowedRow.holds Tryd.pinned (OpenSpec.ofChange fnExactIsAllowedWrong)

/-- 'laws.FnExactStateBehind': WHATEVER THE INPUT: true; the input reads as it did. -/
def fnExactStateBehindSpec : ChangeSpec := { name := "fnExactStateBehind", fn := fun _ => fun
  | [d1, d2, d3] => { results := [.lit (.bool true)], args := [d1, d2, d3] }
  | _ => none }
def fnExactStateBehindRow : OpenClaim := { program := "ytanndepgepgfoabdoor", sum := "f8acc61fb827b5e43706d8a56462951334e67415538571ea71ae350eb920c4e9", func := "loop.example/g01142/laws.FnExactStateBehind", spec := "fnExactStateBehind", inPlace := ["internal/bytealg.IndexByteString", "internal/bytealg.IndexString"], named := ["unicode/utf8.first", "unicode/utf8.acceptRanges", "internal/bytealg.MaxLen"], plainKeys := false, apart := false, laid := [("unicode/utf8.acceptRanges", laid_unicode_utf8_acceptRanges), ("unicode/utf8.first", laid_unicode_utf8_first)] }
def FnExactStateBehindSaid : Prop := fnExactStateBehindRow.holds Tryd.pinned (OpenSpec.ofChange fnExactStateBehindSpec)

/-- ITS FALSE NEIGHBOUR: 'it returns false'. Refute it at one input. -/
def fnExactStateBehindWrong : ChangeSpec := { name := "fnExactStateBehind", fn := fun _ => fun
  | [d1, d2, d3] => { results := [.lit (.bool false)], args := [d1, d2, d3] }
  | _ => none }
def FnExactStateBehindWrongFalsely : Prop := fnExactStateBehindRow.holds Tryd.pinned (OpenSpec.ofChange fnExactStateBehindWrong)

/-- 'laws.FnExactRankOfBits': WHATEVER THE INPUT: true; the input reads as it did. -/
def fnExactRankOfBitsSpec : ChangeSpec := { name := "fnExactRankOfBits", fn := fun _ => fun
  | [d1, d2, d3] => { results := [.lit (.bool true)], args := [d1, d2, d3] }
  | _ => none }
def fnExactRankOfBitsRow : OpenClaim := { program := "ytanndepgepgfoabdoor", sum := "f8acc61fb827b5e43706d8a56462951334e67415538571ea71ae350eb920c4e9", func := "loop.example/g01142/laws.FnExactRankOfBits", spec := "fnExactRankOfBits", inPlace := ["internal/bytealg.IndexByteString", "internal/bytealg.IndexString"], named := ["unicode/utf8.first", "unicode/utf8.acceptRanges", "internal/bytealg.MaxLen"], plainKeys := false, apart := false, laid := [("unicode/utf8.acceptRanges", laid_unicode_utf8_acceptRanges), ("unicode/utf8.first", laid_unicode_utf8_first)] }
def FnExactRankOfBitsSaid : Prop := fnExactRankOfBitsRow.holds Tryd.pinned (OpenSpec.ofChange fnExactRankOfBitsSpec)

/-- ITS FALSE NEIGHBOUR: 'it returns false'. Refute it at one input. -/
def fnExactRankOfBitsWrong : ChangeSpec := { name := "fnExactRankOfBits", fn := fun _ => fun
  | [d1, d2, d3] => { results := [.lit (.bool false)], args := [d1, d2, d3] }
  | _ => none }
def FnExactRankOfBitsWrongFalsely : Prop := fnExactRankOfBitsRow.holds Tryd.pinned (OpenSpec.ofChange fnExactRankOfBitsWrong)

/-- 'laws.FnKnownGraphs': WHATEVER THE INPUT: true; the input reads as it did. -/
def fnKnownGraphsSpec : ChangeSpec := { name := "fnKnownGraphs", fn := fun _ => fun
  | [d1, d2] => { results := [.lit (.bool true)], args := [d1, d2] }
  | _ => none }
def fnKnownGraphsRow : OpenClaim := { program := "ytanndepgepgfoabdoor", sum := "f8acc61fb827b5e43706d8a56462951334e67415538571ea71ae350eb920c4e9", func := "loop.example/g01142/laws.FnKnownGraphs", spec := "fnKnownGraphs", inPlace := ["internal/bytealg.IndexByteString", "internal/bytealg.IndexString"], named := ["unicode/utf8.first", "unicode/utf8.acceptRanges", "internal/bytealg.MaxLen"], plainKeys := false, apart := false, laid := [("unicode/utf8.acceptRanges", laid_unicode_utf8_acceptRanges), ("unicode/utf8.first", laid_unicode_utf8_first)] }
def FnKnownGraphsSaid : Prop := fnKnownGraphsRow.holds Tryd.pinned (OpenSpec.ofChange fnKnownGraphsSpec)

/-- ITS FALSE NEIGHBOUR: 'it returns false'. Refute it at one input. -/
def fnKnownGraphsWrong : ChangeSpec := { name := "fnKnownGraphs", fn := fun _ => fun
  | [d1, d2] => { results := [.lit (.bool false)], args := [d1, d2] }
  | _ => none }
def FnKnownGraphsWrongFalsely : Prop := fnKnownGraphsRow.holds Tryd.pinned (OpenSpec.ofChange fnKnownGraphsWrong)

/-- 'laws.FnTellingBits': WHATEVER THE INPUT: true; the input reads as it did. -/
def fnTellingBitsSpec : ChangeSpec := { name := "fnTellingBits", fn := fun _ => fun
  | [d1, d2] => { results := [.lit (.bool true)], args := [d1, d2] }
  | _ => none }
def fnTellingBitsRow : OpenClaim := { program := "ytanndepgepgfoabdoor", sum := "f8acc61fb827b5e43706d8a56462951334e67415538571ea71ae350eb920c4e9", func := "loop.example/g01142/laws.FnTellingBits", spec := "fnTellingBits", inPlace := ["internal/bytealg.IndexByteString", "internal/bytealg.IndexString"], named := ["unicode/utf8.first", "unicode/utf8.acceptRanges", "internal/bytealg.MaxLen"], plainKeys := false, apart := false, laid := [("unicode/utf8.acceptRanges", laid_unicode_utf8_acceptRanges), ("unicode/utf8.first", laid_unicode_utf8_first)] }
def FnTellingBitsSaid : Prop := fnTellingBitsRow.holds Tryd.pinned (OpenSpec.ofChange fnTellingBitsSpec)

/-- ITS FALSE NEIGHBOUR: 'it returns false'. Refute it at one input. -/
def fnTellingBitsWrong : ChangeSpec := { name := "fnTellingBits", fn := fun _ => fun
  | [d1, d2] => { results := [.lit (.bool false)], args := [d1, d2] }
  | _ => none }
def FnTellingBitsWrongFalsely : Prop := fnTellingBitsRow.holds Tryd.pinned (OpenSpec.ofChange fnTellingBitsWrong)

/-- 'laws.FnRankedBits': WHATEVER THE INPUT: true; the input reads as it did. -/
def fnRankedBitsSpec : ChangeSpec := { name := "fnRankedBits", fn := fun _ => fun
  | [d1, d2] => { results := [.lit (.bool true)], args := [d1, d2] }
  | _ => none }
def fnRankedBitsRow : OpenClaim := { program := "ytanndepgepgfoabdoor", sum := "f8acc61fb827b5e43706d8a56462951334e67415538571ea71ae350eb920c4e9", func := "loop.example/g01142/laws.FnRankedBits", spec := "fnRankedBits", inPlace := ["internal/bytealg.IndexByteString", "internal/bytealg.IndexString"], named := ["unicode/utf8.first", "unicode/utf8.acceptRanges", "internal/bytealg.MaxLen"], plainKeys := false, apart := false, laid := [("unicode/utf8.acceptRanges", laid_unicode_utf8_acceptRanges), ("unicode/utf8.first", laid_unicode_utf8_first)] }
def FnRankedBitsSaid : Prop := fnRankedBitsRow.holds Tryd.pinned (OpenSpec.ofChange fnRankedBitsSpec)

/-- ITS FALSE NEIGHBOUR: 'it returns false'. Refute it at one input. -/
def fnRankedBitsWrong : ChangeSpec := { name := "fnRankedBits", fn := fun _ => fun
  | [d1, d2] => { results := [.lit (.bool false)], args := [d1, d2] }
  | _ => none }
def FnRankedBitsWrongFalsely : Prop := fnRankedBitsRow.holds Tryd.pinned (OpenSpec.ofChange fnRankedBitsWrong)

/- THE SECOND FORM. 'bulk': how many values and letters a reading holds, each counted each time it is reached (what is shared counts as often as it is met; a slice's spare places count too). A statement '..UptoSaid' is the law's where the arguments, and the package variables that the reading takes, are together of bulk at most 1048576: NARROWER than '..Said'. Prove '..Said' where nothing that the law and all that it calls make is longer than what came in: it says more and counts as full. Else prove '..UptoSaid'. A law counts once. -/
mutual
def uptoBulk {H : Type} : DataW H → Nat
  | .lit (.string bytes) => bytes.length + 1
  | .lit _ => 1
  | .nil => 1
  | .ptr d => uptoBulk d + 1
  | .slice elems spare => uptoBulkAll elems + uptoBulkAll spare + 1
  | .agg parts => uptoBulkAll parts + 1
  | .iface _ d => uptoBulk d + 1
  | .map entries => uptoBulkEntries entries + 1
  | .held _ => 1
def uptoBulkAll {H : Type} : List (DataW H) → Nat
  | [] => 0
  | d :: r => uptoBulk d + uptoBulkAll r
def uptoBulkEntries {H : Type} : List (Lit × DataW H) → Nat
  | [] => 0
  | x :: r => uptoBulkEntry x + uptoBulkEntries r
def uptoBulkEntry {H : Type} : Lit × DataW H → Nat
  | (.string bytes, d) => bytes.length + uptoBulk d + 1
  | (_, d) => uptoBulk d + 1
 end
def uptoSmall : (H : Type) → List (DataW H) → Bool := fun _ ds => decide (uptoBulkAll ds ≤ 1048576)
def OpenSpec.upto (s : _root_.Go.ChangeSpec) : _root_.Go.OpenSpec := { _root_.Go.OpenSpec.ofChange s with cond := some uptoSmall }

/-- 'laws.FnExactIsAllowed', WHERE WHAT IT READS IS OF BULK AT MOST 1048576: true; the input reads as it did. -/
def fnExactIsAllowedUptoRow : OpenClaim := { program := "ytanndepgepgfoabdoor", sum := "f8acc61fb827b5e43706d8a56462951334e67415538571ea71ae350eb920c4e9", func := "loop.example/g01142/laws.FnExactIsAllowed", spec := "fnExactIsAllowed", inPlace := ["internal/bytealg.IndexByteString", "internal/bytealg.IndexString"], named := ["unicode/utf8.first", "unicode/utf8.acceptRanges", "internal/bytealg.MaxLen"], plainKeys := false, apart := false, laid := [("unicode/utf8.acceptRanges", laid_unicode_utf8_acceptRanges), ("unicode/utf8.first", laid_unicode_utf8_first)], narrowed := true }
def FnExactIsAllowedUptoSaid : Prop := fnExactIsAllowedUptoRow.holds Tryd.pinned (OpenSpec.upto fnExactIsAllowedSpec)

/-- 'laws.FnExactStateBehind', WHERE WHAT IT READS IS OF BULK AT MOST 1048576: true; the input reads as it did. -/
def fnExactStateBehindUptoRow : OpenClaim := { program := "ytanndepgepgfoabdoor", sum := "f8acc61fb827b5e43706d8a56462951334e67415538571ea71ae350eb920c4e9", func := "loop.example/g01142/laws.FnExactStateBehind", spec := "fnExactStateBehind", inPlace := ["internal/bytealg.IndexByteString", "internal/bytealg.IndexString"], named := ["unicode/utf8.first", "unicode/utf8.acceptRanges", "internal/bytealg.MaxLen"], plainKeys := false, apart := false, laid := [("unicode/utf8.acceptRanges", laid_unicode_utf8_acceptRanges), ("unicode/utf8.first", laid_unicode_utf8_first)], narrowed := true }
def FnExactStateBehindUptoSaid : Prop := fnExactStateBehindUptoRow.holds Tryd.pinned (OpenSpec.upto fnExactStateBehindSpec)

/-- 'laws.FnExactRankOfBits', WHERE WHAT IT READS IS OF BULK AT MOST 1048576: true; the input reads as it did. -/
def fnExactRankOfBitsUptoRow : OpenClaim := { program := "ytanndepgepgfoabdoor", sum := "f8acc61fb827b5e43706d8a56462951334e67415538571ea71ae350eb920c4e9", func := "loop.example/g01142/laws.FnExactRankOfBits", spec := "fnExactRankOfBits", inPlace := ["internal/bytealg.IndexByteString", "internal/bytealg.IndexString"], named := ["unicode/utf8.first", "unicode/utf8.acceptRanges", "internal/bytealg.MaxLen"], plainKeys := false, apart := false, laid := [("unicode/utf8.acceptRanges", laid_unicode_utf8_acceptRanges), ("unicode/utf8.first", laid_unicode_utf8_first)], narrowed := true }
def FnExactRankOfBitsUptoSaid : Prop := fnExactRankOfBitsUptoRow.holds Tryd.pinned (OpenSpec.upto fnExactRankOfBitsSpec)

/-- 'laws.FnKnownGraphs', WHERE WHAT IT READS IS OF BULK AT MOST 1048576: true; the input reads as it did. -/
def fnKnownGraphsUptoRow : OpenClaim := { program := "ytanndepgepgfoabdoor", sum := "f8acc61fb827b5e43706d8a56462951334e67415538571ea71ae350eb920c4e9", func := "loop.example/g01142/laws.FnKnownGraphs", spec := "fnKnownGraphs", inPlace := ["internal/bytealg.IndexByteString", "internal/bytealg.IndexString"], named := ["unicode/utf8.first", "unicode/utf8.acceptRanges", "internal/bytealg.MaxLen"], plainKeys := false, apart := false, laid := [("unicode/utf8.acceptRanges", laid_unicode_utf8_acceptRanges), ("unicode/utf8.first", laid_unicode_utf8_first)], narrowed := true }
def FnKnownGraphsUptoSaid : Prop := fnKnownGraphsUptoRow.holds Tryd.pinned (OpenSpec.upto fnKnownGraphsSpec)

/-- 'laws.FnTellingBits', WHERE WHAT IT READS IS OF BULK AT MOST 1048576: true; the input reads as it did. -/
def fnTellingBitsUptoRow : OpenClaim := { program := "ytanndepgepgfoabdoor", sum := "f8acc61fb827b5e43706d8a56462951334e67415538571ea71ae350eb920c4e9", func := "loop.example/g01142/laws.FnTellingBits", spec := "fnTellingBits", inPlace := ["internal/bytealg.IndexByteString", "internal/bytealg.IndexString"], named := ["unicode/utf8.first", "unicode/utf8.acceptRanges", "internal/bytealg.MaxLen"], plainKeys := false, apart := false, laid := [("unicode/utf8.acceptRanges", laid_unicode_utf8_acceptRanges), ("unicode/utf8.first", laid_unicode_utf8_first)], narrowed := true }
def FnTellingBitsUptoSaid : Prop := fnTellingBitsUptoRow.holds Tryd.pinned (OpenSpec.upto fnTellingBitsSpec)

/-- 'laws.FnRankedBits', WHERE WHAT IT READS IS OF BULK AT MOST 1048576: true; the input reads as it did. -/
def fnRankedBitsUptoRow : OpenClaim := { program := "ytanndepgepgfoabdoor", sum := "f8acc61fb827b5e43706d8a56462951334e67415538571ea71ae350eb920c4e9", func := "loop.example/g01142/laws.FnRankedBits", spec := "fnRankedBits", inPlace := ["internal/bytealg.IndexByteString", "internal/bytealg.IndexString"], named := ["unicode/utf8.first", "unicode/utf8.acceptRanges", "internal/bytealg.MaxLen"], plainKeys := false, apart := false, laid := [("unicode/utf8.acceptRanges", laid_unicode_utf8_acceptRanges), ("unicode/utf8.first", laid_unicode_utf8_first)], narrowed := true }
def FnRankedBitsUptoSaid : Prop := fnRankedBitsUptoRow.holds Tryd.pinned (OpenSpec.upto fnRankedBitsSpec)

end Rows
end Go.Proofs.YtanndepgepgfoabDoor
