/-
  NARROWER THAN 'FOR EVERY INPUT', by the rows' own cells (each row's printed sentence says how): FnExactDisparityOf: laid · FnExactValidBlockCode: laid · FnExactSumRange: laid · FnExactIsComma: laid · FnExactEncodeBlocks: laid · FnExactDecodeBlocks: laid · FnExactRunBound: laid · FnExactCommasOf: laid · FnExactFlipEffect: laid.
  DERIVED. THE GIVEN ROWS OF THIS SEAT. 9 by the template 'for every input the law returns true; each argument reads behind the call as it read before'; 0 by the template 'total and deterministic' (their statements: YtegeaoiclepkkaaDoorTotals.lean).
  GIVEN WITH THE SEED: the statements are not yours to turn. If you find one false, say at which input.
  Laid BY PROGRAM, IN A SANDBOX (cutbox-rows.mjs): the forced cells as the released guide's own fill.sh prints them over the translation 5b94c0ee4574914e… (all of the seat's roots in one cut). By AI agents, Wed Nov 11 2026. No macro, syntax, notation, axiom, sorry.
-/
import Derived.Test.YtegeaoiclepkkaaDoorChecked
import GoSem.PinnedTables
import GoSem.Claim
import GoSem.ClaimJoined
import GoSem.ClaimMapViews
import Derived.JoinedTies
import Derived.KernelRfl
namespace Go.Proofs.YtegeaoiclepkkaaDoor
/- THE CELL 'sum', in the pinned program and in every row, IS THE sha256 OF THE DUMP (.gsa) THAT YtegeaoiclepkkaaDoorProg.lean LOADS. Nothing in Lean hashes anything: it is a label: what it is worth is what the hold of that sum in a sandbox is worth. -/
noncomputable def Tryd.pinned : Pinned := { name := "ytegeaoiclepkkaadoor", sum := "5b94c0ee4574914e6fa71a329e59a26f781767d8d32028ed0716ef6e71eb4fe2", checked := Tryd.checked }
namespace Rows
def none {H : Type} : Left H := { results := [], args := [] }

/- WHAT THE LISTED PACKAGE-LEVEL VARIABLES READ AS WHEN THE CALL BEGINS. Each datum BY PROGRAM (the guide's laid-datum.mjs) off the statement by which the dump's own 'gosem.cut.vars' lays the variable. In a bare row this is a premise. The card (YtegeaoiclepkkaaDoorCards.lean) ties it to the program's text. -/
def laid_unicode_utf8_acceptRanges {H : Type} : DataW H := .agg [.agg [.lit (.int .u8 128), .lit (.int .u8 191)], .agg [.lit (.int .u8 160), .lit (.int .u8 191)], .agg [.lit (.int .u8 128), .lit (.int .u8 159)], .agg [.lit (.int .u8 144), .lit (.int .u8 191)], .agg [.lit (.int .u8 128), .lit (.int .u8 143)], .agg [.lit (.int .u8 0), .lit (.int .u8 0)], .agg [.lit (.int .u8 0), .lit (.int .u8 0)], .agg [.lit (.int .u8 0), .lit (.int .u8 0)], .agg [.lit (.int .u8 0), .lit (.int .u8 0)], .agg [.lit (.int .u8 0), .lit (.int .u8 0)], .agg [.lit (.int .u8 0), .lit (.int .u8 0)], .agg [.lit (.int .u8 0), .lit (.int .u8 0)], .agg [.lit (.int .u8 0), .lit (.int .u8 0)], .agg [.lit (.int .u8 0), .lit (.int .u8 0)], .agg [.lit (.int .u8 0), .lit (.int .u8 0)], .agg [.lit (.int .u8 0), .lit (.int .u8 0)]]
/-- One of Go's own tables, pinned by name: the form's constant. -/
def laid_unicode_utf8_first : DataW Unit := Go.Pinned.utf8First

/-- 'laws.FnExactDisparityOf': WHATEVER THE INPUT: true; the input reads as it did. -/
def fnExactDisparityOfSpec : ChangeSpec := { name := "fnExactDisparityOf", fn := fun _ => fun
  | [d] => { results := [.lit (.bool true)], args := [d] }
  | _ => none }
def fnExactDisparityOfRow : OpenClaim := { program := "ytegeaoiclepkkaadoor", sum := "5b94c0ee4574914e6fa71a329e59a26f781767d8d32028ed0716ef6e71eb4fe2", func := "loop.example/g01142/laws.FnExactDisparityOf", spec := "fnExactDisparityOf", inPlace := ["internal/bytealg.IndexByteString", "internal/bytealg.IndexString", "internal/bytealg.CountString"], named := ["unicode/utf8.first", "unicode/utf8.acceptRanges", "internal/bytealg.MaxLen"], plainKeys := false, apart := false, laid := [("unicode/utf8.acceptRanges", laid_unicode_utf8_acceptRanges), ("unicode/utf8.first", laid_unicode_utf8_first)] }
def FnExactDisparityOfSaid : Prop := fnExactDisparityOfRow.holds Tryd.pinned (OpenSpec.ofChange fnExactDisparityOfSpec)

/-- ITS FALSE NEIGHBOUR: 'it returns false'. Refute it at one input. -/
def fnExactDisparityOfWrong : ChangeSpec := { name := "fnExactDisparityOf", fn := fun _ => fun
  | [d] => { results := [.lit (.bool false)], args := [d] }
  | _ => none }
def FnExactDisparityOfWrongFalsely : Prop := fnExactDisparityOfRow.holds Tryd.pinned (OpenSpec.ofChange fnExactDisparityOfWrong)

/-- 'laws.FnExactValidBlockCode': WHATEVER THE INPUT: true; the input reads as it did. -/
def fnExactValidBlockCodeSpec : ChangeSpec := { name := "fnExactValidBlockCode", fn := fun _ => fun
  | [d] => { results := [.lit (.bool true)], args := [d] }
  | _ => none }
def fnExactValidBlockCodeRow : OpenClaim := { program := "ytegeaoiclepkkaadoor", sum := "5b94c0ee4574914e6fa71a329e59a26f781767d8d32028ed0716ef6e71eb4fe2", func := "loop.example/g01142/laws.FnExactValidBlockCode", spec := "fnExactValidBlockCode", inPlace := ["internal/bytealg.CountString", "internal/bytealg.IndexByteString", "internal/bytealg.IndexString"], named := ["internal/bytealg.MaxLen", "unicode/utf8.first", "unicode/utf8.acceptRanges"], plainKeys := false, apart := false, laid := [("unicode/utf8.acceptRanges", laid_unicode_utf8_acceptRanges), ("unicode/utf8.first", laid_unicode_utf8_first)] }
def FnExactValidBlockCodeSaid : Prop := fnExactValidBlockCodeRow.holds Tryd.pinned (OpenSpec.ofChange fnExactValidBlockCodeSpec)

/-- ITS FALSE NEIGHBOUR: 'it returns false'. Refute it at one input. -/
def fnExactValidBlockCodeWrong : ChangeSpec := { name := "fnExactValidBlockCode", fn := fun _ => fun
  | [d] => { results := [.lit (.bool false)], args := [d] }
  | _ => none }
def FnExactValidBlockCodeWrongFalsely : Prop := fnExactValidBlockCodeRow.holds Tryd.pinned (OpenSpec.ofChange fnExactValidBlockCodeWrong)

/-- 'laws.FnExactSumRange': WHATEVER THE INPUT: true; the input reads as it did. -/
def fnExactSumRangeSpec : ChangeSpec := { name := "fnExactSumRange", fn := fun _ => fun
  | [d] => { results := [.lit (.bool true)], args := [d] }
  | _ => none }
def fnExactSumRangeRow : OpenClaim := { program := "ytegeaoiclepkkaadoor", sum := "5b94c0ee4574914e6fa71a329e59a26f781767d8d32028ed0716ef6e71eb4fe2", func := "loop.example/g01142/laws.FnExactSumRange", spec := "fnExactSumRange", inPlace := ["internal/bytealg.CountString", "internal/bytealg.IndexByteString", "internal/bytealg.IndexString"], named := ["internal/bytealg.MaxLen", "unicode/utf8.first", "unicode/utf8.acceptRanges"], plainKeys := false, apart := false, laid := [("unicode/utf8.acceptRanges", laid_unicode_utf8_acceptRanges), ("unicode/utf8.first", laid_unicode_utf8_first)] }
def FnExactSumRangeSaid : Prop := fnExactSumRangeRow.holds Tryd.pinned (OpenSpec.ofChange fnExactSumRangeSpec)

/-- ITS FALSE NEIGHBOUR: 'it returns false'. Refute it at one input. -/
def fnExactSumRangeWrong : ChangeSpec := { name := "fnExactSumRange", fn := fun _ => fun
  | [d] => { results := [.lit (.bool false)], args := [d] }
  | _ => none }
def FnExactSumRangeWrongFalsely : Prop := fnExactSumRangeRow.holds Tryd.pinned (OpenSpec.ofChange fnExactSumRangeWrong)

/-- 'laws.FnExactIsComma': WHATEVER THE INPUT: true; the input reads as it did. -/
def fnExactIsCommaSpec : ChangeSpec := { name := "fnExactIsComma", fn := fun _ => fun
  | [d1, d2] => { results := [.lit (.bool true)], args := [d1, d2] }
  | _ => none }
def fnExactIsCommaRow : OpenClaim := { program := "ytegeaoiclepkkaadoor", sum := "5b94c0ee4574914e6fa71a329e59a26f781767d8d32028ed0716ef6e71eb4fe2", func := "loop.example/g01142/laws.FnExactIsComma", spec := "fnExactIsComma", inPlace := ["internal/bytealg.CountString", "internal/bytealg.IndexByteString", "internal/bytealg.IndexString"], named := ["internal/bytealg.MaxLen", "unicode/utf8.first", "unicode/utf8.acceptRanges"], plainKeys := false, apart := false, laid := [("unicode/utf8.acceptRanges", laid_unicode_utf8_acceptRanges), ("unicode/utf8.first", laid_unicode_utf8_first)] }
def FnExactIsCommaSaid : Prop := fnExactIsCommaRow.holds Tryd.pinned (OpenSpec.ofChange fnExactIsCommaSpec)

/-- ITS FALSE NEIGHBOUR: 'it returns false'. Refute it at one input. -/
def fnExactIsCommaWrong : ChangeSpec := { name := "fnExactIsComma", fn := fun _ => fun
  | [d1, d2] => { results := [.lit (.bool false)], args := [d1, d2] }
  | _ => none }
def FnExactIsCommaWrongFalsely : Prop := fnExactIsCommaRow.holds Tryd.pinned (OpenSpec.ofChange fnExactIsCommaWrong)

/-- 'laws.FnExactEncodeBlocks': WHATEVER THE INPUT: true; the input reads as it did. -/
def fnExactEncodeBlocksSpec : ChangeSpec := { name := "fnExactEncodeBlocks", fn := fun _ => fun
  | [d1, d2, d3] => { results := [.lit (.bool true)], args := [d1, d2, d3] }
  | _ => none }
def fnExactEncodeBlocksRow : OpenClaim := { program := "ytegeaoiclepkkaadoor", sum := "5b94c0ee4574914e6fa71a329e59a26f781767d8d32028ed0716ef6e71eb4fe2", func := "loop.example/g01142/laws.FnExactEncodeBlocks", spec := "fnExactEncodeBlocks", inPlace := ["internal/bytealg.CountString", "internal/bytealg.IndexByteString", "internal/bytealg.IndexString"], named := ["internal/bytealg.MaxLen", "unicode/utf8.first", "unicode/utf8.acceptRanges"], plainKeys := false, apart := false, laid := [("unicode/utf8.acceptRanges", laid_unicode_utf8_acceptRanges), ("unicode/utf8.first", laid_unicode_utf8_first)] }
def FnExactEncodeBlocksSaid : Prop := fnExactEncodeBlocksRow.holds Tryd.pinned (OpenSpec.ofChange fnExactEncodeBlocksSpec)

/-- ITS FALSE NEIGHBOUR: 'it returns false'. Refute it at one input. -/
def fnExactEncodeBlocksWrong : ChangeSpec := { name := "fnExactEncodeBlocks", fn := fun _ => fun
  | [d1, d2, d3] => { results := [.lit (.bool false)], args := [d1, d2, d3] }
  | _ => none }
def FnExactEncodeBlocksWrongFalsely : Prop := fnExactEncodeBlocksRow.holds Tryd.pinned (OpenSpec.ofChange fnExactEncodeBlocksWrong)

/-- 'laws.FnExactDecodeBlocks': WHATEVER THE INPUT: true; the input reads as it did. -/
def fnExactDecodeBlocksSpec : ChangeSpec := { name := "fnExactDecodeBlocks", fn := fun _ => fun
  | [d1, d2, d3] => { results := [.lit (.bool true)], args := [d1, d2, d3] }
  | _ => none }
def fnExactDecodeBlocksRow : OpenClaim := { program := "ytegeaoiclepkkaadoor", sum := "5b94c0ee4574914e6fa71a329e59a26f781767d8d32028ed0716ef6e71eb4fe2", func := "loop.example/g01142/laws.FnExactDecodeBlocks", spec := "fnExactDecodeBlocks", inPlace := ["internal/bytealg.CountString", "internal/bytealg.IndexByteString", "internal/bytealg.IndexString"], named := ["internal/bytealg.MaxLen", "unicode/utf8.first", "unicode/utf8.acceptRanges"], plainKeys := false, apart := false, laid := [("unicode/utf8.acceptRanges", laid_unicode_utf8_acceptRanges), ("unicode/utf8.first", laid_unicode_utf8_first)] }
def FnExactDecodeBlocksSaid : Prop := fnExactDecodeBlocksRow.holds Tryd.pinned (OpenSpec.ofChange fnExactDecodeBlocksSpec)

/-- ITS FALSE NEIGHBOUR: 'it returns false'. Refute it at one input. -/
def fnExactDecodeBlocksWrong : ChangeSpec := { name := "fnExactDecodeBlocks", fn := fun _ => fun
  | [d1, d2, d3] => { results := [.lit (.bool false)], args := [d1, d2, d3] }
  | _ => none }
def FnExactDecodeBlocksWrongFalsely : Prop := fnExactDecodeBlocksRow.holds Tryd.pinned (OpenSpec.ofChange fnExactDecodeBlocksWrong)

/-- 'laws.FnExactRunBound': WHATEVER THE INPUT: true; the input reads as it did. -/
def fnExactRunBoundSpec : ChangeSpec := { name := "fnExactRunBound", fn := fun _ => fun
  | [d] => { results := [.lit (.bool true)], args := [d] }
  | _ => none }
def fnExactRunBoundRow : OpenClaim := { program := "ytegeaoiclepkkaadoor", sum := "5b94c0ee4574914e6fa71a329e59a26f781767d8d32028ed0716ef6e71eb4fe2", func := "loop.example/g01142/laws.FnExactRunBound", spec := "fnExactRunBound", inPlace := ["internal/bytealg.CountString", "internal/bytealg.IndexByteString", "internal/bytealg.IndexString"], recurses := true, named := ["internal/bytealg.MaxLen", "unicode/utf8.first", "unicode/utf8.acceptRanges"], plainKeys := false, apart := false, laid := [("unicode/utf8.acceptRanges", laid_unicode_utf8_acceptRanges), ("unicode/utf8.first", laid_unicode_utf8_first)] }
def FnExactRunBoundSaid : Prop := fnExactRunBoundRow.holds Tryd.pinned (OpenSpec.ofChange fnExactRunBoundSpec)

/-- ITS FALSE NEIGHBOUR: 'it returns false'. Refute it at one input. -/
def fnExactRunBoundWrong : ChangeSpec := { name := "fnExactRunBound", fn := fun _ => fun
  | [d] => { results := [.lit (.bool false)], args := [d] }
  | _ => none }
def FnExactRunBoundWrongFalsely : Prop := fnExactRunBoundRow.holds Tryd.pinned (OpenSpec.ofChange fnExactRunBoundWrong)

/-- 'laws.FnExactCommasOf': WHATEVER THE INPUT: true; the input reads as it did. -/
def fnExactCommasOfSpec : ChangeSpec := { name := "fnExactCommasOf", fn := fun _ => fun
  | [d1, d2] => { results := [.lit (.bool true)], args := [d1, d2] }
  | _ => none }
def fnExactCommasOfRow : OpenClaim := { program := "ytegeaoiclepkkaadoor", sum := "5b94c0ee4574914e6fa71a329e59a26f781767d8d32028ed0716ef6e71eb4fe2", func := "loop.example/g01142/laws.FnExactCommasOf", spec := "fnExactCommasOf", inPlace := ["internal/bytealg.CountString", "internal/bytealg.IndexByteString", "internal/bytealg.IndexString"], named := ["internal/bytealg.MaxLen", "unicode/utf8.first", "unicode/utf8.acceptRanges"], plainKeys := false, apart := false, laid := [("unicode/utf8.acceptRanges", laid_unicode_utf8_acceptRanges), ("unicode/utf8.first", laid_unicode_utf8_first)] }
def FnExactCommasOfSaid : Prop := fnExactCommasOfRow.holds Tryd.pinned (OpenSpec.ofChange fnExactCommasOfSpec)

/-- ITS FALSE NEIGHBOUR: 'it returns false'. Refute it at one input. -/
def fnExactCommasOfWrong : ChangeSpec := { name := "fnExactCommasOf", fn := fun _ => fun
  | [d1, d2] => { results := [.lit (.bool false)], args := [d1, d2] }
  | _ => none }
def FnExactCommasOfWrongFalsely : Prop := fnExactCommasOfRow.holds Tryd.pinned (OpenSpec.ofChange fnExactCommasOfWrong)

/-- 'laws.FnExactFlipEffect': WHATEVER THE INPUT: true; the input reads as it did. -/
def fnExactFlipEffectSpec : ChangeSpec := { name := "fnExactFlipEffect", fn := fun _ => fun
  | [d1, d2, d3, d4] => { results := [.lit (.bool true)], args := [d1, d2, d3, d4] }
  | _ => none }
def fnExactFlipEffectRow : OpenClaim := { program := "ytegeaoiclepkkaadoor", sum := "5b94c0ee4574914e6fa71a329e59a26f781767d8d32028ed0716ef6e71eb4fe2", func := "loop.example/g01142/laws.FnExactFlipEffect", spec := "fnExactFlipEffect", inPlace := ["internal/bytealg.CountString", "internal/bytealg.IndexByteString", "internal/bytealg.IndexString", "internal/abi.NoEscape", "internal/bytealg.MakeNoZero"], named := ["internal/bytealg.MaxLen", "unicode/utf8.first", "unicode/utf8.acceptRanges"], plainKeys := false, apart := false, laid := [("unicode/utf8.acceptRanges", laid_unicode_utf8_acceptRanges), ("unicode/utf8.first", laid_unicode_utf8_first)] }
def FnExactFlipEffectSaid : Prop := fnExactFlipEffectRow.holds Tryd.pinned (OpenSpec.ofChange fnExactFlipEffectSpec)

/-- ITS FALSE NEIGHBOUR: 'it returns false'. Refute it at one input. -/
def fnExactFlipEffectWrong : ChangeSpec := { name := "fnExactFlipEffect", fn := fun _ => fun
  | [d1, d2, d3, d4] => { results := [.lit (.bool false)], args := [d1, d2, d3, d4] }
  | _ => none }
def FnExactFlipEffectWrongFalsely : Prop := fnExactFlipEffectRow.holds Tryd.pinned (OpenSpec.ofChange fnExactFlipEffectWrong)

/- THE SECOND FORM. 'bulk': how many values and letters a reading holds, each counted each time it is reached (what is shared counts as often as it is met; a slice's spare places count too). A statement '..UptoSaid' is the law's where the arguments, and the package variables that the reading takes, are together of bulk at most 1048576: NARROWER than '..Said'. Prove '..Said' where nothing that the law and all that it calls make is longer than what came in: it says more and counts as full. Else prove '..UptoSaid'. A law counts once. -/
mutual
def uptoBulk {H : Type} : DataW H → Nat
  | .lit (.string bytes) => bytes.length + 1
  | .lit _ => 1
  | .nil => 1
  | .ptr d => uptoBulk d + 1
  | .slice elems spare => uptoBulkAll elems + uptoBulkAll spare + 1
  | .agg parts => uptoBulkAll parts + 1
  | .iface _ d => uptoBulk d + 1
  | .map entries => uptoBulkEntries entries + 1
  | .held _ => 1
def uptoBulkAll {H : Type} : List (DataW H) → Nat
  | [] => 0
  | d :: r => uptoBulk d + uptoBulkAll r
def uptoBulkEntries {H : Type} : List (Lit × DataW H) → Nat
  | [] => 0
  | x :: r => uptoBulkEntry x + uptoBulkEntries r
def uptoBulkEntry {H : Type} : Lit × DataW H → Nat
  | (.string bytes, d) => bytes.length + uptoBulk d + 1
  | (_, d) => uptoBulk d + 1
 end
def uptoSmall : (H : Type) → List (DataW H) → Bool := fun _ ds => decide (uptoBulkAll ds ≤ 1048576)
def OpenSpec.upto (s : _root_.Go.ChangeSpec) : _root_.Go.OpenSpec := { _root_.Go.OpenSpec.ofChange s with cond := some uptoSmall }

/-- 'laws.FnExactDisparityOf', WHERE WHAT IT READS IS OF BULK AT MOST 1048576: true; the input reads as it did. -/
def fnExactDisparityOfUptoRow : OpenClaim := { program := "ytegeaoiclepkkaadoor", sum := "5b94c0ee4574914e6fa71a329e59a26f781767d8d32028ed0716ef6e71eb4fe2", func := "loop.example/g01142/laws.FnExactDisparityOf", spec := "fnExactDisparityOf", inPlace := ["internal/bytealg.IndexByteString", "internal/bytealg.IndexString", "internal/bytealg.CountString"], named := ["unicode/utf8.first", "unicode/utf8.acceptRanges", "internal/bytealg.MaxLen"], plainKeys := false, apart := false, laid := [("unicode/utf8.acceptRanges", laid_unicode_utf8_acceptRanges), ("unicode/utf8.first", laid_unicode_utf8_first)], narrowed := true }
def FnExactDisparityOfUptoSaid : Prop := fnExactDisparityOfUptoRow.holds Tryd.pinned (OpenSpec.upto fnExactDisparityOfSpec)

/-- 'laws.FnExactValidBlockCode', WHERE WHAT IT READS IS OF BULK AT MOST 1048576: true; the input reads as it did. -/
def fnExactValidBlockCodeUptoRow : OpenClaim := { program := "ytegeaoiclepkkaadoor", sum := "5b94c0ee4574914e6fa71a329e59a26f781767d8d32028ed0716ef6e71eb4fe2", func := "loop.example/g01142/laws.FnExactValidBlockCode", spec := "fnExactValidBlockCode", inPlace := ["internal/bytealg.CountString", "internal/bytealg.IndexByteString", "internal/bytealg.IndexString"], named := ["internal/bytealg.MaxLen", "unicode/utf8.first", "unicode/utf8.acceptRanges"], plainKeys := false, apart := false, laid := [("unicode/utf8.acceptRanges", laid_unicode_utf8_acceptRanges), ("unicode/utf8.first", laid_unicode_utf8_first)], narrowed := true }
def FnExactValidBlockCodeUptoSaid : Prop := fnExactValidBlockCodeUptoRow.holds Tryd.pinned (OpenSpec.upto fnExactValidBlockCodeSpec)

/-- 'laws.FnExactSumRange', WHERE WHAT IT READS IS OF BULK AT MOST 1048576: true; the input reads as it did. -/
def fnExactSumRangeUptoRow : OpenClaim := { program := "ytegeaoiclepkkaadoor", sum := "5b94c0ee4574914e6fa71a329e59a26f781767d8d32028ed0716ef6e71eb4fe2", func := "loop.example/g01142/laws.FnExactSumRange", spec := "fnExactSumRange", inPlace := ["internal/bytealg.CountString", "internal/bytealg.IndexByteString", "internal/bytealg.IndexString"], named := ["internal/bytealg.MaxLen", "unicode/utf8.first", "unicode/utf8.acceptRanges"], plainKeys := false, apart := false, laid := [("unicode/utf8.acceptRanges", laid_unicode_utf8_acceptRanges), ("unicode/utf8.first", laid_unicode_utf8_first)], narrowed := true }
def FnExactSumRangeUptoSaid : Prop := fnExactSumRangeUptoRow.holds Tryd.pinned (OpenSpec.upto fnExactSumRangeSpec)

/-- 'laws.FnExactIsComma', WHERE WHAT IT READS IS OF BULK AT MOST 1048576: true; the input reads as it did. -/
def fnExactIsCommaUptoRow : OpenClaim := { program := "ytegeaoiclepkkaadoor", sum := "5b94c0ee4574914e6fa71a329e59a26f781767d8d32028ed0716ef6e71eb4fe2", func := "loop.example/g01142/laws.FnExactIsComma", spec := "fnExactIsComma", inPlace := ["internal/bytealg.CountString", "internal/bytealg.IndexByteString", "internal/bytealg.IndexString"], named := ["internal/bytealg.MaxLen", "unicode/utf8.first", "unicode/utf8.acceptRanges"], plainKeys := false, apart := false, laid := [("unicode/utf8.acceptRanges", laid_unicode_utf8_acceptRanges), ("unicode/utf8.first", laid_unicode_utf8_first)], narrowed := true }
def FnExactIsCommaUptoSaid : Prop := fnExactIsCommaUptoRow.holds Tryd.pinned (OpenSpec.upto fnExactIsCommaSpec)

/-- 'laws.FnExactEncodeBlocks', WHERE WHAT IT READS IS OF BULK AT MOST 1048576: true; the input reads as it did. -/
def fnExactEncodeBlocksUptoRow : OpenClaim := { program := "ytegeaoiclepkkaadoor", sum := "5b94c0ee4574914e6fa71a329e59a26f781767d8d32028ed0716ef6e71eb4fe2", func := "loop.example/g01142/laws.FnExactEncodeBlocks", spec := "fnExactEncodeBlocks", inPlace := ["internal/bytealg.CountString", "internal/bytealg.IndexByteString", "internal/bytealg.IndexString"], named := ["internal/bytealg.MaxLen", "unicode/utf8.first", "unicode/utf8.acceptRanges"], plainKeys := false, apart := false, laid := [("unicode/utf8.acceptRanges", laid_unicode_utf8_acceptRanges), ("unicode/utf8.first", laid_unicode_utf8_first)], narrowed := true }
def FnExactEncodeBlocksUptoSaid : Prop := fnExactEncodeBlocksUptoRow.holds Tryd.pinned (OpenSpec.upto fnExactEncodeBlocksSpec)

/-- 'laws.FnExactDecodeBlocks', WHERE WHAT IT READS IS OF BULK AT MOST 1048576: true; the input reads as it did. -/
def fnExactDecodeBlocksUptoRow : OpenClaim := { program := "ytegeaoiclepkkaadoor", sum := "5b94c0ee4574914e6fa71a329e59a26f781767d8d32028ed0716ef6e71eb4fe2", func := "loop.example/g01142/laws.FnExactDecodeBlocks", spec := "fnExactDecodeBlocks", inPlace := ["internal/bytealg.CountString", "internal/bytealg.IndexByteString", "internal/bytealg.IndexString"], named := ["internal/bytealg.MaxLen", "unicode/utf8.first", "unicode/utf8.acceptRanges"], plainKeys := false, apart := false, laid := [("unicode/utf8.acceptRanges", laid_unicode_utf8_acceptRanges), ("unicode/utf8.first", laid_unicode_utf8_first)], narrowed := true }
def FnExactDecodeBlocksUptoSaid : Prop := fnExactDecodeBlocksUptoRow.holds Tryd.pinned (OpenSpec.upto fnExactDecodeBlocksSpec)

/-- 'laws.FnExactRunBound', WHERE WHAT IT READS IS OF BULK AT MOST 1048576: true; the input reads as it did. -/
def fnExactRunBoundUptoRow : OpenClaim := { program := "ytegeaoiclepkkaadoor", sum := "5b94c0ee4574914e6fa71a329e59a26f781767d8d32028ed0716ef6e71eb4fe2", func := "loop.example/g01142/laws.FnExactRunBound", spec := "fnExactRunBound", inPlace := ["internal/bytealg.CountString", "internal/bytealg.IndexByteString", "internal/bytealg.IndexString"], recurses := true, named := ["internal/bytealg.MaxLen", "unicode/utf8.first", "unicode/utf8.acceptRanges"], plainKeys := false, apart := false, laid := [("unicode/utf8.acceptRanges", laid_unicode_utf8_acceptRanges), ("unicode/utf8.first", laid_unicode_utf8_first)], narrowed := true }
def FnExactRunBoundUptoSaid : Prop := fnExactRunBoundUptoRow.holds Tryd.pinned (OpenSpec.upto fnExactRunBoundSpec)

/-- 'laws.FnExactCommasOf', WHERE WHAT IT READS IS OF BULK AT MOST 1048576: true; the input reads as it did. -/
def fnExactCommasOfUptoRow : OpenClaim := { program := "ytegeaoiclepkkaadoor", sum := "5b94c0ee4574914e6fa71a329e59a26f781767d8d32028ed0716ef6e71eb4fe2", func := "loop.example/g01142/laws.FnExactCommasOf", spec := "fnExactCommasOf", inPlace := ["internal/bytealg.CountString", "internal/bytealg.IndexByteString", "internal/bytealg.IndexString"], named := ["internal/bytealg.MaxLen", "unicode/utf8.first", "unicode/utf8.acceptRanges"], plainKeys := false, apart := false, laid := [("unicode/utf8.acceptRanges", laid_unicode_utf8_acceptRanges), ("unicode/utf8.first", laid_unicode_utf8_first)], narrowed := true }
def FnExactCommasOfUptoSaid : Prop := fnExactCommasOfUptoRow.holds Tryd.pinned (OpenSpec.upto fnExactCommasOfSpec)

/-- 'laws.FnExactFlipEffect', WHERE WHAT IT READS IS OF BULK AT MOST 1048576: true; the input reads as it did. -/
def fnExactFlipEffectUptoRow : OpenClaim := { program := "ytegeaoiclepkkaadoor", sum := "5b94c0ee4574914e6fa71a329e59a26f781767d8d32028ed0716ef6e71eb4fe2", func := "loop.example/g01142/laws.FnExactFlipEffect", spec := "fnExactFlipEffect", inPlace := ["internal/bytealg.CountString", "internal/bytealg.IndexByteString", "internal/bytealg.IndexString", "internal/abi.NoEscape", "internal/bytealg.MakeNoZero"], named := ["internal/bytealg.MaxLen", "unicode/utf8.first", "unicode/utf8.acceptRanges"], plainKeys := false, apart := false, laid := [("unicode/utf8.acceptRanges", laid_unicode_utf8_acceptRanges), ("unicode/utf8.first", laid_unicode_utf8_first)], narrowed := true }
def FnExactFlipEffectUptoSaid : Prop := fnExactFlipEffectUptoRow.holds Tryd.pinned (OpenSpec.upto fnExactFlipEffectSpec)

end Rows
end Go.Proofs.YtegeaoiclepkkaaDoor
