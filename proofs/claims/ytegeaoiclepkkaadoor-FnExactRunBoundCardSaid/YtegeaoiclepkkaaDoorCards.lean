/-
  DERIVED. GIVEN WITH THE SEED: THE CARDS: each row of YtegeaoiclepkkaaDoorRows.lean that lists a variable, with what it lists TIED to the program's text (the seventh form; the later family's looks); each row that meets fmt, with fmt's text TOLD by the authors' own Lean function (tested against real Go, not proved from fmt's source: count such statements apart). THE CARD IS WHAT COUNTS. Prove the row's statement (the work); the ties are given (YtegeaoiclepkkaaDoorTie.lean); close each card by the builder's one call (the guide's Derived/Test/ToyasCard.lean, 'card_holds'). Laid BY PROGRAM, IN A SANDBOX (cutbox-door.mjs). By AI agents, Wed Nov 11 2026. No macro, syntax, notation, axiom, sorry.
-/
import Derived.Test.YtegeaoiclepkkaaDoorRows
import GoSem.ClaimSeven
namespace Go.Proofs.YtegeaoiclepkkaaDoor
namespace Rows

/-- THE TIED CARD OF 'laws.FnExactDisparityOf'. -/
def fnExactDisparityOfCard : Claim7 := { stood := { row := fnExactDisparityOfRow, standIns := [], harness := (true, "31499604fc8a1656252ec3b7df544f5845ecf2b84e0a41c943c2fadb14e5c080"), looks := false }, kinds := [], alts := [], laidByText := true, laidKinds := [.data, .pinned], laidTests := true, laidLooks := .later }
def FnExactDisparityOfCardSaid : Prop := Claim7.holds Tryd.pinned (.plain (OpenSpec.ofChange fnExactDisparityOfSpec)) fnExactDisparityOfCard

/-- THE TIED CARD OF 'laws.FnExactValidBlockCode'. -/
def fnExactValidBlockCodeCard : Claim7 := { stood := { row := fnExactValidBlockCodeRow, standIns := [], harness := (true, "31499604fc8a1656252ec3b7df544f5845ecf2b84e0a41c943c2fadb14e5c080"), looks := false }, kinds := [], alts := [], laidByText := true, laidKinds := [.data, .pinned], laidTests := true, laidLooks := .later }
def FnExactValidBlockCodeCardSaid : Prop := Claim7.holds Tryd.pinned (.plain (OpenSpec.ofChange fnExactValidBlockCodeSpec)) fnExactValidBlockCodeCard

/-- THE TIED CARD OF 'laws.FnExactSumRange'. -/
def fnExactSumRangeCard : Claim7 := { stood := { row := fnExactSumRangeRow, standIns := [], harness := (true, "31499604fc8a1656252ec3b7df544f5845ecf2b84e0a41c943c2fadb14e5c080"), looks := false }, kinds := [], alts := [], laidByText := true, laidKinds := [.data, .pinned], laidTests := true, laidLooks := .later }
def FnExactSumRangeCardSaid : Prop := Claim7.holds Tryd.pinned (.plain (OpenSpec.ofChange fnExactSumRangeSpec)) fnExactSumRangeCard

/-- THE TIED CARD OF 'laws.FnExactIsComma'. -/
def fnExactIsCommaCard : Claim7 := { stood := { row := fnExactIsCommaRow, standIns := [], harness := (true, "31499604fc8a1656252ec3b7df544f5845ecf2b84e0a41c943c2fadb14e5c080"), looks := false }, kinds := [], alts := [], laidByText := true, laidKinds := [.data, .pinned], laidTests := true, laidLooks := .later }
def FnExactIsCommaCardSaid : Prop := Claim7.holds Tryd.pinned (.plain (OpenSpec.ofChange fnExactIsCommaSpec)) fnExactIsCommaCard

/-- THE TIED CARD OF 'laws.FnExactEncodeBlocks'. -/
def fnExactEncodeBlocksCard : Claim7 := { stood := { row := fnExactEncodeBlocksRow, standIns := [], harness := (true, "31499604fc8a1656252ec3b7df544f5845ecf2b84e0a41c943c2fadb14e5c080"), looks := false }, kinds := [], alts := [], laidByText := true, laidKinds := [.data, .pinned], laidTests := true, laidLooks := .later }
def FnExactEncodeBlocksCardSaid : Prop := Claim7.holds Tryd.pinned (.plain (OpenSpec.ofChange fnExactEncodeBlocksSpec)) fnExactEncodeBlocksCard

/-- THE TIED CARD OF 'laws.FnExactDecodeBlocks'. -/
def fnExactDecodeBlocksCard : Claim7 := { stood := { row := fnExactDecodeBlocksRow, standIns := [], harness := (true, "31499604fc8a1656252ec3b7df544f5845ecf2b84e0a41c943c2fadb14e5c080"), looks := false }, kinds := [], alts := [], laidByText := true, laidKinds := [.data, .pinned], laidTests := true, laidLooks := .later }
def FnExactDecodeBlocksCardSaid : Prop := Claim7.holds Tryd.pinned (.plain (OpenSpec.ofChange fnExactDecodeBlocksSpec)) fnExactDecodeBlocksCard

/-- THE TIED CARD OF 'laws.FnExactRunBound'. -/
def fnExactRunBoundCard : Claim7 := { stood := { row := fnExactRunBoundRow, standIns := [], harness := (true, "31499604fc8a1656252ec3b7df544f5845ecf2b84e0a41c943c2fadb14e5c080"), looks := false }, kinds := [], alts := [], laidByText := true, laidKinds := [.data, .pinned], laidTests := true, laidLooks := .later }
def FnExactRunBoundCardSaid : Prop := Claim7.holds Tryd.pinned (.plain (OpenSpec.ofChange fnExactRunBoundSpec)) fnExactRunBoundCard

/-- THE TIED CARD OF 'laws.FnExactCommasOf'. -/
def fnExactCommasOfCard : Claim7 := { stood := { row := fnExactCommasOfRow, standIns := [], harness := (true, "31499604fc8a1656252ec3b7df544f5845ecf2b84e0a41c943c2fadb14e5c080"), looks := false }, kinds := [], alts := [], laidByText := true, laidKinds := [.data, .pinned], laidTests := true, laidLooks := .later }
def FnExactCommasOfCardSaid : Prop := Claim7.holds Tryd.pinned (.plain (OpenSpec.ofChange fnExactCommasOfSpec)) fnExactCommasOfCard

/-- THE TIED CARD OF 'laws.FnExactFlipEffect'. -/
def fnExactFlipEffectCard : Claim7 := { stood := { row := fnExactFlipEffectRow, standIns := [], harness := (true, "31499604fc8a1656252ec3b7df544f5845ecf2b84e0a41c943c2fadb14e5c080"), looks := false }, kinds := [], alts := [], laidByText := true, laidKinds := [.data, .pinned], laidTests := true, laidLooks := .later }
def FnExactFlipEffectCardSaid : Prop := Claim7.holds Tryd.pinned (.plain (OpenSpec.ofChange fnExactFlipEffectSpec)) fnExactFlipEffectCard

/-- THE SECOND FORM's CARD OF 'laws.FnExactDisparityOf'. -/
def fnExactDisparityOfUptoCard : Claim7 := { stood := { row := fnExactDisparityOfUptoRow, standIns := [], harness := (true, "31499604fc8a1656252ec3b7df544f5845ecf2b84e0a41c943c2fadb14e5c080"), looks := false }, kinds := [], alts := [], laidByText := true, laidKinds := [.data, .pinned], laidTests := true, laidLooks := .later }
def FnExactDisparityOfUptoCardSaid : Prop := Claim7.holds Tryd.pinned (.plain (OpenSpec.upto fnExactDisparityOfSpec)) fnExactDisparityOfUptoCard

/-- THE SECOND FORM's CARD OF 'laws.FnExactValidBlockCode'. -/
def fnExactValidBlockCodeUptoCard : Claim7 := { stood := { row := fnExactValidBlockCodeUptoRow, standIns := [], harness := (true, "31499604fc8a1656252ec3b7df544f5845ecf2b84e0a41c943c2fadb14e5c080"), looks := false }, kinds := [], alts := [], laidByText := true, laidKinds := [.data, .pinned], laidTests := true, laidLooks := .later }
def FnExactValidBlockCodeUptoCardSaid : Prop := Claim7.holds Tryd.pinned (.plain (OpenSpec.upto fnExactValidBlockCodeSpec)) fnExactValidBlockCodeUptoCard

/-- THE SECOND FORM's CARD OF 'laws.FnExactSumRange'. -/
def fnExactSumRangeUptoCard : Claim7 := { stood := { row := fnExactSumRangeUptoRow, standIns := [], harness := (true, "31499604fc8a1656252ec3b7df544f5845ecf2b84e0a41c943c2fadb14e5c080"), looks := false }, kinds := [], alts := [], laidByText := true, laidKinds := [.data, .pinned], laidTests := true, laidLooks := .later }
def FnExactSumRangeUptoCardSaid : Prop := Claim7.holds Tryd.pinned (.plain (OpenSpec.upto fnExactSumRangeSpec)) fnExactSumRangeUptoCard

/-- THE SECOND FORM's CARD OF 'laws.FnExactIsComma'. -/
def fnExactIsCommaUptoCard : Claim7 := { stood := { row := fnExactIsCommaUptoRow, standIns := [], harness := (true, "31499604fc8a1656252ec3b7df544f5845ecf2b84e0a41c943c2fadb14e5c080"), looks := false }, kinds := [], alts := [], laidByText := true, laidKinds := [.data, .pinned], laidTests := true, laidLooks := .later }
def FnExactIsCommaUptoCardSaid : Prop := Claim7.holds Tryd.pinned (.plain (OpenSpec.upto fnExactIsCommaSpec)) fnExactIsCommaUptoCard

/-- THE SECOND FORM's CARD OF 'laws.FnExactEncodeBlocks'. -/
def fnExactEncodeBlocksUptoCard : Claim7 := { stood := { row := fnExactEncodeBlocksUptoRow, standIns := [], harness := (true, "31499604fc8a1656252ec3b7df544f5845ecf2b84e0a41c943c2fadb14e5c080"), looks := false }, kinds := [], alts := [], laidByText := true, laidKinds := [.data, .pinned], laidTests := true, laidLooks := .later }
def FnExactEncodeBlocksUptoCardSaid : Prop := Claim7.holds Tryd.pinned (.plain (OpenSpec.upto fnExactEncodeBlocksSpec)) fnExactEncodeBlocksUptoCard

/-- THE SECOND FORM's CARD OF 'laws.FnExactDecodeBlocks'. -/
def fnExactDecodeBlocksUptoCard : Claim7 := { stood := { row := fnExactDecodeBlocksUptoRow, standIns := [], harness := (true, "31499604fc8a1656252ec3b7df544f5845ecf2b84e0a41c943c2fadb14e5c080"), looks := false }, kinds := [], alts := [], laidByText := true, laidKinds := [.data, .pinned], laidTests := true, laidLooks := .later }
def FnExactDecodeBlocksUptoCardSaid : Prop := Claim7.holds Tryd.pinned (.plain (OpenSpec.upto fnExactDecodeBlocksSpec)) fnExactDecodeBlocksUptoCard

/-- THE SECOND FORM's CARD OF 'laws.FnExactRunBound'. -/
def fnExactRunBoundUptoCard : Claim7 := { stood := { row := fnExactRunBoundUptoRow, standIns := [], harness := (true, "31499604fc8a1656252ec3b7df544f5845ecf2b84e0a41c943c2fadb14e5c080"), looks := false }, kinds := [], alts := [], laidByText := true, laidKinds := [.data, .pinned], laidTests := true, laidLooks := .later }
def FnExactRunBoundUptoCardSaid : Prop := Claim7.holds Tryd.pinned (.plain (OpenSpec.upto fnExactRunBoundSpec)) fnExactRunBoundUptoCard

/-- THE SECOND FORM's CARD OF 'laws.FnExactCommasOf'. -/
def fnExactCommasOfUptoCard : Claim7 := { stood := { row := fnExactCommasOfUptoRow, standIns := [], harness := (true, "31499604fc8a1656252ec3b7df544f5845ecf2b84e0a41c943c2fadb14e5c080"), looks := false }, kinds := [], alts := [], laidByText := true, laidKinds := [.data, .pinned], laidTests := true, laidLooks := .later }
def FnExactCommasOfUptoCardSaid : Prop := Claim7.holds Tryd.pinned (.plain (OpenSpec.upto fnExactCommasOfSpec)) fnExactCommasOfUptoCard

/-- THE SECOND FORM's CARD OF 'laws.FnExactFlipEffect'. -/
def fnExactFlipEffectUptoCard : Claim7 := { stood := { row := fnExactFlipEffectUptoRow, standIns := [], harness := (true, "31499604fc8a1656252ec3b7df544f5845ecf2b84e0a41c943c2fadb14e5c080"), looks := false }, kinds := [], alts := [], laidByText := true, laidKinds := [.data, .pinned], laidTests := true, laidLooks := .later }
def FnExactFlipEffectUptoCardSaid : Prop := Claim7.holds Tryd.pinned (.plain (OpenSpec.upto fnExactFlipEffectSpec)) fnExactFlipEffectUptoCard
end Rows
end Go.Proofs.YtegeaoiclepkkaaDoor
