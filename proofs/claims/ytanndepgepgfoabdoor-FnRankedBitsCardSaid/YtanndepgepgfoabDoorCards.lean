/-
  DERIVED. GIVEN WITH THE SEED: THE CARDS: each row of YtanndepgepgfoabDoorRows.lean that lists a variable, with what it lists TIED to the program's text (the seventh form; the later family's looks); each row that meets fmt, with fmt's text TOLD by the authors' own Lean function (tested against real Go, not proved from fmt's source: count such statements apart). THE CARD IS WHAT COUNTS. Prove the row's statement (the work); the ties are given (YtanndepgepgfoabDoorTie.lean); close each card by the builder's one call (the guide's Derived/Test/ToyasCard.lean, 'card_holds'). Laid BY PROGRAM, IN A SANDBOX (cutbox-door.mjs). By AI agents, Wed Nov 11 2026. No macro, syntax, notation, axiom, sorry.
-/
import Derived.Test.YtanndepgepgfoabDoorRows
import GoSem.ClaimSeven
namespace Go.Proofs.YtanndepgepgfoabDoor
namespace Rows

/-- THE TIED CARD OF 'laws.FnExactIsAllowed'. -/
def fnExactIsAllowedCard : Claim7 := { stood := { row := fnExactIsAllowedRow, standIns := [], harness := (true, "2acaf67bc53e8ebdb7873ce4ec83d4734f37cff81cc8b2be85f91188dedf3b9b"), looks := false }, kinds := [], alts := [], laidByText := true, laidKinds := [.data, .pinned], laidTests := true, laidLooks := .later }
def FnExactIsAllowedCardSaid : Prop := Claim7.holds Tryd.pinned (.plain (OpenSpec.ofChange fnExactIsAllowedSpec)) fnExactIsAllowedCard

/-- THE TIED CARD OF 'laws.FnExactStateBehind'. -/
def fnExactStateBehindCard : Claim7 := { stood := { row := fnExactStateBehindRow, standIns := [], harness := (true, "2acaf67bc53e8ebdb7873ce4ec83d4734f37cff81cc8b2be85f91188dedf3b9b"), looks := false }, kinds := [], alts := [], laidByText := true, laidKinds := [.data, .pinned], laidTests := true, laidLooks := .later }
def FnExactStateBehindCardSaid : Prop := Claim7.holds Tryd.pinned (.plain (OpenSpec.ofChange fnExactStateBehindSpec)) fnExactStateBehindCard

/-- THE TIED CARD OF 'laws.FnExactRankOfBits'. -/
def fnExactRankOfBitsCard : Claim7 := { stood := { row := fnExactRankOfBitsRow, standIns := [], harness := (true, "2acaf67bc53e8ebdb7873ce4ec83d4734f37cff81cc8b2be85f91188dedf3b9b"), looks := false }, kinds := [], alts := [], laidByText := true, laidKinds := [.data, .pinned], laidTests := true, laidLooks := .later }
def FnExactRankOfBitsCardSaid : Prop := Claim7.holds Tryd.pinned (.plain (OpenSpec.ofChange fnExactRankOfBitsSpec)) fnExactRankOfBitsCard

/-- THE TIED CARD OF 'laws.FnKnownGraphs'. -/
def fnKnownGraphsCard : Claim7 := { stood := { row := fnKnownGraphsRow, standIns := [], harness := (true, "2acaf67bc53e8ebdb7873ce4ec83d4734f37cff81cc8b2be85f91188dedf3b9b"), looks := false }, kinds := [], alts := [], laidByText := true, laidKinds := [.data, .pinned], laidTests := true, laidLooks := .later }
def FnKnownGraphsCardSaid : Prop := Claim7.holds Tryd.pinned (.plain (OpenSpec.ofChange fnKnownGraphsSpec)) fnKnownGraphsCard

/-- THE TIED CARD OF 'laws.FnTellingBits'. -/
def fnTellingBitsCard : Claim7 := { stood := { row := fnTellingBitsRow, standIns := [], harness := (true, "2acaf67bc53e8ebdb7873ce4ec83d4734f37cff81cc8b2be85f91188dedf3b9b"), looks := false }, kinds := [], alts := [], laidByText := true, laidKinds := [.data, .pinned], laidTests := true, laidLooks := .later }
def FnTellingBitsCardSaid : Prop := Claim7.holds Tryd.pinned (.plain (OpenSpec.ofChange fnTellingBitsSpec)) fnTellingBitsCard

/-- THE TIED CARD OF 'laws.FnRankedBits'. -/
def fnRankedBitsCard : Claim7 := { stood := { row := fnRankedBitsRow, standIns := [], harness := (true, "2acaf67bc53e8ebdb7873ce4ec83d4734f37cff81cc8b2be85f91188dedf3b9b"), looks := false }, kinds := [], alts := [], laidByText := true, laidKinds := [.data, .pinned], laidTests := true, laidLooks := .later }
def FnRankedBitsCardSaid : Prop := Claim7.holds Tryd.pinned (.plain (OpenSpec.ofChange fnRankedBitsSpec)) fnRankedBitsCard

/-- THE SECOND FORM's CARD OF 'laws.FnExactIsAllowed'. -/
def fnExactIsAllowedUptoCard : Claim7 := { stood := { row := fnExactIsAllowedUptoRow, standIns := [], harness := (true, "2acaf67bc53e8ebdb7873ce4ec83d4734f37cff81cc8b2be85f91188dedf3b9b"), looks := false }, kinds := [], alts := [], laidByText := true, laidKinds := [.data, .pinned], laidTests := true, laidLooks := .later }
def FnExactIsAllowedUptoCardSaid : Prop := Claim7.holds Tryd.pinned (.plain (OpenSpec.upto fnExactIsAllowedSpec)) fnExactIsAllowedUptoCard

/-- THE SECOND FORM's CARD OF 'laws.FnExactStateBehind'. -/
def fnExactStateBehindUptoCard : Claim7 := { stood := { row := fnExactStateBehindUptoRow, standIns := [], harness := (true, "2acaf67bc53e8ebdb7873ce4ec83d4734f37cff81cc8b2be85f91188dedf3b9b"), looks := false }, kinds := [], alts := [], laidByText := true, laidKinds := [.data, .pinned], laidTests := true, laidLooks := .later }
def FnExactStateBehindUptoCardSaid : Prop := Claim7.holds Tryd.pinned (.plain (OpenSpec.upto fnExactStateBehindSpec)) fnExactStateBehindUptoCard

/-- THE SECOND FORM's CARD OF 'laws.FnExactRankOfBits'. -/
def fnExactRankOfBitsUptoCard : Claim7 := { stood := { row := fnExactRankOfBitsUptoRow, standIns := [], harness := (true, "2acaf67bc53e8ebdb7873ce4ec83d4734f37cff81cc8b2be85f91188dedf3b9b"), looks := false }, kinds := [], alts := [], laidByText := true, laidKinds := [.data, .pinned], laidTests := true, laidLooks := .later }
def FnExactRankOfBitsUptoCardSaid : Prop := Claim7.holds Tryd.pinned (.plain (OpenSpec.upto fnExactRankOfBitsSpec)) fnExactRankOfBitsUptoCard

/-- THE SECOND FORM's CARD OF 'laws.FnKnownGraphs'. -/
def fnKnownGraphsUptoCard : Claim7 := { stood := { row := fnKnownGraphsUptoRow, standIns := [], harness := (true, "2acaf67bc53e8ebdb7873ce4ec83d4734f37cff81cc8b2be85f91188dedf3b9b"), looks := false }, kinds := [], alts := [], laidByText := true, laidKinds := [.data, .pinned], laidTests := true, laidLooks := .later }
def FnKnownGraphsUptoCardSaid : Prop := Claim7.holds Tryd.pinned (.plain (OpenSpec.upto fnKnownGraphsSpec)) fnKnownGraphsUptoCard

/-- THE SECOND FORM's CARD OF 'laws.FnTellingBits'. -/
def fnTellingBitsUptoCard : Claim7 := { stood := { row := fnTellingBitsUptoRow, standIns := [], harness := (true, "2acaf67bc53e8ebdb7873ce4ec83d4734f37cff81cc8b2be85f91188dedf3b9b"), looks := false }, kinds := [], alts := [], laidByText := true, laidKinds := [.data, .pinned], laidTests := true, laidLooks := .later }
def FnTellingBitsUptoCardSaid : Prop := Claim7.holds Tryd.pinned (.plain (OpenSpec.upto fnTellingBitsSpec)) fnTellingBitsUptoCard

/-- THE SECOND FORM's CARD OF 'laws.FnRankedBits'. -/
def fnRankedBitsUptoCard : Claim7 := { stood := { row := fnRankedBitsUptoRow, standIns := [], harness := (true, "2acaf67bc53e8ebdb7873ce4ec83d4734f37cff81cc8b2be85f91188dedf3b9b"), looks := false }, kinds := [], alts := [], laidByText := true, laidKinds := [.data, .pinned], laidTests := true, laidLooks := .later }
def FnRankedBitsUptoCardSaid : Prop := Claim7.holds Tryd.pinned (.plain (OpenSpec.upto fnRankedBitsSpec)) fnRankedBitsUptoCard
end Rows
end Go.Proofs.YtanndepgepgfoabDoor
