/-
  DERIVED. GIVEN WITH THE SEED: THE CARDS: each row of YtegeaoiclepkkabDoorRows.lean that lists a variable, with what it lists TIED to the program's text (the seventh form; the later family's looks); each row that meets fmt, with fmt's text TOLD by the authors' own Lean function (tested against real Go, not proved from fmt's source: count such statements apart). THE CARD IS WHAT COUNTS. Prove the row's statement (the work); the ties are given (YtegeaoiclepkkabDoorTie.lean); close each card by the builder's one call (the guide's Derived/Test/ToyasCard.lean, 'card_holds'). Laid BY PROGRAM, IN A SANDBOX (cutbox-door.mjs). By AI agents, Wed Nov 11 2026. No macro, syntax, notation, axiom, sorry.
-/
import Derived.Test.YtegeaoiclepkkabDoorRows
import GoSem.ClaimSeven
namespace Go.Proofs.YtegeaoiclepkkabDoor
namespace Rows

/-- THE TIED CARD OF 'laws.FnBlocks'. -/
def fnBlocksCard : Claim7 := { stood := { row := fnBlocksRow, standIns := [], harness := (true, "32e7ff67cf0fc13293708653141b21599c6b76c7f26c2b99142c7c478367e65d"), looks := false }, kinds := [], alts := [], laidByText := true, laidKinds := [.data, .pinned], laidTests := true, laidLooks := .later }
def FnBlocksCardSaid : Prop := Claim7.holds Tryd.pinned (.plain (OpenSpec.ofChange fnBlocksSpec)) fnBlocksCard

/-- THE TIED CARD OF 'laws.FnCommas'. -/
def fnCommasCard : Claim7 := { stood := { row := fnCommasRow, standIns := [], harness := (true, "32e7ff67cf0fc13293708653141b21599c6b76c7f26c2b99142c7c478367e65d"), looks := false }, kinds := [], alts := [], laidByText := true, laidKinds := [.data, .pinned], laidTests := true, laidLooks := .later }
def FnCommasCardSaid : Prop := Claim7.holds Tryd.pinned (.plain (OpenSpec.ofChange fnCommasSpec)) fnCommasCard

/-- THE SECOND FORM's CARD OF 'laws.FnBlocks'. -/
def fnBlocksUptoCard : Claim7 := { stood := { row := fnBlocksUptoRow, standIns := [], harness := (true, "32e7ff67cf0fc13293708653141b21599c6b76c7f26c2b99142c7c478367e65d"), looks := false }, kinds := [], alts := [], laidByText := true, laidKinds := [.data, .pinned], laidTests := true, laidLooks := .later }
def FnBlocksUptoCardSaid : Prop := Claim7.holds Tryd.pinned (.plain (OpenSpec.upto fnBlocksSpec)) fnBlocksUptoCard

/-- THE SECOND FORM's CARD OF 'laws.FnCommas'. -/
def fnCommasUptoCard : Claim7 := { stood := { row := fnCommasUptoRow, standIns := [], harness := (true, "32e7ff67cf0fc13293708653141b21599c6b76c7f26c2b99142c7c478367e65d"), looks := false }, kinds := [], alts := [], laidByText := true, laidKinds := [.data, .pinned], laidTests := true, laidLooks := .later }
def FnCommasUptoCardSaid : Prop := Claim7.holds Tryd.pinned (.plain (OpenSpec.upto fnCommasSpec)) fnCommasUptoCard
end Rows
end Go.Proofs.YtegeaoiclepkkabDoor
