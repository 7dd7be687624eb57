/-
  DERIVED. GIVEN WITH THE SEED: THE CARDS: each row of YtmnckflgmjgkaaaDoorRows.lean that lists a variable, with what it lists TIED to the program's text (the seventh form; the later family's looks); each row that meets fmt, with fmt's text TOLD by the authors' own Lean function (tested against real Go, not proved from fmt's source: count such statements apart). THE CARD IS WHAT COUNTS. Prove the row's statement (the work); the ties are given (YtmnckflgmjgkaaaDoorTie.lean); close each card by the builder's one call (the guide's Derived/Test/ToyasCard.lean, 'card_holds'). Laid BY PROGRAM, IN A SANDBOX (cutbox-door.mjs). By AI agents, Wed Nov 11 2026. No macro, syntax, notation, axiom, sorry.
-/
import Derived.Test.YtmnckflgmjgkaaaDoorRows
import GoSem.ClaimSeven
namespace Go.Proofs.YtmnckflgmjgkaaaDoor
namespace Rows

/-- THE TIED CARD OF 'laws.FnExactDecimal'. -/
def fnExactDecimalCard : Claim7 := { stood := { row := fnExactDecimalRow, standIns := [], harness := (true, "24777adff57ee08e5856fc93f332963a5fd990836baff48287a116e7f62efe6e"), looks := false }, kinds := [], alts := [], laidByText := true, laidKinds := [.data, .data, .data], laidTests := true, laidLooks := .later }
def FnExactDecimalCardSaid : Prop := Claim7.holds Tryd.pinned (.plain (OpenSpec.ofChange fnExactDecimalSpec)) fnExactDecimalCard

/-- THE TIED CARD OF 'laws.FnExactIsBits'. -/
def fnExactIsBitsCard : Claim7 := { stood := { row := fnExactIsBitsRow, standIns := [], harness := (true, "24777adff57ee08e5856fc93f332963a5fd990836baff48287a116e7f62efe6e"), looks := false }, kinds := [], alts := [], laidByText := true, laidKinds := [.data, .pinned], laidTests := true, laidLooks := .later }
def FnExactIsBitsCardSaid : Prop := Claim7.holds Tryd.pinned (.plain (OpenSpec.ofChange fnExactIsBitsSpec)) fnExactIsBitsCard

/-- THE TIED CARD OF 'laws.FnExactReverseBits'. -/
def fnExactReverseBitsCard : Claim7 := { stood := { row := fnExactReverseBitsRow, standIns := [], harness := (true, "24777adff57ee08e5856fc93f332963a5fd990836baff48287a116e7f62efe6e"), looks := false }, kinds := [], alts := [], laidByText := true, laidKinds := [.data, .pinned], laidTests := true, laidLooks := .later }
def FnExactReverseBitsCardSaid : Prop := Claim7.holds Tryd.pinned (.plain (OpenSpec.ofChange fnExactReverseBitsSpec)) fnExactReverseBitsCard

/-- THE TIED CARD OF 'laws.FnExactNumberOfBits'. -/
def fnExactNumberOfBitsCard : Claim7 := { stood := { row := fnExactNumberOfBitsRow, standIns := [], harness := (true, "24777adff57ee08e5856fc93f332963a5fd990836baff48287a116e7f62efe6e"), looks := false }, kinds := [], alts := [], laidByText := true, laidKinds := [.data, .pinned], laidTests := true, laidLooks := .later }
def FnExactNumberOfBitsCardSaid : Prop := Claim7.holds Tryd.pinned (.plain (OpenSpec.ofChange fnExactNumberOfBitsSpec)) fnExactNumberOfBitsCard

/-- THE SECOND FORM's CARD OF 'laws.FnExactDecimal'. -/
def fnExactDecimalUptoCard : Claim7 := { stood := { row := fnExactDecimalUptoRow, standIns := [], harness := (true, "24777adff57ee08e5856fc93f332963a5fd990836baff48287a116e7f62efe6e"), looks := false }, kinds := [], alts := [], laidByText := true, laidKinds := [.data, .data, .data], laidTests := true, laidLooks := .later }
def FnExactDecimalUptoCardSaid : Prop := Claim7.holds Tryd.pinned (.plain (OpenSpec.upto fnExactDecimalSpec)) fnExactDecimalUptoCard

/-- THE SECOND FORM's CARD OF 'laws.FnExactIsBits'. -/
def fnExactIsBitsUptoCard : Claim7 := { stood := { row := fnExactIsBitsUptoRow, standIns := [], harness := (true, "24777adff57ee08e5856fc93f332963a5fd990836baff48287a116e7f62efe6e"), looks := false }, kinds := [], alts := [], laidByText := true, laidKinds := [.data, .pinned], laidTests := true, laidLooks := .later }
def FnExactIsBitsUptoCardSaid : Prop := Claim7.holds Tryd.pinned (.plain (OpenSpec.upto fnExactIsBitsSpec)) fnExactIsBitsUptoCard

/-- THE SECOND FORM's CARD OF 'laws.FnExactReverseBits'. -/
def fnExactReverseBitsUptoCard : Claim7 := { stood := { row := fnExactReverseBitsUptoRow, standIns := [], harness := (true, "24777adff57ee08e5856fc93f332963a5fd990836baff48287a116e7f62efe6e"), looks := false }, kinds := [], alts := [], laidByText := true, laidKinds := [.data, .pinned], laidTests := true, laidLooks := .later }
def FnExactReverseBitsUptoCardSaid : Prop := Claim7.holds Tryd.pinned (.plain (OpenSpec.upto fnExactReverseBitsSpec)) fnExactReverseBitsUptoCard

/-- THE SECOND FORM's CARD OF 'laws.FnExactNumberOfBits'. -/
def fnExactNumberOfBitsUptoCard : Claim7 := { stood := { row := fnExactNumberOfBitsUptoRow, standIns := [], harness := (true, "24777adff57ee08e5856fc93f332963a5fd990836baff48287a116e7f62efe6e"), looks := false }, kinds := [], alts := [], laidByText := true, laidKinds := [.data, .pinned], laidTests := true, laidLooks := .later }
def FnExactNumberOfBitsUptoCardSaid : Prop := Claim7.holds Tryd.pinned (.plain (OpenSpec.upto fnExactNumberOfBitsSpec)) fnExactNumberOfBitsUptoCard
end Rows
end Go.Proofs.YtmnckflgmjgkaaaDoor
