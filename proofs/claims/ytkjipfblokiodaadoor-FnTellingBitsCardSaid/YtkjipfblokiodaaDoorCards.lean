/-
  DERIVED. GIVEN WITH THE SEED: THE CARDS: each row of YtkjipfblokiodaaDoorRows.lean that lists a variable, with what it lists TIED to the program's text (the seventh form; the later family's looks); each row that meets fmt, with fmt's text TOLD by the authors' own Lean function (tested against real Go, not proved from fmt's source: count such statements apart). THE CARD IS WHAT COUNTS. Prove the row's statement (the work); the ties are given (YtkjipfblokiodaaDoorTie.lean); close each card by the builder's one call (the guide's Derived/Test/ToyasCard.lean, 'card_holds'). Laid BY PROGRAM, IN A SANDBOX (cutbox-door.mjs). By AI agents, Wed Nov 11 2026. No macro, syntax, notation, axiom, sorry.
-/
import Derived.Test.YtkjipfblokiodaaDoorRows
import GoSem.ClaimSeven
namespace Go.Proofs.YtkjipfblokiodaaDoor
namespace Rows

/-- THE TIED CARD OF 'laws.FnTellingBits'. -/
def fnTellingBitsCard : Claim7 := { stood := { row := fnTellingBitsRow, standIns := [], harness := (true, "40958add2d905ce83f56e7dc74995650f9ebe8b4ca8c91aadb855ccfe78f46e7"), looks := false }, kinds := [], alts := [], laidByText := true, laidKinds := [.data, .pinned], laidTests := true, laidLooks := .later }
def FnTellingBitsCardSaid : Prop := Claim7.holds Tryd.pinned (.plain (OpenSpec.ofChange fnTellingBitsSpec)) fnTellingBitsCard

/-- THE SECOND FORM's CARD OF 'laws.FnTellingBits'. -/
def fnTellingBitsUptoCard : Claim7 := { stood := { row := fnTellingBitsUptoRow, standIns := [], harness := (true, "40958add2d905ce83f56e7dc74995650f9ebe8b4ca8c91aadb855ccfe78f46e7"), looks := false }, kinds := [], alts := [], laidByText := true, laidKinds := [.data, .pinned], laidTests := true, laidLooks := .later }
def FnTellingBitsUptoCardSaid : Prop := Claim7.holds Tryd.pinned (.plain (OpenSpec.upto fnTellingBitsSpec)) fnTellingBitsUptoCard
end Rows
end Go.Proofs.YtkjipfblokiodaaDoor
