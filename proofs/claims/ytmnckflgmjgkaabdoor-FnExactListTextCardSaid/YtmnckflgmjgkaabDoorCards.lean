/-
  DERIVED. GIVEN WITH THE SEED: THE CARDS: each row of YtmnckflgmjgkaabDoorRows.lean that lists a variable, with what it lists TIED to the program's text (the seventh form; the later family's looks); each row that meets fmt, with fmt's text TOLD by the authors' own Lean function (tested against real Go, not proved from fmt's source: count such statements apart). THE CARD IS WHAT COUNTS. Prove the row's statement (the work); the ties are given (YtmnckflgmjgkaabDoorTie.lean); close each card by the builder's one call (the guide's Derived/Test/ToyasCard.lean, 'card_holds'). Laid BY PROGRAM, IN A SANDBOX (cutbox-door.mjs). By AI agents, Wed Nov 11 2026. No macro, syntax, notation, axiom, sorry.
-/
import Derived.Test.YtmnckflgmjgkaabDoorRows
import GoSem.ClaimSeven
namespace Go.Proofs.YtmnckflgmjgkaabDoor
namespace Rows

/-- THE TIED CARD OF 'laws.FnExactCountBits'. -/
def fnExactCountBitsCard : Claim7 := { stood := { row := fnExactCountBitsRow, standIns := [], harness := (true, "9d82cc869426a90e3d4c4314ce0bbfdee7d1abb437a26a7adf5ccfc41b58862f"), looks := false }, kinds := [], alts := [], laidByText := true, laidKinds := [.data, .pinned], laidTests := true, laidLooks := .later }
def FnExactCountBitsCardSaid : Prop := Claim7.holds Tryd.pinned (.plain (OpenSpec.ofChange fnExactCountBitsSpec)) fnExactCountBitsCard

/-- THE TIED CARD OF 'laws.FnExactXorBits'. -/
def fnExactXorBitsCard : Claim7 := { stood := { row := fnExactXorBitsRow, standIns := [], harness := (true, "9d82cc869426a90e3d4c4314ce0bbfdee7d1abb437a26a7adf5ccfc41b58862f"), looks := false }, kinds := [], alts := [], laidByText := true, laidKinds := [.data, .pinned], laidTests := true, laidLooks := .later }
def FnExactXorBitsCardSaid : Prop := Claim7.holds Tryd.pinned (.plain (OpenSpec.ofChange fnExactXorBitsSpec)) fnExactXorBitsCard

/-- THE TIED CARD OF 'laws.FnExactRunLengths'. -/
def fnExactRunLengthsCard : Claim7 := { stood := { row := fnExactRunLengthsRow, standIns := [], harness := (true, "9d82cc869426a90e3d4c4314ce0bbfdee7d1abb437a26a7adf5ccfc41b58862f"), looks := false }, kinds := [], alts := [], laidByText := true, laidKinds := [.data, .pinned], laidTests := true, laidLooks := .later }
def FnExactRunLengthsCardSaid : Prop := Claim7.holds Tryd.pinned (.plain (OpenSpec.ofChange fnExactRunLengthsSpec)) fnExactRunLengthsCard

/-- THE TIED CARD OF 'laws.FnExactBytesOfBits'. -/
def fnExactBytesOfBitsCard : Claim7 := { stood := { row := fnExactBytesOfBitsRow, standIns := [], harness := (true, "9d82cc869426a90e3d4c4314ce0bbfdee7d1abb437a26a7adf5ccfc41b58862f"), looks := false }, kinds := [], alts := [], laidByText := true, laidKinds := [.data, .pinned], laidTests := true, laidLooks := .later }
def FnExactBytesOfBitsCardSaid : Prop := Claim7.holds Tryd.pinned (.plain (OpenSpec.ofChange fnExactBytesOfBitsSpec)) fnExactBytesOfBitsCard

/-- THE TIED CARD OF 'laws.FnExactListText'. -/
def fnExactListTextCard : Claim7 := { stood := { row := fnExactListTextRow, standIns := [], harness := (true, "9d82cc869426a90e3d4c4314ce0bbfdee7d1abb437a26a7adf5ccfc41b58862f"), looks := false }, kinds := [], alts := [], laidByText := true, laidKinds := [.data, .data, .data], laidTests := true, laidLooks := .later }
def FnExactListTextCardSaid : Prop := Claim7.holds Tryd.pinned (.plain (OpenSpec.ofChange fnExactListTextSpec)) fnExactListTextCard

/-- THE TIED CARD OF 'laws.FnExactFindBits'. -/
def fnExactFindBitsCard : Claim7 := { stood := { row := fnExactFindBitsRow, standIns := [], harness := (true, "9d82cc869426a90e3d4c4314ce0bbfdee7d1abb437a26a7adf5ccfc41b58862f"), looks := false }, kinds := [], alts := [], laidByText := true, laidKinds := [.data, .pinned], laidTests := true, laidLooks := .later }
def FnExactFindBitsCardSaid : Prop := Claim7.holds Tryd.pinned (.plain (OpenSpec.ofChange fnExactFindBitsSpec)) fnExactFindBitsCard

/-- THE SECOND FORM's CARD OF 'laws.FnExactCountBits'. -/
def fnExactCountBitsUptoCard : Claim7 := { stood := { row := fnExactCountBitsUptoRow, standIns := [], harness := (true, "9d82cc869426a90e3d4c4314ce0bbfdee7d1abb437a26a7adf5ccfc41b58862f"), looks := false }, kinds := [], alts := [], laidByText := true, laidKinds := [.data, .pinned], laidTests := true, laidLooks := .later }
def FnExactCountBitsUptoCardSaid : Prop := Claim7.holds Tryd.pinned (.plain (OpenSpec.upto fnExactCountBitsSpec)) fnExactCountBitsUptoCard

/-- THE SECOND FORM's CARD OF 'laws.FnExactXorBits'. -/
def fnExactXorBitsUptoCard : Claim7 := { stood := { row := fnExactXorBitsUptoRow, standIns := [], harness := (true, "9d82cc869426a90e3d4c4314ce0bbfdee7d1abb437a26a7adf5ccfc41b58862f"), looks := false }, kinds := [], alts := [], laidByText := true, laidKinds := [.data, .pinned], laidTests := true, laidLooks := .later }
def FnExactXorBitsUptoCardSaid : Prop := Claim7.holds Tryd.pinned (.plain (OpenSpec.upto fnExactXorBitsSpec)) fnExactXorBitsUptoCard

/-- THE SECOND FORM's CARD OF 'laws.FnExactRunLengths'. -/
def fnExactRunLengthsUptoCard : Claim7 := { stood := { row := fnExactRunLengthsUptoRow, standIns := [], harness := (true, "9d82cc869426a90e3d4c4314ce0bbfdee7d1abb437a26a7adf5ccfc41b58862f"), looks := false }, kinds := [], alts := [], laidByText := true, laidKinds := [.data, .pinned], laidTests := true, laidLooks := .later }
def FnExactRunLengthsUptoCardSaid : Prop := Claim7.holds Tryd.pinned (.plain (OpenSpec.upto fnExactRunLengthsSpec)) fnExactRunLengthsUptoCard

/-- THE SECOND FORM's CARD OF 'laws.FnExactBytesOfBits'. -/
def fnExactBytesOfBitsUptoCard : Claim7 := { stood := { row := fnExactBytesOfBitsUptoRow, standIns := [], harness := (true, "9d82cc869426a90e3d4c4314ce0bbfdee7d1abb437a26a7adf5ccfc41b58862f"), looks := false }, kinds := [], alts := [], laidByText := true, laidKinds := [.data, .pinned], laidTests := true, laidLooks := .later }
def FnExactBytesOfBitsUptoCardSaid : Prop := Claim7.holds Tryd.pinned (.plain (OpenSpec.upto fnExactBytesOfBitsSpec)) fnExactBytesOfBitsUptoCard

/-- THE SECOND FORM's CARD OF 'laws.FnExactListText'. -/
def fnExactListTextUptoCard : Claim7 := { stood := { row := fnExactListTextUptoRow, standIns := [], harness := (true, "9d82cc869426a90e3d4c4314ce0bbfdee7d1abb437a26a7adf5ccfc41b58862f"), looks := false }, kinds := [], alts := [], laidByText := true, laidKinds := [.data, .data, .data], laidTests := true, laidLooks := .later }
def FnExactListTextUptoCardSaid : Prop := Claim7.holds Tryd.pinned (.plain (OpenSpec.upto fnExactListTextSpec)) fnExactListTextUptoCard

/-- THE SECOND FORM's CARD OF 'laws.FnExactFindBits'. -/
def fnExactFindBitsUptoCard : Claim7 := { stood := { row := fnExactFindBitsUptoRow, standIns := [], harness := (true, "9d82cc869426a90e3d4c4314ce0bbfdee7d1abb437a26a7adf5ccfc41b58862f"), looks := false }, kinds := [], alts := [], laidByText := true, laidKinds := [.data, .pinned], laidTests := true, laidLooks := .later }
def FnExactFindBitsUptoCardSaid : Prop := Claim7.holds Tryd.pinned (.plain (OpenSpec.upto fnExactFindBitsSpec)) fnExactFindBitsUptoCard
end Rows
end Go.Proofs.YtmnckflgmjgkaabDoor
