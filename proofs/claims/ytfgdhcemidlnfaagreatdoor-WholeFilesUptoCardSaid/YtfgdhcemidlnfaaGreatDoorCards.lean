/-
  DERIVED. GIVEN WITH THE SEED: THE CARDS: each row of YtfgdhcemidlnfaaGreatDoorRows.lean that lists a variable, with what it lists TIED to the program's text (the seventh form; the later family's looks); each row that meets fmt, with fmt's text TOLD by the authors' own Lean function (tested against real Go, not proved from fmt's source: count such statements apart). THE CARD IS WHAT COUNTS. Prove the row's statement (the work); the ties are given (YtfgdhcemidlnfaaGreatDoorTie.lean); close each card by the builder's one call (the guide's Derived/Test/ToyasCard.lean, 'card_holds'). Laid BY PROGRAM, IN A SANDBOX (cutbox-door.mjs). By AI agents, Wed Nov 11 2026. No macro, syntax, notation, axiom, sorry.
-/
import Derived.Test.YtfgdhcemidlnfaaGreatDoorRows
import GoSem.ClaimSeven
namespace Go.Proofs.YtfgdhcemidlnfaaGreatDoor
namespace Rows

/-- THE TIED CARD OF 'foliantlaw26.WholeFiles'. -/
def wholeFilesCard : Claim7 := { stood := { row := wholeFilesRow, standIns := [], harness := (true, "32f0dca364f4888556fe2917706aad9a74c4f84980f46191199a18d8d312f075"), looks := true }, kinds := [], alts := [], laidByText := true, laidKinds := [.data, .data, .data, .data, .pinned], laidTests := true, laidLooks := .later }
def WholeFilesCardSaid : Prop := Claim7.holds Tryz.pinned (.plain (OpenSpec.ofChange wholeFilesSpec)) wholeFilesCard

/-- THE TIED CARD OF 'foliantlaw26.WholePlaces'. -/
def wholePlacesCard : Claim7 := { stood := { row := wholePlacesRow, standIns := [], harness := (true, "32f0dca364f4888556fe2917706aad9a74c4f84980f46191199a18d8d312f075"), looks := true }, kinds := [], alts := [], laidByText := true, laidKinds := [.data, .data, .data, .data, .pinned], laidTests := true, laidLooks := .later }
def WholePlacesCardSaid : Prop := Claim7.holds Tryz.pinned (.plain (OpenSpec.ofChange wholePlacesSpec)) wholePlacesCard

/-- THE TIED CARD OF 'foliantlaw26.WholeAlone'. -/
def wholeAloneCard : Claim7 := { stood := { row := wholeAloneRow, standIns := [], harness := (true, "32f0dca364f4888556fe2917706aad9a74c4f84980f46191199a18d8d312f075"), looks := true }, kinds := [], alts := [], laidByText := true, laidKinds := [.data, .data, .data, .data, .pinned], laidTests := true, laidLooks := .later }
def WholeAloneCardSaid : Prop := Claim7.holds Tryz.pinned (.plain (OpenSpec.ofChange wholeAloneSpec)) wholeAloneCard

/-- THE SECOND FORM's CARD OF 'foliantlaw26.WholeFiles'. -/
def wholeFilesUptoCard : Claim7 := { stood := { row := wholeFilesUptoRow, standIns := [], harness := (true, "32f0dca364f4888556fe2917706aad9a74c4f84980f46191199a18d8d312f075"), looks := true }, kinds := [], alts := [], laidByText := true, laidKinds := [.data, .data, .data, .data, .pinned], laidTests := true, laidLooks := .later }
def WholeFilesUptoCardSaid : Prop := Claim7.holds Tryz.pinned (.plain (OpenSpec.upto wholeFilesSpec)) wholeFilesUptoCard

/-- THE SECOND FORM's CARD OF 'foliantlaw26.WholePlaces'. -/
def wholePlacesUptoCard : Claim7 := { stood := { row := wholePlacesUptoRow, standIns := [], harness := (true, "32f0dca364f4888556fe2917706aad9a74c4f84980f46191199a18d8d312f075"), looks := true }, kinds := [], alts := [], laidByText := true, laidKinds := [.data, .data, .data, .data, .pinned], laidTests := true, laidLooks := .later }
def WholePlacesUptoCardSaid : Prop := Claim7.holds Tryz.pinned (.plain (OpenSpec.upto wholePlacesSpec)) wholePlacesUptoCard

/-- THE SECOND FORM's CARD OF 'foliantlaw26.WholeAlone'. -/
def wholeAloneUptoCard : Claim7 := { stood := { row := wholeAloneUptoRow, standIns := [], harness := (true, "32f0dca364f4888556fe2917706aad9a74c4f84980f46191199a18d8d312f075"), looks := true }, kinds := [], alts := [], laidByText := true, laidKinds := [.data, .data, .data, .data, .pinned], laidTests := true, laidLooks := .later }
def WholeAloneUptoCardSaid : Prop := Claim7.holds Tryz.pinned (.plain (OpenSpec.upto wholeAloneSpec)) wholeAloneUptoCard
end Rows
end Go.Proofs.YtfgdhcemidlnfaaGreatDoor
