/-
  DERIVED. GIVEN WITH THE SEED: THE CARDS: each row of YtibffdaljmmdoaaGreatDoorRows.lean that lists a variable, with what it lists TIED to the program's text (the seventh form; the later family's looks); each row that meets fmt, with fmt's text TOLD by the authors' own Lean function (tested against real Go, not proved from fmt's source: count such statements apart). THE CARD IS WHAT COUNTS. Prove the row's statement (the work); the ties are given (YtibffdaljmmdoaaGreatDoorTie.lean); close each card by the builder's one call (the guide's Derived/Test/ToyasCard.lean, 'card_holds'). Laid BY PROGRAM, IN A SANDBOX (cutbox-door.mjs). By AI agents, Wed Nov 11 2026. No macro, syntax, notation, axiom, sorry.
-/
import Derived.Test.YtibffdaljmmdoaaGreatDoorRows
import GoSem.ClaimSeven
namespace Go.Proofs.YtibffdaljmmdoaaGreatDoor
namespace Rows

/-- THE TIED CARD OF 'foliantlaw46.CmapReads'. -/
def cmapReadsCard : Claim7 := { stood := { row := cmapReadsRow, standIns := [], harness := (true, "14f5e567273c13c5a695540e3033c5b9df7761f02679c6bfb2bf1787f50a1a5e"), looks := true }, kinds := [], alts := [], laidByText := true, laidKinds := [.data, .pinned], laidTests := true, laidLooks := .later }
def CmapReadsCardSaid : Prop := Claim7.holds Tryz.pinned (.plain (OpenSpec.ofChange cmapReadsSpec)) cmapReadsCard

/-- THE TIED CARD OF 'foliantlaw46.CmapTexts'. -/
def cmapTextsCard : Claim7 := { stood := { row := cmapTextsRow, standIns := [], harness := (true, "14f5e567273c13c5a695540e3033c5b9df7761f02679c6bfb2bf1787f50a1a5e"), looks := true }, kinds := [], alts := [], laidByText := true, laidKinds := [.data, .pinned], laidTests := true, laidLooks := .later }
def CmapTextsCardSaid : Prop := Claim7.holds Tryz.pinned (.plain (OpenSpec.ofChange cmapTextsSpec)) cmapTextsCard

/-- THE TIED CARD OF 'foliantlaw46.CmapBack'. -/
def cmapBackCard : Claim7 := { stood := { row := cmapBackRow, standIns := [], harness := (true, "14f5e567273c13c5a695540e3033c5b9df7761f02679c6bfb2bf1787f50a1a5e"), looks := true }, kinds := [], alts := [], laidByText := true, laidKinds := [.data, .pinned], laidTests := true, laidLooks := .later }
def CmapBackCardSaid : Prop := Claim7.holds Tryz.pinned (.plain (OpenSpec.ofChange cmapBackSpec)) cmapBackCard

/-- THE TIED CARD OF 'foliantlaw46.CmapUnits'. -/
def cmapUnitsCard : Claim7 := { stood := { row := cmapUnitsRow, standIns := [], harness := (true, "14f5e567273c13c5a695540e3033c5b9df7761f02679c6bfb2bf1787f50a1a5e"), looks := true }, kinds := [], alts := [], laidByText := true, laidKinds := [.data, .pinned], laidTests := true, laidLooks := .later }
def CmapUnitsCardSaid : Prop := Claim7.holds Tryz.pinned (.plain (OpenSpec.ofChange cmapUnitsSpec)) cmapUnitsCard

/-- THE TIED CARD OF 'foliantlaw46.CmapRanges'. -/
def cmapRangesCard : Claim7 := { stood := { row := cmapRangesRow, standIns := [], harness := (true, "14f5e567273c13c5a695540e3033c5b9df7761f02679c6bfb2bf1787f50a1a5e"), looks := true }, kinds := [], alts := [], laidByText := true, laidKinds := [.data, .pinned], laidTests := true, laidLooks := .later }
def CmapRangesCardSaid : Prop := Claim7.holds Tryz.pinned (.plain (OpenSpec.ofChange cmapRangesSpec)) cmapRangesCard

/-- THE SECOND FORM's CARD OF 'foliantlaw46.CmapReads'. -/
def cmapReadsUptoCard : Claim7 := { stood := { row := cmapReadsUptoRow, standIns := [], harness := (true, "14f5e567273c13c5a695540e3033c5b9df7761f02679c6bfb2bf1787f50a1a5e"), looks := true }, kinds := [], alts := [], laidByText := true, laidKinds := [.data, .pinned], laidTests := true, laidLooks := .later }
def CmapReadsUptoCardSaid : Prop := Claim7.holds Tryz.pinned (.plain (OpenSpec.upto cmapReadsSpec)) cmapReadsUptoCard

/-- THE SECOND FORM's CARD OF 'foliantlaw46.CmapTexts'. -/
def cmapTextsUptoCard : Claim7 := { stood := { row := cmapTextsUptoRow, standIns := [], harness := (true, "14f5e567273c13c5a695540e3033c5b9df7761f02679c6bfb2bf1787f50a1a5e"), looks := true }, kinds := [], alts := [], laidByText := true, laidKinds := [.data, .pinned], laidTests := true, laidLooks := .later }
def CmapTextsUptoCardSaid : Prop := Claim7.holds Tryz.pinned (.plain (OpenSpec.upto cmapTextsSpec)) cmapTextsUptoCard

/-- THE SECOND FORM's CARD OF 'foliantlaw46.CmapBack'. -/
def cmapBackUptoCard : Claim7 := { stood := { row := cmapBackUptoRow, standIns := [], harness := (true, "14f5e567273c13c5a695540e3033c5b9df7761f02679c6bfb2bf1787f50a1a5e"), looks := true }, kinds := [], alts := [], laidByText := true, laidKinds := [.data, .pinned], laidTests := true, laidLooks := .later }
def CmapBackUptoCardSaid : Prop := Claim7.holds Tryz.pinned (.plain (OpenSpec.upto cmapBackSpec)) cmapBackUptoCard

/-- THE SECOND FORM's CARD OF 'foliantlaw46.CmapUnits'. -/
def cmapUnitsUptoCard : Claim7 := { stood := { row := cmapUnitsUptoRow, standIns := [], harness := (true, "14f5e567273c13c5a695540e3033c5b9df7761f02679c6bfb2bf1787f50a1a5e"), looks := true }, kinds := [], alts := [], laidByText := true, laidKinds := [.data, .pinned], laidTests := true, laidLooks := .later }
def CmapUnitsUptoCardSaid : Prop := Claim7.holds Tryz.pinned (.plain (OpenSpec.upto cmapUnitsSpec)) cmapUnitsUptoCard

/-- THE SECOND FORM's CARD OF 'foliantlaw46.CmapRanges'. -/
def cmapRangesUptoCard : Claim7 := { stood := { row := cmapRangesUptoRow, standIns := [], harness := (true, "14f5e567273c13c5a695540e3033c5b9df7761f02679c6bfb2bf1787f50a1a5e"), looks := true }, kinds := [], alts := [], laidByText := true, laidKinds := [.data, .pinned], laidTests := true, laidLooks := .later }
def CmapRangesUptoCardSaid : Prop := Claim7.holds Tryz.pinned (.plain (OpenSpec.upto cmapRangesSpec)) cmapRangesUptoCard
end Rows
end Go.Proofs.YtibffdaljmmdoaaGreatDoor
