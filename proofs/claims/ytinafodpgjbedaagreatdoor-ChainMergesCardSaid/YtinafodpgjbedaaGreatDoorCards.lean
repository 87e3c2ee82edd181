/-
  DERIVED. GIVEN WITH THE SEED: THE CARDS: each row of YtinafodpgjbedaaGreatDoorRows.lean that lists a variable, with what it lists TIED to the program's text (the seventh form; the later family's looks); each row that meets fmt, with fmt's text TOLD by the authors' own Lean function (tested against real Go, not proved from fmt's source: count such statements apart). THE CARD IS WHAT COUNTS. Prove the row's statement (the work); the ties are given (YtinafodpgjbedaaGreatDoorTie.lean); close each card by the builder's one call (the guide's Derived/Test/ToyasCard.lean, 'card_holds'). Laid BY PROGRAM, IN A SANDBOX (cutbox-door.mjs). By AI agents, Wed Nov 11 2026. No macro, syntax, notation, axiom, sorry.
-/
import Derived.Test.YtinafodpgjbedaaGreatDoorRows
import GoSem.ClaimSeven
namespace Go.Proofs.YtinafodpgjbedaaGreatDoor
namespace Rows

/-- THE TIED CARD OF 'foliantlaw22.ChainMerges'. -/
def chainMergesCard : Claim7 := { stood := { row := chainMergesRow, standIns := [], harness := (true, "f7a820d3f42b0acdb5a26b3f09c66cac927c120fc7a1ca0b6f38dc6036799323"), looks := true }, kinds := [], alts := [], laidByText := true, laidKinds := [.data, .widerDeep, .mapped, .widerDeep, .pinned], laidTests := true, laidLooks := .later }
def ChainMergesCardSaid : Prop := Claim7.holds Tryz.pinned (.plain (OpenSpec.ofChange chainMergesSpec)) chainMergesCard

/-- THE TIED CARD OF 'foliantlaw22.ChainParts'. -/
def chainPartsCard : Claim7 := { stood := { row := chainPartsRow, standIns := [], harness := (true, "f7a820d3f42b0acdb5a26b3f09c66cac927c120fc7a1ca0b6f38dc6036799323"), looks := true }, kinds := [], alts := [], laidByText := true, laidKinds := [.data, .widerDeep, .mapped, .widerDeep, .pinned], laidTests := true, laidLooks := .later }
def ChainPartsCardSaid : Prop := Claim7.holds Tryz.pinned (.plain (OpenSpec.ofChange chainPartsSpec)) chainPartsCard

/-- THE SECOND FORM's CARD OF 'foliantlaw22.ChainMerges'. -/
def chainMergesUptoCard : Claim7 := { stood := { row := chainMergesUptoRow, standIns := [], harness := (true, "f7a820d3f42b0acdb5a26b3f09c66cac927c120fc7a1ca0b6f38dc6036799323"), looks := true }, kinds := [], alts := [], laidByText := true, laidKinds := [.data, .widerDeep, .mapped, .widerDeep, .pinned], laidTests := true, laidLooks := .later }
def ChainMergesUptoCardSaid : Prop := Claim7.holds Tryz.pinned (.plain (OpenSpec.upto chainMergesSpec)) chainMergesUptoCard

/-- THE SECOND FORM's CARD OF 'foliantlaw22.ChainParts'. -/
def chainPartsUptoCard : Claim7 := { stood := { row := chainPartsUptoRow, standIns := [], harness := (true, "f7a820d3f42b0acdb5a26b3f09c66cac927c120fc7a1ca0b6f38dc6036799323"), looks := true }, kinds := [], alts := [], laidByText := true, laidKinds := [.data, .widerDeep, .mapped, .widerDeep, .pinned], laidTests := true, laidLooks := .later }
def ChainPartsUptoCardSaid : Prop := Claim7.holds Tryz.pinned (.plain (OpenSpec.upto chainPartsSpec)) chainPartsUptoCard
end Rows
end Go.Proofs.YtinafodpgjbedaaGreatDoor
