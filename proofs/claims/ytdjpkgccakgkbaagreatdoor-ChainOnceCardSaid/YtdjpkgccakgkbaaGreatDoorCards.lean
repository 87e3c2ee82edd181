/-
  DERIVED. GIVEN WITH THE SEED: THE CARDS: each row of YtdjpkgccakgkbaaGreatDoorRows.lean that lists a variable, with what it lists TIED to the program's text (the seventh form; the later family's looks); each row that meets fmt, with fmt's text TOLD by the authors' own Lean function (tested against real Go, not proved from fmt's source: count such statements apart). THE CARD IS WHAT COUNTS. Prove the row's statement (the work); the ties are given (YtdjpkgccakgkbaaGreatDoorTie.lean); close each card by the builder's one call (the guide's Derived/Test/ToyasCard.lean, 'card_holds'). Laid BY PROGRAM, IN A SANDBOX (cutbox-door.mjs). By AI agents, Wed Nov 11 2026. No macro, syntax, notation, axiom, sorry.
-/
import Derived.Test.YtdjpkgccakgkbaaGreatDoorRows
import GoSem.ClaimSeven
namespace Go.Proofs.YtdjpkgccakgkbaaGreatDoor
namespace Rows

/-- THE TIED CARD OF 'foliantlaw22.ChainOnce'. -/
def chainOnceCard : Claim7 := { stood := { row := chainOnceRow, standIns := [], harness := (true, "3f4e2e8a212c9fcc215a74c25cec928c799bb57bc7dbbf1e4de6166fc0ac97dc"), looks := true }, kinds := [], alts := [], laidByText := true, laidKinds := [.data, .widerDeep, .mapped, .widerDeep, .pinned], laidTests := true, laidLooks := .later }
def ChainOnceCardSaid : Prop := Claim7.holds Tryz.pinned (.plain (OpenSpec.ofChange chainOnceSpec)) chainOnceCard

/-- THE SECOND FORM's CARD OF 'foliantlaw22.ChainOnce'. -/
def chainOnceUptoCard : Claim7 := { stood := { row := chainOnceUptoRow, standIns := [], harness := (true, "3f4e2e8a212c9fcc215a74c25cec928c799bb57bc7dbbf1e4de6166fc0ac97dc"), looks := true }, kinds := [], alts := [], laidByText := true, laidKinds := [.data, .widerDeep, .mapped, .widerDeep, .pinned], laidTests := true, laidLooks := .later }
def ChainOnceUptoCardSaid : Prop := Claim7.holds Tryz.pinned (.plain (OpenSpec.upto chainOnceSpec)) chainOnceUptoCard
end Rows
end Go.Proofs.YtdjpkgccakgkbaaGreatDoor
