/-
  DERIVED. GIVEN WITH THE SEED: THE CARDS: each row of YtmladpbadglecaaGreatDoorRows.lean that lists a variable, with what it lists TIED to the program's text (the seventh form; the later family's looks); each row that meets fmt, with fmt's text TOLD by the authors' own Lean function (tested against real Go, not proved from fmt's source: count such statements apart). THE CARD IS WHAT COUNTS. Prove the row's statement (the work); the ties are given (YtmladpbadglecaaGreatDoorTie.lean); close each card by the builder's one call (the guide's Derived/Test/ToyasCard.lean, 'card_holds'). Laid BY PROGRAM, IN A SANDBOX (cutbox-door.mjs). By AI agents, Wed Nov 11 2026. No macro, syntax, notation, axiom, sorry.
-/
import Derived.Test.YtmladpbadglecaaGreatDoorRows
import GoSem.ClaimSeven
namespace Go.Proofs.YtmladpbadglecaaGreatDoor
namespace Rows

/-- THE TIED CARD OF 'culpritlaw14.ShrinkShows'. -/
def shrinkShowsCard : Claim7 := { stood := { row := shrinkShowsRow, standIns := [], harness := (true, "12b2c0e1eda1305f9619dca0cf009ba9904c28494888a06bee9d2be255e229f8"), looks := true }, kinds := [], alts := [], laidByText := true, laidKinds := [.data, .data, .data, .data, .sentinel, .sentinel, .widerDeep, .widerDeep, .data, .data, .data], laidTests := true, laidLooks := .later }
def ShrinkShowsCardSaid : Prop := Claim7.holds Tryz.pinned (.plain (OpenSpec.ofChange shrinkShowsSpec)) shrinkShowsCard

/-- THE SECOND FORM's CARD OF 'culpritlaw14.ShrinkShows'. -/
def shrinkShowsUptoCard : Claim7 := { stood := { row := shrinkShowsUptoRow, standIns := [], harness := (true, "12b2c0e1eda1305f9619dca0cf009ba9904c28494888a06bee9d2be255e229f8"), looks := true }, kinds := [], alts := [], laidByText := true, laidKinds := [.data, .data, .data, .data, .sentinel, .sentinel, .widerDeep, .widerDeep, .data, .data, .data], laidTests := true, laidLooks := .later }
def ShrinkShowsUptoCardSaid : Prop := Claim7.holds Tryz.pinned (.plain (OpenSpec.upto shrinkShowsSpec)) shrinkShowsUptoCard
end Rows
end Go.Proofs.YtmladpbadglecaaGreatDoor
