/-
  DERIVED. GIVEN WITH THE SEED: THE CARDS: each row of YtlhlkjhjoalhoaaGreatDoorRows.lean that lists a variable, with what it lists TIED to the program's text (the seventh form; the later family's looks); each row that meets fmt, with fmt's text TOLD by the authors' own Lean function (tested against real Go, not proved from fmt's source: count such statements apart). THE CARD IS WHAT COUNTS. Prove the row's statement (the work); the ties are given (YtlhlkjhjoalhoaaGreatDoorTie.lean); close each card by the builder's one call (the guide's Derived/Test/ToyasCard.lean, 'card_holds'). Laid BY PROGRAM, IN A SANDBOX (cutbox-door.mjs). By AI agents, Wed Nov 11 2026. No macro, syntax, notation, axiom, sorry.
-/
import Derived.Test.YtlhlkjhjoalhoaaGreatDoorRows
import GoSem.ClaimSeven
namespace Go.Proofs.YtlhlkjhjoalhoaaGreatDoor
namespace Rows

/-- THE TIED CARD OF 'culpritlaw12.CommuteApart'. -/
def commuteApartCard : Claim7 := { stood := { row := commuteApartRow, standIns := [], harness := (true, "0b6df6d692c0d2bbd7688aa6ef561fa7d6663e70224e6ff93dbb34d1bdd46205"), looks := true }, kinds := [], alts := [], laidByText := true, laidKinds := [.data, .data, .data, .data, .sentinel, .sentinel, .widerDeep, .widerDeep, .data, .data, .data], laidTests := true, laidLooks := .later }
def CommuteApartCardSaid : Prop := Claim7.holds Tryz.pinned (.plain (OpenSpec.ofChange commuteApartSpec)) commuteApartCard

/-- THE SECOND FORM's CARD OF 'culpritlaw12.CommuteApart'. -/
def commuteApartUptoCard : Claim7 := { stood := { row := commuteApartUptoRow, standIns := [], harness := (true, "0b6df6d692c0d2bbd7688aa6ef561fa7d6663e70224e6ff93dbb34d1bdd46205"), looks := true }, kinds := [], alts := [], laidByText := true, laidKinds := [.data, .data, .data, .data, .sentinel, .sentinel, .widerDeep, .widerDeep, .data, .data, .data], laidTests := true, laidLooks := .later }
def CommuteApartUptoCardSaid : Prop := Claim7.holds Tryz.pinned (.plain (OpenSpec.upto commuteApartSpec)) commuteApartUptoCard
end Rows
end Go.Proofs.YtlhlkjhjoalhoaaGreatDoor
