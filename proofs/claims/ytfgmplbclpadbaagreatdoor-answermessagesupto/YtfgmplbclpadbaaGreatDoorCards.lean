/-
  DERIVED. GIVEN WITH THE SEED: THE CARDS: each row of YtfgmplbclpadbaaGreatDoorRows.lean that lists a variable, with what it lists TIED to the program's text (the seventh form; the later family's looks); each row that meets fmt, with fmt's text TOLD by the authors' own Lean function (tested against real Go, not proved from fmt's source: count such statements apart). THE CARD IS WHAT COUNTS. Prove the row's statement (the work); the ties are given (YtfgmplbclpadbaaGreatDoorTie.lean); close each card by the builder's one call (the guide's Derived/Test/ToyasCard.lean, 'card_holds'). Laid BY PROGRAM, IN A SANDBOX (cutbox-door.mjs). By AI agents, Wed Nov 11 2026. No macro, syntax, notation, axiom, sorry.
-/
import Derived.Test.YtfgmplbclpadbaaGreatDoorRows
import GoSem.ClaimSeven
namespace Go.Proofs.YtfgmplbclpadbaaGreatDoor
namespace Rows

/-- THE TIED CARD OF 'culpritlaw31.AnswerReads'. -/
def answerReadsCard : Claim7 := { stood := { row := answerReadsRow, standIns := [], harness := (true, "f16f7635e03cf54e9212ae7427c1b5b9d7e6dba15ebc13744e5975664abcf82a"), looks := true }, kinds := [], alts := [], laidByText := true, laidKinds := [.data, .data, .data, .data, .sentinel, .sentinel, .widerDeep, .widerDeep, .data, .data, .data], laidTests := true, laidLooks := .later }
def AnswerReadsCardSaid : Prop := Claim7.holds Tryz.pinned (.plain (OpenSpec.ofChange answerReadsSpec)) answerReadsCard

/-- THE TIED CARD OF 'culpritlaw31.AnswerMessages'. -/
def answerMessagesCard : Claim7 := { stood := { row := answerMessagesRow, standIns := [], harness := (true, "f16f7635e03cf54e9212ae7427c1b5b9d7e6dba15ebc13744e5975664abcf82a"), looks := true }, kinds := [], alts := [], laidByText := true, laidKinds := [.data, .data, .data, .data, .sentinel, .sentinel, .widerDeep, .widerDeep, .data, .data, .data], laidTests := true, laidLooks := .later }
def AnswerMessagesCardSaid : Prop := Claim7.holds Tryz.pinned (.plain (OpenSpec.ofChange answerMessagesSpec)) answerMessagesCard

/-- THE SECOND FORM's CARD OF 'culpritlaw31.AnswerReads'. -/
def answerReadsUptoCard : Claim7 := { stood := { row := answerReadsUptoRow, standIns := [], harness := (true, "f16f7635e03cf54e9212ae7427c1b5b9d7e6dba15ebc13744e5975664abcf82a"), looks := true }, kinds := [], alts := [], laidByText := true, laidKinds := [.data, .data, .data, .data, .sentinel, .sentinel, .widerDeep, .widerDeep, .data, .data, .data], laidTests := true, laidLooks := .later }
def AnswerReadsUptoCardSaid : Prop := Claim7.holds Tryz.pinned (.plain (OpenSpec.upto answerReadsSpec)) answerReadsUptoCard

/-- THE SECOND FORM's CARD OF 'culpritlaw31.AnswerMessages'. -/
def answerMessagesUptoCard : Claim7 := { stood := { row := answerMessagesUptoRow, standIns := [], harness := (true, "f16f7635e03cf54e9212ae7427c1b5b9d7e6dba15ebc13744e5975664abcf82a"), looks := true }, kinds := [], alts := [], laidByText := true, laidKinds := [.data, .data, .data, .data, .sentinel, .sentinel, .widerDeep, .widerDeep, .data, .data, .data], laidTests := true, laidLooks := .later }
def AnswerMessagesUptoCardSaid : Prop := Claim7.holds Tryz.pinned (.plain (OpenSpec.upto answerMessagesSpec)) answerMessagesUptoCard
end Rows
end Go.Proofs.YtfgmplbclpadbaaGreatDoor
