/-
  A start that meets the row's condition: what is read there; that it is a start.
-/
import Derived.Test.YtfgmplbclpadbaaGreatDoorCards
import Derived.Test.YtfgmplbclpadbaaGreatDoorMGz
import Derived.Test.YtfgmplbclpadbaaGreatDoorTie
import Derived.WalkKit
import Derived.ProofKit
import Derived.OpenShut
import Derived.JoinedCond
import Derived.ChangeSlices
import Derived.Deep.DeepHandedRow
import Derived.Deep.DeepWitnessRowRef
import Derived.LaidMore
import Derived.SevenTiedAt
set_option linter.unusedSimpArgs false
set_option linter.unusedVariables false
namespace Go.Proofs.YtfgmplbclpadbaaGreatDoor
open Go
open Go.ChangeShapes Go.WideShapes Go.ChangeAt Go.RowKit
set_option maxRecDepth 100000
theorem reads (os : Os) {H : Type} (enc : TypeId × Value -> H) : ∃ places, DataW.whole enc Tryz.prog ((World.doorLaid Tryz.prog 127 os).forCall (fun _ _ => 0) ⟨#[], #[.int .i64 0, .int .i64 0, .int .i64 0, .int .i64 0, rawZ, .string .empty, .slice none 0 0], []⟩).memory Tryz.f4.params.toList Rows.answerMessagesSpec.vars false #[Value.int .i64 0, .int .i64 0, .int .i64 0, .int .i64 0, rawZ, .string .empty, .slice none 0 0].toList 8 = some ([.lit (.int .i64 0), .lit (.int .i64 0), .lit (.int .i64 0), .lit (.int .i64 0), rawD, .lit (.string []), .nil], [], places) :=
 ⟨[], by kernel_rfl⟩
theorem noInit0 : Tryz.checked.prog.inits.idxOf? 4 = none := by kernel_rfl
theorem okB (os : Os) : Input.okWideB Tryz.checked.prog ((World.doorLaid Tryz.prog 127 os).forCall (fun _ _ => 0) ⟨#[], #[.int .i64 0, .int .i64 0, .int .i64 0, .int .i64 0, rawZ, .string .empty, .slice none 0 0], []⟩) 4 ⟨#[], #[.int .i64 0, .int .i64 0, .int .i64 0, .int .i64 0, rawZ, .string .empty, .slice none 0 0], []⟩ = true := by kernel_rfl
end Go.Proofs.YtfgmplbclpadbaaGreatDoor
