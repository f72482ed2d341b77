/-
  A start that meets the row's condition: what the door's own run leaves.
-/
import Derived.Test.YtmladpbadglecaaGreatDoorCards
import Derived.Test.YtmladpbadglecaaGreatDoorTie
import Derived.Test.YtmladpbadglecaaGreatDoorHGz
import Derived.WalkKit
import Derived.ProofKit
import Derived.OpenShut
import Derived.JoinedCond
import Derived.ChangeSlices
import Derived.Deep.DeepHandedRow
import Derived.Deep.DeepWitnessRowRef
import Derived.LaidMore
import Derived.SevenTiedAt
set_option linter.unusedSimpArgs false
set_option linter.unusedVariables false
namespace Go.Proofs.YtmladpbadglecaaGreatDoor
open Go
open Go.ChangeShapes Go.WideShapes Go.ChangeAt Go.RowKit
set_option maxRecDepth 100000
theorem door_met (os : Os) : laidMet Tryz.prog Rows.shrinkShowsRow.laid ((World.doorLaid Tryz.prog 127 os).forCall (fun _ _ => 0) ⟨#[], #[.slice none 0 0, .int .i64 0, rawZ, .int .i64 0, .string .empty, .int .i64 0], []⟩).memory :=
 laidMet_of_run' 8 (by kernel_rfl) (by kernel_rfl)
end Go.Proofs.YtmladpbadglecaaGreatDoor
