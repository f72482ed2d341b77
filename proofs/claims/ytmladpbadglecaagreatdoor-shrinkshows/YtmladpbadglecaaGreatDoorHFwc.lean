/-
  A start that meets the row's condition: its variables, its heap.
-/
import Derived.Test.YtmladpbadglecaaGreatDoorCards
import Derived.Test.YtmladpbadglecaaGreatDoorTie
import Derived.Test.YtmladpbadglecaaGreatDoorHGz
import Derived.WalkKit
import Derived.ProofKit
import Derived.OpenShut
import Derived.JoinedCond
import Derived.ChangeSlices
import Derived.Deep.DeepHandedRow
import Derived.Deep.DeepWitnessRowRef
import Derived.LaidMore
import Derived.SevenTiedAt
set_option linter.unusedSimpArgs false
set_option linter.unusedVariables false
namespace Go.Proofs.YtmladpbadglecaaGreatDoor
open Go
open Go.ChangeShapes Go.WideShapes Go.ChangeAt Go.RowKit
set_option maxRecDepth 100000
theorem varsB (os : Os) : ((World.doorLaid Tryz.prog 127 os).forCall (fun _ _ => 0) ⟨#[], #[.slice none 0 0, .int .i64 0, rawZ, .int .i64 0, .string .empty, .int .i64 0], []⟩).variablesRefB Tryz.checked.prog = true := by kernel_rfl
theorem heapB (os : Os) : (((World.doorLaid Tryz.prog 127 os).forCall (fun _ _ => 0) ⟨#[], #[.slice none 0 0, .int .i64 0, rawZ, .int .i64 0, .string .empty, .int .i64 0], []⟩).heap.toList.drop Tryz.checked.prog.globals.size).take ((begin Tryz.checked.prog (fun _ _ => 0) default).world.heap.size - Tryz.checked.prog.globals.size) =
   (begin Tryz.checked.prog (fun _ _ => 0) default).world.heap.toList.drop Tryz.checked.prog.globals.size := by kernel_rfl
end Go.Proofs.YtmladpbadglecaaGreatDoor
