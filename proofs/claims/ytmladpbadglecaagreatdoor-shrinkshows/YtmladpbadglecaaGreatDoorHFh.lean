/-
  Closed facts of the card.
-/
import Derived.Test.YtmladpbadglecaaGreatDoorCards
import Derived.Test.YtmladpbadglecaaGreatDoorTie
import Derived.WalkKit
import Derived.ProofKit
import Derived.OpenShut
import Derived.JoinedCond
import Derived.ChangeSlices
import Derived.Deep.DeepHandedRow
import Derived.Deep.DeepWitnessRowRef
import Derived.LaidMore
import Derived.SevenTiedAt
set_option linter.unusedSimpArgs false
set_option linter.unusedVariables false
namespace Go.Proofs.YtmladpbadglecaaGreatDoor
open Go
open Go.ChangeShapes Go.WideShapes Go.ChangeAt Go.RowKit
set_option maxRecDepth 100000
theorem looksT : true = Tryz.pinned.checked.prog.looks [] := by kernel_rfl
theorem stand3 : Tryz.prog.wantsStandIn 3 = false := by kernel_rfl
theorem stand9 : Tryz.prog.wantsStandIn 9 = false := by kernel_rfl
theorem stand22 : Tryz.prog.wantsStandIn 22 = false := by kernel_rfl
theorem stand28 : Tryz.prog.wantsStandIn 28 = false := by kernel_rfl
theorem named3 : Tryz.prog.funcNamed "culprit/culpritlaw14.ShrinkShows" = some 3 := by kernel_rfl
theorem mainT : Tryz.pinned.checked.prog.mainIs = some (true, "12b2c0e1eda1305f9619dca0cf009ba9904c28494888a06bee9d2be255e229f8".toList) := by kernel_rfl
end Go.Proofs.YtmladpbadglecaaGreatDoor
