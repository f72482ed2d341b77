/-
  Closed facts of the card.
-/
import Derived.Test.YtfgmplbclpadbaaGreatDoorCards
import Derived.Test.YtfgmplbclpadbaaGreatDoorTie
import Derived.WalkKit
import Derived.ProofKit
import Derived.OpenShut
import Derived.JoinedCond
import Derived.ChangeSlices
import Derived.Deep.DeepHandedRow
import Derived.Deep.DeepWitnessRowRef
import Derived.LaidMore
import Derived.SevenTiedAt
set_option linter.unusedSimpArgs false
set_option linter.unusedVariables false
namespace Go.Proofs.YtfgmplbclpadbaaGreatDoor
open Go
open Go.ChangeShapes Go.WideShapes Go.ChangeAt Go.RowKit
set_option maxRecDepth 100000
theorem looksT : true = Tryz.pinned.checked.prog.looks [] := by kernel_rfl
theorem stand3 : Tryz.prog.wantsStandIn 3 = false := by kernel_rfl
theorem stand23 : Tryz.prog.wantsStandIn 23 = false := by kernel_rfl
theorem stand35 : Tryz.prog.wantsStandIn 35 = false := by kernel_rfl
theorem stand9 : Tryz.prog.wantsStandIn 9 = false := by kernel_rfl
theorem named4 : Tryz.prog.funcNamed "culprit/culpritlaw31.AnswerMessages" = some 4 := by kernel_rfl
theorem mainT : Tryz.pinned.checked.prog.mainIs = some (true, "f16f7635e03cf54e9212ae7427c1b5b9d7e6dba15ebc13744e5975664abcf82a".toList) := by kernel_rfl
end Go.Proofs.YtfgmplbclpadbaaGreatDoor
