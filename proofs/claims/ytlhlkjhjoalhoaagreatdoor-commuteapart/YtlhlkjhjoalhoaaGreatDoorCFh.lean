/-
  Closed facts of the card.
-/
import Derived.Test.YtlhlkjhjoalhoaaGreatDoorCards
import Derived.Test.YtlhlkjhjoalhoaaGreatDoorTie
import Derived.WalkKit
import Derived.ProofKit
import Derived.OpenShut
import Derived.JoinedCond
import Derived.ChangeSlices
import Derived.Deep.DeepHandedRow
import Derived.Deep.DeepWitnessRowRef
import Derived.LaidMore
import Derived.SevenTiedAt
set_option linter.unusedSimpArgs false
set_option linter.unusedVariables false
namespace Go.Proofs.YtlhlkjhjoalhoaaGreatDoor
open Go
open Go.ChangeShapes Go.WideShapes Go.ChangeAt Go.RowKit
set_option maxRecDepth 100000
theorem looksT : true = Tryz.pinned.checked.prog.looks [] := by kernel_rfl
theorem stand22 : Tryz.prog.wantsStandIn 22 = false := by kernel_rfl
theorem named3 : Tryz.prog.funcNamed "culprit/culpritlaw12.CommuteApart" = some 3 := by kernel_rfl
theorem mainT : Tryz.pinned.checked.prog.mainIs = some (true, "0b6df6d692c0d2bbd7688aa6ef561fa7d6663e70224e6ff93dbb34d1bdd46205".toList) := by kernel_rfl
end Go.Proofs.YtlhlkjhjoalhoaaGreatDoor
