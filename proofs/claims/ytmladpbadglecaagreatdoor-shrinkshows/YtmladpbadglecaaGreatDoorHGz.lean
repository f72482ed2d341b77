/-
  The argument of the witness: a result of noughts.
-/
import Derived.Test.YtmladpbadglecaaGreatDoorCards
import Derived.Test.YtmladpbadglecaaGreatDoorTie
import Derived.WalkKit
import Derived.ProofKit
import Derived.OpenShut
import Derived.JoinedCond
import Derived.ChangeSlices
import Derived.Deep.DeepHandedRow
import Derived.Deep.DeepWitnessRowRef
import Derived.LaidMore
import Derived.SevenTiedAt
set_option linter.unusedSimpArgs false
set_option linter.unusedVariables false
namespace Go.Proofs.YtmladpbadglecaaGreatDoor
open Go
def rawZ : Value := .agg ⟨[.int .i64 0, .string .empty, .int .i64 0, .int .i64 0, .int .i64 0, .int .i64 0] ++ List.replicate 16 (.int .u8 0)⟩
def rawD {H : Type} : DataW H := .agg [.lit (.int .i64 0), .lit (.string []), .lit (.int .i64 0), .agg [.lit (.int .i64 0), .lit (.int .i64 0), .lit (.int .i64 0)], .agg (List.replicate 16 (.lit (.int .u8 0)))]
end Go.Proofs.YtmladpbadglecaaGreatDoor
namespace Go.Proofs.YtmladpbadglecaaGreatDoor
open Go
open Go.ChangeShapes Go.WideShapes Go.ChangeAt Go.RowKit
set_option maxRecDepth 100000
theorem reads (os : Os) {H : Type} (enc : TypeId × Value -> H) : ∃ places, DataW.whole enc Tryz.prog ((World.doorLaid Tryz.prog 127 os).forCall (fun _ _ => 0) ⟨#[], #[.slice none 0 0, .int .i64 0, rawZ, .int .i64 0, .string .empty, .int .i64 0], []⟩).memory Tryz.f3.params.toList Rows.shrinkShowsSpec.vars false #[Value.slice none 0 0, .int .i64 0, rawZ, .int .i64 0, .string .empty, .int .i64 0].toList 8 = some ([.nil, .lit (.int .i64 0), rawD, .lit (.int .i64 0), .lit (.string []), .lit (.int .i64 0)], [], places) :=
 ⟨[], by kernel_rfl⟩
theorem noInit0 : Tryz.checked.prog.inits.idxOf? 3 = none := by kernel_rfl
theorem okB (os : Os) : Input.okWideB Tryz.checked.prog ((World.doorLaid Tryz.prog 127 os).forCall (fun _ _ => 0) ⟨#[], #[.slice none 0 0, .int .i64 0, rawZ, .int .i64 0, .string .empty, .int .i64 0], []⟩) 3 ⟨#[], #[.slice none 0 0, .int .i64 0, rawZ, .int .i64 0, .string .empty, .int .i64 0], []⟩ = true := by kernel_rfl
end Go.Proofs.YtmladpbadglecaaGreatDoor
