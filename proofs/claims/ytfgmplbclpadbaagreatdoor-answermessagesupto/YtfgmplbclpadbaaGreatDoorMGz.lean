/-
  The argument of the witness: an answer of noughts.
-/
import Derived.Test.YtfgmplbclpadbaaGreatDoorCards
set_option linter.unusedSimpArgs false
set_option linter.unusedVariables false
namespace Go.Proofs.YtfgmplbclpadbaaGreatDoor
open Go
def rawZ : Value := .agg ⟨[.int .i64 0, .int .i64 0] ++ List.replicate 16 (.int .u8 0) ++ [.string .empty, .int .i64 0, .int .i64 0, .int .i64 0, .int .i64 0, .int .i64 0, .string .empty, .int .i64 0, .int .i64 0, .int .i64 0, .int .i64 0] ++ List.replicate 16 (.int .u8 0) ++ [.string .empty]⟩
def u16 {H : Type} : DataW H := .agg (List.replicate 16 (.lit (.int .u8 0)))
def rawD {H : Type} : DataW H := .agg [.lit (.int .i64 0), .lit (.int .i64 0), .agg [u16, .lit (.string []), .agg [.lit (.int .i64 0), .lit (.int .i64 0), .lit (.int .i64 0)], .lit (.int .i64 0)], .agg [.lit (.int .i64 0), .lit (.string []), .lit (.int .i64 0), .agg [.lit (.int .i64 0), .lit (.int .i64 0), .lit (.int .i64 0)], u16], .lit (.string [])]
end Go.Proofs.YtfgmplbclpadbaaGreatDoor
