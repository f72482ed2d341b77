/-
  Contracts: the small functions of the law.
-/
import Derived.Test.YtohhcnehcjpekaaJWo
namespace Go.Proofs.Ytohhcnehcjpekaa
open Go.AM
set_option maxRecDepth 100000
set_option maxHeartbeats 1000000
set_option linter.unusedSimpArgs false
set_option linter.unusedVariables false
def saidC (n s m : Int) : List Value := [.int .i64 n, .int .i64 0, .int .u8 0, .int .u8 0, .int .u8 0, .int .u8 0, .int .u8 0, .int .u8 0, .int .u8 0, .int .u8 0, .int .u8 0, .int .u8 0, .int .u8 0, .int .u8 0, .int .u8 0, .int .u8 0, .int .u8 0, .int .u8 0, .string .empty, .int .i64 0, .int .i64 0, .int .i64 0, .int .i64 s, .int .i64 0, .string .empty, .int .i64 0, .int .i64 m, .int .i64 0, .int .i64 0, .int .u8 0, .int .u8 0, .int .u8 0, .int .u8 0, .int .u8 0, .int .u8 0, .int .u8 0, .int .u8 0, .int .u8 0, .int .u8 0, .int .u8 0, .int .u8 0, .int .u8 0, .int .u8 0, .int .u8 0, .int .u8 0, .string .empty]
def wrongB (x : List Value) : Bool := !eqCs (resC x) (rightC (seedC (askC x)))
end Go.Proofs.Ytohhcnehcjpekaa
