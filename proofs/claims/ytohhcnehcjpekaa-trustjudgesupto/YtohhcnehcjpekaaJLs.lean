/-
  Contracts: the least explanation: a round of its loop, and the runs through the sets.
-/
import Derived.KernelRfl
import Derived.Test.YtohhcnehcjpekaaJLt
namespace Go.Proofs.Ytohhcnehcjpekaa
open Go Go.AM
set_option maxRecDepth 100000
set_option linter.unusedVariables false
end Go.Proofs.Ytohhcnehcjpekaa
