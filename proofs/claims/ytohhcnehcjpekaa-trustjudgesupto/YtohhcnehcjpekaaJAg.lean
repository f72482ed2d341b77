/-
  Contracts: the agreed answers.
-/
import Derived.Test.YtohhcnehcjpekaaJCk
namespace Go.Proofs.Ytohhcnehcjpekaa
open Go.AM
set_option maxRecDepth 100000
set_option maxHeartbeats 1000000
set_option linter.unusedSimpArgs false
set_option linter.unusedVariables false
end Go.Proofs.Ytohhcnehcjpekaa
