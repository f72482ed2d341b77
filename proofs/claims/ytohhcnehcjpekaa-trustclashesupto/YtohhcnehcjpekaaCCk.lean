/-
  Contracts: checking of a finding.
-/
import Derived.Test.YtohhcnehcjpekaaCMk
namespace Go.Proofs.Ytohhcnehcjpekaa
open Go.AM
set_option maxRecDepth 100000
set_option maxHeartbeats 1000000
set_option linter.unusedSimpArgs false
set_option linter.unusedVariables false
end Go.Proofs.Ytohhcnehcjpekaa
