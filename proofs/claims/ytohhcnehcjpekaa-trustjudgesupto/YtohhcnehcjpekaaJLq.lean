/-
  Contracts: the least explanation.
-/
import Derived.Test.YtohhcnehcjpekaaJLm
namespace Go.Proofs.Ytohhcnehcjpekaa
open Go.AM
set_option maxRecDepth 100000
set_option maxHeartbeats 1000000
set_option linter.unusedSimpArgs false
set_option linter.unusedVariables false
def leastL (L : List (List Value)) : List Int := ((combs 0 six ++ (combs 1 six ++ (combs 2 six ++ (combs 3 six ++ (combs 4 six ++ (combs 5 six ++ combs 6 six)))))).find? (explainL L)).getD []
end Go.Proofs.Ytohhcnehcjpekaa
