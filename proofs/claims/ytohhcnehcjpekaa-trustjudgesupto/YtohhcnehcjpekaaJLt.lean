/-
  The law TrustLeft: her walk.
-/
import Derived.Test.YtohhcnehcjpekaaJLp
namespace Go.Proofs.Ytohhcnehcjpekaa
open Go.AM
set_option maxRecDepth 100000
set_option maxHeartbeats 1000000
set_option linter.unusedSimpArgs false
set_option linter.unusedVariables false
theorem same01_cT {H : AH} {s_l s_m : Value} {l m : List Int} (hr_l : Rd H 1 s_l l.length (ints l)) (hr_m : Rd H 1 s_m m.length (ints m)) (hb : l.length < 4611686018427387904) (h : l = m) : c_same01 [s_l, s_m] H = some (.bool true, H) := by
 have q := same01_c hr_l hr_m (by rw [ok_same01, decide_eq_true hb])
 rw [decide_eq_true h] at q
 exact q
end Go.Proofs.Ytohhcnehcjpekaa
