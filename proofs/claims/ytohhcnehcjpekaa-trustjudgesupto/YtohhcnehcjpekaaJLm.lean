/-
  The runs through the sets of workers, in the kernel: what an oracle says of a set decides where a run ends.
-/
import Derived.Test.YtohhcnehcjpekaaJLs
namespace Go.Proofs.Ytohhcnehcjpekaa
open Go Go.AM
set_option maxRecDepth 100000
def combs : Nat → List Int → List (List Int)
 | 0, _ => [[]]
 | _ + 1, [] => []
 | k + 1, x :: r => (combs k r).map (x :: ·) ++ combs (k + 1) r
def six : List Int := [0, 1, 2, 3, 4, 5]
theorem combs_len : ∀ {k : Nat} {l w : List Int}, w ∈ combs k l → w.length = k ∧ w.length ≤ l.length
 | 0, l, w, h => by simp only [combs, List.mem_singleton] at h; subst h; simp
 | k + 1, [], w, h => by simp [combs] at h
 | k + 1, x :: r, w, h => by
  simp only [combs, List.mem_append, List.mem_map] at h
  rcases h with ⟨v, hv, rfl⟩ | h
  ·have := combs_len hv; simp; omega
  ·have := combs_len h; simp; omega
end Go.Proofs.Ytohhcnehcjpekaa
