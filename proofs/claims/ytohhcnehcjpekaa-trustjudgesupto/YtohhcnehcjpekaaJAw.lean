/-
  Contracts: the agreed answers of the program.
-/
import Derived.Test.YtohhcnehcjpekaaJAp
namespace Go.Proofs.Ytohhcnehcjpekaa
open Go.AM
set_option maxRecDepth 100000
set_option maxHeartbeats 1000000
set_option linter.unusedSimpArgs false
set_option linter.unusedVariables false
def AccO (t : Tr AObj) (n1 m9 nx : Nat) (acc : List (List Value)) (v : Value) : Prop := (acc = [] ∧ v = .slice none 0 0) ∨ (0 < acc.length ∧ ∃ id r, v = .slice (some ⟨id, 0, none⟩) acc.length (acc.length + 46) ∧ OwnR t r id acc.flatten ∧ r ≠ m9 ∧ id ≠ m9 ∧ n1 ≤ r ∧ n1 ≤ id ∧ r < nx ∧ id < nx)
theorem AccO.keep {t t' : Tr AObj} {n1 m9 nx nx' : Nat} {acc : List (List Value)} {v : Value} (h : AccO t n1 m9 nx acc v) (hn : nx ≤ nx') (hk : ∀ id, n1 ≤ id → id < nx → id ≠ m9 → t'.get id = t.get id) : AccO t' n1 m9 nx' acc v := by
 rcases h with h | ⟨h0, id, r, h1, h2, h3, h4, h5, h6, h7, h8⟩
 ·exact .inl h
 ·exact .inr ⟨h0, id, r, h1, h2.keep (hk id h6 h8 h4) (hk r h5 h7 h3), h3, h4, h5, h6, by omega, by omega⟩
end Go.Proofs.Ytohhcnehcjpekaa
