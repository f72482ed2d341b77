/-
  The least explanation of the reference: her loop over all sets finds the same one as the program's.
-/
import Derived.Test.YtohhcnehcjpekaaJLx
namespace Go.Proofs.Ytohhcnehcjpekaa
open Go.AM
set_option maxRecDepth 100000
set_option linter.unusedVariables false
def BestP (t : Tr AObj) (nx : Nat) (v : Value) (z : Bool × List Int) : Prop := (z.1 = true ∧ z.2.length = 6 ∧ ∃ id, v = .slice (some ⟨id, 0, none⟩) 6 6 ∧ OwnR t id id (ints z.2) ∧ id < nx ∧ 0 < id) ∨ (z.1 = false ∧ ∃ S, AccP t 1 nx S 1 v z.2.length (ints z.2))
theorem BestP.q {t : Tr AObj} {nx : Nat} {v : Value} {z : Bool × List Int} (h : BestP t nx v z) : RdQ t nx 1 v z.2.length (ints z.2) := by
 rcases h with ⟨_, hl, id, rfl, h2, h3, _⟩ | ⟨_, S, h⟩
 ·exact .inr ⟨by rw [ints_len, Nat.mul_one], id, id, 6, by rw [hl], .inl hl.symm, h2, h3, h3⟩
 ·exact h.rds.q
theorem BestP.keep {t t' : Tr AObj} {nx nx' : Nat} {v : Value} {z : Bool × List Int} (h : BestP t nx v z) (hn : nx ≤ nx') (hk : ∀ id, id < nx → t'.get id = t.get id) : BestP t' nx' v z := by
 rcases h with ⟨h0, hl, id, h1, h2, h3, h4⟩ | ⟨h0, S, h⟩
 ·exact .inl ⟨h0, hl, id, h1, h2.keep (hk _ h3) (hk _ h3), by omega, h4⟩
 ·exact .inr ⟨h0, S, h.keep hn fun x hx => hk x (h.bnd x hx).2⟩
theorem AccP.low {t : Tr AObj} {n0 n1 nx k n : Nat} {S : Nat → Prop} {v : Value} {d : List Value} (h : AccP t n0 nx S k v n d) (h1 : n1 ≤ n0) : AccP t n1 nx S k v n d := ⟨h.acc, fun x hx => by have := h.bnd x hx; omega⟩
end Go.Proofs.Ytohhcnehcjpekaa
