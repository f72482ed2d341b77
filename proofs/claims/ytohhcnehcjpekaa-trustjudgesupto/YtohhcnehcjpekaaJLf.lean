/-
  Plain laws of sets that explain, and of forgers.
-/
import Derived.Test.YtohhcnehcjpekaaJLq
namespace Go.Proofs.Ytohhcnehcjpekaa
open Go Go.AM
set_option linter.unusedVariables false
theorem least_le {L : List (List Value)} {w : List Int} {k : Nat} (hk : k ≤ 6) (hw : w ∈ combs k six) (he : explainL L w = true) : (leastL L).length ≤ k := by
 have step : ∀ {j : Nat} {m : List (List Int)}, (∀ x, m.find? (explainL L) = some x → x.length ≤ k) → j ≤ k → ∀ x, (combs j six ++ m).find? (explainL L) = some x → x.length ≤ k := by
  intro j m hm hj x hx
  rw [List.find?_append] at hx
  cases hc : (combs j six).find? (explainL L) with
  | none => rw [hc] at hx; exact hm x hx
  | some y =>
   rw [hc] at hx
   cases hx
   have := (combs_len (List.mem_of_find?_eq_some hc)).1
   omega
 have hit : ∀ {m : List (List Int)} x, (combs k six ++ m).find? (explainL L) = some x → x.length ≤ k := by
  intro m x hx
  rw [List.find?_append] at hx
  cases hc : (combs k six).find? (explainL L) with
  | none =>
   have := List.find?_eq_none.1 hc w hw
   rw [he] at this
   simp at this
  | some y =>
   rw [hc] at hx
   cases hx
   have := (combs_len (List.mem_of_find?_eq_some hc)).1
   omega
 have all : ∀ x, (combs 0 six ++ (combs 1 six ++ (combs 2 six ++ (combs 3 six ++ (combs 4 six ++ (combs 5 six ++ combs 6 six)))))).find? (explainL L) = some x → x.length ≤ k := by
  have hit' : ∀ x, (combs k six).find? (explainL L) = some x → x.length ≤ k := fun x hx => hit (m := []) x (by rw [List.append_nil]; exact hx)
  rcases (by omega : k = 0 ∨ k = 1 ∨ k = 2 ∨ k = 3 ∨ k = 4 ∨ k = 5 ∨ k = 6) with rfl | rfl | rfl | rfl | rfl | rfl | rfl
  ·exact hit
  ·exact step hit (by omega)
  ·exact step (step hit (by omega)) (by omega)
  ·exact step (step (step hit (by omega)) (by omega)) (by omega)
  ·exact step (step (step (step hit (by omega)) (by omega)) (by omega)) (by omega)
  ·exact step (step (step (step (step hit (by omega)) (by omega)) (by omega)) (by omega)) (by omega)
  ·exact step (step (step (step (step (step hit' (by omega)) (by omega)) (by omega)) (by omega)) (by omega)) (by omega)
 unfold leastL
 cases hf : (combs 0 six ++ (combs 1 six ++ (combs 2 six ++ (combs 3 six ++ (combs 4 six ++ (combs 5 six ++ combs 6 six)))))).find? (explainL L) with
 | none => exact Nat.zero_le _
 | some x => exact all x hf
structure JSo (W : List Int) (w : Int) : Prop where
 sorted : W.Pairwise (· < ·)
 rng : ∀ v ∈ W, 0 ≤ v ∧ v ≤ w
theorem jStep_so {L R : List (List Value)} {w i : Int} {acc : List Int × List Int} (hw : 0 ≤ w) (h : JSo acc.1 w) : JSo (jStep L R w acc i).1 w := by
 unfold jStep
 split
 ·rename_i hc
  refine ⟨?_, ?_⟩
  ·simp only
   rw [List.pairwise_append]
   refine ⟨h.sorted, List.pairwise_singleton _ _, fun a ha b hb => ?_⟩
   have := h.rng a ha
   rw [List.mem_singleton.1 hb]
   rcases Int.lt_or_eq_of_le this.2 with q | q
   ·exact q
   ·exact absurd (q ▸ ha) hc.2.2
  ·intro v hv
   rcases List.mem_append.1 hv with hv | hv
   ·exact h.rng v hv
   ·rw [List.mem_singleton.1 hv]; exact ⟨hw, Int.le_refl _⟩
 ·exact h
theorem jIn_so {L R : List (List Value)} {w : Int} {acc : List Int × List Int} (hw : 0 ≤ w) (h : JSo acc.1 w) : ∀ n : Nat, JSo (jIn L R w acc n).1 w
 | 0 => h
 | n + 1 => by
  rw [show ((n + 1 : Nat) : Int) = (n : Int) + 1 by omega, jIn_next (by omega)]
  exact jStep_so hw (jIn_so hw h n)
theorem jOut_so {L R : List (List Value)} : ∀ n : Nat, JSo (jOut L R n).1 ((n : Int) - 1)
 | 0 => ⟨.nil, fun v h => by cases h⟩
 | n + 1 => by
  rw [show ((n + 1 : Nat) : Int) = (n : Int) + 1 by omega, jOut_next (by omega), show (n : Int) + 1 - 1 = n by omega]
  have := jOut_so (L := L) (R := R) n
  exact jIn_so (by omega) ⟨this.sorted, fun v hv => by have := this.rng v hv; omega⟩ _
end Go.Proofs.Ytohhcnehcjpekaa
