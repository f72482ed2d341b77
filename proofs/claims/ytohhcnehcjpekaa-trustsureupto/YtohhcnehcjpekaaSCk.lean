/-
  Contracts: checking of a finding.
-/
import Derived.Test.YtohhcnehcjpekaaSJd
import Derived.Test.YtohhcnehcjpekaaSA3
namespace Go.Proofs.Ytohhcnehcjpekaa
open Go.AM
set_option maxRecDepth 100000
set_option maxHeartbeats 1000000
set_option linter.unusedSimpArgs false
set_option linter.unusedVariables false

def resCk (a : List Value) : List Value := resC a
def chkG (L R : List (List Value)) (w a : List Int) (j : Int) : Bool := decide (0 ≤ ith a j) && decide (ith a j < L.length) && decide (wkr (nth L (ith a j)) = ith w j) && !eqCs (resC (nth L (ith a j))) (nth R (ith a j))
def checkE (L R : List (List Value)) (w a : List Int) : Int := if judgeE L R ≠ 0 then judgeE L R else if w = judgeW L R ∧ a.length = w.length ∧ (List.range a.length).all (fun (j : Nat) => chkG L R w a j) = true then 0 else 17
theorem checkE_err {L R : List (List Value)} {w a : List Int} (h : judgeE L R ≠ 0) : checkE L R w a = judgeE L R := by unfold checkE; rw [if_pos h]
theorem checkE_17 {L R : List (List Value)} {w a : List Int} (h : judgeE L R = 0) (h2 : ¬ w = judgeW L R ∨ ¬ (a.length : Int) = w.length) : checkE L R w a = 17 := by
  unfold checkE
  rw [if_neg (by omega), if_neg]
  rintro ⟨e1, e2, -⟩
  rcases h2 with h2 | h2
  · exact h2 e1
  · omega
theorem checkE_bad {L R : List (List Value)} {w a : List Int} {j : Int} (h : judgeE L R = 0) (h0 : 0 ≤ j) (h1 : j < a.length) (h2 : chkG L R w a j = false) : checkE L R w a = 17 := by
  unfold checkE
  rw [if_neg (by omega), if_neg]
  rintro ⟨-, -, e⟩
  rw [List.all_eq_true] at e
  have := e j.toNat (List.mem_range.2 (by omega))
  rw [show ((j.toNat : Nat) : Int) = j by omega, h2] at this
  cases this
theorem checkE_ok {L R : List (List Value)} {w a : List Int} (h : judgeE L R = 0) (h1 : w = judgeW L R) (h2 : (a.length : Int) = w.length) (h3 : ∀ j : Int, 0 ≤ j → j < a.length → chkG L R w a j = true) : checkE L R w a = 0 := by
  unfold checkE
  rw [if_neg (by omega), if_pos ⟨h1, by omega, List.all_eq_true.2 fun x hx => h3 x (by omega) (by have := List.mem_range.1 hx; omega)⟩]
theorem judgeE_len {L R : List (List Value)} (h : judgeE L R = 0) : (R.length : Int) = L.length := by
  unfold judgeE at h
  split at h
  · rename_i hc
    rw [Bool.and_eq_true, decide_eq_true_eq] at hc
    omega
  · omega
theorem chk_1 {L R : List (List Value)} {w a : List Int} {j : Int} (h : ith a j < 0) : chkG L R w a j = false := by unfold chkG; rw [decide_eq_false (by omega)]; rfl
theorem chk_2 {L R : List (List Value)} {w a : List Int} {j : Int} (h : (L.length : Int) ≤ ith a j) : chkG L R w a j = false := by unfold chkG; rw [decide_eq_false (p := ith a j < L.length) (by omega)]; simp
theorem chk_3 {L R : List (List Value)} {w a : List Int} {j : Int} (h : ¬ wkr (nth L (ith a j)) = ith w j) : chkG L R w a j = false := by unfold chkG; rw [decide_eq_false h]; simp
theorem chk_4 {L R : List (List Value)} {w a : List Int} {j : Int} (h : eqCs (resC (nth L (ith a j))) (nth R (ith a j)) = true) : chkG L R w a j = false := by unfold chkG; rw [h]; simp
theorem chk_y {L R : List (List Value)} {w a : List Int} {j : Int} (h0 : 0 ≤ ith a j) (h1 : ith a j < L.length) (h2 : wkr (nth L (ith a j)) = ith w j) (h3 : eqCs (resC (nth L (ith a j))) (nth R (ith a j)) = false) : chkG L R w a j = true := by unfold chkG; rw [decide_eq_true h0, decide_eq_true h1, decide_eq_true h2, h3]; rfl
theorem chk_step {L R : List (List Value)} {w a : List Int} {i : Int} (h : ∀ j : Int, 0 ≤ j → j < i → chkG L R w a j = true) (h2 : chkG L R w a i = true) : ∀ j : Int, 0 ≤ j → j < i + 1 → chkG L R w a j = true := by
  intro j h3 h4
  rcases Int.lt_or_le j i with h5 | h5
  · exact h j h3 h5
  · rw [show j = i by omega]; exact h2



end Go.Proofs.Ytohhcnehcjpekaa
