/-
  Plain laws of what is sure: it does not hang on the order, and it is right.
-/
import Derived.Test.YtohhcnehcjpekaaJAw
namespace Go.Proofs.Ytohhcnehcjpekaa
open Go Go.AM
set_option linter.unusedVariables false
theorem sorted_ext : ∀ {l m : List Int}, l.Pairwise (· < ·) → m.Pairwise (· < ·) → (∀ v, v ∈ l ↔ v ∈ m) → l = m
 | [], [], _, _, _ => rfl
 | [], b :: m, _, _, h => absurd ((h b).2 (List.mem_cons_self ..)) (by simp)
 | a :: l, [], _, _, h => absurd ((h a).1 (List.mem_cons_self ..)) (by simp)
 | a :: l, b :: m, h1, h2, h => by
  rw [List.pairwise_cons] at h1 h2
  have hab : a = b := by
   have q1 := (h a).1 (List.mem_cons_self ..)
   have q2 := (h b).2 (List.mem_cons_self ..)
   rcases List.mem_cons.1 q1 with e | q1
   ·exact e
   rcases List.mem_cons.1 q2 with e | q2
   ·exact e.symm
   have := h1.1 _ q2
   have := h2.1 _ q1
   omega
  subst hab
  rw [sorted_ext h1.2 h2.2 fun v => ?_]
  constructor
  ·intro hv
   rcases List.mem_cons.1 ((h v).1 (List.mem_cons_of_mem _ hv)) with e | q
   ·have := h1.1 _ hv; omega
   ·exact q
  ·intro hv
   rcases List.mem_cons.1 ((h v).2 (List.mem_cons_of_mem _ hv)) with e | q
   ·have := h2.1 _ hv; omega
   ·exact q
theorem mem_nth {L : List (List Value)} {x : List Value} : x ∈ L ↔ ∃ i : Int, 0 ≤ i ∧ i < L.length ∧ x = nth L i := by
 constructor
 ·intro h
  obtain ⟨i, hi, rfl⟩ := List.mem_iff_getElem.1 h
  exact ⟨i, by omega, by omega, by rw [nth_eq (by omega)]; simp⟩
 ·rintro ⟨i, h0, h1, rfl⟩
  exact nth_mem h0 h1
structure Mk (A R : List (List Value)) : Prop where
 len : A.length = R.length
 cfA : cfs T.K43 A
 cfR : cfs T.K41 R
 odd : A.any oddC = false
 ask : ∀ x ∈ A, ∃ s : Int, 0 ≤ s ∧ s < 4 ∧ askC x = askN s
 res : ∀ i : Int, 0 ≤ i → i < A.length → nth R i = rightC (seedC (askC (nth A i)))
theorem Mk.wk {A R : List (List Value)} (h : Mk A R) {x : List Value} (hx : x ∈ A) : 0 ≤ wkr x ∧ wkr x < 6 := by
 have := List.any_eq_false.1 h.odd x hx
 unfold oddC at this
 simp only [Bool.or_eq_true, decide_eq_true_eq, not_or] at this
 omega
theorem Mk.poss {A R : List (List Value)} (h : Mk A R) : possL A = true := by
 unfold possL
 rw [List.all_eq_true]
 intro a ha
 have := List.any_eq_false.1 h.odd a ha
 simpa using this
theorem Mk.E {A R : List (List Value)} (h : Mk A R) : judgeE A R = 0 := by
 refine judgeE_0 (by have := h.len; omega) h.poss (clashR_no fun i k h0 h1 h2 => ?_)
 unfold badR
 cases hc : eqCs (askC (nth A i)) (askC (nth A k)) with
 | false => rfl
 | true =>
  have e := (ask_iff (cf_nth h.cfA h0 (by omega))).1 hc
  rw [h.res i h0 (by omega), h.res k (by omega) h2, e, eqCs_self (rightC_cf _)]
  rfl
theorem Mk.judge {A R : List (List Value)} (h : Mk A R) {v : Int} : v ∈ judgeW A R ↔ ∃ x ∈ A, wkr x = v ∧ wrongB x = true := by
 constructor
 ·intro hv
  obtain ⟨j, hj, e⟩ := List.mem_iff_getElem.1 hv
  obtain ⟨q1, q2, q3, q4⟩ := (judge_ok h.E).ok j (by omega) (by simp only; omega)
  simp only at q1 q2 q3 q4
  refine ⟨_, nth_mem q1 q2, ?_, ?_⟩
  ·rw [q3, ← e]
   unfold ith
   rw [Int.toNat_natCast, List.getD_eq_getElem?_getD, List.getElem?_eq_getElem hj]
   rfl
  ·rw [h.res _ q1 q2] at q4
   unfold wrongB
   rw [q4]; rfl
 ·rintro ⟨x, hx, rfl, hw⟩
  obtain ⟨i, h0, h1, rfl⟩ := mem_nth.1 hx
  refine judge_has h.E h0 h1 (h.wk hx) ?_
  rw [h.res i h0 h1]
  unfold wrongB at hw
  simpa using hw
theorem judge_sorted {A R : List (List Value)} : (judgeW A R).Pairwise (· < ·) := by
 unfold judgeW
 split
 ·exact (jOut_so 6).sorted
 ·exact .nil
theorem Mk.same {A R B S : List (List Value)} (h : Mk A R) (h' : Mk B S) (hm : ∀ x, x ∈ A ↔ x ∈ B) : judgeW A R = judgeW B S := by
 refine sorted_ext judge_sorted judge_sorted fun v => ?_
 rw [h.judge, h'.judge]
 constructor
 ·rintro ⟨x, hx, k⟩; exact ⟨x, (hm x).1 hx, k⟩
 ·rintro ⟨x, hx, k⟩; exact ⟨x, (hm x).2 hx, k⟩
end Go.Proofs.Ytohhcnehcjpekaa
