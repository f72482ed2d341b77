/-
  Plain laws of made answers and of what Judge finds.
-/
import Derived.Test.YtohhcnehcjpekaaJLu
namespace Go.Proofs.Ytohhcnehcjpekaa
open Go Go.AM
set_option linter.unusedVariables false
theorem zeros_rep {z : List Value} : ∀ n : Nat, zerosC z n = (List.replicate n z).flatten
 | 0 => rfl
 | n + 1 => by rw [zerosC, zeros_rep n, List.replicate_succ, List.flatten_cons]
theorem mkr_nth {l : List Int} {k i : Int} (h0 : 0 ≤ i) (h1 : i < k) : nth (mkR l k) i = rightC (sdM (ith l i)) := by
 have hl : i.toNat < (mkR l k).length := by rw [mkR_len]; omega
 rw [nth_eq (by omega)]
 simp only [mkR, List.getElem_map, List.getElem_range, Int.toNat_of_nonneg h0]
theorem eqCs_self {ks : List Lk} {a : List Value} (h : cf ks a = true) : eqCs a a = true := (eqCs_iff h).2 rfl
structure JOk (L R : List (List Value)) (acc : List Int × List Int) : Prop where
 len : acc.1.length = acc.2.length
 ok : ∀ j : Int, 0 ≤ j → j < acc.1.length → 0 ≤ ith acc.2 j ∧ ith acc.2 j < L.length ∧ wkr (nth L (ith acc.2 j)) = ith acc.1 j ∧ eqCs (resC (nth L (ith acc.2 j))) (nth R (ith acc.2 j)) = false
theorem ith_left {l m : List Int} {j : Int} (h : j.toNat < l.length) : ith (l ++ m) j = ith l j := by
 unfold ith
 rw [List.getD_eq_getElem?_getD, List.getD_eq_getElem?_getD, List.getElem?_append_left h]
theorem ith_last {l : List Int} {x : Int} : ith (l ++ [x]) l.length = x := by
 unfold ith
 simp
theorem jStep_ok {L R : List (List Value)} {w i : Int} {acc : List Int × List Int} (h : JOk L R acc) (h0 : 0 ≤ i) (h1 : i < L.length) : JOk L R (jStep L R w acc i) := by
 unfold jStep
 split
 ·rename_i hc
  refine ⟨by simp [h.len], fun j h2 h3 => ?_⟩
  simp only [List.length_append, List.length_cons, List.length_nil] at h3
  rcases Int.lt_or_le j acc.1.length with h4 | h4
  ·have hl := h.len
   have := h.ok j h2 h4
   simp only
   rw [ith_left (by omega), ith_left (by omega)]
   exact this
  ·have : j = acc.1.length := by omega
   subst this
   have e1 : ith (acc.1 ++ [w]) (acc.1.length : Int) = w := ith_last
   have e2 : ith (acc.2 ++ [i]) (acc.1.length : Int) = i := by rw [h.len]; exact ith_last
   simp only [e1, e2]
   exact ⟨h0, h1, hc.1, hc.2.1⟩
 ·exact h
theorem jIn_ok {L R : List (List Value)} {w : Int} {acc : List Int × List Int} (h : JOk L R acc) : ∀ n : Nat, n ≤ L.length → JOk L R (jIn L R w acc n)
 | 0, _ => h
 | n + 1, hn => by
  rw [show ((n + 1 : Nat) : Int) = (n : Int) + 1 by omega, jIn_next (by omega)]
  exact jStep_ok (jIn_ok h n (by omega)) (by omega) (by omega)
theorem jOut_ok {L R : List (List Value)} : ∀ n : Nat, JOk L R (jOut L R n)
 | 0 => ⟨rfl, fun j h1 h2 => by simp only [jOut] at h2; simp at h2; omega⟩
 | n + 1 => by
  rw [show ((n + 1 : Nat) : Int) = (n : Int) + 1 by omega, jOut_next (by omega)]
  exact jIn_ok (jOut_ok n) L.length (Nat.le_refl _)
theorem jStep_mono {L R : List (List Value)} {w v i : Int} {acc : List Int × List Int} (h : v ∈ acc.1) : v ∈ (jStep L R w acc i).1 := by
 unfold jStep
 split
 ·exact List.mem_append_left _ h
 ·exact h
theorem jIn_mono {L R : List (List Value)} {w v : Int} {acc : List Int × List Int} (h : v ∈ acc.1) : ∀ n : Nat, v ∈ (jIn L R w acc n).1
 | 0 => h
 | n + 1 => by
  rw [show ((n + 1 : Nat) : Int) = (n : Int) + 1 by omega, jIn_next (by omega)]
  exact jStep_mono (jIn_mono h n)
theorem jOut_mono {L R : List (List Value)} {v : Int} {m : Nat} : ∀ n : Nat, v ∈ (jOut L R m).1 → m ≤ n → v ∈ (jOut L R n).1
 | 0, h, hm => by rw [show m = 0 by omega] at h; exact h
 | n + 1, h, hm => by
  rcases Nat.eq_or_lt_of_le hm with e | e
  ·rw [← e]; exact h
  ·rw [show ((n + 1 : Nat) : Int) = (n : Int) + 1 by omega, jOut_next (by omega)]
   exact jIn_mono (jOut_mono n h (by omega)) _
theorem jIn_has {L R : List (List Value)} {w i : Int} {acc : List Int × List Int} (h0 : 0 ≤ i) (h1 : wkr (nth L i) = w) (h2 : eqCs (resC (nth L i)) (nth R i) = false) : ∀ n : Nat, i < n → w ∈ (jIn L R w acc n).1
 | 0, h => by omega
 | n + 1, h => by
  rw [show ((n + 1 : Nat) : Int) = (n : Int) + 1 by omega, jIn_next (by omega)]
  rcases Int.lt_or_le i n with h3 | h3
  ·exact jStep_mono (jIn_has h0 h1 h2 n h3)
  ·have : i = n := by omega
   subst this
   unfold jStep
   split
   ·exact List.mem_append_right _ (List.mem_singleton.2 rfl)
   ·rename_i hc
    by_cases hm : w ∈ (jIn L R w acc n).1
    ·exact hm
    ·exact absurd ⟨h1, h2, hm⟩ hc
theorem judge_has {L R : List (List Value)} {i : Int} (hE : judgeE L R = 0) (h0 : 0 ≤ i) (h1 : i < L.length) (hw : 0 ≤ wkr (nth L i) ∧ wkr (nth L i) < 6) (h2 : eqCs (resC (nth L i)) (nth R i) = false) : wkr (nth L i) ∈ judgeW L R := by
 unfold judgeW
 rw [if_pos hE]
 obtain ⟨v, hv⟩ : ∃ v : Nat, wkr (nth L i) = v := ⟨(wkr (nth L i)).toNat, by omega⟩
 have : wkr (nth L i) ∈ (jOut L R (v + 1 : Nat)).1 := by
  rw [show ((v + 1 : Nat) : Int) = (v : Int) + 1 by omega, jOut_next (by omega), ← hv]
  exact jIn_has h0 rfl h2 _ h1
 exact jOut_mono 6 this (by omega)
theorem judge_ok {L R : List (List Value)} (hE : judgeE L R = 0) : JOk L R (judgeW L R, judgeA L R) := by
 unfold judgeW judgeA
 rw [if_pos hE, if_pos hE]
 exact jOut_ok 6
theorem judgeW_len {L R : List (List Value)} : (judgeW L R).length ≤ 6 * L.length := by
 unfold judgeW
 split
 ·exact (jOut_len 6).2
 ·exact Nat.zero_le _
end Go.Proofs.Ytohhcnehcjpekaa
