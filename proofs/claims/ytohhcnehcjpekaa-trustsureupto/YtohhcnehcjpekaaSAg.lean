/-
  Contracts: the agreed answers.
-/
import Derived.Test.YtohhcnehcjpekaaSCk
import Derived.Test.YtohhcnehcjpekaaSA3
namespace Go.Proofs.Ytohhcnehcjpekaa
open Go.AM
set_option maxRecDepth 100000
set_option maxHeartbeats 1000000
set_option linter.unusedSimpArgs false
set_option linter.unusedVariables false

def agFirst (L : List (List Value)) (i k : Int) : Bool := (List.range k.toNat).all fun (j : Nat) => !eqCs (askC (nth L j)) (askC (nth L i))
def agHit (L : List (List Value)) (F i k : Int) : Bool := eqCs (askC (nth L k)) (askC (nth L i)) && decide (giversN L (nth L k) > F)
def agF (L : List (List Value)) (F i k : Int) : List Nat := (List.range k.toNat).filter fun (j : Nat) => decide (i ≤ (j : Int)) && agHit L F i j
def agI (L : List (List Value)) (F i k : Int) : List (List Value) := if agFirst L i i then ((agF L F i k).take 1).map fun (j : Nat) => nth L j else []
def agO (L : List (List Value)) (F i : Int) : List (List Value) := (List.range i.toNat).flatMap fun (j : Nat) => agI L F j L.length
def agreedL (L : List (List Value)) (F : Int) : List (List Value) := agO L F L.length
theorem agFirst_next {L : List (List Value)} {i k : Int} (h : 0 ≤ k) : agFirst L i (k + 1) = (agFirst L i k && !eqCs (askC (nth L k)) (askC (nth L i))) := by
  unfold agFirst
  rw [show (k + 1).toNat = k.toNat + 1 by omega, List.range_succ, List.all_append]
  simp only [List.all_cons, List.all_nil, Bool.and_true, Int.toNat_of_nonneg h]
theorem agF_next {L : List (List Value)} {F i k : Int} (h : 0 ≤ k) : agF L F i (k + 1) = agF L F i k ++ if (decide (i ≤ k) && agHit L F i k) = true then [k.toNat] else [] := by
  unfold agF
  rw [show (k + 1).toNat = k.toNat + 1 by omega, List.range_succ, List.filter_append, List.filter_cons, List.filter_nil, Int.toNat_of_nonneg h]
theorem agF_start {L : List (List Value)} {F i : Int} (h : 0 ≤ i) : agF L F i i = [] := by
  unfold agF
  rw [List.filter_eq_nil_iff]
  intro j hj
  have := List.mem_range.1 hj
  rw [decide_eq_false (by omega)]
  simp
theorem agI_start {L : List (List Value)} {F i : Int} (h : 0 ≤ i) : agI L F i i = [] := by
  unfold agI
  rw [agF_start h]
  split <;> rfl
theorem agI_skip {L : List (List Value)} {F i k : Int} (h : 0 ≤ k) (h2 : agHit L F i k = false) : agI L F i (k + 1) = agI L F i k := by
  have e : agF L F i (k + 1) = agF L F i k := by rw [agF_next h, h2, Bool.and_false]; simp
  unfold agI
  rw [e]
theorem agI_hit {L : List (List Value)} {F i k : Int} (h : 0 ≤ k) (hi : i ≤ k) (hf : true = (agFirst L i i && (agI L F i k).isEmpty)) (h2 : agHit L F i k = true) : agI L F i (k + 1) = [nth L k] ∧ agI L F i k = [] := by
  have hf := hf.symm
  rw [Bool.and_eq_true] at hf
  have he := List.isEmpty_iff.1 hf.2
  refine ⟨?_, he⟩
  unfold agI at he ⊢
  rw [if_pos hf.1] at he ⊢
  have hF : agF L F i k = [] := by
    rw [List.map_eq_nil_iff] at he
    cases hq : agF L F i k with
    | nil => rfl
    | cons a b => rw [hq] at he; cases he
  rw [agF_next h, h2, decide_eq_true hi, hF]
  simp only [Bool.and_self, if_true, List.nil_append, List.take_succ_cons, List.take_zero, List.map_cons, List.map_nil, Int.toNat_of_nonneg h]
theorem agI_fin {L : List (List Value)} {F i k n : Int} (hk : 0 ≤ k) (hn : k ≤ n) (hf : false = (agFirst L i i && (agI L F i k).isEmpty)) : agI L F i n = agI L F i k := by
  have hf := hf.symm
  unfold agI at hf ⊢
  by_cases h1 : agFirst L i i = true
  · rw [if_pos h1] at hf ⊢
    rw [if_pos h1]
    rw [h1, Bool.true_and] at hf
    have hx : agF L F i n = agF L F i k ++ (((List.range (n.toNat - k.toNat)).map (k.toNat + ·)).filter fun (j : Nat) => decide (i ≤ (j : Int)) && agHit L F i j) := by
      unfold agF
      rw [show n.toNat = k.toNat + (n.toNat - k.toNat) by omega, List.range_add, List.filter_append, Nat.add_sub_cancel_left]
    cases hq : agF L F i k with
    | nil => rw [hq] at hf; cases hf
    | cons a b => rw [hx, hq]; rfl
  · rw [if_neg h1, if_neg h1]
theorem agI_len {L : List (List Value)} {F i k : Int} : (agI L F i k).length ≤ 1 := by
  unfold agI
  split
  · rw [List.length_map, List.length_take]; omega
  · exact Nat.zero_le _
theorem agO_len {L : List (List Value)} {F i : Int} : (agO L F i).length ≤ i.toNat := by
  unfold agO
  induction i.toNat with
  | zero => simp
  | succ n ih =>
    rw [List.range_succ, List.flatMap_append, List.length_append]
    have := @agI_len L F n L.length
    simp only [List.flatMap_cons, List.flatMap_nil, List.append_nil]
    omega
theorem agO_next {L : List (List Value)} {F i : Int} (h : 0 ≤ i) : agO L F (i + 1) = agO L F i ++ agI L F i L.length := by
  unfold agO
  rw [show (i + 1).toNat = i.toNat + 1 by omega, List.range_succ, List.flatMap_append]
  simp only [List.flatMap_cons, List.flatMap_nil, List.append_nil, Int.toNat_of_nonneg h]
theorem ag_h1 {L : List (List Value)} {F i k : Int} (h : eqCs (askC (nth L k)) (askC (nth L i)) = false) : agHit L F i k = false := by unfold agHit; rw [h]; rfl
theorem ag_h2 {L : List (List Value)} {F i k : Int} (h : giversN L (nth L k) ≤ F) : agHit L F i k = false := by unfold agHit; rw [decide_eq_false (by omega)]; simp
theorem ag_h3 {L : List (List Value)} {F i k : Int} (h : eqCs (askC (nth L k)) (askC (nth L i)) = true) (h2 : F < giversN L (nth L k)) : agHit L F i k = true := by unfold agHit; rw [h, decide_eq_true (by omega)]; rfl
theorem agI_cfs {L : List (List Value)} {F i : Int} (h : cfs T.K43 L) : cfs T.K43 (agI L F i L.length) := by
  intro a ha
  unfold agI at ha
  split at ha
  · obtain ⟨j, hj, rfl⟩ := List.mem_map.1 ha
    have := List.mem_of_mem_take hj
    unfold agF at this
    have := List.mem_range.1 (List.mem_filter.1 this).1
    exact cf_nth h (by omega) (by omega)
  · cases ha
theorem agreedL_cfs {L : List (List Value)} {F : Int} (h : cfs T.K43 L) : cfs T.K43 (agreedL L F) := by
  intro a ha
  obtain ⟨j, _, hj⟩ := List.mem_flatMap.1 ha
  exact agI_cfs h a hj


end Go.Proofs.Ytohhcnehcjpekaa
