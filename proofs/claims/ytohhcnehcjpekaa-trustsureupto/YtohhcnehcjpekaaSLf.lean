/-
  Plain laws of sets that explain, and of forgers.
-/
import Derived.Test.YtohhcnehcjpekaaSLp
import Derived.Test.YtohhcnehcjpekaaSLq
import Derived.Test.YtohhcnehcjpekaaSA3
namespace Go.Proofs.Ytohhcnehcjpekaa
open Go Go.AM
set_option linter.unusedVariables false
theorem cl_mem {L : List (List Value)} {p : List Value} : p ∈ clashesL L ↔ ∃ i k : Nat, i < k ∧ k < L.length ∧ clashC (nth L i) (nth L k) = true ∧ p = [.int .i64 i, .int .i64 k] := by
  unfold clashesL clO clI
  simp only [Int.toNat_natCast, List.mem_flatMap, List.mem_map, List.mem_filter, List.mem_range, Bool.and_eq_true, decide_eq_true_eq]
  constructor
  · rintro ⟨i, hi, k, ⟨hk, h1, h2⟩, rfl⟩
    exact ⟨i, k, by omega, hk, h2, rfl⟩
  · rintro ⟨i, k, h1, h2, h3, rfl⟩
    exact ⟨i, by omega, k, ⟨h2, by omega, h3⟩, rfl⟩
theorem clP_nil {L : List (List Value)} : clashesL L = [] ↔ L.Pairwise (fun a b => clashC a b = false) := by
  rw [List.pairwise_iff_getElem]
  constructor
  · intro h i k hi hk hik
    cases hc : clashC L[i] L[k] with
    | false => rfl
    | true =>
      have : [Value.int .i64 i, Value.int .i64 k] ∈ clashesL L := cl_mem.2 ⟨i, k, hik, hk, by rw [nth_eq (by omega), nth_eq (by omega)]; simpa using hc, rfl⟩
      rw [h] at this
      cases this
  · intro h
    rw [List.eq_nil_iff_forall_not_mem]
    intro p hp
    obtain ⟨i, k, h1, h2, h3, -⟩ := cl_mem.1 hp
    have := h i k (by omega) h2 h1
    rw [nth_eq (by omega), nth_eq (by omega)] at h3
    simp only [Int.toNat_natCast] at h3
    rw [this] at h3
    cases h3
theorem explain_iff {L : List (List Value)} {w : List Int} : explainL L w = true ↔ L.Pairwise (fun a b => wkr a ∉ w → wkr b ∉ w → clashC a b = false) := by
  unfold explainL
  rw [List.isEmpty_iff, clP_nil, keptL, List.pairwise_filter]
  simp only [Bool.not_eq_true', decide_eq_false_iff_not]
theorem explain_pair {L : List (List Value)} {w : List Int} (h : explainL L w = true) {i k : Int} (h0 : 0 ≤ i) (h1 : i < k) (h2 : k < L.length) (hc : clashC (nth L i) (nth L k) = true) : wkr (nth L i) ∈ w ∨ wkr (nth L k) ∈ w := by
  rw [explain_iff, List.pairwise_iff_getElem] at h
  have := h i.toNat k.toNat (by omega) (by omega) (by omega)
  rw [nth_eq (by omega), nth_eq (by omega)] at hc ⊢
  by_cases ha : wkr L[i.toNat] ∈ w
  · exact .inl ha
  · by_cases hb : wkr L[k.toNat] ∈ w
    · exact .inr hb
    · rw [this ha hb] at hc; cases hc
/-- the least set is one of the sets, and explains -/
theorem all_sets {w : List Int} {k : Nat} (hk : k ≤ 6) (h : w ∈ combs k six) : w ∈ combs 0 six ++ (combs 1 six ++ (combs 2 six ++ (combs 3 six ++ (combs 4 six ++ (combs 5 six ++ combs 6 six))))) := by
  simp only [List.mem_append]
  rcases (by omega : k = 0 ∨ k = 1 ∨ k = 2 ∨ k = 3 ∨ k = 4 ∨ k = 5 ∨ k = 6) with rfl | rfl | rfl | rfl | rfl | rfl | rfl
  · exact .inl h
  · exact .inr (.inl h)
  · exact .inr (.inr (.inl h))
  · exact .inr (.inr (.inr (.inl h)))
  · exact .inr (.inr (.inr (.inr (.inl h))))
  · exact .inr (.inr (.inr (.inr (.inr (.inl h)))))
  · exact .inr (.inr (.inr (.inr (.inr (.inr h)))))
theorem combs_six : (six : List Int) ∈ combs 6 six := List.mem_singleton.2 rfl
theorem least_explains {L : List (List Value)} (h : L.any oddC = false) : explainL L (leastL L) = true := by
  unfold leastL
  cases hf : (combs 0 six ++ (combs 1 six ++ (combs 2 six ++ (combs 3 six ++ (combs 4 six ++ (combs 5 six ++ combs 6 six)))))).find? (explainL L) with
  | none =>
    have := List.find?_eq_none.1 hf six (all_sets (by decide) combs_six)
    rw [six_explains h] at this
    simp at this
  | some w => exact List.find?_some hf
theorem least_le {L : List (List Value)} {w : List Int} {k : Nat} (hk : k ≤ 6) (hw : w ∈ combs k six) (he : explainL L w = true) : (leastL L).length ≤ k := by
  have step : ∀ {j : Nat} {m : List (List Int)}, (∀ x, m.find? (explainL L) = some x → x.length ≤ k) → j ≤ k → ∀ x, (combs j six ++ m).find? (explainL L) = some x → x.length ≤ k := by
    intro j m hm hj x hx
    rw [List.find?_append] at hx
    cases hc : (combs j six).find? (explainL L) with
    | none => rw [hc] at hx; exact hm x hx
    | some y =>
      rw [hc] at hx
      cases hx
      have := (combs_len (List.mem_of_find?_eq_some hc)).1
      omega
  have hit : ∀ {m : List (List Int)} x, (combs k six ++ m).find? (explainL L) = some x → x.length ≤ k := by
    intro m x hx
    rw [List.find?_append] at hx
    cases hc : (combs k six).find? (explainL L) with
    | none =>
      have := List.find?_eq_none.1 hc w hw
      rw [he] at this
      simp at this
    | some y =>
      rw [hc] at hx
      cases hx
      have := (combs_len (List.mem_of_find?_eq_some hc)).1
      omega
  have all : ∀ x, (combs 0 six ++ (combs 1 six ++ (combs 2 six ++ (combs 3 six ++ (combs 4 six ++ (combs 5 six ++ combs 6 six)))))).find? (explainL L) = some x → x.length ≤ k := by
    have hit' : ∀ x, (combs k six).find? (explainL L) = some x → x.length ≤ k := fun x hx => hit (m := []) x (by rw [List.append_nil]; exact hx)
    rcases (by omega : k = 0 ∨ k = 1 ∨ k = 2 ∨ k = 3 ∨ k = 4 ∨ k = 5 ∨ k = 6) with rfl | rfl | rfl | rfl | rfl | rfl | rfl
    · exact hit
    · exact step hit (by omega)
    · exact step (step hit (by omega)) (by omega)
    · exact step (step (step hit (by omega)) (by omega)) (by omega)
    · exact step (step (step (step hit (by omega)) (by omega)) (by omega)) (by omega)
    · exact step (step (step (step (step hit (by omega)) (by omega)) (by omega)) (by omega)) (by omega)
    · exact step (step (step (step (step (step hit' (by omega)) (by omega)) (by omega)) (by omega)) (by omega)) (by omega)
  unfold leastL
  cases hf : (combs 0 six ++ (combs 1 six ++ (combs 2 six ++ (combs 3 six ++ (combs 4 six ++ (combs 5 six ++ combs 6 six)))))).find? (explainL L) with
  | none => exact Nat.zero_le _
  | some x => exact all x hf
theorem combs_sub : ∀ {l w : List Int}, w.Sublist l → w ∈ combs w.length l
  | _, [], _ => by
    rename_i l
    cases l <;> exact List.mem_singleton.2 rfl
  | [], y :: w, h => by cases h
  | x :: l, y :: w, h => by
    simp only [List.length_cons, combs, List.mem_append, List.mem_map]
    cases h with
    | cons _ h => exact .inr (combs_sub (w := y :: w) h)
    | cons_cons _ h => exact .inl ⟨w, combs_sub h, rfl⟩
/-! What Judge finds is in order. -/
structure JSo (W : List Int) (w : Int) : Prop where
  sorted : W.Pairwise (· < ·)
  rng : ∀ v ∈ W, 0 ≤ v ∧ v ≤ w
theorem jStep_so {L R : List (List Value)} {w i : Int} {acc : List Int × List Int} (hw : 0 ≤ w) (h : JSo acc.1 w) : JSo (jStep L R w acc i).1 w := by
  unfold jStep
  split
  · rename_i hc
    refine ⟨?_, ?_⟩
    · simp only
      rw [List.pairwise_append]
      refine ⟨h.sorted, List.pairwise_singleton _ _, fun a ha b hb => ?_⟩
      have := h.rng a ha
      rw [List.mem_singleton.1 hb]
      rcases Int.lt_or_eq_of_le this.2 with q | q
      · exact q
      · exact absurd (q ▸ ha) hc.2.2
    · intro v hv
      rcases List.mem_append.1 hv with hv | hv
      · exact h.rng v hv
      · rw [List.mem_singleton.1 hv]; exact ⟨hw, Int.le_refl _⟩
  · exact h
theorem jIn_so {L R : List (List Value)} {w : Int} {acc : List Int × List Int} (hw : 0 ≤ w) (h : JSo acc.1 w) : ∀ n : Nat, JSo (jIn L R w acc n).1 w
  | 0 => h
  | n + 1 => by
    rw [show ((n + 1 : Nat) : Int) = (n : Int) + 1 by omega, jIn_next (by omega)]
    exact jStep_so hw (jIn_so hw h n)
theorem jOut_so {L R : List (List Value)} : ∀ n : Nat, JSo (jOut L R n).1 ((n : Int) - 1)
  | 0 => ⟨.nil, fun v h => by cases h⟩
  | n + 1 => by
    rw [show ((n + 1 : Nat) : Int) = (n : Int) + 1 by omega, jOut_next (by omega), show (n : Int) + 1 - 1 = n by omega]
    have := jOut_so (L := L) (R := R) n
    exact jIn_so (by omega) ⟨this.sorted, fun v hv => by have := this.rng v hv; omega⟩ _
theorem sub_six {W : List Int} (hs : W.Pairwise (· < ·)) (hr : ∀ v ∈ W, 0 ≤ v ∧ v ≤ 5) : W.Sublist six := by
  have key : ∀ (n : Nat) (a : Int) (W : List Int), W.Pairwise (· < ·) → (∀ v ∈ W, a ≤ v ∧ v < a + n) → W.Sublist ((List.range n).map fun (j : Nat) => a + j) := by
    intro n
    induction n with
    | zero =>
      intro a W _ h
      cases W with
      | nil => exact .slnil
      | cons v W => have := h v (List.mem_cons_self ..); omega
    | succ n ih =>
      intro a W hs h
      have e : (List.range (n + 1)).map (fun (j : Nat) => a + (j : Int)) = a :: (List.range n).map (fun (j : Nat) => (a + 1) + (j : Int)) := by
        rw [List.range_succ_eq_map, List.map_cons, List.map_map]
        congr 1
        · simp
        · apply List.map_congr_left
          intro j _
          simp only [Function.comp_apply, Nat.succ_eq_add_one]
          omega
      rw [e]
      cases W with
      | nil => exact List.nil_sublist _
      | cons v W =>
        rw [List.pairwise_cons] at hs
        have hv := h v (List.mem_cons_self ..)
        by_cases hva : v = a
        · rw [hva]
          exact .cons_cons _ (ih (a + 1) W hs.2 fun u hu => by have := hs.1 u hu; have := h u (List.mem_cons_of_mem _ hu); omega)
        · refine .cons _ (ih (a + 1) (v :: W) (List.pairwise_cons.2 hs) fun u hu => ?_)
          rcases List.mem_cons.1 hu with rfl | hu
          · omega
          · have := hs.1 u hu; have := h u (List.mem_cons_of_mem _ hu); omega
  exact key 6 0 W hs fun v hv => by have := hr v hv; omega
theorem judgeW_comb {L R : List (List Value)} : judgeW L R ∈ combs (judgeW L R).length six ∧ (judgeW L R).length ≤ 6 := by
  have hso : JSo (judgeW L R) 5 := by
    unfold judgeW
    split
    · exact jOut_so 6
    · exact ⟨.nil, fun v h => by cases h⟩
  have hsub := sub_six hso.sorted hso.rng
  exact ⟨combs_sub hsub, hsub.length_le⟩
/-! Made answers. -/
theorem made_right {l : List Int} {bits k : Int} {A R : List (List Value)} (hA : A = mkA l bits k) (hR : R = mkR l k) {i : Int} (h0 : 0 ≤ i) (h1 : i < A.length) (hw : wkr (nth A i) ∉ judgeW A R) : eqCs (resC (nth A i)) (rightC (seedC (askC (nth A i)))) = true := by
  subst hA; subst hR
  have hk : i < k := by rw [mkA_len] at h1; omega
  have hn := mk_nth (l := l) (bits := bits) h0 hk
  cases hq : eqCs (resC (nth (mkA l bits k) i)) (rightC (seedC (askC (nth (mkA l bits k) i)))) with
  | true => rfl
  | false =>
    exfalso
    apply hw
    refine judge_has made_E h0 h1 (by rw [hn]; exact wkM_range _) ?_
    rw [mkr_nth h0 hk]
    rw [hn] at hq ⊢
    rw [ans_ask, ask_seed] at hq
    exact hq
theorem made_explain {l : List Int} {bits k : Int} {A R : List (List Value)} (hA : A = mkA l bits k) (hR : R = mkR l k) : explainL A (judgeW A R) = true := by
  rw [explain_iff, List.pairwise_iff_getElem]
  intro i j hi hj hij ha hb
  have hA' : cfs T.K43 A := by rw [hA]; exact mkA_cfs
  have e1 : nth A (i : Int) = A[i] := by rw [nth_eq (by omega)]; simp
  have e2 : nth A (j : Int) = A[j] := by rw [nth_eq (by omega)]; simp
  have r1 := made_right hA hR (i := i) (by omega) (by omega) (by rw [e1]; exact ha)
  have r2 := made_right hA hR (i := j) (by omega) (by omega) (by rw [e2]; exact hb)
  rw [e1] at r1
  rw [e2] at r2
  unfold clashC
  cases hc : eqCs (askC A[i]) (askC A[j]) with
  | false => rfl
  | true =>
    have hask := (eqCs_iff (cf_part 2 21 (hA' _ (List.getElem_mem hi)) rfl)).1 hc
    have q1 := (eqCs_iff (cf_part 23 22 (hA' _ (List.getElem_mem hi)) rfl)).1 r1
    have q2 := (eqCs_iff (cf_part 23 22 (hA' _ (List.getElem_mem hj)) rfl)).1 r2
    rw [show seedC (askC A[i]) = seedC (askC A[j]) from congrArg seedC hask] at q1
    have : resC A[i] = resC A[j] := q1.trans q2.symm
    rw [this, eqCs_self (cf_part 23 22 (hA' _ (List.getElem_mem hj)) rfl)]
    rfl
theorem made_odd {l : List Int} {bits k : Int} : (mkA l bits k).any oddC = false := by
  have := @mk_poss l bits k
  unfold possL at this
  rw [List.any_eq_false]
  intro a ha
  have := List.all_eq_true.1 this a ha
  simpa using this
theorem keptL_nil {L : List (List Value)} : keptL [] L = L := by
  unfold keptL
  exact List.filter_eq_self.2 (by simp)
theorem least_empty {L : List (List Value)} : leastL L = [] ↔ (clashesL L = [] ∨ leastL L = [] ∧ clashesL L ≠ []) := by
  constructor
  · intro h
    by_cases hc : clashesL L = []
    · exact .inl hc
    · exact .inr ⟨h, hc⟩
  · rintro (h | h)
    · have he : explainL L [] = true := by
        unfold explainL
        rw [keptL_nil, h]
        rfl
      have := least_le (L := L) (k := 0) (by decide) (List.mem_singleton.2 rfl) he
      exact List.eq_nil_of_length_eq_zero (by omega)
    · exact h.1
theorem cl_least {L : List (List Value)} (ho : L.any oddC = false) : clashesL L = [] ↔ leastL L = [] := by
  constructor
  · exact fun h => least_empty.2 (.inl h)
  · intro h
    have := least_explains ho
    rw [h] at this
    unfold explainL at this
    rw [keptL_nil] at this
    exact List.isEmpty_iff.1 this
/-- what a pair that clashes is -/
theorem cl_pair {L : List (List Value)} {i : Int} (h0 : 0 ≤ i) (h1 : i < (clashesL L).length) : 0 ≤ intAt (nth (clashesL L) i) 0 ∧ intAt (nth (clashesL L) i) 0 < intAt (nth (clashesL L) i) 1 ∧ intAt (nth (clashesL L) i) 1 < L.length ∧ clashC (nth L (intAt (nth (clashesL L) i) 0)) (nth L (intAt (nth (clashesL L) i) 1)) = true := by
  have hm : nth (clashesL L) i ∈ clashesL L := by
    rw [nth_eq (by omega)]
    exact List.getElem_mem _
  obtain ⟨a, b, q1, q2, q3, q4⟩ := cl_mem.1 hm
  rw [q4]
  show 0 ≤ (a : Int) ∧ (a : Int) < b ∧ (b : Int) < L.length ∧ _
  exact ⟨by omega, by omega, by omega, q3⟩
end Go.Proofs.Ytohhcnehcjpekaa
