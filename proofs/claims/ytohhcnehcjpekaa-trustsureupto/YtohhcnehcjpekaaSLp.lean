/-
  Plain laws of made answers and of what Judge finds.
-/
import Derived.Test.YtohhcnehcjpekaaSCk
import Derived.Test.YtohhcnehcjpekaaSWo
import Derived.Test.YtohhcnehcjpekaaSSd
import Derived.Test.YtohhcnehcjpekaaSLw
import Derived.Test.YtohhcnehcjpekaaSA3
namespace Go.Proofs.Ytohhcnehcjpekaa
open Go Go.AM
set_option linter.unusedVariables false
def keptZ (L : List (List Value)) (w : List Int) : List (List Value) := keptL w L ++ List.replicate (L.length - (keptL w L).length) Z43
theorem zeros_rep {z : List Value} : ∀ n : Nat, zerosC z n = (List.replicate n z).flatten
  | 0 => rfl
  | n + 1 => by rw [zerosC, zeros_rep n, List.replicate_succ, List.flatten_cons]
theorem delD_flat {L : List (List Value)} {w : List Int} : delD L w = (keptZ L w).flatten := by
  unfold delD keptZ
  rw [List.flatten_append, zeros_rep]
theorem keptZ_len {L : List (List Value)} {w : List Int} : (keptZ L w).length = L.length := by
  have := keptL_len (ws := w) (L := L)
  unfold keptZ
  rw [List.length_append, List.length_replicate]
  omega
theorem keptZ_cfs {L : List (List Value)} {w : List Int} (h : cfs T.K43 L) : cfs T.K43 (keptZ L w) := by
  intro a ha
  rcases List.mem_append.1 ha with ha | ha
  · exact keptL_cfs h a ha
  · rw [(List.mem_replicate.1 ha).2]; rfl
theorem kz_mem {A : List (List Value)} {W : List Int} {i : Int} (h0 : 0 ≤ i) (h1 : i < (keptL W A).length) : nth (keptZ A W) i ∈ keptL W A := by
  have hl : i.toNat < (keptZ A W).length := by unfold keptZ; rw [List.length_append]; omega
  rw [nth_eq (by omega)]
  simp only [keptZ]
  rw [List.getElem_append_left (by omega)]
  exact List.getElem_mem _
theorem kz_out {A : List (List Value)} {W : List Int} {i : Int} (h0 : 0 ≤ i) (h1 : i < (keptL W A).length) : ¬ wkr (nth (keptZ A W) i) ∈ W := by
  have := (List.mem_filter.1 (kz_mem h0 h1)).2
  simpa using this
theorem ans_ask {bits i n : Int} : askC (ansM bits i n) = askN (sdM n) := ansW_ask rfl
theorem ans_res {bits i n : Int} : resC (ansM bits i n) = resM bits n := by
  have hl := cf_len (resM_cf bits n)
  show ((ansW (wkM n) (i.tmod 64) (askN (sdM n)) (resM bits n)).drop 23).take 22 = resM bits n
  unfold ansW
  have e : (Value.int .i64 (wkM n) :: Value.int .i64 (i.tmod 64) :: (askN (sdM n) ++ (resM bits n ++ [Value.string .empty]))).drop 23 = resM bits n ++ [Value.string .empty] := rfl
  rw [e, List.take_left']
  exact hl
theorem ans_wkr {bits i n : Int} : wkr (ansM bits i n) = wkM n := rfl
theorem ask_seed (s : Int) : seedC (askN s) = s := rfl
theorem mk_nth {l : List Int} {bits k i : Int} (h0 : 0 ≤ i) (h1 : i < k) : nth (mkA l bits k) i = ansM bits i (ith l i) := by
  have hl : i.toNat < (mkA l bits k).length := by rw [mkA_len]; omega
  rw [nth_eq (by omega)]
  simp only [mkA, List.getElem_map, List.getElem_range, Int.toNat_of_nonneg h0]
theorem mkr_nth {l : List Int} {k i : Int} (h0 : 0 ≤ i) (h1 : i < k) : nth (mkR l k) i = rightC (sdM (ith l i)) := by
  have hl : i.toNat < (mkR l k).length := by rw [mkR_len]; omega
  rw [nth_eq (by omega)]
  simp only [mkR, List.getElem_map, List.getElem_range, Int.toNat_of_nonneg h0]
theorem mk_mem {l : List Int} {bits k : Int} {a : List Value} (h : a ∈ mkA l bits k) : ∃ i : Int, 0 ≤ i ∧ i < k ∧ a = ansM bits i (ith l i) := by
  obtain ⟨j, hj, rfl⟩ := List.mem_map.1 h
  have := List.mem_range.1 hj
  exact ⟨j, by omega, by omega, rfl⟩
theorem mk_poss {l : List Int} {bits k : Int} : possL (mkA l bits k) = true := by
  unfold possL
  rw [List.all_eq_true]
  intro a ha
  obtain ⟨i, h0, h1, rfl⟩ := mk_mem ha
  have h2 := wkM_range (ith l i)
  have h3 := tmod_range h0 (b := 64) (by decide)
  have e : seqC (ansM bits i (ith l i)) = i.tmod 64 := rfl
  unfold oddC
  rw [ans_wkr, e, decide_eq_false (by omega), decide_eq_false (by omega), decide_eq_false (by omega), decide_eq_false (by omega)]
  rfl
theorem askN_inj {s t : Int} (h : eqCs (askN s) (askN t) = true) : s = t := by
  have := (eqCs_iff (ks := T.K37) (xs := askN s) (ys := askN t) rfl).1 h
  have e : seedC (askN s) = seedC (askN t) := by rw [this]
  exact e
theorem eqCs_self {ks : List Lk} {a : List Value} (h : cf ks a = true) : eqCs a a = true := (eqCs_iff h).2 rfl
theorem mk_clash {l : List Int} {bits k : Int} : clashR (mkA l bits k) (mkR l k) = false := by
  refine clashR_no fun i j h0 h1 h2 => ?_
  rw [mkA_len] at h2
  have hj : j < k := by omega
  by_cases he : eqCs (askC (nth (mkA l bits k) i)) (askC (nth (mkA l bits k) j)) = true
  · rw [mk_nth h0 (by omega), mk_nth (by omega) hj, ans_ask, ans_ask] at he
    refine badR_no2 ?_
    rw [mkr_nth h0 (by omega), mkr_nth (by omega) hj, askN_inj he]
    exact eqCs_self (rightC_cf _)
  · exact badR_no1 (by simpa using he)
theorem made_E {l : List Int} {bits k : Int} : judgeE (mkA l bits k) (mkR l k) = 0 := judgeE_0 (by rw [mkA_len, mkR_len]) mk_poss mk_clash
/-! What Judge finds. -/
structure JOk (L R : List (List Value)) (acc : List Int × List Int) : Prop where
  len : acc.1.length = acc.2.length
  ok : ∀ j : Int, 0 ≤ j → j < acc.1.length → 0 ≤ ith acc.2 j ∧ ith acc.2 j < L.length ∧ wkr (nth L (ith acc.2 j)) = ith acc.1 j ∧ eqCs (resC (nth L (ith acc.2 j))) (nth R (ith acc.2 j)) = false
theorem ith_left {l m : List Int} {j : Int} (h : j.toNat < l.length) : ith (l ++ m) j = ith l j := by
  unfold ith
  rw [List.getD_eq_getElem?_getD, List.getD_eq_getElem?_getD, List.getElem?_append_left h]
theorem ith_last {l : List Int} {x : Int} : ith (l ++ [x]) l.length = x := by
  unfold ith
  simp
theorem jStep_ok {L R : List (List Value)} {w i : Int} {acc : List Int × List Int} (h : JOk L R acc) (h0 : 0 ≤ i) (h1 : i < L.length) : JOk L R (jStep L R w acc i) := by
  unfold jStep
  split
  · rename_i hc
    refine ⟨by simp [h.len], fun j h2 h3 => ?_⟩
    simp only [List.length_append, List.length_cons, List.length_nil] at h3
    rcases Int.lt_or_le j acc.1.length with h4 | h4
    · have hl := h.len
      have := h.ok j h2 h4
      simp only
      rw [ith_left (by omega), ith_left (by omega)]
      exact this
    · have : j = acc.1.length := by omega
      subst this
      have e1 : ith (acc.1 ++ [w]) (acc.1.length : Int) = w := ith_last
      have e2 : ith (acc.2 ++ [i]) (acc.1.length : Int) = i := by rw [h.len]; exact ith_last
      simp only [e1, e2]
      exact ⟨h0, h1, hc.1, hc.2.1⟩
  · exact h
theorem jIn_ok {L R : List (List Value)} {w : Int} {acc : List Int × List Int} (h : JOk L R acc) : ∀ n : Nat, n ≤ L.length → JOk L R (jIn L R w acc n)
  | 0, _ => h
  | n + 1, hn => by
    rw [show ((n + 1 : Nat) : Int) = (n : Int) + 1 by omega, jIn_next (by omega)]
    exact jStep_ok (jIn_ok h n (by omega)) (by omega) (by omega)
theorem jOut_ok {L R : List (List Value)} : ∀ n : Nat, JOk L R (jOut L R n)
  | 0 => ⟨rfl, fun j h1 h2 => by simp only [jOut] at h2; simp at h2; omega⟩
  | n + 1 => by
    rw [show ((n + 1 : Nat) : Int) = (n : Int) + 1 by omega, jOut_next (by omega)]
    exact jIn_ok (jOut_ok n) L.length (Nat.le_refl _)
theorem jStep_mono {L R : List (List Value)} {w v i : Int} {acc : List Int × List Int} (h : v ∈ acc.1) : v ∈ (jStep L R w acc i).1 := by
  unfold jStep
  split
  · exact List.mem_append_left _ h
  · exact h
theorem jIn_mono {L R : List (List Value)} {w v : Int} {acc : List Int × List Int} (h : v ∈ acc.1) : ∀ n : Nat, v ∈ (jIn L R w acc n).1
  | 0 => h
  | n + 1 => by
    rw [show ((n + 1 : Nat) : Int) = (n : Int) + 1 by omega, jIn_next (by omega)]
    exact jStep_mono (jIn_mono h n)
theorem jOut_mono {L R : List (List Value)} {v : Int} {m : Nat} : ∀ n : Nat, v ∈ (jOut L R m).1 → m ≤ n → v ∈ (jOut L R n).1
  | 0, h, hm => by rw [show m = 0 by omega] at h; exact h
  | n + 1, h, hm => by
    rcases Nat.eq_or_lt_of_le hm with e | e
    · rw [← e]; exact h
    · rw [show ((n + 1 : Nat) : Int) = (n : Int) + 1 by omega, jOut_next (by omega)]
      exact jIn_mono (jOut_mono n h (by omega)) _
theorem jIn_has {L R : List (List Value)} {w i : Int} {acc : List Int × List Int} (h0 : 0 ≤ i) (h1 : wkr (nth L i) = w) (h2 : eqCs (resC (nth L i)) (nth R i) = false) : ∀ n : Nat, i < n → w ∈ (jIn L R w acc n).1
  | 0, h => by omega
  | n + 1, h => by
    rw [show ((n + 1 : Nat) : Int) = (n : Int) + 1 by omega, jIn_next (by omega)]
    rcases Int.lt_or_le i n with h3 | h3
    · exact jStep_mono (jIn_has h0 h1 h2 n h3)
    · have : i = n := by omega
      subst this
      unfold jStep
      split
      · exact List.mem_append_right _ (List.mem_singleton.2 rfl)
      · rename_i hc
        by_cases hm : w ∈ (jIn L R w acc n).1
        · exact hm
        · exact absurd ⟨h1, h2, hm⟩ hc
/-- who gave a wrong answer is found -/
theorem judge_has {L R : List (List Value)} {i : Int} (hE : judgeE L R = 0) (h0 : 0 ≤ i) (h1 : i < L.length) (hw : 0 ≤ wkr (nth L i) ∧ wkr (nth L i) < 6) (h2 : eqCs (resC (nth L i)) (nth R i) = false) : wkr (nth L i) ∈ judgeW L R := by
  unfold judgeW
  rw [if_pos hE]
  obtain ⟨v, hv⟩ : ∃ v : Nat, wkr (nth L i) = v := ⟨(wkr (nth L i)).toNat, by omega⟩
  have : wkr (nth L i) ∈ (jOut L R (v + 1 : Nat)).1 := by
    rw [show ((v + 1 : Nat) : Int) = (v : Int) + 1 by omega, jOut_next (by omega), ← hv]
    exact jIn_has h0 rfl h2 _ h1
  exact jOut_mono 6 this (by omega)
theorem judge_ok {L R : List (List Value)} (hE : judgeE L R = 0) : JOk L R (judgeW L R, judgeA L R) := by
  unfold judgeW judgeA
  rw [if_pos hE, if_pos hE]
  exact jOut_ok 6
theorem judgeW_len {L R : List (List Value)} : (judgeW L R).length ≤ 6 * L.length := by
  unfold judgeW
  split
  · exact (jOut_len 6).2
  · exact Nat.zero_le _
theorem check_self {L R : List (List Value)} (hE : judgeE L R = 0) : checkE L R (judgeW L R) (judgeA L R) = 0 := by
  have hk := judge_ok hE
  have hl := hk.len
  simp only at hl
  refine checkE_ok hE rfl (by omega) fun j h0 h1 => ?_
  obtain ⟨q1, q2, q3, q4⟩ := hk.ok j h0 (by simp only; omega)
  exact chk_y q1 q2 q3 q4
theorem check_acc {L R : List (List Value)} {w a : List Int} (hE : judgeE L R = 0) (h : checkE L R w a = 0) : w = judgeW L R := by
  unfold checkE at h
  rw [if_neg (by omega)] at h
  split at h
  · rename_i hc; exact hc.1
  · omega
/-! Kept answers are right. -/
theorem kz_in {l : List Int} {bits k : Int} {A : List (List Value)} {W : List Int} {i : Int} (hA : A = mkA l bits k) (h0 : 0 ≤ i) (h1 : i < (keptL W A).length) : inR (intAt (askC (nth (keptZ A W) i)) 20) := by
  have := (List.mem_filter.1 (kz_mem h0 h1)).1
  rw [hA] at this
  obtain ⟨j, h2, h3, e⟩ := mk_mem this
  rw [hA, e, ans_ask]
  show inR (sdM (ith l j))
  have := sdM_range (ith l j)
  exact ⟨by omega, by omega⟩
theorem kz_right {l : List Int} {bits k : Int} {A R : List (List Value)} {W : List Int} {i : Int} (hA : A = mkA l bits k) (hR : R = mkR l k) (hW : W = judgeW A R) (h0 : 0 ≤ i) (h1 : i < (keptL W A).length) : wrongB (nth (keptZ A W) i) = false := by
  have hm := kz_mem h0 h1
  have ho := kz_out h0 h1
  obtain ⟨x, hx⟩ : ∃ x, nth (keptZ A W) i = x := ⟨_, rfl⟩
  rw [hx] at hm ho ⊢
  have hm := (List.mem_filter.1 hm).1
  rw [hA] at hm
  obtain ⟨j, h2, h3, e⟩ := mk_mem hm
  have hj : j < (mkA l bits k).length := by rw [mkA_len]; omega
  unfold wrongB
  have hr : eqCs (resC x) (rightC (seedC (askC x))) = true := by
    rw [e, ans_ask, ask_seed]
    cases hq : eqCs (resC (ansM bits j (ith l j))) (rightC (sdM (ith l j))) with
    | true => rfl
    | false =>
      exfalso
      apply ho
      have hw := wkM_range (ith l j)
      have hn := mk_nth (l := l) (bits := bits) h2 h3
      have := judge_has (L := mkA l bits k) (R := mkR l k) (i := j) made_E h2 hj (by rw [hn]; exact hw) (by rw [hn, mkr_nth h2 h3]; exact hq)
      rw [hW, hA, hR, e, ← hn]
      exact this
  rw [hr]
  rfl
theorem gone_in {A : List (List Value)} {W : List Int} {i : Int} (h0 : 0 ≤ i) (h1 : i < A.length) (h : wkr (nth A i) ∈ W) : (keptL W (A.take (i + 1).toNat)).length = (keptL W (A.take i.toNat)).length := by
  unfold keptL
  rw [filter_skip h0 h1 (by rw [decide_eq_true h]; rfl)]
theorem gone_out {A : List (List Value)} {W : List Int} {i : Int} (h0 : 0 ≤ i) (h1 : i < A.length) (h : wkr (nth A i) ∉ W) : (keptL W (A.take (i + 1).toNat)).length = (keptL W (A.take i.toNat)).length + 1 := by
  unfold keptL
  rw [filter_hit h0 h1 (by rw [decide_eq_false h]; rfl), List.length_append]
  rfl
theorem gone_end {A : List (List Value)} {W : List Int} {i n : Int} (h1 : i = A.length) (h3 : (keptL W (A.take i.toNat)).length + n = i) (hb : A.length ≤ 1000) : IntKind.i64.wrap ((keptL W A).length + n) = A.length := by
  rw [take_end (by omega)] at h3
  rw [IntWalk.i64_in _ (by omega)]
  omega
end Go.Proofs.Ytohhcnehcjpekaa
