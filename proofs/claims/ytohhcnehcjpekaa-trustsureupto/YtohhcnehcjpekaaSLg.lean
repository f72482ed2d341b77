/-
  Plain laws of what is sure: it does not hang on the order, and it is right.
-/
import Derived.Test.YtohhcnehcjpekaaSLf
import Derived.Test.YtohhcnehcjpekaaSAw
import Derived.Test.YtohhcnehcjpekaaSSd
import Derived.Test.YtohhcnehcjpekaaSA3
namespace Go.Proofs.Ytohhcnehcjpekaa
open Go Go.AM
set_option linter.unusedVariables false
theorem res_iff {x y : List Value} (hx : cf T.K43 x = true) : eqCs (resC x) (resC y) = true ↔ resC x = resC y := eqCs_iff (cf_part (ks := T.K43) 23 22 hx rfl)
theorem nodup_len : ∀ {l m : List Int}, l.Nodup → (∀ v ∈ l, v ∈ m) → l.length ≤ m.length
  | [], m, _, _ => Nat.zero_le _
  | a :: l, m, hn, hs => by
    rw [List.nodup_cons] at hn
    have ha := hs a (List.mem_cons_self ..)
    have ih := nodup_len (l := l) (m := m.erase a) hn.2 fun v hv => (List.mem_erase_of_ne (fun e => hn.1 (by rw [← e]; exact hv))).2 (hs v (List.mem_cons_of_mem _ hv))
    rw [List.length_erase_of_mem ha] at ih
    have : 0 < m.length := List.length_pos_of_mem ha
    simp only [List.length_cons]
    omega
theorem sorted_ext : ∀ {l m : List Int}, l.Pairwise (· < ·) → m.Pairwise (· < ·) → (∀ v, v ∈ l ↔ v ∈ m) → l = m
  | [], [], _, _, _ => rfl
  | [], b :: m, _, _, h => absurd ((h b).2 (List.mem_cons_self ..)) (by simp)
  | a :: l, [], _, _, h => absurd ((h a).1 (List.mem_cons_self ..)) (by simp)
  | a :: l, b :: m, h1, h2, h => by
    rw [List.pairwise_cons] at h1 h2
    have hab : a = b := by
      have q1 := (h a).1 (List.mem_cons_self ..)
      have q2 := (h b).2 (List.mem_cons_self ..)
      rcases List.mem_cons.1 q1 with e | q1
      · exact e
      rcases List.mem_cons.1 q2 with e | q2
      · exact e.symm
      have := h1.1 _ q2
      have := h2.1 _ q1
      omega
    subst hab
    rw [sorted_ext h1.2 h2.2 fun v => ?_]
    constructor
    · intro hv
      rcases List.mem_cons.1 ((h v).1 (List.mem_cons_of_mem _ hv)) with e | q
      · have := h1.1 _ hv; omega
      · exact q
    · intro hv
      rcases List.mem_cons.1 ((h v).2 (List.mem_cons_of_mem _ hv)) with e | q
      · have := h2.1 _ hv; omega
      · exact q
theorem mem_nth {L : List (List Value)} {x : List Value} : x ∈ L ↔ ∃ i : Int, 0 ≤ i ∧ i < L.length ∧ x = nth L i := by
  constructor
  · intro h
    obtain ⟨i, hi, rfl⟩ := List.mem_iff_getElem.1 h
    exact ⟨i, by omega, by omega, by rw [nth_eq (by omega)]; simp⟩
  · rintro ⟨i, h0, h1, rfl⟩
    exact nth_mem h0 h1
/-- answers with their right results, as they are made -/
structure Mk (A R : List (List Value)) : Prop where
  len : A.length = R.length
  cfA : cfs T.K43 A
  cfR : cfs T.K41 R
  odd : A.any oddC = false
  ask : ∀ x ∈ A, ∃ s : Int, 0 ≤ s ∧ s < 4 ∧ askC x = askN s
  res : ∀ i : Int, 0 ≤ i → i < A.length → nth R i = rightC (seedC (askC (nth A i)))
theorem Mk.made {l : List Int} {bits k : Int} : Mk (mkA l bits k) (mkR l k) := by
  refine ⟨by rw [mkA_len, mkR_len], mkA_cfs, mkR_cfs, made_odd, fun x hx => ?_, fun i h0 h1 => ?_⟩
  · obtain ⟨i, h0, h1, rfl⟩ := mk_mem hx
    have := sdM_range (ith l i)
    exact ⟨sdM (ith l i), this.1, this.2, ans_ask⟩
  · rw [mkA_len] at h1
    rw [mk_nth h0 (by omega), mkr_nth h0 (by omega), ans_ask, ask_seed]
theorem Mk.wk {A R : List (List Value)} (h : Mk A R) {x : List Value} (hx : x ∈ A) : 0 ≤ wkr x ∧ wkr x < 6 := by
  have := List.any_eq_false.1 h.odd x hx
  unfold oddC at this
  simp only [Bool.or_eq_true, decide_eq_true_eq, not_or] at this
  omega
theorem Mk.poss {A R : List (List Value)} (h : Mk A R) : possL A = true := by
  unfold possL
  rw [List.all_eq_true]
  intro a ha
  have := List.any_eq_false.1 h.odd a ha
  simpa using this
theorem Mk.E {A R : List (List Value)} (h : Mk A R) : judgeE A R = 0 := by
  refine judgeE_0 (by have := h.len; omega) h.poss (clashR_no fun i k h0 h1 h2 => ?_)
  unfold badR
  cases hc : eqCs (askC (nth A i)) (askC (nth A k)) with
  | false => rfl
  | true =>
    have e := (ask_iff (cf_nth h.cfA h0 (by omega))).1 hc
    rw [h.res i h0 (by omega), h.res k (by omega) h2, e, eqCs_self (rightC_cf _)]
    rfl
theorem Mk.judge {A R : List (List Value)} (h : Mk A R) {v : Int} : v ∈ judgeW A R ↔ ∃ x ∈ A, wkr x = v ∧ wrongB x = true := by
  constructor
  · intro hv
    obtain ⟨j, hj, e⟩ := List.mem_iff_getElem.1 hv
    obtain ⟨q1, q2, q3, q4⟩ := (judge_ok h.E).ok j (by omega) (by simp only; omega)
    simp only at q1 q2 q3 q4
    refine ⟨_, nth_mem q1 q2, ?_, ?_⟩
    · rw [q3, ← e]
      unfold ith
      rw [Int.toNat_natCast, List.getD_eq_getElem?_getD, List.getElem?_eq_getElem hj]
      rfl
    · rw [h.res _ q1 q2] at q4
      unfold wrongB
      rw [q4]; rfl
  · rintro ⟨x, hx, rfl, hw⟩
    obtain ⟨i, h0, h1, rfl⟩ := mem_nth.1 hx
    refine judge_has h.E h0 h1 (h.wk hx) ?_
    rw [h.res i h0 h1]
    unfold wrongB at hw
    simpa using hw
theorem judge_sorted {A R : List (List Value)} : (judgeW A R).Pairwise (· < ·) := by
  unfold judgeW
  split
  · exact (jOut_so 6).sorted
  · exact .nil
theorem Mk.same {A R B S : List (List Value)} (h : Mk A R) (h' : Mk B S) (hm : ∀ x, x ∈ A ↔ x ∈ B) : judgeW A R = judgeW B S := by
  refine sorted_ext judge_sorted judge_sorted fun v => ?_
  rw [h.judge, h'.judge]
  constructor
  · rintro ⟨x, hx, k⟩; exact ⟨x, (hm x).1 hx, k⟩
  · rintro ⟨x, hx, k⟩; exact ⟨x, (hm x).2 hx, k⟩
theorem clash_self {x : List Value} (hx : cf T.K43 x = true) : clashC x x = false := by
  unfold clashC
  rw [(res_iff hx).2 rfl]
  simp
theorem clash_comm {x y : List Value} (hx : cf T.K43 x = true) (hy : cf T.K43 y = true) : clashC x y = clashC y x := by
  unfold clashC
  rw [ask_comm hx hy]
  congr 2
  rw [Bool.eq_iff_iff, res_iff hx, res_iff hy]
  exact eq_comm
theorem explain_all {A : List (List Value)} (hA : cfs T.K43 A) {w : List Int} : explainL A w = true ↔ ∀ x ∈ A, ∀ y ∈ A, wkr x ∉ w → wkr y ∉ w → clashC x y = false := by
  rw [explain_iff, List.pairwise_iff_getElem]
  constructor
  · intro h x hx y hy h1 h2
    obtain ⟨i, hi, rfl⟩ := List.mem_iff_getElem.1 hx
    obtain ⟨j, hj, rfl⟩ := List.mem_iff_getElem.1 hy
    rcases Nat.lt_trichotomy i j with q | q | q
    · exact h i j hi hj q h1 h2
    · subst q; exact clash_self (hA _ hx)
    · rw [clash_comm (hA _ hx) (hA _ hy)]; exact h j i hj hi q h2 h1
  · intro h i j hi hj _ h1 h2
    exact h _ (List.getElem_mem hi) _ (List.getElem_mem hj) h1 h2
theorem least_same {A B : List (List Value)} (hA : cfs T.K43 A) (hB : cfs T.K43 B) (hm : ∀ x, x ∈ A ↔ x ∈ B) : leastL A = leastL B := by
  have : explainL A = explainL B := by
    funext w
    rw [Bool.eq_iff_iff, explain_all hA, explain_all hB]
    constructor
    · intro h x hx y hy; exact h x ((hm x).2 hx) y ((hm y).2 hy)
    · intro h x hx y hy; exact h x ((hm x).1 hx) y ((hm y).1 hy)
  unfold leastL
  rw [this]
theorem gvF_mem {x : List Value} {L : List (List Value)} (hL : cfs T.K43 L) {v : Int} : v ∈ gvF x L ↔ ∃ a ∈ L, askC a = askC x ∧ resC a = resC x ∧ wkr a = v := by
  have key : ∀ (L : List (List Value)) (acc : List Int), cfs T.K43 L → (v ∈ L.foldl (gvStep x) acc ↔ v ∈ acc ∨ ∃ a ∈ L, askC a = askC x ∧ resC a = resC x ∧ wkr a = v) := by
    intro L
    induction L with
    | nil => intro acc _; simp
    | cons a L ih =>
      intro acc hL
      have ha := hL a (List.mem_cons_self ..)
      rw [List.foldl_cons, ih _ fun b hb => hL b (List.mem_cons_of_mem _ hb)]
      have step : v ∈ gvStep x acc a ↔ v ∈ acc ∨ (askC a = askC x ∧ resC a = resC x ∧ wkr a = v) := by
        unfold gvStep
        split
        · rename_i hc
          rw [List.mem_append, List.mem_singleton]
          constructor
          · rintro (h | h)
            · exact .inl h
            · exact .inr ⟨(ask_iff ha).1 hc.1, (res_iff ha).1 hc.2.1, h.symm⟩
          · rintro (h | h)
            · exact .inl h
            · exact .inr h.2.2.symm
        · rename_i hc
          constructor
          · exact .inl
          · rintro (h | ⟨h1, h2, h3⟩)
            · exact h
            · exact Classical.byContradiction fun q => hc ⟨(ask_iff ha).2 h1, (res_iff ha).2 h2, h3 ▸ q⟩
      rw [step]
      constructor
      · rintro ((h | h) | ⟨b, hb, h⟩)
        · exact .inl h
        · exact .inr ⟨a, List.mem_cons_self .., h⟩
        · exact .inr ⟨b, List.mem_cons_of_mem _ hb, h⟩
      · rintro (h | ⟨b, hb, h⟩)
        · exact .inl (.inl h)
        · rcases List.mem_cons.1 hb with rfl | hb
          · exact .inl (.inr h)
          · exact .inr ⟨b, hb, h⟩
  unfold gvF
  rw [key L [] hL]
  simp
theorem gvF_nodup {x : List Value} {L : List (List Value)} : (gvF x L).Nodup := by
  have key : ∀ (L : List (List Value)) (acc : List Int), acc.Nodup → (L.foldl (gvStep x) acc).Nodup := by
    intro L
    induction L with
    | nil => intro acc h; exact h
    | cons a L ih =>
      intro acc h
      rw [List.foldl_cons]
      refine ih _ ?_
      unfold gvStep
      split
      · rename_i hc
        rw [List.nodup_append]
        refine ⟨h, by simp, fun u hu w hw => ?_⟩
        rw [List.mem_singleton.1 hw]
        exact fun e => hc.2.2 (e ▸ hu)
      · exact h
  exact key L [] .nil
theorem givers_same {A B : List (List Value)} (hA : cfs T.K43 A) (hB : cfs T.K43 B) (hm : ∀ x, x ∈ A ↔ x ∈ B) {x : List Value} : giversN A x = giversN B x := by
  unfold giversN
  have h1 := nodup_len (gvF_nodup (x := x) (L := A)) (m := gvF x B) fun v hv => by
    obtain ⟨a, ha, k⟩ := (gvF_mem hA).1 hv
    exact (gvF_mem hB).2 ⟨a, (hm a).1 ha, k⟩
  have h2 := nodup_len (gvF_nodup (x := x) (L := B)) (m := gvF x A) fun v hv => by
    obtain ⟨a, ha, k⟩ := (gvF_mem hB).1 hv
    exact (gvF_mem hA).2 ⟨a, (hm a).2 ha, k⟩
  omega
/-! What is agreed. -/
theorem idxP_at {p : List Value → Bool} {L : List (List Value)} {k : Int} (h : idxP p L = k) (h0 : 0 ≤ k) (h1 : k < L.length) : p (nth L k) = true := by
  unfold idxP at h
  cases hx : L.findIdx? p with
  | none => rw [hx] at h; simp only at h; omega
  | some j =>
    rw [hx] at h
    simp only at h
    obtain ⟨hj, hp, _⟩ := List.findIdx?_eq_some_iff_getElem.1 hx
    subst h
    rw [nth_eq (by omega)]
    simpa using hp
theorem agI_mem {L : List (List Value)} {F i : Int} (hL : cfs T.K43 L) (h0 : 0 ≤ i) (h1 : i < L.length) {x : List Value} (h : x ∈ agI L F i L.length) : agFirst L i i = true ∧ x ∈ L ∧ askC x = askC (nth L i) ∧ F < giversN L x := by
  cases hf : agFirst L i i with
  | false => rw [agI_no hf] at h; cases h
  | true =>
    rcases agI_find (F := F) hL h0 h1 hf with ⟨_, hO⟩ | ⟨k, k0, k1, hI, hO⟩
    · rw [hO] at h; cases h
    · rw [hO] at h
      have hp := idxP_at hI k0 k1
      unfold agP at hp
      rw [Bool.and_eq_true, decide_eq_true_eq] at hp
      rw [List.mem_singleton.1 h]
      exact ⟨rfl, nth_mem k0 k1, (ask_iff (cf_nth hL k0 k1)).1 hp.1, hp.2⟩
theorem agO_mem {L : List (List Value)} {F : Int} (hL : cfs T.K43 L) {n : Nat} (hn : n ≤ L.length) {x : List Value} (h : x ∈ agO L F n) : (∃ j : Nat, j < n ∧ askC x = askC (nth L j)) ∧ x ∈ L ∧ F < giversN L x := by
  unfold agO at h
  obtain ⟨j, hj, hx⟩ := List.mem_flatMap.1 h
  have hj := List.mem_range.1 hj
  rw [Int.toNat_natCast] at hj
  obtain ⟨_, q1, q2, q3⟩ := agI_mem hL (by omega) (by omega) hx
  exact ⟨⟨j, hj, q2⟩, q1, q3⟩
theorem agO_pair {L : List (List Value)} {F : Int} (hL : cfs T.K43 L) : ∀ {n : Nat}, n ≤ L.length → (agO L F n).Pairwise (fun x y => askC x ≠ askC y)
  | 0, _ => .nil
  | n + 1, hn => by
    rw [show ((n + 1 : Nat) : Int) = (n : Int) + 1 by omega, agO_next (by omega), List.pairwise_append]
    refine ⟨agO_pair hL (by omega), ?_, fun x hx y hy => ?_⟩
    · have := @agI_len L F n L.length
      match hq : agI L F n L.length, this with
      | [], _ => exact .nil
      | [a], _ => simp
      | _ :: _ :: _, h => simp at h
    · obtain ⟨⟨j, hj, e⟩, _, _⟩ := agO_mem hL (by omega) hx
      obtain ⟨hf, _, e2, _⟩ := agI_mem hL (by omega) (by omega) hy
      have := List.all_eq_true.1 hf j (List.mem_range.2 (by omega))
      rw [Bool.not_eq_true'] at this
      intro q
      rw [e, e2] at q
      rw [(ask_iff (cf_nth hL (by omega) (by omega))).2 q] at this
      cases this
theorem first_ask {L : List (List Value)} (hL : cfs T.K43 L) : ∀ {m : Nat}, m < L.length → ∃ i : Nat, i ≤ m ∧ agFirst L i i = true ∧ askC (nth L i) = askC (nth L m) := by
  intro m
  induction m using Nat.strongRecOn with
  | ind m ih =>
    intro hm
    cases hf : agFirst L m m with
    | true => exact ⟨m, Nat.le_refl _, hf, rfl⟩
    | false =>
      unfold agFirst at hf
      rw [List.all_eq_false] at hf
      obtain ⟨j, hj, hq⟩ := hf
      have hj := List.mem_range.1 hj
      rw [Int.toNat_natCast] at hj
      have hq : eqCs (askC (nth L j)) (askC (nth L m)) = true := by simpa using hq
      have e := (ask_iff (cf_nth hL (by omega) (by omega))).1 hq
      obtain ⟨i, h1, h2, h3⟩ := ih j hj (by omega)
      exact ⟨i, by omega, h2, h3.trans e⟩
theorem agreed_has {L : List (List Value)} {F : Int} (hL : cfs T.K43 L) {a : List Value} (ha : a ∈ L) (hg : F < giversN L a) : ∃ x ∈ agreedL L F, askC x = askC a := by
  obtain ⟨m, m0, m1, rfl⟩ := mem_nth.1 ha
  obtain ⟨i, h1, h2, h3⟩ := first_ask hL (m := m.toNat) (by omega)
  rw [Int.toNat_of_nonneg m0] at h3
  have hi : (i : Int) < L.length := by omega
  have hP : agP L F (nth L i) (nth L m) = true := by
    unfold agP
    rw [(ask_iff (cf_nth hL m0 m1)).2 h3.symm, decide_eq_true hg]; rfl
  rcases agI_find (F := F) hL (Int.natCast_nonneg i) hi h2 with ⟨hI, _⟩ | ⟨k, k0, k1, hI, hO⟩
  · exfalso
    unfold idxP at hI
    cases hx : L.findIdx? (agP L F (nth L i)) with
    | none =>
      have := List.findIdx?_eq_none_iff.1 hx _ (nth_mem m0 m1)
      rw [hP] at this; cases this
    | some j => rw [hx] at hI; simp only at hI; omega
  · have hp := idxP_at hI k0 k1
    unfold agP at hp
    rw [Bool.and_eq_true] at hp
    refine ⟨nth L k, ?_, ((ask_iff (cf_nth hL k0 k1)).1 hp.1).trans h3⟩
    unfold agreedL agO
    refine List.mem_flatMap.2 ⟨i, List.mem_range.2 (by omega), ?_⟩
    rw [hO]
    exact List.mem_singleton.2 rfl
theorem agreed_mem {L : List (List Value)} {F : Int} (hL : cfs T.K43 L) {x : List Value} (h : x ∈ agreedL L F) : x ∈ L ∧ F < giversN L x := (agO_mem hL (Nat.le_refl _) h).2
theorem agreed_pair {L : List (List Value)} {F : Int} (hL : cfs T.K43 L) : (agreedL L F).Pairwise (fun x y => askC x ≠ askC y) := agO_pair hL (Nat.le_refl _)
/-- how many answers are about a seed -/
def cntS (s : Int) (M : List (List Value)) : Nat := (M.filter fun a => decide (seedC (askC a) = s)).length
theorem cnt_le {s : Int} {M : List (List Value)} (hp : M.Pairwise (fun x y => askC x ≠ askC y)) (hs : ∀ x ∈ M, ∃ s : Int, 0 ≤ s ∧ s < 4 ∧ askC x = askN s) : cntS s M ≤ 1 := by
  unfold cntS
  have h2 := hp.filter (fun a => decide (seedC (askC a) = s))
  match hq : M.filter (fun a => decide (seedC (askC a) = s)) with
  | [] => exact Nat.zero_le _
  | [a] => exact Nat.le_refl _
  | a :: b :: r =>
    exfalso
    rw [hq] at h2
    have ma : a ∈ M.filter (fun a => decide (seedC (askC a) = s)) := by rw [hq]; simp
    have mb : b ∈ M.filter (fun a => decide (seedC (askC a) = s)) := by rw [hq]; simp
    obtain ⟨ma, ea⟩ := List.mem_filter.1 ma
    obtain ⟨mb, eb⟩ := List.mem_filter.1 mb
    rw [decide_eq_true_eq] at ea eb
    obtain ⟨sa, _, _, qa⟩ := hs a ma
    obtain ⟨sb, _, _, qb⟩ := hs b mb
    rw [qa, ask_seed] at ea
    rw [qb, ask_seed] at eb
    exact (List.pairwise_cons.1 h2).1 b (List.mem_cons_self ..) (by rw [qa, qb, ea, eb])
theorem cnt_pos {s : Int} {M : List (List Value)} : 0 < cntS s M ↔ ∃ x ∈ M, seedC (askC x) = s := by
  unfold cntS
  rw [List.length_pos_iff_exists_mem]
  constructor
  · rintro ⟨x, hx⟩
    have := List.mem_filter.1 hx
    exact ⟨x, this.1, of_decide_eq_true this.2⟩
  · rintro ⟨x, hx, e⟩
    exact ⟨x, List.mem_filter.2 ⟨hx, decide_eq_true e⟩⟩
theorem cnt_sum : ∀ {M : List (List Value)}, (∀ x ∈ M, ∃ s : Int, 0 ≤ s ∧ s < 4 ∧ askC x = askN s) → cntS 0 M + cntS 1 M + cntS 2 M + cntS 3 M = M.length
  | [], _ => rfl
  | x :: M, h => by
    have ih := cnt_sum (M := M) fun y hy => h y (List.mem_cons_of_mem _ hy)
    obtain ⟨s, h0, h4, e⟩ := h x (List.mem_cons_self ..)
    have step : ∀ t : Int, cntS t (x :: M) = cntS t M + if s = t then 1 else 0 := by
      intro t
      unfold cntS
      rw [List.filter_cons, e, ask_seed]
      by_cases hq : s = t
      · rw [if_pos (decide_eq_true hq), if_pos hq]; rfl
      · rw [if_neg (by rw [decide_eq_true_eq]; exact hq), if_neg hq]; rfl
    rw [step, step, step, step, List.length_cons, ← ih]
    have : s = 0 ∨ s = 1 ∨ s = 2 ∨ s = 3 := by omega
    rcases this with rfl | rfl | rfl | rfl <;> simp <;> omega
theorem cnt_same {A B R S : List (List Value)} {F : Int} (h : Mk A R) (h' : Mk B S) (hm : ∀ x, x ∈ A ↔ x ∈ B) (s : Int) : cntS s (agreedL A F) = cntS s (agreedL B F) := by
  have hA : ∀ x ∈ agreedL A F, ∃ s : Int, 0 ≤ s ∧ s < 4 ∧ askC x = askN s := fun x hx => h.ask x (agreed_mem h.cfA hx).1
  have hB : ∀ x ∈ agreedL B F, ∃ s : Int, 0 ≤ s ∧ s < 4 ∧ askC x = askN s := fun x hx => h'.ask x (agreed_mem h'.cfA hx).1
  have l1 := cnt_le (s := s) (agreed_pair h.cfA) hA
  have l2 := cnt_le (s := s) (agreed_pair h'.cfA) hB
  have p1 : 0 < cntS s (agreedL A F) → 0 < cntS s (agreedL B F) := by
    rw [cnt_pos, cnt_pos]
    rintro ⟨x, hx, e⟩
    obtain ⟨m, g⟩ := agreed_mem h.cfA hx
    rw [givers_same h.cfA h'.cfA hm] at g
    obtain ⟨y, hy, q⟩ := agreed_has h'.cfA ((hm x).1 m) g
    exact ⟨y, hy, by rw [q]; exact e⟩
  have p2 : 0 < cntS s (agreedL B F) → 0 < cntS s (agreedL A F) := by
    rw [cnt_pos, cnt_pos]
    rintro ⟨x, hx, e⟩
    obtain ⟨m, g⟩ := agreed_mem h'.cfA hx
    rw [← givers_same h.cfA h'.cfA hm] at g
    obtain ⟨y, hy, q⟩ := agreed_has h.cfA ((hm x).2 m) g
    exact ⟨y, hy, by rw [q]; exact e⟩
  omega
theorem agreed_len {A B R S : List (List Value)} {F : Int} (h : Mk A R) (h' : Mk B S) (hm : ∀ x, x ∈ A ↔ x ∈ B) : (agreedL A F).length = (agreedL B F).length := by
  have e1 := cnt_sum (M := agreedL A F) fun x hx => h.ask x (agreed_mem h.cfA hx).1
  have e2 := cnt_sum (M := agreedL B F) fun x hx => h'.ask x (agreed_mem h'.cfA hx).1
  have q0 := cnt_same (F := F) h h' hm 0
  have q1 := cnt_same (F := F) h h' hm 1
  have q2 := cnt_same (F := F) h h' hm 2
  have q3 := cnt_same (F := F) h h' hm 3
  omega
theorem agreed_right {A R : List (List Value)} {F : Int} (h : Mk A R) (hF : (judgeW A R).length ≤ F) {x : List Value} (hx : x ∈ agreedL A F) : wrongB x = false := by
  obtain ⟨m, g⟩ := agreed_mem h.cfA hx
  cases hw : wrongB x with
  | false => rfl
  | true =>
    exfalso
    have := nodup_len (gvF_nodup (x := x) (L := A)) (m := judgeW A R) fun v hv => by
      obtain ⟨a, ha, k1, k2, k3⟩ := (gvF_mem h.cfA).1 hv
      refine h.judge.2 ⟨a, ha, k3, ?_⟩
      unfold wrongB at hw ⊢
      rw [k1, k2]; exact hw
    unfold giversN at g
    omega
/-- who answered about a seed -/
def whoStep (s : Int) (acc : List Int) (a : List Value) : List Int := if seedC (askC a) = s ∧ wkr a ∉ acc then acc ++ [wkr a] else acc
def whoF (s : Int) (L : List (List Value)) : List Int := L.foldl (whoStep s) []
theorem who_next {s : Int} {L : List (List Value)} {i : Int} (h0 : 0 ≤ i) (h1 : i < L.length) : whoF s (L.take (i + 1).toNat) = whoStep s (whoF s (L.take i.toNat)) (nth L i) := by
  rw [take_next h0 h1, ← nth_at h0 h1]
  unfold whoF
  rw [List.foldl_append]; rfl
theorem who_mem {s : Int} {L : List (List Value)} {v : Int} : v ∈ whoF s L ↔ ∃ a ∈ L, seedC (askC a) = s ∧ wkr a = v := by
  have key : ∀ (L : List (List Value)) (acc : List Int), (v ∈ L.foldl (whoStep s) acc ↔ v ∈ acc ∨ ∃ a ∈ L, seedC (askC a) = s ∧ wkr a = v) := by
    intro L
    induction L with
    | nil => intro acc; simp
    | cons a L ih =>
      intro acc
      rw [List.foldl_cons, ih]
      have step : v ∈ whoStep s acc a ↔ v ∈ acc ∨ (seedC (askC a) = s ∧ wkr a = v) := by
        unfold whoStep
        split
        · rename_i hc
          rw [List.mem_append, List.mem_singleton]
          constructor
          · rintro (h | h)
            · exact .inl h
            · exact .inr ⟨hc.1, h.symm⟩
          · rintro (h | h)
            · exact .inl h
            · exact .inr h.2.symm
        · rename_i hc
          constructor
          · exact .inl
          · rintro (h | ⟨h1, h3⟩)
            · exact h
            · exact Classical.byContradiction fun q => hc ⟨h1, h3 ▸ q⟩
      rw [step]
      constructor
      · rintro ((h | h) | ⟨b, hb, h⟩)
        · exact .inl h
        · exact .inr ⟨a, List.mem_cons_self .., h⟩
        · exact .inr ⟨b, List.mem_cons_of_mem _ hb, h⟩
      · rintro (h | ⟨b, hb, h⟩)
        · exact .inl (.inl h)
        · rcases List.mem_cons.1 hb with rfl | hb
          · exact .inl (.inr h)
          · exact .inr ⟨b, hb, h⟩
  unfold whoF
  rw [key L []]
  simp
theorem who_nodup {s : Int} {L : List (List Value)} : (whoF s L).Nodup := by
  have key : ∀ (L : List (List Value)) (acc : List Int), acc.Nodup → (L.foldl (whoStep s) acc).Nodup := by
    intro L
    induction L with
    | nil => intro acc h; exact h
    | cons a L ih =>
      intro acc h
      rw [List.foldl_cons]
      refine ih _ ?_
      unfold whoStep
      split
      · rename_i hc
        rw [List.nodup_append]
        refine ⟨h, by simp, fun u hu w hw => ?_⟩
        rw [List.mem_singleton.1 hw]
        exact fun e => hc.2 (e ▸ hu)
      · exact h
  exact key L [] .nil
theorem who_len {s : Int} {L : List (List Value)} : (whoF s L).length ≤ L.length := by
  have key : ∀ (L : List (List Value)) (acc : List Int), (L.foldl (whoStep s) acc).length ≤ acc.length + L.length := by
    intro L
    induction L with
    | nil => intro acc; simp
    | cons a L ih =>
      intro acc
      rw [List.foldl_cons]
      have := ih (whoStep s acc a)
      have h2 : (whoStep s acc a).length ≤ acc.length + 1 := by
        unfold whoStep
        split
        · simp
        · omega
      simp only [List.length_cons]
      omega
  have := key L []
  unfold whoF
  simpa using this
/-- an ask that enough workers answered has a sure answer -/
theorem who_sure {A R : List (List Value)} {F s : Int} (h : Mk A R) (hF : (judgeW A R).length ≤ F) (hc : cntS s (agreedL A F) = 0) : ((whoF s A).length : Int) ≤ 2 * F := by
  by_cases hx : ∃ x ∈ A, seedC (askC x) = s ∧ wrongB x = false
  · obtain ⟨x, hx, hs, hw⟩ := hx
    have hg : giversN A x ≤ F := by
      rcases Int.lt_or_le F (giversN A x) with q | q
      · exfalso
        obtain ⟨y, hy, e⟩ := agreed_has h.cfA hx q
        have : 0 < cntS s (agreedL A F) := cnt_pos.2 ⟨y, hy, by rw [e]; exact hs⟩
        omega
      · exact q
    have := nodup_len (who_nodup (s := s) (L := A)) (m := gvF x A ++ judgeW A R) fun v hv => by
      obtain ⟨a, ha, k1, k2⟩ := who_mem.1 hv
      rw [List.mem_append]
      cases hwa : wrongB a with
      | true => exact .inr (h.judge.2 ⟨a, ha, k2, hwa⟩)
      | false =>
        left
        obtain ⟨sa, _, _, qa⟩ := h.ask a ha
        obtain ⟨sx, _, _, qx⟩ := h.ask x hx
        have ea : sa = s := by rw [qa, ask_seed] at k1; exact k1
        have ex : sx = s := by rw [qx, ask_seed] at hs; exact hs
        have eask : askC a = askC x := by rw [qa, qx, ea, ex]
        refine (gvF_mem h.cfA).2 ⟨a, ha, eask, ?_, k2⟩
        unfold wrongB at hwa hw
        have r1 := (res_iff (h.cfA _ ha) (y := ?_)).1 ?_
        · exact r1
        · have w1 : eqCs (resC a) (rightC (seedC (askC a))) = true := by simpa using hwa
          have w2 : eqCs (resC x) (rightC (seedC (askC x))) = true := by simpa using hw
          have w1 := (eqCs_iff (cf_part (ks := T.K43) 23 22 (h.cfA _ ha) rfl)).1 w1
          have w2 := (eqCs_iff (cf_part (ks := T.K43) 23 22 (h.cfA _ hx) rfl)).1 w2
          rw [res_iff (h.cfA _ ha)]
          show resC a = resC x
          exact w1.trans (by rw [eask]; exact w2.symm)
    rw [List.length_append] at this
    unfold giversN at hg
    omega
  · have := nodup_len (who_nodup (s := s) (L := A)) (m := judgeW A R) fun v hv => by
      obtain ⟨a, ha, k1, k2⟩ := who_mem.1 hv
      cases hwa : wrongB a with
      | true => exact h.judge.2 ⟨a, ha, k2, hwa⟩
      | false => exact absurd ⟨a, ha, k1, hwa⟩ hx
    omega
/-! The answers turned. -/
def kT (n d i : Int) : Int := n - 1 - (i + d).tmod n
theorem kT_rng {n d i : Int} (hn : 0 < n) (hd : 0 ≤ d) (h0 : 0 ≤ i) : 0 ≤ kT n d i ∧ kT n d i < n := by
  unfold kT
  have h1 := Int.tmod_lt_of_pos (i + d) hn
  have h2 := Int.tmod_nonneg (b := n) (a := i + d) (by omega)
  omega
theorem kT_onto {n d j : Int} (hn : 0 < n) (hd : 0 ≤ d) (hd2 : d < n) (h0 : 0 ≤ j) (h1 : j < n) : ∃ i : Int, 0 ≤ i ∧ i < n ∧ kT n d i = j := by
  by_cases hq : d ≤ n - 1 - j
  · refine ⟨n - 1 - j - d, by omega, by omega, ?_⟩
    unfold kT
    rw [show n - 1 - j - d + d = n - 1 - j by omega, Int.tmod_eq_of_lt (by omega) (by omega)]
    omega
  · refine ⟨n - 1 - j - d + n, by omega, by omega, ?_⟩
    unfold kT
    rw [show n - 1 - j - d + n + d = (n - 1 - j) + n by omega, Int.tmod_eq_emod_of_nonneg (by omega), Int.add_emod_right, Int.emod_eq_of_lt (by omega) (by omega)]
    omega
def turnL (A : List (List Value)) (n d i : Int) : List (List Value) := (List.range i.toNat).map fun (j : Nat) => nth A (kT n d j)
theorem turn_next {A : List (List Value)} {n d i : Int} (h0 : 0 ≤ i) : turnL A n d (i + 1) = turnL A n d i ++ [nth A (kT n d i)] := by
  unfold turnL
  rw [show (i + 1).toNat = i.toNat + 1 by omega, List.range_succ, List.map_append]
  simp only [List.map_cons, List.map_nil, Int.toNat_of_nonneg h0]
theorem turn_len {A : List (List Value)} {n d i : Int} : (turnL A n d i).length = i.toNat := by
  unfold turnL
  rw [List.length_map, List.length_range]
theorem turn_nth {A : List (List Value)} {n d i j : Int} (h0 : 0 ≤ j) (h1 : j < i) : nth (turnL A n d i) j = nth A (kT n d j) := by
  rw [nth_eq (by rw [turn_len]; omega)]
  unfold turnL
  rw [List.getElem_map, List.getElem_range, Int.toNat_of_nonneg h0]
theorem turn_mem {A : List (List Value)} {d : Int} (hd : 0 ≤ d) (hd2 : d < A.length) {x : List Value} : x ∈ A ↔ x ∈ turnL A A.length d A.length := by
  rw [mem_nth, mem_nth]
  constructor
  · rintro ⟨j, h0, h1, rfl⟩
    obtain ⟨i, i0, i1, e⟩ := kT_onto (by omega) hd hd2 h0 h1
    exact ⟨i, i0, by rw [turn_len]; omega, by rw [turn_nth i0 i1, e]⟩
  · rintro ⟨i, i0, i1, rfl⟩
    rw [turn_len] at i1
    have := kT_rng (n := A.length) (d := d) (i := i) (by omega) hd i0
    exact ⟨_, this.1, this.2, turn_nth i0 (by omega)⟩
theorem turn_cfs {ks : List Lk} {A : List (List Value)} {n d i : Int} (hA : cfs ks A) (hn : n = A.length) (hd : 0 ≤ d) (hi : i ≤ n) : cfs ks (turnL A n d i) := by
  intro x hx
  obtain ⟨j, j0, j1, rfl⟩ := mem_nth.1 hx
  rw [turn_len] at j1
  rw [turn_nth j0 (by omega)]
  have := kT_rng (n := n) (d := d) (i := j) (by omega) hd j0
  exact cf_nth hA this.1 (by omega)
theorem Mk.turn {A R : List (List Value)} (h : Mk A R) {d : Int} (hd : 0 ≤ d) (hd2 : d < A.length) : Mk (turnL A A.length d A.length) (turnL R A.length d A.length) := by
  have hm := fun x => turn_mem (x := x) hd hd2
  refine ⟨by rw [turn_len, turn_len], turn_cfs h.cfA rfl hd (Int.le_refl _), turn_cfs h.cfR (by have := h.len; omega) hd (Int.le_refl _), ?_, fun x hx => h.ask x ((hm x).2 hx), fun i i0 i1 => ?_⟩
  · rw [List.any_eq_false]
    intro x hx
    exact List.any_eq_false.1 h.odd x ((hm x).2 hx)
  · rw [turn_len] at i1
    rw [turn_nth i0 (by omega), turn_nth i0 (by omega)]
    have := kT_rng (n := A.length) (d := d) (i := i) (by omega) hd i0
    exact h.res _ this.1 this.2
end Go.Proofs.Ytohhcnehcjpekaa
