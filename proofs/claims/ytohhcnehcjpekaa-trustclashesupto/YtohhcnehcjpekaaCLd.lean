/-
  The least explanation of the reference: her loop over all sets finds the same one as the program's.
-/
import Derived.Test.YtohhcnehcjpekaaCLx
namespace Go.Proofs.Ytohhcnehcjpekaa
open Go.AM
set_option maxRecDepth 100000
set_option linter.unusedVariables false
def subB (bits w : Int) : Bool := decide ((bits.fdiv (2 ^ (min (IntKind.u64.wrap w).toNat IntKind.i64.bits))).tmod 2 = 1)
def subL (bits w : Int) : List Int := ((List.range w.toNat).filter fun (j : Nat) => subB bits j).map fun (j : Nat) => (j : Int)
theorem sub_next {bits w : Int} (h : 0 ≤ w) : subL bits (w + 1) = subL bits w ++ if subB bits w then [w] else [] := by
 unfold subL
 rw [show (w + 1).toNat = w.toNat + 1 by omega, List.range_succ, List.filter_append, List.map_append, List.filter_cons, List.filter_nil, Int.toNat_of_nonneg h]
 split
 ·simp only [List.map_cons, List.map_nil, Int.toNat_of_nonneg h]
 ·rfl
theorem sub_hit {bits w : Int} (h : 0 ≤ w) (h2 : (bits.fdiv (2 ^ (min (IntKind.u64.wrap w).toNat IntKind.i64.bits))).tmod 2 = 1) : subL bits (w + 1) = subL bits w ++ [w] := by
 rw [sub_next h, if_pos (by unfold subB; exact decide_eq_true h2)]
theorem sub_skip {bits w : Int} (h : 0 ≤ w) (h2 : ¬ (bits.fdiv (2 ^ (min (IntKind.u64.wrap w).toNat IntKind.i64.bits))).tmod 2 = 1) : subL bits (w + 1) = subL bits w := by
 rw [sub_next h, if_neg (by unfold subB; simpa using h2), List.append_nil]
theorem sub_len {bits w : Int} : (subL bits w).length ≤ w.toNat := by
 unfold subL
 rw [List.length_map]
 exact Nat.le_trans (List.length_filter_le _ _) (by rw [List.length_range]; exact Nat.le_refl _)
def lsBetter (L : List (List Value)) (w best : List Int) : Bool := (decide (w.length < best.length) || (decide (w.length = best.length) && lexL w best)) && explainL L w
def leastStep (L : List (List Value)) (z : Bool × List Int) (bits : Int) : Bool × List Int := if lsBetter L (subL bits 6) z.2 then (false, subL bits 6) else z
def leastF (L : List (List Value)) (k : Int) : Bool × List Int := (List.range k.toNat).foldl (fun z (j : Nat) => leastStep L z j) (true, [0, 1, 2, 3, 4, 5])
theorem leastF_next {L : List (List Value)} {k : Int} (h : 0 ≤ k) : leastF L (k + 1) = leastStep L (leastF L k) k := by
 unfold leastF
 rw [show (k + 1).toNat = k.toNat + 1 by omega, List.range_succ, List.foldl_append]
 simp only [List.foldl_cons, List.foldl_nil, Int.toNat_of_nonneg h]
theorem ls_yes {L : List (List Value)} {bits w : Int} {z : Bool × List Int} {acc : List Int} (h : 0 ≤ bits) (h2 : leastF L bits = z) (hk : w = 6) (k2 : acc = subL bits w) (hx : explainL L acc = true) (hl : (acc.length : Int) < z.2.length ∨ ((acc.length : Int) = z.2.length ∧ lexL acc z.2 = true)) : leastF L (bits + 1) = (false, acc) := by
 subst hk
 rw [leastF_next h, h2]
 unfold leastStep
 rw [← k2, if_pos]
 unfold lsBetter
 rw [hx, Bool.and_true]
 rcases hl with hl | ⟨hl, hl2⟩
 ·rw [decide_eq_true (by omega)]; rfl
 ·rw [decide_eq_true (p := acc.length = z.2.length) (by omega), hl2]; simp
theorem ls_no {L : List (List Value)} {bits w : Int} {z : Bool × List Int} {acc : List Int} (h : 0 ≤ bits) (h2 : leastF L bits = z) (hk : w = 6) (k2 : acc = subL bits w) (hl : explainL L acc = false ∨ (z.2.length ≤ acc.length ∧ (¬ acc.length = z.2.length ∨ lexL acc z.2 = false))) : leastF L (bits + 1) = z := by
 subst hk
 rw [leastF_next h, h2]
 unfold leastStep
 rw [← k2, if_neg]
 unfold lsBetter
 rcases hl with hl | ⟨hl, hl2 | hl2⟩
 ·rw [hl]; simp
 ·rw [decide_eq_false (by omega), decide_eq_false hl2]; simp
 ·rw [decide_eq_false (by omega), hl2]; simp
theorem leastF_len {L : List (List Value)} {k : Int} : (leastF L k).2.length ≤ 6 := by
 unfold leastF
 induction k.toNat with
 | zero => exact Nat.le_refl _
 | succ n ih =>
  rw [List.range_succ, List.foldl_append]
  simp only [List.foldl_cons, List.foldl_nil]
  unfold leastStep
  split
  ·exact sub_len
  ·exact ih
def bestV (m : Nat) (z : Bool × List Int) : Value := if z.1 then .slice (some ⟨m, 0, none⟩) z.2.length z.2.length else outV m 1 z.2.length
def bestN (z : Bool × List Int) : List (List Value) := if z.1 then [ints z.2] else outN z.2.length (ints z.2)
theorem best_gc {m n d : Nat} {z : Bool × List Int} : gcV (shp m n) (d + 1) (bestV m z) = some (bestV n z) := by
 unfold bestV
 split
 ·exact gcV_slice shp_k
 ·exact out_gc'
theorem best_free {z : Bool × List Int} : (bestN z).all (fun d => d.all free0) = true := by
 unfold bestN
 split
 ·simp only [List.all_cons, List.all_nil, Bool.and_true]; exact ints_free0 _
 ·exact outN_free (ints_free0 _)
def BestP (t : Tr AObj) (nx : Nat) (v : Value) (z : Bool × List Int) : Prop := (z.1 = true ∧ z.2.length = 6 ∧ ∃ id, v = .slice (some ⟨id, 0, none⟩) 6 6 ∧ OwnR t id id (ints z.2) ∧ id < nx ∧ 0 < id) ∨ (z.1 = false ∧ ∃ S, AccP t 1 nx S 1 v z.2.length (ints z.2))
theorem BestP.q {t : Tr AObj} {nx : Nat} {v : Value} {z : Bool × List Int} (h : BestP t nx v z) : RdQ t nx 1 v z.2.length (ints z.2) := by
 rcases h with ⟨_, hl, id, rfl, h2, h3, _⟩ | ⟨_, S, h⟩
 ·exact .inr ⟨by rw [ints_len, Nat.mul_one], id, id, 6, by rw [hl], .inl hl.symm, h2, h3, h3⟩
 ·exact h.rds.q
theorem BestP.keep {t t' : Tr AObj} {nx nx' : Nat} {v : Value} {z : Bool × List Int} (h : BestP t nx v z) (hn : nx ≤ nx') (hk : ∀ id, id < nx → t'.get id = t.get id) : BestP t' nx' v z := by
 rcases h with ⟨h0, hl, id, h1, h2, h3, h4⟩ | ⟨h0, S, h⟩
 ·exact .inl ⟨h0, hl, id, h1, h2.keep (hk _ h3) (hk _ h3), by omega, h4⟩
 ·exact .inr ⟨h0, S, h.keep hn fun x hx => hk x (h.bnd x hx).2⟩
theorem AccP.low {t : Tr AObj} {n0 n1 nx k n : Nat} {S : Nat → Prop} {v : Value} {d : List Value} (h : AccP t n0 nx S k v n d) (h1 : n1 ≤ n0) : AccP t n1 nx S k v n d := ⟨h.acc, fun x hx => by have := h.bnd x hx; omega⟩
def C64 : List (List Int) := combs 0 six ++ (combs 1 six ++ (combs 2 six ++ (combs 3 six ++ (combs 4 six ++ (combs 5 six ++ combs 6 six)))))
def btL (a b : List Int) : Bool := decide (a.length < b.length) || (decide (a.length = b.length) && lexL a b)
theorem bt_rank : (C64.all fun a => C64.all fun b => btL a b == decide (C64.idxOf a < C64.idxOf b)) = true := by decide +kernel
theorem sub_C : ((List.range 64).all fun (j : Nat) => decide (subL (j : Int) 6 ∈ C64)) = true := by decide +kernel
theorem C_sub : (C64.all fun c => (List.range 64).any fun (j : Nat) => decide (subL (j : Int) 6 = c)) = true := by decide +kernel
theorem bt_iff {a b : List Int} (ha : a ∈ C64) (hb : b ∈ C64) : btL a b = true ↔ C64.idxOf a < C64.idxOf b := by
 have h := beq_iff_eq.1 (List.all_eq_true.1 (List.all_eq_true.1 bt_rank a ha) b hb)
 rw [h, decide_eq_true_eq]
theorem sub_mem {j : Nat} (hj : j < 64) : subL (j : Int) 6 ∈ C64 := of_decide_eq_true (List.all_eq_true.1 sub_C j (List.mem_range.2 hj))
theorem six_C : ([0, 1, 2, 3, 4, 5] : List Int) ∈ C64 := by decide +kernel
theorem leastF_inv {L : List (List Value)} : ∀ {k : Nat}, k ≤ 64 → (leastF L k).2 ∈ C64 ∧ ((leastF L k).2 = six ∨ explainL L (leastF L k).2 = true) ∧ ∀ j, j < k → explainL L (subL (j : Int) 6) = true → C64.idxOf (leastF L k).2 ≤ C64.idxOf (subL (j : Int) 6)
 | 0, _ => ⟨six_C, .inl rfl, fun j hj => by omega⟩
 | k + 1, hk => by
  obtain ⟨h1, h2, h3⟩ := leastF_inv (L := L) (k := k) (by omega)
  have e : leastF L ((k + 1 : Nat) : Int) = leastStep L (leastF L k) k := leastF_next (Int.natCast_nonneg k)
  have hs := sub_mem (j := k) (by omega)
  rw [e]
  unfold leastStep
  by_cases hb : lsBetter L (subL (k : Int) 6) (leastF L k).2 = true
  ·rw [if_pos hb]
   have hb' : (btL (subL (k : Int) 6) (leastF L k).2 && explainL L (subL (k : Int) 6)) = true := hb
   rw [Bool.and_eq_true, bt_iff hs h1] at hb'
   refine ⟨hs, .inr hb'.2, fun j hj he => ?_⟩
   rcases Nat.lt_or_ge j k with q | q
   ·have := h3 j q he
    show C64.idxOf (subL (k : Int) 6) ≤ _
    omega
   ·have : j = k := by omega
    subst this
    exact Nat.le_refl _
  ·rw [if_neg hb]
   refine ⟨h1, h2, fun j hj he => ?_⟩
   rcases Nat.lt_or_ge j k with q | q
   ·exact h3 j q he
   ·have : j = k := by omega
    subst this
    have hb' : ¬ (btL (subL (j : Int) 6) (leastF L j).2 && explainL L (subL (j : Int) 6)) = true := hb
    rw [Bool.and_eq_true, bt_iff hs h1] at hb'
    have : ¬ C64.idxOf (subL (j : Int) 6) < C64.idxOf (leastF L j).2 := fun q => hb' ⟨q, he⟩
    omega
theorem leastF_eq {L : List (List Value)} (ho : L.any oddC = false) : (leastF L 64).2 = leastL L := by
 obtain ⟨h1, h2, h3⟩ := leastF_inv (L := L) (k := 64) (Nat.le_refl _)
 have he : explainL L (leastF L 64).2 = true := by
  rcases h2 with h2 | h2
  ·have h2 : (leastF L 64).2 = six := h2
   rw [h2]; exact six_explains ho
  ·exact h2
 have hfd : leastL L = (C64.find? (explainL L)).getD [] := rfl
 rw [hfd]
 cases hf : C64.find? (explainL L) with
 | none =>
  have := List.find?_eq_none.1 hf _ h1
  exact absurd he this
 | some w =>
  obtain ⟨hw, pre, bs, hC, has⟩ := List.find?_eq_some_iff_append.1 hf
  have hwC : w ∈ C64 := by rw [hC]; exact List.mem_append_right _ (List.mem_cons_self ..)
  have no : ∀ x, explainL L x = true → x ∉ pre := fun x hx hm => by
   have := has x hm
   rw [hx] at this
   cases this
  have rw1 : C64.idxOf w = pre.length := by
   rw [hC, List.idxOf_append, if_neg (no w hw), List.idxOf_cons_self, Nat.zero_add]
  have ge1 : pre.length ≤ C64.idxOf (leastF L 64).2 := by
   rw [hC, List.idxOf_append, if_neg (no _ he)]
   omega
  have le1 : C64.idxOf (leastF L 64).2 ≤ C64.idxOf w := by
   obtain ⟨j, hj, hjw⟩ := List.any_eq_true.1 (List.all_eq_true.1 C_sub w hwC)
   have hjw := of_decide_eq_true hjw
   rw [← hjw]
   exact h3 j (List.mem_range.1 hj) (by rw [hjw]; exact hw)
  have hi : C64.idxOf (leastF L 64).2 = C64.idxOf w := by omega
  have h1 : (leastF L 64).2 ∈ C64 := h1
  have e3 : C64[C64.idxOf (leastF L 64).2]? = some (leastF L 64).2 := by
   rw [List.getElem?_eq_getElem (List.idxOf_lt_length_iff.2 h1)]
   exact congrArg some (List.getElem_idxOf _)
  have e4 : C64[C64.idxOf w]? = some w := by
   rw [List.getElem?_eq_getElem (List.idxOf_lt_length_iff.2 hwC)]
   exact congrArg some (List.getElem_idxOf _)
  rw [hi, e4] at e3
  rw [Option.getD_some]
  exact (Option.some.inj e3).symm
end Go.Proofs.Ytohhcnehcjpekaa
