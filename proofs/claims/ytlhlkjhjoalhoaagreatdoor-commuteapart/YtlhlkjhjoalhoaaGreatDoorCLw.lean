/-
  The law's own lists; slices cut off; the example's contract.
-/
import Derived.Test.YtlhlkjhjoalhoaaGreatDoorCCa
import Derived.Test.YtlhlkjhjoalhoaaGreatDoorCE19
set_option linter.unusedSimpArgs false
set_option linter.unusedVariables false
namespace Go.Proofs.YtlhlkjhjoalhoaaGreatDoor
open Go Go.AM
def accN (n : Int) : List Value := [.int .i64 ((around n 1024).tmod 7), .int .i64 ((IntKind.i64.wrap ((around n 1024).tdiv 7)).tmod 3), .bool (decide ((IntKind.i64.wrap ((around n 1024).tdiv 21)).tmod 2 = 1))]
theorem all_inR {l : List Int} {i : Int} (hl : l.all (fun n => decide (inR n)) = true) (h0 : 0 ≤ i) (h1 : i < l.length) : inR (ith l i) := by
 rw [ith_eq h0 h1]
 exact of_decide_eq_true (List.all_eq_true.1 hl _ (List.getElem_mem _))
theorem accN_len (n : Int) : (accN n).length = 3 := rfl
theorem bld26v {a b : Int} {c : Bool} : quick Tryz.prog (Instr.build 26 ⟨[(0, .int .i64 a), (1, .int .i64 b), (2, .bool c)]⟩) = some (.agg ⟨[.int .i64 a, .int .i64 b, .bool c]⟩) := by kernel_rfl
def lA (l : List Int) (i : Int) : List (List Value) := (l.take i.toNat).map accN
theorem lA_next {l : List Int} {i : Int} (h0 : 0 ≤ i) (h1 : i < l.length) : lA l (i + 1) = lA l i ++ [accN (ith l i)] := by
 unfold lA
 rw [take_next h0 h1, ith_eq h0 h1, List.map_append]; rfl
theorem lA_len {l : List Int} {i : Int} (h0 : 0 ≤ i) (h1 : i ≤ l.length) : ((lA l i).length : Int) = i := by
 unfold lA
 rw [List.length_map, List.length_take]; omega
theorem lA_cf (l : List Int) (i : Int) : cfs T.K26 (lA l i) := fun x hx => by
 unfold lA at hx
 obtain ⟨n, _, rfl⟩ := List.mem_map.1 hx
 rfl
def bk (A : List (List Value)) (i : Int) : List (List Value) := (A.drop (i + 1).toNat).reverse
theorem bk_next {A : List (List Value)} {i : Int} (h0 : 0 ≤ i) (h1 : i < A.length) : bk A (i - 1) = bk A i ++ [nth A i] := by
 unfold bk
 have e : (i - 1 + 1).toNat = i.toNat := by omega
 have e2 : (i + 1).toNat = i.toNat + 1 := by omega
 rw [e, e2, List.drop_eq_getElem_cons (by omega), List.reverse_cons, nth_eq (by omega)]
theorem bk_start {A : List (List Value)} : bk A (A.length - 1) = [] := by
 unfold bk
 rw [show ((A.length : Int) - 1 + 1).toNat = A.length by omega, List.drop_length]; rfl
theorem bk_len {A : List (List Value)} {i : Int} (h0 : -1 ≤ i) (h1 : i < A.length) : ((bk A i).length : Int) = A.length - 1 - i := by
 unfold bk
 rw [List.length_reverse, List.length_drop]; omega
theorem bk_cf {A : List (List Value)} (h : cfs T.K26 A) (i : Int) : cfs T.K26 (bk A i) := fun x hx => by
 unfold bk at hx
 exact h x (List.mem_of_mem_drop (List.mem_reverse.1 hx))
theorem bk_mem {A : List (List Value)} {i : Int} (h : i = -1) (x : List Value) : x ∈ bk A i ↔ x ∈ A := by
 subst h
 unfold bk
 simp
theorem app_len {A : List (List Value)} {x : List Value} : (A ++ [x]).length = A.length + 1 := by simp
theorem app_flat {A : List (List Value)} {x : List Value} : (A ++ [x]).flatten = A.flatten ++ x := by simp
theorem cfs_take {ks : List Lk} {L : List (List Value)} {n : Nat} (h : cfs ks L) : cfs ks (L.take n) := fun x hx => h x (List.mem_of_mem_take hx)
theorem flat_take {k : Nat} : ∀ {L : List (List Value)} {m : Nat}, (∀ x ∈ L, x.length = k) → L.flatten.take (m * k) = (L.take m).flatten
 | [], m, _ => by simp
 | x :: r, 0, _ => by simp
 | x :: r, m + 1, h => by
  have hx := h x (List.mem_cons_self ..)
  rw [List.flatten_cons, List.take_succ_cons, List.flatten_cons, Nat.succ_mul, Nat.add_comm, List.take_append, hx, Nat.add_sub_cancel_left, flat_take fun y hy => h y (List.mem_cons_of_mem _ hy), List.take_of_length_le (by omega)]
theorem gcOk_two {h : AH} : gcOk 2 h [0, 1] = true := by
 simp [gcOk, List.range_succ]
theorem b_neqSame {b : Bool} {xo yo : Operand} : binV Tryz.prog .neq 4 xo yo (.bool b) (.bool b) = some (.bool false) := by
 cases b <;> kernel_rfl
theorem rdS_at {t t' : Tr AObj} {nx nx' wr k n : Nat} {v : Value} {d : List Value} (h : RdS t nx k v n d) (hk : 0 < k) (hf : d.all free0 = true) (hh : ∀ id, id < nx → t'.get id = t.get id) (hM : k < 4294967296 := by decide) : Rd ⟨t', nx', wr⟩ k v n d := (h.keep (Nat.le_refl _) hh).rd hk hf hM
theorem k_join {P : Program} {h0 : AH} {x y : Code} {st : St} {Q : Ex → St → Prop} {fr : List Frm} (J : St → Prop) (h1 : TriK P h0 x (.loop J :: fr) st Q) (h2 : ∀ s, J s → TriK P h0 y fr s Q) : TriK P h0 x (.seq y :: fr) st Q :=
 Tri.mono h1 fun ex s h => by
  cases ex with
  | normal => exact h2 s h
  | exit i => exact h
  | ret => exact h
section
variable {P : Program} {T el : TypeId} {t : Tr AObj} {nx k : Nat} {v : Value} {j : Int} {L : List (List Value)} {ks : List Lk}
theorem x_cutS (hs : RdS t nx k v L.length L.flatten) (hL : cfs ks L) (hkl : ks.length = k) (hu : P.underlying T = some (.slice el)) (hz : szOf P el = some k) (h0 : 0 < k) (hj0 : 0 ≤ j) (hj1 : j ≤ L.length) (hM : k < 4294967296) :
  ∃ w, (∀ {call : Call'} {e : Tr Value} {o : Oper} {x lo : Operand} {h : AH}, o.op = .slice T x none (some lo) none → ev e x = some v → ev e lo = some (.int .i64 j) → doOp P call e h o = some (w, h)) ∧
   ∀ t' nx' wr', (∀ id, id < nx → t'.get id = t.get id) → Rd ⟨t', nx', wr'⟩ k w (L.take j.toNat).length (L.take j.toNat).flatten := by
 have hlen : (L.take j.toNat).length = j.toNat := by rw [List.length_take]; omega
 rcases hs with ⟨h1, h2, rfl⟩ | ⟨h1, h2, id, r, rfl, hO, hr, hid⟩
 ·have hL0 : L = [] := List.eq_nil_of_length_eq_zero h1
  subst hL0
  have hj : j = 0 := by simp at hj1; omega
  subst hj
  refine ⟨.slice none 0 0, fun {call e o x lo h} ho hx hl => ?_, fun t' nx' wr' _ => rd_nil⟩
  rw [do_op (by rw [ho]; simp), ho]
  simp only [aop, hx, hl, evO, Option.map_some, sliceV, hu, hz]
  simp [sliceG, nat?, h0, hM]
 ·refine ⟨_, fun {call e o x lo h} ho hx hl => y_sliceHi (q := 0) ho hx hl hu hz h0 hj0 (by omega) hM, fun t' nx' wr' hk => ?_⟩
  rw [hlen]
  refine rd_rowS h0 hM (.inr (spareOk_mk h0 hM)) ?_ (cfs_free0 (cfs_take hL))
  have hO' := hO.keep (hk id hid) (hk r hr)
  have hle : j.toNat * k ≤ L.length * k := Nat.mul_le_mul_right _ (by omega)
  have q := l_whole (h := ⟨t', nx', wr'⟩) hO'.whole 0 (j.toNat * k) (by omega)
  rw [q, List.drop_zero, flat_take fun x hx => (cf_len (hL x hx)).trans hkl]
end
noncomputable def c_lives : List Value → AH → Option (Value × AH) := entC [e302]
theorem con_lives : Con Tryz.prog 8 c_lives := con_ents Tryz.func8 rfl (ents_cons ok302 ents_nil)
theorem lives_c {H : AH} : c_lives [] H = some (.bool true, H) := rfl
end Go.Proofs.YtlhlkjhjoalhoaaGreatDoor
