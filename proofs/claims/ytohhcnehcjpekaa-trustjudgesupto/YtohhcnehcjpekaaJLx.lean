/-
  Slices of any length, with room or without; calls and appends in regions that draw; slices cut off.
-/
import Derived.Test.YtohhcnehcjpekaaJFs
namespace Go.Proofs.Ytohhcnehcjpekaa
open Go Go.AM
set_option linter.unusedVariables false
def RdQ (t : Tr AObj) (nx k : Nat) (v : Value) (n : Nat) (d : List Value) : Prop := (n = 0 ∧ d = [] ∧ v = .slice none 0 0) ∨ (d.length = n * k ∧ ∃ id r c, v = .slice (some ⟨id, 0, none⟩) n c ∧ (c = n ∨ c = n + k) ∧ OwnR t r id d ∧ r < nx ∧ id < nx)
theorem RdS.q {t : Tr AObj} {nx k n : Nat} {v : Value} {d : List Value} (h : RdS t nx k v n d) : RdQ t nx k v n d := by
 rcases h with h | ⟨_, hd, id, r, h1, h2, h3, h4⟩
 ·exact .inl h
 ·exact .inr ⟨hd, id, r, _, h1, .inr rfl, h2, h3, h4⟩
theorem RdQ.keep {t t' : Tr AObj} {nx nx' k n : Nat} {v : Value} {d : List Value} (h : RdQ t nx k v n d) (hn : nx ≤ nx') (hk : ∀ id, id < nx → t'.get id = t.get id) : RdQ t' nx' k v n d := by
 rcases h with h | ⟨hd, id, r, c, h1, hc, h2, h3, h4⟩
 ·exact .inl h
 ·exact .inr ⟨hd, id, r, c, h1, hc, h2.keep (hk _ h4) (hk _ h3), by omega, by omega⟩
theorem RdQ.rd {t : Tr AObj} {nx nx' wr k n : Nat} {v : Value} {d : List Value} (h : RdQ t nx k v n d) (hk : 0 < k) (hf : d.all free0 = true) : Rd ⟨t, nx', wr⟩ k v n d := by
 rcases h with ⟨rfl, rfl, rfl⟩ | ⟨hd, id, r, c, rfl, hc, h2, h3, h4⟩
 ·exact rd_nil
 ·exact rd_whole hk hc h2.whole hd.symm hf
theorem RdQ.at {t t' : Tr AObj} {nx nx' wr k n : Nat} {v : Value} {d : List Value} (h : RdQ t nx k v n d) (hk : 0 < k) (hf : d.all free0 = true) (hh : ∀ id, id < nx → t'.get id = t.get id) : Rd ⟨t', nx', wr⟩ k v n d := (h.keep (Nat.le_refl _) hh).rd hk hf
theorem RdQ.one {t : Tr AObj} {nx k n : Nat} {v : Value} {d : List Value} (h : RdQ t nx k v n d) : oneC v = true := by
 rcases h with ⟨_, _, rfl⟩ | ⟨_, id, r, c, rfl, _⟩ <;> rfl
theorem RdQ.own {t : Tr AObj} {nx k n : Nat} {v : Value} {d : List Value} (h : RdQ t nx k v n d) (hn : 0 < n) : ∃ id r c, v = .slice (some ⟨id, 0, none⟩) n c ∧ OwnR t r id d ∧ r < nx ∧ id < nx := by
 rcases h with ⟨rfl, _, _⟩ | ⟨_, id, r, c, h1, _, h2, h3, h4⟩
 ·omega
 ·exact ⟨id, r, c, h1, h2, h3, h4⟩
theorem x_lenQ {P : Program} {call : Call'} {e : Tr Value} {h : AH} {o : Oper} {c : Call} {T el : TypeId} {t : Tr AObj} {nx k n : Nat} {v : Value} {d : List Value} (hs : RdQ t nx k v n d) (ho : o.op = .call c) (hc : c.callee = .builtin .len) (ha : evs e c.args.toList = some [v]) (ht : c.argTypes[0]? = some T) (hu : P.underlying T = some (.slice el)) :
  doOp P call e h o = some (.int .i64 n, h) := by
 rcases hs with ⟨rfl, _, rfl⟩ | ⟨_, id, r, c', rfl, _⟩ <;> exact x_len ho hc ha ht hu
theorem l_cell {h : AH} {id low n0 : Nat} {ro : Bool} {cs : List Value} {i : Int} {v : Value} (hr : h.t.get id = some (.row cs id low ro n0)) (hn : n0 = cs.length) (hv : cs[i.toNat]? = some v) : loadC h id (0 + i.toNat * 1) 1 = some [v] := by
 obtain ⟨hlt, he⟩ := List.getElem?_eq_some_iff.1 hv
 rw [l_whole (whole_row hr hn) _ _ (by omega), Nat.zero_add, Nat.mul_one, List.drop_eq_getElem_cons hlt, List.take_succ_cons, List.take_zero, he]
section
variable {P : Program} {call : Call'} {e : Tr Value} {h : AH} {o : Oper} {T el : TypeId} {x lo : Operand} {i k n m : Nat} {s w : Value} {j : Int} {d : List Value}
theorem x_cut (hs : Sl i k n s) (ho : o.op = .slice T x none (some lo) none) (hx : ev e x = some s) (hl : ev e lo = some (.int .i64 j)) (hu : P.underlying T = some (.slice el)) (hz : szOf P el = some k) (h0 : 0 < k) (hj0 : 0 ≤ j) (hj1 : j ≤ n) :
  ∃ w, Sl i k j.toNat w ∧ ∀ h, doOp P call e h o = some (w, h) := by
 rcases hs with ⟨rfl, rfl⟩ | rfl
 ·have hj : j = 0 := by omega
  subst hj
  refine ⟨.slice none 0 0, .inl ⟨rfl, rfl⟩, fun h => ?_⟩
  rw [do_op (by rw [ho]; simp), ho]
  simp only [aop, hx, hl, evO, Option.map_some, sliceV, hu, hz, nat?]
  simp [h0]
 ·exact ⟨_, .inr rfl, fun h => y_sliceHi ho hx hl hu hz h0 hj0 hj1⟩
theorem cells_cut (hs : Sl i k m w) (hu : P.underlying T = some (.slice el)) (hz : szOf P el = some k) (hw : Whole h i d) (hd : m * k ≤ d.length) : cellsV P h T w = some (m, d.take (m * k)) := by
 rcases hs with ⟨rfl, rfl⟩ | rfl
 ·rw [Nat.zero_mul, List.take_zero]; rfl
 ·have q := l_whole hw 0 (m * k) (by omega)
  rw [List.drop_zero] at q
  exact cells_row hu hz q
theorem cells_Q {t : Tr AObj} {nx nx' wr : Nat} (h : RdQ t nx k w n d) (hu : P.underlying T = some (.slice el)) (hz : szOf P el = some k) : cellsV P ⟨t, nx', wr⟩ T w = some (n, d) := by
 rcases h with ⟨rfl, rfl, rfl⟩ | ⟨hd, id, r, c, rfl, _, h2, _⟩
 ·rfl
 ·exact cells_row hu hz (l_all h2.whole hd.symm)
end
theorem ya_zero {P : Program} {T el : TypeId} {sz by' len cp : Nat} {a : Option Addr} {h : AH} (hu : P.underlying T = some (.slice el)) (hi : TyI P el sz by') (h0 : 0 < sz) (hb : 2 * (len + 0) * by' ≤ 281474976710656) (hm : len + 0 < BIG) : appendV P h T (.slice a len cp) 0 [] = some (.slice a len cp, h) := by
 obtain ⟨i, i1, i2, i3, i4⟩ := hi
 subst i2; subst i3
 unfold appendV
 simp only [hu, i1]
 rw [if_pos ⟨h0, by simp, hb, hm, rfl, i4⟩, if_pos trivial]
def AccE (t : Tr AObj) (n0 nx k : Nat) (v : Value) (n : Nat) (d : List Value) : Prop :=
 (n = 0 ∧ d = [] ∧ ∃ id, v = .slice (some ⟨id, 0, none⟩) 0 0 ∧ t.get id = some (.row [] id BIG false 0) ∧ n0 ≤ id ∧ id < nx) ∨ (0 < n ∧ d.length = n * k ∧ ∃ id r, v = .slice (some ⟨id, 0, none⟩) n (n + k) ∧ OwnR t r id d ∧ n0 ≤ r ∧ n0 ≤ id ∧ r < nx ∧ id < nx)
theorem AccE.start {t : Tr AObj} {n0 nx k id : Nat} (hg : t.get id = some (.row [] id BIG false 0)) (h0 : n0 ≤ id) (h1 : id < nx) : AccE t n0 nx k (.slice (some ⟨id, 0, none⟩) 0 0) 0 [] := .inl ⟨rfl, rfl, id, rfl, hg, h0, h1⟩
theorem AccE.q {t : Tr AObj} {n0 nx k n : Nat} {v : Value} {d : List Value} (h : AccE t n0 nx k v n d) : RdQ t nx k v n d := by
 rcases h with ⟨rfl, rfl, id, rfl, hg, _, h1⟩ | ⟨_, hd, id, r, rfl, h2, _, _, h3, h4⟩
 ·exact .inr ⟨by simp, id, id, 0, rfl, .inl rfl, ⟨BIG, 0, .inl ⟨rfl, hg⟩⟩, h1, h1⟩
 ·exact .inr ⟨hd, id, r, _, rfl, .inr rfl, h2, h3, h4⟩
theorem ya_any {P : Program} {T el : TypeId} {k by' n m n0 nx wr : Nat} {v : Value} {d news : List Value} {t : Tr AObj} (hA : AccE t n0 nx k v n d) (hn0 : n0 ≤ nx) (hu : P.underlying T = some (.slice el)) (hi : TyI P el k by') (h0 : 0 < k) (hn : news.length = m * k) (hb : 2 * (n + m) * by' ≤ 281474976710656) (hm : n + m < BIG) (hone : news.all oneC = true) :
  ∃ v' t' nx' wr', appendV P ⟨t, nx, wr⟩ T v m news = some (v', ⟨t', nx', wr'⟩) ∧ AccE t' n0 nx' k v' (n + m) (d ++ news) ∧ nx ≤ nx' ∧ nx' ≤ nx + 1 ∧ min wr n0 ≤ wr' ∧ wr' ≤ wr ∧ (∀ id, id < n0 → t'.get id = t.get id) ∧ (n = 0 → wr' = wr) := by
 rcases Nat.eq_zero_or_pos m with hm0 | hm0
 ·subst hm0
  have hnw : news = [] := List.eq_nil_of_length_eq_zero (by omega)
  subst hnw
  obtain ⟨a, c, rfl⟩ : ∃ a c, v = .slice a n c := by
   rcases hA with ⟨rfl, _, id, rfl, _⟩ | ⟨_, _, id, r, rfl, _⟩ <;> exact ⟨_, _, rfl⟩
  refine ⟨_, t, nx, wr, ya_zero hu hi h0 hb hm, ?_, Nat.le_refl _, by omega, by omega, Nat.le_refl _, fun _ _ => rfl, fun _ => rfl⟩
  rw [List.append_nil]
  exact hA
 ·rcases hA with ⟨rfl, rfl, id, rfl, hg, q0, q1⟩ | ⟨hn1, hd, id, r, rfl, h2, q0, q1, q2, q3⟩
  ·rw [Nat.zero_add] at hb hm
   refine ⟨_, _, _, _, ya_app0 hu hi h0 hn hb hm hone hm0 (l_all (whole_row hg rfl) rfl), .inr ⟨by omega, by rw [List.nil_append, hn, Nat.zero_add], nx, nx, by rw [Nat.zero_add], ⟨BIG, 0, .inl ⟨rfl, by rw [Tr.get_set, if_pos rfl]; rfl⟩⟩, hn0, hn0, by omega, by omega⟩, by omega, by omega, by omega, Nat.le_refl _, fun id' h => by rw [Tr.get_set, if_neg (by omega)], fun _ => rfl⟩
  ·obtain ⟨t', e1, e2, e3⟩ := ya_ownR (wr := wr) hu hi h0 hn hb hm hone hm0 h2 hd q2 q3
   exact ⟨_, t', _, _, e1, .inr ⟨by omega, by rw [List.length_append, hd, hn, Nat.add_mul], nx, r, rfl, e2, q0, hn0, by omega, by omega⟩, by omega, by omega, by omega, by omega, fun id' h => e3 id' (by omega) (by omega), fun h => by omega⟩
section
variable {P : Program} {call : Call'} {ops : Array Oper} {o : Oper} {rest : List Oper} {e : Tr Value} {sz dst : Nat} {K : St → Prop} {KD : St → List Inf → Prop} {acc : List Inf} {c : Call} {f : FuncId} {vs : List Value} {t : Tr AObj} {nx wr : Nat}
theorem d_appE {T u el : TypeId} {v w : Value} {by' k m n n0 : Nat} {d news : List Value} (hA : AccE t n0 nx k w n d) (hn0 : n0 ≤ nx) (hq : nx ≤ BIG) (hw : wantedA ops e o = some true) (hdd : o.dst = some dst) (ho : o.op = .call c) (hc : c.callee = .builtin .append) (ha : evs e c.args.toList = some [w, v]) (ht : c.argTypes[0]? = some T) (ht1 : c.argTypes[1]? = some u) (hiu : isIntT P u = false)
  (hcell : cellsV P ⟨t, nx, BIG⟩ T v = some (m, news)) (hu : P.underlying T = some (.slice el)) (hi : TyI P el k by') (h0 : 0 < k) (hn : news.length = m * k) (hb : 2 * (n + m) * by' ≤ 281474976710656) (hm : n + m < BIG) (hone : news.all oneC = true) (hlt : dst < sz)
  (kk : ∀ v' t' nx' wr' x, nx ≤ nx' → nx' ≤ nx + 1 → n0 ≤ wr' → wr' ≤ BIG → (n = 0 → wr' = BIG) → (∀ id, id < n0 → t'.get id = t.get id) → AccE t' n0 nx' k v' (n + m) (d ++ news) → (n = 0 → x.quiet = true) → DrawK P call ops rest ⟨e.set dst v', sz, ⟨t', nx', min wr wr'⟩⟩ (acc ++ [x]) KD) : DrawK P call ops (o :: rest) ⟨e, sz, ⟨t, nx, wr⟩⟩ acc KD := by
 obtain ⟨v', t', nx', wr', e1, e2, e3, e4, e5, e6, e7, e8⟩ := ya_any (wr := BIG) hA hn0 hu hi h0 hn hb hm hone
 refine d_step hw hdd (x_append ho hc ha ht ht1 hiu hcell e1) hlt (kk v' t' nx' wr' _ e3 e4 (by omega) e6 e8 e7 e2 fun h => ?_)
 unfold infOf
 exact decide_eq_true (by rw [e8 h]; exact hq)
theorem d_call1 {k n : Nat} {dd : List Value} (F : Value → Value) (hq : nx ≤ BIG) (hw : wantedA ops e o = some true) (hd : o.dst = some dst) (ho : o.op = .call c) (hc : c.callee = .value (.func f)) (ha : evs e c.args.toList = some vs) (hlt : dst < sz)
  (hcall : call (.func f) vs ⟨t, nx, BIG⟩ = some (F (outV nx k n), addRows ⟨t, nx, BIG⟩ (outN n dd))) (hl : dd.length = n * k)
  (kk : ∀ v t' nx' x, nx ≤ nx' → nx' ≤ nx + 1 → (∀ id, id < nx → t'.get id = t.get id) → RdS t' nx' k v n dd → x.quiet = true → DrawK P call ops rest ⟨e.set dst (F v), sz, ⟨t', nx', min wr BIG⟩⟩ (acc ++ [x]) KD) : DrawK P call ops (o :: rest) ⟨e, sz, ⟨t, nx, wr⟩⟩ acc KD := by
 refine d_call0 hw hd ho hc ha hlt ?_
 rcases Nat.eq_zero_or_pos n with h0 | h0
 ·subst h0
  have hdd : dd = [] := List.eq_nil_of_length_eq_zero (by omega)
  refine ⟨_, _, _, _, hcall, kk (.slice none 0 0) t nx _ (Nat.le_refl _) (by omega) (fun _ _ => rfl) (.inl ⟨rfl, hdd, rfl⟩) ?_⟩
  unfold infOf
  exact decide_eq_true hq
 ·rw [outV_ne (by omega), outN_ne (by omega)] at hcall
  refine ⟨_, _, _, _, hcall, kk _ (t.set nx (.row dd nx BIG false dd.length)) (nx + 1) _ (by omega) (by omega) (fun id hid => by rw [Tr.get_set, if_neg (by omega)]) (rdS_new h0 hl (by rw [Tr.get_set, if_pos rfl]) (by omega)) ?_⟩
  unfold infOf
  exact decide_eq_true hq
end
theorem tail_from {b : Array Nat} {w : Nat} {l1 l2 : List Inf} (hq : ∀ y ∈ l1, y.quiet = true) (ho : (List.range (l1.length + l2.length)).all (fun j => decide (j < l1.length) || (List.range j).all fun i => ordered b i j) = true) : tailOk b w (l1 ++ l2) = true := by
 unfold tailOk tailOk1
 rw [Bool.or_eq_true]
 left
 rw [List.all_eq_true]
 intro j hj
 have hj := List.mem_range.1 hj
 rw [List.length_append] at hj
 rw [Bool.or_eq_true]
 by_cases hjl : j < l1.length
 ·left
  rw [List.all_eq_true]
  intro y hy
  rw [List.take_append_of_le_length (by omega)] at hy
  exact hq y (List.mem_of_mem_take hy)
 ·right
  have hx : (l1 ++ l2)[j]? = some ((l1 ++ l2)[j]'(by rw [List.length_append]; omega)) := List.getElem?_eq_getElem _
  rw [hx]
  simp only
  rw [Bool.or_eq_true]
  right
  have := List.all_eq_true.1 ho j (List.mem_range.2 hj)
  rw [Bool.or_eq_true] at this
  have h2 := this.resolve_left (by simpa using hjl)
  rw [List.all_eq_true]
  intro i hi
  rw [Bool.or_eq_true]
  exact .inr (List.all_eq_true.1 h2 i hi)
theorem de_two {b : Array Nat} {w nx wr : Nat} {l : List Inf} {x y : Inf} (h : l.all (·.quiet) = true) (ho : (List.range (l.length + 2)).all (fun j => decide (j < l.length) || (List.range j).all fun i => ordered b i j) = true) (h1 : nx ≤ BIG) (h2 : wr ≤ BIG) : (tailOk b w ((l ++ [x]) ++ [y]) && decide (nx ≤ BIG) && decide (wr ≤ BIG)) = true := by
 rw [List.append_assoc, tail_from (l2 := [x] ++ [y]) (List.all_eq_true.1 h) ho, decide_eq_true h1, decide_eq_true h2]; rfl
end Go.Proofs.Ytohhcnehcjpekaa
