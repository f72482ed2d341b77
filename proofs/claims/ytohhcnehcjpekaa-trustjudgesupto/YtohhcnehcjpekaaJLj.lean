/-
  Steps of the law TrustJudges: slices that are read alone, lists that are copied and written, joins of two ways.
-/
import Derived.KernelRfl
import Derived.Test.YtohhcnehcjpekaaJLc
namespace Go.Proofs.Ytohhcnehcjpekaa
open Go Go.AM
set_option linter.unusedVariables false
set_option maxRecDepth 100000
theorem k_join {P : Program} {h0 : AH} {x y : Code} {st : St} {Q : Ex → St → Prop} {fr : List Frm} (J : St → Prop) (h1 : TriK P h0 x (.loop J :: fr) st Q) (h2 : ∀ s, J s → TriK P h0 y fr s Q) : TriK P h0 x (.seq y :: fr) st Q :=
 Tri.mono h1 fun ex s h => by
  cases ex with
  | normal => exact h2 s h
  | exit i => exact h
  | ret => exact h
theorem k_nmW {P : Program} {h0 : AH} {cd : Code} {fr : List Frm} {Q : Ex → St → Prop} {e : Tr Value} {sz nx wr n0 : Nat} {t : Tr AObj} (h1 : n0 ≤ wr) (h2 : wr ≤ BIG) (k : ∀ wr', n0 ≤ wr' → wr' ≤ BIG → TriK P h0 cd fr ⟨e, sz, ⟨t, nx, wr'⟩⟩ Q) : TriK P h0 cd fr ⟨e, sz, ⟨t, nx, wr⟩⟩ Q := k wr h1 h2
def RdX (t : Tr AObj) (nx k : Nat) (v : Value) (n : Nat) (d : List Value) : Prop := (n = 0 ∧ d = [] ∧ v = .slice none 0 0) ∨ (d.length = n * k ∧ ∃ id r c, v = .slice (some ⟨id, 0, none⟩) n c ∧ (c = n ∨ c = n + k) ∧ r < nx ∧ id < nx ∧ ∀ t' nx' wr', t'.get id = t.get id → t'.get r = t.get r → loadC ⟨t', nx', wr'⟩ id 0 (n * k) = some d)
theorem RdQ.x {t : Tr AObj} {nx k n : Nat} {v : Value} {d : List Value} (h : RdQ t nx k v n d) : RdX t nx k v n d := by
 rcases h with h | ⟨hd, id, r, c, h1, hc, h2, h3, h4⟩
 ·exact .inl h
 ·exact .inr ⟨hd, id, r, c, h1, hc, h3, h4, fun t' nx' wr' e1 e2 => l_all (h2.keep e1 e2).whole hd.symm⟩
theorem RdX.keep {t t' : Tr AObj} {nx nx' k n : Nat} {v : Value} {d : List Value} (h : RdX t nx k v n d) (hn : nx ≤ nx') (hk : ∀ id, id < nx → t'.get id = t.get id) : RdX t' nx' k v n d := by
 rcases h with h | ⟨hd, id, r, c, h1, hc, h3, h4, hl⟩
 ·exact .inl h
 ·exact .inr ⟨hd, id, r, c, h1, hc, by omega, by omega, fun t2 nx2 wr2 e1 e2 => hl t2 nx2 wr2 (e1.trans (hk _ h4)) (e2.trans (hk _ h3))⟩
theorem RdX.rd {t : Tr AObj} {nx nx' wr k n : Nat} {v : Value} {d : List Value} (h : RdX t nx k v n d) (hk : 0 < k) (hf : d.all free0 = true) : Rd ⟨t, nx', wr⟩ k v n d := by
 rcases h with ⟨rfl, rfl, rfl⟩ | ⟨hd, id, r, c, rfl, hc, h3, h4, hl⟩
 ·exact rd_nil
 ·exact rd_row hk hc (hl t nx' wr rfl rfl) hf
theorem RdX.at {t t' : Tr AObj} {nx nx' wr k n : Nat} {v : Value} {d : List Value} (h : RdX t nx k v n d) (hk : 0 < k) (hf : d.all free0 = true) (hh : ∀ id, id < nx → t'.get id = t.get id) : Rd ⟨t', nx', wr⟩ k v n d := (h.keep (Nat.le_refl _) hh).rd hk hf
theorem RdX.shape {t : Tr AObj} {nx k n : Nat} {v : Value} {d : List Value} (h : RdX t nx k v n d) : ∃ a n c, v = .slice a n c := by
 rcases h with ⟨_, _, rfl⟩ | ⟨_, id, r, c, rfl, _⟩ <;> exact ⟨_, _, _, rfl⟩
theorem RdX.one {t : Tr AObj} {nx k n : Nat} {v : Value} {d : List Value} (h : RdX t nx k v n d) : oneC v = true := by
 rcases h with ⟨_, _, rfl⟩ | ⟨_, id, r, c, rfl, _⟩ <;> rfl
theorem RdX.nil0 {t : Tr AObj} {nx k n : Nat} {v : Value} {d : List Value} (h : RdX t nx k v n d) (hv : isNilS v = true) : n = 0 := by
 rcases h with ⟨h, _, _⟩ | ⟨_, id, r, c, rfl, _⟩
 ·exact h
 ·cases hv
theorem x_lenX {P : Program} {call : Call'} {e : Tr Value} {h : AH} {o : Oper} {c : Call} {T el : TypeId} {t : Tr AObj} {nx k n : Nat} {v : Value} {d : List Value} (hs : RdX t nx k v n d) (ho : o.op = .call c) (hc : c.callee = .builtin .len) (ha : evs e c.args.toList = some [v]) (ht : c.argTypes[0]? = some T) (hu : P.underlying T = some (.slice el)) :
  doOp P call e h o = some (.int .i64 n, h) := by
 rcases hs with ⟨rfl, _, rfl⟩ | ⟨_, id, r, c', rfl, _⟩ <;> exact x_len ho hc ha ht hu
theorem rdX_sl {t : Tr AObj} {nx i k n : Nat} {s : Value} {d : List Value} {low n0 : Nat} {ro : Bool} (hs : Sl i k n s) (hg : t.get i = some (.row d i low ro n0)) (hn : n0 = d.length) (hd : d.length = n * k) (hi : i < nx) : RdX t nx k s n d := by
 rcases hs with ⟨rfl, rfl⟩ | rfl
 ·exact .inl ⟨rfl, List.eq_nil_of_length_eq_zero (by omega), rfl⟩
 ·exact .inr ⟨hd, i, i, _, rfl, .inr rfl, hi, hi, fun t' nx' wr' e1 _ => l_all (whole_row (e1.trans hg) hn) hd.symm⟩
def RdI (t : Tr AObj) (S : Nat → Prop) (k : Nat) (v : Value) (n : Nat) (d : List Value) : Prop := (n = 0 ∧ d = [] ∧ v = .slice none 0 0) ∨ (d.length = n * k ∧ ∃ id r c, v = .slice (some ⟨id, 0, none⟩) n c ∧ (c = n ∨ c = n + k) ∧ S r ∧ S id ∧ ∀ t' nx' wr', t'.get id = t.get id → t'.get r = t.get r → loadC ⟨t', nx', wr'⟩ id 0 (n * k) = some d)
theorem RdI.x {t t' : Tr AObj} {S : Nat → Prop} {nx k n : Nat} {v : Value} {d : List Value} (h : RdI t S k v n d) (hk : ∀ id, S id → t'.get id = t.get id ∧ id < nx) : RdX t' nx k v n d := by
 rcases h with h | ⟨hd, id, r, c, h1, hc, h3, h4, hl⟩
 ·exact .inl h
 ·exact .inr ⟨hd, id, r, c, h1, hc, (hk _ h3).2, (hk _ h4).2, fun t2 nx2 wr2 e1 e2 => hl t2 nx2 wr2 (e1.trans (hk _ h4).1) (e2.trans (hk _ h3).1)⟩
theorem RdI.keep {t t' : Tr AObj} {S : Nat → Prop} {k n : Nat} {v : Value} {d : List Value} (h : RdI t S k v n d) (hk : ∀ id, S id → t'.get id = t.get id) : RdI t' S k v n d := by
 rcases h with h | ⟨hd, id, r, c, h1, hc, h3, h4, hl⟩
 ·exact .inl h
 ·exact .inr ⟨hd, id, r, c, h1, hc, h3, h4, fun t2 nx2 wr2 e1 e2 => hl t2 nx2 wr2 (e1.trans (hk _ h4)) (e2.trans (hk _ h3))⟩
theorem RdI.shape {t : Tr AObj} {S : Nat → Prop} {k n : Nat} {v : Value} {d : List Value} (h : RdI t S k v n d) : ∃ a n c, v = .slice a n c := by
 rcases h with ⟨_, _, rfl⟩ | ⟨_, id, r, c, rfl, _⟩ <;> exact ⟨_, _, _, rfl⟩
theorem AccE.i {t : Tr AObj} {n0 nx k n : Nat} {v : Value} {d : List Value} (h : AccE t n0 nx k v n d) : RdI t (fun x => n0 ≤ x ∧ x < nx) k v n d := by
 rcases h with ⟨rfl, rfl, id, rfl, hg, h0, h1⟩ | ⟨_, hd, id, r, rfl, h2, q0, q1, q2, q3⟩
 ·exact .inr ⟨by simp, id, id, 0, rfl, .inl rfl, ⟨h0, h1⟩, ⟨h0, h1⟩, fun t' nx' wr' e1 _ => l_all (whole_row (e1.trans hg) rfl) (by simp)⟩
 ·exact .inr ⟨hd, id, r, _, rfl, .inr rfl, ⟨q0, q2⟩, ⟨q1, q3⟩, fun t' nx' wr' e1 e2 => l_all (h2.keep e1 e2).whole hd.symm⟩
def RowS (t : Tr AObj) (n0 nx k : Nat) (v : Value) (n : Nat) (d : List Value) : Prop := (n = 0 ∧ d = [] ∧ v = .slice none 0 0) ∨ (0 < n ∧ d.length = n * k ∧ ∃ id, v = .slice (some ⟨id, 0, none⟩) n (n + k) ∧ t.get id = some (.row d id BIG false d.length) ∧ n0 ≤ id ∧ id < nx)
theorem RowS.s {t : Tr AObj} {n0 nx k n : Nat} {v : Value} {d : List Value} (h : RowS t n0 nx k v n d) : RdS t nx k v n d := by
 rcases h with h | ⟨h0, hd, id, h1, h2, h3, h4⟩
 ·exact .inl h
 ·exact .inr ⟨h0, hd, id, id, h1, ⟨BIG, 0, .inl ⟨rfl, h2⟩⟩, h4, h4⟩
theorem RowS.keep {t t' : Tr AObj} {n0 nx k n : Nat} {v : Value} {d : List Value} (h : RowS t n0 nx k v n d) (hk : ∀ id, n0 ≤ id → id < nx → t'.get id = t.get id) : RowS t' n0 nx k v n d := by
 rcases h with h | ⟨h0, hd, id, h1, h2, h3, h4⟩
 ·exact .inl h
 ·exact .inr ⟨h0, hd, id, h1, (hk id h3 h4).trans h2, h3, h4⟩
def LitS (t : Tr AObj) (n0 nx k : Nat) (v : Value) (n : Nat) (d : List Value) : Prop := ∃ id c, v = .slice (some ⟨id, 0, none⟩) n c ∧ (n = 0 ∧ c = 0 ∨ 0 < n ∧ c = n + k) ∧ d.length = n * k ∧ t.get id = some (.row d id BIG false d.length) ∧ n0 ≤ id ∧ id < nx
theorem LitS.e {t : Tr AObj} {n0 nx k n : Nat} {v : Value} {d : List Value} (h : LitS t n0 nx k v n d) : AccE t n0 nx k v n d := by
 obtain ⟨id, c, rfl, ⟨rfl, rfl⟩ | ⟨h0, rfl⟩, hd, hg, q0, q1⟩ := h
 ·have : d = [] := List.eq_nil_of_length_eq_zero (by omega)
  subst this
  exact .inl ⟨rfl, rfl, id, rfl, hg, q0, q1⟩
 ·exact .inr ⟨h0, hd, id, id, rfl, ⟨BIG, 0, .inl ⟨rfl, hg⟩⟩, q0, q0, q1, q1⟩
theorem LitS.up {t : Tr AObj} {n0 nx nx' k n : Nat} {v : Value} {d : List Value} (h : LitS t n0 nx k v n d) (hn : nx ≤ nx') : LitS t n0 nx' k v n d := by
 obtain ⟨id, c, h1, h2, h3, h4, q0, q1⟩ := h
 exact ⟨id, c, h1, h2, h3, h4, q0, by omega⟩
theorem LitS.keep {t t' : Tr AObj} {n0 nx k n : Nat} {v : Value} {d : List Value} (h : LitS t n0 nx k v n d) (hk : ∀ id, n0 ≤ id → id < nx → t'.get id = t.get id) : LitS t' n0 nx k v n d := by
 obtain ⟨id, c, h1, h2, h3, h4, q0, q1⟩ := h
 exact ⟨id, c, h1, h2, h3, (hk id q0 q1).trans h4, q0, q1⟩
theorem ya_lit {P : Program} {T el : TypeId} {k by' m n0 nx wr id : Nat} {news : List Value} {t : Tr AObj} (hg : t.get id = some (.row [] id BIG false 0)) (hid : id < nx) (hn0 : n0 ≤ id) (hu : P.underlying T = some (.slice el)) (hi : TyI P el k by') (h0 : 0 < k) (hn : news.length = m * k) (hb : 2 * m * by' ≤ 281474976710656) (hm : m < BIG) (hone : news.all oneC = true) :
  ∃ v' t' nx', appendV P ⟨t, nx, wr⟩ T (.slice (some ⟨id, 0, none⟩) 0 0) m news = some (v', ⟨t', nx', wr⟩) ∧ LitS t' n0 nx' k v' m news ∧ nx ≤ nx' ∧ nx' ≤ nx + 1 ∧ ∀ i, i < nx → t'.get i = t.get i := by
 rcases Nat.eq_zero_or_pos m with hm0 | hm0
 ·subst hm0
  have hnw : news = [] := List.eq_nil_of_length_eq_zero (by omega)
  subst hnw
  exact ⟨_, t, nx, ya_app00 hu hi h0, ⟨id, 0, rfl, .inl ⟨rfl, rfl⟩, by simp, hg, hn0, hid⟩, Nat.le_refl _, by omega, fun _ _ => rfl⟩
 ·exact ⟨_, _, _, ya_app0 hu hi h0 hn hb hm hone hm0 (l_all (whole_row hg rfl) rfl), ⟨nx, _, rfl, .inr ⟨hm0, rfl⟩, hn, by rw [Tr.get_set, if_pos rfl], by omega, by omega⟩, by omega, by omega, fun i hlt => by rw [Tr.get_set, if_neg (by omega)]⟩
theorem ya_row {P : Program} {T el : TypeId} {k by' n m n0 n1 nx wr : Nat} {w : Value} {d news : List Value} {t : Tr AObj} (hnb : n * k ≤ BIG) (hR : RowS t n0 n1 k w n d) (hn01 : n0 ≤ nx) (hn1 : n1 ≤ nx) (hu : P.underlying T = some (.slice el)) (hi : TyI P el k by') (h0 : 0 < k) (hn : news.length = m * k) (hb : 2 * (n + m) * by' ≤ 281474976710656) (hm : n + m < BIG) (hone : news.all oneC = true) (hm0 : 0 < m) :
  ∃ v' t' wr', appendV P ⟨t, nx, wr⟩ T w m news = some (v', ⟨t', nx + 1, wr'⟩) ∧ min wr n0 ≤ wr' ∧ wr' ≤ wr ∧ RdX t' (nx + 1) k v' (n + m) (d ++ news) ∧ RdX t' (nx + 1) k w n d ∧ ∀ id, (id < n0 ∨ n1 ≤ id) ∧ id < nx → t'.get id = t.get id := by
 rcases hR with ⟨rfl, rfl, rfl⟩ | ⟨hp, hd, id, rfl, hg, q0, q1⟩
 ·rw [Nat.zero_add] at hb hm
  refine ⟨_, _, _, ya_nil hu hi h0 hn hb hm hone hm0, by omega, Nat.le_refl _, ?_, .inl ⟨rfl, rfl, rfl⟩, fun id h => by rw [Tr.get_set, if_neg (by omega)]⟩
  exact RdQ.x (.inr ⟨by rw [List.nil_append, hn, Nat.zero_add], nx, nx, _, by rw [Nat.zero_add], .inr (by rw [Nat.zero_add]), ⟨BIG, 0, .inl ⟨rfl, by rw [Tr.get_set, if_pos rfl]; rfl⟩⟩, by omega, by omega⟩)
 ·obtain ⟨i, i1, i2, i3, i4⟩ := hi
  subst i2; subst i3
  have hf : (⟨t, nx, wr⟩ : AH).fam id = some ⟨id, 0, d.length, d, id, BIG, false⟩ := by
   unfold AH.fam
   simp only [hg]
  have hl : loadC ⟨t, nx, wr⟩ id 0 (n * i.size) = some d := by
   have := l_fam hf 0 (n * i.size) ⟨Nat.le_refl _, by simp only [Fam.rb, if_true]; omega⟩
   rw [this, List.drop_zero, List.take_of_length_le (Nat.le_of_eq hd)]
  have e1 : ((t.set id (.row (d ++ news) nx BIG false d.length)).set nx (.alias id 0 (n * i.size + news.length))).get nx = some (.alias id 0 (d ++ news).length) := by
   rw [Tr.get_set, if_pos rfl, List.length_append, hd]
  have e2 : ((t.set id (.row (d ++ news) nx BIG false d.length)).set nx (.alias id 0 (n * i.size + news.length))).get id = some (.row (d ++ news) nx BIG false d.length) := by
   rw [Tr.get_set, if_neg (by omega), Tr.get_set, if_pos rfl]
  refine ⟨.slice (some ⟨nx, 0, none⟩) (n + m) (n + m + i.size), (t.set id (.row (d ++ news) nx BIG false d.length)).set nx (.alias id 0 (n * i.size + news.length)), min wr id, ?_, by omega, Nat.min_le_left _ _, ?_, ?_, fun j hj => ?_⟩
  ·unfold appendV
   simp only [hu, i1]
   rw [if_pos ⟨h0, hn, hb, hm, hone, i4⟩, if_neg (by omega)]
   simp only [hl]
   rw [if_neg (by omega)]
   simp only [if_true, hf, hg, Bool.false_eq_true, if_false]
   rw [if_neg (by omega), List.take_of_length_le (by omega), Nat.zero_add]
  ·exact RdQ.x (.inr ⟨by rw [List.length_append, hd, hn, Nat.add_mul], nx, id, _, rfl, .inr rfl, ⟨BIG, d.length, .inr ⟨by omega, e1, e2⟩⟩, by omega, by omega⟩)
  ·refine .inr ⟨hd, id, id, _, rfl, .inr rfl, by omega, by omega, fun t' nx' wr' q _ => ?_⟩
   have hf2 : (⟨t', nx', wr'⟩ : AH).fam id = some ⟨id, 0, d.length, d ++ news, nx, BIG, false⟩ := by
    unfold AH.fam
    simp only [q.trans e2]
   have hbg : d.length ≤ BIG := by rw [hd]; exact hnb
   have := l_fam hf2 0 (n * i.size) ⟨Nat.le_refl _, by
    simp only [Fam.rb]
    rw [if_neg (by omega), lowAt_big]
    omega⟩
   rw [this, List.drop_zero, ← hd, List.take_left']
   rfl
  ·rw [Tr.get_set, if_neg (by omega), Tr.get_set, if_neg (by omega)]
section
variable {P : Program} {call : Call'} {ops : Array Oper} {o : Oper} {rest : List Oper} {e : Tr Value} {sz dst : Nat} {K : St → Prop} {KD : St → List Inf → Prop} {acc : List Inf} {c : Call} {f : FuncId} {vs : List Value} {t : Tr AObj} {nx wr : Nat}
theorem o_callW {k1 k2 n m : Nat} {d1 d2 : List Value} (F : Value → Value → Value) (hw : wantedA ops e o = some true) (hd : o.dst = some dst) (ho : o.op = .call c) (hc : c.callee = .value (.func f)) (ha : evs e c.args.toList = some vs) (hlt : dst < sz)
  (hcall : call (.func f) vs ⟨t, nx, wr⟩ = some (F (outV nx k1 n) (outV (nx + 1) k2 m), addRows ⟨t, nx, wr⟩ (outN n d1 ++ outN m d2))) (hm : m = n) (hl1 : d1.length = n * k1) (hl2 : d2.length = n * k2)
  (kk : ∀ v w t' nx1 nx', nx ≤ nx1 → nx1 ≤ nx' → nx' ≤ nx + 2 → (∀ id, id < nx → t'.get id = t.get id) → RdS t' nx1 k1 v n d1 → RowS t' nx1 nx' k2 w n d2 → OpsK P call ops rest ⟨e.set dst (F v w), sz, ⟨t', nx', wr⟩⟩ K) : OpsK P call ops (o :: rest) ⟨e, sz, ⟨t, nx, wr⟩⟩ K := by
 subst hm
 refine o_call0 hw hd ho hc ha hlt ⟨_, _, hcall, ?_⟩
 rcases Nat.eq_zero_or_pos m with h0 | h0
 ·subst h0
  have hdd : d1 = [] := List.eq_nil_of_length_eq_zero (by omega)
  have hde : d2 = [] := List.eq_nil_of_length_eq_zero (by omega)
  exact kk (.slice none 0 0) (.slice none 0 0) t nx nx (Nat.le_refl _) (Nat.le_refl _) (by omega) (fun _ _ => rfl) (.inl ⟨rfl, hdd, rfl⟩) (.inl ⟨rfl, hde, rfl⟩)
 ·rw [outV_ne (by omega), outV_ne (by omega), outN_ne (by omega), outN_ne (by omega)]
  refine kk _ _ ((t.set nx (.row d1 nx BIG false d1.length)).set (nx + 1) (.row d2 (nx + 1) BIG false d2.length)) (nx + 1) (nx + 1 + 1) (by omega) (by omega) (by omega) (fun id hid => by rw [Tr.get_set, if_neg (by omega), Tr.get_set, if_neg (by omega)]) (rdS_new h0 hl1 (by rw [Tr.get_set, if_neg (by omega), Tr.get_set, if_pos rfl]) (by omega)) (.inr ⟨h0, hl2, nx + 1, rfl, by rw [Tr.get_set, if_pos rfl], by omega, by omega⟩)
theorem d_call2 {k1 k2 n m : Nat} {d1 d2 : List Value} (F : Value → Value → Value) (hq : nx ≤ BIG) (hw : wantedA ops e o = some true) (hd : o.dst = some dst) (ho : o.op = .call c) (hc : c.callee = .value (.func f)) (ha : evs e c.args.toList = some vs) (hlt : dst < sz)
  (hcall : call (.func f) vs ⟨t, nx, BIG⟩ = some (F (outV nx k1 n) (outV (nx + 1) k2 m), addRows ⟨t, nx, BIG⟩ (outN n d1 ++ outN m d2))) (hm : m = n) (hl1 : d1.length = n * k1) (hl2 : d2.length = n * k2)
  (kk : ∀ v w t' nx' x, nx ≤ nx' → nx' ≤ nx + 2 → (∀ id, id < nx → t'.get id = t.get id) → RdS t' nx' k1 v n d1 → RdS t' nx' k2 w n d2 → x.quiet = true → DrawK P call ops rest ⟨e.set dst (F v w), sz, ⟨t', nx', min wr BIG⟩⟩ (acc ++ [x]) KD) : DrawK P call ops (o :: rest) ⟨e, sz, ⟨t, nx, wr⟩⟩ acc KD := by
 subst hm
 refine d_call0 hw hd ho hc ha hlt ?_
 rcases Nat.eq_zero_or_pos m with h0 | h0
 ·subst h0
  have hdd : d1 = [] := List.eq_nil_of_length_eq_zero (by omega)
  have hde : d2 = [] := List.eq_nil_of_length_eq_zero (by omega)
  refine ⟨_, _, _, _, hcall, kk (.slice none 0 0) (.slice none 0 0) t nx _ (Nat.le_refl _) (by omega) (fun _ _ => rfl) (.inl ⟨rfl, hdd, rfl⟩) (.inl ⟨rfl, hde, rfl⟩) ?_⟩
  unfold infOf
  exact decide_eq_true hq
 ·rw [outV_ne (by omega), outV_ne (by omega), outN_ne (by omega), outN_ne (by omega)] at hcall
  refine ⟨_, _, _, _, hcall, kk _ _ ((t.set nx (.row d1 nx BIG false d1.length)).set (nx + 1) (.row d2 (nx + 1) BIG false d2.length)) (nx + 1 + 1) _ (by omega) (by omega) (fun id hid => by rw [Tr.get_set, if_neg (by omega), Tr.get_set, if_neg (by omega)]) (rdS_new h0 hl1 (by rw [Tr.get_set, if_neg (by omega), Tr.get_set, if_pos rfl]) (by omega)) (rdS_new h0 hl2 (by rw [Tr.get_set, if_pos rfl]) (by omega)) ?_⟩
  unfold infOf
  exact decide_eq_true hq
theorem o_lit {T u el : TypeId} {v : Value} {by' k m n0 id : Nat} {news : List Value} (hg : t.get id = some (.row [] id BIG false 0)) (hid : id < nx) (hn0 : n0 ≤ id) (hw : wantedA ops e o = some true) (hdd : o.dst = some dst) (ho : o.op = .call c) (hc : c.callee = .builtin .append) (ha : evs e c.args.toList = some [.slice (some ⟨id, 0, none⟩) 0 0, v]) (ht : c.argTypes[0]? = some T) (ht1 : c.argTypes[1]? = some u) (hiu : isIntT P u = false)
  (hcell : cellsV P ⟨t, nx, wr⟩ T v = some (m, news)) (hu : P.underlying T = some (.slice el)) (hi : TyI P el k by') (h0 : 0 < k) (hn : news.length = m * k) (hb : 2 * m * by' ≤ 281474976710656) (hm : m < BIG) (hone : news.all oneC = true) (hlt : dst < sz)
  (kk : ∀ v' t' nx', nx ≤ nx' → nx' ≤ nx + 1 → (∀ i, i < nx → t'.get i = t.get i) → LitS t' n0 nx' k v' m news → OpsK P call ops rest ⟨e.set dst v', sz, ⟨t', nx', wr⟩⟩ K) : OpsK P call ops (o :: rest) ⟨e, sz, ⟨t, nx, wr⟩⟩ K := by
 obtain ⟨v', t', nx', e1, e2, e3, e4, e5⟩ := ya_lit (wr := wr) hg hid hn0 hu hi h0 hn hb hm hone
 exact o_step hw hdd (x_append ho hc ha ht ht1 hiu hcell e1) hlt (kk v' t' nx' e3 e4 e5 e2)
theorem d_lit {T u el : TypeId} {v : Value} {by' k m n0 id : Nat} {news : List Value} (hg : t.get id = some (.row [] id BIG false 0)) (hid : id < nx) (hn0 : n0 ≤ id) (hq : nx ≤ BIG) (hw : wantedA ops e o = some true) (hdd : o.dst = some dst) (ho : o.op = .call c) (hc : c.callee = .builtin .append) (ha : evs e c.args.toList = some [.slice (some ⟨id, 0, none⟩) 0 0, v]) (ht : c.argTypes[0]? = some T) (ht1 : c.argTypes[1]? = some u) (hiu : isIntT P u = false)
  (hcell : cellsV P ⟨t, nx, BIG⟩ T v = some (m, news)) (hu : P.underlying T = some (.slice el)) (hi : TyI P el k by') (h0 : 0 < k) (hn : news.length = m * k) (hb : 2 * m * by' ≤ 281474976710656) (hm : m < BIG) (hone : news.all oneC = true) (hlt : dst < sz)
  (kk : ∀ v' t' nx' x, nx ≤ nx' → nx' ≤ nx + 1 → (∀ i, i < nx → t'.get i = t.get i) → LitS t' n0 nx' k v' m news → x.quiet = true → DrawK P call ops rest ⟨e.set dst v', sz, ⟨t', nx', min wr BIG⟩⟩ (acc ++ [x]) KD) : DrawK P call ops (o :: rest) ⟨e, sz, ⟨t, nx, wr⟩⟩ acc KD := by
 obtain ⟨v', t', nx', e1, e2, e3, e4, e5⟩ := ya_lit (wr := BIG) hg hid hn0 hu hi h0 hn hb hm hone
 refine d_step hw hdd (x_append ho hc ha ht ht1 hiu hcell e1) hlt (kk v' t' nx' _ e3 e4 e5 e2 ?_)
 unfold infOf
 exact decide_eq_true hq
theorem o_appZ {T u el : TypeId} {w z : Value} {by' k n n0 : Nat} {d : List Value} {j : Int} {k0 : IntKind} {ti : TypeInfo} (hA : AccE t n0 nx k w n d) (hn0 : n0 ≤ nx) (hw : wantedA ops e o = some true) (hdd : o.dst = some dst) (ho : o.op = .call c) (hc : c.callee = .builtin .append) (ha : evs e c.args.toList = some [w, .int .i64 j]) (ht : c.argTypes[0]? = some T) (ht1 : c.argTypes[1]? = some u) (hui : P.underlying u = some (.int k0))
  (hu : P.underlying T = some (.slice el)) (hi : TyI P el k by') (hj : P.info? el = some ti) (hz : ti.zero = some z) (hzf : free1 z = true) (hzk : z.cells.toList.length = k) (hz1 : z.cells.toList.all oneC = true) (h0 : 0 < k) (j0 : 0 ≤ j) (j1 : j ≤ 4611686018427387904) (j2 : j * ti.bytes ≤ 281474976710656) (hb : 2 * (n + j.toNat) * by' ≤ 281474976710656) (hm : n + j.toNat < BIG) (hlt : dst < sz)
  (kk : ∀ v' t' nx' wr', nx ≤ nx' → nx' ≤ nx + 1 → min wr n0 ≤ wr' → wr' ≤ wr → (∀ id, id < n0 → t'.get id = t.get id) → AccE t' n0 nx' k v' (n + j.toNat) (d ++ zerosC z.cells.toList j.toNat) → OpsK P call ops rest ⟨e.set dst v', sz, ⟨t', nx', wr'⟩⟩ K) : OpsK P call ops (o :: rest) ⟨e, sz, ⟨t, nx, wr⟩⟩ K := by
 obtain ⟨v', t', nx', wr', e1, e2, e3, e4, e5, e6, e7, e8⟩ := ya_any (wr := wr) hA hn0 hu hi h0 (by rw [zerosC_len, hzk]) hb hm (zerosC_all hz1)
 exact o_step hw hdd (x_appendZ ho hc ha ht ht1 hui hu hj hz hzf j0 j1 j2 e1) hlt (kk v' t' nx' wr' e3 e4 e5 e6 e7 e2)
theorem o_appRow {T u el : TypeId} {v w : Value} {by' k m n n0 n1 : Nat} {d news : List Value} (hnb : n * k ≤ BIG) (hR : RowS t n0 n1 k w n d) (hn01 : n0 ≤ nx) (hn1 : n1 ≤ nx) (hw : wantedA ops e o = some true) (hdd : o.dst = some dst) (ho : o.op = .call c) (hc : c.callee = .builtin .append) (ha : evs e c.args.toList = some [w, v]) (ht : c.argTypes[0]? = some T) (ht1 : c.argTypes[1]? = some u) (hiu : isIntT P u = false)
  (hcell : cellsV P ⟨t, nx, wr⟩ T v = some (m, news)) (hu : P.underlying T = some (.slice el)) (hi : TyI P el k by') (h0 : 0 < k) (hn : news.length = m * k) (hb : 2 * (n + m) * by' ≤ 281474976710656) (hm : n + m < BIG) (hone : news.all oneC = true) (hm0 : 0 < m) (hlt : dst < sz)
  (kk : ∀ v' t' wr', min wr n0 ≤ wr' → wr' ≤ wr → RdX t' (nx + 1) k v' (n + m) (d ++ news) → RdX t' (nx + 1) k w n d → (∀ id, (id < n0 ∨ n1 ≤ id) ∧ id < nx → t'.get id = t.get id) → OpsK P call ops rest ⟨e.set dst v', sz, ⟨t', nx + 1, wr'⟩⟩ K) : OpsK P call ops (o :: rest) ⟨e, sz, ⟨t, nx, wr⟩⟩ K := by
 obtain ⟨v', t', wr', e1, e2, e3, e4, e5, e6⟩ := ya_row (wr := wr) hnb hR hn01 hn1 hu hi h0 hn hb hm hone hm0
 exact o_step hw hdd (x_append ho hc ha ht ht1 hiu hcell e1) hlt (kk v' t' wr' e2 e3 e4 e5 e6)
theorem d_appFull {T u el : TypeId} {v : Value} {by' k m n id : Nat} {d news : List Value} (hg : t.get id = some (.row d id BIG false d.length)) (hdl : d.length = n * k) (hid : id < nx) (hq : nx ≤ BIG) (hw : wantedA ops e o = some true) (hdd : o.dst = some dst) (ho : o.op = .call c) (hc : c.callee = .builtin .append) (ha : evs e c.args.toList = some [.slice (some ⟨id, 0, none⟩) n n, v]) (ht : c.argTypes[0]? = some T) (ht1 : c.argTypes[1]? = some u) (hiu : isIntT P u = false)
  (hcell : cellsV P ⟨t, nx, BIG⟩ T v = some (m, news)) (hu : P.underlying T = some (.slice el)) (hi : TyI P el k by') (h0 : 0 < k) (hn : news.length = m * k) (hb : 2 * (n + m) * by' ≤ 281474976710656) (hm : n + m < BIG) (hone : news.all oneC = true) (hlt : dst < sz)
  (kk : ∀ v' t' nx' x, nx ≤ nx' → nx' ≤ nx + 1 → (∀ i, i < nx → t'.get i = t.get i) → RdQ t' nx' k v' (n + m) (d ++ news) → x.quiet = true → DrawK P call ops rest ⟨e.set dst v', sz, ⟨t', nx', min wr BIG⟩⟩ (acc ++ [x]) KD) : DrawK P call ops (o :: rest) ⟨e, sz, ⟨t, nx, wr⟩⟩ acc KD := by
 have hx : ∃ v' t' nx', appendV P ⟨t, nx, BIG⟩ T (.slice (some ⟨id, 0, none⟩) n n) m news = some (v', ⟨t', nx', BIG⟩) ∧ nx ≤ nx' ∧ nx' ≤ nx + 1 ∧ (∀ i, i < nx → t'.get i = t.get i) ∧ RdQ t' nx' k v' (n + m) (d ++ news) := by
  rcases Nat.eq_zero_or_pos m with hm0 | hm0
  ·subst hm0
   have hnw : news = [] := List.eq_nil_of_length_eq_zero (by omega)
   subst hnw
   refine ⟨_, t, nx, ya_zero hu hi h0 hb hm, Nat.le_refl _, by omega, fun _ _ => rfl, .inr ⟨by rw [List.append_nil]; exact hdl, id, id, n, rfl, .inl rfl, ⟨BIG, 0, .inl ⟨rfl, by rw [List.append_nil]; exact hg⟩⟩, hid, hid⟩⟩
  ·obtain ⟨i, i1, i2, i3, i4⟩ := hi
   subst i2; subst i3
   have hl : loadC ⟨t, nx, BIG⟩ id 0 (n * i.size) = some d := l_all (whole_row hg rfl) hdl.symm
   refine ⟨.slice (some ⟨nx, 0, none⟩) (n + m) (n + m + i.size), t.set nx (.row (d ++ news) nx BIG false (d ++ news).length), nx + 1, ?_, by omega, by omega, fun j hj => by rw [Tr.get_set, if_neg (by omega)], .inr ⟨by rw [List.length_append, hdl, hn, Nat.add_mul], nx, nx, _, rfl, .inr rfl, ⟨BIG, 0, .inl ⟨rfl, by rw [Tr.get_set, if_pos rfl]⟩⟩, by omega, by omega⟩⟩
   unfold appendV
   simp only [hu, i1]
   rw [if_pos ⟨h0, hn, hb, hm, hone, i4⟩, if_neg (by omega)]
   simp only [hl, if_true]
   rfl
 obtain ⟨v', t', nx', e1, e3, e4, e5, e2⟩ := hx
 refine d_step hw hdd (x_append ho hc ha ht ht1 hiu hcell e1) hlt (kk v' t' nx' _ e3 e4 e5 e2 ?_)
 unfold infOf
 exact decide_eq_true hq
theorem d_callK {k n : Nat} {nl : Bool} {cp : Nat} {D d : List Value} (hq : nx ≤ BIG) (hw : wantedA ops e o = some true) (hd : o.dst = some dst) (ho : o.op = .call c) (hc : c.callee = .value (.func f)) (ha : evs e c.args.toList = some vs) (hlt : dst < sz)
  (hcall : call (.func f) vs ⟨t, nx, BIG⟩ = some (if nl then .slice none 0 0 else .slice (some ⟨nx, 0, none⟩) n cp, addRows ⟨t, nx, BIG⟩ (if nl then [] else [D])) ) (hcp : cp = n ∨ cp = n + k) (hl : d.length = n * k) (hD : D.take (n * k) = d) (hDl : n * k ≤ D.length) (hnl : nl = true → n = 0)
  (kk : ∀ v t' nx' x, nx ≤ nx' → nx' ≤ nx + 1 → (∀ id, id < nx → t'.get id = t.get id) → RdX t' nx' k v n d → x.quiet = true → DrawK P call ops rest ⟨e.set dst v, sz, ⟨t', nx', min wr BIG⟩⟩ (acc ++ [x]) KD) : DrawK P call ops (o :: rest) ⟨e, sz, ⟨t, nx, wr⟩⟩ acc KD := by
 refine d_call0 hw hd ho hc ha hlt ?_
 cases nl with
 | true =>
  have h0 := hnl rfl
  subst h0
  refine ⟨_, _, _, _, hcall, kk (.slice none 0 0) t nx _ (Nat.le_refl _) (by omega) (fun _ _ => rfl) (.inl ⟨rfl, List.eq_nil_of_length_eq_zero (by omega), rfl⟩) ?_⟩
  unfold infOf
  exact decide_eq_true hq
 | false =>
  refine ⟨_, _, _, _, hcall, kk _ (t.set nx (.row D nx BIG false D.length)) (nx + 1) _ (by omega) (by omega) (fun id hid => by rw [Tr.get_set, if_neg (by omega)]) (.inr ⟨hl, nx, nx, cp, rfl, hcp, by omega, by omega, fun t' nx' wr' e1 _ => ?_⟩) ?_⟩
  ·rw [Tr.get_set, if_pos rfl] at e1
   have := l_whole (whole_row (h := ⟨t', nx', wr'⟩) e1 rfl) 0 (n * k) (by omega)
   rw [List.drop_zero, hD] at this
   exact this
  ·unfold infOf
   exact decide_eq_true hq
end
theorem de_free {b : Array Nat} {w nx wr : Nat} {l : List Inf} {x y : Inf} (fr : List Nat) (h : l.all (·.quiet) = true) (hst : ∀ i ∈ fr, ∃ z, l[i]? = some z ∧ z.still = true ∧ z.root = none) (ho : (List.range (l.length + 2)).all (fun j => decide (j < l.length) || (List.range j).all fun i => ordered b i j || fr.contains i) = true) (h1 : nx ≤ BIG) (h2 : wr ≤ BIG) : (tailOk b w ((l ++ [x]) ++ [y]) && decide (nx ≤ BIG) && decide (wr ≤ BIG)) = true := by
 have key : tailOk b w ((l ++ [x]) ++ [y]) = true := by
  unfold tailOk tailOk1
  rw [Bool.or_eq_true]
  left
  rw [List.all_eq_true]
  intro j hj
  have hj := List.mem_range.1 hj
  simp only [List.length_append, List.length_cons, List.length_nil] at hj
  rw [Bool.or_eq_true]
  by_cases hjl : j < l.length
  ·left
   rw [List.all_eq_true]
   intro z hz
   rw [List.append_assoc, List.take_append_of_le_length (by omega)] at hz
   exact List.all_eq_true.1 h z (List.mem_of_mem_take hz)
  ·right
   have hx : ((l ++ [x]) ++ [y])[j]? = some (((l ++ [x]) ++ [y])[j]'(by simp only [List.length_append, List.length_cons, List.length_nil]; omega)) := List.getElem?_eq_getElem _
   rw [hx]
   simp only
   rw [Bool.or_eq_true]
   right
   have := List.all_eq_true.1 ho j (List.mem_range.2 (by omega))
   rw [Bool.or_eq_true] at this
   have h2 := this.resolve_left (by simpa using hjl)
   rw [List.all_eq_true]
   intro i hi
   have := List.all_eq_true.1 h2 i hi
   rw [Bool.or_eq_true] at this ⊢
   rcases this with q | q
   ·exact .inr q
   ·left
    obtain ⟨z, z1, z2, z3⟩ := hst i (List.contains_iff_mem.1 q)
    have hil := (List.getElem?_eq_some_iff.1 z1).1
    rw [List.append_assoc, List.getElem?_append_left hil, z1]
    simp only [stable, z2, z3, Bool.and_self]
 rw [key, decide_eq_true h1, decide_eq_true h2]; rfl
theorem inf_free {e : Tr Value} {t : Tr AObj} {nx : Nat} {op : Op} (hf : floats op = true) (hr : readId e op = none) : (infOf e t nx op nx BIG).still = true ∧ (infOf e t nx op nx BIG).root = none := by
 unfold infOf
 rw [hr]
 exact ⟨by simp [hf], rfl⟩
theorem fillF {a b c d x y z u : Value} : Instr.fill (fun i => some (i * 2, 2)) ⟨zerosC (Value.agg ⟨[.slice none 0 0, .slice none 0 0]⟩).cells.toList 4⟩ [(0, .agg ⟨[a, b]⟩), (1, .agg ⟨[c, d]⟩), (2, .agg ⟨[x, y]⟩), (3, .agg ⟨[z, u]⟩)] = some ⟨[a, b, c, d, x, y, z, u]⟩ := by kernel_rfl
theorem fill4 {a b c d : Value} (ha : ∃ x n c, a = .slice x n c) (hb : ∃ x n c, b = .slice x n c) (hc : ∃ x n y, c = .slice x n y) (hd : ∃ x n c, d = .slice x n c) : Instr.fill (fun i => some (i * 1, 1)) ⟨zerosC (Value.slice none 0 0).cells.toList 4⟩ [(0, a), (1, b), (2, c), (3, d)] = some ⟨[a, b, c, d]⟩ := by
 obtain ⟨_, _, _, rfl⟩ := ha
 obtain ⟨_, _, _, rfl⟩ := hb
 obtain ⟨_, _, _, rfl⟩ := hc
 obtain ⟨_, _, _, rfl⟩ := hd
 rfl
theorem build59 {a b : Value} (ha : ∃ x n c, a = .slice x n c) (hb : ∃ x n c, b = .slice x n c) : quick Try.prog (Instr.build 59 ⟨[(0, a), (1, b)]⟩) = some (.agg ⟨[a, b]⟩) := by
 obtain ⟨_, _, _, rfl⟩ := ha
 obtain ⟨_, _, _, rfl⟩ := hb
 kernel_rfl
theorem build56 {a b : Value} (ha : ∃ x n c, a = .slice x n c) (hb : ∃ x n c, b = .slice x n c) : quick Try.prog (Instr.build 56 ⟨[(0, a), (1, b)]⟩) = some (.agg ⟨[a, b]⟩) := by
 obtain ⟨_, _, _, rfl⟩ := ha
 obtain ⟨_, _, _, rfl⟩ := hb
 kernel_rfl
theorem Sl.shape3 {i k n : Nat} {s : Value} (h : Sl i k n s) : ∃ a n c, s = .slice a n c := by
 obtain ⟨a, c, rfl⟩ := h.shape
 exact ⟨_, _, _, rfl⟩
theorem l_pair {h : AH} {id low n0 : Nat} {ro : Bool} {cs : List Value} {i : Int} {a b : Value} (hr : h.t.get id = some (.row cs id low ro n0)) (hn : n0 = cs.length) (hv : (cs.drop (i.toNat * 2)).take 2 = [a, b]) : loadC h id (0 + i.toNat * 2) 2 = some [a, b] ∧ loadC h id (0 + i.toNat * 2) 1 = some [a] ∧ loadC h id (0 + i.toNat * 2 + 1) 1 = some [b] := by
 have hl := congrArg List.length hv
 rw [List.length_take, List.length_drop] at hl
 have hl : min 2 (cs.length - i.toNat * 2) = 2 := hl
 have hw := whole_row hr hn
 refine ⟨?_, ?_, ?_⟩
 ·rw [l_whole hw _ _ (by omega), Nat.zero_add, hv]
 ·rw [l_whole hw _ _ (by omega), Nat.zero_add]
  have := congrArg (List.take 1) hv
  rw [List.take_take] at this
  exact congrArg some this
 ·rw [l_whole hw _ _ (by omega), Nat.zero_add, ← List.drop_drop]
  have := congrArg (List.drop 1) hv
  rw [List.drop_take] at this
  exact congrArg some this
theorem splice_set {k : Nat} {x : List Value} {L : List (List Value)} {j : Nat} (hL : ∀ a ∈ L, a.length = k) (hj : j < L.length) (hx : x.length = k) : splice L.flatten (0 + j * k) x = (L.set j x).flatten := by
 have e : L = L.take j ++ L[j] :: L.drop (j + 1) := by rw [← List.drop_eq_getElem_cons, List.take_append_drop]
 have e2 : L.set j x = L.take j ++ x :: L.drop (j + 1) := List.set_eq_take_append_cons_drop.trans (if_pos hj)
 rw [e2, Nat.zero_add]
 conv => lhs; rw [e]
 have hl : (L.take j).length = j := by rw [List.length_take]; omega
 have := splice_flat (k := k) (x := x) (A := L.take j) (B := L.drop (j + 1)) (y := L[j]) (fun a ha => hL a (List.mem_of_mem_take ha)) (hL _ (List.getElem_mem hj)) hx
 rw [hl] at this
 exact this
theorem ints_set {l : List Int} {j : Nat} {z : Int} (hj : j < l.length) : splice (ints l) (0 + j * 1) [.int .i64 z] = ints (l.set j z) := by
 have e : l = l.take j ++ l[j] :: l.drop (j + 1) := by rw [← List.drop_eq_getElem_cons, List.take_append_drop]
 have e2 : l.set j z = l.take j ++ z :: l.drop (j + 1) := List.set_eq_take_append_cons_drop.trans (if_pos hj)
 rw [e2, Nat.zero_add, Nat.mul_one]
 unfold splice ints
 rw [List.map_append, List.map_cons, ← List.map_take, ← List.map_drop]
 simp
theorem cfs_set {ks : List Lk} {L : List (List Value)} {j : Nat} {x : List Value} (hL : cfs ks L) (hx : cf ks x = true) : cfs ks (L.set j x) := fun y hy => by
 rcases List.mem_or_eq_of_mem_set hy with h | rfl
 ·exact hL y h
 ·exact hx
theorem wrap_inR (n : Int) : inR (IntKind.i64.wrap n) := by
 have h0 : 0 ≤ n % 18446744073709551616 := Int.emod_nonneg _ (by decide)
 have h1 : n % 18446744073709551616 < 18446744073709551616 := Int.emod_lt_of_pos _ (by decide)
 have e : IntKind.i64.wrap n = if n % 18446744073709551616 ≥ 9223372036854775808 then n % 18446744073709551616 - 18446744073709551616 else n % 18446744073709551616 := by
  unfold IntKind.wrap
  simp [IntKind.signed, IntKind.bits]
 rw [e]
 unfold inR
 by_cases hc : n % 18446744073709551616 ≥ 9223372036854775808
 ·rw [if_pos hc]; omega
 ·rw [if_neg hc]; omega
theorem same_cT {H : AH} {s_l s_m s_p s_q : Value} {l m : List Int} (hr_l : Rd H 1 s_l l.length (ints l)) (hr_m : Rd H 1 s_m m.length (ints m)) (hr_p : Rd H 1 s_p l.length (ints l)) (hr_q : Rd H 1 s_q m.length (ints m)) (hl : l.length < 4611686018427387904) (hm : m.length < 4611686018427387904) :
  c_same [.agg ⟨[s_l, s_m]⟩, .agg ⟨[s_p, s_q]⟩] H = some (.bool true, H) := by
 have q := same_c hr_l hr_m hr_p hr_q (by rw [ok_same, Bool.and_eq_true, decide_eq_true_eq, decide_eq_true_eq]; exact ⟨hl, hm⟩)
 simp only [decide_true, Bool.and_self] at q
 exact q
theorem leans_cY {H : AH} {s_L s_u s_w s_a : Value} {L : List (List Value)} {u w a : List Int} (hr_L : Rd H 46 s_L L.length L.flatten) (h_L : cfs T.K43 L) (hr_u : Rd H 1 s_u u.length (ints u)) (hr_w : Rd H 1 s_w w.length (ints w)) (hr_a : Rd H 1 s_a a.length (ints a)) (hb : L.length ≤ 1000) (hu : u.length ≤ 17592186044416) (hw : w.length < 4611686018427387904) (ho : lnOk L u = true) :
  c_leans [s_L, s_u, .agg ⟨[s_w, s_a]⟩] H = some (.tuple ⟨[outV H.next 1 (lnF L w u).length, .int .i64 0]⟩, addRows H (outN (lnF L w u).length (ints (lnF L w u)))) := by
 have q := leans_c hr_L h_L hr_u hr_w hr_a (by rw [ok_leans, Bool.and_eq_true, Bool.and_eq_true, decide_eq_true_eq, decide_eq_true_eq, decide_eq_true_eq]; exact ⟨⟨hb, hu⟩, hw⟩)
 rw [ho] at q
 simp only [if_true] at q
 exact q
theorem leans_cN {H : AH} {s_L s_u s_w s_a : Value} {L : List (List Value)} {u w a : List Int} (hr_L : Rd H 46 s_L L.length L.flatten) (h_L : cfs T.K43 L) (hr_u : Rd H 1 s_u u.length (ints u)) (hr_w : Rd H 1 s_w w.length (ints w)) (hr_a : Rd H 1 s_a a.length (ints a)) (hb : L.length ≤ 1000) (hu : u.length ≤ 17592186044416) (hw : w.length < 4611686018427387904) (ho : lnOk L u = false) :
  c_leans [s_L, s_u, .agg ⟨[s_w, s_a]⟩] H = some (.tuple ⟨[.slice none 0 0, .int .i64 5]⟩, H) := by
 have q := leans_c hr_L h_L hr_u hr_w hr_a (by rw [ok_leans, Bool.and_eq_true, Bool.and_eq_true, decide_eq_true_eq, decide_eq_true_eq, decide_eq_true_eq]; exact ⟨⟨hb, hu⟩, hw⟩)
 rw [ho] at q
 simp only [Bool.false_eq_true, if_false] at q
 exact q
theorem leans33_cY {H : AH} {s_L s_u s_w s_a : Value} {L : List (List Value)} {u w a : List Int} (hr_L : Rd H 46 s_L L.length L.flatten) (h_L : cfs T.K43 L) (hr_u : Rd H 1 s_u u.length (ints u)) (hr_w : Rd H 1 s_w w.length (ints w)) (hr_a : Rd H 1 s_a a.length (ints a)) (hb : L.length ≤ 1000) (hu : u.length ≤ 17592186044416) (hw : w.length < 4611686018427387904) (ho : lnOk L u = true) :
  c_leans33 [s_L, s_u, .agg ⟨[s_w, s_a]⟩] H = some (.tuple ⟨[outV H.next 1 (lnF L w u).length, .int .i64 0]⟩, addRows H (outN (lnF L w u).length (ints (lnF L w u)))) := by
 have q := leans33_c hr_L h_L hr_u hr_w hr_a (by rw [ok_leans33, Bool.and_eq_true, Bool.and_eq_true, decide_eq_true_eq, decide_eq_true_eq, decide_eq_true_eq]; exact ⟨⟨hb, hu⟩, hw⟩)
 rw [ho] at q
 simp only [if_true] at q
 exact q
theorem leans33_cN {H : AH} {s_L s_u s_w s_a : Value} {L : List (List Value)} {u w a : List Int} (hr_L : Rd H 46 s_L L.length L.flatten) (h_L : cfs T.K43 L) (hr_u : Rd H 1 s_u u.length (ints u)) (hr_w : Rd H 1 s_w w.length (ints w)) (hr_a : Rd H 1 s_a a.length (ints a)) (hb : L.length ≤ 1000) (hu : u.length ≤ 17592186044416) (hw : w.length < 4611686018427387904) (ho : lnOk L u = false) :
  c_leans33 [s_L, s_u, .agg ⟨[s_w, s_a]⟩] H = some (.tuple ⟨[.slice none 0 0, .int .i64 5]⟩, H) := by
 have q := leans33_c hr_L h_L hr_u hr_w hr_a (by rw [ok_leans33, Bool.and_eq_true, Bool.and_eq_true, decide_eq_true_eq, decide_eq_true_eq, decide_eq_true_eq]; exact ⟨⟨hb, hu⟩, hw⟩)
 rw [ho] at q
 simp only [Bool.false_eq_true, if_false] at q
 exact q
theorem lnF_len {L : List (List Value)} {w u : List Int} : (lnF L w u).length ≤ u.length := List.length_filter_le _ _
theorem take_delD {L : List (List Value)} {w : List Int} (h : cfs T.K43 L) : (delD L w).take ((keptL w L).length * 46) = (keptL w L).flatten := by
 unfold delD
 have e : (keptL w L).flatten.length = (keptL w L).length * 46 := cfs_len (keptL_cfs h)
 rw [← e, List.take_left']
 rfl
theorem delD_len {L : List (List Value)} {w : List Int} (h : cfs T.K43 L) : (keptL w L).length * 46 ≤ (delD L w).length := by
 unfold delD
 have e : (keptL w L).flatten.length = (keptL w L).length * 46 := cfs_len (keptL_cfs h)
 rw [List.length_append, e]
 omega
theorem kept_cp {L : List (List Value)} {w : List Int} : (if L.length = 0 then 0 else (keptL w L).length + 46) = (keptL w L).length ∨ (if L.length = 0 then 0 else (keptL w L).length + 46) = (keptL w L).length + 46 := by
 split
 ·rename_i h
  have := keptL_len (ws := w) (L := L)
  left; omega
 ·right; rfl
theorem gcOk_four {h : AH} : gcOk 4 h [0, 1, 2, 3] = true := by
 simp [gcOk, List.range_succ]
theorem rights_small {l : List Int} {k i : Int} (h0 : 0 ≤ i) (h1 : i < (mkR l k).length) : (strAt (nth (mkR l k) i) 1).size ≤ 1000 := by
 rw [mkR_len] at h1
 rw [mkr_nth h0 (by omega)]
 unfold rightC rightN strAt
 simp only [List.getElem?_cons_succ, List.getElem?_cons_zero]
 split
 ·decide
 ·decide
end Go.Proofs.Ytohhcnehcjpekaa
