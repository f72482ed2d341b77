/-
  Slices whose shape is not asked: nil or a row, at a heap that grows.
-/
import Derived.Test.YtohhcnehcjpekaaCLg
namespace Go.Proofs.Ytohhcnehcjpekaa
open Go Go.AM
set_option linter.unusedVariables false
def RdS (t : Tr AObj) (nx k : Nat) (v : Value) (n : Nat) (d : List Value) : Prop := (n = 0 ∧ d = [] ∧ v = .slice none 0 0) ∨ (0 < n ∧ d.length = n * k ∧ ∃ id r, v = .slice (some ⟨id, 0, none⟩) n (n + k) ∧ OwnR t r id d ∧ r < nx ∧ id < nx)
theorem RdS.keep {t t' : Tr AObj} {nx nx' k n : Nat} {v : Value} {d : List Value} (h : RdS t nx k v n d) (hn : nx ≤ nx') (hk : ∀ id, id < nx → t'.get id = t.get id) : RdS t' nx' k v n d := by
 rcases h with h | ⟨h0, hd, id, r, h1, h2, h3, h4⟩
 ·exact .inl h
 ·exact .inr ⟨h0, hd, id, r, h1, h2.keep (hk _ h4) (hk _ h3), by omega, by omega⟩
theorem OwnR.whole {t : Tr AObj} {r id nx wr : Nat} {d : List Value} (h : OwnR t r id d) : Whole ⟨t, nx, wr⟩ id d := by
 obtain ⟨low, n0, hf, hg⟩ := h.fam (nx := nx) (wr := wr)
 exact ⟨_, hf, rfl, rfl, by simp only [Fam.rb, if_true]⟩
theorem RdS.rd {t : Tr AObj} {nx nx' wr k n : Nat} {v : Value} {d : List Value} (h : RdS t nx k v n d) (hk : 0 < k) (hf : d.all free0 = true) : Rd ⟨t, nx', wr⟩ k v n d := by
 rcases h with ⟨rfl, rfl, rfl⟩ | ⟨h0, hd, id, r, rfl, h2, h3, h4⟩
 ·exact rd_nil
 ·exact rd_whole hk (.inr rfl) h2.whole hd.symm hf
theorem RdS.one {t : Tr AObj} {nx k n : Nat} {v : Value} {d : List Value} (h : RdS t nx k v n d) : oneC v = true := by
 rcases h with ⟨_, _, rfl⟩ | ⟨_, _, id, r, rfl, _⟩ <;> rfl
theorem RdS.own {t : Tr AObj} {nx k n : Nat} {v : Value} {d : List Value} (h : RdS t nx k v n d) (hn : 0 < n) : ∃ id r, v = .slice (some ⟨id, 0, none⟩) n (n + k) ∧ OwnR t r id d ∧ r < nx ∧ id < nx := by
 rcases h with ⟨rfl, _, _⟩ | ⟨_, _, h⟩
 ·omega
 ·exact h
theorem x_lenD {P : Program} {call : Call'} {e : Tr Value} {h : AH} {o : Oper} {c : Call} {T el : TypeId} {t : Tr AObj} {nx k n : Nat} {v : Value} {d : List Value} (hs : RdS t nx k v n d) (ho : o.op = .call c) (hc : c.callee = .builtin .len) (ha : evs e c.args.toList = some [v]) (ht : c.argTypes[0]? = some T) (hu : P.underlying T = some (.slice el)) :
  doOp P call e h o = some (.int .i64 n, h) := by
 rcases hs with ⟨rfl, _, rfl⟩ | ⟨_, _, id, r, rfl, _⟩ <;> exact x_len ho hc ha ht hu
theorem rdS_new {t : Tr AObj} {nx nx' k n : Nat} {d : List Value} (h0 : 0 < n) (hd : d.length = n * k) (hg : t.get nx = some (.row d nx BIG false d.length)) (hn : nx < nx') : RdS t nx' k (.slice (some ⟨nx, 0, none⟩) n (n + k)) n d :=
 .inr ⟨h0, hd, nx, nx, rfl, ⟨BIG, 0, .inl ⟨rfl, hg⟩⟩, hn, hn⟩
section
variable {P : Program} {call : Call'} {ops : Array Oper} {o : Oper} {rest : List Oper} {e : Tr Value} {sz dst : Nat} {K : St → Prop} {c : Call} {f : FuncId} {vs : List Value} {t : Tr AObj} {nx wr : Nat}
theorem o_call1 {k n : Nat} {dd : List Value} (F : Value → Value) (hw : wantedA ops e o = some true) (hd : o.dst = some dst) (ho : o.op = .call c) (hc : c.callee = .value (.func f)) (ha : evs e c.args.toList = some vs) (hlt : dst < sz)
  (hcall : call (.func f) vs ⟨t, nx, wr⟩ = some (F (outV nx k n), addRows ⟨t, nx, wr⟩ (outN n dd))) (hl : dd.length = n * k)
  (kk : ∀ v t' nx', nx ≤ nx' → nx' ≤ nx + 1 → (∀ id, id < nx → t'.get id = t.get id) → RdS t' nx' k v n dd → OpsK P call ops rest ⟨e.set dst (F v), sz, ⟨t', nx', wr⟩⟩ K) : OpsK P call ops (o :: rest) ⟨e, sz, ⟨t, nx, wr⟩⟩ K := by
 refine o_call0 hw hd ho hc ha hlt ⟨_, _, hcall, ?_⟩
 rcases Nat.eq_zero_or_pos n with h0 | h0
 ·subst h0
  have hdd : dd = [] := List.eq_nil_of_length_eq_zero (by omega)
  exact kk (.slice none 0 0) t nx (Nat.le_refl _) (by omega) (fun _ _ => rfl) (.inl ⟨rfl, hdd, rfl⟩)
 ·rw [outV_ne (by omega), outN_ne (by omega)]
  exact kk _ (t.set nx (.row dd nx BIG false dd.length)) (nx + 1) (by omega) (by omega) (fun id hid => by rw [Tr.get_set, if_neg (by omega)]) (rdS_new h0 hl (by rw [Tr.get_set, if_pos rfl]) (by omega))
theorem o_call2 {k1 k2 n m : Nat} {d1 d2 : List Value} (F : Value → Value → Value) (hw : wantedA ops e o = some true) (hd : o.dst = some dst) (ho : o.op = .call c) (hc : c.callee = .value (.func f)) (ha : evs e c.args.toList = some vs) (hlt : dst < sz)
  (hcall : call (.func f) vs ⟨t, nx, wr⟩ = some (F (outV nx k1 n) (outV (nx + 1) k2 m), addRows ⟨t, nx, wr⟩ (outN n d1 ++ outN m d2))) (hm : m = n) (hl1 : d1.length = n * k1) (hl2 : d2.length = n * k2)
  (kk : ∀ v w t' nx', nx ≤ nx' → nx' ≤ nx + 2 → (∀ id, id < nx → t'.get id = t.get id) → RdS t' nx' k1 v n d1 → RdS t' nx' k2 w n d2 → OpsK P call ops rest ⟨e.set dst (F v w), sz, ⟨t', nx', wr⟩⟩ K) : OpsK P call ops (o :: rest) ⟨e, sz, ⟨t, nx, wr⟩⟩ K := by
 subst hm
 refine o_call0 hw hd ho hc ha hlt ⟨_, _, hcall, ?_⟩
 rcases Nat.eq_zero_or_pos m with h0 | h0
 ·subst h0
  have hdd : d1 = [] := List.eq_nil_of_length_eq_zero (by omega)
  have hde : d2 = [] := List.eq_nil_of_length_eq_zero (by omega)
  exact kk (.slice none 0 0) (.slice none 0 0) t nx (Nat.le_refl _) (by omega) (fun _ _ => rfl) (.inl ⟨rfl, hdd, rfl⟩) (.inl ⟨rfl, hde, rfl⟩)
 ·rw [outV_ne (by omega), outV_ne (by omega), outN_ne (by omega), outN_ne (by omega)]
  refine kk _ _ ((t.set nx (.row d1 nx BIG false d1.length)).set (nx + 1) (.row d2 (nx + 1) BIG false d2.length)) (nx + 1 + 1) (by omega) (by omega) (fun id hid => by rw [Tr.get_set, if_neg (by omega), Tr.get_set, if_neg (by omega)]) (rdS_new h0 hl1 (by rw [Tr.get_set, if_neg (by omega), Tr.get_set, if_pos rfl]) (by omega)) (rdS_new h0 hl2 (by rw [Tr.get_set, if_pos rfl]) (by omega))
structure AccP (t : Tr AObj) (n0 nx : Nat) (S : Nat → Prop) (k : Nat) (v : Value) (n : Nat) (d : List Value) : Prop where
 acc : (n = 0 ∧ d = [] ∧ v = .slice none 0 0) ∨ (0 < n ∧ d.length = n * k ∧ ∃ id r, v = .slice (some ⟨id, 0, none⟩) n (n + k) ∧ OwnR t r id d ∧ S r ∧ S id)
 bnd : ∀ x, S x → n0 ≤ x ∧ x < nx
theorem AccP.start {n0 k : Nat} : AccP t n0 nx (fun _ => False) k (.slice none 0 0) 0 [] := ⟨.inl ⟨rfl, rfl, rfl⟩, fun _ h => h.elim⟩
theorem AccP.no {n0 k n : Nat} {S : Nat → Prop} {v : Value} {d : List Value} (h : AccP t n0 nx S k v n d) : ∀ x, x < n0 → ¬ S x := fun x hx hs => by have := h.bnd x hs; omega
theorem AccP.keep {t' : Tr AObj} {nx' n0 k n : Nat} {S : Nat → Prop} {v : Value} {d : List Value} (h : AccP t n0 nx S k v n d) (hn : nx ≤ nx') (hk : ∀ x, S x → t'.get x = t.get x) : AccP t' n0 nx' S k v n d := by
 refine ⟨?_, fun x hx => by have := h.bnd x hx; omega⟩
 rcases h.acc with h | ⟨h0, hd, id, r, h1, h2, h3, h4⟩
 ·exact .inl h
 ·exact .inr ⟨h0, hd, id, r, h1, h2.keep (hk _ h4) (hk _ h3), h3, h4⟩
theorem AccP.rds {n0 k n : Nat} {S : Nat → Prop} {v : Value} {d : List Value} (h : AccP t n0 nx S k v n d) : RdS t nx k v n d := by
 rcases h.acc with q | ⟨h0, hd, id, r, h1, h2, h3, h4⟩
 ·exact .inl q
 ·exact .inr ⟨h0, hd, id, r, h1, h2, (h.bnd _ h3).2, (h.bnd _ h4).2⟩
theorem o_appS {t0 : Tr AObj} {nx0 : Nat} {T u el : TypeId} {v w : Value} {by' k m n n0 : Nat} {S : Nat → Prop} {d news : List Value} (hA0 : AccP t0 n0 nx0 S k w n d) (hnx : nx0 ≤ nx) (hk : ∀ x, S x → t.get x = t0.get x) (hn0 : n0 ≤ nx) (hw : wantedA ops e o = some true) (hdd : o.dst = some dst) (ho : o.op = .call c) (hc : c.callee = .builtin .append) (ha : evs e c.args.toList = some [w, v]) (ht : c.argTypes[0]? = some T) (ht1 : c.argTypes[1]? = some u) (hiu : isIntT P u = false)
  (hcell : cellsV P ⟨t, nx, wr⟩ T v = some (m, news)) (hu : P.underlying T = some (.slice el)) (hi : TyI P el k by') (h0 : 0 < k) (hn : news.length = m * k) (hb : 2 * (n + m) * by' ≤ 281474976710656) (hm : n + m < BIG) (hone : news.all oneC = true) (hm0 : 0 < m) (hlt : dst < sz)
  (kk : ∀ v' t' wr', min wr n0 ≤ wr' → wr' ≤ wr → AccP t' n0 (nx + 1) (fun x => S x ∨ x = nx) k v' (n + m) (d ++ news) → (∀ id, ¬ S id → id < nx → t'.get id = t.get id) → OpsK P call ops rest ⟨e.set dst v', sz, ⟨t', nx + 1, wr'⟩⟩ K) : OpsK P call ops (o :: rest) ⟨e, sz, ⟨t, nx, wr⟩⟩ K := by
 have hA := hA0.keep hnx hk
 have hbnd : ∀ x, (S x ∨ x = nx) → n0 ≤ x ∧ x < nx + 1 := fun x hx => by
  rcases hx with hx | rfl
  ·have := hA.bnd x hx; omega
  ·omega
 rcases hA.acc with ⟨rfl, rfl, rfl⟩ | ⟨h1, hd, id, r, rfl, h2, h3, h4⟩
 ·rw [Nat.zero_add] at hb hm
  refine o_step hw hdd (x_append ho hc ha ht ht1 hiu hcell (ya_nil hu hi h0 hn hb hm hone hm0)) hlt ?_
  refine kk _ (t.set nx (.row news nx BIG false news.length)) wr (Nat.min_le_left _ _) (Nat.le_refl _) ⟨.inr ⟨by omega, by rw [List.nil_append, hn, Nat.zero_add], nx, nx, by rw [Nat.zero_add], ⟨BIG, 0, .inl ⟨rfl, by rw [Tr.get_set, if_pos rfl]; rfl⟩⟩, .inr rfl, .inr rfl⟩, hbnd⟩ fun id _ hid => by rw [Tr.get_set, if_neg (by omega)]
 ·have b3 := hA.bnd r h3
  have b4 := hA.bnd id h4
  refine o_appR hw hdd ho hc ha ht ht1 hiu hcell hu hi h0 hn hb hm hone hm0 h2 hd b3.2 b4.2 hlt fun t' k1 k2 => ?_
  refine kk _ t' (min wr r) (by omega) (Nat.min_le_left _ _) ⟨.inr ⟨by omega, by rw [List.length_append, hd, hn, Nat.add_mul], nx, r, rfl, k1, .inl h3, .inr rfl⟩, hbnd⟩ fun id hs hid => k2 id (fun q => hs (q ▸ h3)) (by omega)
theorem k_nm {h0 : AH} {cd : Code} {fr : List Frm} {Q : Ex → St → Prop} (k : ∀ t' nx', nx' = nx → (∀ id, id < nx' → t'.get id = t.get id) → TriK P h0 cd fr ⟨e, sz, ⟨t', nx', wr⟩⟩ Q) : TriK P h0 cd fr ⟨e, sz, ⟨t, nx, wr⟩⟩ Q := k t nx rfl fun _ _ => rfl
end
end Go.Proofs.Ytohhcnehcjpekaa
