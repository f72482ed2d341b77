/-
  Slices whose shape is not asked: nil or a row, at a heap that grows.
-/
import Derived.Test.YtohhcnehcjpekaaJLg
namespace Go.Proofs.Ytohhcnehcjpekaa
open Go Go.AM
set_option linter.unusedVariables false
def RdS (t : Tr AObj) (nx k : Nat) (v : Value) (n : Nat) (d : List Value) : Prop := (n = 0 ∧ d = [] ∧ v = .slice none 0 0) ∨ (0 < n ∧ d.length = n * k ∧ ∃ id r, v = .slice (some ⟨id, 0, none⟩) n (n + k) ∧ OwnR t r id d ∧ r < nx ∧ id < nx)
theorem RdS.keep {t t' : Tr AObj} {nx nx' k n : Nat} {v : Value} {d : List Value} (h : RdS t nx k v n d) (hn : nx ≤ nx') (hk : ∀ id, id < nx → t'.get id = t.get id) : RdS t' nx' k v n d := by
 rcases h with h | ⟨h0, hd, id, r, h1, h2, h3, h4⟩
 ·exact .inl h
 ·exact .inr ⟨h0, hd, id, r, h1, h2.keep (hk _ h4) (hk _ h3), by omega, by omega⟩
theorem OwnR.whole {t : Tr AObj} {r id nx wr : Nat} {d : List Value} (h : OwnR t r id d) : Whole ⟨t, nx, wr⟩ id d := by
 obtain ⟨low, n0, hf, hg⟩ := h.fam (nx := nx) (wr := wr)
 exact ⟨_, hf, rfl, rfl, by simp only [Fam.rb, if_true]⟩
theorem RdS.rd {t : Tr AObj} {nx nx' wr k n : Nat} {v : Value} {d : List Value} (h : RdS t nx k v n d) (hk : 0 < k) (hf : d.all free0 = true) : Rd ⟨t, nx', wr⟩ k v n d := by
 rcases h with ⟨rfl, rfl, rfl⟩ | ⟨h0, hd, id, r, rfl, h2, h3, h4⟩
 ·exact rd_nil
 ·exact rd_whole hk (.inr rfl) h2.whole hd.symm hf
theorem RdS.one {t : Tr AObj} {nx k n : Nat} {v : Value} {d : List Value} (h : RdS t nx k v n d) : oneC v = true := by
 rcases h with ⟨_, _, rfl⟩ | ⟨_, _, id, r, rfl, _⟩ <;> rfl
theorem RdS.own {t : Tr AObj} {nx k n : Nat} {v : Value} {d : List Value} (h : RdS t nx k v n d) (hn : 0 < n) : ∃ id r, v = .slice (some ⟨id, 0, none⟩) n (n + k) ∧ OwnR t r id d ∧ r < nx ∧ id < nx := by
 rcases h with ⟨rfl, _, _⟩ | ⟨_, _, h⟩
 ·omega
 ·exact h
theorem rdS_new {t : Tr AObj} {nx nx' k n : Nat} {d : List Value} (h0 : 0 < n) (hd : d.length = n * k) (hg : t.get nx = some (.row d nx BIG false d.length)) (hn : nx < nx') : RdS t nx' k (.slice (some ⟨nx, 0, none⟩) n (n + k)) n d :=
 .inr ⟨h0, hd, nx, nx, rfl, ⟨BIG, 0, .inl ⟨rfl, hg⟩⟩, hn, hn⟩
section
variable {P : Program} {call : Call'} {ops : Array Oper} {o : Oper} {rest : List Oper} {e : Tr Value} {sz dst : Nat} {K : St → Prop} {c : Call} {f : FuncId} {vs : List Value} {t : Tr AObj} {nx wr : Nat}
structure AccP (t : Tr AObj) (n0 nx : Nat) (S : Nat → Prop) (k : Nat) (v : Value) (n : Nat) (d : List Value) : Prop where
 acc : (n = 0 ∧ d = [] ∧ v = .slice none 0 0) ∨ (0 < n ∧ d.length = n * k ∧ ∃ id r, v = .slice (some ⟨id, 0, none⟩) n (n + k) ∧ OwnR t r id d ∧ S r ∧ S id)
 bnd : ∀ x, S x → n0 ≤ x ∧ x < nx
theorem AccP.start {n0 k : Nat} : AccP t n0 nx (fun _ => False) k (.slice none 0 0) 0 [] := ⟨.inl ⟨rfl, rfl, rfl⟩, fun _ h => h.elim⟩
theorem AccP.no {n0 k n : Nat} {S : Nat → Prop} {v : Value} {d : List Value} (h : AccP t n0 nx S k v n d) : ∀ x, x < n0 → ¬ S x := fun x hx hs => by have := h.bnd x hs; omega
theorem AccP.keep {t' : Tr AObj} {nx' n0 k n : Nat} {S : Nat → Prop} {v : Value} {d : List Value} (h : AccP t n0 nx S k v n d) (hn : nx ≤ nx') (hk : ∀ x, S x → t'.get x = t.get x) : AccP t' n0 nx' S k v n d := by
 refine ⟨?_, fun x hx => by have := h.bnd x hx; omega⟩
 rcases h.acc with h | ⟨h0, hd, id, r, h1, h2, h3, h4⟩
 ·exact .inl h
 ·exact .inr ⟨h0, hd, id, r, h1, h2.keep (hk _ h4) (hk _ h3), h3, h4⟩
theorem AccP.rds {n0 k n : Nat} {S : Nat → Prop} {v : Value} {d : List Value} (h : AccP t n0 nx S k v n d) : RdS t nx k v n d := by
 rcases h.acc with q | ⟨h0, hd, id, r, h1, h2, h3, h4⟩
 ·exact .inl q
 ·exact .inr ⟨h0, hd, id, r, h1, h2, (h.bnd _ h3).2, (h.bnd _ h4).2⟩
theorem k_nm {h0 : AH} {cd : Code} {fr : List Frm} {Q : Ex → St → Prop} (k : ∀ t' nx', nx' = nx → (∀ id, id < nx' → t'.get id = t.get id) → TriK P h0 cd fr ⟨e, sz, ⟨t', nx', wr⟩⟩ Q) : TriK P h0 cd fr ⟨e, sz, ⟨t, nx, wr⟩⟩ Q := k t nx rfl fun _ _ => rfl
end
end Go.Proofs.Ytohhcnehcjpekaa
