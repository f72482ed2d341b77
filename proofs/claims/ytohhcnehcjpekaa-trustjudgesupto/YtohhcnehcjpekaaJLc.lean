/-
  Steps of the law TrustClashes: slices cut in regions that draw, lists of lists, answers that are told as one.
-/
import Derived.Test.YtohhcnehcjpekaaJLe
namespace Go.Proofs.Ytohhcnehcjpekaa
open Go Go.AM
set_option linter.unusedVariables false
set_option maxRecDepth 100000
theorem RdQ.shape {t : Tr AObj} {nx k n : Nat} {v : Value} {d : List Value} (h : RdQ t nx k v n d) : ∃ a n c, v = .slice a n c := by
 rcases h with ⟨_, _, rfl⟩ | ⟨_, id, r, c, rfl, _⟩ <;> exact ⟨_, _, _, rfl⟩
theorem flat_take {k : Nat} : ∀ {L : List (List Value)} {n : Nat}, (∀ x ∈ L, x.length = k) → (L.take n).flatten = L.flatten.take (n * k)
 | [], n, _ => by simp
 | x :: L, 0, _ => by simp
 | x :: L, n + 1, h => by
  have hx := h x (List.mem_cons_self ..)
  rw [List.take_succ_cons, List.flatten_cons, List.flatten_cons, flat_take (n := n) fun y hy => h y (List.mem_cons_of_mem _ hy), List.take_append, hx, List.take_of_length_le (l := x) (by rw [hx, Nat.add_mul]; omega), show (n + 1) * k - k = n * k by rw [Nat.add_mul]; omega]
theorem cfs_take {ks : List Lk} {L : List (List Value)} {n : Nat} (h : cfs ks L) : cfs ks (L.take n) := fun x hx => h x (List.mem_of_mem_take hx)
section
variable {P : Program} {call : Call'} {ops : Array Oper} {o : Oper} {rest : List Oper} {e : Tr Value} {sz dst : Nat} {K : St → Prop} {KD : St → List Inf → Prop} {acc : List Inf} {c : Call} {f : FuncId} {vs : List Value} {t : Tr AObj} {nx wr : Nat}
theorem cells_cutR {h : AH} {T el : TypeId} {i k m : Nat} {w : Value} {ks : List Lk} {L : List (List Value)} (hs : Sl i k m w) (hu : P.underlying T = some (.slice el)) (hz : szOf P el = some k) (hL : cfs ks L) (hk : ks.length = k) (hw : Whole h i L.flatten) (hd : m ≤ L.length) : cellsV P h T w = some (m, (L.take m).flatten) := by
 rw [flat_take (k := k) fun x hx => (cf_len (hL x hx)).trans hk]
 exact cells_cut hs hu hz hw (by rw [cfs_len hL, hk]; exact Nat.mul_le_mul_right k hd)
theorem d_cut {T el : TypeId} {x lo : Operand} {i k n : Nat} {s : Value} {j : Int} (hs : Sl i k n s) (hq : nx ≤ BIG) (hw : wantedA ops e o = some true) (hd : o.dst = some dst) (ho : o.op = .slice T x none (some lo) none) (hx : ev e x = some s) (hl : ev e lo = some (.int .i64 j)) (hu : P.underlying T = some (.slice el)) (hz : szOf P el = some k) (h0 : 0 < k) (hj0 : 0 ≤ j) (hj1 : j ≤ n) (hlt : dst < sz)
  (kk : ∀ w x, Sl i k j.toNat w → x.quiet = true → DrawK P call ops rest ⟨e.set dst w, sz, ⟨t, nx, min wr BIG⟩⟩ (acc ++ [x]) KD) : DrawK P call ops (o :: rest) ⟨e, sz, ⟨t, nx, wr⟩⟩ acc KD := by
 obtain ⟨w, h1, h2⟩ := x_cut (P := P) (call := call) (e := e) (o := o) hs ho hx hl hu hz h0 hj0 hj1
 refine d_step hw hd (h2 _) hlt (kk w _ h1 ?_)
 unfold infOf
 exact decide_eq_true hq
end
theorem sameAns_cT {H : AH} {s_L s_M : Value} {L : List (List Value)} (hr_L : Rd H 46 s_L L.length L.flatten) (hr_M : Rd H 46 s_M L.length L.flatten) (h_L : cfs T.K43 L) (hb : L.length < 4611686018427387904) : c_sameAns [s_L, s_M] H = some (.bool true, H) := by
 have q := sameAns_c hr_L h_L hr_M h_L (by rw [ok_sameAns, decide_eq_true hb])
 rw [sameR_self h_L] at q
 exact q
end Go.Proofs.Ytohhcnehcjpekaa
