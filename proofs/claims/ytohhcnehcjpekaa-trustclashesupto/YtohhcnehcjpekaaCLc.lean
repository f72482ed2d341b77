/-
  Steps of the law TrustClashes: slices cut in regions that draw, lists of lists, answers that are told as one.
-/
import Derived.Test.YtohhcnehcjpekaaCLe
namespace Go.Proofs.Ytohhcnehcjpekaa
open Go Go.AM
set_option linter.unusedVariables false
set_option maxRecDepth 100000
theorem RdQ.shape {t : Tr AObj} {nx k n : Nat} {v : Value} {d : List Value} (h : RdQ t nx k v n d) : ∃ a n c, v = .slice a n c := by
 rcases h with ⟨_, _, rfl⟩ | ⟨_, id, r, c, rfl, _⟩ <;> exact ⟨_, _, _, rfl⟩
theorem fill2 {v w : Value} (hv : ∃ a n c, v = .slice a n c) (hw : ∃ a n c, w = .slice a n c) : Instr.fill (fun i => some (i * 1, 1)) ⟨zerosC (Value.slice none 0 0).cells.toList 2⟩ [(0, v), (1, w)] = some ⟨[v, w]⟩ := by
 obtain ⟨a, n, c, rfl⟩ := hv
 obtain ⟨a', n', c', rfl⟩ := hw
 rfl
theorem flat_take {k : Nat} : ∀ {L : List (List Value)} {n : Nat}, (∀ x ∈ L, x.length = k) → (L.take n).flatten = L.flatten.take (n * k)
 | [], n, _ => by simp
 | x :: L, 0, _ => by simp
 | x :: L, n + 1, h => by
  have hx := h x (List.mem_cons_self ..)
  rw [List.take_succ_cons, List.flatten_cons, List.flatten_cons, flat_take (n := n) fun y hy => h y (List.mem_cons_of_mem _ hy), List.take_append, hx, List.take_of_length_le (l := x) (by rw [hx, Nat.add_mul]; omega), show (n + 1) * k - k = n * k by rw [Nat.add_mul]; omega]
theorem cfs_take {ks : List Lk} {L : List (List Value)} {n : Nat} (h : cfs ks L) : cfs ks (L.take n) := fun x hx => h x (List.mem_of_mem_take hx)
section
variable {P : Program} {call : Call'} {ops : Array Oper} {o : Oper} {rest : List Oper} {e : Tr Value} {sz dst : Nat} {K : St → Prop} {KD : St → List Inf → Prop} {acc : List Inf} {c : Call} {f : FuncId} {vs : List Value} {t : Tr AObj} {nx wr : Nat}
theorem cells_cutR {h : AH} {T el : TypeId} {i k m : Nat} {w : Value} {ks : List Lk} {L : List (List Value)} (hs : Sl i k m w) (hu : P.underlying T = some (.slice el)) (hz : szOf P el = some k) (hL : cfs ks L) (hk : ks.length = k) (hw : Whole h i L.flatten) (hd : m ≤ L.length) : cellsV P h T w = some (m, (L.take m).flatten) := by
 rw [flat_take (k := k) fun x hx => (cf_len (hL x hx)).trans hk]
 exact cells_cut hs hu hz hw (by rw [cfs_len hL, hk]; exact Nat.mul_le_mul_right k hd)
theorem d_cut {T el : TypeId} {x lo : Operand} {i k n : Nat} {s : Value} {j : Int} (hs : Sl i k n s) (hq : nx ≤ BIG) (hw : wantedA ops e o = some true) (hd : o.dst = some dst) (ho : o.op = .slice T x none (some lo) none) (hx : ev e x = some s) (hl : ev e lo = some (.int .i64 j)) (hu : P.underlying T = some (.slice el)) (hz : szOf P el = some k) (h0 : 0 < k) (hj0 : 0 ≤ j) (hj1 : j ≤ n) (hlt : dst < sz)
  (kk : ∀ w x, Sl i k j.toNat w → x.quiet = true → DrawK P call ops rest ⟨e.set dst w, sz, ⟨t, nx, min wr BIG⟩⟩ (acc ++ [x]) KD) : DrawK P call ops (o :: rest) ⟨e, sz, ⟨t, nx, wr⟩⟩ acc KD := by
 obtain ⟨w, h1, h2⟩ := x_cut (P := P) (call := call) (e := e) (o := o) hs ho hx hl hu hz h0 hj0 hj1
 refine d_step hw hd (h2 _) hlt (kk w _ h1 ?_)
 unfold infOf
 exact decide_eq_true hq
theorem o_callB {z : Bool × List Int} (F : Value → Value) (hw : wantedA ops e o = some true) (hd : o.dst = some dst) (ho : o.op = .call c) (hc : c.callee = .value (.func f)) (ha : evs e c.args.toList = some vs) (hlt : dst < sz)
  (hcall : call (.func f) vs ⟨t, nx, wr⟩ = some (F (bestV nx z), addRows ⟨t, nx, wr⟩ (bestN z)))
  (kk : ∀ v t' nx', nx ≤ nx' → nx' ≤ nx + 1 → (∀ id, id < nx → t'.get id = t.get id) → RdQ t' nx' 1 v z.2.length (ints z.2) → OpsK P call ops rest ⟨e.set dst (F v), sz, ⟨t', nx', wr⟩⟩ K) : OpsK P call ops (o :: rest) ⟨e, sz, ⟨t, nx, wr⟩⟩ K := by
 obtain ⟨zb, zl⟩ := z
 cases zb with
 | true =>
  refine o_call0 hw hd ho hc ha hlt ⟨_, _, hcall, kk _ (t.set nx (.row (ints zl) nx BIG false (ints zl).length)) (nx + 1) (by omega) (by omega) (fun id hid => by rw [Tr.get_set, if_neg (by omega)]) (.inr ⟨by rw [ints_len, Nat.mul_one], nx, nx, _, rfl, .inl rfl, ⟨BIG, 0, .inl ⟨rfl, by rw [Tr.get_set, if_pos rfl]⟩⟩, by omega, by omega⟩)⟩
 | false =>
  exact o_call1 (k := 1) (n := zl.length) (dd := ints zl) F hw hd ho hc ha hlt hcall (by rw [ints_len, Nat.mul_one]) fun v t' nx' h1 h2 h3 h4 => kk v t' nx' h1 h2 h3 h4.q
end
theorem poss_any {L : List (List Value)} : possL L = !L.any oddC := by
 unfold possL
 induction L with
 | nil => rfl
 | cons a L ih => simp only [List.all_cons, List.any_cons, ih, Bool.not_or]
theorem least_cO {H : AH} {s_L : Value} {L : List (List Value)} (hr : Rd H 46 s_L L.length L.flatten) (h_L : cfs T.K43 L) (hb : L.length ≤ 1000) (ho : L.any oddC = true) : c_least [s_L] H = some (.tuple ⟨[.slice none 0 0, .int .i64 1]⟩, H) := by
 have q := least_c hr h_L (by rw [ok_least, decide_eq_true hb])
 rw [ho] at q
 simp only [if_true] at q
 exact q
theorem least_cN {H : AH} {s_L : Value} {L : List (List Value)} (hr : Rd H 46 s_L L.length L.flatten) (h_L : cfs T.K43 L) (hb : L.length ≤ 1000) (ho : L.any oddC = false) : c_least [s_L] H = some (.tuple ⟨[outV H.next 1 (leastL L).length, .int .i64 0]⟩, addRows H (outN (leastL L).length (ints (leastL L)))) := by
 have q := least_c hr h_L (by rw [ok_least, decide_eq_true hb])
 rw [ho] at q
 simp only [Bool.false_eq_true, if_false] at q
 exact q
theorem least33_cO {H : AH} {s_L : Value} {L : List (List Value)} (hr : Rd H 46 s_L L.length L.flatten) (h_L : cfs T.K43 L) (hb : L.length ≤ 1000) (ho : L.any oddC = true) : c_least33 [s_L] H = some (.tuple ⟨[.slice none 0 0, .int .i64 1]⟩, H) := by
 have q := least33_c hr h_L (by rw [ok_least33, decide_eq_true hb])
 rw [poss_any, ho] at q
 simp only [Bool.not_true, Bool.false_eq_true, if_false] at q
 exact q
theorem least33_cN {H : AH} {s_L : Value} {L : List (List Value)} (hr : Rd H 46 s_L L.length L.flatten) (h_L : cfs T.K43 L) (hb : L.length ≤ 1000) (ho : L.any oddC = false) : c_least33 [s_L] H = some (.tuple ⟨[bestV H.next (leastF L 64), .int .i64 0]⟩, addRows H (bestN (leastF L 64))) := by
 have q := least33_c hr h_L (by rw [ok_least33, decide_eq_true hb])
 rw [poss_any, ho] at q
 simp only [Bool.not_false, if_true] at q
 exact q
theorem samePairs_cT {H : AH} {s_L s_M : Value} {L : List (List Value)} (hr_L : Rd H 2 s_L L.length L.flatten) (hr_M : Rd H 2 s_M L.length L.flatten) (h_L : cfs T.K71 L) (hb : L.length < 4611686018427387904) : c_samePairs [s_L, s_M] H = some (.bool true, H) := by
 have q := samePairs_c hr_L h_L hr_M h_L (by rw [ok_samePairs, decide_eq_true hb])
 rw [sameR_self h_L] at q
 exact q
theorem sameAns_cT {H : AH} {s_L s_M : Value} {L : List (List Value)} (hr_L : Rd H 46 s_L L.length L.flatten) (hr_M : Rd H 46 s_M L.length L.flatten) (h_L : cfs T.K43 L) (hb : L.length < 4611686018427387904) : c_sameAns [s_L, s_M] H = some (.bool true, H) := by
 have q := sameAns_c hr_L h_L hr_M h_L (by rw [ok_sameAns, decide_eq_true hb])
 rw [sameR_self h_L] at q
 exact q
theorem b_neqBB {xo yo : Operand} {b : Bool} : binV Try.prog .neq 4 xo yo (.bool b) (.bool b) = some (.bool false) := by cases b <;> kernel_rfl
theorem gcOk_two {h : AH} : gcOk 2 h [0, 1] = true := by
 simp [gcOk, List.range_succ]
theorem clashes_len {L : List (List Value)} (hb : L.length ≤ 1000) : (clashesL L).length < 4611686018427387904 := by
 have h := clO_len (L := L) (i := L.length)
 have h2 : (L.length : Int).toNat * L.length ≤ 1000 * 1000 := Nat.mul_le_mul (by omega) hb
 have e : (clashesL L).length = (clO L L.length).length := rfl
 omega
theorem agreed_len2 {L : List (List Value)} {F : Int} (hb : L.length ≤ 1000) : (agreedL L F).length < 4611686018427387904 := by
 have q := @agO_len L F L.length
 have e : (agreedL L F).length = (agO L F L.length).length := rfl
 omega
end Go.Proofs.Ytohhcnehcjpekaa
