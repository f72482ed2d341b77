/-
  The reader of the reference: text.
-/
import Derived.Test.YtfgmplbclpadbaaGreatDoorMWh
import Derived.Test.YtfgmplbclpadbaaGreatDoorMTy
import Derived.Test.YtfgmplbclpadbaaGreatDoorMA3
set_option linter.unusedSimpArgs false
set_option linter.unusedVariables false
namespace Go.Proofs.YtfgmplbclpadbaaGreatDoor
open Go.AM
set_option maxRecDepth 100000
set_option maxHeartbeats 1000000
set_option maxHeartbeats 8000000
end Go.Proofs.YtfgmplbclpadbaaGreatDoor
namespace Go.Proofs.YtfgmplbclpadbaaGreatDoor
open Go.AM
set_option maxRecDepth 100000
set_option maxHeartbeats 1000000
set_option maxHeartbeats 8000000
end Go.Proofs.YtfgmplbclpadbaaGreatDoor
namespace Go.Proofs.YtfgmplbclpadbaaGreatDoor
open Go.AM
set_option maxRecDepth 100000
set_option maxHeartbeats 1000000
set_option maxHeartbeats 8000000
end Go.Proofs.YtfgmplbclpadbaaGreatDoor
namespace Go.Proofs.YtfgmplbclpadbaaGreatDoor
open Go.AM
set_option maxRecDepth 100000
set_option maxHeartbeats 1000000
def ok_around (n : Int) (m : Int) : Bool := decide (inR n) && decide (0 < m)
def val_around (n : Int) (m : Int) : Value := .int .i64 (around n m)
def new_around (n : Int) (m : Int) : List (List Value) := []
def spec_around : Go.AM.Spec := fun us cs => match us, cs with
 | [.int .i64 n, .int .i64 m], [] => if ok_around n m then some (val_around n m, new_around n m) else none
 | _, _ => none
def c_around := flatC [.fr, .fr] spec_around
theorem around_m  {n : Int} {m : Int}  (hok : ok_around n m = true) : Meets Tryz.prog (.func 7) [.int .i64 n, .int .i64 m] (cheap []) (val_around n m) (rheap [] (new_around n m)) := by
 have hP := Fits
 have hC : CallSound Tryz.prog (tabOf []) := tab_sound tab_end
 simp only [ok_around, Bool.and_eq_true, decide_eq_true_eq] at hok
 obtain ⟨hn, hm⟩ := hok
 refine meets_start (sz := 13) hP Tryz.func7 rfl rfl zo (by simp only [Tr.ofList, roRows, Nat.zero_add, Nat.reduceAdd] <;> rfl) zl ?_
 refine k_seq (k_region hP hC (oA ?_))
 refine o_done (e_seq (k_seq (k_seq (k_region hP hC (oM ?_)))))
 refine os (x_bin rfl zt (by rfl) b_lss) ?_
 refine o_done (e_seq ?_)
 refine k_cond zt (fun g2 => ?_) (fun g2 => ?_)
 ·have p2 := g2; try simp only [dd] at p2
  refine k_region hP hC (oM ?_)
  refine os (x_bin rfl zt (by rfl) b_add) ?_
  refine os (x_neg rfl zt) ?_
  refine oA ?_
  refine o_done (e_seq (k_seq (k_region hP hC (oM ?_))))
  refine oM ?_
  refine os (x_bin rfl zt zt (b_rem (by first | decide | omega))) ?_
  refine oA ?_
  refine o_done (e_seq ?_)
  refine k_ret ?_
  refine gives_mk (L := []) (slots := [4]) (w := 0) (.inr rfl) zr (gcVs_cons zh (gcV_free rfl) gcVs_nil) gcH_nil zr (by simp only [Tryz.results7, resA, cst, mkE, Tr.get_set, reduceIte, Nat.reduceEqDiff, Nat.reduceAdd] <;> rfl) ?_
  simp only [one, val_around]; congr 1; exact around_eq hn (by first | exact .inl ⟨by assumption, rfl⟩ | exact .inr ⟨by assumption, rfl⟩)
 ·have p2 := g2; try simp only [dd] at p2
  refine k_skip (e_seq (k_seq (k_region hP hC (oM ?_))))
  refine oM ?_
  refine os (x_bin rfl zt zt (b_rem (by first | decide | omega))) ?_
  refine oA ?_
  refine o_done (e_seq ?_)
  refine k_ret ?_
  refine gives_mk (L := []) (slots := [4]) (w := 0) (.inr rfl) zr (gcVs_cons zh (gcV_free rfl) gcVs_nil) gcH_nil zr (by simp only [Tryz.results7, resA, cst, mkE, Tr.get_set, reduceIte, Nat.reduceEqDiff, Nat.reduceAdd] <;> rfl) ?_
  simp only [one, val_around]; congr 1; exact around_eq hn (by first | exact .inl ⟨by assumption, rfl⟩ | exact .inr ⟨by assumption, rfl⟩)
theorem con_around : Con Tryz.prog 7 c_around := con_flat Tryz.func7 rfl fun us cs v new h => by
 unfold spec_around at h
 split at h
 case h_2 => cases h
 rename_i n m
 split at h
 case isFalse => cases h
 rename_i hc
 try simp only [Bool.and_eq_true] at hc
 have hok := hc
 cases h
 have key := around_m  hok
 exact key
theorem around_c {H : AH}  {n : Int} {m : Int}  (hok : ok_around n m = true) : c_around [.int .i64 n, .int .i64 m] H = some (.int .i64 (around n m), H) := by
 exact flatC_at (v := val_around n m) (new := new_around n m) (cl_fr rfl (cl_fr rfl cl_nil)) (by simp only [spec_around, hok, Bool.and_self, if_true]) (rfl) (gcV_free rfl)
end Go.Proofs.YtfgmplbclpadbaaGreatDoor
namespace Go.Proofs.YtfgmplbclpadbaaGreatDoor
open Go Go.AM
def z46 : List Value := [.int .i64 0, .int .i64 0, .int .u8 0, .int .u8 0, .int .u8 0, .int .u8 0, .int .u8 0, .int .u8 0, .int .u8 0, .int .u8 0, .int .u8 0, .int .u8 0, .int .u8 0, .int .u8 0, .int .u8 0, .int .u8 0, .int .u8 0, .int .u8 0, .string .empty, .int .i64 0, .int .i64 0, .int .i64 0, .int .i64 0, .int .i64 0, .string .empty, .int .i64 0, .int .i64 0, .int .i64 0, .int .i64 0, .int .u8 0, .int .u8 0, .int .u8 0, .int .u8 0, .int .u8 0, .int .u8 0, .int .u8 0, .int .u8 0, .int .u8 0, .int .u8 0, .int .u8 0, .int .u8 0, .int .u8 0, .int .u8 0, .int .u8 0, .int .u8 0, .string .empty]
inductive Rk where
 | ints (ps : List Nat)
 | dig (o : Nat)
 | txt (o : Nat)
 | sig
def Rk.N : Rk -> List Int -> Int
 | .ints _, l => itN l
 | .dig _, l => digN l
 | .txt _, l => txtN l
 | .sig, l => gbN l
def Rk.E : Rk -> List Int -> Int
 | .ints ps, l => itE l ps.length
 | .dig _, l => digE l
 | .txt _, l => txtE l
 | .sig, l => cntE l 1
def Rk.D : Rk -> List Int -> List Value -> List Value
 | .ints ps, l, d => stI d ps (getL rdI l).1
 | .dig o, l, d => splice d o (digC l)
 | .txt o, l, d => splice d o (txtC l)
 | .sig, l, d => splice d 45 [.string (gbS l)]
def dk : Nat -> Rk
 | 0 => .ints [0, 1]
 | 1 => .dig 2
 | 2 => .txt 18
 | 3 => .ints [19, 20, 21, 22]
 | 4 => .ints [23, 25, 26, 27, 28]
 | 5 => .txt 24
 | 6 => .dig 29
 | _ => .sig
def dP (l : List Int) : Nat -> Int × Int × List Value
 | 0 => (0, 0, z46)
 | k + 1 => if (dP l k).2.1 = 0 then ((dP l k).1 + (dk k).N (l.drop (dP l k).1.toNat), (dk k).E (l.drop (dP l k).1.toNat), (dk k).D (l.drop (dP l k).1.toNat) (dP l k).2.2) else dP l k
def dN (l : List Int) (k : Nat) : Int := (dP l k).1
def dE (l : List Int) (k : Nat) : Int := (dP l k).2.1
def dD (l : List Int) (k : Nat) : List Value := (dP l k).2.2
section
variable {l : List Int} {k : Nat}
theorem dP_next (h : dE l k = 0) : dN l (k + 1) = dN l k + (dk k).N (l.drop (dN l k).toNat) /\ dE l (k + 1) = (dk k).E (l.drop (dN l k).toNat) /\ dD l (k + 1) = (dk k).D (l.drop (dN l k).toNat) (dD l k) := by
 unfold dE at h
 unfold dN dE dD
 rw [dP, if_pos h]
 exact ⟨rfl, rfl, rfl⟩
theorem dP_stop (h : ¬ dE l k = 0) : dN l (k + 1) = dN l k /\ dE l (k + 1) = dE l k := by
 unfold dE at h
 unfold dN dE
 rw [dP, if_neg h]
 exact ⟨rfl, rfl⟩
theorem dE_back (h : dE l (k + 1) = 0) : dE l k = 0 := by
 by_cases q : dE l k = 0
 ·exact q
 ·rw [(dP_stop q).2] at h; exact h
theorem Rk.N_rng (r : Rk) {l : List Int} (hB : Byt l) : 0 <= r.N l /\ r.N l <= l.length := by
 cases r with
 | ints ps => exact itN_rng hB
 | dig o => exact digN_rng hB
 | txt o => exact txtN_rng hB
 | sig => exact gbN_rng hB
theorem dN_rng (hB : Byt l) : ∀ k, 0 <= dN l k /\ dN l k <= l.length
 | 0 => ⟨Int.le_refl 0, Int.natCast_nonneg _⟩
 | k + 1 => by
  have ih := dN_rng hB k
  by_cases q : dE l k = 0
  ·have := (dk k).N_rng (byt_drop hB (dN l k).toNat)
   rw [List.length_drop] at this
   rw [(dP_next q).1]
   omega
  ·rw [(dP_stop q).1]; exact ih
end
theorem cf_spliceN {ks : List Lk} {d vs : List Value} {off : Nat} (h : cf ks d = true) (h2 : cf ((ks.drop off).take vs.length) vs = true) : cf ks (splice d off vs) = true := by
 have e : ks = ks.take off ++ (ks.drop off).take vs.length ++ ks.drop (off + vs.length) := by
  rw [List.append_assoc, <-List.drop_drop, List.take_append_drop, List.take_append_drop]
 rw [e]
 unfold splice
 exact cf_append (cf_append (cf_take off h) h2) (cf_drop _ h)
theorem rdL_int {l : List Int} : ∀ (k : Nat) (a : Int) (acc : List Value), (∀ x ∈ acc, ∃ b, x = .int .i64 b) -> ∀ x ∈ (rdL rdI l k a acc).1, ∃ b, x = .int .i64 b
 | 0, a, acc, h => h
 | k + 1, a, acc, h => by
  rw [rdL]
  split
  ·refine rdL_int k _ _ fun x hx => ?_
   rcases List.mem_append.1 hx with hx | hx
   ·exact h x hx
   ·rw [List.mem_singleton.1 hx]; exact ⟨_, rfl⟩
  ·intro x hx; cases hx
theorem getI_int {l : List Int} : ∀ x ∈ (getL rdI l).1, ∃ b, x = .int .i64 b := by
 unfold getL
 split
 ·exact rdL_int _ _ _ fun x hx => by cases hx
 ·intro x hx; cases hx
theorem ints_ex : ∀ {L : List Value}, (∀ x ∈ L, ∃ b, x = .int .i64 b) -> ∃ ns : List Int, L = ints ns /\ ns.length = L.length
 | [], _ => ⟨[], rfl, rfl⟩
 | x :: L, h => by
  obtain ⟨b, hb⟩ := h x (List.mem_cons_self ..)
  obtain ⟨ns, h1, h2⟩ := ints_ex (L := L) fun y hy => h y (List.mem_cons_of_mem _ hy)
  exact ⟨b :: ns, by rw [hb, h1]; rfl, by rw [List.length_cons, List.length_cons, h2]⟩
theorem it_ints {l : List Int} {n : Nat} (h : itE l n = 0) : ∃ ns : List Int, (getL rdI l).1 = ints ns /\ ns.length = n := by
 obtain ⟨ns, h1, h2⟩ := ints_ex (getI_int (l := l))
 have := (pt_zero h).2
 exact ⟨ns, h1, by omega⟩
theorem ex2 {ns : List Int} (h : ns.length = 2) : ∃ a b, ns = [a, b] := by
 match ns, h with
 | [a, b], _ => exact ⟨a, b, rfl⟩
theorem cf_stI {ks : List Lk} : ∀ {ps : List Nat} {ns : List Int} {d : List Value}, cf ks d = true -> (∀ o ∈ ps, ks[o]? = some (.int .i64)) -> cf ks (stI d ps (ints ns)) = true
 | [], _, d, h, _ => by unfold stI; exact h
 | o :: ps, [], d, h, _ => by unfold stI; exact h
 | o :: ps, n :: ns, d, h, hp => by
  show cf ks (stI (splice d o [.int .i64 n]) ps (ints ns)) = true
  exact cf_stI (cf_splice1 h (hp o (List.mem_cons_self ..)) rfl) fun p q => hp p (List.mem_cons_of_mem _ q)
theorem cf_bys : ∀ (l : List Int), cf (List.replicate l.length (.int .u8)) (bys l) = true
 | [] => rfl
 | x :: l => by
  rw [List.length_cons, List.replicate_succ, bys_cons]
  show (Lk.ok _ _ && cf _ _) = true
  rw [cf_bys l]; rfl
theorem digC_bys (l : List Int) : ∃ m : List Int, digC l = bys m := ⟨_, rfl⟩
theorem cf_dig {l : List Int} (hl : (digC l).length = 16) : cf (List.replicate 16 (.int .u8)) (digC l) = true := by
 obtain ⟨m, hm⟩ := digC_bys l
 rw [hm] at hl ⊢
 rw [bys_len] at hl
 rw [<-hl]
 exact cf_bys m
theorem dD_cf {l : List Int} (hB : Byt l) : ∀ {k : Nat}, dE l k = 0 -> k <= 8 -> cf T.K35 (dD l k) = true
 | 0, _, _ => by show cf T.K35 z46 = true; rfl
 | k + 1, h, hk => by
  have h0 := dE_back h
  have ih := dD_cf hB h0 (by omega)
  obtain ⟨e1, e2, e3⟩ := dP_next h0
  rw [e3]
  rw [e2] at h
  have hBd : Byt (l.drop (dN l k).toNat) := byt_drop hB _
  match k, hk, h with
  | 0, _, h =>
   obtain ⟨ns, h1, _⟩ := it_ints (n := 2) h
   show cf _ (stI _ [0, 1] _) = true
   rw [h1]; exact cf_stI ih (by decide)
  | 1, _, h =>
   have hl := digC_len hBd h
   show cf _ (splice _ 2 _) = true
   refine cf_spliceN ih ?_
   rw [hl]; exact cf_dig hl
  | 2, _, h => exact cf_splice1 (k := .str) ih rfl rfl
  | 3, _, h =>
   obtain ⟨ns, h1, _⟩ := it_ints (n := 4) h
   show cf _ (stI _ [19, 20, 21, 22] _) = true
   rw [h1]; exact cf_stI ih (by decide)
  | 4, _, h =>
   obtain ⟨ns, h1, _⟩ := it_ints (n := 5) h
   show cf _ (stI _ [23, 25, 26, 27, 28] _) = true
   rw [h1]; exact cf_stI ih (by decide)
  | 5, _, h => exact cf_splice1 (k := .str) ih rfl rfl
  | 6, _, h =>
   have hl := digC_len hBd h
   show cf _ (splice _ 29 _) = true
   refine cf_spliceN ih ?_
   rw [hl]; exact cf_dig hl
  | 7, _, h => exact cf_splice1 (k := .str) ih rfl rfl
  | k + 8, hk, h => omega
theorem dD_len {l : List Int} (hB : Byt l) {k : Nat} (h : dE l k = 0) (hk : k <= 8) : (dD l k).length = 46 := cf_len (dD_cf hB h hk)
theorem splice_right {A B vs : List Value} {n j : Nat} (h : A.length = n) : splice (A ++ B) (n + j) vs = A ++ splice B j vs := by
 subst h
 unfold splice
 rw [List.take_length_add_append, Nat.add_assoc, List.drop_length_add_append, List.append_assoc, List.append_assoc, List.append_assoc]
def decV (l : List Int) : Value := if dE l 8 = 0 then .tuple ⟨[.agg ⟨dD l 8⟩, .int .i64 (dN l 8), .int .i64 0]⟩ else .tuple ⟨[.agg ⟨z46⟩, .int .i64 0, .int .i64 (dE l 8)]⟩
def DRpost (l : List Int) (t : Tr AObj) (nx wr : Nat) (v : Value) (h' : AH) : Prop := ∃ t' nx' wr', h' = ⟨t', nx', wr'⟩ /\ Fr t nx wr t' nx' wr' (30 * l.length + 300) /\ v = decV l
def DRR : List Value -> AH -> Value -> AH -> Prop := fun args h v h' => ∀ K s l, args = [s] -> BV h.t K s l -> DRpost l h.t h.next h.wr v h'
end Go.Proofs.YtfgmplbclpadbaaGreatDoor
namespace Go.Proofs.YtfgmplbclpadbaaGreatDoor
open Go.AM
set_option maxRecDepth 100000
set_option maxHeartbeats 1000000
set_option maxHeartbeats 16000000
theorem d_join3 {P : Program} {call : Call'} {ops : Array Oper} {o0 o1 o2 : Oper} {l : List Oper} {st : St} {acc : List Inf} {KD : St -> List Inf -> Prop} (J : St -> List Inf -> Prop) (h1 : (∀ s a, J s a -> DrawK P call ops l s a KD) -> DrawK P call ops (o0 :: o1 :: o2 :: l) st acc KD) (h2 : ∀ s a, J s a -> DrawK P call ops l s a KD) : DrawK P call ops (o0 :: o1 :: o2 :: l) st acc KD := h1 h2
theorem d_join6 {P : Program} {call : Call'} {ops : Array Oper} {o0 o1 o2 o3 o4 o5 : Oper} {l : List Oper} {st : St} {acc : List Inf} {KD : St -> List Inf -> Prop} (J : St -> List Inf -> Prop) (h1 : (∀ s a, J s a -> DrawK P call ops l s a KD) -> DrawK P call ops (o0 :: o1 :: o2 :: o3 :: o4 :: o5 :: l) st acc KD) (h2 : ∀ s a, J s a -> DrawK P call ops l s a KD) : DrawK P call ops (o0 :: o1 :: o2 :: o3 :: o4 :: o5 :: l) st acc KD := h1 h2
theorem d_join7 {P : Program} {call : Call'} {ops : Array Oper} {o0 o1 o2 o3 o4 o5 o6 : Oper} {l : List Oper} {st : St} {acc : List Inf} {KD : St -> List Inf -> Prop} (J : St -> List Inf -> Prop) (h1 : (∀ s a, J s a -> DrawK P call ops l s a KD) -> DrawK P call ops (o0 :: o1 :: o2 :: o3 :: o4 :: o5 :: o6 :: l) st acc KD) (h2 : ∀ s a, J s a -> DrawK P call ops l s a KD) : DrawK P call ops (o0 :: o1 :: o2 :: o3 :: o4 :: o5 :: o6 :: l) st acc KD := h1 h2
theorem d_join20 {P : Program} {call : Call'} {ops : Array Oper} {o0 o1 o2 o3 o4 o5 o6 o7 o8 o9 o10 o11 o12 o13 o14 o15 o16 o17 o18 o19 : Oper} {l : List Oper} {st : St} {acc : List Inf} {KD : St -> List Inf -> Prop} (J : St -> List Inf -> Prop) (h1 : (∀ s a, J s a -> DrawK P call ops l s a KD) -> DrawK P call ops (o0 :: o1 :: o2 :: o3 :: o4 :: o5 :: o6 :: o7 :: o8 :: o9 :: o10 :: o11 :: o12 :: o13 :: o14 :: o15 :: o16 :: o17 :: o18 :: o19 :: l) st acc KD) (h2 : ∀ s a, J s a -> DrawK P call ops l s a KD) : DrawK P call ops (o0 :: o1 :: o2 :: o3 :: o4 :: o5 :: o6 :: o7 :: o8 :: o9 :: o10 :: o11 :: o12 :: o13 :: o14 :: o15 :: o16 :: o17 :: o18 :: o19 :: l) st acc KD := h1 h2
theorem d_join23 {P : Program} {call : Call'} {ops : Array Oper} {o0 o1 o2 o3 o4 o5 o6 o7 o8 o9 o10 o11 o12 o13 o14 o15 o16 o17 o18 o19 o20 o21 o22 : Oper} {l : List Oper} {st : St} {acc : List Inf} {KD : St -> List Inf -> Prop} (J : St -> List Inf -> Prop) (h1 : (∀ s a, J s a -> DrawK P call ops l s a KD) -> DrawK P call ops (o0 :: o1 :: o2 :: o3 :: o4 :: o5 :: o6 :: o7 :: o8 :: o9 :: o10 :: o11 :: o12 :: o13 :: o14 :: o15 :: o16 :: o17 :: o18 :: o19 :: o20 :: o21 :: o22 :: l) st acc KD) (h2 : ∀ s a, J s a -> DrawK P call ops l s a KD) : DrawK P call ops (o0 :: o1 :: o2 :: o3 :: o4 :: o5 :: o6 :: o7 :: o8 :: o9 :: o10 :: o11 :: o12 :: o13 :: o14 :: o15 :: o16 :: o17 :: o18 :: o19 :: o20 :: o21 :: o22 :: l) st acc KD := h1 h2
def B9 : Array Nat := #[0, 0, 0, 6, 15, 31, 63, 63, 191, 447, 1023, 2047, 4095, 8191, 8191, 24575, 57343, 131071, 262143, 524287, 1048575, 1048575, 3145727, 7340031, 15728639, 1048575, 34603007, 101711871, 235929599, 1048575, 537919487, 1611661311, 3759144959, 1048575, 8590983167, 25770852351, 68718428159, 137438953471, 274877906943, 549755813887, 1099511627775, 1099511627775, 3298534883327, 7696581394431, 1099511627775, 18691697672191, 53876069761023, 1099511627775, 141836999983103, 423311976693759, 986261930115071, 1099511627775, 2252899325313023, 6756498952683519, 15763698207424511, 1099511627775, 36029896530591743, 108087490568519679, 252202678644375551, 576459652791795711, 1152921504606846975, 2305843009213693951, 4611686018427387903, 9223372036854775807, 9223372036854775807, 27670116110564327423, 64563604257983430655, 147573952589676412927, 295147905179352825855, 590295810358705651711, 1180591620717411303423, 1180591620717411303423, 3541774862152233910271, 8264141345021879123967, 18889465931478580854783, 37778931862957161709567, 75557863725914323419135, 151115727451828646838271, 302231454903657293676543, 604462909807314587353087]
def M9 : List Nat := [0, 0, 0, 1, 2, 0, 0, 0, 0, 0, 2, 0, 0, 0, 0, 0, 0, 2, 0, 0, 0, 0, 0, 0, 0, 0, 0, 0, 0, 0, 0, 0, 0, 0, 0, 0, 1, 2, 0, 0, 0, 0, 0, 0, 0, 0, 0, 0, 0, 0, 0, 0, 0, 0, 0, 0, 0, 0, 0, 1, 2, 0, 0, 0, 0, 0, 0, 2, 0, 0, 0, 0, 0, 0, 2, 0, 0, 0, 2, 0]
structure E9 (m : Nat) (e : Tr Value) : Prop where
 h2 : e.get 2 = some (.pointer (some ⟨m + 1, 0, none⟩))
 h6 : e.get 6 = some (.pointer (some ⟨m + 3, 0, none⟩))
 h7 : e.get 7 = some (.pointer (some ⟨m + 4, 0, none⟩))
 h5 : e.get 5 = some (.pointer (some ⟨m + 2, 0, none⟩))
 h9 : e.get 9 = some (.func (.func 25) ⟨[]⟩ ⟨[.pointer (some ⟨m, 0, none⟩), .pointer (some ⟨m + 3, 0, none⟩), .pointer (some ⟨m + 5, 0, none⟩)]⟩)
 h10 : e.get 10 = some (.func (.func 28) ⟨[]⟩ ⟨[.pointer (some ⟨m, 0, none⟩), .pointer (some ⟨m + 3, 0, none⟩), .pointer (some ⟨m + 5, 0, none⟩)]⟩)
 h11 : e.get 11 = some (.func (.func 31) ⟨[]⟩ ⟨[.pointer (some ⟨m, 0, none⟩), .pointer (some ⟨m + 3, 0, none⟩), .pointer (some ⟨m + 5, 0, none⟩)]⟩)
 h12 : e.get 12 = some (.func (.func 34) ⟨[]⟩ ⟨[.pointer (some ⟨m, 0, none⟩), .pointer (some ⟨m + 3, 0, none⟩), .pointer (some ⟨m + 2, 0, none⟩), .pointer (some ⟨m + 5, 0, none⟩)]⟩)
 h13 : e.get 13 = some (.pointer (some ⟨m + 2, 2, none⟩))
 h14 : e.get 14 = some (.pointer (some ⟨m + 2, 23, none⟩))
theorem E9.set {m : Nat} {e : Tr Value} {d : Nat} {v : Value} (h : E9 m e) (hd : 15 <= d) : E9 m (e.set d v) := by
 constructor <;> rw [gn ow]
 ·exact h.h2
 ·exact h.h6
 ·exact h.h7
 ·exact h.h5
 ·exact h.h9
 ·exact h.h10
 ·exact h.h11
 ·exact h.h12
 ·exact h.h13
 ·exact h.h14
def SJ (l : List Int) (k tk n b : Nat) (s : Value) (m wr0 : Nat) (t0 : Tr AObj) (st : St) (acc : List Inf) : Prop := ∃ e t nx wr a d, st = ⟨e, 106, ⟨t, nx, wr⟩⟩ /\ E9 m e /\ e.get tk = some (.bool (decide (dE l k = 0))) /\ DH t m s a (dE l k) d /\ (dE l k = 0 -> a = dN l k /\ d = dD l k) /\ m + 6 <= nx /\ nx <= m + 6 + b /\ min wr0 (m + 2) <= wr /\ wr <= wr0 /\ (∀ i, i < m + 2 -> t.get i = t0.get i) /\ MkF M9 n acc
theorem s_nmW {P : Program} {h0 : AH} {c : Code} {fr : List Frm} {Q : Ex -> St -> Prop} {e : Tr Value} {sz nx wr : Nat} {t : Tr AObj} (k : ∀ e' t' nx' wr', nx' = nx -> wr' = wr -> (∀ k, e'.get k = e.get k) -> (∀ id, t'.get id = t.get id) -> SureK P h0 c fr ⟨e', sz, ⟨t', nx', wr'⟩⟩ Q) : SureK P h0 c fr ⟨e, sz, ⟨t, nx, wr⟩⟩ Q := k _ _ _ _ rfl rfl (fun _ => rfl) (fun _ => rfl)
noncomputable def c_dec := cEx Tryz.prog 11 DRR
theorem con_dec : Con Tryz.prog 11 c_dec := con_ex Tryz.func11 rfl
theorem dec_c {t0 : Tr AObj} {K : Nat -> Prop} {nx wr : Nat} {s : Value} {l : List Int} (hbv : BV t0 K s l) (hK : ∀ i, K i -> i < nx) (hB : Byt l) (hb : l.length <= 4294967296) (hN : nx + 30 * l.length + 1000 <= BIG) (hwr : wr <= BIG) : ∃ v h', c_dec [s] ⟨t0, nx, wr⟩ = some (v, h') /\ DRpost l t0 nx wr v h' := by
 have hP := Fits
 have hC : CallSound Tryz.prog (tabOf [(25, c_cints), (28, c_dig), (31, c_txt), (34, c_sig)]) := tab_sound (tab_cons con_cints (tab_cons con_dig (tab_cons con_txt (tab_cons con_sig tab_end))))
 suffices key : SureK Tryz.prog ⟨t0, nx, wr⟩ _ [] _ (EndR Tryz.prog _ (DRR [s] ⟨t0, nx, wr⟩)) by
  obtain ⟨v, h', q, c⟩ := sure_start (R := DRR) (sz := 106) Tryz.func11 rfl rfl zo key
  exact ⟨v, h', q, c K s l rfl hbv⟩
 refine s_seq (s_region hP hC ?_)
 refine os (y_box1 rfl zt (one_cells hbv.one)) ?_
 refine os (y_alloc rfl T.z35 rfl rfl) ?_
 refine oA ?_
 refine oA ?_
 refine o_done (se_seq (s_seq (s_region hP hC ?_)))
 refine os (y_alloc rfl T.z35 rfl rfl) ?_
 refine o_done (se_seq (s_seq (s_region hP hC ?_)))
 refine os (y_alloc rfl T.z3 rfl rfl) ?_
 refine os (y_alloc rfl T.z44 rfl rfl) ?_
 refine o_stepN (wA_none rfl) rfl (y_store1 rfl zt (by rfl) rfl T.s3 hg rfl rfl rfl) ?_
 refine o_stepN (wA_none rfl) rfl (y_store1 rfl zt (by rfl) rfl T.s44 hg rfl rfl rfl) ?_
 refine o_done (se_seq (s_seq (s_region hP hC ?_)))
 refine os (x_makeFunc rfl zv zv) ?_
 refine os (y_alloc rfl T.z59 rfl rfl) ?_
 refine o_stepN (wA_none rfl) rfl (y_store1 rfl zt zt rfl T.s59 hg rfl rfl rfl) ?_
 refine o_done (se_seq (s_seq (s_region hP hC ?_)))
 refine os (x_makeFunc rfl zv zv) ?_
 refine oA ?_
 refine o_done (se_seq (s_seq (s_region hP hC ?_)))
 refine os (x_makeFunc rfl zv zv) ?_
 refine oA ?_
 refine o_done (se_seq (s_seq (s_region hP hC ?_)))
 refine os (x_makeFunc rfl zv zv) ?_
 refine oA ?_
 refine o_done (se_seq (s_seq (s_region hP hC ?_)))
 refine os (x_makeFunc rfl zv zv) ?_
 refine oA ?_
 refine o_done (se_seq (s_seq (s_region hP hC ?_)))
 refine os (x_field (off' := 2) rfl zt u35 rfl T.s29 rfl) ?_
 refine os (x_field (off' := 23) rfl zt u35 rfl T.s33 rfl) ?_
 refine oA ?_
 refine oA ?_
 refine o_done (se_seq (s_seq (s_seq ?_)))
 refine s_nmW (fun e tb nb wb hnb hwb hee htt => ?_)
 have hE9 : E9 nx e := ⟨(hee _).trans hg, (hee _).trans hg, (hee _).trans hg, (hee _).trans hg, (hee _).trans hg, (hee _).trans hg, (hee _).trans hg, (hee _).trans hg, (hee _).trans hg, (hee _).trans hg⟩
 obtain ⟨he2, he6, he7, he5, he9, he10, he11, he12, he13, he14⟩ := id hE9
 have hD : DH tb nx s (dN l 0) (dE l 0) (dD l 0) := ⟨(htt _).trans hg, (htt _).trans hg, (htt _).trans hg, (htt _).trans hg, (htt _).trans hg⟩
 have hxb : ∀ i, i < nx -> tb.get i = t0.get i := fun i hi => (htt i).trans hg
 have hres : tb.get (nx + 1) = some (.row z46 (nx + 1) BIG false 46) := (htt _).trans hg
 have hwb1 : min wr nx <= wb := by omega
 have hwb2 : wb <= wr := by omega
 have hnb' : nb = nx + 6 := hnb
 clear hee htt hwb hnb
 refine s_draw hP hC (drawOk_fast (b := B9) (d0 := 22) zr zr) ?_
 refine d_join6 (SJ l 1 27 6 (1 * (3 * l.length + 11)) s nx wb tb) (fun hJ => ?_) ?_
 ·skip
  have hE : dE l 0 = 0 := rfl
  have hx : ∀ i, i < nx + 2 -> tb.get i = tb.get i := fun _ _ => rfl
  obtain ⟨e1, e2, e3⟩ : dN l 1 = _ /\ dE l 1 = _ /\ dD l 1 = _ := dP_next hE
  have hr := dN_rng hB 0
  have hdl := dD_len hB hE zd
  have hbv1 := hbv.keep (t' := tb) (fun i hi => hxb i (hK i hi))
  refine dM ?_
  refine ds (x_field (off' := 0) rfl za u35 rfl T.s3 rfl) ?_
  refine ds (x_field (off' := 1) rfl za u35 rfl T.s3 rfl) ?_
  refine ds (y_bsliceN (cs := ptrs nx [0, 1]) rfl (by simp only [evP, ev_tmp, Tr.get_set, reduceIte, Nat.reduceEqDiff, Nat.reduceAdd, he2, he6, he7, he5, he9, he10, he11, he12, he13, he14] <;> rfl) u60 T.s64 T.z64 zd zd rfl rfl (by rfl)) ?_
  have hD' := hD.keep (t' := tb.set nb (.row (ptrs nx [0, 1]) nb BIG false (ptrs nx [0, 1]).length)) (fun i hi => by rw [gn ow])
  have hbv' := hbv1.keep (t' := tb.set nb (.row (ptrs nx [0, 1]) nb BIG false (ptrs nx [0, 1]).length)) (fun i hi => by rw [Tr.get_set, if_neg (by have := hK i hi; omega)])
  have hT' : (tb.set nb (.row (ptrs nx [0, 1]) nb BIG false (ptrs nx [0, 1]).length)).get nb = some (.row (ptrs nx [0, 1]) nb BIG false (ptrs nx [0, 1]).length) := by rw [gp rfl]
  refine d_callRC (tab_hitR (cints_c (ps := [0, 1]) (nx := nb + 1) (wr := BIG) hbv' hD' hT' ow ow hK ow hB hb hr.1 hr.2 (by rw [hdl]; decide) zd ow (Nat.le_refl _))) (wA_none rfl) rfl rfl rfl za (by simp only [evs, ev_tmp, Tr.get_set, reduceIte, Nat.reduceEqDiff, Nat.reduceAdd, he2, he6, he7, he5, he9, he10, he11, he12, he13, he14] <;> rfl) zd (fun v ta na wa hR => ?_)
  obtain ⟨t2, nx2, wq2, hh, rfl, hD2, n2, n3, w2, w3, hx2⟩ := hR
  cases hh
  refine dM ?_
  exact hJ _ _ ⟨_, _, _, _, _, _, rfl, ((((((hE9.set zd).set zd).set zd).set zd).set zd).set zd), by rw [e2]; simp only [Tr.get_set, reduceIte, Nat.reduceEqDiff, Nat.reduceAdd, he2, he6, he7, he5, he9, he10, he11, he12, he13, he14] <;> rfl, by rw [e2]; exact hD2, fun q => ⟨e1.symm, by rw [e3]; exact if_pos (e2.symm.trans q)⟩, by omega, by omega, by omega, by omega, fun i hi => (hx2 i ow ow ow ow).trans ((by rw [gn ow])), (mk_op (mk_any (mk_q (mk_op (mk_op (mk_op mk_nil ow) ow) ow) (decide_eq_true ow))) ow)⟩
 clear hE9 he2 he6 he7 he5 he9 he10 he11 he12 he13 he14 hD
 rintro _ _ ⟨e, t, nx1, wr1, a, d, rfl, hE9, hk, hD, hND, n0, n1, w0, w1, hx, hM⟩
 obtain ⟨he2, he6, he7, he5, he9, he10, he11, he12, he13, he14⟩ := id hE9
 refine d_join7 (SJ l 2 34 13 (2 * (3 * l.length + 11)) s nx wb tb) (fun hJ => ?_) ?_
 ·skip
  refine d_guard rfl rfl hk (fun g => ?_) (fun g => ?_)
  ·skip
   have hE := of_decide_eq_true g
   rw [g] at hk
   obtain ⟨rfl, rfl⟩ := hND hE
   obtain ⟨e1, e2, e3⟩ : dN l 2 = _ /\ dE l 2 = _ /\ dD l 2 = _ := dP_next hE
   have hr := dN_rng hB 1
   have hdl := dD_len hB hE zd
   have hbv1 := hbv.keep (t' := t) (fun i hi => (hx i (by have := hK i hi; omega)).trans (hxb i (hK i hi)))
   refine d_step (wA_on rfl rfl zw) rfl (x_move rfl zw) zd ?_
   refine d_step (wA_on rfl rfl zw) rfl (x_move rfl zw) zd ?_
   refine d_step (wA_on rfl rfl zw) rfl (x_nilCheck rfl zw) zd ?_
   refine d_step (wA_on rfl rfl zw) rfl (x_field (off' := 2) rfl zw u29 rfl T.s25 rfl) zd ?_
   refine d_callRC (tab_missR zd (tab_hitR (dig_c (off := 2) (nx := nx1) (wr := BIG) hbv1 hD hK ow hB hb hr.1 hr.2 (by rw [hdl]; decide) ow (Nat.le_refl _)))) (wA_on rfl rfl zw) rfl rfl rfl zw (by simp only [evs, ev_tmp, Tr.get_set, reduceIte, Nat.reduceEqDiff, Nat.reduceAdd, he2, he6, he7, he5, he9, he10, he11, he12, he13, he14, hk] <;> rfl) zd (fun v ta na wa hR => ?_)
   obtain ⟨t2, nx2, wq2, hh, rfl, hD2, n2, n3, w2, w3, hx2⟩ := hR
   cases hh
   refine ds (x_pick rfl zw (by simp only [if_true, if_false, Bool.false_eq_true, ev_tmp, Tr.get_set, reduceIte, Nat.reduceEqDiff, Nat.reduceAdd, he2, he6, he7, he5, he9, he10, he11, he12, he13, he14, hk] <;> rfl)) ?_
   refine ds (x_move rfl zw) ?_
   exact hJ _ _ ⟨_, _, _, _, _, _, rfl, (((((((hE9.set zd).set zd).set zd).set zd).set zd).set zd).set zd), by rw [e2]; simp only [Tr.get_set, reduceIte, Nat.reduceEqDiff, Nat.reduceAdd, he2, he6, he7, he5, he9, he10, he11, he12, he13, he14, hk] <;> rfl, by rw [e2]; exact hD2, fun q => ⟨e1.symm, by rw [e3]; exact if_pos (e2.symm.trans q)⟩, by omega, by omega, by omega, by omega, fun i hi => (hx2 i ow ow ow ow).trans (hx i hi), (mk_op (mk_op (mk_any (mk_op (mk_op (mk_op (mk_op hM ow) ow) ow) ow)) ow) ow)⟩
  ·skip
   have hE := of_decide_eq_false g
   rw [g] at hk
   obtain ⟨e1, e2⟩ : dN l 2 = _ /\ dE l 2 = _ := dP_stop hE
   refine dS ?_
   refine dS ?_
   refine dS ?_
   refine dS ?_
   refine dS ?_
   refine ds (x_pick rfl zw (by simp only [if_true, if_false, Bool.false_eq_true, ev_tmp, Tr.get_set, reduceIte, Nat.reduceEqDiff, Nat.reduceAdd, he2, he6, he7, he5, he9, he10, he11, he12, he13, he14, hk] <;> rfl)) ?_
   refine ds (x_move rfl zw) ?_
   exact hJ _ _ ⟨_, _, _, _, _, _, rfl, (((((((hE9.set zd).set zd).set zd).set zd).set zd).set zd).set zd), by rw [e2, decide_eq_false hE]; simp only [Tr.get_set, reduceIte, Nat.reduceEqDiff, Nat.reduceAdd, he2, he6, he7, he5, he9, he10, he11, he12, he13, he14, hk] <;> rfl, by rw [e2]; exact hD, fun q => absurd (e2.symm.trans q) hE, by omega, by omega, by omega, by omega, hx, (mk_op (mk_op (mk_skip (mk_skip (mk_skip (mk_skip (mk_skip hM))))) ow) ow)⟩
 clear hE9 he2 he6 he7 he5 he9 he10 he11 he12 he13 he14 hD hk hND n0 n1 w0 w1 hx hM
 rintro _ _ ⟨e, t, nx1, wr1, a, d, rfl, hE9, hk, hD, hND, n0, n1, w0, w1, hx, hM⟩
 obtain ⟨he2, he6, he7, he5, he9, he10, he11, he12, he13, he14⟩ := id hE9
 refine d_join7 (SJ l 3 41 20 (3 * (3 * l.length + 11)) s nx wb tb) (fun hJ => ?_) ?_
 ·skip
  refine d_guard rfl rfl hk (fun g => ?_) (fun g => ?_)
  ·skip
   have hE := of_decide_eq_true g
   rw [g] at hk
   obtain ⟨rfl, rfl⟩ := hND hE
   obtain ⟨e1, e2, e3⟩ : dN l 3 = _ /\ dE l 3 = _ /\ dD l 3 = _ := dP_next hE
   have hr := dN_rng hB 2
   have hdl := dD_len hB hE zd
   have hbv1 := hbv.keep (t' := t) (fun i hi => (hx i (by have := hK i hi; omega)).trans (hxb i (hK i hi)))
   refine d_step (wA_on rfl rfl zw) rfl (x_move rfl zw) zd ?_
   refine d_step (wA_on rfl rfl zw) rfl (x_move rfl zw) zd ?_
   refine d_step (wA_on rfl rfl zw) rfl (x_nilCheck rfl zw) zd ?_
   refine d_step (wA_on rfl rfl zw) rfl (x_field (off' := 18) rfl zw u29 rfl T.s9 rfl) zd ?_
   refine d_callRC (tab_missR zd (tab_missR zd (tab_hitR (txt_c (off := 18) (nx := nx1) (wr := BIG) hbv1 hD hK ow hB hb hr.1 hr.2 (by rw [hdl]; decide) ow (Nat.le_refl _))))) (wA_on rfl rfl zw) rfl rfl rfl zw (by simp only [evs, ev_tmp, Tr.get_set, reduceIte, Nat.reduceEqDiff, Nat.reduceAdd, he2, he6, he7, he5, he9, he10, he11, he12, he13, he14, hk] <;> rfl) zd (fun v ta na wa hR => ?_)
   obtain ⟨t2, nx2, wq2, hh, rfl, hD2, n2, n3, w2, w3, hx2⟩ := hR
   cases hh
   refine ds (x_pick rfl zw (by simp only [if_true, if_false, Bool.false_eq_true, ev_tmp, Tr.get_set, reduceIte, Nat.reduceEqDiff, Nat.reduceAdd, he2, he6, he7, he5, he9, he10, he11, he12, he13, he14, hk] <;> rfl)) ?_
   refine ds (x_move rfl zw) ?_
   exact hJ _ _ ⟨_, _, _, _, _, _, rfl, (((((((hE9.set zd).set zd).set zd).set zd).set zd).set zd).set zd), by rw [e2]; simp only [Tr.get_set, reduceIte, Nat.reduceEqDiff, Nat.reduceAdd, he2, he6, he7, he5, he9, he10, he11, he12, he13, he14, hk] <;> rfl, by rw [e2]; exact hD2, fun q => ⟨e1.symm, by rw [e3]; exact if_pos (e2.symm.trans q)⟩, by omega, by omega, by omega, by omega, fun i hi => (hx2 i ow ow ow ow).trans (hx i hi), (mk_op (mk_op (mk_any (mk_op (mk_op (mk_op (mk_op hM ow) ow) ow) ow)) ow) ow)⟩
  ·skip
   have hE := of_decide_eq_false g
   rw [g] at hk
   obtain ⟨e1, e2⟩ : dN l 3 = _ /\ dE l 3 = _ := dP_stop hE
   refine dS ?_
   refine dS ?_
   refine dS ?_
   refine dS ?_
   refine dS ?_
   refine ds (x_pick rfl zw (by simp only [if_true, if_false, Bool.false_eq_true, ev_tmp, Tr.get_set, reduceIte, Nat.reduceEqDiff, Nat.reduceAdd, he2, he6, he7, he5, he9, he10, he11, he12, he13, he14, hk] <;> rfl)) ?_
   refine ds (x_move rfl zw) ?_
   exact hJ _ _ ⟨_, _, _, _, _, _, rfl, (((((((hE9.set zd).set zd).set zd).set zd).set zd).set zd).set zd), by rw [e2, decide_eq_false hE]; simp only [Tr.get_set, reduceIte, Nat.reduceEqDiff, Nat.reduceAdd, he2, he6, he7, he5, he9, he10, he11, he12, he13, he14, hk] <;> rfl, by rw [e2]; exact hD, fun q => absurd (e2.symm.trans q) hE, by omega, by omega, by omega, by omega, hx, (mk_op (mk_op (mk_skip (mk_skip (mk_skip (mk_skip (mk_skip hM))))) ow) ow)⟩
 clear hE9 he2 he6 he7 he5 he9 he10 he11 he12 he13 he14 hD hk hND n0 n1 w0 w1 hx hM
 rintro _ _ ⟨e, t, nx1, wr1, a, d, rfl, hE9, hk, hD, hND, n0, n1, w0, w1, hx, hM⟩
 obtain ⟨he2, he6, he7, he5, he9, he10, he11, he12, he13, he14⟩ := id hE9
 refine d_join20 (SJ l 4 61 40 (4 * (3 * l.length + 11)) s nx wb tb) (fun hJ => ?_) ?_
 ·skip
  refine d_guard rfl rfl hk (fun g => ?_) (fun g => ?_)
  ·skip
   have hE := of_decide_eq_true g
   rw [g] at hk
   obtain ⟨rfl, rfl⟩ := hND hE
   obtain ⟨e1, e2, e3⟩ : dN l 4 = _ /\ dE l 4 = _ /\ dD l 4 = _ := dP_next hE
   have hr := dN_rng hB 3
   have hdl := dD_len hB hE zd
   have hbv1 := hbv.keep (t' := t) (fun i hi => (hx i (by have := hK i hi; omega)).trans (hxb i (hK i hi)))
   refine d_step (wA_on rfl rfl zw) rfl (x_move rfl zw) zd ?_
   refine d_step (wA_on rfl rfl zw) rfl (x_move rfl zw) zd ?_
   refine d_step (wA_on rfl rfl zw) rfl (x_nilCheck rfl zw) zd ?_
   refine d_step (wA_on rfl rfl zw) rfl (x_field (off' := 19) rfl zw u29 rfl T.s27 rfl) zd ?_
   refine d_step (wA_on rfl rfl zw) rfl (x_field (off' := 19) rfl zw u27 rfl T.s3 rfl) zd ?_
   refine d_step (wA_on rfl rfl zw) rfl (x_move rfl zw) zd ?_
   refine d_step (wA_on rfl rfl zw) rfl (x_nilCheck rfl zw) zd ?_
   refine d_step (wA_on rfl rfl zw) rfl (x_field (off' := 19) rfl zw u29 rfl T.s27 rfl) zd ?_
   refine d_step (wA_on rfl rfl zw) rfl (x_field (off' := 20) rfl zw u27 rfl T.s3 rfl) zd ?_
   refine d_step (wA_on rfl rfl zw) rfl (x_move rfl zw) zd ?_
   refine d_step (wA_on rfl rfl zw) rfl (x_nilCheck rfl zw) zd ?_
   refine d_step (wA_on rfl rfl zw) rfl (x_field (off' := 19) rfl zw u29 rfl T.s27 rfl) zd ?_
   refine d_step (wA_on rfl rfl zw) rfl (x_field (off' := 21) rfl zw u27 rfl T.s3 rfl) zd ?_
   refine d_step (wA_on rfl rfl zw) rfl (x_move rfl zw) zd ?_
   refine d_step (wA_on rfl rfl zw) rfl (x_nilCheck rfl zw) zd ?_
   refine d_step (wA_on rfl rfl zw) rfl (x_field (off' := 22) rfl zw u29 rfl T.s3 rfl) zd ?_
   refine d_step (wA_on rfl rfl zw) rfl (y_bsliceN (cs := ptrs nx [19, 20, 21, 22]) rfl (by simp only [evP, ev_tmp, Tr.get_set, reduceIte, Nat.reduceEqDiff, Nat.reduceAdd, he2, he6, he7, he5, he9, he10, he11, he12, he13, he14, hk] <;> rfl) u60 T.s64 T.z64 zd zd rfl rfl (by rfl)) zd ?_
   have hD' := hD.keep (t' := t.set nx1 (.row (ptrs nx [19, 20, 21, 22]) nx1 BIG false (ptrs nx [19, 20, 21, 22]).length)) (fun i hi => by rw [gn ow])
   have hbv' := hbv1.keep (t' := t.set nx1 (.row (ptrs nx [19, 20, 21, 22]) nx1 BIG false (ptrs nx [19, 20, 21, 22]).length)) (fun i hi => by rw [Tr.get_set, if_neg (by have := hK i hi; omega)])
   have hT' : (t.set nx1 (.row (ptrs nx [19, 20, 21, 22]) nx1 BIG false (ptrs nx [19, 20, 21, 22]).length)).get nx1 = some (.row (ptrs nx [19, 20, 21, 22]) nx1 BIG false (ptrs nx [19, 20, 21, 22]).length) := by rw [gp rfl]
   refine d_callRC (tab_hitR (cints_c (ps := [19, 20, 21, 22]) (nx := nx1 + 1) (wr := BIG) hbv' hD' hT' ow ow hK ow hB hb hr.1 hr.2 (by rw [hdl]; decide) zd ow (Nat.le_refl _))) (wA_on rfl rfl zw) rfl rfl rfl zw (by simp only [evs, ev_tmp, Tr.get_set, reduceIte, Nat.reduceEqDiff, Nat.reduceAdd, he2, he6, he7, he5, he9, he10, he11, he12, he13, he14, hk] <;> rfl) zd (fun v ta na wa hR => ?_)
   obtain ⟨t2, nx2, wq2, hh, rfl, hD2, n2, n3, w2, w3, hx2⟩ := hR
   cases hh
   refine ds (x_pick rfl zw (by simp only [if_true, if_false, Bool.false_eq_true, ev_tmp, Tr.get_set, reduceIte, Nat.reduceEqDiff, Nat.reduceAdd, he2, he6, he7, he5, he9, he10, he11, he12, he13, he14, hk] <;> rfl)) ?_
   refine ds (x_move rfl zw) ?_
   exact hJ _ _ ⟨_, _, _, _, _, _, rfl, ((((((((((((((((((((hE9.set zd).set zd).set zd).set zd).set zd).set zd).set zd).set zd).set zd).set zd).set zd).set zd).set zd).set zd).set zd).set zd).set zd).set zd).set zd).set zd), by rw [e2]; simp only [Tr.get_set, reduceIte, Nat.reduceEqDiff, Nat.reduceAdd, he2, he6, he7, he5, he9, he10, he11, he12, he13, he14, hk] <;> rfl, by rw [e2]; exact hD2, fun q => ⟨e1.symm, by rw [e3]; exact if_pos (e2.symm.trans q)⟩, by omega, by omega, by omega, by omega, fun i hi => (hx2 i ow ow ow ow).trans ((by rw [gn ow]; exact hx i hi)), (mk_op (mk_op (mk_any (mk_q (mk_op (mk_op (mk_op (mk_op (mk_op (mk_op (mk_op (mk_op (mk_op (mk_op (mk_op (mk_op (mk_op (mk_op (mk_op (mk_op hM ow) ow) ow) ow) ow) ow) ow) ow) ow) ow) ow) ow) ow) ow) ow) ow) (decide_eq_true ow))) ow) ow)⟩
  ·skip
   have hE := of_decide_eq_false g
   rw [g] at hk
   obtain ⟨e1, e2⟩ : dN l 4 = _ /\ dE l 4 = _ := dP_stop hE
   refine dS ?_
   refine dS ?_
   refine dS ?_
   refine dS ?_
   refine dS ?_
   refine dS ?_
   refine dS ?_
   refine dS ?_
   refine dS ?_
   refine dS ?_
   refine dS ?_
   refine dS ?_
   refine dS ?_
   refine dS ?_
   refine dS ?_
   refine dS ?_
   refine dS ?_
   refine dS ?_
   refine ds (x_pick rfl zw (by simp only [if_true, if_false, Bool.false_eq_true, ev_tmp, Tr.get_set, reduceIte, Nat.reduceEqDiff, Nat.reduceAdd, he2, he6, he7, he5, he9, he10, he11, he12, he13, he14, hk] <;> rfl)) ?_
   refine ds (x_move rfl zw) ?_
   exact hJ _ _ ⟨_, _, _, _, _, _, rfl, ((((((((((((((((((((hE9.set zd).set zd).set zd).set zd).set zd).set zd).set zd).set zd).set zd).set zd).set zd).set zd).set zd).set zd).set zd).set zd).set zd).set zd).set zd).set zd), by rw [e2, decide_eq_false hE]; simp only [Tr.get_set, reduceIte, Nat.reduceEqDiff, Nat.reduceAdd, he2, he6, he7, he5, he9, he10, he11, he12, he13, he14, hk] <;> rfl, by rw [e2]; exact hD, fun q => absurd (e2.symm.trans q) hE, by omega, by omega, by omega, by omega, hx, (mk_op (mk_op (mk_skip (mk_skip (mk_skip (mk_skip (mk_skip (mk_skip (mk_skip (mk_skip (mk_skip (mk_skip (mk_skip (mk_skip (mk_skip (mk_skip (mk_skip (mk_skip (mk_skip (mk_skip hM)))))))))))))))))) ow) ow)⟩
 clear hE9 he2 he6 he7 he5 he9 he10 he11 he12 he13 he14 hD hk hND n0 n1 w0 w1 hx hM
 rintro _ _ ⟨e, t, nx1, wr1, a, d, rfl, hE9, hk, hD, hND, n0, n1, w0, w1, hx, hM⟩
 obtain ⟨he2, he6, he7, he5, he9, he10, he11, he12, he13, he14⟩ := id hE9
 refine d_join23 (SJ l 5 84 63 (5 * (3 * l.length + 11)) s nx wb tb) (fun hJ => ?_) ?_
 ·skip
  refine d_guard rfl rfl hk (fun g => ?_) (fun g => ?_)
  ·skip
   have hE := of_decide_eq_true g
   rw [g] at hk
   obtain ⟨rfl, rfl⟩ := hND hE
   obtain ⟨e1, e2, e3⟩ : dN l 5 = _ /\ dE l 5 = _ /\ dD l 5 = _ := dP_next hE
   have hr := dN_rng hB 4
   have hdl := dD_len hB hE zd
   have hbv1 := hbv.keep (t' := t) (fun i hi => (hx i (by have := hK i hi; omega)).trans (hxb i (hK i hi)))
   refine d_step (wA_on rfl rfl zw) rfl (x_move rfl zw) zd ?_
   refine d_step (wA_on rfl rfl zw) rfl (x_move rfl zw) zd ?_
   refine d_step (wA_on rfl rfl zw) rfl (x_nilCheck rfl zw) zd ?_
   refine d_step (wA_on rfl rfl zw) rfl (x_field (off' := 23) rfl zw u33 rfl T.s3 rfl) zd ?_
   refine d_step (wA_on rfl rfl zw) rfl (x_move rfl zw) zd ?_
   refine d_step (wA_on rfl rfl zw) rfl (x_nilCheck rfl zw) zd ?_
   refine d_step (wA_on rfl rfl zw) rfl (x_field (off' := 25) rfl zw u33 rfl T.s3 rfl) zd ?_
   refine d_step (wA_on rfl rfl zw) rfl (x_move rfl zw) zd ?_
   refine d_step (wA_on rfl rfl zw) rfl (x_nilCheck rfl zw) zd ?_
   refine d_step (wA_on rfl rfl zw) rfl (x_field (off' := 26) rfl zw u33 rfl T.s31 rfl) zd ?_
   refine d_step (wA_on rfl rfl zw) rfl (x_field (off' := 26) rfl zw u31 rfl T.s3 rfl) zd ?_
   refine d_step (wA_on rfl rfl zw) rfl (x_move rfl zw) zd ?_
   refine d_step (wA_on rfl rfl zw) rfl (x_nilCheck rfl zw) zd ?_
   refine d_step (wA_on rfl rfl zw) rfl (x_field (off' := 26) rfl zw u33 rfl T.s31 rfl) zd ?_
   refine d_step (wA_on rfl rfl zw) rfl (x_field (off' := 27) rfl zw u31 rfl T.s3 rfl) zd ?_
   refine d_step (wA_on rfl rfl zw) rfl (x_move rfl zw) zd ?_
   refine d_step (wA_on rfl rfl zw) rfl (x_nilCheck rfl zw) zd ?_
   refine d_step (wA_on rfl rfl zw) rfl (x_field (off' := 26) rfl zw u33 rfl T.s31 rfl) zd ?_
   refine d_step (wA_on rfl rfl zw) rfl (x_field (off' := 28) rfl zw u31 rfl T.s3 rfl) zd ?_
   refine d_step (wA_on rfl rfl zw) rfl (y_bsliceN (cs := ptrs nx [23, 25, 26, 27, 28]) rfl (by simp only [evP, ev_tmp, Tr.get_set, reduceIte, Nat.reduceEqDiff, Nat.reduceAdd, he2, he6, he7, he5, he9, he10, he11, he12, he13, he14, hk] <;> rfl) u60 T.s64 T.z64 zd zd rfl rfl (by rfl)) zd ?_
   have hD' := hD.keep (t' := t.set nx1 (.row (ptrs nx [23, 25, 26, 27, 28]) nx1 BIG false (ptrs nx [23, 25, 26, 27, 28]).length)) (fun i hi => by rw [gn ow])
   have hbv' := hbv1.keep (t' := t.set nx1 (.row (ptrs nx [23, 25, 26, 27, 28]) nx1 BIG false (ptrs nx [23, 25, 26, 27, 28]).length)) (fun i hi => by rw [Tr.get_set, if_neg (by have := hK i hi; omega)])
   have hT' : (t.set nx1 (.row (ptrs nx [23, 25, 26, 27, 28]) nx1 BIG false (ptrs nx [23, 25, 26, 27, 28]).length)).get nx1 = some (.row (ptrs nx [23, 25, 26, 27, 28]) nx1 BIG false (ptrs nx [23, 25, 26, 27, 28]).length) := by rw [gp rfl]
   refine d_callRC (tab_hitR (cints_c (ps := [23, 25, 26, 27, 28]) (nx := nx1 + 1) (wr := BIG) hbv' hD' hT' ow ow hK ow hB hb hr.1 hr.2 (by rw [hdl]; decide) zd ow (Nat.le_refl _))) (wA_on rfl rfl zw) rfl rfl rfl zw (by simp only [evs, ev_tmp, Tr.get_set, reduceIte, Nat.reduceEqDiff, Nat.reduceAdd, he2, he6, he7, he5, he9, he10, he11, he12, he13, he14, hk] <;> rfl) zd (fun v ta na wa hR => ?_)
   obtain ⟨t2, nx2, wq2, hh, rfl, hD2, n2, n3, w2, w3, hx2⟩ := hR
   cases hh
   refine ds (x_pick rfl zw (by simp only [if_true, if_false, Bool.false_eq_true, ev_tmp, Tr.get_set, reduceIte, Nat.reduceEqDiff, Nat.reduceAdd, he2, he6, he7, he5, he9, he10, he11, he12, he13, he14, hk] <;> rfl)) ?_
   refine ds (x_move rfl zw) ?_
   exact hJ _ _ ⟨_, _, _, _, _, _, rfl, (((((((((((((((((((((((hE9.set zd).set zd).set zd).set zd).set zd).set zd).set zd).set zd).set zd).set zd).set zd).set zd).set zd).set zd).set zd).set zd).set zd).set zd).set zd).set zd).set zd).set zd).set zd), by rw [e2]; simp only [Tr.get_set, reduceIte, Nat.reduceEqDiff, Nat.reduceAdd, he2, he6, he7, he5, he9, he10, he11, he12, he13, he14, hk] <;> rfl, by rw [e2]; exact hD2, fun q => ⟨e1.symm, by rw [e3]; exact if_pos (e2.symm.trans q)⟩, by omega, by omega, by omega, by omega, fun i hi => (hx2 i ow ow ow ow).trans ((by rw [gn ow]; exact hx i hi)), (mk_op (mk_op (mk_any (mk_q (mk_op (mk_op (mk_op (mk_op (mk_op (mk_op (mk_op (mk_op (mk_op (mk_op (mk_op (mk_op (mk_op (mk_op (mk_op (mk_op (mk_op (mk_op (mk_op hM ow) ow) ow) ow) ow) ow) ow) ow) ow) ow) ow) ow) ow) ow) ow) ow) ow) ow) ow) (decide_eq_true ow))) ow) ow)⟩
  ·skip
   have hE := of_decide_eq_false g
   rw [g] at hk
   obtain ⟨e1, e2⟩ : dN l 5 = _ /\ dE l 5 = _ := dP_stop hE
   refine dS ?_
   refine dS ?_
   refine dS ?_
   refine dS ?_
   refine dS ?_
   refine dS ?_
   refine dS ?_
   refine dS ?_
   refine dS ?_
   refine dS ?_
   refine dS ?_
   refine dS ?_
   refine dS ?_
   refine dS ?_
   refine dS ?_
   refine dS ?_
   refine dS ?_
   refine dS ?_
   refine dS ?_
   refine dS ?_
   refine dS ?_
   refine ds (x_pick rfl zw (by simp only [if_true, if_false, Bool.false_eq_true, ev_tmp, Tr.get_set, reduceIte, Nat.reduceEqDiff, Nat.reduceAdd, he2, he6, he7, he5, he9, he10, he11, he12, he13, he14, hk] <;> rfl)) ?_
   refine ds (x_move rfl zw) ?_
   exact hJ _ _ ⟨_, _, _, _, _, _, rfl, (((((((((((((((((((((((hE9.set zd).set zd).set zd).set zd).set zd).set zd).set zd).set zd).set zd).set zd).set zd).set zd).set zd).set zd).set zd).set zd).set zd).set zd).set zd).set zd).set zd).set zd).set zd), by rw [e2, decide_eq_false hE]; simp only [Tr.get_set, reduceIte, Nat.reduceEqDiff, Nat.reduceAdd, he2, he6, he7, he5, he9, he10, he11, he12, he13, he14, hk] <;> rfl, by rw [e2]; exact hD, fun q => absurd (e2.symm.trans q) hE, by omega, by omega, by omega, by omega, hx, (mk_op (mk_op (mk_skip (mk_skip (mk_skip (mk_skip (mk_skip (mk_skip (mk_skip (mk_skip (mk_skip (mk_skip (mk_skip (mk_skip (mk_skip (mk_skip (mk_skip (mk_skip (mk_skip (mk_skip (mk_skip (mk_skip (mk_skip hM))))))))))))))))))))) ow) ow)⟩
 clear hE9 he2 he6 he7 he5 he9 he10 he11 he12 he13 he14 hD hk hND n0 n1 w0 w1 hx hM
 rintro _ _ ⟨e, t, nx1, wr1, a, d, rfl, hE9, hk, hD, hND, n0, n1, w0, w1, hx, hM⟩
 obtain ⟨he2, he6, he7, he5, he9, he10, he11, he12, he13, he14⟩ := id hE9
 refine d_join7 (SJ l 6 91 70 (6 * (3 * l.length + 11)) s nx wb tb) (fun hJ => ?_) ?_
 ·skip
  refine d_guard rfl rfl hk (fun g => ?_) (fun g => ?_)
  ·skip
   have hE := of_decide_eq_true g
   rw [g] at hk
   obtain ⟨rfl, rfl⟩ := hND hE
   obtain ⟨e1, e2, e3⟩ : dN l 6 = _ /\ dE l 6 = _ /\ dD l 6 = _ := dP_next hE
   have hr := dN_rng hB 5
   have hdl := dD_len hB hE zd
   have hbv1 := hbv.keep (t' := t) (fun i hi => (hx i (by have := hK i hi; omega)).trans (hxb i (hK i hi)))
   refine d_step (wA_on rfl rfl zw) rfl (x_move rfl zw) zd ?_
   refine d_step (wA_on rfl rfl zw) rfl (x_move rfl zw) zd ?_
   refine d_step (wA_on rfl rfl zw) rfl (x_nilCheck rfl zw) zd ?_
   refine d_step (wA_on rfl rfl zw) rfl (x_field (off' := 24) rfl zw u33 rfl T.s9 rfl) zd ?_
   refine d_callRC (tab_missR zd (tab_missR zd (tab_hitR (txt_c (off := 24) (nx := nx1) (wr := BIG) hbv1 hD hK ow hB hb hr.1 hr.2 (by rw [hdl]; decide) ow (Nat.le_refl _))))) (wA_on rfl rfl zw) rfl rfl rfl zw (by simp only [evs, ev_tmp, Tr.get_set, reduceIte, Nat.reduceEqDiff, Nat.reduceAdd, he2, he6, he7, he5, he9, he10, he11, he12, he13, he14, hk] <;> rfl) zd (fun v ta na wa hR => ?_)
   obtain ⟨t2, nx2, wq2, hh, rfl, hD2, n2, n3, w2, w3, hx2⟩ := hR
   cases hh
   refine ds (x_pick rfl zw (by simp only [if_true, if_false, Bool.false_eq_true, ev_tmp, Tr.get_set, reduceIte, Nat.reduceEqDiff, Nat.reduceAdd, he2, he6, he7, he5, he9, he10, he11, he12, he13, he14, hk] <;> rfl)) ?_
   refine ds (x_move rfl zw) ?_
   exact hJ _ _ ⟨_, _, _, _, _, _, rfl, (((((((hE9.set zd).set zd).set zd).set zd).set zd).set zd).set zd), by rw [e2]; simp only [Tr.get_set, reduceIte, Nat.reduceEqDiff, Nat.reduceAdd, he2, he6, he7, he5, he9, he10, he11, he12, he13, he14, hk] <;> rfl, by rw [e2]; exact hD2, fun q => ⟨e1.symm, by rw [e3]; exact if_pos (e2.symm.trans q)⟩, by omega, by omega, by omega, by omega, fun i hi => (hx2 i ow ow ow ow).trans (hx i hi), (mk_op (mk_op (mk_any (mk_op (mk_op (mk_op (mk_op hM ow) ow) ow) ow)) ow) ow)⟩
  ·skip
   have hE := of_decide_eq_false g
   rw [g] at hk
   obtain ⟨e1, e2⟩ : dN l 6 = _ /\ dE l 6 = _ := dP_stop hE
   refine dS ?_
   refine dS ?_
   refine dS ?_
   refine dS ?_
   refine dS ?_
   refine ds (x_pick rfl zw (by simp only [if_true, if_false, Bool.false_eq_true, ev_tmp, Tr.get_set, reduceIte, Nat.reduceEqDiff, Nat.reduceAdd, he2, he6, he7, he5, he9, he10, he11, he12, he13, he14, hk] <;> rfl)) ?_
   refine ds (x_move rfl zw) ?_
   exact hJ _ _ ⟨_, _, _, _, _, _, rfl, (((((((hE9.set zd).set zd).set zd).set zd).set zd).set zd).set zd), by rw [e2, decide_eq_false hE]; simp only [Tr.get_set, reduceIte, Nat.reduceEqDiff, Nat.reduceAdd, he2, he6, he7, he5, he9, he10, he11, he12, he13, he14, hk] <;> rfl, by rw [e2]; exact hD, fun q => absurd (e2.symm.trans q) hE, by omega, by omega, by omega, by omega, hx, (mk_op (mk_op (mk_skip (mk_skip (mk_skip (mk_skip (mk_skip hM))))) ow) ow)⟩
 clear hE9 he2 he6 he7 he5 he9 he10 he11 he12 he13 he14 hD hk hND n0 n1 w0 w1 hx hM
 rintro _ _ ⟨e, t, nx1, wr1, a, d, rfl, hE9, hk, hD, hND, n0, n1, w0, w1, hx, hM⟩
 obtain ⟨he2, he6, he7, he5, he9, he10, he11, he12, he13, he14⟩ := id hE9
 refine d_join7 (SJ l 7 98 77 (7 * (3 * l.length + 11)) s nx wb tb) (fun hJ => ?_) ?_
 ·skip
  refine d_guard rfl rfl hk (fun g => ?_) (fun g => ?_)
  ·skip
   have hE := of_decide_eq_true g
   rw [g] at hk
   obtain ⟨rfl, rfl⟩ := hND hE
   obtain ⟨e1, e2, e3⟩ : dN l 7 = _ /\ dE l 7 = _ /\ dD l 7 = _ := dP_next hE
   have hr := dN_rng hB 6
   have hdl := dD_len hB hE zd
   have hbv1 := hbv.keep (t' := t) (fun i hi => (hx i (by have := hK i hi; omega)).trans (hxb i (hK i hi)))
   refine d_step (wA_on rfl rfl zw) rfl (x_move rfl zw) zd ?_
   refine d_step (wA_on rfl rfl zw) rfl (x_move rfl zw) zd ?_
   refine d_step (wA_on rfl rfl zw) rfl (x_nilCheck rfl zw) zd ?_
   refine d_step (wA_on rfl rfl zw) rfl (x_field (off' := 29) rfl zw u33 rfl T.s25 rfl) zd ?_
   refine d_callRC (tab_missR zd (tab_hitR (dig_c (off := 29) (nx := nx1) (wr := BIG) hbv1 hD hK ow hB hb hr.1 hr.2 (by rw [hdl]; decide) ow (Nat.le_refl _)))) (wA_on rfl rfl zw) rfl rfl rfl zw (by simp only [evs, ev_tmp, Tr.get_set, reduceIte, Nat.reduceEqDiff, Nat.reduceAdd, he2, he6, he7, he5, he9, he10, he11, he12, he13, he14, hk] <;> rfl) zd (fun v ta na wa hR => ?_)
   obtain ⟨t2, nx2, wq2, hh, rfl, hD2, n2, n3, w2, w3, hx2⟩ := hR
   cases hh
   refine ds (x_pick rfl zw (by simp only [if_true, if_false, Bool.false_eq_true, ev_tmp, Tr.get_set, reduceIte, Nat.reduceEqDiff, Nat.reduceAdd, he2, he6, he7, he5, he9, he10, he11, he12, he13, he14, hk] <;> rfl)) ?_
   refine ds (x_move rfl zw) ?_
   exact hJ _ _ ⟨_, _, _, _, _, _, rfl, (((((((hE9.set zd).set zd).set zd).set zd).set zd).set zd).set zd), by rw [e2]; simp only [Tr.get_set, reduceIte, Nat.reduceEqDiff, Nat.reduceAdd, he2, he6, he7, he5, he9, he10, he11, he12, he13, he14, hk] <;> rfl, by rw [e2]; exact hD2, fun q => ⟨e1.symm, by rw [e3]; exact if_pos (e2.symm.trans q)⟩, by omega, by omega, by omega, by omega, fun i hi => (hx2 i ow ow ow ow).trans (hx i hi), (mk_op (mk_op (mk_any (mk_op (mk_op (mk_op (mk_op hM ow) ow) ow) ow)) ow) ow)⟩
  ·skip
   have hE := of_decide_eq_false g
   rw [g] at hk
   obtain ⟨e1, e2⟩ : dN l 7 = _ /\ dE l 7 = _ := dP_stop hE
   refine dS ?_
   refine dS ?_
   refine dS ?_
   refine dS ?_
   refine dS ?_
   refine ds (x_pick rfl zw (by simp only [if_true, if_false, Bool.false_eq_true, ev_tmp, Tr.get_set, reduceIte, Nat.reduceEqDiff, Nat.reduceAdd, he2, he6, he7, he5, he9, he10, he11, he12, he13, he14, hk] <;> rfl)) ?_
   refine ds (x_move rfl zw) ?_
   exact hJ _ _ ⟨_, _, _, _, _, _, rfl, (((((((hE9.set zd).set zd).set zd).set zd).set zd).set zd).set zd), by rw [e2, decide_eq_false hE]; simp only [Tr.get_set, reduceIte, Nat.reduceEqDiff, Nat.reduceAdd, he2, he6, he7, he5, he9, he10, he11, he12, he13, he14, hk] <;> rfl, by rw [e2]; exact hD, fun q => absurd (e2.symm.trans q) hE, by omega, by omega, by omega, by omega, hx, (mk_op (mk_op (mk_skip (mk_skip (mk_skip (mk_skip (mk_skip hM))))) ow) ow)⟩
 clear hE9 he2 he6 he7 he5 he9 he10 he11 he12 he13 he14 hD hk hND n0 n1 w0 w1 hx hM
 rintro _ _ ⟨e, t, nx1, wr1, a, d, rfl, hE9, hk, hD, hND, n0, n1, w0, w1, hx, hM⟩
 obtain ⟨he2, he6, he7, he5, he9, he10, he11, he12, he13, he14⟩ := id hE9
 refine d_join3 (SJ l 8 101 80 (8 * (3 * l.length + 11)) s nx wb tb) (fun hJ => ?_) ?_
 ·skip
  refine d_guard rfl rfl hk (fun g => ?_) (fun g => ?_)
  ·skip
   have hE := of_decide_eq_true g
   rw [g] at hk
   obtain ⟨rfl, rfl⟩ := hND hE
   obtain ⟨e1, e2, e3⟩ : dN l 8 = _ /\ dE l 8 = _ /\ dD l 8 = _ := dP_next hE
   have hr := dN_rng hB 7
   have hdl := dD_len hB hE zd
   have hbv1 := hbv.keep (t' := t) (fun i hi => (hx i (by have := hK i hi; omega)).trans (hxb i (hK i hi)))
   refine d_step (wA_on rfl rfl zw) rfl (x_move rfl zw) zd ?_
   refine d_callRC (tab_missR zd (tab_missR zd (tab_missR zd (tab_hitR (sig_c (nx := nx1) (wr := BIG) hbv1 hD hK ow hB hb hr.1 hr.2 hdl ow (Nat.le_refl _)))))) (wA_on rfl rfl zw) rfl rfl rfl zw (by simp only [evs, ev_tmp, Tr.get_set, reduceIte, Nat.reduceEqDiff, Nat.reduceAdd, he2, he6, he7, he5, he9, he10, he11, he12, he13, he14, hk] <;> rfl) zd (fun v ta na wa hR => ?_)
   obtain ⟨t2, nx2, wq2, hh, rfl, hD2, n2, n3, w2, w3, hx2⟩ := hR
   cases hh
   refine ds (x_pick rfl zw (by simp only [if_true, if_false, Bool.false_eq_true, ev_tmp, Tr.get_set, reduceIte, Nat.reduceEqDiff, Nat.reduceAdd, he2, he6, he7, he5, he9, he10, he11, he12, he13, he14, hk] <;> rfl)) ?_
   exact hJ _ _ ⟨_, _, _, _, _, _, rfl, (((hE9.set zd).set zd).set zd), by rw [e2]; simp only [Tr.get_set, reduceIte, Nat.reduceEqDiff, Nat.reduceAdd, he2, he6, he7, he5, he9, he10, he11, he12, he13, he14, hk] <;> rfl, by rw [e2]; exact hD2, fun q => ⟨e1.symm, by rw [e3]; exact rfl⟩, by omega, by omega, by omega, by omega, fun i hi => (hx2 i ow ow ow ow).trans (hx i hi), (mk_op (mk_any (mk_op hM ow)) ow)⟩
  ·skip
   have hE := of_decide_eq_false g
   rw [g] at hk
   obtain ⟨e1, e2⟩ : dN l 8 = _ /\ dE l 8 = _ := dP_stop hE
   refine dS ?_
   refine dS ?_
   refine ds (x_pick rfl zw (by simp only [if_true, if_false, Bool.false_eq_true, ev_tmp, Tr.get_set, reduceIte, Nat.reduceEqDiff, Nat.reduceAdd, he2, he6, he7, he5, he9, he10, he11, he12, he13, he14, hk] <;> rfl)) ?_
   exact hJ _ _ ⟨_, _, _, _, _, _, rfl, (((hE9.set zd).set zd).set zd), by rw [e2, decide_eq_false hE]; simp only [Tr.get_set, reduceIte, Nat.reduceEqDiff, Nat.reduceAdd, he2, he6, he7, he5, he9, he10, he11, he12, he13, he14, hk] <;> rfl, by rw [e2]; exact hD, fun q => absurd (e2.symm.trans q) hE, by omega, by omega, by omega, by omega, hx, (mk_op (mk_skip (mk_skip hM)) ow)⟩
 clear hE9 he2 he6 he7 he5 he9 he10 he11 he12 he13 he14 hD hk hND n0 n1 w0 w1 hx hM
 rintro _ _ ⟨e, t, nx1, wr1, a, d, rfl, hE9, hk, hD, hND, n0, n1, w0, w1, hx, hM⟩
 obtain ⟨he2, he6, he7, he5, he9, he10, he11, he12, he13, he14⟩ := id hE9
 refine d_done ⟨de_ok (tail_mkB (b := B9) zr hM zr) (by show nx1 <= BIG; omega) (by show wb <= BIG; omega), ?_⟩
 have hres1 := (hx (nx + 1) ow).trans hres
 refine se_seq ?_
 refine s_cond zw (fun g1 => ?_) (fun g1 => ?_)
 ·have p1 := g1; try simp only [dd] at p1
  refine s_seq ?_
  have hqB : nx1 <= BIG := by omega
  have hE : dE l 8 = 0 := by assumption
  obtain ⟨rfl, rfl⟩ := hND hE
  have hdl := dD_len hB hE zd
  refine s_draw hP hC zr ?_
  refine ds (x_loadA rfl zw T.g35 T.s35 (l_all (whole_row hD.fa rfl) hdl.symm)) ?_
  refine ds (x_load1 rfl zw T.g3 (l_all (whole_row hD.fi rfl) rfl)) ?_
  refine d_stepN (wA_none rfl) rfl (y_storeA rfl zw zw T.s35 hdl hres1 rfl rfl (cf_oneC (dD_cf hB hE (Nat.le_refl 8)))) ?_
  refine ds (x_assign rfl zw) ?_
  refine ds (x_assign rfl (by rfl)) ?_
  refine d_done ⟨?_, ?_⟩
  ·have hnxB : nx1 <= BIG := by omega
   refine de_ok (tail_marks [true, true, false, true, true] [true, true, false, true, true] (.cons (fun _ => stab_some (x := infOf _ _ _ _ _ _ _) (r := nx + 2) rfl (inf_load rfl (by simp only [readId, ev_tmp, Tr.get_set, reduceIte, Nat.reduceEqDiff, Nat.reduceAdd, he2, he6, he7, he5, he9, he10, he11, he12, he13, he14, hk, g1] <;> rfl) hnxB (root_row hD.fa) ow).1 (inf_load rfl (by simp only [readId, ev_tmp, Tr.get_set, reduceIte, Nat.reduceEqDiff, Nat.reduceAdd, he2, he6, he7, he5, he9, he10, he11, he12, he13, he14, hk, g1] <;> rfl) hnxB (root_row hD.fa) ow).2.1 (inf_load rfl (by simp only [readId, ev_tmp, Tr.get_set, reduceIte, Nat.reduceEqDiff, Nat.reduceAdd, he2, he6, he7, he5, he9, he10, he11, he12, he13, he14, hk, g1] <;> rfl) hnxB (root_row hD.fa) ow).2.2 ?_) (fun _ => (inf_load rfl (by simp only [readId, ev_tmp, Tr.get_set, reduceIte, Nat.reduceEqDiff, Nat.reduceAdd, he2, he6, he7, he5, he9, he10, he11, he12, he13, he14, hk, g1] <;> rfl) hnxB (root_row hD.fa) ow).2.1) (.cons (fun _ => stab_keep (x := infOf _ _ _ _ _ _ _) (r := nx + 3) rfl (inf_load rfl (by simp only [readId, ev_tmp, Tr.get_set, reduceIte, Nat.reduceEqDiff, Nat.reduceAdd, he2, he6, he7, he5, he9, he10, he11, he12, he13, he14, hk, g1] <;> rfl) hnxB (root_row hD.fi) ow).1 (inf_load rfl (by simp only [readId, ev_tmp, Tr.get_set, reduceIte, Nat.reduceEqDiff, Nat.reduceAdd, he2, he6, he7, he5, he9, he10, he11, he12, he13, he14, hk, g1] <;> rfl) hnxB (root_row hD.fi) ow).2.1 (inf_load rfl (by simp only [readId, ev_tmp, Tr.get_set, reduceIte, Nat.reduceEqDiff, Nat.reduceAdd, he2, he6, he7, he5, he9, he10, he11, he12, he13, he14, hk, g1] <;> rfl) hnxB (root_row hD.fi) ow).2.2 ?_) (fun _ => (inf_load rfl (by simp only [readId, ev_tmp, Tr.get_set, reduceIte, Nat.reduceEqDiff, Nat.reduceAdd, he2, he6, he7, he5, he9, he10, he11, he12, he13, he14, hk, g1] <;> rfl) hnxB (root_row hD.fi) ow).2.1) (.cons (fun h => by cases h) (fun h => by cases h) (.cons (fun _ => stab_none (x := infOf _ _ _ _ _ _ _) rfl (inf_pure rfl rfl hnxB).1 (inf_pure rfl rfl hnxB).2.1 (inf_pure rfl rfl hnxB).2.2) (fun _ => (inf_pure rfl rfl hnxB).2.1) (.cons (fun _ => stab_none (x := infOf _ _ _ _ _ _ _) rfl (inf_pure rfl rfl hnxB).1 (inf_pure rfl rfl hnxB).2.1 (inf_pure rfl rfl hnxB).2.2) (fun _ => (inf_pure rfl rfl hnxB).2.1) .nil))))) zd) (by show nx1 <= BIG; omega) (by show wr1 <= BIG; omega)
   ·intro i y hy
    match i, hy with
    | 0, hy => cases hy; exact .inl (inf_load rfl (by simp only [readId, ev_tmp, Tr.get_set, reduceIte, Nat.reduceEqDiff, Nat.reduceAdd, he2, he6, he7, he5, he9, he10, he11, he12, he13, he14, hk, g1] <;> rfl) hnxB (root_row hD.fa) ow).2.1
    | 1, hy => cases hy; exact .inl (inf_load rfl (by simp only [readId, ev_tmp, Tr.get_set, reduceIte, Nat.reduceEqDiff, Nat.reduceAdd, he2, he6, he7, he5, he9, he10, he11, he12, he13, he14, hk, g1] <;> rfl) hnxB (root_row hD.fi) ow).2.1
    | 2, hy => exact .inr (.inr ⟨by decide, by kernel_rfl⟩)
    | 3, hy => cases hy; exact .inl (inf_pure rfl rfl hnxB).2.1
    | 4, hy => cases hy; exact .inl (inf_pure rfl rfl hnxB).2.1
    | n + 5, hy => cases hy
   ·skip
    intro i y hy
    match i, hy with
    | 0, hy => cases hy; exact .inl (inf_load rfl (by simp only [readId, ev_tmp, Tr.get_set, reduceIte, Nat.reduceEqDiff, Nat.reduceAdd, he2, he6, he7, he5, he9, he10, he11, he12, he13, he14, hk, g1] <;> rfl) hnxB (root_row hD.fa) ow).2.1
    | 1, hy => cases hy; exact .inl (inf_load rfl (by simp only [readId, ev_tmp, Tr.get_set, reduceIte, Nat.reduceEqDiff, Nat.reduceAdd, he2, he6, he7, he5, he9, he10, he11, he12, he13, he14, hk, g1] <;> rfl) hnxB (root_row hD.fi) ow).2.1
    | 2, hy => cases hy; exact .inr (.inr (.inr (inf_idsK (id := nx + 3) (by simp only [readId, ev_tmp, Tr.get_set, reduceIte, Nat.reduceEqDiff, Nat.reduceAdd, he2, he6, he7, he5, he9, he10, he11, he12, he13, he14, hk, g1] <;> rfl) (root_row hD.fi) (sameO_row hD.fi (by rw [gn ow]; exact hD.fi) (by intro v hv; rw [List.mem_singleton.1 hv]; exact eqV_int)))))
    | 3, hy => cases hy; exact .inl (inf_pure rfl rfl hnxB).2.1
    | 4, hy => cases hy; exact .inl (inf_pure rfl rfl hnxB).2.1
    | n + 5, hy => cases hy
  refine se_seq ?_
  refine s_ret ?_
  refine se_seq_ret ?_
  refine ⟨.inr rfl, _, (resA_cell zw T.g35 T.s35 (l_all (whole_row (show Tr.get _ (nx + 1) = _ from by rw [gp rfl]) rfl) hdl.symm) (resA_tmp zw (resA_tmp zw resA_nil))), fun K2 s2 l2 hs2 hb2 => ?_⟩
  cases hs2
  have hl2 := hbv.uniq hb2
  rw [hl2]
  exact ⟨_, _, _, rfl, ⟨by show nx <= nx1; omega, by show nx1 <= nx + _; omega, by show min wr nx <= _; omega, by show _ <= wr; omega, fun i (hi : i < nx) => by rw [gn ow]; exact (hx i ow).trans (hxb i hi)⟩, by unfold decV; rw [if_pos hE]; rfl⟩
 ·have p1 := g1; try simp only [dd] at p1
  refine s_skip (se_seq (s_seq ?_))
  have hqB : nx1 <= BIG := by omega
  have hE : ¬ dE l 8 = 0 := by assumption
  refine s_draw hP hC zr ?_
  refine ds (x_build (v := .agg ⟨z46⟩) rfl (by rfl) T.z35 rfl zr) ?_
  refine ds (x_load1 rfl zw T.g44 (l_all (whole_row hD.ff rfl) rfl)) ?_
  refine d_stepN (wA_none rfl) rfl (y_storeA rfl zw zw T.s35 rfl hres1 rfl rfl rfl) ?_
  refine ds (x_assign rfl (by rfl)) ?_
  refine ds (x_assign rfl zw) ?_
  refine d_done ⟨?_, ?_⟩
  ·have hnxB : nx1 <= BIG := by omega
   refine de_ok (tail_marks [true, true, false, true, true] [true, true, false, true, true] (.cons (fun _ => stab_none (x := infOf _ _ _ _ _ _ _) rfl (inf_pure rfl rfl hnxB).1 (inf_pure rfl rfl hnxB).2.1 (inf_pure rfl rfl hnxB).2.2) (fun _ => (inf_pure rfl rfl hnxB).2.1) (.cons (fun _ => stab_keep (x := infOf _ _ _ _ _ _ _) (r := nx + 4) rfl (inf_load rfl (by simp only [readId, ev_tmp, Tr.get_set, reduceIte, Nat.reduceEqDiff, Nat.reduceAdd, he2, he6, he7, he5, he9, he10, he11, he12, he13, he14, hk, g1] <;> rfl) hnxB (root_row hD.ff) ow).1 (inf_load rfl (by simp only [readId, ev_tmp, Tr.get_set, reduceIte, Nat.reduceEqDiff, Nat.reduceAdd, he2, he6, he7, he5, he9, he10, he11, he12, he13, he14, hk, g1] <;> rfl) hnxB (root_row hD.ff) ow).2.1 (inf_load rfl (by simp only [readId, ev_tmp, Tr.get_set, reduceIte, Nat.reduceEqDiff, Nat.reduceAdd, he2, he6, he7, he5, he9, he10, he11, he12, he13, he14, hk, g1] <;> rfl) hnxB (root_row hD.ff) ow).2.2 ?_) (fun _ => (inf_load rfl (by simp only [readId, ev_tmp, Tr.get_set, reduceIte, Nat.reduceEqDiff, Nat.reduceAdd, he2, he6, he7, he5, he9, he10, he11, he12, he13, he14, hk, g1] <;> rfl) hnxB (root_row hD.ff) ow).2.1) (.cons (fun h => by cases h) (fun h => by cases h) (.cons (fun _ => stab_none (x := infOf _ _ _ _ _ _ _) rfl (inf_pure rfl rfl hnxB).1 (inf_pure rfl rfl hnxB).2.1 (inf_pure rfl rfl hnxB).2.2) (fun _ => (inf_pure rfl rfl hnxB).2.1) (.cons (fun _ => stab_none (x := infOf _ _ _ _ _ _ _) rfl (inf_pure rfl rfl hnxB).1 (inf_pure rfl rfl hnxB).2.1 (inf_pure rfl rfl hnxB).2.2) (fun _ => (inf_pure rfl rfl hnxB).2.1) .nil))))) zd) (by show nx1 <= BIG; omega) (by show wr1 <= BIG; omega)
   intro i y hy
   match i, hy with
   | 0, hy => cases hy; exact .inl (inf_pure rfl rfl hnxB).2.1
   | 1, hy => cases hy; exact .inl (inf_load rfl (by simp only [readId, ev_tmp, Tr.get_set, reduceIte, Nat.reduceEqDiff, Nat.reduceAdd, he2, he6, he7, he5, he9, he10, he11, he12, he13, he14, hk, g1] <;> rfl) hnxB (root_row hD.ff) ow).2.1
   | 2, hy => cases hy; exact .inr (.inr (.inr (inf_idsK (id := nx + 4) (by simp only [readId, ev_tmp, Tr.get_set, reduceIte, Nat.reduceEqDiff, Nat.reduceAdd, he2, he6, he7, he5, he9, he10, he11, he12, he13, he14, hk, g1] <;> rfl) (root_row hD.ff) (sameO_row hD.ff (by rw [gn ow]; exact hD.ff) (by intro v hv; rw [List.mem_singleton.1 hv]; exact eqV_int)))))
   | 3, hy => cases hy; exact .inl (inf_pure rfl rfl hnxB).2.1
   | 4, hy => cases hy; exact .inl (inf_pure rfl rfl hnxB).2.1
   | n + 5, hy => cases hy
  refine se_seq ?_
  refine s_ret ?_
  refine ⟨.inr rfl, _, (resA_cell zw T.g35 T.s35 (l_all (whole_row (show Tr.get _ (nx + 1) = _ from by rw [gp rfl]) rfl) rfl) (resA_tmp zw (resA_tmp zw resA_nil))), fun K2 s2 l2 hs2 hb2 => ?_⟩
  cases hs2
  have hl2 := hbv.uniq hb2
  rw [hl2]
  exact ⟨_, _, _, rfl, ⟨by show nx <= nx1; omega, by show nx1 <= nx + _; omega, by show min wr nx <= _; omega, by show _ <= wr; omega, fun i (hi : i < nx) => by rw [gn ow]; exact (hx i ow).trans (hxb i hi)⟩, by unfold decV; rw [if_neg hE]; rfl⟩
end Go.Proofs.YtfgmplbclpadbaaGreatDoor
namespace Go.Proofs.YtfgmplbclpadbaaGreatDoor
open Go.AM
set_option maxRecDepth 100000
set_option maxHeartbeats 1000000
set_option maxHeartbeats 16000000
end Go.Proofs.YtfgmplbclpadbaaGreatDoor
