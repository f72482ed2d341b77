/-
  Is a part of a list in order already.
-/
import Derived.Test.YtmladpbadglecaaGreatDoorHWl
set_option linter.unusedSimpArgs false
set_option linter.unusedVariables false
namespace Go.Proofs.YtmladpbadglecaaGreatDoor
open Go.AM
set_option maxRecDepth 100000
set_option maxHeartbeats 1000000
open Go.Sort
set_option maxHeartbeats 16000000
theorem p2_args {id id2 n n2 c c2 : Nat} {a a2 b b2 : Int} {x : Value} (h : [Value.slice (some ⟨id, 0, none⟩) n c, .int .i64 a, .int .i64 b, x] = [.slice (some ⟨id2, 0, none⟩) n2 c2, .int .i64 a2, .int .i64 b2, x]) : id2 = id /\ a2 = a /\ b2 = b := by
 simp only [List.cons.injEq, Value.slice.injEq, Option.some.injEq, Addr.mk.injEq, Value.int.injEq, and_true, true_and] at h
 obtain ⟨⟨h1, _⟩, h2, h3⟩ := h
 exact ⟨h1.symm, h2.symm, h3.symm⟩
def R_pi : List Value -> AH -> Value -> AH -> Prop := fun args h v h' => ∀ K r id c (P : Array Wd) (a b : Int), args = [.slice (some ⟨id, 0, none⟩) P.size c, .int .i64 a, .int .i64 b, CMPV] -> DS h.t K r id P -> ∃ t' nx' wr', ∃ q : Bool, h' = ⟨t', nx', wr'⟩ /\ v = .bool q /\ (q = true -> SortedIn ltW a.toNat b.toNat P) /\ OwnS t' r id (vals P) /\ FrX h.t h.next h.wr t' nx' wr' r 1000
noncomputable def c_pi := cEx Tryz.prog 53 R_pi
theorem con_pi : Con Tryz.prog 53 c_pi := con_ex Tryz.func53 rfl
theorem pi_c {t : Tr AObj} {K : Nat -> Prop} {nx wr : Nat} {r id c : Nat} {P : Array Wd} {a b : Int} (hd : DS t K r id P) (hK : ∀ i, K i -> i < nx /\ i ≠ r) (hr : r < nx) (hid : id < nx) (hz : P.size <= 40) (ha : 0 <= a) (hab : a < b) (hb : b <= P.size) (hN : nx + 4000000 <= BIG) (hwr : wr <= BIG) : ∃ v h', c_pi [.slice (some ⟨id, 0, none⟩) P.size c, .int .i64 a, .int .i64 b, CMPV] ⟨t, nx, wr⟩ = some (v, h') /\ ∃ t' nx' wr', ∃ q : Bool, h' = ⟨t', nx', wr'⟩ /\ v = .bool q /\ (q = true -> SortedIn ltW a.toNat b.toNat P) /\ OwnS t' r id (vals P) /\ FrX t nx wr t' nx' wr' r 1000 := by
 have hP := Fits
 have hC : CallSound Tryz.prog (tabOf [(18, c_ord)]) := tab_sound (tab_cons con_ord tab_end)
 suffices key : SureK Tryz.prog ⟨t, nx, wr⟩ _ [] _ (EndR Tryz.prog _ (R_pi [.slice (some ⟨id, 0, none⟩) P.size c, .int .i64 a, .int .i64 b, CMPV] ⟨t, nx, wr⟩)) by
  obtain ⟨v, h', q, x⟩ := sure_start (R := R_pi) (sz := 141) Tryz.func53 rfl rfl zo key
  exact ⟨v, h', q, x K r id c P a b rfl hd⟩
 refine s_seq (s_region hP hC (oA ?_))
 refine o_done (se_seq (s_seq (s_region hP hC (oM ?_))))
 refine os (x_bin (u := .int .i64 (a + 1)) rfl zt (by rfl) (by rw [b_add, IntWalk.i64_in _ ow])) ?_
 refine oA ?_
 refine o_done (se_seq (s_seq (s_seq (s_region hP hC (oA ?_)))))
 refine o_done (se_seq (s_block ?_))
 refine s_loop0 (s_round ?_)
 refine s_seq (s_seq (s_region hP hC (oM ?_)))
 refine os (x_bin (u := .bool true) rfl zt (by rfl) (by rw [b_lss]; rfl)) ?_
 refine o_done (se_seq ?_)
 refine s_condT zt ?_
 refine s_skip (se_seq (s_seq (s_block (s_seq (s_block ?_)))))
 refine s_loop (α := Int) (fun iA s' => ∃ e tA nxA wqA, s' = ⟨e, 141, ⟨tA, nxA, wqA⟩⟩ /\ e.get 0 = some (.slice (some ⟨id, 0, none⟩) P.size c) /\ e.get 1 = some (.int .i64 (a)) /\ e.get 2 = some (.int .i64 (b)) /\ e.get 3 = some (CMPV) /\ e.get 9 = some (.int .i64 iA) /\ a + 1 <= iA /\ iA <= b /\ OwnS tA r id (vals P) /\ FrX t nx wr tA nxA wqA r ((20 + 10 * (iA - a)).toNat) /\ SortedIn ltW a.toNat iA.toNat P) (fun iA => (b + 5 - iA).toNat) (a + 1) ⟨_, _, _, _, rfl, hg, hg, hg, hg, hg, by omega, by omega, hd.own, FrX.low (FrX.refl (t := t) (nx := nx) (wr := wr) (r := r) (k := 0)) ow, (fun i j h1 h2 h3 => by omega)⟩ ?_
 rintro iA s' ⟨e, tA, nxA, wqA, rfl, heA0, heA1, heA2, heA3, heA9, r0A, r1A, oA, hGA, hEA⟩
 have gaA := hGA.le
 have gbA := hGA.hi
 have gcA := hGA.wlo
 have gdA := hGA.whi
 have dA := hd.step (P' := P) oA hGA.same hK (fun x hx => hx)
 refine s_seq (s_seq ?_)
 refine s_join (fun s' => ∃ e tAx nxAx wqAx, s' = ⟨e, 141, ⟨tAx, nxAx, wqAx⟩⟩ /\ e.get 0 = some (.slice (some ⟨id, 0, none⟩) P.size c) /\ e.get 1 = some (.int .i64 (a)) /\ e.get 2 = some (.int .i64 (b)) /\ e.get 3 = some (CMPV) /\ e.get 9 = some (.int .i64 iA) /\ e.get 36 = some (.bool (decide (iA < b) && !lessW (P[(iA).toNat]!).2 (P[(iA - 1).toNat]!).2)) /\ OwnS tAx r id (vals P) /\ FrX t nx wr tAx nxAx wqAx r ((30 + 10 * (iA - a)).toNat)) ?_ ?_
 ·skip
  have hqB : nxA <= BIG := by omega
  refine s_draw hP hC zr ?_
  refine dM ?_
  refine dM ?_
  refine ds (x_bin rfl za za b_lss) ?_
  refine dM ?_
  refine d_guard rfl rfl za (fun g2 => ?_) (fun g2 => ?_)
  ·have p2 := g2; try simp only [dd] at p2
   refine d_step wZ rfl (x_move rfl za) zd ?_
   refine d_step wZ rfl (x_move rfl za) zd ?_
   refine d_step wZ rfl (x_move rfl za) zd ?_
   refine d_step wZ rfl (x_index rfl za za u38 T.s22 ow ow) zd ?_
   refine d_step wZ rfl (x_load1 rfl za T.g22 (l_vals oA.whole ow ow)) zd ?_
   refine d_step wZ rfl (x_move rfl za) zd ?_
   refine d_step wZ rfl (x_move rfl za) zd ?_
   refine d_step wZ rfl (x_bin (u := .int .i64 (iA - 1)) rfl za (by rfl) (by rw [b_sub, IntWalk.i64_in _ ow])) zd ?_
   refine d_step wZ rfl (x_index rfl za za u38 T.s22 ow ow) zd ?_
   refine d_step wZ rfl (x_load1 rfl za T.g22 (l_vals oA.whole ow ow)) zd ?_
   have hv11 := dA.iv _ (mem_at (P := P) (i := (iA).toNat) ow)
   have hv21 := dA.iv _ (mem_at (P := P) (i := (iA - 1).toNat) ow)
   refine d_callRC (vs := [(P[(iA).toNat]!).1, (P[(iA - 1).toNat]!).1]) (cap := []) (tab_hitR (ord_c (nx := nxA) hv11.1 hv21.1 (fun i q => by have := hK i q; omega) hv11.2 hv21.2 ow (Nat.le_refl _))) wZ rfl rfl rfl za ze zd (fun v1 ta1 na1 wa1 hR1 => ?_)
   obtain ⟨t1, nx1, wz1, he1, hf1, rfl⟩ := hR1
   cases he1
   have la1 := hf1.le
   have lb1 := hf1.hi
   have lw1 := hf1.wlo
   have hq1 : decide (nxA <= wa1) = true := decide_eq_true ow
   have qC1 : na1 <= BIG := by omega
   have qB1 : nxA <= BIG := by omega
   have ow1 := oA.keep (t' := ta1) (hf1.same _ ow) (hf1.same _ ow)
   refine d_step wZ rfl (x_bin rfl za (by rfl) b_lss) zd ?_
   refine d_step wZ rfl (x_not rfl zw) zd ?_
   refine ds (x_pick rfl zw zb) ?_
   refine d_done ⟨de_quiet (by simp only [List.all_append, List.all_cons, List.all_nil, infOf, decide_eq_true hqB, Bool.and_self, show Inf.skip.quiet = true from rfl, hq1, decide_eq_true qB1, decide_eq_true qC1]) zBG zBG, ?_⟩
   refine se_loop ?_
   exact ⟨_, _, _, _, rfl, za, za, za, za, za, (by rw [show decide (iA < b) = true from g2, Bool.true_and, <-ord_lt]; exact za), ow1, FrX.low (FrX.cmp hGA hf1 zwl zwh) ow⟩
  ·have p2 := g2; try simp only [dd] at p2
   refine dS ?_
   refine dS ?_
   refine dS ?_
   refine dS ?_
   refine dS ?_
   refine dS ?_
   refine dS ?_
   refine dS ?_
   refine dS ?_
   refine dS ?_
   refine dS ?_
   refine dS ?_
   refine dS ?_
   refine ds (x_pick rfl zw zb) ?_
   refine d_done ⟨de_quiet (by simp only [List.all_append, List.all_cons, List.all_nil, infOf, decide_eq_true hqB, Bool.and_self, show Inf.skip.quiet = true from rfl]) zBG zBG, ?_⟩
   refine se_loop ?_
   exact ⟨_, _, _, _, rfl, za, za, za, za, za, (by rw [show decide (iA < b) = false from g2, Bool.false_and]; exact za), oA, FrX.wr hGA zwl zwh ow⟩
 ·skip
  clear heA0 heA1 heA2 heA3 heA9 dA gdA gcA gbA gaA hGA oA
  rintro s' ⟨e, tAx, nxAx, wqAx, rfl, heAx0, heAx1, heAx2, heAx3, heAx9, heAxb, oAx, hGAx⟩
  have gaAx := hGAx.le
  have gbAx := hGAx.hi
  have gcAx := hGAx.wlo
  have gdAx := hGAx.whi
  have dAx := hd.step (P' := P) oAx hGAx.same hK (fun x hx => hx)
  refine s_cond za (fun g5 => ?_) (fun g5 => ?_)
  ·have p5 := g5; try simp only [dd] at p5
   refine s_skip (se_seq (s_block (s_region hP hC (oM ?_))))
   refine os (x_bin (u := .int .i64 (iA + 1)) rfl za (by rfl) (by rw [b_add, IntWalk.i64_in _ ow])) ?_
   refine oA ?_
   refine o_done (se_block ?_)
   refine se_loop ?_
   have hw1 : IntKind.i64.wrap (iA + 1) = iA + 1 := IntWalk.i64_in _ ow
   exact ⟨iA + 1, ⟨_, _, _, _, rfl, za, za, za, za, (by simp only [Tr.get_set, reduceIte, Nat.reduceEqDiff, Nat.reduceAdd, hw1, heAx0, heAx1, heAx2, heAx3, heAx9, heAxb, g5] <;> rfl), by omega, by omega, oAx, FrX.low hGAx ow, ps_go ow ow hEA g5⟩, by omega⟩
  ·have p5 := g5; try simp only [dd] at p5
   refine s_exit ?_
   refine se_seq_exit ?_
   refine se_loop_exit ?_
   refine se_block_eq (se_seq (s_seq (s_seq (s_region hP hC (oM ?_)))))
   refine oM ?_
   refine os (x_bin rfl za za b_eql) ?_
   refine o_done (se_seq ?_)
   refine s_cond za (fun g7 => ?_) (fun g7 => ?_)
   ·have p7 := g7; try simp only [dd] at p7
    refine s_seq (s_region hP hC (oA ?_))
    refine o_done (se_seq ?_)
    refine s_ret ?_
    refine se_seq_ret ?_
    refine se_block_ret ?_
    refine se_seq_ret ?_
    refine se_loop_ret ?_
    refine se_block_ret ?_
    refine se_seq_ret ?_
    refine ⟨.inr rfl, _, (by simp only [Tryz.results53, resA, Tr.get_set, reduceIte, Nat.reduceEqDiff, Nat.reduceAdd, heAx0, heAx1, heAx2, heAx3, heAx9, heAxb, g5, g7] <;> rfl), fun K2 r2 id2 c2 Q2 a2 b2 hs2 hd2 => ?_⟩
    obtain ⟨rfl, rfl, rfl⟩ := p2_args hs2
    obtain ⟨rfl, rfl⟩ := hd.uniq hd2
    exact ⟨_, _, _, _, rfl, rfl, (fun h => by first | (cases h; done) | (have e := of_decide_eq_true g7; rw [<-e]; exact hEA)), oAx, FrX.low hGAx ow⟩
   ·have p7 := g7; try simp only [dd] at p7
    refine s_skip (se_seq (s_seq (s_seq (s_region hP hC (oM ?_)))))
    refine oM ?_
    refine os (x_bin (u := .int .i64 (b - a)) rfl za za (by rw [b_sub, IntWalk.i64_in _ ow])) ?_
    refine os (x_bin (u := .bool true) rfl za (by rfl) (by rw [b_lss, decide_eq_true ow])) ?_
    refine o_done (se_seq ?_)
    refine s_condT za ?_
    refine s_seq (s_region hP hC (oA ?_))
    refine o_done (se_seq ?_)
    refine s_ret ?_
    refine se_seq_ret ?_
    refine se_block_ret ?_
    refine se_seq_ret ?_
    refine se_loop_ret ?_
    refine se_block_ret ?_
    refine se_seq_ret ?_
    refine ⟨.inr rfl, _, (by simp only [Tryz.results53, resA, Tr.get_set, reduceIte, Nat.reduceEqDiff, Nat.reduceAdd, heAx0, heAx1, heAx2, heAx3, heAx9, heAxb, g5, g7] <;> rfl), fun K2 r2 id2 c2 Q2 a2 b2 hs2 hd2 => ?_⟩
    obtain ⟨rfl, rfl, rfl⟩ := p2_args hs2
    obtain ⟨rfl, rfl⟩ := hd.uniq hd2
    exact ⟨_, _, _, _, rfl, rfl, (fun h => by first | (cases h; done) | (have e := of_decide_eq_true g7; rw [<-e]; exact hEA)), oAx, FrX.low hGAx ow⟩
end Go.Proofs.YtmladpbadglecaaGreatDoor
namespace Go.Proofs.YtmladpbadglecaaGreatDoor
open Go.AM
set_option maxRecDepth 100000
set_option maxHeartbeats 1000000
open Go.Sort
set_option maxHeartbeats 16000000
theorem T.s172 : szOf Tryz.prog 172 = some 1 := by kernel_rfl
theorem T.g172 : aggOf Tryz.prog 172 = some false := by kernel_rfl
theorem T.z172 : (Tryz.prog.info? 172).bind (·.zero) = some (.int .u64 0) := by kernel_rfl
noncomputable def callLen : Call' := callK Tryz.prog [57, 35] (tabOf []) 300
theorem csLen : CallSound Tryz.prog callLen := callK_sound Fits pkS (tab_sound tab_end) 300
def bl (n : Nat) : Nat := if n = 0 then 0 else if n < 2 then 1 else if n < 4 then 2 else if n < 8 then 3 else if n < 16 then 4 else if n < 32 then 5 else 6
def eLen' (n : Nat) : Ent := ⟨[.int .u64 n], [], .int .i64 (bl n), []⟩
def ePow' (n : Nat) : Ent := ⟨[.int .i64 n], [], .int .u64 (2 ^ bl n : Nat), []⟩
theorem runsLen : (List.range 41).all (fun n => runE Tryz.prog callLen 400 35 (eLen' n)) = true := by kernel_rfl
theorem runsPow : (List.range 41).all (fun n => runE Tryz.prog callLen 400 86 (ePow' n)) = true := by kernel_rfl
theorem pk86 : progOk Tryz.prog [86] = true := by kernel_rfl
theorem okLen {n : Nat} (h : n <= 40) : EntOk Tryz.prog 35 (eLen' n) := runE_ok Fits pkS csLen (n := 400) (List.all_eq_true.1 runsLen n (List.mem_range.2 ow)) rfl rfl
theorem okPow {n : Nat} (h : n <= 40) : EntOk Tryz.prog 86 (ePow' n) := runE_ok Fits pk86 csLen (n := 400) (List.all_eq_true.1 runsPow n (List.mem_range.2 ow)) rfl rfl
theorem eqI_self (a : Int) : eqI a a = true := by
 cases a <;> simp [eqI]
theorem eqV_int {k : IntKind} {a : Int} : eqV 20 (.int k a) (.int k a) = true := by
 simp [eqV, eqI_self]
theorem ent_int {k k' : IntKind} {a b : Int} {H : AH} : entC [⟨[.int k a], [], .int k' b, []⟩] [.int k a] H = some (.int k' b, H) := by
 show entGo H [.int k a] 0 [] [⟨[.int k a], [], .int k' b, []⟩] = _
 unfold entGo
 rw [if_pos (by simp [eqL, eqV_int])]
 rfl
def R_len : List Value -> AH -> Value -> AH -> Prop := fun args h v h' => h' = h /\ ∃ m : Int, v = .int .i64 m /\ 0 <= m /\ m <= 64
noncomputable def c_len := cEx Tryz.prog 35 R_len
theorem con_len : Con Tryz.prog 35 c_len := con_ex Tryz.func35 rfl
theorem bl_le (n : Nat) : bl n <= 6 := by
 unfold bl
 repeat' split
 all_goals omega
theorem len_c {n : Int} {H : AH} (h0 : 0 <= n) (h1 : n <= 40) : ∃ v h', c_len [.int .u64 n] H = some (v, h') /\ R_len [.int .u64 n] H v h' := by
 obtain ⟨k, rfl⟩ : ∃ k : Nat, n = k := ⟨n.toNat, by omega⟩
 have hm := (con_ents Tryz.func35 rfl (ents_cons (okLen (n := k) ow) ents_nil)).2 [.int .u64 k] H _ _ ent_int
 exact cEx_hit ⟨_, _, hm, rfl, _, rfl, by omega, by have := bl_le k; omega⟩
def R_pow : List Value -> AH -> Value -> AH -> Prop := fun args h v h' => h' = h /\ ∀ n : Int, args = [.int .i64 n] -> 1 <= n -> n <= 40 -> ∃ m : Int, v = .int .u64 m /\ 1 <= m /\ m <= 2 * n /\ m <= 64
noncomputable def c_pow := cEx Tryz.prog 86 R_pow
theorem con_pow : Con Tryz.prog 86 c_pow := con_ex Tryz.func86 rfl
theorem bl_pow : ∀ n, n < 41 -> 1 <= n -> 2 ^ bl n <= 2 * n /\ 2 ^ bl n <= 64 := by decide
theorem pow_c {n : Int} {H : AH} (h0 : 1 <= n) (h1 : n <= 40) : ∃ v h', c_pow [.int .i64 n] H = some (v, h') /\ h' = H /\ ∃ m : Int, v = .int .u64 m /\ 1 <= m /\ m <= 2 * n /\ m <= 64 := by
 obtain ⟨k, rfl⟩ : ∃ k : Nat, n = k := ⟨n.toNat, by omega⟩
 have hm := (con_ents Tryz.func86 rfl (ents_cons (okPow (n := k) ow) ents_nil)).2 [.int .i64 k] H _ _ ent_int
 have hb := bl_pow k ow ow
 have hp : 1 <= 2 ^ bl k := Nat.one_le_two_pow
 obtain ⟨v, h', q, e1, e2⟩ := cEx_hit (R := R_pow) ⟨_, _, hm, rfl, fun n2 hs2 _ _ => ⟨_, rfl, by omega, by simp only [List.cons.injEq, Value.int.injEq, and_true, true_and] at hs2; omega, by omega⟩⟩
 exact ⟨v, h', q, e1, e2 _ rfl h0 h1⟩
section
variable {t : TypeId} {xo yo : Operand} {m n M : Int}
theorem b_shl64 (c : Int) (hc : 0 <= c) : ∃ w, ∀ {t xo yo}, binV Tryz.prog .shl t xo yo (.int .u64 n) (.int .u64 c) = some (.int .u64 w) := by
 have h : ∃ w, keep (quick Tryz.prog (Op.shift .shl .u64 n .u64 c)) = some (.int .u64 w) := by
  unfold Op.shift
  rw [if_neg ow]
  exact ⟨_, rfl⟩
 obtain ⟨w, hw⟩ := h
 exact ⟨w, fun {t xo yo} => hw⟩
theorem b_shr64 (c : Int) (hc : 0 <= c) : ∃ w, ∀ {t xo yo}, binV Tryz.prog .shr t xo yo (.int .u64 n) (.int .u64 c) = some (.int .u64 w) := ⟨_, fun {t xo yo} => b_shr hc⟩
theorem b_xor64 : ∃ w, ∀ {t xo yo}, binV Tryz.prog .xor t xo yo (.int .u64 m) (.int .u64 n) = some (.int .u64 w) := ⟨_, fun {t xo yo} => rfl⟩
theorem and_le (h0 : 1 <= M) (h1 : M <= 64) : ∃ w, (∀ {t xo yo}, binV Tryz.prog .and t xo yo (.int .u64 m) (.int .u64 (M - 1)) = some (.int .u64 w)) /\ 0 <= w /\ w <= M - 1 := by
 have e : ∀ {t xo yo}, binV Tryz.prog .and t xo yo (.int .u64 m) (.int .u64 (M - 1)) = some (.int .u64 (IntKind.u64.wrap ((BitVec.ofInt 64 m &&& BitVec.ofInt 64 (M - 1)).toNat : Int))) := rfl
 refine ⟨_, e, ?_⟩
 have h2 : (BitVec.ofInt 64 (M - 1)).toNat = (M - 1).toNat := by
  rw [BitVec.toNat_ofInt]
  omega
 have h3 : (BitVec.ofInt 64 m &&& BitVec.ofInt 64 (M - 1)).toNat <= (M - 1).toNat := by
  rw [BitVec.toNat_and, h2]
  exact Nat.and_le_right
 rw [show IntKind.u64.wrap ((BitVec.ofInt 64 m &&& BitVec.ofInt 64 (M - 1)).toNat : Int) = ((BitVec.ofInt 64 m &&& BitVec.ofInt 64 (M - 1)).toNat : Int) from IntWalk.u64_in _ ow]
 omega
end
def R_nxt : List Value -> AH -> Value -> AH -> Prop := fun args h v h' => ∀ y (n : Int), args = [.pointer (some ⟨y, 0, none⟩)] -> OwnS h.t y y [.int .u64 n] -> ∃ t' wr', ∃ m : Int, h' = ⟨t', h.next, wr'⟩ /\ v = .int .u64 m /\ OwnS t' y y [.int .u64 m] /\ FrX h.t h.next h.wr t' h.next wr' y 0
noncomputable def c_nxt := cEx Tryz.prog 87 R_nxt
theorem con_nxt : Con Tryz.prog 87 c_nxt := con_ex Tryz.func87 rfl
theorem nxt_c {t : Tr AObj} {K : Nat -> Prop} {nx wr : Nat} {y : Nat} {n : Int} (hw : OwnS t y y [.int .u64 n]) (hx : y < nx) (hN : nx <= BIG) (hwr : wr <= BIG) : ∃ v h', c_nxt [.pointer (some ⟨y, 0, none⟩)] ⟨t, nx, wr⟩ = some (v, h') /\ ∃ t' wr', ∃ m : Int, h' = ⟨t', nx, wr'⟩ /\ v = .int .u64 m /\ OwnS t' y y [.int .u64 m] /\ FrX t nx wr t' nx wr' y 0 := by
 have hP := Fits
 have hC : CallSound Tryz.prog (tabOf []) := tab_sound tab_end
 suffices key : SureK Tryz.prog ⟨t, nx, wr⟩ _ [] _ (EndR Tryz.prog _ (R_nxt [.pointer (some ⟨y, 0, none⟩)] ⟨t, nx, wr⟩)) by
  obtain ⟨v, h', q, x⟩ := sure_start (R := R_nxt) (sz := 33) Tryz.func87 rfl rfl zo key
  exact ⟨v, h', q, x y n rfl hw⟩
 refine s_seq (s_region hP hC (oA ?_))
 refine o_done (se_seq (s_seq ?_))
 refine s_draw hP hC zr ?_
 refine dM ?_
 refine ds (x_nilCheck rfl zt) ?_
 refine ds (x_load1 rfl zt T.g172 (l_all hw.whole rfl)) ?_
 refine dM ?_
 refine ds (x_nilCheck rfl zt) ?_
 refine ds (x_load1 rfl zt T.g172 (l_all hw.whole rfl)) ?_
 obtain ⟨sh1, hsh1⟩ := b_shl64 (n := n) 13 zd
 refine ds (x_bin rfl zt (by rfl) hsh1) ?_
 obtain ⟨xr1, hxr1⟩ := b_xor64 (m := n) (n := sh1)
 refine ds (x_bin rfl zt zt hxr1) ?_
 refine ds (x_nilCheck rfl zt) ?_
 obtain ⟨tS1, oS1, kS1, hS1⟩ := x_storeS (P := Tryz.prog) (T := 172) (nx := nx) (off := 0) (v := .int .u64 xr1) hw rfl T.s172 (by show 0 < 1; decide) rfl
 refine d_stepN (wA_none rfl) rfl (hS1 rfl zt zt) ?_
 refine d_done ⟨de_ok (tail_my (B := 0) (Y := none) (M := [0, 0, 1, 0, 0, 1, 0, 0, 0, 2]) (fw := 0) (my_w (my_op (my_op (my_op (my_q (my_op (my_op (my_q (my_op (my_op my_nil ow) ow) ow) ow) ow) ow) ow) ow) ow) (Nat.zero_le _) (fun y q => by cases q)) zd zr) (by try dsimp only; omega) (by try dsimp only; omega), ?_⟩
 refine se_seq (s_seq ?_)
 refine s_draw hP hC zr ?_
 refine dM ?_
 refine ds (x_nilCheck rfl zt) ?_
 refine ds (x_load1 rfl zt T.g172 (l_all oS1.whole rfl)) ?_
 refine dM ?_
 refine ds (x_nilCheck rfl zt) ?_
 refine ds (x_load1 rfl zt T.g172 (l_all oS1.whole rfl)) ?_
 obtain ⟨sh2, hsh2⟩ := b_shr64 (n := xr1) 7 zd
 refine ds (x_bin rfl zt (by rfl) hsh2) ?_
 obtain ⟨xr2, hxr2⟩ := b_xor64 (m := xr1) (n := sh2)
 refine ds (x_bin rfl zt zt hxr2) ?_
 refine ds (x_nilCheck rfl zt) ?_
 obtain ⟨tS2, oS2, kS2, hS2⟩ := x_storeS (P := Tryz.prog) (T := 172) (nx := nx) (off := 0) (v := .int .u64 xr2) oS1 rfl T.s172 (by show 0 < 1; decide) rfl
 refine d_stepN (wA_none rfl) rfl (hS2 rfl zt zt) ?_
 refine d_done ⟨de_ok (tail_my (B := 0) (Y := none) (M := [0, 0, 1, 0, 0, 1, 0, 0, 0, 2]) (fw := 0) (my_w (my_op (my_op (my_op (my_q (my_op (my_op (my_q (my_op (my_op my_nil ow) ow) ow) ow) ow) ow) ow) ow) ow) (Nat.zero_le _) (fun y q => by cases q)) zd zr) (by try dsimp only; omega) (by try dsimp only; omega), ?_⟩
 refine se_seq (s_seq ?_)
 refine s_draw hP hC zr ?_
 refine dM ?_
 refine ds (x_nilCheck rfl zt) ?_
 refine ds (x_load1 rfl zt T.g172 (l_all oS2.whole rfl)) ?_
 refine dM ?_
 refine ds (x_nilCheck rfl zt) ?_
 refine ds (x_load1 rfl zt T.g172 (l_all oS2.whole rfl)) ?_
 obtain ⟨sh3, hsh3⟩ := b_shl64 (n := xr2) 17 zd
 refine ds (x_bin rfl zt (by rfl) hsh3) ?_
 obtain ⟨xr3, hxr3⟩ := b_xor64 (m := xr2) (n := sh3)
 refine ds (x_bin rfl zt zt hxr3) ?_
 refine ds (x_nilCheck rfl zt) ?_
 obtain ⟨tS3, oS3, kS3, hS3⟩ := x_storeS (P := Tryz.prog) (T := 172) (nx := nx) (off := 0) (v := .int .u64 xr3) oS2 rfl T.s172 (by show 0 < 1; decide) rfl
 refine d_stepN (wA_none rfl) rfl (hS3 rfl zt zt) ?_
 refine d_done ⟨de_ok (tail_my (B := 0) (Y := none) (M := [0, 0, 1, 0, 0, 1, 0, 0, 0, 2]) (fw := 0) (my_w (my_op (my_op (my_op (my_q (my_op (my_op (my_q (my_op (my_op my_nil ow) ow) ow) ow) ow) ow) ow) ow) ow) (Nat.zero_le _) (fun y q => by cases q)) zd zr) (by try dsimp only; omega) (by try dsimp only; omega), ?_⟩
 refine se_seq (s_seq (s_region hP hC (oM ?_)))
 refine os (x_nilCheck rfl zt) ?_
 refine os (x_load1 rfl zt T.g172 (l_all oS3.whole rfl)) ?_
 refine oA ?_
 refine o_done (se_seq ?_)
 refine s_ret ?_
 refine ⟨.inr rfl, _, (by simp only [Tryz.results87, resA, Tr.get_set, reduceIte, Nat.reduceEqDiff, Nat.reduceAdd] <;> rfl), fun y2 n2 hs2 hw2 => ?_⟩
 cases hs2
 exact ⟨_, _, _, rfl, rfl, oS3, ⟨Nat.le_refl _, ozz, zwl, zwh, fun k q1 q2 => (kS3 k q2).trans ((kS2 k q2).trans (kS1 k q2))⟩⟩
def R_bp : List Value -> AH -> Value -> AH -> Prop := fun args h v h' => ∀ K r id c (P : Array Wd) (a b : Int), args = [.slice (some ⟨id, 0, none⟩) P.size c, .int .i64 a, .int .i64 b, CMPV] -> DS h.t K r id P -> ∃ t' nx' wr' P', h' = ⟨t', nx', wr'⟩ /\ PermIn a.toNat b.toNat P P' /\ OwnS t' r id (vals P') /\ FrX h.t h.next h.wr t' nx' wr' r 10
noncomputable def c_bp := cEx Tryz.prog 50 R_bp
theorem con_bp : Con Tryz.prog 50 c_bp := con_ex Tryz.func50 rfl
theorem bp_c {t : Tr AObj} {K : Nat -> Prop} {nx wr : Nat} {r id c : Nat} {P : Array Wd} {a b : Int} (hd : DS t K r id P) (hK : ∀ i, K i -> i < nx /\ i ≠ r) (hr : r < nx) (hid : id < nx) (hz : P.size <= 40) (ha : 0 <= a) (hab : a + 8 <= b) (hb : b <= P.size) (hN : nx + 4000000 <= BIG) (hwr : wr <= BIG) : ∃ v h', c_bp [.slice (some ⟨id, 0, none⟩) P.size c, .int .i64 a, .int .i64 b, CMPV] ⟨t, nx, wr⟩ = some (v, h') /\ ∃ t' nx' wr' P', h' = ⟨t', nx', wr'⟩ /\ PermIn a.toNat b.toNat P P' /\ OwnS t' r id (vals P') /\ FrX t nx wr t' nx' wr' r 10 := by
 have hP := Fits
 have hC : CallSound Tryz.prog (tabOf [(86, c_pow), (87, c_nxt)]) := tab_sound (tab_cons con_pow (tab_cons con_nxt tab_end))
 suffices key : SureK Tryz.prog ⟨t, nx, wr⟩ _ [] _ (EndR Tryz.prog _ (R_bp [.slice (some ⟨id, 0, none⟩) P.size c, .int .i64 a, .int .i64 b, CMPV] ⟨t, nx, wr⟩)) by
  obtain ⟨v, h', q, x⟩ := sure_start (R := R_bp) (sz := 67) Tryz.func50 rfl rfl zo key
  exact ⟨v, h', q, x K r id c P a b rfl hd⟩
 refine s_seq (s_region hP hC (oM ?_))
 refine oM ?_
 refine os (x_bin (u := .int .i64 (b - a)) rfl zt zt (by rw [b_sub, IntWalk.i64_in _ ow])) ?_
 refine oA ?_
 refine o_done (se_seq (s_seq (s_region hP hC (oM ?_))))
 refine os (x_bin (u := .bool true) rfl zt (by rfl) (by rw [b_geq, decide_eq_true ow])) ?_
 refine o_done (se_seq ?_)
 refine s_condT zt ?_
 refine s_seq (s_region hP hC (oM ?_))
 refine os (x_convI rfl zt Tryz.underlying3 Tryz.underlying172) ?_
 refine os (y_alloc rfl T.z172 rfl rfl) ?_
 have hO : OwnS (t.set nx (.row [.int .u64 0] nx BIG false 1)) nx nx [.int .u64 0] := ⟨BIG, 0, .inl ⟨rfl, by rw [gp rfl]; rfl⟩⟩
 obtain ⟨tS0, oS0, kS0, hS0⟩ := x_storeS (P := Tryz.prog) (T := 172) (nx := nx + 1) (off := 0) (v := .int .u64 (IntKind.u64.wrap (b - a))) hO rfl T.s172 (by show 0 < 1; decide) rfl
 refine o_stepN (wA_none rfl) rfl (hS0 rfl zt zt) ?_
 refine o_done (se_seq (s_seq (s_region hP hC (oM ?_))))
 refine o_callR (tab_hitR (pow_c (n := b - a) ow ow)) (wA_none rfl) rfl rfl rfl zv zd (fun v1 h1 hR1 => ?_)
 obtain ⟨rfl, M, rfl, hM1, hM2, hM3⟩ := hR1
 refine oA ?_
 refine o_done (se_seq (s_seq (s_region hP hC (oM ?_))))
 refine oM ?_
 refine os (x_bin (u := .int .i64 ((b - a) / 4)) rfl zt (by rfl) (by rw [b_quo zd, Int.tdiv_eq_ediv_of_nonneg ow, IntWalk.i64_in _ ow])) ?_
 refine os (x_bin (u := .int .i64 (((b - a) / 4) * 2)) rfl zt (by rfl) (by rw [b_mul, IntWalk.i64_in _ ow])) ?_
 refine os (x_bin (u := .int .i64 (a + ((b - a) / 4) * 2)) rfl zt zt (by rw [b_add, IntWalk.i64_in _ ow])) ?_
 refine os (x_bin (u := .int .i64 (a + ((b - a) / 4) * 2 - 1)) rfl zt (by rfl) (by rw [b_sub, IntWalk.i64_in _ ow])) ?_
 refine oA ?_
 refine o_done (se_seq (s_block ?_))
 refine s_loop (α := Int) (fun i s' => ∃ e tA wqA, ∃ A : Array Wd, ∃ m : Int, s' = ⟨e, 67, ⟨tA, nx + 1, wqA⟩⟩ /\ e.get 0 = some (.slice (some ⟨id, 0, none⟩) P.size c) /\ e.get 1 = some (.int .i64 (a)) /\ e.get 8 = some (.int .i64 ((b - a))) /\ e.get 9 = some (.pointer (some ⟨nx, 0, none⟩)) /\ e.get 10 = some (.int .u64 M) /\ e.get 11 = some (.int .i64 (i)) /\ a + ((b - a) / 4) * 2 - 1 <= i /\ i <= a + ((b - a) / 4) * 2 + 2 /\ PermIn a.toNat b.toNat P A /\ OwnS tA nx nx [.int .u64 m] /\ OwnS tA r id (vals A) /\ FrX t nx wr tA (nx + 1) wqA r 2) (fun i => (a + ((b - a) / 4) * 2 + 5 - i).toNat) (a + ((b - a) / 4) * 2 - 1) ⟨_, _, _, P, _, rfl, hg, hg, hg, hg, hg, hg, by omega, by omega, permIn_refl .., oS0, hd.own.keep (Eq.trans (kS0 id ow) (by rw [gn ow])) (Eq.trans (kS0 r ow) (by rw [gn ow])), ⟨by omega, by omega, zwl, zwh, fun k q1 q2 => (kS0 k ow).trans (by rw [gn ow])⟩⟩ ?_
 clear oS0 kS0 hS0 hO
 rintro i s' ⟨e, tA, wqA, A, m, rfl, heA0, heA1, heA8, heA9, heA10, heA11, i0, i1, hPA, oMq, oAq, hGA⟩
 have hAs := hPA.1
 have kkA := perm_kept hPA ow
 have gcA := hGA.wlo
 have gdA := hGA.whi
 have dA := hd.step (P' := A) oAq hGA.same hK kkA.2
 refine s_seq (s_seq (s_region hP hC (oM ?_)))
 refine oM ?_
 refine oM ?_
 refine os (x_bin (u := .int .i64 ((b - a) / 4)) rfl za (by rfl) (by rw [b_quo zd, Int.tdiv_eq_ediv_of_nonneg ow, IntWalk.i64_in _ ow])) ?_
 refine os (x_bin (u := .int .i64 (((b - a) / 4) * 2)) rfl za (by rfl) (by rw [b_mul, IntWalk.i64_in _ ow])) ?_
 refine os (x_bin (u := .int .i64 (a + ((b - a) / 4) * 2)) rfl za za (by rw [b_add, IntWalk.i64_in _ ow])) ?_
 refine os (x_bin (u := .int .i64 (a + ((b - a) / 4) * 2 + 1)) rfl za (by rfl) (by rw [b_add, IntWalk.i64_in _ ow])) ?_
 refine os (x_bin rfl za za b_leq) ?_
 refine o_done (se_seq ?_)
 refine s_cond za (fun g2 => ?_) (fun g2 => ?_)
 ·have p2 := g2; try simp only [dd] at p2
  refine s_skip (se_seq (s_seq (s_block (s_seq (s_region hP hC ?_)))))
  refine o_callR (tab_missR zd (tab_hitR (nxt_c (K := K) (y := nx) (n := m) oMq ow ow ow))) (wA_none rfl) rfl rfl rfl ze zd (fun v2 h2 hR2 => ?_)
  obtain ⟨tN, wN, w, rfl, rfl, oN, fN⟩ := hR2
  have fl := fN.wlo
  have fh := fN.whi
  have oD := oAq.keep (t' := tN) (fN.same _ ow ow) (fN.same _ ow ow)
  obtain ⟨u, hu, hu0, hu1⟩ := and_le (m := w) hM1 hM3
  refine oM ?_
  refine os (x_bin (u := .int .u64 (M - 1)) rfl za (by rfl) (by rw [b_sub, IntWalk.u64_in _ ow])) ?_
  refine os (x_bin rfl za za hu) ?_
  refine os ((x_convI rfl za Tryz.underlying72 Tryz.underlying3).trans (by rw [IntWalk.i64_in _ ow])) ?_
  refine oA ?_
  refine o_done (se_seq (s_seq (s_seq (s_region hP hC (oM ?_)))))
  refine oM ?_
  refine os (x_bin rfl za za b_geq) ?_
  refine o_done (se_seq ?_)
  refine s_join (fun s' => ∃ e wqB, ∃ o : Int, s' = ⟨e, 67, ⟨tN, nx + 1, wqB⟩⟩ /\ e.get 0 = some (.slice (some ⟨id, 0, none⟩) P.size c) /\ e.get 1 = some (.int .i64 (a)) /\ e.get 8 = some (.int .i64 ((b - a))) /\ e.get 9 = some (.pointer (some ⟨nx, 0, none⟩)) /\ e.get 10 = some (.int .u64 M) /\ e.get 11 = some (.int .i64 (i)) /\ e.get 12 = some (.int .i64 (o)) /\ 0 <= o /\ o < b - a /\ min wqA nx <= wqB /\ wqB <= wqA) ?_ ?_
  ·skip
   refine s_cond za (fun g4 => ?_) (fun g4 => ?_)
   ·have p4 := g4; try simp only [dd] at p4
    refine s_region hP hC (oM ?_)
    refine oM ?_
    refine os (x_bin (u := .int .i64 (u - (b - a))) rfl za za (by rw [b_sub, IntWalk.i64_in _ ow])) ?_
    refine oA ?_
    refine o_done ?_
    refine se_loop ?_
    exact ⟨_, _, _, rfl, za, za, za, za, za, za, za, by omega, by omega, by omega, by omega⟩
   ·have p4 := g4; try simp only [dd] at p4
    refine s_skip ?_
    refine se_loop ?_
    exact ⟨_, _, _, rfl, za, za, za, za, za, za, za, by omega, by omega, by omega, by omega⟩
  ·skip
   rintro s' ⟨e, wqB, o, rfl, heB0, heB1, heB8, heB9, heB10, heB11, heB12, o0, o1, b0, b1⟩
   have gB : FrX t nx wr tN (nx + 1) wqB r 2 := ⟨by omega, by omega, by omega, by omega, fun k q1 q2 => (fN.same k ow ow).trans (hGA.same k q1 q2)⟩
   have dB := hd.step (P' := A) oD gB.same hK kkA.2
   refine s_draw hP hC zr ?_
   refine dM ?_
   refine dM ?_
   refine dM ?_
   refine dM ?_
   refine dM ?_
   refine ds (x_bin (u := .int .i64 (a + o)) rfl za za (by rw [b_add, IntWalk.i64_in _ ow])) ?_
   refine dM ?_
   refine dM ?_
   refine dM ?_
   refine ds (x_bin (u := .int .i64 (a + o)) rfl za za (by rw [b_add, IntWalk.i64_in _ ow])) ?_
   refine ds (x_index rfl za za u38 T.s22 ow ow) ?_
   refine ds (x_load1 rfl za T.g22 (l_vals oD.whole ow ow)) ?_
   refine dM ?_
   refine dM ?_
   refine ds (x_index rfl za za u38 T.s22 ow ow) ?_
   refine ds (x_load1 rfl za T.g22 (l_vals oD.whole ow ow)) ?_
   refine ds (x_index rfl za za u38 T.s22 ow ow) ?_
   have sv65 := (dB.iv _ (mem_at (P := A) (i := (a + o).toNat) ow)).1
   obtain ⟨tS65, oS65, kS65, hS65⟩ := x_storeS (P := Tryz.prog) (T := 22) (nx := (nx + 1)) (off := 0 + (i).toNat * 1) oD (one_cells sv65.one) T.s22 (by first | (rw [vals_len]; omega) | (rw [List.length_set, vals_len]; omega)) sv65.one
   refine d_stepN (wA_none rfl) rfl (hS65 rfl za za) ?_
   refine ds (x_index rfl za za u38 T.s22 ow ow) ?_
   have sv66 := (dB.iv _ (mem_at (P := A) (i := (i).toNat) ow)).1
   obtain ⟨tS66, oS66, kS66, hS66⟩ := x_storeS (P := Tryz.prog) (T := 22) (nx := (nx + 1)) (off := 0 + (a + o).toNat * 1) oS65 (one_cells sv66.one) T.s22 (by first | (rw [vals_len]; omega) | (rw [List.length_set, vals_len]; omega)) sv66.one
   refine d_stepN (wA_none rfl) rfl (hS66 rfl za za) ?_
   refine d_done ⟨de_ok (tail_my (B := 0) (Y := none) (M := [0, 0, 0, 0, 0, 0, 0, 0, 0, 0, 0, 1, 0, 0, 0, 1, 0, 2, 0, 2]) (fw := 0) (my_w (my_op (my_w (my_op (my_q (my_op (my_op (my_op (my_q (my_op (my_op (my_op (my_op (my_op (my_op (my_op (my_op (my_op (my_op (my_op my_nil ow) ow) ow) ow) ow) ow) ow) ow) ow) ow) ow) ow) ow) ow) ow) ow) ow) (Nat.zero_le _) (fun y q => by cases q)) ow) (Nat.zero_le _) (fun y q => by cases q)) zd zr) (by try dsimp only; omega) (by try dsimp only; omega), ?_⟩
   refine se_block (se_seq (s_region hP hC (oM ?_)))
   refine os (x_bin rfl za (by rfl) b_add) ?_
   refine oA ?_
   refine o_done ?_
   refine se_loop ?_
   have hw1 : IntKind.i64.wrap (i + 1) = i + 1 := IntWalk.i64_in _ ow
   have hsp := swp_permIn A a.toNat b.toNat i.toNat (a + o).toNat ow ow ow ow ow
   exact ⟨i + 1, ⟨_, _, _, swp A i.toNat (a + o).toNat, _, rfl, za, za, za, za, za, (by simp only [Tr.get_set, reduceIte, Nat.reduceEqDiff, Nat.reduceAdd, hw1, heB0, heB1, heB8, heB9, heB10, heB11, heB12] <;> rfl), by omega, by omega, permIn_trans _ _ _ _ _ hPA hsp, oN.keep ((kS66 nx ow).trans (kS65 nx ow)) ((kS66 nx ow).trans (kS65 nx ow)), by rw [vals_swp ow ow]; rw [Nat.zero_add, Nat.mul_one, Nat.zero_add, Nat.mul_one] at oS66; exact oS66, ⟨by omega, by omega, ozz, ozz, fun k q1 q2 => (kS66 k q2).trans ((kS65 k q2).trans (gB.same k q1 q2))⟩⟩, by omega⟩
 ·have p2 := g2; try simp only [dd] at p2
  refine s_exit ?_
  refine se_seq_exit ?_
  refine se_loop_exit ?_
  refine se_block_eq ?_
  refine ⟨.inl rfl, _, (by simp only [Tryz.results50, resA, Tr.get_set, reduceIte, Nat.reduceEqDiff, Nat.reduceAdd, heA0, heA1, heA8, heA9, heA10, heA11, g2] <;> rfl), fun K2 r2 id2 c2 Q2 a2 b2 hs2 hd2 => ?_⟩
  obtain ⟨rfl, rfl, rfl⟩ := p2_args hs2
  obtain ⟨rfl, rfl⟩ := hd.uniq hd2
  exact ⟨_, _, _, _, rfl, hPA, oAq, hGA.low ow⟩
end Go.Proofs.YtmladpbadglecaaGreatDoor
