/-
  Int of package wire.
-/
import Derived.Test.YtfgmplbclpadbaaGreatDoorMLh
import Derived.Test.YtfgmplbclpadbaaGreatDoorMA3
set_option linter.unusedSimpArgs false
set_option linter.unusedVariables false
namespace Go.Proofs.YtfgmplbclpadbaaGreatDoor
open Go.AM
set_option maxRecDepth 100000
set_option maxHeartbeats 1000000
def WPost (bs : List Int) (k : Nat) (t : Tr AObj) (nx wr : Nat) (v : Value) (h' : AH) : Prop := ∃ t' nx' wr', h' = ⟨t', nx', wr'⟩ /\ Fr t nx wr t' nx' wr' k /\ ∃ S, AccW t' nx nx' S v bs
def shD (n j : Int) : Int := mag n / 256 ^ j.toNat
def fN (n : Int) : Int := if n < 0 then 255 else 0
theorem fN_or (n : Int) : fN n = 0 \/ fN n = 255 := by unfold fN; split <;> simp
theorem flip_sgnN (n d : Int) : flipB (fN n) d = sgn n d := by
 unfold flipB fN sgn
 by_cases h : n < 0
 ·simp only [if_pos h]; rfl
 ·simp only [if_neg h]; rfl
theorem flip_hdN (n : Int) : flipB (fN n) (128 + (dg n).length) = hd1 n := by
 unfold flipB fN hd1
 by_cases h : n < 0
 ·simp only [if_pos h]; rw [if_neg zd]; omega
 ·simp only [if_neg h]; rfl
theorem magN {n : Int} (h : n < 0) (hn : inR n) : mag n = 18446744073709551615 - n % 18446744073709551616 := by
 unfold inR at hn
 unfold mag
 rw [if_pos h]; omega
theorem magP {n : Int} (h : 0 <= n) (hn : inR n) : mag n = n % 18446744073709551616 := by
 unfold inR at hn
 unfold mag
 rw [if_neg ow]; omega
theorem digs_at : ∀ (j m : Nat), (digs m).getD j 0 = ((m / 256 ^ j % 256 : Nat) : Int)
 | j, 0 => by rw [digs_0, Nat.zero_div]; rfl
 | 0, m + 1 => by rw [digs_pos ow, Nat.pow_zero, Nat.div_one]; rfl
 | j + 1, m + 1 => by
  rw [digs_pos ow, List.getD_cons_succ, digs_at j, Nat.div_div_eq_div_mul, Nat.pow_succ, Nat.mul_comm]
theorem digs_lt : ∀ (n m : Nat), m <= n -> m < 256 ^ (digs m).length
 | n, 0, _ => by rw [digs_0]; decide
 | 0, m + 1, h => by omega
 | n + 1, m + 1, h => by
  have ih := digs_lt n ((m + 1) / 256) ow
  rw [digs_pos ow, List.length_cons, Nat.pow_succ]
  exact (Nat.div_lt_iff_lt_mul zd).1 ih
theorem shD_nat {n j : Int} (h : 0 <= mag n) : shD n j = (((mag n).toNat / 256 ^ j.toNat : Nat) : Int) := by
 unfold shD
 rw [Int.natCast_ediv, Int.toNat_of_nonneg h, Int.natCast_pow]
 rfl
theorem sh_ith {n i : Int} (h : 0 <= mag n) : IntKind.u8.wrap (shD n i) = ith (dg n) i := by
 have e : IntKind.u8.wrap (shD n i) = shD n i % 256 := by
  unfold IntKind.wrap
  simp only [IntKind.signed, Bool.false_and, Bool.false_eq_true, if_false, IntKind.bits]
  rfl
 rw [e, shD_nat h]
 unfold ith dg
 rw [digs_at]
 rfl
theorem dg_stop {n k : Int} (hm : 0 <= mag n) (h0 : 0 <= k) (h1 : (dg n).length <= k) (h2 : k = 0 \/ 0 < shD n (k - 1)) : ((dg n).length : Int) = k := by
 rcases h2 with h2 | h2
 ·omega
 ·by_cases hk : k = 0
  ·omega
  ·by_cases hl : ((dg n).length : Int) = k
   ·exact hl
   ·exfalso
    have a := digs_lt _ (mag n).toNat (Nat.le_refl _)
    have b : (256 : Nat) ^ (digs (mag n).toNat).length <= 256 ^ (k - 1).toNat := Nat.pow_le_pow_right zd (by unfold dg at h1 hl; omega)
    rw [shD_nat hm, Nat.div_eq_of_lt ow] at h2
    omega
theorem dg_go {n k : Int} (hm : 0 <= mag n) (h0 : 0 < k) (h2 : ¬ 0 < shD n (k - 1)) : ((dg n).length : Int) <= k - 1 := by
 rw [shD_nat hm] at h2
 have : (mag n).toNat < 256 ^ (k - 1).toNat := by
  by_cases q : (mag n).toNat < 256 ^ (k - 1).toNat
  ·exact q
  ·have := Nat.div_pos (Nat.le_of_not_lt q) (Nat.pow_pos (n := (k - 1).toNat) (by decide : 0 < 256))
   omega
 have := digs_len _ _ this
 unfold dg
 omega
section
variable {P : Program} {t : TypeId} {xo yo : Operand} {j n : Int}
theorem b_mul8 (h0 : 0 <= j) (h1 : j <= 100) : binV P .mul t xo yo (.int .i64 8) (.int .i64 j) = some (.int .i64 (8 * j)) := by
 rw [b_mul, IntWalk.i64_in _ ow]
theorem b_shr8 (h : 0 <= mag n) (h0 : 0 <= j) (h1 : j <= 7) : binV P .shr t xo yo (.int .u64 (mag n)) (.int .i64 (8 * j)) = some (.int .u64 (shD n j)) := by
 rw [b_shr ow]
 have e : min (8 * j).toNat IntKind.u64.bits = 8 * j.toNat := by
  show min (8 * j).toNat 64 = _
  omega
 have e2 : (2 : Int) ^ (8 * j.toNat) = 256 ^ j.toNat := by rw [Int.pow_mul]; rfl
 rw [e, e2]
 unfold shD
 rw [Int.fdiv_eq_ediv_of_nonneg _ (Int.le_of_lt (Int.pow_pos zd))]
theorem x_convU {call : Call'} {e : Tr Value} {h : AH} {o : Oper} {S T : TypeId} {x : Operand} {u : TypeDesc} (ho : o.op = .convert S T x) (hx : ev e x = some (.int .i64 n)) (hs : P.underlying S = some u) (hd : P.underlying T = some (.int .u64)) : doOp P call e h o = some (.int .u64 (n % 18446744073709551616), h) := by
 have := x_convI (call := call) (h := h) ho hx hs hd
 rwa [wrap64] at this
theorem x_convD {call : Call'} {e : Tr Value} {h : AH} {o : Oper} {S T : TypeId} {x : Operand} {u : TypeDesc} {i : Int} (hm : 0 <= mag n) (ho : o.op = .convert S T x) (hx : ev e x = some (.int .u64 (shD n i))) (hs : P.underlying S = some u) (hd : P.underlying T = some (.int .u8)) : doOp P call e h o = some (.int .u8 (ith (dg n) i), h) := by
 have := x_convI (call := call) (h := h) ho hx hs hd
 rwa [sh_ith hm] at this
end
def R_wint : List Value -> AH -> Value -> AH -> Prop := fun args h v h' => ∀ n, args = [.int .i64 n] -> WPost (encI n) 60 h.t h.next h.wr v h'
noncomputable def c_wint := cEx Tryz.prog 69 R_wint
theorem con_wint : Con Tryz.prog 69 c_wint := con_ex Tryz.func69 rfl
set_option maxHeartbeats 4000000
theorem wint_c {t : Tr AObj} {nx wr : Nat} {n : Int} (hn : inR n) (hB : nx + 100 <= BIG) (hwr : wr <= BIG) : ∃ v h', c_wint [.int .i64 n] ⟨t, nx, wr⟩ = some (v, h') /\ WPost (encI n) 60 t nx wr v h' := by
 have hP := Fits
 have hC : CallSound Tryz.prog (tabOf []) := tab_sound tab_end
 have hm := mag_rng hn
 have hdl := dg_len hn
 have hdB := dg_byt n
 have hn' : -9223372036854775808 <= n /\ n <= 9223372036854775807 := hn
 suffices key : SureK Tryz.prog ⟨t, nx, wr⟩ _ [] _ (EndR Tryz.prog _ (R_wint [.int .i64 n] ⟨t, nx, wr⟩)) by
  obtain ⟨v, h', a, b⟩ := sure_start (R := R_wint) (sz := 47) Tryz.func69 rfl rfl zo key
  exact ⟨v, h', a, b n rfl⟩
 refine s_seq (s_region hP hC (oA ?_))
 refine o_done (se_seq ?_)
 refine s_scope ?_
 refine s_seq (s_region hP hC (oM ?_))
 refine os (x_convU rfl zt u3 Tryz.underlying228) ?_
 refine oA ?_
 refine oA ?_
 refine o_done (se_seq (s_seq (s_seq (s_region hP hC (oM ?_)))))
 refine os (x_bin rfl zt (by rfl) b_lss) ?_
 refine o_done (se_seq ?_)
 refine s_join (fun s => ∃ e, s = ⟨e, 47, ⟨t, nx, wr⟩⟩ /\ e.get 0 = some (.int .i64 n) /\ e.get 3 = some (.int .u64 (mag n)) /\ e.get 4 = some (.int .u8 (fN n))) ?_ ?_
 ·skip
  refine s_cond zt (fun g2 => ?_) (fun g2 => ?_)
  ·have p2 := g2; try simp only [dd] at p2
   refine s_region hP hC (oM ?_)
   refine os (x_not64 rfl zt ow ow) ?_
   refine oA ?_
   refine oA ?_
   refine o_done ?_
   refine se_loop ?_
   exact ⟨_, rfl, zh, by (first | rw [magN (n := n) ow hn] | rw [magP (n := n) ow hn]); simp only [Tr.get_set, reduceIte, Nat.reduceEqDiff, Nat.reduceAdd, g2] <;> rfl, by rw [show fN n = _ from by unfold fN; first | exact if_pos ow | exact if_neg ow]; simp only [Tr.get_set, reduceIte, Nat.reduceEqDiff, Nat.reduceAdd, g2] <;> rfl⟩
  ·have p2 := g2; try simp only [dd] at p2
   refine s_skip ?_
   refine se_loop ?_
   exact ⟨_, rfl, zh, by (first | rw [magN (n := n) ow hn] | rw [magP (n := n) ow hn]); simp only [Tr.get_set, reduceIte, Nat.reduceEqDiff, Nat.reduceAdd, g2] <;> rfl, by rw [show fN n = _ from by unfold fN; first | exact if_pos ow | exact if_neg ow]; simp only [Tr.get_set, reduceIte, Nat.reduceEqDiff, Nat.reduceAdd, g2] <;> rfl⟩
 ·skip
  rintro s ⟨e, rfl, hea0, hea3, hea4⟩
  refine s_seq (s_region hP hC (oA ?_))
  refine o_done (se_seq (s_seq ?_))
  refine s_label ?_
  refine se_seq (s_seq ?_)
  refine s_join (fun s => ∃ e, s = ⟨e, 47, ⟨t, nx, wr⟩⟩ /\ e.get 0 = some (.int .i64 n) /\ e.get 3 = some (.int .u64 (mag n)) /\ e.get 4 = some (.int .u8 (fN n)) /\ e.get 5 = some (.int .i64 (dg n).length)) ?_ ?_
  ·skip
   refine s_block ?_
   refine s_loop (α := Int) (fun k s => ∃ e, s = ⟨e, 47, ⟨t, nx, wr⟩⟩ /\ e.get 0 = some (.int .i64 n) /\ e.get 3 = some (.int .u64 (mag n)) /\ e.get 4 = some (.int .u8 (fN n)) /\ e.get 5 = some (.int .i64 k) /\ 0 <= k /\ k <= 8 /\ ((dg n).length : Int) <= k) (fun k => k.toNat) 8 ⟨_, rfl, za, za, za, za, by omega, by omega, by omega⟩ ?_
   rintro k s ⟨e, rfl, heb0, heb3, heb4, heb5, k0, k1, k2⟩
   refine s_seq (s_seq (s_region hP hC (oM ?_)))
   refine os (x_bin rfl za (by rfl) b_gtr) ?_
   refine o_done (se_seq ?_)
   refine s_cond za (fun g4 => ?_) (fun g4 => ?_)
   ·have p4 := g4; try simp only [dd] at p4
    refine s_skip (se_seq (s_block (s_seq (s_seq (s_region hP hC (oM ?_))))))
    refine oM ?_
    refine os (x_bin rfl za (by rfl) (b_subR ow)) ?_
    refine os (x_bin rfl (by rfl) za (b_mul8 ow ow)) ?_
    refine os (x_bin rfl za za (b_shr8 hm.1 ow ow)) ?_
    refine os (x_bin rfl za (by rfl) b_gtr) ?_
    refine o_done (se_seq ?_)
    refine s_cond za (fun g6 => ?_) (fun g6 => ?_)
    ·have p6 := g6; try simp only [dd] at p6
     refine s_exit ?_
     refine se_seq_exit ?_
     refine se_block_ne zd ?_
     refine se_loop_exit ?_
     refine se_block_eq ?_
     refine se_loop ?_
     exact ⟨_, rfl, za, za, za, by rw [dg_stop hm.1 k0 k2 (by first | exact .inl ow | exact .inr ow)]; simp only [Tr.get_set, reduceIte, Nat.reduceEqDiff, Nat.reduceAdd, heb0, heb3, heb4, heb5, g4, g6] <;> rfl⟩
    ·have p6 := g6; try simp only [dd] at p6
     refine s_skip (se_seq (s_region hP hC (oM ?_)))
     refine os (x_bin rfl za (by rfl) (b_subR ow)) ?_
     refine oA ?_
     refine o_done (se_block ?_)
     refine se_loop ?_
     refine ⟨k - 1, ⟨_, rfl, za, za, za, za, by omega, by omega, dg_go hm.1 ow ow⟩, by omega⟩
   ·have p4 := g4; try simp only [dd] at p4
    refine s_exit ?_
    refine se_seq_exit ?_
    refine se_loop_exit ?_
    refine se_block_eq ?_
    refine se_loop ?_
    exact ⟨_, rfl, za, za, za, by rw [dg_stop hm.1 k0 k2 (by first | exact .inl ow | exact .inr ow)]; simp only [Tr.get_set, reduceIte, Nat.reduceEqDiff, Nat.reduceAdd, heb0, heb3, heb4, heb5, g4] <;> rfl⟩
  ·skip
   rintro s ⟨e, rfl, hec0, hec3, hec4, hec5⟩
   refine s_seq (s_region hP hC (oM ?_))
   refine os (x_bin rfl (by rfl) za (b_addR ow)) ?_
   refine os (x_convTo8 rfl za u3 u5 ow) ?_
   refine oM ?_
   refine os (x_bin rfl za za (b_xor8 ow (fN_or n))) ?_
   refine os (y_bsliceV rfl za rfl u23 T.s5 T.z5 rfl rfl) ?_
   refine oA ?_
   refine o_done (se_seq (s_seq (s_seq (s_region hP hC (oM ?_)))))
   refine os (x_bin rfl za (by rfl) (b_subR ow)) ?_
   refine oA ?_
   refine o_done (se_seq (s_block ?_))
   refine s_loop (α := Int) (fun i s => ∃ w e t3 nx3 wr3 S3, s = ⟨e, 47, ⟨t3, nx3, wr3⟩⟩ /\ e.get 0 = some (.int .i64 n) /\ e.get 3 = some (.int .u64 (mag n)) /\ e.get 4 = some (.int .u8 (fN n)) /\ e.get 6 = some (w) /\ e.get 7 = some (.int .i64 i) /\ -1 <= i /\ i < (dg n).length /\ AccW t3 nx nx3 S3 w (outL n i) /\ nx <= nx3 /\ (nx3 : Int) <= nx + 1 + 2 * ((dg n).length - i) /\ min wr nx <= wr3 /\ wr3 <= wr /\ (∀ id, id < nx -> t3.get id = t.get id)) (fun i => (i + 1).toNat) ((dg n).length - 1) ⟨_, _, _, _, _, _, rfl, za, za, za, za, za, by omega, by omega, by rw [out_start, <-flip_hdN]; exact accw_one (by rw [gp rfl]) (Nat.le_refl _) (Nat.lt_succ_self _), by omega, by omega, by omega, by omega, fun id hid => by (repeat (first | rw [gn ow])) <;> first | rfl | assumption | (rw [gp ow]; done) | (rw [gp ow]; rfl)⟩ ?_
   rintro i s ⟨w, e, t3, nx3, wr3, S3, rfl, hed0, hed3, hed4, hed6, hed7, i0, i1, aC, n30, n31, w30, w31, hx3⟩
   have noC := aC.no
   have hol := out_len i0 i1
   refine s_seq (s_seq (s_region hP hC (oM ?_)))
   refine os (x_bin rfl za (by rfl) b_geq) ?_
   refine o_done (se_seq ?_)
   refine s_cond za (fun g8 => ?_) (fun g8 => ?_)
   ·have p8 := g8; try simp only [dd] at p8
    refine s_skip (se_seq (s_seq (s_block (s_region hP hC (oM ?_)))))
    refine oM ?_
    refine oM ?_
    refine os (x_bin rfl (by rfl) za (b_mul8 ow ow)) ?_
    refine os (x_bin rfl za za (b_shr8 hm.1 ow ow)) ?_
    have hdi := byt_ith hdB (i := i) ow ow
    refine os (x_convD hm.1 rfl za Tryz.underlying228 u5) ?_
    refine oM ?_
    refine os (x_bin rfl za za (b_xor8 hdi (fN_or n))) ?_
    refine os (y_bsliceV rfl za rfl u23 T.s5 T.z5 rfl rfl) ?_
    refine o_appW aC (cells_row (cs := bys [flipB (fN n) (ith (dg n) i)]) u23 T.s5 (l_all (whole_row (by rw [gp rfl] <;> rfl) rfl) rfl)) (wA_none rfl) rfl rfl rfl ze rfl rfl zr u23 T.i23 zd ow (fun x q => by have := aC.bnd x q; rw [gn ow]) ow (by rw [show ([flipB (fN n) (ith (dg n) i)] : List Int).length = 1 from rfl]; omega) (fun v1 t1 nx1 wz1 S1 hA1 => ?_)
    have qa1 := hA1.le
    have qb1 := hA1.hi
    have qc1 := hA1.wlo
    have qd1 := hA1.whi
    have ac1 := hA1.acc
    refine oA ?_
    refine o_done (se_block (se_seq (s_region hP hC (oM ?_))))
    refine os (x_bin rfl za (by rfl) (b_subR ow)) ?_
    refine oA ?_
    refine o_done ?_
    refine se_loop ?_
    refine ⟨i - 1, ⟨v1, _, _, _, _, _, rfl, za, za, za, za, za, by omega, by omega, by rw [out_next ow i1, <-flip_sgnN]; exact ac1, by omega, by omega, by omega, by omega, fun id hid => by (repeat (first | rw [gn ow] | rw [hA1.same _ (noC _ ow) ow] | rw [hx3 _ ow])) <;> first | rfl | assumption | (rw [gp ow]; done) | (rw [gp ow]; rfl)⟩, by omega⟩
   ·have p8 := g8; try simp only [dd] at p8
    refine s_exit ?_
    refine se_seq_exit ?_
    refine se_loop_exit ?_
    refine se_block_eq (se_seq (s_seq (s_region hP hC (oM ?_))))
    refine oA ?_
    refine o_done (se_seq ?_)
    refine s_ret ?_
    refine ⟨.inr rfl, _, (by simp only [Tryz.results69, resA, Tr.get_set, reduceIte, Nat.reduceEqDiff, Nat.reduceAdd, hed0, hed3, hed4, hed6, hed7, g8] <;> rfl), fun n' hn' => ?_⟩
    cases hn'
    have hi : i = -1 := by omega
    subst hi
    rw [out_all] at aC
    exact ⟨_, _, _, rfl, ⟨by show nx <= nx3; omega, by show nx3 <= nx + 60; omega, by show min wr nx <= wr3; omega, by show wr3 <= wr; omega, fun id (hid : id < nx) => hx3 id hid⟩, _, aC⟩
end Go.Proofs.YtfgmplbclpadbaaGreatDoor
namespace Go.Proofs.YtfgmplbclpadbaaGreatDoor
open Go.AM
set_option maxRecDepth 100000
set_option maxHeartbeats 1000000
set_option maxHeartbeats 8000000
theorem cells_str {P : Program} {h : AH} {T : TypeId} (s : ByteArray) : cellsV P h T (.string s) = some ((sB s).length, bys (sB s)) := by
 rw [sB_len, <-sB_row]
 rfl
theorem ABw.fr {t00 t t' : Tr AObj} {n00 w00 nx wr nx' wr' n0 k : Nat} {S S' : Nat -> Prop} {v' : Value} {L M : List Int} (h : ABw t nx wr n0 S L M v' t' nx' wr' S') (hF : Fr t00 n00 w00 t nx wr k) (hn : n00 <= n0) (hS : ∀ x, S x -> n0 <= x) : Fr t00 n00 w00 t' nx' wr' (k + 1) := by
 have a := h.le; have b := h.hi; have c := h.wlo; have d := h.whi
 have a1 := hF.le; have b1 := hF.hi; have c1 := hF.wlo; have d1 := hF.whi
 exact ⟨by omega, by omega, by omega, by omega, fun i hi => (h.same i (fun q => by have := hS i q; omega) ow).trans (hF.same i hi)⟩
def R_wbytes : List Value -> AH -> Value -> AH -> Prop := fun args h v h' => ∀ s, args = [.string s] -> WPost (bytesB s) (62) h.t h.next h.wr v h'
noncomputable def c_wbytes := cEx Tryz.prog 46 R_wbytes
theorem con_wbytes : Con Tryz.prog 46 c_wbytes := con_ex Tryz.func46 rfl
theorem wbytes_c {t : Tr AObj} {nx wr : Nat} {s : ByteArray} (hs : s.size <= 1000000000) (hN : nx + (62) + 100 <= BIG) (hwr : wr <= BIG) : ∃ v h', c_wbytes [.string s] ⟨t, nx, wr⟩ = some (v, h') /\ WPost (bytesB s) (62) t nx wr v h' := by
 have hP := Fits
 have hC : CallSound Tryz.prog (tabOf [(69, c_wint)]) := tab_sound (tab_cons con_wint tab_end)
 have hF0 : Fr t nx wr t nx wr 0 := Fr.refl
 have hsl := sB_len s
 have hin : inR (s.size : Int) := by unfold inR; omega
 have hel := encI_len hin
 have hss : cellsV Tryz.prog = cellsV Tryz.prog := rfl
 suffices key : SureK Tryz.prog ⟨t, nx, wr⟩ _ [] _ (EndR Tryz.prog _ (R_wbytes [.string s] ⟨t, nx, wr⟩)) by
  obtain ⟨v, h', q, c⟩ := sure_start (R := R_wbytes) (sz := 8) Tryz.func46 rfl rfl zo key
  exact ⟨v, h', q, c s rfl⟩
 refine s_seq (s_region hP hC (oA ?_))
 refine o_done (se_seq (s_seq (s_region hP hC (oM ?_))))
 refine os (x_lenT rfl rfl zv rfl u9) ?_
 refine o_callR (tab_hitR (wint_c hin ow ow)) (wA_none rfl) rfl rfl rfl zv zd (fun v1 h1 hR1 => ?_)
 obtain ⟨t1, nx1, wz1, rfl, hf1, S1, ac1⟩ := hR1
 have qa1 := hf1.le
 have qb1 : nx1 <= nx + 60 := hf1.hi
 have qc1 := hf1.wlo
 have qd1 := hf1.whi
 have hF2 : Fr t nx wr _ _ _ (0 + 60) := Fr.trans hF0 hf1 (Nat.le_refl _)
 refine oM ?_
 refine o_appW ac1 (cells_str s) (wA_none rfl) rfl rfl rfl zv rfl rfl zr u23 T.i23 zd ow (fun x q => rfl) ow ow (fun v3 t3 nx3 wz3 S3 hA3 => ?_)
 have qa3 := hA3.le
 have qb3 := hA3.hi
 have qc3 := hA3.wlo
 have qd3 := hA3.whi
 have ac3 := hA3.acc
 have hF4 : Fr t nx wr _ _ _ (0 + 60 + 1) := ABw.fr hA3 hF2 ow (fun x q => (ac1.bnd x q).1)
 refine oA ?_
 refine o_done (se_seq ?_)
 refine s_ret ?_
 refine ⟨.inr rfl, _, (by simp only [Tryz.results46, resA, Tr.get_set, reduceIte, Nat.reduceEqDiff, Nat.reduceAdd] <;> rfl), fun s2 hs2 => ?_⟩
 cases hs2
 exact ⟨_, _, _, rfl, Fr.low hF4 ow, _, AccW.low' ac3 (Nat.le_refl _)⟩
def R_wints : List Value -> AH -> Value -> AH -> Prop := fun args h v h' => ∀ l s, args = [s] -> LV h.t h.next 1 s l.length (ints l) -> WPost (intsB l) (62 * l.length + 70) h.t h.next h.wr v h'
noncomputable def c_wints := cEx Tryz.prog 70 R_wints
theorem con_wints : Con Tryz.prog 70 c_wints := con_ex Tryz.func70 rfl
theorem wints_c {t : Tr AObj} {nx wr : Nat} {s : Value} {l : List Int} (hrd : LV t nx 1 s l.length (ints l)) (hel : ∀ x ∈ l, inR x) (hlen : (intsB l).length <= 10000000) (hN : nx + (62 * l.length + 70) + 100 <= BIG) (hwr : wr <= BIG) : ∃ v h', c_wints [s] ⟨t, nx, wr⟩ = some (v, h') /\ WPost (intsB l) (62 * l.length + 70) t nx wr v h' := by
 have hP := Fits
 have hC : CallSound Tryz.prog (tabOf [(69, c_wint)]) := tab_sound (tab_cons con_wint tab_end)
 have hF0 : Fr t nx wr t nx wr 0 := Fr.refl
 have hle : ∀ i, (encP encI l i).length <= 10000000 := fun i => Nat.le_trans encP_le hlen
 have hll : l.length <= 10000000 := Nat.le_trans (ints_len l) hlen
 have hin : inR (l.length : Int) := by unfold inR; omega
 suffices key : SureK Tryz.prog ⟨t, nx, wr⟩ _ [] _ (EndR Tryz.prog _ (R_wints [s] ⟨t, nx, wr⟩)) by
  obtain ⟨v, h', q, c⟩ := sure_start (R := R_wints) (sz := 21) Tryz.func70 rfl rfl zo key
  exact ⟨v, h', q, c l s rfl hrd⟩
 refine s_seq (s_region hP hC (oA ?_))
 refine o_done (se_seq (s_seq (s_region hP hC (oM ?_))))
 refine os (x_lenL hrd rfl rfl zv rfl u22) ?_
 refine o_callR (tab_hitR (wint_c hin ow ow)) (wA_none rfl) rfl rfl rfl zv zd (fun v1 h1 hR1 => ?_)
 obtain ⟨t1, nx1, wz1, rfl, hf1, S1, ac1⟩ := hR1
 have qa1 := hf1.le
 have qb1 : nx1 <= nx + 60 := hf1.hi
 have qc1 := hf1.wlo
 have qd1 := hf1.whi
 have hF2 : Fr t nx wr _ _ _ (0 + 60) := Fr.trans hF0 hf1 (Nat.le_refl _)
 refine oA ?_
 refine o_done (se_seq (s_seq (s_seq (s_region hP hC (oM ?_)))))
 refine os (x_lenL hrd rfl rfl zv rfl u22) ?_
 refine os (x_move rfl (by rfl)) ?_
 refine o_done (se_seq (s_block ?_))
 refine s_loop (α := Int) (fun i s' => ∃ v e t1 nx1 wq1 S, s' = ⟨e, 21, ⟨t1, nx1, wq1⟩⟩ /\ e.get 0 = some (s) /\ e.get 9 = some (s) /\ e.get 10 = some (.int .i64 l.length) /\ e.get 3 = some (v) /\ e.get 11 = some (.int .i64 i) /\ 0 <= i /\ i <= l.length /\ AccW t1 nx nx1 S v (encP encI l i.toNat) /\ Fr t nx wr t1 nx1 wq1 (62 * i.toNat + 60)) (fun i => (l.length - i).toNat) 0 ⟨_, _, _, _, _, _, rfl, (by (repeat (first | rw [gn ow] | rw [hf1.same _ ow])) <;> first | rfl | assumption | (rw [gp ow]; done) | (rw [gp ow]; rfl)), (by (repeat (first | rw [gn ow] | rw [hf1.same _ ow])) <;> first | rfl | assumption | (rw [gp ow]; done) | (rw [gp ow]; rfl)), (by (repeat (first | rw [gn ow] | rw [hf1.same _ ow])) <;> first | rfl | assumption | (rw [gp ow]; done) | (rw [gp ow]; rfl)), (by (repeat (first | rw [gn ow] | rw [hf1.same _ ow])) <;> first | rfl | assumption | (rw [gp ow]; done) | (rw [gp ow]; rfl)), (by (repeat (first | rw [gn ow] | rw [hf1.same _ ow])) <;> first | rfl | assumption | (rw [gp ow]; done) | (rw [gp ow]; rfl)), by omega, by omega, by rw [Int.toNat_zero, encP_0]; exact ac1, Fr.low hF2 ow⟩ ?_
 rintro i s' ⟨v, e, t1, nx1, wq1, S, rfl, heb0, heb9, heb10, heb3, heb11, i0, i1, aA, hG⟩
 have g1 := hG.le
 have g2 := hG.hi
 have g3 := hG.wlo
 have g4 := hG.whi
 refine s_seq (s_region hP hC ?_)
 refine os (x_bin rfl za za b_lss) ?_
 refine o_done (se_seq (s_seq ?_))
 refine s_cond za (fun g2 => ?_) (fun g2 => ?_)
 ·have p2 := g2; try simp only [dd] at p2
  refine s_skip (se_seq (s_seq (s_block (s_seq (s_region hP hC ?_)))))
  obtain ⟨idD, roD, cpD, rfl, oD, oD1, oD2⟩ := hrd.own ow
  have hi1 : i.toNat < l.length := by omega
  have hnx := encP_next (f := encI) hi1
  have hnl := congrArg List.length hnx
  have hl1 := hle (i.toNat + 1)
  rw [List.length_append] at hnl
  have hei : inR (ith l i) := hel _ (ith_mem i0 ow)
  refine os (x_index rfl za za u22 T.s3 ow ow) ?_
  refine os (x_load1 rfl za T.g3 (l_ints ((oD.keep (hG.same _ ow) (hG.same _ ow)).whole) i0 ow)) ?_
  refine oA ?_
  refine o_done (se_seq (s_region hP hC (oM ?_)))
  refine oM ?_
  refine o_callR (tab_hitR (wint_c (n := ith l i) hei ow ow)) (wA_none rfl) rfl rfl rfl ze zd (fun v3 h3 hR3 => ?_)
  obtain ⟨t3, nx3, wz3, rfl, hf3, S3, ac3⟩ := hR3
  have qa3 := hf3.le
  have qb3 : nx3 <= nx1 + 60 := hf3.hi
  have qc3 := hf3.wlo
  have qd3 := hf3.whi
  have hF4 : Fr t nx wr _ _ _ (62 * i.toNat + 60 + 60) := Fr.trans hG hf3 (Nat.le_refl _)
  refine o_appW aA (ac3.cells (fun _ _ => rfl) u23 T.s5) (wA_none rfl) rfl rfl rfl ze rfl rfl zr u23 T.i23 zd ow (fun x q => hf3.same x (by have := aA.bnd x q; omega)) ow (by rw [ith_eq i0 ow]; omega) (fun v5 t5 nx5 wz5 S5 hA5 => ?_)
  have qa5 := hA5.le
  have qb5 := hA5.hi
  have qc5 := hA5.wlo
  have qd5 := hA5.whi
  have ac5 := hA5.acc
  have hF6 : Fr t nx wr _ _ _ (62 * i.toNat + 60 + 60 + 1) := ABw.fr hA5 hF4 ow (fun x q => (aA.bnd x q).1)
  refine oA ?_
  refine o_done (se_block (se_seq (s_region hP hC ?_)))
  refine os (x_bin rfl za (by rfl) b_add) ?_
  refine oM ?_
  refine o_done ?_
  refine se_loop ?_
  have hw1 : IntKind.i64.wrap (i + 1) = i + 1 := wr1 ow ow
  have e1 : (i + 1).toNat = i.toNat + 1 := by omega
  refine ⟨i + 1, ⟨v5, _, _, _, _, _, rfl, za, za, za, za, (by simp only [Tr.get_set, reduceIte, Nat.reduceEqDiff, Nat.reduceAdd, hw1, heb0, heb9, heb10, heb3, heb11, g2] <;> rfl), by omega, by omega, by rw [e1, encP_next hi1, <-ith_eq i0 ow]; exact ac5, Fr.low hF6 (by rw [e1]; omega)⟩, by omega⟩
 ·have p2 := g2; try simp only [dd] at p2
  refine s_exit ?_
  refine se_seq_exit ?_
  refine se_loop_exit ?_
  refine se_block_eq (se_seq (s_seq (s_region hP hC (oM ?_))))
  refine oA ?_
  refine o_done (se_seq ?_)
  refine s_ret ?_
  refine ⟨.inr rfl, _, (by simp only [Tryz.results70, resA, Tr.get_set, reduceIte, Nat.reduceEqDiff, Nat.reduceAdd, heb0, heb9, heb10, heb3, heb11, g2] <;> rfl), fun l2 s2 hs2 hr2 => ?_⟩
  cases hs2
  obtain rfl : l2 = l := ints_inj' (hrd.uniq hr2).2
  have hil : i.toNat = l2.length := by omega
  rw [hil] at hG
  rw [encP_all ow] at aA
  exact ⟨_, _, _, rfl, Fr.low hG ow, _, aA⟩
def R_wstrs : List Value -> AH -> Value -> AH -> Prop := fun args h v h' => ∀ l s, args = [s] -> LV h.t h.next 1 s l.length (strC l) -> WPost (strsB l) (64 * l.length + 70) h.t h.next h.wr v h'
noncomputable def c_wstrs := cEx Tryz.prog 72 R_wstrs
theorem con_wstrs : Con Tryz.prog 72 c_wstrs := con_ex Tryz.func72 rfl
theorem wstrs_c {t : Tr AObj} {nx wr : Nat} {s : Value} {l : List ByteArray} (hrd : LV t nx 1 s l.length (strC l)) (hel : ∀ x ∈ l, x.size <= 1000000000) (hlen : (strsB l).length <= 10000000) (hN : nx + (64 * l.length + 70) + 100 <= BIG) (hwr : wr <= BIG) : ∃ v h', c_wstrs [s] ⟨t, nx, wr⟩ = some (v, h') /\ WPost (strsB l) (64 * l.length + 70) t nx wr v h' := by
 have hP := Fits
 have hC : CallSound Tryz.prog (tabOf [(69, c_wint), (46, c_wbytes)]) := tab_sound (tab_cons con_wint (tab_cons con_wbytes tab_end))
 have hF0 : Fr t nx wr t nx wr 0 := Fr.refl
 have hle : ∀ i, (encP bytesB l i).length <= 10000000 := fun i => Nat.le_trans encP_le hlen
 have hll : l.length <= 10000000 := Nat.le_trans (strs_len l) hlen
 have hin : inR (l.length : Int) := by unfold inR; omega
 suffices key : SureK Tryz.prog ⟨t, nx, wr⟩ _ [] _ (EndR Tryz.prog _ (R_wstrs [s] ⟨t, nx, wr⟩)) by
  obtain ⟨v, h', q, c⟩ := sure_start (R := R_wstrs) (sz := 21) Tryz.func72 rfl rfl zo key
  exact ⟨v, h', q, c l s rfl hrd⟩
 refine s_seq (s_region hP hC (oA ?_))
 refine o_done (se_seq (s_seq (s_region hP hC (oM ?_))))
 refine os (x_lenL hrd rfl rfl zv rfl u55) ?_
 refine o_callR (tab_hitR (wint_c hin ow ow)) (wA_none rfl) rfl rfl rfl zv zd (fun v1 h1 hR1 => ?_)
 obtain ⟨t1, nx1, wz1, rfl, hf1, S1, ac1⟩ := hR1
 have qa1 := hf1.le
 have qb1 : nx1 <= nx + 60 := hf1.hi
 have qc1 := hf1.wlo
 have qd1 := hf1.whi
 have hF2 : Fr t nx wr _ _ _ (0 + 60) := Fr.trans hF0 hf1 (Nat.le_refl _)
 refine oA ?_
 refine o_done (se_seq (s_seq (s_seq (s_region hP hC (oM ?_)))))
 refine os (x_lenL hrd rfl rfl zv rfl u55) ?_
 refine os (x_move rfl (by rfl)) ?_
 refine o_done (se_seq (s_block ?_))
 refine s_loop (α := Int) (fun i s' => ∃ v e t1 nx1 wq1 S, s' = ⟨e, 21, ⟨t1, nx1, wq1⟩⟩ /\ e.get 0 = some (s) /\ e.get 9 = some (s) /\ e.get 10 = some (.int .i64 l.length) /\ e.get 3 = some (v) /\ e.get 11 = some (.int .i64 i) /\ 0 <= i /\ i <= l.length /\ AccW t1 nx nx1 S v (encP bytesB l i.toNat) /\ Fr t nx wr t1 nx1 wq1 (64 * i.toNat + 60)) (fun i => (l.length - i).toNat) 0 ⟨_, _, _, _, _, _, rfl, (by (repeat (first | rw [gn ow] | rw [hf1.same _ ow])) <;> first | rfl | assumption | (rw [gp ow]; done) | (rw [gp ow]; rfl)), (by (repeat (first | rw [gn ow] | rw [hf1.same _ ow])) <;> first | rfl | assumption | (rw [gp ow]; done) | (rw [gp ow]; rfl)), (by (repeat (first | rw [gn ow] | rw [hf1.same _ ow])) <;> first | rfl | assumption | (rw [gp ow]; done) | (rw [gp ow]; rfl)), (by (repeat (first | rw [gn ow] | rw [hf1.same _ ow])) <;> first | rfl | assumption | (rw [gp ow]; done) | (rw [gp ow]; rfl)), (by (repeat (first | rw [gn ow] | rw [hf1.same _ ow])) <;> first | rfl | assumption | (rw [gp ow]; done) | (rw [gp ow]; rfl)), by omega, by omega, by rw [Int.toNat_zero, encP_0]; exact ac1, Fr.low hF2 ow⟩ ?_
 rintro i s' ⟨v, e, t1, nx1, wq1, S, rfl, heb0, heb9, heb10, heb3, heb11, i0, i1, aA, hG⟩
 have g1 := hG.le
 have g2 := hG.hi
 have g3 := hG.wlo
 have g4 := hG.whi
 refine s_seq (s_region hP hC ?_)
 refine os (x_bin rfl za za b_lss) ?_
 refine o_done (se_seq (s_seq ?_))
 refine s_cond za (fun g2 => ?_) (fun g2 => ?_)
 ·have p2 := g2; try simp only [dd] at p2
  refine s_skip (se_seq (s_seq (s_block (s_seq (s_region hP hC ?_)))))
  obtain ⟨idD, roD, cpD, rfl, oD, oD1, oD2⟩ := hrd.own ow
  have hi1 : i.toNat < l.length := by omega
  have hnx := encP_next (f := bytesB) hi1
  have hnl := congrArg List.length hnx
  have hl1 := hle (i.toNat + 1)
  rw [List.length_append] at hnl
  have hes : l[i.toNat].size <= 1000000000 := hel _ (List.getElem_mem hi1)
  refine os (x_index rfl za za u55 T.s9 ow ow) ?_
  refine os (x_load1 rfl za T.g9 ((l_nth ((oD.keep (hG.same _ ow) (hG.same _ ow)).whole) (by unfold strC; rw [List.length_map]; exact hi1)).trans (by unfold strC; rw [List.getElem_map]))) ?_
  refine oA ?_
  refine o_done (se_seq (s_region hP hC (oM ?_)))
  refine oM ?_
  refine o_callR (tab_missR zd (tab_hitR (wbytes_c (s := l[i.toNat]) hes ow ow))) (wA_none rfl) rfl rfl rfl ze zd (fun v3 h3 hR3 => ?_)
  obtain ⟨t3, nx3, wz3, rfl, hf3, S3, ac3⟩ := hR3
  have qa3 := hf3.le
  have qb3 : nx3 <= nx1 + 62 := hf3.hi
  have qc3 := hf3.wlo
  have qd3 := hf3.whi
  have hF4 : Fr t nx wr _ _ _ (64 * i.toNat + 60 + 62) := Fr.trans hG hf3 (Nat.le_refl _)
  refine o_appW aA (ac3.cells (fun _ _ => rfl) u23 T.s5) (wA_none rfl) rfl rfl rfl ze rfl rfl zr u23 T.i23 zd ow (fun x q => hf3.same x (by have := aA.bnd x q; omega)) ow ow (fun v5 t5 nx5 wz5 S5 hA5 => ?_)
  have qa5 := hA5.le
  have qb5 := hA5.hi
  have qc5 := hA5.wlo
  have qd5 := hA5.whi
  have ac5 := hA5.acc
  have hF6 : Fr t nx wr _ _ _ (64 * i.toNat + 60 + 62 + 1) := ABw.fr hA5 hF4 ow (fun x q => (aA.bnd x q).1)
  refine oA ?_
  refine o_done (se_block (se_seq (s_region hP hC ?_)))
  refine os (x_bin rfl za (by rfl) b_add) ?_
  refine oM ?_
  refine o_done ?_
  refine se_loop ?_
  have hw1 : IntKind.i64.wrap (i + 1) = i + 1 := wr1 ow ow
  have e1 : (i + 1).toNat = i.toNat + 1 := by omega
  refine ⟨i + 1, ⟨v5, _, _, _, _, _, rfl, za, za, za, za, (by simp only [Tr.get_set, reduceIte, Nat.reduceEqDiff, Nat.reduceAdd, hw1, heb0, heb9, heb10, heb3, heb11, g2] <;> rfl), by omega, by omega, by rw [e1, encP_next hi1]; exact ac5, Fr.low hF6 (by rw [e1]; omega)⟩, by omega⟩
 ·have p2 := g2; try simp only [dd] at p2
  refine s_exit ?_
  refine se_seq_exit ?_
  refine se_loop_exit ?_
  refine se_block_eq (se_seq (s_seq (s_region hP hC (oM ?_))))
  refine oA ?_
  refine o_done (se_seq ?_)
  refine s_ret ?_
  refine ⟨.inr rfl, _, (by simp only [Tryz.results72, resA, Tr.get_set, reduceIte, Nat.reduceEqDiff, Nat.reduceAdd, heb0, heb9, heb10, heb3, heb11, g2] <;> rfl), fun l2 s2 hs2 hr2 => ?_⟩
  cases hs2
  obtain rfl : l2 = l := strC_inj (hrd.uniq hr2).2
  have hil : i.toNat = l2.length := by omega
  rw [hil] at hG
  rw [encP_all ow] at aA
  exact ⟨_, _, _, rfl, Fr.low hG ow, _, aA⟩
end Go.Proofs.YtfgmplbclpadbaaGreatDoor
namespace Go.Proofs.YtfgmplbclpadbaaGreatDoor
open Go.AM
set_option maxRecDepth 100000
set_option maxHeartbeats 1000000
set_option maxHeartbeats 8000000
theorem x_sliceP16 {P : Program} {call : Call'} {e : Tr Value} {h : AH} {o : Oper} {T el : TypeId} {x : Operand} {id : Nat} (ho : o.op = .slice T x none none none) (hx : ev e x = some (.pointer (some ⟨id, 0, none⟩))) (hu : P.underlying T = some (.array 16 el)) (hz : szOf P el = some 1) : doOp P call e h o = some (.slice (some ⟨id, 0, none⟩) 16 16, h) := by
 rw [do_op (by rw [ho]; simp), ho]
 simp only [aop, hx, evO, sliceV, hu, hz, sliceG, nat?]
 rfl
theorem take16 {l : List Int} {i : Int} (h0 : 0 <= i) (n : Int) : encI n ++ l.take (16 * (i + 1)).toNat = (encI n ++ l.take (16 * i).toNat) ++ (l.drop (16 * i).toNat).take 16 := by
 rw [show (16 * (i + 1)).toNat = (16 * i).toNat + 16 by omega, List.take_add, List.append_assoc]
theorem Fr.own {t00 t t' : Tr AObj} {n00 w00 nx wr nx' wr' k : Nat} (hF : Fr t00 n00 w00 t nx wr k) (h1 : nx <= nx') (h2 : nx' <= nx + 1) (h3 : wr' = Min.min wr nx) (hs : ∀ i, i < nx -> t'.get i = t.get i) : Fr t00 n00 w00 t' nx' wr' (k + 1) := by
 have a1 := hF.le; have b1 := hF.hi; have c1 := hF.wlo; have d1 := hF.whi
 exact ⟨by omega, by omega, by omega, by omega, fun i hi => (hs i ow).trans (hF.same i hi)⟩
def R_wdigs : List Value -> AH -> Value -> AH -> Prop := fun args h v h' => ∀ l n s, args = [s] -> LV h.t h.next 16 s n (bys l) -> WPost (encI n ++ l) (62 * n + 70) h.t h.next h.wr v h'
noncomputable def c_wdigs := cEx Tryz.prog 71 R_wdigs
theorem con_wdigs : Con Tryz.prog 71 c_wdigs := con_ex Tryz.func71 rfl
theorem wdigs_c {t : Tr AObj} {nx wr : Nat} {s : Value} {l : List Int} {n : Nat} (hrd : LV t nx 16 s n (bys l)) (hn : n <= 100000) (hN : nx + (62 * n + 70) + 100 <= BIG) (hwr : wr <= BIG) : ∃ v h', c_wdigs [s] ⟨t, nx, wr⟩ = some (v, h') /\ WPost (encI n ++ l) (62 * n + 70) t nx wr v h' := by
 have hP := Fits
 have hC : CallSound Tryz.prog (tabOf [(69, c_wint)]) := tab_sound (tab_cons con_wint tab_end)
 have hF0 : Fr t nx wr t nx wr 0 := Fr.refl
 have hin : inR (n : Int) := by unfold inR; omega
 have hen := encI_len hin
 have hll : l.length = n * 16 := by
  rcases hrd with ⟨q1, q2, _⟩ | ⟨_, q, _⟩
  ·rw [q1, bys_inj (b := []) q2]; rfl
  ·rw [bys_len] at q; exact q
 suffices key : SureK Tryz.prog ⟨t, nx, wr⟩ _ [] _ (EndR Tryz.prog _ (R_wdigs [s] ⟨t, nx, wr⟩)) by
  obtain ⟨v, h', q, c⟩ := sure_start (R := R_wdigs) (sz := 20) Tryz.func71 rfl rfl zo key
  exact ⟨v, h', q, c l n s rfl hrd⟩
 refine s_seq (s_region hP hC (oA ?_))
 refine o_done (se_seq (s_seq (s_region hP hC (oM ?_))))
 refine os (x_lenL hrd rfl rfl zv rfl u42) ?_
 refine o_callR (tab_hitR (wint_c hin ow ow)) (wA_none rfl) rfl rfl rfl zv zd (fun v1 h1 hR1 => ?_)
 obtain ⟨t1, nx1, wz1, rfl, hf1, S1, ac1⟩ := hR1
 have qa1 := hf1.le
 have qb1 : nx1 <= nx + 60 := hf1.hi
 have qc1 := hf1.wlo
 have qd1 := hf1.whi
 have hF2 : Fr t nx wr _ _ _ (0 + 60) := Fr.trans hF0 hf1 (Nat.le_refl _)
 refine oA ?_
 refine o_done (se_seq (s_seq (s_seq (s_region hP hC (oM ?_)))))
 refine os (x_lenL hrd rfl rfl zv rfl u42) ?_
 refine os (x_move rfl (by rfl)) ?_
 refine o_done (se_seq (s_block ?_))
 refine s_loop (α := Int) (fun i s' => ∃ v e t1 nx1 wq1 S, s' = ⟨e, 20, ⟨t1, nx1, wq1⟩⟩ /\ e.get 0 = some (s) /\ e.get 9 = some (s) /\ e.get 10 = some (.int .i64 n) /\ e.get 3 = some (v) /\ e.get 11 = some (.int .i64 i) /\ 0 <= i /\ i <= n /\ AccW t1 nx nx1 S v (encI n ++ l.take (16 * i).toNat) /\ Fr t nx wr t1 nx1 wq1 (62 * i.toNat + 60)) (fun i => (n - i).toNat) 0 ⟨_, _, _, _, _, _, rfl, (by (repeat (first | rw [gn ow] | rw [hf1.same _ ow])) <;> first | rfl | assumption | (rw [gp ow]; done) | (rw [gp ow]; rfl)), (by (repeat (first | rw [gn ow] | rw [hf1.same _ ow])) <;> first | rfl | assumption | (rw [gp ow]; done) | (rw [gp ow]; rfl)), (by (repeat (first | rw [gn ow] | rw [hf1.same _ ow])) <;> first | rfl | assumption | (rw [gp ow]; done) | (rw [gp ow]; rfl)), (by (repeat (first | rw [gn ow] | rw [hf1.same _ ow])) <;> first | rfl | assumption | (rw [gp ow]; done) | (rw [gp ow]; rfl)), (by (repeat (first | rw [gn ow] | rw [hf1.same _ ow])) <;> first | rfl | assumption | (rw [gp ow]; done) | (rw [gp ow]; rfl)), by omega, by omega, by rw [Int.mul_zero, Int.toNat_zero, List.take_zero, List.append_nil]; exact ac1, Fr.low hF2 ow⟩ ?_
 rintro i s' ⟨v, e, t1, nx1, wq1, S, rfl, heb0, heb9, heb10, heb3, heb11, i0, i1, aA, hG⟩
 have g1 := hG.le
 have g2 := hG.hi
 have g3 := hG.wlo
 have g4 := hG.whi
 refine s_seq (s_region hP hC ?_)
 refine os (x_bin rfl za za b_lss) ?_
 refine o_done (se_seq (s_seq ?_))
 refine s_cond za (fun g2 => ?_) (fun g2 => ?_)
 ·have p2 := g2; try simp only [dd] at p2
  refine s_skip (se_seq (s_seq (s_block (s_seq (s_region hP hC ?_)))))
  obtain ⟨idD, roD, cpD, rfl, oD, oD1, oD2⟩ := hrd.own ow
  have hM : ((l.drop (16 * i).toNat).take 16).length = 16 := by rw [List.length_take, List.length_drop]; omega
  have hMb := bys_len ((l.drop (16 * i).toNat).take 16)
  have hlt : (encI n ++ l.take (16 * i).toNat).length <= 9 + 1600000 := by rw [List.length_append, List.length_take]; omega
  have hko : 0 + i.toNat * 16 = (16 * i).toNat := by omega
  refine os (x_index rfl za za u42 T.s25 ow ow) ?_
  refine os (x_loadA rfl za T.g25 T.s25 (show loadC _ _ _ _ = some (bys ((l.drop (16 * i).toNat).take 16)) from by rw [hko, bys_take, bys_drop]; exact l_whole ((oD.keep (hG.same _ ow) (hG.same _ ow)).whole) _ 16 (by rw [bys_len]; omega))) ?_
  refine os (y_alloc rfl T.z25 rfl rfl) ?_
  refine o_stepN (wA_none rfl) rfl (y_storeA rfl za za T.s25 (by rw [hMb, hM]) (by rw [gp rfl] <;> rfl) rfl rfl (bys_one _)) ?_
  refine o_done (se_seq (s_region hP hC (oM ?_)))
  refine os (x_sliceP16 rfl za u25 T.s5) ?_
  refine o_appW aA (show cellsV _ _ _ (.slice (some ⟨nx1, 0, none⟩) 16 16) = some (((l.drop (16 * i).toNat).take 16).length, bys ((l.drop (16 * i).toNat).take 16)) from by rw [hM]; exact cells_row u23 T.s5 (l_all (whole_row (by rw [gp rfl]) rfl) (by rw [hMb, hM]))) (wA_none rfl) rfl rfl rfl ze rfl rfl zr u23 T.i23 zd ow (fun x q => by have := aA.bnd x q; rw [gn ow, gn ow]) ow ow (fun v3 t3 nx3 wz3 S3 hA3 => ?_)
  have qa3 := hA3.le
  have qb3 := hA3.hi
  have qc3 := hA3.wlo
  have qd3 := hA3.whi
  have ac3 := hA3.acc
  have hF4 : Fr t nx wr _ _ _ (62 * i.toNat + 60 + 1 + 1) := ABw.fr hA3 (Fr.own hG (Nat.le_succ _) (Nat.le_refl _) rfl (fun i hi => by rw [gn ow, gn ow])) ow (fun x q => (aA.bnd x q).1)
  refine oA ?_
  refine o_done (se_block (se_seq (s_region hP hC ?_)))
  refine os (x_bin rfl za (by rfl) b_add) ?_
  refine oM ?_
  refine o_done ?_
  refine se_loop ?_
  have hw1 : IntKind.i64.wrap (i + 1) = i + 1 := wr1 ow ow
  refine ⟨i + 1, ⟨v3, _, _, _, _, _, rfl, za, za, za, za, (by simp only [Tr.get_set, reduceIte, Nat.reduceEqDiff, Nat.reduceAdd, hw1, heb0, heb9, heb10, heb3, heb11, g2] <;> rfl), by omega, by omega, by rw [take16 i0]; exact ac3, Fr.low hF4 ow⟩, by omega⟩
 ·have p2 := g2; try simp only [dd] at p2
  refine s_exit ?_
  refine se_seq_exit ?_
  refine se_loop_exit ?_
  refine se_block_eq (se_seq (s_seq (s_region hP hC (oM ?_))))
  refine oA ?_
  refine o_done (se_seq ?_)
  refine s_ret ?_
  refine ⟨.inr rfl, _, (by simp only [Tryz.results71, resA, Tr.get_set, reduceIte, Nat.reduceEqDiff, Nat.reduceAdd, heb0, heb9, heb10, heb3, heb11, g2] <;> rfl), fun l2 n2 s2 hs2 hr2 => ?_⟩
  cases hs2
  have hq := hrd.uniq hr2
  obtain rfl : n2 = n := hq.1
  obtain rfl : l2 = l := bys_inj hq.2
  have hil : i.toNat = n2 := by omega
  have hi6 : (16 * i).toNat = l2.length := by omega
  rw [hil] at hG
  rw [hi6, List.take_length] at aA
  exact ⟨_, _, _, rfl, Fr.low hG ow, _, aA⟩
end Go.Proofs.YtfgmplbclpadbaaGreatDoor
namespace Go.Proofs.YtfgmplbclpadbaaGreatDoor
open Go.AM
set_option maxRecDepth 100000
set_option maxHeartbeats 1000000
set_option maxHeartbeats 8000000
theorem T.s20 : szOf Tryz.prog 20 = some 1 := by kernel_rfl
theorem T.g20 : aggOf Tryz.prog 20 = some false := by kernel_rfl
section
variable {P : Program} {call : Call'} {e : Tr Value} {h : AH} {o : Oper} {st T T' : TypeId} {x : Operand} {v z : Value} {u : TypeDesc}
theorem x_iface (ho : o.op = .makeInterface T x) (hx : ev e x = some v) (hu : P.underlying T = some u) (hn : ∀ ms, u ≠ .interface ms) : doOp P call e h o = some (.iface T v, h) := by
 rw [do_op (by rw [ho]; simp), ho]
 cases u with
 | interface ms => exact absurd rfl (hn ms)
 | _ => simp only [aop, hx, hu]
theorem x_assertY (ho : o.op = .typeAssert x st T true) (hx : ev e x = some (.iface T v)) (hu : P.underlying T = some u) (hn : ∀ ms, u ≠ .interface ms) : doOp P call e h o = some (.tuple ⟨[v, .bool true]⟩, h) := by
 rw [do_op (by rw [ho]; simp), ho]
 cases u with
 | interface ms => exact absurd rfl (hn ms)
 | _ => simp only [aop, hx, assertV, hu, if_true, Option.map_some]
theorem x_assertN (ho : o.op = .typeAssert x st T true) (hx : ev e x = some (.iface T' v)) (hne : T' ≠ T) (hz : (P.info? T).bind (·.zero) = some z) (hf : free1 z = true) (hu : P.underlying T = some u) (hn : ∀ ms, u ≠ .interface ms) : doOp P call e h o = some (.tuple ⟨[z, .bool false]⟩, h) := by
 rw [do_op (by rw [ho]; simp), ho]
 cases u with
 | interface ms => exact absurd rfl (hn ms)
 | _ => simp only [aop, hx, assertV, hu, if_neg hne, if_true, hz, hf, Option.map_some]
end
theorem LV.keep {t t' : Tr AObj} {nx nx' k n : Nat} {v : Value} {d : List Value} (h : LV t nx k v n d) (hn : nx <= nx') (hk : ∀ i, i < nx -> t'.get i = t.get i) : LV t' nx' k v n d := by
 rcases h with h | ⟨h0, hd, id, r, c, h1, h2, h3, h4⟩
 ·exact .inl h
 ·exact .inr ⟨h0, hd, id, r, c, h1, h2.keep (hk _ h4) (hk _ h3), by omega, by omega⟩
theorem Fr.ownN {t00 t t' : Tr AObj} {n00 w00 nx wr nx' wr' k : Nat} (m : Nat) (hF : Fr t00 n00 w00 t nx wr k) (h1 : nx <= nx') (h2 : nx' <= nx + m) (h3 : Min.min wr nx <= wr') (h4 : wr' <= wr) (hs : ∀ i, i < nx -> t'.get i = t.get i) : Fr t00 n00 w00 t' nx' wr' (k + m) := by
 have a1 := hF.le; have b1 := hF.hi; have c1 := hF.wlo; have d1 := hF.whi
 exact ⟨by omega, by omega, by omega, by omega, fun i hi => (hs i ow).trans (hF.same i hi)⟩
inductive Pt where
 | nums (s : Value) (l : List Int)
 | dig (d : List Int)
 | txt (s : ByteArray)
def Pt.V : Pt -> Value
 | .nums s _ => .iface 22 s
 | .dig d => .iface 25 (.agg ⟨bys d⟩)
 | .txt s => .iface 9 (.string s)
def Pt.B : Pt -> List Int
 | .nums _ l => intsB l
 | .dig d => encI (1 : Nat) ++ d
 | .txt s => strsB [s]
def Pt.Ok (t : Tr AObj) (nx : Nat) : Pt -> Prop
 | .nums s l => LV t nx 1 s l.length (ints l) /\ (∀ x ∈ l, inR x) /\ l.length <= 5
 | .dig d => d.length = 16
 | .txt s => s.size <= 1500000
theorem Pt.uniq {t : Tr AObj} {nx nx' : Nat} {p q : Pt} (h : p.V = q.V) (hp : p.Ok t nx) (hq : q.Ok t nx') : p.B = q.B := by
 cases p <;> cases q <;> simp only [Pt.V, Value.iface.injEq, Value.string.injEq, Value.agg.injEq, Array.mk.injEq, true_and] at h
 ·subst h
  have := (hp.1.uniq hq.1).2
  show intsB _ = intsB _
  rw [ints_inj' this]
 ·exact absurd h.1 zd
 ·exact absurd h.1 zd
 ·exact absurd h.1 zd
 ·show encI _ ++ _ = encI _ ++ _
  rw [bys_inj h]
 ·exact absurd h.1 zd
 ·exact absurd h.1 zd
 ·exact absurd h.1 zd
 ·subst h; rfl
theorem parts_uniq {t : Tr AObj} {nx nx' : Nat} : ∀ {ps qs : List Pt}, ps.map Pt.V = qs.map Pt.V -> (∀ p ∈ ps, p.Ok t nx) -> (∀ q ∈ qs, q.Ok t nx') -> ps.flatMap Pt.B = qs.flatMap Pt.B
 | [], [], _, _, _ => rfl
 | [], _ :: _, h, _, _ => by cases h
 | _ :: _, [], h, _, _ => by cases h
 | p :: ps, q :: qs, h, hp, hq => by
  simp only [List.map_cons, List.cons.injEq] at h
  rw [List.flatMap_cons, List.flatMap_cons, Pt.uniq h.1 (hp _ (List.mem_cons_self ..)) (hq _ (List.mem_cons_self ..)), parts_uniq h.2 (fun x hx => hp x (List.mem_cons_of_mem _ hx)) fun x hx => hq x (List.mem_cons_of_mem _ hx)]
def preP (ps : List Pt) (i : Nat) : List Int := (ps.take i).flatMap Pt.B
theorem preP_next {ps : List Pt} {i : Nat} (h : i < ps.length) : preP ps (i + 1) = preP ps i ++ ps[i].B := by
 unfold preP
 rw [List.take_succ_eq_append_getElem h, List.flatMap_append, List.flatMap_cons, List.flatMap_nil, List.append_nil]
theorem Pt.B_hi {t : Tr AObj} {nx : Nat} {p : Pt} (h : p.Ok t nx) : p.B.length <= 1500100 := by
 cases p with
 | nums s l =>
  obtain ⟨h1, h2, h3⟩ := h
  have := intsB_hi h2 ow
  show (intsB l).length <= _
  omega
 | dig d =>
  have h : d.length = 16 := h
  have := encI1_len
  show (encI (1 : Nat) ++ d).length <= _
  rw [List.length_append]; omega
 | txt s =>
  have h : s.size <= 1500000 := h
  have := strsB_hi (s := s) h
  show (strsB [s]).length <= _
  omega
theorem preP_hi {t : Tr AObj} {nx i : Nat} {ps : List Pt} (h : ∀ p ∈ ps, p.Ok t nx) (hl : ps.length <= 7) : (preP ps i).length <= 10500700 := by
 have := flat_le (f := Pt.B) (b := 1500100) (ps.take i) fun x hx => Pt.B_hi (h x (List.mem_of_mem_take hx))
 have h2 : (ps.take i).length <= 7 := by rw [List.length_take]; omega
 unfold preP
 have h3 := Nat.mul_le_mul_left 1500100 h2
 omega
def R_write : List Value -> AH -> Value -> AH -> Prop := fun args h v h' => ∀ (ps : List Pt) (s : Value), args = [s] -> LV h.t h.next 1 s ps.length (ps.map Pt.V) -> (∀ p ∈ ps, p.Ok h.t h.next) -> BPost (ps.flatMap Pt.B) (420 * ps.length + 10) h.t h.next h.wr v h'
noncomputable def c_write := cEx Tryz.prog 47 R_write
theorem con_write : Con Tryz.prog 47 c_write := con_ex Tryz.func47 rfl
theorem write_c {t : Tr AObj} {nx wr : Nat} {s : Value} {ps : List Pt} (hrd : LV t nx 1 s ps.length (ps.map Pt.V)) (hok : ∀ p ∈ ps, p.Ok t nx) (hpl : ps.length <= 7) (hN : nx + (420 * ps.length + 10) + 100 <= BIG) (hwr : wr <= BIG) : ∃ v h', c_write [s] ⟨t, nx, wr⟩ = some (v, h') /\ BPost (ps.flatMap Pt.B) (420 * ps.length + 10) t nx wr v h' := by
 have hP := Fits
 have hC : CallSound Tryz.prog (tabOf [(70, c_wints), (71, c_wdigs), (72, c_wstrs)]) := tab_sound (tab_cons con_wints (tab_cons con_wdigs (tab_cons con_wstrs tab_end)))
 have hF0 : Fr t nx wr t nx wr 0 := Fr.refl
 have hle : ∀ i, (preP ps i).length <= 10500700 := fun i => preP_hi hok hpl
 have e1l := encI1_len
 suffices key : SureK Tryz.prog ⟨t, nx, wr⟩ _ [] _ (EndR Tryz.prog _ (R_write [s] ⟨t, nx, wr⟩)) by
  obtain ⟨v, h', q, c⟩ := sure_start (R := R_write) (sz := 41) Tryz.func47 rfl rfl zo key
  exact ⟨v, h', q, c ps s rfl hrd hok⟩
 refine s_seq (s_region hP hC (oA ?_))
 refine o_done (se_seq (s_seq (s_region hP hC (oA ?_))))
 refine o_done (se_seq (s_seq (s_seq (s_region hP hC (oM ?_)))))
 refine os (x_lenL hrd rfl rfl zv rfl Tryz.underlying152) ?_
 refine os (x_move rfl (by rfl)) ?_
 refine o_done (se_seq (s_block ?_))
 refine s_loop (α := Int) (fun i s' => ∃ v e t1 nx1 wq1 S, s' = ⟨e, 41, ⟨t1, nx1, wq1⟩⟩ /\ e.get 0 = some (s) /\ e.get 9 = some (s) /\ e.get 10 = some (.int .i64 ps.length) /\ e.get 3 = some (v) /\ e.get 11 = some (.int .i64 i) /\ 0 <= i /\ i <= ps.length /\ AccP t1 nx nx1 S 1 v (preP ps i.toNat).length (bys (preP ps i.toNat)) /\ Fr t nx wr t1 nx1 wq1 (420 * i.toNat)) (fun i => (ps.length - i).toNat) 0 ⟨_, _, _, _, _, _, rfl, hg, hg, hg, hg, hg, by omega, by omega, .start, Fr.low hF0 ow⟩ ?_
 rintro i s' ⟨v, e, t1, nx1, wq1, S, rfl, heb0, heb9, heb10, heb3, heb11, i0, i1, aA, hG⟩
 have g1 := hG.le
 have g2 := hG.hi
 have g3 := hG.wlo
 have g4 := hG.whi
 have hlei := hle i.toNat
 refine s_seq (s_region hP hC ?_)
 refine os (x_bin rfl za za b_lss) ?_
 refine o_done (se_seq (s_seq ?_))
 refine s_cond za (fun g2 => ?_) (fun g2 => ?_)
 ·have p2 := g2; try simp only [dd] at p2
  refine s_skip (se_seq (s_seq (s_block (s_seq ?_))))
  obtain ⟨idD, roD, cpD, rfl, oD, oD1, oD2⟩ := hrd.own ow
  have hi1 : i.toNat < ps.length := by omega
  have hp := hok _ (List.getElem_mem hi1)
  have hpn := preP_next hi1
  rcases hpp : ps[i.toNat] with ⟨sL, lL⟩ | ⟨dL⟩ | ⟨sT⟩ <;> rw [hpp] at hp hpn
  ·skip
   obtain ⟨hp1, hp2, hp3⟩ := hp
   have hpre : preP ps (i.toNat + 1) = preP ps i.toNat ++ intsB lL := hpn
   have hb := intsB_hi hp2 ow
   refine s_region hP hC ?_
   refine os (x_index rfl za za Tryz.underlying152 T.s20 ow ow) ?_
   refine os (x_load1 rfl za T.g20 (show loadC _ _ _ _ = some [.iface 22 sL] from (l_nth ((oD.keep (hG.same _ ow) (hG.same _ ow)).whole) (by rw [List.length_map]; exact hi1)).trans (by rw [List.getElem_map, hpp]; rfl))) ?_
   refine oA ?_
   refine o_done (se_seq (s_seq (s_region hP hC (oM ?_))))
   refine o_done (se_seq (s_block (s_seq (s_region hP hC ?_))))
   refine os (x_assertY rfl za u22 (fun ms h => by cases h)) ?_
   refine os (x_extract rfl za rfl) ?_
   refine os (x_extract rfl za rfl) ?_
   refine o_done (se_seq ?_)
   refine s_condT za ?_
   refine s_seq (s_region hP hC (oA ?_))
   refine o_done (se_seq (s_region hP hC (oM ?_)))
   refine oM ?_
   refine o_callR (tab_hitR (wints_c (nx := nx1) (l := lL) (hp1.keep g1 hG.same) hp2 ow ow ow)) (wA_none rfl) rfl rfl rfl (by simp only [evs, ev_tmp, Tr.get_set, reduceIte, Nat.reduceEqDiff, Nat.reduceAdd, heb0, heb9, heb10, heb3, heb11, g2] <;> rfl) zd (fun v10 h10 hR10 => ?_)
   obtain ⟨t10, nx10, wz10, rfl, hf10, S10, ac10⟩ := hR10
   have qa10 := hf10.le
   have qb10 : nx10 <= nx1 + (62 * lL.length + 70) := hf10.hi
   have qc10 := hf10.wlo
   have qd10 := hf10.whi
   have hF11 : Fr t nx wr _ _ _ (420 * i.toNat + (62 * lL.length + 70)) := Fr.trans hG hf10 (Nat.le_refl _)
   refine o_appB aA (ac10.cells (fun _ _ => rfl) u23 T.s5) (wA_none rfl) rfl rfl rfl (by simp only [evs, ev_tmp, Tr.get_set, reduceIte, Nat.reduceEqDiff, Nat.reduceAdd, heb0, heb9, heb10, heb3, heb11, g2] <;> rfl) rfl rfl zr u23 T.i23 zd ow (fun x q => (hf10.same x (by have := aA.bnd x q; omega)).trans (by first | rfl | (have := aA.bnd x q; repeat rw [gn ow]))) ow ow (fun v12 t12 nx12 wz12 S12 hA12 => ?_)
   have qa12 := hA12.le
   have qb12 := hA12.hi
   have qc12 := hA12.wlo
   have qd12 := hA12.whi
   have ac12 := hA12.acc
   have hF13 : Fr t nx wr _ _ _ (420 * i.toNat + (62 * lL.length + 70) + 1) := ABp.fr hA12 hF11 ow (fun x q => (aA.bnd x q).1)
   refine oA ?_
   refine o_done (se_block (se_block (se_seq (s_region hP hC ?_))))
   refine os (x_bin rfl za (by rfl) b_add) ?_
   refine oM ?_
   refine o_done ?_
   refine se_loop ?_
   have hw1 : IntKind.i64.wrap (i + 1) = i + 1 := wr1 ow ow
   have e1 : (i + 1).toNat = i.toNat + 1 := by omega
   refine ⟨i + 1, ⟨v12, _, _, _, _, _, rfl, za, za, za, za, (by simp only [Tr.get_set, reduceIte, Nat.reduceEqDiff, Nat.reduceAdd, hw1, heb0, heb9, heb10, heb3, heb11, g2] <;> rfl), by omega, by omega, by rw [e1, hpre]; exact ac12, Fr.low hF13 (by rw [e1]; omega)⟩, by omega⟩
  ·skip
   have hp : dL.length = 16 := hp
   have hpre : preP ps (i.toNat + 1) = preP ps i.toNat ++ (encI (1 : Nat) ++ dL) := hpn
   have hdb : (encI (1 : Nat) ++ dL).length = (encI (1 : Nat)).length + dL.length := List.length_append
   have hbd := bys_len dL
   refine s_region hP hC ?_
   refine os (x_index rfl za za Tryz.underlying152 T.s20 ow ow) ?_
   refine os (x_load1 rfl za T.g20 (show loadC _ _ _ _ = some [.iface 25 (.agg ⟨bys dL⟩)] from (l_nth ((oD.keep (hG.same _ ow) (hG.same _ ow)).whole) (by rw [List.length_map]; exact hi1)).trans (by rw [List.getElem_map, hpp]; rfl))) ?_
   refine oA ?_
   refine o_done (se_seq (s_seq (s_region hP hC (oM ?_))))
   refine o_done (se_seq (s_block (s_seq (s_region hP hC ?_))))
   refine os (x_assertN rfl za zd T.z22 rfl u22 (fun ms h => by cases h)) ?_
   refine os (x_extract rfl za rfl) ?_
   refine os (x_extract rfl za rfl) ?_
   refine o_done (se_seq ?_)
   refine s_condF za ?_
   refine s_seq (s_region hP hC ?_)
   refine os (x_assertY rfl za u25 (fun ms h => by cases h)) ?_
   refine os (x_extract rfl za rfl) ?_
   refine os (x_extract rfl za rfl) ?_
   refine o_done (se_seq ?_)
   refine s_condT za ?_
   refine s_seq (s_region hP hC ?_)
   refine os (y_alloc rfl T.z25 rfl rfl) ?_
   refine o_stepN (wA_none rfl) rfl (y_storeA rfl za za T.s25 (by rw [hbd, hp]) (by rw [gp rfl] <;> rfl) rfl rfl (bys_one _)) ?_
   refine o_done (se_seq (s_region hP hC (oM ?_)))
   refine os (x_loadA rfl za T.g25 T.s25 (l_all (whole_row (by rw [gp rfl]) rfl) (by rw [hbd, hp]))) ?_
   refine os (y_bsliceA rfl za u42 T.s25 T.z25 zd rfl rfl (by rw [hbd, hp]) zd) ?_
   refine o_callR (tab_missR zd (tab_hitR (wdigs_c (nx := nx1 + 1 + 1) (n := 1) (l := dL) (lv_row (id := nx1 + 1) (d := bys dL) (by rw [gp rfl]) ow (by rw [hbd, hp])) zd (by show _ + (62 * 1 + 70) + 100 <= BIG; omega) ow))) (wA_none rfl) rfl rfl rfl (by simp only [evs, ev_tmp, Tr.get_set, reduceIte, Nat.reduceEqDiff, Nat.reduceAdd, heb0, heb9, heb10, heb3, heb11, g2] <;> rfl) zd (fun v14 h14 hR14 => ?_)
   obtain ⟨t14, nx14, wz14, rfl, hf14, S14, ac14⟩ := hR14
   have qa14 := hf14.le
   have qb14 : nx14 <= nx1 + 1 + 1 + (62 * 1 + 70) := hf14.hi
   have qc14 := hf14.wlo
   have qd14 := hf14.whi
   have hF15 : Fr t nx wr _ _ _ (420 * i.toNat + 2 + (62 * 1 + 70)) := Fr.trans (Fr.ownN 2 hG ow ow ow ow (fun i hi => by rw [gn ow, gn ow, gn ow])) hf14 (Nat.le_refl _)
   refine o_appB aA (ac14.cells (fun _ _ => rfl) u23 T.s5) (wA_none rfl) rfl rfl rfl (by simp only [evs, ev_tmp, Tr.get_set, reduceIte, Nat.reduceEqDiff, Nat.reduceAdd, heb0, heb9, heb10, heb3, heb11, g2] <;> rfl) rfl rfl zr u23 T.i23 zd ow (fun x q => (hf14.same x (by have := aA.bnd x q; omega)).trans (by first | rfl | (have := aA.bnd x q; repeat rw [gn ow]))) ow ow (fun v16 t16 nx16 wz16 S16 hA16 => ?_)
   have qa16 := hA16.le
   have qb16 := hA16.hi
   have qc16 := hA16.wlo
   have qd16 := hA16.whi
   have ac16 := hA16.acc
   have hF17 : Fr t nx wr _ _ _ (420 * i.toNat + 2 + (62 * 1 + 70) + 1) := ABp.fr hA16 hF15 ow (fun x q => (aA.bnd x q).1)
   refine oA ?_
   refine o_done (se_block (se_block (se_seq (s_region hP hC ?_))))
   refine os (x_bin rfl za (by rfl) b_add) ?_
   refine oM ?_
   refine o_done ?_
   refine se_loop ?_
   have hw1 : IntKind.i64.wrap (i + 1) = i + 1 := wr1 ow ow
   have e1 : (i + 1).toNat = i.toNat + 1 := by omega
   refine ⟨i + 1, ⟨v16, _, _, _, _, _, rfl, za, za, za, za, (by simp only [Tr.get_set, reduceIte, Nat.reduceEqDiff, Nat.reduceAdd, hw1, heb0, heb9, heb10, heb3, heb11, g2] <;> rfl), by omega, by omega, by rw [e1, hpre]; exact ac16, Fr.low hF17 (by rw [e1]; omega)⟩, by omega⟩
  ·skip
   have hp : sT.size <= 1500000 := hp
   have hpre : preP ps (i.toNat + 1) = preP ps i.toNat ++ strsB [sT] := hpn
   have hb := strsB_hi (s := sT) hp
   refine s_region hP hC ?_
   refine os (x_index rfl za za Tryz.underlying152 T.s20 ow ow) ?_
   refine os (x_load1 rfl za T.g20 (show loadC _ _ _ _ = some [.iface 9 (.string sT)] from (l_nth ((oD.keep (hG.same _ ow) (hG.same _ ow)).whole) (by rw [List.length_map]; exact hi1)).trans (by rw [List.getElem_map, hpp]; rfl))) ?_
   refine oA ?_
   refine o_done (se_seq (s_seq (s_region hP hC (oM ?_))))
   refine o_done (se_seq (s_block (s_seq (s_region hP hC ?_))))
   refine os (x_assertN rfl za zd T.z22 rfl u22 (fun ms h => by cases h)) ?_
   refine os (x_extract rfl za rfl) ?_
   refine os (x_extract rfl za rfl) ?_
   refine o_done (se_seq ?_)
   refine s_condF za ?_
   refine s_seq (s_region hP hC ?_)
   refine os (x_assertN rfl za zd T.z25 rfl u25 (fun ms h => by cases h)) ?_
   refine os (x_extract rfl za rfl) ?_
   refine os (x_extract rfl za rfl) ?_
   refine o_done (se_seq ?_)
   refine s_condF za ?_
   refine s_seq (s_region hP hC ?_)
   refine os (x_assertY rfl za u9 (fun ms h => by cases h)) ?_
   refine os (x_extract rfl za rfl) ?_
   refine os (x_extract rfl za rfl) ?_
   refine o_done (se_seq ?_)
   refine s_condT za ?_
   refine s_seq (s_region hP hC (oA ?_))
   refine o_done (se_seq (s_region hP hC (oM ?_)))
   refine oM ?_
   refine os (y_bsliceV rfl za rfl u55 T.s9 T.z9 rfl rfl) ?_
   refine o_callR (tab_missR zd (tab_missR zd (tab_hitR (wstrs_c (nx := nx1 + 1) (l := [sT]) (lv_row (id := nx1) (d := strC [sT]) (n := 1) (by rw [gp rfl] <;> rfl) ow rfl) (fun x hx => by rw [List.mem_singleton.1 hx]; omega) ow (by show _ + (64 * 1 + 70) + 100 <= BIG; omega) ow)))) (wA_none rfl) rfl rfl rfl (by simp only [evs, ev_tmp, Tr.get_set, reduceIte, Nat.reduceEqDiff, Nat.reduceAdd, heb0, heb9, heb10, heb3, heb11, g2] <;> rfl) zd (fun v18 h18 hR18 => ?_)
   obtain ⟨t18, nx18, wz18, rfl, hf18, S18, ac18⟩ := hR18
   have qa18 := hf18.le
   have qb18 : nx18 <= nx1 + 1 + (64 * 1 + 70) := hf18.hi
   have qc18 := hf18.wlo
   have qd18 := hf18.whi
   have hF19 : Fr t nx wr _ _ _ (420 * i.toNat + 2 + (64 * 1 + 70)) := Fr.trans (Fr.ownN 2 hG ow ow ow ow (fun i hi => by rw [gn ow])) hf18 (Nat.le_refl _)
   refine o_appB aA (ac18.cells (fun _ _ => rfl) u23 T.s5) (wA_none rfl) rfl rfl rfl (by simp only [evs, ev_tmp, Tr.get_set, reduceIte, Nat.reduceEqDiff, Nat.reduceAdd, heb0, heb9, heb10, heb3, heb11, g2] <;> rfl) rfl rfl zr u23 T.i23 zd ow (fun x q => (hf18.same x (by have := aA.bnd x q; omega)).trans (by first | rfl | (have := aA.bnd x q; repeat rw [gn ow]))) ow ow (fun v20 t20 nx20 wz20 S20 hA20 => ?_)
   have qa20 := hA20.le
   have qb20 := hA20.hi
   have qc20 := hA20.wlo
   have qd20 := hA20.whi
   have ac20 := hA20.acc
   have hF21 : Fr t nx wr _ _ _ (420 * i.toNat + 2 + (64 * 1 + 70) + 1) := ABp.fr hA20 hF19 ow (fun x q => (aA.bnd x q).1)
   refine oA ?_
   refine o_done (se_block (se_block (se_seq (s_region hP hC ?_))))
   refine os (x_bin rfl za (by rfl) b_add) ?_
   refine oM ?_
   refine o_done ?_
   refine se_loop ?_
   have hw1 : IntKind.i64.wrap (i + 1) = i + 1 := wr1 ow ow
   have e1 : (i + 1).toNat = i.toNat + 1 := by omega
   refine ⟨i + 1, ⟨v20, _, _, _, _, _, rfl, za, za, za, za, (by simp only [Tr.get_set, reduceIte, Nat.reduceEqDiff, Nat.reduceAdd, hw1, heb0, heb9, heb10, heb3, heb11, g2] <;> rfl), by omega, by omega, by rw [e1, hpre]; exact ac20, Fr.low hF21 (by rw [e1]; omega)⟩, by omega⟩
 ·have p2 := g2; try simp only [dd] at p2
  refine s_exit ?_
  refine se_seq_exit ?_
  refine se_loop_exit ?_
  refine se_block_eq (se_seq (s_seq (s_region hP hC (oM ?_))))
  refine oA ?_
  refine o_done (se_seq ?_)
  refine s_ret ?_
  refine ⟨.inr rfl, _, (by simp only [Tryz.results47, resA, Tr.get_set, reduceIte, Nat.reduceEqDiff, Nat.reduceAdd, heb0, heb9, heb10, heb3, heb11, g2] <;> rfl), fun ps2 s2 hs2 hr2 ho2 => ?_⟩
  cases hs2
  have hq := hrd.uniq hr2
  rw [parts_uniq hq.2 ho2 hok, hq.1]
  have hil : i.toNat = ps.length := by omega
  have hpa : preP ps ps.length = ps.flatMap Pt.B := by unfold preP; rw [List.take_length]
  rw [hil] at hG aA
  rw [hpa] at aA
  exact ⟨_, _, _, rfl, Fr.low hG ow, _, aA⟩
end Go.Proofs.YtfgmplbclpadbaaGreatDoor
