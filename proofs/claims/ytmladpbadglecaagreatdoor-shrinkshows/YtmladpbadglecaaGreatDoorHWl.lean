/-
  A part of a list, split by its pivot.
-/
import Derived.Test.YtmladpbadglecaaGreatDoorHWk
set_option linter.unusedSimpArgs false
set_option linter.unusedVariables false
namespace Go.Proofs.YtmladpbadglecaaGreatDoor
open Go.AM
set_option maxRecDepth 100000
set_option maxHeartbeats 1000000
open Go.Sort
set_option maxHeartbeats 16000000
section
variable {P d d3 : Array Wd} {a b p i j m : Nat}
theorem part_yes (hd : d = swp P a p) (hi : scanUp (fun x => ltW x d[a]!) d (b - 1) (a + 1) = i) (hj : scanDown (fun x => !ltW x d[a]!) d i (b - 1) = j) (h : i > j) : Go.Sort.partition ltW P a b p = (j, true, swp d j a) := by
 subst hd
 unfold Go.Sort.partition
 dsimp only
 rw [hi, hj, if_pos h]
theorem part_no (hd : d = swp P a p) (hi : scanUp (fun x => ltW x d[a]!) d (b - 1) (a + 1) = i) (hj : scanDown (fun x => !ltW x d[a]!) d i (b - 1) = j) (h : ¬ i > j) (hr : partLoop ltW a (i + 1) (j - 1) (swp d i j) = (m, d3)) : Go.Sort.partition ltW P a b p = (m, false, swp d3 m a) := by
 subst hd
 unfold Go.Sort.partition
 dsimp only
 rw [hi, hj, if_neg h, hr]
end
def R_pt : List Value -> AH -> Value -> AH -> Prop := fun args h v h' => ∀ K r id c (P : Array Wd) (a b p : Int), args = [.slice (some ⟨id, 0, none⟩) P.size c, .int .i64 a, .int .i64 b, .int .i64 p, CMPV] -> DS h.t K r id P -> ∃ t' nx' wr', ∃ m : Int, ∃ q P4, h' = ⟨t', nx', wr'⟩ /\ v = .tuple ⟨[.int .i64 m, .bool q]⟩ /\ 0 <= m /\ Go.Sort.partition ltW P a.toNat b.toNat p.toNat = (m.toNat, q, P4) /\ OwnS t' r id (vals P4) /\ Kept P P4 /\ FrX h.t h.next h.wr t' nx' wr' r 8000
noncomputable def c_pt := cEx Tryz.prog 55 R_pt
theorem con_pt : Con Tryz.prog 55 c_pt := con_ex Tryz.func55 rfl
theorem pt_c {t : Tr AObj} {K : Nat -> Prop} {nx wr : Nat} {r id c : Nat} {P : Array Wd} {a b p : Int} (hd : DS t K r id P) (hK : ∀ i, K i -> i < nx /\ i ≠ r) (hr : r < nx) (hid : id < nx) (hz : P.size <= 40) (ha : 0 <= a) (hap : a <= p) (hpb : p < b) (hb : b <= P.size) (hN : nx + 4000000 <= BIG) (hwr : wr <= BIG) : ∃ v h', c_pt [.slice (some ⟨id, 0, none⟩) P.size c, .int .i64 a, .int .i64 b, .int .i64 p, CMPV] ⟨t, nx, wr⟩ = some (v, h') /\ ∃ t' nx' wr', ∃ m : Int, ∃ q P4, h' = ⟨t', nx', wr'⟩ /\ v = .tuple ⟨[.int .i64 m, .bool q]⟩ /\ 0 <= m /\ Go.Sort.partition ltW P a.toNat b.toNat p.toNat = (m.toNat, q, P4) /\ OwnS t' r id (vals P4) /\ Kept P P4 /\ FrX t nx wr t' nx' wr' r 8000 := by
 have hP := Fits
 have hC : CallSound Tryz.prog (tabOf [(18, c_ord)]) := tab_sound (tab_cons con_ord tab_end)
 suffices key : SureK Tryz.prog ⟨t, nx, wr⟩ _ [] _ (EndR Tryz.prog _ (R_pt [.slice (some ⟨id, 0, none⟩) P.size c, .int .i64 a, .int .i64 b, .int .i64 p, CMPV] ⟨t, nx, wr⟩)) by
  obtain ⟨v, h', q, x⟩ := sure_start (R := R_pt) (sz := 178) Tryz.func55 rfl rfl zo key
  exact ⟨v, h', q, x K r id c P a b p rfl hd⟩
 refine s_seq (s_region hP hC (oA ?_))
 refine oA ?_
 refine o_done (se_seq (s_seq ?_))
 refine s_join (fun s' => ∃ e tS nxS wqS, s' = ⟨e, 178, ⟨tS, nxS, wqS⟩⟩ /\ e.get 0 = some (.slice (some ⟨id, 0, none⟩) P.size c) /\ e.get 1 = some (.int .i64 (a)) /\ e.get 4 = some (CMPV) /\ e.get 2 = some (.int .i64 (b)) /\ OwnS tS r id (vals (swp P (a).toNat (p).toNat)) /\ FrX t nx wr tS nxS wqS r (10)) ?_ ?_
 ·skip
  refine s_draw hP hC zr ?_
  refine dM ?_
  refine dM ?_
  refine dM ?_
  refine dM ?_
  refine dM ?_
  refine dM ?_
  refine ds (x_index rfl zt zt u38 T.s22 ow ow) ?_
  refine ds (x_load1 rfl zt T.g22 (l_vals hd.own.whole ow ow)) ?_
  refine dM ?_
  refine dM ?_
  refine ds (x_index rfl zt zt u38 T.s22 ow ow) ?_
  refine ds (x_load1 rfl zt T.g22 (l_vals hd.own.whole ow ow)) ?_
  refine ds (x_index rfl zt zt u38 T.s22 ow ow) ?_
  have sv26 := (hd.iv _ (mem_at (P := P) (i := (p).toNat) ow)).1
  obtain ⟨tS26, oS26, kS26, hS26⟩ := x_storeS (P := Tryz.prog) (T := 22) (nx := nx) (off := 0 + (a).toNat * 1) hd.own (one_cells sv26.one) T.s22 (by first | (rw [vals_len]; omega) | (rw [List.length_set, vals_len]; omega)) sv26.one
  refine d_stepN (wA_none rfl) rfl (hS26 rfl zt zt) ?_
  refine ds (x_index rfl zt zt u38 T.s22 ow ow) ?_
  have sv27 := (hd.iv _ (mem_at (P := P) (i := (a).toNat) ow)).1
  obtain ⟨tS27, oS27, kS27, hS27⟩ := x_storeS (P := Tryz.prog) (T := 22) (nx := nx) (off := 0 + (p).toNat * 1) oS26 (one_cells sv27.one) T.s22 (by first | (rw [vals_len]; omega) | (rw [List.length_set, vals_len]; omega)) sv27.one
  refine d_stepN (wA_none rfl) rfl (hS27 rfl zt zt) ?_
  refine d_done ⟨de_ok (tail_my (B := 0) (Y := none) (M := [0, 0, 0, 0, 0, 0, 0, 1, 0, 0, 0, 1, 0, 2, 0, 2]) (fw := 0) (my_w (my_op (my_w (my_op (my_q (my_op (my_op (my_op (my_q (my_op (my_op (my_op (my_op (my_op (my_op (my_op my_nil ow) ow) ow) ow) ow) ow) ow) ow) ow) ow) ow) ow) ow) (Nat.zero_le _) (fun y q => by cases q)) ow) (Nat.zero_le _) (fun y q => by cases q)) zd zr) (by try dsimp only; omega) (by try dsimp only; omega), ?_⟩
  refine se_loop ?_
  exact ⟨_, _, _, _, rfl, hg, hg, hg, hg, by rw [vals_swp ow ow]; rw [Nat.zero_add, Nat.mul_one, Nat.zero_add, Nat.mul_one] at oS27; exact oS27, ⟨ozz, ozz, ozz, ozz, fun k q1 q2 => (kS27 k q2).trans ((kS26 k q2).trans ((FrX.refl (t := t) (nx := nx) (wr := wr) (r := r) (k := 0)).same k q1 q2))⟩⟩
 ·skip
  rintro s' ⟨e, tS, nxS, wqS, rfl, heS0, heS1, heS4, heS2, oS, hGS⟩
  have kkS := kept_swp (i := (a).toNat) (j := (p).toNat) (show Kept P P from ⟨rfl, fun x hx => hx⟩) ow ow
  obtain ⟨P1, hnS⟩ : ∃ A, A = swp P (a).toNat (p).toNat := ⟨_, rfl⟩
  rw [<-hnS] at oS kkS
  have zzS := kkS.1
  have gaS := hGS.le
  have gbS := hGS.hi
  have gcS := hGS.wlo
  have gdS := hGS.whi
  have dS := hd.step (P' := P1) oS hGS.same hK kkS.2
  refine s_seq (s_region hP hC (oM ?_))
  refine os (x_bin (u := .int .i64 (a + 1)) rfl za (by rfl) (by rw [b_add, IntWalk.i64_in _ ow])) ?_
  refine oM ?_
  refine os (x_bin (u := .int .i64 (b - 1)) rfl za (by rfl) (by rw [b_sub, IntWalk.i64_in _ ow])) ?_
  refine oA ?_
  refine oA ?_
  refine o_done (se_seq (s_seq (s_block ?_)))
  refine s_loop (α := Int) (fun iA s' => ∃ e tA nxA wqA, s' = ⟨e, 178, ⟨tA, nxA, wqA⟩⟩ /\ e.get 0 = some (.slice (some ⟨id, 0, none⟩) P.size c) /\ e.get 1 = some (.int .i64 (a)) /\ e.get 4 = some (CMPV) /\ e.get 13 = some (.int .i64 ((b - 1))) /\ e.get 12 = some (.int .i64 iA) /\ a + 1 <= iA /\ iA <= b /\ OwnS tA r id (vals P1) /\ FrX t nx wr tA nxA wqA r ((20 + 10 * (iA - a)).toNat) /\ scanUp (fun x => ltW x P1[a.toNat]!) P1 (b - 1).toNat (a + 1).toNat = scanUp (fun x => ltW x P1[a.toNat]!) P1 (b - 1).toNat iA.toNat) (fun iA => (b + 5 - iA).toNat) (a + 1) ⟨_, _, _, _, rfl, za, za, za, za, za, by omega, by omega, oS, FrX.low hGS ow, rfl⟩ ?_
  clear heS0 heS1 heS4 heS2 dS gdS gcS gbS gaS hGS oS
  rintro iA s' ⟨e, tA, nxA, wqA, rfl, heA0, heA1, heA4, heA13, heA12, r0A, r1A, oA, hGA, hEA⟩
  have gaA := hGA.le
  have gbA := hGA.hi
  have gcA := hGA.wlo
  have gdA := hGA.whi
  have dA := hd.step (P' := P1) oA hGA.same hK kkS.2
  refine s_seq (s_seq ?_)
  refine s_join (fun s' => ∃ e tAx nxAx wqAx, s' = ⟨e, 178, ⟨tAx, nxAx, wqAx⟩⟩ /\ e.get 0 = some (.slice (some ⟨id, 0, none⟩) P.size c) /\ e.get 1 = some (.int .i64 (a)) /\ e.get 4 = some (CMPV) /\ e.get 13 = some (.int .i64 ((b - 1))) /\ e.get 12 = some (.int .i64 iA) /\ e.get 47 = some (.bool (decide (iA <= (b - 1)) && lessW (P1[(iA).toNat]!).2 (P1[(a).toNat]!).2)) /\ OwnS tAx r id (vals P1) /\ FrX t nx wr tAx nxAx wqAx r ((30 + 10 * (iA - a)).toNat)) ?_ ?_
  ·skip
   have hqB : nxA <= BIG := by omega
   refine s_draw hP hC zr ?_
   refine dM ?_
   refine dM ?_
   refine ds (x_bin rfl za za b_leq) ?_
   refine dM ?_
   refine d_guard rfl rfl za (fun g2 => ?_) (fun g2 => ?_)
   ·have p2 := g2; try simp only [dd] at p2
    refine d_step wZ rfl (x_move rfl za) zd ?_
    refine d_step wZ rfl (x_move rfl za) zd ?_
    refine d_step wZ rfl (x_move rfl za) zd ?_
    refine d_step wZ rfl (x_index rfl za za u38 T.s22 ow ow) zd ?_
    refine d_step wZ rfl (x_load1 rfl za T.g22 (l_vals oA.whole ow ow)) zd ?_
    refine d_step wZ rfl (x_move rfl za) zd ?_
    refine d_step wZ rfl (x_move rfl za) zd ?_
    refine d_step wZ rfl (x_index rfl za za u38 T.s22 ow ow) zd ?_
    refine d_step wZ rfl (x_load1 rfl za T.g22 (l_vals oA.whole ow ow)) zd ?_
    have hv11 := dA.iv _ (mem_at (P := P1) (i := (iA).toNat) ow)
    have hv21 := dA.iv _ (mem_at (P := P1) (i := (a).toNat) ow)
    refine d_callRC (vs := [(P1[(iA).toNat]!).1, (P1[(a).toNat]!).1]) (cap := []) (tab_hitR (ord_c (nx := nxA) hv11.1 hv21.1 (fun i q => by have := hK i q; omega) hv11.2 hv21.2 ow (Nat.le_refl _))) wZ rfl rfl rfl za ze zd (fun v1 ta1 na1 wa1 hR1 => ?_)
    obtain ⟨t1, nx1, wz1, he1, hf1, rfl⟩ := hR1
    cases he1
    have la1 := hf1.le
    have lb1 := hf1.hi
    have lw1 := hf1.wlo
    have hq1 : decide (nxA <= wa1) = true := decide_eq_true ow
    have qC1 : na1 <= BIG := by omega
    have qB1 : nxA <= BIG := by omega
    have ow1 := oA.keep (t' := ta1) (hf1.same _ ow) (hf1.same _ ow)
    refine d_step wZ rfl (x_bin rfl za (by rfl) b_lss) zd ?_
    refine ds (x_pick rfl zw zb) ?_
    refine d_done ⟨de_quiet (by simp only [List.all_append, List.all_cons, List.all_nil, infOf, decide_eq_true hqB, Bool.and_self, show Inf.skip.quiet = true from rfl, hq1, decide_eq_true qB1, decide_eq_true qC1]) zBG zBG, ?_⟩
    refine se_loop ?_
    exact ⟨_, _, _, _, rfl, za, za, za, za, za, (by rw [show decide (iA <= (b - 1)) = true from g2, Bool.true_and, <-ord_lt]; exact za), ow1, FrX.low (FrX.cmp hGA hf1 zwl zwh) ow⟩
   ·have p2 := g2; try simp only [dd] at p2
    refine dS ?_
    refine dS ?_
    refine dS ?_
    refine dS ?_
    refine dS ?_
    refine dS ?_
    refine dS ?_
    refine dS ?_
    refine dS ?_
    refine dS ?_
    refine dS ?_
    refine ds (x_pick rfl zw zb) ?_
    refine d_done ⟨de_quiet (by simp only [List.all_append, List.all_cons, List.all_nil, infOf, decide_eq_true hqB, Bool.and_self, show Inf.skip.quiet = true from rfl]) zBG zBG, ?_⟩
    refine se_loop ?_
    exact ⟨_, _, _, _, rfl, za, za, za, za, za, (by rw [show decide (iA <= (b - 1)) = false from g2, Bool.false_and]; exact za), oA, FrX.wr hGA zwl zwh ow⟩
  ·skip
   clear heA0 heA1 heA4 heA13 heA12 dA gdA gcA gbA gaA hGA oA
   rintro s' ⟨e, tAx, nxAx, wqAx, rfl, heAx0, heAx1, heAx4, heAx13, heAx12, heAxb, oAx, hGAx⟩
   have gaAx := hGAx.le
   have gbAx := hGAx.hi
   have gcAx := hGAx.wlo
   have gdAx := hGAx.whi
   have dAx := hd.step (P' := P1) oAx hGAx.same hK kkS.2
   refine s_cond za (fun g4 => ?_) (fun g4 => ?_)
   ·have p4 := g4; try simp only [dd] at p4
    refine s_skip (se_seq (s_block (s_region hP hC (oM ?_))))
    refine os (x_bin (u := .int .i64 (iA + 1)) rfl za (by rfl) (by rw [b_add, IntWalk.i64_in _ ow])) ?_
    refine oA ?_
    refine o_done (se_block ?_)
    refine se_loop ?_
    have hw1 : IntKind.i64.wrap (iA + 1) = iA + 1 := IntWalk.i64_in _ ow
    exact ⟨iA + 1, ⟨_, _, _, _, rfl, za, za, za, za, (by simp only [Tr.get_set, reduceIte, Nat.reduceEqDiff, Nat.reduceAdd, hw1, heAx0, heAx1, heAx4, heAx13, heAx12, heAxb, g4] <;> rfl), by omega, by omega, oAx, FrX.low hGAx ow, hEA.trans (up_go (p := (fun x => ltW x P1[a.toNat]!)) ow ow g4)⟩, by omega⟩
   ·have p4 := g4; try simp only [dd] at p4
    refine s_exit ?_
    refine se_seq_exit ?_
    refine se_loop_exit ?_
    refine se_block_eq (se_seq (s_seq (s_block ?_)))
    have hU0 := hEA.trans (up_stop (p := (fun x => ltW x P1[a.toNat]!)) ow ow g4)
    refine s_loop (α := Int) (fun jB s' => ∃ e tB nxB wqB, s' = ⟨e, 178, ⟨tB, nxB, wqB⟩⟩ /\ e.get 0 = some (.slice (some ⟨id, 0, none⟩) P.size c) /\ e.get 1 = some (.int .i64 (a)) /\ e.get 4 = some (CMPV) /\ e.get 12 = some (.int .i64 (iA)) /\ e.get 13 = some (.int .i64 jB) /\ a <= jB /\ jB <= b - 1 /\ OwnS tB r id (vals P1) /\ FrX t nx wr tB nxB wqB r ((30 + 10 * (iA - a) + 10 * (b - jB)).toNat) /\ scanDown (fun x => !ltW x P1[a.toNat]!) P1 iA.toNat (b - 1).toNat = scanDown (fun x => !ltW x P1[a.toNat]!) P1 iA.toNat jB.toNat) (fun jB => (jB + 5).toNat) (b - 1) ⟨_, _, _, _, rfl, za, za, za, za, za, by omega, by omega, oAx, FrX.low hGAx ow, rfl⟩ ?_
    clear heAx0 heAx1 heAx4 heAx13 heAx12 heAxb dAx gdAx gcAx gbAx gaAx hGAx oAx
    rintro jB s' ⟨e, tB, nxB, wqB, rfl, heB0, heB1, heB4, heB12, heB13, r2B, r3B, oB, hGB, hEB⟩
    have gaB := hGB.le
    have gbB := hGB.hi
    have gcB := hGB.wlo
    have gdB := hGB.whi
    have dB := hd.step (P' := P1) oB hGB.same hK kkS.2
    refine s_seq (s_seq ?_)
    refine s_join (fun s' => ∃ e tBx nxBx wqBx, s' = ⟨e, 178, ⟨tBx, nxBx, wqBx⟩⟩ /\ e.get 0 = some (.slice (some ⟨id, 0, none⟩) P.size c) /\ e.get 1 = some (.int .i64 (a)) /\ e.get 4 = some (CMPV) /\ e.get 12 = some (.int .i64 (iA)) /\ e.get 13 = some (.int .i64 jB) /\ e.get 66 = some (.bool (decide (iA <= jB) && !lessW (P1[(jB).toNat]!).2 (P1[(a).toNat]!).2)) /\ OwnS tBx r id (vals P1) /\ FrX t nx wr tBx nxBx wqBx r ((40 + 10 * (iA - a) + 10 * (b - jB)).toNat)) ?_ ?_
    ·skip
     have hqB : nxB <= BIG := by omega
     refine s_draw hP hC zr ?_
     refine dM ?_
     refine dM ?_
     refine ds (x_bin rfl za za b_leq) ?_
     refine dM ?_
     refine d_guard rfl rfl za (fun g6 => ?_) (fun g6 => ?_)
     ·have p6 := g6; try simp only [dd] at p6
      refine d_step wZ rfl (x_move rfl za) zd ?_
      refine d_step wZ rfl (x_move rfl za) zd ?_
      refine d_step wZ rfl (x_move rfl za) zd ?_
      refine d_step wZ rfl (x_index rfl za za u38 T.s22 ow ow) zd ?_
      refine d_step wZ rfl (x_load1 rfl za T.g22 (l_vals oB.whole ow ow)) zd ?_
      refine d_step wZ rfl (x_move rfl za) zd ?_
      refine d_step wZ rfl (x_move rfl za) zd ?_
      refine d_step wZ rfl (x_index rfl za za u38 T.s22 ow ow) zd ?_
      refine d_step wZ rfl (x_load1 rfl za T.g22 (l_vals oB.whole ow ow)) zd ?_
      have hv12 := dB.iv _ (mem_at (P := P1) (i := (jB).toNat) ow)
      have hv22 := dB.iv _ (mem_at (P := P1) (i := (a).toNat) ow)
      refine d_callRC (vs := [(P1[(jB).toNat]!).1, (P1[(a).toNat]!).1]) (cap := []) (tab_hitR (ord_c (nx := nxB) hv12.1 hv22.1 (fun i q => by have := hK i q; omega) hv12.2 hv22.2 ow (Nat.le_refl _))) wZ rfl rfl rfl za ze zd (fun v2 ta2 na2 wa2 hR2 => ?_)
      obtain ⟨t2, nx2, wz2, he2, hf2, rfl⟩ := hR2
      cases he2
      have la2 := hf2.le
      have lb2 := hf2.hi
      have lw2 := hf2.wlo
      have hq2 : decide (nxB <= wa2) = true := decide_eq_true ow
      have qC2 : na2 <= BIG := by omega
      have qB2 : nxB <= BIG := by omega
      have ow2 := oB.keep (t' := ta2) (hf2.same _ ow) (hf2.same _ ow)
      refine d_step wZ rfl (x_bin rfl za (by rfl) b_lss) zd ?_
      refine d_step wZ rfl (x_not rfl zw) zd ?_
      refine ds (x_pick rfl zw zb) ?_
      refine d_done ⟨de_quiet (by simp only [List.all_append, List.all_cons, List.all_nil, infOf, decide_eq_true hqB, Bool.and_self, show Inf.skip.quiet = true from rfl, hq2, decide_eq_true qB2, decide_eq_true qC2]) zBG zBG, ?_⟩
      refine se_loop ?_
      exact ⟨_, _, _, _, rfl, za, za, za, za, za, (by rw [show decide (iA <= jB) = true from g6, Bool.true_and, <-ord_lt]; exact za), ow2, FrX.low (FrX.cmp hGB hf2 zwl zwh) ow⟩
     ·have p6 := g6; try simp only [dd] at p6
      refine dS ?_
      refine dS ?_
      refine dS ?_
      refine dS ?_
      refine dS ?_
      refine dS ?_
      refine dS ?_
      refine dS ?_
      refine dS ?_
      refine dS ?_
      refine dS ?_
      refine dS ?_
      refine ds (x_pick rfl zw zb) ?_
      refine d_done ⟨de_quiet (by simp only [List.all_append, List.all_cons, List.all_nil, infOf, decide_eq_true hqB, Bool.and_self, show Inf.skip.quiet = true from rfl]) zBG zBG, ?_⟩
      refine se_loop ?_
      exact ⟨_, _, _, _, rfl, za, za, za, za, za, (by rw [show decide (iA <= jB) = false from g6, Bool.false_and]; exact za), oB, FrX.wr hGB zwl zwh ow⟩
    ·skip
     clear heB0 heB1 heB4 heB12 heB13 dB gdB gcB gbB gaB hGB oB
     rintro s' ⟨e, tBx, nxBx, wqBx, rfl, heBx0, heBx1, heBx4, heBx12, heBx13, heBxb, oBx, hGBx⟩
     have gaBx := hGBx.le
     have gbBx := hGBx.hi
     have gcBx := hGBx.wlo
     have gdBx := hGBx.whi
     have dBx := hd.step (P' := P1) oBx hGBx.same hK kkS.2
     refine s_cond za (fun g9 => ?_) (fun g9 => ?_)
     ·have p9 := g9; try simp only [dd] at p9
      refine s_skip (se_seq (s_block (s_region hP hC (oM ?_))))
      refine os (x_bin (u := .int .i64 (jB - 1)) rfl za (by rfl) (by rw [b_sub, IntWalk.i64_in _ ow])) ?_
      refine oA ?_
      refine o_done (se_block ?_)
      refine se_loop ?_
      have hw1 : IntKind.i64.wrap (jB - 1) = jB - 1 := IntWalk.i64_in _ ow
      exact ⟨jB - 1, ⟨_, _, _, _, rfl, za, za, za, za, (by simp only [Tr.get_set, reduceIte, Nat.reduceEqDiff, Nat.reduceAdd, hw1, heBx0, heBx1, heBx4, heBx12, heBx13, heBxb, g9] <;> rfl), by omega, by omega, oBx, FrX.low hGBx ow, hEB.trans (dn_go (p := (fun x => !ltW x P1[a.toNat]!)) ow g9)⟩, by omega⟩
     ·have p9 := g9; try simp only [dd] at p9
      refine s_exit ?_
      refine se_seq_exit ?_
      refine se_loop_exit ?_
      refine se_block_eq (se_seq (s_seq (s_seq (s_region hP hC (oM ?_)))))
      refine oM ?_
      refine os (x_bin rfl za za b_gtr) ?_
      refine o_done (se_seq ?_)
      refine s_cond za (fun g11 => ?_) (fun g11 => ?_)
      ·have p11 := g11; try simp only [dd] at p11
       refine s_seq ?_
       have hV0 := hEB.trans (dn_stop (p := (fun x => !ltW x P1[a.toNat]!)) ow g9)
       refine s_join (fun s' => ∃ e tF nxF wqF, s' = ⟨e, 178, ⟨tF, nxF, wqF⟩⟩ /\ e.get 0 = some (.slice (some ⟨id, 0, none⟩) P.size c) /\ e.get 1 = some (.int .i64 (a)) /\ e.get 4 = some (CMPV) /\ e.get 13 = some (.int .i64 (jB)) /\ OwnS tF r id (vals (swp P1 (jB).toNat (a).toNat)) /\ FrX t nx wr tF nxF wqF r ((40 + 10 * (iA - a) + 10 * (b - jB)).toNat)) ?_ ?_
       ·skip
        refine s_draw hP hC zr ?_
        refine dM ?_
        refine dM ?_
        refine dM ?_
        refine dM ?_
        refine dM ?_
        refine dM ?_
        refine ds (x_index rfl za za u38 T.s22 ow ow) ?_
        refine ds (x_load1 rfl za T.g22 (l_vals oBx.whole ow ow)) ?_
        refine dM ?_
        refine dM ?_
        refine ds (x_index rfl za za u38 T.s22 ow ow) ?_
        refine ds (x_load1 rfl za T.g22 (l_vals oBx.whole ow ow)) ?_
        refine ds (x_index rfl za za u38 T.s22 ow ow) ?_
        have sv84 := (dBx.iv _ (mem_at (P := P1) (i := (a).toNat) ow)).1
        obtain ⟨tS84, oS84, kS84, hS84⟩ := x_storeS (P := Tryz.prog) (T := 22) (nx := nxBx) (off := 0 + (jB).toNat * 1) oBx (one_cells sv84.one) T.s22 (by first | (rw [vals_len]; omega) | (rw [List.length_set, vals_len]; omega)) sv84.one
        refine d_stepN (wA_none rfl) rfl (hS84 rfl za za) ?_
        refine ds (x_index rfl za za u38 T.s22 ow ow) ?_
        have sv85 := (dBx.iv _ (mem_at (P := P1) (i := (jB).toNat) ow)).1
        obtain ⟨tS85, oS85, kS85, hS85⟩ := x_storeS (P := Tryz.prog) (T := 22) (nx := nxBx) (off := 0 + (a).toNat * 1) oS84 (one_cells sv85.one) T.s22 (by first | (rw [vals_len]; omega) | (rw [List.length_set, vals_len]; omega)) sv85.one
        refine d_stepN (wA_none rfl) rfl (hS85 rfl za za) ?_
        refine d_done ⟨de_ok (tail_my (B := 0) (Y := none) (M := [0, 0, 0, 0, 0, 0, 0, 1, 0, 0, 0, 1, 0, 2, 0, 2]) (fw := 0) (my_w (my_op (my_w (my_op (my_q (my_op (my_op (my_op (my_q (my_op (my_op (my_op (my_op (my_op (my_op (my_op my_nil ow) ow) ow) ow) ow) ow) ow) ow) ow) ow) ow) ow) ow) (Nat.zero_le _) (fun y q => by cases q)) ow) (Nat.zero_le _) (fun y q => by cases q)) zd zr) (by try dsimp only; omega) (by try dsimp only; omega), ?_⟩
        refine se_loop ?_
        exact ⟨_, _, _, _, rfl, za, za, za, za, by rw [vals_swp ow ow]; rw [Nat.zero_add, Nat.mul_one, Nat.zero_add, Nat.mul_one] at oS85; exact oS85, ⟨ozz, ozz, ozz, ozz, fun k q1 q2 => (kS85 k q2).trans ((kS84 k q2).trans (hGBx.same k q1 q2))⟩⟩
       ·skip
        clear heBx0 heBx1 heBx4 heBx12 heBx13 heBxb dBx gdBx gcBx gbBx gaBx hGBx oBx
        rintro s' ⟨e, tF, nxF, wqF, rfl, heF0, heF1, heF4, heF13, oF, hGF⟩
        have kkF := kept_swp (i := (jB).toNat) (j := (a).toNat) kkS ow ow
        obtain ⟨P9, hnF⟩ : ∃ A, A = swp P1 (jB).toNat (a).toNat := ⟨_, rfl⟩
        rw [<-hnF] at oF kkF
        have zzF := kkF.1
        have gaF := hGF.le
        have gbF := hGF.hi
        have gcF := hGF.wlo
        have gdF := hGF.whi
        have dF := hd.step (P' := P9) oF hGF.same hK kkF.2
        refine s_seq (s_region hP hC (oM ?_))
        refine oA ?_
        refine oA ?_
        refine o_done (se_seq ?_)
        refine s_ret ?_
        refine se_seq_ret ?_
        rw [show (b - 1).toNat = b.toNat - 1 by omega, show (a + 1).toNat = a.toNat + 1 by omega] at hU0
        rw [show (b - 1).toNat = b.toNat - 1 by omega] at hV0
        have hpt := part_yes hnS hU0 hV0 ow
        rw [<-hnF] at hpt
        refine ⟨.inr rfl, _, (by simp only [Tryz.results55, resA, Tr.get_set, reduceIte, Nat.reduceEqDiff, Nat.reduceAdd, heF0, heF1, heF4, heF13] <;> rfl), fun K2 r2 id2 c2 Q2 a2 b2 p2 hs2 hd2 => ?_⟩
        obtain ⟨rfl, rfl, rfl, rfl⟩ := p3_args hs2
        obtain ⟨rfl, rfl⟩ := hd.uniq hd2
        exact ⟨_, _, _, _, _, _, rfl, rfl, by omega, hpt, oF, kkF, FrX.low hGF ow⟩
      ·have p11 := g11; try simp only [dd] at p11
       refine s_skip (se_seq (s_seq ?_))
       have hV0 := hEB.trans (dn_stop (p := (fun x => !ltW x P1[a.toNat]!)) ow g9)
       refine s_join (fun s' => ∃ e tH nxH wqH, s' = ⟨e, 178, ⟨tH, nxH, wqH⟩⟩ /\ e.get 0 = some (.slice (some ⟨id, 0, none⟩) P.size c) /\ e.get 1 = some (.int .i64 (a)) /\ e.get 4 = some (CMPV) /\ e.get 12 = some (.int .i64 (iA)) /\ e.get 13 = some (.int .i64 (jB)) /\ OwnS tH r id (vals (swp P1 (iA).toNat (jB).toNat)) /\ FrX t nx wr tH nxH wqH r ((40 + 10 * (iA - a) + 10 * (b - jB)).toNat)) ?_ ?_
       ·skip
        refine s_draw hP hC zr ?_
        refine dM ?_
        refine dM ?_
        refine dM ?_
        refine dM ?_
        refine dM ?_
        refine dM ?_
        refine ds (x_index rfl za za u38 T.s22 ow ow) ?_
        refine ds (x_load1 rfl za T.g22 (l_vals oBx.whole ow ow)) ?_
        refine dM ?_
        refine dM ?_
        refine ds (x_index rfl za za u38 T.s22 ow ow) ?_
        refine ds (x_load1 rfl za T.g22 (l_vals oBx.whole ow ow)) ?_
        refine ds (x_index rfl za za u38 T.s22 ow ow) ?_
        have sv99 := (dBx.iv _ (mem_at (P := P1) (i := (jB).toNat) ow)).1
        obtain ⟨tS99, oS99, kS99, hS99⟩ := x_storeS (P := Tryz.prog) (T := 22) (nx := nxBx) (off := 0 + (iA).toNat * 1) oBx (one_cells sv99.one) T.s22 (by first | (rw [vals_len]; omega) | (rw [List.length_set, vals_len]; omega)) sv99.one
        refine d_stepN (wA_none rfl) rfl (hS99 rfl za za) ?_
        refine ds (x_index rfl za za u38 T.s22 ow ow) ?_
        have sv100 := (dBx.iv _ (mem_at (P := P1) (i := (iA).toNat) ow)).1
        obtain ⟨tS100, oS100, kS100, hS100⟩ := x_storeS (P := Tryz.prog) (T := 22) (nx := nxBx) (off := 0 + (jB).toNat * 1) oS99 (one_cells sv100.one) T.s22 (by first | (rw [vals_len]; omega) | (rw [List.length_set, vals_len]; omega)) sv100.one
        refine d_stepN (wA_none rfl) rfl (hS100 rfl za za) ?_
        refine d_done ⟨de_ok (tail_my (B := 0) (Y := none) (M := [0, 0, 0, 0, 0, 0, 0, 1, 0, 0, 0, 1, 0, 2, 0, 2]) (fw := 0) (my_w (my_op (my_w (my_op (my_q (my_op (my_op (my_op (my_q (my_op (my_op (my_op (my_op (my_op (my_op (my_op my_nil ow) ow) ow) ow) ow) ow) ow) ow) ow) ow) ow) ow) ow) (Nat.zero_le _) (fun y q => by cases q)) ow) (Nat.zero_le _) (fun y q => by cases q)) zd zr) (by try dsimp only; omega) (by try dsimp only; omega), ?_⟩
        refine se_loop ?_
        exact ⟨_, _, _, _, rfl, za, za, za, za, za, by rw [vals_swp ow ow]; rw [Nat.zero_add, Nat.mul_one, Nat.zero_add, Nat.mul_one] at oS100; exact oS100, ⟨ozz, ozz, ozz, ozz, fun k q1 q2 => (kS100 k q2).trans ((kS99 k q2).trans (hGBx.same k q1 q2))⟩⟩
       ·skip
        clear heBx0 heBx1 heBx4 heBx12 heBx13 heBxb dBx gdBx gcBx gbBx gaBx hGBx oBx
        rintro s' ⟨e, tH, nxH, wqH, rfl, heH0, heH1, heH4, heH12, heH13, oH, hGH⟩
        have kkH := kept_swp (i := (iA).toNat) (j := (jB).toNat) kkS ow ow
        obtain ⟨P5, hnH⟩ : ∃ A, A = swp P1 (iA).toNat (jB).toNat := ⟨_, rfl⟩
        rw [<-hnH] at oH kkH
        have zzH := kkH.1
        have gaH := hGH.le
        have gbH := hGH.hi
        have gcH := hGH.wlo
        have gdH := hGH.whi
        have dH := hd.step (P' := P5) oH hGH.same hK kkH.2
        refine s_seq (s_region hP hC (oM ?_))
        refine os (x_bin (u := .int .i64 (iA + 1)) rfl za (by rfl) (by rw [b_add, IntWalk.i64_in _ ow])) ?_
        refine oA ?_
        refine o_done (se_seq (s_seq (s_region hP hC (oM ?_))))
        refine os (x_bin (u := .int .i64 (jB - 1)) rfl za (by rfl) (by rw [b_sub, IntWalk.i64_in _ ow])) ?_
        refine oA ?_
        refine o_done (se_seq (s_seq (s_block ?_)))
        refine s_loop (α := Int × Int × Array Wd) (fun (z : Int × Int × Array Wd) s' => ∃ e tC nxC wqC, s' = ⟨e, 178, ⟨tC, nxC, wqC⟩⟩ /\ e.get 0 = some (.slice (some ⟨id, 0, none⟩) P.size c) /\ e.get 1 = some (.int .i64 (a)) /\ e.get 4 = some (CMPV) /\ e.get 12 = some (.int .i64 (z.1)) /\ e.get 13 = some (.int .i64 (z.2.1)) /\ a + 1 <= z.1 /\ z.1 <= b /\ a <= z.2.1 /\ z.2.1 <= b - 1 /\ Kept P z.2.2 /\ OwnS tC r id (vals z.2.2) /\ FrX t nx wr tC nxC wqC r ((100 + 40 * ((z.1 - a) + (b - z.2.1))).toNat) /\ partLoop ltW a.toNat z.1.toNat z.2.1.toNat z.2.2 = partLoop ltW a.toNat (iA + 1).toNat (jB - 1).toNat P5) (fun z => (z.2.1 + 5 - z.1 + 5).toNat) (iA + 1, jB - 1, P5) ⟨_, _, _, _, rfl, za, za, za, za, za, by dsimp only; omega, by dsimp only; omega, by dsimp only; omega, by dsimp only; omega, kkH, oH, FrX.low hGH (by dsimp only; omega), rfl⟩ ?_
        clear heH0 heH1 heH4 heH12 heH13 dH gdH gcH gbH gaH hGH oH
        rintro ⟨iC, jC, P2⟩ s' ⟨e, tC, nxC, wqC, rfl, heC0, heC1, heC4, heC12, heC13, i0C, i1C, j0C, j1C, kkC, oC, hGC, hEC⟩
        dsimp only at heC0 heC1 heC4 heC12 heC13 i0C i1C j0C j1C kkC oC hGC hEC
        have zzC := kkC.1
        have gaC := hGC.le
        have gbC := hGC.hi
        have gcC := hGC.wlo
        have gdC := hGC.whi
        have dC := hd.step (P' := P2) oC hGC.same hK kkC.2
        refine s_block (s_seq (s_block ?_))
        refine s_loop (α := Int) (fun iD s' => ∃ e tD nxD wqD, s' = ⟨e, 178, ⟨tD, nxD, wqD⟩⟩ /\ e.get 0 = some (.slice (some ⟨id, 0, none⟩) P.size c) /\ e.get 1 = some (.int .i64 (a)) /\ e.get 4 = some (CMPV) /\ e.get 13 = some (.int .i64 (jC)) /\ e.get 12 = some (.int .i64 iD) /\ iC <= iD /\ iD <= b /\ OwnS tD r id (vals P2) /\ FrX t nx wr tD nxD wqD r ((100 + 40 * ((iC - a) + (b - jC)) + 10 * (iD - iC)).toNat) /\ scanUp (fun x => ltW x P2[a.toNat]!) P2 jC.toNat iC.toNat = scanUp (fun x => ltW x P2[a.toNat]!) P2 jC.toNat iD.toNat) (fun iD => (b + 5 - iD).toNat) (iC) ⟨_, _, _, _, rfl, za, za, za, za, za, by omega, by omega, oC, FrX.low hGC ow, rfl⟩ ?_
        clear dC gdC gcC gbC gaC hGC oC heC0 heC1 heC4 heC12 heC13
        rintro iD s' ⟨e, tD, nxD, wqD, rfl, heD0, heD1, heD4, heD13, heD12, r4D, r5D, oD, hGD, hED⟩
        have gaD := hGD.le
        have gbD := hGD.hi
        have gcD := hGD.wlo
        have gdD := hGD.whi
        have dD := hd.step (P' := P2) oD hGD.same hK kkC.2
        refine s_seq (s_seq ?_)
        refine s_join (fun s' => ∃ e tDx nxDx wqDx, s' = ⟨e, 178, ⟨tDx, nxDx, wqDx⟩⟩ /\ e.get 0 = some (.slice (some ⟨id, 0, none⟩) P.size c) /\ e.get 1 = some (.int .i64 (a)) /\ e.get 4 = some (CMPV) /\ e.get 13 = some (.int .i64 (jC)) /\ e.get 12 = some (.int .i64 iD) /\ e.get 120 = some (.bool (decide (iD <= jC) && lessW (P2[(iD).toNat]!).2 (P2[(a).toNat]!).2)) /\ OwnS tDx r id (vals P2) /\ FrX t nx wr tDx nxDx wqDx r ((110 + 40 * ((iC - a) + (b - jC)) + 10 * (iD - iC)).toNat)) ?_ ?_
        ·skip
         have hqB : nxD <= BIG := by omega
         refine s_draw hP hC zr ?_
         refine dM ?_
         refine dM ?_
         refine ds (x_bin rfl za za b_leq) ?_
         refine dM ?_
         refine d_guard rfl rfl za (fun g13 => ?_) (fun g13 => ?_)
         ·have p13 := g13; try simp only [dd] at p13
          refine d_step wZ rfl (x_move rfl za) zd ?_
          refine d_step wZ rfl (x_move rfl za) zd ?_
          refine d_step wZ rfl (x_move rfl za) zd ?_
          refine d_step wZ rfl (x_index rfl za za u38 T.s22 ow ow) zd ?_
          refine d_step wZ rfl (x_load1 rfl za T.g22 (l_vals oD.whole ow ow)) zd ?_
          refine d_step wZ rfl (x_move rfl za) zd ?_
          refine d_step wZ rfl (x_move rfl za) zd ?_
          refine d_step wZ rfl (x_index rfl za za u38 T.s22 ow ow) zd ?_
          refine d_step wZ rfl (x_load1 rfl za T.g22 (l_vals oD.whole ow ow)) zd ?_
          have hv13 := dD.iv _ (mem_at (P := P2) (i := (iD).toNat) ow)
          have hv23 := dD.iv _ (mem_at (P := P2) (i := (a).toNat) ow)
          refine d_callRC (vs := [(P2[(iD).toNat]!).1, (P2[(a).toNat]!).1]) (cap := []) (tab_hitR (ord_c (nx := nxD) hv13.1 hv23.1 (fun i q => by have := hK i q; omega) hv13.2 hv23.2 ow (Nat.le_refl _))) wZ rfl rfl rfl za ze zd (fun v3 ta3 na3 wa3 hR3 => ?_)
          obtain ⟨t3, nx3, wz3, he3, hf3, rfl⟩ := hR3
          cases he3
          have la3 := hf3.le
          have lb3 := hf3.hi
          have lw3 := hf3.wlo
          have hq3 : decide (nxD <= wa3) = true := decide_eq_true ow
          have qC3 : na3 <= BIG := by omega
          have qB3 : nxD <= BIG := by omega
          have ow3 := oD.keep (t' := ta3) (hf3.same _ ow) (hf3.same _ ow)
          refine d_step wZ rfl (x_bin rfl za (by rfl) b_lss) zd ?_
          refine ds (x_pick rfl zw zb) ?_
          refine d_done ⟨de_quiet (by simp only [List.all_append, List.all_cons, List.all_nil, infOf, decide_eq_true hqB, Bool.and_self, show Inf.skip.quiet = true from rfl, hq3, decide_eq_true qB3, decide_eq_true qC3]) zBG zBG, ?_⟩
          refine se_loop ?_
          exact ⟨_, _, _, _, rfl, za, za, za, za, za, (by rw [show decide (iD <= jC) = true from g13, Bool.true_and, <-ord_lt]; exact za), ow3, FrX.low (FrX.cmp hGD hf3 zwl zwh) ow⟩
         ·have p13 := g13; try simp only [dd] at p13
          refine dS ?_
          refine dS ?_
          refine dS ?_
          refine dS ?_
          refine dS ?_
          refine dS ?_
          refine dS ?_
          refine dS ?_
          refine dS ?_
          refine dS ?_
          refine dS ?_
          refine ds (x_pick rfl zw zb) ?_
          refine d_done ⟨de_quiet (by simp only [List.all_append, List.all_cons, List.all_nil, infOf, decide_eq_true hqB, Bool.and_self, show Inf.skip.quiet = true from rfl]) zBG zBG, ?_⟩
          refine se_loop ?_
          exact ⟨_, _, _, _, rfl, za, za, za, za, za, (by rw [show decide (iD <= jC) = false from g13, Bool.false_and]; exact za), oD, FrX.wr hGD zwl zwh ow⟩
        ·skip
         clear heD0 heD1 heD4 heD13 heD12 dD gdD gcD gbD gaD hGD oD
         rintro s' ⟨e, tDx, nxDx, wqDx, rfl, heDx0, heDx1, heDx4, heDx13, heDx12, heDxb, oDx, hGDx⟩
         have gaDx := hGDx.le
         have gbDx := hGDx.hi
         have gcDx := hGDx.wlo
         have gdDx := hGDx.whi
         have dDx := hd.step (P' := P2) oDx hGDx.same hK kkC.2
         refine s_cond za (fun g15 => ?_) (fun g15 => ?_)
         ·have p15 := g15; try simp only [dd] at p15
          refine s_skip (se_seq (s_block (s_region hP hC (oM ?_))))
          refine os (x_bin (u := .int .i64 (iD + 1)) rfl za (by rfl) (by rw [b_add, IntWalk.i64_in _ ow])) ?_
          refine oA ?_
          refine o_done (se_block ?_)
          refine se_loop ?_
          have hw1 : IntKind.i64.wrap (iD + 1) = iD + 1 := IntWalk.i64_in _ ow
          exact ⟨iD + 1, ⟨_, _, _, _, rfl, za, za, za, za, (by simp only [Tr.get_set, reduceIte, Nat.reduceEqDiff, Nat.reduceAdd, hw1, heDx0, heDx1, heDx4, heDx13, heDx12, heDxb, g15] <;> rfl), by omega, by omega, oDx, FrX.low hGDx ow, hED.trans (up_go (p := (fun x => ltW x P2[a.toNat]!)) ow ow g15)⟩, by omega⟩
         ·have p15 := g15; try simp only [dd] at p15
          refine s_exit ?_
          refine se_seq_exit ?_
          refine se_loop_exit ?_
          refine se_block_eq (se_seq (s_seq (s_block ?_)))
          have hU := hED.trans (up_stop (p := (fun x => ltW x P2[a.toNat]!)) ow ow g15)
          refine s_loop (α := Int) (fun jE s' => ∃ e tE nxE wqE, s' = ⟨e, 178, ⟨tE, nxE, wqE⟩⟩ /\ e.get 0 = some (.slice (some ⟨id, 0, none⟩) P.size c) /\ e.get 1 = some (.int .i64 (a)) /\ e.get 4 = some (CMPV) /\ e.get 12 = some (.int .i64 (iD)) /\ e.get 13 = some (.int .i64 jE) /\ a <= jE /\ jE <= jC /\ OwnS tE r id (vals P2) /\ FrX t nx wr tE nxE wqE r ((110 + 40 * ((iC - a) + (b - jC)) + 10 * (iD - iC) + 10 * (jC - jE)).toNat) /\ scanDown (fun x => !ltW x P2[a.toNat]!) P2 iD.toNat jC.toNat = scanDown (fun x => !ltW x P2[a.toNat]!) P2 iD.toNat jE.toNat) (fun jE => (jE + 5).toNat) (jC) ⟨_, _, _, _, rfl, za, za, za, za, za, by omega, by omega, oDx, FrX.low hGDx ow, rfl⟩ ?_
          clear heDx0 heDx1 heDx4 heDx13 heDx12 heDxb dDx gdDx gcDx gbDx gaDx hGDx oDx
          rintro jE s' ⟨e, tE, nxE, wqE, rfl, heE0, heE1, heE4, heE12, heE13, r6E, r7E, oE, hGE, hEE⟩
          have gaE := hGE.le
          have gbE := hGE.hi
          have gcE := hGE.wlo
          have gdE := hGE.whi
          have dE := hd.step (P' := P2) oE hGE.same hK kkC.2
          refine s_seq (s_seq ?_)
          refine s_join (fun s' => ∃ e tEx nxEx wqEx, s' = ⟨e, 178, ⟨tEx, nxEx, wqEx⟩⟩ /\ e.get 0 = some (.slice (some ⟨id, 0, none⟩) P.size c) /\ e.get 1 = some (.int .i64 (a)) /\ e.get 4 = some (CMPV) /\ e.get 12 = some (.int .i64 (iD)) /\ e.get 13 = some (.int .i64 jE) /\ e.get 139 = some (.bool (decide (iD <= jE) && !lessW (P2[(jE).toNat]!).2 (P2[(a).toNat]!).2)) /\ OwnS tEx r id (vals P2) /\ FrX t nx wr tEx nxEx wqEx r ((120 + 40 * ((iC - a) + (b - jC)) + 10 * (iD - iC) + 10 * (jC - jE)).toNat)) ?_ ?_
          ·skip
           have hqB : nxE <= BIG := by omega
           refine s_draw hP hC zr ?_
           refine dM ?_
           refine dM ?_
           refine ds (x_bin rfl za za b_leq) ?_
           refine dM ?_
           refine d_guard rfl rfl za (fun g17 => ?_) (fun g17 => ?_)
           ·have p17 := g17; try simp only [dd] at p17
            refine d_step wZ rfl (x_move rfl za) zd ?_
            refine d_step wZ rfl (x_move rfl za) zd ?_
            refine d_step wZ rfl (x_move rfl za) zd ?_
            refine d_step wZ rfl (x_index rfl za za u38 T.s22 ow ow) zd ?_
            refine d_step wZ rfl (x_load1 rfl za T.g22 (l_vals oE.whole ow ow)) zd ?_
            refine d_step wZ rfl (x_move rfl za) zd ?_
            refine d_step wZ rfl (x_move rfl za) zd ?_
            refine d_step wZ rfl (x_index rfl za za u38 T.s22 ow ow) zd ?_
            refine d_step wZ rfl (x_load1 rfl za T.g22 (l_vals oE.whole ow ow)) zd ?_
            have hv14 := dE.iv _ (mem_at (P := P2) (i := (jE).toNat) ow)
            have hv24 := dE.iv _ (mem_at (P := P2) (i := (a).toNat) ow)
            refine d_callRC (vs := [(P2[(jE).toNat]!).1, (P2[(a).toNat]!).1]) (cap := []) (tab_hitR (ord_c (nx := nxE) hv14.1 hv24.1 (fun i q => by have := hK i q; omega) hv14.2 hv24.2 ow (Nat.le_refl _))) wZ rfl rfl rfl za ze zd (fun v4 ta4 na4 wa4 hR4 => ?_)
            obtain ⟨t4, nx4, wz4, he4, hf4, rfl⟩ := hR4
            cases he4
            have la4 := hf4.le
            have lb4 := hf4.hi
            have lw4 := hf4.wlo
            have hq4 : decide (nxE <= wa4) = true := decide_eq_true ow
            have qC4 : na4 <= BIG := by omega
            have qB4 : nxE <= BIG := by omega
            have ow4 := oE.keep (t' := ta4) (hf4.same _ ow) (hf4.same _ ow)
            refine d_step wZ rfl (x_bin rfl za (by rfl) b_lss) zd ?_
            refine d_step wZ rfl (x_not rfl zw) zd ?_
            refine ds (x_pick rfl zw zb) ?_
            refine d_done ⟨de_quiet (by simp only [List.all_append, List.all_cons, List.all_nil, infOf, decide_eq_true hqB, Bool.and_self, show Inf.skip.quiet = true from rfl, hq4, decide_eq_true qB4, decide_eq_true qC4]) zBG zBG, ?_⟩
            refine se_loop ?_
            exact ⟨_, _, _, _, rfl, za, za, za, za, za, (by rw [show decide (iD <= jE) = true from g17, Bool.true_and, <-ord_lt]; exact za), ow4, FrX.low (FrX.cmp hGE hf4 zwl zwh) ow⟩
           ·have p17 := g17; try simp only [dd] at p17
            refine dS ?_
            refine dS ?_
            refine dS ?_
            refine dS ?_
            refine dS ?_
            refine dS ?_
            refine dS ?_
            refine dS ?_
            refine dS ?_
            refine dS ?_
            refine dS ?_
            refine dS ?_
            refine ds (x_pick rfl zw zb) ?_
            refine d_done ⟨de_quiet (by simp only [List.all_append, List.all_cons, List.all_nil, infOf, decide_eq_true hqB, Bool.and_self, show Inf.skip.quiet = true from rfl]) zBG zBG, ?_⟩
            refine se_loop ?_
            exact ⟨_, _, _, _, rfl, za, za, za, za, za, (by rw [show decide (iD <= jE) = false from g17, Bool.false_and]; exact za), oE, FrX.wr hGE zwl zwh ow⟩
          ·skip
           clear heE0 heE1 heE4 heE12 heE13 dE gdE gcE gbE gaE hGE oE
           rintro s' ⟨e, tEx, nxEx, wqEx, rfl, heEx0, heEx1, heEx4, heEx12, heEx13, heExb, oEx, hGEx⟩
           have gaEx := hGEx.le
           have gbEx := hGEx.hi
           have gcEx := hGEx.wlo
           have gdEx := hGEx.whi
           have dEx := hd.step (P' := P2) oEx hGEx.same hK kkC.2
           refine s_cond za (fun g20 => ?_) (fun g20 => ?_)
           ·have p20 := g20; try simp only [dd] at p20
            refine s_skip (se_seq (s_block (s_region hP hC (oM ?_))))
            refine os (x_bin (u := .int .i64 (jE - 1)) rfl za (by rfl) (by rw [b_sub, IntWalk.i64_in _ ow])) ?_
            refine oA ?_
            refine o_done (se_block ?_)
            refine se_loop ?_
            have hw1 : IntKind.i64.wrap (jE - 1) = jE - 1 := IntWalk.i64_in _ ow
            exact ⟨jE - 1, ⟨_, _, _, _, rfl, za, za, za, za, (by simp only [Tr.get_set, reduceIte, Nat.reduceEqDiff, Nat.reduceAdd, hw1, heEx0, heEx1, heEx4, heEx12, heEx13, heExb, g20] <;> rfl), by omega, by omega, oEx, FrX.low hGEx ow, hEE.trans (dn_go (p := (fun x => !ltW x P2[a.toNat]!)) ow g20)⟩, by omega⟩
           ·have p20 := g20; try simp only [dd] at p20
            refine s_exit ?_
            refine se_seq_exit ?_
            refine se_loop_exit ?_
            refine se_block_eq (se_seq (s_seq (s_seq (s_region hP hC (oM ?_)))))
            refine oM ?_
            refine os (x_bin rfl za za b_gtr) ?_
            refine o_done (se_seq ?_)
            refine s_cond za (fun g22 => ?_) (fun g22 => ?_)
            ·have p22 := g22; try simp only [dd] at p22
             refine s_exit ?_
             refine se_seq_exit ?_
             refine se_block_ne zd ?_
             refine se_loop_exit ?_
             refine se_block_eq (se_seq (s_seq ?_))
             have hV := hEE.trans (dn_stop (p := (fun x => !ltW x P2[a.toNat]!)) ow g20)
             refine s_join (fun s' => ∃ e tZ nxZ wqZ, s' = ⟨e, 178, ⟨tZ, nxZ, wqZ⟩⟩ /\ e.get 0 = some (.slice (some ⟨id, 0, none⟩) P.size c) /\ e.get 1 = some (.int .i64 (a)) /\ e.get 4 = some (CMPV) /\ e.get 13 = some (.int .i64 (jE)) /\ OwnS tZ r id (vals (swp P2 (jE).toNat (a).toNat)) /\ FrX t nx wr tZ nxZ wqZ r ((120 + 40 * ((iC - a) + (b - jC)) + 10 * (iD - iC) + 10 * (jC - jE)).toNat)) ?_ ?_
             ·skip
              refine s_draw hP hC zr ?_
              refine dM ?_
              refine dM ?_
              refine dM ?_
              refine dM ?_
              refine dM ?_
              refine dM ?_
              refine ds (x_index rfl za za u38 T.s22 ow ow) ?_
              refine ds (x_load1 rfl za T.g22 (l_vals oEx.whole ow ow)) ?_
              refine dM ?_
              refine dM ?_
              refine ds (x_index rfl za za u38 T.s22 ow ow) ?_
              refine ds (x_load1 rfl za T.g22 (l_vals oEx.whole ow ow)) ?_
              refine ds (x_index rfl za za u38 T.s22 ow ow) ?_
              have sv175 := (dEx.iv _ (mem_at (P := P2) (i := (a).toNat) ow)).1
              obtain ⟨tS175, oS175, kS175, hS175⟩ := x_storeS (P := Tryz.prog) (T := 22) (nx := nxEx) (off := 0 + (jE).toNat * 1) oEx (one_cells sv175.one) T.s22 (by first | (rw [vals_len]; omega) | (rw [List.length_set, vals_len]; omega)) sv175.one
              refine d_stepN (wA_none rfl) rfl (hS175 rfl za za) ?_
              refine ds (x_index rfl za za u38 T.s22 ow ow) ?_
              have sv176 := (dEx.iv _ (mem_at (P := P2) (i := (jE).toNat) ow)).1
              obtain ⟨tS176, oS176, kS176, hS176⟩ := x_storeS (P := Tryz.prog) (T := 22) (nx := nxEx) (off := 0 + (a).toNat * 1) oS175 (one_cells sv176.one) T.s22 (by first | (rw [vals_len]; omega) | (rw [List.length_set, vals_len]; omega)) sv176.one
              refine d_stepN (wA_none rfl) rfl (hS176 rfl za za) ?_
              refine d_done ⟨de_ok (tail_my (B := 0) (Y := none) (M := [0, 0, 0, 0, 0, 0, 0, 1, 0, 0, 0, 1, 0, 2, 0, 2]) (fw := 0) (my_w (my_op (my_w (my_op (my_q (my_op (my_op (my_op (my_q (my_op (my_op (my_op (my_op (my_op (my_op (my_op my_nil ow) ow) ow) ow) ow) ow) ow) ow) ow) ow) ow) ow) ow) (Nat.zero_le _) (fun y q => by cases q)) ow) (Nat.zero_le _) (fun y q => by cases q)) zd zr) (by try dsimp only; omega) (by try dsimp only; omega), ?_⟩
              refine se_loop ?_
              exact ⟨_, _, _, _, rfl, za, za, za, za, by rw [vals_swp ow ow]; rw [Nat.zero_add, Nat.mul_one, Nat.zero_add, Nat.mul_one] at oS176; exact oS176, ⟨ozz, ozz, ozz, ozz, fun k q1 q2 => (kS176 k q2).trans ((kS175 k q2).trans (hGEx.same k q1 q2))⟩⟩
             ·skip
              clear heEx0 heEx1 heEx4 heEx12 heEx13 heExb dEx gdEx gcEx gbEx gaEx hGEx oEx
              rintro s' ⟨e, tZ, nxZ, wqZ, rfl, heZ0, heZ1, heZ4, heZ13, oZ, hGZ⟩
              have kkZ := kept_swp (i := (jE).toNat) (j := (a).toNat) kkC ow ow
              obtain ⟨P6, hnZ⟩ : ∃ A, A = swp P2 (jE).toNat (a).toNat := ⟨_, rfl⟩
              rw [<-hnZ] at oZ kkZ
              have zzZ := kkZ.1
              have gaZ := hGZ.le
              have gbZ := hGZ.hi
              have gcZ := hGZ.wlo
              have gdZ := hGZ.whi
              have dZ := hd.step (P' := P6) oZ hGZ.same hK kkZ.2
              refine s_seq (s_region hP hC (oM ?_))
              refine oA ?_
              refine oA ?_
              refine o_done (se_seq ?_)
              refine s_ret ?_
              rw [show (b - 1).toNat = b.toNat - 1 by omega, show (a + 1).toNat = a.toNat + 1 by omega] at hU0
              rw [show (b - 1).toNat = b.toNat - 1 by omega] at hV0
              have hst := (pl_stop hU hV ow).symm.trans hEC
              rw [show (iA + 1).toNat = iA.toNat + 1 by omega, show (jB - 1).toNat = jB.toNat - 1 by omega, hnH] at hst
              have hpt := part_no hnS hU0 hV0 ow hst.symm
              rw [<-hnZ] at hpt
              refine ⟨.inr rfl, _, (by simp only [Tryz.results55, resA, Tr.get_set, reduceIte, Nat.reduceEqDiff, Nat.reduceAdd, heZ0, heZ1, heZ4, heZ13] <;> rfl), fun K2 r2 id2 c2 Q2 a2 b2 p2 hs2 hd2 => ?_⟩
              obtain ⟨rfl, rfl, rfl, rfl⟩ := p3_args hs2
              obtain ⟨rfl, rfl⟩ := hd.uniq hd2
              exact ⟨_, _, _, _, _, _, rfl, rfl, by omega, hpt, oZ, kkZ, FrX.low hGZ ow⟩
            ·have p22 := g22; try simp only [dd] at p22
             refine s_skip (se_seq (s_seq ?_))
             have hV := hEE.trans (dn_stop (p := (fun x => !ltW x P2[a.toNat]!)) ow g20)
             refine s_join (fun s' => ∃ e tG nxG wqG, s' = ⟨e, 178, ⟨tG, nxG, wqG⟩⟩ /\ e.get 0 = some (.slice (some ⟨id, 0, none⟩) P.size c) /\ e.get 1 = some (.int .i64 (a)) /\ e.get 4 = some (CMPV) /\ e.get 12 = some (.int .i64 (iD)) /\ e.get 13 = some (.int .i64 (jE)) /\ OwnS tG r id (vals (swp P2 (iD).toNat (jE).toNat)) /\ FrX t nx wr tG nxG wqG r ((120 + 40 * ((iC - a) + (b - jC)) + 10 * (iD - iC) + 10 * (jC - jE)).toNat)) ?_ ?_
             ·skip
              refine s_draw hP hC zr ?_
              refine dM ?_
              refine dM ?_
              refine dM ?_
              refine dM ?_
              refine dM ?_
              refine dM ?_
              refine ds (x_index rfl za za u38 T.s22 ow ow) ?_
              refine ds (x_load1 rfl za T.g22 (l_vals oEx.whole ow ow)) ?_
              refine dM ?_
              refine dM ?_
              refine ds (x_index rfl za za u38 T.s22 ow ow) ?_
              refine ds (x_load1 rfl za T.g22 (l_vals oEx.whole ow ow)) ?_
              refine ds (x_index rfl za za u38 T.s22 ow ow) ?_
              have sv157 := (dEx.iv _ (mem_at (P := P2) (i := (jE).toNat) ow)).1
              obtain ⟨tS157, oS157, kS157, hS157⟩ := x_storeS (P := Tryz.prog) (T := 22) (nx := nxEx) (off := 0 + (iD).toNat * 1) oEx (one_cells sv157.one) T.s22 (by first | (rw [vals_len]; omega) | (rw [List.length_set, vals_len]; omega)) sv157.one
              refine d_stepN (wA_none rfl) rfl (hS157 rfl za za) ?_
              refine ds (x_index rfl za za u38 T.s22 ow ow) ?_
              have sv158 := (dEx.iv _ (mem_at (P := P2) (i := (iD).toNat) ow)).1
              obtain ⟨tS158, oS158, kS158, hS158⟩ := x_storeS (P := Tryz.prog) (T := 22) (nx := nxEx) (off := 0 + (jE).toNat * 1) oS157 (one_cells sv158.one) T.s22 (by first | (rw [vals_len]; omega) | (rw [List.length_set, vals_len]; omega)) sv158.one
              refine d_stepN (wA_none rfl) rfl (hS158 rfl za za) ?_
              refine d_done ⟨de_ok (tail_my (B := 0) (Y := none) (M := [0, 0, 0, 0, 0, 0, 0, 1, 0, 0, 0, 1, 0, 2, 0, 2]) (fw := 0) (my_w (my_op (my_w (my_op (my_q (my_op (my_op (my_op (my_q (my_op (my_op (my_op (my_op (my_op (my_op (my_op my_nil ow) ow) ow) ow) ow) ow) ow) ow) ow) ow) ow) ow) ow) (Nat.zero_le _) (fun y q => by cases q)) ow) (Nat.zero_le _) (fun y q => by cases q)) zd zr) (by try dsimp only; omega) (by try dsimp only; omega), ?_⟩
              refine se_loop ?_
              exact ⟨_, _, _, _, rfl, za, za, za, za, za, by rw [vals_swp ow ow]; rw [Nat.zero_add, Nat.mul_one, Nat.zero_add, Nat.mul_one] at oS158; exact oS158, ⟨ozz, ozz, ozz, ozz, fun k q1 q2 => (kS158 k q2).trans ((kS157 k q2).trans (hGEx.same k q1 q2))⟩⟩
             ·skip
              clear heEx0 heEx1 heEx4 heEx12 heEx13 heExb dEx gdEx gcEx gbEx gaEx hGEx oEx
              rintro s' ⟨e, tG, nxG, wqG, rfl, heG0, heG1, heG4, heG12, heG13, oG, hGG⟩
              have kkG := kept_swp (i := (iD).toNat) (j := (jE).toNat) kkC ow ow
              obtain ⟨P3, hnG⟩ : ∃ A, A = swp P2 (iD).toNat (jE).toNat := ⟨_, rfl⟩
              rw [<-hnG] at oG kkG
              have zzG := kkG.1
              have gaG := hGG.le
              have gbG := hGG.hi
              have gcG := hGG.wlo
              have gdG := hGG.whi
              have dG := hd.step (P' := P3) oG hGG.same hK kkG.2
              refine s_seq (s_region hP hC (oM ?_))
              refine os (x_bin (u := .int .i64 (iD + 1)) rfl za (by rfl) (by rw [b_add, IntWalk.i64_in _ ow])) ?_
              refine oA ?_
              refine o_done (se_seq (s_region hP hC (oM ?_)))
              refine os (x_bin (u := .int .i64 (jE - 1)) rfl za (by rfl) (by rw [b_sub, IntWalk.i64_in _ ow])) ?_
              refine oA ?_
              refine o_done (se_block ?_)
              refine se_loop ?_
              have hw1 : IntKind.i64.wrap (iD + 1) = iD + 1 := IntWalk.i64_in _ ow
              have hw2 : IntKind.i64.wrap (jE - 1) = jE - 1 := IntWalk.i64_in _ ow
              have hgo := pl_go hU hV ow
              rw [show iD.toNat + 1 = (iD + 1).toNat by omega, show jE.toNat - 1 = (jE - 1).toNat by omega, <-hnG] at hgo
              exact ⟨(iD + 1, jE - 1, P3), ⟨_, _, _, _, rfl, za, za, za, (by simp only [Tr.get_set, reduceIte, Nat.reduceEqDiff, Nat.reduceAdd, hw1, hw2, heG0, heG1, heG4, heG12, heG13] <;> rfl), (by simp only [Tr.get_set, reduceIte, Nat.reduceEqDiff, Nat.reduceAdd, hw1, hw2, heG0, heG1, heG4, heG12, heG13] <;> rfl), by dsimp only; omega, by dsimp only; omega, by dsimp only; omega, by dsimp only; omega, kkG, oG, FrX.low hGG (by dsimp only; omega), hgo.symm.trans hEC⟩, by dsimp only; omega⟩
end Go.Proofs.YtmladpbadglecaaGreatDoor
