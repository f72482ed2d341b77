/-
  A part of a list, split by its pivot: those that are equal.
-/
import Derived.Test.YtmladpbadglecaaGreatDoorHWi
set_option linter.unusedSimpArgs false
set_option linter.unusedVariables false
namespace Go.Proofs.YtmladpbadglecaaGreatDoor
open Go.AM
set_option maxRecDepth 100000
set_option maxHeartbeats 1000000
open Go.Sort
set_option maxHeartbeats 16000000
theorem kept_swp {P A : Array Wd} {i j : Nat} (h : Kept P A) (hi : i < A.size) (hj : j < A.size) : Kept P (swp A i j) := h.trans ⟨size_swp .., fun x hx => mem_swp hi hj hx⟩
theorem zwl {a b : Nat} (h : a <= b := by (try dsimp only); (repeat' refine Nat.le_min.2 ⟨?_, ?_⟩) <;> omega) : a <= b := h
theorem zwh {a b : Nat} (h : a <= b := by (try dsimp only); (repeat refine Nat.le_trans (Nat.min_le_left _ _) ?_); omega) : a <= b := h
theorem FrX.cmp {t t' t2 : Tr AObj} {nx wr nx' wr' nx2 w2 r k w : Nat} (h : FrX t nx wr t' nx' wr' r k) (hf : Fr t' nx' BIG t2 nx2 w2 10) (h1 : min wr (min r nx) <= w) (h2 : w <= wr') : FrX t nx wr t2 nx2 w r (k + 10) :=
 ⟨by have := h.le; have := hf.le; omega, by have := h.hi; have := hf.hi; omega, h1, by have := h.whi; omega, fun i q1 q2 => (hf.same i (by have := h.le; omega)).trans (h.same i q1 q2)⟩
theorem FrX.wr {t t' : Tr AObj} {nx wr nx' wr' r k k' w : Nat} (h : FrX t nx wr t' nx' wr' r k) (h1 : min wr (min r nx) <= w) (h2 : w <= wr') (hk : k <= k') : FrX t nx wr t' nx' w r k' := ⟨h.le, Nat.le_trans h.hi ow, h1, Nat.le_trans h2 h.whi, h.same⟩
theorem p3_args {id id2 n n2 c c2 : Nat} {a a2 b b2 p p2 : Int} {x : Value} (h : [Value.slice (some ⟨id, 0, none⟩) n c, .int .i64 a, .int .i64 b, .int .i64 p, x] = [.slice (some ⟨id2, 0, none⟩) n2 c2, .int .i64 a2, .int .i64 b2, .int .i64 p2, x]) : id2 = id /\ a2 = a /\ b2 = b /\ p2 = p := by
 simp only [List.cons.injEq, Value.slice.injEq, Option.some.injEq, Addr.mk.injEq, Value.int.injEq, and_true, true_and] at h
 obtain ⟨⟨h1, _⟩, h2, h3, h4⟩ := h
 exact ⟨h1.symm, h2.symm, h3.symm, h4.symm⟩
section
variable {p : Wd -> Bool} {d : Array Wd} {i j : Int}
theorem up_go (h0 : 0 <= i) (hj : 0 <= j) (hb : (decide (i <= j) && p d[i.toNat]!) = true) : scanUp p d j.toNat i.toNat = scanUp p d j.toNat (i + 1).toNat := by
 rw [Bool.and_eq_true] at hb
 have h := of_decide_eq_true hb.1
 conv => lhs; unfold scanUp
 rw [if_pos (by rw [Bool.and_eq_true]; exact ⟨decide_eq_true ow, hb.2⟩), show (i + 1).toNat = i.toNat + 1 by omega]
theorem up_stop (h0 : 0 <= i) (hj : 0 <= j) (hb : (decide (i <= j) && p d[i.toNat]!) = false) : scanUp p d j.toNat i.toNat = i.toNat := by
 unfold scanUp
 rw [if_neg]
 rw [Bool.and_eq_true]
 rintro ⟨q1, q2⟩
 have q1 := of_decide_eq_true q1
 rw [decide_eq_true ow, q2] at hb
 cases hb
theorem dn_go (h0 : 0 < i) (hb : (decide (i <= j) && p d[j.toNat]!) = true) : scanDown p d i.toNat j.toNat = scanDown p d i.toNat (j - 1).toNat := by
 rw [Bool.and_eq_true] at hb
 have h := of_decide_eq_true hb.1
 obtain ⟨n, rfl⟩ : ∃ n : Nat, j = n + 1 := ⟨(j - 1).toNat, by omega⟩
 have e1 : ((n : Int) + 1).toNat = n + 1 := by omega
 have e2 : ((n : Int) + 1 - 1).toNat = n := by omega
 rw [e1] at hb
 rw [e1, e2, scanDown, if_pos (by rw [Bool.and_eq_true]; exact ⟨decide_eq_true ow, hb.2⟩)]
theorem dn_stop (h0 : 0 < i) (hb : (decide (i <= j) && p d[j.toNat]!) = false) : scanDown p d i.toNat j.toNat = j.toNat := by
 by_cases hj : j <= 0
 ·rw [show j.toNat = 0 by omega]
  rfl
 ·obtain ⟨n, rfl⟩ : ∃ n : Nat, j = n + 1 := ⟨(j - 1).toNat, by omega⟩
  have e1 : ((n : Int) + 1).toNat = n + 1 := by omega
  rw [e1] at hb
  rw [e1, scanDown, if_neg]
  rw [Bool.and_eq_true]
  rintro ⟨q1, q2⟩
  have q1 := of_decide_eq_true q1
  rw [decide_eq_true ow, q2] at hb
  cases hb
end
section
variable {d : Array Wd} {a i j i2 j2 : Nat}
theorem pe_stop (hi : scanUp (fun x => !ltW d[a]! x) d j i = i2) (hj : scanDown (fun x => ltW d[a]! x) d i2 j = j2) (h : i2 > j2) : partEqLoop ltW a i j d = (i2, d) := by
 rw [partEqLoop_eq, hi, hj, if_pos h]
theorem pe_go (hi : scanUp (fun x => !ltW d[a]! x) d j i = i2) (hj : scanDown (fun x => ltW d[a]! x) d i2 j = j2) (h : ¬ i2 > j2) : partEqLoop ltW a i j d = partEqLoop ltW a (i2 + 1) (j2 - 1) (swp d i2 j2) := by
 rw [partEqLoop_eq, hi, hj, if_neg h]
theorem pl_stop (hi : scanUp (fun x => ltW x d[a]!) d j i = i2) (hj : scanDown (fun x => !ltW x d[a]!) d i2 j = j2) (h : i2 > j2) : partLoop ltW a i j d = (j2, d) := by
 rw [partLoop_eq, hi, hj, if_pos h]
theorem pl_go (hi : scanUp (fun x => ltW x d[a]!) d j i = i2) (hj : scanDown (fun x => !ltW x d[a]!) d i2 j = j2) (h : ¬ i2 > j2) : partLoop ltW a i j d = partLoop ltW a (i2 + 1) (j2 - 1) (swp d i2 j2) := by
 rw [partLoop_eq, hi, hj, if_neg h]
end
def R_pe : List Value -> AH -> Value -> AH -> Prop := fun args h v h' => ∀ K r id c (P : Array Wd) (a b p : Int), args = [.slice (some ⟨id, 0, none⟩) P.size c, .int .i64 a, .int .i64 b, .int .i64 p, CMPV] -> DS h.t K r id P -> ∃ t' nx' wr', ∃ m : Int, ∃ P4, h' = ⟨t', nx', wr'⟩ /\ v = .int .i64 m /\ 0 <= m /\ partitionEqual ltW P a.toNat b.toNat p.toNat = (m.toNat, P4) /\ OwnS t' r id (vals P4) /\ Kept P P4 /\ FrX h.t h.next h.wr t' nx' wr' r 8000
noncomputable def c_pe := cEx Tryz.prog 54 R_pe
theorem con_pe : Con Tryz.prog 54 c_pe := con_ex Tryz.func54 rfl
theorem pe_c {t : Tr AObj} {K : Nat -> Prop} {nx wr : Nat} {r id c : Nat} {P : Array Wd} {a b p : Int} (hd : DS t K r id P) (hK : ∀ i, K i -> i < nx /\ i ≠ r) (hr : r < nx) (hid : id < nx) (hz : P.size <= 40) (ha : 0 <= a) (hap : a <= p) (hpb : p < b) (hb : b <= P.size) (hN : nx + 4000000 <= BIG) (hwr : wr <= BIG) : ∃ v h', c_pe [.slice (some ⟨id, 0, none⟩) P.size c, .int .i64 a, .int .i64 b, .int .i64 p, CMPV] ⟨t, nx, wr⟩ = some (v, h') /\ ∃ t' nx' wr', ∃ m : Int, ∃ P4, h' = ⟨t', nx', wr'⟩ /\ v = .int .i64 m /\ 0 <= m /\ partitionEqual ltW P a.toNat b.toNat p.toNat = (m.toNat, P4) /\ OwnS t' r id (vals P4) /\ Kept P P4 /\ FrX t nx wr t' nx' wr' r 8000 := by
 have hP := Fits
 have hC : CallSound Tryz.prog (tabOf [(18, c_ord)]) := tab_sound (tab_cons con_ord tab_end)
 suffices key : SureK Tryz.prog ⟨t, nx, wr⟩ _ [] _ (EndR Tryz.prog _ (R_pe [.slice (some ⟨id, 0, none⟩) P.size c, .int .i64 a, .int .i64 b, .int .i64 p, CMPV] ⟨t, nx, wr⟩)) by
  obtain ⟨v, h', q, x⟩ := sure_start (R := R_pe) (sz := 90) Tryz.func54 rfl rfl zo key
  exact ⟨v, h', q, x K r id c P a b p rfl hd⟩
 refine s_seq (s_region hP hC (oA ?_))
 refine o_done (se_seq (s_seq ?_))
 refine s_join (fun s' => ∃ e tS nxS wqS, s' = ⟨e, 90, ⟨tS, nxS, wqS⟩⟩ /\ e.get 0 = some (.slice (some ⟨id, 0, none⟩) P.size c) /\ e.get 1 = some (.int .i64 (a)) /\ e.get 4 = some (CMPV) /\ e.get 2 = some (.int .i64 (b)) /\ OwnS tS r id (vals (swp P (a).toNat (p).toNat)) /\ FrX t nx wr tS nxS wqS r (10)) ?_ ?_
 ·skip
  refine s_draw hP hC zr ?_
  refine dM ?_
  refine dM ?_
  refine dM ?_
  refine dM ?_
  refine dM ?_
  refine dM ?_
  refine ds (x_index rfl zt zt u38 T.s22 ow ow) ?_
  refine ds (x_load1 rfl zt T.g22 (l_vals hd.own.whole ow ow)) ?_
  refine dM ?_
  refine dM ?_
  refine ds (x_index rfl zt zt u38 T.s22 ow ow) ?_
  refine ds (x_load1 rfl zt T.g22 (l_vals hd.own.whole ow ow)) ?_
  refine ds (x_index rfl zt zt u38 T.s22 ow ow) ?_
  have sv25 := (hd.iv _ (mem_at (P := P) (i := (p).toNat) ow)).1
  obtain ⟨tS25, oS25, kS25, hS25⟩ := x_storeS (P := Tryz.prog) (T := 22) (nx := nx) (off := 0 + (a).toNat * 1) hd.own (one_cells sv25.one) T.s22 (by first | (rw [vals_len]; omega) | (rw [List.length_set, vals_len]; omega)) sv25.one
  refine d_stepN (wA_none rfl) rfl (hS25 rfl zt zt) ?_
  refine ds (x_index rfl zt zt u38 T.s22 ow ow) ?_
  have sv26 := (hd.iv _ (mem_at (P := P) (i := (a).toNat) ow)).1
  obtain ⟨tS26, oS26, kS26, hS26⟩ := x_storeS (P := Tryz.prog) (T := 22) (nx := nx) (off := 0 + (p).toNat * 1) oS25 (one_cells sv26.one) T.s22 (by first | (rw [vals_len]; omega) | (rw [List.length_set, vals_len]; omega)) sv26.one
  refine d_stepN (wA_none rfl) rfl (hS26 rfl zt zt) ?_
  refine d_done ⟨de_ok (tail_my (B := 0) (Y := none) (M := [0, 0, 0, 0, 0, 0, 0, 1, 0, 0, 0, 1, 0, 2, 0, 2]) (fw := 0) (my_w (my_op (my_w (my_op (my_q (my_op (my_op (my_op (my_q (my_op (my_op (my_op (my_op (my_op (my_op (my_op my_nil ow) ow) ow) ow) ow) ow) ow) ow) ow) ow) ow) ow) ow) (Nat.zero_le _) (fun y q => by cases q)) ow) (Nat.zero_le _) (fun y q => by cases q)) zd zr) (by try dsimp only; omega) (by try dsimp only; omega), ?_⟩
  refine se_loop ?_
  exact ⟨_, _, _, _, rfl, hg, hg, hg, hg, by rw [vals_swp ow ow]; rw [Nat.zero_add, Nat.mul_one, Nat.zero_add, Nat.mul_one] at oS26; exact oS26, ⟨ozz, ozz, ozz, ozz, fun k q1 q2 => (kS26 k q2).trans ((kS25 k q2).trans ((FrX.refl (t := t) (nx := nx) (wr := wr) (r := r) (k := 0)).same k q1 q2))⟩⟩
 ·skip
  rintro s' ⟨e, tS, nxS, wqS, rfl, heS0, heS1, heS4, heS2, oS, hGS⟩
  have kkS := kept_swp (i := (a).toNat) (j := (p).toNat) (show Kept P P from ⟨rfl, fun x hx => hx⟩) ow ow
  obtain ⟨P1, hnS⟩ : ∃ A, A = swp P (a).toNat (p).toNat := ⟨_, rfl⟩
  rw [<-hnS] at oS kkS
  have zzS := kkS.1
  have gaS := hGS.le
  have gbS := hGS.hi
  have gcS := hGS.wlo
  have gdS := hGS.whi
  have dS := hd.step (P' := P1) oS hGS.same hK kkS.2
  refine s_seq (s_region hP hC (oM ?_))
  refine os (x_bin (u := .int .i64 (a + 1)) rfl za (by rfl) (by rw [b_add, IntWalk.i64_in _ ow])) ?_
  refine oM ?_
  refine os (x_bin (u := .int .i64 (b - 1)) rfl za (by rfl) (by rw [b_sub, IntWalk.i64_in _ ow])) ?_
  refine oA ?_
  refine oA ?_
  refine o_done (se_seq (s_seq (s_block ?_)))
  have hR0 : partEqLoop ltW a.toNat (a + 1).toNat (b - 1).toNat P1 = partitionEqual ltW P a.toNat b.toNat p.toNat := by
   rw [hnS, show (a + 1).toNat = a.toNat + 1 by omega, show (b - 1).toNat = b.toNat - 1 by omega]
   rfl
  refine s_loop (α := Int × Int × Array Wd) (fun (z : Int × Int × Array Wd) s' => ∃ e tC nxC wqC, s' = ⟨e, 90, ⟨tC, nxC, wqC⟩⟩ /\ e.get 0 = some (.slice (some ⟨id, 0, none⟩) P.size c) /\ e.get 1 = some (.int .i64 (a)) /\ e.get 4 = some (CMPV) /\ e.get 11 = some (.int .i64 (z.1)) /\ e.get 12 = some (.int .i64 (z.2.1)) /\ a + 1 <= z.1 /\ z.1 <= b /\ a <= z.2.1 /\ z.2.1 <= b - 1 /\ Kept P z.2.2 /\ OwnS tC r id (vals z.2.2) /\ FrX t nx wr tC nxC wqC r ((100 + 40 * ((z.1 - a) + (b - z.2.1))).toNat) /\ partEqLoop ltW a.toNat z.1.toNat z.2.1.toNat z.2.2 = partitionEqual ltW P a.toNat b.toNat p.toNat) (fun z => (z.2.1 + 5 - z.1 + 5).toNat) (a + 1, b - 1, P1) ⟨_, _, _, _, rfl, za, za, za, za, za, by dsimp only; omega, by dsimp only; omega, by dsimp only; omega, by dsimp only; omega, kkS, oS, FrX.low hGS (by dsimp only; omega), hR0⟩ ?_
  clear heS0 heS1 heS4 heS2 dS gdS gcS gbS gaS hGS oS hR0
  rintro ⟨iC, jC, P2⟩ s' ⟨e, tC, nxC, wqC, rfl, heC0, heC1, heC4, heC11, heC12, i0C, i1C, j0C, j1C, kkC, oC, hGC, hEC⟩
  dsimp only at heC0 heC1 heC4 heC11 heC12 i0C i1C j0C j1C kkC oC hGC hEC
  have zzC := kkC.1
  have gaC := hGC.le
  have gbC := hGC.hi
  have gcC := hGC.wlo
  have gdC := hGC.whi
  have dC := hd.step (P' := P2) oC hGC.same hK kkC.2
  refine s_block (s_seq (s_block ?_))
  skip
  refine s_loop (α := Int) (fun iD s' => ∃ e tD nxD wqD, s' = ⟨e, 90, ⟨tD, nxD, wqD⟩⟩ /\ e.get 0 = some (.slice (some ⟨id, 0, none⟩) P.size c) /\ e.get 1 = some (.int .i64 (a)) /\ e.get 4 = some (CMPV) /\ e.get 12 = some (.int .i64 (jC)) /\ e.get 11 = some (.int .i64 iD) /\ iC <= iD /\ iD <= b /\ OwnS tD r id (vals P2) /\ FrX t nx wr tD nxD wqD r ((100 + 40 * ((iC - a) + (b - jC)) + 10 * (iD - iC)).toNat) /\ scanUp (fun x => !ltW P2[a.toNat]! x) P2 jC.toNat iC.toNat = scanUp (fun x => !ltW P2[a.toNat]! x) P2 jC.toNat iD.toNat) (fun iD => (b + 5 - iD).toNat) (iC) ⟨_, _, _, _, rfl, za, za, za, za, za, by omega, by omega, oC, FrX.low hGC ow, rfl⟩ ?_
  clear dC gdC gcC gbC gaC hGC oC heC0 heC1 heC4 heC11 heC12
  rintro iD s' ⟨e, tD, nxD, wqD, rfl, heD0, heD1, heD4, heD12, heD11, r0D, r1D, oD, hGD, hED⟩
  have gaD := hGD.le
  have gbD := hGD.hi
  have gcD := hGD.wlo
  have gdD := hGD.whi
  have dD := hd.step (P' := P2) oD hGD.same hK kkC.2
  refine s_seq (s_seq ?_)
  refine s_join (fun s' => ∃ e tDx nxDx wqDx, s' = ⟨e, 90, ⟨tDx, nxDx, wqDx⟩⟩ /\ e.get 0 = some (.slice (some ⟨id, 0, none⟩) P.size c) /\ e.get 1 = some (.int .i64 (a)) /\ e.get 4 = some (CMPV) /\ e.get 12 = some (.int .i64 (jC)) /\ e.get 11 = some (.int .i64 iD) /\ e.get 47 = some (.bool (decide (iD <= jC) && !lessW (P2[(a).toNat]!).2 (P2[(iD).toNat]!).2)) /\ OwnS tDx r id (vals P2) /\ FrX t nx wr tDx nxDx wqDx r ((110 + 40 * ((iC - a) + (b - jC)) + 10 * (iD - iC)).toNat)) ?_ ?_
  ·skip
   have hqB : nxD <= BIG := by omega
   refine s_draw hP hC zr ?_
   refine dM ?_
   refine dM ?_
   refine ds (x_bin rfl za za b_leq) ?_
   refine dM ?_
   refine d_guard rfl rfl za (fun g2 => ?_) (fun g2 => ?_)
   ·have p2 := g2; try simp only [dd] at p2
    refine d_step wZ rfl (x_move rfl za) zd ?_
    refine d_step wZ rfl (x_move rfl za) zd ?_
    refine d_step wZ rfl (x_move rfl za) zd ?_
    refine d_step wZ rfl (x_index rfl za za u38 T.s22 ow ow) zd ?_
    refine d_step wZ rfl (x_load1 rfl za T.g22 (l_vals oD.whole ow ow)) zd ?_
    refine d_step wZ rfl (x_move rfl za) zd ?_
    refine d_step wZ rfl (x_move rfl za) zd ?_
    refine d_step wZ rfl (x_index rfl za za u38 T.s22 ow ow) zd ?_
    refine d_step wZ rfl (x_load1 rfl za T.g22 (l_vals oD.whole ow ow)) zd ?_
    have hv11 := dD.iv _ (mem_at (P := P2) (i := (a).toNat) ow)
    have hv21 := dD.iv _ (mem_at (P := P2) (i := (iD).toNat) ow)
    refine d_callRC (vs := [(P2[(a).toNat]!).1, (P2[(iD).toNat]!).1]) (cap := []) (tab_hitR (ord_c (nx := nxD) hv11.1 hv21.1 (fun i q => by have := hK i q; omega) hv11.2 hv21.2 ow (Nat.le_refl _))) wZ rfl rfl rfl za ze zd (fun v1 ta1 na1 wa1 hR1 => ?_)
    obtain ⟨t1, nx1, wz1, he1, hf1, rfl⟩ := hR1
    cases he1
    have la1 := hf1.le
    have lb1 := hf1.hi
    have lw1 := hf1.wlo
    have hq1 : decide (nxD <= wa1) = true := decide_eq_true ow
    have qC1 : na1 <= BIG := by omega
    have qB1 : nxD <= BIG := by omega
    have ow1 := oD.keep (t' := ta1) (hf1.same _ ow) (hf1.same _ ow)
    refine d_step wZ rfl (x_bin rfl za (by rfl) b_lss) zd ?_
    refine d_step wZ rfl (x_not rfl zw) zd ?_
    refine ds (x_pick rfl zw zb) ?_
    refine d_done ⟨de_quiet (by simp only [List.all_append, List.all_cons, List.all_nil, infOf, decide_eq_true hqB, Bool.and_self, show Inf.skip.quiet = true from rfl, hq1, decide_eq_true qB1, decide_eq_true qC1]) zBG zBG, ?_⟩
    refine se_loop ?_
    exact ⟨_, _, _, _, rfl, za, za, za, za, za, (by rw [show decide (iD <= jC) = true from g2, Bool.true_and, <-ord_lt]; exact za), ow1, FrX.low (FrX.cmp hGD hf1 zwl zwh) ow⟩
   ·have p2 := g2; try simp only [dd] at p2
    refine dS ?_
    refine dS ?_
    refine dS ?_
    refine dS ?_
    refine dS ?_
    refine dS ?_
    refine dS ?_
    refine dS ?_
    refine dS ?_
    refine dS ?_
    refine dS ?_
    refine dS ?_
    refine ds (x_pick rfl zw zb) ?_
    refine d_done ⟨de_quiet (by simp only [List.all_append, List.all_cons, List.all_nil, infOf, decide_eq_true hqB, Bool.and_self, show Inf.skip.quiet = true from rfl]) zBG zBG, ?_⟩
    refine se_loop ?_
    exact ⟨_, _, _, _, rfl, za, za, za, za, za, (by rw [show decide (iD <= jC) = false from g2, Bool.false_and]; exact za), oD, FrX.wr hGD zwl zwh ow⟩
  ·skip
   clear heD0 heD1 heD4 heD12 heD11 dD gdD gcD gbD gaD hGD oD
   rintro s' ⟨e, tDx, nxDx, wqDx, rfl, heDx0, heDx1, heDx4, heDx12, heDx11, heDxb, oDx, hGDx⟩
   have gaDx := hGDx.le
   have gbDx := hGDx.hi
   have gcDx := hGDx.wlo
   have gdDx := hGDx.whi
   have dDx := hd.step (P' := P2) oDx hGDx.same hK kkC.2
   refine s_cond za (fun g5 => ?_) (fun g5 => ?_)
   ·have p5 := g5; try simp only [dd] at p5
    refine s_skip (se_seq (s_block (s_region hP hC (oM ?_))))
    refine os (x_bin (u := .int .i64 (iD + 1)) rfl za (by rfl) (by rw [b_add, IntWalk.i64_in _ ow])) ?_
    refine oA ?_
    refine o_done (se_block ?_)
    refine se_loop ?_
    have hw1 : IntKind.i64.wrap (iD + 1) = iD + 1 := IntWalk.i64_in _ ow
    exact ⟨iD + 1, ⟨_, _, _, _, rfl, za, za, za, za, (by simp only [Tr.get_set, reduceIte, Nat.reduceEqDiff, Nat.reduceAdd, hw1, heDx0, heDx1, heDx4, heDx12, heDx11, heDxb, g5] <;> rfl), by omega, by omega, oDx, FrX.low hGDx ow, hED.trans (up_go (p := (fun x => !ltW P2[a.toNat]! x)) ow ow g5)⟩, by omega⟩
   ·have p5 := g5; try simp only [dd] at p5
    refine s_exit ?_
    refine se_seq_exit ?_
    refine se_loop_exit ?_
    refine se_block_eq (se_seq (s_seq (s_block ?_)))
    have hU := hED.trans (up_stop (p := (fun x => !ltW P2[a.toNat]! x)) ow ow g5)
    refine s_loop (α := Int) (fun jE s' => ∃ e tE nxE wqE, s' = ⟨e, 90, ⟨tE, nxE, wqE⟩⟩ /\ e.get 0 = some (.slice (some ⟨id, 0, none⟩) P.size c) /\ e.get 1 = some (.int .i64 (a)) /\ e.get 4 = some (CMPV) /\ e.get 11 = some (.int .i64 (iD)) /\ e.get 12 = some (.int .i64 jE) /\ a <= jE /\ jE <= jC /\ OwnS tE r id (vals P2) /\ FrX t nx wr tE nxE wqE r ((110 + 40 * ((iC - a) + (b - jC)) + 10 * (iD - iC) + 10 * (jC - jE)).toNat) /\ scanDown (fun x => ltW P2[a.toNat]! x) P2 iD.toNat jC.toNat = scanDown (fun x => ltW P2[a.toNat]! x) P2 iD.toNat jE.toNat) (fun jE => (jE + 5).toNat) (jC) ⟨_, _, _, _, rfl, za, za, za, za, za, by omega, by omega, oDx, FrX.low hGDx ow, rfl⟩ ?_
    clear heDx0 heDx1 heDx4 heDx12 heDx11 heDxb dDx gdDx gcDx gbDx gaDx hGDx oDx
    rintro jE s' ⟨e, tE, nxE, wqE, rfl, heE0, heE1, heE4, heE11, heE12, r2E, r3E, oE, hGE, hEE⟩
    have gaE := hGE.le
    have gbE := hGE.hi
    have gcE := hGE.wlo
    have gdE := hGE.whi
    have dE := hd.step (P' := P2) oE hGE.same hK kkC.2
    refine s_seq (s_seq ?_)
    refine s_join (fun s' => ∃ e tEx nxEx wqEx, s' = ⟨e, 90, ⟨tEx, nxEx, wqEx⟩⟩ /\ e.get 0 = some (.slice (some ⟨id, 0, none⟩) P.size c) /\ e.get 1 = some (.int .i64 (a)) /\ e.get 4 = some (CMPV) /\ e.get 11 = some (.int .i64 (iD)) /\ e.get 12 = some (.int .i64 jE) /\ e.get 65 = some (.bool (decide (iD <= jE) && lessW (P2[(a).toNat]!).2 (P2[(jE).toNat]!).2)) /\ OwnS tEx r id (vals P2) /\ FrX t nx wr tEx nxEx wqEx r ((120 + 40 * ((iC - a) + (b - jC)) + 10 * (iD - iC) + 10 * (jC - jE)).toNat)) ?_ ?_
    ·skip
     have hqB : nxE <= BIG := by omega
     refine s_draw hP hC zr ?_
     refine dM ?_
     refine dM ?_
     refine ds (x_bin rfl za za b_leq) ?_
     refine dM ?_
     refine d_guard rfl rfl za (fun g7 => ?_) (fun g7 => ?_)
     ·have p7 := g7; try simp only [dd] at p7
      refine d_step wZ rfl (x_move rfl za) zd ?_
      refine d_step wZ rfl (x_move rfl za) zd ?_
      refine d_step wZ rfl (x_move rfl za) zd ?_
      refine d_step wZ rfl (x_index rfl za za u38 T.s22 ow ow) zd ?_
      refine d_step wZ rfl (x_load1 rfl za T.g22 (l_vals oE.whole ow ow)) zd ?_
      refine d_step wZ rfl (x_move rfl za) zd ?_
      refine d_step wZ rfl (x_move rfl za) zd ?_
      refine d_step wZ rfl (x_index rfl za za u38 T.s22 ow ow) zd ?_
      refine d_step wZ rfl (x_load1 rfl za T.g22 (l_vals oE.whole ow ow)) zd ?_
      have hv12 := dE.iv _ (mem_at (P := P2) (i := (a).toNat) ow)
      have hv22 := dE.iv _ (mem_at (P := P2) (i := (jE).toNat) ow)
      refine d_callRC (vs := [(P2[(a).toNat]!).1, (P2[(jE).toNat]!).1]) (cap := []) (tab_hitR (ord_c (nx := nxE) hv12.1 hv22.1 (fun i q => by have := hK i q; omega) hv12.2 hv22.2 ow (Nat.le_refl _))) wZ rfl rfl rfl za ze zd (fun v2 ta2 na2 wa2 hR2 => ?_)
      obtain ⟨t2, nx2, wz2, he2, hf2, rfl⟩ := hR2
      cases he2
      have la2 := hf2.le
      have lb2 := hf2.hi
      have lw2 := hf2.wlo
      have hq2 : decide (nxE <= wa2) = true := decide_eq_true ow
      have qC2 : na2 <= BIG := by omega
      have qB2 : nxE <= BIG := by omega
      have ow2 := oE.keep (t' := ta2) (hf2.same _ ow) (hf2.same _ ow)
      refine d_step wZ rfl (x_bin rfl za (by rfl) b_lss) zd ?_
      refine ds (x_pick rfl zw zb) ?_
      refine d_done ⟨de_quiet (by simp only [List.all_append, List.all_cons, List.all_nil, infOf, decide_eq_true hqB, Bool.and_self, show Inf.skip.quiet = true from rfl, hq2, decide_eq_true qB2, decide_eq_true qC2]) zBG zBG, ?_⟩
      refine se_loop ?_
      exact ⟨_, _, _, _, rfl, za, za, za, za, za, (by rw [show decide (iD <= jE) = true from g7, Bool.true_and, <-ord_lt]; exact za), ow2, FrX.low (FrX.cmp hGE hf2 zwl zwh) ow⟩
     ·have p7 := g7; try simp only [dd] at p7
      refine dS ?_
      refine dS ?_
      refine dS ?_
      refine dS ?_
      refine dS ?_
      refine dS ?_
      refine dS ?_
      refine dS ?_
      refine dS ?_
      refine dS ?_
      refine dS ?_
      refine ds (x_pick rfl zw zb) ?_
      refine d_done ⟨de_quiet (by simp only [List.all_append, List.all_cons, List.all_nil, infOf, decide_eq_true hqB, Bool.and_self, show Inf.skip.quiet = true from rfl]) zBG zBG, ?_⟩
      refine se_loop ?_
      exact ⟨_, _, _, _, rfl, za, za, za, za, za, (by rw [show decide (iD <= jE) = false from g7, Bool.false_and]; exact za), oE, FrX.wr hGE zwl zwh ow⟩
    ·skip
     clear heE0 heE1 heE4 heE11 heE12 dE gdE gcE gbE gaE hGE oE
     rintro s' ⟨e, tEx, nxEx, wqEx, rfl, heEx0, heEx1, heEx4, heEx11, heEx12, heExb, oEx, hGEx⟩
     have gaEx := hGEx.le
     have gbEx := hGEx.hi
     have gcEx := hGEx.wlo
     have gdEx := hGEx.whi
     have dEx := hd.step (P' := P2) oEx hGEx.same hK kkC.2
     refine s_cond za (fun g9 => ?_) (fun g9 => ?_)
     ·have p9 := g9; try simp only [dd] at p9
      refine s_skip (se_seq (s_block (s_region hP hC (oM ?_))))
      refine os (x_bin (u := .int .i64 (jE - 1)) rfl za (by rfl) (by rw [b_sub, IntWalk.i64_in _ ow])) ?_
      refine oA ?_
      refine o_done (se_block ?_)
      refine se_loop ?_
      have hw1 : IntKind.i64.wrap (jE - 1) = jE - 1 := IntWalk.i64_in _ ow
      exact ⟨jE - 1, ⟨_, _, _, _, rfl, za, za, za, za, (by simp only [Tr.get_set, reduceIte, Nat.reduceEqDiff, Nat.reduceAdd, hw1, heEx0, heEx1, heEx4, heEx11, heEx12, heExb, g9] <;> rfl), by omega, by omega, oEx, FrX.low hGEx ow, hEE.trans (dn_go (p := (fun x => ltW P2[a.toNat]! x)) ow g9)⟩, by omega⟩
     ·have p9 := g9; try simp only [dd] at p9
      refine s_exit ?_
      refine se_seq_exit ?_
      refine se_loop_exit ?_
      refine se_block_eq (se_seq (s_seq (s_seq (s_region hP hC (oM ?_)))))
      refine oM ?_
      refine os (x_bin rfl za za b_gtr) ?_
      refine o_done (se_seq ?_)
      refine s_cond za (fun g11 => ?_) (fun g11 => ?_)
      ·have p11 := g11; try simp only [dd] at p11
       refine s_exit ?_
       refine se_seq_exit ?_
       refine se_block_ne zd ?_
       refine se_loop_exit ?_
       refine se_block_eq (se_seq (s_seq (s_region hP hC (oM ?_))))
       refine oA ?_
       refine o_done (se_seq ?_)
       refine s_ret ?_
       have hV := hEE.trans (dn_stop (p := (fun x => ltW P2[a.toNat]! x)) ow g9)
       have hst := (pe_stop hU hV ow).symm.trans hEC
       refine ⟨.inr rfl, _, (by simp only [Tryz.results54, resA, Tr.get_set, reduceIte, Nat.reduceEqDiff, Nat.reduceAdd, heEx0, heEx1, heEx4, heEx11, heEx12, heExb, g9, g11] <;> rfl), fun K2 r2 id2 c2 Q2 a2 b2 p2 hs2 hd2 => ?_⟩
       obtain ⟨rfl, rfl, rfl, rfl⟩ := p3_args hs2
       obtain ⟨rfl, rfl⟩ := hd.uniq hd2
       exact ⟨_, _, _, _, _, rfl, rfl, by omega, hst.symm, oEx, kkC, FrX.low hGEx ow⟩
      ·have p11 := g11; try simp only [dd] at p11
       refine s_skip (se_seq (s_seq ?_))
       have hV := hEE.trans (dn_stop (p := (fun x => ltW P2[a.toNat]! x)) ow g9)
       refine s_join (fun s' => ∃ e tG nxG wqG, s' = ⟨e, 90, ⟨tG, nxG, wqG⟩⟩ /\ e.get 0 = some (.slice (some ⟨id, 0, none⟩) P.size c) /\ e.get 1 = some (.int .i64 (a)) /\ e.get 4 = some (CMPV) /\ e.get 11 = some (.int .i64 (iD)) /\ e.get 12 = some (.int .i64 (jE)) /\ OwnS tG r id (vals (swp P2 (iD).toNat (jE).toNat)) /\ FrX t nx wr tG nxG wqG r ((120 + 40 * ((iC - a) + (b - jC)) + 10 * (iD - iC) + 10 * (jC - jE)).toNat)) ?_ ?_
       ·skip
        refine s_draw hP hC zr ?_
        refine dM ?_
        refine dM ?_
        refine dM ?_
        refine dM ?_
        refine dM ?_
        refine dM ?_
        refine ds (x_index rfl za za u38 T.s22 ow ow) ?_
        refine ds (x_load1 rfl za T.g22 (l_vals oEx.whole ow ow)) ?_
        refine dM ?_
        refine dM ?_
        refine ds (x_index rfl za za u38 T.s22 ow ow) ?_
        refine ds (x_load1 rfl za T.g22 (l_vals oEx.whole ow ow)) ?_
        refine ds (x_index rfl za za u38 T.s22 ow ow) ?_
        have sv83 := (dEx.iv _ (mem_at (P := P2) (i := (jE).toNat) ow)).1
        obtain ⟨tS83, oS83, kS83, hS83⟩ := x_storeS (P := Tryz.prog) (T := 22) (nx := nxEx) (off := 0 + (iD).toNat * 1) oEx (one_cells sv83.one) T.s22 (by first | (rw [vals_len]; omega) | (rw [List.length_set, vals_len]; omega)) sv83.one
        refine d_stepN (wA_none rfl) rfl (hS83 rfl za za) ?_
        refine ds (x_index rfl za za u38 T.s22 ow ow) ?_
        have sv84 := (dEx.iv _ (mem_at (P := P2) (i := (iD).toNat) ow)).1
        obtain ⟨tS84, oS84, kS84, hS84⟩ := x_storeS (P := Tryz.prog) (T := 22) (nx := nxEx) (off := 0 + (jE).toNat * 1) oS83 (one_cells sv84.one) T.s22 (by first | (rw [vals_len]; omega) | (rw [List.length_set, vals_len]; omega)) sv84.one
        refine d_stepN (wA_none rfl) rfl (hS84 rfl za za) ?_
        refine d_done ⟨de_ok (tail_my (B := 0) (Y := none) (M := [0, 0, 0, 0, 0, 0, 0, 1, 0, 0, 0, 1, 0, 2, 0, 2]) (fw := 0) (my_w (my_op (my_w (my_op (my_q (my_op (my_op (my_op (my_q (my_op (my_op (my_op (my_op (my_op (my_op (my_op my_nil ow) ow) ow) ow) ow) ow) ow) ow) ow) ow) ow) ow) ow) (Nat.zero_le _) (fun y q => by cases q)) ow) (Nat.zero_le _) (fun y q => by cases q)) zd zr) (by try dsimp only; omega) (by try dsimp only; omega), ?_⟩
        refine se_loop ?_
        exact ⟨_, _, _, _, rfl, za, za, za, za, za, by rw [vals_swp ow ow]; rw [Nat.zero_add, Nat.mul_one, Nat.zero_add, Nat.mul_one] at oS84; exact oS84, ⟨ozz, ozz, ozz, ozz, fun k q1 q2 => (kS84 k q2).trans ((kS83 k q2).trans (hGEx.same k q1 q2))⟩⟩
       ·skip
        clear heEx0 heEx1 heEx4 heEx11 heEx12 heExb dEx gdEx gcEx gbEx gaEx hGEx oEx
        rintro s' ⟨e, tG, nxG, wqG, rfl, heG0, heG1, heG4, heG11, heG12, oG, hGG⟩
        have kkG := kept_swp (i := (iD).toNat) (j := (jE).toNat) kkC ow ow
        obtain ⟨P3, hnG⟩ : ∃ A, A = swp P2 (iD).toNat (jE).toNat := ⟨_, rfl⟩
        rw [<-hnG] at oG kkG
        have zzG := kkG.1
        have gaG := hGG.le
        have gbG := hGG.hi
        have gcG := hGG.wlo
        have gdG := hGG.whi
        have dG := hd.step (P' := P3) oG hGG.same hK kkG.2
        refine s_seq (s_region hP hC (oM ?_))
        refine os (x_bin (u := .int .i64 (iD + 1)) rfl za (by rfl) (by rw [b_add, IntWalk.i64_in _ ow])) ?_
        refine oA ?_
        refine o_done (se_seq (s_region hP hC (oM ?_)))
        refine os (x_bin (u := .int .i64 (jE - 1)) rfl za (by rfl) (by rw [b_sub, IntWalk.i64_in _ ow])) ?_
        refine oA ?_
        refine o_done (se_block ?_)
        refine se_loop ?_
        have hw1 : IntKind.i64.wrap (iD + 1) = iD + 1 := IntWalk.i64_in _ ow
        have hw2 : IntKind.i64.wrap (jE - 1) = jE - 1 := IntWalk.i64_in _ ow
        have hgo := pe_go hU hV ow
        rw [show iD.toNat + 1 = (iD + 1).toNat by omega, show jE.toNat - 1 = (jE - 1).toNat by omega, <-hnG] at hgo
        exact ⟨(iD + 1, jE - 1, P3), ⟨_, _, _, _, rfl, za, za, za, (by simp only [Tr.get_set, reduceIte, Nat.reduceEqDiff, Nat.reduceAdd, hw1, hw2, heG0, heG1, heG4, heG11, heG12] <;> rfl), (by simp only [Tr.get_set, reduceIte, Nat.reduceEqDiff, Nat.reduceAdd, hw1, hw2, heG0, heG1, heG4, heG11, heG12] <;> rfl), by dsimp only; omega, by dsimp only; omega, by dsimp only; omega, by dsimp only; omega, kkG, oG, FrX.low hGG (by dsimp only; omega), hgo.symm.trans hEC⟩, by dsimp only; omega⟩
end Go.Proofs.YtmladpbadglecaaGreatDoor
