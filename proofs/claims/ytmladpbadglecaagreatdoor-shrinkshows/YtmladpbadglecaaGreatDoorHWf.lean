/-
  Insertion sort.
-/
import Derived.Test.YtmladpbadglecaaGreatDoorHSd
set_option linter.unusedSimpArgs false
set_option linter.unusedVariables false
namespace Go.Proofs.YtmladpbadglecaaGreatDoor
open Go.AM
set_option maxRecDepth 100000
set_option maxHeartbeats 1000000
open Go.Sort
set_option maxHeartbeats 16000000
noncomputable def c_ins := cEx Tryz.prog 48 (SR (insertionSort ltW) 80000)
theorem con_ins : Con Tryz.prog 48 c_ins := con_ex Tryz.func48 rfl
theorem ins_c {t : Tr AObj} {K : Nat -> Prop} {r id c nx wr a b : Nat} {P : Array Wd} (hd : DS t K r id P) (hK : ∀ i, K i -> i < nx /\ i ≠ r) (hr : r < nx) (hid : id < nx) (hab : a <= b) (hb : b <= P.size) (hz : P.size <= 64) (hN : nx + 4000000 <= BIG) (hwr : wr <= BIG) : ∃ v h', c_ins [.slice (some ⟨id, 0, none⟩) P.size c, .int .i64 (a : Int), .int .i64 (b : Int), CMPV] ⟨t, nx, wr⟩ = some (v, h') /\ ∃ t' nx' wr', h' = ⟨t', nx', wr'⟩ /\ OwnS t' r id (vals ((insertionSort ltW) P a b)) /\ Kept P ((insertionSort ltW) P a b) /\ FrX t nx wr t' nx' wr' r 80000 := by
 have hP := Fits
 have hC : CallSound Tryz.prog (tabOf [(18, c_ord)]) := tab_sound (tab_cons con_ord tab_end)
 suffices key : SureK Tryz.prog ⟨t, nx, wr⟩ _ [] _ (EndR Tryz.prog _ (SR (insertionSort ltW) 80000 [.slice (some ⟨id, 0, none⟩) P.size c, .int .i64 (a : Int), .int .i64 (b : Int), CMPV] ⟨t, nx, wr⟩)) by
  obtain ⟨v, h', q, x⟩ := sure_start (R := SR (insertionSort ltW) 80000) (sz := 53) Tryz.func48 rfl rfl zo key
  exact ⟨v, h', q, x K r id c P a b rfl hd⟩
 refine s_seq (s_region hP hC (oM ?_))
 refine os (x_bin rfl zt (by rfl) (b_addR ow)) ?_
 refine oA ?_
 refine o_done (se_seq (s_block ?_))
 refine s_loop (α := Int) (fun i s' => ∃ e t1 nx1 wq1, ∃ P1 : Array Wd, s' = ⟨e, 53, ⟨t1, nx1, wq1⟩⟩ /\ e.get 0 = some (.slice (some ⟨id, 0, none⟩) P.size c) /\ e.get 1 = some (.int .i64 (a : Int)) /\ e.get 2 = some (.int .i64 (b : Int)) /\ e.get 3 = some (CMPV) /\ e.get 8 = some (.int .i64 i) /\ (a : Int) + 1 <= i /\ (i <= b \/ i = (a : Int) + 1) /\ P1.size = P.size /\ (∀ x ∈ P1.toList, x ∈ P.toList) /\ OwnS t1 r id (vals P1) /\ FrX t nx wr t1 nx1 wq1 r (1000 * (i - a).toNat) /\ insOuter ltW a b i.toNat P1 = insertionSort ltW P a b) (fun i => ((b : Int) - i).toNat) ((a : Int) + 1) ⟨_, _, _, _, P, rfl, hg, hg, hg, hg, hg, by omega, .inr rfl, rfl, fun x hx => hx, hd.own, FrX.refl, by unfold insertionSort; rw [show ((a : Int) + 1).toNat = a + 1 by omega]⟩ ?_
 rintro i s' ⟨e, t1, nx1, wq1, P1, rfl, hea0, hea1, hea2, hea3, hea8, i0, i1, z1, m1, o1, hG, hE⟩
 have g1 := hG.le
 have g2 := hG.hi
 have g3 := hG.wlo
 have g4 := hG.whi
 have d1' := hd.step (P' := P1) o1 hG.same hK m1
 refine s_seq (s_seq (s_region hP hC (oM ?_)))
 refine oM ?_
 refine os (x_bin rfl za za b_lss) ?_
 refine o_done (se_seq ?_)
 refine s_cond za (fun g2 => ?_) (fun g2 => ?_)
 ·have p2 := g2; try simp only [dd] at p2
  refine s_skip (se_seq (s_seq (s_block (s_seq (s_region hP hC (oM ?_))))))
  refine oA ?_
  refine o_done (se_seq (s_block ?_))
  refine s_loop (α := Int) (fun j s' => ∃ e t2 nx2 wq2, ∃ P2 : Array Wd, s' = ⟨e, 53, ⟨t2, nx2, wq2⟩⟩ /\ e.get 0 = some (.slice (some ⟨id, 0, none⟩) P.size c) /\ e.get 1 = some (.int .i64 (a : Int)) /\ e.get 2 = some (.int .i64 (b : Int)) /\ e.get 3 = some (CMPV) /\ e.get 8 = some (.int .i64 i) /\ e.get 9 = some (.int .i64 j) /\ (a : Int) <= j /\ j <= i /\ P2.size = P.size /\ (∀ x ∈ P2.toList, x ∈ P.toList) /\ OwnS t2 r id (vals P2) /\ FrX t1 nx1 wq1 t2 nx2 wq2 r (10 * (i - j).toNat) /\ insInner ltW a j.toNat P2 = insInner ltW a i.toNat P1) (fun j => j.toNat) i ⟨_, _, _, _, P1, rfl, za, za, za, za, za, za, by omega, by omega, z1, m1, o1, FrX.refl, rfl⟩ ?_
  rintro j s' ⟨e, t2, nx2, wq2, P2, rfl, heb0, heb1, heb2, heb3, heb8, heb9, j0, j1, z2, m2, o2, hH, hI⟩
  have h1 := hH.le
  have h2 := hH.hi
  have h3' := hH.wlo
  have h4 := hH.whi
  have hG2 := FrX.trans hG hH (Nat.le_refl _)
  have d2' := hd.step (P' := P2) o2 hG2.same hK m2
  refine s_seq (s_seq ?_)
  have hqB : nx2 <= BIG := by omega
  refine s_draw hP hC zr ?_
  refine dM ?_
  refine dM ?_
  refine ds (x_bin rfl za za b_gtr) ?_
  refine dM ?_
  refine d_guard rfl rfl za (fun g4 => ?_) (fun g4 => ?_)
  ·have p4 := g4; try simp only [dd] at p4
   refine d_step wZ rfl (x_move rfl za) zd ?_
   refine d_step wZ rfl (x_move rfl za) zd ?_
   refine d_step wZ rfl (x_move rfl za) zd ?_
   refine d_step wZ rfl (x_index rfl za za u38 T.s22 ow ow) zd ?_
   refine d_step wZ rfl (x_load1 rfl za T.g22 (l_vals o2.whole ow ow)) zd ?_
   refine d_step wZ rfl (x_move rfl za) zd ?_
   refine d_step wZ rfl (x_move rfl za) zd ?_
   refine d_step wZ rfl (x_bin (u := .int .i64 (j - 1)) rfl za (by rfl) (by rw [b_sub, IntWalk.i64_in _ ow])) zd ?_
   refine d_step wZ rfl (x_index rfl za za u38 T.s22 ow ow) zd ?_
   refine d_step wZ rfl (x_load1 rfl za T.g22 (l_vals o2.whole ow ow)) zd ?_
   have hv11 := d2'.iv _ (mem_at (P := P2) (i := (j).toNat) ow)
   have hv21 := d2'.iv _ (mem_at (P := P2) (i := (j - 1).toNat) ow)
   refine d_callRC (vs := [(P2[(j).toNat]!).1, (P2[(j - 1).toNat]!).1]) (cap := []) (tab_hitR (ord_c (nx := nx2) hv11.1 hv21.1 (fun i q => by have := hK i q; omega) hv11.2 hv21.2 ow (Nat.le_refl _))) wZ rfl rfl rfl za ze zd (fun v1 ta1 na1 wa1 hR1 => ?_)
   obtain ⟨t1, nx1, wz1, he1, hf1, rfl⟩ := hR1
   cases he1
   have la1 := hf1.le
   have lb1 := hf1.hi
   have lw1 := hf1.wlo
   have hq1 : decide (nx2 <= wa1) = true := decide_eq_true ow
   have qC1 : na1 <= BIG := by omega
   have qB1 : nx2 <= BIG := by omega
   have ow1 := o2.keep (t' := ta1) (hf1.same _ ow) (hf1.same _ ow)
   refine d_step wZ rfl (x_bin rfl za (by rfl) b_lss) zd ?_
   refine ds (x_pick rfl zw zb) ?_
   refine d_done ⟨de_quiet (by simp only [List.all_append, List.all_cons, List.all_nil, infOf, decide_eq_true hqB, Bool.and_self, show Inf.skip.quiet = true from rfl, hq1, decide_eq_true qB1, decide_eq_true qC1]) zBG zBG, ?_⟩
   refine se_seq ?_
   refine s_cond za (fun g6 => ?_) (fun g6 => ?_)
   ·have p6 := g6; try simp only [dd] at p6
    refine s_skip (se_seq (s_seq (s_block ?_)))
    refine s_draw hP hC zr ?_
    refine dM ?_
    refine dM ?_
    refine dM ?_
    refine dM ?_
    refine ds (x_bin (u := .int .i64 (j - 1)) rfl za (by rfl) (by rw [b_sub, IntWalk.i64_in _ ow])) ?_
    refine dM ?_
    refine dM ?_
    refine ds (x_bin (u := .int .i64 (j - 1)) rfl za (by rfl) (by rw [b_sub, IntWalk.i64_in _ ow])) ?_
    refine ds (x_index rfl za za u38 T.s22 ow ow) ?_
    refine ds (x_load1 rfl za T.g22 (l_vals ow1.whole ow ow)) ?_
    refine dM ?_
    refine dM ?_
    refine ds (x_index rfl za za u38 T.s22 ow ow) ?_
    refine ds (x_load1 rfl za T.g22 (l_vals ow1.whole ow ow)) ?_
    refine ds (x_index rfl za za u38 T.s22 ow ow) ?_
    have sv51 := (d2'.iv _ (mem_at (P := P2) (i := (j - 1).toNat) ow)).1
    obtain ⟨tS51, oS51, kS51, hS51⟩ := x_storeS (P := Tryz.prog) (T := 22) (nx := na1) (off := 0 + (j).toNat * 1) ow1 (one_cells sv51.one) T.s22 (by first | (rw [vals_len]; omega) | (rw [List.length_set, vals_len]; omega)) sv51.one
    refine d_stepN (wA_none rfl) rfl (hS51 rfl za za) ?_
    refine ds (x_index rfl za za u38 T.s22 ow ow) ?_
    have sv52 := (d2'.iv _ (mem_at (P := P2) (i := (j).toNat) ow)).1
    obtain ⟨tS52, oS52, kS52, hS52⟩ := x_storeS (P := Tryz.prog) (T := 22) (nx := na1) (off := 0 + (j - 1).toNat * 1) oS51 (one_cells sv52.one) T.s22 (by first | (rw [vals_len]; omega) | (rw [List.length_set, vals_len]; omega)) sv52.one
    refine d_stepN (wA_none rfl) rfl (hS52 rfl za za) ?_
    refine d_done ⟨de_ok (tail_my (B := 0) (Y := none) (M := [0, 0, 0, 0, 0, 0, 0, 0, 0, 1, 0, 0, 0, 1, 0, 2, 0, 2]) (fw := 0) (my_w (my_op (my_w (my_op (my_q (my_op (my_op (my_op (my_q (my_op (my_op (my_op (my_op (my_op (my_op (my_op (my_op (my_op my_nil ow) ow) ow) ow) ow) ow) ow) ow) ow) ow) ow) ow) ow) ow) ow) (Nat.zero_le _) (fun y q => by cases q)) ow) (Nat.zero_le _) (fun y q => by cases q)) zd zr) (by try dsimp only; omega) (by try dsimp only; omega), ?_⟩
    refine se_block (se_seq (s_region hP hC (oM ?_)))
    refine os (x_bin rfl za (by rfl) b_sub) ?_
    refine oA ?_
    refine o_done ?_
    refine se_loop ?_
    have hw1 : IntKind.i64.wrap (j - 1) = j - 1 := IntWalk.i64_in _ ow
    refine ⟨j - 1, ⟨_, _, _, _, swp P2 j.toNat (j - 1).toNat, rfl, za, za, za, za, za, (by simp only [Tr.get_set, reduceIte, Nat.reduceEqDiff, Nat.reduceAdd, hw1, heb0, heb1, heb2, heb3, heb8, heb9, g4, g6] <;> rfl), by omega, by omega, by rw [size_swp]; exact z2, fun x hx => m2 x (mem_swp ow ow hx), by rw [vals_swp ow ow]; rw [Nat.zero_add, Nat.mul_one, Nat.zero_add, Nat.mul_one] at oS52; exact oS52, ⟨ozz, ozz, ozz, ozz, fun k q1 q2 => (kS52 k q2).trans ((kS51 k q2).trans ((hf1.same k ow).trans (hH.same k q1 q2)))⟩, ?_⟩, by omega⟩
    rw [<-hI]
    exact (insInner_go ow (by rw [<-ord_lt]; exact g6)).symm
   ·have p6 := g6; try simp only [dd] at p6
    refine s_exit ?_
    refine se_seq_exit ?_
    refine se_loop_exit ?_
    refine se_block_eq (se_block (se_seq (s_region hP hC (oM ?_))))
    refine os (x_bin rfl za (by rfl) b_add) ?_
    refine oA ?_
    refine o_done ?_
    refine se_loop ?_
    have hw1 : IntKind.i64.wrap (i + 1) = i + 1 := wr1 ow ow
    have e1 : (i + 1).toNat = i.toNat + 1 := by omega
    have h3 : P2 = insInner ltW a i.toNat P1 := (insInner_stop (.inr (by rw [<-ord_lt]; exact g6))).symm.trans hI
    refine ⟨i + 1, ⟨_, _, _, _, P2, rfl, za, za, za, za, (by simp only [Tr.get_set, reduceIte, Nat.reduceEqDiff, Nat.reduceAdd, hw1, heb0, heb1, heb2, heb3, heb8, heb9, g4, g6] <;> rfl), by omega, .inl ow, z2, m2, ow1, ⟨ozz, ozz, ozz, ozz, fun k q1 q2 => (hf1.same k ow).trans ((hH.same k ow q2).trans (hG.same k q1 q2))⟩, by rw [e1, h3]; exact (insOuter_next ow).trans hE⟩, by omega⟩
  ·have p4 := g4; try simp only [dd] at p4
   refine dS ?_
   refine dS ?_
   refine dS ?_
   refine dS ?_
   refine dS ?_
   refine dS ?_
   refine dS ?_
   refine dS ?_
   refine dS ?_
   refine dS ?_
   refine dS ?_
   refine dS ?_
   refine ds (x_pick rfl zw zb) ?_
   refine d_done ⟨de_quiet (by simp only [List.all_append, List.all_cons, List.all_nil, infOf, decide_eq_true hqB, Bool.and_self, show Inf.skip.quiet = true from rfl]) zBG zBG, ?_⟩
   refine se_seq ?_
   refine s_condF za ?_
   refine s_exit ?_
   refine se_seq_exit ?_
   refine se_loop_exit ?_
   refine se_block_eq (se_block (se_seq (s_region hP hC (oM ?_))))
   refine os (x_bin rfl za (by rfl) b_add) ?_
   refine oA ?_
   refine o_done ?_
   refine se_loop ?_
   have hw1 : IntKind.i64.wrap (i + 1) = i + 1 := wr1 ow ow
   have e1 : (i + 1).toNat = i.toNat + 1 := by omega
   have h3 : P2 = insInner ltW a i.toNat P1 := (insInner_stop (.inl ow)).symm.trans hI
   refine ⟨i + 1, ⟨_, _, _, _, P2, rfl, za, za, za, za, (by simp only [Tr.get_set, reduceIte, Nat.reduceEqDiff, Nat.reduceAdd, hw1, heb0, heb1, heb2, heb3, heb8, heb9, g4] <;> rfl), by omega, .inl ow, z2, m2, o2, ⟨ozz, ozz, ozz, ozz, fun k q1 q2 => (hH.same k ow q2).trans (hG.same k q1 q2)⟩, by rw [e1, h3]; exact (insOuter_next ow).trans hE⟩, by omega⟩
 ·have p2 := g2; try simp only [dd] at p2
  refine s_exit ?_
  refine se_seq_exit ?_
  refine se_loop_exit ?_
  refine se_block_eq ?_
  refine ⟨.inl rfl, _, (by simp only [Tryz.results48, resA, Tr.get_set, reduceIte, Nat.reduceEqDiff, Nat.reduceAdd, hea0, hea1, hea2, hea3, hea8, g2] <;> rfl), fun K2 r2 id2 c2 Q2 a2 b2 hs2 hd2 => ?_⟩
  obtain ⟨rfl, rfl, rfl⟩ := sr_args hs2
  obtain ⟨rfl, rfl⟩ := hd.uniq hd2
  rw [<-hE, insOuter_end ow]
  exact ⟨_, _, _, rfl, o1, ⟨z1, m1⟩, hG.low ow⟩
end Go.Proofs.YtmladpbadglecaaGreatDoor
namespace Go.Proofs.YtmladpbadglecaaGreatDoor
open Go.AM
set_option maxRecDepth 100000
set_option maxHeartbeats 1000000
open Go.Sort
set_option maxHeartbeats 16000000
theorem rev_go {i j : Int} {d : Array Wd} (h0 : 0 <= i) (h : i < j) : reverseLoop i.toNat j.toNat d = reverseLoop (i + 1).toNat (j - 1).toNat (swp d i.toNat j.toNat) := by
 rw [reverseLoop, if_pos ow, show (i + 1).toNat = i.toNat + 1 by omega, show (j - 1).toNat = j.toNat - 1 by omega]
theorem rev_end {i j : Int} {d : Array Wd} (h : j <= i) : reverseLoop i.toNat j.toNat d = d := by
 rw [reverseLoop, if_neg ow]
noncomputable def c_rev := cEx Tryz.prog 52 (SR (reverseRange) 10)
theorem con_rev : Con Tryz.prog 52 c_rev := con_ex Tryz.func52 rfl
theorem rev_c {t : Tr AObj} {K : Nat -> Prop} {r id c nx wr a b : Nat} {P : Array Wd} (hd : DS t K r id P) (hK : ∀ i, K i -> i < nx /\ i ≠ r) (hr : r < nx) (hid : id < nx) (hab : a <= b) (hb : b <= P.size) (hz : P.size <= 64) (hN : nx + 4000000 <= BIG) (hwr : wr <= BIG) : ∃ v h', c_rev [.slice (some ⟨id, 0, none⟩) P.size c, .int .i64 (a : Int), .int .i64 (b : Int), CMPV] ⟨t, nx, wr⟩ = some (v, h') /\ ∃ t' nx' wr', h' = ⟨t', nx', wr'⟩ /\ OwnS t' r id (vals ((reverseRange) P a b)) /\ Kept P ((reverseRange) P a b) /\ FrX t nx wr t' nx' wr' r 10 := by
 have hP := Fits
 have hC : CallSound Tryz.prog (tabOf []) := tab_sound tab_end
 suffices key : SureK Tryz.prog ⟨t, nx, wr⟩ _ [] _ (EndR Tryz.prog _ (SR (reverseRange) 10 [.slice (some ⟨id, 0, none⟩) P.size c, .int .i64 (a : Int), .int .i64 (b : Int), CMPV] ⟨t, nx, wr⟩)) by
  obtain ⟨v, h', q, x⟩ := sure_start (R := SR (reverseRange) 10) (sz := 34) Tryz.func52 rfl rfl zo key
  exact ⟨v, h', q, x K r id c P a b rfl hd⟩
 refine s_seq (s_region hP hC (oM ?_))
 refine oA ?_
 refine o_done (se_seq (s_seq (s_region hP hC (oM ?_))))
 refine os (x_bin (u := .int .i64 ((b : Int) - 1)) rfl zt (by rfl) (by rw [b_sub, IntWalk.i64_in _ ow])) ?_
 refine oA ?_
 refine o_done (se_seq (s_block ?_))
 refine s_loop (α := Int) (fun i s' => ∃ e t1 wq1, ∃ P1 : Array Wd, s' = ⟨e, 34, ⟨t1, nx, wq1⟩⟩ /\ e.get 0 = some (.slice (some ⟨id, 0, none⟩) P.size c) /\ e.get 1 = some (.int .i64 (a : Int)) /\ e.get 2 = some (.int .i64 (b : Int)) /\ e.get 3 = some (CMPV) /\ e.get 8 = some (.int .i64 i) /\ e.get 9 = some (.int .i64 ((a : Int) + b - 1 - i)) /\ (a : Int) <= i /\ i <= b /\ P1.size = P.size /\ (∀ x ∈ P1.toList, x ∈ P.toList) /\ OwnS t1 r id (vals P1) /\ FrX t nx wr t1 nx wq1 r 0 /\ reverseLoop i.toNat ((a : Int) + b - 1 - i).toNat P1 = reverseRange P a b) (fun i => ((b : Int) - i).toNat) (a : Int) ⟨_, _, _, P, rfl, hg, hg, hg, hg, hg, (by rw [show (a : Int) + b - 1 - a = (b : Int) - 1 by omega]; exact hg), by omega, by omega, rfl, fun x hx => hx, hd.own, FrX.refl, by unfold reverseRange; rw [Int.toNat_natCast, show ((a : Int) + b - 1 - a).toNat = b - 1 by omega]⟩ ?_
 rintro i s' ⟨e, t1, wq1, P1, rfl, hea0, hea1, hea2, hea3, hea8, hea9, i0, i1, z1, m1, o1, hG, hE⟩
 have g3 := hG.wlo
 have g4 := hG.whi
 have d1' := hd.step (P' := P1) o1 hG.same hK m1
 refine s_seq (s_seq (s_region hP hC (oM ?_)))
 refine oM ?_
 refine os (x_bin rfl za za b_lss) ?_
 refine o_done (se_seq ?_)
 refine s_cond za (fun g2 => ?_) (fun g2 => ?_)
 ·have p2 := g2; try simp only [dd] at p2
  refine s_skip (se_seq (s_block (s_seq ?_)))
  refine s_draw hP hC zr ?_
  refine dM ?_
  refine dM ?_
  refine dM ?_
  refine dM ?_
  refine dM ?_
  refine dM ?_
  refine ds (x_index rfl za za u38 T.s22 ow ow) ?_
  refine ds (x_load1 rfl za T.g22 (l_vals o1.whole ow ow)) ?_
  refine dM ?_
  refine dM ?_
  refine ds (x_index rfl za za u38 T.s22 ow ow) ?_
  refine ds (x_load1 rfl za T.g22 (l_vals o1.whole ow ow)) ?_
  refine ds (x_index rfl za za u38 T.s22 ow ow) ?_
  have sv28 := (d1'.iv _ (mem_at (P := P1) (i := ((a : Int) + b - 1 - i).toNat) ow)).1
  obtain ⟨tS28, oS28, kS28, hS28⟩ := x_storeS (P := Tryz.prog) (T := 22) (nx := nx) (off := 0 + (i).toNat * 1) o1 (one_cells sv28.one) T.s22 (by first | (rw [vals_len]; omega) | (rw [List.length_set, vals_len]; omega)) sv28.one
  refine d_stepN (wA_none rfl) rfl (hS28 rfl za za) ?_
  refine ds (x_index rfl za za u38 T.s22 ow ow) ?_
  have sv29 := (d1'.iv _ (mem_at (P := P1) (i := (i).toNat) ow)).1
  obtain ⟨tS29, oS29, kS29, hS29⟩ := x_storeS (P := Tryz.prog) (T := 22) (nx := nx) (off := 0 + ((a : Int) + b - 1 - i).toNat * 1) oS28 (one_cells sv29.one) T.s22 (by first | (rw [vals_len]; omega) | (rw [List.length_set, vals_len]; omega)) sv29.one
  refine d_stepN (wA_none rfl) rfl (hS29 rfl za za) ?_
  refine d_done ⟨de_ok (tail_my (B := 0) (Y := none) (M := [0, 0, 0, 0, 0, 0, 0, 1, 0, 0, 0, 1, 0, 2, 0, 2]) (fw := 0) (my_w (my_op (my_w (my_op (my_q (my_op (my_op (my_op (my_q (my_op (my_op (my_op (my_op (my_op (my_op (my_op my_nil ow) ow) ow) ow) ow) ow) ow) ow) ow) ow) ow) ow) ow) (Nat.zero_le _) (fun y q => by cases q)) ow) (Nat.zero_le _) (fun y q => by cases q)) zd zr) (by try dsimp only; omega) (by try dsimp only; omega), ?_⟩
  refine se_seq (s_seq (s_region hP hC (oM ?_)))
  refine os (x_bin rfl za (by rfl) b_add) ?_
  refine oA ?_
  refine o_done (se_seq (s_region hP hC (oM ?_)))
  refine os (x_bin rfl za (by rfl) b_sub) ?_
  refine oA ?_
  refine o_done (se_block ?_)
  refine se_loop ?_
  have hw1 : IntKind.i64.wrap (i + 1) = i + 1 := wr1 ow ow
  have hw2 : IntKind.i64.wrap ((a : Int) + b - 1 - i - 1) = (a : Int) + b - 1 - (i + 1) := by rw [IntWalk.i64_in _ ow]; omega
  refine ⟨i + 1, ⟨_, _, _, swp P1 i.toNat ((a : Int) + b - 1 - i).toNat, rfl, za, za, za, za, (by simp only [Tr.get_set, reduceIte, Nat.reduceEqDiff, Nat.reduceAdd, hw1, hw2, hea0, hea1, hea2, hea3, hea8, hea9, g2] <;> rfl), (by simp only [Tr.get_set, reduceIte, Nat.reduceEqDiff, Nat.reduceAdd, hw1, hw2, hea0, hea1, hea2, hea3, hea8, hea9, g2] <;> rfl), by omega, by omega, by rw [size_swp]; exact z1, fun x hx => m1 x (mem_swp ow ow hx), by rw [vals_swp ow ow]; rw [Nat.zero_add, Nat.mul_one, Nat.zero_add, Nat.mul_one] at oS29; exact oS29, ⟨Nat.le_refl _, ozz, ozz, ozz, fun k q1 q2 => (kS29 k q2).trans ((kS28 k q2).trans (hG.same k q1 q2))⟩, ?_⟩, by omega⟩
  rw [<-hE, show (a : Int) + b - 1 - (i + 1) = (a : Int) + b - 1 - i - 1 by omega]
  exact (rev_go ow ow).symm
 ·have p2 := g2; try simp only [dd] at p2
  refine s_exit ?_
  refine se_seq_exit ?_
  refine se_loop_exit ?_
  refine se_block_eq ?_
  refine ⟨.inl rfl, _, (by simp only [Tryz.results52, resA, Tr.get_set, reduceIte, Nat.reduceEqDiff, Nat.reduceAdd, hea0, hea1, hea2, hea3, hea8, hea9, g2] <;> rfl), fun K2 r2 id2 c2 Q2 a2 b2 hs2 hd2 => ?_⟩
  obtain ⟨rfl, rfl, rfl⟩ := sr_args hs2
  obtain ⟨rfl, rfl⟩ := hd.uniq hd2
  rw [<-hE, rev_end ow]
  exact ⟨_, _, _, rfl, o1, ⟨z1, m1⟩, hG.low ow⟩
end Go.Proofs.YtmladpbadglecaaGreatDoor
