/-
  A heap in a list.
-/
import Derived.Test.YtmladpbadglecaaGreatDoorHWf
set_option linter.unusedSimpArgs false
set_option linter.unusedVariables false
namespace Go.Proofs.YtmladpbadglecaaGreatDoor
open Go.AM
set_option maxRecDepth 100000
set_option maxHeartbeats 1000000
open Go.Sort
set_option maxHeartbeats 16000000
section
variable {hi first : Nat} {root ch : Int} {d : Array Wd}
def ChildOk (hi first : Nat) (root ch : Int) (d : Array Wd) : Prop := (ch = 2 * root + 1 + 1 /\ 2 * root + 1 + 1 < hi /\ lessW (d[((first : Int) + (2 * root + 1)).toNat]!).2 (d[((first : Int) + (2 * root + 1) + 1).toNat]!).2 = true) \/ (ch = 2 * root + 1 /\ ((hi : Int) <= 2 * root + 1 + 1 \/ lessW (d[((first : Int) + (2 * root + 1)).toNat]!).2 (d[((first : Int) + (2 * root + 1) + 1).toNat]!).2 = false))
theorem sift_end (h0 : 0 <= root) (h : (hi : Int) <= 2 * root + 1) : siftDown ltW hi first root.toNat d = d := by
 unfold siftDown
 rw [dif_pos ow]
theorem sift_step (h0 : 0 <= root) (h : 2 * root + 1 < hi) (hc : ChildOk hi first root ch d) : siftDown ltW hi first root.toNat d = if lessW (d[((first : Int) + root).toNat]!).2 (d[((first : Int) + ch).toNat]!).2 then siftDown ltW hi first ch.toNat (swp d ((first : Int) + root).toNat ((first : Int) + ch).toNat) else d := by
 conv => lhs; unfold siftDown
 have e1 : ((first : Int) + root).toNat = first + root.toNat := by omega
 have e2 : ((first : Int) + (2 * root + 1)).toNat = first + (2 * root.toNat + 1) := by omega
 have e3 : ((first : Int) + (2 * root + 1) + 1).toNat = first + (2 * root.toNat + 1) + 1 := by omega
 unfold ChildOk at hc
 rw [e2, e3] at hc
 rw [dif_neg ow, e1]
 rcases hc with ⟨rfl, h2, h3⟩ | ⟨rfl, h2⟩
 ·have e4 : ((first : Int) + (2 * root + 1 + 1)).toNat = first + (2 * root.toNat + 2) := by omega
  have e5 : (2 * root + 1 + 1).toNat = 2 * root.toNat + 2 := by omega
  rw [if_pos (by rw [Bool.and_eq_true]; exact ⟨decide_eq_true ow, h3⟩), dif_pos ow, e4, e5]
  show (if (!lessW _ _) = true then _ else _) = _
  cases lessW (d[first + root.toNat]!).2 (d[first + (2 * root.toNat + 2)]!).2 <;> rfl
 ·have e5 : (2 * root + 1).toNat = 2 * root.toNat + 1 := by omega
  rw [if_neg (by
   rw [Bool.and_eq_true]
   rintro ⟨q1, q2⟩
   have q1 := of_decide_eq_true q1
   rcases h2 with h2 | h2
   ·omega
   ·exact absurd (show lessW _ _ = true from q2) (by rw [h2]; decide)), e2, e5]
  show (if (!lessW _ _) = true then _ else _) = _
  cases lessW (d[first + root.toNat]!).2 (d[first + (2 * root.toNat + 1)]!).2 <;> rfl
end
def SH (k : Nat) : List Value -> AH -> Value -> AH -> Prop := fun args h v h' => ∀ K r id c (P : Array Wd) (lo hi first : Nat), args = [.slice (some ⟨id, 0, none⟩) P.size c, .int .i64 (lo : Int), .int .i64 (hi : Int), .int .i64 (first : Int), CMPV] -> DS h.t K r id P -> ∃ t' nx' wr', h' = ⟨t', nx', wr'⟩ /\ OwnS t' r id (vals (siftDown ltW hi first lo P)) /\ Kept P (siftDown ltW hi first lo P) /\ FrX h.t h.next h.wr t' nx' wr' r k
theorem sh_args {id id2 n n2 c c2 a a2 b b2 f f2 : Nat} {x : Value} (h : [Value.slice (some ⟨id, 0, none⟩) n c, .int .i64 (a : Int), .int .i64 (b : Int), .int .i64 (f : Int), x] = [.slice (some ⟨id2, 0, none⟩) n2 c2, .int .i64 (a2 : Int), .int .i64 (b2 : Int), .int .i64 (f2 : Int), x]) : id2 = id /\ a2 = a /\ b2 = b /\ f2 = f := by
 simp only [List.cons.injEq, Value.slice.injEq, Option.some.injEq, Addr.mk.injEq, Value.int.injEq, and_true, true_and] at h
 obtain ⟨⟨h1, _⟩, h2, h3, h4⟩ := h
 exact ⟨h1.symm, by omega, by omega, by omega⟩
noncomputable def c_sift := cEx Tryz.prog 85 (SH 2000)
theorem con_sift : Con Tryz.prog 85 c_sift := con_ex Tryz.func85 rfl
theorem sift_c {t : Tr AObj} {K : Nat -> Prop} {r id c nx wr lo hi first : Nat} {P : Array Wd} (hd : DS t K r id P) (hK : ∀ i, K i -> i < nx /\ i ≠ r) (hr : r < nx) (hid : id < nx) (hlo : lo <= hi) (hb : first + hi <= P.size) (hz : P.size <= 64) (hN : nx + 3000000 <= BIG) (hwr : wr <= BIG) : ∃ v h', c_sift [.slice (some ⟨id, 0, none⟩) P.size c, .int .i64 (lo : Int), .int .i64 (hi : Int), .int .i64 (first : Int), CMPV] ⟨t, nx, wr⟩ = some (v, h') /\ ∃ t' nx' wr', h' = ⟨t', nx', wr'⟩ /\ OwnS t' r id (vals (siftDown ltW hi first lo P)) /\ Kept P (siftDown ltW hi first lo P) /\ FrX t nx wr t' nx' wr' r 2000 := by
 have hP := Fits
 have hC : CallSound Tryz.prog (tabOf [(18, c_ord)]) := tab_sound (tab_cons con_ord tab_end)
 suffices key : SureK Tryz.prog ⟨t, nx, wr⟩ _ [] _ (EndR Tryz.prog _ (SH 2000 [.slice (some ⟨id, 0, none⟩) P.size c, .int .i64 (lo : Int), .int .i64 (hi : Int), .int .i64 (first : Int), CMPV] ⟨t, nx, wr⟩)) by
  obtain ⟨v, h', q, x⟩ := sure_start (R := SH 2000) (sz := 82) Tryz.func85 rfl rfl zo key
  exact ⟨v, h', q, x K r id c P lo hi first rfl hd⟩
 refine s_seq (s_region hP hC (oM ?_))
 refine oA ?_
 refine o_done (se_seq (s_block ?_))
 refine s_loop (α := Int) (fun root s' => ∃ e t1 nx1 wq1, ∃ P1 : Array Wd, s' = ⟨e, 82, ⟨t1, nx1, wq1⟩⟩ /\ e.get 0 = some (.slice (some ⟨id, 0, none⟩) P.size c) /\ e.get 2 = some (.int .i64 (hi : Int)) /\ e.get 3 = some (.int .i64 (first : Int)) /\ e.get 4 = some (CMPV) /\ e.get 10 = some (.int .i64 root) /\ (lo : Int) <= root /\ root <= hi /\ P1.size = P.size /\ (∀ x ∈ P1.toList, x ∈ P.toList) /\ OwnS t1 r id (vals P1) /\ FrX t nx wr t1 nx1 wq1 r (20 * (root - lo).toNat) /\ siftDown ltW hi first root.toNat P1 = siftDown ltW hi first lo P) (fun root => ((hi : Int) - root).toNat) (lo : Int) ⟨_, _, _, _, P, rfl, hg, hg, hg, hg, hg, by omega, by omega, rfl, fun x hx => hx, hd.own, FrX.refl, by rw [Int.toNat_natCast]⟩ ?_
 rintro root s' ⟨e, t1, nx1, wq1, P1, rfl, hea0, hea2, hea3, hea4, hea10, i0, i1, z1, m1, o1, hG, hE⟩
 have g1' := hG.le
 have g2' := hG.hi
 have gB : wq1 <= BIG := by have := hG.whi; omega
 have d1' := hd.step (P' := P1) o1 hG.same hK m1
 refine s_block (s_seq (s_region hP hC (oM ?_)))
 refine os (x_bin (u := .int .i64 (2 * root)) rfl (by rfl) za (by rw [b_mul, IntWalk.i64_in _ ow])) ?_
 refine os (x_bin (u := .int .i64 (2 * root + 1)) rfl za (by rfl) (by rw [b_add, IntWalk.i64_in _ ow])) ?_
 refine oA ?_
 refine o_done (se_seq (s_seq (s_seq (s_region hP hC (oM ?_)))))
 refine oM ?_
 refine os (x_bin rfl za za b_geq) ?_
 refine o_done (se_seq ?_)
 refine s_cond za (fun g2 => ?_) (fun g2 => ?_)
 ·have p2 := g2; try simp only [dd] at p2
  refine s_exit ?_
  refine se_seq_exit ?_
  refine se_block_ne zd ?_
  refine se_loop_exit ?_
  refine se_block_eq ?_
  refine ⟨.inl rfl, _, (by simp only [Tryz.results85, resA, Tr.get_set, reduceIte, Nat.reduceEqDiff, Nat.reduceAdd, hea0, hea2, hea3, hea4, hea10, g2] <;> rfl), fun K2 r2 id2 c2 Q2 a2 b2 f2 hs2 hd2 => ?_⟩
  obtain ⟨rfl, rfl, rfl, rfl⟩ := sh_args hs2
  obtain ⟨rfl, rfl⟩ := hd.uniq hd2
  rw [<-hE, sift_end ow ow]
  exact ⟨_, _, _, rfl, o1, ⟨z1, m1⟩, hG.low ow⟩
 ·have p2 := g2; try simp only [dd] at p2
  refine s_skip (se_seq (s_seq (s_seq ?_)))
  have hqB : nx1 <= BIG := by omega
  refine s_draw hP hC zr ?_
  refine dM ?_
  refine ds (x_bin (u := .int .i64 (2 * root + 1 + 1)) rfl za (by rfl) (by rw [b_add, IntWalk.i64_in _ ow])) ?_
  refine dM ?_
  refine ds (x_bin rfl za za b_lss) ?_
  refine dM ?_
  refine d_guard rfl rfl za (fun g4 => ?_) (fun g4 => ?_)
  ·have p4 := g4; try simp only [dd] at p4
   refine d_step wZ rfl (x_move rfl za) zd ?_
   refine d_step wZ rfl (x_move rfl za) zd ?_
   refine d_step wZ rfl (x_move rfl za) zd ?_
   refine d_step wZ rfl (x_move rfl za) zd ?_
   refine d_step wZ rfl (x_bin (u := .int .i64 ((first : Int) + (2 * root + 1))) rfl za za (by rw [b_add, IntWalk.i64_in _ ow])) zd ?_
   refine d_step wZ rfl (x_index rfl za za u38 T.s22 ow ow) zd ?_
   refine d_step wZ rfl (x_load1 rfl za T.g22 (l_vals o1.whole ow ow)) zd ?_
   refine d_step wZ rfl (x_move rfl za) zd ?_
   refine d_step wZ rfl (x_move rfl za) zd ?_
   refine d_step wZ rfl (x_move rfl za) zd ?_
   refine d_step wZ rfl (x_bin (u := .int .i64 ((first : Int) + (2 * root + 1))) rfl za za (by rw [b_add, IntWalk.i64_in _ ow])) zd ?_
   refine d_step wZ rfl (x_bin (u := .int .i64 ((first : Int) + (2 * root + 1) + 1)) rfl za (by rfl) (by rw [b_add, IntWalk.i64_in _ ow])) zd ?_
   refine d_step wZ rfl (x_index rfl za za u38 T.s22 ow ow) zd ?_
   refine d_step wZ rfl (x_load1 rfl za T.g22 (l_vals o1.whole ow ow)) zd ?_
   have hv11 := d1'.iv _ (mem_at (P := P1) (i := ((first : Int) + (2 * root + 1)).toNat) ow)
   have hv21 := d1'.iv _ (mem_at (P := P1) (i := ((first : Int) + (2 * root + 1) + 1).toNat) ow)
   refine d_callRC (vs := [(P1[((first : Int) + (2 * root + 1)).toNat]!).1, (P1[((first : Int) + (2 * root + 1) + 1).toNat]!).1]) (cap := []) (tab_hitR (ord_c (nx := nx1) hv11.1 hv21.1 (fun i q => by have := hK i q; omega) hv11.2 hv21.2 ow (Nat.le_refl _))) wZ rfl rfl rfl za (by simp only [evs, ev_tmp, Tr.get_set, reduceIte, Nat.reduceEqDiff, Nat.reduceAdd, hea0, hea2, hea3, hea4, hea10, g2, g4] <;> rfl) zd (fun v1 ta1 na1 wa1 hR1 => ?_)
   obtain ⟨t1, nx1, wz1, he1, hf1, rfl⟩ := hR1
   cases he1
   have la1 := hf1.le
   have lb1 := hf1.hi
   have hq1 : decide (nx1 <= wa1) = true := decide_eq_true (by have := hf1.wlo; omega)
   have qC1 : na1 <= BIG := by omega
   have qB1 : nx1 <= BIG := by omega
   have ow1 := o1.keep (t' := ta1) (hf1.same _ ow) (hf1.same _ ow)
   have dm1 := d1'.step (P' := P1) ow1 (fun k q1 _ => hf1.same k ow) hK (fun x hx => hx)
   refine d_step wZ rfl (x_bin rfl za (by rfl) b_lss) zd ?_
   refine ds (x_pick rfl zw zb) ?_
   refine d_done ⟨de_quiet (by simp only [List.all_append, List.all_cons, List.all_nil, infOf, decide_eq_true hqB, Bool.and_self, show Inf.skip.quiet = true from rfl, hq1, decide_eq_true qB1, decide_eq_true qC1]) zBG zBG, ?_⟩
   refine se_seq ?_
   refine s_cond za (fun g6 => ?_) (fun g6 => ?_)
   ·have p6 := g6; try simp only [dd] at p6
    refine s_region hP hC (oM ?_)
    refine os (x_bin (u := .int .i64 (2 * root + 1 + 1)) rfl za (by rfl) (by rw [b_add, IntWalk.i64_in _ ow])) ?_
    refine oA ?_
    refine o_done (se_seq (s_seq (s_seq ?_)))
    have hqB : na1 <= BIG := by omega
    refine s_draw hP hC zr ?_
    refine dM ?_
    refine dM ?_
    refine dM ?_
    refine dM ?_
    refine ds (x_bin (u := .int .i64 ((first : Int) + root)) rfl za za (by rw [b_add, IntWalk.i64_in _ ow])) ?_
    refine ds (x_index rfl za za u38 T.s22 ow ow) ?_
    refine ds (x_load1 rfl za T.g22 (l_vals ow1.whole ow ow)) ?_
    refine dM ?_
    refine dM ?_
    refine dM ?_
    refine ds (x_bin (u := .int .i64 ((first : Int) + (2 * root + 1 + 1))) rfl za za (by rw [b_add, IntWalk.i64_in _ ow])) ?_
    refine ds (x_index rfl za za u38 T.s22 ow ow) ?_
    refine ds (x_load1 rfl za T.g22 (l_vals ow1.whole ow ow)) ?_
    have hv12 := dm1.iv _ (mem_at (P := P1) (i := ((first : Int) + root).toNat) ow)
    have hv22 := dm1.iv _ (mem_at (P := P1) (i := ((first : Int) + (2 * root + 1 + 1)).toNat) ow)
    refine d_callRC (vs := [(P1[((first : Int) + root).toNat]!).1, (P1[((first : Int) + (2 * root + 1 + 1)).toNat]!).1]) (cap := []) (tab_hitR (ord_c (nx := na1) hv12.1 hv22.1 (fun i q => by have := hK i q; omega) hv12.2 hv22.2 ow (Nat.le_refl _))) (wA_none rfl) rfl rfl rfl za (by simp only [evs, ev_tmp, Tr.get_set, reduceIte, Nat.reduceEqDiff, Nat.reduceAdd, hea0, hea2, hea3, hea4, hea10, g2, g4, g6] <;> rfl) zd (fun v2 ta2 na2 wa2 hR2 => ?_)
    obtain ⟨t2, nx2, wz2, he2, hf2, rfl⟩ := hR2
    cases he2
    have la2 := hf2.le
    have lb2 := hf2.hi
    have hq2 : decide (na1 <= wa2) = true := decide_eq_true (by have := hf2.wlo; omega)
    have qC2 : na2 <= BIG := by omega
    have qB2 : na1 <= BIG := by omega
    have ow2 := ow1.keep (t' := ta2) (hf2.same _ ow) (hf2.same _ ow)
    have dm2 := dm1.step (P' := P1) ow2 (fun k q1 _ => hf2.same k ow) hK (fun x hx => hx)
    refine ds (x_bin rfl za (by rfl) b_lss) ?_
    refine ds (x_not rfl zw) ?_
    refine d_done ⟨de_quiet (by simp only [List.all_append, List.all_cons, List.all_nil, infOf, decide_eq_true hqB, Bool.and_self, show Inf.skip.quiet = true from rfl, hq2, decide_eq_true qB2, decide_eq_true qC2]) zBG zBG, ?_⟩
    refine se_seq ?_
    refine s_cond za (fun g9 => ?_) (fun g9 => ?_)
    ·have p9 := g9; try simp only [dd] at p9
     refine s_ret ?_
     refine se_seq_ret ?_
     refine se_block_ret ?_
     refine se_loop_ret ?_
     refine se_block_ret ?_
     have hst := sift_step (hi := hi) (first := first) (d := P1) ow ow (show ChildOk hi first root (2 * root + 1 + 1) P1 from .inl ⟨rfl, by omega, by rw [<-ord_lt]; exact g6⟩)
     rw [if_neg (by rw [<-ord_lt]; simpa using g9)] at hst
     refine ⟨.inr rfl, _, (by simp only [Tryz.results85, resA, Tr.get_set, reduceIte, Nat.reduceEqDiff, Nat.reduceAdd, hea0, hea2, hea3, hea4, hea10, g2, g4, g6, g9] <;> rfl), fun K2 r2 id2 c2 Q2 a2 b2 f2 hs2 hd2 => ?_⟩
     obtain ⟨rfl, rfl, rfl, rfl⟩ := sh_args hs2
     obtain ⟨rfl, rfl⟩ := hd.uniq hd2
     rw [<-hE, hst]
     exact ⟨_, _, _, rfl, ow2, ⟨z1, m1⟩, ozz, ozz, by have w1 := hG.wlo; have w2 := hG.whi; have v1 := of_decide_eq_true hq1; have v2 := of_decide_eq_true hq2; (try dsimp only); omega, by have w1 := hG.wlo; have w2 := hG.whi; have v1 := of_decide_eq_true hq1; have v2 := of_decide_eq_true hq2; (try dsimp only); omega, fun k (q1 : k < nx) q2 => (hf2.same k ow).trans ((hf1.same k ow).trans (hG.same k q1 q2))⟩
    ·have p9 := g9; try simp only [dd] at p9
     refine s_skip (se_seq (s_seq ?_))
     refine s_draw hP hC zr ?_
     refine dM ?_
     refine dM ?_
     refine dM ?_
     refine ds (x_bin (u := .int .i64 ((first : Int) + root)) rfl za za (by rw [b_add, IntWalk.i64_in _ ow])) ?_
     refine dM ?_
     refine dM ?_
     refine dM ?_
     refine ds (x_bin (u := .int .i64 ((first : Int) + (2 * root + 1 + 1))) rfl za za (by rw [b_add, IntWalk.i64_in _ ow])) ?_
     refine dM ?_
     refine dM ?_
     refine dM ?_
     refine ds (x_bin (u := .int .i64 ((first : Int) + (2 * root + 1 + 1))) rfl za za (by rw [b_add, IntWalk.i64_in _ ow])) ?_
     refine ds (x_index rfl za za u38 T.s22 ow ow) ?_
     refine ds (x_load1 rfl za T.g22 (l_vals ow2.whole ow ow)) ?_
     refine dM ?_
     refine dM ?_
     refine dM ?_
     refine ds (x_bin (u := .int .i64 ((first : Int) + root)) rfl za za (by rw [b_add, IntWalk.i64_in _ ow])) ?_
     refine ds (x_index rfl za za u38 T.s22 ow ow) ?_
     refine ds (x_load1 rfl za T.g22 (l_vals ow2.whole ow ow)) ?_
     refine ds (x_index rfl za za u38 T.s22 ow ow) ?_
     have sv79 := (dm2.iv _ (mem_at (P := P1) (i := ((first : Int) + (2 * root + 1 + 1)).toNat) ow)).1
     obtain ⟨tS79, oS79, kS79, hS79⟩ := x_storeS (P := Tryz.prog) (T := 22) (nx := na2) (off := 0 + ((first : Int) + root).toNat * 1) ow2 (one_cells sv79.one) T.s22 (by first | (rw [vals_len]; omega) | (rw [List.length_set, vals_len]; omega)) sv79.one
     refine d_stepN (wA_none rfl) rfl (hS79 rfl za za) ?_
     refine ds (x_index rfl za za u38 T.s22 ow ow) ?_
     have sv80 := (dm2.iv _ (mem_at (P := P1) (i := ((first : Int) + root).toNat) ow)).1
     obtain ⟨tS80, oS80, kS80, hS80⟩ := x_storeS (P := Tryz.prog) (T := 22) (nx := na2) (off := 0 + ((first : Int) + (2 * root + 1 + 1)).toNat * 1) oS79 (one_cells sv80.one) T.s22 (by first | (rw [vals_len]; omega) | (rw [List.length_set, vals_len]; omega)) sv80.one
     refine d_stepN (wA_none rfl) rfl (hS80 rfl za za) ?_
     refine d_done ⟨de_ok (tail_my (B := 0) (Y := none) (M := [0, 0, 0, 0, 0, 0, 0, 0, 0, 0, 0, 0, 0, 1, 0, 0, 0, 0, 0, 1, 0, 2, 0, 2]) (fw := 0) (my_w (my_op (my_w (my_op (my_q (my_op (my_op (my_op (my_op (my_op (my_q (my_op (my_op (my_op (my_op (my_op (my_op (my_op (my_op (my_op (my_op (my_op (my_op (my_op my_nil ow) ow) ow) ow) ow) ow) ow) ow) ow) ow) ow) ow) ow) ow) ow) ow) ow) ow) ow) ow) ow) (Nat.zero_le _) (fun y q => by cases q)) ow) (Nat.zero_le _) (fun y q => by cases q)) zd zr) (by try dsimp only; omega) (by try dsimp only; omega), ?_⟩
     refine se_seq (s_region hP hC (oM ?_))
     refine oA ?_
     refine o_done (se_block ?_)
     refine se_loop ?_
     have hst := sift_step (hi := hi) (first := first) (d := P1) ow ow (show ChildOk hi first root (2 * root + 1 + 1) P1 from .inl ⟨rfl, by omega, by rw [<-ord_lt]; exact g6⟩)
     rw [if_pos (by rw [<-ord_lt]; simpa using g9)] at hst
     refine ⟨2 * root + 1 + 1, ⟨_, _, _, _, swp P1 ((first : Int) + root).toNat ((first : Int) + (2 * root + 1 + 1)).toNat, rfl, za, za, za, za, za, by omega, by omega, by rw [size_swp]; exact z1, fun x hx => m1 x (mem_swp ow ow hx), by rw [vals_swp ow ow]; rw [Nat.zero_add, Nat.mul_one, Nat.zero_add, Nat.mul_one] at oS80; exact oS80, ⟨ozz, ozz, by have w1 := hG.wlo; have w2 := hG.whi; have v1 := of_decide_eq_true hq1; have v2 := of_decide_eq_true hq2; (try dsimp only); omega, by have w1 := hG.wlo; have w2 := hG.whi; have v1 := of_decide_eq_true hq1; have v2 := of_decide_eq_true hq2; (try dsimp only); omega, fun k q1 q2 => (kS80 k q2).trans ((kS79 k q2).trans ((hf2.same k ow).trans ((hf1.same k ow).trans (hG.same k q1 q2))))⟩, ?_⟩, by omega⟩
     rw [<-hE, hst]
   ·have p6 := g6; try simp only [dd] at p6
    refine s_skip (se_seq (s_seq (s_seq ?_)))
    have hqB : na1 <= BIG := by omega
    refine s_draw hP hC zr ?_
    refine dM ?_
    refine dM ?_
    refine dM ?_
    refine dM ?_
    refine ds (x_bin (u := .int .i64 ((first : Int) + root)) rfl za za (by rw [b_add, IntWalk.i64_in _ ow])) ?_
    refine ds (x_index rfl za za u38 T.s22 ow ow) ?_
    refine ds (x_load1 rfl za T.g22 (l_vals ow1.whole ow ow)) ?_
    refine dM ?_
    refine dM ?_
    refine dM ?_
    refine ds (x_bin (u := .int .i64 ((first : Int) + (2 * root + 1))) rfl za za (by rw [b_add, IntWalk.i64_in _ ow])) ?_
    refine ds (x_index rfl za za u38 T.s22 ow ow) ?_
    refine ds (x_load1 rfl za T.g22 (l_vals ow1.whole ow ow)) ?_
    have hv13 := dm1.iv _ (mem_at (P := P1) (i := ((first : Int) + root).toNat) ow)
    have hv23 := dm1.iv _ (mem_at (P := P1) (i := ((first : Int) + (2 * root + 1)).toNat) ow)
    refine d_callRC (vs := [(P1[((first : Int) + root).toNat]!).1, (P1[((first : Int) + (2 * root + 1)).toNat]!).1]) (cap := []) (tab_hitR (ord_c (nx := na1) hv13.1 hv23.1 (fun i q => by have := hK i q; omega) hv13.2 hv23.2 ow (Nat.le_refl _))) (wA_none rfl) rfl rfl rfl za (by simp only [evs, ev_tmp, Tr.get_set, reduceIte, Nat.reduceEqDiff, Nat.reduceAdd, hea0, hea2, hea3, hea4, hea10, g2, g4, g6] <;> rfl) zd (fun v3 ta3 na3 wa3 hR3 => ?_)
    obtain ⟨t3, nx3, wz3, he3, hf3, rfl⟩ := hR3
    cases he3
    have la3 := hf3.le
    have lb3 := hf3.hi
    have hq3 : decide (na1 <= wa3) = true := decide_eq_true (by have := hf3.wlo; omega)
    have qC3 : na3 <= BIG := by omega
    have qB3 : na1 <= BIG := by omega
    have ow3 := ow1.keep (t' := ta3) (hf3.same _ ow) (hf3.same _ ow)
    have dm3 := dm1.step (P' := P1) ow3 (fun k q1 _ => hf3.same k ow) hK (fun x hx => hx)
    refine ds (x_bin rfl za (by rfl) b_lss) ?_
    refine ds (x_not rfl zw) ?_
    refine d_done ⟨de_quiet (by simp only [List.all_append, List.all_cons, List.all_nil, infOf, decide_eq_true hqB, Bool.and_self, show Inf.skip.quiet = true from rfl, hq3, decide_eq_true qB3, decide_eq_true qC3]) zBG zBG, ?_⟩
    refine se_seq ?_
    refine s_cond za (fun g12 => ?_) (fun g12 => ?_)
    ·have p12 := g12; try simp only [dd] at p12
     refine s_ret ?_
     refine se_seq_ret ?_
     refine se_block_ret ?_
     refine se_loop_ret ?_
     refine se_block_ret ?_
     have hst := sift_step (hi := hi) (first := first) (d := P1) ow ow (show ChildOk hi first root (2 * root + 1) P1 from .inr ⟨rfl, .inr (by rw [<-ord_lt]; exact g6)⟩)
     rw [if_neg (by rw [<-ord_lt]; simpa using g12)] at hst
     refine ⟨.inr rfl, _, (by simp only [Tryz.results85, resA, Tr.get_set, reduceIte, Nat.reduceEqDiff, Nat.reduceAdd, hea0, hea2, hea3, hea4, hea10, g2, g4, g6, g12] <;> rfl), fun K2 r2 id2 c2 Q2 a2 b2 f2 hs2 hd2 => ?_⟩
     obtain ⟨rfl, rfl, rfl, rfl⟩ := sh_args hs2
     obtain ⟨rfl, rfl⟩ := hd.uniq hd2
     rw [<-hE, hst]
     exact ⟨_, _, _, rfl, ow3, ⟨z1, m1⟩, ozz, ozz, by have w1 := hG.wlo; have w2 := hG.whi; have v1 := of_decide_eq_true hq1; have v3 := of_decide_eq_true hq3; (try dsimp only); omega, by have w1 := hG.wlo; have w2 := hG.whi; have v1 := of_decide_eq_true hq1; have v3 := of_decide_eq_true hq3; (try dsimp only); omega, fun k (q1 : k < nx) q2 => (hf3.same k ow).trans ((hf1.same k ow).trans (hG.same k q1 q2))⟩
    ·have p12 := g12; try simp only [dd] at p12
     refine s_skip (se_seq (s_seq ?_))
     refine s_draw hP hC zr ?_
     refine dM ?_
     refine dM ?_
     refine dM ?_
     refine ds (x_bin (u := .int .i64 ((first : Int) + root)) rfl za za (by rw [b_add, IntWalk.i64_in _ ow])) ?_
     refine dM ?_
     refine dM ?_
     refine dM ?_
     refine ds (x_bin (u := .int .i64 ((first : Int) + (2 * root + 1))) rfl za za (by rw [b_add, IntWalk.i64_in _ ow])) ?_
     refine dM ?_
     refine dM ?_
     refine dM ?_
     refine ds (x_bin (u := .int .i64 ((first : Int) + (2 * root + 1))) rfl za za (by rw [b_add, IntWalk.i64_in _ ow])) ?_
     refine ds (x_index rfl za za u38 T.s22 ow ow) ?_
     refine ds (x_load1 rfl za T.g22 (l_vals ow3.whole ow ow)) ?_
     refine dM ?_
     refine dM ?_
     refine dM ?_
     refine ds (x_bin (u := .int .i64 ((first : Int) + root)) rfl za za (by rw [b_add, IntWalk.i64_in _ ow])) ?_
     refine ds (x_index rfl za za u38 T.s22 ow ow) ?_
     refine ds (x_load1 rfl za T.g22 (l_vals ow3.whole ow ow)) ?_
     refine ds (x_index rfl za za u38 T.s22 ow ow) ?_
     have sv79 := (dm3.iv _ (mem_at (P := P1) (i := ((first : Int) + (2 * root + 1)).toNat) ow)).1
     obtain ⟨tS79, oS79, kS79, hS79⟩ := x_storeS (P := Tryz.prog) (T := 22) (nx := na3) (off := 0 + ((first : Int) + root).toNat * 1) ow3 (one_cells sv79.one) T.s22 (by first | (rw [vals_len]; omega) | (rw [List.length_set, vals_len]; omega)) sv79.one
     refine d_stepN (wA_none rfl) rfl (hS79 rfl za za) ?_
     refine ds (x_index rfl za za u38 T.s22 ow ow) ?_
     have sv80 := (dm3.iv _ (mem_at (P := P1) (i := ((first : Int) + root).toNat) ow)).1
     obtain ⟨tS80, oS80, kS80, hS80⟩ := x_storeS (P := Tryz.prog) (T := 22) (nx := na3) (off := 0 + ((first : Int) + (2 * root + 1)).toNat * 1) oS79 (one_cells sv80.one) T.s22 (by first | (rw [vals_len]; omega) | (rw [List.length_set, vals_len]; omega)) sv80.one
     refine d_stepN (wA_none rfl) rfl (hS80 rfl za za) ?_
     refine d_done ⟨de_ok (tail_my (B := 0) (Y := none) (M := [0, 0, 0, 0, 0, 0, 0, 0, 0, 0, 0, 0, 0, 1, 0, 0, 0, 0, 0, 1, 0, 2, 0, 2]) (fw := 0) (my_w (my_op (my_w (my_op (my_q (my_op (my_op (my_op (my_op (my_op (my_q (my_op (my_op (my_op (my_op (my_op (my_op (my_op (my_op (my_op (my_op (my_op (my_op (my_op my_nil ow) ow) ow) ow) ow) ow) ow) ow) ow) ow) ow) ow) ow) ow) ow) ow) ow) ow) ow) ow) ow) (Nat.zero_le _) (fun y q => by cases q)) ow) (Nat.zero_le _) (fun y q => by cases q)) zd zr) (by try dsimp only; omega) (by try dsimp only; omega), ?_⟩
     refine se_seq (s_region hP hC (oM ?_))
     refine oA ?_
     refine o_done (se_block ?_)
     refine se_loop ?_
     have hst := sift_step (hi := hi) (first := first) (d := P1) ow ow (show ChildOk hi first root (2 * root + 1) P1 from .inr ⟨rfl, .inr (by rw [<-ord_lt]; exact g6)⟩)
     rw [if_pos (by rw [<-ord_lt]; simpa using g12)] at hst
     refine ⟨2 * root + 1, ⟨_, _, _, _, swp P1 ((first : Int) + root).toNat ((first : Int) + (2 * root + 1)).toNat, rfl, za, za, za, za, za, by omega, by omega, by rw [size_swp]; exact z1, fun x hx => m1 x (mem_swp ow ow hx), by rw [vals_swp ow ow]; rw [Nat.zero_add, Nat.mul_one, Nat.zero_add, Nat.mul_one] at oS80; exact oS80, ⟨ozz, ozz, by have w1 := hG.wlo; have w2 := hG.whi; have v1 := of_decide_eq_true hq1; have v3 := of_decide_eq_true hq3; (try dsimp only); omega, by have w1 := hG.wlo; have w2 := hG.whi; have v1 := of_decide_eq_true hq1; have v3 := of_decide_eq_true hq3; (try dsimp only); omega, fun k q1 q2 => (kS80 k q2).trans ((kS79 k q2).trans ((hf3.same k ow).trans ((hf1.same k ow).trans (hG.same k q1 q2))))⟩, ?_⟩, by omega⟩
     rw [<-hE, hst]
  ·have p4 := g4; try simp only [dd] at p4
   refine dS ?_
   refine dS ?_
   refine dS ?_
   refine dS ?_
   refine dS ?_
   refine dS ?_
   refine dS ?_
   refine dS ?_
   refine dS ?_
   refine dS ?_
   refine dS ?_
   refine dS ?_
   refine dS ?_
   refine dS ?_
   refine dS ?_
   refine dS ?_
   refine ds (x_pick rfl zw zb) ?_
   refine d_done ⟨de_quiet (by simp only [List.all_append, List.all_cons, List.all_nil, infOf, decide_eq_true hqB, Bool.and_self, show Inf.skip.quiet = true from rfl]) zBG zBG, ?_⟩
   refine se_seq ?_
   refine s_condF za ?_
   refine s_skip (se_seq (s_seq (s_seq ?_)))
   have hqB : nx1 <= BIG := by omega
   refine s_draw hP hC zr ?_
   refine dM ?_
   refine dM ?_
   refine dM ?_
   refine dM ?_
   refine ds (x_bin (u := .int .i64 ((first : Int) + root)) rfl za za (by rw [b_add, IntWalk.i64_in _ ow])) ?_
   refine ds (x_index rfl za za u38 T.s22 ow ow) ?_
   refine ds (x_load1 rfl za T.g22 (l_vals o1.whole ow ow)) ?_
   refine dM ?_
   refine dM ?_
   refine dM ?_
   refine ds (x_bin (u := .int .i64 ((first : Int) + (2 * root + 1))) rfl za za (by rw [b_add, IntWalk.i64_in _ ow])) ?_
   refine ds (x_index rfl za za u38 T.s22 ow ow) ?_
   refine ds (x_load1 rfl za T.g22 (l_vals o1.whole ow ow)) ?_
   have hv14 := d1'.iv _ (mem_at (P := P1) (i := ((first : Int) + root).toNat) ow)
   have hv24 := d1'.iv _ (mem_at (P := P1) (i := ((first : Int) + (2 * root + 1)).toNat) ow)
   refine d_callRC (vs := [(P1[((first : Int) + root).toNat]!).1, (P1[((first : Int) + (2 * root + 1)).toNat]!).1]) (cap := []) (tab_hitR (ord_c (nx := nx1) hv14.1 hv24.1 (fun i q => by have := hK i q; omega) hv14.2 hv24.2 ow (Nat.le_refl _))) (wA_none rfl) rfl rfl rfl za (by simp only [evs, ev_tmp, Tr.get_set, reduceIte, Nat.reduceEqDiff, Nat.reduceAdd, hea0, hea2, hea3, hea4, hea10, g2, g4] <;> rfl) zd (fun v4 ta4 na4 wa4 hR4 => ?_)
   obtain ⟨t4, nx4, wz4, he4, hf4, rfl⟩ := hR4
   cases he4
   have la4 := hf4.le
   have lb4 := hf4.hi
   have hq4 : decide (nx1 <= wa4) = true := decide_eq_true (by have := hf4.wlo; omega)
   have qC4 : na4 <= BIG := by omega
   have qB4 : nx1 <= BIG := by omega
   have ow4 := o1.keep (t' := ta4) (hf4.same _ ow) (hf4.same _ ow)
   have dm4 := d1'.step (P' := P1) ow4 (fun k q1 _ => hf4.same k ow) hK (fun x hx => hx)
   refine ds (x_bin rfl za (by rfl) b_lss) ?_
   refine ds (x_not rfl zw) ?_
   refine d_done ⟨de_quiet (by simp only [List.all_append, List.all_cons, List.all_nil, infOf, decide_eq_true hqB, Bool.and_self, show Inf.skip.quiet = true from rfl, hq4, decide_eq_true qB4, decide_eq_true qC4]) zBG zBG, ?_⟩
   refine se_seq ?_
   refine s_cond za (fun g15 => ?_) (fun g15 => ?_)
   ·have p15 := g15; try simp only [dd] at p15
    refine s_ret ?_
    refine se_seq_ret ?_
    refine se_block_ret ?_
    refine se_loop_ret ?_
    refine se_block_ret ?_
    have hst := sift_step (hi := hi) (first := first) (d := P1) ow ow (show ChildOk hi first root (2 * root + 1) P1 from .inr ⟨rfl, .inl ow⟩)
    rw [if_neg (by rw [<-ord_lt]; simpa using g15)] at hst
    refine ⟨.inr rfl, _, (by simp only [Tryz.results85, resA, Tr.get_set, reduceIte, Nat.reduceEqDiff, Nat.reduceAdd, hea0, hea2, hea3, hea4, hea10, g2, g4, g15] <;> rfl), fun K2 r2 id2 c2 Q2 a2 b2 f2 hs2 hd2 => ?_⟩
    obtain ⟨rfl, rfl, rfl, rfl⟩ := sh_args hs2
    obtain ⟨rfl, rfl⟩ := hd.uniq hd2
    rw [<-hE, hst]
    exact ⟨_, _, _, rfl, ow4, ⟨z1, m1⟩, ozz, ozz, by have w1 := hG.wlo; have w2 := hG.whi; have v4 := of_decide_eq_true hq4; (try dsimp only); omega, by have w1 := hG.wlo; have w2 := hG.whi; have v4 := of_decide_eq_true hq4; (try dsimp only); omega, fun k (q1 : k < nx) q2 => (hf4.same k ow).trans (hG.same k q1 q2)⟩
   ·have p15 := g15; try simp only [dd] at p15
    refine s_skip (se_seq (s_seq ?_))
    refine s_draw hP hC zr ?_
    refine dM ?_
    refine dM ?_
    refine dM ?_
    refine ds (x_bin (u := .int .i64 ((first : Int) + root)) rfl za za (by rw [b_add, IntWalk.i64_in _ ow])) ?_
    refine dM ?_
    refine dM ?_
    refine dM ?_
    refine ds (x_bin (u := .int .i64 ((first : Int) + (2 * root + 1))) rfl za za (by rw [b_add, IntWalk.i64_in _ ow])) ?_
    refine dM ?_
    refine dM ?_
    refine dM ?_
    refine ds (x_bin (u := .int .i64 ((first : Int) + (2 * root + 1))) rfl za za (by rw [b_add, IntWalk.i64_in _ ow])) ?_
    refine ds (x_index rfl za za u38 T.s22 ow ow) ?_
    refine ds (x_load1 rfl za T.g22 (l_vals ow4.whole ow ow)) ?_
    refine dM ?_
    refine dM ?_
    refine dM ?_
    refine ds (x_bin (u := .int .i64 ((first : Int) + root)) rfl za za (by rw [b_add, IntWalk.i64_in _ ow])) ?_
    refine ds (x_index rfl za za u38 T.s22 ow ow) ?_
    refine ds (x_load1 rfl za T.g22 (l_vals ow4.whole ow ow)) ?_
    refine ds (x_index rfl za za u38 T.s22 ow ow) ?_
    have sv79 := (dm4.iv _ (mem_at (P := P1) (i := ((first : Int) + (2 * root + 1)).toNat) ow)).1
    obtain ⟨tS79, oS79, kS79, hS79⟩ := x_storeS (P := Tryz.prog) (T := 22) (nx := na4) (off := 0 + ((first : Int) + root).toNat * 1) ow4 (one_cells sv79.one) T.s22 (by first | (rw [vals_len]; omega) | (rw [List.length_set, vals_len]; omega)) sv79.one
    refine d_stepN (wA_none rfl) rfl (hS79 rfl za za) ?_
    refine ds (x_index rfl za za u38 T.s22 ow ow) ?_
    have sv80 := (dm4.iv _ (mem_at (P := P1) (i := ((first : Int) + root).toNat) ow)).1
    obtain ⟨tS80, oS80, kS80, hS80⟩ := x_storeS (P := Tryz.prog) (T := 22) (nx := na4) (off := 0 + ((first : Int) + (2 * root + 1)).toNat * 1) oS79 (one_cells sv80.one) T.s22 (by first | (rw [vals_len]; omega) | (rw [List.length_set, vals_len]; omega)) sv80.one
    refine d_stepN (wA_none rfl) rfl (hS80 rfl za za) ?_
    refine d_done ⟨de_ok (tail_my (B := 0) (Y := none) (M := [0, 0, 0, 0, 0, 0, 0, 0, 0, 0, 0, 0, 0, 1, 0, 0, 0, 0, 0, 1, 0, 2, 0, 2]) (fw := 0) (my_w (my_op (my_w (my_op (my_q (my_op (my_op (my_op (my_op (my_op (my_q (my_op (my_op (my_op (my_op (my_op (my_op (my_op (my_op (my_op (my_op (my_op (my_op (my_op my_nil ow) ow) ow) ow) ow) ow) ow) ow) ow) ow) ow) ow) ow) ow) ow) ow) ow) ow) ow) ow) ow) (Nat.zero_le _) (fun y q => by cases q)) ow) (Nat.zero_le _) (fun y q => by cases q)) zd zr) (by try dsimp only; omega) (by try dsimp only; omega), ?_⟩
    refine se_seq (s_region hP hC (oM ?_))
    refine oA ?_
    refine o_done (se_block ?_)
    refine se_loop ?_
    have hst := sift_step (hi := hi) (first := first) (d := P1) ow ow (show ChildOk hi first root (2 * root + 1) P1 from .inr ⟨rfl, .inl ow⟩)
    rw [if_pos (by rw [<-ord_lt]; simpa using g15)] at hst
    refine ⟨2 * root + 1, ⟨_, _, _, _, swp P1 ((first : Int) + root).toNat ((first : Int) + (2 * root + 1)).toNat, rfl, za, za, za, za, za, by omega, by omega, by rw [size_swp]; exact z1, fun x hx => m1 x (mem_swp ow ow hx), by rw [vals_swp ow ow]; rw [Nat.zero_add, Nat.mul_one, Nat.zero_add, Nat.mul_one] at oS80; exact oS80, ⟨ozz, ozz, by have w1 := hG.wlo; have w2 := hG.whi; have v4 := of_decide_eq_true hq4; (try dsimp only); omega, by have w1 := hG.wlo; have w2 := hG.whi; have v4 := of_decide_eq_true hq4; (try dsimp only); omega, fun k q1 q2 => (kS80 k q2).trans ((kS79 k q2).trans ((hf4.same k ow).trans (hG.same k q1 q2)))⟩, ?_⟩, by omega⟩
    rw [<-hE, hst]
end Go.Proofs.YtmladpbadglecaaGreatDoor
