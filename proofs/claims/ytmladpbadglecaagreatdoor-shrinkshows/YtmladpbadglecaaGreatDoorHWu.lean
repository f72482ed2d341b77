/-
  The smaller words of a word, by the reference.
-/
import Derived.Test.YtmladpbadglecaaGreatDoorHWt
set_option linter.unusedSimpArgs false
set_option linter.unusedVariables false
namespace Go.Proofs.YtmladpbadglecaaGreatDoor
open Go.AM
set_option maxRecDepth 100000
set_option maxHeartbeats 1000000
open Go.Sort
set_option maxHeartbeats 16000000
def PR (t : Tr AObj) (nx nx' : Nat) (v : Value) (C : List (List Int)) : Prop := ∃ L : List Wd, LW t (fun x => nx <= x /\ x < nx') v L /\ Strict (L.map (·.2)) /\ (∀ y, y ∈ L.map (·.2) ↔ y ∈ C) /\ L.length <= C.length /\ ∀ y ∈ L, trim y.2 = y.2
theorem putL_len {L : List Wd} {x : Wd} : (putL L x).length <= L.length + 1 := by
 unfold putL
 split
 ·omega
 ·rw [List.length_append, List.length_append, List.length_take, List.length_drop, List.length_singleton]
  omega
theorem PR.put {t' : Tr AObj} {nx n n' : Nat} {v sw : Value} {w : List Int} {C : List (List Int)} {L : List Wd} (hn : n <= n') (hx : nx <= n) (h2 : Strict (L.map (·.2))) (h3 : ∀ y, y ∈ L.map (·.2) ↔ y ∈ C) (h4 : L.length <= C.length) (h5 : ∀ y ∈ L, trim y.2 = y.2) (hw : trim w = w) (h : LW t' (fun i => (nx <= i /\ i < n) \/ (n <= i /\ i < n')) v (putL L (sw, w))) : PR t' nx n' v (C ++ [w]) := by
 refine ⟨_, h.mono fun i q => by omega, putL_strict h2 h5 hw, fun y => ?_, ?_, fun y hy => ?_⟩
 ·rw [putL_mem, h3, List.mem_append, List.mem_singleton]
 ·have := putL_len (L := L) (x := (sw, w))
  rw [List.length_append, List.length_singleton]
  omega
 ·have hm := (putL_mem (L := L) (x := (sw, w)) y.2).1 (List.mem_map.2 ⟨y, hy, rfl⟩)
  rcases hm with h | h
  ·obtain ⟨z, hz, e⟩ := List.mem_map.1 h
   rw [<-e]
   exact h5 z hz
  ·rw [h]
   exact hw
theorem cands_len {T : List Int} : ∀ {n : Nat}, (cands T n).length <= 3 * n
 | 0 => Nat.le_refl _
 | n + 1 => by
  have ih := cands_len (T := T) (n := n)
  unfold cands candA
  rw [List.length_append]
  split <;> simp only [List.length_cons, List.length_nil] <;> omega
theorem cands_no {T : List Int} {i : Int} (h0 : 0 <= i) (h : ¬ 0 < ith T i) : cands T (i + 1).toNat = cands T i.toNat ++ [trim (T.take i.toNat ++ T.drop (i + 1).toNat)] := by
 rw [show (i + 1).toNat = i.toNat + 1 by omega, cands, candA, Int.toNat_of_nonneg h0, if_neg h]
theorem cands_yes {T : List Int} {i : Int} (h0 : 0 <= i) (h : 0 < ith T i) : cands T (i + 1).toNat = cands T i.toNat ++ [trim (T.take i.toNat ++ T.drop (i + 1).toNat)] ++ [trim (T.set i.toNat 0)] ++ [trim (T.set i.toNat (ith T i - 1))] := by
 rw [show (i + 1).toNat = i.toNat + 1 by omega, cands, candA, Int.toNat_of_nonneg h0, if_pos h]
 simp only [List.append_assoc, List.cons_append, List.nil_append]
def R_rsm : List Value -> AH -> Value -> AH -> Prop := fun args h v h' => ∀ K s (l : List Int), args = [s] -> IV h.t K s l -> ∃ t' nx' wr', ∃ L : List Wd, h' = ⟨t', nx', wr'⟩ /\ Fr h.t h.next h.wr t' nx' wr' 13000 /\ LW t' (fun x => h.next <= x /\ x < nx') v L /\ Strict (L.map (·.2)) /\ (∀ y, y ∈ L.map (·.2) ↔ y ∈ cands (trim l) (trim l).length) /\ L.length <= 36
noncomputable def c_rsm := cEx Tryz.prog 11 R_rsm
theorem con_rsm : Con Tryz.prog 11 c_rsm := con_ex Tryz.func11 rfl
theorem rsm_c {t : Tr AObj} {K : Nat -> Prop} {nx wr : Nat} {s : Value} {l : List Int} (hs : IV t K s l) (hK : ∀ i, K i -> i < nx) (hl : l.length <= 12) (hel : ∀ x ∈ l, inR x) (hN : nx + 4000000 <= BIG) (hwr : wr <= BIG) : ∃ v h', c_rsm [s] ⟨t, nx, wr⟩ = some (v, h') /\ ∃ t' nx' wr', ∃ L : List Wd, h' = ⟨t', nx', wr'⟩ /\ Fr t nx wr t' nx' wr' 13000 /\ LW t' (fun x => nx <= x /\ x < nx') v L /\ Strict (L.map (·.2)) /\ (∀ y, y ∈ L.map (·.2) ↔ y ∈ cands (trim l) (trim l).length) /\ L.length <= 36 := by
 have hP := Fits
 have hC : CallSound Tryz.prog (tabOf [(22, c_rtrim), (23, c_put), (24, c_plc)]) := tab_sound (tab_cons con_rtrim (tab_cons con_put (tab_cons con_plc tab_end)))
 suffices key : SureK Tryz.prog ⟨t, nx, wr⟩ _ [] _ (EndR Tryz.prog _ (R_rsm [s] ⟨t, nx, wr⟩)) by
  obtain ⟨v, h', q, x⟩ := sure_start (R := R_rsm) (sz := 48) Tryz.func11 rfl rfl zo key
  exact ⟨v, h', q, x K s l rfl hs⟩
 refine s_seq (s_region hP hC (oA ?_))
 refine o_done (se_seq (s_seq (s_region hP hC (oM ?_))))
 refine o_callR (tab_hitR (rtrim_c hs hK ow ow hwr)) (wA_none rfl) rfl rfl rfl zv zd (fun v1 h1 hR1 => ?_)
 obtain ⟨t1, n1, w1, rfl, hF1, hI1⟩ := hR1
 have la1 := hF1.le
 have lb1 := hF1.hi
 have lc1 := hF1.wlo
 have ld1 := hF1.whi
 obtain ⟨tw, hT⟩ : ∃ tw, tw = trim l := ⟨_, rfl⟩
 have hTT : trim tw = tw := by rw [hT, trim_trim]
 have hTl : tw.length <= 12 := by rw [hT]; have := trim_le l; omega
 rw [<-hT] at hI1
 have heT : ∀ x ∈ tw, inR x := by rw [hT]; exact fun x hx => hel x (List.mem_of_mem_take hx)
 refine oA ?_
 refine o_done (se_seq (s_seq (s_region hP hC (oA ?_))))
 refine o_done (se_seq (s_seq (s_seq (s_region hP hC (oA ?_)))))
 refine o_done (se_seq (s_block ?_))
 refine s_loop (α := Int) (fun i s' => ∃ e tA nxA wqA vL, s' = ⟨e, 48, ⟨tA, nxA, wqA⟩⟩ /\ e.get 3 = some (v1) /\ e.get 4 = some (vL) /\ e.get 5 = some (.int .i64 (i)) /\ 0 <= i /\ i <= tw.length /\ PR tA nx nxA vL (cands tw i.toNat) /\ Fr t1 n1 w1 tA nxA wqA (1000 * i.toNat)) (fun i => (tw.length + 5 - i).toNat) 0 ⟨_, _, _, _, _, rfl, hg, hg, hg, by omega, by omega, ⟨[], ⟨.inl ⟨rfl, rfl⟩, fun x hx => by cases hx⟩, .nil, fun y => Iff.rfl, Nat.le_refl _, fun y hy => by cases hy⟩, Fr.refl⟩ ?_
 rintro i s' ⟨e, tA, nxA, wqA, vL, rfl, heA3, heA4, heA5, i0, i1, hPA, hGA⟩
 have gaA := hGA.le
 have gbA := hGA.hi
 have gcA := hGA.wlo
 have gdA := hGA.whi
 have hIA := hI1.keep (t' := tA) (fun i q => hGA.same i q.2)
 refine s_seq (s_seq (s_region hP hC (oM ?_)))
 refine oM ?_
 refine os (x_lenI hIA rfl rfl (by simp only [evs, ev_tmp, Tr.get_set, reduceIte, Nat.reduceEqDiff, Nat.reduceAdd, heA3, heA4, heA5] <;> rfl) rfl u22) ?_
 refine os (x_bin rfl za za b_lss) ?_
 refine o_done (se_seq ?_)
 refine s_cond za (fun g2 => ?_) (fun g2 => ?_)
 ·have p2 := g2; try simp only [dd] at p2
  refine s_skip (se_seq (s_seq (s_block (s_seq ?_))))
  refine s_join (fun s' => ∃ e tB nxB wqB vB c1, s' = ⟨e, 48, ⟨tB, nxB, wqB⟩⟩ /\ e.get 3 = some (v1) /\ e.get 4 = some (vB) /\ e.get 5 = some (.int .i64 (i)) /\ c1 = trim (tw.take i.toNat ++ tw.drop (i + 1).toNat) /\ PR tB nx nxB vB (cands tw i.toNat ++ [c1]) /\ Fr t1 n1 w1 tB nxB wqB (1000 * i.toNat + 310)) ?_ ?_
  ·skip
   obtain ⟨L, hL, hS, hM, hN2, hTr⟩ := hPA
   have hcl := cands_len (T := tw) (n := i.toNat)
   obtain ⟨wA, iA, hsA⟩ := x_sliceC (P := Tryz.prog) (T := 22) (lo := none) (hi := some (.tmp 17)) (i := 0) (j := i) hIA.cv u22 T.s3 ow i0 (by rw [ints_len]; omega) (fun _ => rfl) (fun q => by cases q)
   obtain ⟨wB, iB, hsB⟩ := x_sliceC (P := Tryz.prog) (T := 22) (lo := some (.tmp 22)) (hi := none) (i := i + 1) (j := (tw.length : Nat)) hIA.cv u22 T.s3 ow ow (by rw [ints_len]; omega) (fun q => by cases q) (fun _ => by rw [ints_len])
   have eA : ((ints tw).drop (0 : Int).toNat).take (i.toNat - (0 : Int).toNat) = ints (tw.take i.toNat) := by rw [Int.toNat_zero, List.drop_zero, Nat.sub_zero, <-ints_take]
   have eB : ((ints tw).drop (i + 1).toNat).take (((tw.length : Nat) : Int).toNat - (i + 1).toNat) = ints (tw.drop (i + 1).toNat) := by rw [Int.toNat_natCast, List.take_of_length_le (by rw [List.length_drop, ints_len]; omega), ints_drop]
   rw [eA] at iA
   rw [eB] at iB
   have zA : (ints (tw.take i.toNat)).length <= 12 := by rw [ints_len, List.length_take]; omega
   have zB : (ints (tw.drop (i + 1).toNat)).length <= 12 := by rw [ints_len, List.length_drop]; omega
   refine s_draw hP hC zr ?_
   refine dM ?_
   refine ds (y_bslice0 rfl u22 T.s3 T.z3 zd rfl rfl) ?_
   refine dM ?_
   refine dM ?_
   refine ds (hsA (fun x (q : nx <= x /\ x < n1) => by rw [gn ow]) rfl za (fun a q => by cases q) (fun a q => by cases q; exact za)) ?_
   refine d_appC (show AccC (tA.set nxA (.row [] nxA BIG false 0)) nxA (nxA + 1) (fun x => x = nxA) (.slice (some ⟨nxA, 0, none⟩) 0 0) [] from .inr ⟨rfl, fun x hx => by omega, nxA, rfl, by rw [gp rfl], rfl⟩) (cells_cv (iA.keep (fun x (q : nx <= x /\ x < n1) => by rw [gn ow])) u22 T.s3) (wA_none rfl) rfl rfl rfl (by simp only [evs, ev_tmp, Tr.get_set, reduceIte, Nat.reduceEqDiff, Nat.reduceAdd, heA3, heA4, heA5, g2] <;> rfl) rfl rfl zr u22 T.i22 zd zd (ints_oneC _) ow (fun x hx => rfl) ow (by rw [List.length_nil]; omega) (fun v2 t2 n2 w2 S2 hA2 => ?_)
   have la2 := hA2.le
   have lb2 := hA2.hi
   have lc2 := hA2.wlo
   have ld2 := hA2.whi
   have ac2 := hA2.acc
   have hk2 : ∀ x, nx <= x /\ x < n1 -> t2.get x = tA.get x := fun x q => (hA2.same x ow ow).trans (by rw [gn ow])
   have zC : ([] ++ ints (tw.take i.toNat) : List Value).length <= 12 := by rw [List.nil_append]; exact zA
   refine dM ?_
   refine dM ?_
   refine ds (x_bin (u := .int .i64 (i + 1)) rfl za (by rfl) (by rw [b_add, IntWalk.i64_in _ ow])) ?_
   refine ds (hsB hk2 rfl za (fun a q => by cases q; exact za) (fun a q => by cases q)) ?_
   refine d_appC ac2 (cells_cv (iB.keep hk2) u22 T.s3) (wA_none rfl) rfl rfl rfl (by simp only [evs, ev_tmp, Tr.get_set, reduceIte, Nat.reduceEqDiff, Nat.reduceAdd, heA3, heA4, heA5, g2] <;> rfl) rfl rfl zr u22 T.i22 zd zd (ints_oneC _) ow (fun x hx => rfl) ow ow (fun v3 t3 n3 w3 S3 hA3 => ?_)
   have la3 := hA3.le
   have lb3 := hA3.hi
   have lc3 := hA3.wlo
   have ld3 := hA3.whi
   have ac3 := hA3.acc
   have hc3 := ac3.cv
   rw [List.nil_append, <-ints_append] at hc3
   have hi3 := hc3.iv
   have zD : (tw.take i.toNat ++ tw.drop (i + 1).toNat).length <= 24 := by rw [ints_len] at zA zB; rw [List.length_append]; omega
   have nS2 : ∀ x, x < nxA -> ¬ S2 x := fun x q h => by have := ac2.bnd x h; omega
   have fr3 : ∀ x, x < nxA -> t3.get x = tA.get x := fun x q => (hA3.same x (nS2 x q) ow).trans ((hA2.same x ow ow).trans (by rw [gn ow]))
   refine d_callR (tab_hitR (rtrim_c (nx := n3) hi3 (fun x q => (ac3.bnd x q).2) ow ow (Nat.le_refl _))) (wA_none rfl) rfl rfl rfl (by simp only [evs, ev_tmp, Tr.get_set, reduceIte, Nat.reduceEqDiff, Nat.reduceAdd, heA3, heA4, heA5, g2] <;> rfl) zd (fun v4 t4 n4 w4 hR4 => ?_)
   obtain ⟨tq4, nq4, wq4, he4, hF4, hI4⟩ := hR4
   cases he4
   have la4 := hF4.le
   have lb4 := hF4.hi
   have lc4 := hF4.wlo
   have ld4 := hF4.whi
   obtain ⟨c1, hc1⟩ : ∃ c, c = trim (tw.take i.toNat ++ tw.drop (i + 1).toNat) := ⟨_, rfl⟩
   have ht1 : trim c1 = c1 := by rw [hc1, trim_trim]
   have hz1 : c1.length <= 24 := by rw [hc1]; have := trim_le (tw.take i.toNat ++ tw.drop (i + 1).toNat); omega
   rw [<-hc1] at hI4
   have hL4 := (hL.keep (t' := t4) (fun x q => (hF4.same x ow).trans (fr3 x q.2))).mono (K' := fun x => nx <= x /\ x < n4) (fun x q => ⟨q.1, by omega⟩)
   have hI5 := hI4.mono (K' := fun x => nx <= x /\ x < n4) (fun x q => by omega)
   refine d_callR (tab_missR zd (tab_hitR (put_c (nx := n4) hL4 hI5 (fun x q => q.2) ow ow ow (Nat.le_refl _)))) (wA_none rfl) rfl rfl rfl (by simp only [evs, ev_tmp, Tr.get_set, reduceIte, Nat.reduceEqDiff, Nat.reduceAdd, heA3, heA4, heA5, g2] <;> rfl) zd (fun v5 t5 n5 w5 hR5 => ?_)
   obtain ⟨tq5, nq5, wq5, he5, hF5, hL5⟩ := hR5
   cases he5
   have la5 := hF5.le
   have lb5 := hF5.hi
   have lc5 := hF5.wlo
   have ld5 := hF5.whi
   have hP5 := PR.put ow ow hS hM hN2 hTr ht1 hL5
   have fr5 : ∀ x, x < nxA -> t5.get x = tA.get x := fun x q => (hF5.same x ow).trans ((hF4.same x ow).trans (fr3 x q))
   refine ds (x_assign rfl za) ?_
   refine d_done ⟨de_ok (tail_my (B := nxA) (Y := none) (M := [0, 1, 0, 0, 1, 2, 0, 0, 0, 0, 2, 1, 1, 0]) (fw := 0) (my_op (my_q (my_q (my_w (my_cv (K := fun x => nx <= x /\ x < n1) (my_op (my_op (my_op (my_w (my_q (my_op (my_op (my_q (my_op my_nil ow) ow) ow) ow) ow) ow (fun y q => by cases q)) ow) ow) ow) (hIA.cv.keep hk2) za (fun x q => by omega) ow ow) ow (fun y q => by cases q)) ow) ow) ow) zd zr) (by try dsimp only; omega) (by try dsimp only; omega), ?_⟩
   refine se_loop ?_
   exact ⟨_, _, _, _, _, _, rfl, za, za, za, hc1, hP5, ⟨ozz, ozz, zwl, zwh, fun x (q : x < n1) => (fr5 x ow).trans (hGA.same x q)⟩⟩
  ·skip
   rintro s' ⟨e, tB, nxB, wqB, vB, c1, rfl, heB3, heB4, heB5, hc1, hPB, hGB⟩
   have gaB := hGB.le
   have gbB := hGB.hi
   have gcB := hGB.wlo
   have gdB := hGB.whi
   have hIB := hI1.keep (t' := tB) (fun i q => hGB.same i q.2)
   refine s_seq (s_region hP hC (oM ?_))
   refine oM ?_
   obtain ⟨id1, of1, c1, hv1, hl1⟩ := hIB.elem (i := i) ow ow
   refine os (x_indexE hv1 rfl za za u22 T.s3 ow ow) ?_
   refine os (x_load1 rfl za T.g3 (hl1 _ _ _ (fun _ _ => rfl))) ?_
   refine os (x_bin rfl za (by rfl) b_gtr) ?_
   refine o_done (se_seq ?_)
   refine s_cond za (fun g4 => ?_) (fun g4 => ?_)
   ·have p4 := g4; try simp only [dd] at p4
    refine s_seq (s_region hP hC (oM ?_))
    refine oM ?_
    refine oM ?_
    refine o_callR (tab_missR zd (tab_missR zd (tab_hitR (plc_c (nx := nxB) (l := tw) (i := i) (n := 0) hIB (fun x q => by omega) ow i0 ow ow ow)))) (wA_none rfl) rfl rfl rfl (by simp only [evs, ev_tmp, Tr.get_set, reduceIte, Nat.reduceEqDiff, Nat.reduceAdd, heB3, heB4, heB5, g4] <;> rfl) zd (fun v6 h6 hR6 => ?_)
    obtain ⟨t6, n6, w6, rfl, hF6, hI6⟩ := hR6
    have la6 := hF6.le
    have lb6 := hF6.hi
    have lc6 := hF6.wlo
    have ld6 := hF6.whi
    have hz6 : (trim (tw.set i.toNat (0))).length <= 12 := by have := trim_le (tw.set i.toNat (0)); rw [List.length_set] at this; omega
    obtain ⟨L6, hL6, hS6, hM6, hN6, hTr6⟩ := hPB
    have hcl6 := cands_len (T := tw) (n := i.toNat)
    have hL6' := (hL6.keep (t' := t6) (fun x q => hF6.same x q.2)).mono (K' := fun x => nx <= x /\ x < n6) (fun x q => ⟨q.1, by omega⟩)
    have hI6' := hI6.mono (K' := fun x => nx <= x /\ x < n6) (fun x q => by omega)
    refine o_callR (tab_missR zd (tab_hitR (put_c (nx := n6) hL6' hI6' (fun x q => q.2) (by rw [List.length_append, List.length_singleton] at hN6; omega) ow ow ow))) (wA_none rfl) rfl rfl rfl (by simp only [evs, ev_tmp, Tr.get_set, reduceIte, Nat.reduceEqDiff, Nat.reduceAdd, heB3, heB4, heB5, g4] <;> rfl) zd (fun v7 h7 hR7 => ?_)
    obtain ⟨t7, n7, w7, rfl, hF7, hL7⟩ := hR7
    have la7 := hF7.le
    have lb7 := hF7.hi
    have lc7 := hF7.wlo
    have ld7 := hF7.whi
    have hP7 := PR.put ow ow hS6 hM6 hN6 hTr6 (trim_trim _) hL7
    have hI7w := hIB.keep (t' := t7) (fun x q => (hF7.same x ow).trans (hF6.same x ow))
    refine oA ?_
    refine o_done (se_seq (s_region hP hC (oM ?_)))
    refine oM ?_
    refine oM ?_
    refine oM ?_
    refine oM ?_
    obtain ⟨id2, of2, c2, hv2, hl2⟩ := hI7w.elem (i := i) ow ow
    refine os (x_indexE hv2 rfl za za u22 T.s3 ow ow) ?_
    refine os (x_load1 rfl za T.g3 (hl2 _ _ _ (fun _ _ => rfl))) ?_
    have hRi := heT (ith tw i) (by rw [ith_eq i0 ow]; exact List.getElem_mem _)
    unfold inR at hRi
    refine os (x_bin (u := .int .i64 (ith tw i - 1)) rfl za (by rfl) (by rw [b_sub, IntWalk.i64_in _ ow])) ?_
    refine o_callR (tab_missR zd (tab_missR zd (tab_hitR (plc_c (nx := n7) (l := tw) (i := i) (n := ith tw i - 1) hI7w (fun x q => by omega) ow i0 ow ow ow)))) (wA_none rfl) rfl rfl rfl (by simp only [evs, ev_tmp, Tr.get_set, reduceIte, Nat.reduceEqDiff, Nat.reduceAdd, heB3, heB4, heB5, g4] <;> rfl) zd (fun v8 h8 hR8 => ?_)
    obtain ⟨t8, n8, w8, rfl, hF8, hI8⟩ := hR8
    have la8 := hF8.le
    have lb8 := hF8.hi
    have lc8 := hF8.wlo
    have ld8 := hF8.whi
    have hz8 : (trim (tw.set i.toNat (ith tw i - 1))).length <= 12 := by have := trim_le (tw.set i.toNat (ith tw i - 1)); rw [List.length_set] at this; omega
    obtain ⟨L8, hL8, hS8, hM8, hN8, hTr8⟩ := hP7
    have hcl8 := cands_len (T := tw) (n := i.toNat)
    have hL8' := (hL8.keep (t' := t8) (fun x q => hF8.same x q.2)).mono (K' := fun x => nx <= x /\ x < n8) (fun x q => ⟨q.1, by omega⟩)
    have hI8' := hI8.mono (K' := fun x => nx <= x /\ x < n8) (fun x q => by omega)
    refine o_callR (tab_missR zd (tab_hitR (put_c (nx := n8) hL8' hI8' (fun x q => q.2) (by rw [List.length_append, List.length_append, List.length_singleton, List.length_singleton] at hN8; omega) ow ow ow))) (wA_none rfl) rfl rfl rfl (by simp only [evs, ev_tmp, Tr.get_set, reduceIte, Nat.reduceEqDiff, Nat.reduceAdd, heB3, heB4, heB5, g4] <;> rfl) zd (fun v9 h9 hR9 => ?_)
    obtain ⟨t9, n9, w9, rfl, hF9, hL9⟩ := hR9
    have la9 := hF9.le
    have lb9 := hF9.hi
    have lc9 := hF9.wlo
    have ld9 := hF9.whi
    have hP9 := PR.put ow ow hS8 hM8 hN8 hTr8 (trim_trim _) hL9
    have hI9w := hIB.keep (t' := t9) (fun x q => ((hF9.same x ow).trans (hF8.same x ow)).trans ((hF7.same x ow).trans (hF6.same x ow)))
    refine oA ?_
    refine o_done (se_block (se_seq (s_region hP hC (oM ?_))))
    refine os (x_bin rfl za (by rfl) b_add) ?_
    refine oA ?_
    refine o_done ?_
    refine se_loop ?_
    have hw1 : IntKind.i64.wrap (i + 1) = i + 1 := IntWalk.i64_in _ ow
    have hC := cands_yes (T := tw) i0 (of_decide_eq_true g4)
    rw [<-hc1] at hC
    exact ⟨i + 1, ⟨_, _, _, _, _, rfl, za, za, (by simp only [Tr.get_set, reduceIte, Nat.reduceEqDiff, Nat.reduceAdd, hw1, heB3, heB4, heB5, g4] <;> rfl), by omega, by omega, by rw [hC]; exact hP9, ⟨ozz, ozz, zwl, zwh, fun x (q : x < n1) => (hF9.same x ow).trans ((hF8.same x ow).trans ((hF7.same x ow).trans ((hF6.same x ow).trans (hGB.same x q))))⟩⟩, by omega⟩
   ·have p4 := g4; try simp only [dd] at p4
    refine s_skip (se_block (se_seq (s_region hP hC (oM ?_))))
    refine os (x_bin rfl za (by rfl) b_add) ?_
    refine oA ?_
    refine o_done ?_
    refine se_loop ?_
    have hw1 : IntKind.i64.wrap (i + 1) = i + 1 := IntWalk.i64_in _ ow
    have hC := cands_no (T := tw) i0 (of_decide_eq_false g4)
    rw [<-hc1] at hC
    exact ⟨i + 1, ⟨_, _, _, _, _, rfl, za, za, (by simp only [Tr.get_set, reduceIte, Nat.reduceEqDiff, Nat.reduceAdd, hw1, heB3, heB4, heB5, g4] <;> rfl), by omega, by omega, by rw [hC]; exact hPB, ⟨ozz, ozz, zwl, zwh, fun x (q : x < n1) => hGB.same x q⟩⟩, by omega⟩
 ·have p2 := g2; try simp only [dd] at p2
  refine s_exit ?_
  refine se_seq_exit ?_
  refine se_loop_exit ?_
  refine se_block_eq (se_seq (s_seq (s_region hP hC (oM ?_))))
  refine oA ?_
  refine o_done (se_seq ?_)
  refine s_ret ?_
  obtain ⟨L, hL, hS, hM, hN2, hTr⟩ := hPA
  have hcl := cands_len (T := tw) (n := i.toNat)
  rw [show i.toNat = tw.length by omega] at hM hN2 hcl
  refine ⟨.inr rfl, _, (by simp only [Tryz.results11, resA, Tr.get_set, reduceIte, Nat.reduceEqDiff, Nat.reduceAdd] <;> rfl), fun K2 s2 l2 hs2 hb2 => ?_⟩
  cases hs2
  rw [hs.uniq hb2, <-hT]
  exact ⟨_, _, _, L, rfl, ⟨ozz, ozz, zwl, zwh, fun x (q : x < nx) => (hGA.same x ow).trans (hF1.same x q)⟩, hL, hS, hM, by omega⟩
end Go.Proofs.YtmladpbadglecaaGreatDoor
