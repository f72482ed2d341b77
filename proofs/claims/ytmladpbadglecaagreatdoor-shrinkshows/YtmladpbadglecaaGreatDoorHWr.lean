/-
  Words of the reference: cut, compared, a number put into a word.
-/
import Derived.Test.YtmladpbadglecaaGreatDoorHWq
set_option linter.unusedSimpArgs false
set_option linter.unusedVariables false
namespace Go.Proofs.YtmladpbadglecaaGreatDoor
open Go.AM
set_option maxRecDepth 100000
set_option maxHeartbeats 1000000
open Go.Sort
set_option maxHeartbeats 16000000
def R_rtrim : List Value -> AH -> Value -> AH -> Prop := fun args h v h' => ∀ K s l, args = [s] -> IV h.t K s l -> NW (trim l) 2 h.t h.next h.wr v h'
noncomputable def c_rtrim := cEx Tryz.prog 22 R_rtrim
theorem con_rtrim : Con Tryz.prog 22 c_rtrim := con_ex Tryz.func22 rfl
theorem rtrim_c {t : Tr AObj} {nx wr : Nat} {K : Nat -> Prop} {s : Value} {l : List Int} (hs : IV t K s l) (hK : ∀ i, K i -> i < nx) (hl : l.length <= 100000) (hN : nx + 2000000 <= BIG) (hwr : wr <= BIG) : ∃ v h', c_rtrim [s] ⟨t, nx, wr⟩ = some (v, h') /\ NW (trim l) 2 t nx wr v h' := by
 have hP := Fits
 have hC : CallSound Tryz.prog (tabOf []) := tab_sound tab_end
 have hF0 : Fr t nx wr t nx wr 0 := Fr.refl
 have tl := trN_le l l.length
 suffices key : SureK Tryz.prog ⟨t, nx, wr⟩ _ [] _ (EndR Tryz.prog _ (R_rtrim [s] ⟨t, nx, wr⟩)) by
  obtain ⟨v, h', q, c⟩ := sure_start (R := R_rtrim) (sz := 21) Tryz.func22 rfl rfl zo key
  exact ⟨v, h', q, c K s l rfl hs⟩
 refine s_seq (s_region hP hC (oA ?_))
 refine o_done (se_seq (s_seq (s_region hP hC (oM ?_))))
 refine os (x_lenI hs rfl rfl zv rfl u22) ?_
 refine oA ?_
 refine o_done (se_seq (s_seq ?_))
 refine s_join (fun s' => ∃ e, s' = ⟨e, 21, ⟨t, nx, wr⟩⟩ /\ e.get 0 = some s /\ e.get 3 = some (.int .i64 (trN l l.length))) ?_ ?_
 ·skip
  refine s_block ?_
  refine s_loop (α := Int) (fun i s' => ∃ e, s' = ⟨e, 21, ⟨t, nx, wr⟩⟩ /\ e.get 0 = some (s) /\ e.get 3 = some (.int .i64 i) /\ 0 <= i /\ i <= l.length /\ trN l l.length = trN l i.toNat) (fun i => i.toNat) (l.length : Int) ⟨_, rfl, hg, hg, by omega, by omega, by rw [Int.toNat_natCast]⟩ ?_
  rintro i s' ⟨e, rfl, he0z0, he0z3, i0, i1, ho⟩
  refine s_seq (s_seq (s_region hP hC (oM ?_)))
  refine os (x_bin rfl za (by rfl) b_gtr) ?_
  refine o_done (se_seq ?_)
  refine s_cond za (fun g2 => ?_) (fun g2 => ?_)
  ·have p2 := g2; try simp only [dd] at p2
   refine s_skip (se_seq (s_block (s_seq (s_seq (s_region hP hC (oM ?_))))))
   refine oM ?_
   refine os (x_bin (u := .int .i64 (i - 1)) rfl za (by rfl) (by rw [b_sub, IntWalk.i64_in _ ow])) ?_
   obtain ⟨id1, of1, c1, hv1, hl1⟩ := hs.elem (i := i - 1) ow ow
   refine os (x_indexE hv1 rfl za za u22 T.s3 ow ow) ?_
   refine os (x_load1 rfl za T.g3 (hl1 _ _ _ (fun _ _ => rfl))) ?_
   refine os (x_bin rfl za (by rfl) b_neq) ?_
   refine o_done (se_seq ?_)
   refine s_cond za (fun g4 => ?_) (fun g4 => ?_)
   ·have p4 := g4; try simp only [dd] at p4
    refine s_exit ?_
    refine se_seq_exit ?_
    refine se_block_ne zd ?_
    refine se_loop_exit ?_
    refine se_block_eq ?_
    refine se_loop ?_
    have hi : ((trN l l.length : Nat) : Int) = i := by rw [ho, trN_step i0 ow, if_neg (nd_t g4)]; omega
    exact ⟨_, rfl, za, by rw [hi]; exact za⟩
   ·have p4 := g4; try simp only [dd] at p4
    refine s_skip (se_seq (s_region hP hC (oM ?_)))
    refine os (x_bin rfl za (by rfl) b_sub) ?_
    refine oA ?_
    refine o_done (se_block ?_)
    refine se_loop ?_
    have hw1 : IntKind.i64.wrap (i - 1) = i - 1 := IntWalk.i64_in _ ow
    refine ⟨i - 1, ⟨_, rfl, za, (by simp only [Tr.get_set, reduceIte, Nat.reduceEqDiff, Nat.reduceAdd, hw1, he0z0, he0z3, g2, g4] <;> rfl), by omega, by omega, ?_⟩, by omega⟩
    rw [ho, trN_step i0 ow, if_pos (nd_f g4)]
  ·have p2 := g2; try simp only [dd] at p2
   refine s_exit ?_
   refine se_seq_exit ?_
   refine se_loop_exit ?_
   refine se_block_eq ?_
   refine se_loop ?_
   have hi : ((trN l l.length : Nat) : Int) = i := by rw [ho, trN_zero ow]; omega
   exact ⟨_, rfl, za, by rw [hi]; exact za⟩
 ·skip
  rintro _ ⟨e, rfl, hez0, hez3⟩
  obtain ⟨wS, iS, hsS⟩ := x_sliceW (P := Tryz.prog) (T := 22) (lo := none) (hi := some (.tmp 18)) (i := 0) (j := (trN l l.length : Nat)) hs u22 T.s3 ow ow ow (fun _ => rfl) (fun q => by cases q)
  have eS : (l.drop (0 : Int).toNat).take (((trN l l.length : Nat) : Int).toNat - (0 : Int).toNat) = trim l := by unfold trim; rw [Int.toNat_zero, List.drop_zero, Int.toNat_natCast, Nat.sub_zero]
  rw [eS] at iS
  have hkS : ∀ i, K i -> (t.set nx (.row [] nx BIG false 0)).get i = t.get i := fun i q => by have := hK i q; rw [gn ow]
  have tlS := trim_le l
  refine s_seq (s_region hP hC ?_)
  refine os (y_bslice0 rfl u22 T.s3 T.z3 zd rfl rfl) ?_
  refine oM ?_
  refine oM ?_
  refine os (hsS hkS rfl za (fun a q => by cases q) (fun a q => by cases q; exact za)) ?_
  refine o_appC (show AccC (t.set nx (.row [] nx BIG false 0)) nx (nx + 1) (fun x => x = nx) (.slice (some ⟨nx, 0, none⟩) 0 0) [] from .inr ⟨rfl, fun x hx => by omega, nx, rfl, by rw [gp rfl], rfl⟩) (cells_cv (iS.keep hkS).cv u22 T.s3) (wA_none rfl) rfl rfl rfl (by simp only [evs, ev_tmp, Tr.get_set, reduceIte, Nat.reduceEqDiff, Nat.reduceAdd, hez0, hez3] <;> rfl) rfl rfl zr u22 T.i22 zd zd (ints_oneC _) ow (fun x hx => rfl) ow (by rw [ints_len, List.length_nil]; omega) (fun v1 t1 n1 w1 S1 hA1 => ?_)
  have la1 := hA1.le
  have lb1 := hA1.hi
  have lc1 := hA1.wlo
  have ld1 := hA1.whi
  have ac1 := hA1.acc
  refine oA ?_
  refine o_done (se_seq ?_)
  refine s_ret ?_
  refine ⟨.inr rfl, _, (by simp only [Tryz.results22, resA, Tr.get_set, reduceIte, Nat.reduceEqDiff, Nat.reduceAdd] <;> rfl), fun K2 s2 l2 hs2 hb2 => ?_⟩
  cases hs2
  rw [hs.uniq hb2]
  exact ⟨_, _, _, rfl, ⟨ozz, ozz, ozz, ozz, fun i (hi : i < nx) => (hA1.same i ow ow).trans (by rw [gn ow])⟩, ac1.cv.iv.mono (fun x q => ac1.bnd x q)⟩
theorem lessW_ne {a b : List Int} (h : ¬ ((trim a).length : Int) = (trim b).length) : lessW a b = decide (((trim a).length : Int) < (trim b).length) := by
 by_cases q : ((trim a).length : Int) < (trim b).length
 ·rw [decide_eq_true q, lessW_iff]
  exact .inl ow
 ·rw [decide_eq_false q, lessW_not]
  exact .inl ow
theorem lessW_cmp {a b : List Int} (h : ((trim a).length : Int) = (trim b).length) : lessW a b = decide (cmpL (trim a) (trim b) < 0) := by
 by_cases q : cmpL (trim a) (trim b) < 0
 ·rw [decide_eq_true q, lessW_iff]
  exact .inr ⟨by omega, q⟩
 ·rw [decide_eq_false q, lessW_not]
  exact .inr ⟨by omega, by omega⟩
def R_rless : List Value -> AH -> Value -> AH -> Prop := fun args h v h' => ∀ K s a r b, args = [s, r] -> IV h.t K s a -> IV h.t K r b -> ∃ t' nx' wr', h' = ⟨t', nx', wr'⟩ /\ Fr h.t h.next h.wr t' nx' wr' 5 /\ v = .bool (lessW a b)
noncomputable def c_rless := cEx Tryz.prog 36 R_rless
theorem con_rless : Con Tryz.prog 36 c_rless := con_ex Tryz.func36 rfl
theorem rless_c {t : Tr AObj} {nx wr : Nat} {K : Nat -> Prop} {s r : Value} {a b : List Int} (hs : IV t K s a) (hr : IV t K r b) (hK : ∀ i, K i -> i < nx) (hl : a.length <= 100000) (hm : b.length <= 100000) (hN : nx + 2000020 <= BIG) (hwr : wr <= BIG) : ∃ v h', c_rless [s, r] ⟨t, nx, wr⟩ = some (v, h') /\ ∃ t' nx' wr', h' = ⟨t', nx', wr'⟩ /\ Fr t nx wr t' nx' wr' 5 /\ v = .bool (lessW a b) := by
 have hP := Fits
 have hC : CallSound Tryz.prog (tabOf [(22, c_rtrim)]) := tab_sound (tab_cons con_rtrim tab_end)
 have hF0 : Fr t nx wr t nx wr 0 := Fr.refl
 suffices key : SureK Tryz.prog ⟨t, nx, wr⟩ _ [] _ (EndR Tryz.prog _ (R_rless [s, r] ⟨t, nx, wr⟩)) by
  obtain ⟨v, h', q, c⟩ := sure_start (R := R_rless) (sz := 46) Tryz.func36 rfl rfl zo key
  exact ⟨v, h', q, c K s a r b rfl hs hr⟩
 refine s_seq (s_region hP hC (oA ?_))
 refine o_done (se_seq (s_seq (s_region hP hC (oM ?_))))
 refine o_callR (tab_hitR (rtrim_c hs hK hl ow hwr)) (wA_none rfl) rfl rfl rfl zv zd (fun v1 h1 hR1 => ?_)
 obtain ⟨t1, n1, w1, rfl, hF1, hI1⟩ := hR1
 have a1 := hF1.le
 have a2 := hF1.hi
 have a3 := hF1.wlo
 have a4 := hF1.whi
 have la := trim_le a
 have lb := trim_le b
 refine oA ?_
 refine o_done (se_seq (s_seq (s_region hP hC (oM ?_))))
 refine o_callR (tab_hitR (rtrim_c (nx := n1) (hr.keep (fun i q => hF1.same i (hK i q))) (fun i q => by have := hK i q; omega) hm ow ow)) (wA_none rfl) rfl rfl rfl zv zd (fun v2 h2 hR2 => ?_)
 obtain ⟨t2, n2, w2, rfl, hF2, hI2⟩ := hR2
 have b1 := hF2.le
 have b2 := hF2.hi
 have b3 := hF2.wlo
 have b4 := hF2.whi
 have hA := (hI1.keep (t' := t2) (fun i q => hF2.same i q.2)).mono (K' := fun i => nx <= i /\ i < n2) (fun i q => by omega)
 have hB := hI2.mono (K' := fun i => nx <= i /\ i < n2) (fun i q => by omega)
 have hF3 := Fr.trans (m := 5) hF1 hF2 zd
 refine oA ?_
 refine o_done (se_seq (s_seq (s_seq (s_region hP hC (oM ?_)))))
 refine os (x_lenI hA rfl rfl zv rfl u22) ?_
 refine oM ?_
 refine os (x_lenI hB rfl rfl zv rfl u22) ?_
 refine os (x_bin rfl zt zt b_neq) ?_
 refine o_done (se_seq ?_)
 refine s_cond zt (fun g1 => ?_) (fun g1 => ?_)
 ·have p1 := g1; try simp only [dd] at p1
  refine s_seq (s_region hP hC (oM ?_))
  refine os (x_lenI hA rfl rfl zv rfl u22) ?_
  refine oM ?_
  refine os (x_lenI hB rfl rfl zv rfl u22) ?_
  refine os (x_bin rfl zt zt b_lss) ?_
  refine oA ?_
  refine o_done (se_seq ?_)
  refine s_ret ?_
  refine se_seq_ret ?_
  have hv : lessW a b = decide (((trim a).length : Int) < (trim b).length) := lessW_ne (nd_t g1)
  refine ⟨.inr rfl, _, (by simp only [Tryz.results36, resA, Tr.get_set, reduceIte, Nat.reduceEqDiff, Nat.reduceAdd] <;> rfl), fun K2 s2 a' r2 b' hs2 ha2 hb2 => ?_⟩
  cases hs2
  rw [hs.uniq ha2, hr.uniq hb2]
  exact ⟨_, _, _, rfl, ⟨hF3.le, hF3.hi, Nat.le_trans hF3.wlo ozz, Nat.le_trans (show _ <= w2 from ozz) hF3.whi, hF3.same⟩, by rw [hv]; rfl⟩
 ·have p1 := g1; try simp only [dd] at p1
  refine s_skip (se_seq (s_seq (s_seq (s_region hP hC (oA ?_)))))
  refine o_done (se_seq (s_block ?_))
  have hq0 : ((trim a).length : Int) = (trim b).length := nd_f g1
  refine s_loop (α := Int) (fun i s' => ∃ e wq, s' = ⟨e, 46, ⟨t2, n2, wq⟩⟩ /\ e.get 5 = some (v1) /\ e.get 6 = some (v2) /\ e.get 7 = some (.int .i64 i) /\ 0 <= i /\ i <= (trim a).length /\ cmpL (trim a) (trim b) = cmpL ((trim a).drop i.toNat) ((trim b).drop i.toNat) /\ wq = w2) (fun i => ((trim a).length - i).toNat) 0 ⟨_, _, rfl, zh, zh, zh, by omega, by omega, by rw [Int.toNat_zero, List.drop_zero, List.drop_zero], rfl⟩ ?_
  rintro i s' ⟨e, wq, rfl, heA5, heA6, heA7, i0, i1, ho, hwq⟩
  refine s_seq (s_seq (s_region hP hC (oM ?_)))
  refine oM ?_
  refine os (x_lenI hA rfl rfl (by simp only [evs, ev_tmp, Tr.get_set, reduceIte, Nat.reduceEqDiff, Nat.reduceAdd, heA5, heA6, heA7] <;> rfl) rfl u22) ?_
  refine os (x_bin rfl za za b_lss) ?_
  refine o_done (se_seq ?_)
  refine s_cond za (fun g4 => ?_) (fun g4 => ?_)
  ·have p4 := g4; try simp only [dd] at p4
   refine s_skip (se_seq (s_seq (s_block (s_seq ?_))))
   have hqB : n2 <= BIG := by omega
   refine s_draw hP hC zr ?_
   refine dM ?_
   refine dM ?_
   obtain ⟨id1, of1, c1, hv1, hl1⟩ := hA.elem (i := i) ow ow
   refine ds (x_indexE hv1 rfl za za u22 T.s3 ow ow) ?_
   refine ds (x_load1 rfl za T.g3 (hl1 _ _ _ (fun _ _ => rfl))) ?_
   refine dM ?_
   refine dM ?_
   obtain ⟨id2, of2, c2, hv2, hl2⟩ := hB.elem (i := i) ow ow
   refine ds (x_indexE hv2 rfl za za u22 T.s3 ow ow) ?_
   refine ds (x_load1 rfl za T.g3 (hl2 _ _ _ (fun _ _ => rfl))) ?_
   refine ds (x_bin rfl za za b_neq) ?_
   refine d_done ⟨de_quiet (by simp only [List.all_append, List.all_cons, List.all_nil, infOf, decide_eq_true hqB, Bool.and_self]) zBG zBG, ?_⟩
   refine se_seq ?_
   refine s_cond za (fun g6 => ?_) (fun g6 => ?_)
   ·have p6 := g6; try simp only [dd] at p6
    refine s_seq ?_
    have hqB : n2 <= BIG := by omega
    refine s_draw hP hC zr ?_
    refine dM ?_
    refine dM ?_
    obtain ⟨id3, of3, c3, hv3, hl3⟩ := hA.elem (i := i) ow ow
    refine ds (x_indexE hv3 rfl za za u22 T.s3 ow ow) ?_
    refine ds (x_load1 rfl za T.g3 (hl3 _ _ _ (fun _ _ => rfl))) ?_
    refine dM ?_
    refine dM ?_
    obtain ⟨id4, of4, c4, hv4, hl4⟩ := hB.elem (i := i) ow ow
    refine ds (x_indexE hv4 rfl za za u22 T.s3 ow ow) ?_
    refine ds (x_load1 rfl za T.g3 (hl4 _ _ _ (fun _ _ => rfl))) ?_
    refine ds (x_bin rfl za za b_lss) ?_
    refine ds (x_assign rfl za) ?_
    refine d_done ⟨de_quiet (by simp only [List.all_append, List.all_cons, List.all_nil, infOf, decide_eq_true hqB, Bool.and_self]) zBG zBG, ?_⟩
    refine se_seq ?_
    refine s_ret ?_
    refine se_block_ret ?_
    refine se_seq_ret ?_
    refine se_loop_ret ?_
    refine se_block_ret ?_
    refine se_seq_ret ?_
    have hv : lessW a b = decide (ith (trim a) i < ith (trim b) i) := by rw [lessW_cmp hq0, ho, cmpL_step i0 ow ow, if_neg (fun q => nd_t g6 (cmpI_zero.1 q))]; exact decide_eq_decide.2 cmpI_neg
    refine ⟨.inr rfl, _, (by simp only [Tryz.results36, resA, Tr.get_set, reduceIte, Nat.reduceEqDiff, Nat.reduceAdd] <;> rfl), fun K2 s2 a' r2 b' hs2 ha2 hb2 => ?_⟩
    cases hs2
    rw [hs.uniq ha2, hr.uniq hb2]
    exact ⟨_, _, _, rfl, ⟨hF3.le, hF3.hi, Nat.le_trans hF3.wlo ozz, Nat.le_trans (show _ <= w2 from ozz) hF3.whi, hF3.same⟩, by rw [hv]; rfl⟩
   ·have p6 := g6; try simp only [dd] at p6
    refine s_skip (se_block (se_seq (s_region hP hC (oM ?_))))
    refine os (x_bin rfl za (by rfl) b_add) ?_
    refine oA ?_
    refine o_done ?_
    refine se_loop ?_
    have hw1 : IntKind.i64.wrap (i + 1) = i + 1 := IntWalk.i64_in _ ow
    exact ⟨i + 1, ⟨_, _, rfl, za, za, (by simp only [Tr.get_set, reduceIte, Nat.reduceEqDiff, Nat.reduceAdd, hw1, heA5, heA6, heA7, g4, g6] <;> rfl), by omega, by omega, by rw [ho, cmpL_step i0 ow ow, if_pos (cmpI_zero.2 (nd_f g6))], by omega⟩, by omega⟩
  ·have p4 := g4; try simp only [dd] at p4
   refine s_exit ?_
   refine se_seq_exit ?_
   refine se_loop_exit ?_
   refine se_block_eq (se_seq (s_seq (s_region hP hC (oA ?_))))
   refine o_done (se_seq ?_)
   refine s_ret ?_
   have hv : lessW a b = false := by rw [lessW_cmp hq0, ho, List.drop_eq_nil_of_le ow, List.drop_eq_nil_of_le ow]; rfl
   refine ⟨.inr rfl, _, (by simp only [Tryz.results36, resA, Tr.get_set, reduceIte, Nat.reduceEqDiff, Nat.reduceAdd] <;> rfl), fun K2 s2 a' r2 b' hs2 ha2 hb2 => ?_⟩
   cases hs2
   rw [hs.uniq ha2, hr.uniq hb2]
   exact ⟨_, _, _, rfl, ⟨hF3.le, hF3.hi, Nat.le_trans hF3.wlo ozz, Nat.le_trans (show _ <= w2 from ozz) hF3.whi, hF3.same⟩, by rw [hv]; rfl⟩
def R_plc : List Value -> AH -> Value -> AH -> Prop := fun args h v h' => ∀ K s l i n, args = [s, .int .i64 i, .int .i64 n] -> IV h.t K s l -> NW (trim (l.set i.toNat n)) 6 h.t h.next h.wr v h'
noncomputable def c_plc := cEx Tryz.prog 24 R_plc
theorem con_plc : Con Tryz.prog 24 c_plc := con_ex Tryz.func24 rfl
theorem plc_c {t : Tr AObj} {nx wr : Nat} {K : Nat -> Prop} {s : Value} {l : List Int} {i n : Int} (hs : IV t K s l) (hK : ∀ i, K i -> i < nx) (hl : l.length <= 100000) (h0 : 0 <= i) (h1 : i < l.length) (hN : nx + 2000020 <= BIG) (hwr : wr <= BIG) : ∃ v h', c_plc [s, .int .i64 i, .int .i64 n] ⟨t, nx, wr⟩ = some (v, h') /\ NW (trim (l.set i.toNat n)) 6 t nx wr v h' := by
 have hP := Fits
 have hC : CallSound Tryz.prog (tabOf [(22, c_rtrim)]) := tab_sound (tab_cons con_rtrim tab_end)
 have hF0 : Fr t nx wr t nx wr 0 := Fr.refl
 have hkS : ∀ i, K i -> (t.set nx (.row [] nx BIG false 0)).get i = t.get i := fun i q => by have := hK i q; rw [gn ow]
 suffices key : SureK Tryz.prog ⟨t, nx, wr⟩ _ [] _ (EndR Tryz.prog _ (R_plc [s, .int .i64 i, .int .i64 n] ⟨t, nx, wr⟩)) by
  obtain ⟨v, h', q, c⟩ := sure_start (R := R_plc) (sz := 17) Tryz.func24 rfl rfl zo key
  exact ⟨v, h', q, c K s l i n rfl hs⟩
 refine s_seq (s_region hP hC (oA ?_))
 refine o_done (se_seq (s_seq (s_region hP hC ?_)))
 refine os (y_bslice0 rfl u22 T.s3 T.z3 zd rfl rfl) ?_
 refine oM ?_
 refine o_appC (show AccC (t.set nx (.row [] nx BIG false 0)) nx (nx + 1) (fun x => x = nx) (.slice (some ⟨nx, 0, none⟩) 0 0) [] from .inr ⟨rfl, fun x hx => by omega, nx, rfl, by rw [gp rfl], rfl⟩) (cells_cv (hs.keep hkS).cv u22 T.s3) (wA_none rfl) rfl rfl rfl zv rfl rfl zr u22 T.i22 zd zd (ints_oneC _) ow (fun x hx => rfl) ow (by rw [ints_len, List.length_nil]; omega) (fun v1 t1 n1 w1 S1 hA1 => ?_)
 have la1 := hA1.le
 have lb1 := hA1.hi
 have lc1 := hA1.wlo
 have ld1 := hA1.whi
 have ac1 := hA1.acc
 rw [List.nil_append] at ac1
 obtain ⟨id1, r1, rfl, own1, sr1, si1⟩ : ∃ id r, v1 = .slice (some ⟨id, 0, none⟩) l.length (l.length + 1) /\ OwnS t1 r id (ints l) /\ S1 r /\ S1 id := by
  rcases ac1 with h | ⟨h, _⟩
  ·rcases h.acc with ⟨h, _⟩ | ⟨_, _, id, r, e1, e2, e3, e4⟩
   ·rw [ints_len] at h; omega
   ·rw [ints_len] at e1
    exact ⟨id, r, e1, e2.s, e3, e4⟩
  ·have := congrArg List.length h
   rw [ints_len, List.length_nil] at this
   omega
 have br := ac1.bnd r1 sr1
 have bi := ac1.bnd id1 si1
 refine oA ?_
 refine o_done (se_seq (s_seq (s_region hP hC (oM ?_))))
 refine oM ?_
 refine oM ?_
 refine os (x_index rfl zt zt u22 T.s3 ow ow) ?_
 obtain ⟨tS, oSq, kS, hS⟩ := x_storeS (P := Tryz.prog) (T := 3) (nx := n1) (off := 0 + i.toNat * 1) (v := .int .i64 n) own1 rfl T.s3 (by rw [ints_len]; omega) rfl
 have eS : (ints l).set (0 + i.toNat * 1) (.int .i64 n) = ints (l.set i.toNat n) := by
  rw [Nat.zero_add, Nat.mul_one]
  unfold ints
  rw [List.map_set]
 rw [eS] at oSq
 have iS : IV tS (fun x => x = id1 \/ x = r1) (.slice (some ⟨id1, 0, none⟩) l.length (l.length + 1)) (l.set i.toNat n) := .inr ⟨id1, 0, _, by rw [List.length_set], .inr ⟨0, by rw [List.length_set]⟩, fun t' nx' wr' hk => by rw [List.length_set]; exact l_all ((oSq.keep (hk _ (.inl rfl)) (hk _ (.inr rfl))).whole) (by rw [ints_len, List.length_set])⟩
 refine o_stepN (wA_none rfl) rfl (hS rfl zt zt) ?_
 refine o_done (se_seq (s_seq (s_region hP hC (oM ?_))))
 refine o_callR (tab_hitR (rtrim_c (nx := n1) iS (fun x q => by omega) (by rw [List.length_set]; omega) ow ow)) (wA_none rfl) rfl rfl rfl zv zd (fun v2 h2 hR2 => ?_)
 obtain ⟨t2, n2, w2, rfl, hF2, hI2⟩ := hR2
 have b1 := hF2.le
 have b2 := hF2.hi
 have b3 := hF2.wlo
 have b4 := hF2.whi
 refine oA ?_
 refine o_done (se_seq ?_)
 refine s_ret ?_
 refine ⟨.inr rfl, _, (by simp only [Tryz.results24, resA, Tr.get_set, reduceIte, Nat.reduceEqDiff, Nat.reduceAdd] <;> rfl), fun K2 s2 l2 i2 n2 hs2 hb2 => ?_⟩
 cases hs2
 rw [hs.uniq hb2]
 exact ⟨_, _, _, rfl, ⟨ozz, ozz, ozz, ozz, fun x (hx : x < nx) => (hF2.same x ow).trans ((kS x ow).trans ((hA1.same x ow ow).trans (by rw [gn ow])))⟩, hI2.mono (fun x q => ⟨Nat.le_trans (show nx <= n1 by omega) q.1, q.2⟩)⟩
end Go.Proofs.YtmladpbadglecaaGreatDoor
namespace Go.Proofs.YtmladpbadglecaaGreatDoor
open Go.AM
set_option maxRecDepth 100000
set_option maxHeartbeats 1000000
open Go.Sort
set_option maxHeartbeats 16000000
section
variable {P : Program} {call : Call'} {e : Tr Value} {o : Oper} {T el : TypeId} {x hi : Operand} {h : AH} {c : Call}
theorem x_capN (ho : o.op = .call c) (hc : c.callee = .builtin .cap) (ha : evs e c.args.toList = some [.slice none 0 0]) (ht : c.argTypes[0]? = some T) (hu : P.underlying T = some (.slice el)) : doOp P call e h o = some (.int .i64 0, h) := by
 unfold doOp
 rw [ho]
 simp only [doCall, ha, hc, abuiltin, ht, hu]
theorem x_sliceN (ho : o.op = .slice T x none (some hi) none) (hx : ev e x = some (.slice none 0 0)) (hl : ev e hi = some (.int .i64 0)) (hu : P.underlying T = some (.slice el)) (hz : szOf P el = some 1) : doOp P call e h o = some (.slice none 0 0, h) := by
 rw [do_op (by rw [ho]; simp), ho]
 simp only [aop, hx, hl, evO, Option.map_some, sliceV, sliceG, hu, hz, nat?]
 rfl
end
def GA (t : Tr AObj) (b N : Nat) (v : Value) (d : List Value) : Prop :=
 (N = 0 /\ d = [] /\ v = .slice none 0 0) \/ (0 < N /\ d.length <= N /\ v = .slice (some ⟨b, 0, none⟩) d.length (d.length + 1 + 4294967296 * (N - d.length)) /\ ∃ D : List Value, D.length = N /\ D.take d.length = d /\ t.get b = some (.row D b BIG false D.length))
theorem app_G {P : Program} {T el : TypeId} {by' b N nx wr : Nat} {t : Tr AObj} {v : Value} {d M : List Value} (h : GA t b N v d) (hu : P.underlying T = some (.slice el)) (hi : TyI P el 1 by') (hby : by' <= 24) (ho : M.all oneC = true) (hN : d.length + M.length <= N) (hN2 : N <= 100000) :
  ∃ v' t' wr', appendV P ⟨t, nx, wr⟩ T v M.length M = some (v', ⟨t', nx, wr'⟩) /\ GA t' b N v' (d ++ M) /\ (∀ i, i ≠ b -> t'.get i = t.get i) /\ min wr b <= wr' /\ wr' <= wr := by
 have hBIG : (1000000 : Nat) < BIG := by unfold BIG; omega
 have hmul : ∀ n, n <= 1000000 -> 2 * n * by' <= 281474976710656 := fun n hn => Nat.le_trans (Nat.mul_le_mul (Nat.mul_le_mul_left 2 hn) hby) zd
 by_cases hM : M = []
 ·subst hM
  rw [List.length_nil] at hN
  rw [List.append_nil]
  rcases h with ⟨h1, rfl, rfl⟩ | ⟨h0, h1, rfl, h2⟩
  ·exact ⟨_, t, wr, ya_zero hu hi (hmul 0 ow) ow, .inl ⟨h1, rfl, rfl⟩, fun _ _ => rfl, Nat.min_le_left _ _, Nat.le_refl _⟩
  ·exact ⟨_, t, wr, ya_zero hu hi (hmul _ ow) ow, .inr ⟨h0, h1, rfl, h2⟩, fun _ _ => rfl, Nat.min_le_left _ _, Nat.le_refl _⟩
 ·have hp : 0 < M.length := List.length_pos_iff.2 hM
  rcases h with ⟨h1, _, _⟩ | ⟨h0, h1, rfl, D, h2, h3, h4⟩
  ·omega
  ·have hlen : (d ++ M).length = d.length + M.length := List.length_append
   have hs := storeC_row (nx := nx) (wr := wr) (off := d.length) (vs := M) h4 rfl ow ho
   have hsl : (splice D d.length M).length = D.length := splice_len ow
   have happ : appendV P ⟨t, nx, wr⟩ T (.slice (some ⟨b, 0, none⟩) d.length (d.length + 1 + 4294967296 * (N - d.length))) M.length M = some (.slice (some ⟨b, 0, none⟩) (d.length + M.length) (d.length + M.length + 1 + 4294967296 * (N - d.length - M.length)), ⟨t.set b (.row (splice D d.length M) b BIG false (splice D d.length M).length), nx, min wr b⟩) := by
    obtain ⟨i, i1, i2, i3, i4⟩ := hi
    unfold appendV
    simp only [hu, i1]
    rw [if_pos ⟨by omega, by rw [i2]; omega, by rw [i3]; exact hmul _ ow, by omega, ho, by rw [i4, i2], by omega⟩, if_neg ow]
    have hl : loadC ⟨t, nx, wr⟩ b 0 (d.length * 1) = some d := by
     rw [Nat.mul_one, l_whole (whole_row h4 rfl) 0 d.length ow, List.drop_zero, h3]
    simp only [i2, hl]
    rw [if_neg ow, if_pos (spareOk_mk zd zd), spareK_eq, if_pos ow, Nat.zero_add, Nat.mul_one, hs]
   refine ⟨_, _, _, happ, .inr ⟨h0, by omega, by rw [hlen]; congr 1; omega, splice D d.length M, by omega, ?_, by rw [gp rfl]⟩, fun i hi2 => by rw [Tr.get_set, if_neg hi2], Nat.le_refl _, Nat.min_le_left _ _⟩
   unfold splice
   rw [hlen, h3, List.take_append_of_le_length (by rw [List.length_append]; omega), List.take_of_length_le (by rw [List.length_append]; omega)]
theorem GA.iv {t : Tr AObj} {b N : Nat} {v : Value} {l : List Int} (h : GA t b N v (ints l)) (hN : l.length = N) : IV t (fun i => i = b) v l := by
 rcases h with ⟨h1, h2, rfl⟩ | ⟨h0, h1, rfl, D, h2, h3, h4⟩
 ·exact .inl ⟨List.eq_nil_of_length_eq_zero ow, rfl⟩
 ·rw [ints_len] at h3 ⊢
  refine .inr ⟨b, 0, _, rfl, .inr ⟨N - l.length, rfl⟩, fun t' nx' wr' hk => ?_⟩
  rw [List.take_of_length_le ow] at h3
  rw [h3] at h4
  exact l_all (whole_row ((hk b rfl).trans h4) rfl) (ints_len l).symm
def R_grow : List Value -> AH -> Value -> AH -> Prop := fun args h v h' => ∀ (n : Int), args = [.slice none 0 0, .int .i64 n] -> (n = 0 -> v = .slice none 0 0 /\ h' = ⟨h.t, h.next, h.wr⟩) /\ (0 < n -> v = .slice (some ⟨h.next, 0, none⟩) 0 (0 + 1 + 4294967296 * n.toNat) /\ h' = ⟨(h.t).set (h.next) (.row (zerosC [.int .i64 0] n.toNat) (h.next) BIG false n.toNat), h.next + 1, h.wr⟩)
noncomputable def c_grow := cEx Tryz.prog 33 R_grow
theorem con_grow : Con Tryz.prog 33 c_grow := con_ex Tryz.func33 rfl
theorem grow_c {t : Tr AObj} {K : Nat -> Prop} {nx wr : Nat} {n : Int} (h0 : 0 <= n) (h1 : n <= 10000) (hN : nx + 100 <= BIG) (hwr : wr <= BIG) : ∃ v h', c_grow [.slice none 0 0, .int .i64 n] ⟨t, nx, wr⟩ = some (v, h') /\ (n = 0 -> v = .slice none 0 0 /\ h' = ⟨t, nx, wr⟩) /\ (0 < n -> v = .slice (some ⟨nx, 0, none⟩) 0 (0 + 1 + 4294967296 * n.toNat) /\ h' = ⟨(t).set (nx) (.row (zerosC [.int .i64 0] n.toNat) (nx) BIG false n.toNat), nx + 1, wr⟩) := by
 have hP := Fits
 have hC : CallSound Tryz.prog (tabOf []) := tab_sound tab_end
 suffices key : SureK Tryz.prog ⟨t, nx, wr⟩ _ [] _ (EndR Tryz.prog _ (R_grow [.slice none 0 0, .int .i64 n] ⟨t, nx, wr⟩)) by
  obtain ⟨v, h', q, x⟩ := sure_start (R := R_grow) (sz := 27) Tryz.func33 rfl rfl zo key
  exact ⟨v, h', q, x n rfl⟩
 refine s_seq (s_region hP hC (oA ?_))
 refine o_done (se_seq (s_seq (s_seq (s_region hP hC (oM ?_)))))
 refine os (x_bin (u := .bool false) rfl zt (by rfl) (by rw [b_lss, decide_eq_false ow])) ?_
 refine o_done (se_seq ?_)
 refine s_condF zt ?_
 refine s_skip (se_seq (s_seq (s_seq (s_region hP hC (oM ?_)))))
 refine oM ?_
 refine os (x_capN rfl rfl zv rfl u22) ?_
 refine oM ?_
 refine os (x_len rfl rfl zv rfl u22) ?_
 refine os (x_bin (u := .int .i64 0) rfl zt zt (by rw [b_sub]; rfl)) ?_
 refine os (x_bin (u := .int .i64 n) rfl zt zt (by rw [b_sub, IntWalk.i64_in _ ow, Int.sub_zero])) ?_
 refine oA ?_
 refine o_done (se_seq (s_seq (s_region hP hC (oM ?_))))
 refine os (x_bin rfl zt (by rfl) b_gtr) ?_
 refine o_done (se_seq ?_)
 refine s_cond zt (fun g2 => ?_) (fun g2 => ?_)
 ·have p2 := g2; try simp only [dd] at p2
  refine s_region hP hC (oM ?_)
  refine oM ?_
  refine os (x_capN rfl rfl zv rfl u22) ?_
  refine os (x_sliceN rfl zt zt u22 T.s3) ?_
  refine oM ?_
  obtain ⟨iz, i1, i2, i3, i4⟩ := T.i22
  have hzl : (zerosC [.int .i64 0] n.toNat).length = n.toNat := by rw [zerosC_len, List.length_singleton, Nat.mul_one]
  refine os (x_appendZ rfl rfl zv rfl rfl Tryz.underlying3 u22 Tryz.type3 rfl rfl ow ow (by show n * 8 <= 281474976710656; omega) (ya_nil u22 T.i22 zd (by rw [show (Value.int IntKind.i64 0).cells.toList = [.int .i64 0] from rfl, hzl, Nat.mul_one]) ow (by unfold BIG; omega) (zerosC_all rfl) ow)) ?_
  refine oM ?_
  refine os (x_len rfl rfl zv rfl u22) ?_
  refine os (y_sliceHi1 (i := 0) rfl zt zt u22 T.s3 ow ow) ?_
  refine oA ?_
  refine o_done (se_seq (s_seq (s_region hP hC (oM ?_))))
  refine oA ?_
  refine o_done (se_seq ?_)
  refine s_ret ?_
  refine ⟨.inr rfl, _, (by simp only [Tryz.results33, resA, Tr.get_set, reduceIte, Nat.reduceEqDiff, Nat.reduceAdd] <;> rfl), fun n2 hs2 => ?_⟩
  cases hs2
  exact ⟨fun q => by omega, fun _ => ⟨rfl, by rw [show (Value.int IntKind.i64 0).cells.toList = [.int .i64 0] from rfl, hzl]⟩⟩
 ·have p2 := g2; try simp only [dd] at p2
  refine s_skip (se_seq (s_seq (s_region hP hC (oM ?_))))
  refine oA ?_
  refine o_done (se_seq ?_)
  refine s_ret ?_
  refine ⟨.inr rfl, _, (by simp only [Tryz.results33, resA, Tr.get_set, reduceIte, Nat.reduceEqDiff, Nat.reduceAdd] <;> rfl), fun n2 hs2 => ?_⟩
  cases hs2
  exact ⟨fun _ => ⟨rfl, rfl⟩, fun q => by omega⟩
def flW (L : List Wd) : List Int := L.flatMap (·.2)
theorem flW_step {L : List Wd} {i : Int} (h0 : 0 <= i) (h1 : i < L.length) : flW (L.take (i + 1).toNat) = flW (L.take i.toNat) ++ (L[i.toNat]!).2 := by
 rw [show (i + 1).toNat = i.toNat + 1 by omega, List.take_succ_eq_append_getElem ow, getElem!_pos L i.toNat ow]
 unfold flW
 rw [List.flatMap_append, List.flatMap_cons, List.flatMap_nil, List.append_nil]
theorem flW_le {L : List Wd} {n : Nat} : (flW (L.take n)).length <= (flW L).length := by
 have h : flW L = flW (L.take n) ++ flW (L.drop n) := by
  unfold flW
  rw [<-List.flatMap_append, List.take_append_drop]
 rw [h, List.length_append]
 omega
theorem map_at {L : List Wd} {i : Nat} (h : i < L.length) : (L.map (·.1))[i]! = (L[i]!).1 := by
 rw [getElem!_pos _ i (by rw [List.length_map]; exact h), getElem!_pos L i h, List.getElem_map]
theorem mem_L {L : List Wd} {i : Nat} (h : i < L.length) : L[i]! ∈ L := by
 rw [getElem!_pos L i h]
 exact List.getElem_mem h
theorem flW_uniq {t : Tr AObj} {K K' : Nat -> Prop} : ∀ {L L2 : List Wd}, L2.map (·.1) = L.map (·.1) -> (∀ x ∈ L, IV t K x.1 x.2) -> (∀ x ∈ L2, IV t K' x.1 x.2) -> flW L2 = flW L
 | [], [], _, _, _ => rfl
 | [], _ :: _, h, _, _ => by cases h
 | _ :: _, [], h, _, _ => by cases h
 | x :: L, y :: L2, h, h1, h2 => by
  simp only [List.map_cons, List.cons.injEq] at h
  have ih := flW_uniq h.2 (fun z hz => h1 z (List.mem_cons_of_mem _ hz)) (fun z hz => h2 z (List.mem_cons_of_mem _ hz))
  have a := h1 x (List.mem_cons_self ..)
  have b := h2 y (List.mem_cons_self ..)
  rw [h.1] at b
  have e := a.uniq b
  simp only [flW, List.flatMap_cons] at ih ⊢
  rw [ih, e]
def R_cat : List Value -> AH -> Value -> AH -> Prop := fun args h v h' => ∀ K s (L : List Wd), args = [s] -> CV h.t K s (L.map (·.1)) -> (∀ x ∈ L, IV h.t K x.1 x.2) -> NW (flW L) 2 h.t h.next h.wr v h'
noncomputable def c_cat := cEx Tryz.prog 16 R_cat
theorem con_cat : Con Tryz.prog 16 c_cat := con_ex Tryz.func16 rfl
theorem cat_c {t : Tr AObj} {K : Nat -> Prop} {nx wr : Nat} {s : Value} {L : List Wd} (hs : CV t K s (L.map (·.1))) (hL : ∀ x ∈ L, IV t K x.1 x.2) (hK : ∀ i, K i -> i < nx) (hl : L.length <= 1000) (hf : (flW L).length <= 1000) (hN : nx + 2000 <= BIG) (hwr : wr <= BIG) : ∃ v h', c_cat [s] ⟨t, nx, wr⟩ = some (v, h') /\ NW (flW L) 2 t nx wr v h' := by
 have hP := Fits
 have hC : CallSound Tryz.prog (tabOf [(33, c_grow)]) := tab_sound (tab_cons con_grow tab_end)
 suffices key : SureK Tryz.prog ⟨t, nx, wr⟩ _ [] _ (EndR Tryz.prog _ (R_cat [s] ⟨t, nx, wr⟩)) by
  obtain ⟨v, h', q, x⟩ := sure_start (R := R_cat) (sz := 36) Tryz.func16 rfl rfl zo key
  exact ⟨v, h', q, x K s L rfl hs hL⟩
 have hll : (L.map (·.1)).length = L.length := List.length_map ..
 refine s_seq (s_region hP hC (oA ?_))
 refine o_done (se_seq (s_seq (s_region hP hC (oA ?_))))
 refine o_done (se_seq (s_seq (s_seq (s_region hP hC (oM ?_)))))
 refine os ((x_lenC hs rfl rfl zv rfl u38).trans (by rw [hll])) ?_
 refine os (x_move rfl (by rfl)) ?_
 refine o_done (se_seq (s_block ?_))
 refine s_loop (α := Int) (fun i s' => ∃ e, s' = ⟨e, 36, ⟨t, nx, wr⟩⟩ /\ e.get 3 = some (.int .i64 ((flW (L.take i.toNat)).length : Nat)) /\ e.get 9 = some (s) /\ e.get 10 = some (.int .i64 (L.length : Nat)) /\ e.get 11 = some (.int .i64 (i)) /\ e.get 0 = some (s) /\ 0 <= i /\ i <= L.length) (fun i => (L.length + 5 - i).toNat) 0 ⟨_, rfl, hg, hg, hg, hg, hg, by omega, by omega⟩ ?_
 rintro i s' ⟨e, rfl, heA3, heA9, heA10, heA11, heA0, i0, i1⟩
 refine s_seq (s_region hP hC ?_)
 refine os (x_bin rfl za za b_lss) ?_
 refine o_done (se_seq (s_seq ?_))
 refine s_cond za (fun g2 => ?_) (fun g2 => ?_)
 ·have p2 := g2; try simp only [dd] at p2
  refine s_skip (se_seq (s_seq (s_block (s_seq (s_region hP hC ?_)))))
  obtain ⟨id1, of1, c1, hv1, hl1⟩ := hs.elem (i := i) ow ow
  rw [map_at ow] at hl1
  have hm1 := mem_L (L := L) (i := (i).toNat) ow
  refine os (x_indexC hv1 rfl za za u38 T.s22 ow ow) ?_
  refine os (x_load1 rfl za T.g22 (hl1 _ _ _ (fun _ _ => rfl))) ?_
  refine oA ?_
  refine o_done (se_seq (s_seq (s_region hP hC (oM ?_))))
  refine oM ?_
  refine os (x_lenI (hL _ hm1) rfl rfl (by simp only [evs, ev_tmp, Tr.get_set, reduceIte, Nat.reduceEqDiff, Nat.reduceAdd, heA3, heA9, heA10, heA11, heA0, g2] <;> rfl) rfl u22) ?_
  have hst := congrArg List.length (flW_step (L := L) i0 ow)
  rw [List.length_append] at hst
  have hle := flW_le (L := L) (n := (i + 1).toNat)
  refine os (x_bin (u := .int .i64 ((flW (L.take (i + 1).toNat)).length : Nat)) rfl za za (by rw [b_add, IntWalk.i64_in _ ow]; congr 2; omega)) ?_
  refine oA ?_
  refine o_done (se_seq (s_seq (s_region hP hC (oM ?_))))
  refine os (x_bin (u := .bool false) rfl za (by rfl) (by rw [b_lss, decide_eq_false ow])) ?_
  refine o_done (se_seq ?_)
  refine s_condF za ?_
  refine s_skip (se_block (se_seq (s_region hP hC ?_)))
  refine os (x_bin rfl za (by rfl) b_add) ?_
  refine oM ?_
  refine o_done ?_
  refine se_loop ?_
  have hw1 : IntKind.i64.wrap (i + 1) = i + 1 := IntWalk.i64_in _ ow
  exact ⟨i + 1, ⟨_, rfl, za, za, za, (by simp only [Tr.get_set, reduceIte, Nat.reduceEqDiff, Nat.reduceAdd, hw1, heA3, heA9, heA10, heA11, heA0, g2] <;> rfl), za, by omega, by omega⟩, by omega⟩
 ·have p2 := g2; try simp only [dd] at p2
  refine s_exit ?_
  refine se_seq_exit ?_
  refine se_loop_exit ?_
  refine se_block_eq (se_seq (s_seq (s_region hP hC (oM ?_))))
  have hiL : i = (L.length : Int) := by omega
  have htk : L.take i.toNat = L := by rw [hiL, Int.toNat_natCast, List.take_length]
  have hle := flW_le (L := L) (n := i.toNat)
  refine o_callR (tab_hitR (grow_c (K := K) (n := ((flW (L.take i.toNat)).length : Nat)) ow ow ow hwr)) (wA_none rfl) rfl rfl rfl (by simp only [evs, ev_tmp, Tr.get_set, reduceIte, Nat.reduceEqDiff, Nat.reduceAdd, heA3, heA9, heA10, heA11, heA0, g2] <;> rfl) zd (fun v1 h1 hR1 => ?_)
  rw [htk] at hR1
  obtain ⟨tG, nG, rfl, hG, hGs, hn0, hn1⟩ : ∃ tG nG, h1 = ⟨tG, nG, wr⟩ /\ GA tG nx (flW L).length v1 [] /\ (∀ i, i < nx -> tG.get i = t.get i) /\ nx <= nG /\ ((flW L).length = 0 /\ nG = nx \/ nG = nx + 1) := by
   by_cases hz : (flW L).length = 0
   ·obtain ⟨rfl, rfl⟩ := hR1.1 ow
    exact ⟨_, _, rfl, .inl ⟨hz, rfl, rfl⟩, fun _ _ => rfl, Nat.le_refl _, .inl ⟨hz, rfl⟩⟩
   ·obtain ⟨rfl, rfl⟩ := hR1.2 ow
    have hzl : (zerosC [Value.int .i64 0] (flW L).length).length = (flW L).length := by rw [zerosC_len, List.length_singleton, Nat.mul_one]
    exact ⟨_, _, rfl, .inr ⟨by omega, Nat.zero_le _, rfl, _, hzl, rfl, by rw [gp rfl, hzl]; rfl⟩, fun i hi => by rw [gn ow], by omega, .inr rfl⟩
  have hs2 := hs.keep (t' := tG) (fun i q => hGs i (hK i q))
  refine oA ?_
  refine o_done (se_seq (s_seq (s_seq (s_region hP hC (oM ?_)))))
  refine os ((x_lenC hs2 rfl rfl (by simp only [evs, ev_tmp, Tr.get_set, reduceIte, Nat.reduceEqDiff, Nat.reduceAdd, heA3, heA9, heA10, heA11, heA0, g2] <;> rfl) rfl u38).trans (by rw [hll])) ?_
  refine os (x_move rfl (by rfl)) ?_
  refine o_done (se_seq (s_block ?_))
  refine s_loop (α := Int) (fun k s' => ∃ e tJ wJ vJ, s' = ⟨e, 36, ⟨tJ, nG, wJ⟩⟩ /\ e.get 6 = some (vJ) /\ e.get 25 = some (s) /\ e.get 26 = some (.int .i64 (L.length : Nat)) /\ e.get 27 = some (.int .i64 (k)) /\ 0 <= k /\ k <= L.length /\ GA tJ nx (flW L).length vJ (ints (flW (L.take k.toNat))) /\ (∀ i, i < nx -> tJ.get i = t.get i) /\ min wr nx <= wJ /\ wJ <= wr) (fun k => (L.length + 5 - k).toNat) 0 ⟨_, _, _, _, rfl, za, za, za, za, by omega, by omega, hG, hGs, Nat.min_le_left _ _, Nat.le_refl _⟩ ?_
  rintro k s' ⟨e, tJ, wJ, vJ, rfl, heB6, heB25, heB26, heB27, k0, k1, gJ, sJ, w0, w1⟩
  have hs3 := hs.keep (t' := tJ) (fun i q => sJ i (hK i q))
  refine s_seq (s_region hP hC ?_)
  refine os (x_bin rfl za za b_lss) ?_
  refine o_done (se_seq (s_seq ?_))
  refine s_cond za (fun g4 => ?_) (fun g4 => ?_)
  ·have p4 := g4; try simp only [dd] at p4
   refine s_skip (se_seq (s_seq (s_block (s_seq (s_region hP hC ?_)))))
   obtain ⟨id2, of2, c2, hv2, hl2⟩ := hs3.elem (i := k) ow ow
   rw [map_at ow] at hl2
   have hm2 := mem_L (L := L) (i := (k).toNat) ow
   refine os (x_indexC hv2 rfl za za u38 T.s22 ow ow) ?_
   refine os (x_load1 rfl za T.g22 (hl2 _ _ _ (fun _ _ => rfl))) ?_
   refine oA ?_
   refine o_done (se_seq (s_region hP hC (oM ?_)))
   refine oM ?_
   have hst := flW_step (L := L) k0 ow
   have hsl := congrArg List.length hst
   rw [List.length_append] at hsl
   have hle := flW_le (L := L) (n := (k + 1).toNat)
   have hcv := ((hL _ hm2).keep (t' := tJ) (fun i q => sJ i (hK i q))).cv
   obtain ⟨vK, tK, wK, hap, gK, sK, w2, w3⟩ := app_G (P := Tryz.prog) (T := 22) (nx := nG) (wr := wJ) (M := ints (L[k.toNat]!).2) gJ u22 T.i22 zd (ints_oneC _) (by rw [ints_len, ints_len]; omega) ow
   rw [<-ints_append, <-hst] at gK
   refine os (x_append rfl rfl (by simp only [evs, ev_tmp, Tr.get_set, reduceIte, Nat.reduceEqDiff, Nat.reduceAdd, heB6, heB25, heB26, heB27, g4] <;> rfl) rfl rfl zr (cells_cv hcv u22 T.s3) hap) ?_
   refine oA ?_
   refine o_done (se_block (se_seq (s_region hP hC ?_)))
   refine os (x_bin rfl za (by rfl) b_add) ?_
   refine oM ?_
   refine o_done ?_
   refine se_loop ?_
   have hw1 : IntKind.i64.wrap (k + 1) = k + 1 := IntWalk.i64_in _ ow
   exact ⟨k + 1, ⟨_, _, _, _, rfl, za, za, za, (by simp only [Tr.get_set, reduceIte, Nat.reduceEqDiff, Nat.reduceAdd, hw1, heB6, heB25, heB26, heB27, g4] <;> rfl), by omega, by omega, gK, fun i hi => (sK i ow).trans (sJ i hi), by omega, by omega⟩, by omega⟩
  ·have p4 := g4; try simp only [dd] at p4
   refine s_exit ?_
   refine se_seq_exit ?_
   refine se_loop_exit ?_
   refine se_block_eq (se_seq (s_seq (s_region hP hC (oM ?_))))
   refine oA ?_
   refine o_done (se_seq ?_)
   refine s_ret ?_
   have hkL : L.take k.toNat = L := by rw [show k.toNat = L.length by omega, List.take_length]
   rw [hkL] at gJ
   refine ⟨.inr rfl, _, (by simp only [Tryz.results16, resA, Tr.get_set, reduceIte, Nat.reduceEqDiff, Nat.reduceAdd, heB6, heB25, heB26, heB27, g4] <;> rfl), fun K2 s2 L2 hs4 hc2 hL2 => ?_⟩
   cases hs4
   have hmm : L2.map (·.1) = L.map (·.1) := hs.uniq hc2
   have hLL : flW L2 = flW L := flW_uniq hmm hL hL2
   rw [hLL]
   have hI := gJ.iv rfl
   by_cases hz : (flW L).length = 0
   ·have hz' : flW L = [] := List.eq_nil_of_length_eq_zero hz
    rcases gJ with ⟨_, _, rfl⟩ | ⟨q, _⟩
    ·exact ⟨_, _, _, rfl, ⟨ozz, ozz, ozz, ozz, sJ⟩, .inl ⟨hz', rfl⟩⟩
    ·omega
   ·exact ⟨_, _, _, rfl, ⟨ozz, ozz, ozz, ozz, sJ⟩, hI.mono (fun x (q : x = nx) => by subst q; exact ⟨Nat.le_refl _, ozz⟩)⟩
end Go.Proofs.YtmladpbadglecaaGreatDoor
