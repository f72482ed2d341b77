/-
  Message, Encode of the reference.
-/
import Derived.Test.YtfgmplbclpadbaaGreatDoorMLh
import Derived.Test.YtfgmplbclpadbaaGreatDoorME6
set_option linter.unusedSimpArgs false
set_option linter.unusedVariables false
namespace Go.Proofs.YtfgmplbclpadbaaGreatDoor
open Go.AM
set_option maxRecDepth 100000
set_option maxHeartbeats 1000000
set_option maxHeartbeats 16000000
def MJ (a : Ans) (M : List Int) (K : Nat) (t : Tr AObj) (nx wr : Nat) (st : St) : Prop := ∃ e t1 nx1 wq1 v S, st = ⟨e, 70, ⟨t1, nx1, wq1⟩⟩ /\ e.get 3 = some (.pointer (some ⟨nx + 1, 0, none⟩)) /\ e.get 4 = some (.pointer (some ⟨nx + 2, 0, none⟩)) /\ e.get 5 = some v /\ t1.get (nx + 1) = some (.row a.X (nx + 1) BIG false a.X.length) /\ t1.get (nx + 2) = some (.row a.R (nx + 2) BIG false a.R.length) /\ AccP t1 (nx + 3) nx1 S 1 v M.length (bys M) /\ nx + 3 <= nx1 /\ Fr t nx wr t1 nx1 wq1 K
def R_msg : List Value -> AH -> Value -> AH -> Prop := fun args h v h' => ∀ (a : Ans), args = [.agg ⟨a.C⟩] -> a.Ok -> BPost (msgB a) (1500) h.t h.next h.wr v h'
noncomputable def c_msg := cEx Tryz.prog 19 R_msg
theorem con_msg : Con Tryz.prog 19 c_msg := con_ex Tryz.func19 rfl
theorem msg_c {t : Tr AObj} {nx wr : Nat} {a : Ans} (ok : a.Ok) (hN : nx + (1500) + 100 <= BIG) (hwr : wr <= BIG) : ∃ v h', c_msg [.agg ⟨a.C⟩] ⟨t, nx, wr⟩ = some (v, h') /\ BPost (msgB a) (1500) t nx wr v h' := by
 have hP := Fits
 have hC : CallSound Tryz.prog (tabOf [(8, c_ints), (10, c_digs), (48, c_strs)]) := tab_sound (tab_cons con_ints (tab_cons con_digs (tab_cons con_strs tab_end)))
 have hF0 : Fr t nx wr t nx wr 0 := Fr.refl
 have hln := Ans.lens ok
 have l1 := hln.l1; have l2 := hln.l2; have l3 := hln.l3; have l4 := hln.l4; have l5 := hln.l5; have l6 := hln.l6; have l7 := hln.l7
 have e1 := encI1_len
 have pl := ok.pl; have rl := ok.rl; have tl := ok.tl; have hl := ok.hl
 have XL := Ans.X_len ok; have RL := Ans.R_len ok; have CL := Ans.C_len ok
 have hn := ok.nums
 have hpd : (encI (1 : Nat) ++ a.pd).length = (encI (1 : Nat)).length + a.pd.length := List.length_append
 have hrt : (encI (1 : Nat) ++ a.rt).length = (encI (1 : Nat)).length + a.rt.length := List.length_append
 suffices key : SureK Tryz.prog ⟨t, nx, wr⟩ _ [] _ (EndR Tryz.prog _ (R_msg [.agg ⟨a.C⟩] ⟨t, nx, wr⟩)) by
  obtain ⟨v, h', q, c⟩ := sure_start (R := R_msg) (sz := 70) Tryz.func19 rfl rfl zo key
  exact ⟨v, h', q, c a rfl ok⟩
 refine s_seq (s_region hP hC ?_)
 refine os (y_boxA rfl zt) ?_
 refine oA ?_
 refine o_done (se_seq (s_seq (s_region hP hC ?_)))
 refine os (x_field (off' := 2) rfl zt u35 rfl T.s29 rfl) ?_
 refine os (x_loadA rfl zt T.g29 T.s29 (Ans.l_X ok (whole_row hg rfl))) ?_
 refine os (y_alloc rfl T.z29 rfl rfl) ?_
 refine o_stepN (wA_none rfl) rfl (y_storeA rfl zt zt T.s29 XL hg rfl rfl (by unfold Ans.X; rw [List.all_append, bys_one]; rfl)) ?_
 refine o_done (se_seq (s_seq (s_region hP hC ?_)))
 refine os (x_field (off' := 23) rfl zt u35 rfl T.s33 rfl) ?_
 refine os (x_loadA rfl zt T.g33 T.s33 (Ans.l_R ok (whole_row hg rfl))) ?_
 refine os (y_alloc rfl T.z33 rfl rfl) ?_
 refine o_stepN (wA_none rfl) rfl (y_storeA rfl zt zt T.s33 RL hg rfl rfl (by unfold Ans.R; rw [List.all_append, bys_one]; rfl)) ?_
 refine o_done (se_seq (s_seq ?_))
 refine s_join (MJ a (msg1 a) 200 t nx wr) ?_ ?_
 ·skip
  refine s_region hP hC ?_
  refine os (x_field (off' := 0) rfl zt u35 rfl T.s3 rfl) ?_
  refine os (x_load1 rfl zt T.g3 (l_whole (d := a.C) (whole_row hg rfl) 0 1 (by rw [CL]; decide))) ?_
  refine os (x_field (off' := 1) rfl zt u35 rfl T.s3 rfl) ?_
  refine os (x_load1 rfl zt T.g3 (l_whole (d := a.C) (whole_row hg rfl) 1 1 (by rw [CL]; decide))) ?_
  refine os (y_bsliceN (cs := ints [a.w, a.q]) rfl zp u22 T.s3 T.z3 zd zd rfl rfl (by rfl)) ?_
  have hb14 := intsB_hi (l := [a.w, a.q]) (fun x hx => by
   simp only [List.mem_cons, List.not_mem_nil, or_false] at hx
   rcases hx with rfl | rfl <;> exact hn _ (by simp only [List.mem_cons, true_or, or_true])) (by show 2 <= 1000; decide)
  simp only [List.length_cons, List.length_nil] at hb14
  refine o_callR (tab_hitR (ints_c (nx := nx + 1 + 1 + 1 + 1) (l := [a.w, a.q]) (lv_row (id := nx + 1 + 1 + 1) (d := ints [a.w, a.q]) (n := 2) hg ow rfl) (fun x hx => by
   simp only [List.mem_cons, List.not_mem_nil, or_false] at hx
   rcases hx with rfl | rfl <;> exact hn _ (by simp only [List.mem_cons, true_or, or_true])) ow (by show _ + (62 * 2 + 70) + 100 <= BIG; omega) ow)) (wA_none rfl) rfl rfl rfl zv zd (fun v1 h1 hR1 => ?_)
  obtain ⟨t1, nx1, wz1, rfl, hf1, S1, ac1⟩ := hR1
  have qa1 := hf1.le
  have qb1 : nx1 <= nx + 1 + 1 + 1 + 1 + (62 * 2 + 70) := hf1.hi
  have qc1 := hf1.wlo
  have qd1 := hf1.whi
  have hF2 : Fr t nx wr _ _ _ (4 + (62 * 2 + 70)) := Fr.trans (⟨by omega, by omega, by omega, by omega, fun i hi => by (repeat (first | rw [gn ow])) <;> first | rfl | assumption | (rw [gp ow]; done) | (rw [gp ow]; rfl)⟩ : Fr t nx wr _ _ _ 4) hf1 (Nat.le_refl _)
  refine oA ?_
  refine o_done ?_
  refine se_loop ?_
  exact ⟨_, _, _, _, _, _, rfl, (by (repeat (first | rw [gn ow] | rw [hf1.same _ ow])) <;> first | rfl | assumption | (rw [gp ow]; done) | (rw [gp ow]; rfl)), (by (repeat (first | rw [gn ow] | rw [hf1.same _ ow])) <;> first | rfl | assumption | (rw [gp ow]; done) | (rw [gp ow]; rfl)), (by (repeat (first | rw [gn ow] | rw [hf1.same _ ow])) <;> first | rfl | assumption | (rw [gp ow]; done) | (rw [gp ow]; rfl)), by (repeat (first | rw [gn ow] | rw [hf1.same _ ow])) <;> first | rfl | assumption | (rw [gp ow]; done) | (rw [gp ow]; rfl), by (repeat (first | rw [gn ow] | rw [hf1.same _ ow])) <;> first | rfl | assumption | (rw [gp ow]; done) | (rw [gp ow]; rfl), AccP.low ac1 ow, by omega, Fr.low (Fr.wr hF2 ow ow) ow⟩
 ·skip
  rintro _ ⟨e, t1, nx1, wq1, v, S, rfl, he3, he4, he5, hX, hR, aA, g0, hG⟩
  have g1 := hG.le
  have g2 := hG.hi
  have g3 := hG.wlo
  have g4 := hG.whi
  refine s_seq ?_
  refine s_join (MJ a (msg3 a) 460 t nx wr) ?_ ?_
  ·skip
   refine s_drawP (l := [0, 1, 2, 6, 7, 3, 8, 4, 5, 9, 10, 11]) hP hC zr zr ?_
   refine dM ?_
   refine ds (x_field (off' := 0) rfl za u29 rfl T.s25 rfl) ?_
   refine ds (x_loadA rfl za T.g25 T.s25 (Ans.l_pd ok (whole_row hg rfl))) ?_
   refine ds (x_field (off' := 16) rfl za u29 rfl T.s9 rfl) ?_
   refine ds (x_load1 rfl za T.g9 (Ans.l_x ok (whole_row hg rfl) 0 _ rfl)) ?_
   refine ds (y_bsliceA rfl za u42 T.s25 T.z25 zd rfl rfl (by rw [bys_len, pl]) zd) ?_
   refine ds (y_bsliceV rfl za rfl u55 T.s9 T.z9 rfl rfl) ?_
   have hs20 := strsB_hi tl
   refine d_callR (tab_missR zd (tab_hitR (digs_c (nx := nx1 + 1 + 1) (n := 1) (l := a.pd) (lv_row (id := nx1) (d := bys a.pd) hg ow (by rw [bys_len, pl])) zd (by show _ + (40 * 1 + 70) + 100 <= BIG; omega) (Nat.le_refl _)))) (wA_none rfl) rfl rfl rfl ze zd (fun v3 ta3 na3 wa3 hR3 => ?_)
   obtain ⟨t3, nx3, wz3, hh3, hf3, S3, ac3⟩ := hR3
   cases hh3
   have qa3 := hf3.le
   have qb3 : na3 <= nx1 + 1 + 1 + (40 * 1 + 70) := hf3.hi
   have qc3 := hf3.wlo
   have qd3 := hf3.whi
   have hF4 : Fr t nx wr _ _ _ (200 + 1 + 1 + (40 * 1 + 70)) := Fr.trans (Fr.alloc (Fr.alloc hG)) (Fr.min hf3 ow) (Nat.le_refl _)
   have hYa : ta3.get (nx1 + 1) = some (AObj.row [.string a.ts] (nx1 + 1) BIG false 1) := by (repeat (first | rw [gn ow] | rw [hf3.same _ ow])) <;> first | rfl | assumption | (rw [gp ow]; done) | (rw [gp ow]; rfl)
   have hkA : ∀ x, S x -> ta3.get x = t1.get x := fun x q => (hf3.same x (by have := aA.bnd x q; omega)).trans (by rw [Tr.get_set, if_neg (by have := aA.bnd x q; omega), Tr.get_set, if_neg (by have := aA.bnd x q; omega)])
   refine d_appB aA (cells_bv (acc_bv ac3) u23 T.s5) (wA_none rfl) rfl rfl rfl ze rfl rfl zr u23 T.i23 zd ow hkA ow ow (fun v5 t5 nx5 wz5 S5 hA5 => ?_)
   have qa5 := hA5.le
   have qb5 := hA5.hi
   have qc5 := hA5.wlo
   have qd5 := hA5.whi
   have ac5 := hA5.acc
   have hF6 : Fr t nx wr _ _ _ (200 + 1 + 1 + (40 * 1 + 70) + 1) := ABp.frD hA5 hF4 ow ow (fun x q => (aA.bnd x q).1)
   have hYb := (hA5.same (nx1 + 1) (fun q => by have := aA.bnd _ q; omega) ow).trans hYa
   have hal5 : (msg1 a ++ (encI (1 : Nat) ++ a.pd)).length = (msg1 a).length + (encI (1 : Nat) ++ a.pd).length := List.length_append
   refine d_callR (tab_missR zd (tab_missR zd (tab_hitR (strs_c (nx := nx5) (l := [a.ts]) (lv_row (id := nx1 + 1) (d := strC [a.ts]) (n := 1) hYb ow rfl) (fun x hx => by rw [List.mem_singleton.1 hx]; omega) ow (by show _ + (64 * 1 + 70) + 100 <= BIG; omega) (Nat.le_refl _))))) (wA_none rfl) rfl rfl rfl ze zd (fun v7 ta7 na7 wa7 hR7 => ?_)
   obtain ⟨t7, nx7, wz7, hh7, hf7, S7, ac7⟩ := hR7
   cases hh7
   have qa7 := hf7.le
   have qb7 : na7 <= nx5 + (64 * 1 + 70) := hf7.hi
   have qc7 := hf7.wlo
   have qd7 := hf7.whi
   have hF8 : Fr t nx wr _ _ _ (200 + 1 + 1 + (40 * 1 + 70) + 1 + (64 * 1 + 70)) := Fr.trans hF6 (Fr.min hf7 ow) (Nat.le_refl _)
   have hYc := (hf7.same (nx1 + 1) ow).trans hYb
   refine d_appB ac5 (cells_bv (acc_bv ac7) u23 T.s5) (wA_none rfl) rfl rfl rfl ze rfl rfl zr u23 T.i23 zd ow (fun x q => hf7.same x (by have := ac5.bnd x q; omega)) ow ow (fun v9 t9 nx9 wz9 S9 hA9 => ?_)
   have qa9 := hA9.le
   have qb9 := hA9.hi
   have qc9 := hA9.wlo
   have qd9 := hA9.whi
   have ac9 := hA9.acc
   have hF10 : Fr t nx wr _ _ _ (200 + 1 + 1 + (40 * 1 + 70) + 1 + (64 * 1 + 70) + 1) := ABp.frD hA9 hF8 ow ow (fun x q => (ac5.bnd x q).1)
   have hYd := (hA9.same (nx1 + 1) (fun q => by
    rcases hA5.sub _ q with q | q
    ·have := aA.bnd _ q; omega
    ·omega) ow).trans hYc
   refine ds (x_assign rfl za) ?_
   refine d_done ⟨de_ok (tail_my (B := nx + 3) (Y := (some (nx1 + 1))) (M := [0, 0, 0, 0, 0, 1, 3, 1, 2, 1, 2, 0]) (fw := 8) (my_op (my_w (my_q (my_w (my_q (my_f (y := 0) (my_q (my_ldR (my_op (my_ldR (my_op (my_op my_nil ow) ow) (show readId _ (Op.load 25 (.tmp 17)) = _ from by simp only [readId, ev_tmp, Tr.get_set, reduceIte, Nat.reduceEqDiff, Nat.reduceAdd, he3, he4, he5] <;> rfl) hX ow ow ow) ow) (show readId _ (Op.load 9 (.tmp 22)) = _ from by simp only [readId, ev_tmp, Tr.get_set, reduceIte, Nat.reduceEqDiff, Nat.reduceAdd, he3, he4, he5] <;> rfl) hX ow ow ow) ow) rfl ow) ow) ow (fun y q => by cases q; exact sameO_row hYa hYb (by intro v hv; rw [List.mem_singleton.1 hv]; exact eqV_string))) ow) ow (fun y q => by cases q; exact sameO_row hYc hYd (by intro v hv; rw [List.mem_singleton.1 hv]; exact eqV_string))) ow) zd zr) (by try dsimp only; omega) (by try dsimp only; omega), ?_⟩
   refine se_loop ?_
   exact ⟨_, _, _, _, _, _, rfl, za, za, za, by (repeat (first | rw [gn ow] | rw [hA9.same _ (ac5.no _ ow) ow] | rw [hf7.same _ ow] | rw [hA5.same _ (aA.no _ ow) ow] | rw [hf3.same _ ow])) <;> first | rfl | assumption | (rw [gp ow]; done) | (rw [gp ow]; rfl), by (repeat (first | rw [gn ow] | rw [hA9.same _ (ac5.no _ ow) ow] | rw [hf7.same _ ow] | rw [hA5.same _ (aA.no _ ow) ow] | rw [hf3.same _ ow])) <;> first | rfl | assumption | (rw [gp ow]; done) | (rw [gp ow]; rfl), AccP.low ac9 ow, by omega, Fr.low (Fr.wr hF10 ow ow) ow⟩
  ·skip
   clear he3 he4 he5 hX hR aA g0 hG g1 g2 g3 g4
   rintro _ ⟨e, t1, nx1, wq1, v, S, rfl, he3, he4, he5, hX, hR, aA, g0, hG⟩
   have g1 := hG.le
   have g2 := hG.hi
   have g3 := hG.wlo
   have g4 := hG.whi
   refine s_seq ?_
   refine s_join (MJ a (msg4 a) 790 t nx wr) ?_ ?_
   ·skip
    refine s_region hP hC (oM ?_)
    refine os (x_field (off' := 17) rfl za u29 rfl T.s27 rfl) ?_
    refine os (x_field (off' := 17) rfl za u27 rfl T.s3 rfl) ?_
    refine os (x_load1 rfl za T.g3 (Ans.l_x ok (whole_row hg rfl) 1 _ rfl)) ?_
    refine os (x_field (off' := 17) rfl za u29 rfl T.s27 rfl) ?_
    refine os (x_field (off' := 18) rfl za u27 rfl T.s3 rfl) ?_
    refine os (x_load1 rfl za T.g3 (Ans.l_x ok (whole_row hg rfl) 2 _ rfl)) ?_
    refine os (x_field (off' := 17) rfl za u29 rfl T.s27 rfl) ?_
    refine os (x_field (off' := 19) rfl za u27 rfl T.s3 rfl) ?_
    refine os (x_load1 rfl za T.g3 (Ans.l_x ok (whole_row hg rfl) 3 _ rfl)) ?_
    refine os (x_field (off' := 20) rfl za u29 rfl T.s3 rfl) ?_
    refine os (x_load1 rfl za T.g3 (Ans.l_x ok (whole_row hg rfl) 4 _ rfl)) ?_
    refine os (y_bsliceN (cs := ints [a.k, a.f, a.sk, a.sd]) rfl (by simp only [evP, ev_tmp, Tr.get_set, reduceIte, Nat.reduceEqDiff, Nat.reduceAdd, he3, he4, he5] <;> rfl) u22 T.s3 T.z3 zd zd rfl rfl (by rfl)) ?_
    have hb39 := intsB_hi (l := [a.k, a.f, a.sk, a.sd]) (fun x hx => by
     simp only [List.mem_cons, List.not_mem_nil, or_false] at hx
     rcases hx with rfl | rfl | rfl | rfl <;> exact hn _ (by simp only [List.mem_cons, true_or, or_true])) (by show 4 <= 1000; decide)
    simp only [List.length_cons, List.length_nil] at hb39
    refine o_callR (tab_hitR (ints_c (nx := nx1 + 1) (l := [a.k, a.f, a.sk, a.sd]) (lv_row (id := nx1) (d := ints [a.k, a.f, a.sk, a.sd]) (n := 4) hg ow rfl) (fun x hx => by
     simp only [List.mem_cons, List.not_mem_nil, or_false] at hx
     rcases hx with rfl | rfl | rfl | rfl <;> exact hn _ (by simp only [List.mem_cons, true_or, or_true])) ow (by show _ + (62 * 4 + 70) + 100 <= BIG; omega) ow)) (wA_none rfl) rfl rfl rfl ze zd (fun v11 h11 hR11 => ?_)
    obtain ⟨t11, nx11, wz11, rfl, hf11, S11, ac11⟩ := hR11
    have qa11 := hf11.le
    have qb11 : nx11 <= nx1 + 1 + (62 * 4 + 70) := hf11.hi
    have qc11 := hf11.wlo
    have qd11 := hf11.whi
    have hF12 : Fr t nx wr _ _ _ (460 + 1 + (62 * 4 + 70)) := Fr.trans (Fr.alloc hG) hf11 (Nat.le_refl _)
    refine o_appB aA (cells_bv (acc_bv ac11) u23 T.s5) (wA_none rfl) rfl rfl rfl ze rfl rfl zr u23 T.i23 zd ow (fun x q => (hf11.same x (by have := aA.bnd x q; omega)).trans (by rw [Tr.get_set, if_neg (by have := aA.bnd x q; omega)])) ow ow (fun v13 t13 nx13 wz13 S13 hA13 => ?_)
    have qa13 := hA13.le
    have qb13 := hA13.hi
    have qc13 := hA13.wlo
    have qd13 := hA13.whi
    have ac13 := hA13.acc
    have hF14 : Fr t nx wr _ _ _ (460 + 1 + (62 * 4 + 70) + 1) := ABp.fr hA13 hF12 ow (fun x q => (aA.bnd x q).1)
    refine oA ?_
    refine o_done ?_
    refine se_loop ?_
    exact ⟨_, _, _, _, _, _, rfl, za, za, za, by (repeat (first | rw [gn ow] | rw [hA13.same _ (aA.no _ ow) ow] | rw [hf11.same _ ow])) <;> first | rfl | assumption | (rw [gp ow]; done) | (rw [gp ow]; rfl), by (repeat (first | rw [gn ow] | rw [hA13.same _ (aA.no _ ow) ow] | rw [hf11.same _ ow])) <;> first | rfl | assumption | (rw [gp ow]; done) | (rw [gp ow]; rfl), AccP.low ac13 ow, by omega, Fr.low (Fr.wr hF14 ow ow) ow⟩
   ·skip
    clear he3 he4 he5 hX hR aA g0 hG g1 g2 g3 g4
    rintro _ ⟨e, t1, nx1, wq1, v, S, rfl, he3, he4, he5, hX, hR, aA, g0, hG⟩
    have g1 := hG.le
    have g2 := hG.hi
    have g3 := hG.wlo
    have g4 := hG.whi
    refine s_seq ?_
    refine s_join (MJ a (msg5 a) 1180 t nx wr) ?_ ?_
    ·skip
     refine s_region hP hC (oM ?_)
     refine os (x_field (off' := 0) rfl za u33 rfl T.s3 rfl) ?_
     refine os (x_load1 rfl za T.g3 (Ans.l_r ok (whole_row hg rfl) 0 _ zd rfl)) ?_
     refine os (x_field (off' := 2) rfl za u33 rfl T.s3 rfl) ?_
     refine os (x_load1 rfl za T.g3 (Ans.l_r ok (whole_row hg rfl) 2 _ zd rfl)) ?_
     refine os (x_field (off' := 3) rfl za u33 rfl T.s31 rfl) ?_
     refine os (x_field (off' := 3) rfl za u31 rfl T.s3 rfl) ?_
     refine os (x_load1 rfl za T.g3 (Ans.l_r ok (whole_row hg rfl) 3 _ zd rfl)) ?_
     refine os (x_field (off' := 3) rfl za u33 rfl T.s31 rfl) ?_
     refine os (x_field (off' := 4) rfl za u31 rfl T.s3 rfl) ?_
     refine os (x_load1 rfl za T.g3 (Ans.l_r ok (whole_row hg rfl) 4 _ zd rfl)) ?_
     refine os (x_field (off' := 3) rfl za u33 rfl T.s31 rfl) ?_
     refine os (x_field (off' := 5) rfl za u31 rfl T.s3 rfl) ?_
     refine os (x_load1 rfl za T.g3 (Ans.l_r ok (whole_row hg rfl) 5 _ zd rfl)) ?_
     refine os (y_bsliceN (cs := ints [a.o, a.si, a.st, a.al, a.wa]) rfl (by simp only [evP, ev_tmp, Tr.get_set, reduceIte, Nat.reduceEqDiff, Nat.reduceAdd, he3, he4, he5] <;> rfl) u22 T.s3 T.z3 zd zd rfl rfl (by rfl)) ?_
     have hb56 := intsB_hi (l := [a.o, a.si, a.st, a.al, a.wa]) (fun x hx => by
      simp only [List.mem_cons, List.not_mem_nil, or_false] at hx
      rcases hx with rfl | rfl | rfl | rfl | rfl <;> exact hn _ (by simp only [List.mem_cons, true_or, or_true])) (by show 5 <= 1000; decide)
     simp only [List.length_cons, List.length_nil] at hb56
     refine o_callR (tab_hitR (ints_c (nx := nx1 + 1) (l := [a.o, a.si, a.st, a.al, a.wa]) (lv_row (id := nx1) (d := ints [a.o, a.si, a.st, a.al, a.wa]) (n := 5) hg ow rfl) (fun x hx => by
      simp only [List.mem_cons, List.not_mem_nil, or_false] at hx
      rcases hx with rfl | rfl | rfl | rfl | rfl <;> exact hn _ (by simp only [List.mem_cons, true_or, or_true])) ow (by show _ + (62 * 5 + 70) + 100 <= BIG; omega) ow)) (wA_none rfl) rfl rfl rfl ze zd (fun v15 h15 hR15 => ?_)
     obtain ⟨t15, nx15, wz15, rfl, hf15, S15, ac15⟩ := hR15
     have qa15 := hf15.le
     have qb15 : nx15 <= nx1 + 1 + (62 * 5 + 70) := hf15.hi
     have qc15 := hf15.wlo
     have qd15 := hf15.whi
     have hF16 : Fr t nx wr _ _ _ (790 + 1 + (62 * 5 + 70)) := Fr.trans (Fr.alloc hG) hf15 (Nat.le_refl _)
     refine o_appB aA (cells_bv (acc_bv ac15) u23 T.s5) (wA_none rfl) rfl rfl rfl ze rfl rfl zr u23 T.i23 zd ow (fun x q => (hf15.same x (by have := aA.bnd x q; omega)).trans (by rw [Tr.get_set, if_neg (by have := aA.bnd x q; omega)])) ow ow (fun v17 t17 nx17 wz17 S17 hA17 => ?_)
     have qa17 := hA17.le
     have qb17 := hA17.hi
     have qc17 := hA17.wlo
     have qd17 := hA17.whi
     have ac17 := hA17.acc
     have hF18 : Fr t nx wr _ _ _ (790 + 1 + (62 * 5 + 70) + 1) := ABp.fr hA17 hF16 ow (fun x q => (aA.bnd x q).1)
     refine oA ?_
     refine o_done ?_
     refine se_loop ?_
     exact ⟨_, _, _, _, _, _, rfl, za, za, za, by (repeat (first | rw [gn ow] | rw [hA17.same _ (aA.no _ ow) ow] | rw [hf15.same _ ow])) <;> first | rfl | assumption | (rw [gp ow]; done) | (rw [gp ow]; rfl), by (repeat (first | rw [gn ow] | rw [hA17.same _ (aA.no _ ow) ow] | rw [hf15.same _ ow])) <;> first | rfl | assumption | (rw [gp ow]; done) | (rw [gp ow]; rfl), AccP.low ac17 ow, by omega, Fr.low (Fr.wr hF18 ow ow) ow⟩
    ·skip
     clear he3 he4 he5 hX hR aA g0 hG g1 g2 g3 g4
     rintro _ ⟨e, t1, nx1, wq1, v, S, rfl, he3, he4, he5, hX, hR, aA, g0, hG⟩
     have g1 := hG.le
     have g2 := hG.hi
     have g3 := hG.wlo
     have g4 := hG.whi
     refine s_seq ?_
     refine s_drawP (l := [0, 1, 2, 6, 7, 3, 8, 4, 5, 9, 10, 11]) hP hC zr zr ?_
     refine dM ?_
     refine ds (x_field (off' := 1) rfl za u33 rfl T.s9 rfl) ?_
     refine ds (x_load1 rfl za T.g9 (Ans.l_r ok (whole_row hg rfl) 1 _ zd rfl)) ?_
     refine ds (x_field (off' := 6) rfl za u33 rfl T.s25 rfl) ?_
     refine ds (x_loadA rfl za T.g25 T.s25 (Ans.l_rt ok (whole_row hg rfl))) ?_
     refine ds (y_bsliceV rfl za rfl u55 T.s9 T.z9 rfl rfl) ?_
     refine ds (y_bsliceA rfl za u42 T.s25 T.z25 zd rfl rfl (by rw [bys_len, rl]) zd) ?_
     have hs63 := strsB_hi hl
     refine d_callR (tab_missR zd (tab_missR zd (tab_hitR (strs_c (nx := nx1 + 1 + 1) (l := [a.wh]) (lv_row (id := nx1) (d := strC [a.wh]) (n := 1) hg ow rfl) (fun x hx => by rw [List.mem_singleton.1 hx]; omega) ow (by show _ + (64 * 1 + 70) + 100 <= BIG; omega) (Nat.le_refl _))))) (wA_none rfl) rfl rfl rfl ze zd (fun v19 ta19 na19 wa19 hR19 => ?_)
     obtain ⟨t19, nx19, wz19, hh19, hf19, S19, ac19⟩ := hR19
     cases hh19
     have qa19 := hf19.le
     have qb19 : na19 <= nx1 + 1 + 1 + (64 * 1 + 70) := hf19.hi
     have qc19 := hf19.wlo
     have qd19 := hf19.whi
     have hF20 : Fr t nx wr _ _ _ (1180 + 1 + 1 + (64 * 1 + 70)) := Fr.trans (Fr.alloc (Fr.alloc hG)) (Fr.min hf19 ow) (Nat.le_refl _)
     have hYa : ta19.get (nx1 + 1) = some (AObj.row (bys a.rt) (nx1 + 1) BIG false (bys a.rt).length) := by (repeat (first | rw [gn ow] | rw [hf19.same _ ow])) <;> first | rfl | assumption | (rw [gp ow]; done) | (rw [gp ow]; rfl)
     have hkA : ∀ x, S x -> ta19.get x = t1.get x := fun x q => (hf19.same x (by have := aA.bnd x q; omega)).trans (by rw [Tr.get_set, if_neg (by have := aA.bnd x q; omega), Tr.get_set, if_neg (by have := aA.bnd x q; omega)])
     refine d_appB aA (cells_bv (acc_bv ac19) u23 T.s5) (wA_none rfl) rfl rfl rfl ze rfl rfl zr u23 T.i23 zd ow hkA ow ow (fun v21 t21 nx21 wz21 S21 hA21 => ?_)
     have qa21 := hA21.le
     have qb21 := hA21.hi
     have qc21 := hA21.wlo
     have qd21 := hA21.whi
     have ac21 := hA21.acc
     have hF22 : Fr t nx wr _ _ _ (1180 + 1 + 1 + (64 * 1 + 70) + 1) := ABp.frD hA21 hF20 ow ow (fun x q => (aA.bnd x q).1)
     have hYb := (hA21.same (nx1 + 1) (fun q => by have := aA.bnd _ q; omega) ow).trans hYa
     have hal21 : (msg5 a ++ (strsB [a.wh])).length = (msg5 a).length + (strsB [a.wh]).length := List.length_append
     refine d_callR (tab_missR zd (tab_hitR (digs_c (nx := nx21) (n := 1) (l := a.rt) (lv_row (id := nx1 + 1) (d := bys a.rt) hYb ow (by rw [bys_len, rl])) zd (by show _ + (40 * 1 + 70) + 100 <= BIG; omega) (Nat.le_refl _)))) (wA_none rfl) rfl rfl rfl ze zd (fun v23 ta23 na23 wa23 hR23 => ?_)
     obtain ⟨t23, nx23, wz23, hh23, hf23, S23, ac23⟩ := hR23
     cases hh23
     have qa23 := hf23.le
     have qb23 : na23 <= nx21 + (40 * 1 + 70) := hf23.hi
     have qc23 := hf23.wlo
     have qd23 := hf23.whi
     have hF24 : Fr t nx wr _ _ _ (1180 + 1 + 1 + (64 * 1 + 70) + 1 + (40 * 1 + 70)) := Fr.trans hF22 (Fr.min hf23 ow) (Nat.le_refl _)
     have hYc := (hf23.same (nx1 + 1) ow).trans hYb
     refine d_appB ac21 (cells_bv (acc_bv ac23) u23 T.s5) (wA_none rfl) rfl rfl rfl ze rfl rfl zr u23 T.i23 zd ow (fun x q => hf23.same x (by have := ac21.bnd x q; omega)) ow ow (fun v25 t25 nx25 wz25 S25 hA25 => ?_)
     have qa25 := hA25.le
     have qb25 := hA25.hi
     have qc25 := hA25.wlo
     have qd25 := hA25.whi
     have ac25 := hA25.acc
     have hF26 : Fr t nx wr _ _ _ (1180 + 1 + 1 + (64 * 1 + 70) + 1 + (40 * 1 + 70) + 1) := ABp.frD hA25 hF24 ow ow (fun x q => (ac21.bnd x q).1)
     have hYd := (hA25.same (nx1 + 1) (fun q => by
      rcases hA21.sub _ q with q | q
      ·have := aA.bnd _ q; omega
      ·omega) ow).trans hYc
     refine ds (x_assign rfl za) ?_
     refine d_done ⟨de_ok (tail_my (B := nx + 3) (Y := (some (nx1 + 1))) (M := [0, 0, 0, 0, 0, 1, 3, 1, 2, 1, 2, 0]) (fw := 8) (my_op (my_w (my_q (my_w (my_q (my_f (y := 0) (my_q (my_ldR (my_op (my_ldR (my_op (my_op my_nil ow) ow) (show readId _ (Op.load 9 (.tmp 60)) = _ from by simp only [readId, ev_tmp, Tr.get_set, reduceIte, Nat.reduceEqDiff, Nat.reduceAdd, he3, he4, he5] <;> rfl) hR ow ow ow) ow) (show readId _ (Op.load 25 (.tmp 65)) = _ from by simp only [readId, ev_tmp, Tr.get_set, reduceIte, Nat.reduceEqDiff, Nat.reduceAdd, he3, he4, he5] <;> rfl) hR ow ow ow) ow) rfl ow) ow) ow (fun y q => by cases q; exact sameO_row hYa hYb (bys_refl _))) ow) ow (fun y q => by cases q; exact sameO_row hYc hYd (bys_refl _))) ow) zd zr) (by try dsimp only; omega) (by try dsimp only; omega), ?_⟩
     refine se_seq ?_
     refine s_ret ?_
     refine ⟨.inr rfl, _, (by simp only [Tryz.results19, resA, Tr.get_set, reduceIte, Nat.reduceEqDiff, Nat.reduceAdd, he3, he4, he5] <;> rfl), fun a2 hs2 ok2 => ?_⟩
     simp only [List.cons.injEq, Value.agg.injEq, Array.mk.injEq, and_true] at hs2
     obtain rfl := Ans.C_inj ok ok2 hs2
     exact ⟨_, _, _, rfl, Fr.low (Fr.wr hF26 (by dsimp only; omega) (by dsimp only; omega)) ow, _, AccP.low ac25 (by show nx <= nx + 3; omega)⟩
end Go.Proofs.YtfgmplbclpadbaaGreatDoor
namespace Go.Proofs.YtfgmplbclpadbaaGreatDoor
open Go.AM
set_option maxRecDepth 100000
set_option maxHeartbeats 1000000
set_option maxHeartbeats 8000000
def R_enc : List Value -> AH -> Value -> AH -> Prop := fun args h v h' => ∀ (a : Ans), args = [.agg ⟨a.C⟩] -> a.Ok -> BPost (encB a) (1600) h.t h.next h.wr v h'
noncomputable def c_enc := cEx Tryz.prog 6 R_enc
theorem con_enc : Con Tryz.prog 6 c_enc := con_ex Tryz.func6 rfl
theorem enc_c {t : Tr AObj} {nx wr : Nat} {a : Ans} (ok : a.Ok) (hN : nx + (1600) + 100 <= BIG) (hwr : wr <= BIG) : ∃ v h', c_enc [.agg ⟨a.C⟩] ⟨t, nx, wr⟩ = some (v, h') /\ BPost (encB a) (1600) t nx wr v h' := by
 have hP := Fits
 have hC : CallSound Tryz.prog (tabOf [(19, c_msg), (22, c_bytes)]) := tab_sound (tab_cons con_msg (tab_cons con_bytes tab_end))
 have hF0 : Fr t nx wr t nx wr 0 := Fr.refl
 have hln := Ans.lens ok
 have l1 := hln.l1; have l2 := hln.l2; have l3 := hln.l3; have l4 := hln.l4; have l5 := hln.l5; have l6 := hln.l6; have l7 := hln.l7
 have e1 := encI1_len
 have gl := ok.gl
 have CL := Ans.C_len ok
 have hbs := bytesB_hi gl
 suffices key : SureK Tryz.prog ⟨t, nx, wr⟩ _ [] _ (EndR Tryz.prog _ (R_enc [.agg ⟨a.C⟩] ⟨t, nx, wr⟩)) by
  obtain ⟨v, h', q, c⟩ := sure_start (R := R_enc) (sz := 9) Tryz.func6 rfl rfl zo key
  exact ⟨v, h', q, c a rfl ok⟩
 refine s_seq (s_region hP hC ?_)
 refine os (y_boxA rfl zt) ?_
 refine oA ?_
 refine o_done (se_seq (s_seq ?_))
 refine s_draw hP hC zr ?_
 refine ds (x_loadA rfl zt T.g35 T.s35 (l_all (whole_row hg rfl) CL.symm)) ?_
 refine d_callR (tab_hitR (msg_c (nx := nx + 1) ok ow (Nat.le_refl _))) (wA_none rfl) rfl rfl rfl zv zd (fun v1 ta1 na1 wa1 hR1 => ?_)
 obtain ⟨t1, nx1, wz1, hh1, hf1, S1, ac1⟩ := hR1
 cases hh1
 have qa1 := hf1.le
 have qb1 : na1 <= nx + 1 + 1500 := hf1.hi
 have qc1 := hf1.wlo
 have qd1 := hf1.whi
 have hF2 : Fr t nx wr _ _ _ (0 + 1 + 1500) := Fr.trans (Fr.alloc hF0) (Fr.min hf1 ow) (Nat.le_refl _)
 refine ds (x_field (off' := 45) rfl zt u35 rfl T.s9 rfl) ?_
 refine ds (x_load1 rfl zt T.g9 (Ans.l_sg ok (whole_row (by (repeat (first | rw [gn ow] | rw [hf1.same _ ow])) <;> first | rfl | assumption | (rw [gp ow]; done) | (rw [gp ow]; rfl)) rfl))) ?_
 refine d_callR (tab_missR zd (tab_hitR (bytes_c (s := a.sg) ow ow (Nat.le_refl _)))) (wA_none rfl) rfl rfl rfl zv zd (fun v3 ta3 na3 wa3 hR3 => ?_)
 obtain ⟨t3, nx3, wz3, hh3, hf3, S3, ac3⟩ := hR3
 cases hh3
 have qa3 := hf3.le
 have qb3 : na3 <= na1 + 62 := hf3.hi
 have qc3 := hf3.wlo
 have qd3 := hf3.whi
 have hF4 : Fr t nx wr _ _ _ (0 + 1 + 1500 + 62) := Fr.trans hF2 (Fr.min hf3 ow) (Nat.le_refl _)
 refine d_appB ac1 (cells_bv (acc_bv ac3) u23 T.s5) (wA_none rfl) rfl rfl rfl zv rfl rfl zr u23 T.i23 zd ow (fun x q => hf3.same x (by have := ac1.bnd x q; omega)) ow ow (fun v5 t5 nx5 wz5 S5 hA5 => ?_)
 have qa5 := hA5.le
 have qb5 := hA5.hi
 have qc5 := hA5.wlo
 have qd5 := hA5.whi
 have ac5 := hA5.acc
 have hF6 : Fr t nx wr _ _ _ (0 + 1 + 1500 + 62 + 1) := ABp.frD hA5 hF4 ow ow (fun x q => (ac1.bnd x q).1)
 refine ds (x_assign rfl zt) ?_
 refine d_done ⟨de_ok (tail_my (B := 0) (Y := none) (M := [1, 1, 0, 1, 1, 2, 0]) (fw := 0) (my_op (my_w (my_q (my_q (my_op (my_q (my_q my_nil ow) ow) ow) ow) ow) (Nat.zero_le _) (fun y q => by cases q)) ow) zd zr) (by try dsimp only; omega) (by try dsimp only; omega), ?_⟩
 refine se_seq ?_
 refine s_ret ?_
 refine ⟨.inr rfl, _, (by simp only [Tryz.results6, resA, Tr.get_set, reduceIte, Nat.reduceEqDiff, Nat.reduceAdd] <;> rfl), fun a2 hs2 ok2 => ?_⟩
 simp only [List.cons.injEq, Value.agg.injEq, Array.mk.injEq, and_true] at hs2
 obtain rfl := Ans.C_inj ok ok2 hs2
 exact ⟨_, _, _, rfl, Fr.low (Fr.wr hF6 (by dsimp only; omega) (by dsimp only; omega)) ow, _, AccP.low ac5 (by show nx <= nx + 1; omega)⟩
end Go.Proofs.YtfgmplbclpadbaaGreatDoor
namespace Go.Proofs.YtfgmplbclpadbaaGreatDoor
open Go Go.AM
theorem splice_set {l : List Int} {x : Int} : ∀ {k : Nat}, k < l.length -> splice (bys l) k [.int .u8 x] = bys (l.set k x) := by
 intro k hk
 unfold splice
 rw [List.set_eq_take_append_cons_drop, if_pos hk]
 rw [<-bys_take, <-bys_drop, <-bys_one1, <-bys_append, <-bys_append, List.append_assoc]
 rfl
theorem byt_set {l : List Int} {x : Int} {k : Nat} (h : Byt l) (hx : 0 <= x /\ x < 256) : Byt (l.set k x) := fun y hy => by
 rcases List.mem_or_eq_of_mem_set hy with q | q
 ·exact h y q
 ·rw [q]; exact hx
theorem meets_start {P : Program} {f : FuncId} {fn : Func} {c : Code} {args : List Value} {h : AH} {R : Value -> AH -> Prop} {sz : Nat} {e : Tr Value} (hfn : P.funcs[f]? = some fn) (hb : fn.body = some c) (hz : max args.length fn.ntmps = sz) (he : Tr.ofList args 0 .leaf = e)
  (k : SureK P h c [] ⟨e, sz, h⟩ (EndR P fn R)) : ∃ v h', Meets P (.func f) args h v h' /\ R v h' := by
 subst hz; subst he
 exact meets_sure hfn hb k
noncomputable def c_lives : List Value -> AH -> Option (Value × AH) := entC [e72]
theorem con_lives : Con Tryz.prog 13 c_lives := con_ents Tryz.func13 rfl (ents_cons ok72 ents_nil)
theorem lives_c {H : AH} : c_lives [] H = some (.bool true, H) := rfl
end Go.Proofs.YtfgmplbclpadbaaGreatDoor
