/-
  Message, Encode, Same of package answer.
-/
import Derived.Test.YtfgmplbclpadbaaGreatDoorMXa
import Derived.Test.YtfgmplbclpadbaaGreatDoorMWx
set_option linter.unusedSimpArgs false
set_option linter.unusedVariables false
namespace Go.Proofs.YtfgmplbclpadbaaGreatDoor
open Go.AM
set_option maxRecDepth 100000
set_option maxHeartbeats 1000000
set_option maxHeartbeats 16000000
theorem T.z20 : (Tryz.prog.info? 20).bind (·.zero) = some .nilIface := by kernel_rfl
theorem ptb_msg (a : Ans) (s1 s2 s3 : Value) : [Pt.nums s1 [a.w, a.q], .dig a.pd, .txt a.ts, .nums s2 [a.k, a.f, a.sk, a.sd], .nums s3 [a.o, a.si, a.st, a.al, a.wa], .txt a.wh, .dig a.rt].flatMap Pt.B = msgB a := by
 unfold msgB msg6 msg5 msg4 msg3 msg2 msg1
 simp only [List.flatMap_cons, List.flatMap_nil, Pt.B, List.append_assoc, List.append_nil]
theorem msg_parts {t : Tr AObj} {nx i1 i2 i3 : Nat} {a : Ans} (ok : a.Ok) (r1 : t.get i1 = some (.row (ints [a.w, a.q]) i1 BIG false (ints [a.w, a.q]).length)) (r2 : t.get i2 = some (.row (ints [a.k, a.f, a.sk, a.sd]) i2 BIG false (ints [a.k, a.f, a.sk, a.sd]).length)) (r3 : t.get i3 = some (.row (ints [a.o, a.si, a.st, a.al, a.wa]) i3 BIG false (ints [a.o, a.si, a.st, a.al, a.wa]).length)) (h1 : i1 < nx) (h2 : i2 < nx) (h3 : i3 < nx) :
  ∀ q ∈ [Pt.nums (.slice (some ⟨i1, 0, none⟩) 2 2) [a.w, a.q], .dig a.pd, .txt a.ts, .nums (.slice (some ⟨i2, 0, none⟩) 4 4) [a.k, a.f, a.sk, a.sd], .nums (.slice (some ⟨i3, 0, none⟩) 5 5) [a.o, a.si, a.st, a.al, a.wa], .txt a.wh, .dig a.rt], q.Ok t nx := by
 have hn := ok.nums
 intro q hq
 simp only [List.mem_cons, List.not_mem_nil, or_false] at hq
 rcases hq with rfl | rfl | rfl | rfl | rfl | rfl | rfl
 ·refine ⟨lv_row r1 h1 rfl, fun x hx => ?_, by show 2 <= 5; decide⟩
  simp only [List.mem_cons, List.not_mem_nil, or_false] at hx
  rcases hx with rfl | rfl <;> exact hn _ (by simp only [List.mem_cons, true_or, or_true])
 ·exact ok.pl
 ·exact ok.tl
 ·refine ⟨lv_row r2 h2 rfl, fun x hx => ?_, by show 4 <= 5; decide⟩
  simp only [List.mem_cons, List.not_mem_nil, or_false] at hx
  rcases hx with rfl | rfl | rfl | rfl <;> exact hn _ (by simp only [List.mem_cons, true_or, or_true])
 ·refine ⟨lv_row r3 h3 rfl, fun x hx => ?_, by show 5 <= 5; decide⟩
  simp only [List.mem_cons, List.not_mem_nil, or_false] at hx
  rcases hx with rfl | rfl | rfl | rfl | rfl <;> exact hn _ (by simp only [List.mem_cons, true_or, or_true])
 ·exact ok.hl
 ·exact ok.rl
def R_pmsg : List Value -> AH -> Value -> AH -> Prop := fun args h v h' => ∀ (a : Ans), args = [.agg ⟨a.C⟩] -> a.Ok -> BPost (msgB a) (3200) h.t h.next h.wr v h'
noncomputable def c_pmsg := cEx Tryz.prog 18 R_pmsg
theorem con_pmsg : Con Tryz.prog 18 c_pmsg := con_ex Tryz.func18 rfl
theorem pmsg_c {t : Tr AObj} {nx wr : Nat} {a : Ans} (ok : a.Ok) (hN : nx + (3200) + 100 <= BIG) (hwr : wr <= BIG) : ∃ v h', c_pmsg [.agg ⟨a.C⟩] ⟨t, nx, wr⟩ = some (v, h') /\ BPost (msgB a) (3200) t nx wr v h' := by
 have hP := Fits
 have hC : CallSound Tryz.prog (tabOf [(47, c_write)]) := tab_sound (tab_cons con_write tab_end)
 have hF0 : Fr t nx wr t nx wr 0 := Fr.refl
 have pl := ok.pl; have rl := ok.rl; have tl := ok.tl; have hl := ok.hl
 have XL := Ans.X_len ok; have RL := Ans.R_len ok; have CL := Ans.C_len ok
 have hn := ok.nums
 suffices key : SureK Tryz.prog ⟨t, nx, wr⟩ _ [] _ (EndR Tryz.prog _ (R_pmsg [.agg ⟨a.C⟩] ⟨t, nx, wr⟩)) by
  obtain ⟨v, h', q, c⟩ := sure_start (R := R_pmsg) (sz := 57) Tryz.func18 rfl rfl zo key
  exact ⟨v, h', q, c a rfl ok⟩
 refine s_seq (s_region hP hC ?_)
 refine os (y_boxA rfl zt) ?_
 refine oA ?_
 refine o_done (se_seq (s_seq ?_))
 refine s_draw hP hC zr ?_
 refine ds (x_field (off' := 2) rfl zt u35 rfl T.s29 rfl) ?_
 refine ds (x_loadA rfl zt T.g29 T.s29 (Ans.l_X ok (whole_row hg rfl))) ?_
 refine ds (x_field (off' := 23) rfl zt u35 rfl T.s33 rfl) ?_
 refine ds (x_loadA rfl zt T.g33 T.s33 (Ans.l_R ok (whole_row hg rfl))) ?_
 refine ds (y_alloc rfl T.z29 rfl rfl) ?_
 refine ds (y_alloc rfl T.z33 rfl rfl) ?_
 refine d_stepN (wA_none rfl) rfl (y_storeA rfl zt zt T.s29 XL hg rfl rfl (by unfold Ans.X; rw [List.all_append, bys_one]; rfl)) ?_
 refine d_stepN (wA_none rfl) rfl (y_storeA rfl zt zt T.s33 RL hg rfl rfl (by unfold Ans.R; rw [List.all_append, bys_one]; rfl)) ?_
 refine d_done ⟨de_ok (tail_my (B := nx + 1) (Y := none) (M := [1, 1, 0, 0, 1, 1, 2, 2]) (fw := 6) (my_w (my_w (my_q (my_q (my_ldR (my_op (my_q (my_q my_nil ow) ow) ow) (show readId _ (Op.load 33 (.tmp 7)) = _ from by simp only [readId, ev_tmp, Tr.get_set, reduceIte, Nat.reduceEqDiff, Nat.reduceAdd] <;> rfl) hg ow ow ow) ow) ow) ow (fun y q => by cases q)) ow (fun y q => by cases q)) zd zr) (by try dsimp only; omega) (by try dsimp only; omega), ?_⟩
 refine se_seq (s_seq (s_region hP hC ?_))
 refine os (x_field (off' := 0) rfl zt u35 rfl T.s3 rfl) ?_
 refine os (x_load1 rfl zt T.g3 (l_whole (d := a.C) (whole_row hg rfl) 0 1 (by rw [CL]; decide))) ?_
 refine os (x_field (off' := 1) rfl zt u35 rfl T.s3 rfl) ?_
 refine os (x_load1 rfl zt T.g3 (l_whole (d := a.C) (whole_row hg rfl) 1 1 (by rw [CL]; decide))) ?_
 refine os (y_bsliceN (cs := ints [a.w, a.q]) rfl zp u22 T.s3 T.z3 zd zd rfl rfl (by rfl)) ?_
 refine os (x_iface rfl zt u22 (fun ms h => by cases h)) ?_
 refine os (x_field (off' := 0) rfl zt u29 rfl T.s25 rfl) ?_
 refine os (x_loadA rfl zt T.g25 T.s25 (Ans.l_pd ok (whole_row hg rfl))) ?_
 refine os (x_iface rfl zt u25 (fun ms h => by cases h)) ?_
 refine os (x_field (off' := 16) rfl zt u29 rfl T.s9 rfl) ?_
 refine os (x_load1 rfl zt T.g9 (Ans.l_x ok (whole_row hg rfl) 0 _ rfl)) ?_
 refine os (x_iface rfl zt u9 (fun ms h => by cases h)) ?_
 refine os (x_field (off' := 17) rfl zt u29 rfl T.s27 rfl) ?_
 refine os (x_field (off' := 17) rfl zt u27 rfl T.s3 rfl) ?_
 refine os (x_load1 rfl zt T.g3 (Ans.l_x ok (whole_row hg rfl) 1 _ rfl)) ?_
 refine os (x_field (off' := 17) rfl zt u29 rfl T.s27 rfl) ?_
 refine os (x_field (off' := 18) rfl zt u27 rfl T.s3 rfl) ?_
 refine os (x_load1 rfl zt T.g3 (Ans.l_x ok (whole_row hg rfl) 2 _ rfl)) ?_
 refine os (x_field (off' := 17) rfl zt u29 rfl T.s27 rfl) ?_
 refine os (x_field (off' := 19) rfl zt u27 rfl T.s3 rfl) ?_
 refine os (x_load1 rfl zt T.g3 (Ans.l_x ok (whole_row hg rfl) 3 _ rfl)) ?_
 refine os (x_field (off' := 20) rfl zt u29 rfl T.s3 rfl) ?_
 refine os (x_load1 rfl zt T.g3 (Ans.l_x ok (whole_row hg rfl) 4 _ rfl)) ?_
 refine os (y_bsliceN (cs := ints [a.k, a.f, a.sk, a.sd]) rfl zp u22 T.s3 T.z3 zd zd rfl rfl (by rfl)) ?_
 refine os (x_iface rfl zt u22 (fun ms h => by cases h)) ?_
 refine os (x_field (off' := 0) rfl zt u33 rfl T.s3 rfl) ?_
 refine os (x_load1 rfl zt T.g3 (Ans.l_r ok (whole_row hg rfl) 0 _ zd rfl)) ?_
 refine os (x_field (off' := 2) rfl zt u33 rfl T.s3 rfl) ?_
 refine os (x_load1 rfl zt T.g3 (Ans.l_r ok (whole_row hg rfl) 2 _ zd rfl)) ?_
 refine os (x_field (off' := 3) rfl zt u33 rfl T.s31 rfl) ?_
 refine os (x_field (off' := 3) rfl zt u31 rfl T.s3 rfl) ?_
 refine os (x_load1 rfl zt T.g3 (Ans.l_r ok (whole_row hg rfl) 3 _ zd rfl)) ?_
 refine os (x_field (off' := 3) rfl zt u33 rfl T.s31 rfl) ?_
 refine os (x_field (off' := 4) rfl zt u31 rfl T.s3 rfl) ?_
 refine os (x_load1 rfl zt T.g3 (Ans.l_r ok (whole_row hg rfl) 4 _ zd rfl)) ?_
 refine os (x_field (off' := 3) rfl zt u33 rfl T.s31 rfl) ?_
 refine os (x_field (off' := 5) rfl zt u31 rfl T.s3 rfl) ?_
 refine os (x_load1 rfl zt T.g3 (Ans.l_r ok (whole_row hg rfl) 5 _ zd rfl)) ?_
 refine os (y_bsliceN (cs := ints [a.o, a.si, a.st, a.al, a.wa]) rfl zp u22 T.s3 T.z3 zd zd rfl rfl (by rfl)) ?_
 refine os (x_iface rfl zt u22 (fun ms h => by cases h)) ?_
 refine os (x_field (off' := 1) rfl zt u33 rfl T.s9 rfl) ?_
 refine os (x_load1 rfl zt T.g9 (Ans.l_r ok (whole_row hg rfl) 1 _ zd rfl)) ?_
 refine os (x_iface rfl zt u9 (fun ms h => by cases h)) ?_
 refine os (x_field (off' := 6) rfl zt u33 rfl T.s25 rfl) ?_
 refine os (x_loadA rfl zt T.g25 T.s25 (Ans.l_rt ok (whole_row hg rfl))) ?_
 refine os (x_iface rfl zt u25 (fun ms h => by cases h)) ?_
 refine os (y_bsliceN (cs := List.map Pt.V [.nums (.slice (some ⟨nx + 1 + 1 + 1, 0, none⟩) 2 2) [a.w, a.q], .dig a.pd, .txt a.ts, .nums (.slice (some ⟨nx + 1 + 1 + 1 + 1, 0, none⟩) 4 4) [a.k, a.f, a.sk, a.sd], .nums (.slice (some ⟨nx + 1 + 1 + 1 + 1 + 1, 0, none⟩) 5 5) [a.o, a.si, a.st, a.al, a.wa], .txt a.wh, .dig a.rt]) rfl zp Tryz.underlying152 T.s20 T.z20 zd zd rfl rfl (by rfl)) ?_
 refine o_callR (tab_hitR (write_c (nx := nx + 1 + 1 + 1 + 1 + 1 + 1 + 1) (ps := [.nums (.slice (some ⟨nx + 1 + 1 + 1, 0, none⟩) 2 2) [a.w, a.q], .dig a.pd, .txt a.ts, .nums (.slice (some ⟨nx + 1 + 1 + 1 + 1, 0, none⟩) 4 4) [a.k, a.f, a.sk, a.sd], .nums (.slice (some ⟨nx + 1 + 1 + 1 + 1 + 1, 0, none⟩) 5 5) [a.o, a.si, a.st, a.al, a.wa], .txt a.wh, .dig a.rt]) (lv_row (id := nx + 1 + 1 + 1 + 1 + 1 + 1) (d := List.map Pt.V [.nums (.slice (some ⟨nx + 1 + 1 + 1, 0, none⟩) 2 2) [a.w, a.q], .dig a.pd, .txt a.ts, .nums (.slice (some ⟨nx + 1 + 1 + 1 + 1, 0, none⟩) 4 4) [a.k, a.f, a.sk, a.sd], .nums (.slice (some ⟨nx + 1 + 1 + 1 + 1 + 1, 0, none⟩) 5 5) [a.o, a.si, a.st, a.al, a.wa], .txt a.wh, .dig a.rt]) (n := 7) hg ow rfl) (msg_parts ok hg hg hg ow ow ow) (Nat.le_refl 7) (by show _ + (420 * 7 + 10) + 100 <= BIG; omega) ow)) (wA_none rfl) rfl rfl rfl zv zd (fun v10 h10 hR10 => ?_)
 obtain ⟨t10, nx10, wz10, rfl, hf10, S10, ac10⟩ := hR10
 have qa10 := hf10.le
 have qb10 : nx10 <= nx + 1 + 1 + 1 + 1 + 1 + 1 + 1 + (420 * 7 + 10) := hf10.hi
 have qc10 := hf10.wlo
 have qd10 := hf10.whi
 have hF11 : Fr t nx wr _ _ _ (7 + (420 * 7 + 10)) := Fr.trans (⟨by omega, by omega, by omega, by omega, fun i hi => by (repeat (first | rw [gn ow])) <;> first | rfl | assumption | (rw [gp ow]; done) | (rw [gp ow]; rfl)⟩ : Fr t nx wr _ _ _ 7) hf10 (Nat.le_refl _)
 refine oA ?_
 refine o_done (se_seq ?_)
 refine s_ret ?_
 rw [ptb_msg] at ac10
 refine ⟨.inr rfl, _, (by simp only [Tryz.results18, resA, Tr.get_set, reduceIte, Nat.reduceEqDiff, Nat.reduceAdd] <;> rfl), fun a2 hs2 ok2 => ?_⟩
 simp only [List.cons.injEq, Value.agg.injEq, Array.mk.injEq, and_true] at hs2
 obtain rfl := Ans.C_inj ok ok2 hs2
 exact ⟨_, _, _, rfl, Fr.low (Fr.wr hF11 (by dsimp only; omega) (by dsimp only; omega)) ow, _, AccP.low ac10 (by show nx <= nx + 7; omega)⟩
end Go.Proofs.YtfgmplbclpadbaaGreatDoor
namespace Go.Proofs.YtfgmplbclpadbaaGreatDoor
open Go.AM
set_option maxRecDepth 100000
set_option maxHeartbeats 1000000
set_option maxHeartbeats 8000000
def R_penc : List Value -> AH -> Value -> AH -> Prop := fun args h v h' => ∀ (a : Ans), args = [.agg ⟨a.C⟩] -> a.Ok -> BPost (encB a) (3300) h.t h.next h.wr v h'
noncomputable def c_penc := cEx Tryz.prog 16 R_penc
theorem con_penc : Con Tryz.prog 16 c_penc := con_ex Tryz.func16 rfl
theorem penc_c {t : Tr AObj} {nx wr : Nat} {a : Ans} (ok : a.Ok) (hN : nx + (3300) + 100 <= BIG) (hwr : wr <= BIG) : ∃ v h', c_penc [.agg ⟨a.C⟩] ⟨t, nx, wr⟩ = some (v, h') /\ BPost (encB a) (3300) t nx wr v h' := by
 have hP := Fits
 have hC : CallSound Tryz.prog (tabOf [(18, c_pmsg), (46, c_wbytes)]) := tab_sound (tab_cons con_pmsg (tab_cons con_wbytes tab_end))
 have hF0 : Fr t nx wr t nx wr 0 := Fr.refl
 have hln := Ans.lens ok
 have l1 := hln.l1; have l2 := hln.l2; have l3 := hln.l3; have l4 := hln.l4; have l5 := hln.l5; have l6 := hln.l6; have l7 := hln.l7
 have e1 := encI1_len
 have gl := ok.gl
 have CL := Ans.C_len ok
 have hbs := bytesB_hi gl
 suffices key : SureK Tryz.prog ⟨t, nx, wr⟩ _ [] _ (EndR Tryz.prog _ (R_penc [.agg ⟨a.C⟩] ⟨t, nx, wr⟩)) by
  obtain ⟨v, h', q, c⟩ := sure_start (R := R_penc) (sz := 9) Tryz.func16 rfl rfl zo key
  exact ⟨v, h', q, c a rfl ok⟩
 refine s_seq (s_region hP hC ?_)
 refine os (y_boxA rfl zt) ?_
 refine oA ?_
 refine o_done (se_seq (s_seq ?_))
 refine s_draw hP hC zr ?_
 refine ds (x_loadA rfl zt T.g35 T.s35 (l_all (whole_row hg rfl) CL.symm)) ?_
 refine d_callR (tab_hitR (pmsg_c (nx := nx + 1) ok ow (Nat.le_refl _))) (wA_none rfl) rfl rfl rfl zv zd (fun v1 ta1 na1 wa1 hR1 => ?_)
 obtain ⟨t1, nx1, wz1, hh1, hf1, S1, ac1⟩ := hR1
 cases hh1
 have qa1 := hf1.le
 have qb1 : na1 <= nx + 1 + 3200 := hf1.hi
 have qc1 := hf1.wlo
 have qd1 := hf1.whi
 have hF2 : Fr t nx wr _ _ _ (0 + 1 + 3200) := Fr.trans (Fr.alloc hF0) (Fr.min hf1 ow) (Nat.le_refl _)
 refine ds (x_field (off' := 45) rfl zt u35 rfl T.s9 rfl) ?_
 refine ds (x_load1 rfl zt T.g9 (Ans.l_sg ok (whole_row (by (repeat (first | rw [gn ow] | rw [hf1.same _ ow])) <;> first | rfl | assumption | (rw [gp ow]; done) | (rw [gp ow]; rfl)) rfl))) ?_
 refine d_callR (tab_missR zd (tab_hitR (wbytes_c (s := a.sg) ow ow (Nat.le_refl _)))) (wA_none rfl) rfl rfl rfl zv zd (fun v3 ta3 na3 wa3 hR3 => ?_)
 obtain ⟨t3, nx3, wz3, hh3, hf3, S3, ac3⟩ := hR3
 cases hh3
 have qa3 := hf3.le
 have qb3 : na3 <= na1 + 62 := hf3.hi
 have qc3 := hf3.wlo
 have qd3 := hf3.whi
 have hF4 : Fr t nx wr _ _ _ (0 + 1 + 3200 + 62) := Fr.trans hF2 (Fr.min hf3 ow) (Nat.le_refl _)
 refine d_appB ac1 (ac3.cells (fun _ _ => rfl) u23 T.s5) (wA_none rfl) rfl rfl rfl zv rfl rfl zr u23 T.i23 zd ow (fun x q => hf3.same x (by have := ac1.bnd x q; omega)) ow ow (fun v5 t5 nx5 wz5 S5 hA5 => ?_)
 have qa5 := hA5.le
 have qb5 := hA5.hi
 have qc5 := hA5.wlo
 have qd5 := hA5.whi
 have ac5 := hA5.acc
 have hF6 : Fr t nx wr _ _ _ (0 + 1 + 3200 + 62 + 1) := ABp.frD hA5 hF4 ow ow (fun x q => (ac1.bnd x q).1)
 refine ds (x_assign rfl zt) ?_
 refine d_done ⟨de_ok (tail_my (B := 0) (Y := none) (M := [1, 1, 0, 1, 1, 2, 0]) (fw := 0) (my_op (my_w (my_q (my_q (my_op (my_q (my_q my_nil ow) ow) ow) ow) ow) (Nat.zero_le _) (fun y q => by cases q)) ow) zd zr) (by try dsimp only; omega) (by try dsimp only; omega), ?_⟩
 refine se_seq ?_
 refine s_ret ?_
 refine ⟨.inr rfl, _, (by simp only [Tryz.results16, resA, Tr.get_set, reduceIte, Nat.reduceEqDiff, Nat.reduceAdd] <;> rfl), fun a2 hs2 ok2 => ?_⟩
 simp only [List.cons.injEq, Value.agg.injEq, Array.mk.injEq, and_true] at hs2
 obtain rfl := Ans.C_inj ok ok2 hs2
 exact ⟨_, _, _, rfl, Fr.low (Fr.wr hF6 (by dsimp only; omega) (by dsimp only; omega)) ow, _, AccP.low ac5 (by show nx <= nx + 1; omega)⟩
def R_psame : List Value -> AH -> Value -> AH -> Prop := fun args h v h' => ∀ (a b : Ans), args = [.agg ⟨a.C⟩, .agg ⟨b.C⟩] -> a.Ok -> b.Ok -> ∃ t' nx' wr', h' = ⟨t', nx', wr'⟩ /\ Fr h.t h.next h.wr t' nx' wr' 2 /\ v = .bool (eqCs a.C b.C)
noncomputable def c_psame := cEx Tryz.prog 20 R_psame
theorem con_psame : Con Tryz.prog 20 c_psame := con_ex Tryz.func20 rfl
theorem psame_c {t : Tr AObj} {nx wr : Nat} {a b : Ans} (oka : a.Ok) (okb : b.Ok) (hN : nx + 100 <= BIG) (hwr : wr <= BIG) : ∃ v h', c_psame [.agg ⟨a.C⟩, .agg ⟨b.C⟩] ⟨t, nx, wr⟩ = some (v, h') /\ ∃ t' nx' wr', h' = ⟨t', nx', wr'⟩ /\ Fr t nx wr t' nx' wr' 2 /\ v = .bool (eqCs a.C b.C) := by
 have hP := Fits
 have hC : CallSound Tryz.prog (tabOf []) := tab_sound tab_end
 have hF0 : Fr t nx wr t nx wr 0 := Fr.refl
 have CA := Ans.C_len oka
 have CB := Ans.C_len okb
 suffices key : SureK Tryz.prog ⟨t, nx, wr⟩ _ [] _ (EndR Tryz.prog _ (R_psame [.agg ⟨a.C⟩, .agg ⟨b.C⟩] ⟨t, nx, wr⟩)) by
  obtain ⟨v, h', q, c⟩ := sure_start (R := R_psame) (sz := 8) Tryz.func20 rfl rfl zo key
  exact ⟨v, h', q, c a b rfl oka okb⟩
 refine s_seq (s_region hP hC ?_)
 refine os (y_boxA rfl zt) ?_
 refine os (y_boxA rfl zt) ?_
 refine oA ?_
 refine o_done (se_seq (s_seq (s_region hP hC ?_)))
 refine os (x_loadA rfl zt T.g35 T.s35 (l_all (whole_row hg rfl) CA.symm)) ?_
 refine os (x_loadA rfl zt T.g35 T.s35 (l_all (whole_row hg rfl) CB.symm)) ?_
 refine os (x_bin rfl zt zt (b_eqlA (d := 20) zd T.f35 T.g35 T.q35 (Ans.C_cf oka) (Ans.C_cf okb))) ?_
 refine oA ?_
 refine o_done (se_seq ?_)
 refine s_ret ?_
 refine ⟨.inr rfl, _, (by simp only [Tryz.results20, resA, Tr.get_set, reduceIte, Nat.reduceEqDiff, Nat.reduceAdd] <;> rfl), fun a2 b2 hs2 ok2 ok3 => ?_⟩
 simp only [List.cons.injEq, Value.agg.injEq, Array.mk.injEq, and_true] at hs2
 obtain rfl := Ans.C_inj oka ok2 hs2.1
 obtain rfl := Ans.C_inj okb ok3 hs2.2
 exact ⟨_, _, _, rfl, ⟨by dsimp only; omega, by dsimp only; omega, by dsimp only; omega, by dsimp only; omega, fun i (hi : i < nx) => by show _ = t.get i; rw [gn ow, gn ow]⟩, rfl⟩
end Go.Proofs.YtfgmplbclpadbaaGreatDoor
