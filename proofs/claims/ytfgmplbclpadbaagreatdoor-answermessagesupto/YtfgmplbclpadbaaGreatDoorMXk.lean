/-
  The law AnswerMessages: her walk.
-/
import Derived.Test.YtfgmplbclpadbaaGreatDoorMXg
set_option linter.unusedSimpArgs false
set_option linter.unusedVariables false
namespace Go.Proofs.YtfgmplbclpadbaaGreatDoor
open Go.AM
set_option maxRecDepth 100000
set_option maxHeartbeats 1000000
set_option maxHeartbeats 32000000
def MA (n m how by_ : Int) (s_r : Value) (r : Ans) (rest : List Int) (st : St) : Prop := ∃ e t1 nx1 wq1 idA idB, ∃ a b : Ans, st = ⟨e, 170, ⟨t1, nx1, wq1⟩⟩ /\ e.get 0 = some (.int .i64 n) /\ e.get 1 = some (.int .i64 m) /\ e.get 2 = some (.int .i64 how) /\ e.get 3 = some (.int .i64 by_) /\ e.get 6 = some (s_r) /\ e.get 11 = some (.pointer (some ⟨1, 0, none⟩)) /\ e.get 15 = some (.pointer (some ⟨idA, 0, none⟩)) /\ e.get 16 = some (.pointer (some ⟨idB, 0, none⟩)) /\ t1.get 0 = some (.row (bys rest) 0 BIG true (bys rest).length) /\ t1.get 1 = some (.row r.C 1 BIG false r.C.length) /\ t1.get idA = some (.row a.C idA BIG false a.C.length) /\ t1.get idB = some (.row b.C idB BIG false b.C.length) /\ 1 < idA /\ idA < nx1 /\ 1 < idB /\ idB < nx1 /\ a.Ok /\ b.Ok /\ b.ts.size <= 2000 /\ b.wh.size <= 2000 /\ b.sg.size <= 2000 /\ nx1 <= 100 /\ wq1 <= BIG
def MB (s_r : Value) (rest : List Int) (st : St) : Prop := ∃ e t1 nx1 wq1 idL, ∃ Ls : List Ans, st = ⟨e, 170, ⟨t1, nx1, wq1⟩⟩ /\ e.get 6 = some s_r /\ e.get 17 = some (.slice (some ⟨idL, 0, none⟩) 5 5) /\ t1.get 0 = some (.row (bys rest) 0 BIG true (bys rest).length) /\ t1.get idL = some (.row (Ls.map Ans.C).flatten idL BIG false (Ls.map Ans.C).flatten.length) /\ Ls.length = 5 /\ (∀ x ∈ Ls, x.Ok) /\ 0 < idL /\ idL < nx1 /\ nx1 <= 200 /\ wq1 <= BIG
theorem law4_s {t : Tr AObj} {n m how by_ : Int} {r : Ans} {s : ByteArray} {s_r : Value} {rest : List Int} (hn : inR n) (hm : inR m) (hhow : inR how) (hby : inR by_) (okr : r.Ok) (hsr : Sl 0 1 rest.length s_r) (hr : Byt rest) (hrl : rest.length <= 4000000) (h0 : t.get 0 = some (.row (bys rest) 0 BIG true (bys rest).length)) : ∃ v h', Meets Tryz.prog (.func 4) [.int .i64 n, .int .i64 m, .int .i64 how, .int .i64 by_, .agg ⟨r.C⟩, .string s, s_r] ⟨t, 1, BIG⟩ v h' /\ v = .bool true := by
 have hP := Fits
 have hC : CallSound Tryz.prog (tabOf [(17, c_same), (16, c_penc), (15, c_bent), (5, c_made), (20, c_psame), (18, c_pmsg), (19, c_msg), (6, c_enc), (11, c_dec), (14, c_short), (13, c_lives)]) := tab_sound (tab_cons con_same (tab_cons con_penc (tab_cons con_bent (tab_cons con_made (tab_cons con_psame (tab_cons con_pmsg (tab_cons con_msg (tab_cons con_enc (tab_cons con_dec (tab_cons con_short (tab_cons con_lives tab_end)))))))))))
 have hBIG : (1000000000000 : Nat) < BIG := by unfold BIG; omega
 have CLr := Ans.C_len okr
 suffices key : SureK Tryz.prog ⟨t, 1, BIG⟩ _ [] _ (EndR Tryz.prog _ (fun v h' => v = .bool true)) by
  exact meets_start (sz := 170) Tryz.func4 rfl rfl zo key
 refine s_seq (s_region hP hC ?_)
 refine os (y_boxA rfl zt) ?_
 refine oA ?_
 refine o_done (se_seq (s_seq (s_region hP hC (oM ?_))))
 refine oM ?_
 refine o_callR (tab_missR zd (tab_missR zd (tab_missR zd (tab_hitR (made_c hn hm ow (Nat.le_refl _)))))) (wA_none rfl) rfl rfl rfl zv zd (fun v0 q0 hR0 => ?_)
 obtain ⟨ta, na, wa, a0, rfl, hfa, rfl, ok0, za1, za2⟩ := hR0
 have fa1 := hfa.le
 have fa2 := hfa.hi
 have fa3 := hfa.whi
 have CL0 := Ans.C_len ok0
 have g0 : ta.get 0 = some (.row (bys rest) 0 BIG true (bys rest).length) := (hfa.same 0 ow).trans (by rw [gn ow]; exact h0)
 have g1 : ta.get 1 = some (.row r.C 1 BIG false r.C.length) := (hfa.same 1 ow).trans (by rw [gp rfl])
 refine os (y_alloc rfl T.z35 rfl rfl) ?_
 refine o_stepN (wA_none rfl) rfl (y_storeA rfl zt zt T.s35 CL0 hg rfl rfl (cf_oneC (Ans.C_cf ok0))) ?_
 refine o_done (se_seq (s_seq (s_region hP hC (oM ?_))))
 refine o_callR (tab_missR zd (tab_missR zd (tab_missR zd (tab_missR zd (tab_missR zd (tab_missR zd (tab_missR zd (tab_missR zd (tab_missR zd (tab_hitR (short_c (s := s) ow ow))))))))))) (wA_none rfl) rfl rfl rfl zv zd (fun v1 q1 hR1 => ?_)
 obtain ⟨tb, nb, wb, rfl, hfb, rfl⟩ := hR1
 have fb1 := hfb.le
 have fb2 := hfb.hi
 have fb3 := hfb.whi
 have gA : tb.get na = some (.row a0.C na BIG false a0.C.length) := (hfb.same na ow).trans (by rw [gp rfl])
 have k0 : tb.get 0 = some (.row (bys rest) 0 BIG true (bys rest).length) := (hfb.same 0 ow).trans ((by repeat rw [gn ow] : Tr.get _ 0 = ta.get 0).trans g0)
 have k1 : tb.get 1 = some (.row r.C 1 BIG false r.C.length) := (hfb.same 1 ow).trans ((by repeat rw [gn ow] : Tr.get _ 1 = ta.get 1).trans g1)
 have zs := shortS_size s
 have okA : ({ a0 with sg := shortS s } : Ans).Ok := a0_short ok0 zs
 have CLA := Ans.C_len okA
 refine os (x_field (off' := 45) rfl zt u35 rfl T.s9 rfl) ?_
 refine o_stepN (wA_none rfl) rfl (y_store1P (off := 45) (d' := ({ a0 with sg := shortS s } : Ans).C) rfl zt zt rfl T.s9 gA rfl (by rw [CL0]; decide) rfl (Ans.set_sg ok0)) ?_
 refine o_done (se_seq (s_seq ?_))
 refine s_join (MA n m how by_ s_r r rest) ?_ ?_
 ·skip
  refine s_region hP hC ?_
  refine os (x_loadA rfl zt T.g35 T.s35 (l_all (whole_row (d := ({ a0 with sg := shortS s } : Ans).C) hg rfl) CLA.symm)) ?_
  refine oM ?_
  refine oM ?_
  have hsh : (({ a0 with sg := shortS s } : Ans).sg).size <= 40 := zs
  refine o_callR (tab_missR zd (tab_missR zd (tab_hitR (bent_c (a := ({ a0 with sg := shortS s } : Ans)) okA hhow hby (by show a0.ts.size <= _; omega) (by show a0.wh.size <= _; omega) ow ow ow)))) (wA_none rfl) rfl rfl rfl zv zd (fun v2 q2 hR2 => ?_)
  obtain ⟨tc, nc, wc, b1, rfl, hfc, rfl, okB, zb1, zb2, zb3⟩ := hR2
  have fc1 := hfc.le
  have fc2 := hfc.hi
  have fc3 := hfc.whi
  have CLB := Ans.C_len okB
  have zb1 : b1.ts.size <= a0.ts.size + 1 := zb1
  have zb2 : b1.wh.size <= a0.wh.size + 1 := zb2
  have m0 : tc.get 0 = some (.row (bys rest) 0 BIG true (bys rest).length) := (hfc.same 0 ow).trans ((by repeat rw [gn ow] : Tr.get _ 0 = tb.get 0).trans k0)
  have m1 : tc.get 1 = some (.row r.C 1 BIG false r.C.length) := (hfc.same 1 ow).trans ((by repeat rw [gn ow] : Tr.get _ 1 = tb.get 1).trans k1)
  have mA : tc.get na = some (.row ({ a0 with sg := shortS s } : Ans).C na BIG false ({ a0 with sg := shortS s } : Ans).C.length) := (hfc.same na ow).trans (by rw [gp rfl])
  refine os (y_alloc rfl T.z35 rfl rfl) ?_
  refine o_stepN (wA_none rfl) rfl (y_storeA rfl zt zt T.s35 CLB hg rfl rfl (cf_oneC (Ans.C_cf okB))) ?_
  refine o_done ?_
  refine se_loop ?_
  exact ⟨_, _, _, _, na, nc, ({ a0 with sg := shortS s } : Ans), b1, rfl, hg, hg, hg, hg, hg, hg, hg, hg, by (repeat rw [gn ow]); exact m0, by (repeat rw [gn ow]); exact m1, by (repeat rw [gn ow]); exact mA, by rw [gp rfl], by omega, by omega, by omega, by omega, okA, okB, by omega, by omega, by omega, by omega, by (try dsimp only); omega⟩
 ·skip
  clear CLA okA zs CL0 ok0 za1 za2 g0 g1 k0 k1 gA hfa hfb fa1 fa2 fa3 fb1 fb2 fb3
  rintro _ ⟨e, t1, nx1, wq1, idA, idB, a, b, rfl, he0, he1, he2, he3, he6, he11, he15, he16, hh0, hh1, hhA, hhB, iA0, iA1, iB0, iB1, okA, okB, zb1, zb2, zb3, nb1, wb1⟩
  have CLA := Ans.C_len okA
  have CLB := Ans.C_len okB
  refine s_seq ?_
  refine s_join (MB s_r rest) ?_ ?_
  ·skip
   refine s_draw hP hC zr ?_
   refine ds (x_loadA rfl za T.g35 T.s35 (l_all (whole_row hg rfl) CLA.symm)) ?_
   refine ds (x_loadA rfl za T.g35 T.s35 (l_all (whole_row hg rfl) CLB.symm)) ?_
   refine ds (x_loadA rfl za T.g35 T.s35 (l_all (whole_row hg rfl) CLB.symm)) ?_
   refine dM ?_
   refine dM ?_
   refine d_callR (tab_missR zd (tab_missR zd (tab_hitR (bent_c (a := b) okB hby hhow ow ow ow ow (Nat.le_refl _))))) (wA_none rfl) rfl rfl rfl (by simp only [evs, ev_tmp, Tr.get_set, reduceIte, Nat.reduceEqDiff, Nat.reduceAdd, he0, he1, he2, he3, he6, he11, he15, he16] <;> rfl) zd (fun v3 tc nc wc hR3 => ?_)
   obtain ⟨tc2, nc2, wc2, b2, hh3, hfc, hv3, okC, zc1, zc2, zc3⟩ := hR3
   cases hh3
   subst hv3
   have fc1 := hfc.le
   have fc2 := hfc.hi
   have fc3 := hfc.wlo
   have hc1 := (hfc.same 1 ow).trans hh1
   have hc0 := (hfc.same 0 ow).trans hh0
   refine dM ?_
   refine dM ?_
   refine d_callR (tab_missR zd (tab_missR zd (tab_missR zd (tab_hitR (made_c hm hn ow (Nat.le_refl _)))))) (wA_none rfl) rfl rfl rfl (by simp only [evs, ev_tmp, Tr.get_set, reduceIte, Nat.reduceEqDiff, Nat.reduceAdd, he0, he1, he2, he3, he6, he11, he15, he16] <;> rfl) zd (fun v4 td nd wd hR4 => ?_)
   obtain ⟨td2, nd2, wd2, a3, hh4, hfd, hv4, okD, zd1, zd2⟩ := hR4
   cases hh4
   subst hv4
   have fd1 := hfd.le
   have fd2 := hfd.hi
   have fd3 := hfd.wlo
   have hd1 := (hfd.same 1 ow).trans hc1
   have hd0 := (hfd.same 0 ow).trans hc0
   have CLC := Ans.C_len okC
   have CLD := Ans.C_len okD
   refine ds (x_loadA rfl za T.g35 T.s35 (l_all (whole_row hg rfl) CLr.symm)) ?_
   refine ds (y_bsliceN (cs := ([a, b, b2, a3, r].map Ans.C).flatten) rfl (by simp only [evP, ev_tmp, Tr.get_set, reduceIte, Nat.reduceEqDiff, Nat.reduceAdd, he0, he1, he2, he3, he6, he11, he15, he16] <;> rfl) Tryz.underlying51 T.s35 T.z35 zd zd rfl rfl (fill5 rfl CLA CLB CLC CLD CLr)) ?_
   refine ds (x_assign rfl za) ?_
   refine d_done ⟨de_ok (tail_my (B := nx1) (Y := none) (M := [0, 0, 0, 0, 0, 2, 0, 0, 2, 0, 1, 0]) (fw := 0) (my_op (my_q (my_ldR (my_w (my_op (my_op (my_w (my_op (my_op (my_ldR (my_ldR (my_ldR my_nil (show readId _ (Op.load 35 (.tmp 15)) = _ from by simp only [readId, ev_tmp, Tr.get_set, reduceIte, Nat.reduceEqDiff, Nat.reduceAdd, he0, he1, he2, he3, he6, he11, he15, he16] <;> rfl) hhA ow ow ow) (show readId _ (Op.load 35 (.tmp 16)) = _ from by simp only [readId, ev_tmp, Tr.get_set, reduceIte, Nat.reduceEqDiff, Nat.reduceAdd, he0, he1, he2, he3, he6, he11, he15, he16] <;> rfl) hhB ow ow ow) (show readId _ (Op.load 35 (.tmp 16)) = _ from by simp only [readId, ev_tmp, Tr.get_set, reduceIte, Nat.reduceEqDiff, Nat.reduceAdd, he0, he1, he2, he3, he6, he11, he15, he16] <;> rfl) hhB ow ow ow) ow) ow) ow (fun y q => by cases q)) ow) ow) ow (fun y q => by cases q)) (show readId _ (Op.load 35 (.tmp 11)) = _ from by simp only [readId, ev_tmp, Tr.get_set, reduceIte, Nat.reduceEqDiff, Nat.reduceAdd, he0, he1, he2, he3, he6, he11, he15, he16] <;> rfl) hd1 ow ow ow) ow) ow) zd zr) (by try dsimp only; omega) (by try dsimp only; omega), ?_⟩
   refine se_loop ?_
   exact ⟨_, _, _, _, nd, [a, b, b2, a3, r], rfl, za, za, by rw [gn ow]; exact hd0, by rw [gp rfl], rfl, ok5s okA okB okC okD okr, by omega, by omega, by omega, by (try dsimp only); omega⟩
  ·skip
   clear he0 he1 he2 he3 he6 he11 he15 he16 hh0 hh1 hhA hhB iA0 iA1 iB0 iB1 okA okB zb1 zb2 zb3 nb1 wb1 CLA CLB
   rintro _ ⟨e, t1, nx1, wq1, idL, Ls, rfl, he6, he17, hh0, hhL, hL5, hLok, iL0, iL1, nb1, wb1⟩
   refine s_seq (s_seq (s_region hP hC (oA ?_)))
   refine o_done (se_seq (s_block ?_))
   refine s_loop (α := Int) (fun i s' => ∃ e t2 nx2 wq2, s' = ⟨e, 170, ⟨t2, nx2, wq2⟩⟩ /\ e.get 6 = some (s_r) /\ e.get 17 = some (.slice (some ⟨idL, 0, none⟩) 5 5) /\ e.get 18 = some (.int .i64 i) /\ 0 <= i /\ i <= 5 /\ nx1 <= nx2 /\ nx2 <= nx1 + 400000000 * i.toNat /\ wq2 <= BIG /\ (∀ id, id < nx1 -> t2.get id = t1.get id)) (fun i => (5 - i).toNat) 0 ⟨_, _, _, _, rfl, za, za, za, by omega, by omega, by omega, by omega, wb1, fun _ _ => rfl⟩ ?_
   rintro i s' ⟨e, t2, nx2, wq2, rfl, hea6, hea17, hea18, i0, i1, n0, n1, w1, hx2⟩
   refine s_seq (s_seq (s_region hP hC (oM ?_)))
   refine oM ?_
   refine os (x_len rfl rfl ze rfl Tryz.underlying51) ?_
   refine os (x_bin rfl za za b_lss) ?_
   refine o_done (se_seq ?_)
   refine s_cond za (fun g2 => ?_) (fun g2 => ?_)
   ·have p2 := g2; try simp only [dd] at p2
    refine s_skip (se_seq (s_seq (s_block (s_seq (s_region hP hC (oM ?_))))))
    refine oM ?_
    obtain ⟨a, ha⟩ : ∃ a, Ls[i.toNat]? = some a := ⟨_, List.getElem?_eq_getElem ow⟩
    have oka := hLok a (List.mem_of_getElem? ha)
    have CLa := Ans.C_len oka
    have ln := Ans.lens oka
    have l1 := ln.l1; have l2 := ln.l2; have l3 := ln.l3; have l4 := ln.l4; have l5 := ln.l5; have l6 := ln.l6; have l7 := ln.l7; have l8 := ln.l8
    have eI := encI1_len
    have hmB := msgB_byt ln.b8
    refine os (x_index rfl za za Tryz.underlying51 T.s35 ow ow) ?_
    have hL2 := (hx2 idL iL1).trans hhL
    refine os (x_loadA rfl za T.g35 T.s35 (la (whole_row hL2 rfl) hLok i0 ha)) ?_
    refine o_callR (tab_missR zd (tab_hitR (penc_c (nx := nx2) oka ow ow))) (wA_none rfl) rfl rfl rfl ze zd (fun vC qC hRC => ?_)
    obtain ⟨tC, nC, wC, rfl, hfC, SC, aC⟩ := hRC
    have fC1 := hfC.le
    have fC2 := hfC.hi
    have fC3 := hfC.whi
    have hxC : ∀ id, id < nx1 -> tC.get id = t1.get id := fun id q => (hfC.same id ow).trans (hx2 id q)
    have bC : BV tC (fun x => nx1 <= x /\ x < nC) vC (encB a) := (acc_bv aC).mono (fun x q => ⟨by have := aC.bnd x q; omega, (aC.bnd x q).2⟩)
    refine oA ?_
    refine o_done (se_seq (s_seq (s_seq ?_)))
    refine s_draw hP hC zr ?_
    refine dM ?_
    refine dM ?_
    refine ds (x_index rfl za za Tryz.underlying51 T.s35 ow ow) ?_
    have hq3 := (hxC idL iL1).trans hhL
    refine ds (x_loadA rfl za T.g35 T.s35 (la (whole_row hq3 rfl) hLok i0 ha)) ?_
    refine d_callR (tab_missR zd (tab_missR zd (tab_missR zd (tab_missR zd (tab_missR zd (tab_hitR (pmsg_c (nx := nC) oka ow (Nat.le_refl _)))))))) (wA_none rfl) rfl rfl rfl (by simp only [evs, ev_tmp, Tr.get_set, reduceIte, Nat.reduceEqDiff, Nat.reduceAdd, hea6, hea17, hea18, g2] <;> rfl) zd (fun vM tM nM wM hRM => ?_)
    obtain ⟨u1M, u2M, u3M, hhM, hfM, SM, aM⟩ := hRM
    cases hhM
    have fM1 := hfM.le
    have fM2 : nM <= nC + 3200 := hfM.hi
    have fM3 := hfM.wlo
    have hxM : ∀ id, id < nx1 -> tM.get id = t1.get id := fun id q => (hfM.same id ow).trans (hxC id q)
    have bM := acc_bv aM
    refine dM ?_
    refine dM ?_
    refine ds (x_index rfl za za Tryz.underlying51 T.s35 ow ow) ?_
    have hq8 := (hxM idL iL1).trans hhL
    refine ds (x_loadA rfl za T.g35 T.s35 (la (whole_row hq8 rfl) hLok i0 ha)) ?_
    refine d_callR (tab_missR zd (tab_missR zd (tab_missR zd (tab_missR zd (tab_missR zd (tab_missR zd (tab_hitR (msg_c (nx := nM) oka ow (Nat.le_refl _))))))))) (wA_none rfl) rfl rfl rfl (by simp only [evs, ev_tmp, Tr.get_set, reduceIte, Nat.reduceEqDiff, Nat.reduceAdd, hea6, hea17, hea18, g2] <;> rfl) zd (fun vN tN nN wN hRN => ?_)
    obtain ⟨u1N, u2N, u3N, hhN, hfN, SN, aN⟩ := hRN
    cases hhN
    have fN1 := hfN.le
    have fN2 : nN <= nM + 1500 := hfN.hi
    have fN3 := hfN.wlo
    have hxN : ∀ id, id < nx1 -> tN.get id = t1.get id := fun id q => (hfN.same id ow).trans (hxM id q)
    have bN := acc_bv aN
    have bM2 := bM.keep (t' := tN) (fun i q => hfN.same i (by have := aM.bnd i q; omega))
    refine d_call0 (wA_none rfl) rfl rfl rfl (by simp only [evs, ev_tmp, Tr.get_set, reduceIte, Nat.reduceEqDiff, Nat.reduceAdd, hea6, hea17, hea18, g2] <;> rfl) zd ?_
    refine ⟨_, _, _, _, ((tab_hit.trans (same_c (BV.rd bM2) hmB (BV.rd bN) hmB (by simp only [ok_same, Bool.and_eq_true, decide_eq_true_eq]; omega))).trans (by rw [decide_eq_true rfl])), ?_⟩
    refine ds (x_notT rfl zw) ?_
    refine dM ?_
    refine d_step (wA_on rfl rfl zw) rfl (x_move rfl za) zd ?_
    refine d_step (wA_on rfl rfl zw) rfl (x_move rfl za) zd ?_
    refine d_step (wA_on rfl rfl zw) rfl (x_move rfl za) zd ?_
    refine d_step (wA_on rfl rfl zw) rfl (x_index rfl za za Tryz.underlying51 T.s35 ow ow) zd ?_
    have hq17 := (hxN idL iL1).trans hhL
    refine d_step (wA_on rfl rfl zw) rfl (x_loadA rfl za T.g35 T.s35 (la (whole_row hq17 rfl) hLok i0 ha)) zd ?_
    refine d_callR (tab_missR zd (tab_missR zd (tab_missR zd (tab_missR zd (tab_missR zd (tab_missR zd (tab_missR zd (tab_hitR (enc_c (nx := nN) oka ow (Nat.le_refl _)))))))))) (wA_on rfl rfl zw) rfl rfl rfl (by simp only [evs, ev_tmp, Tr.get_set, reduceIte, Nat.reduceEqDiff, Nat.reduceAdd, hea6, hea17, hea18, g2] <;> rfl) zd (fun vR tR nR wR hRR => ?_)
    obtain ⟨u1R, u2R, u3R, hhR, hfR, SR, aR⟩ := hRR
    cases hhR
    have fR1 := hfR.le
    have fR2 : nR <= nN + 1600 := hfR.hi
    have fR3 := hfR.wlo
    have hxR : ∀ id, id < nx1 -> tR.get id = t1.get id := fun id q => (hfR.same id ow).trans (hxN id q)
    have bR := acc_bv aR
    have bC2 := bC.keep (t' := tR) (fun i q => (hfR.same i ow).trans ((hfN.same i ow).trans (hfM.same i ow)))
    refine d_call0 (wA_on rfl rfl zw) rfl rfl rfl (by simp only [evs, ev_tmp, Tr.get_set, reduceIte, Nat.reduceEqDiff, Nat.reduceAdd, hea6, hea17, hea18, g2] <;> rfl) zd ?_
    refine ⟨_, _, _, _, ((tab_hit.trans (same_c (BV.rd bC2) ln.b8 (BV.rd bR) ln.b8 (by simp only [ok_same, Bool.and_eq_true, decide_eq_true_eq]; omega))).trans (by rw [decide_eq_true rfl])), ?_⟩
    refine d_step (wA_on rfl rfl zw) rfl (x_notT rfl zw) zd ?_
    refine ds (x_pick rfl zw zb) ?_
    refine d_done ⟨de_ok (tail_my (B := nC) (Y := none) (M := [0, 0, 0, 0, 2, 0, 0, 0, 0, 2, 1, 0, 0, 0, 0, 0, 0, 0, 2, 1, 0, 0]) (fw := 0) (my_op (my_op (my_q (my_w (my_ldR (my_op (my_op (my_op (my_op (my_op (my_op (my_q (my_w (my_ldR (my_op (my_op (my_op (my_w (my_ldR (my_op (my_op (my_op my_nil ow) ow) ow) (show readId _ (Op.load 35 (.tmp 59)) = _ from by simp only [readId, ev_tmp, Tr.get_set, reduceIte, Nat.reduceEqDiff, Nat.reduceAdd, hea6, hea17, hea18, g2] <;> rfl) hq3 ow ow ow) ow (fun y q => by cases q)) ow) ow) ow) (show readId _ (Op.load 35 (.tmp 64)) = _ from by simp only [readId, ev_tmp, Tr.get_set, reduceIte, Nat.reduceEqDiff, Nat.reduceAdd, hea6, hea17, hea18, g2] <;> rfl) hq8 ow ow ow) ow (fun y q => by cases q)) ow) ow) ow) ow) ow) ow) ow) (show readId _ (Op.load 35 (.tmp 73)) = _ from by simp only [readId, ev_tmp, Tr.get_set, reduceIte, Nat.reduceEqDiff, Nat.reduceAdd, hea6, hea17, hea18, g2] <;> rfl) hq17 ow ow ow) ow (fun y q => by cases q)) ow) ow) ow) zd zr) (by try dsimp only; omega) (by try dsimp only; omega), ?_⟩
    refine se_seq ?_
    refine s_join (fun s' => ∃ e t3 nx3 wq3 nC vC, s' = ⟨e, 170, ⟨t3, nx3, wq3⟩⟩ /\ e.get 6 = some (s_r) /\ e.get 17 = some (.slice (some ⟨idL, 0, none⟩) 5 5) /\ e.get 18 = some (.int .i64 i) /\ e.get 19 = some (vC) /\ BV t3 (fun x => nx1 <= x /\ x < nC) vC (encB a) /\ nC <= nx3 /\ nx1 <= nC /\ nx2 <= nx3 /\ nx3 <= nx2 + 10000 /\ wq3 <= BIG /\ (∀ id, id < nx1 -> t3.get id = t1.get id)) ?_ ?_
    ·skip
     refine s_condF za ?_
     refine s_skip ?_
     refine se_loop ?_
     exact ⟨_, _, _, _, nC, vC, rfl, za, za, za, za, bC2, by omega, by omega, by omega, by omega, by (try dsimp only); omega, hxR⟩
    ·skip
     try clear bC2 bR hxR hfR fR1 fR2 fR3 aR hxN bN bM2 hfN fN1 fN2 fN3 aN hxM bM hfM fM1 fM2 fM3 aM hxC bC hfC fC1 fC2 fC3 aC hq3 hq8 hq17
     rintro _ ⟨e, t3, nx3, wq3, nC, vC, rfl, heb6, heb17, heb18, heb19, bC, nC1, nC2, n31, n32, w3, hx3⟩
     have hL3 := (hx3 idL iL1).trans hhL
     refine s_seq (s_seq ?_)
     refine s_join (fun s' => ∃ e q, s' = ⟨e, 170, ⟨t3, nx3, wq3⟩⟩ /\ e.get 6 = some (s_r) /\ e.get 17 = some (.slice (some ⟨idL, 0, none⟩) 5 5) /\ e.get 18 = some (.int .i64 i) /\ e.get 19 = some (vC) /\ e.get 105 = some (.bool q)) ?_ ?_
     ·skip
      refine s_region hP hC (oM ?_)
      refine oM ?_
      refine os (x_index rfl za za Tryz.underlying51 T.s35 ow ow) ?_
      refine os (x_field (off' := 0 + i.toNat * 46 + 45) rfl za u35 rfl T.s9 rfl) ?_
      refine os (x_load1 rfl za T.g9 (la_sg (whole_row hL3 rfl) hLok i0 ha)) ?_
      refine os (x_lenT rfl rfl (by simp only [evs, ev_tmp, Tr.get_set, reduceIte, Nat.reduceEqDiff, Nat.reduceAdd, heb6, heb17, heb18, heb19] <;> rfl) rfl u9) ?_
      refine os (x_bin rfl za (by rfl) b_leq) ?_
      refine oM ?_
      refine o_guard rfl rfl za (fun g4 => ?_) (fun g4 => ?_)
      ·have p4 := g4; try simp only [dd] at p4
       refine o_step (wA_on rfl rfl zw) rfl (x_move rfl za) zd ?_
       refine o_step (wA_on rfl rfl zw) rfl (x_move rfl za) zd ?_
       refine o_step (wA_on rfl rfl zw) rfl (x_index rfl za za Tryz.underlying51 T.s35 ow ow) zd ?_
       refine o_step (wA_on rfl rfl zw) rfl (x_field (off' := 0 + i.toNat * 46 + 2) rfl za u35 rfl T.s29 rfl) zd ?_
       refine o_step (wA_on rfl rfl zw) rfl (x_field (off' := 0 + i.toNat * 46 + 18) rfl za u29 rfl T.s9 rfl) zd ?_
       refine o_step (wA_on rfl rfl zw) rfl (x_load1 rfl za T.g9 (la_ts (whole_row hL3 rfl) hLok i0 ha)) zd ?_
       refine o_step (wA_on rfl rfl zw) rfl (x_lenT rfl rfl (by simp only [evs, ev_tmp, Tr.get_set, reduceIte, Nat.reduceEqDiff, Nat.reduceAdd, heb6, heb17, heb18, heb19, g4] <;> rfl) rfl u9) zd ?_
       refine o_step (wA_on rfl rfl zw) rfl (x_bin rfl za (by rfl) b_leq) zd ?_
       refine os (x_pick rfl zw zb) ?_
       refine oM ?_
       refine o_guard rfl rfl za (fun g6 => ?_) (fun g6 => ?_)
       ·have p6 := g6; try simp only [dd] at p6
        refine o_step (wA_on rfl rfl zw) rfl (x_move rfl za) zd ?_
        refine o_step (wA_on rfl rfl zw) rfl (x_move rfl za) zd ?_
        refine o_step (wA_on rfl rfl zw) rfl (x_index rfl za za Tryz.underlying51 T.s35 ow ow) zd ?_
        refine o_step (wA_on rfl rfl zw) rfl (x_field (off' := 0 + i.toNat * 46 + 23) rfl za u35 rfl T.s33 rfl) zd ?_
        refine o_step (wA_on rfl rfl zw) rfl (x_field (off' := 0 + i.toNat * 46 + 24) rfl za u33 rfl T.s9 rfl) zd ?_
        refine o_step (wA_on rfl rfl zw) rfl (x_load1 rfl za T.g9 (la_wh (whole_row hL3 rfl) hLok i0 ha)) zd ?_
        refine o_step (wA_on rfl rfl zw) rfl (x_lenT rfl rfl (by simp only [evs, ev_tmp, Tr.get_set, reduceIte, Nat.reduceEqDiff, Nat.reduceAdd, heb6, heb17, heb18, heb19, g4, g6] <;> rfl) rfl u9) zd ?_
        refine o_step (wA_on rfl rfl zw) rfl (x_bin rfl za (by rfl) b_leq) zd ?_
        refine os (x_pick rfl zw zb) ?_
        refine o_done ?_
        refine se_loop ?_
        exact ⟨_, _, rfl, za, za, za, za, za⟩
       ·have p6 := g6; try simp only [dd] at p6
        refine oS ?_
        refine oS ?_
        refine oS ?_
        refine oS ?_
        refine oS ?_
        refine oS ?_
        refine oS ?_
        refine oS ?_
        refine os (x_pick rfl zw zb) ?_
        refine o_done ?_
        refine se_loop ?_
        exact ⟨_, _, rfl, za, za, za, za, za⟩
      ·have p4 := g4; try simp only [dd] at p4
       refine oS ?_
       refine oS ?_
       refine oS ?_
       refine oS ?_
       refine oS ?_
       refine oS ?_
       refine oS ?_
       refine oS ?_
       refine os (x_pick rfl zw zb) ?_
       refine oM ?_
       refine oS ?_
       refine oS ?_
       refine oS ?_
       refine oS ?_
       refine oS ?_
       refine oS ?_
       refine oS ?_
       refine oS ?_
       refine os (x_pick rfl zw zb) ?_
       refine o_done ?_
       refine se_loop ?_
       exact ⟨_, _, rfl, za, za, za, za, za⟩
     ·skip
      rintro _ ⟨e, q105, rfl, hec6, hec17, hec18, hec19, hec105⟩
      refine s_join (fun s' => ∃ e t4 nx4 wq4, s' = ⟨e, 170, ⟨t4, nx4, wq4⟩⟩ /\ e.get 6 = some (s_r) /\ e.get 17 = some (.slice (some ⟨idL, 0, none⟩) 5 5) /\ e.get 18 = some (.int .i64 i) /\ e.get 19 = some (vC) /\ nx3 <= nx4 /\ nx4 <= nx3 + 300000000 /\ wq4 <= BIG /\ (∀ id, id < nx3 -> t4.get id = t3.get id)) ?_ ?_
      ·skip
       refine s_cond za (fun g8 => ?_) (fun g8 => ?_)
       ·have p8 := g8; try simp only [dd] at p8
        refine s_seq (s_region hP hC ?_)
        refine os (y_bslice0 rfl u23 T.s5 T.z5 zd rfl rfl) ?_
        refine oM ?_
        refine o_app0 (id := nx3) (M := encB a) (by rw [gp rfl]) (cells_bv (bC.keep (t' := t3.set nx3 (.row [] nx3 BIG false 0)) (fun i q => by rw [gn ow])) u23 T.s5) (wA_none rfl) rfl rfl rfl ze rfl rfl zr u23 T.i23 zd ow ow ow (fun vP tp hvP gP aP hps => ?_)
        subst hvP
        have hp3 : ∀ i, i < nx3 -> tp.get i = t3.get i := fun i q => (hps i ow).trans (by rw [gn ow])
        refine oM ?_
        refine o_appB aP (cells_bv (bv_sl (K := fun i => i = 0) hsr rfl ((hp3 0 ow).trans ((hx3 0 ow).trans hh0))) u23 T.s5) (wA_none rfl) rfl rfl rfl ze rfl rfl zr u23 T.i23 zd ow (fun x q => rfl) ow ow (fun vQ tQ nQ wQ SQ hQ => ?_)
        have fQ1 := hQ.le
        have fQ2 := hQ.hi
        have fQ3 := hQ.whi
        have aQ := hQ.acc
        have hQ3 : ∀ i, i < nx3 -> tQ.get i = t3.get i := fun i q => (hQ.same i (fun z => by have := aP.bnd i z; omega) ow).trans (hp3 i q)
        have hQl : (encB a ++ rest).length = (encB a).length + rest.length := List.length_append
        have bQ := acc_bv aQ
        refine o_callR (tab_missR zd (tab_missR zd (tab_missR zd (tab_missR zd (tab_missR zd (tab_missR zd (tab_missR zd (tab_missR zd (tab_hitR (dec_c (nx := nQ) (l := encB a ++ rest) bQ (fun x q => (aQ.bnd x q).2) (byt_app ln.b8 hr) ow ow ow)))))))))) (wA_none rfl) rfl rfl rfl ze zd (fun v5 q5 hR5 => ?_)
        obtain ⟨tD, nD, wD, rfl, hfD, hv5⟩ := hR5
        obtain rfl := hv5.trans (decV_enc oka rest)
        have fD1 := hfD.le
        have fD2 := hfD.hi
        have fD3 := hfD.whi
        have hD3 : ∀ i, i < nx3 -> tD.get i = t3.get i := fun i q => (hfD.same i ow).trans (hQ3 i q)
        refine oM ?_
        refine os (x_extract rfl za rfl) ?_
        refine os (x_extract rfl za rfl) ?_
        refine os (x_extract rfl za rfl) ?_
        refine os (y_alloc rfl T.z35 rfl rfl) ?_
        refine o_stepN (wA_none rfl) rfl (y_storeA rfl za za T.s35 CLa (by (repeat (first | rw [gn ow] | rw [hx3 _ ow] | rw [hD3 _ ow])) <;> first | rfl | assumption | (rw [gp ow]; done) | (rw [gp ow]; rfl)) rfl rfl (cf_oneC (Ans.C_cf oka))) ?_
        refine oA ?_
        refine oA ?_
        refine o_done (se_seq (s_seq ?_))
        refine s_draw hP hC zr ?_
        refine dM ?_
        refine ds (x_bin (u := .bool false) rfl za (by rfl) (by rw [b_neq, decide_eq_true rfl]; rfl)) ?_
        refine dM ?_
        refine d_step (wA_on rfl rfl zw) rfl (x_move rfl za) zd ?_
        refine d_step (wA_on rfl rfl zw) rfl (x_move rfl za) zd ?_
        refine d_step (wA_on rfl rfl zw) rfl (x_lenB bC rfl rfl ze rfl u23) zd ?_
        refine d_step (wA_on rfl rfl zw) rfl (x_bin (u := .bool false) rfl za za (by rw [b_neq, decide_eq_true rfl]; rfl)) zd ?_
        refine ds (x_pick rfl zw zb) ?_
        refine dM ?_
        refine d_step (wA_on rfl rfl zw) rfl (x_loadA rfl za T.g35 T.s35 (l_all (whole_row (d := a.C) (show Tr.get _ nD = _ from by rw [gp rfl]) rfl) CLa.symm)) zd ?_
        refine d_step (wA_on rfl rfl zw) rfl (x_move rfl za) zd ?_
        refine d_step (wA_on rfl rfl zw) rfl (x_move rfl za) zd ?_
        refine d_step (wA_on rfl rfl zw) rfl (x_index rfl za za Tryz.underlying51 T.s35 ow ow) zd ?_
        refine d_step (wA_on rfl rfl zw) rfl (x_loadA rfl za T.g35 T.s35 (la (whole_row (by (repeat (first | rw [gn ow] | rw [hx3 _ ow] | rw [hD3 _ ow])) <;> first | rfl | assumption | (rw [gp ow]; done) | (rw [gp ow]; rfl)) rfl) hLok i0 ha)) zd ?_
        refine d_step (wA_on rfl rfl zw) rfl (x_bin (u := .bool false) rfl za za (by rw [b_neqA (d := 20) zd T.f35 T.g35 T.q35 (Ans.C_cf oka) (Ans.C_cf oka), (eqCs_iff (Ans.C_cf oka)).2 rfl]; rfl)) zd ?_
        refine ds (x_pick rfl zw zb) ?_
        refine d_done ⟨de_ok (tail_my (B := 0) (Y := none) (M := [1, 1, 1, 1, 1, 1, 1, 1, 1, 1, 1, 1, 1, 1, 1, 1]) (fw := 0) (my_q (my_q (my_q (my_q (my_q (my_q (my_q (my_q (my_q (my_q (my_q (my_q (my_q (my_q (my_q (my_q my_nil ow) ow) ow) ow) ow) ow) ow) ow) ow) ow) ow) ow) ow) ow) ow) ow) zd zr) (by try dsimp only; omega) (by try dsimp only; omega), ?_⟩
        refine se_seq ?_
        refine s_condF za ?_
        refine s_skip ?_
        refine se_loop ?_
        exact ⟨_, _, _, _, rfl, za, za, za, za, by omega, by omega, by (try dsimp only); omega, fun id q => by (repeat rw [gn ow]); exact hD3 id q⟩
       ·have p8 := g8; try simp only [dd] at p8
        refine s_skip ?_
        refine se_loop ?_
        exact ⟨_, _, _, _, rfl, za, za, za, za, by omega, by omega, by (try dsimp only); omega, fun _ _ => rfl⟩
      ·skip
       rintro _ ⟨e, t4, nx4, wq4, rfl, hed6, hed17, hed18, hed19, n41, n42, w4, hx43⟩
       have hx4 : ∀ id, id < nx1 -> t4.get id = t1.get id := fun id q => (hx43 id ow).trans (hx3 id q)
       have bC4 := bC.keep (t' := t4) (fun i q => hx43 i ow)
       refine s_seq (s_region hP hC (oA ?_))
       refine o_done (se_seq (s_block ?_))
       refine s_loop (α := Int) (fun j s' => ∃ e t5 nx5 wq5, s' = ⟨e, 170, ⟨t5, nx5, wq5⟩⟩ /\ e.get 6 = some (s_r) /\ e.get 17 = some (.slice (some ⟨idL, 0, none⟩) 5 5) /\ e.get 18 = some (.int .i64 i) /\ e.get 19 = some (vC) /\ e.get 23 = some (.int .i64 j) /\ 0 <= j /\ j <= 5 /\ nx4 <= nx5 /\ nx5 <= nx4 + 4000 * j.toNat /\ wq5 <= BIG /\ (∀ id, id < nx4 -> t5.get id = t4.get id)) (fun j => (5 - j).toNat) 0 ⟨_, _, _, _, rfl, za, za, za, za, za, by omega, by omega, by omega, by omega, w4, fun _ _ => rfl⟩ ?_
       rintro j s' ⟨e, t5, nx5, wq5, rfl, hef6, hef17, hef18, hef19, hef23, j0, j1, n51, n52, w5, hx54⟩
       have hx5 : ∀ id, id < nx1 -> t5.get id = t1.get id := fun id q => (hx54 id ow).trans (hx4 id q)
       have hL5 := (hx5 idL iL1).trans hhL
       refine s_seq (s_seq (s_region hP hC (oM ?_)))
       refine oM ?_
       refine os (x_len rfl rfl ze rfl Tryz.underlying51) ?_
       refine os (x_bin rfl za za b_lss) ?_
       refine o_done (se_seq ?_)
       refine s_cond za (fun g10 => ?_) (fun g10 => ?_)
       ·have p10 := g10; try simp only [dd] at p10
        refine s_skip (se_seq (s_seq (s_block (s_seq ?_))))
        refine s_draw hP hC zr ?_
        refine dM ?_
        refine dM ?_
        refine ds (x_index rfl za za Tryz.underlying51 T.s35 ow ow) ?_
        refine ds (x_loadA rfl za T.g35 T.s35 (la (whole_row hL5 rfl) hLok i0 ha)) ?_
        refine dM ?_
        refine dM ?_
        obtain ⟨b, hb⟩ : ∃ b, Ls[j.toNat]? = some b := ⟨_, List.getElem?_eq_getElem ow⟩
        have okb := hLok b (List.mem_of_getElem? hb)
        have CLb := Ans.C_len okb
        have lnb := Ans.lens okb
        have b1 := lnb.l1; have b2 := lnb.l2; have b3 := lnb.l3; have b4 := lnb.l4; have b5 := lnb.l5; have b6 := lnb.l6; have b7 := lnb.l7; have b8 := lnb.l8
        refine ds (x_index rfl za za Tryz.underlying51 T.s35 ow ow) ?_
        refine ds (x_loadA rfl za T.g35 T.s35 (la (whole_row hL5 rfl) hLok j0 hb)) ?_
        refine ds (x_bin rfl za za (b_eqlA (d := 20) zd T.f35 T.g35 T.q35 (Ans.C_cf oka) (Ans.C_cf okb))) ?_
        refine ds (x_assign rfl za) ?_
        refine d_done ⟨de_ok (tail_my (B := 0) (Y := none) (M := [1, 1, 1, 1, 1, 1, 1, 1, 1, 1]) (fw := 0) (my_q (my_q (my_q (my_q (my_q (my_q (my_q (my_q (my_q (my_q my_nil ow) ow) ow) ow) ow) ow) ow) ow) ow) ow) zd zr) (by try dsimp only; omega) (by try dsimp only; omega), ?_⟩
        refine se_seq (s_seq ?_)
        refine s_draw hP hC zr ?_
        refine dM ?_
        refine dM ?_
        refine ds (x_index rfl za za Tryz.underlying51 T.s35 ow ow) ?_
        refine ds (x_loadA rfl za T.g35 T.s35 (la (whole_row hL5 rfl) hLok i0 ha)) ?_
        refine dM ?_
        refine dM ?_
        refine ds (x_index rfl za za Tryz.underlying51 T.s35 ow ow) ?_
        refine ds (x_loadA rfl za T.g35 T.s35 (la (whole_row hL5 rfl) hLok j0 hb)) ?_
        refine d_callR (tab_missR zd (tab_missR zd (tab_missR zd (tab_missR zd (tab_hitR (psame_c (nx := nx5) oka okb ow (Nat.le_refl _))))))) (wA_none rfl) rfl rfl rfl (by simp only [evs, ev_tmp, Tr.get_set, reduceIte, Nat.reduceEqDiff, Nat.reduceAdd, hef6, hef17, hef18, hef19, hef23, g10] <;> rfl) zd (fun vS tS nS wS hRS => ?_)
        obtain ⟨u1S, u2S, u3S, hhS, hfS, hvS⟩ := hRS
        cases hhS
        subst hvS
        have fS1 := hfS.le
        have fS2 := hfS.hi
        have fS3 := hfS.wlo
        have hxS : ∀ id, id < nx1 -> tS.get id = t1.get id := fun id q => (hfS.same id ow).trans (hx5 id q)
        refine dM ?_
        refine ds (x_bin (u := .bool false) rfl za za b_neqBB) ?_
        refine dM ?_
        refine d_step (wA_on rfl rfl zw) rfl (x_move rfl za) zd ?_
        refine d_step (wA_on rfl rfl zw) rfl (x_move rfl za) zd ?_
        refine d_step (wA_on rfl rfl zw) rfl (x_move rfl za) zd ?_
        refine d_step (wA_on rfl rfl zw) rfl (x_index rfl za za Tryz.underlying51 T.s35 ow ow) zd ?_
        have hr16 := (hxS idL iL1).trans hhL
        refine d_step (wA_on rfl rfl zw) rfl (x_loadA rfl za T.g35 T.s35 (la (whole_row hr16 rfl) hLok j0 hb)) zd ?_
        refine d_callR (tab_missR zd (tab_hitR (penc_c (nx := nS) okb ow (Nat.le_refl _)))) (wA_on rfl rfl zw) rfl rfl rfl (by simp only [evs, ev_tmp, Tr.get_set, reduceIte, Nat.reduceEqDiff, Nat.reduceAdd, hef6, hef17, hef18, hef19, hef23, g10] <;> rfl) zd (fun vZ tZ nZ wZ hRZ => ?_)
        obtain ⟨u1Z, u2Z, u3Z, hhZ, hfZ, SZ, aZ⟩ := hRZ
        cases hhZ
        have fZ1 := hfZ.le
        have fZ2 : nZ <= nS + 3300 := hfZ.hi
        have fZ3 := hfZ.wlo
        have hxZ : ∀ id, id < nx1 -> tZ.get id = t1.get id := fun id q => (hfZ.same id ow).trans (hxS id q)
        have bZ := acc_bv aZ
        have hZ4 : ∀ id, id < nx4 -> tZ.get id = t4.get id := fun id q => (hfZ.same id ow).trans ((hfS.same id ow).trans (hx54 id q))
        have bC5 := bC4.keep (t' := tZ) (fun i q => hZ4 i ow)
        refine d_call0 (wA_on rfl rfl zw) rfl rfl rfl (by simp only [evs, ev_tmp, Tr.get_set, reduceIte, Nat.reduceEqDiff, Nat.reduceAdd, hef6, hef17, hef18, hef19, hef23, g10] <;> rfl) zd ?_
        refine ⟨_, _, _, _, ((tab_hit.trans (same_c (BV.rd bC5) ln.b8 (BV.rd bZ) lnb.b8 (by simp only [ok_same, Bool.and_eq_true, decide_eq_true_eq]; omega))).trans (by rw [same_eq oka okb])), ?_⟩
        refine d_step (wA_on rfl rfl zw) rfl (x_move rfl za) zd ?_
        refine d_step (wA_on rfl rfl zw) rfl (x_bin (u := .bool false) rfl za za b_neqBB) zd ?_
        refine ds (x_pick rfl zw zb) ?_
        refine d_done ⟨de_ok (tail_my (B := nx5) (Y := none) (M := [0, 0, 0, 0, 0, 0, 0, 0, 2, 0, 1, 1, 0, 0, 0, 0, 0, 2, 1, 0, 1, 1]) (fw := 0) (my_q (my_q (my_op (my_q (my_w (my_ldR (my_op (my_op (my_op (my_op (my_q (my_q (my_op (my_w (my_ldR (my_op (my_op (my_op (my_ldR (my_op (my_op (my_op my_nil ow) ow) ow) (show readId _ (Op.load 35 (.tmp 149)) = _ from by simp only [readId, ev_tmp, Tr.get_set, reduceIte, Nat.reduceEqDiff, Nat.reduceAdd, hef6, hef17, hef18, hef19, hef23, g10] <;> rfl) hL5 ow ow ow) ow) ow) ow) (show readId _ (Op.load 35 (.tmp 153)) = _ from by simp only [readId, ev_tmp, Tr.get_set, reduceIte, Nat.reduceEqDiff, Nat.reduceAdd, hef6, hef17, hef18, hef19, hef23, g10] <;> rfl) hL5 ow ow ow) ow (fun y q => by cases q)) ow) ow) ow) ow) ow) ow) ow) (show readId _ (Op.load 35 (.tmp 162)) = _ from by simp only [readId, ev_tmp, Tr.get_set, reduceIte, Nat.reduceEqDiff, Nat.reduceAdd, hef6, hef17, hef18, hef19, hef23, g10] <;> rfl) hr16 ow ow ow) ow (fun y q => by cases q)) ow) ow) ow) ow) zd zr) (by try dsimp only; omega) (by try dsimp only; omega), ?_⟩
        refine se_seq ?_
        refine s_condF za ?_
        refine s_skip (se_block (se_seq (s_region hP hC (oM ?_))))
        refine os (x_bin rfl za (by rfl) b_add) ?_
        refine oA ?_
        refine o_done ?_
        refine se_loop ?_
        have hw1 : IntKind.i64.wrap (j + 1) = j + 1 := wr1 ow ow
        have e1 : (j + 1).toNat = j.toNat + 1 := by omega
        refine ⟨j + 1, ⟨_, _, _, _, rfl, za, za, za, za, (by simp only [Tr.get_set, reduceIte, Nat.reduceEqDiff, Nat.reduceAdd, hw1, hef6, hef17, hef18, hef19, hef23, g10] <;> rfl), by omega, by omega, by omega, by rw [e1]; omega, by (try dsimp only); omega, fun id hid => hZ4 id hid⟩, by omega⟩
       ·have p10 := g10; try simp only [dd] at p10
        refine s_exit ?_
        refine se_seq_exit ?_
        refine se_loop_exit ?_
        refine se_block_eq (se_block (se_seq (s_region hP hC (oM ?_))))
        refine os (x_bin rfl za (by rfl) b_add) ?_
        refine oA ?_
        refine o_done ?_
        refine se_loop ?_
        have hw1 : IntKind.i64.wrap (i + 1) = i + 1 := wr1 ow ow
        have e1 : (i + 1).toNat = i.toNat + 1 := by omega
        refine ⟨i + 1, ⟨_, _, _, _, rfl, za, za, (by simp only [Tr.get_set, reduceIte, Nat.reduceEqDiff, Nat.reduceAdd, hw1, hef6, hef17, hef18, hef19, hef23, g10] <;> rfl), by omega, by omega, by omega, by rw [e1]; omega, by (try dsimp only); omega, fun id hid => by (repeat (first | rw [gn ow] | rw [hx5 _ ow])) <;> first | rfl | assumption | (rw [gp ow]; done) | (rw [gp ow]; rfl)⟩, by omega⟩
   ·have p2 := g2; try simp only [dd] at p2
    refine s_exit ?_
    refine se_seq_exit ?_
    refine se_loop_exit ?_
    refine se_block_eq (se_seq (s_seq (s_region hP hC ?_)))
    refine o_call0 (wA_none rfl) rfl rfl rfl (by simp only [evs, ev_tmp, Tr.get_set, reduceIte, Nat.reduceEqDiff, Nat.reduceAdd, hea6, hea17, hea18, g2] <;> rfl) zd ?_
    refine ⟨_, _, ((tab_miss zd).trans ((tab_miss zd).trans ((tab_miss zd).trans ((tab_miss zd).trans ((tab_miss zd).trans ((tab_miss zd).trans ((tab_miss zd).trans ((tab_miss zd).trans ((tab_miss zd).trans ((tab_miss zd).trans (tab_hit.trans lives_c))))))))))), ?_⟩
    refine oA ?_
    refine o_done (se_seq ?_)
    refine s_ret ?_
    refine ⟨.inr rfl, _, (by simp only [Tryz.results4, resA, Tr.get_set, reduceIte, Nat.reduceEqDiff, Nat.reduceAdd, hea6, hea17, hea18, g2] <;> rfl), rfl⟩
end Go.Proofs.YtfgmplbclpadbaaGreatDoor
