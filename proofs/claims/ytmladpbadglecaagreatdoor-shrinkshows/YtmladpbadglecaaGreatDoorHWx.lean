/-
  The law ShrinkShows: her walk.
-/
import Derived.Test.YtmladpbadglecaaGreatDoorHWw
import Derived.Test.YtmladpbadglecaaGreatDoorHE13
set_option linter.unusedSimpArgs false
set_option linter.unusedVariables false
namespace Go.Proofs.YtmladpbadglecaaGreatDoor
open Go.AM
set_option maxRecDepth 100000
set_option maxHeartbeats 1000000
open Go.Sort
set_option maxHeartbeats 32000000
noncomputable def c_lives : List Value -> AH -> Option (Value × AH) := entC [e229]
theorem con_lives : Con Tryz.prog 14 c_lives := con_ents Tryz.func14 rfl (ents_cons ok229 ents_nil)
theorem lives_c {H : AH} : ∃ v h', c_lives [] H = some (v, h') /\ v = .bool true /\ h' = H := ⟨_, _, rfl, rfl, rfl⟩
theorem x_notT {P : Program} {call : Call'} {e : Tr Value} {h : AH} {o : Oper} {T : TypeId} {x : Operand} (ho : o.op = .unOp .not T x) (hx : ev e x = some (.bool true)) : doOp P call e h o = some (.bool false, h) := x_not ho hx
theorem b_neqBB {xo yo : Operand} {b : Bool} : binV Tryz.prog .neq 4 xo yo (.bool b) (.bool b) = some (.bool false) := by
 unfold binV
 rw [show free1 (.bool b) = true from rfl]
 simp only [Bool.and_self, if_true]
 have eg : quick Tryz.prog (eqGuard .neq 4 xo yo (.bool b) (.bool b)) = some () := rfl
 rw [q_bind eg]
 have h := eq_flat 1 4 [.bool] (by unfold flatTy; rw [Tryz.underlying4]) 9999 [.bool b] [.bool b] (.bool b) (.bool b) rfl rfl (by unfold packV; rw [T.g4]) (by unfold packV; rw [T.g4])
 have h : quick Tryz.prog (Op.equal 4 (.bool b) (.bool b)) = some (eqCs [.bool b] [.bool b]) := h
 have e : quick Tryz.prog (binOp .neq 4 (.bool b) (.bool b)) = quick Tryz.prog (do pure (Value.bool (!(← Op.equal 4 (.bool b) (.bool b))))) := rfl
 rw [e, q_bind h]
 cases b <;> rfl
theorem meets_start {P : Program} {f : FuncId} {fn : Func} {c : Code} {args : List Value} {h : AH} {R : Value -> AH -> Prop} {sz : Nat} {e : Tr Value} (hfn : P.funcs[f]? = some fn) (hb : fn.body = some c) (hz : max args.length fn.ntmps = sz) (he : Tr.ofList args 0 .leaf = e)
  (k : SureK P h c [] ⟨e, sz, h⟩ (EndR P fn R)) : ∃ v h', Meets P (.func f) args h v h' /\ R v h' := by
 subst hz; subst he
 exact meets_sure hfn hb k
theorem law3_s {t : Tr AObj} {n oc site a c : Int} {b wh : ByteArray} {rest : List Value} {s_w : Value} {word : List Int} (hn : inR n) (hrl : rest.length = 19) (hsw : Sl 0 1 word.length s_w) (hel : ∀ x ∈ word, inR x) (hwl : word.length < 4611686018427387904) (h0 : t.get 0 = some (.row (ints word) 0 BIG true (ints word).length)) : ∃ v h', Meets Tryz.prog (.func 3) [s_w, .int .i64 n, .agg ⟨(.int .i64 a :: .string b :: .int .i64 c :: rest)⟩, .int .i64 oc, .string wh, .int .i64 site] ⟨t, 1, BIG⟩ v h' /\ v = .bool true := by
 have hP := Fits
 have hC : CallSound Tryz.prog (tabOf [(4, c_take), (5, c_any), (7, c_wtd), (6, c_shp), (8, c_shr), (9, c_sm), (11, c_rsm), (10, c_sw), (12, c_less), (13, c_trim), (14, c_lives)]) := tab_sound (tab_cons con_take (tab_cons con_any (tab_cons con_wtd (tab_cons con_shp (tab_cons con_shr (tab_cons con_sm (tab_cons con_rsm (tab_cons con_sw (tab_cons con_less (tab_cons con_trim (tab_cons con_lives tab_end)))))))))))
 have hBIG : (1000000000000 : Nat) < BIG := by unfold BIG; omega
 have hRL : (.int .i64 a :: .string b :: .int .i64 c :: rest).length = 22 := by rw [List.length_cons, List.length_cons, List.length_cons, hrl]
 suffices key : SureK Tryz.prog ⟨t, 1, BIG⟩ _ [] _ (EndR Tryz.prog _ (fun v h' => v = .bool true)) by
  exact meets_start (sz := 118) Tryz.func3 rfl rfl zo key
 refine s_seq (s_region hP hC ?_)
 refine os (y_boxA rfl zt) ?_
 refine oA ?_
 refine o_done (se_seq (s_seq (s_region hP hC (oM ?_))))
 have iv0 : IV (t.set 1 (.row (.int .i64 a :: .string b :: .int .i64 c :: rest) 1 BIG false (.int .i64 a :: .string b :: .int .i64 c :: rest).length)) (fun i => i = 0) s_w word := iv_sl hsw rfl (by rw [Tr.get_set, if_neg zd]; exact h0)
 refine o_callR (tab_hitR (take_c (nx := 2) iv0 (fun i q => by omega) hwl ow (Nat.le_refl _))) (wA_none rfl) rfl rfl rfl zv zd (fun v1 h1 hR1 => ?_)
 obtain ⟨t1, n1, w1, rfl, hF1, hI1⟩ := hR1
 have la1 := hF1.le
 have lb1 := hF1.hi
 have lc1 := hF1.wlo
 have ld1 := hF1.whi
 obtain ⟨wd, hwd⟩ : ∃ y, y = word.take 12 := ⟨_, rfl⟩
 rw [<-hwd] at hI1
 have hwdl : wd.length <= 12 := by rw [hwd, List.length_take]; omega
 have hwde : ∀ x ∈ wd, inR x := by rw [hwd]; exact fun x hx => hel x (List.mem_of_mem_take hx)
 have hr1 : t1.get 1 = some (.row (.int .i64 a :: .string b :: .int .i64 c :: rest) 1 BIG false (.int .i64 a :: .string b :: .int .i64 c :: rest).length) := (hF1.same 1 ow).trans (by rw [gp rfl])
 refine oA ?_
 refine o_done (se_seq (s_seq ?_))
 refine s_join (fun s' => ∃ e tA nxA wqA nW C, s' = ⟨e, 118, ⟨tA, nxA, wqA⟩⟩ /\ e.get 8 = some (.pointer (some ⟨1, 0, none⟩)) /\ e.get 13 = some (v1) /\ e.get 14 = some (.slice (some ⟨nW, 0, none⟩) 5 5) /\ tA.get 1 = some (.row (.int .i64 a :: .string b :: .int .i64 c :: rest) 1 BIG false (.int .i64 a :: .string b :: .int .i64 c :: rest).length) /\ tA.get nW = some (.row C nW BIG false 15) /\ C.length = 15 /\ (∀ i : Int, 0 <= i -> i < 5 -> ∃ (o s : Int) (w : ByteArray), (C.drop (i.toNat * 3)).take 3 = [.int .i64 o, .string w, .int .i64 s]) /\ 1 < nW /\ nW < nxA /\ IV tA (fun i => 1 < i /\ i < nxA) v1 wd /\ nxA <= 100 /\ wqA <= BIG) ?_ ?_
 ·skip
  have hqB : n1 <= BIG := by omega
  refine s_draw hP hC zr ?_
  refine dM ?_
  refine d_callR (tab_missR zd (tab_hitR (any_c (nx := n1) hn ow (Nat.le_refl _)))) (wA_none rfl) rfl rfl rfl zv zd (fun v2 t2 n2 w2 hR2 => ?_)
  obtain ⟨tq2, nq2, wq2, x2, y2, z2, he2, hF2, rfl⟩ := hR2
  cases he2
  have la2 := hF2.le
  have lb2 := hF2.hi
  have lc2 := hF2.wlo
  have ld2 := hF2.whi
  have hr2 : t2.get 1 = some (.row (.int .i64 a :: .string b :: .int .i64 c :: rest) 1 BIG false (.int .i64 a :: .string b :: .int .i64 c :: rest).length) := (hF2.same 1 ow).trans hr1
  have hI2 := hI1.keep (t' := t2) (fun i q => hF2.same i q.2)
  have hq2 : decide (n1 <= w2) = true := decide_eq_true ow
  have qB2 : n1 <= BIG := by omega
  have qC2 : n2 <= BIG := by omega
  refine dM ?_
  refine dM ?_
  refine dM ?_
  refine ds (x_build (v := .agg ⟨[.int .i64 oc, .string wh, .int .i64 site]⟩) rfl zp T.z31 rfl zr) ?_
  refine ds (x_field (off' := 0) rfl zt u28 rfl T.s3 rfl) ?_
  refine ds (x_load1 rfl zt T.g3 (l_whole (d := (.int .i64 a :: .string b :: .int .i64 c :: rest)) (whole_row hr2 rfl) 0 1 (by rw [hRL]; decide))) ?_
  refine ds (x_field (off' := 1) rfl zt u28 rfl T.s9 rfl) ?_
  refine ds (x_load1 rfl zt T.g9 (l_whole (d := (.int .i64 a :: .string b :: .int .i64 c :: rest)) (whole_row hr2 rfl) 1 1 (by rw [hRL]; decide))) ?_
  refine ds (x_field (off' := 2) rfl zt u28 rfl T.s3 rfl) ?_
  refine ds (x_load1 rfl zt T.g3 (l_whole (d := (.int .i64 a :: .string b :: .int .i64 c :: rest)) (whole_row hr2 rfl) 2 1 (by rw [hRL]; decide))) ?_
  refine ds (x_build (v := .agg ⟨[.int .i64 a, .string b, .int .i64 c]⟩) rfl zp T.z31 rfl zr) ?_
  refine ds (x_field (off' := 0) rfl zt u28 rfl T.s3 rfl) ?_
  refine ds (x_load1 rfl zt T.g3 (l_whole (d := (.int .i64 a :: .string b :: .int .i64 c :: rest)) (whole_row hr2 rfl) 0 1 (by rw [hRL]; decide))) ?_
  refine ds (x_build (v := .agg ⟨[.int .i64 a, .string .empty, .int .i64 0]⟩) rfl zp T.z31 rfl zr) ?_
  refine ds (x_field (off' := 0) rfl zt u28 rfl T.s3 rfl) ?_
  refine ds (x_load1 rfl zt T.g3 (l_whole (d := (.int .i64 a :: .string b :: .int .i64 c :: rest)) (whole_row hr2 rfl) 0 1 (by rw [hRL]; decide))) ?_
  refine ds (x_field (off' := 1) rfl zt u28 rfl T.s9 rfl) ?_
  refine ds (x_load1 rfl zt T.g9 (l_whole (d := (.int .i64 a :: .string b :: .int .i64 c :: rest)) (whole_row hr2 rfl) 1 1 (by rw [hRL]; decide))) ?_
  refine ds (x_field (off' := 2) rfl zt u28 rfl T.s3 rfl) ?_
  refine ds (x_load1 rfl zt T.g3 (l_whole (d := (.int .i64 a :: .string b :: .int .i64 c :: rest)) (whole_row hr2 rfl) 2 1 (by rw [hRL]; decide))) ?_
  refine ds (x_bin (u := .int .i64 (IntKind.i64.wrap (c + 1))) rfl zt (by rfl) b_add) ?_
  refine ds (x_build (v := .agg ⟨[.int .i64 a, .string b, .int .i64 (IntKind.i64.wrap (c + 1))]⟩) rfl zp T.z31 rfl zr) ?_
  refine ds (y_bsliceN (cs := [.int .i64 x2, .string z2, .int .i64 y2, .int .i64 oc, .string wh, .int .i64 site, .int .i64 a, .string b, .int .i64 c, .int .i64 a, .string .empty, .int .i64 0, .int .i64 a, .string b, .int .i64 (IntKind.i64.wrap (c + 1))]) rfl zp Tryz.underlying33 T.s31 T.z31 zd zd rfl rfl zr) ?_
  have hq9 : n2 + 1 <= BIG := by omega
  refine ds (x_assign rfl zt) ?_
  refine d_done ⟨de_quiet (by simp only [List.all_append, List.all_cons, List.all_nil, infOf, decide_eq_true hqB, Bool.and_self, show Inf.skip.quiet = true from rfl, hq2, decide_eq_true qB2, decide_eq_true qC2, decide_eq_true hq9]) zBG (by show w1 <= BIG; omega), ?_⟩
  refine se_loop ?_
  exact ⟨_, _, _, _, n2, [.int .i64 x2, .string z2, .int .i64 y2, .int .i64 oc, .string wh, .int .i64 site, .int .i64 a, .string b, .int .i64 c, .int .i64 a, .string .empty, .int .i64 0, .int .i64 a, .string b, .int .i64 (IntKind.i64.wrap (c + 1))], rfl, hg, hg, hg, by rw [gn ow]; exact hr2, by rw [gp rfl]; rfl, rfl, fun i i0 i1 => by
   rcases (show i = 0 \/ i = 1 \/ i = 2 \/ i = 3 \/ i = 4 by omega) with rfl | rfl | rfl | rfl | rfl <;> exact ⟨_, _, _, rfl⟩, by omega, Nat.lt_succ_self _, (hI2.keep (fun i q => by rw [gn ow])).mono (fun i q => by omega), by omega, zwh⟩
 ·skip
  clear hr1 hI1 hF1 la1 lb1 lc1 ld1 h0 hsw iv0 hwd
  rintro s' ⟨e, tA, nxA, wqA, nW, C, rfl, heA8, heA13, heA14, hrA, hwA, hCl, hWf, nW0, nW1, hIA, nA, wA⟩
  refine s_seq (s_seq (s_region hP hC (oA ?_)))
  refine o_done (se_seq (s_block ?_))
  refine s_loop (α := Int) (fun i s' => ∃ e tB nxB wqB, s' = ⟨e, 118, ⟨tB, nxB, wqB⟩⟩ /\ e.get 8 = some (.pointer (some ⟨1, 0, none⟩)) /\ e.get 13 = some (v1) /\ e.get 14 = some (.slice (some ⟨nW, 0, none⟩) 5 5) /\ e.get 15 = some (.int .i64 (i)) /\ 0 <= i /\ i <= 5 /\ Fr tA nxA wqA tB nxB wqB (20 * i.toNat)) (fun i => (6 - i).toNat) 0 ⟨_, _, _, _, rfl, za, za, za, za, by omega, by omega, Fr.refl⟩ ?_
  rintro i s' ⟨e, tB, nxB, wqB, rfl, heB8, heB13, heB14, heB15, i0, i1, hGB⟩
  have ga := hGB.le
  have gb := hGB.hi
  have gc := hGB.wlo
  have gd := hGB.whi
  have hrB : tB.get 1 = some (.row (.int .i64 a :: .string b :: .int .i64 c :: rest) 1 BIG false (.int .i64 a :: .string b :: .int .i64 c :: rest).length) := (hGB.same 1 ow).trans hrA
  have hwB : tB.get nW = some (.row C nW BIG false 15) := (hGB.same nW nW1).trans hwA
  refine s_seq (s_seq (s_region hP hC (oM ?_)))
  refine oM ?_
  refine os (x_len rfl rfl (by simp only [evs, ev_tmp, Tr.get_set, reduceIte, Nat.reduceEqDiff, Nat.reduceAdd, heB8, heB13, heB14, heB15] <;> rfl) rfl Tryz.underlying33) ?_
  refine os (x_bin rfl za za b_lss) ?_
  refine o_done (se_seq ?_)
  refine s_cond za (fun g2 => ?_) (fun g2 => ?_)
  ·have p2 := g2; try simp only [dd] at p2
   refine s_skip (se_seq (s_seq (s_block (s_seq ?_))))
   have hqB : nxB <= BIG := by omega
   refine s_draw hP hC zr ?_
   refine ds (x_loadA rfl za T.g28 T.s28 (l_all (whole_row hrB rfl) hRL.symm)) ?_
   refine dM ?_
   refine dM ?_
   refine ds (x_index rfl za za Tryz.underlying33 T.s31 ow (by show _ < ((5 : Nat) : Int); omega)) ?_
   obtain ⟨qo, qs, qw, hqW⟩ := hWf i i0 ow
   refine ds (x_loadA rfl za T.g31 T.s31 ((l_whole (d := C) (whole_row hwB (by rw [hCl])) (0 + i.toNat * 3) 3 ow).trans (by rw [Nat.zero_add, hqW]))) ?_
   refine d_callR (tab_missR zd (tab_missR zd (tab_hitR (wtd_c (nx := nxB) (a := qo) (b := qw) (c := qs) ow (Nat.le_refl _))))) (wA_none rfl) rfl rfl rfl (by simp only [evs, ev_tmp, Tr.get_set, reduceIte, Nat.reduceEqDiff, Nat.reduceAdd, heB8, heB13, heB14, heB15, g2] <;> rfl) zd (fun v3 t3 n3 w3 hR3 => ?_)
   obtain ⟨tq3, nq3, wq3, he3, hF3, rfl⟩ := hR3
   cases he3
   have la3 := hF3.le
   have lb3 := hF3.hi
   have lc3 := hF3.wlo
   have ld3 := hF3.whi
   have hq3 : decide (nxB <= w3) = true := decide_eq_true ow
   have qB3 : nxB <= BIG := by omega
   have qC3 : n3 <= BIG := by omega
   refine d_callR (tab_missR zd (tab_missR zd (tab_missR zd (tab_hitR (shp_c (nx := n3) (a := a) (b := b) (c := c) (rest := rest) (o := qo) (w := qw) (s := qs) hrl ow (Nat.le_refl _)))))) (wA_none rfl) rfl rfl rfl (by simp only [evs, ev_tmp, Tr.get_set, reduceIte, Nat.reduceEqDiff, Nat.reduceAdd, heB8, heB13, heB14, heB15, g2] <;> rfl) zd (fun v4 t4 n4 w4 hR4 => ?_)
   obtain ⟨tq4, nq4, wq4, he4, hF4, rfl⟩ := hR4
   cases he4
   have la4 := hF4.le
   have lb4 := hF4.hi
   have lc4 := hF4.wlo
   have ld4 := hF4.whi
   have hr4 : t4.get 1 = some (.row (.int .i64 a :: .string b :: .int .i64 c :: rest) 1 BIG false (.int .i64 a :: .string b :: .int .i64 c :: rest).length) := (hF4.same 1 ow).trans ((hF3.same 1 ow).trans hrB)
   have hw4 : t4.get nW = some (.row C nW BIG false 15) := (hF4.same nW ow).trans ((hF3.same nW ow).trans hwB)
   have hq4 : decide (n3 <= w4) = true := decide_eq_true ow
   have qB4 : n3 <= BIG := by omega
   have qC4 : n4 <= BIG := by omega
   refine ds (x_loadA rfl za T.g28 T.s28 (l_all (whole_row hr4 rfl) hRL.symm)) ?_
   refine dM ?_
   refine dM ?_
   refine ds (x_index rfl za za Tryz.underlying33 T.s31 ow (by show _ < ((5 : Nat) : Int); omega)) ?_
   refine ds (x_loadA rfl za T.g31 T.s31 ((l_whole (d := C) (whole_row hw4 (by rw [hCl])) (0 + i.toNat * 3) 3 ow).trans (by rw [Nat.zero_add, hqW]))) ?_
   refine d_callR (tab_missR zd (tab_missR zd (tab_missR zd (tab_missR zd (tab_hitR (shr_c (nx := n4) (a := a) (b := b) (c := c) (rest := rest) (o := qo) (w := qw) (s := qs) hrl ow (Nat.le_refl _))))))) (wA_none rfl) rfl rfl rfl (by simp only [evs, ev_tmp, Tr.get_set, reduceIte, Nat.reduceEqDiff, Nat.reduceAdd, heB8, heB13, heB14, heB15, g2] <;> rfl) zd (fun v5 t5 n5 w5 hR5 => ?_)
   obtain ⟨tq5, nq5, wq5, he5, hF5, rfl⟩ := hR5
   cases he5
   have la5 := hF5.le
   have lb5 := hF5.hi
   have lc5 := hF5.wlo
   have ld5 := hF5.whi
   have hq5 : decide (n4 <= w5) = true := decide_eq_true ow
   have qB5 : n4 <= BIG := by omega
   have qC5 : n5 <= BIG := by omega
   refine ds (x_bin (u := .bool false) rfl za za b_neqBB) ?_
   refine d_done ⟨de_quiet (by simp only [List.all_append, List.all_cons, List.all_nil, infOf, decide_eq_true hqB, Bool.and_self, show Inf.skip.quiet = true from rfl, hq3, decide_eq_true qB3, decide_eq_true qC3, hq4, decide_eq_true qB4, decide_eq_true qC4, hq5, decide_eq_true qB5, decide_eq_true qC5]) zBG (by show wqB <= BIG; omega), ?_⟩
   refine se_seq ?_
   refine s_condF za ?_
   refine s_skip (se_block (se_seq (s_region hP hC (oM ?_))))
   refine os (x_bin rfl za (by rfl) b_add) ?_
   refine oA ?_
   refine o_done ?_
   refine se_loop ?_
   have hw1 : IntKind.i64.wrap (i + 1) = i + 1 := IntWalk.i64_in _ ow
   exact ⟨i + 1, ⟨_, _, _, _, rfl, za, za, za, (by simp only [Tr.get_set, reduceIte, Nat.reduceEqDiff, Nat.reduceAdd, hw1, heB8, heB13, heB14, heB15, g2] <;> rfl), by omega, by omega, ⟨ozz, ozz, zwl, zwh, fun x (q : x < nxA) => (hF5.same x ow).trans ((hF4.same x ow).trans ((hF3.same x ow).trans (hGB.same x q)))⟩⟩, by omega⟩
  ·have p2 := g2; try simp only [dd] at p2
   refine s_exit ?_
   refine se_seq_exit ?_
   refine se_loop_exit ?_
   refine se_block_eq (se_seq (s_seq (s_region hP hC (oM ?_))))
   have hIB := hIA.keep (t' := tB) (fun i q => hGB.same i q.2)
   refine o_callR (tab_missR zd (tab_missR zd (tab_missR zd (tab_missR zd (tab_missR zd (tab_hitR (sm_c (nx := nxB) hIB (fun i q => by omega) hwdl hwde ow ow))))))) (wA_none rfl) rfl rfl rfl (by simp only [evs, ev_tmp, Tr.get_set, reduceIte, Nat.reduceEqDiff, Nat.reduceAdd, heB8, heB13, heB14, heB15, g2] <;> rfl) zd (fun v6 h6 hR6 => ?_)
   obtain ⟨t6, n6, w6, L6, rfl, hF6, hL6, hS6, hM6, hN6⟩ := hR6
   have la6 := hF6.le
   have lb6 := hF6.hi
   have lc6 := hF6.wlo
   have ld6 := hF6.whi
   refine oA ?_
   refine o_done (se_seq (s_seq (s_seq (s_region hP hC (oM ?_)))))
   refine oM ?_
   have hI6 := hIB.keep (t' := t6) (fun i q => hF6.same i ow)
   refine o_callR (tab_missR zd (tab_missR zd (tab_missR zd (tab_missR zd (tab_missR zd (tab_missR zd (tab_hitR (rsm_c (nx := n6) hI6 (fun i q => by omega) hwdl hwde ow ow)))))))) (wA_none rfl) rfl rfl rfl (by simp only [evs, ev_tmp, Tr.get_set, reduceIte, Nat.reduceEqDiff, Nat.reduceAdd, heB8, heB13, heB14, heB15, g2] <;> rfl) zd (fun v7 h7 hR7 => ?_)
   obtain ⟨t7, n7, w7, L7, rfl, hF7, hL7, hS7, hM7, hN7⟩ := hR7
   have la7 := hF7.le
   have lb7 := hF7.hi
   have lc7 := hF7.wlo
   have ld7 := hF7.whi
   have hL8 := (hL6.keep (t' := t7) (fun i q => hF7.same i q.2)).mono (K' := fun i => 1 < i /\ i < n7) (fun i q => by omega)
   have hL9 := hL7.mono (K' := fun i => 1 < i /\ i < n7) (fun i q => by omega)
   have hI7 := (hI6.keep (t' := t7) (fun i q => hF7.same i ow)).mono (K' := fun i => 1 < i /\ i < n7) (fun i q => by omega)
   have hEQ : L6.map (·.2) = L7.map (·.2) := strict_ext hS6 hS7 (fun y => (hM6 y).trans (hM7 y).symm)
   refine o_callR (tab_missR zd (tab_missR zd (tab_missR zd (tab_missR zd (tab_missR zd (tab_missR zd (tab_missR zd (tab_hitR (sw_c (nx := n7) hL8 hL9 ow ow ow ow))))))))) (wA_none rfl) rfl rfl rfl (by simp only [evs, ev_tmp, Tr.get_set, reduceIte, Nat.reduceEqDiff, Nat.reduceAdd, heB8, heB13, heB14, heB15, g2] <;> rfl) zd (fun v8 h8 hR8 => ?_)
   obtain ⟨rfl, qq, rfl, hqq⟩ := hR8
   obtain rfl := hqq hEQ
   refine os (x_notT rfl zw) ?_
   refine o_done (se_seq ?_)
   refine s_condF za ?_
   refine s_skip (se_seq (s_seq (s_seq (s_region hP hC (oA ?_)))))
   refine o_done (se_seq (s_block ?_))
   have hTW : ∀ y ∈ L6, trim y.2 = y.2 := fun y hy => cands_trim ((hM6 y.2).1 (List.mem_map.2 ⟨y, hy, rfl⟩))
   have hLW : ∀ y ∈ L6, lessW y.2 wd = true := fun y hy => by
    have h1 := cands_less (trim_trim wd) (Nat.le_refl _) ((hM6 y.2).1 (List.mem_map.2 ⟨y, hy, rfl⟩))
    rw [lessW_iff, trim_trim] at h1
    exact lessW_iff.2 h1
   refine s_loop (α := Int) (fun i s' => ∃ e tC nxC wqC, s' = ⟨e, 118, ⟨tC, nxC, wqC⟩⟩ /\ e.get 13 = some (v1) /\ e.get 16 = some (v6) /\ e.get 17 = some (.int .i64 (i)) /\ 0 <= i /\ i <= L6.length /\ Fr t7 n7 w7 tC nxC wqC (20 * i.toNat)) (fun i => (L6.length + 5 - i).toNat) 0 ⟨_, _, _, _, rfl, za, za, za, by omega, by omega, Fr.refl⟩ ?_
   rintro i s' ⟨e, tC, nxC, wqC, rfl, heC13, heC16, heC17, i0, i1, hGC⟩
   have ca := hGC.le
   have cb := hGC.hi
   have cc := hGC.wlo
   have cd := hGC.whi
   have hLC := hL8.keep (t' := tC) (fun i q => hGC.same i q.2)
   have hIC := hI7.keep (t' := tC) (fun i q => hGC.same i q.2)
   have hll : (L6.map (·.1)).length = L6.length := List.length_map ..
   refine s_seq (s_seq (s_region hP hC (oM ?_)))
   refine oM ?_
   refine os ((x_lenC hLC.1 rfl rfl (by simp only [evs, ev_tmp, Tr.get_set, reduceIte, Nat.reduceEqDiff, Nat.reduceAdd, heC13, heC16, heC17] <;> rfl) rfl u38).trans (by rw [hll])) ?_
   refine os (x_bin rfl za za b_lss) ?_
   refine o_done (se_seq ?_)
   refine s_cond za (fun g4 => ?_) (fun g4 => ?_)
   ·have p4 := g4; try simp only [dd] at p4
    refine s_skip (se_seq (s_seq (s_block (s_seq ?_))))
    have hqB : nxC <= BIG := by omega
    refine s_draw hP hC zr ?_
    refine dM ?_
    refine dM ?_
    obtain ⟨id1, of1, c1, hv1, hl1⟩ := hLC.1.elem (i := i) ow (by rw [List.length_map]; omega)
    rw [map_at (L := L6) ow] at hl1
    have hm1 := mem_L (L := L6) (i := (i).toNat) ow
    refine ds ((x_indexC hv1 rfl za za u38 T.s22 ow (by rw [List.length_map]; omega))) ?_
    refine ds (x_load1 rfl za T.g22 (hl1 _ _ _ (fun _ _ => rfl))) ?_
    refine dM ?_
    refine d_callR (tab_missR zd (tab_missR zd (tab_missR zd (tab_missR zd (tab_missR zd (tab_missR zd (tab_missR zd (tab_missR zd (tab_hitR (less_c (nx := nxC) (hLC.2 _ hm1).1 hIC (fun i q => by omega) (by have := (hLC.2 _ hm1).2; omega) ow ow (Nat.le_refl _))))))))))) (wA_none rfl) rfl rfl rfl (by simp only [evs, ev_tmp, Tr.get_set, reduceIte, Nat.reduceEqDiff, Nat.reduceAdd, heC13, heC16, heC17, g4] <;> rfl) zd (fun v9 t9 n9 w9 hR9 => ?_)
    obtain ⟨tq9, nq9, wq9, he9, hF9, rfl⟩ := hR9
    cases he9
    have la9 := hF9.le
    have lb9 := hF9.hi
    have lc9 := hF9.wlo
    have ld9 := hF9.whi
    rw [hLW _ hm1]
    have hq9 : decide (nxC <= w9) = true := decide_eq_true ow
    have qB9 : nxC <= BIG := by omega
    have qC9 : n9 <= BIG := by omega
    refine ds (x_notT rfl zw) ?_
    refine dM ?_
    refine d_step wZ rfl (x_move rfl za) zd ?_
    refine d_step wZ rfl (x_move rfl za) zd ?_
    obtain ⟨id2, of2, c2, hv2, hl2⟩ := hLC.1.elem (i := i) ow (by rw [List.length_map]; omega)
    rw [map_at (L := L6) ow] at hl2
    have hm2 := mem_L (L := L6) (i := (i).toNat) ow
    refine d_step wZ rfl ((x_indexC hv2 rfl za za u38 T.s22 ow (by rw [List.length_map]; omega))) zd ?_
    refine d_step wZ rfl (x_load1 rfl za T.g22 (hl2 _ _ _ (fun i q => hF9.same i ow))) zd ?_
    refine d_callR (tab_missR zd (tab_missR zd (tab_missR zd (tab_missR zd (tab_missR zd (tab_missR zd (tab_missR zd (tab_missR zd (tab_missR zd (tab_hitR (trim_c (nx := n9) ((hLC.2 _ hm2).1.keep (t' := t9) (fun i q => hF9.same i ow)) (fun i q => by omega) (by have := (hLC.2 _ hm2).2; omega) ow (Nat.le_refl _)))))))))))) wZ rfl rfl rfl (by simp only [evs, ev_tmp, Tr.get_set, reduceIte, Nat.reduceEqDiff, Nat.reduceAdd, heC13, heC16, heC17, g4] <;> rfl) zd (fun v10 t10 n10 w10 hR10 => ?_)
    obtain ⟨tq10, nq10, wq10, he10, hF10, hI10⟩ := hR10
    cases he10
    have la10 := hF10.le
    have lb10 := hF10.hi
    have lc10 := hF10.wlo
    have ld10 := hF10.whi
    rw [hTW _ hm2] at hI10
    have hq10 : decide (n9 <= w10) = true := decide_eq_true ow
    have qB10 : n9 <= BIG := by omega
    have qC10 : n10 <= BIG := by omega
    refine d_step wZ rfl (x_lenI hI10 rfl rfl (by simp only [evs, ev_tmp, Tr.get_set, reduceIte, Nat.reduceEqDiff, Nat.reduceAdd, heC13, heC16, heC17, g4] <;> rfl) rfl u22) zd ?_
    refine d_step wZ rfl (x_move rfl za) zd ?_
    refine d_step wZ rfl (x_move rfl za) zd ?_
    obtain ⟨id3, of3, c3, hv3, hl3⟩ := hLC.1.elem (i := i) ow (by rw [List.length_map]; omega)
    rw [map_at (L := L6) ow] at hl3
    have hm3 := mem_L (L := L6) (i := (i).toNat) ow
    refine d_step wZ rfl ((x_indexC hv3 rfl za za u38 T.s22 ow (by rw [List.length_map]; omega))) zd ?_
    refine d_step wZ rfl (x_load1 rfl za T.g22 (hl3 _ _ _ (fun i q => (hF10.same i ow).trans (hF9.same i ow)))) zd ?_
    refine d_step wZ rfl (x_lenI (hLC.2 _ hm3).1 rfl rfl (by simp only [evs, ev_tmp, Tr.get_set, reduceIte, Nat.reduceEqDiff, Nat.reduceAdd, heC13, heC16, heC17, g4] <;> rfl) rfl u22) zd ?_
    refine d_step wZ rfl (x_bin (u := .bool false) rfl za za (by rw [b_neq, decide_eq_true rfl]; rfl)) zd ?_
    refine ds (x_pick rfl zw zb) ?_
    refine dM ?_
    refine d_step wZ rfl (x_move rfl za) zd ?_
    refine d_step wZ rfl (x_bin rfl za (by rfl) b_gtr) zd ?_
    refine d_step wZ rfl (x_move rfl za) zd ?_
    refine d_guard rfl rfl za (fun g5 => ?_) (fun g5 => ?_)
    ·have p5 := g5; try simp only [dd] at p5
     refine d_step wZ rfl (x_move rfl za) zd ?_
     refine d_step wZ rfl (x_move rfl za) zd ?_
     refine d_step wZ rfl (x_bin (u := .int .i64 (i - 1)) rfl za (by rfl) (by rw [b_sub, IntWalk.i64_in _ ow])) zd ?_
     refine d_step wZ rfl (x_max rfl rfl (by simp only [evs, ev_tmp, Tr.get_set, reduceIte, Nat.reduceEqDiff, Nat.reduceAdd, heC13, heC16, heC17, g4, g5] <;> rfl) (show max (i - 1) 0 = i - 1 by omega)) zd ?_
     obtain ⟨id4, of4, c4, hv4, hl4⟩ := hLC.1.elem (i := i - 1) ow (by rw [List.length_map]; omega)
     rw [map_at (L := L6) ow] at hl4
     have hm4 := mem_L (L := L6) (i := (i - 1).toNat) ow
     refine d_step wZ rfl ((x_indexC hv4 rfl za za u38 T.s22 ow (by rw [List.length_map]; omega))) zd ?_
     refine d_step wZ rfl (x_load1 rfl za T.g22 (hl4 _ _ _ (fun i q => (hF10.same i ow).trans (hF9.same i ow)))) zd ?_
     refine d_step wZ rfl (x_move rfl za) zd ?_
     refine d_step wZ rfl (x_move rfl za) zd ?_
     obtain ⟨id5, of5, c5, hv5, hl5⟩ := hLC.1.elem (i := i) ow (by rw [List.length_map]; omega)
     rw [map_at (L := L6) ow] at hl5
     have hm5 := mem_L (L := L6) (i := (i).toNat) ow
     refine d_step wZ rfl ((x_indexC hv5 rfl za za u38 T.s22 ow (by rw [List.length_map]; omega))) zd ?_
     refine d_step wZ rfl (x_load1 rfl za T.g22 (hl5 _ _ _ (fun i q => (hF10.same i ow).trans (hF9.same i ow)))) zd ?_
     refine d_callR (tab_missR zd (tab_missR zd (tab_missR zd (tab_missR zd (tab_missR zd (tab_missR zd (tab_missR zd (tab_missR zd (tab_hitR (less_c (nx := n10) ((hLC.2 _ hm4).1.keep (t' := t10) (fun i q => (hF10.same i ow).trans (hF9.same i ow))) ((hLC.2 _ hm5).1.keep (t' := t10) (fun i q => (hF10.same i ow).trans (hF9.same i ow))) (fun i q => by omega) (by have := (hLC.2 _ hm4).2; omega) (by have := (hLC.2 _ hm5).2; omega) ow (Nat.le_refl _))))))))))) wZ rfl rfl rfl (by simp only [evs, ev_tmp, Tr.get_set, reduceIte, Nat.reduceEqDiff, Nat.reduceAdd, heC13, heC16, heC17, g4, g5] <;> rfl) zd (fun v11 t11 n11 w11 hR11 => ?_)
     obtain ⟨tq11, nq11, wq11, he11, hF11, rfl⟩ := hR11
     cases he11
     have la11 := hF11.le
     have lb11 := hF11.hi
     have lc11 := hF11.wlo
     have ld11 := hF11.whi
     rw [show lessW (L6[(i - 1).toNat]!).2 (L6[i.toNat]!).2 = true from strict_at hS6 ow ow]
     have hq11 : decide (n10 <= w11) = true := decide_eq_true ow
     have qB11 : n10 <= BIG := by omega
     have qC11 : n11 <= BIG := by omega
     refine d_step wZ rfl (x_notT rfl zw) zd ?_
     refine d_step wZ rfl (x_pick rfl zw zb) zd ?_
     refine ds (x_pick rfl zw zb) ?_
     refine d_done ⟨de_quiet (by simp only [List.all_append, List.all_cons, List.all_nil, infOf, decide_eq_true hqB, Bool.and_self, show Inf.skip.quiet = true from rfl, hq9, decide_eq_true qB9, decide_eq_true qC9, hq10, decide_eq_true qB10, decide_eq_true qC10, hq11, decide_eq_true qB11, decide_eq_true qC11]) zBG (by show wqC <= BIG; omega), ?_⟩
     refine se_seq ?_
     refine s_condF za ?_
     refine s_skip (se_block (se_seq (s_region hP hC (oM ?_))))
     refine os (x_bin rfl za (by rfl) b_add) ?_
     refine oA ?_
     refine o_done ?_
     refine se_loop ?_
     have hw1 : IntKind.i64.wrap (i + 1) = i + 1 := IntWalk.i64_in _ ow
     exact ⟨i + 1, ⟨_, _, _, _, rfl, za, za, (by simp only [Tr.get_set, reduceIte, Nat.reduceEqDiff, Nat.reduceAdd, hw1, heC13, heC16, heC17, g4, g5] <;> rfl), by omega, by omega, ⟨ozz, ozz, zwl, zwh, fun x (q : x < n7) => (hF11.same x ow).trans ((hF10.same x ow).trans ((hF9.same x ow).trans (hGC.same x q)))⟩⟩, by omega⟩
    ·have p5 := g5; try simp only [dd] at p5
     refine dS ?_
     refine dS ?_
     refine dS ?_
     refine dS ?_
     refine dS ?_
     refine dS ?_
     refine dS ?_
     refine dS ?_
     refine dS ?_
     refine dS ?_
     refine dS ?_
     refine dS ?_
     refine d_step wZ rfl (x_pick rfl zw zb) zd ?_
     refine ds (x_pick rfl zw zb) ?_
     refine d_done ⟨de_quiet (by simp only [List.all_append, List.all_cons, List.all_nil, infOf, decide_eq_true hqB, Bool.and_self, show Inf.skip.quiet = true from rfl, hq9, decide_eq_true qB9, decide_eq_true qC9, hq10, decide_eq_true qB10, decide_eq_true qC10]) zBG (by show wqC <= BIG; omega), ?_⟩
     refine se_seq ?_
     refine s_condF za ?_
     refine s_skip (se_block (se_seq (s_region hP hC (oM ?_))))
     refine os (x_bin rfl za (by rfl) b_add) ?_
     refine oA ?_
     refine o_done ?_
     refine se_loop ?_
     have hw1 : IntKind.i64.wrap (i + 1) = i + 1 := IntWalk.i64_in _ ow
     exact ⟨i + 1, ⟨_, _, _, _, rfl, za, za, (by simp only [Tr.get_set, reduceIte, Nat.reduceEqDiff, Nat.reduceAdd, hw1, heC13, heC16, heC17, g4, g5] <;> rfl), by omega, by omega, ⟨ozz, ozz, zwl, zwh, fun x (q : x < n7) => ((hF10.same x ow).trans ((hF9.same x ow).trans (hGC.same x q)))⟩⟩, by omega⟩
   ·have p4 := g4; try simp only [dd] at p4
    refine s_exit ?_
    refine se_seq_exit ?_
    refine se_loop_exit ?_
    refine se_block_eq (se_seq (s_seq (s_region hP hC ?_)))
    refine o_callR (tab_missR zd (tab_missR zd (tab_missR zd (tab_missR zd (tab_missR zd (tab_missR zd (tab_missR zd (tab_missR zd (tab_missR zd (tab_missR zd (tab_hitR lives_c))))))))))) (wA_none rfl) rfl rfl rfl (by simp only [evs, ev_tmp, Tr.get_set, reduceIte, Nat.reduceEqDiff, Nat.reduceAdd, heC13, heC16, heC17, g4] <;> rfl) zd (fun v12 h12 hR12 => ?_)
    obtain ⟨rfl, rfl⟩ := hR12
    refine oA ?_
    refine o_done (se_seq ?_)
    refine s_ret ?_
    exact ⟨.inr rfl, _, (by simp only [Tryz.results3, resA, Tr.get_set, reduceIte, Nat.reduceEqDiff, Nat.reduceAdd] <;> rfl), rfl⟩
end Go.Proofs.YtmladpbadglecaaGreatDoor
