/-
  The reader of the reference: text.
-/
import Derived.Test.YtfgmplbclpadbaaGreatDoorRWh
import Derived.Test.YtfgmplbclpadbaaGreatDoorRTy
set_option linter.unusedSimpArgs false
set_option linter.unusedVariables false
namespace Go.Proofs.YtfgmplbclpadbaaGreatDoor
open Go.AM
set_option maxRecDepth 100000
set_option maxHeartbeats 1000000
set_option linter.unusedSimpArgs false
set_option linter.unusedVariables false
set_option maxHeartbeats 8000000
theorem rsE_pt {E e : Int} {n : Nat} {m : Int} {b : Bool} (hb : b = decide ((n : Int) = m)) : rsE E e b = if E = 0 then ptE e n m else E := by
 subst hb
 unfold rsE ptE
 by_cases h : E = 0 <;> by_cases h1 : e = 0 <;> by_cases h2 : (n : Int) = m <;> simp [h, h1, h2]
def RMpost (s : Value) (N E : Int) (b r : Nat) (u : Value) (t : Tr AObj) (nx wr : Nat) (v : Value) (h' : AH) : Prop := ∃ t' nx' wr', h' = ⟨t', nx', wr'⟩ /\ v = u /\ t'.get r = some (.row (rdrow s N E) r BIG false 3) /\ nx <= nx' /\ nx' <= nx + b /\ min wr r <= wr' /\ wr' <= wr /\ ∀ i, i < nx -> i ≠ r -> t'.get i = t.get i
def R_rtx : List Value -> AH -> Value -> AH -> Prop := fun args h v h' => ∀ K s l N E r, args = [.pointer (some ⟨r, 0, none⟩)] -> BV h.t K s l -> h.t.get r = some (.row (rdrow s N E) r BIG false 3) -> RMpost s (rsN E N (txtN (l.drop N.toNat))) (if E = 0 then txtE (l.drop N.toNat) else E) (3 * l.length + 10) r (if (if E = 0 then txtE (l.drop N.toNat) else E) = 0 then .string (strAt (getL rdS (l.drop N.toNat)).1 0) else .string .empty) h.t h.next h.wr v h'
noncomputable def c_rtx := cEx Tryz.prog 38 R_rtx
theorem con_rtx : Con Tryz.prog 38 c_rtx := con_ex Tryz.func38 rfl
theorem rtx_c {t : Tr AObj} {K : Nat -> Prop} {nx wr : Nat} {s : Value} {l : List Int} {N E : Int} {r : Nat} (hbv : BV t K s l) (hr : t.get r = some (.row (rdrow s N E) r BIG false 3)) (hrn : r < nx) (hK : ∀ i, K i -> i < nx) (hB : Byt l) (hb : l.length <= 4294967296) (h0 : 0 <= N) (h1 : N <= l.length) (hN : nx + 3 * l.length + 100 <= BIG) (hwr : wr <= BIG) : ∃ v h', c_rtx [.pointer (some ⟨r, 0, none⟩)] ⟨t, nx, wr⟩ = some (v, h') /\ RMpost s (rsN E N (txtN (l.drop N.toNat))) (if E = 0 then txtE (l.drop N.toNat) else E) (3 * l.length + 10) r (if (if E = 0 then txtE (l.drop N.toNat) else E) = 0 then .string (strAt (getL rdS (l.drop N.toNat)).1 0) else .string .empty) t nx wr v h' := by
 have hP := Fits
 have hC : CallSound Tryz.prog (tabOf [(53, c_gsr), (40, c_rs)]) := tab_sound (tab_cons con_gsr (tab_cons con_rs tab_end))
 have hBd : Byt (l.drop N.toNat) := byt_drop hB _
 have hdl : (l.drop N.toNat).length = l.length - N.toNat := List.length_drop
 have hnr := txtN_rng hBd
 suffices key : SureK Tryz.prog ⟨t, nx, wr⟩ _ [] _ (EndR Tryz.prog _ (R_rtx [.pointer (some ⟨r, 0, none⟩)] ⟨t, nx, wr⟩)) by
  obtain ⟨v, h', q, c⟩ := sure_start (R := R_rtx) (sz := 35) Tryz.func38 rfl rfl zo key
  exact ⟨v, h', q, c K s l N E r rfl hbv hr⟩
 obtain ⟨w, bw, hsl⟩ := x_sliceB (P := Tryz.prog) (T := 23) (lo := some (.tmp 14)) (hi := none) (i := N) (j := l.length) hbv u23 T.s5 ow ow ow (fun q => by cases q) (fun _ => rfl)
 rw [List.take_of_length_le (by rw [List.length_drop]; omega)] at bw
 refine s_seq (s_region hP hC (oA ?_))
 refine o_done (se_seq (s_seq ?_))
 have hqB : nx <= BIG := by omega
 refine s_draw hP hC zr ?_
 refine dM ?_
 refine ds (x_nilCheck rfl zt) ?_
 refine ds (x_field (off' := 0) rfl zt u82 rfl T.s23 rfl) ?_
 refine ds (x_load1 rfl zt T.g23 (l_whole (d := rdrow s N E) (whole_row hr rfl) 0 1 (by simp [rdrow]))) ?_
 refine dM ?_
 refine ds (x_nilCheck rfl zt) ?_
 refine ds (x_field (off' := 1) rfl zt u82 rfl T.s3 rfl) ?_
 refine ds (x_load1 rfl zt T.g3 (l_whole (d := rdrow s N E) (whole_row hr rfl) 1 1 (by simp [rdrow]))) ?_
 refine ds (hsl rfl zt (fun a q => by cases q; exact zt) (fun a q => by cases q)) ?_
 have qB1 : nx <= BIG := by omega
 refine d_callR (tab_hitR (gsr_c bw hK hBd ow ow (Nat.le_refl _))) (wA_none rfl) rfl rfl rfl zv zd (fun v1 ta1 na1 wa1 hR1 => ?_)
 obtain ⟨t1, nx1, wz1, he1, hf1, w1, rfl, S1, aD⟩ := hR1
 cases he1
 have hx1 := hf1.same
 have la1 := hf1.le
 have lb1 := hf1.hi
 have hq1 : decide (nx <= wa1) = true := decide_eq_true (by have := hf1.wlo; omega)
 have hz1 := of_decide_eq_true hq1
 have qC1 : na1 <= BIG := by omega
 have hr1 := (hx1 r hrn).trans hr
 have rD := aD.rds
 have q2 := hf1.hi
 have q3 := hf1.wlo
 refine dM ?_
 refine ds (x_extract rfl zt rfl) ?_
 refine ds (x_extract rfl zt rfl) ?_
 refine ds (x_extract rfl zt rfl) ?_
 refine ds (x_assign rfl zt) ?_
 refine ds (x_assign rfl zt) ?_
 refine ds (x_assign rfl zt) ?_
 refine d_done ⟨de_quiet (by simp only [List.all_append, List.all_cons, List.all_nil, infOf, decide_eq_true hqB, Bool.and_self, hq1, decide_eq_true qB1, decide_eq_true qC1]) (by show _ <= BIG; omega) (by show _ <= BIG; first | omega | (dsimp only; omega)), ?_⟩
 refine se_seq (s_seq (s_region hP hC (oM ?_)))
 refine oM ?_
 refine oM ?_
 refine oM ?_
 refine os (x_lenD rD rfl rfl zv rfl u55) ?_
 refine os (x_bin rfl zt (by rfl) b_eql) ?_
 refine o_callR (tab_missR zd (tab_hitR (rs_c hr1 (by show _ <= N + txtN (l.drop N.toNat) /\ N + txtN (l.drop N.toNat) <= _; omega)))) (wA_none rfl) rfl rfl rfl zv zd (fun v2 h2 hR2 => ?_)
 obtain ⟨t2, wq2, rfl, rfl, hr2, hx2, q5, q6⟩ := hR2
 rw [rsE_pt rfl] at hr2
 have hr3 : t2.get r = some (.row (rdrow s (rsN E N (txtN (l.drop N.toNat))) (if E = 0 then txtE (l.drop N.toNat) else E)) r BIG false 3) := hr2
 refine o_done (se_seq (s_seq (s_seq (s_region hP hC (oM ?_)))))
 refine os (x_nilCheck rfl zt) ?_
 refine os (x_field (off' := 2) rfl zt u82 rfl T.s44 rfl) ?_
 refine os (x_load1 rfl zt T.g44 (l_whole (d := rdrow s _ _) (whole_row hr3 rfl) 2 1 (by simp [rdrow]))) ?_
 refine os (x_bin rfl zt (by rfl) b_neq) ?_
 refine o_done (se_seq ?_)
 refine s_cond zt (fun g3 => ?_) (fun g3 => ?_)
 ·have p3 := g3; try simp only [dd] at p3
  refine s_seq (s_region hP hC (oA ?_))
  refine o_done (se_seq ?_)
  refine s_ret ?_
  refine se_seq_ret ?_
  refine ⟨.inr rfl, _, (by simp only [Tryz.results38, resA, Tr.get_set, reduceIte, Nat.reduceEqDiff, Nat.reduceAdd, g3] <;> rfl), fun K2 s2 l2 N2 E2 r2 hs2 hb2 hr4 => ?_⟩
  cases hs2
  have e1 := Option.some.inj (hr.symm.trans hr4)
  simp only [rdrow, AObj.row.injEq, List.cons.injEq, and_true, true_and, Value.int.injEq] at e1
  obtain ⟨rfl, rfl, rfl⟩ := e1
  have hl2 := hbv.uniq hb2
  rw [hl2]
  first
   | (rw [if_neg (show ¬ (if E = 0 then txtE (l.drop N.toNat) else E) = 0 by assumption)]; exact ⟨_, _, _, rfl, rfl, hr3, by show nx <= _; omega, by show _ <= nx + _; omega, by show min wr r <= _; omega, by show _ <= wr; omega, fun i hi i1 => (hx2 i i1).trans (hx1 i hi)⟩)
   | (rw [if_pos hE']; exact ⟨_, _, _, rfl, rfl, hr3, by show nx <= _; omega, by show _ <= nx + _; omega, by show min wr r <= _; omega, by show _ <= wr; omega, fun i hi i1 => (hx2 i i1).trans (hx1 i hi)⟩)
 ·have p3 := g3; try simp only [dd] at p3
  refine s_skip (se_seq (s_seq ?_))
  have hE' : (if E = 0 then txtE (l.drop N.toNat) else E) = 0 := by assumption
  have hE0 : E = 0 := by
   by_cases q : E = 0
   ·exact q
   ·rw [if_neg q] at hE'; exact hE'
  have he : txtE (l.drop N.toNat) = 0 := by rwa [if_pos hE0] at hE'
  obtain ⟨hln, hlc⟩ := txt_one hBd he
  rw [hln, hlc] at aD
  obtain ⟨idw, rfl, hww⟩ := own_cell (t' := t2) aD zd (fun x hx => hx2 x ow)
  refine s_region hP hC (oM ?_)
  refine os (x_index rfl zt (by rfl) u55 T.s9 ow zd) ?_
  refine os (x_load1 rfl zt T.g9 (l_all (hww _ _) rfl)) ?_
  refine oA ?_
  refine o_done (se_seq ?_)
  refine s_ret ?_
  refine ⟨.inr rfl, _, (by simp only [Tryz.results38, resA, Tr.get_set, reduceIte, Nat.reduceEqDiff, Nat.reduceAdd, g3] <;> rfl), fun K2 s2 l2 N2 E2 r2 hs2 hb2 hr4 => ?_⟩
  cases hs2
  have e1 := Option.some.inj (hr.symm.trans hr4)
  simp only [rdrow, AObj.row.injEq, List.cons.injEq, and_true, true_and, Value.int.injEq] at e1
  obtain ⟨rfl, rfl, rfl⟩ := e1
  have hl2 := hbv.uniq hb2
  rw [hl2]
  first
   | (rw [if_neg (show ¬ (if E = 0 then txtE (l.drop N.toNat) else E) = 0 by assumption)]; exact ⟨_, _, _, rfl, rfl, hr3, by show nx <= _; omega, by show _ <= nx + _; omega, by show min wr r <= _; omega, by show _ <= wr; omega, fun i hi i1 => (hx2 i i1).trans (hx1 i hi)⟩)
   | (rw [if_pos hE']; exact ⟨_, _, _, rfl, rfl, hr3, by show nx <= _; omega, by show _ <= nx + _; omega, by show min wr r <= _; omega, by show _ <= wr; omega, fun i hi i1 => (hx2 i i1).trans (hx1 i hi)⟩)
end Go.Proofs.YtfgmplbclpadbaaGreatDoor
namespace Go.Proofs.YtfgmplbclpadbaaGreatDoor
open Go.AM
set_option maxRecDepth 100000
set_option maxHeartbeats 1000000
set_option linter.unusedSimpArgs false
set_option linter.unusedVariables false
set_option maxHeartbeats 8000000
def z16 : List Value := [.int .u8 0, .int .u8 0, .int .u8 0, .int .u8 0, .int .u8 0, .int .u8 0, .int .u8 0, .int .u8 0, .int .u8 0, .int .u8 0, .int .u8 0, .int .u8 0, .int .u8 0, .int .u8 0, .int .u8 0, .int .u8 0]
def R_rdg : List Value -> AH -> Value -> AH -> Prop := fun args h v h' => ∀ K s l N E r, args = [.pointer (some ⟨r, 0, none⟩)] -> BV h.t K s l -> h.t.get r = some (.row (rdrow s N E) r BIG false 3) -> RMpost s (rsN E N (digN (l.drop N.toNat))) (if E = 0 then digE (l.drop N.toNat) else E) (3 * l.length + 20) r (if (if E = 0 then digE (l.drop N.toNat) else E) = 0 then .agg ⟨digC (l.drop N.toNat)⟩ else .agg ⟨z16⟩) h.t h.next h.wr v h'
noncomputable def c_rdg := cEx Tryz.prog 37 R_rdg
theorem con_rdg : Con Tryz.prog 37 c_rdg := con_ex Tryz.func37 rfl
theorem rdg_c {t : Tr AObj} {K : Nat -> Prop} {nx wr : Nat} {s : Value} {l : List Int} {N E : Int} {r : Nat} (hbv : BV t K s l) (hr : t.get r = some (.row (rdrow s N E) r BIG false 3)) (hrn : r < nx) (hK : ∀ i, K i -> i < nx) (hB : Byt l) (hb : l.length <= 4294967296) (h0 : 0 <= N) (h1 : N <= l.length) (hN : nx + 3 * l.length + 200 <= BIG) (hwr : wr <= BIG) : ∃ v h', c_rdg [.pointer (some ⟨r, 0, none⟩)] ⟨t, nx, wr⟩ = some (v, h') /\ RMpost s (rsN E N (digN (l.drop N.toNat))) (if E = 0 then digE (l.drop N.toNat) else E) (3 * l.length + 20) r (if (if E = 0 then digE (l.drop N.toNat) else E) = 0 then .agg ⟨digC (l.drop N.toNat)⟩ else .agg ⟨z16⟩) t nx wr v h' := by
 have hP := Fits
 have hC : CallSound Tryz.prog (tabOf [(52, c_gdr), (40, c_rs)]) := tab_sound (tab_cons con_gdr (tab_cons con_rs tab_end))
 have hBd : Byt (l.drop N.toNat) := byt_drop hB _
 have hdl : (l.drop N.toNat).length = l.length - N.toNat := List.length_drop
 have hnr := digN_rng hBd
 suffices key : SureK Tryz.prog ⟨t, nx, wr⟩ _ [] _ (EndR Tryz.prog _ (R_rdg [.pointer (some ⟨r, 0, none⟩)] ⟨t, nx, wr⟩)) by
  obtain ⟨v, h', q, c⟩ := sure_start (R := R_rdg) (sz := 36) Tryz.func37 rfl rfl zo key
  exact ⟨v, h', q, c K s l N E r rfl hbv hr⟩
 obtain ⟨w, bw, hsl⟩ := x_sliceB (P := Tryz.prog) (T := 23) (lo := some (.tmp 14)) (hi := none) (i := N) (j := l.length) hbv u23 T.s5 ow ow ow (fun q => by cases q) (fun _ => rfl)
 rw [List.take_of_length_le (by rw [List.length_drop]; omega)] at bw
 refine s_seq (s_region hP hC ?_)
 refine os (y_alloc rfl T.z25 rfl rfl) ?_
 refine o_done (se_seq (s_seq ?_))
 have hqB : nx + 1 <= BIG := by omega
 refine s_nm (fun t0 n0 hn0 hxq => ?_)
 have hx0 : ∀ i, i < nx -> t0.get i = t.get i := fun i hi => by rw [hxq i ow, gn ow]
 have hc0 : t0.get nx = some (.row z16 nx BIG false 16) := by rw [hxq nx ow, gp rfl]; rfl
 have hr0 := (hx0 r hrn).trans hr
 refine s_draw hP hC zr ?_
 refine dM ?_
 refine ds (x_nilCheck rfl zt) ?_
 refine ds (x_field (off' := 0) rfl zt u82 rfl T.s23 rfl) ?_
 refine ds (x_load1 rfl zt T.g23 (l_whole (d := rdrow s N E) (whole_row hr0 rfl) 0 1 (by simp [rdrow]))) ?_
 refine dM ?_
 refine ds (x_nilCheck rfl zt) ?_
 refine ds (x_field (off' := 1) rfl zt u82 rfl T.s3 rfl) ?_
 refine ds (x_load1 rfl zt T.g3 (l_whole (d := rdrow s N E) (whole_row hr0 rfl) 1 1 (by simp [rdrow]))) ?_
 refine ds (hsl rfl zt (fun a q => by cases q; exact zt) (fun a q => by cases q)) ?_
 have qB1 : n0 <= BIG := by omega
 refine d_callR (tab_hitR (gdr_c (bw.keep (fun i q => hx0 i (hK i q))) (fun i q => by have := hK i q; omega) hBd ow ow (Nat.le_refl _))) (wA_none rfl) rfl rfl rfl zv zd (fun v1 ta1 na1 wa1 hR1 => ?_)
 obtain ⟨t1, nx1, wz1, he1, hf1, w1, rfl, S1, aD⟩ := hR1
 cases he1
 have hx1 := hf1.same
 have la1 := hf1.le
 have lb1 := hf1.hi
 have hq1 : decide (n0 <= wa1) = true := decide_eq_true (by have := hf1.wlo; omega)
 have hz1 := of_decide_eq_true hq1
 have qC1 : na1 <= BIG := by omega
 have hr1 := (hx1 r ow).trans hr0
 have hc1 := (hx1 nx ow).trans hc0
 have rD := aD.rds
 have q2 := hf1.hi
 have q3 := hf1.wlo
 refine dM ?_
 refine ds (x_extract rfl zt rfl) ?_
 refine ds (x_extract rfl zt rfl) ?_
 refine ds (x_extract rfl zt rfl) ?_
 refine ds (x_assign rfl zt) ?_
 refine ds (x_assign rfl zt) ?_
 refine ds (x_assign rfl zt) ?_
 refine d_done ⟨de_quiet (by simp only [List.all_append, List.all_cons, List.all_nil, infOf, decide_eq_true hqB, Bool.and_self, hq1, decide_eq_true qB1, decide_eq_true qC1]) (by show _ <= BIG; omega) (by show _ <= BIG; first | omega | (dsimp only; omega)), ?_⟩
 refine se_seq (s_seq (s_region hP hC (oM ?_)))
 refine oM ?_
 refine oM ?_
 refine oM ?_
 refine os (x_lenD rD rfl rfl zv rfl u42) ?_
 refine os (x_bin rfl zt (by rfl) b_eql) ?_
 refine o_callR (tab_missR zd (tab_hitR (rs_c hr1 (by show _ <= N + digN (l.drop N.toNat) /\ N + digN (l.drop N.toNat) <= _; omega)))) (wA_none rfl) rfl rfl rfl zv zd (fun v2 h2 hR2 => ?_)
 obtain ⟨t2, wq2, rfl, rfl, hr2, hx2, q5, q6⟩ := hR2
 rw [rsE_pt rfl] at hr2
 have hr3 : t2.get r = some (.row (rdrow s (rsN E N (digN (l.drop N.toNat))) (if E = 0 then digE (l.drop N.toNat) else E)) r BIG false 3) := hr2
 refine o_done (se_seq (s_seq (s_seq (s_region hP hC (oM ?_)))))
 refine os (x_nilCheck rfl zt) ?_
 refine os (x_field (off' := 2) rfl zt u82 rfl T.s44 rfl) ?_
 refine os (x_load1 rfl zt T.g44 (l_whole (d := rdrow s _ _) (whole_row hr3 rfl) 2 1 (by simp [rdrow]))) ?_
 refine os (x_bin rfl zt (by rfl) b_neq) ?_
 refine o_done (se_seq ?_)
 refine s_cond zt (fun g3 => ?_) (fun g3 => ?_)
 ·have p3 := g3; try simp only [dd] at p3
  refine s_seq ?_
  have hc2 := (hx2 nx ow).trans hc1
  refine s_region hP hC ?_
  refine os (x_build (v := .agg ⟨z16⟩) rfl zp T.z25 rfl zr) ?_
  refine o_stepN (wA_none rfl) rfl (y_storeA rfl zt zt T.s25 rfl hc2 rfl rfl rfl) ?_
  refine o_done (se_seq ?_)
  refine s_ret ?_
  refine se_seq_ret ?_
  refine ⟨.inr rfl, _, (resA_cell zh T.g25 T.s25 (l_all (whole_row (show Tr.get _ nx = _ from by rw [gp rfl]) rfl) rfl) resA_nil), fun K2 s2 l2 N2 E2 r2 hs2 hb2 hr4 => ?_⟩
  cases hs2
  have e1 := Option.some.inj (hr.symm.trans hr4)
  simp only [rdrow, AObj.row.injEq, List.cons.injEq, and_true, true_and, Value.int.injEq] at e1
  obtain ⟨rfl, rfl, rfl⟩ := e1
  have hl2 := hbv.uniq hb2
  rw [hl2]
  rw [if_neg (show ¬ (if E = 0 then digE (l.drop N.toNat) else E) = 0 by assumption)]
  exact ⟨_, _, _, rfl, rfl, by rw [gn ow]; exact hr3, by show nx <= _; omega, by show _ <= nx + _; omega, by show min wr r <= _; omega, by show _ <= wr; omega, fun i (hi : i < nx) i1 => by rw [gn ow]; exact (hx2 i i1).trans ((hx1 i ow).trans (hx0 i hi))⟩
 ·have p3 := g3; try simp only [dd] at p3
  refine s_skip (se_seq (s_seq ?_))
  have hc2 := (hx2 nx ow).trans hc1
  have hE' : (if E = 0 then digE (l.drop N.toNat) else E) = 0 := by assumption
  have hE0 : E = 0 := by
   by_cases q : E = 0
   ·exact q
   ·rw [if_neg q] at hE'; exact hE'
  have he : digE (l.drop N.toNat) = 0 := by rwa [if_pos hE0] at hE'
  obtain ⟨hln, hlc⟩ := dig_one hBd he
  rw [hln, hlc] at aD
  obtain ⟨idw, rfl, hww⟩ := own_cell (t' := t2) aD zd (fun x hx => hx2 x ow)
  refine s_region hP hC (oM ?_)
  refine os (x_index rfl zt (by rfl) u42 T.s25 ow zd) ?_
  refine os (x_loadA rfl zt T.g25 T.s25 (l_all (hww _ _) (digC_len hBd he).symm)) ?_
  refine o_stepN (wA_none rfl) rfl (y_storeA rfl zt zt T.s25 (digC_len hBd he) hc2 rfl rfl (bys_one _)) ?_
  refine o_done (se_seq ?_)
  refine s_ret ?_
  refine ⟨.inr rfl, _, (resA_cell zh T.g25 T.s25 (l_all (whole_row (show Tr.get _ nx = _ from by rw [gp rfl]) rfl) (digC_len hBd he).symm) resA_nil), fun K2 s2 l2 N2 E2 r2 hs2 hb2 hr4 => ?_⟩
  cases hs2
  have e1 := Option.some.inj (hr.symm.trans hr4)
  simp only [rdrow, AObj.row.injEq, List.cons.injEq, and_true, true_and, Value.int.injEq] at e1
  obtain ⟨rfl, rfl, rfl⟩ := e1
  have hl2 := hbv.uniq hb2
  rw [hl2]
  rw [if_pos hE']
  exact ⟨_, _, _, rfl, rfl, by rw [gn ow]; exact hr3, by show nx <= _; omega, by show _ <= nx + _; omega, by show min wr r <= _; omega, by show _ <= wr; omega, fun i (hi : i < nx) i1 => by rw [gn ow]; exact (hx2 i i1).trans ((hx1 i ow).trans (hx0 i hi))⟩
end Go.Proofs.YtfgmplbclpadbaaGreatDoor
namespace Go.Proofs.YtfgmplbclpadbaaGreatDoor
open Go.AM
set_option maxRecDepth 100000
set_option maxHeartbeats 1000000
set_option linter.unusedSimpArgs false
set_option linter.unusedVariables false
set_option maxHeartbeats 8000000
def IV (t : Tr AObj) (n0 nx : Nat) (v : Value) (L : List Value) : Prop := ∃ id c, v = .slice (some ⟨id, 0, none⟩) L.length c /\ ∀ (t' : Tr AObj) (nx' wr' : Nat), (∀ i, n0 <= i -> i < nx -> t'.get i = t.get i) -> Whole ⟨t', nx', wr'⟩ id L
theorem iv_acc {t t2 : Tr AObj} {n0 nx : Nat} {S : Nat -> Prop} {w : Value} {L : List Value} (h : AccP t n0 nx S 1 w L.length L) (hn : 0 < L.length) (hk : ∀ i, n0 <= i -> t2.get i = t.get i) : IV t2 n0 nx w L := by
 rcases h.acc with ⟨q, _⟩ | ⟨_, _, id, r, h1, h2, h3, h4⟩
 ·omega
 ·exact ⟨id, _, h1, fun t' nx' wr' hk' => (h2.keep ((hk' _ (h.bnd _ h4).1 (h.bnd _ h4).2).trans (hk _ (h.bnd _ h4).1)) ((hk' _ (h.bnd _ h3).1 (h.bnd _ h3).2).trans (hk _ (h.bnd _ h3).1))).whole⟩
theorem y_mk0 {P : Program} {call : Call'} {e : Tr Value} {o : Oper} {T el : TypeId} {x y : Operand} {t : Tr AObj} {nx wr n by' : Nat} {z : Value} (ho : o.op = .makeSlice T x y) (hx : ev e x = some (.int .i64 n)) (hy : ev e y = some (.int .i64 n)) (hu : P.underlying T = some (.slice el)) (hz : (P.info? el).bind (·.zero) = some z) (hi : TyI P el 1 by') (hb : n * by' <= 140737488355328) (hn : n < BIG) (hc : z.cells.toList = [.int .i64 0]) (hf : free1 z = true) :
  doOp P call e ⟨t, nx, wr⟩ o = some (.slice (some ⟨nx, 0, none⟩) n n, ⟨t.set nx (.row (zerosC [.int .i64 0] n) nx BIG false (zerosC [.int .i64 0] n).length), nx + 1, wr⟩) := by
 obtain ⟨i, i1, i2, i3, i4⟩ := hi
 rw [i1] at hz
 have hz' : i.zero = some z := hz
 have h1 : z.cells.size = i.size := by rw [i2, <-Array.length_toList, hc]; rfl
 rw [do_op (by rw [ho]; simp), ho]
 simp only [aop, hx, hy, hu, i1, hz']
 rw [if_pos ⟨by omega, Int.le_refl _, by omega, by rw [i3]; omega, h1, by omega, hf, by rw [i2]; decide⟩, if_pos trivial, hc]
 rfl
def RIpost (s : Value) (N E : Int) (b r : Nat) (L : List Value) (t : Tr AObj) (nx wr : Nat) (v : Value) (h' : AH) : Prop := ∃ t' nx' wr', h' = ⟨t', nx', wr'⟩ /\ IV t' nx nx' v L /\ t'.get r = some (.row (rdrow s N E) r BIG false 3) /\ nx <= nx' /\ nx' <= nx + b /\ min wr r <= wr' /\ wr' <= wr /\ ∀ i, i < nx -> i ≠ r -> t'.get i = t.get i
def R_rin : List Value -> AH -> Value -> AH -> Prop := fun args h v h' => ∀ K s l N E r mn, args = [.pointer (some ⟨r, 0, none⟩), .int .i64 (mn : Nat)] -> BV h.t K s l -> h.t.get r = some (.row (rdrow s N E) r BIG false 3) -> RIpost s (rsN E N (itN (l.drop N.toNat))) (if E = 0 then itE (l.drop N.toNat) mn else E) (3 * l.length + 20) r (if (if E = 0 then itE (l.drop N.toNat) mn else E) = 0 then (getL rdI (l.drop N.toNat)).1 else zerosC [.int .i64 0] mn) h.t h.next h.wr v h'
noncomputable def c_rin := cEx Tryz.prog 36 R_rin
theorem con_rin : Con Tryz.prog 36 c_rin := con_ex Tryz.func36 rfl
theorem rin_c {t : Tr AObj} {K : Nat -> Prop} {nx wr : Nat} {s : Value} {l : List Int} {N E : Int} {r mn : Nat} (hmn : 0 < mn /\ mn <= 5) (hbv : BV t K s l) (hr : t.get r = some (.row (rdrow s N E) r BIG false 3)) (hrn : r < nx) (hK : ∀ i, K i -> i < nx) (hB : Byt l) (hb : l.length <= 4294967296) (h0 : 0 <= N) (h1 : N <= l.length) (hN : nx + 3 * l.length + 200 <= BIG) (hwr : wr <= BIG) : ∃ v h', c_rin [.pointer (some ⟨r, 0, none⟩), .int .i64 (mn : Nat)] ⟨t, nx, wr⟩ = some (v, h') /\ RIpost s (rsN E N (itN (l.drop N.toNat))) (if E = 0 then itE (l.drop N.toNat) mn else E) (3 * l.length + 20) r (if (if E = 0 then itE (l.drop N.toNat) mn else E) = 0 then (getL rdI (l.drop N.toNat)).1 else zerosC [.int .i64 0] mn) t nx wr v h' := by
 have hP := Fits
 have hC : CallSound Tryz.prog (tabOf [(51, c_gir), (40, c_rs)]) := tab_sound (tab_cons con_gir (tab_cons con_rs tab_end))
 have hBd : Byt (l.drop N.toNat) := byt_drop hB _
 have hdl : (l.drop N.toNat).length = l.length - N.toNat := List.length_drop
 have hnr := itN_rng hBd
 suffices key : SureK Tryz.prog ⟨t, nx, wr⟩ _ [] _ (EndR Tryz.prog _ (R_rin [.pointer (some ⟨r, 0, none⟩), .int .i64 (mn : Nat)] ⟨t, nx, wr⟩)) by
  obtain ⟨v, h', q, c⟩ := sure_start (R := R_rin) (sz := 38) Tryz.func36 rfl rfl zo key
  exact ⟨v, h', q, c K s l N E r mn rfl hbv hr⟩
 obtain ⟨w, bw, hsl⟩ := x_sliceB (P := Tryz.prog) (T := 23) (lo := some (.tmp 16)) (hi := none) (i := N) (j := l.length) hbv u23 T.s5 ow ow ow (fun q => by cases q) (fun _ => rfl)
 rw [List.take_of_length_le (by rw [List.length_drop]; omega)] at bw
 refine s_seq (s_region hP hC (oA ?_))
 refine o_done (se_seq (s_seq ?_))
 have hqB : nx <= BIG := by omega
 refine s_draw hP hC zr ?_
 refine dM ?_
 refine ds (x_nilCheck rfl zt) ?_
 refine ds (x_field (off' := 0) rfl zt u82 rfl T.s23 rfl) ?_
 refine ds (x_load1 rfl zt T.g23 (l_whole (d := rdrow s N E) (whole_row hr rfl) 0 1 (by simp [rdrow]))) ?_
 refine dM ?_
 refine ds (x_nilCheck rfl zt) ?_
 refine ds (x_field (off' := 1) rfl zt u82 rfl T.s3 rfl) ?_
 refine ds (x_load1 rfl zt T.g3 (l_whole (d := rdrow s N E) (whole_row hr rfl) 1 1 (by simp [rdrow]))) ?_
 refine ds (hsl rfl zt (fun a q => by cases q; exact zt) (fun a q => by cases q)) ?_
 have qB1 : nx <= BIG := by omega
 refine d_callR (tab_hitR (gir_c bw hK hBd ow ow (Nat.le_refl _))) (wA_none rfl) rfl rfl rfl zv zd (fun v1 ta1 na1 wa1 hR1 => ?_)
 obtain ⟨t1, nx1, wz1, he1, hf1, w1, rfl, S1, aD⟩ := hR1
 cases he1
 have hx1 := hf1.same
 have la1 := hf1.le
 have lb1 := hf1.hi
 have hq1 : decide (nx <= wa1) = true := decide_eq_true (by have := hf1.wlo; omega)
 have hz1 := of_decide_eq_true hq1
 have qC1 : na1 <= BIG := by omega
 have hr1 := (hx1 r hrn).trans hr
 have rD := aD.rds
 have q2 := hf1.hi
 have q3 := hf1.wlo
 refine dM ?_
 refine ds (x_extract rfl zt rfl) ?_
 refine ds (x_extract rfl zt rfl) ?_
 refine ds (x_extract rfl zt rfl) ?_
 refine ds (x_assign rfl zt) ?_
 refine ds (x_assign rfl zt) ?_
 refine ds (x_assign rfl zt) ?_
 refine d_done ⟨de_quiet (by simp only [List.all_append, List.all_cons, List.all_nil, infOf, decide_eq_true hqB, Bool.and_self, hq1, decide_eq_true qB1, decide_eq_true qC1]) (by show _ <= BIG; omega) (by show _ <= BIG; first | omega | (dsimp only; omega)), ?_⟩
 refine se_seq (s_seq (s_region hP hC (oM ?_)))
 refine oM ?_
 refine oM ?_
 refine oM ?_
 refine os (x_lenD rD rfl rfl zv rfl u22) ?_
 refine oM ?_
 refine os (x_bin rfl zt zt b_eql) ?_
 refine o_callR (tab_missR zd (tab_hitR (rs_c hr1 (by show _ <= N + itN (l.drop N.toNat) /\ N + itN (l.drop N.toNat) <= _; omega)))) (wA_none rfl) rfl rfl rfl zv zd (fun v2 h2 hR2 => ?_)
 obtain ⟨t2, wq2, rfl, rfl, hr2, hx2, q5, q6⟩ := hR2
 rw [rsE_pt rfl] at hr2
 have hr3 : t2.get r = some (.row (rdrow s (rsN E N (itN (l.drop N.toNat))) (if E = 0 then itE (l.drop N.toNat) mn else E)) r BIG false 3) := hr2
 refine o_done (se_seq (s_seq (s_seq (s_region hP hC (oM ?_)))))
 refine os (x_nilCheck rfl zt) ?_
 refine os (x_field (off' := 2) rfl zt u82 rfl T.s44 rfl) ?_
 refine os (x_load1 rfl zt T.g44 (l_whole (d := rdrow s _ _) (whole_row hr3 rfl) 2 1 (by simp [rdrow]))) ?_
 refine os (x_bin rfl zt (by rfl) b_neq) ?_
 refine o_done (se_seq ?_)
 refine s_cond zt (fun g3 => ?_) (fun g3 => ?_)
 ·have p3 := g3; try simp only [dd] at p3
  refine s_seq (s_region hP hC (oM ?_))
  refine os (y_mk0 rfl zt zt u22 T.z3 T.i22 ow (by unfold BIG; omega) rfl rfl) ?_
  refine oA ?_
  refine o_done (se_seq ?_)
  refine s_ret ?_
  refine se_seq_ret ?_
  refine ⟨.inr rfl, _, (by simp only [Tryz.results36, resA, Tr.get_set, reduceIte, Nat.reduceEqDiff, Nat.reduceAdd, g3] <;> rfl), fun K2 s2 l2 N2 E2 r2 mn2 hs2 hb2 hr4 => ?_⟩
  simp only [List.cons.injEq, Value.pointer.injEq, Option.some.injEq, Addr.mk.injEq, Value.int.injEq, and_true, true_and] at hs2
  obtain ⟨rfl, hmn2⟩ := hs2
  obtain rfl : mn2 = mn := by omega
  have e1 := Option.some.inj (hr.symm.trans hr4)
  simp only [rdrow, AObj.row.injEq, List.cons.injEq, and_true, true_and, Value.int.injEq] at e1
  obtain ⟨rfl, rfl, rfl⟩ := e1
  have hl2 := hbv.uniq hb2
  rw [hl2]
  have hzl : (zerosC [Value.int .i64 0] mn2).length = mn2 := by rw [zerosC_len]; simp
  rw [if_neg (show ¬ (if E = 0 then itE (l.drop N.toNat) mn2 else E) = 0 by assumption)]
  exact ⟨_, _, _, rfl, ⟨na1, mn2, by rw [hzl]; rfl, fun t' nx' wr' hk => whole_row ((hk na1 (by show nx <= _; omega) (by show na1 < _ + 1; omega)).trans (by rw [gp rfl])) rfl⟩, by rw [gn ow]; exact hr3, by show nx <= _; omega, by show _ <= nx + _; omega, by show min wr r <= _; omega, by show _ <= wr; omega, fun i (hi : i < nx) i1 => by rw [gn ow]; exact (hx2 i i1).trans (hx1 i hi)⟩
 ·have p3 := g3; try simp only [dd] at p3
  refine s_skip (se_seq (s_seq (s_region hP hC (oM ?_))))
  refine oA ?_
  refine o_done (se_seq ?_)
  refine s_ret ?_
  refine ⟨.inr rfl, _, (by simp only [Tryz.results36, resA, Tr.get_set, reduceIte, Nat.reduceEqDiff, Nat.reduceAdd, g3] <;> rfl), fun K2 s2 l2 N2 E2 r2 mn2 hs2 hb2 hr4 => ?_⟩
  simp only [List.cons.injEq, Value.pointer.injEq, Option.some.injEq, Addr.mk.injEq, Value.int.injEq, and_true, true_and] at hs2
  obtain ⟨rfl, hmn2⟩ := hs2
  obtain rfl : mn2 = mn := by omega
  have e1 := Option.some.inj (hr.symm.trans hr4)
  simp only [rdrow, AObj.row.injEq, List.cons.injEq, and_true, true_and, Value.int.injEq] at e1
  obtain ⟨rfl, rfl, rfl⟩ := e1
  have hl2 := hbv.uniq hb2
  rw [hl2]
  have hE' : (if E = 0 then itE (l.drop N.toNat) mn2 else E) = 0 := by assumption
  have hE0 : E = 0 := by
   by_cases q : E = 0
   ·exact q
   ·rw [if_neg q] at hE'; exact hE'
  have he : itE (l.drop N.toNat) mn2 = 0 := by rwa [if_pos hE0] at hE'
  have hxl := (pt_zero he).2
  rw [if_pos hE']
  exact ⟨_, _, _, rfl, iv_acc aD ow (fun i hi => hx2 i (by have : nx <= i := hi; omega)), hr3, by show nx <= _; omega, by show _ <= nx + _; omega, by show min wr r <= _; omega, by show _ <= wr; omega, fun i hi i1 => (hx2 i i1).trans (hx1 i hi)⟩
end Go.Proofs.YtfgmplbclpadbaaGreatDoor
namespace Go.Proofs.YtfgmplbclpadbaaGreatDoor
open Go.AM
set_option maxRecDepth 100000
set_option maxHeartbeats 1000000
set_option linter.unusedSimpArgs false
set_option linter.unusedVariables false
def ok_around (n : Int) (m : Int) : Bool := decide (inR n) && decide (0 < m)
def val_around (n : Int) (m : Int) : Value := .int .i64 (around n m)
def new_around (n : Int) (m : Int) : List (List Value) := []
def spec_around : Go.AM.Spec := fun us cs => match us, cs with
 | [.int .i64 n, .int .i64 m], [] => if ok_around n m then some (val_around n m, new_around n m) else none
 | _, _ => none
def c_around := flatC [.fr, .fr] spec_around
theorem around_m  {n : Int} {m : Int}  (hok : ok_around n m = true) : Meets Tryz.prog (.func 7) [.int .i64 n, .int .i64 m] (cheap []) (val_around n m) (rheap [] (new_around n m)) := by
 have hP := Fits
 have hC : CallSound Tryz.prog (tabOf []) := tab_sound tab_end
 simp only [ok_around, Bool.and_eq_true, decide_eq_true_eq] at hok
 obtain ⟨hn, hm⟩ := hok
 refine meets_start (sz := 13) hP Tryz.func7 rfl rfl zo (by simp only [Tr.ofList, roRows, Nat.zero_add, Nat.reduceAdd] <;> rfl) zl ?_
 refine k_seq (k_region hP hC (oA ?_))
 refine o_done (e_seq (k_seq (k_seq (k_region hP hC (oM ?_)))))
 refine os (x_bin rfl zt (by rfl) b_lss) ?_
 refine o_done (e_seq ?_)
 refine k_cond zt (fun g2 => ?_) (fun g2 => ?_)
 ·have p2 := g2; try simp only [dd] at p2
  refine k_region hP hC (oM ?_)
  refine os (x_bin rfl zt (by rfl) b_add) ?_
  refine os (x_neg rfl zt) ?_
  refine oA ?_
  refine o_done (e_seq (k_seq (k_region hP hC (oM ?_))))
  refine oM ?_
  refine os (x_bin rfl zt zt (b_rem (by first | decide | omega))) ?_
  refine oA ?_
  refine o_done (e_seq ?_)
  refine k_ret ?_
  refine gives_mk (L := []) (slots := [4]) (w := 0) (.inr rfl) zr (gcVs_cons zh (gcV_free rfl) gcVs_nil) gcH_nil zr (by simp only [Tryz.results7, resA, cst, mkE, Tr.get_set, reduceIte, Nat.reduceEqDiff, Nat.reduceAdd] <;> rfl) ?_
  simp only [one, val_around]; congr 1; exact around_eq hn (by first | exact .inl ⟨by assumption, rfl⟩ | exact .inr ⟨by assumption, rfl⟩)
 ·have p2 := g2; try simp only [dd] at p2
  refine k_skip (e_seq (k_seq (k_region hP hC (oM ?_))))
  refine oM ?_
  refine os (x_bin rfl zt zt (b_rem (by first | decide | omega))) ?_
  refine oA ?_
  refine o_done (e_seq ?_)
  refine k_ret ?_
  refine gives_mk (L := []) (slots := [4]) (w := 0) (.inr rfl) zr (gcVs_cons zh (gcV_free rfl) gcVs_nil) gcH_nil zr (by simp only [Tryz.results7, resA, cst, mkE, Tr.get_set, reduceIte, Nat.reduceEqDiff, Nat.reduceAdd] <;> rfl) ?_
  simp only [one, val_around]; congr 1; exact around_eq hn (by first | exact .inl ⟨by assumption, rfl⟩ | exact .inr ⟨by assumption, rfl⟩)
theorem con_around : Con Tryz.prog 7 c_around := con_flat Tryz.func7 rfl fun us cs v new h => by
 unfold spec_around at h
 split at h
 case h_2 => cases h
 rename_i n m
 split at h
 case isFalse => cases h
 rename_i hc
 try simp only [Bool.and_eq_true] at hc
 have hok := hc
 cases h
 have key := around_m  hok
 exact key
theorem around_c {H : AH}  {n : Int} {m : Int}  (hok : ok_around n m = true) : c_around [.int .i64 n, .int .i64 m] H = some (.int .i64 (around n m), H) := by
 exact flatC_at (v := val_around n m) (new := new_around n m) (cl_fr rfl (cl_fr rfl cl_nil)) (by simp only [spec_around, hok, Bool.and_self, if_true]) (rfl) (gcV_free rfl)
end Go.Proofs.YtfgmplbclpadbaaGreatDoor
