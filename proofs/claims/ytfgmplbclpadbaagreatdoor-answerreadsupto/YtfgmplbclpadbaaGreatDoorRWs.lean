/-
  Decode of the reference.
-/
import Derived.Test.YtfgmplbclpadbaaGreatDoorRLs
set_option linter.unusedSimpArgs false
set_option linter.unusedVariables false
namespace Go.Proofs.YtfgmplbclpadbaaGreatDoor
open Go.AM
set_option maxRecDepth 100000
set_option maxHeartbeats 1000000
set_option linter.unusedSimpArgs false
set_option linter.unusedVariables false
set_option maxHeartbeats 16000000
theorem zerosC_ints : ∀ n : Nat, zerosC [.int .i64 0] n = ints (List.replicate n 0)
 | 0 => rfl
 | n + 1 => by
  show Value.int .i64 0 :: zerosC [.int .i64 0] n = _
  rw [zerosC_ints n, List.replicate_succ]; rfl
theorem rd_ints {l : List Int} {E : Int} {n : Nat} : ∃ ns : List Int, (if (if E = 0 then itE l n else E) = 0 then (getL rdI l).1 else zerosC [.int .i64 0] n) = ints ns /\ ns.length = n /\ ((if E = 0 then itE l n else E) = 0 -> (getL rdI l).1 = ints ns) := by
 by_cases h : (if E = 0 then itE l n else E) = 0
 ·have h1 : itE l n = 0 := by
   by_cases q : E = 0
   ·rwa [if_pos q] at h
   ·rw [if_neg q] at h; exact absurd h q
  obtain ⟨ns, a, b⟩ := it_ints h1
  exact ⟨ns, by rw [if_pos h, a], b, fun _ => a⟩
 ·exact ⟨_, by rw [if_neg h, zerosC_ints], List.length_replicate, fun q => absurd q h⟩
theorem rd_text {l : List Int} {E : Int} : ∃ x, (if (if E = 0 then txtE l else E) = 0 then Value.string (strAt (getL rdS l).1 0) else .string .empty) = .string x /\ ((if E = 0 then txtE l else E) = 0 -> txtC l = [.string x]) := by
 by_cases h : (if E = 0 then txtE l else E) = 0
 ·exact ⟨_, if_pos h, fun _ => rfl⟩
 ·exact ⟨_, if_neg h, fun q => absurd q h⟩
theorem rd_dig {l : List Int} {E : Int} (hB : Byt l) : ∃ C, (if (if E = 0 then digE l else E) = 0 then Value.agg ⟨digC l⟩ else .agg ⟨z16⟩) = .agg ⟨C⟩ /\ C.length = 16 /\ C.all oneC = true /\ ((if E = 0 then digE l else E) = 0 -> digC l = C) := by
 by_cases h : (if E = 0 then digE l else E) = 0
 ·have h1 : digE l = 0 := by
   by_cases q : E = 0
   ·rwa [if_pos q] at h
   ·rw [if_neg q] at h; exact absurd h q
  exact ⟨_, if_pos h, digC_len hB h1, bys_one _, fun _ => rfl⟩
 ·exact ⟨_, if_neg h, rfl, rfl, fun q => absurd q h⟩
theorem rsE_true {E e : Int} : rsE E e true = if E = 0 then e else E := by
 unfold rsE
 by_cases h : E = 0 <;> by_cases h1 : e = 0 <;> simp [h, h1]
def RJ (l : List Int) (k b : Nat) (s : Value) (nx wr : Nat) (t0 : Tr AObj) (st : St) : Prop := ∃ e t nx1 wr1 D, st = ⟨e, 114, ⟨t, nx1, wr1⟩⟩ /\ e.get 2 = some (.pointer (some ⟨nx, 0, none⟩)) /\ e.get 5 = some (.pointer (some ⟨nx + 1, 0, none⟩)) /\ e.get 6 = some (.pointer (some ⟨nx + 2, 0, none⟩)) /\ t.get nx = some (.row z46 nx BIG false 46) /\ t.get (nx + 1) = some (.row (rdrow s (dN l k) (dE l k)) (nx + 1) BIG false 3) /\ t.get (nx + 2) = some (.row D (nx + 2) BIG false D.length) /\ D.length = 46 /\ (dE l k = 0 -> D = dD l k) /\ nx + 3 <= nx1 /\ nx1 <= nx + 3 + b /\ min wr nx <= wr1 /\ wr1 <= wr /\ (∀ i, i < nx -> t.get i = t0.get i)
theorem rdrow_refl {t : Tr AObj} {K : Nat -> Prop} {s : Value} {l : List Int} {N E : Int} (h : BV t K s l) : ∀ v ∈ rdrow s N E, eqV 20 v v = true := by
 intro v hv
 obtain ⟨a, c, rfl⟩ := h.len
 simp only [rdrow, List.mem_cons, List.not_mem_nil, or_false] at hv
 rcases hv with rfl | rfl | rfl
 ·exact eqV_slice
 ·exact eqV_int
 ·exact eqV_int
noncomputable def c_rdec := cEx Tryz.prog 12 DRR
theorem con_rdec : Con Tryz.prog 12 c_rdec := con_ex Tryz.func12 rfl
theorem rdec_c {t0 : Tr AObj} {K : Nat -> Prop} {nx wr : Nat} {s : Value} {l : List Int} (hbv : BV t0 K s l) (hK : ∀ i, K i -> i < nx) (hB : Byt l) (hb : l.length <= 4294967296) (hN : nx + 30 * l.length + 1000 <= BIG) (hwr : wr <= BIG) : ∃ v h', c_rdec [s] ⟨t0, nx, wr⟩ = some (v, h') /\ DRpost l t0 nx wr v h' := by
 have hP := Fits
 have hC : CallSound Tryz.prog (tabOf [(36, c_rin), (37, c_rdg), (38, c_rtx), (39, c_gbr), (40, c_rs)]) := tab_sound (tab_cons con_rin (tab_cons con_rdg (tab_cons con_rtx (tab_cons con_gbr (tab_cons con_rs tab_end)))))
 suffices key : SureK Tryz.prog ⟨t0, nx, wr⟩ _ [] _ (EndR Tryz.prog _ (DRR [s] ⟨t0, nx, wr⟩)) by
  obtain ⟨v, h', q, c⟩ := sure_start (R := DRR) (sz := 114) Tryz.func12 rfl rfl zo key
  exact ⟨v, h', q, c K s l rfl hbv⟩
 refine s_seq (s_region hP hC ?_)
 refine os (y_alloc rfl T.z35 rfl rfl) ?_
 refine oA ?_
 refine oA ?_
 refine o_done (se_seq (s_seq (s_region hP hC (oM ?_))))
 refine os (x_build (v := .agg ⟨rdrow s 0 0⟩) rfl zp T.z82 rfl (by obtain ⟨a, c, e⟩ := hbv.len; rw [e]; kernel_rfl)) ?_
 refine os (y_boxA rfl zt) ?_
 refine oA ?_
 refine o_done (se_seq (s_seq ?_))
 refine s_join (RJ l 0 (0 * (3 * l.length + 20)) s nx wr t0) ?_ ?_
 ·skip
  refine s_region hP hC ?_
  refine os (y_alloc rfl T.z35 rfl rfl) ?_
  refine o_done ?_
  refine se_loop ?_
  exact ⟨_, _, _, _, z46, rfl, hg, hg, hg, by (repeat (first | rw [gn ow])) <;> first | rfl | assumption | (rw [gp ow]; done) | (rw [gp ow]; rfl), by (repeat (first | rw [gn ow])) <;> first | rfl | assumption | (rw [gp ow]; done) | (rw [gp ow]; rfl), by (repeat (first | rw [gn ow])) <;> first | rfl | assumption | (rw [gp ow]; done) | (rw [gp ow]; rfl), rfl, fun _ => rfl, by omega, by omega, by omega, by omega, fun i hi => by (repeat (first | rw [gn ow])) <;> first | rfl | assumption | (rw [gp ow]; done) | (rw [gp ow]; rfl)⟩
 ·skip
  rintro _ ⟨e, t, nx1, wr1, D, rfl, he2, he5, he6, hz, hr, ha, hl0, hDD, n0, n1, w0, w1, hx⟩
  refine s_seq (s_region hP hC (oM ?_))
  have hng := dN_rng hB 0
  have hbv1 := hbv.keep (t' := t) (fun i hi => hx i (hK i hi))
  have q1 : dN l 1 = _ := (rsN_d (l := l) (k := 0)).symm
  have q2 : dE l 1 = _ := (rsE_d (l := l) (k := 0)).symm
  refine o_callR (tab_hitR (rin_c (mn := 2) zd hbv1 hr ow (fun i q => by have := hK i q; omega) hB hb hng.1 hng.2 ow ow)) (wA_none rfl) rfl rfl rfl (by simp only [evs, ev_tmp, Tr.get_set, reduceIte, Nat.reduceEqDiff, Nat.reduceAdd, he2, he5, he6] <;> rfl) zd (fun v h1 hR => ?_)
  obtain ⟨t1, nx2, wr2, rfl, hV, hr1, n2, n3, w2, w3, hx1⟩ := hR
  have hr2 : t1.get (nx + 1) = some (.row (rdrow s (dN l 1) (dE l 1)) (nx + 1) BIG false 3) := by rw [q1, q2]; exact hr1
  have hz2 := (hx1 nx ow ow).trans hz
  have ha2 := (hx1 (nx + 2) ow ow).trans ha
  have hx2 : ∀ i, i < nx -> t1.get i = t0.get i := fun i hi => (hx1 i ow ow).trans (hx i hi)
  obtain ⟨ns, hL1, hL2, hL3⟩ := rd_ints (l := (l.drop (dN l 0).toNat)) (E := dE l 0) (n := 2)
  rw [hL1] at hV
  obtain ⟨x0, x1, rfl⟩ := ex2 hL2
  obtain ⟨id, cp, hvv, hW⟩ := hV
  obtain rfl : v = .slice (some ⟨id, 0, none⟩) 2 cp := hvv
  clear hL1
  have hv0 : List.length (α := Value) [.int .i64 x0] = 1 := rfl
  have hl1 : (splice D 0 [.int .i64 x0]).length = 46 := (splice_len (by rw [hv0]; omega)).trans hl0
  have hv1 : List.length (α := Value) [.int .i64 x1] = 1 := rfl
  have hl2 : (splice (splice D 0 [.int .i64 x0]) 1 [.int .i64 x1]).length = 46 := (splice_len (by rw [hv1]; omega)).trans hl1
  have hDQ : dE l 1 = 0 -> (splice (splice D 0 [.int .i64 x0]) 1 [.int .i64 x1]) = dD l 1 := fun q => by
   have hdd := hDD (dE_back q)
   have q3 : dD l 1 = _ := (dP_next (dE_back q)).2.2
   symm
   rw [q3, hdd]; show stI _ [0, 1] _ = _; rw [hL3 (q2.symm.trans q)]; rfl
  refine oA ?_
  refine o_done (se_seq (s_seq (s_region hP hC (oM ?_))))
  refine os (x_index rfl za (by rfl) u22 T.s3 ow ow) ?_
  refine os (x_load1 rfl za T.g3 (l_whole (hW _ _ _ (fun i h1 h2 => by first | rfl | (repeat rw [gn ow]))) 0 1 (Nat.le_of_ble_eq_true rfl))) ?_
  refine os (x_field (off' := 0) rfl za u35 rfl T.s3 rfl) ?_
  refine o_stepN (wA_none rfl) rfl (y_store1P (off := 0) rfl za za rfl T.s3 ha2 rfl (by rw [hl0]; decide) rfl rfl) ?_
  refine o_done (se_seq (s_seq ?_))
  refine s_join (RJ l 1 (1 * (3 * l.length + 20)) s nx wr t0) ?_ ?_
  ·skip
   refine s_region hP hC (oM ?_)
   refine os (x_index rfl za (by rfl) u22 T.s3 ow ow) ?_
   refine os (x_load1 rfl za T.g3 (l_whole (hW _ _ _ (fun i h1 h2 => by first | rfl | (repeat rw [gn ow]))) 1 1 (Nat.le_of_ble_eq_true rfl))) ?_
   refine os (x_field (off' := 1) rfl za u35 rfl T.s3 rfl) ?_
   refine o_stepN (wA_none rfl) rfl (y_store1P (off := 1) rfl za za rfl T.s3 (show Tr.get _ (nx + 2) = _ from by rw [gp rfl]) rfl (by rw [hl1]; decide) rfl rfl) ?_
   refine o_done ?_
   refine se_loop ?_
   exact ⟨_, _, _, _, _, rfl, za, za, za, by (repeat rw [gn ow]); exact hz2, by (repeat rw [gn ow]); exact hr2, by rw [gp rfl], hl2, hDQ, by omega, by omega, by omega, by omega, fun i hi => by (repeat rw [gn ow]); exact hx2 i hi⟩
  ·skip
   clear he2 he5 he6 hz hr ha hl0 hDD n0 n1 w0 w1 hx hng hbv1 q1 q2 hr1 n2 n3 w2 w3 hx1 hr2 hz2 ha2 hx2 hDQ hL2 hL3 hW hv0 hv1 hl1 hl2
   rintro _ ⟨e, t, nx1, wr1, D, rfl, he2, he5, he6, hz, hr, ha, hl0, hDD, n0, n1, w0, w1, hx⟩
   refine s_seq ?_
   refine s_join (RJ l 2 (2 * (3 * l.length + 20)) s nx wr t0) ?_ ?_
   ·skip
    refine s_region hP hC (oM ?_)
    have hng := dN_rng hB 1
    have hbv1 := hbv.keep (t' := t) (fun i hi => hx i (hK i hi))
    have q1 : dN l 2 = _ := (rsN_d (l := l) (k := 1)).symm
    have q2 : dE l 2 = _ := (rsE_d (l := l) (k := 1)).symm
    refine o_callR (tab_missR zd (tab_hitR (rdg_c hbv1 hr ow (fun i q => by have := hK i q; omega) hB hb hng.1 hng.2 ow ow))) (wA_none rfl) rfl rfl rfl (by simp only [evs, ev_tmp, Tr.get_set, reduceIte, Nat.reduceEqDiff, Nat.reduceAdd, he2, he5, he6] <;> rfl) zd (fun v h1 hR => ?_)
    obtain ⟨t1, nx2, wr2, rfl, hV, hr1, n2, n3, w2, w3, hx1⟩ := hR
    have hr2 : t1.get (nx + 1) = some (.row (rdrow s (dN l 2) (dE l 2)) (nx + 1) BIG false 3) := by rw [q1, q2]; exact hr1
    have hz2 := (hx1 nx ow ow).trans hz
    have ha2 := (hx1 (nx + 2) ow ow).trans ha
    have hx2 : ∀ i, i < nx -> t1.get i = t0.get i := fun i hi => (hx1 i ow ow).trans (hx i hi)
    obtain ⟨C, hC1, hC16, hCo, hC3⟩ := rd_dig (E := dE l 1) (byt_drop hB (dN l 1).toNat)
    obtain rfl : v = .agg ⟨C⟩ := hV.trans hC1
    have hv0 : List.length (α := Value) C = 16 := hC16
    have hl1 : (splice D 2 C).length = 46 := (splice_len (by rw [hv0]; omega)).trans hl0
    have hDQ : dE l 2 = 0 -> (splice D 2 C) = dD l 2 := fun q => by
     have hdd := hDD (dE_back q)
     have q3 : dD l 2 = _ := (dP_next (dE_back q)).2.2
     symm
     rw [q3, hdd]; show splice _ 2 _ = _; rw [hC3 (q2.symm.trans q)]
    refine os (x_field (off' := 2) rfl za u35 rfl T.s29 rfl) ?_
    refine os (x_field (off' := 2) rfl za u29 rfl T.s25 rfl) ?_
    refine o_stepN (wA_none rfl) rfl (y_storeAP (off := 2) rfl za za T.s25 hv0 ha2 rfl (by rw [hl0]; decide) hCo rfl) ?_
    refine o_done ?_
    refine se_loop ?_
    exact ⟨_, _, _, _, _, rfl, za, za, za, by (repeat rw [gn ow]); exact hz2, by (repeat rw [gn ow]); exact hr2, by rw [gp rfl], hl1, hDQ, by omega, by omega, by omega, by omega, fun i hi => by (repeat rw [gn ow]); exact hx2 i hi⟩
   ·skip
    clear he2 he5 he6 hz hr ha hl0 hDD n0 n1 w0 w1 hx
    rintro _ ⟨e, t, nx1, wr1, D, rfl, he2, he5, he6, hz, hr, ha, hl0, hDD, n0, n1, w0, w1, hx⟩
    refine s_seq ?_
    refine s_join (RJ l 3 (3 * (3 * l.length + 20)) s nx wr t0) ?_ ?_
    ·skip
     refine s_region hP hC (oM ?_)
     have hng := dN_rng hB 2
     have hbv1 := hbv.keep (t' := t) (fun i hi => hx i (hK i hi))
     have q1 : dN l 3 = _ := (rsN_d (l := l) (k := 2)).symm
     have q2 : dE l 3 = _ := (rsE_d (l := l) (k := 2)).symm
     refine o_callR (tab_missR zd (tab_missR zd (tab_hitR (rtx_c hbv1 hr ow (fun i q => by have := hK i q; omega) hB hb hng.1 hng.2 ow ow)))) (wA_none rfl) rfl rfl rfl (by simp only [evs, ev_tmp, Tr.get_set, reduceIte, Nat.reduceEqDiff, Nat.reduceAdd, he2, he5, he6] <;> rfl) zd (fun v h1 hR => ?_)
     obtain ⟨t1, nx2, wr2, rfl, hV, hr1, n2, n3, w2, w3, hx1⟩ := hR
     have hr2 : t1.get (nx + 1) = some (.row (rdrow s (dN l 3) (dE l 3)) (nx + 1) BIG false 3) := by rw [q1, q2]; exact hr1
     have hz2 := (hx1 nx ow ow).trans hz
     have ha2 := (hx1 (nx + 2) ow ow).trans ha
     have hx2 : ∀ i, i < nx -> t1.get i = t0.get i := fun i hi => (hx1 i ow ow).trans (hx i hi)
     obtain ⟨x, hx0, hx3⟩ := rd_text (l := (l.drop (dN l 2).toNat)) (E := dE l 2)
     obtain rfl : v = .string x := hV.trans hx0
     have hv0 : List.length (α := Value) [.string x] = 1 := rfl
     have hl1 : (splice D 18 [.string x]).length = 46 := (splice_len (by rw [hv0]; omega)).trans hl0
     have hDQ : dE l 3 = 0 -> (splice D 18 [.string x]) = dD l 3 := fun q => by
      have hdd := hDD (dE_back q)
      have q3 : dD l 3 = _ := (dP_next (dE_back q)).2.2
      symm
      rw [q3, hdd]; show splice _ 18 _ = _; rw [hx3 (q2.symm.trans q)]
     refine os (x_field (off' := 2) rfl za u35 rfl T.s29 rfl) ?_
     refine os (x_field (off' := 18) rfl za u29 rfl T.s9 rfl) ?_
     refine o_stepN (wA_none rfl) rfl (y_store1P (off := 18) rfl za za rfl T.s9 ha2 rfl (by rw [hl0]; decide) rfl rfl) ?_
     refine o_done ?_
     refine se_loop ?_
     exact ⟨_, _, _, _, _, rfl, za, za, za, by (repeat rw [gn ow]); exact hz2, by (repeat rw [gn ow]); exact hr2, by rw [gp rfl], hl1, hDQ, by omega, by omega, by omega, by omega, fun i hi => by (repeat rw [gn ow]); exact hx2 i hi⟩
    ·skip
     clear he2 he5 he6 hz hr ha hl0 hDD n0 n1 w0 w1 hx
     rintro _ ⟨e, t, nx1, wr1, D, rfl, he2, he5, he6, hz, hr, ha, hl0, hDD, n0, n1, w0, w1, hx⟩
     refine s_seq (s_region hP hC (oM ?_))
     have hng := dN_rng hB 3
     have hbv1 := hbv.keep (t' := t) (fun i hi => hx i (hK i hi))
     have q1 : dN l 4 = _ := (rsN_d (l := l) (k := 3)).symm
     have q2 : dE l 4 = _ := (rsE_d (l := l) (k := 3)).symm
     refine o_callR (tab_hitR (rin_c (mn := 4) zd hbv1 hr ow (fun i q => by have := hK i q; omega) hB hb hng.1 hng.2 ow ow)) (wA_none rfl) rfl rfl rfl (by simp only [evs, ev_tmp, Tr.get_set, reduceIte, Nat.reduceEqDiff, Nat.reduceAdd, he2, he5, he6] <;> rfl) zd (fun v h1 hR => ?_)
     obtain ⟨t1, nx2, wr2, rfl, hV, hr1, n2, n3, w2, w3, hx1⟩ := hR
     have hr2 : t1.get (nx + 1) = some (.row (rdrow s (dN l 4) (dE l 4)) (nx + 1) BIG false 3) := by rw [q1, q2]; exact hr1
     have hz2 := (hx1 nx ow ow).trans hz
     have ha2 := (hx1 (nx + 2) ow ow).trans ha
     have hx2 : ∀ i, i < nx -> t1.get i = t0.get i := fun i hi => (hx1 i ow ow).trans (hx i hi)
     obtain ⟨ns, hL1, hL2, hL3⟩ := rd_ints (l := (l.drop (dN l 3).toNat)) (E := dE l 3) (n := 4)
     rw [hL1] at hV
     obtain ⟨x0, x1, x2, x3, rfl⟩ := ex4 hL2
     obtain ⟨id, cp, hvv, hW⟩ := hV
     obtain rfl : v = .slice (some ⟨id, 0, none⟩) 4 cp := hvv
     clear hL1
     have hv0 : List.length (α := Value) [.int .i64 x0, .int .i64 x1, .int .i64 x2] = 3 := rfl
     have hl1 : (splice D 19 [.int .i64 x0, .int .i64 x1, .int .i64 x2]).length = 46 := (splice_len (by rw [hv0]; omega)).trans hl0
     have hv1 : List.length (α := Value) [.int .i64 x3] = 1 := rfl
     have hl2 : (splice (splice D 19 [.int .i64 x0, .int .i64 x1, .int .i64 x2]) 22 [.int .i64 x3]).length = 46 := (splice_len (by rw [hv1]; omega)).trans hl1
     have hDQ : dE l 4 = 0 -> (splice (splice D 19 [.int .i64 x0, .int .i64 x1, .int .i64 x2]) 22 [.int .i64 x3]) = dD l 4 := fun q => by
      have hdd := hDD (dE_back q)
      have q3 : dD l 4 = _ := (dP_next (dE_back q)).2.2
      symm
      rw [q3, hdd]; show stI _ [19, 20, 21, 22] _ = _; rw [hL3 (q2.symm.trans q)]; exact (env_eq ((dD_blank hB (dE_back q)).2.2.2.1 rfl) _ _ _ _).symm
     refine oA ?_
     refine o_done (se_seq (s_seq ?_))
     have hqB : nx2 <= BIG := by omega
     refine s_draw hP hC zr ?_
     refine dM ?_
     refine ds (x_index rfl za (by rfl) u22 T.s3 ow ow) ?_
     refine ds (x_load1 rfl za T.g3 (l_whole (hW _ _ _ (fun i h1 h2 => by first | rfl | (repeat rw [gn ow]))) 0 1 (Nat.le_of_ble_eq_true rfl))) ?_
     refine dM ?_
     refine ds (x_index rfl za (by rfl) u22 T.s3 ow ow) ?_
     refine ds (x_load1 rfl za T.g3 (l_whole (hW _ _ _ (fun i h1 h2 => by first | rfl | (repeat rw [gn ow]))) 1 1 (Nat.le_of_ble_eq_true rfl))) ?_
     refine dM ?_
     refine ds (x_index rfl za (by rfl) u22 T.s3 ow ow) ?_
     refine ds (x_load1 rfl za T.g3 (l_whole (hW _ _ _ (fun i h1 h2 => by first | rfl | (repeat rw [gn ow]))) 2 1 (Nat.le_of_ble_eq_true rfl))) ?_
     refine ds (x_build (v := .agg ⟨[.int .i64 x0, .int .i64 x1, .int .i64 x2]⟩) rfl (by simp only [evP, ev_tmp, Tr.get_set, reduceIte, Nat.reduceEqDiff, Nat.reduceAdd, he2, he5, he6] <;> rfl) T.z27 rfl zr) ?_
     refine ds (x_field (off' := 2) rfl za u35 rfl T.s29 rfl) ?_
     refine ds (x_field (off' := 19) rfl za u29 rfl T.s27 rfl) ?_
     refine d_stepN (wA_none rfl) rfl (y_storeAP (off := 19) rfl za za T.s27 hv0 ha2 rfl (by rw [hl0]; decide) rfl rfl) ?_
     refine d_done ⟨?_, ?_⟩
     ·exact de_last (by simp only [List.all_append, List.all_cons, List.all_nil, infOf, decide_eq_true hqB, Bool.and_self]) zr (by show _ <= BIG; omega) (by show _ <= BIG; first | omega | (dsimp only; omega))
     refine se_seq (s_seq ?_)
     refine s_join (RJ l 4 (4 * (3 * l.length + 20)) s nx wr t0) ?_ ?_
     ·skip
      refine s_region hP hC (oM ?_)
      refine os (x_index rfl za (by rfl) u22 T.s3 ow ow) ?_
      refine os (x_load1 rfl za T.g3 (l_whole (hW _ _ _ (fun i h1 h2 => by first | rfl | (repeat rw [gn ow]))) 3 1 (Nat.le_of_ble_eq_true rfl))) ?_
      refine os (x_field (off' := 2) rfl za u35 rfl T.s29 rfl) ?_
      refine os (x_field (off' := 22) rfl za u29 rfl T.s3 rfl) ?_
      refine o_stepN (wA_none rfl) rfl (y_store1P (off := 22) rfl za za rfl T.s3 (show Tr.get _ (nx + 2) = _ from by rw [gp rfl]) rfl (by rw [hl1]; decide) rfl rfl) ?_
      refine o_done ?_
      refine se_loop ?_
      exact ⟨_, _, _, _, _, rfl, za, za, za, by (repeat rw [gn ow]); exact hz2, by (repeat rw [gn ow]); exact hr2, by rw [gp rfl], hl2, hDQ, by omega, by omega, by omega, by omega, fun i hi => by (repeat rw [gn ow]); exact hx2 i hi⟩
     ·skip
      clear he2 he5 he6 hz hr ha hl0 hDD n0 n1 w0 w1 hx hng hbv1 q1 q2 hr1 n2 n3 w2 w3 hx1 hr2 hz2 ha2 hx2 hDQ hL2 hL3 hW hv0 hv1 hl1 hl2
      rintro _ ⟨e, t, nx1, wr1, D, rfl, he2, he5, he6, hz, hr, ha, hl0, hDD, n0, n1, w0, w1, hx⟩
      refine s_seq (s_region hP hC (oM ?_))
      have hng := dN_rng hB 4
      have hbv1 := hbv.keep (t' := t) (fun i hi => hx i (hK i hi))
      have q1 : dN l 5 = _ := (rsN_d (l := l) (k := 4)).symm
      have q2 : dE l 5 = _ := (rsE_d (l := l) (k := 4)).symm
      refine o_callR (tab_hitR (rin_c (mn := 5) zd hbv1 hr ow (fun i q => by have := hK i q; omega) hB hb hng.1 hng.2 ow ow)) (wA_none rfl) rfl rfl rfl (by simp only [evs, ev_tmp, Tr.get_set, reduceIte, Nat.reduceEqDiff, Nat.reduceAdd, he2, he5, he6] <;> rfl) zd (fun v h1 hR => ?_)
      obtain ⟨t1, nx2, wr2, rfl, hV, hr1, n2, n3, w2, w3, hx1⟩ := hR
      have hr2 : t1.get (nx + 1) = some (.row (rdrow s (dN l 5) (dE l 5)) (nx + 1) BIG false 3) := by rw [q1, q2]; exact hr1
      have hz2 := (hx1 nx ow ow).trans hz
      have ha2 := (hx1 (nx + 2) ow ow).trans ha
      have hx2 : ∀ i, i < nx -> t1.get i = t0.get i := fun i hi => (hx1 i ow ow).trans (hx i hi)
      obtain ⟨ns, hL1, hL2, hL3⟩ := rd_ints (l := (l.drop (dN l 4).toNat)) (E := dE l 4) (n := 5)
      rw [hL1] at hV
      obtain ⟨x0, x1, x2, x3, x4, rfl⟩ := ex5 hL2
      obtain ⟨id, cp, hvv, hW⟩ := hV
      obtain rfl : v = .slice (some ⟨id, 0, none⟩) 5 cp := hvv
      clear hL1
      have hv0 : List.length (α := Value) ([.int .i64 x0, .string .empty, .int .i64 x1, .int .i64 x2, .int .i64 x3, .int .i64 x4] ++ z16) = 22 := rfl
      have hl1 : (splice D 23 ([.int .i64 x0, .string .empty, .int .i64 x1, .int .i64 x2, .int .i64 x3, .int .i64 x4] ++ z16)).length = 46 := (splice_len (by rw [hv0]; omega)).trans hl0
      have hDQ : dE l 5 = 0 -> (splice D 23 ([.int .i64 x0, .string .empty, .int .i64 x1, .int .i64 x2, .int .i64 x3, .int .i64 x4] ++ z16)) = dD l 5 := fun q => by
       have hdd := hDD (dE_back q)
       have q3 : dD l 5 = _ := (dP_next (dE_back q)).2.2
       symm
       rw [q3, hdd]; show stI _ [23, 25, 26, 27, 28] _ = _; rw [hL3 (q2.symm.trans q)]; exact (res_eq ((dD_blank hB (dE_back q)).2.2.2.2 rfl) _ _ _ _ _).symm
      refine oA ?_
      refine o_done (se_seq (s_seq ?_))
      refine s_join (RJ l 5 (5 * (3 * l.length + 20)) s nx wr t0) ?_ ?_
      ·skip
       have hqB : nx2 <= BIG := by omega
       refine s_draw hP hC zr ?_
       refine dM ?_
       refine ds (x_index rfl za (by rfl) u22 T.s3 ow ow) ?_
       refine ds (x_load1 rfl za T.g3 (l_whole (hW _ _ _ (fun i h1 h2 => by first | rfl | (repeat rw [gn ow]))) 0 1 (Nat.le_of_ble_eq_true rfl))) ?_
       refine dM ?_
       refine ds (x_index rfl za (by rfl) u22 T.s3 ow ow) ?_
       refine ds (x_load1 rfl za T.g3 (l_whole (hW _ _ _ (fun i h1 h2 => by first | rfl | (repeat rw [gn ow]))) 1 1 (Nat.le_of_ble_eq_true rfl))) ?_
       refine dM ?_
       refine ds (x_index rfl za (by rfl) u22 T.s3 ow ow) ?_
       refine ds (x_load1 rfl za T.g3 (l_whole (hW _ _ _ (fun i h1 h2 => by first | rfl | (repeat rw [gn ow]))) 2 1 (Nat.le_of_ble_eq_true rfl))) ?_
       refine dM ?_
       refine ds (x_index rfl za (by rfl) u22 T.s3 ow ow) ?_
       refine ds (x_load1 rfl za T.g3 (l_whole (hW _ _ _ (fun i h1 h2 => by first | rfl | (repeat rw [gn ow]))) 3 1 (Nat.le_of_ble_eq_true rfl))) ?_
       refine dM ?_
       refine ds (x_index rfl za (by rfl) u22 T.s3 ow ow) ?_
       refine ds (x_load1 rfl za T.g3 (l_whole (hW _ _ _ (fun i h1 h2 => by first | rfl | (repeat rw [gn ow]))) 4 1 (Nat.le_of_ble_eq_true rfl))) ?_
       refine ds (x_build (v := .agg ⟨[.int .i64 x2, .int .i64 x3, .int .i64 x4]⟩) rfl (by simp only [evP, ev_tmp, Tr.get_set, reduceIte, Nat.reduceEqDiff, Nat.reduceAdd, he2, he5, he6] <;> rfl) T.z31 rfl zr) ?_
       refine ds (x_build (v := .agg ⟨[.int .i64 x0, .string .empty, .int .i64 x1, .int .i64 x2, .int .i64 x3, .int .i64 x4] ++ z16⟩) rfl (by simp only [evP, ev_tmp, Tr.get_set, reduceIte, Nat.reduceEqDiff, Nat.reduceAdd, he2, he5, he6] <;> rfl) T.z33 rfl zr) ?_
       refine ds (x_field (off' := 23) rfl za u35 rfl T.s33 rfl) ?_
       refine d_stepN (wA_none rfl) rfl (y_storeAP (off := 23) rfl za za T.s33 hv0 ha2 rfl (by rw [hl0]; decide) rfl rfl) ?_
       refine d_done ⟨?_, ?_⟩
       ·exact de_last (by simp only [List.all_append, List.all_cons, List.all_nil, infOf, decide_eq_true hqB, Bool.and_self]) zr (by show _ <= BIG; omega) (by show _ <= BIG; first | omega | (dsimp only; omega))
       refine se_loop ?_
       exact ⟨_, _, _, _, _, rfl, za, za, za, by (repeat rw [gn ow]); exact hz2, by (repeat rw [gn ow]); exact hr2, by rw [gp rfl], hl1, hDQ, by omega, by omega, by omega, by omega, fun i hi => by (repeat rw [gn ow]); exact hx2 i hi⟩
      ·skip
       clear he2 he5 he6 hz hr ha hl0 hDD n0 n1 w0 w1 hx hng hbv1 q1 q2 hr1 n2 n3 w2 w3 hx1 hr2 hz2 ha2 hx2 hDQ hL2 hL3 hW hv0 hl1
       rintro _ ⟨e, t, nx1, wr1, D, rfl, he2, he5, he6, hz, hr, ha, hl0, hDD, n0, n1, w0, w1, hx⟩
       refine s_seq ?_
       refine s_join (RJ l 6 (6 * (3 * l.length + 20)) s nx wr t0) ?_ ?_
       ·skip
        refine s_region hP hC (oM ?_)
        have hng := dN_rng hB 5
        have hbv1 := hbv.keep (t' := t) (fun i hi => hx i (hK i hi))
        have q1 : dN l 6 = _ := (rsN_d (l := l) (k := 5)).symm
        have q2 : dE l 6 = _ := (rsE_d (l := l) (k := 5)).symm
        refine o_callR (tab_missR zd (tab_missR zd (tab_hitR (rtx_c hbv1 hr ow (fun i q => by have := hK i q; omega) hB hb hng.1 hng.2 ow ow)))) (wA_none rfl) rfl rfl rfl (by simp only [evs, ev_tmp, Tr.get_set, reduceIte, Nat.reduceEqDiff, Nat.reduceAdd, he2, he5, he6] <;> rfl) zd (fun v h1 hR => ?_)
        obtain ⟨t1, nx2, wr2, rfl, hV, hr1, n2, n3, w2, w3, hx1⟩ := hR
        have hr2 : t1.get (nx + 1) = some (.row (rdrow s (dN l 6) (dE l 6)) (nx + 1) BIG false 3) := by rw [q1, q2]; exact hr1
        have hz2 := (hx1 nx ow ow).trans hz
        have ha2 := (hx1 (nx + 2) ow ow).trans ha
        have hx2 : ∀ i, i < nx -> t1.get i = t0.get i := fun i hi => (hx1 i ow ow).trans (hx i hi)
        obtain ⟨x, hx0, hx3⟩ := rd_text (l := (l.drop (dN l 5).toNat)) (E := dE l 5)
        obtain rfl : v = .string x := hV.trans hx0
        have hv0 : List.length (α := Value) [.string x] = 1 := rfl
        have hl1 : (splice D 24 [.string x]).length = 46 := (splice_len (by rw [hv0]; omega)).trans hl0
        have hDQ : dE l 6 = 0 -> (splice D 24 [.string x]) = dD l 6 := fun q => by
         have hdd := hDD (dE_back q)
         have q3 : dD l 6 = _ := (dP_next (dE_back q)).2.2
         symm
         rw [q3, hdd]; show splice _ 24 _ = _; rw [hx3 (q2.symm.trans q)]
        refine os (x_field (off' := 23) rfl za u35 rfl T.s33 rfl) ?_
        refine os (x_field (off' := 24) rfl za u33 rfl T.s9 rfl) ?_
        refine o_stepN (wA_none rfl) rfl (y_store1P (off := 24) rfl za za rfl T.s9 ha2 rfl (by rw [hl0]; decide) rfl rfl) ?_
        refine o_done ?_
        refine se_loop ?_
        exact ⟨_, _, _, _, _, rfl, za, za, za, by (repeat rw [gn ow]); exact hz2, by (repeat rw [gn ow]); exact hr2, by rw [gp rfl], hl1, hDQ, by omega, by omega, by omega, by omega, fun i hi => by (repeat rw [gn ow]); exact hx2 i hi⟩
       ·skip
        clear he2 he5 he6 hz hr ha hl0 hDD n0 n1 w0 w1 hx
        rintro _ ⟨e, t, nx1, wr1, D, rfl, he2, he5, he6, hz, hr, ha, hl0, hDD, n0, n1, w0, w1, hx⟩
        refine s_seq ?_
        refine s_join (RJ l 7 (7 * (3 * l.length + 20)) s nx wr t0) ?_ ?_
        ·skip
         refine s_region hP hC (oM ?_)
         have hng := dN_rng hB 6
         have hbv1 := hbv.keep (t' := t) (fun i hi => hx i (hK i hi))
         have q1 : dN l 7 = _ := (rsN_d (l := l) (k := 6)).symm
         have q2 : dE l 7 = _ := (rsE_d (l := l) (k := 6)).symm
         refine o_callR (tab_missR zd (tab_hitR (rdg_c hbv1 hr ow (fun i q => by have := hK i q; omega) hB hb hng.1 hng.2 ow ow))) (wA_none rfl) rfl rfl rfl (by simp only [evs, ev_tmp, Tr.get_set, reduceIte, Nat.reduceEqDiff, Nat.reduceAdd, he2, he5, he6] <;> rfl) zd (fun v h1 hR => ?_)
         obtain ⟨t1, nx2, wr2, rfl, hV, hr1, n2, n3, w2, w3, hx1⟩ := hR
         have hr2 : t1.get (nx + 1) = some (.row (rdrow s (dN l 7) (dE l 7)) (nx + 1) BIG false 3) := by rw [q1, q2]; exact hr1
         have hz2 := (hx1 nx ow ow).trans hz
         have ha2 := (hx1 (nx + 2) ow ow).trans ha
         have hx2 : ∀ i, i < nx -> t1.get i = t0.get i := fun i hi => (hx1 i ow ow).trans (hx i hi)
         obtain ⟨C, hC1, hC16, hCo, hC3⟩ := rd_dig (E := dE l 6) (byt_drop hB (dN l 6).toNat)
         obtain rfl : v = .agg ⟨C⟩ := hV.trans hC1
         have hv0 : List.length (α := Value) C = 16 := hC16
         have hl1 : (splice D 29 C).length = 46 := (splice_len (by rw [hv0]; omega)).trans hl0
         have hDQ : dE l 7 = 0 -> (splice D 29 C) = dD l 7 := fun q => by
          have hdd := hDD (dE_back q)
          have q3 : dD l 7 = _ := (dP_next (dE_back q)).2.2
          symm
          rw [q3, hdd]; show splice _ 29 _ = _; rw [hC3 (q2.symm.trans q)]
         refine os (x_field (off' := 23) rfl za u35 rfl T.s33 rfl) ?_
         refine os (x_field (off' := 29) rfl za u33 rfl T.s25 rfl) ?_
         refine o_stepN (wA_none rfl) rfl (y_storeAP (off := 29) rfl za za T.s25 hv0 ha2 rfl (by rw [hl0]; decide) hCo rfl) ?_
         refine o_done ?_
         refine se_loop ?_
         exact ⟨_, _, _, _, _, rfl, za, za, za, by (repeat rw [gn ow]); exact hz2, by (repeat rw [gn ow]); exact hr2, by rw [gp rfl], hl1, hDQ, by omega, by omega, by omega, by omega, fun i hi => by (repeat rw [gn ow]); exact hx2 i hi⟩
        ·skip
         clear he2 he5 he6 hz hr ha hl0 hDD n0 n1 w0 w1 hx
         rintro _ ⟨e, t, nx1, wr1, D, rfl, he2, he5, he6, hz, hr, ha, hl0, hDD, n0, n1, w0, w1, hx⟩
         refine s_seq ?_
         have hqB : nx1 <= BIG := by omega
         have hng := dN_rng hB 7
         have hbv1 := hbv.keep (t' := t) (fun i hi => hx i (hK i hi))
         have q1 : dN l 8 = _ := (rsN_d (l := l) (k := 7)).symm
         have q2 : dE l 8 = _ := (rsE_d (l := l) (k := 7)).symm
         obtain ⟨w, bw, hsl⟩ := x_sliceB (P := Tryz.prog) (T := 23) (lo := some (.tmp 87)) (hi := none) (i := dN l 7) (j := l.length) hbv1 u23 T.s5 ow ow ow (fun q => by cases q) (fun _ => rfl)
         rw [List.take_of_length_le (by rw [List.length_drop]; omega)] at bw
         have hBd : Byt (l.drop (dN l 7).toNat) := byt_drop hB _
         have hbd : (l.drop (dN l 7).toNat).length <= 4294967296 := by rw [List.length_drop]; omega
         have hgr := gbN_rng hBd
         rw [List.length_drop] at hgr
         refine s_draw hP hC zr ?_
         refine dM ?_
         refine ds (x_nilCheck rfl za) ?_
         refine ds (x_field (off' := 0) rfl za u82 rfl T.s23 rfl) ?_
         refine ds (x_load1 rfl za T.g23 (l_whole (d := rdrow s _ _) (whole_row hr rfl) 0 1 (Nat.le_of_ble_eq_true rfl))) ?_
         refine dM ?_
         refine ds (x_nilCheck rfl za) ?_
         refine ds (x_field (off' := 1) rfl za u82 rfl T.s3 rfl) ?_
         refine ds (x_load1 rfl za T.g3 (l_whole (d := rdrow s _ _) (whole_row hr rfl) 1 1 (Nat.le_of_ble_eq_true rfl))) ?_
         refine ds (hsl rfl za (fun a q => by cases q; exact za) (fun a q => by cases q)) ?_
         refine d_call0 (wA_none rfl) rfl rfl rfl (by simp only [evs, ev_tmp, Tr.get_set, reduceIte, Nat.reduceEqDiff, Nat.reduceAdd, he2, he5, he6] <;> rfl) zd ?_
         refine ⟨_, _, _, _, ((tab_miss zd).trans ((tab_miss zd).trans ((tab_miss zd).trans (tab_hit.trans (gbr_c bw.rd hBd (by rw [ok_gbr, decide_eq_true hbd])))))), ?_⟩
         refine dM ?_
         refine ds (x_extract rfl za rfl) ?_
         refine ds (x_extract rfl za rfl) ?_
         refine ds (x_extract rfl za rfl) ?_
         refine ds (x_assign rfl za) ?_
         refine ds (x_assign rfl za) ?_
         refine ds (x_assign rfl za) ?_
         refine d_done ⟨?_, ?_⟩
         ·exact de_quiet (by simp only [List.all_append, List.all_cons, List.all_nil, infOf, decide_eq_true hqB, Bool.and_self]) (by show _ <= BIG; omega) (by show _ <= BIG; first | omega | (dsimp only; omega))
         refine se_seq (s_seq (s_region hP hC (oM ?_)))
         refine oM ?_
         refine oM ?_
         refine o_callR (tab_missR zd (tab_missR zd (tab_missR zd (tab_missR zd (tab_hitR (rs_c hr (by show _ <= dN l 7 + gbN (l.drop (dN l 7).toNat) /\ dN l 7 + gbN (l.drop (dN l 7).toNat) <= _; omega))))))) (wA_none rfl) rfl rfl rfl (by simp only [evs, ev_tmp, Tr.get_set, reduceIte, Nat.reduceEqDiff, Nat.reduceAdd, he2, he5, he6] <;> rfl) zd (fun v h1 hR => ?_)
         obtain ⟨t1, wr2, rfl, rfl, hr1, hx1, w2, w3⟩ := hR
         have hr2 : t1.get (nx + 1) = some (.row (rdrow s (dN l 8) (dE l 8)) (nx + 1) BIG false 3) := by rw [q1, q2, <-rsE_true]; exact hr1
         have hz2 := (hx1 nx ow).trans hz
         have ha2 := (hx1 (nx + 2) ow).trans ha
         have hx2 : ∀ i, i < nx -> t1.get i = t0.get i := fun i hi => (hx1 i ow).trans (hx i hi)
         have hv0 : List.length [Value.string (gbS (l.drop (dN l 7).toNat))] = 1 := rfl
         have hl1 : (splice D 45 [.string (gbS (l.drop (dN l 7).toNat))]).length = 46 := (splice_len (by rw [hv0]; omega)).trans hl0
         have hDQ : dE l 8 = 0 -> (splice D 45 [.string (gbS (l.drop (dN l 7).toNat))]) = dD l 8 := fun q => by
          have hdd := hDD (dE_back q)
          have q3 : dD l 8 = _ := (dP_next (dE_back q)).2.2
          symm
          rw [q3, hdd]; rfl
         refine o_done (se_seq (s_seq ?_))
         refine s_join (RJ l 8 (8 * (3 * l.length + 20)) s nx wr t0) ?_ ?_
         ·skip
          refine s_region hP hC (oM ?_)
          refine os (x_field (off' := 45) rfl za u35 rfl T.s9 rfl) ?_
          refine o_stepN (wA_none rfl) rfl (y_store1P (off := 45) rfl za za rfl T.s9 ha2 rfl (by rw [hl0]; decide) rfl rfl) ?_
          refine o_done ?_
          refine se_loop ?_
          exact ⟨_, _, _, _, _, rfl, za, za, za, by (repeat rw [gn ow]); exact hz2, by (repeat rw [gn ow]); exact hr2, by rw [gp rfl], hl1, hDQ, by omega, by omega, by omega, by omega, fun i hi => by (repeat rw [gn ow]); exact hx2 i hi⟩
         ·skip
          clear he2 he5 he6 hz hr ha hl0 hDD n0 n1 w0 w1 hx hng hbv1 q1 q2 hr1 w2 w3 hx1 hr2 hz2 ha2 hx2 hDQ hv0 hl1 hsl bw hBd hbd hgr hqB
          rintro _ ⟨e, t, nx1, wr1, D, rfl, he2, he5, he6, hz, hr, ha, hl0, hDD, n0, n1, w0, w1, hx⟩
          refine s_seq (s_seq (s_region hP hC (oM ?_)))
          refine os (x_nilCheck rfl za) ?_
          refine os (x_field (off' := 2) rfl za u82 rfl T.s44 rfl) ?_
          refine os (x_load1 rfl za T.g44 (l_whole (d := rdrow s _ _) (whole_row hr rfl) 2 1 (Nat.le_of_ble_eq_true rfl))) ?_
          refine os (x_bin rfl za (by rfl) b_neq) ?_
          refine o_done (se_seq ?_)
          refine s_cond za (fun g2 => ?_) (fun g2 => ?_)
          ·have p2 := g2; try simp only [dd] at p2
           refine s_seq ?_
           have hqB : nx1 <= BIG := by omega
           have hE : ¬ dE l 8 = 0 := by assumption
           refine s_draw hP hC zr ?_
           refine ds (x_build (v := .agg ⟨z46⟩) rfl (by rfl) T.z35 rfl zr) ?_
           refine dM ?_
           refine ds (x_nilCheck rfl za) ?_
           refine ds (x_field (off' := 2) rfl za u82 rfl T.s44 rfl) ?_
           refine ds (x_load1 rfl za T.g44 (l_whole (d := rdrow s _ _) (whole_row hr rfl) 2 1 (Nat.le_of_ble_eq_true rfl))) ?_
           refine d_stepN (wA_none rfl) rfl (y_storeA rfl za za T.s35 rfl hz rfl rfl rfl) ?_
           refine ds (x_assign rfl (by rfl)) ?_
           refine ds (x_assign rfl za) ?_
           refine d_done ⟨?_, ?_⟩
           ·refine de_ok (tail_marks [true, true, true, true, true, false, true, true] [true, true, true, true, true, false, true, true] (.cons (fun _ => stab_none (x := infOf _ _ _ _ _ _ _) rfl (inf_pure rfl rfl hqB).1 (inf_pure rfl rfl hqB).2.1 (inf_pure rfl rfl hqB).2.2) (fun _ => (inf_pure rfl rfl hqB).2.1) (.cons (fun _ => stab_none (x := infOf _ _ _ _ _ _ _) rfl (inf_pure rfl rfl hqB).1 (inf_pure rfl rfl hqB).2.1 (inf_pure rfl rfl hqB).2.2) (fun _ => (inf_pure rfl rfl hqB).2.1) (.cons (fun _ => stab_none (x := infOf _ _ _ _ _ _ _) rfl (inf_pure rfl rfl hqB).1 (inf_pure rfl rfl hqB).2.1 (inf_pure rfl rfl hqB).2.2) (fun _ => (inf_pure rfl rfl hqB).2.1) (.cons (fun _ => stab_none (x := infOf _ _ _ _ _ _ _) rfl (inf_pure rfl rfl hqB).1 (inf_pure rfl rfl hqB).2.1 (inf_pure rfl rfl hqB).2.2) (fun _ => (inf_pure rfl rfl hqB).2.1) (.cons (fun _ => stab_keep (x := infOf _ _ _ _ _ _ _) (r := nx + 1) rfl (inf_load rfl (by simp only [readId, ev_tmp, Tr.get_set, reduceIte, Nat.reduceEqDiff, Nat.reduceAdd, he2, he5, he6, g2] <;> rfl) hqB (root_row hr) ow).1 (inf_load rfl (by simp only [readId, ev_tmp, Tr.get_set, reduceIte, Nat.reduceEqDiff, Nat.reduceAdd, he2, he5, he6, g2] <;> rfl) hqB (root_row hr) ow).2.1 (inf_load rfl (by simp only [readId, ev_tmp, Tr.get_set, reduceIte, Nat.reduceEqDiff, Nat.reduceAdd, he2, he5, he6, g2] <;> rfl) hqB (root_row hr) ow).2.2 ?_) (fun _ => (inf_load rfl (by simp only [readId, ev_tmp, Tr.get_set, reduceIte, Nat.reduceEqDiff, Nat.reduceAdd, he2, he5, he6, g2] <;> rfl) hqB (root_row hr) ow).2.1) (.cons (fun h => by cases h) (fun h => by cases h) (.cons (fun _ => stab_none (x := infOf _ _ _ _ _ _ _) rfl (inf_pure rfl rfl hqB).1 (inf_pure rfl rfl hqB).2.1 (inf_pure rfl rfl hqB).2.2) (fun _ => (inf_pure rfl rfl hqB).2.1) (.cons (fun _ => stab_none (x := infOf _ _ _ _ _ _ _) rfl (inf_pure rfl rfl hqB).1 (inf_pure rfl rfl hqB).2.1 (inf_pure rfl rfl hqB).2.2) (fun _ => (inf_pure rfl rfl hqB).2.1) .nil)))))))) zd) (by show nx1 <= BIG; omega) (by show wr1 <= BIG; omega)
            intro i y hy
            match i, hy with
            | 0, hy => cases hy; exact .inl (inf_pure rfl rfl hqB).2.1
            | 1, hy => cases hy; exact .inl (inf_pure rfl rfl hqB).2.1
            | 2, hy => cases hy; exact .inl (inf_pure rfl rfl hqB).2.1
            | 3, hy => cases hy; exact .inl (inf_pure rfl rfl hqB).2.1
            | 4, hy => cases hy; exact .inl (inf_load rfl (by simp only [readId, ev_tmp, Tr.get_set, reduceIte, Nat.reduceEqDiff, Nat.reduceAdd, he2, he5, he6, g2] <;> rfl) hqB (root_row hr) ow).2.1
            | 5, hy => cases hy; exact .inr (.inr (.inr (inf_idsK (id := nx + 1) (by simp only [readId, ev_tmp, Tr.get_set, reduceIte, Nat.reduceEqDiff, Nat.reduceAdd, he2, he5, he6, g2] <;> rfl) (root_row hr) (sameO_row hr (by rw [gn ow]; exact hr) (rdrow_refl hbv)))))
            | 6, hy => cases hy; exact .inl (inf_pure rfl rfl hqB).2.1
            | 7, hy => cases hy; exact .inl (inf_pure rfl rfl hqB).2.1
            | n + 8, hy => cases hy
           refine se_seq ?_
           refine s_ret ?_
           refine se_seq_ret ?_
           refine ⟨.inr rfl, _, (resA_cell za T.g35 T.s35 (l_all (whole_row (show Tr.get _ nx = _ from by rw [gp rfl]) rfl) rfl) (resA_tmp za (resA_tmp za resA_nil))), fun K2 s2 l2 hs2 hb2 => ?_⟩
           cases hs2
           have hl2 := hbv.uniq hb2
           rw [hl2]
           exact ⟨_, _, _, rfl, ⟨by show nx <= nx1; omega, by show nx1 <= nx + _; omega, by show min wr nx <= _; omega, by show _ <= wr; omega, fun i (hi : i < nx) => by rw [gn ow]; exact hx i hi⟩, by unfold decV; rw [if_neg hE]; rfl⟩
          ·have p2 := g2; try simp only [dd] at p2
           refine s_skip (se_seq (s_seq ?_))
           have hqB : nx1 <= BIG := by omega
           have hE : dE l 8 = 0 := by omega
           obtain rfl := hDD hE
           refine s_draw hP hC zr ?_
           refine ds (x_loadA rfl za T.g35 T.s35 (l_all (whole_row ha rfl) hl0.symm)) ?_
           refine dM ?_
           refine ds (x_nilCheck rfl za) ?_
           refine ds (x_field (off' := 1) rfl za u82 rfl T.s3 rfl) ?_
           refine ds (x_load1 rfl za T.g3 (l_whole (d := rdrow s _ _) (whole_row hr rfl) 1 1 (Nat.le_of_ble_eq_true rfl))) ?_
           refine d_stepN (wA_none rfl) rfl (y_storeA rfl za za T.s35 hl0 hz rfl rfl (cf_oneC (dD_cf hB hE (Nat.le_refl 8)))) ?_
           refine ds (x_assign rfl za) ?_
           refine ds (x_assign rfl (by rfl)) ?_
           refine d_done ⟨?_, ?_⟩
           ·refine de_ok (tail_marks [true, true, true, true, true, false, true, true] [true, true, true, true, true, false, true, true] (.cons (fun _ => stab_some (x := infOf _ _ _ _ _ _ _) (r := nx + 2) rfl (inf_load rfl (by simp only [readId, ev_tmp, Tr.get_set, reduceIte, Nat.reduceEqDiff, Nat.reduceAdd, he2, he5, he6, g2] <;> rfl) hqB (root_row ha) ow).1 (inf_load rfl (by simp only [readId, ev_tmp, Tr.get_set, reduceIte, Nat.reduceEqDiff, Nat.reduceAdd, he2, he5, he6, g2] <;> rfl) hqB (root_row ha) ow).2.1 (inf_load rfl (by simp only [readId, ev_tmp, Tr.get_set, reduceIte, Nat.reduceEqDiff, Nat.reduceAdd, he2, he5, he6, g2] <;> rfl) hqB (root_row ha) ow).2.2 ?_) (fun _ => (inf_load rfl (by simp only [readId, ev_tmp, Tr.get_set, reduceIte, Nat.reduceEqDiff, Nat.reduceAdd, he2, he5, he6, g2] <;> rfl) hqB (root_row ha) ow).2.1) (.cons (fun _ => stab_none (x := infOf _ _ _ _ _ _ _) rfl (inf_pure rfl rfl hqB).1 (inf_pure rfl rfl hqB).2.1 (inf_pure rfl rfl hqB).2.2) (fun _ => (inf_pure rfl rfl hqB).2.1) (.cons (fun _ => stab_none (x := infOf _ _ _ _ _ _ _) rfl (inf_pure rfl rfl hqB).1 (inf_pure rfl rfl hqB).2.1 (inf_pure rfl rfl hqB).2.2) (fun _ => (inf_pure rfl rfl hqB).2.1) (.cons (fun _ => stab_none (x := infOf _ _ _ _ _ _ _) rfl (inf_pure rfl rfl hqB).1 (inf_pure rfl rfl hqB).2.1 (inf_pure rfl rfl hqB).2.2) (fun _ => (inf_pure rfl rfl hqB).2.1) (.cons (fun _ => stab_keep (x := infOf _ _ _ _ _ _ _) (r := nx + 1) rfl (inf_load rfl (by simp only [readId, ev_tmp, Tr.get_set, reduceIte, Nat.reduceEqDiff, Nat.reduceAdd, he2, he5, he6, g2] <;> rfl) hqB (root_row hr) ow).1 (inf_load rfl (by simp only [readId, ev_tmp, Tr.get_set, reduceIte, Nat.reduceEqDiff, Nat.reduceAdd, he2, he5, he6, g2] <;> rfl) hqB (root_row hr) ow).2.1 (inf_load rfl (by simp only [readId, ev_tmp, Tr.get_set, reduceIte, Nat.reduceEqDiff, Nat.reduceAdd, he2, he5, he6, g2] <;> rfl) hqB (root_row hr) ow).2.2 ?_) (fun _ => (inf_load rfl (by simp only [readId, ev_tmp, Tr.get_set, reduceIte, Nat.reduceEqDiff, Nat.reduceAdd, he2, he5, he6, g2] <;> rfl) hqB (root_row hr) ow).2.1) (.cons (fun h => by cases h) (fun h => by cases h) (.cons (fun _ => stab_none (x := infOf _ _ _ _ _ _ _) rfl (inf_pure rfl rfl hqB).1 (inf_pure rfl rfl hqB).2.1 (inf_pure rfl rfl hqB).2.2) (fun _ => (inf_pure rfl rfl hqB).2.1) (.cons (fun _ => stab_none (x := infOf _ _ _ _ _ _ _) rfl (inf_pure rfl rfl hqB).1 (inf_pure rfl rfl hqB).2.1 (inf_pure rfl rfl hqB).2.2) (fun _ => (inf_pure rfl rfl hqB).2.1) .nil)))))))) zd) (by show nx1 <= BIG; omega) (by show wr1 <= BIG; omega)
            ·intro i y hy
             match i, hy with
             | 0, hy => cases hy; exact .inl (inf_load rfl (by simp only [readId, ev_tmp, Tr.get_set, reduceIte, Nat.reduceEqDiff, Nat.reduceAdd, he2, he5, he6, g2] <;> rfl) hqB (root_row ha) ow).2.1
             | 1, hy => cases hy; exact .inl (inf_pure rfl rfl hqB).2.1
             | 2, hy => cases hy; exact .inl (inf_pure rfl rfl hqB).2.1
             | 3, hy => cases hy; exact .inl (inf_pure rfl rfl hqB).2.1
             | 4, hy => cases hy; exact .inl (inf_load rfl (by simp only [readId, ev_tmp, Tr.get_set, reduceIte, Nat.reduceEqDiff, Nat.reduceAdd, he2, he5, he6, g2] <;> rfl) hqB (root_row hr) ow).2.1
             | 5, hy => exact .inr (.inr ⟨by decide, by kernel_rfl⟩)
             | 6, hy => cases hy; exact .inl (inf_pure rfl rfl hqB).2.1
             | 7, hy => cases hy; exact .inl (inf_pure rfl rfl hqB).2.1
             | n + 8, hy => cases hy
            ·intro i y hy
             match i, hy with
             | 0, hy => cases hy; exact .inl (inf_load rfl (by simp only [readId, ev_tmp, Tr.get_set, reduceIte, Nat.reduceEqDiff, Nat.reduceAdd, he2, he5, he6, g2] <;> rfl) hqB (root_row ha) ow).2.1
             | 1, hy => cases hy; exact .inl (inf_pure rfl rfl hqB).2.1
             | 2, hy => cases hy; exact .inl (inf_pure rfl rfl hqB).2.1
             | 3, hy => cases hy; exact .inl (inf_pure rfl rfl hqB).2.1
             | 4, hy => cases hy; exact .inl (inf_load rfl (by simp only [readId, ev_tmp, Tr.get_set, reduceIte, Nat.reduceEqDiff, Nat.reduceAdd, he2, he5, he6, g2] <;> rfl) hqB (root_row hr) ow).2.1
             | 5, hy => cases hy; exact .inr (.inr (.inr (inf_idsK (id := nx + 1) (by simp only [readId, ev_tmp, Tr.get_set, reduceIte, Nat.reduceEqDiff, Nat.reduceAdd, he2, he5, he6, g2] <;> rfl) (root_row hr) (sameO_row hr (by rw [gn ow]; exact hr) (rdrow_refl hbv)))))
             | 6, hy => cases hy; exact .inl (inf_pure rfl rfl hqB).2.1
             | 7, hy => cases hy; exact .inl (inf_pure rfl rfl hqB).2.1
             | n + 8, hy => cases hy
           refine se_seq ?_
           refine s_ret ?_
           refine ⟨.inr rfl, _, (resA_cell za T.g35 T.s35 (l_all (whole_row (show Tr.get _ nx = _ from by rw [gp rfl]) rfl) hl0.symm) (resA_tmp za (resA_tmp za resA_nil))), fun K2 s2 l2 hs2 hb2 => ?_⟩
           cases hs2
           have hl2 := hbv.uniq hb2
           rw [hl2]
           exact ⟨_, _, _, rfl, ⟨by show nx <= nx1; omega, by show nx1 <= nx + _; omega, by show min wr nx <= _; omega, by show _ <= wr; omega, fun i (hi : i < nx) => by rw [gn ow]; exact hx i hi⟩, by unfold decV; rw [if_pos hE]; rfl⟩
end Go.Proofs.YtfgmplbclpadbaaGreatDoor
