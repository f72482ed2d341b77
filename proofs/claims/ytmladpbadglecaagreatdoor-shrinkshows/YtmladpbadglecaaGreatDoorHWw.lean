/-
  What is wanted, and shown.
-/
import Derived.Test.YtmladpbadglecaaGreatDoorHWv
set_option linter.unusedSimpArgs false
set_option linter.unusedVariables false
namespace Go.Proofs.YtmladpbadglecaaGreatDoor
open Go.AM
set_option maxRecDepth 100000
set_option maxHeartbeats 1000000
set_option maxHeartbeats 16000000
def R_take : List Value -> AH -> Value -> AH -> Prop := fun args h v h' => ∀ K s l, args = [s, .int .i64 12] -> IV h.t K s l -> NW (l.take 12) 2 h.t h.next h.wr v h'
noncomputable def c_take := cEx Tryz.prog 4 R_take
theorem con_take : Con Tryz.prog 4 c_take := con_ex Tryz.func4 rfl
theorem take_c {t : Tr AObj} {nx wr : Nat} {K : Nat -> Prop} {s : Value} {l : List Int} (hs : IV t K s l) (hK : ∀ i, K i -> i < nx) (hl : l.length < 4611686018427387904) (hN : nx + 2000000 <= BIG) (hwr : wr <= BIG) : ∃ v h', c_take [s, .int .i64 12] ⟨t, nx, wr⟩ = some (v, h') /\ NW (l.take 12) 2 t nx wr v h' := by
 have hP := Fits
 have hC : CallSound Tryz.prog (tabOf []) := tab_sound tab_end
 have hF0 : Fr t nx wr t nx wr 0 := Fr.refl
 obtain ⟨k, hk⟩ : ∃ k, k = min l.length 12 := ⟨_, rfl⟩
 have hmin : min (l.length : Int) 12 = (k : Int) := by omega
 suffices key : SureK Tryz.prog ⟨t, nx, wr⟩ _ [] _ (EndR Tryz.prog _ (R_take [s, .int .i64 12] ⟨t, nx, wr⟩)) by
  obtain ⟨v, h', q, c⟩ := sure_start (R := R_take) (sz := 14) Tryz.func4 rfl rfl zo key
  exact ⟨v, h', q, c K s l rfl hs⟩
 refine s_seq (s_region hP hC (oA ?_))
 refine o_done (se_seq (s_seq (s_region hP hC (oA ?_))))
 refine o_done (se_seq (s_seq (s_region hP hC (oM ?_))))
 refine oM ?_
 refine oM ?_
 refine os (x_lenI hs rfl rfl zv rfl u22) ?_
 refine oM ?_
 refine os (x_min rfl rfl zv hmin) ?_
 obtain ⟨wS, iS, hsS⟩ := x_sliceW (P := Tryz.prog) (T := 22) (lo := none) (hi := some (.tmp 11)) (i := 0) (j := (k : Int)) hs u22 T.s3 ow ow ow (fun _ => rfl) (fun q => by cases q)
 have eS : (l.drop (0 : Int).toNat).take ((k : Int).toNat - (0 : Int).toNat) = l.take 12 := by
  rw [Int.toNat_zero, List.drop_zero, Int.toNat_natCast, Nat.sub_zero]
  by_cases q : l.length <= 12
  ·rw [List.take_of_length_le ow, List.take_of_length_le q]
  ·rw [show k = 12 by omega]
 rw [eS] at iS
 have zS : (l.take 12).length <= 12 := by rw [List.length_take]; omega
 refine os (hsS (fun _ _ => rfl) rfl zt (fun a q => by cases q) (fun a q => by cases q; exact zt)) ?_
 refine o_appC (AccC.start (t := t) (nx := nx) (n0 := nx)) (cells_cv iS.cv u22 T.s3) (wA_none rfl) rfl rfl rfl zv rfl rfl zr u22 T.i22 zd zd (ints_oneC _) ow (fun x hx => rfl) ow (by rw [ints_len, List.length_nil]; omega) (fun v1 t1 n1 w1 S1 hA1 => ?_)
 have la1 := hA1.le
 have lb1 := hA1.hi
 have lc1 := hA1.wlo
 have ld1 := hA1.whi
 have ac1 := hA1.acc
 refine oA ?_
 refine o_done (se_seq ?_)
 refine s_ret ?_
 refine ⟨.inr rfl, _, (by simp only [Tryz.results4, resA, Tr.get_set, reduceIte, Nat.reduceEqDiff, Nat.reduceAdd] <;> rfl), fun K2 s2 l2 hs2 hb2 => ?_⟩
 cases hs2
 rw [hs.uniq hb2]
 exact ⟨_, _, _, rfl, ⟨ozz, ozz, ozz, ozz, fun i (hi : i < nx) => hA1.same i (fun q => q) hi⟩, ac1.cv.iv.mono (fun x q => ac1.bnd x q)⟩
def R_ar : List Value -> AH -> Value -> AH -> Prop := fun args h v h' => ∀ n : Int, args = [.int .i64 n, .int .i64 4096] -> h' = ⟨h.t, h.next, h.wr⟩ /\ ∃ x : Int, v = .int .i64 x /\ 0 <= x /\ x < 4096
noncomputable def c_ar := cEx Tryz.prog 15 R_ar
theorem con_ar : Con Tryz.prog 15 c_ar := con_ex Tryz.func15 rfl
theorem ar_c {t : Tr AObj} {nx wr : Nat} {n : Int} (hn : inR n) (hwr : wr <= BIG) : ∃ v h', c_ar [.int .i64 n, .int .i64 4096] ⟨t, nx, wr⟩ = some (v, h') /\ h' = ⟨t, nx, wr⟩ /\ ∃ x : Int, v = .int .i64 x /\ 0 <= x /\ x < 4096 := by
 have hP := Fits
 have hC : CallSound Tryz.prog (tabOf []) := tab_sound tab_end
 have hF0 : Fr t nx wr t nx wr 0 := Fr.refl
 unfold inR at hn
 suffices key : SureK Tryz.prog ⟨t, nx, wr⟩ _ [] _ (EndR Tryz.prog _ (R_ar [.int .i64 n, .int .i64 4096] ⟨t, nx, wr⟩)) by
  obtain ⟨v, h', q, c⟩ := sure_start (R := R_ar) (sz := 13) Tryz.func15 rfl rfl zo key
  exact ⟨v, h', q, c n rfl⟩
 refine s_seq (s_region hP hC (oA ?_))
 refine o_done (se_seq (s_seq (s_seq (s_region hP hC (oM ?_)))))
 refine os (x_bin rfl zt (by rfl) b_lss) ?_
 refine o_done (se_seq ?_)
 refine s_cond zt (fun g1 => ?_) (fun g1 => ?_)
 ·have p1 := g1; try simp only [dd] at p1
  refine s_region hP hC (oM ?_)
  refine os (x_bin (u := .int .i64 (n + 1)) rfl zt (by rfl) (by rw [b_add, IntWalk.i64_in _ ow])) ?_
  refine os ((x_neg rfl zt).trans (by rw [IntWalk.i64_in _ ow])) ?_
  refine oA ?_
  refine o_done (se_seq (s_seq (s_region hP hC (oM ?_))))
  refine oM ?_
  refine os (x_bin (u := .int .i64 ((0 - (n + 1)).tmod 4096)) rfl zt zt (b_rem zd)) ?_
  refine oA ?_
  refine o_done (se_seq ?_)
  refine s_ret ?_
  refine ⟨.inr rfl, _, (by simp only [Tryz.results15, resA, Tr.get_set, reduceIte, Nat.reduceEqDiff, Nat.reduceAdd] <;> rfl), fun n2 hs2 => ?_⟩
  cases hs2
  exact ⟨rfl, _, rfl, Int.tmod_nonneg _ ow, Int.tmod_lt_of_pos _ zd⟩
 ·have p1 := g1; try simp only [dd] at p1
  refine s_skip (se_seq (s_seq (s_region hP hC (oM ?_))))
  refine oM ?_
  refine os (x_bin (u := .int .i64 ((n).tmod 4096)) rfl zt zt (b_rem zd)) ?_
  refine oA ?_
  refine o_done (se_seq ?_)
  refine s_ret ?_
  refine ⟨.inr rfl, _, (by simp only [Tryz.results15, resA, Tr.get_set, reduceIte, Nat.reduceEqDiff, Nat.reduceAdd] <;> rfl), fun n2 hs2 => ?_⟩
  cases hs2
  exact ⟨rfl, _, rfl, Int.tmod_nonneg _ ow, Int.tmod_lt_of_pos _ zd⟩
def R_any : List Value -> AH -> Value -> AH -> Prop := fun args h v h' => ∀ n : Int, args = [.int .i64 n] -> ∃ t' nx' wr', ∃ x y : Int, ∃ w, h' = ⟨t', nx', wr'⟩ /\ Fr h.t h.next h.wr t' nx' wr' 5 /\ v = .agg ⟨[.int .i64 x, .string w, .int .i64 y]⟩
noncomputable def c_any := cEx Tryz.prog 5 R_any
theorem con_any : Con Tryz.prog 5 c_any := con_ex Tryz.func5 rfl
theorem any_c {t : Tr AObj} {nx wr : Nat} {n : Int} (hn : inR n) (hN : nx + 100 <= BIG) (hwr : wr <= BIG) : ∃ v h', c_any [.int .i64 n] ⟨t, nx, wr⟩ = some (v, h') /\ ∃ t' nx' wr', ∃ x y : Int, ∃ w, h' = ⟨t', nx', wr'⟩ /\ Fr t nx wr t' nx' wr' 5 /\ v = .agg ⟨[.int .i64 x, .string w, .int .i64 y]⟩ := by
 have hP := Fits
 have hC : CallSound Tryz.prog (tabOf [(15, c_ar)]) := tab_sound (tab_cons con_ar tab_end)
 have hF0 : Fr t nx wr t nx wr 0 := Fr.refl
 suffices key : SureK Tryz.prog ⟨t, nx, wr⟩ _ [] _ (EndR Tryz.prog _ (R_any [.int .i64 n] ⟨t, nx, wr⟩)) by
  obtain ⟨v, h', q, c⟩ := sure_start (R := R_any) (sz := 19) Tryz.func5 rfl rfl zo key
  exact ⟨v, h', q, c n rfl⟩
 refine s_seq (s_region hP hC ?_)
 refine os (y_alloc rfl T.z31 rfl rfl) ?_
 refine o_done (se_seq (s_seq (s_region hP hC (oM ?_))))
 refine o_callR (tab_hitR (ar_c hn hwr)) (wA_none rfl) rfl rfl rfl zv zd (fun v1 h1 hR1 => ?_)
 obtain ⟨rfl, x, rfl, x0, x1⟩ := hR1
 refine oA ?_
 refine o_done (se_seq (s_seq (s_region hP hC (oM ?_))))
 refine os (x_bin (u := .int .i64 (x % 7)) rfl zt (by rfl) (by rw [b_rem zd, Int.tmod_eq_emod_of_nonneg ow])) ?_
 refine os (x_bin (u := .int .i64 (x % 7 - 1)) rfl zt (by rfl) (by rw [b_sub, IntWalk.i64_in _ ow])) ?_
 refine os (y_bsliceN (cs := [.string .empty, .string .empty, .string ⟨⟨[116, 48]⟩⟩, .string ⟨⟨[112, 48]⟩⟩, .string ⟨⟨[122, 111, 111]⟩⟩]) rfl (by rfl) Tryz.underlying46 T.s9 T.z9 zd zd rfl rfl (by rfl)) ?_
 refine oM ?_
 refine os (x_bin (u := .int .i64 (x / 7)) rfl zt (by rfl) (by rw [b_quo zd, Int.tdiv_eq_ediv_of_nonneg ow, IntWalk.i64_in _ ow])) ?_
 refine os (x_bin (u := .int .i64 (x / 7 % 5)) rfl zt (by rfl) (by rw [b_rem zd, Int.tmod_eq_emod_of_nonneg ow])) ?_
 refine os (x_index rfl zt zt Tryz.underlying46 T.s9 ow (by show _ < ((5 : Nat) : Int); omega)) ?_
 obtain ⟨w, hw⟩ : ∃ w, loadC ⟨((t.set nx (.row [.int .i64 0, .string .empty, .int .i64 0] nx BIG false 3)).set (nx + 1) (.row [.string .empty, .string .empty, .string ⟨⟨[116, 48]⟩⟩, .string ⟨⟨[112, 48]⟩⟩, .string ⟨⟨[122, 111, 111]⟩⟩] (nx + 1) BIG false 5)), nx + 1 + 1, wr⟩ (nx + 1) (0 + (x / 7 % 5).toNat * 1) 1 = some [.string w] := by
  have hwh : Whole ⟨((t.set nx (.row [.int .i64 0, .string .empty, .int .i64 0] nx BIG false 3)).set (nx + 1) (.row [.string .empty, .string .empty, .string ⟨⟨[116, 48]⟩⟩, .string ⟨⟨[112, 48]⟩⟩, .string ⟨⟨[122, 111, 111]⟩⟩] (nx + 1) BIG false 5)), nx + 1 + 1, wr⟩ (nx + 1) [.string .empty, .string .empty, .string ⟨⟨[116, 48]⟩⟩, .string ⟨⟨[112, 48]⟩⟩, .string ⟨⟨[122, 111, 111]⟩⟩] := whole_row (by rw [gp rfl]; rfl) rfl
  have hy : x / 7 % 5 = 0 \/ x / 7 % 5 = 1 \/ x / 7 % 5 = 2 \/ x / 7 % 5 = 3 \/ x / 7 % 5 = 4 := by omega
  rcases hy with h | h | h | h | h <;> rw [h] <;> exact ⟨_, l_whole hwh _ 1 zd⟩
 refine os (x_load1 rfl zt T.g9 hw) ?_
 refine oM ?_
 refine os (x_bin (u := .int .i64 (x / 35)) rfl zt (by rfl) (by rw [b_quo zd, Int.tdiv_eq_ediv_of_nonneg ow, IntWalk.i64_in _ ow])) ?_
 refine os (x_bin (u := .int .i64 (x / 35 % 4)) rfl zt (by rfl) (by rw [b_rem zd, Int.tmod_eq_emod_of_nonneg ow])) ?_
 refine os (x_build (v := .agg ⟨[.int .i64 (x % 7 - 1), .string w, .int .i64 (x / 35 % 4)]⟩) rfl zp T.z31 rfl zr) ?_
 refine o_stepN (wA_none rfl) rfl (y_storeA rfl zt zt T.s31 rfl hg rfl rfl rfl) ?_
 refine o_done (se_seq ?_)
 refine s_ret ?_
 refine ⟨.inr rfl, _, (resA_cell hg T.g31 T.s31 (l_all (whole_row (show Tr.get _ nx = _ from by rw [gp rfl]) rfl) rfl) resA_nil), fun n2 hs2 => ?_⟩
 cases hs2
 exact ⟨_, _, _, _, _, _, rfl, ⟨by show nx <= _; omega, by show _ <= nx + 5; omega, by show min wr nx <= _; omega, by show _ <= wr; omega, fun i (hi : i < nx) => by (repeat (first | rw [gn ow])) <;> first | rfl | assumption | (rw [gp ow]; done) | (rw [gp ow]; rfl)⟩, rfl⟩
def R_wtd : List Value -> AH -> Value -> AH -> Prop := fun args h v h' => ∀ (a c : Int) (b : ByteArray), args = [.agg ⟨[.int .i64 a, .string b, .int .i64 c]⟩] -> ∃ t' nx' wr', h' = ⟨t', nx', wr'⟩ /\ Fr h.t h.next h.wr t' nx' wr' 5 /\ v = .agg ⟨[.int .i64 a, .string b, .int .i64 c]⟩
noncomputable def c_wtd := cEx Tryz.prog 7 R_wtd
theorem con_wtd : Con Tryz.prog 7 c_wtd := con_ex Tryz.func7 rfl
theorem wtd_c {t : Tr AObj} {nx wr : Nat} {a c : Int} {b : ByteArray} (hN : nx + 100 <= BIG) (hwr : wr <= BIG) : ∃ v h', c_wtd [.agg ⟨[.int .i64 a, .string b, .int .i64 c]⟩] ⟨t, nx, wr⟩ = some (v, h') /\ ∃ t' nx' wr', h' = ⟨t', nx', wr'⟩ /\ Fr t nx wr t' nx' wr' 5 /\ v = .agg ⟨[.int .i64 a, .string b, .int .i64 c]⟩ := by
 have hP := Fits
 have hC : CallSound Tryz.prog (tabOf []) := tab_sound tab_end
 have hF0 : Fr t nx wr t nx wr 0 := Fr.refl
 suffices key : SureK Tryz.prog ⟨t, nx, wr⟩ _ [] _ (EndR Tryz.prog _ (R_wtd [.agg ⟨[.int .i64 a, .string b, .int .i64 c]⟩] ⟨t, nx, wr⟩)) by
  obtain ⟨v, h', q, hx⟩ := sure_start (R := R_wtd) (sz := 10) Tryz.func7 rfl rfl zo key
  exact ⟨v, h', q, hx a c b rfl⟩
 refine s_seq (s_region hP hC ?_)
 refine os (y_boxA rfl zt) ?_
 refine os (y_alloc rfl T.z35 rfl rfl) ?_
 refine o_done (se_seq (s_seq (s_region hP hC ?_)))
 refine os (x_field (off' := 0) rfl zt u31 rfl T.s3 rfl) ?_
 refine os (x_load1 rfl zt T.g3 (l_whole (d := [.int .i64 a, .string b, .int .i64 c]) (whole_row hg rfl) 0 1 (by show _ <= 3; decide))) ?_
 refine os (x_field (off' := 1) rfl zt u31 rfl T.s9 rfl) ?_
 refine os (x_load1 rfl zt T.g9 (l_whole (d := [.int .i64 a, .string b, .int .i64 c]) (whole_row hg rfl) 1 1 (by show _ <= 3; decide))) ?_
 refine os (x_field (off' := 2) rfl zt u31 rfl T.s3 rfl) ?_
 refine os (x_load1 rfl zt T.g3 (l_whole (d := [.int .i64 a, .string b, .int .i64 c]) (whole_row hg rfl) 2 1 (by show _ <= 3; decide))) ?_
 refine os (x_build (v := .agg ⟨[.int .i64 a, .string b, .int .i64 c]⟩) rfl zp T.z35 rfl zr) ?_
 refine o_stepN (wA_none rfl) rfl (y_storeA rfl zt zt T.s35 rfl hg rfl rfl rfl) ?_
 refine o_done (se_seq ?_)
 refine s_ret ?_
 refine ⟨.inr rfl, _, (resA_cell hg T.g35 T.s35 (l_all (whole_row (show Tr.get _ (nx + 1) = _ from by rw [gp rfl]) rfl) rfl) resA_nil), fun a2 c2 b2 hs2 => ?_⟩
 cases hs2
 exact ⟨_, _, _, rfl, ⟨by show nx <= _; omega, by show _ <= nx + 5; omega, by show min wr nx <= _; omega, by show _ <= wr; omega, fun i (hi : i < nx) => by (repeat (first | rw [gn ow])) <;> first | rfl | assumption | (rw [gp ow]; done) | (rw [gp ow]; rfl)⟩, rfl⟩
def sEq (x y : ByteArray) : Bool := eqC (.string x) (.string y)
def shB (a : Int) (b : ByteArray) (c o : Int) (w : ByteArray) (s : Int) : Bool := decide (a = o) && (sEq w ⟨#[]⟩ || (sEq b w && decide (c = s)))
def R_shp : List Value -> AH -> Value -> AH -> Prop := fun args h v h' => ∀ (a c o s : Int) (b w : ByteArray) (rest : List Value), args = [.agg ⟨(.int .i64 a :: .string b :: .int .i64 c :: rest)⟩, .agg ⟨[.int .i64 o, .string w, .int .i64 s]⟩] -> ∃ t' nx' wr', h' = ⟨t', nx', wr'⟩ /\ Fr h.t h.next h.wr t' nx' wr' 5 /\ v = .bool (shB a b c o w s)
noncomputable def c_shp := cEx Tryz.prog 6 R_shp
theorem con_shp : Con Tryz.prog 6 c_shp := con_ex Tryz.func6 rfl
theorem shp_c {t : Tr AObj} {nx wr : Nat} {a c o s : Int} {b w : ByteArray} {rest : List Value} (hrl : rest.length = 19) (hN : nx + 100 <= BIG) (hwr : wr <= BIG) : ∃ v h', c_shp [.agg ⟨(.int .i64 a :: .string b :: .int .i64 c :: rest)⟩, .agg ⟨[.int .i64 o, .string w, .int .i64 s]⟩] ⟨t, nx, wr⟩ = some (v, h') /\ ∃ t' nx' wr', h' = ⟨t', nx', wr'⟩ /\ Fr t nx wr t' nx' wr' 5 /\ v = .bool (shB a b c o w s) := by
 have hP := Fits
 have hC : CallSound Tryz.prog (tabOf []) := tab_sound tab_end
 have hF0 : Fr t nx wr t nx wr 0 := Fr.refl
 suffices key : SureK Tryz.prog ⟨t, nx, wr⟩ _ [] _ (EndR Tryz.prog _ (R_shp [.agg ⟨(.int .i64 a :: .string b :: .int .i64 c :: rest)⟩, .agg ⟨[.int .i64 o, .string w, .int .i64 s]⟩] ⟨t, nx, wr⟩)) by
  obtain ⟨v, h', q, hx⟩ := sure_start (R := R_shp) (sz := 29) Tryz.func6 rfl rfl zo key
  exact ⟨v, h', q, hx a c o s b w rest rfl⟩
 refine s_seq (s_region hP hC ?_)
 refine os (y_boxA rfl zt) ?_
 refine os (y_boxA rfl zt) ?_
 refine oA ?_
 refine o_done (se_seq (s_seq (s_region hP hC ?_)))
 refine os (x_field (off' := 0) rfl zt u28 rfl T.s3 rfl) ?_
 refine os (x_load1 rfl zt T.g3 (l_whole (d := (.int .i64 a :: .string b :: .int .i64 c :: rest)) (whole_row hg rfl) 0 1 (by rw [List.length_cons, List.length_cons, List.length_cons]; omega))) ?_
 refine os (x_field (off' := 0) rfl zt Tryz.underlying35 rfl T.s3 rfl) ?_
 refine os (x_load1 rfl zt T.g3 (l_whole (d := [.int .i64 o, .string w, .int .i64 s]) (whole_row hg rfl) 0 1 (by show _ <= 3; decide))) ?_
 refine os (x_bin rfl zt zt b_eql) ?_
 refine oM ?_
 refine o_guard rfl rfl hg (fun g2 => ?_) (fun g2 => ?_)
 ·have p2 := g2; try simp only [dd] at p2
  refine o_step wZ rfl (x_field (off' := 1) rfl zt Tryz.underlying35 rfl T.s9 rfl) zd ?_
  refine o_step wZ rfl (x_load1 rfl zt T.g9 (l_whole (d := [.int .i64 o, .string w, .int .i64 s]) (whole_row hg rfl) 1 1 (by show _ <= 3; decide))) zd ?_
  refine o_step wZ rfl (x_bin rfl zt (by rfl) b_eqlS) zd ?_
  refine o_step wZ rfl (x_move rfl zt) zd ?_
  refine o_guard rfl rfl zh (fun g4 => ?_) (fun g4 => ?_)
  ·have p4 := g4; try simp only [dd] at p4
   refine oS ?_
   refine oS ?_
   refine oS ?_
   refine oS ?_
   refine oS ?_
   refine oS ?_
   refine o_skip (wA_undef rfl rfl zw) rfl zd ?_
   refine o_skip (wA_undef rfl rfl zw) rfl zd ?_
   refine o_skip (wA_undef rfl rfl zw) rfl zd ?_
   refine o_skip (wA_undef rfl rfl zw) rfl zd ?_
   refine o_skip (wA_undef rfl rfl zw) rfl zd ?_
   refine oS ?_
   refine o_step wZ rfl (x_pick rfl zw zb) zd ?_
   refine os (x_pick rfl zw zb) ?_
   refine oA ?_
   refine o_done (se_seq ?_)
   refine s_ret ?_
   refine ⟨.inr rfl, _, (by simp only [Tryz.results6, resA, Tr.get_set, reduceIte, Nat.reduceEqDiff, Nat.reduceAdd] <;> rfl), fun a2 c2 o2 s2 b2 w2 rest2 hs2 => ?_⟩
   cases hs2
   exact ⟨_, _, _, rfl, ⟨by show nx <= _; omega, by show _ <= nx + 5; omega, by show min wr nx <= _; omega, by show _ <= wr; omega, fun i (hi : i < nx) => by (repeat (first | rw [gn ow])) <;> first | rfl | assumption | (rw [gp ow]; done) | (rw [gp ow]; rfl)⟩, by
    unfold shB sEq
    rw [g2, g4]
    rfl⟩
  ·have p4 := g4; try simp only [dd] at p4
   refine o_step wZ rfl (x_field (off' := 1) rfl zt u28 rfl T.s9 rfl) zd ?_
   refine o_step wZ rfl (x_load1 rfl zt T.g9 (l_whole (d := (.int .i64 a :: .string b :: .int .i64 c :: rest)) (whole_row hg rfl) 1 1 (by rw [List.length_cons, List.length_cons, List.length_cons]; omega))) zd ?_
   refine o_step wZ rfl (x_field (off' := 1) rfl zt Tryz.underlying35 rfl T.s9 rfl) zd ?_
   refine o_step wZ rfl (x_load1 rfl zt T.g9 (l_whole (d := [.int .i64 o, .string w, .int .i64 s]) (whole_row hg rfl) 1 1 (by show _ <= 3; decide))) zd ?_
   refine o_step wZ rfl (x_bin rfl zt zt b_eqlS) zd ?_
   refine o_step wZ rfl (x_move rfl zt) zd ?_
   refine o_guard rfl rfl zh (fun g6 => ?_) (fun g6 => ?_)
   ·have p6 := g6; try simp only [dd] at p6
    refine o_step wZ rfl (x_field (off' := 2) rfl zt u28 rfl T.s3 rfl) zd ?_
    refine o_step wZ rfl (x_load1 rfl zt T.g3 (l_whole (d := (.int .i64 a :: .string b :: .int .i64 c :: rest)) (whole_row hg rfl) 2 1 (by rw [List.length_cons, List.length_cons, List.length_cons]; omega))) zd ?_
    refine o_step wZ rfl (x_field (off' := 2) rfl zt Tryz.underlying35 rfl T.s3 rfl) zd ?_
    refine o_step wZ rfl (x_load1 rfl zt T.g3 (l_whole (d := [.int .i64 o, .string w, .int .i64 s]) (whole_row hg rfl) 2 1 (by show _ <= 3; decide))) zd ?_
    refine o_step wZ rfl (x_bin rfl zt zt b_eql) zd ?_
    refine o_step wZ rfl (x_pick rfl zw zb) zd ?_
    refine o_step wZ rfl (x_pick rfl zw zb) zd ?_
    refine os (x_pick rfl zw zb) ?_
    refine oA ?_
    refine o_done (se_seq ?_)
    refine s_ret ?_
    refine ⟨.inr rfl, _, (by simp only [Tryz.results6, resA, Tr.get_set, reduceIte, Nat.reduceEqDiff, Nat.reduceAdd] <;> rfl), fun a2 c2 o2 s2 b2 w2 rest2 hs2 => ?_⟩
    cases hs2
    exact ⟨_, _, _, rfl, ⟨by show nx <= _; omega, by show _ <= nx + 5; omega, by show min wr nx <= _; omega, by show _ <= wr; omega, fun i (hi : i < nx) => by (repeat (first | rw [gn ow])) <;> first | rfl | assumption | (rw [gp ow]; done) | (rw [gp ow]; rfl)⟩, by
     unfold shB sEq
     rw [g2, g4, g6]
     rfl⟩
   ·have p6 := g6; try simp only [dd] at p6
    refine oS ?_
    refine oS ?_
    refine oS ?_
    refine oS ?_
    refine oS ?_
    refine o_step wZ rfl (x_pick rfl zw zb) zd ?_
    refine o_step wZ rfl (x_pick rfl zw zb) zd ?_
    refine os (x_pick rfl zw zb) ?_
    refine oA ?_
    refine o_done (se_seq ?_)
    refine s_ret ?_
    refine ⟨.inr rfl, _, (by simp only [Tryz.results6, resA, Tr.get_set, reduceIte, Nat.reduceEqDiff, Nat.reduceAdd] <;> rfl), fun a2 c2 o2 s2 b2 w2 rest2 hs2 => ?_⟩
    cases hs2
    exact ⟨_, _, _, rfl, ⟨by show nx <= _; omega, by show _ <= nx + 5; omega, by show min wr nx <= _; omega, by show _ <= wr; omega, fun i (hi : i < nx) => by (repeat (first | rw [gn ow])) <;> first | rfl | assumption | (rw [gp ow]; done) | (rw [gp ow]; rfl)⟩, by
     unfold shB sEq
     rw [g2, g4, g6]
     rfl⟩
 ·have p2 := g2; try simp only [dd] at p2
  refine oS ?_
  refine oS ?_
  refine oS ?_
  refine oS ?_
  refine o_skip (wA_undef rfl rfl zw) rfl zd ?_
  refine o_skip (wA_undef rfl rfl zw) rfl zd ?_
  refine o_skip (wA_undef rfl rfl zw) rfl zd ?_
  refine o_skip (wA_undef rfl rfl zw) rfl zd ?_
  refine o_skip (wA_undef rfl rfl zw) rfl zd ?_
  refine o_skip (wA_undef rfl rfl zw) rfl zd ?_
  refine o_skip (wA_undef rfl rfl zw) rfl zd ?_
  refine o_skip (wA_undef rfl rfl zw) rfl zd ?_
  refine o_skip (wA_undef rfl rfl zw) rfl zd ?_
  refine o_skip (wA_undef rfl rfl zw) rfl zd ?_
  refine o_skip (wA_undef rfl rfl zw) rfl zd ?_
  refine o_skip (wA_undef rfl rfl zw) rfl zd ?_
  refine oS ?_
  refine os (x_pick rfl zw zb) ?_
  refine oA ?_
  refine o_done (se_seq ?_)
  refine s_ret ?_
  refine ⟨.inr rfl, _, (by simp only [Tryz.results6, resA, Tr.get_set, reduceIte, Nat.reduceEqDiff, Nat.reduceAdd] <;> rfl), fun a2 c2 o2 s2 b2 w2 rest2 hs2 => ?_⟩
  cases hs2
  exact ⟨_, _, _, rfl, ⟨by show nx <= _; omega, by show _ <= nx + 5; omega, by show min wr nx <= _; omega, by show _ <= wr; omega, fun i (hi : i < nx) => by (repeat (first | rw [gn ow])) <;> first | rfl | assumption | (rw [gp ow]; done) | (rw [gp ow]; rfl)⟩, by
   unfold shB sEq
   rw [g2]
   rfl⟩
def R_shr : List Value -> AH -> Value -> AH -> Prop := fun args h v h' => ∀ (a c o s : Int) (b w : ByteArray) (rest : List Value), args = [.agg ⟨(.int .i64 a :: .string b :: .int .i64 c :: rest)⟩, .agg ⟨[.int .i64 o, .string w, .int .i64 s]⟩] -> ∃ t' nx' wr', h' = ⟨t', nx', wr'⟩ /\ Fr h.t h.next h.wr t' nx' wr' 5 /\ v = .bool (shB a b c o w s)
noncomputable def c_shr := cEx Tryz.prog 8 R_shr
theorem con_shr : Con Tryz.prog 8 c_shr := con_ex Tryz.func8 rfl
theorem shr_c {t : Tr AObj} {nx wr : Nat} {a c o s : Int} {b w : ByteArray} {rest : List Value} (hrl : rest.length = 19) (hN : nx + 100 <= BIG) (hwr : wr <= BIG) : ∃ v h', c_shr [.agg ⟨(.int .i64 a :: .string b :: .int .i64 c :: rest)⟩, .agg ⟨[.int .i64 o, .string w, .int .i64 s]⟩] ⟨t, nx, wr⟩ = some (v, h') /\ ∃ t' nx' wr', h' = ⟨t', nx', wr'⟩ /\ Fr t nx wr t' nx' wr' 5 /\ v = .bool (shB a b c o w s) := by
 have hP := Fits
 have hC : CallSound Tryz.prog (tabOf []) := tab_sound tab_end
 have hF0 : Fr t nx wr t nx wr 0 := Fr.refl
 suffices key : SureK Tryz.prog ⟨t, nx, wr⟩ _ [] _ (EndR Tryz.prog _ (R_shr [.agg ⟨(.int .i64 a :: .string b :: .int .i64 c :: rest)⟩, .agg ⟨[.int .i64 o, .string w, .int .i64 s]⟩] ⟨t, nx, wr⟩)) by
  obtain ⟨v, h', q, hx⟩ := sure_start (R := R_shr) (sz := 27) Tryz.func8 rfl rfl zo key
  exact ⟨v, h', q, hx a c o s b w rest rfl⟩
 refine s_seq (s_region hP hC ?_)
 refine os (y_boxA rfl zt) ?_
 refine os (y_boxA rfl zt) ?_
 refine oA ?_
 refine o_done (se_seq (s_seq (s_seq (s_region hP hC ?_))))
 refine os (x_field (off' := 0) rfl zt u28 rfl T.s3 rfl) ?_
 refine os (x_load1 rfl zt T.g3 (l_whole (d := (.int .i64 a :: .string b :: .int .i64 c :: rest)) (whole_row hg rfl) 0 1 (by rw [List.length_cons, List.length_cons, List.length_cons]; omega))) ?_
 refine os (x_field (off' := 0) rfl zt u31 rfl T.s3 rfl) ?_
 refine os (x_load1 rfl zt T.g3 (l_whole (d := [.int .i64 o, .string w, .int .i64 s]) (whole_row hg rfl) 0 1 (by show _ <= 3; decide))) ?_
 refine os (x_bin rfl zt zt b_neq) ?_
 refine o_done (se_seq ?_)
 refine s_cond zt (fun g2 => ?_) (fun g2 => ?_)
 ·have p2 := g2; try simp only [dd] at p2
  refine s_seq (s_region hP hC (oA ?_))
  refine o_done (se_seq ?_)
  refine s_ret ?_
  refine se_seq_ret ?_
  refine ⟨.inr rfl, _, (by simp only [Tryz.results8, resA, Tr.get_set, reduceIte, Nat.reduceEqDiff, Nat.reduceAdd] <;> rfl), fun a2 c2 o2 s2 b2 w2 rest2 hs2 => ?_⟩
  cases hs2
  exact ⟨_, _, _, rfl, ⟨by show nx <= _; omega, by show _ <= nx + 5; omega, by show min wr nx <= _; omega, by show _ <= wr; omega, fun i (hi : i < nx) => by (repeat (first | rw [gn ow])) <;> first | rfl | assumption | (rw [gp ow]; done) | (rw [gp ow]; rfl)⟩, by
   unfold shB sEq
   rw [decide_eq_false (nd_t g2)]
   rfl⟩
 ·have p2 := g2; try simp only [dd] at p2
  refine s_skip (se_seq (s_seq (s_region hP hC ?_)))
  refine os (x_field (off' := 1) rfl zt u31 rfl T.s9 rfl) ?_
  refine os (x_load1 rfl zt T.g9 (l_whole (d := [.int .i64 o, .string w, .int .i64 s]) (whole_row hg rfl) 1 1 (by show _ <= 3; decide))) ?_
  refine os (x_bin rfl zt (by rfl) b_eqlS) ?_
  refine oM ?_
  refine o_guard rfl rfl zh (fun g4 => ?_) (fun g4 => ?_)
  ·have p4 := g4; try simp only [dd] at p4
   refine oS ?_
   refine oS ?_
   refine oS ?_
   refine oS ?_
   refine oS ?_
   refine oS ?_
   refine o_skip (wA_undef rfl rfl zw) rfl zd ?_
   refine o_skip (wA_undef rfl rfl zw) rfl zd ?_
   refine o_skip (wA_undef rfl rfl zw) rfl zd ?_
   refine o_skip (wA_undef rfl rfl zw) rfl zd ?_
   refine o_skip (wA_undef rfl rfl zw) rfl zd ?_
   refine oS ?_
   refine os (x_pick rfl zw zb) ?_
   refine oA ?_
   refine o_done (se_seq ?_)
   refine s_ret ?_
   refine ⟨.inr rfl, _, (by simp only [Tryz.results8, resA, Tr.get_set, reduceIte, Nat.reduceEqDiff, Nat.reduceAdd] <;> rfl), fun a2 c2 o2 s2 b2 w2 rest2 hs2 => ?_⟩
   cases hs2
   exact ⟨_, _, _, rfl, ⟨by show nx <= _; omega, by show _ <= nx + 5; omega, by show min wr nx <= _; omega, by show _ <= wr; omega, fun i (hi : i < nx) => by (repeat (first | rw [gn ow])) <;> first | rfl | assumption | (rw [gp ow]; done) | (rw [gp ow]; rfl)⟩, by
    unfold shB sEq
    rw [decide_eq_true (nd_f g2), g4]
    rfl⟩
  ·have p4 := g4; try simp only [dd] at p4
   refine o_step wZ rfl (x_field (off' := 1) rfl zt u28 rfl T.s9 rfl) zd ?_
   refine o_step wZ rfl (x_load1 rfl zt T.g9 (l_whole (d := (.int .i64 a :: .string b :: .int .i64 c :: rest)) (whole_row hg rfl) 1 1 (by rw [List.length_cons, List.length_cons, List.length_cons]; omega))) zd ?_
   refine o_step wZ rfl (x_field (off' := 1) rfl zt u31 rfl T.s9 rfl) zd ?_
   refine o_step wZ rfl (x_load1 rfl zt T.g9 (l_whole (d := [.int .i64 o, .string w, .int .i64 s]) (whole_row hg rfl) 1 1 (by show _ <= 3; decide))) zd ?_
   refine o_step wZ rfl (x_bin rfl zt zt b_eqlS) zd ?_
   refine o_step wZ rfl (x_move rfl zt) zd ?_
   refine o_guard rfl rfl zh (fun g6 => ?_) (fun g6 => ?_)
   ·have p6 := g6; try simp only [dd] at p6
    refine o_step wZ rfl (x_field (off' := 2) rfl zt u28 rfl T.s3 rfl) zd ?_
    refine o_step wZ rfl (x_load1 rfl zt T.g3 (l_whole (d := (.int .i64 a :: .string b :: .int .i64 c :: rest)) (whole_row hg rfl) 2 1 (by rw [List.length_cons, List.length_cons, List.length_cons]; omega))) zd ?_
    refine o_step wZ rfl (x_field (off' := 2) rfl zt u31 rfl T.s3 rfl) zd ?_
    refine o_step wZ rfl (x_load1 rfl zt T.g3 (l_whole (d := [.int .i64 o, .string w, .int .i64 s]) (whole_row hg rfl) 2 1 (by show _ <= 3; decide))) zd ?_
    refine o_step wZ rfl (x_bin rfl zt zt b_eql) zd ?_
    refine o_step wZ rfl (x_pick rfl zw zb) zd ?_
    refine os (x_pick rfl zw zb) ?_
    refine oA ?_
    refine o_done (se_seq ?_)
    refine s_ret ?_
    refine ⟨.inr rfl, _, (by simp only [Tryz.results8, resA, Tr.get_set, reduceIte, Nat.reduceEqDiff, Nat.reduceAdd] <;> rfl), fun a2 c2 o2 s2 b2 w2 rest2 hs2 => ?_⟩
    cases hs2
    exact ⟨_, _, _, rfl, ⟨by show nx <= _; omega, by show _ <= nx + 5; omega, by show min wr nx <= _; omega, by show _ <= wr; omega, fun i (hi : i < nx) => by (repeat (first | rw [gn ow])) <;> first | rfl | assumption | (rw [gp ow]; done) | (rw [gp ow]; rfl)⟩, by
     unfold shB sEq
     rw [decide_eq_true (nd_f g2), g4, g6]
     rfl⟩
   ·have p6 := g6; try simp only [dd] at p6
    refine oS ?_
    refine oS ?_
    refine oS ?_
    refine oS ?_
    refine oS ?_
    refine o_step wZ rfl (x_pick rfl zw zb) zd ?_
    refine os (x_pick rfl zw zb) ?_
    refine oA ?_
    refine o_done (se_seq ?_)
    refine s_ret ?_
    refine ⟨.inr rfl, _, (by simp only [Tryz.results8, resA, Tr.get_set, reduceIte, Nat.reduceEqDiff, Nat.reduceAdd] <;> rfl), fun a2 c2 o2 s2 b2 w2 rest2 hs2 => ?_⟩
    cases hs2
    exact ⟨_, _, _, rfl, ⟨by show nx <= _; omega, by show _ <= nx + 5; omega, by show min wr nx <= _; omega, by show _ <= wr; omega, fun i (hi : i < nx) => by (repeat (first | rw [gn ow])) <;> first | rfl | assumption | (rw [gp ow]; done) | (rw [gp ow]; rfl)⟩, by
     unfold shB sEq
     rw [decide_eq_true (nd_f g2), g4, g6]
     rfl⟩
end Go.Proofs.YtmladpbadglecaaGreatDoor
