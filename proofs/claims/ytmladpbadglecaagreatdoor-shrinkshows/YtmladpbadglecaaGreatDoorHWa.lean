/-
  Numbers and words, compared.
-/
import Derived.Test.YtmladpbadglecaaGreatDoorHTy
set_option linter.unusedSimpArgs false
set_option linter.unusedVariables false
namespace Go.Proofs.YtmladpbadglecaaGreatDoor
open Go.AM
set_option maxRecDepth 100000
set_option maxHeartbeats 1000000
set_option maxHeartbeats 8000000
def R_isnan : List Value -> AH -> Value -> AH -> Prop := fun args h v h' => ∀ n, args = [.int .i64 n] -> h' = ⟨h.t, h.next, h.wr⟩ /\ v = .bool false
noncomputable def c_isnan := cEx Tryz.prog 37 R_isnan
theorem con_isnan : Con Tryz.prog 37 c_isnan := con_ex Tryz.func37 rfl
theorem isnan_c {t : Tr AObj} {nx wr : Nat} {n : Int}  (hwr : wr <= BIG) : ∃ v h', c_isnan [.int .i64 n] ⟨t, nx, wr⟩ = some (v, h') /\ h' = ⟨t, nx, wr⟩ /\ v = .bool false := by
 have hP := Fits
 have hC : CallSound Tryz.prog (tabOf []) := tab_sound tab_end
 have hF0 : Fr t nx wr t nx wr 0 := Fr.refl
 suffices key : SureK Tryz.prog ⟨t, nx, wr⟩ _ [] _ (EndR Tryz.prog _ (R_isnan [.int .i64 n] ⟨t, nx, wr⟩)) by
  obtain ⟨v, h', q, c⟩ := sure_start (R := R_isnan) (sz := 6) Tryz.func37 rfl rfl zo key
  exact ⟨v, h', q, c n rfl⟩
 refine s_seq (s_region hP hC (oA ?_))
 refine o_done (se_seq (s_seq (s_region hP hC (oM ?_))))
 refine oM ?_
 refine os (x_bin (u := .bool false) rfl zt zt (by rw [b_neq, decide_eq_true rfl]; rfl)) ?_
 refine oA ?_
 refine o_done (se_seq ?_)
 refine s_ret ?_
 refine ⟨.inr rfl, _, (by simp only [Tryz.results37, resA, Tr.get_set, reduceIte, Nat.reduceEqDiff, Nat.reduceAdd] <;> rfl), fun n2 hs2 => ⟨rfl, rfl⟩⟩
def R_cmp : List Value -> AH -> Value -> AH -> Prop := fun args h v h' => ∀ a b, args = [.int .i64 a, .int .i64 b] -> h' = ⟨h.t, h.next, h.wr⟩ /\ v = .int .i64 (cmpI a b)
noncomputable def c_cmp := cEx Tryz.prog 26 R_cmp
theorem con_cmp : Con Tryz.prog 26 c_cmp := con_ex Tryz.func26 rfl
theorem cmp_c {t : Tr AObj} {nx wr : Nat} {a b : Int}  (hwr : wr <= BIG) : ∃ v h', c_cmp [.int .i64 a, .int .i64 b] ⟨t, nx, wr⟩ = some (v, h') /\ h' = ⟨t, nx, wr⟩ /\ v = .int .i64 (cmpI a b) := by
 have hP := Fits
 have hC : CallSound Tryz.prog (tabOf [(37, c_isnan)]) := tab_sound (tab_cons con_isnan tab_end)
 have hF0 : Fr t nx wr t nx wr 0 := Fr.refl
 suffices key : SureK Tryz.prog ⟨t, nx, wr⟩ _ [] _ (EndR Tryz.prog _ (R_cmp [.int .i64 a, .int .i64 b] ⟨t, nx, wr⟩)) by
  obtain ⟨v, h', q, c⟩ := sure_start (R := R_cmp) (sz := 20) Tryz.func26 rfl rfl zo key
  exact ⟨v, h', q, c a b rfl⟩
 refine s_seq (s_region hP hC (oA ?_))
 refine o_done (se_seq (s_seq (s_region hP hC (oM ?_))))
 refine o_callR (tab_hitR (isnan_c hwr)) (wA_none rfl) rfl rfl rfl zv zd (fun v1 h1 hR1 => ?_)
 obtain ⟨rfl, rfl⟩ := hR1
 refine oA ?_
 refine o_done (se_seq (s_seq (s_region hP hC (oM ?_))))
 refine o_callR (tab_hitR (isnan_c hwr)) (wA_none rfl) rfl rfl rfl zv zd (fun v2 h2 hR2 => ?_)
 obtain ⟨rfl, rfl⟩ := hR2
 refine oA ?_
 refine o_done (se_seq (s_seq (s_seq (s_region hP hC (oM ?_)))))
 refine o_done (se_seq ?_)
 refine s_condF zt ?_
 refine s_skip (se_seq (s_seq (s_seq (s_region hP hC (oM ?_)))))
 refine o_done (se_seq ?_)
 refine s_condF zt ?_
 refine s_skip (se_seq (s_seq (s_seq (s_region hP hC (oM ?_)))))
 refine oM ?_
 refine os (x_bin rfl zt zt b_lss) ?_
 refine o_done (se_seq ?_)
 refine s_cond zt (fun g2 => ?_) (fun g2 => ?_)
 ·have p2 := g2; try simp only [dd] at p2
  refine s_seq (s_region hP hC (oA ?_))
  refine o_done (se_seq ?_)
  refine s_ret ?_
  refine se_seq_ret ?_
  refine ⟨.inr rfl, _, (by simp only [Tryz.results26, resA, Tr.get_set, reduceIte, Nat.reduceEqDiff, Nat.reduceAdd, g2] <;> rfl), fun a2 b2 hs2 => ⟨rfl, ?_⟩⟩
  cases hs2
  unfold cmpI
  first
   | (rw [if_pos ow]; rfl)
   | (rw [if_neg ow, if_pos ow]; rfl)
   | (rw [if_neg ow, if_neg ow]; rfl)
 ·have p2 := g2; try simp only [dd] at p2
  refine s_skip (se_seq (s_seq (s_seq (s_region hP hC (oM ?_)))))
  refine oM ?_
  refine os (x_bin rfl zt zt b_gtr) ?_
  refine o_done (se_seq ?_)
  refine s_cond zt (fun g4 => ?_) (fun g4 => ?_)
  ·have p4 := g4; try simp only [dd] at p4
   refine s_seq (s_region hP hC (oA ?_))
   refine o_done (se_seq ?_)
   refine s_ret ?_
   refine se_seq_ret ?_
   refine ⟨.inr rfl, _, (by simp only [Tryz.results26, resA, Tr.get_set, reduceIte, Nat.reduceEqDiff, Nat.reduceAdd, g2, g4] <;> rfl), fun a2 b2 hs2 => ⟨rfl, ?_⟩⟩
   cases hs2
   unfold cmpI
   first
    | (rw [if_pos ow]; rfl)
    | (rw [if_neg ow, if_pos ow]; rfl)
    | (rw [if_neg ow, if_neg ow]; rfl)
  ·have p4 := g4; try simp only [dd] at p4
   refine s_skip (se_seq (s_seq (s_region hP hC (oA ?_))))
   refine o_done (se_seq ?_)
   refine s_ret ?_
   refine ⟨.inr rfl, _, (by simp only [Tryz.results26, resA, Tr.get_set, reduceIte, Nat.reduceEqDiff, Nat.reduceAdd, g2, g4] <;> rfl), fun a2 b2 hs2 => ⟨rfl, ?_⟩⟩
   cases hs2
   unfold cmpI
   first
    | (rw [if_pos ow]; rfl)
    | (rw [if_neg ow, if_pos ow]; rfl)
    | (rw [if_neg ow, if_neg ow]; rfl)
def R_or : List Value -> AH -> Value -> AH -> Prop := fun args h v h' => ∀ K s l, args = [s] -> IV h.t K s l -> h' = ⟨h.t, h.next, h.wr⟩ /\ v = .int .i64 (orL l)
noncomputable def c_or := cEx Tryz.prog 25 R_or
theorem con_or : Con Tryz.prog 25 c_or := con_ex Tryz.func25 rfl
theorem or_c {t : Tr AObj} {nx wr : Nat} {K : Nat -> Prop} {s : Value} {l : List Int} (hs : IV t K s l) (hl : l.length <= 1000000) (hwr : wr <= BIG) : ∃ v h', c_or [s] ⟨t, nx, wr⟩ = some (v, h') /\ h' = ⟨t, nx, wr⟩ /\ v = .int .i64 (orL l) := by
 have hP := Fits
 have hC : CallSound Tryz.prog (tabOf []) := tab_sound tab_end
 have hF0 : Fr t nx wr t nx wr 0 := Fr.refl
 suffices key : SureK Tryz.prog ⟨t, nx, wr⟩ _ [] _ (EndR Tryz.prog _ (R_or [s] ⟨t, nx, wr⟩)) by
  obtain ⟨v, h', q, c⟩ := sure_start (R := R_or) (sz := 18) Tryz.func25 rfl rfl zo key
  exact ⟨v, h', q, c K s l rfl hs⟩
 refine s_seq (s_region hP hC (oA ?_))
 refine o_done (se_seq (s_seq (s_region hP hC (oA ?_))))
 refine o_done (se_seq (s_seq (s_seq (s_region hP hC (oM ?_)))))
 refine os (x_lenI hs rfl rfl zv rfl u22) ?_
 refine os (x_move rfl (by rfl)) ?_
 refine o_done (se_seq (s_block ?_))
 refine s_loop (α := Int) (fun i s' => ∃ e, s' = ⟨e, 18, ⟨t, nx, wr⟩⟩ /\ e.get 3 = some (.int .i64 0) /\ e.get 6 = some (s) /\ e.get 7 = some (.int .i64 l.length) /\ e.get 8 = some (.int .i64 i) /\ 0 <= i /\ i <= l.length /\ orL l = orL (l.drop i.toNat)) (fun i => (l.length - i).toNat) 0 ⟨_, rfl, hg, hg, hg, hg, by omega, by omega, by rw [Int.toNat_zero, List.drop_zero]⟩ ?_
 rintro i s' ⟨e, rfl, he0z3, he0z6, he0z7, he0z8, i0, i1, ho⟩
 refine s_seq (s_region hP hC ?_)
 refine os (x_bin rfl za za b_lss) ?_
 refine o_done (se_seq (s_seq ?_))
 refine s_cond za (fun g2 => ?_) (fun g2 => ?_)
 ·have p2 := g2; try simp only [dd] at p2
  refine s_skip (se_seq (s_seq (s_block (s_seq (s_region hP hC ?_)))))
  obtain ⟨id1, of1, c1, hv1, hl1⟩ := hs.elem (i := i) ow ow
  refine os (x_indexE hv1 rfl za za u22 T.s3 ow ow) ?_
  refine os (x_load1 rfl za T.g3 (hl1 _ _ _ (fun _ _ => rfl))) ?_
  refine oA ?_
  refine o_done (se_seq (s_seq (s_region hP hC (oM ?_))))
  refine oM ?_
  refine os (x_bin rfl za za b_neq) ?_
  refine o_done (se_seq ?_)
  refine s_cond za (fun g4 => ?_) (fun g4 => ?_)
  ·have p4 := g4; try simp only [dd] at p4
   refine s_seq (s_region hP hC (oM ?_))
   refine oA ?_
   refine o_done (se_seq ?_)
   refine s_ret ?_
   refine se_block_ret ?_
   refine se_seq_ret ?_
   refine se_loop_ret ?_
   refine se_block_ret ?_
   refine se_seq_ret ?_
   refine ⟨.inr rfl, _, (by simp only [Tryz.results25, resA, Tr.get_set, reduceIte, Nat.reduceEqDiff, Nat.reduceAdd, he0z3, he0z6, he0z7, he0z8, g2, g4] <;> rfl), fun K2 s2 l2 hs2 hb2 => ⟨rfl, ?_⟩⟩
   cases hs2
   rw [hs.uniq hb2]
   first
    | (rw [ho, orL_step i0 ow, if_neg ow]; rfl)
    | (rw [ho, List.drop_eq_nil_of_le ow]; rfl)
  ·have p4 := g4; try simp only [dd] at p4
   refine s_skip (se_block (se_seq (s_region hP hC ?_)))
   refine os (x_bin rfl za (by rfl) b_add) ?_
   refine oM ?_
   refine o_done ?_
   refine se_loop ?_
   have hw1 : IntKind.i64.wrap (i + 1) = i + 1 := wr1 ow ow
   refine ⟨i + 1, ⟨_, rfl, za, za, za, (by simp only [Tr.get_set, reduceIte, Nat.reduceEqDiff, Nat.reduceAdd, hw1, he0z3, he0z6, he0z7, he0z8, g2, g4] <;> rfl), by omega, by omega, ?_⟩, by omega⟩
   rw [ho, orL_step i0 ow, if_pos ow]
 ·have p2 := g2; try simp only [dd] at p2
  refine s_exit ?_
  refine se_seq_exit ?_
  refine se_loop_exit ?_
  refine se_block_eq (se_seq (s_seq (s_region hP hC (oM ?_))))
  refine oA ?_
  refine o_done (se_seq ?_)
  refine s_ret ?_
  refine ⟨.inr rfl, _, (by simp only [Tryz.results25, resA, Tr.get_set, reduceIte, Nat.reduceEqDiff, Nat.reduceAdd, he0z3, he0z6, he0z7, he0z8, g2] <;> rfl), fun K2 s2 l2 hs2 hb2 => ⟨rfl, ?_⟩⟩
  cases hs2
  rw [hs.uniq hb2]
  first
   | (rw [ho, orL_step i0 ow, if_neg ow]; rfl)
   | (rw [ho, List.drop_eq_nil_of_le ow]; rfl)
def R_cmpl : List Value -> AH -> Value -> AH -> Prop := fun args h v h' => ∀ K s a r b, args = [s, r] -> IV h.t K s a -> IV h.t K r b -> h' = ⟨h.t, h.next, h.wr⟩ /\ v = .int .i64 (cmpL a b)
noncomputable def c_cmpl := cEx Tryz.prog 27 R_cmpl
theorem con_cmpl : Con Tryz.prog 27 c_cmpl := con_ex Tryz.func27 rfl
theorem cmpl_c {t : Tr AObj} {nx wr : Nat} {K : Nat -> Prop} {s r : Value} {a b : List Int} (hs : IV t K s a) (hr : IV t K r b) (hl : a.length <= 1000000) (hm : b.length <= 1000000) (hwr : wr <= BIG) : ∃ v h', c_cmpl [s, r] ⟨t, nx, wr⟩ = some (v, h') /\ h' = ⟨t, nx, wr⟩ /\ v = .int .i64 (cmpL a b) := by
 have hP := Fits
 have hC : CallSound Tryz.prog (tabOf [(26, c_cmp)]) := tab_sound (tab_cons con_cmp tab_end)
 have hF0 : Fr t nx wr t nx wr 0 := Fr.refl
 suffices key : SureK Tryz.prog ⟨t, nx, wr⟩ _ [] _ (EndR Tryz.prog _ (R_cmpl [s, r] ⟨t, nx, wr⟩)) by
  obtain ⟨v, h', q, c⟩ := sure_start (R := R_cmpl) (sz := 36) Tryz.func27 rfl rfl zo key
  exact ⟨v, h', q, c K s a r b rfl hs hr⟩
 refine s_seq (s_region hP hC (oA ?_))
 refine o_done (se_seq (s_seq (s_seq (s_region hP hC (oM ?_)))))
 refine os (x_lenI hs rfl rfl zv rfl u22) ?_
 refine os (x_move rfl (by rfl)) ?_
 refine o_done (se_seq (s_block ?_))
 refine s_loop (α := Int) (fun i s' => ∃ e, s' = ⟨e, 36, ⟨t, nx, wr⟩⟩ /\ e.get 0 = some (s) /\ e.get 1 = some (r) /\ e.get 9 = some (s) /\ e.get 10 = some (.int .i64 a.length) /\ e.get 11 = some (.int .i64 i) /\ 0 <= i /\ i <= a.length /\ i <= b.length /\ cmpL a b = cmpL (a.drop i.toNat) (b.drop i.toNat)) (fun i => (a.length - i).toNat) 0 ⟨_, rfl, hg, hg, hg, hg, hg, by omega, by omega, by omega, by rw [Int.toNat_zero, List.drop_zero, List.drop_zero]⟩ ?_
 rintro i s' ⟨e, rfl, he0z0, he0z1, he0z9, he0z10, he0z11, i0, i1, i2, ho⟩
 refine s_seq (s_region hP hC ?_)
 refine os (x_bin rfl za za b_lss) ?_
 refine o_done (se_seq (s_seq ?_))
 refine s_cond za (fun g2 => ?_) (fun g2 => ?_)
 ·have p2 := g2; try simp only [dd] at p2
  refine s_skip (se_seq (s_seq (s_block (s_seq (s_region hP hC (oM ?_))))))
  obtain ⟨id1, of1, c1, hv1, hl1⟩ := hs.elem (i := i) ow ow
  refine os (x_indexE hv1 rfl za za u22 T.s3 ow ow) ?_
  refine os (x_load1 rfl za T.g3 (hl1 _ _ _ (fun _ _ => rfl))) ?_
  refine oA ?_
  refine oA ?_
  refine o_done (se_seq (s_seq (s_seq (s_region hP hC (oM ?_)))))
  refine oM ?_
  refine os (x_lenI hr rfl rfl ze rfl u22) ?_
  refine os (x_bin rfl za za b_geq) ?_
  refine o_done (se_seq ?_)
  refine s_cond za (fun g4 => ?_) (fun g4 => ?_)
  ·have p4 := g4; try simp only [dd] at p4
   refine s_seq (s_region hP hC (oA ?_))
   refine o_done (se_seq ?_)
   refine s_ret ?_
   refine se_seq_ret ?_
   refine se_block_ret ?_
   refine se_seq_ret ?_
   refine se_loop_ret ?_
   refine se_block_ret ?_
   refine se_seq_ret ?_
   refine ⟨.inr rfl, _, (by simp only [Tryz.results27, resA, Tr.get_set, reduceIte, Nat.reduceEqDiff, Nat.reduceAdd, he0z0, he0z1, he0z9, he0z10, he0z11, g2, g4] <;> rfl), fun K2 s2 a2 r2 b2 hs2 ha2 hb2 => ⟨rfl, ?_⟩⟩
   cases hs2
   rw [hs.uniq ha2, hr.uniq hb2]
   first
    | (rw [ho, cmpL_more i0 ow ow]; rfl)
    | (rw [ho, cmpL_step i0 ow ow, if_neg ow]; rfl)
    | (rw [ho, cmpL_end i0 ow ow ow, if_pos ow]; rfl)
    | (rw [ho, cmpL_end i0 ow ow ow, if_neg ow]; rfl)
  ·have p4 := g4; try simp only [dd] at p4
   refine s_skip (se_seq (s_seq (s_region hP hC (oM ?_))))
   refine oM ?_
   obtain ⟨id2, of2, c2, hv2, hl2⟩ := hr.elem (i := i) ow ow
   refine os (x_indexE hv2 rfl za za u22 T.s3 ow ow) ?_
   refine os (x_load1 rfl za T.g3 (hl2 _ _ _ (fun _ _ => rfl))) ?_
   refine oA ?_
   refine o_done (se_seq (s_seq (s_region hP hC (oM ?_))))
   refine oM ?_
   refine o_callR (tab_hitR (cmp_c hwr)) (wA_none rfl) rfl rfl rfl ze zd (fun v3 h3 hR3 => ?_)
   obtain ⟨rfl, rfl⟩ := hR3
   refine oA ?_
   refine o_done (se_seq (s_seq (s_region hP hC (oM ?_))))
   refine os (x_bin rfl za (by rfl) b_neq) ?_
   refine o_done (se_seq ?_)
   refine s_cond za (fun g6 => ?_) (fun g6 => ?_)
   ·have p6 := g6; try simp only [dd] at p6
    refine s_seq (s_region hP hC (oM ?_))
    refine oA ?_
    refine o_done (se_seq ?_)
    refine s_ret ?_
    refine se_block_ret ?_
    refine se_seq_ret ?_
    refine se_loop_ret ?_
    refine se_block_ret ?_
    refine se_seq_ret ?_
    refine ⟨.inr rfl, _, (by simp only [Tryz.results27, resA, Tr.get_set, reduceIte, Nat.reduceEqDiff, Nat.reduceAdd, he0z0, he0z1, he0z9, he0z10, he0z11, g2, g4, g6] <;> rfl), fun K2 s2 a2 r2 b2 hs2 ha2 hb2 => ⟨rfl, ?_⟩⟩
    cases hs2
    rw [hs.uniq ha2, hr.uniq hb2]
    first
     | (rw [ho, cmpL_more i0 ow ow]; rfl)
     | (rw [ho, cmpL_step i0 ow ow, if_neg ow]; rfl)
     | (rw [ho, cmpL_end i0 ow ow ow, if_pos ow]; rfl)
     | (rw [ho, cmpL_end i0 ow ow ow, if_neg ow]; rfl)
   ·have p6 := g6; try simp only [dd] at p6
    refine s_skip (se_block (se_seq (s_region hP hC ?_)))
    refine os (x_bin rfl za (by rfl) b_add) ?_
    refine oM ?_
    refine o_done ?_
    refine se_loop ?_
    have hw1 : IntKind.i64.wrap (i + 1) = i + 1 := wr1 ow ow
    refine ⟨i + 1, ⟨_, rfl, za, za, za, za, (by simp only [Tr.get_set, reduceIte, Nat.reduceEqDiff, Nat.reduceAdd, hw1, he0z0, he0z1, he0z9, he0z10, he0z11, g2, g4, g6] <;> rfl), by omega, by omega, by omega, ?_⟩, by omega⟩
    rw [ho, cmpL_step i0 ow ow, if_pos ow]
 ·have p2 := g2; try simp only [dd] at p2
  refine s_exit ?_
  refine se_seq_exit ?_
  refine se_loop_exit ?_
  refine se_block_eq (se_seq (s_seq (s_seq (s_region hP hC (oM ?_)))))
  refine os (x_lenI hs rfl rfl ze rfl u22) ?_
  refine oM ?_
  refine os (x_lenI hr rfl rfl ze rfl u22) ?_
  refine os (x_bin rfl za za b_lss) ?_
  refine o_done (se_seq ?_)
  refine s_cond za (fun g8 => ?_) (fun g8 => ?_)
  ·have p8 := g8; try simp only [dd] at p8
   refine s_seq (s_region hP hC (oA ?_))
   refine o_done (se_seq ?_)
   refine s_ret ?_
   refine se_seq_ret ?_
   refine ⟨.inr rfl, _, (by simp only [Tryz.results27, resA, Tr.get_set, reduceIte, Nat.reduceEqDiff, Nat.reduceAdd, he0z0, he0z1, he0z9, he0z10, he0z11, g2, g8] <;> rfl), fun K2 s2 a2 r2 b2 hs2 ha2 hb2 => ⟨rfl, ?_⟩⟩
   cases hs2
   rw [hs.uniq ha2, hr.uniq hb2]
   first
    | (rw [ho, cmpL_more i0 ow ow]; rfl)
    | (rw [ho, cmpL_step i0 ow ow, if_neg ow]; rfl)
    | (rw [ho, cmpL_end i0 ow ow ow, if_pos ow]; rfl)
    | (rw [ho, cmpL_end i0 ow ow ow, if_neg ow]; rfl)
  ·have p8 := g8; try simp only [dd] at p8
   refine s_skip (se_seq (s_seq (s_region hP hC (oA ?_))))
   refine o_done (se_seq ?_)
   refine s_ret ?_
   refine ⟨.inr rfl, _, (by simp only [Tryz.results27, resA, Tr.get_set, reduceIte, Nat.reduceEqDiff, Nat.reduceAdd, he0z0, he0z1, he0z9, he0z10, he0z11, g2, g8] <;> rfl), fun K2 s2 a2 r2 b2 hs2 ha2 hb2 => ⟨rfl, ?_⟩⟩
   cases hs2
   rw [hs.uniq ha2, hr.uniq hb2]
   first
    | (rw [ho, cmpL_more i0 ow ow]; rfl)
    | (rw [ho, cmpL_step i0 ow ow, if_neg ow]; rfl)
    | (rw [ho, cmpL_end i0 ow ow ow, if_pos ow]; rfl)
    | (rw [ho, cmpL_end i0 ow ow ow, if_neg ow]; rfl)
end Go.Proofs.YtmladpbadglecaaGreatDoor
namespace Go.Proofs.YtmladpbadglecaaGreatDoor
open Go.AM
set_option maxRecDepth 100000
set_option maxHeartbeats 1000000
set_option maxHeartbeats 8000000
def R_clone : List Value -> AH -> Value -> AH -> Prop := fun args h v h' => ∀ K s l, args = [s] -> IV h.t K s l -> NW (l) 2 h.t h.next h.wr v h'
noncomputable def c_clone := cEx Tryz.prog 28 R_clone
theorem con_clone : Con Tryz.prog 28 c_clone := con_ex Tryz.func28 rfl
theorem clone_c {t : Tr AObj} {nx wr : Nat} {K : Nat -> Prop} {s : Value} {l : List Int} (hs : IV t K s l) (hK : ∀ i, K i -> i < nx) (hl : l.length <= 1000000) (hN : nx + 2000000 <= BIG) (hwr : wr <= BIG) : ∃ v h', c_clone [s] ⟨t, nx, wr⟩ = some (v, h') /\ NW (l) 2 t nx wr v h' := by
 have hP := Fits
 have hC : CallSound Tryz.prog (tabOf []) := tab_sound tab_end
 have hF0 : Fr t nx wr t nx wr 0 := Fr.refl
 suffices key : SureK Tryz.prog ⟨t, nx, wr⟩ _ [] _ (EndR Tryz.prog _ (R_clone [s] ⟨t, nx, wr⟩)) by
  obtain ⟨v, h', q, c⟩ := sure_start (R := R_clone) (sz := 8) Tryz.func28 rfl rfl zo key
  exact ⟨v, h', q, c K s l rfl hs⟩
 have hs0 := hs
 rcases hs with ⟨h1, h2⟩ | ⟨id, off, c, h2, hc, hl0⟩ <;> subst h2
 ·skip
  refine s_seq (s_region hP hC (oA ?_))
  refine o_done (se_seq (s_seq (s_seq (s_region hP hC (oM ?_)))))
  refine os (x_bin (u := .bool true) rfl zt (by rfl) rfl) ?_
  refine o_done (se_seq ?_)
  refine s_condT zt ?_
  refine s_seq (s_region hP hC (oA ?_))
  refine o_done (se_seq ?_)
  refine s_ret ?_
  refine se_seq_ret ?_
  refine ⟨.inr rfl, _, (by simp only [Tryz.results28, resA, Tr.get_set, reduceIte, Nat.reduceEqDiff, Nat.reduceAdd] <;> rfl), fun K2 s2 l2 hs2 hb2 => ?_⟩
  cases hs2
  rw [hs0.uniq hb2]
  exact ⟨_, _, _, rfl, Fr.refl, .inl ⟨h1, rfl⟩⟩
 ·skip
  refine s_seq (s_region hP hC (oA ?_))
  refine o_done (se_seq (s_seq (s_seq (s_region hP hC (oM ?_)))))
  refine os (x_bin (u := .bool false) rfl zt (by rfl) (b_eqlNilS u22 (.inl ⟨rfl, rfl⟩))) ?_
  refine o_done (se_seq ?_)
  refine s_condF zt ?_
  refine s_skip (se_seq (s_seq (s_region hP hC ?_)))
  refine os (y_bslice0 rfl u22 T.s3 T.z3 zd rfl rfl) ?_
  refine oM ?_
  obtain ⟨v7, t7, n7, hap, f1, f2, f3, iv7⟩ := app_new (P := Tryz.prog) (T := 22) (t := t.set nx (.row [] nx BIG false 0)) (nx := nx + 1) (wr := wr) (l := l) (id := nx) (by rw [gp rfl]) ow u22 T.i22 ow ow
  refine os (x_append rfl rfl zv rfl rfl zr (cells_iv (hs0.keep (t' := t.set nx (.row [] nx BIG false 0)) (fun i q => by have := hK i q; rw [gn ow])) u22 T.s3) hap) ?_
  refine oA ?_
  refine o_done (se_seq ?_)
  refine s_ret ?_
  refine ⟨.inr rfl, _, (by simp only [Tryz.results28, resA, Tr.get_set, reduceIte, Nat.reduceEqDiff, Nat.reduceAdd] <;> rfl), fun K2 s2 l2 hs2 hb2 => ?_⟩
  cases hs2
  rw [hs0.uniq hb2]
  exact ⟨_, _, _, rfl, ⟨by show nx <= n7; omega, by show n7 <= nx + 2; omega, Nat.min_le_left _ _, Nat.le_refl _, fun i (hi : i < nx) => (f3 i ow).trans (by rw [gn ow])⟩, iv7⟩
def R_trim : List Value -> AH -> Value -> AH -> Prop := fun args h v h' => ∀ K s l, args = [s] -> IV h.t K s l -> NW (trim l) 2 h.t h.next h.wr v h'
noncomputable def c_trim := cEx Tryz.prog 13 R_trim
theorem con_trim : Con Tryz.prog 13 c_trim := con_ex Tryz.func13 rfl
theorem trim_c {t : Tr AObj} {nx wr : Nat} {K : Nat -> Prop} {s : Value} {l : List Int} (hs : IV t K s l) (hK : ∀ i, K i -> i < nx) (hl : l.length <= 1000000) (hN : nx + 2000000 <= BIG) (hwr : wr <= BIG) : ∃ v h', c_trim [s] ⟨t, nx, wr⟩ = some (v, h') /\ NW (trim l) 2 t nx wr v h' := by
 have hP := Fits
 have hC : CallSound Tryz.prog (tabOf [(28, c_clone)]) := tab_sound (tab_cons con_clone tab_end)
 have hF0 : Fr t nx wr t nx wr 0 := Fr.refl
 have tl := trN_le l l.length
 suffices key : SureK Tryz.prog ⟨t, nx, wr⟩ _ [] _ (EndR Tryz.prog _ (R_trim [s] ⟨t, nx, wr⟩)) by
  obtain ⟨v, h', q, c⟩ := sure_start (R := R_trim) (sz := 22) Tryz.func13 rfl rfl zo key
  exact ⟨v, h', q, c K s l rfl hs⟩
 refine s_seq (s_region hP hC (oA ?_))
 refine o_done (se_seq (s_seq (s_region hP hC (oM ?_))))
 refine os (x_lenI hs rfl rfl zv rfl u22) ?_
 refine oA ?_
 refine o_done (se_seq (s_seq ?_))
 refine s_join (fun s' => ∃ e, s' = ⟨e, 22, ⟨t, nx, wr⟩⟩ /\ e.get 0 = some s /\ e.get 3 = some (.int .i64 (trN l l.length))) ?_ ?_
 ·skip
  refine s_block ?_
  refine s_loop (α := Int) (fun i s' => ∃ e, s' = ⟨e, 22, ⟨t, nx, wr⟩⟩ /\ e.get 0 = some (s) /\ e.get 3 = some (.int .i64 i) /\ 0 <= i /\ i <= l.length /\ trN l l.length = trN l i.toNat) (fun i => i.toNat) (l.length : Int) ⟨_, rfl, hg, hg, by omega, by omega, by rw [Int.toNat_natCast]⟩ ?_
  rintro i s' ⟨e, rfl, he0z0, he0z3, i0, i1, ho⟩
  refine s_seq (s_seq (s_region hP hC (oM ?_)))
  refine os (x_bin rfl za (by rfl) b_gtr) ?_
  refine oM ?_
  refine o_guard rfl rfl za (fun g2 => ?_) (fun g2 => ?_)
  ·have p2 := g2; try simp only [dd] at p2
   refine o_step wZ rfl (x_move rfl za) zd ?_
   refine o_step wZ rfl (x_move rfl za) zd ?_
   refine o_step wZ rfl (x_bin rfl za (by rfl) b_sub) zd ?_
   have hwi : IntKind.i64.wrap (i - 1) = i - 1 := IntWalk.i64_in _ ow
   rw [hwi]
   obtain ⟨id1, of1, c1, hv1, hl1⟩ := hs.elem (i := i - 1) ow ow
   refine o_step wZ rfl (x_indexE hv1 rfl za za u22 T.s3 ow ow) zd ?_
   refine o_step wZ rfl (x_load1 rfl za T.g3 (hl1 _ _ _ (fun _ _ => rfl))) zd ?_
   refine o_step wZ rfl (x_bin rfl za (by rfl) b_eql) zd ?_
   refine os (x_pick rfl zw zb) ?_
   refine o_done (se_seq ?_)
   refine s_cond za (fun g4 => ?_) (fun g4 => ?_)
   ·have p4 := g4; try simp only [dd] at p4
    refine s_skip (se_seq (s_block (s_region hP hC (oM ?_))))
    refine os (x_bin rfl za (by rfl) b_sub) ?_
    refine oA ?_
    refine o_done (se_block ?_)
    refine se_loop ?_
    have hw1 : IntKind.i64.wrap (i - 1) = i - 1 := IntWalk.i64_in _ ow
    refine ⟨i - 1, ⟨_, rfl, za, (by simp only [Tr.get_set, reduceIte, Nat.reduceEqDiff, Nat.reduceAdd, hw1, he0z0, he0z3, g2, g4] <;> rfl), by omega, by omega, ?_⟩, by omega⟩
    rw [ho, trN_step i0 ow, if_pos ow]
   ·have p4 := g4; try simp only [dd] at p4
    refine s_exit ?_
    refine se_seq_exit ?_
    refine se_loop_exit ?_
    refine se_block_eq ?_
    refine se_loop ?_
    have hi : ((trN l l.length : Nat) : Int) = i := by
     first
      | (rw [ho, trN_zero ow]; omega)
      | (rw [ho, trN_step i0 ow, if_neg ow]; omega)
    exact ⟨_, rfl, za, by rw [hi]; exact za⟩
  ·have p2 := g2; try simp only [dd] at p2
   refine oS ?_
   refine oS ?_
   refine oS ?_
   refine oS ?_
   refine oS ?_
   refine oS ?_
   refine os (x_pick rfl zw zb) ?_
   refine o_done (se_seq ?_)
   refine s_condF za ?_
   refine s_exit ?_
   refine se_seq_exit ?_
   refine se_loop_exit ?_
   refine se_block_eq ?_
   refine se_loop ?_
   have hi : ((trN l l.length : Nat) : Int) = i := by
    first
     | (rw [ho, trN_zero ow]; omega)
     | (rw [ho, trN_step i0 ow, if_neg ow]; omega)
   exact ⟨_, rfl, za, by rw [hi]; exact za⟩
 ·skip
  rintro _ ⟨e, rfl, hez0, hez3⟩
  obtain ⟨wS, iS, hsS⟩ := x_sliceW (P := Tryz.prog) (T := 22) (lo := none) (hi := some (.tmp 19)) (i := 0) (j := (trN l l.length : Nat)) hs u22 T.s3 ow ow ow (fun _ => rfl) (fun q => by cases q)
  have eS : (l.drop (0 : Int).toNat).take (((trN l l.length : Nat) : Int).toNat - (0 : Int).toNat) = trim l := by unfold trim; rw [Int.toNat_zero, List.drop_zero, Int.toNat_natCast, Nat.sub_zero]
  rw [eS] at iS
  refine s_seq (s_region hP hC (oM ?_))
  refine oM ?_
  refine os (hsS (fun _ _ => rfl) rfl za (fun a q => by cases q) (fun a q => by cases q; exact za)) ?_
  refine o_callR (tab_hitR (clone_c iS hK (by have := trim_le l; omega) hN hwr)) (wA_none rfl) rfl rfl rfl ze zd (fun v1 h1 hR1 => ?_)
  refine oA ?_
  refine o_done (se_seq ?_)
  refine s_ret ?_
  obtain ⟨t1, n1, w1, rfl, hF, hI⟩ := hR1
  refine ⟨.inr rfl, _, (by simp only [Tryz.results13, resA, Tr.get_set, reduceIte, Nat.reduceEqDiff, Nat.reduceAdd, hez0, hez3] <;> rfl), fun K2 s2 l2 hs2 hb2 => ?_⟩
  cases hs2
  rw [hs.uniq hb2]
  exact ⟨_, _, _, rfl, hF, hI⟩
def R_less : List Value -> AH -> Value -> AH -> Prop := fun args h v h' => ∀ K s a r b, args = [s, r] -> IV h.t K s a -> IV h.t K r b -> ∃ t' nx' wr', h' = ⟨t', nx', wr'⟩ /\ Fr h.t h.next h.wr t' nx' wr' 5 /\ v = .bool (lessW a b)
noncomputable def c_less := cEx Tryz.prog 12 R_less
theorem con_less : Con Tryz.prog 12 c_less := con_ex Tryz.func12 rfl
theorem less_c {t : Tr AObj} {nx wr : Nat} {K : Nat -> Prop} {s r : Value} {a b : List Int} (hs : IV t K s a) (hr : IV t K r b) (hK : ∀ i, K i -> i < nx) (hl : a.length <= 1000000) (hm : b.length <= 1000000) (hN : nx + 2000020 <= BIG) (hwr : wr <= BIG) : ∃ v h', c_less [s, r] ⟨t, nx, wr⟩ = some (v, h') /\ ∃ t' nx' wr', h' = ⟨t', nx', wr'⟩ /\ Fr t nx wr t' nx' wr' 5 /\ v = .bool (lessW a b) := by
 have hP := Fits
 have hC : CallSound Tryz.prog (tabOf [(13, c_trim), (26, c_cmp), (27, c_cmpl), (25, c_or)]) := tab_sound (tab_cons con_trim (tab_cons con_cmp (tab_cons con_cmpl (tab_cons con_or tab_end))))
 have hF0 : Fr t nx wr t nx wr 0 := Fr.refl
 suffices key : SureK Tryz.prog ⟨t, nx, wr⟩ _ [] _ (EndR Tryz.prog _ (R_less [s, r] ⟨t, nx, wr⟩)) by
  obtain ⟨v, h', q, c⟩ := sure_start (R := R_less) (sz := 20) Tryz.func12 rfl rfl zo key
  exact ⟨v, h', q, c K s a r b rfl hs hr⟩
 refine s_seq (s_region hP hC (oA ?_))
 refine o_done (se_seq (s_seq (s_region hP hC (oM ?_))))
 refine o_callR (tab_hitR (trim_c hs hK hl ow hwr)) (wA_none rfl) rfl rfl rfl zv zd (fun v1 h1 hR1 => ?_)
 obtain ⟨t1, n1, w1, rfl, hF1, hI1⟩ := hR1
 have a1 := hF1.le
 have a2 := hF1.hi
 have a3 := hF1.wlo
 have a4 := hF1.whi
 have la := trim_le a
 have lb := trim_le b
 refine oM ?_
 refine o_callR (tab_hitR (trim_c (nx := n1) (hr.keep (fun i q => hF1.same i (hK i q))) (fun i q => by have := hK i q; omega) hm ow ow)) (wA_none rfl) rfl rfl rfl zv zd (fun v2 h2 hR2 => ?_)
 obtain ⟨t2, n2, w2, rfl, hF2, hI2⟩ := hR2
 have b1 := hF2.le
 have b2 := hF2.hi
 have b3 := hF2.wlo
 have b4 := hF2.whi
 have hA := (hI1.keep (t' := t2) (fun i q => hF2.same i q.2)).mono (K' := fun i => nx <= i /\ i < n2) (fun i q => by omega)
 have hB := hI2.mono (K' := fun i => nx <= i /\ i < n2) (fun i q => by omega)
 refine oA ?_
 refine oA ?_
 refine o_done (se_seq (s_seq (s_region hP hC (oM ?_))))
 refine os (x_lenI hA rfl rfl zv rfl u22) ?_
 refine oM ?_
 refine os (x_lenI hB rfl rfl zv rfl u22) ?_
 refine o_callR (tab_missR zd (tab_hitR (cmp_c ow))) (wA_none rfl) rfl rfl rfl zv zd (fun v1 h1 hR1 => ?_)
 obtain ⟨rfl, rfl⟩ := hR1
 refine oM ?_
 refine oM ?_
 refine o_callR (tab_missR zd (tab_missR zd (tab_hitR (cmpl_c hA hB ow ow ow)))) (wA_none rfl) rfl rfl rfl zv zd (fun v2 h2 hR2 => ?_)
 obtain ⟨rfl, rfl⟩ := hR2
 refine os (y_bsliceN (cs := ints [cmpI (trim a).length (trim b).length, cmpL (trim a) (trim b)]) rfl zp u22 T.s3 T.z3 zd zd rfl rfl (by rfl)) ?_
 refine o_callR (tab_missR zd (tab_missR zd (tab_missR zd (tab_hitR (or_c (K := fun i => i = n2) (l := [cmpI (trim a).length (trim b).length, cmpL (trim a) (trim b)]) (iv_row rfl (.inl rfl) (by rw [gp rfl])) (by show 2 <= 1000000; decide) ow))))) (wA_none rfl) rfl rfl rfl zv zd (fun v3 h3 hR3 => ?_)
 obtain ⟨rfl, rfl⟩ := hR3
 refine os (x_bin rfl zt (by rfl) b_lss) ?_
 refine oA ?_
 refine o_done (se_seq ?_)
 refine s_ret ?_
 refine ⟨.inr rfl, _, (by simp only [Tryz.results12, resA, Tr.get_set, reduceIte, Nat.reduceEqDiff, Nat.reduceAdd] <;> rfl), fun K2 s2 a' r2 b' hs2 ha2 hb2 => ?_⟩
 cases hs2
 rw [hs.uniq ha2, hr.uniq hb2]
 exact ⟨_, _, _, rfl, ⟨by show nx <= n2 + 1; omega, by show n2 + 1 <= nx + 5; omega, by show min wr nx <= w2; omega, by show w2 <= wr; omega, fun i (hi : i < nx) => by show _ = t.get i; rw [gn ow]; exact (hF2.same i ow).trans (hF1.same i hi)⟩, rfl⟩
def R_ord : List Value -> AH -> Value -> AH -> Prop := fun args h v h' => ∀ K s a r b, args = [s, r] -> IV h.t K s a -> IV h.t K r b -> ∃ t' nx' wr', h' = ⟨t', nx', wr'⟩ /\ Fr h.t h.next h.wr t' nx' wr' 10 /\ v = .int .i64 (ordW a b)
noncomputable def c_ord := cEx Tryz.prog 18 R_ord
theorem con_ord : Con Tryz.prog 18 c_ord := con_ex Tryz.func18 rfl
theorem ord_c {t : Tr AObj} {nx wr : Nat} {K : Nat -> Prop} {s r : Value} {a b : List Int} (hs : IV t K s a) (hr : IV t K r b) (hK : ∀ i, K i -> i < nx) (hl : a.length <= 1000000) (hm : b.length <= 1000000) (hN : nx + 2000040 <= BIG) (hwr : wr <= BIG) : ∃ v h', c_ord [s, r] ⟨t, nx, wr⟩ = some (v, h') /\ ∃ t' nx' wr', h' = ⟨t', nx', wr'⟩ /\ Fr t nx wr t' nx' wr' 10 /\ v = .int .i64 (ordW a b) := by
 have hP := Fits
 have hC : CallSound Tryz.prog (tabOf [(12, c_less)]) := tab_sound (tab_cons con_less tab_end)
 have hF0 : Fr t nx wr t nx wr 0 := Fr.refl
 suffices key : SureK Tryz.prog ⟨t, nx, wr⟩ _ [] _ (EndR Tryz.prog _ (R_ord [s, r] ⟨t, nx, wr⟩)) by
  obtain ⟨v, h', q, c⟩ := sure_start (R := R_ord) (sz := 11) Tryz.func18 rfl rfl zo key
  exact ⟨v, h', q, c K s a r b rfl hs hr⟩
 refine s_seq (s_region hP hC (oA ?_))
 refine o_done (se_seq (s_seq (s_seq (s_region hP hC (oM ?_)))))
 refine oM ?_
 refine o_callR (tab_hitR (less_c hs hr hK hl hm ow hwr)) (wA_none rfl) rfl rfl rfl zv zd (fun v1 h1 hR1 => ?_)
 obtain ⟨t1, n1, w1, rfl, hF1, rfl⟩ := hR1
 have a1 := hF1.le
 have a2 := hF1.hi
 have a3 := hF1.wlo
 have a4 := hF1.whi
 refine o_done (se_seq ?_)
 refine s_cond zt (fun g2 => ?_) (fun g2 => ?_)
 ·have p2 := g2; try simp only [dd] at p2
  refine s_seq (s_region hP hC (oA ?_))
  refine o_done (se_seq ?_)
  refine s_ret ?_
  refine se_seq_ret ?_
  refine ⟨.inr rfl, _, (by simp only [Tryz.results18, resA, Tr.get_set, reduceIte, Nat.reduceEqDiff, Nat.reduceAdd, g2] <;> rfl), fun K2 s2 a' r2 b' hs2 ha2 hb2 => ?_⟩
  cases hs2
  rw [hs.uniq ha2, hr.uniq hb2]
  exact ⟨_, _, _, rfl, Fr.low hF1 ow, by unfold ordW; simp only [g2, if_true, if_false, Bool.false_eq_true]; rfl⟩
 ·have p2 := g2; try simp only [dd] at p2
  refine s_skip (se_seq (s_seq (s_seq (s_region hP hC (oM ?_)))))
  refine oM ?_
  refine o_callR (tab_hitR (less_c (nx := n1) (hr.keep (fun i q => hF1.same i (hK i q))) (hs.keep (fun i q => hF1.same i (hK i q))) (fun i q => by have := hK i q; omega) hm hl ow ow)) (wA_none rfl) rfl rfl rfl zv zd (fun v2 h2 hR2 => ?_)
  obtain ⟨t2, n2, w2, rfl, hF2, rfl⟩ := hR2
  have b1 := hF2.le
  have b2 := hF2.hi
  have b3 := hF2.wlo
  have b4 := hF2.whi
  refine o_done (se_seq ?_)
  refine s_cond zt (fun g4 => ?_) (fun g4 => ?_)
  ·have p4 := g4; try simp only [dd] at p4
   refine s_seq (s_region hP hC (oA ?_))
   refine o_done (se_seq ?_)
   refine s_ret ?_
   refine se_seq_ret ?_
   refine ⟨.inr rfl, _, (by simp only [Tryz.results18, resA, Tr.get_set, reduceIte, Nat.reduceEqDiff, Nat.reduceAdd, g2, g4] <;> rfl), fun K2 s2 a' r2 b' hs2 ha2 hb2 => ?_⟩
   cases hs2
   rw [hs.uniq ha2, hr.uniq hb2]
   exact ⟨_, _, _, rfl, Fr.low (Fr.trans hF1 hF2 (Nat.le_refl _)) ow, by unfold ordW; simp only [g2, g4, if_true, if_false, Bool.false_eq_true]; rfl⟩
  ·have p4 := g4; try simp only [dd] at p4
   refine s_skip (se_seq (s_seq (s_region hP hC (oA ?_))))
   refine o_done (se_seq ?_)
   refine s_ret ?_
   refine ⟨.inr rfl, _, (by simp only [Tryz.results18, resA, Tr.get_set, reduceIte, Nat.reduceEqDiff, Nat.reduceAdd, g2, g4] <;> rfl), fun K2 s2 a' r2 b' hs2 ha2 hb2 => ?_⟩
   cases hs2
   rw [hs.uniq ha2, hr.uniq hb2]
   exact ⟨_, _, _, rfl, Fr.low (Fr.trans hF1 hF2 (Nat.le_refl _)) ow, by unfold ordW; simp only [g2, g4, if_true, if_false, Bool.false_eq_true]; rfl⟩
end Go.Proofs.YtmladpbadglecaaGreatDoor
