/-
  The law TrustJudges: her walk.
-/
import Derived.Test.YtohhcnehcjpekaaJLj
namespace Go.Proofs.Ytohhcnehcjpekaa
open Go.AM
set_option maxRecDepth 100000
set_option maxHeartbeats 1000000
set_option linter.unusedSimpArgs false
set_option linter.unusedVariables false
set_option maxHeartbeats 40000000
def ok_judgelaw (l : List Int) (bits : Int) (how : Int) (bb : Int) (uu : List Int) (ww : List Int) (raw : List (List Value)) : Bool := decide (inR bits) && decide (inR how) && decide (inR bb) && decide (l.all (fun n => decide (inR n)) = true) && decide (l.length < 4611686018427387904) && decide (uu.length ≤ 17592186044416) && decide (ww.length < 4611686018427387904) && decide (raw.length < 4611686018427387904)
def val_judgelaw (l : List Int) (bits : Int) (how : Int) (bb : Int) (uu : List Int) (ww : List Int) (raw : List (List Value)) : Value := .bool true
def new_judgelaw (l : List Int) (bits : Int) (how : Int) (bb : Int) (uu : List Int) (ww : List Int) (raw : List (List Value)) : List (List Value) := []
theorem judgelaw_m {s_l : Value} {s_uu : Value} {s_ww : Value} {s_raw : Value} {l : List Int} {bits : Int} {how : Int} {bb : Int} {uu : List Int} {ww : List Int} {raw : List (List Value)} (hs_l : Sl 0 1 l.length s_l) (hs_uu : Sl 1 1 uu.length s_uu) (hs_ww : Sl 2 1 ww.length s_ww) (hs_raw : Sl 3 46 raw.length s_raw) (h_raw : cfs T.K43 raw) (hok : ok_judgelaw l bits how bb uu ww raw = true) : Meets Try.prog (.func 4) [s_l, .int .i64 bits, .int .i64 how, .int .i64 bb, s_uu, s_ww, s_raw] (cheap [ints l, ints uu, ints ww, raw.flatten]) (val_judgelaw l bits how bb uu ww raw) (rheap [ints l, ints uu, ints ww, raw.flatten] (new_judgelaw l bits how bb uu ww raw)) := by
 have hP := Fits
 have hC : CallSound Try.prog (tabOf [(8, c_made), (14, c_around), (22, c_wrong31), (23, c_judge), (24, c_judge33), (25, c_same), (26, c_check), (27, c_check33), (28, c_kept), (29, c_kept33), (15, c_sameAns), (30, c_leans), (31, c_leans33), (20, c_same01), (21, c_lives)]) := tab_sound (tab_cons con_made (tab_cons con_around (tab_cons con_wrong31 (tab_cons con_judge (tab_cons con_judge33 (tab_cons con_same (tab_cons con_check (tab_cons con_check33 (tab_cons con_kept (tab_cons con_kept33 (tab_cons con_sameAns (tab_cons con_leans (tab_cons con_leans33 (tab_cons con_same01 (tab_cons con_lives tab_end)))))))))))))))
 simp only [ok_judgelaw, Bool.and_eq_true, decide_eq_true_eq] at hok
 obtain ⟨⟨⟨⟨⟨⟨⟨hbt, hhw⟩, hbb⟩, hl⟩, hlb⟩, huu⟩, hwwl⟩, hrb⟩ := hok
 obtain ⟨A, hA⟩ : ∃ A, A = mkA l bits (min (l.length : Int) 16) := ⟨_, rfl⟩
 obtain ⟨R, hR⟩ : ∃ R, R = mkR l (min (l.length : Int) 16) := ⟨_, rfl⟩
 have h_A : cfs T.K43 A := by rw [hA]; exact mkA_cfs
 have h_R : cfs T.K41 R := by rw [hR]; exact mkR_cfs
 have hAl : A.length = R.length := by rw [hA, hR, mkA_len, mkR_len]
 have hA16 : A.length ≤ 16 := by rw [hA, mkA_len]; omega
 have hsm : ∀ j : Int, 0 ≤ j → j < R.length → (strAt (nth R j) 1).size ≤ 1000 := fun j h0 h1 => by rw [hR] at h1 ⊢; exact rights_small h0 h1
 obtain ⟨m, hmm⟩ : ∃ m : Int, m = min (raw.length : Int) 4 := ⟨_, rfl⟩
 have hm0 : 0 ≤ m := by omega
 have hm1 : m ≤ raw.length := by omega
 have hm4 : m ≤ 4 := by omega
 obtain ⟨B, hB⟩ : ∃ B, B = A ++ raw.take m.toNat := ⟨_, rfl⟩
 have hBl : B.length = A.length + m.toNat := by rw [hB, List.length_append, List.length_take, Nat.min_eq_left ow]
 have hBb : B.length ≤ 20 := by omega
 have h_B : cfs T.K43 B := by rw [hB]; exact cfs_append h_A (cfs_take h_raw)
 have hZ : cf T.K41 zres = true := rfl
 obtain ⟨MM, hMM⟩ : ∃ M, M = R ++ List.replicate m.toNat zres := ⟨_, rfl⟩
 have hMl : MM.length = R.length + m.toNat := by rw [hMM, List.length_append, List.length_replicate]
 have hMf : MM.flatten = R.flatten ++ zerosC zres m.toNat := by rw [hMM, List.flatten_append, zeros_rep]
 have h_MM : cfs T.K41 MM := by rw [hMM]; exact cfs_append h_R (fun x hx => by rw [List.eq_of_mem_replicate hx]; exact hZ)
 obtain ⟨RZ, hRZ⟩ : ∃ M, M = R ++ [zres] := ⟨_, rfl⟩
 have h_RZ : cfs T.K41 RZ := by rw [hRZ]; exact cfs_append h_R (cfs_one hZ)
 have hB0 : 100000 ≤ BIG := by unfold BIG; omega
 have hBIG : BIG = 4611686018427387904 := rfl
 refine meets_start (sz := 273) hP Try.func4 rfl rfl zo (by simp only [Tr.ofList, roRows, Nat.zero_add, Nat.reduceAdd] <;> rfl) zl ?_
 skip
 ·skip
  refine k_seq ?_
  refine k_nm (fun t0c n0c q0c hx0c => ?_)
  have hr0 : t0c.get 0 = some (.row (ints l) 0 BIG true (ints l).length) := by (repeat (first | rw [Tr.get_set, if_neg ow] | rw [hx0c _ ow])) <;> first | rfl | assumption | (rw [Tr.get_set, if_pos ow]; done) | (rw [Tr.get_set, if_pos ow]; rfl)
  have hr1 : t0c.get 1 = some (.row (ints uu) 1 BIG true (ints uu).length) := by (repeat (first | rw [Tr.get_set, if_neg ow] | rw [hx0c _ ow])) <;> first | rfl | assumption | (rw [Tr.get_set, if_pos ow]; done) | (rw [Tr.get_set, if_pos ow]; rfl)
  have hr2 : t0c.get 2 = some (.row (ints ww) 2 BIG true (ints ww).length) := by (repeat (first | rw [Tr.get_set, if_neg ow] | rw [hx0c _ ow])) <;> first | rfl | assumption | (rw [Tr.get_set, if_pos ow]; done) | (rw [Tr.get_set, if_pos ow]; rfl)
  have hr3 : t0c.get 3 = some (.row (raw.flatten) 3 BIG true (raw.flatten).length) := by (repeat (first | rw [Tr.get_set, if_neg ow] | rw [hx0c _ ow])) <;> first | rfl | assumption | (rw [Tr.get_set, if_pos ow]; done) | (rw [Tr.get_set, if_pos ow]; rfl)
  have q0c : n0c = 4 := q0c
  refine k_region hP hC ?_
  refine os (x_assign rfl (by rfl)) ?_
  refine o_done ?_
  refine e_seq ?_
  refine k_seq ?_
  refine k_region hP hC ?_
  refine os (x_move rfl zt) ?_
  refine os (x_move rfl zt) ?_
  refine o_callW (fun v w => .tuple ⟨[v, w]⟩) (wA_none rfl) rfl rfl rfl zv zd (tab_hit.trans (made_cE hA hR (rd_sl hs_l zd (whole_row (by (repeat (first | rw [Tr.get_set, if_neg ow])) <;> first | rfl | assumption | (rw [Tr.get_set, if_pos ow]; done) | (rw [Tr.get_set, if_pos ow]; rfl)) rfl) (by rw [ints_len, Nat.mul_one]) (ints_free0 _)) (by simp only [ok_made, Bool.and_eq_true, decide_eq_true_eq]; exact ⟨⟨⟨⟨by decide, by decide⟩, hbt⟩, hl⟩, hlb⟩))) hAl.symm (cfs_len h_A) (by rw [hAl]; exact cfs_len h_R) (fun vA vR t1 nxR nx1 qa1 qb1 qc1 hx1 rA0 rR0 => ?_)
  rw [hAl] at rR0
  refine os (x_move rfl zt) ?_
  refine os (x_extract rfl zt rfl) ?_
  refine os (x_extract rfl zt rfl) ?_
  refine os (x_assign rfl zt) ?_
  refine os (x_assign rfl zt) ?_
  refine o_done ?_
  refine e_seq ?_
  refine k_seq ?_
  have hqB : nx1 ≤ BIG := by omega
  refine k_nm (fun tS2 nS2 qS2 hxS2 => ?_)
  have rA : RdQ tS2 nxR 46 vA A.length A.flatten := rA0.q.keep (Nat.le_refl _) (fun id hid => by (repeat (first | rw [Tr.get_set, if_neg ow] | rw [hxS2 _ ow] | rw [hx1 _ ow])) <;> first | rfl | assumption | (rw [Tr.get_set, if_pos ow]; done) | (rw [Tr.get_set, if_pos ow]; rfl))
  have rR1 : RowS tS2 nxR nx1 22 vR R.length R.flatten := rR0.keep (fun id q0 q1 => by (repeat (first | rw [Tr.get_set, if_neg ow] | rw [hxS2 _ ow] | rw [hx1 _ ow])) <;> first | rfl | assumption | (rw [Tr.get_set, if_pos ow]; done) | (rw [Tr.get_set, if_pos ow]; rfl))
  clear rR0 rA0
  have rR0 := rR1
  clear rR1
  have hqB : nS2 ≤ BIG := by omega
  refine k_draw hP hC zr ?_
  refine ds (y_bslice0 rfl Try.underlying23 T.s43 T.z43 zd rfl rfl) ?_
  refine ds (x_move rfl zt) ?_
  have qB3 : nS2 + 1 ≤ BIG := by omega
  refine d_appE (AccE.start (n0 := nS2) (id := nS2) (by (repeat (first | rw [Tr.get_set, if_neg ow] | rw [hxS2 _ ow] | rw [hx1 _ ow])) <;> first | rfl | assumption | (rw [Tr.get_set, if_pos ow]; done) | (rw [Tr.get_set, if_pos ow]; rfl)) ow ow) ow qB3 (wA_none rfl) rfl rfl rfl zv rfl rfl zr (cells_Q (rA.keep ow (fun id hid => by (repeat (first | rw [Tr.get_set, if_neg ow] | rw [hxS2 _ ow] | rw [hx1 _ ow])) <;> first | rfl | assumption | (rw [Tr.get_set, if_pos ow]; done) | (rw [Tr.get_set, if_pos ow]; rfl))) Try.underlying23 T.s43) Try.underlying23 T.i23 zd (cfs_len h_A) ow ow (allOneC (cfs_free0 h_A)) zd (fun v3 t3 nx3 wr3 xx3 qa3 qb3 qc3 qd3 qe3 hx3 aE3 xq3 => ?_)
  have xr3 := xq3 rfl
  have wz3 := qe3 rfl
  subst wz3
  rw [Nat.zero_add, List.nil_append] at aE3
  have qC3 : nx3 ≤ BIG := by omega
  refine ds (x_move rfl zt) ?_
  refine ds (x_move rfl zt) ?_
  refine ds (x_lenS hs_raw rfl rfl zv rfl Try.underlying23) ?_
  refine ds (x_min rfl rfl zv hmm.symm) ?_
  refine d_cut hs_raw ow (wA_none rfl) rfl rfl zt zt Try.underlying23 T.s43 zd hm0 hm1 zd (fun w4 xx4 sw4 xr4 => ?_)
  have qB5 : nx3 ≤ BIG := by omega
  refine d_appE aE3 ow qB5 (wA_none rfl) rfl rfl rfl zv rfl rfl zr (cells_cutR sw4 Try.underlying23 T.s43 h_raw rfl (whole_row (by (repeat (first | rw [Tr.get_set, if_neg ow] | rw [hx3 _ ow] | rw [hxS2 _ ow] | rw [hx1 _ ow])) <;> first | rfl | assumption | (rw [Tr.get_set, if_pos ow]; done) | (rw [Tr.get_set, if_pos ow]; rfl)) rfl) ow) Try.underlying23 T.i23 zd (by rw [cfs_len (cfs_take h_raw), List.length_take, Nat.min_eq_left ow]; rfl) ow ow (allOneC (cfs_free0 (cfs_take h_raw))) zd (fun vB t5 nx5 wr5 xx5 qa5 qb5 qc5 qd5 qe5 hx5 aE5 xq5 => ?_)
  have qC5 : nx5 ≤ BIG := by omega
  have rB : RdI t5 (fun x => nS2 ≤ x ∧ x < nx5) 46 vB B.length B.flatten := by
   have q := aE5.i
   rw [← List.flatten_append, ← hB, ← hBl] at q
   exact q
  have hxb5 : ∀ id, id < nS2 → t5.get id = tS2.get id := fun id hid => (hx5 id hid).trans (by (repeat (first | rw [Tr.get_set, if_neg ow] | rw [hx3 _ ow])) <;> first | rfl | assumption | (rw [Tr.get_set, if_pos ow]; done) | (rw [Tr.get_set, if_pos ow]; rfl))
  refine ds (x_assign rfl zt) ?_
  refine d_done ⟨de_two (by simp only [List.all_append, List.all_cons, List.all_nil, infOf, decide_eq_true hqB, Bool.and_self, decide_eq_true qB3, xr3, decide_eq_true qC3, xr4]) zr (by show _ ≤ BIG; omega) (by show _ ≤ BIG; (repeat refine Nat.le_trans (Nat.min_le_left _ _) ?_); omega), ?_⟩
  refine e_seq ?_
  refine k_nmW (n0 := 4) (by (repeat refine Nat.le_min.2 ⟨?_, by omega⟩); omega) (by (repeat refine Nat.le_trans (Nat.min_le_left _ _) ?_); omega) (fun wW6 wL6 wU6 => ?_)
  refine k_seq ?_
  refine k_nm (fun tS7 nS7 qS7 hxS7 => ?_)
  have rA1 : RdQ tS7 nxR 46 vA A.length A.flatten := rA.keep (Nat.le_refl _) (fun id hid => by (repeat (first | rw [Tr.get_set, if_neg ow] | rw [hxS7 _ ow] | rw [hxb5 _ ow] | rw [hxS2 _ ow] | rw [hx1 _ ow])) <;> first | rfl | assumption | (rw [Tr.get_set, if_pos ow]; done) | (rw [Tr.get_set, if_pos ow]; rfl))
  have rB1 : RdI tS7 (fun x => nS2 ≤ x ∧ x < nx5) 46 vB B.length B.flatten := rB.keep (fun id (q : nS2 ≤ id ∧ id < nx5) => by (repeat (first | rw [Tr.get_set, if_neg ow] | rw [hxS7 _ ow] | rw [hxb5 _ ow] | rw [hxS2 _ ow] | rw [hx1 _ ow])) <;> first | rfl | assumption | (rw [Tr.get_set, if_pos ow]; done) | (rw [Tr.get_set, if_pos ow]; rfl))
  have rR : RowS tS7 nxR nx1 22 vR R.length R.flatten := rR0.keep (fun id q0 q1 => by (repeat (first | rw [Tr.get_set, if_neg ow] | rw [hxS7 _ ow] | rw [hxb5 _ ow] | rw [hxS2 _ ow] | rw [hx1 _ ow])) <;> first | rfl | assumption | (rw [Tr.get_set, if_pos ow]; done) | (rw [Tr.get_set, if_pos ow]; rfl))
  clear rR0 rA rB
  have rA := rA1
  have rB := rB1
  clear rA1 rB1
  refine k_region hP hC ?_
  refine os (y_bslice0 rfl Try.underlying24 T.s41 T.z41 zd rfl rfl) ?_
  refine os (x_move rfl zt) ?_
  refine o_lit (n0 := nS7) (id := nS7) (by (repeat (first | rw [Tr.get_set, if_neg ow] | rw [hxS7 _ ow] | rw [hxb5 _ ow] | rw [hxS2 _ ow] | rw [hx1 _ ow])) <;> first | rfl | assumption | (rw [Tr.get_set, if_pos ow]; done) | (rw [Tr.get_set, if_pos ow]; rfl)) ow ow (wA_none rfl) rfl rfl rfl zv rfl rfl zr (cells_Q (rR.s.q.keep ow (fun id hid => by (repeat (first | rw [Tr.get_set, if_neg ow] | rw [hxS7 _ ow] | rw [hxb5 _ ow] | rw [hxS2 _ ow] | rw [hx1 _ ow])) <;> first | rfl | assumption | (rw [Tr.get_set, if_pos ow]; done) | (rw [Tr.get_set, if_pos ow]; rfl))) Try.underlying24 T.s41) Try.underlying24 T.i24 zd (cfs_len h_R) ow ow (allOneC (cfs_free0 h_R)) zd (fun vM0 t8 nx8 qa8 qb8 hx8 lM => ?_)
  refine os (x_move rfl zt) ?_
  refine os (x_lenX (rB.x (fun id q => ⟨rfl, q.2⟩)) rfl rfl zv rfl Try.underlying23) ?_
  refine os (x_move rfl zt) ?_
  refine os (x_lenQ rA rfl rfl zv rfl Try.underlying23) ?_
  refine os (x_bin (u := .int .i64 m) rfl zt zt (by rw [b_sub]; rw [IntWalk.i64_in _ ow]; congr 2; omega)) ?_
  refine o_appZ lM.e ow (wA_none rfl) rfl rfl rfl zv rfl rfl Try.underlying3 Try.underlying24 T.i24 Try.type41 rfl rfl rfl rfl zd hm0 ow (by show m * 72 ≤ _; omega) ow ow zd (fun vM t9 nx9 wr9 qa9 qb9 qc9 qd9 hx9 aM => ?_)
  have rM : RdI t9 (fun x => nS7 ≤ x ∧ x < nx9) 22 vM MM.length MM.flatten := by
   have q := aM.i
   rw [hMl, hMf]
   exact q
  have hxm9 : ∀ id, id < nS7 → t9.get id = tS7.get id := fun id hid => (hx9 id hid).trans (by (repeat (first | rw [Tr.get_set, if_neg ow] | rw [hx8 _ ow])) <;> first | rfl | assumption | (rw [Tr.get_set, if_pos ow]; done) | (rw [Tr.get_set, if_pos ow]; rfl))
  refine os (x_assign rfl zt) ?_
  refine o_done ?_
  refine e_seq ?_
  refine k_seq ?_
  refine k_region hP hC ?_
  refine os (y_bslice0 rfl Try.underlying24 T.s41 T.z41 zd rfl rfl) ?_
  refine os (x_move rfl zt) ?_
  refine o_lit (n0 := nx9) (id := nx9) (by (repeat (first | rw [Tr.get_set, if_neg ow] | rw [hxm9 _ ow] | rw [hxS7 _ ow] | rw [hxb5 _ ow] | rw [hxS2 _ ow] | rw [hx1 _ ow])) <;> first | rfl | assumption | (rw [Tr.get_set, if_pos ow]; done) | (rw [Tr.get_set, if_pos ow]; rfl)) ow ow (wA_none rfl) rfl rfl rfl zv rfl rfl zr (cells_Q (rR.s.q.keep ow (fun id hid => by (repeat (first | rw [Tr.get_set, if_neg ow] | rw [hxm9 _ ow] | rw [hxS7 _ ow] | rw [hxb5 _ ow] | rw [hxS2 _ ow] | rw [hx1 _ ow])) <;> first | rfl | assumption | (rw [Tr.get_set, if_pos ow]; done) | (rw [Tr.get_set, if_pos ow]; rfl))) Try.underlying24 T.s41) Try.underlying24 T.i24 zd (cfs_len h_R) ow ow (allOneC (cfs_free0 h_R)) zd (fun vO t10 nx10 qa10 qb10 hx10 lO => ?_)
  refine os (x_assign rfl zt) ?_
  refine o_done ?_
  refine e_seq ?_
  refine k_seq ?_
  refine k_seq ?_
  refine k_region hP hC ?_
  refine os (x_move rfl zt) ?_
  refine os (x_lenQ lO.e.q rfl rfl zv rfl Try.underlying24) ?_
  refine os (x_bin rfl zt (by rfl) b_gtr) ?_
  refine o_done ?_
  refine e_seq ?_
  refine k_nm (fun tS11 nS11 qS11 hxS11 => ?_)
  have rA1 : RdQ tS11 nxR 46 vA A.length A.flatten := rA.keep (Nat.le_refl _) (fun id hid => by (repeat (first | rw [Tr.get_set, if_neg ow] | rw [hxS11 _ ow] | rw [hx10 _ ow] | rw [hxm9 _ ow] | rw [hxS7 _ ow] | rw [hxb5 _ ow] | rw [hxS2 _ ow] | rw [hx1 _ ow])) <;> first | rfl | assumption | (rw [Tr.get_set, if_pos ow]; done) | (rw [Tr.get_set, if_pos ow]; rfl))
  have rB1 : RdI tS11 (fun x => nS2 ≤ x ∧ x < nx5) 46 vB B.length B.flatten := rB.keep (fun id (q : nS2 ≤ id ∧ id < nx5) => by (repeat (first | rw [Tr.get_set, if_neg ow] | rw [hxS11 _ ow] | rw [hx10 _ ow] | rw [hxm9 _ ow] | rw [hxS7 _ ow] | rw [hxb5 _ ow] | rw [hxS2 _ ow] | rw [hx1 _ ow])) <;> first | rfl | assumption | (rw [Tr.get_set, if_pos ow]; done) | (rw [Tr.get_set, if_pos ow]; rfl))
  have rM1 : RdI tS11 (fun x => nS7 ≤ x ∧ x < nx9) 22 vM MM.length MM.flatten := rM.keep (fun id (q : nS7 ≤ id ∧ id < nx9) => by (repeat (first | rw [Tr.get_set, if_neg ow] | rw [hxS11 _ ow] | rw [hx10 _ ow] | rw [hxm9 _ ow] | rw [hxS7 _ ow] | rw [hxb5 _ ow] | rw [hxS2 _ ow] | rw [hx1 _ ow])) <;> first | rfl | assumption | (rw [Tr.get_set, if_pos ow]; done) | (rw [Tr.get_set, if_pos ow]; rfl))
  have rR1 : RowS tS11 nxR nx1 22 vR R.length R.flatten := rR.keep (fun id q0 q1 => by (repeat (first | rw [Tr.get_set, if_neg ow] | rw [hxS11 _ ow] | rw [hx10 _ ow] | rw [hxm9 _ ow] | rw [hxS7 _ ow] | rw [hxb5 _ ow] | rw [hxS2 _ ow] | rw [hx1 _ ow])) <;> first | rfl | assumption | (rw [Tr.get_set, if_pos ow]; done) | (rw [Tr.get_set, if_pos ow]; rfl))
  clear rA rB rM rR
  have rA := rA1
  have rB := rB1
  have rM := rM1
  have rR := rR1
  clear rA1 rB1 rM1 rR1
  have lO1 : LitS tS11 nx9 nx10 22 vO R.length R.flatten := lO.keep (fun id q0 q1 => by (repeat (first | rw [Tr.get_set, if_neg ow] | rw [hxS11 _ ow])) <;> first | rfl | assumption | (rw [Tr.get_set, if_pos ow]; done) | (rw [Tr.get_set, if_pos ow]; rfl))
  clear lO
  have lO := lO1
  clear lO1
  have hc12 : ∀ id, id < 4 → tS11.get id = t0c.get id := fun id hid => by (repeat (first | rw [Tr.get_set, if_neg ow] | rw [hxS11 _ ow] | rw [hx10 _ ow] | rw [hxm9 _ ow] | rw [hxS7 _ ow] | rw [hxb5 _ ow] | rw [hxS2 _ ow] | rw [hx1 _ ow])) <;> first | rfl | assumption | (rw [Tr.get_set, if_pos ow]; done) | (rw [Tr.get_set, if_pos ow]; rfl)
  refine k_join (fun s => ∃ e t wr OD, s = ⟨e, 273, ⟨t, nS11, wr⟩⟩ ∧ e.get 3 = some (.int .i64 bb) ∧ e.get 4 = some (s_uu) ∧ e.get 5 = some (s_ww) ∧ e.get 15 = some (vA) ∧ e.get 16 = some (vR) ∧ e.get 17 = some (vB) ∧ e.get 18 = some (vM) ∧ e.get 19 = some (vO) ∧ OD.length = R.length ∧ cfs T.K41 OD ∧ 4 ≤ wr ∧ wr ≤ BIG ∧ (∀ id, id < nx9 → t.get id = tS11.get id) ∧ RdI t (fun x => nx9 ≤ x ∧ x < nS11) 22 vO OD.length OD.flatten) ?_ ?_
  ·skip
   refine k_cond zt (fun g2 => ?_) (fun g2 => ?_)
   ·have p2 := g2; try simp only [d1, d2, d3, d4, d5, d6, d7, d8, d9] at p2
    refine k_seq ?_
    refine k_region hP hC ?_
    refine os (x_move rfl zt) ?_
    refine os (x_move rfl zt) ?_
    refine os (x_lenQ lO.e.q rfl rfl zv rfl Try.underlying24) ?_
    have hRp : 0 < R.length := by omega
    have kk0 := around_lo (n := bb) (m := R.length) ow
    have kk1 := around_hi (n := bb) (m := R.length) ow
    obtain ⟨kO, hkO⟩ : ∃ k, k = around bb R.length := ⟨_, rfl⟩
    rw [← hkO] at kk0 kk1
    obtain ⟨iO, cO, hvO, hcO, hdO, hgO, qO0, qO1⟩ := lO
    subst hvO
    have hck := cf_nth h_R kk0 kk1
    refine o_call0 (wA_none rfl) rfl rfl rfl zv zd ?_
    refine ⟨_, _, ((tab_miss zd).trans (tab_hit.trans (around_c (by simp only [ok_around, Bool.and_eq_true, decide_eq_true_eq]; exact ⟨hbb, by omega⟩)))).trans (by rw [← hkO]), ?_⟩
    refine os (x_assign rfl zt) ?_
    refine o_done ?_
    refine e_seq ?_
    refine k_region hP hC ?_
    refine os (x_move rfl zt) ?_
    refine os (x_move rfl zt) ?_
    refine os (x_move rfl zt) ?_
    refine os (x_move rfl zt) ?_
    refine os (x_index rfl zt zt Try.underlying24 T.s41 ow ow) ?_
    refine os (x_loadA rfl zt T.g41 T.s41 (l_elem (whole_row (by (repeat (first | rw [Tr.get_set, if_neg ow] | rw [hc12 _ ow])) <;> first | rfl | assumption | (rw [Tr.get_set, if_pos ow]; done) | (rw [Tr.get_set, if_pos ow]; rfl)) rfl) h_R rfl ow ow)) ?_
    refine os (x_move rfl zt) ?_
    refine os (x_move rfl zt) ?_
    refine o_call0 (wA_none rfl) rfl rfl rfl zv zd ?_
    refine ⟨_, _, ((tab_miss zd).trans ((tab_miss zd).trans (tab_hit.trans (wrong31_c hck (by simp only [ok_wrong31, Bool.and_eq_true, decide_eq_true_eq]; exact ⟨⟨hhw, hbb⟩, hsm _ kk0 kk1⟩))))), ?_⟩
    refine os (x_index rfl zt zt Try.underlying24 T.s41 ow ow) ?_
    refine o_stepN (wA_none rfl) rfl (y_storeAP rfl zt zt T.s41 (cf_len (wrongC_cf hck)) (by (repeat (first | rw [Tr.get_set, if_neg ow] | rw [hc12 _ ow])) <;> first | rfl | assumption | (rw [Tr.get_set, if_pos ow]; done) | (rw [Tr.get_set, if_pos ow]; rfl)) rfl (by rw [hdO]; have := Nat.mul_le_mul_right 22 (show kO.toNat + 1 ≤ R.length by omega); omega) (cf_oneC (wrongC_cf hck)) (splice_set (k := 22) (fun a ha => cf_len (h_R a ha)) ow (cf_len (wrongC_cf hck)))) ?_
    refine o_done ?_
    refine e_loop ?_
    exact ⟨_, _, _, R.set kO.toNat (wrongC (nth R kO) how bb), rfl, zh, zh, zh, zh, zh, zh, zh, zh, by rw [List.length_set], cfs_set h_R (wrongC_cf hck), by omega, by omega, fun id hid => by (repeat (first | rw [Tr.get_set, if_neg ow] | rw [hc12 _ ow])) <;> first | rfl | assumption | (rw [Tr.get_set, if_pos ow]; done) | (rw [Tr.get_set, if_pos ow]; rfl), AccE.i (LitS.e ⟨iO, cO, by rw [List.length_set], by rw [List.length_set]; exact hcO, by rw [cfs_len (cfs_set h_R (wrongC_cf hck))]; rfl, by (repeat (first | rw [Tr.get_set, if_neg ow])) <;> first | rfl | assumption | (rw [Tr.get_set, if_pos ow]; done) | (rw [Tr.get_set, if_pos ow]; rfl), by omega, by omega⟩)⟩
   ·have p2 := g2; try simp only [d1, d2, d3, d4, d5, d6, d7, d8, d9] at p2
    refine k_skip ?_
    refine e_loop ?_
    exact ⟨_, _, _, R, rfl, zh, zh, zh, zh, zh, zh, zh, zh, rfl, h_R, by omega, by omega, fun id hid => by (repeat (first | rw [Tr.get_set, if_neg ow] | rw [hc12 _ ow])) <;> first | rfl | assumption | (rw [Tr.get_set, if_pos ow]; done) | (rw [Tr.get_set, if_pos ow]; rfl), (AccE.i (lO.up ow).e).keep (fun id (q : nx9 ≤ id ∧ id < nS11) => by (repeat (first | rw [Tr.get_set, if_neg ow] | rw [hc12 _ ow])) <;> first | rfl | assumption | (rw [Tr.get_set, if_pos ow]; done) | (rw [Tr.get_set, if_pos ow]; rfl))⟩
  ·skip
   rintro s ⟨e, t, wr, OD, rfl, he13_3, he13_4, he13_5, he13_15, he13_16, he13_17, he13_18, he13_19, hODl, h_OD, w1, wb, hxJ1, rO⟩
   refine k_seq ?_
   refine k_region hP hC ?_
   refine os (x_move rfl za) ?_
   refine os (x_move rfl za) ?_
   refine os (x_move rfl za) ?_
   refine os (x_move rfl za) ?_
   refine os (y_bsliceN (cs := [vA, vB, vA, vA]) rfl (by simp only [evP, ev_tmp, Tr.get_set, reduceIte, Nat.reduceEqDiff, Nat.reduceAdd, he13_3, he13_4, he13_5, he13_15, he13_16, he13_17, he13_18, he13_19] <;> rfl) Try.underlying27 T.s23 T.z23 zd zd rfl rfl (fill4 rA.shape rB.shape rA.shape rA.shape)) ?_
   refine os (x_assign rfl za) ?_
   refine o_done ?_
   refine e_seq ?_
   refine k_seq ?_
   refine k_region hP hC ?_
   refine os (x_move rfl za) ?_
   refine os (x_move rfl za) ?_
   refine os (x_move rfl za) ?_
   refine os (x_move rfl za) ?_
   refine os (x_build (v := .agg ⟨zres⟩) rfl (by simp only [evP, ev_tmp, Tr.get_set, reduceIte, Nat.reduceEqDiff, Nat.reduceAdd, he13_3, he13_4, he13_5, he13_15, he13_16, he13_17, he13_18, he13_19] <;> rfl) T.z41 rfl zr) ?_
   refine os (y_bsliceA (cs := zres) rfl za Try.underlying24 T.s41 T.z41 zd rfl rfl rfl zd) ?_
   refine o_appRow ow (rR.keep (fun id q0 q1 => by (repeat (first | rw [Tr.get_set, if_neg ow] | rw [hxJ1 _ ow] | rw [hc12 _ ow])) <;> first | rfl | assumption | (rw [Tr.get_set, if_pos ow]; done) | (rw [Tr.get_set, if_pos ow]; rfl))) ow ow (wA_none rfl) rfl rfl rfl (by simp only [evs, ev_tmp, Tr.get_set, reduceIte, Nat.reduceEqDiff, Nat.reduceAdd, he13_3, he13_4, he13_5, he13_15, he13_16, he13_17, he13_18, he13_19] <;> rfl) rfl rfl zr (cells_row Try.underlying24 T.s41 (l_all (whole_row (by (repeat (first | rw [Tr.get_set, if_neg ow] | rw [hxJ1 _ ow] | rw [hc12 _ ow])) <;> first | rfl | assumption | (rw [Tr.get_set, if_pos ow]; done) | (rw [Tr.get_set, if_pos ow]; rfl)) rfl) rfl)) Try.underlying24 T.i24 zd rfl ow ow rfl zd zd (fun vR1 t14 wr14 qc14 qd14 rR1 rR2 hx14 => ?_)
   have rR1 : RdX t14 (nS11 + 1 + 1 + 1) 22 vR1 RZ.length RZ.flatten := by
    rw [hRZ, List.length_append, List.flatten_append]
    exact rR1
   refine os (y_bsliceN (cs := [vR, vM, vO, vR1]) rfl (by simp only [evP, ev_tmp, Tr.get_set, reduceIte, Nat.reduceEqDiff, Nat.reduceAdd, he13_3, he13_4, he13_5, he13_15, he13_16, he13_17, he13_18, he13_19] <;> rfl) Try.underlying54 T.s24 T.z24 zd zd rfl rfl (fill4 rR2.shape rM.shape rO.shape rR1.shape)) ?_
   refine os (x_assign rfl za) ?_
   refine o_done ?_
   refine e_seq ?_
   refine k_seq ?_
   refine k_seq ?_
   refine k_region hP hC ?_
   refine os (x_assign rfl (by rfl)) ?_
   refine o_done ?_
   refine e_seq ?_
   refine k_block ?_
   refine k_nm (fun tS15 nS15 qS15 hxS15 => ?_)
   have hrL : tS15.get (nS11) = some (.row [vA, vB, vA, vA] (nS11) BIG false 4) := by (repeat (first | rw [Tr.get_set, if_neg ow] | rw [hxS15 _ ow] | rw [hx14 _ ow] | rw [hxJ1 _ ow] | rw [hc12 _ ow])) <;> first | rfl | assumption | (rw [Tr.get_set, if_pos ow]; done) | (rw [Tr.get_set, if_pos ow]; rfl)
   have hrR : tS15.get (nS11 + 1 + 1 + 1) = some (.row [vR, vM, vO, vR1] (nS11 + 1 + 1 + 1) BIG false 4) := by (repeat (first | rw [Tr.get_set, if_neg ow] | rw [hxS15 _ ow] | rw [hx14 _ ow] | rw [hxJ1 _ ow] | rw [hc12 _ ow])) <;> first | rfl | assumption | (rw [Tr.get_set, if_pos ow]; done) | (rw [Tr.get_set, if_pos ow]; rfl)
   have xA : RdX tS15 nS15 46 vA A.length A.flatten := rA.x.keep ow (fun id hid => by (repeat (first | rw [Tr.get_set, if_neg ow] | rw [hxS15 _ ow] | rw [hx14 _ ow] | rw [hxJ1 _ ow] | rw [hc12 _ ow])) <;> first | rfl | assumption | (rw [Tr.get_set, if_pos ow]; done) | (rw [Tr.get_set, if_pos ow]; rfl))
   have xB : RdX tS15 nS15 46 vB B.length B.flatten := rB.x (fun id (q : nS2 ≤ id ∧ id < nx5) => ⟨by (repeat (first | rw [Tr.get_set, if_neg ow] | rw [hxS15 _ ow] | rw [hx14 _ ow] | rw [hxJ1 _ ow] | rw [hc12 _ ow])) <;> first | rfl | assumption | (rw [Tr.get_set, if_pos ow]; done) | (rw [Tr.get_set, if_pos ow]; rfl), by omega⟩)
   have xM : RdX tS15 nS15 22 vM MM.length MM.flatten := rM.x (fun id (q : nS7 ≤ id ∧ id < nx9) => ⟨by (repeat (first | rw [Tr.get_set, if_neg ow] | rw [hxS15 _ ow] | rw [hx14 _ ow] | rw [hxJ1 _ ow] | rw [hc12 _ ow])) <;> first | rfl | assumption | (rw [Tr.get_set, if_pos ow]; done) | (rw [Tr.get_set, if_pos ow]; rfl), by omega⟩)
   have xO : RdX tS15 nS15 22 vO OD.length OD.flatten := rO.x (fun id (q : nx9 ≤ id ∧ id < nS11) => ⟨by (repeat (first | rw [Tr.get_set, if_neg ow] | rw [hxS15 _ ow] | rw [hx14 _ ow] | rw [hxJ1 _ ow] | rw [hc12 _ ow])) <;> first | rfl | assumption | (rw [Tr.get_set, if_pos ow]; done) | (rw [Tr.get_set, if_pos ow]; rfl), by omega⟩)
   have xR : RdX tS15 nS15 22 vR R.length R.flatten := rR2.keep ow (fun id hid => by (repeat (first | rw [Tr.get_set, if_neg ow] | rw [hxS15 _ ow] | rw [hx14 _ ow] | rw [hxJ1 _ ow] | rw [hc12 _ ow])) <;> first | rfl | assumption | (rw [Tr.get_set, if_pos ow]; done) | (rw [Tr.get_set, if_pos ow]; rfl))
   have xZ : RdX tS15 nS15 22 vR1 RZ.length RZ.flatten := rR1.keep ow (fun id hid => by (repeat (first | rw [Tr.get_set, if_neg ow] | rw [hxS15 _ ow] | rw [hx14 _ ow] | rw [hxJ1 _ ow] | rw [hc12 _ ow])) <;> first | rfl | assumption | (rw [Tr.get_set, if_pos ow]; done) | (rw [Tr.get_set, if_pos ow]; rfl))
   have hbL : nS11 < nS15 := by omega
   have hbR : nS11 + 1 + 1 + 1 < nS15 := by omega
   have hc17 : ∀ id, id < 4 → tS15.get id = t0c.get id := fun id hid => by (repeat (first | rw [Tr.get_set, if_neg ow] | rw [hxS15 _ ow] | rw [hx14 _ ow] | rw [hxJ1 _ ow] | rw [hc12 _ ow])) <;> first | rfl | assumption | (rw [Tr.get_set, if_pos ow]; done) | (rw [Tr.get_set, if_pos ow]; rfl)
   refine k_loopI (α := Int) (fun i s => ∃ e t nx wr, s = ⟨e, 273, ⟨t, nx, wr⟩⟩ ∧ e.get 3 = some (.int .i64 bb) ∧ e.get 4 = some (s_uu) ∧ e.get 5 = some (s_ww) ∧ e.get 21 = some (.slice (some ⟨nS11, 0, none⟩) 4 4) ∧ e.get 22 = some (.slice (some ⟨nS11 + 1 + 1 + 1, 0, none⟩) 4 4) ∧ e.get 23 = some (.int .i64 i) ∧ 0 ≤ i ∧ i ≤ 4 ∧ nS15 ≤ nx ∧ (nx : Int) ≤ nS15 + 100 * i ∧ 4 ≤ wr ∧ wr ≤ BIG ∧ (∀ id, id < nS15 → t.get id = tS15.get id)) (fun i => (4 - i).toNat) 0 ⟨_, _, _, _, rfl, za, za, za, za, za, za, by omega, by omega, by omega, by omega, by omega, by omega, fun _ _ => rfl⟩ ?_
   rintro i s ⟨e, t, nx, wr, rfl, he16_3, he16_4, he16_5, he16_21, he16_22, he16_23, i0, i1, n0, nb, w1, wb, hx16⟩
   refine k_seq ?_
   refine k_seq ?_
   refine k_region hP hC ?_
   refine os (x_move rfl za) ?_
   refine os (x_move rfl za) ?_
   refine os (x_len rfl rfl (by simp only [evs, ev_tmp, Tr.get_set, reduceIte, Nat.reduceEqDiff, Nat.reduceAdd, he16_3, he16_4, he16_5, he16_21, he16_22, he16_23] <;> rfl) rfl Try.underlying27) ?_
   refine os (x_bin rfl za za b_lss) ?_
   refine o_done ?_
   refine e_seq ?_
   refine k_cond (by simp only [Tr.get_set, reduceIte, Nat.reduceEqDiff, Nat.reduceAdd, ev_tmp, he16_3, he16_4, he16_5, he16_21, he16_22, he16_23] <;> rfl) (fun g4 => ?_) (fun g4 => ?_)
   ·have p4 := g4; try simp only [d1, d2, d3, d4, d5, d6, d7, d8, d9] at p4
    refine k_skip ?_
    refine e_seq ?_
    refine k_seq ?_
    refine k_block ?_
    refine k_seq ?_
    have hqB : nx ≤ BIG := by omega
    obtain ⟨vX, X, vY, Y, hvX, hvY, rX, rY, h_X, h_Y, hXb⟩ : ∃ v X w Y, ([vA, vB, vA, vA] : List Value)[i.toNat]? = some v ∧ ([vR, vM, vO, vR1] : List Value)[i.toNat]? = some w ∧ RdX t nx 46 v X.length X.flatten ∧ RdX t nx 22 w Y.length Y.flatten ∧ cfs T.K43 X ∧ cfs T.K41 Y ∧ X.length ≤ 20 := by
     rcases (show i = 0 ∨ i = 1 ∨ i = 2 ∨ i = 3 by omega) with rfl | rfl | rfl | rfl
     ·exact ⟨_, A, _, R, rfl, rfl, xA.keep ow hx16, xR.keep ow hx16, h_A, h_R, by omega⟩
     ·exact ⟨_, B, _, MM, rfl, rfl, xB.keep ow hx16, xM.keep ow hx16, h_B, h_MM, by omega⟩
     ·exact ⟨_, A, _, OD, rfl, rfl, xA.keep ow hx16, xO.keep ow hx16, h_A, h_OD, by omega⟩
     ·exact ⟨_, A, _, RZ, rfl, rfl, xA.keep ow hx16, xZ.keep ow hx16, h_A, h_RZ, by omega⟩
    have hXb3 : X.length ≤ 1000 := by omega
    have hJw := @judgeW_len X Y
    have hJe := @judge_len X Y
    have hJl : (judgeW X Y).length < 4611686018427387904 := by omega
    have hJa : (judgeA X Y).length < 4611686018427387904 := by omega
    refine k_draw hP hC zr ?_
    refine ds (x_move rfl za) ?_
    refine ds (x_move rfl za) ?_
    refine ds (x_index rfl za za Try.underlying27 T.s23 ow ow) ?_
    refine ds (x_load1 rfl za T.g23 (l_cell (by (repeat (first | rw [Tr.get_set, if_neg ow] | rw [hx16 _ ow] | rw [hc17 _ ow])) <;> first | rfl | assumption | (rw [Tr.get_set, if_pos ow]; done) | (rw [Tr.get_set, if_pos ow]; rfl)) rfl hvX)) ?_
    refine ds (x_move rfl za) ?_
    refine ds (x_move rfl za) ?_
    refine ds (x_index rfl za za Try.underlying54 T.s24 ow ow) ?_
    refine ds (x_load1 rfl za T.g24 (l_cell (by (repeat (first | rw [Tr.get_set, if_neg ow] | rw [hx16 _ ow] | rw [hc17 _ ow])) <;> first | rfl | assumption | (rw [Tr.get_set, if_pos ow]; done) | (rw [Tr.get_set, if_pos ow]; rfl)) rfl hvY)) ?_
    have qB18 : nx ≤ BIG := by omega
    refine d_call2 (fun v w => .tuple ⟨[.agg ⟨[v, w]⟩, .int .i64 (judgeE X Y)]⟩) qB18 (wA_none rfl) rfl rfl rfl (by simp only [evs, ev_tmp, Tr.get_set, reduceIte, Nat.reduceEqDiff, Nat.reduceAdd, he16_3, he16_4, he16_5, he16_21, he16_22, he16_23, g4] <;> rfl) zd ((tab_miss zd).trans ((tab_miss zd).trans ((tab_miss zd).trans (tab_hit.trans (judge_c (rX.at zd (cfs_free0 h_X) (fun id hid => by (repeat (first | rw [Tr.get_set, if_neg ow] | rw [hx16 _ ow] | rw [hc17 _ ow])) <;> first | rfl | assumption | (rw [Tr.get_set, if_pos ow]; done) | (rw [Tr.get_set, if_pos ow]; rfl))) h_X (rY.at zd (cfs_free0 h_Y) (fun id hid => by (repeat (first | rw [Tr.get_set, if_neg ow] | rw [hx16 _ ow] | rw [hc17 _ ow])) <;> first | rfl | assumption | (rw [Tr.get_set, if_pos ow]; done) | (rw [Tr.get_set, if_pos ow]; rfl))) h_Y (by rw [ok_judge, decide_eq_true hXb3])))))) judge_len.symm intsLen (by rw [judge_len]; exact intsLen) (fun vrW vrV t18 nx18 xx18 qa18 qb18 hx18 rW rV xr18 => ?_)
    rw [judge_len] at rV
    have qC18 : nx18 ≤ BIG := by omega
    refine ds (x_move rfl za) ?_
    refine ds (x_extract rfl za rfl) ?_
    refine ds (x_extract rfl za rfl) ?_
    refine ds (y_alloc rfl T.z56 rfl rfl) ?_
    have qN18 : nx18 + 1 ≤ BIG := by omega
    refine d_stepN (wA_none rfl) rfl (y_storeA rfl za za T.s56 rfl (by (repeat (first | rw [Tr.get_set, if_neg ow] | rw [hx18 _ ow] | rw [hx16 _ ow] | rw [hc17 _ ow])) <;> first | rfl | assumption | (rw [Tr.get_set, if_pos ow]; done) | (rw [Tr.get_set, if_pos ow]; rfl)) rfl rfl (by simp only [List.all_cons, List.all_nil, rW.one, rV.one, Bool.and_self])) ?_
    refine ds (x_assign rfl za) ?_
    refine d_done ⟨de_free [11] (by simp only [List.all_append, List.all_cons, List.all_nil, infOf, decide_eq_true hqB, Bool.and_self, decide_eq_true qB18, xr18, decide_eq_true qC18, decide_eq_true qN18]) (fun i hi => by rw [List.mem_singleton.1 hi]; exact ⟨_, rfl, inf_free rfl rfl⟩) zr (by show _ ≤ BIG; omega) (by show _ ≤ BIG; (repeat refine Nat.le_trans (Nat.min_le_left _ _) ?_); omega), ?_⟩
    refine e_seq ?_
    refine k_nmW (n0 := 4) (by (repeat refine Nat.le_min.2 ⟨?_, by omega⟩); omega) (by (repeat refine Nat.le_trans (Nat.min_le_left _ _) ?_); omega) (fun wW20 wL20 wU20 => ?_)
    refine k_seq ?_
    have hqB : nx18 + 1 ≤ BIG := by omega
    refine k_draw hP hC zr ?_
    refine ds (x_move rfl za) ?_
    refine ds (x_move rfl za) ?_
    refine ds (x_index rfl za za Try.underlying27 T.s23 ow ow) ?_
    refine ds (x_load1 rfl za T.g23 (l_cell (by (repeat (first | rw [Tr.get_set, if_neg ow] | rw [hx18 _ ow] | rw [hx16 _ ow] | rw [hc17 _ ow])) <;> first | rfl | assumption | (rw [Tr.get_set, if_pos ow]; done) | (rw [Tr.get_set, if_pos ow]; rfl)) rfl hvX)) ?_
    refine ds (x_move rfl za) ?_
    refine ds (x_move rfl za) ?_
    refine ds (x_index rfl za za Try.underlying54 T.s24 ow ow) ?_
    refine ds (x_load1 rfl za T.g24 (l_cell (by (repeat (first | rw [Tr.get_set, if_neg ow] | rw [hx18 _ ow] | rw [hx16 _ ow] | rw [hc17 _ ow])) <;> first | rfl | assumption | (rw [Tr.get_set, if_pos ow]; done) | (rw [Tr.get_set, if_pos ow]; rfl)) rfl hvY)) ?_
    have qB21 : nx18 + 1 ≤ BIG := by omega
    refine d_call2 (fun v w => .tuple ⟨[.agg ⟨[v, w]⟩, .int .i64 (judgeE X Y)]⟩) qB21 (wA_none rfl) rfl rfl rfl (by simp only [evs, ev_tmp, Tr.get_set, reduceIte, Nat.reduceEqDiff, Nat.reduceAdd, he16_3, he16_4, he16_5, he16_21, he16_22, he16_23, g4] <;> rfl) zd ((tab_miss zd).trans ((tab_miss zd).trans ((tab_miss zd).trans ((tab_miss zd).trans (tab_hit.trans (judge33_c (rX.at zd (cfs_free0 h_X) (fun id hid => by (repeat (first | rw [Tr.get_set, if_neg ow] | rw [hx18 _ ow] | rw [hx16 _ ow] | rw [hc17 _ ow])) <;> first | rfl | assumption | (rw [Tr.get_set, if_pos ow]; done) | (rw [Tr.get_set, if_pos ow]; rfl))) h_X (rY.at zd (cfs_free0 h_Y) (fun id hid => by (repeat (first | rw [Tr.get_set, if_neg ow] | rw [hx18 _ ow] | rw [hx16 _ ow] | rw [hc17 _ ow])) <;> first | rfl | assumption | (rw [Tr.get_set, if_pos ow]; done) | (rw [Tr.get_set, if_pos ow]; rfl))) h_Y (by rw [ok_judge33, decide_eq_true hXb3]))))))) judge_len.symm intsLen (by rw [judge_len]; exact intsLen) (fun vrG vrH t21 nx21 xx21 qa21 qb21 hx21 rG rH xr21 => ?_)
    rw [judge_len] at rH
    have qC21 : nx21 ≤ BIG := by omega
    refine ds (x_move rfl za) ?_
    refine ds (x_extract rfl za rfl) ?_
    refine ds (x_extract rfl za rfl) ?_
    refine ds (y_alloc rfl T.z59 rfl rfl) ?_
    have qN21 : nx21 + 1 ≤ BIG := by omega
    refine d_stepN (wA_none rfl) rfl (y_storeA rfl za za T.s59 rfl (by (repeat (first | rw [Tr.get_set, if_neg ow] | rw [hx21 _ ow] | rw [hx18 _ ow] | rw [hx16 _ ow] | rw [hc17 _ ow])) <;> first | rfl | assumption | (rw [Tr.get_set, if_pos ow]; done) | (rw [Tr.get_set, if_pos ow]; rfl)) rfl rfl (by simp only [List.all_cons, List.all_nil, rG.one, rH.one, Bool.and_self])) ?_
    refine ds (x_assign rfl za) ?_
    refine d_done ⟨de_free [11] (by simp only [List.all_append, List.all_cons, List.all_nil, infOf, decide_eq_true hqB, Bool.and_self, decide_eq_true qB21, xr21, decide_eq_true qC21, decide_eq_true qN21]) (fun i hi => by rw [List.mem_singleton.1 hi]; exact ⟨_, rfl, inf_free rfl rfl⟩) zr (by show _ ≤ BIG; omega) (by show _ ≤ BIG; (repeat refine Nat.le_trans (Nat.min_le_left _ _) ?_); omega), ?_⟩
    refine e_seq ?_
    refine k_nmW (n0 := 4) (by (repeat refine Nat.le_min.2 ⟨?_, by omega⟩); omega) (by (repeat refine Nat.le_trans (Nat.min_le_left _ _) ?_); omega) (fun wW23 wL23 wU23 => ?_)
    refine k_seq ?_
    refine k_seq ?_
    refine k_region hP hC ?_
    refine os (x_move rfl za) ?_
    refine os (x_move rfl za) ?_
    refine os (x_bin (u := .bool false) rfl za za (by rw [b_neq]; simp)) ?_
    refine os (x_move rfl za) ?_
    refine o_step (wA_on rfl rfl zg) rfl (x_loadA' rfl za T.g56 T.s56 (by (repeat (first | rw [Tr.get_set, if_neg ow] | rw [hx21 _ ow] | rw [hx18 _ ow] | rw [hx16 _ ow] | rw [hc17 _ ow])) <;> first | rfl | assumption | (rw [Tr.get_set, if_pos ow]; done) | (rw [Tr.get_set, if_pos ow]; rfl)) rfl (Nat.le_of_ble_eq_true rfl) (by simp only [List.take_succ_cons, List.drop_succ_cons, List.take_zero, List.drop_zero, List.take_nil, List.drop_nil, List.cons_append, List.nil_append, List.append_nil, List.length_cons, List.length_nil, Nat.reduceAdd, Int.toNat_zero, Nat.zero_mul, Nat.add_zero, Nat.zero_add] <;> rfl)) zd ?_
    refine o_step (wA_on rfl rfl zg) rfl (x_loadA' rfl za T.g59 T.s59 (by (repeat (first | rw [Tr.get_set, if_neg ow] | rw [hx21 _ ow] | rw [hx18 _ ow] | rw [hx16 _ ow] | rw [hc17 _ ow])) <;> first | rfl | assumption | (rw [Tr.get_set, if_pos ow]; done) | (rw [Tr.get_set, if_pos ow]; rfl)) rfl (Nat.le_of_ble_eq_true rfl) (by simp only [List.take_succ_cons, List.drop_succ_cons, List.take_zero, List.drop_zero, List.take_nil, List.drop_nil, List.cons_append, List.nil_append, List.append_nil, List.length_cons, List.length_nil, Nat.reduceAdd, Int.toNat_zero, Nat.zero_mul, Nat.add_zero, Nat.zero_add] <;> rfl)) zd ?_
    refine o_call0 (wA_on rfl rfl zg) rfl rfl rfl (by simp only [evs, ev_tmp, Tr.get_set, reduceIte, Nat.reduceEqDiff, Nat.reduceAdd, he16_3, he16_4, he16_5, he16_21, he16_22, he16_23, g4] <;> rfl) zd ?_
    refine ⟨_, _, ((tab_miss zd).trans ((tab_miss zd).trans ((tab_miss zd).trans ((tab_miss zd).trans ((tab_miss zd).trans (tab_hit.trans (same_cT (rW.at zd (ints_free0 _) (fun id hid => by (repeat (first | rw [Tr.get_set, if_neg ow] | rw [hx21 _ ow] | rw [hx18 _ ow] | rw [hx16 _ ow] | rw [hc17 _ ow])) <;> first | rfl | assumption | (rw [Tr.get_set, if_pos ow]; done) | (rw [Tr.get_set, if_pos ow]; rfl))) (rV.at zd (ints_free0 _) (fun id hid => by (repeat (first | rw [Tr.get_set, if_neg ow] | rw [hx21 _ ow] | rw [hx18 _ ow] | rw [hx16 _ ow] | rw [hc17 _ ow])) <;> first | rfl | assumption | (rw [Tr.get_set, if_pos ow]; done) | (rw [Tr.get_set, if_pos ow]; rfl))) (rG.at zd (ints_free0 _) (fun id hid => by (repeat (first | rw [Tr.get_set, if_neg ow] | rw [hx21 _ ow] | rw [hx18 _ ow] | rw [hx16 _ ow] | rw [hc17 _ ow])) <;> first | rfl | assumption | (rw [Tr.get_set, if_pos ow]; done) | (rw [Tr.get_set, if_pos ow]; rfl))) (rH.at zd (ints_free0 _) (fun id hid => by (repeat (first | rw [Tr.get_set, if_neg ow] | rw [hx21 _ ow] | rw [hx18 _ ow] | rw [hx16 _ ow] | rw [hc17 _ ow])) <;> first | rfl | assumption | (rw [Tr.get_set, if_pos ow]; done) | (rw [Tr.get_set, if_pos ow]; rfl))) hJl hJa))))))), ?_⟩
    refine o_step (wA_on rfl rfl zg) rfl (x_notT rfl zg) zd ?_
    refine os (x_pick rfl zg zb) ?_
    refine o_done ?_
    refine e_seq ?_
    refine k_condF zg ?_
    refine k_skip ?_
    refine e_seq ?_
    refine k_seq ?_
    have hqB : nx21 + 1 ≤ BIG := by omega
    refine k_draw hP hC zr ?_
    refine ds (y_bslice0 rfl Try.underlying22 T.s3 T.z3 zd rfl rfl) ?_
    refine ds (x_field (off' := 0) rfl za Try.underlying59 rfl T.s22 rfl) ?_
    refine ds (x_load1' rfl za T.g22 (by (repeat (first | rw [Tr.get_set, if_neg ow] | rw [hx21 _ ow] | rw [hx18 _ ow] | rw [hx16 _ ow] | rw [hc17 _ ow])) <;> first | rfl | assumption | (rw [Tr.get_set, if_pos ow]; done) | (rw [Tr.get_set, if_pos ow]; rfl)) rfl (Nat.le_of_ble_eq_true rfl) (by simp only [List.take_succ_cons, List.drop_succ_cons, List.take_zero, List.drop_zero, List.take_nil, List.drop_nil, List.cons_append, List.nil_append, List.append_nil, List.length_cons, List.length_nil, Nat.reduceAdd, Int.toNat_zero, Nat.zero_mul, Nat.add_zero, Nat.zero_add] <;> rfl)) ?_
    have qB24 : nx21 + 1 + 1 ≤ BIG := by omega
    refine d_lit (n0 := nx21 + 1) (id := nx21 + 1) (by (repeat (first | rw [Tr.get_set, if_neg ow] | rw [hx21 _ ow] | rw [hx18 _ ow] | rw [hx16 _ ow] | rw [hc17 _ ow])) <;> first | rfl | assumption | (rw [Tr.get_set, if_pos ow]; done) | (rw [Tr.get_set, if_pos ow]; rfl)) ow ow qB24 (wA_none rfl) rfl rfl rfl (by simp only [evs, ev_tmp, Tr.get_set, reduceIte, Nat.reduceEqDiff, Nat.reduceAdd, he16_3, he16_4, he16_5, he16_21, he16_22, he16_23, g4] <;> rfl) rfl rfl zr (cells_Q (rG.q.keep ow (fun id hid => by (repeat (first | rw [Tr.get_set, if_neg ow] | rw [hx21 _ ow] | rw [hx18 _ ow] | rw [hx16 _ ow] | rw [hc17 _ ow])) <;> first | rfl | assumption | (rw [Tr.get_set, if_pos ow]; done) | (rw [Tr.get_set, if_pos ow]; rfl))) Try.underlying22 T.s3) Try.underlying22 T.i22 zd intsLen ow ow (allOneC (ints_free0 _)) zd (fun vC t24 nx24 xx24 qa24 qb24 hx24 lW xr24 => ?_)
    have qC24 : nx24 ≤ BIG := by omega
    refine ds (y_bslice0 rfl Try.underlying22 T.s3 T.z3 zd rfl rfl) ?_
    refine ds (x_field (off' := 1) rfl za Try.underlying59 rfl T.s22 rfl) ?_
    refine ds (x_load1' rfl za T.g22 (by (repeat (first | rw [Tr.get_set, if_neg ow] | rw [hx24 _ ow] | rw [hx21 _ ow] | rw [hx18 _ ow] | rw [hx16 _ ow] | rw [hc17 _ ow])) <;> first | rfl | assumption | (rw [Tr.get_set, if_pos ow]; done) | (rw [Tr.get_set, if_pos ow]; rfl)) rfl (Nat.le_of_ble_eq_true rfl) (by simp only [List.take_succ_cons, List.drop_succ_cons, List.take_zero, List.drop_zero, List.take_nil, List.drop_nil, List.cons_append, List.nil_append, List.append_nil, List.length_cons, List.length_nil, Nat.reduceAdd, Int.toNat_zero, Nat.zero_mul, Nat.add_zero, Nat.zero_add] <;> rfl)) ?_
    have qB25 : nx24 + 1 ≤ BIG := by omega
    refine d_lit (n0 := nx24) (id := nx24) (by (repeat (first | rw [Tr.get_set, if_neg ow] | rw [hx24 _ ow] | rw [hx21 _ ow] | rw [hx18 _ ow] | rw [hx16 _ ow] | rw [hc17 _ ow])) <;> first | rfl | assumption | (rw [Tr.get_set, if_pos ow]; done) | (rw [Tr.get_set, if_pos ow]; rfl)) ow ow qB25 (wA_none rfl) rfl rfl rfl (by simp only [evs, ev_tmp, Tr.get_set, reduceIte, Nat.reduceEqDiff, Nat.reduceAdd, he16_3, he16_4, he16_5, he16_21, he16_22, he16_23, g4] <;> rfl) rfl rfl zr (cells_Q (rH.q.keep ow (fun id hid => by (repeat (first | rw [Tr.get_set, if_neg ow] | rw [hx24 _ ow] | rw [hx21 _ ow] | rw [hx18 _ ow] | rw [hx16 _ ow] | rw [hc17 _ ow])) <;> first | rfl | assumption | (rw [Tr.get_set, if_pos ow]; done) | (rw [Tr.get_set, if_pos ow]; rfl))) Try.underlying22 T.s3) Try.underlying22 T.i22 zd intsLen ow ow (allOneC (ints_free0 _)) zd (fun vN t25 nx25 xx25 qa25 qb25 hx25 lN xr25 => ?_)
    have qC25 : nx25 ≤ BIG := by omega
    refine ds (x_build rfl (by simp only [evP, ev_tmp, Tr.get_set, reduceIte, Nat.reduceEqDiff, Nat.reduceAdd, he16_3, he16_4, he16_5, he16_21, he16_22, he16_23, g4] <;> rfl) T.z59 rfl (build59 lW.e.q.shape lN.e.q.shape)) ?_
    refine ds (y_alloc rfl T.z59 rfl rfl) ?_
    have qN25 : nx25 + 1 ≤ BIG := by omega
    refine d_stepN (wA_none rfl) rfl (y_storeA rfl za za T.s59 rfl (by (repeat (first | rw [Tr.get_set, if_neg ow] | rw [hx25 _ ow] | rw [hx24 _ ow] | rw [hx21 _ ow] | rw [hx18 _ ow] | rw [hx16 _ ow] | rw [hc17 _ ow])) <;> first | rfl | assumption | (rw [Tr.get_set, if_pos ow]; done) | (rw [Tr.get_set, if_pos ow]; rfl)) rfl rfl (by simp only [List.all_cons, List.all_nil, lW.e.q.one, lN.e.q.one, Bool.and_self])) ?_
    refine d_done ⟨de_last (by simp only [List.all_append, List.all_cons, List.all_nil, infOf, decide_eq_true hqB, Bool.and_self, decide_eq_true qB24, xr24, decide_eq_true qC24, decide_eq_true qB25, xr25, decide_eq_true qC25, decide_eq_true qN25]) zr (by show _ ≤ BIG; omega) (by show _ ≤ BIG; (repeat refine Nat.le_trans (Nat.min_le_left _ _) ?_); omega), ?_⟩
    refine e_seq ?_
    refine k_nmW (n0 := 4) (by (repeat refine Nat.le_min.2 ⟨?_, by omega⟩); omega) (by (repeat refine Nat.le_trans (Nat.min_le_left _ _) ?_); omega) (fun wW27 wL27 wU27 => ?_)
    refine k_seq ?_
    refine k_seq ?_
    refine k_region hP hC ?_
    refine os (x_field (off' := 1) rfl za Try.underlying59 rfl T.s22 rfl) ?_
    refine os (x_load1' rfl za T.g22 (by (repeat (first | rw [Tr.get_set, if_neg ow] | rw [hx25 _ ow] | rw [hx24 _ ow] | rw [hx21 _ ow] | rw [hx18 _ ow] | rw [hx16 _ ow] | rw [hc17 _ ow])) <;> first | rfl | assumption | (rw [Tr.get_set, if_pos ow]; done) | (rw [Tr.get_set, if_pos ow]; rfl)) rfl (Nat.le_of_ble_eq_true rfl) (by simp only [List.take_succ_cons, List.drop_succ_cons, List.take_zero, List.drop_zero, List.take_nil, List.drop_nil, List.cons_append, List.nil_append, List.append_nil, List.length_cons, List.length_nil, Nat.reduceAdd, Int.toNat_zero, Nat.zero_mul, Nat.add_zero, Nat.zero_add] <;> rfl)) ?_
    refine os (x_lenQ lN.e.q rfl rfl (by simp only [evs, ev_tmp, Tr.get_set, reduceIte, Nat.reduceEqDiff, Nat.reduceAdd, he16_3, he16_4, he16_5, he16_21, he16_22, he16_23, g4] <;> rfl) rfl Try.underlying22) ?_
    refine os (x_bin rfl za (by rfl) b_gtr) ?_
    refine o_done ?_
    refine e_seq ?_
    refine k_nm (fun tS28 nS28 qS28 hxS28 => ?_)
    have lN1 : LitS tS28 nx24 nx25 1 vN (judgeA X Y).length (ints (judgeA X Y)) := lN.keep (fun id q0 q1 => by (repeat (first | rw [Tr.get_set, if_neg ow] | rw [hxS28 _ ow] | rw [hx25 _ ow] | rw [hx24 _ ow] | rw [hx21 _ ow] | rw [hx18 _ ow] | rw [hx16 _ ow] | rw [hc17 _ ow])) <;> first | rfl | assumption | (rw [Tr.get_set, if_pos ow]; done) | (rw [Tr.get_set, if_pos ow]; rfl))
    clear lN
    have lN := lN1
    clear lN1
    have hb28 : tS28.get (nx25) = some (.row [vC, vN] (nx25) BIG false 2) := by (repeat (first | rw [Tr.get_set, if_neg ow] | rw [hxS28 _ ow] | rw [hx25 _ ow] | rw [hx24 _ ow] | rw [hx21 _ ow] | rw [hx18 _ ow] | rw [hx16 _ ow] | rw [hc17 _ ow])) <;> first | rfl | assumption | (rw [Tr.get_set, if_pos ow]; done) | (rw [Tr.get_set, if_pos ow]; rfl)
    have hb26 : tS28.get (nx21) = some (.row [vrG, vrH] (nx21) BIG false 2) := by (repeat (first | rw [Tr.get_set, if_neg ow] | rw [hxS28 _ ow] | rw [hx25 _ ow] | rw [hx24 _ ow] | rw [hx21 _ ow] | rw [hx18 _ ow] | rw [hx16 _ ow] | rw [hc17 _ ow])) <;> first | rfl | assumption | (rw [Tr.get_set, if_pos ow]; done) | (rw [Tr.get_set, if_pos ow]; rfl)
    have hab : nx24 ≤ nx25 ∧ nx25 ≤ nx25 ∧ nx25 < nS28 := by omega
    have rX1 : RdX tS28 (nx21 + 1) 46 vX X.length X.flatten := rX.keep ow (fun id hid => by (repeat (first | rw [Tr.get_set, if_neg ow] | rw [hxS28 _ ow] | rw [hx25 _ ow] | rw [hx24 _ ow] | rw [hx21 _ ow] | rw [hx18 _ ow] | rw [hx16 _ ow] | rw [hc17 _ ow])) <;> first | rfl | assumption | (rw [Tr.get_set, if_pos ow]; done) | (rw [Tr.get_set, if_pos ow]; rfl))
    have rY1 : RdX tS28 (nx21 + 1) 22 vY Y.length Y.flatten := rY.keep ow (fun id hid => by (repeat (first | rw [Tr.get_set, if_neg ow] | rw [hxS28 _ ow] | rw [hx25 _ ow] | rw [hx24 _ ow] | rw [hx21 _ ow] | rw [hx18 _ ow] | rw [hx16 _ ow] | rw [hc17 _ ow])) <;> first | rfl | assumption | (rw [Tr.get_set, if_pos ow]; done) | (rw [Tr.get_set, if_pos ow]; rfl))
    have rG1 : RdS tS28 (nx21 + 1) 1 vrG (judgeW X Y).length (ints (judgeW X Y)) := rG.keep ow (fun id hid => by (repeat (first | rw [Tr.get_set, if_neg ow] | rw [hxS28 _ ow] | rw [hx25 _ ow] | rw [hx24 _ ow] | rw [hx21 _ ow] | rw [hx18 _ ow] | rw [hx16 _ ow] | rw [hc17 _ ow])) <;> first | rfl | assumption | (rw [Tr.get_set, if_pos ow]; done) | (rw [Tr.get_set, if_pos ow]; rfl))
    have rH1 : RdS tS28 (nx21 + 1) 1 vrH (judgeA X Y).length (ints (judgeA X Y)) := rH.keep ow (fun id hid => by (repeat (first | rw [Tr.get_set, if_neg ow] | rw [hxS28 _ ow] | rw [hx25 _ ow] | rw [hx24 _ ow] | rw [hx21 _ ow] | rw [hx18 _ ow] | rw [hx16 _ ow] | rw [hc17 _ ow])) <;> first | rfl | assumption | (rw [Tr.get_set, if_pos ow]; done) | (rw [Tr.get_set, if_pos ow]; rfl))
    have lW1 : RdQ tS28 nx24 1 vC (judgeW X Y).length (ints (judgeW X Y)) := lW.e.q.keep ow (fun id hid => by (repeat (first | rw [Tr.get_set, if_neg ow] | rw [hxS28 _ ow] | rw [hx25 _ ow] | rw [hx24 _ ow] | rw [hx21 _ ow] | rw [hx18 _ ow] | rw [hx16 _ ow] | rw [hc17 _ ow])) <;> first | rfl | assumption | (rw [Tr.get_set, if_pos ow]; done) | (rw [Tr.get_set, if_pos ow]; rfl))
    clear rX rY rG rH lW
    have rX := rX1
    have rY := rY1
    have rG := rG1
    have rH := rH1
    have lW := lW1
    clear rX1 rY1 rG1 rH1 lW1
    have hc29 : ∀ id, id < nS15 → tS28.get id = tS15.get id := fun id hid => by (repeat (first | rw [Tr.get_set, if_neg ow] | rw [hxS28 _ ow] | rw [hx25 _ ow] | rw [hx24 _ ow] | rw [hx21 _ ow] | rw [hx18 _ ow] | rw [hx16 _ ow])) <;> first | rfl | assumption | (rw [Tr.get_set, if_pos ow]; done) | (rw [Tr.get_set, if_pos ow]; rfl)
    refine k_join (fun s => ∃ e t wr AB, s = ⟨e, 273, ⟨t, nS28, wr⟩⟩ ∧ e.get 3 = some (.int .i64 bb) ∧ e.get 4 = some (s_uu) ∧ e.get 5 = some (s_ww) ∧ e.get 21 = some (.slice (some ⟨nS11, 0, none⟩) 4 4) ∧ e.get 22 = some (.slice (some ⟨nS11 + 1 + 1 + 1, 0, none⟩) 4 4) ∧ e.get 23 = some (.int .i64 i) ∧ e.get 24 = some (.pointer (some ⟨nx18, 0, none⟩)) ∧ e.get 26 = some (.pointer (some ⟨nx21, 0, none⟩)) ∧ e.get 28 = some (.pointer (some ⟨nx25, 0, none⟩)) ∧ AB.length = (judgeA X Y).length ∧ 4 ≤ wr ∧ wr ≤ BIG ∧ (∀ id, (id < nx24 ∨ nx25 ≤ id) ∧ id < nS28 → t.get id = tS28.get id) ∧ RdX t nS28 1 vN AB.length (ints AB)) ?_ ?_
    ·skip
     refine k_cond (by simp only [Tr.get_set, reduceIte, Nat.reduceEqDiff, Nat.reduceAdd, ev_tmp, g4] <;> rfl) (fun g6 => ?_) (fun g6 => ?_)
     ·have p6 := g6; try simp only [d1, d2, d3, d4, d5, d6, d7, d8, d9] at p6
      have hqB : nS28 ≤ BIG := by omega
      refine k_draw hP hC zr ?_
      refine ds (x_field (off' := 1) rfl za Try.underlying59 rfl T.s22 rfl) ?_
      refine ds (x_load1' rfl za T.g22 (by (repeat (first | rw [Tr.get_set, if_neg ow] | rw [hc29 _ ow] | rw [hc17 _ ow])) <;> first | rfl | assumption | (rw [Tr.get_set, if_pos ow]; done) | (rw [Tr.get_set, if_pos ow]; rfl)) rfl (Nat.le_of_ble_eq_true rfl) (by simp only [List.take_succ_cons, List.drop_succ_cons, List.take_zero, List.drop_zero, List.take_nil, List.drop_nil, List.cons_append, List.nil_append, List.append_nil, List.length_cons, List.length_nil, Nat.reduceAdd, Int.toNat_zero, Nat.zero_mul, Nat.add_zero, Nat.zero_add] <;> rfl)) ?_
      refine ds (x_move rfl za) ?_
      refine ds (x_field (off' := 1) rfl za Try.underlying59 rfl T.s22 rfl) ?_
      refine ds (x_load1' rfl za T.g22 (by (repeat (first | rw [Tr.get_set, if_neg ow] | rw [hc29 _ ow] | rw [hc17 _ ow])) <;> first | rfl | assumption | (rw [Tr.get_set, if_pos ow]; done) | (rw [Tr.get_set, if_pos ow]; rfl)) rfl (Nat.le_of_ble_eq_true rfl) (by simp only [List.take_succ_cons, List.drop_succ_cons, List.take_zero, List.drop_zero, List.take_nil, List.drop_nil, List.cons_append, List.nil_append, List.append_nil, List.length_cons, List.length_nil, Nat.reduceAdd, Int.toNat_zero, Nat.zero_mul, Nat.add_zero, Nat.zero_add] <;> rfl)) ?_
      refine ds (x_lenQ lN.e.q rfl rfl (by simp only [evs, ev_tmp, Tr.get_set, reduceIte, Nat.reduceEqDiff, Nat.reduceAdd, he16_3, he16_4, he16_5, he16_21, he16_22, he16_23, g4, g6] <;> rfl) rfl Try.underlying22) ?_
      have hNp : 0 < (judgeA X Y).length := by omega
      have kn0 := around_lo (n := bb) (m := (judgeA X Y).length) ow
      have kn1 := around_hi (n := bb) (m := (judgeA X Y).length) ow
      obtain ⟨kN, hkN⟩ : ∃ k, k = around bb (judgeA X Y).length := ⟨_, rfl⟩
      rw [← hkN] at kn0 kn1
      obtain ⟨iN, cN, hvN, hcN, hdN, hgN, qN0, qN1⟩ := lN
      subst hvN
      rw [ints_len] at hdN hgN
      refine d_call0 (wA_none rfl) rfl rfl rfl (by simp only [evs, ev_tmp, Tr.get_set, reduceIte, Nat.reduceEqDiff, Nat.reduceAdd, he16_3, he16_4, he16_5, he16_21, he16_22, he16_23, g4, g6] <;> rfl) zd ?_
      refine ⟨_, _, _, _, ((tab_miss zd).trans (tab_hit.trans (around_c (by simp only [ok_around, Bool.and_eq_true, decide_eq_true_eq]; exact ⟨hbb, by omega⟩)))).trans (by rw [← hkN]), ?_⟩
      refine ds (x_move rfl za) ?_
      refine ds (x_bin (u := .int .i64 (IntKind.i64.wrap (bb.tdiv 7))) rfl za (by rfl) (by rw [(b_quo zd)])) ?_
      refine ds (x_move rfl za) ?_
      refine ds (x_move rfl za) ?_
      refine ds (x_index rfl za za Try.underlying27 T.s23 ow ow) ?_
      refine ds (x_load1 rfl za T.g23 (l_cell (by (repeat (first | rw [Tr.get_set, if_neg ow] | rw [hc29 _ ow] | rw [hc17 _ ow])) <;> first | rfl | assumption | (rw [Tr.get_set, if_pos ow]; done) | (rw [Tr.get_set, if_pos ow]; rfl)) rfl hvX)) ?_
      refine ds (x_lenX rX rfl rfl (by simp only [evs, ev_tmp, Tr.get_set, reduceIte, Nat.reduceEqDiff, Nat.reduceAdd, he16_3, he16_4, he16_5, he16_21, he16_22, he16_23, g4, g6] <;> rfl) rfl Try.underlying23) ?_
      refine ds (x_bin (u := .int .i64 (X.length + 2)) rfl za (by rfl) (by rw [b_add]; rw [IntWalk.i64_in _ ow])) ?_
      refine d_call0 (wA_none rfl) rfl rfl rfl (by simp only [evs, ev_tmp, Tr.get_set, reduceIte, Nat.reduceEqDiff, Nat.reduceAdd, he16_3, he16_4, he16_5, he16_21, he16_22, he16_23, g4, g6] <;> rfl) zd ?_
      refine ⟨_, _, _, _, ((tab_miss zd).trans (tab_hit.trans (around_c (by simp only [ok_around, Bool.and_eq_true, decide_eq_true_eq]; exact ⟨wrap_inR _, by omega⟩)))), ?_⟩
      obtain ⟨zN, hzN⟩ : ∃ z, z = IntKind.i64.wrap (around (IntKind.i64.wrap (bb.tdiv 7)) (X.length + 2) - 1) := ⟨_, rfl⟩
      refine ds (x_bin (u := .int .i64 zN) rfl za (by rfl) (by rw [b_sub, hzN])) ?_
      refine ds (x_index rfl za za Try.underlying22 T.s3 ow ow) ?_
      refine d_stepN (wA_none rfl) rfl (y_store1P rfl za za rfl T.s3 (by (repeat (first | rw [Tr.get_set, if_neg ow] | rw [hc29 _ ow] | rw [hc17 _ ow])) <;> first | rfl | assumption | (rw [Tr.get_set, if_pos ow]; done) | (rw [Tr.get_set, if_pos ow]; rfl)) (by rw [ints_len]) (by rw [ints_len]; omega) rfl (ints_set ow)) ?_
      refine d_done ⟨de_last (by simp only [List.all_append, List.all_cons, List.all_nil, infOf, decide_eq_true hqB, Bool.and_self]) zr (by show _ ≤ BIG; omega) (by show _ ≤ BIG; (repeat refine Nat.le_trans (Nat.min_le_left _ _) ?_); omega), ?_⟩
      refine e_loop ?_
      exact ⟨_, _, _, (judgeA X Y).set kN.toNat zN, rfl, za, za, za, za, za, za, za, za, za, by rw [List.length_set], by omega, by omega, fun id hid => by (repeat (first | rw [Tr.get_set, if_neg ow] | rw [hc29 _ ow] | rw [hc17 _ ow])) <;> first | rfl | assumption | (rw [Tr.get_set, if_pos ow]; done) | (rw [Tr.get_set, if_pos ow]; rfl), RdQ.x (.inr ⟨intsLen, iN, iN, cN, by rw [List.length_set], by rw [List.length_set]; rcases hcN with ⟨h, _⟩ | ⟨_, h⟩; omega; exact .inr h, ⟨BIG, 0, .inl ⟨rfl, by (repeat (first | rw [Tr.get_set, if_neg ow])) <;> first | rfl | assumption | (rw [Tr.get_set, if_pos ow]; done) | (rw [Tr.get_set, if_pos ow]; rfl)⟩⟩, by omega, by omega⟩)⟩
     ·have p6 := g6; try simp only [d1, d2, d3, d4, d5, d6, d7, d8, d9] at p6
      refine k_skip ?_
      refine e_loop ?_
      exact ⟨_, _, _, judgeA X Y, rfl, za, za, za, za, za, za, za, za, za, rfl, by omega, by omega, fun id hid => rfl, lN.e.q.x.keep ow (fun id hid => rfl)⟩
    ·skip
     rintro s ⟨e, t, wr, AB, rfl, he30_3, he30_4, he30_5, he30_21, he30_22, he30_23, he30_24, he30_26, he30_28, hABl, w1, wb, hxJ2, rN⟩
     refine k_seq ?_
     have hqB : nS28 ≤ BIG := by omega
     refine k_draw hP hC zr ?_
     refine ds (x_loadA' (cs := [vrG, vrH]) rfl za T.g59 T.s59 (by (repeat (first | rw [Tr.get_set, if_neg ow] | rw [hxJ2 _ ow] | rw [hc29 _ ow] | rw [hc17 _ ow])) <;> first | rfl | assumption | (rw [Tr.get_set, if_pos ow]; done) | (rw [Tr.get_set, if_pos ow]; rfl)) rfl (Nat.le_of_ble_eq_true rfl) rfl) ?_
     refine ds (x_loadA' (cs := [vC, vN]) rfl za T.g59 T.s59 (by (repeat (first | rw [Tr.get_set, if_neg ow] | rw [hxJ2 _ ow] | rw [hc29 _ ow] | rw [hc17 _ ow])) <;> first | rfl | assumption | (rw [Tr.get_set, if_pos ow]; done) | (rw [Tr.get_set, if_pos ow]; rfl)) rfl (Nat.le_of_ble_eq_true rfl) rfl) ?_
     refine ds (x_move rfl za) ?_
     refine ds (x_move rfl za) ?_
     refine ds (x_build rfl (by simp only [evP, ev_tmp, Tr.get_set, reduceIte, Nat.reduceEqDiff, Nat.reduceAdd, he30_3, he30_4, he30_5, he30_21, he30_22, he30_23, he30_24, he30_26, he30_28] <;> rfl) T.z59 rfl (build59 (Sl.shape3 hs_ww) (Sl.shape3 hs_uu))) ?_
     refine ds (x_move rfl za) ?_
     refine ds (x_bin (u := .int .i64 (bb.tmod 6)) rfl za (by rfl) (by rw [(b_rem zd)])) ?_
     refine ds (y_bsliceV (v := .int .i64 (bb.tmod 6)) rfl za rfl Try.underlying22 T.s3 T.z3 rfl rfl) ?_
     have qC31 : nS28 + 1 ≤ BIG := by omega
     refine ds (x_field (off' := 0) rfl za Try.underlying59 rfl T.s22 rfl) ?_
     refine ds (x_load1' (v := vrG) rfl za T.g22 (by (repeat (first | rw [Tr.get_set, if_neg ow] | rw [hxJ2 _ ow] | rw [hc29 _ ow] | rw [hc17 _ ow])) <;> first | rfl | assumption | (rw [Tr.get_set, if_pos ow]; done) | (rw [Tr.get_set, if_pos ow]; rfl)) rfl (Nat.le_of_ble_eq_true rfl) rfl) ?_
     have qB32 : nS28 + 1 ≤ BIG := by omega
     refine d_appFull (id := nS28) (d := [.int .i64 (bb.tmod 6)]) (n := 1) (by (repeat (first | rw [Tr.get_set, if_neg ow] | rw [hxJ2 _ ow] | rw [hc29 _ ow] | rw [hc17 _ ow])) <;> first | rfl | assumption | (rw [Tr.get_set, if_pos ow]; done) | (rw [Tr.get_set, if_pos ow]; rfl)) rfl ow qB32 (wA_none rfl) rfl rfl rfl (by simp only [evs, ev_tmp, Tr.get_set, reduceIte, Nat.reduceEqDiff, Nat.reduceAdd, he30_3, he30_4, he30_5, he30_21, he30_22, he30_23, he30_24, he30_26, he30_28] <;> rfl) rfl rfl zr (cells_Q (rG.q.keep ow (fun id hid => by (repeat (first | rw [Tr.get_set, if_neg ow] | rw [hxJ2 _ ow] | rw [hc29 _ ow] | rw [hc17 _ ow])) <;> first | rfl | assumption | (rw [Tr.get_set, if_pos ow]; done) | (rw [Tr.get_set, if_pos ow]; rfl))) Try.underlying22 T.s3) Try.underlying22 T.i22 zd intsLen ow ow (allOneC (ints_free0 _)) zd (fun vP t32 nx32 xx32 qa32 qb32 hx32 rP0 xr32 => ?_)
     have qC32 : nx32 ≤ BIG := by omega
     refine ds (y_bsliceV (v := .int .i64 0) rfl (by rfl) rfl Try.underlying22 T.s3 T.z3 rfl rfl) ?_
     have qC33 : nx32 + 1 ≤ BIG := by omega
     refine ds (x_field (off' := 1) rfl za Try.underlying59 rfl T.s22 rfl) ?_
     refine ds (x_load1' (v := vrH) rfl za T.g22 (by (repeat (first | rw [Tr.get_set, if_neg ow] | rw [hx32 _ ow] | rw [hxJ2 _ ow] | rw [hc29 _ ow] | rw [hc17 _ ow])) <;> first | rfl | assumption | (rw [Tr.get_set, if_pos ow]; done) | (rw [Tr.get_set, if_pos ow]; rfl)) rfl (Nat.le_of_ble_eq_true rfl) rfl) ?_
     have qB34 : nx32 + 1 ≤ BIG := by omega
     refine d_appFull (id := nx32) (d := [.int .i64 0]) (n := 1) (by (repeat (first | rw [Tr.get_set, if_neg ow] | rw [hx32 _ ow] | rw [hxJ2 _ ow] | rw [hc29 _ ow] | rw [hc17 _ ow])) <;> first | rfl | assumption | (rw [Tr.get_set, if_pos ow]; done) | (rw [Tr.get_set, if_pos ow]; rfl)) rfl ow qB34 (wA_none rfl) rfl rfl rfl (by simp only [evs, ev_tmp, Tr.get_set, reduceIte, Nat.reduceEqDiff, Nat.reduceAdd, he30_3, he30_4, he30_5, he30_21, he30_22, he30_23, he30_24, he30_26, he30_28] <;> rfl) rfl rfl zr (cells_Q (rH.q.keep ow (fun id hid => by (repeat (first | rw [Tr.get_set, if_neg ow] | rw [hx32 _ ow] | rw [hxJ2 _ ow] | rw [hc29 _ ow] | rw [hc17 _ ow])) <;> first | rfl | assumption | (rw [Tr.get_set, if_pos ow]; done) | (rw [Tr.get_set, if_pos ow]; rfl))) Try.underlying22 T.s3) Try.underlying22 T.i22 zd intsLen ow ow (allOneC (ints_free0 _)) zd (fun vQ t34 nx34 xx34 qa34 qb34 hx34 rQ0 xr34 => ?_)
     have qC34 : nx34 ≤ BIG := by omega
     refine ds (x_build rfl (by simp only [evP, ev_tmp, Tr.get_set, reduceIte, Nat.reduceEqDiff, Nat.reduceAdd, he30_3, he30_4, he30_5, he30_21, he30_22, he30_23, he30_24, he30_26, he30_28] <;> rfl) T.z59 rfl (build59 rP0.shape rQ0.shape)) ?_
     refine ds (y_bsliceN (cs := [vrG, vrH, vC, vN, s_ww, s_uu, vP, vQ]) rfl (by simp only [evP, ev_tmp, Tr.get_set, reduceIte, Nat.reduceEqDiff, Nat.reduceAdd, he30_3, he30_4, he30_5, he30_21, he30_22, he30_23, he30_24, he30_26, he30_28] <;> rfl) Try.underlying63 T.s59 T.z59 zd zd rfl rfl fillF) ?_
     have qC35 : nx34 + 1 ≤ BIG := by omega
     refine ds (x_assign rfl za) ?_
     refine d_done ⟨de_quiet (by simp only [List.all_append, List.all_cons, List.all_nil, infOf, decide_eq_true hqB, Bool.and_self, decide_eq_true qC31, decide_eq_true qB32, xr32, decide_eq_true qC32, decide_eq_true qC33, decide_eq_true qB34, xr34, decide_eq_true qC34, decide_eq_true qC35]) (by show _ ≤ BIG; omega) (by show _ ≤ BIG; (repeat refine Nat.le_trans (Nat.min_le_left _ _) ?_); omega), ?_⟩
     refine e_seq ?_
     refine k_nmW (n0 := 4) (by (repeat refine Nat.le_min.2 ⟨?_, by omega⟩); omega) (by (repeat refine Nat.le_trans (Nat.min_le_left _ _) ?_); omega) (fun wW36 wL36 wU36 => ?_)
     refine k_seq ?_
     refine k_region hP hC ?_
     refine os (x_assign rfl (by rfl)) ?_
     refine o_done ?_
     refine e_seq ?_
     refine k_block ?_
     refine k_nm (fun tS37 nS37 qS37 hxS37 => ?_)
     have rX1 := rX
     clear rX
     have rX : RdX tS37 nS37 46 vX X.length X.flatten := rX1.keep ow (fun id hid => by (repeat (first | rw [Tr.get_set, if_neg ow] | rw [hxS37 _ ow] | rw [hx34 _ ow] | rw [hx32 _ ow] | rw [hxJ2 _ ow] | rw [hc29 _ ow] | rw [hc17 _ ow])) <;> first | rfl | assumption | (rw [Tr.get_set, if_pos ow]; done) | (rw [Tr.get_set, if_pos ow]; rfl))
     clear rX1
     have rY1 := rY
     clear rY
     have rY : RdX tS37 nS37 22 vY Y.length Y.flatten := rY1.keep ow (fun id hid => by (repeat (first | rw [Tr.get_set, if_neg ow] | rw [hxS37 _ ow] | rw [hx34 _ ow] | rw [hx32 _ ow] | rw [hxJ2 _ ow] | rw [hc29 _ ow] | rw [hc17 _ ow])) <;> first | rfl | assumption | (rw [Tr.get_set, if_pos ow]; done) | (rw [Tr.get_set, if_pos ow]; rfl))
     clear rY1
     have hrF : tS37.get (nx34) = some (.row [vrG, vrH, vC, vN, s_ww, s_uu, vP, vQ] (nx34) BIG false 8) := by (repeat (first | rw [Tr.get_set, if_neg ow] | rw [hxS37 _ ow] | rw [hx34 _ ow] | rw [hx32 _ ow] | rw [hxJ2 _ ow] | rw [hc29 _ ow] | rw [hc17 _ ow])) <;> first | rfl | assumption | (rw [Tr.get_set, if_pos ow]; done) | (rw [Tr.get_set, if_pos ow]; rfl)
     have hbF : nx34 < nS37 := by omega
     have y1 : RdX tS37 nS37 1 vrG (judgeW X Y).length (ints (judgeW X Y)) := rG.q.x.keep ow (fun id hid => by (repeat (first | rw [Tr.get_set, if_neg ow] | rw [hxS37 _ ow] | rw [hx34 _ ow] | rw [hx32 _ ow] | rw [hxJ2 _ ow] | rw [hc29 _ ow] | rw [hc17 _ ow])) <;> first | rfl | assumption | (rw [Tr.get_set, if_pos ow]; done) | (rw [Tr.get_set, if_pos ow]; rfl))
     have y2 : RdX tS37 nS37 1 vrH (judgeA X Y).length (ints (judgeA X Y)) := rH.q.x.keep ow (fun id hid => by (repeat (first | rw [Tr.get_set, if_neg ow] | rw [hxS37 _ ow] | rw [hx34 _ ow] | rw [hx32 _ ow] | rw [hxJ2 _ ow] | rw [hc29 _ ow] | rw [hc17 _ ow])) <;> first | rfl | assumption | (rw [Tr.get_set, if_pos ow]; done) | (rw [Tr.get_set, if_pos ow]; rfl))
     have y3 : RdX tS37 nS37 1 vC (judgeW X Y).length (ints (judgeW X Y)) := lW.x.keep ow (fun id hid => by (repeat (first | rw [Tr.get_set, if_neg ow] | rw [hxS37 _ ow] | rw [hx34 _ ow] | rw [hx32 _ ow] | rw [hxJ2 _ ow] | rw [hc29 _ ow] | rw [hc17 _ ow])) <;> first | rfl | assumption | (rw [Tr.get_set, if_pos ow]; done) | (rw [Tr.get_set, if_pos ow]; rfl))
     have y4 : RdX tS37 nS37 1 vN AB.length (ints AB) := rN.keep ow (fun id hid => by (repeat (first | rw [Tr.get_set, if_neg ow] | rw [hxS37 _ ow] | rw [hx34 _ ow] | rw [hx32 _ ow] | rw [hxJ2 _ ow] | rw [hc29 _ ow] | rw [hc17 _ ow])) <;> first | rfl | assumption | (rw [Tr.get_set, if_pos ow]; done) | (rw [Tr.get_set, if_pos ow]; rfl))
     have y5 : RdX tS37 nS37 1 s_ww ww.length (ints ww) := rdX_sl hs_ww (by (repeat (first | rw [Tr.get_set, if_neg ow] | rw [hxS37 _ ow] | rw [hx34 _ ow] | rw [hx32 _ ow] | rw [hxJ2 _ ow] | rw [hc29 _ ow] | rw [hc17 _ ow])) <;> first | rfl | assumption | (rw [Tr.get_set, if_pos ow]; done) | (rw [Tr.get_set, if_pos ow]; rfl)) rfl intsLen ow
     have y6 : RdX tS37 nS37 1 s_uu uu.length (ints uu) := rdX_sl hs_uu (by (repeat (first | rw [Tr.get_set, if_neg ow] | rw [hxS37 _ ow] | rw [hx34 _ ow] | rw [hx32 _ ow] | rw [hxJ2 _ ow] | rw [hc29 _ ow] | rw [hc17 _ ow])) <;> first | rfl | assumption | (rw [Tr.get_set, if_pos ow]; done) | (rw [Tr.get_set, if_pos ow]; rfl)) rfl intsLen ow
     have y7 : RdX tS37 nS37 1 vP (bb.tmod 6 :: judgeW X Y).length (ints (bb.tmod 6 :: judgeW X Y)) := by
      have q := rP0.x
      rw [Nat.add_comm] at q
      exact q.keep ow (fun id hid => by (repeat (first | rw [Tr.get_set, if_neg ow] | rw [hxS37 _ ow] | rw [hx34 _ ow] | rw [hx32 _ ow] | rw [hxJ2 _ ow] | rw [hc29 _ ow] | rw [hc17 _ ow])) <;> first | rfl | assumption | (rw [Tr.get_set, if_pos ow]; done) | (rw [Tr.get_set, if_pos ow]; rfl))
     have y8 : RdX tS37 nS37 1 vQ (0 :: judgeA X Y).length (ints (0 :: judgeA X Y)) := by
      have q := rQ0.x
      rw [Nat.add_comm] at q
      exact q.keep ow (fun id hid => by (repeat (first | rw [Tr.get_set, if_neg ow] | rw [hxS37 _ ow] | rw [hx34 _ ow] | rw [hx32 _ ow] | rw [hxJ2 _ ow] | rw [hc29 _ ow] | rw [hc17 _ ow])) <;> first | rfl | assumption | (rw [Tr.get_set, if_pos ow]; done) | (rw [Tr.get_set, if_pos ow]; rfl))
     have hc39 : ∀ id, id < nS15 → tS37.get id = tS15.get id := fun id hid => by (repeat (first | rw [Tr.get_set, if_neg ow] | rw [hxS37 _ ow] | rw [hx34 _ ow] | rw [hx32 _ ow] | rw [hxJ2 _ ow] | rw [hc29 _ ow])) <;> first | rfl | assumption | (rw [Tr.get_set, if_pos ow]; done) | (rw [Tr.get_set, if_pos ow]; rfl)
     refine k_loopI (α := Int) (fun k s => ∃ e t nx wr, s = ⟨e, 273, ⟨t, nx, wr⟩⟩ ∧ e.get 3 = some (.int .i64 bb) ∧ e.get 4 = some (s_uu) ∧ e.get 5 = some (s_ww) ∧ e.get 21 = some (.slice (some ⟨nS11, 0, none⟩) 4 4) ∧ e.get 22 = some (.slice (some ⟨nS11 + 1 + 1 + 1, 0, none⟩) 4 4) ∧ e.get 23 = some (.int .i64 i) ∧ e.get 29 = some (.slice (some ⟨nx34, 0, none⟩) 4 4) ∧ e.get 30 = some (.int .i64 k) ∧ 0 ≤ k ∧ k ≤ 4 ∧ nS37 ≤ nx ∧ (nx : Int) ≤ nS37 + 10 * k ∧ 4 ≤ wr ∧ wr ≤ BIG ∧ (∀ id, id < nS37 → t.get id = tS37.get id)) (fun k => (4 - k).toNat) 0 ⟨_, _, _, _, rfl, za, za, za, za, za, za, za, za, by omega, by omega, by omega, by omega, by omega, by omega, fun _ _ => rfl⟩ ?_
     rintro k s ⟨e, t, nx, wr, rfl, he38_3, he38_4, he38_5, he38_21, he38_22, he38_23, he38_29, he38_30, k0, k1, n1, nb1, w1, wb, hx38⟩
     refine k_seq ?_
     refine k_seq ?_
     refine k_region hP hC ?_
     refine os (x_move rfl za) ?_
     refine os (x_move rfl za) ?_
     refine os (x_len rfl rfl (by simp only [evs, ev_tmp, Tr.get_set, reduceIte, Nat.reduceEqDiff, Nat.reduceAdd, he38_3, he38_4, he38_5, he38_21, he38_22, he38_23, he38_29, he38_30] <;> rfl) rfl Try.underlying63) ?_
     refine os (x_bin rfl za za b_lss) ?_
     refine o_done ?_
     refine e_seq ?_
     refine k_cond (by simp only [Tr.get_set, reduceIte, Nat.reduceEqDiff, Nat.reduceAdd, ev_tmp, he38_3, he38_4, he38_5, he38_21, he38_22, he38_23, he38_29, he38_30] <;> rfl) (fun g8 => ?_) (fun g8 => ?_)
     ·have p8 := g8; try simp only [d1, d2, d3, d4, d5, d6, d7, d8, d9] at p8
      refine k_skip ?_
      refine e_seq ?_
      refine k_seq ?_
      refine k_block ?_
      refine k_seq ?_
      have hqB : nx ≤ BIG := by omega
      obtain ⟨vw, va, w, a, hvF, rw, ra, hwl, hal⟩ : ∃ vw va w a, (([vrG, vrH, vC, vN, s_ww, s_uu, vP, vQ] : List Value).drop (k.toNat * 2)).take 2 = [vw, va] ∧ RdX t nx 1 vw w.length (ints w) ∧ RdX t nx 1 va a.length (ints a) ∧ w.length < 4611686018427387904 ∧ a.length < 4611686018427387904 := by
       rcases (show k = 0 ∨ k = 1 ∨ k = 2 ∨ k = 3 by omega) with rfl | rfl | rfl | rfl
       ·exact ⟨_, _, judgeW X Y, judgeA X Y, rfl, y1.keep ow hx38, y2.keep ow hx38, by first | assumption | (simp only [List.length_cons]; omega) | omega, by first | assumption | (simp only [List.length_cons]; omega) | omega⟩
       ·exact ⟨_, _, judgeW X Y, AB, rfl, y3.keep ow hx38, y4.keep ow hx38, by first | assumption | (simp only [List.length_cons]; omega) | omega, by first | assumption | (simp only [List.length_cons]; omega) | omega⟩
       ·exact ⟨_, _, ww, uu, rfl, y5.keep ow hx38, y6.keep ow hx38, by first | assumption | (simp only [List.length_cons]; omega) | omega, by first | assumption | (simp only [List.length_cons]; omega) | omega⟩
       ·exact ⟨_, _, (bb.tmod 6 :: judgeW X Y), (0 :: judgeA X Y), rfl, y7.keep ow hx38, y8.keep ow hx38, by first | assumption | (simp only [List.length_cons]; omega) | omega, by first | assumption | (simp only [List.length_cons]; omega) | omega⟩
      refine k_draw hP hC zr ?_
      refine ds (x_move rfl za) ?_
      refine ds (x_move rfl za) ?_
      refine ds (x_index rfl za za Try.underlying63 T.s59 ow ow) ?_
      refine ds (x_field0 rfl za Try.underlying59 rfl T.s22 rfl) ?_
      refine ds (x_load1 rfl za T.g22 (l_pair (by (repeat (first | rw [Tr.get_set, if_neg ow] | rw [hx38 _ ow] | rw [hc39 _ ow] | rw [hc17 _ ow])) <;> first | rfl | assumption | (rw [Tr.get_set, if_pos ow]; done) | (rw [Tr.get_set, if_pos ow]; rfl)) rfl hvF).2.1) ?_
      refine ds (x_move rfl za) ?_
      refine ds (x_move rfl za) ?_
      refine ds (x_index rfl za za Try.underlying63 T.s59 ow ow) ?_
      refine ds (x_fieldK (a := 1) rfl za Try.underlying59 rfl T.s22 rfl) ?_
      refine ds (x_load1 rfl za T.g22 (l_pair (by (repeat (first | rw [Tr.get_set, if_neg ow] | rw [hx38 _ ow] | rw [hc39 _ ow] | rw [hc17 _ ow])) <;> first | rfl | assumption | (rw [Tr.get_set, if_pos ow]; done) | (rw [Tr.get_set, if_pos ow]; rfl)) rfl hvF).2.2) ?_
      refine ds (x_build rfl (by simp only [evP, ev_tmp, Tr.get_set, reduceIte, Nat.reduceEqDiff, Nat.reduceAdd, he38_3, he38_4, he38_5, he38_21, he38_22, he38_23, he38_29, he38_30, g8] <;> rfl) T.z56 rfl (build56 rw.shape ra.shape)) ?_
      refine ds (y_alloc rfl T.z56 rfl rfl) ?_
      have qN39 : nx + 1 ≤ BIG := by omega
      refine d_stepN (wA_none rfl) rfl (y_storeA rfl za za T.s56 rfl (by (repeat (first | rw [Tr.get_set, if_neg ow] | rw [hx38 _ ow] | rw [hc39 _ ow] | rw [hc17 _ ow])) <;> first | rfl | assumption | (rw [Tr.get_set, if_pos ow]; done) | (rw [Tr.get_set, if_pos ow]; rfl)) rfl rfl (by simp only [List.all_cons, List.all_nil, rw.one, ra.one, Bool.and_self])) ?_
      refine d_done ⟨de_last (by simp only [List.all_append, List.all_cons, List.all_nil, infOf, decide_eq_true hqB, Bool.and_self, decide_eq_true qN39]) zr (by show _ ≤ BIG; omega) (by show _ ≤ BIG; (repeat refine Nat.le_trans (Nat.min_le_left _ _) ?_); omega), ?_⟩
      refine e_seq ?_
      refine k_nmW (n0 := 4) (by (repeat refine Nat.le_min.2 ⟨?_, by omega⟩); omega) (by (repeat refine Nat.le_trans (Nat.min_le_left _ _) ?_); omega) (fun wW41 wL41 wU41 => ?_)
      refine k_seq ?_
      refine k_seq ?_
      have hqB : nx + 1 ≤ BIG := by omega
      refine k_draw hP hC zr ?_
      refine ds (x_move rfl za) ?_
      refine ds (x_move rfl za) ?_
      refine ds (x_index rfl za za Try.underlying27 T.s23 ow ow) ?_
      refine ds (x_load1 rfl za T.g23 (l_cell (by (repeat (first | rw [Tr.get_set, if_neg ow] | rw [hx38 _ ow] | rw [hc39 _ ow] | rw [hc17 _ ow])) <;> first | rfl | assumption | (rw [Tr.get_set, if_pos ow]; done) | (rw [Tr.get_set, if_pos ow]; rfl)) rfl hvX)) ?_
      refine ds (x_move rfl za) ?_
      refine ds (x_move rfl za) ?_
      refine ds (x_index rfl za za Try.underlying54 T.s24 ow ow) ?_
      refine ds (x_load1 rfl za T.g24 (l_cell (by (repeat (first | rw [Tr.get_set, if_neg ow] | rw [hx38 _ ow] | rw [hc39 _ ow] | rw [hc17 _ ow])) <;> first | rfl | assumption | (rw [Tr.get_set, if_pos ow]; done) | (rw [Tr.get_set, if_pos ow]; rfl)) rfl hvY)) ?_
      refine ds (x_loadA' rfl za T.g56 T.s56 (by (repeat (first | rw [Tr.get_set, if_neg ow] | rw [hx38 _ ow] | rw [hc39 _ ow] | rw [hc17 _ ow])) <;> first | rfl | assumption | (rw [Tr.get_set, if_pos ow]; done) | (rw [Tr.get_set, if_pos ow]; rfl)) rfl (Nat.le_of_ble_eq_true rfl) (by simp only [List.take_succ_cons, List.drop_succ_cons, List.take_zero, List.drop_zero, List.take_nil, List.drop_nil, List.cons_append, List.nil_append, List.append_nil, List.length_cons, List.length_nil, Nat.reduceAdd, Int.toNat_zero, Nat.zero_mul, Nat.add_zero, Nat.zero_add] <;> rfl)) ?_
      refine d_call0 (wA_none rfl) rfl rfl rfl (by simp only [evs, ev_tmp, Tr.get_set, reduceIte, Nat.reduceEqDiff, Nat.reduceAdd, he38_3, he38_4, he38_5, he38_21, he38_22, he38_23, he38_29, he38_30, g8] <;> rfl) zd ?_
      refine ⟨_, _, _, _, ((tab_miss zd).trans ((tab_miss zd).trans ((tab_miss zd).trans ((tab_miss zd).trans ((tab_miss zd).trans ((tab_miss zd).trans (tab_hit.trans (check_c (rX.at zd (cfs_free0 h_X) (fun id hid => by (repeat (first | rw [Tr.get_set, if_neg ow] | rw [hx38 _ ow] | rw [hc39 _ ow] | rw [hc17 _ ow])) <;> first | rfl | assumption | (rw [Tr.get_set, if_pos ow]; done) | (rw [Tr.get_set, if_pos ow]; rfl))) h_X (rY.at zd (cfs_free0 h_Y) (fun id hid => by (repeat (first | rw [Tr.get_set, if_neg ow] | rw [hx38 _ ow] | rw [hc39 _ ow] | rw [hc17 _ ow])) <;> first | rfl | assumption | (rw [Tr.get_set, if_pos ow]; done) | (rw [Tr.get_set, if_pos ow]; rfl))) h_Y (rw.at zd (ints_free0 _) (fun id hid => by (repeat (first | rw [Tr.get_set, if_neg ow] | rw [hx38 _ ow] | rw [hc39 _ ow] | rw [hc17 _ ow])) <;> first | rfl | assumption | (rw [Tr.get_set, if_pos ow]; done) | (rw [Tr.get_set, if_pos ow]; rfl))) (ra.at zd (ints_free0 _) (fun id hid => by (repeat (first | rw [Tr.get_set, if_neg ow] | rw [hx38 _ ow] | rw [hc39 _ ow] | rw [hc17 _ ow])) <;> first | rfl | assumption | (rw [Tr.get_set, if_pos ow]; done) | (rw [Tr.get_set, if_pos ow]; rfl))) (by rw [ok_check, Bool.and_eq_true, Bool.and_eq_true, decide_eq_true_eq, decide_eq_true_eq, decide_eq_true_eq]; exact ⟨⟨hXb3, hwl⟩, hal⟩))))))))), ?_⟩
      refine ds (x_move rfl za) ?_
      refine ds (x_move rfl za) ?_
      refine ds (x_index rfl za za Try.underlying27 T.s23 ow ow) ?_
      refine ds (x_load1 rfl za T.g23 (l_cell (by (repeat (first | rw [Tr.get_set, if_neg ow] | rw [hx38 _ ow] | rw [hc39 _ ow] | rw [hc17 _ ow])) <;> first | rfl | assumption | (rw [Tr.get_set, if_pos ow]; done) | (rw [Tr.get_set, if_pos ow]; rfl)) rfl hvX)) ?_
      refine ds (x_move rfl za) ?_
      refine ds (x_move rfl za) ?_
      refine ds (x_index rfl za za Try.underlying54 T.s24 ow ow) ?_
      refine ds (x_load1 rfl za T.g24 (l_cell (by (repeat (first | rw [Tr.get_set, if_neg ow] | rw [hx38 _ ow] | rw [hc39 _ ow] | rw [hc17 _ ow])) <;> first | rfl | assumption | (rw [Tr.get_set, if_pos ow]; done) | (rw [Tr.get_set, if_pos ow]; rfl)) rfl hvY)) ?_
      refine ds (x_move rfl za) ?_
      refine ds (x_move rfl za) ?_
      refine ds (x_index rfl za za Try.underlying63 T.s59 ow ow) ?_
      refine ds (x_loadA rfl za T.g59 T.s59 (l_pair (by (repeat (first | rw [Tr.get_set, if_neg ow] | rw [hx38 _ ow] | rw [hc39 _ ow] | rw [hc17 _ ow])) <;> first | rfl | assumption | (rw [Tr.get_set, if_pos ow]; done) | (rw [Tr.get_set, if_pos ow]; rfl)) rfl hvF).1) ?_
      refine d_call0 (wA_none rfl) rfl rfl rfl (by simp only [evs, ev_tmp, Tr.get_set, reduceIte, Nat.reduceEqDiff, Nat.reduceAdd, he38_3, he38_4, he38_5, he38_21, he38_22, he38_23, he38_29, he38_30, g8] <;> rfl) zd ?_
      refine ⟨_, _, _, _, ((tab_miss zd).trans ((tab_miss zd).trans ((tab_miss zd).trans ((tab_miss zd).trans ((tab_miss zd).trans ((tab_miss zd).trans ((tab_miss zd).trans (tab_hit.trans (check33_c (rX.at zd (cfs_free0 h_X) (fun id hid => by (repeat (first | rw [Tr.get_set, if_neg ow] | rw [hx38 _ ow] | rw [hc39 _ ow] | rw [hc17 _ ow])) <;> first | rfl | assumption | (rw [Tr.get_set, if_pos ow]; done) | (rw [Tr.get_set, if_pos ow]; rfl))) h_X (rY.at zd (cfs_free0 h_Y) (fun id hid => by (repeat (first | rw [Tr.get_set, if_neg ow] | rw [hx38 _ ow] | rw [hc39 _ ow] | rw [hc17 _ ow])) <;> first | rfl | assumption | (rw [Tr.get_set, if_pos ow]; done) | (rw [Tr.get_set, if_pos ow]; rfl))) h_Y (rw.at zd (ints_free0 _) (fun id hid => by (repeat (first | rw [Tr.get_set, if_neg ow] | rw [hx38 _ ow] | rw [hc39 _ ow] | rw [hc17 _ ow])) <;> first | rfl | assumption | (rw [Tr.get_set, if_pos ow]; done) | (rw [Tr.get_set, if_pos ow]; rfl))) (ra.at zd (ints_free0 _) (fun id hid => by (repeat (first | rw [Tr.get_set, if_neg ow] | rw [hx38 _ ow] | rw [hc39 _ ow] | rw [hc17 _ ow])) <;> first | rfl | assumption | (rw [Tr.get_set, if_pos ow]; done) | (rw [Tr.get_set, if_pos ow]; rfl))) (by rw [ok_check33, Bool.and_eq_true, Bool.and_eq_true, decide_eq_true_eq, decide_eq_true_eq, decide_eq_true_eq]; exact ⟨⟨hXb3, hwl⟩, hal⟩)))))))))), ?_⟩
      refine ds (x_bin (u := .bool false) rfl za za (by rw [b_neq]; simp)) ?_
      refine ds (x_move rfl za) ?_
      refine d_step (wA_on rfl rfl zg) rfl (x_move rfl za) zd ?_
      refine d_step (wA_on rfl rfl zg) rfl (x_move rfl za) zd ?_
      refine d_step (wA_on rfl rfl zg) rfl (x_index rfl za za Try.underlying27 T.s23 ow ow) zd ?_
      refine d_step (wA_on rfl rfl zg) rfl (x_load1 rfl za T.g23 (l_cell (by (repeat (first | rw [Tr.get_set, if_neg ow] | rw [hx38 _ ow] | rw [hc39 _ ow] | rw [hc17 _ ow])) <;> first | rfl | assumption | (rw [Tr.get_set, if_pos ow]; done) | (rw [Tr.get_set, if_pos ow]; rfl)) rfl hvX)) zd ?_
      refine d_step (wA_on rfl rfl zg) rfl (x_loadA' rfl za T.g56 T.s56 (by (repeat (first | rw [Tr.get_set, if_neg ow] | rw [hx38 _ ow] | rw [hc39 _ ow] | rw [hc17 _ ow])) <;> first | rfl | assumption | (rw [Tr.get_set, if_pos ow]; done) | (rw [Tr.get_set, if_pos ow]; rfl)) rfl (Nat.le_of_ble_eq_true rfl) (by simp only [List.take_succ_cons, List.drop_succ_cons, List.take_zero, List.drop_zero, List.take_nil, List.drop_nil, List.cons_append, List.nil_append, List.append_nil, List.length_cons, List.length_nil, Nat.reduceAdd, Int.toNat_zero, Nat.zero_mul, Nat.add_zero, Nat.zero_add] <;> rfl)) zd ?_
      have qB42 : nx + 1 ≤ BIG := by omega
      refine d_callK qB42 (wA_on rfl rfl zg) rfl rfl rfl (by simp only [evs, ev_tmp, Tr.get_set, reduceIte, Nat.reduceEqDiff, Nat.reduceAdd, he38_3, he38_4, he38_5, he38_21, he38_22, he38_23, he38_29, he38_30, g8] <;> rfl) zd ((tab_miss zd).trans ((tab_miss zd).trans ((tab_miss zd).trans ((tab_miss zd).trans ((tab_miss zd).trans ((tab_miss zd).trans ((tab_miss zd).trans ((tab_miss zd).trans (tab_hit.trans (kept_c (rX.at zd (cfs_free0 h_X) (fun id hid => by (repeat (first | rw [Tr.get_set, if_neg ow] | rw [hx38 _ ow] | rw [hc39 _ ow] | rw [hc17 _ ow])) <;> first | rfl | assumption | (rw [Tr.get_set, if_pos ow]; done) | (rw [Tr.get_set, if_pos ow]; rfl))) h_X rfl (rw.at zd (ints_free0 _) (fun id hid => by (repeat (first | rw [Tr.get_set, if_neg ow] | rw [hx38 _ ow] | rw [hc39 _ ow] | rw [hc17 _ ow])) <;> first | rfl | assumption | (rw [Tr.get_set, if_pos ow]; done) | (rw [Tr.get_set, if_pos ow]; rfl))) (ra.at zd (ints_free0 _) (fun id hid => by (repeat (first | rw [Tr.get_set, if_neg ow] | rw [hx38 _ ow] | rw [hc39 _ ow] | rw [hc17 _ ow])) <;> first | rfl | assumption | (rw [Tr.get_set, if_pos ow]; done) | (rw [Tr.get_set, if_pos ow]; rfl))) (by rw [ok_kept, Bool.and_eq_true, decide_eq_true_eq, decide_eq_true_eq]; exact ⟨hXb3, hwl⟩))))))))))) kept_cp (cfs_len (keptL_cfs h_X)) (take_delD h_X) (delD_len h_X) (fun hn => by have := rX.nil0 hn; have := keptL_len (ws := w) (L := X); omega) (fun vK t42 nx42 xx42 qa42 qb42 hx42 rK xr42 => ?_)
      have qC42 : nx42 ≤ BIG := by omega
      refine d_step (wA_on rfl rfl zg) rfl (x_move rfl za) zd ?_
      refine d_step (wA_on rfl rfl zg) rfl (x_move rfl za) zd ?_
      refine d_step (wA_on rfl rfl zg) rfl (x_index rfl za za Try.underlying27 T.s23 ow ow) zd ?_
      refine d_step (wA_on rfl rfl zg) rfl (x_load1 rfl za T.g23 (l_cell (by (repeat (first | rw [Tr.get_set, if_neg ow] | rw [hx42 _ ow] | rw [hx38 _ ow] | rw [hc39 _ ow] | rw [hc17 _ ow])) <;> first | rfl | assumption | (rw [Tr.get_set, if_pos ow]; done) | (rw [Tr.get_set, if_pos ow]; rfl)) rfl hvX)) zd ?_
      refine d_step (wA_on rfl rfl zg) rfl (x_move rfl za) zd ?_
      refine d_step (wA_on rfl rfl zg) rfl (x_move rfl za) zd ?_
      refine d_step (wA_on rfl rfl zg) rfl (x_index rfl za za Try.underlying63 T.s59 ow ow) zd ?_
      refine d_step (wA_on rfl rfl zg) rfl (x_loadA rfl za T.g59 T.s59 (l_pair (by (repeat (first | rw [Tr.get_set, if_neg ow] | rw [hx42 _ ow] | rw [hx38 _ ow] | rw [hc39 _ ow] | rw [hc17 _ ow])) <;> first | rfl | assumption | (rw [Tr.get_set, if_pos ow]; done) | (rw [Tr.get_set, if_pos ow]; rfl)) rfl hvF).1) zd ?_
      have qB43 : nx42 ≤ BIG := by omega
      refine d_call1 (fun v => v) qB43 (wA_on rfl rfl zg) rfl rfl rfl (by simp only [evs, ev_tmp, Tr.get_set, reduceIte, Nat.reduceEqDiff, Nat.reduceAdd, he38_3, he38_4, he38_5, he38_21, he38_22, he38_23, he38_29, he38_30, g8] <;> rfl) zd ((tab_miss zd).trans ((tab_miss zd).trans ((tab_miss zd).trans ((tab_miss zd).trans ((tab_miss zd).trans ((tab_miss zd).trans ((tab_miss zd).trans ((tab_miss zd).trans ((tab_miss zd).trans (tab_hit.trans (kept33_c (rX.at zd (cfs_free0 h_X) (fun id hid => by (repeat (first | rw [Tr.get_set, if_neg ow] | rw [hx42 _ ow] | rw [hx38 _ ow] | rw [hc39 _ ow] | rw [hc17 _ ow])) <;> first | rfl | assumption | (rw [Tr.get_set, if_pos ow]; done) | (rw [Tr.get_set, if_pos ow]; rfl))) h_X (rw.at zd (ints_free0 _) (fun id hid => by (repeat (first | rw [Tr.get_set, if_neg ow] | rw [hx42 _ ow] | rw [hx38 _ ow] | rw [hc39 _ ow] | rw [hc17 _ ow])) <;> first | rfl | assumption | (rw [Tr.get_set, if_pos ow]; done) | (rw [Tr.get_set, if_pos ow]; rfl))) (ra.at zd (ints_free0 _) (fun id hid => by (repeat (first | rw [Tr.get_set, if_neg ow] | rw [hx42 _ ow] | rw [hx38 _ ow] | rw [hc39 _ ow] | rw [hc17 _ ow])) <;> first | rfl | assumption | (rw [Tr.get_set, if_pos ow]; done) | (rw [Tr.get_set, if_pos ow]; rfl))) (by rw [ok_kept33, Bool.and_eq_true, decide_eq_true_eq, decide_eq_true_eq]; exact ⟨hXb3, hwl⟩)))))))))))) (cfs_len (keptL_cfs h_X)) (fun v43 t43 nx43 xx43 qa43 qb43 hx43 rE hq43 => ?_)
      have qC43 : nx43 ≤ BIG := by omega
      refine d_call0 (wA_on rfl rfl zg) rfl rfl rfl (by simp only [evs, ev_tmp, Tr.get_set, reduceIte, Nat.reduceEqDiff, Nat.reduceAdd, he38_3, he38_4, he38_5, he38_21, he38_22, he38_23, he38_29, he38_30, g8] <;> rfl) zd ?_
      refine ⟨_, _, _, _, ((tab_miss zd).trans ((tab_miss zd).trans ((tab_miss zd).trans ((tab_miss zd).trans ((tab_miss zd).trans ((tab_miss zd).trans ((tab_miss zd).trans ((tab_miss zd).trans ((tab_miss zd).trans ((tab_miss zd).trans (tab_hit.trans (sameAns_cT (rK.at zd (cfs_free0 (keptL_cfs h_X)) (fun id hid => by (repeat (first | rw [Tr.get_set, if_neg ow] | rw [hx43 _ ow] | rw [hx42 _ ow] | rw [hx38 _ ow] | rw [hc39 _ ow] | rw [hc17 _ ow])) <;> first | rfl | assumption | (rw [Tr.get_set, if_pos ow]; done) | (rw [Tr.get_set, if_pos ow]; rfl))) (rE.at zd (cfs_free0 (keptL_cfs h_X)) (fun id hid => by (repeat (first | rw [Tr.get_set, if_neg ow] | rw [hx43 _ ow] | rw [hx42 _ ow] | rw [hx38 _ ow] | rw [hc39 _ ow] | rw [hc17 _ ow])) <;> first | rfl | assumption | (rw [Tr.get_set, if_pos ow]; done) | (rw [Tr.get_set, if_pos ow]; rfl))) (keptL_cfs h_X) (by have := keptL_len (ws := w) (L := X); omega))))))))))))), ?_⟩
      refine d_step (wA_on rfl rfl zg) rfl (x_notT rfl zg) zd ?_
      refine ds (x_pick rfl zg zb) ?_
      refine d_done ⟨de_quiet (by simp only [List.all_append, List.all_cons, List.all_nil, infOf, decide_eq_true hqB, Bool.and_self, decide_eq_true qB42, xr42, decide_eq_true qC42, hq43, decide_eq_true qC43]) (by show _ ≤ BIG; omega) (by show _ ≤ BIG; (repeat refine Nat.le_trans (Nat.min_le_left _ _) ?_); omega), ?_⟩
      refine e_seq ?_
      refine k_nmW (n0 := 4) (by (repeat refine Nat.le_min.2 ⟨?_, by omega⟩); omega) (by (repeat refine Nat.le_trans (Nat.min_le_left _ _) ?_); omega) (fun wW44 wL44 wU44 => ?_)
      refine k_condF zg ?_
      refine k_skip ?_
      refine e_seq ?_
      refine k_seq ?_
      have hqB : nx43 ≤ BIG := by omega
      cases hln : lnOk X uu
      ·skip
       have hqB : nx43 ≤ BIG := by omega
       refine k_draw hP hC zr ?_
       refine ds (x_move rfl za) ?_
       refine ds (x_move rfl za) ?_
       refine ds (x_index rfl za za Try.underlying27 T.s23 ow ow) ?_
       refine ds (x_load1 rfl za T.g23 (l_cell (by (repeat (first | rw [Tr.get_set, if_neg ow] | rw [hx43 _ ow] | rw [hx42 _ ow] | rw [hx38 _ ow] | rw [hc39 _ ow] | rw [hc17 _ ow])) <;> first | rfl | assumption | (rw [Tr.get_set, if_pos ow]; done) | (rw [Tr.get_set, if_pos ow]; rfl)) rfl hvX)) ?_
       refine ds (x_move rfl za) ?_
       refine ds (x_loadA' rfl za T.g56 T.s56 (by (repeat (first | rw [Tr.get_set, if_neg ow] | rw [hx43 _ ow] | rw [hx42 _ ow] | rw [hx38 _ ow] | rw [hc39 _ ow] | rw [hc17 _ ow])) <;> first | rfl | assumption | (rw [Tr.get_set, if_pos ow]; done) | (rw [Tr.get_set, if_pos ow]; rfl)) rfl (Nat.le_of_ble_eq_true rfl) (by simp only [List.take_succ_cons, List.drop_succ_cons, List.take_zero, List.drop_zero, List.take_nil, List.drop_nil, List.cons_append, List.nil_append, List.append_nil, List.length_cons, List.length_nil, Nat.reduceAdd, Int.toNat_zero, Nat.zero_mul, Nat.add_zero, Nat.zero_add] <;> rfl)) ?_
       refine d_call0 (wA_none rfl) rfl rfl rfl (by simp only [evs, ev_tmp, Tr.get_set, reduceIte, Nat.reduceEqDiff, Nat.reduceAdd, he38_3, he38_4, he38_5, he38_21, he38_22, he38_23, he38_29, he38_30, g8] <;> rfl) zd ?_
       refine ⟨_, _, _, _, ((tab_miss zd).trans ((tab_miss zd).trans ((tab_miss zd).trans ((tab_miss zd).trans ((tab_miss zd).trans ((tab_miss zd).trans ((tab_miss zd).trans ((tab_miss zd).trans ((tab_miss zd).trans ((tab_miss zd).trans ((tab_miss zd).trans (tab_hit.trans (leans_cN (rX.at zd (cfs_free0 h_X) (fun id hid => by (repeat (first | rw [Tr.get_set, if_neg ow] | rw [hx43 _ ow] | rw [hx42 _ ow] | rw [hx38 _ ow] | rw [hc39 _ ow] | rw [hc17 _ ow])) <;> first | rfl | assumption | (rw [Tr.get_set, if_pos ow]; done) | (rw [Tr.get_set, if_pos ow]; rfl))) h_X (y6.at zd (ints_free0 _) (fun id hid => by (repeat (first | rw [Tr.get_set, if_neg ow] | rw [hx43 _ ow] | rw [hx42 _ ow] | rw [hx38 _ ow] | rw [hc39 _ ow] | rw [hc17 _ ow])) <;> first | rfl | assumption | (rw [Tr.get_set, if_pos ow]; done) | (rw [Tr.get_set, if_pos ow]; rfl))) (rw.at zd (ints_free0 _) (fun id hid => by (repeat (first | rw [Tr.get_set, if_neg ow] | rw [hx43 _ ow] | rw [hx42 _ ow] | rw [hx38 _ ow] | rw [hc39 _ ow] | rw [hc17 _ ow])) <;> first | rfl | assumption | (rw [Tr.get_set, if_pos ow]; done) | (rw [Tr.get_set, if_pos ow]; rfl))) (ra.at zd (ints_free0 _) (fun id hid => by (repeat (first | rw [Tr.get_set, if_neg ow] | rw [hx43 _ ow] | rw [hx42 _ ow] | rw [hx38 _ ow] | rw [hc39 _ ow] | rw [hc17 _ ow])) <;> first | rfl | assumption | (rw [Tr.get_set, if_pos ow]; done) | (rw [Tr.get_set, if_pos ow]; rfl))) hXb3 huu hwl hln))))))))))))), ?_⟩
       refine ds (x_move rfl za) ?_
       refine ds (x_extract rfl za rfl) ?_
       refine ds (x_extract rfl za rfl) ?_
       refine ds (x_assign rfl za) ?_
       refine ds (x_assign rfl za) ?_
       refine d_done ⟨de_quiet (by simp only [List.all_append, List.all_cons, List.all_nil, infOf, decide_eq_true hqB, Bool.and_self]) (by show _ ≤ BIG; omega) (by show _ ≤ BIG; (repeat refine Nat.le_trans (Nat.min_le_left _ _) ?_); omega), ?_⟩
       refine e_seq ?_
       refine k_nmW (n0 := 4) (by (repeat refine Nat.le_min.2 ⟨?_, by omega⟩); omega) (by (repeat refine Nat.le_trans (Nat.min_le_left _ _) ?_); omega) (fun wW45 wL45 wU45 => ?_)
       refine k_seq ?_
       have hqB : nx43 ≤ BIG := by omega
       refine k_draw hP hC zr ?_
       refine ds (x_move rfl za) ?_
       refine ds (x_move rfl za) ?_
       refine ds (x_index rfl za za Try.underlying27 T.s23 ow ow) ?_
       refine ds (x_load1 rfl za T.g23 (l_cell (by (repeat (first | rw [Tr.get_set, if_neg ow] | rw [hx43 _ ow] | rw [hx42 _ ow] | rw [hx38 _ ow] | rw [hc39 _ ow] | rw [hc17 _ ow])) <;> first | rfl | assumption | (rw [Tr.get_set, if_pos ow]; done) | (rw [Tr.get_set, if_pos ow]; rfl)) rfl hvX)) ?_
       refine ds (x_move rfl za) ?_
       refine ds (x_move rfl za) ?_
       refine ds (x_move rfl za) ?_
       refine ds (x_index rfl za za Try.underlying63 T.s59 ow ow) ?_
       refine ds (x_loadA rfl za T.g59 T.s59 (l_pair (by (repeat (first | rw [Tr.get_set, if_neg ow] | rw [hx43 _ ow] | rw [hx42 _ ow] | rw [hx38 _ ow] | rw [hc39 _ ow] | rw [hc17 _ ow])) <;> first | rfl | assumption | (rw [Tr.get_set, if_pos ow]; done) | (rw [Tr.get_set, if_pos ow]; rfl)) rfl hvF).1) ?_
       refine d_call0 (wA_none rfl) rfl rfl rfl (by simp only [evs, ev_tmp, Tr.get_set, reduceIte, Nat.reduceEqDiff, Nat.reduceAdd, he38_3, he38_4, he38_5, he38_21, he38_22, he38_23, he38_29, he38_30, g8] <;> rfl) zd ?_
       refine ⟨_, _, _, _, ((tab_miss zd).trans ((tab_miss zd).trans ((tab_miss zd).trans ((tab_miss zd).trans ((tab_miss zd).trans ((tab_miss zd).trans ((tab_miss zd).trans ((tab_miss zd).trans ((tab_miss zd).trans ((tab_miss zd).trans ((tab_miss zd).trans ((tab_miss zd).trans (tab_hit.trans (leans33_cN (rX.at zd (cfs_free0 h_X) (fun id hid => by (repeat (first | rw [Tr.get_set, if_neg ow] | rw [hx43 _ ow] | rw [hx42 _ ow] | rw [hx38 _ ow] | rw [hc39 _ ow] | rw [hc17 _ ow])) <;> first | rfl | assumption | (rw [Tr.get_set, if_pos ow]; done) | (rw [Tr.get_set, if_pos ow]; rfl))) h_X (y6.at zd (ints_free0 _) (fun id hid => by (repeat (first | rw [Tr.get_set, if_neg ow] | rw [hx43 _ ow] | rw [hx42 _ ow] | rw [hx38 _ ow] | rw [hc39 _ ow] | rw [hc17 _ ow])) <;> first | rfl | assumption | (rw [Tr.get_set, if_pos ow]; done) | (rw [Tr.get_set, if_pos ow]; rfl))) (rw.at zd (ints_free0 _) (fun id hid => by (repeat (first | rw [Tr.get_set, if_neg ow] | rw [hx43 _ ow] | rw [hx42 _ ow] | rw [hx38 _ ow] | rw [hc39 _ ow] | rw [hc17 _ ow])) <;> first | rfl | assumption | (rw [Tr.get_set, if_pos ow]; done) | (rw [Tr.get_set, if_pos ow]; rfl))) (ra.at zd (ints_free0 _) (fun id hid => by (repeat (first | rw [Tr.get_set, if_neg ow] | rw [hx43 _ ow] | rw [hx42 _ ow] | rw [hx38 _ ow] | rw [hc39 _ ow] | rw [hc17 _ ow])) <;> first | rfl | assumption | (rw [Tr.get_set, if_pos ow]; done) | (rw [Tr.get_set, if_pos ow]; rfl))) hXb3 huu hwl hln)))))))))))))), ?_⟩
       refine ds (x_move rfl za) ?_
       refine ds (x_extract rfl za rfl) ?_
       refine ds (x_extract rfl za rfl) ?_
       refine ds (x_assign rfl za) ?_
       refine ds (x_assign rfl za) ?_
       refine d_done ⟨de_quiet (by simp only [List.all_append, List.all_cons, List.all_nil, infOf, decide_eq_true hqB, Bool.and_self]) (by show _ ≤ BIG; omega) (by show _ ≤ BIG; (repeat refine Nat.le_trans (Nat.min_le_left _ _) ?_); omega), ?_⟩
       refine e_seq ?_
       refine k_nmW (n0 := 4) (by (repeat refine Nat.le_min.2 ⟨?_, by omega⟩); omega) (by (repeat refine Nat.le_trans (Nat.min_le_left _ _) ?_); omega) (fun wW46 wL46 wU46 => ?_)
       refine k_seq ?_
       refine k_region hP hC ?_
       refine os (x_move rfl za) ?_
       refine os (x_move rfl za) ?_
       refine os (x_bin (u := .bool false) rfl za za (by rw [b_neq]; rfl)) ?_
       refine os (x_move rfl za) ?_
       refine o_step (wA_on rfl rfl zg) rfl (x_move rfl za) zd ?_
       refine o_step (wA_on rfl rfl zg) rfl (x_move rfl za) zd ?_
       refine o_call0 (wA_on rfl rfl zg) rfl rfl rfl (by simp only [evs, ev_tmp, Tr.get_set, reduceIte, Nat.reduceEqDiff, Nat.reduceAdd, he38_3, he38_4, he38_5, he38_21, he38_22, he38_23, he38_29, he38_30, g8] <;> rfl) zd ?_
       refine ⟨_, _, ((tab_miss zd).trans ((tab_miss zd).trans ((tab_miss zd).trans ((tab_miss zd).trans ((tab_miss zd).trans ((tab_miss zd).trans ((tab_miss zd).trans ((tab_miss zd).trans ((tab_miss zd).trans ((tab_miss zd).trans ((tab_miss zd).trans ((tab_miss zd).trans ((tab_miss zd).trans (tab_hit.trans (same01_cT (l := []) (m := []) (rd_nil (k := 1)) (rd_nil (k := 1)) zd rfl))))))))))))))), ?_⟩
       refine o_step (wA_on rfl rfl zg) rfl (x_notT rfl zg) zd ?_
       refine os (x_pick rfl zg zb) ?_
       refine o_done ?_
       refine e_seq ?_
       refine k_condF zg ?_
       refine k_skip ?_
       refine e_block ?_
       refine e_seq ?_
       refine k_region hP hC ?_
       refine os (x_move rfl za) ?_
       refine os (x_bin rfl za (by rfl) b_add) ?_
       refine os (x_assign rfl za) ?_
       refine o_done ?_
       refine e_loop ?_
       have hw1 : IntKind.i64.wrap (k + 1) = k + 1 := wr1 ow ow
       refine ⟨IntKind.i64.wrap (k + 1), ⟨_, _, _, _, rfl, za, za, za, za, za, za, za, za, by rw [hw1]; omega, by rw [hw1]; omega, by omega, by rw [hw1]; omega, by omega, by omega, fun id hid => by (repeat (first | rw [Tr.get_set, if_neg ow] | rw [hx43 _ ow] | rw [hx42 _ ow] | rw [hx38 _ ow] | rw [hc39 _ ow] | rw [hc17 _ ow])) <;> first | rfl | assumption | (rw [Tr.get_set, if_pos ow]; done) | (rw [Tr.get_set, if_pos ow]; rfl)⟩, ?_⟩
       ·show (4 - IntKind.i64.wrap (k + 1)).toNat < (4 - k).toNat; rw [hw1]; omega
      ·skip
       have hqB : nx43 ≤ BIG := by omega
       refine k_draw hP hC zr ?_
       refine ds (x_move rfl za) ?_
       refine ds (x_move rfl za) ?_
       refine ds (x_index rfl za za Try.underlying27 T.s23 ow ow) ?_
       refine ds (x_load1 rfl za T.g23 (l_cell (by (repeat (first | rw [Tr.get_set, if_neg ow] | rw [hx43 _ ow] | rw [hx42 _ ow] | rw [hx38 _ ow] | rw [hc39 _ ow] | rw [hc17 _ ow])) <;> first | rfl | assumption | (rw [Tr.get_set, if_pos ow]; done) | (rw [Tr.get_set, if_pos ow]; rfl)) rfl hvX)) ?_
       refine ds (x_move rfl za) ?_
       refine ds (x_loadA' rfl za T.g56 T.s56 (by (repeat (first | rw [Tr.get_set, if_neg ow] | rw [hx43 _ ow] | rw [hx42 _ ow] | rw [hx38 _ ow] | rw [hc39 _ ow] | rw [hc17 _ ow])) <;> first | rfl | assumption | (rw [Tr.get_set, if_pos ow]; done) | (rw [Tr.get_set, if_pos ow]; rfl)) rfl (Nat.le_of_ble_eq_true rfl) (by simp only [List.take_succ_cons, List.drop_succ_cons, List.take_zero, List.drop_zero, List.take_nil, List.drop_nil, List.cons_append, List.nil_append, List.append_nil, List.length_cons, List.length_nil, Nat.reduceAdd, Int.toNat_zero, Nat.zero_mul, Nat.add_zero, Nat.zero_add] <;> rfl)) ?_
       have qB47 : nx43 ≤ BIG := by omega
       refine d_call1 (fun v => .tuple ⟨[v, .int .i64 0]⟩) qB47 (wA_none rfl) rfl rfl rfl (by simp only [evs, ev_tmp, Tr.get_set, reduceIte, Nat.reduceEqDiff, Nat.reduceAdd, he38_3, he38_4, he38_5, he38_21, he38_22, he38_23, he38_29, he38_30, g8] <;> rfl) zd ((tab_miss zd).trans ((tab_miss zd).trans ((tab_miss zd).trans ((tab_miss zd).trans ((tab_miss zd).trans ((tab_miss zd).trans ((tab_miss zd).trans ((tab_miss zd).trans ((tab_miss zd).trans ((tab_miss zd).trans ((tab_miss zd).trans (tab_hit.trans (leans_cY (rX.at zd (cfs_free0 h_X) (fun id hid => by (repeat (first | rw [Tr.get_set, if_neg ow] | rw [hx43 _ ow] | rw [hx42 _ ow] | rw [hx38 _ ow] | rw [hc39 _ ow] | rw [hc17 _ ow])) <;> first | rfl | assumption | (rw [Tr.get_set, if_pos ow]; done) | (rw [Tr.get_set, if_pos ow]; rfl))) h_X (y6.at zd (ints_free0 _) (fun id hid => by (repeat (first | rw [Tr.get_set, if_neg ow] | rw [hx43 _ ow] | rw [hx42 _ ow] | rw [hx38 _ ow] | rw [hc39 _ ow] | rw [hc17 _ ow])) <;> first | rfl | assumption | (rw [Tr.get_set, if_pos ow]; done) | (rw [Tr.get_set, if_pos ow]; rfl))) (rw.at zd (ints_free0 _) (fun id hid => by (repeat (first | rw [Tr.get_set, if_neg ow] | rw [hx43 _ ow] | rw [hx42 _ ow] | rw [hx38 _ ow] | rw [hc39 _ ow] | rw [hc17 _ ow])) <;> first | rfl | assumption | (rw [Tr.get_set, if_pos ow]; done) | (rw [Tr.get_set, if_pos ow]; rfl))) (ra.at zd (ints_free0 _) (fun id hid => by (repeat (first | rw [Tr.get_set, if_neg ow] | rw [hx43 _ ow] | rw [hx42 _ ow] | rw [hx38 _ ow] | rw [hc39 _ ow] | rw [hc17 _ ow])) <;> first | rfl | assumption | (rw [Tr.get_set, if_pos ow]; done) | (rw [Tr.get_set, if_pos ow]; rfl))) hXb3 huu hwl hln))))))))))))) intsLen (fun v47 t47 nx47 xx47 qa47 qb47 hx47 rI hq47 => ?_)
       have qC47 : nx47 ≤ BIG := by omega
       refine ds (x_move rfl za) ?_
       refine ds (x_extract rfl za rfl) ?_
       refine ds (x_extract rfl za rfl) ?_
       refine ds (x_assign rfl za) ?_
       refine ds (x_assign rfl za) ?_
       refine d_done ⟨de_quiet (by simp only [List.all_append, List.all_cons, List.all_nil, infOf, decide_eq_true hqB, Bool.and_self, hq47, decide_eq_true qC47]) (by show _ ≤ BIG; omega) (by show _ ≤ BIG; (repeat refine Nat.le_trans (Nat.min_le_left _ _) ?_); omega), ?_⟩
       refine e_seq ?_
       refine k_nmW (n0 := 4) (by (repeat refine Nat.le_min.2 ⟨?_, by omega⟩); omega) (by (repeat refine Nat.le_trans (Nat.min_le_left _ _) ?_); omega) (fun wW48 wL48 wU48 => ?_)
       refine k_seq ?_
       have hqB : nx47 ≤ BIG := by omega
       refine k_draw hP hC zr ?_
       refine ds (x_move rfl za) ?_
       refine ds (x_move rfl za) ?_
       refine ds (x_index rfl za za Try.underlying27 T.s23 ow ow) ?_
       refine ds (x_load1 rfl za T.g23 (l_cell (by (repeat (first | rw [Tr.get_set, if_neg ow] | rw [hx47 _ ow] | rw [hx43 _ ow] | rw [hx42 _ ow] | rw [hx38 _ ow] | rw [hc39 _ ow] | rw [hc17 _ ow])) <;> first | rfl | assumption | (rw [Tr.get_set, if_pos ow]; done) | (rw [Tr.get_set, if_pos ow]; rfl)) rfl hvX)) ?_
       refine ds (x_move rfl za) ?_
       refine ds (x_move rfl za) ?_
       refine ds (x_move rfl za) ?_
       refine ds (x_index rfl za za Try.underlying63 T.s59 ow ow) ?_
       refine ds (x_loadA rfl za T.g59 T.s59 (l_pair (by (repeat (first | rw [Tr.get_set, if_neg ow] | rw [hx47 _ ow] | rw [hx43 _ ow] | rw [hx42 _ ow] | rw [hx38 _ ow] | rw [hc39 _ ow] | rw [hc17 _ ow])) <;> first | rfl | assumption | (rw [Tr.get_set, if_pos ow]; done) | (rw [Tr.get_set, if_pos ow]; rfl)) rfl hvF).1) ?_
       have qB49 : nx47 ≤ BIG := by omega
       refine d_call1 (fun v => .tuple ⟨[v, .int .i64 0]⟩) qB49 (wA_none rfl) rfl rfl rfl (by simp only [evs, ev_tmp, Tr.get_set, reduceIte, Nat.reduceEqDiff, Nat.reduceAdd, he38_3, he38_4, he38_5, he38_21, he38_22, he38_23, he38_29, he38_30, g8] <;> rfl) zd ((tab_miss zd).trans ((tab_miss zd).trans ((tab_miss zd).trans ((tab_miss zd).trans ((tab_miss zd).trans ((tab_miss zd).trans ((tab_miss zd).trans ((tab_miss zd).trans ((tab_miss zd).trans ((tab_miss zd).trans ((tab_miss zd).trans ((tab_miss zd).trans (tab_hit.trans (leans33_cY (rX.at zd (cfs_free0 h_X) (fun id hid => by (repeat (first | rw [Tr.get_set, if_neg ow] | rw [hx47 _ ow] | rw [hx43 _ ow] | rw [hx42 _ ow] | rw [hx38 _ ow] | rw [hc39 _ ow] | rw [hc17 _ ow])) <;> first | rfl | assumption | (rw [Tr.get_set, if_pos ow]; done) | (rw [Tr.get_set, if_pos ow]; rfl))) h_X (y6.at zd (ints_free0 _) (fun id hid => by (repeat (first | rw [Tr.get_set, if_neg ow] | rw [hx47 _ ow] | rw [hx43 _ ow] | rw [hx42 _ ow] | rw [hx38 _ ow] | rw [hc39 _ ow] | rw [hc17 _ ow])) <;> first | rfl | assumption | (rw [Tr.get_set, if_pos ow]; done) | (rw [Tr.get_set, if_pos ow]; rfl))) (rw.at zd (ints_free0 _) (fun id hid => by (repeat (first | rw [Tr.get_set, if_neg ow] | rw [hx47 _ ow] | rw [hx43 _ ow] | rw [hx42 _ ow] | rw [hx38 _ ow] | rw [hc39 _ ow] | rw [hc17 _ ow])) <;> first | rfl | assumption | (rw [Tr.get_set, if_pos ow]; done) | (rw [Tr.get_set, if_pos ow]; rfl))) (ra.at zd (ints_free0 _) (fun id hid => by (repeat (first | rw [Tr.get_set, if_neg ow] | rw [hx47 _ ow] | rw [hx43 _ ow] | rw [hx42 _ ow] | rw [hx38 _ ow] | rw [hc39 _ ow] | rw [hc17 _ ow])) <;> first | rfl | assumption | (rw [Tr.get_set, if_pos ow]; done) | (rw [Tr.get_set, if_pos ow]; rfl))) hXb3 huu hwl hln)))))))))))))) intsLen (fun v49 t49 nx49 xx49 qa49 qb49 hx49 rJ hq49 => ?_)
       have qC49 : nx49 ≤ BIG := by omega
       refine ds (x_move rfl za) ?_
       refine ds (x_extract rfl za rfl) ?_
       refine ds (x_extract rfl za rfl) ?_
       refine ds (x_assign rfl za) ?_
       refine ds (x_assign rfl za) ?_
       refine d_done ⟨de_quiet (by simp only [List.all_append, List.all_cons, List.all_nil, infOf, decide_eq_true hqB, Bool.and_self, hq49, decide_eq_true qC49]) (by show _ ≤ BIG; omega) (by show _ ≤ BIG; (repeat refine Nat.le_trans (Nat.min_le_left _ _) ?_); omega), ?_⟩
       refine e_seq ?_
       refine k_nmW (n0 := 4) (by (repeat refine Nat.le_min.2 ⟨?_, by omega⟩); omega) (by (repeat refine Nat.le_trans (Nat.min_le_left _ _) ?_); omega) (fun wW50 wL50 wU50 => ?_)
       refine k_seq ?_
       refine k_region hP hC ?_
       refine os (x_move rfl za) ?_
       refine os (x_move rfl za) ?_
       refine os (x_bin (u := .bool false) rfl za za (by rw [b_neq]; rfl)) ?_
       refine os (x_move rfl za) ?_
       refine o_step (wA_on rfl rfl zg) rfl (x_move rfl za) zd ?_
       refine o_step (wA_on rfl rfl zg) rfl (x_move rfl za) zd ?_
       refine o_call0 (wA_on rfl rfl zg) rfl rfl rfl (by simp only [evs, ev_tmp, Tr.get_set, reduceIte, Nat.reduceEqDiff, Nat.reduceAdd, he38_3, he38_4, he38_5, he38_21, he38_22, he38_23, he38_29, he38_30, g8] <;> rfl) zd ?_
       refine ⟨_, _, ((tab_miss zd).trans ((tab_miss zd).trans ((tab_miss zd).trans ((tab_miss zd).trans ((tab_miss zd).trans ((tab_miss zd).trans ((tab_miss zd).trans ((tab_miss zd).trans ((tab_miss zd).trans ((tab_miss zd).trans ((tab_miss zd).trans ((tab_miss zd).trans ((tab_miss zd).trans (tab_hit.trans (same01_cT (rI.at zd (ints_free0 _) (fun id hid => by (repeat (first | rw [Tr.get_set, if_neg ow] | rw [hx49 _ ow] | rw [hx47 _ ow] | rw [hx43 _ ow] | rw [hx42 _ ow] | rw [hx38 _ ow] | rw [hc39 _ ow] | rw [hc17 _ ow])) <;> first | rfl | assumption | (rw [Tr.get_set, if_pos ow]; done) | (rw [Tr.get_set, if_pos ow]; rfl))) (rJ.at zd (ints_free0 _) (fun id hid => by (repeat (first | rw [Tr.get_set, if_neg ow] | rw [hx49 _ ow] | rw [hx47 _ ow] | rw [hx43 _ ow] | rw [hx42 _ ow] | rw [hx38 _ ow] | rw [hc39 _ ow] | rw [hc17 _ ow])) <;> first | rfl | assumption | (rw [Tr.get_set, if_pos ow]; done) | (rw [Tr.get_set, if_pos ow]; rfl))) (by have := @lnF_len X w uu; omega) rfl))))))))))))))), ?_⟩
       refine o_step (wA_on rfl rfl zg) rfl (x_notT rfl zg) zd ?_
       refine os (x_pick rfl zg zb) ?_
       refine o_done ?_
       refine e_seq ?_
       refine k_condF zg ?_
       refine k_skip ?_
       refine e_block ?_
       refine e_seq ?_
       refine k_region hP hC ?_
       refine os (x_move rfl za) ?_
       refine os (x_bin rfl za (by rfl) b_add) ?_
       refine os (x_assign rfl za) ?_
       refine o_done ?_
       refine e_loop ?_
       have hw1 : IntKind.i64.wrap (k + 1) = k + 1 := wr1 ow ow
       refine ⟨IntKind.i64.wrap (k + 1), ⟨_, _, _, _, rfl, za, za, za, za, za, za, za, za, by rw [hw1]; omega, by rw [hw1]; omega, by omega, by rw [hw1]; omega, by omega, by omega, fun id hid => by (repeat (first | rw [Tr.get_set, if_neg ow] | rw [hx49 _ ow] | rw [hx47 _ ow] | rw [hx43 _ ow] | rw [hx42 _ ow] | rw [hx38 _ ow] | rw [hc39 _ ow] | rw [hc17 _ ow])) <;> first | rfl | assumption | (rw [Tr.get_set, if_pos ow]; done) | (rw [Tr.get_set, if_pos ow]; rfl)⟩, ?_⟩
       ·show (4 - IntKind.i64.wrap (k + 1)).toNat < (4 - k).toNat; rw [hw1]; omega
     ·have p8 := g8; try simp only [d1, d2, d3, d4, d5, d6, d7, d8, d9] at p8
      refine k_exit ?_
      refine e_seq_exit ?_
      refine e_loop_exit ?_
      refine e_block_eq ?_
      refine e_block ?_
      refine e_seq ?_
      refine k_region hP hC ?_
      refine os (x_move rfl za) ?_
      refine os (x_bin rfl za (by rfl) b_add) ?_
      refine os (x_assign rfl za) ?_
      refine o_done ?_
      refine e_loop ?_
      have hw2 : IntKind.i64.wrap (i + 1) = i + 1 := wr1 ow ow
      refine ⟨IntKind.i64.wrap (i + 1), ⟨_, _, _, _, rfl, za, za, za, za, za, za, by rw [hw2]; omega, by rw [hw2]; omega, by omega, by rw [hw2]; omega, by omega, by omega, fun id hid => by (repeat (first | rw [Tr.get_set, if_neg ow] | rw [hx38 _ ow] | rw [hc39 _ ow] | rw [hc17 _ ow])) <;> first | rfl | assumption | (rw [Tr.get_set, if_pos ow]; done) | (rw [Tr.get_set, if_pos ow]; rfl)⟩, ?_⟩
      ·show (4 - IntKind.i64.wrap (i + 1)).toNat < (4 - i).toNat; rw [hw2]; omega
   ·have p4 := g4; try simp only [d1, d2, d3, d4, d5, d6, d7, d8, d9] at p4
    refine k_exit ?_
    refine e_seq_exit ?_
    refine e_loop_exit ?_
    refine e_block_eq ?_
    refine e_seq ?_
    refine k_seq ?_
    refine k_region hP hC ?_
    refine o_call0 (wA_none rfl) rfl rfl rfl (by simp only [evs, ev_tmp, Tr.get_set, reduceIte, Nat.reduceEqDiff, Nat.reduceAdd, he16_3, he16_4, he16_5, he16_21, he16_22, he16_23, g4] <;> rfl) zd ?_
    refine ⟨_, _, ((tab_miss zd).trans ((tab_miss zd).trans ((tab_miss zd).trans ((tab_miss zd).trans ((tab_miss zd).trans ((tab_miss zd).trans ((tab_miss zd).trans ((tab_miss zd).trans ((tab_miss zd).trans ((tab_miss zd).trans ((tab_miss zd).trans ((tab_miss zd).trans ((tab_miss zd).trans ((tab_miss zd).trans (tab_hit.trans lives_c))))))))))))))), ?_⟩
    refine os (x_assign rfl za) ?_
    refine o_done ?_
    refine e_seq ?_
    refine k_ret ?_
    exact gives_mk2 (L := [0, 1, 2, 3]) (w := 4) (.inr rfl) gcOk_four (by simp only [Try.results4, resA, Tr.get_set, reduceIte, Nat.reduceEqDiff, Nat.reduceAdd, he16_3, he16_4, he16_5, he16_21, he16_22, he16_23, g4] <;> rfl) (by rfl) (gcH_cons (gcO_old (by simp only [Bool.and_eq_true, Nat.blt_eq]; exact ⟨by show _ < 4; decide, by show _ < _; omega⟩) (by (repeat (first | rw [Tr.get_set, if_neg ow] | rw [hx16 _ ow] | rw [hc17 _ ow])) <;> first | rfl | assumption | (rw [Tr.get_set, if_pos ow]; done) | (rw [Tr.get_set, if_pos ow]; rfl))) (gcH_cons (gcO_old (by simp only [Bool.and_eq_true, Nat.blt_eq]; exact ⟨by show _ < 4; decide, by show _ < _; omega⟩) (by (repeat (first | rw [Tr.get_set, if_neg ow] | rw [hx16 _ ow] | rw [hc17 _ ow])) <;> first | rfl | assumption | (rw [Tr.get_set, if_pos ow]; done) | (rw [Tr.get_set, if_pos ow]; rfl))) (gcH_cons (gcO_old (by simp only [Bool.and_eq_true, Nat.blt_eq]; exact ⟨by show _ < 4; decide, by show _ < _; omega⟩) (by (repeat (first | rw [Tr.get_set, if_neg ow] | rw [hx16 _ ow] | rw [hc17 _ ow])) <;> first | rfl | assumption | (rw [Tr.get_set, if_pos ow]; done) | (rw [Tr.get_set, if_pos ow]; rfl))) (gcH_cons (gcO_old (by simp only [Bool.and_eq_true, Nat.blt_eq]; exact ⟨by show _ < 4; decide, by show _ < _; omega⟩) (by (repeat (first | rw [Tr.get_set, if_neg ow] | rw [hx16 _ ow] | rw [hc17 _ ow])) <;> first | rfl | assumption | (rw [Tr.get_set, if_pos ow]; done) | (rw [Tr.get_set, if_pos ow]; rfl))) gcH_nil)))) (Nat.ble_eq_true_of_le (by first | omega | (dsimp only; omega)))
end Go.Proofs.Ytohhcnehcjpekaa
