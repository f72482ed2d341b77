/-
  The law TrustClashes: her walk.
-/
import Derived.Test.YtohhcnehcjpekaaCLc
namespace Go.Proofs.Ytohhcnehcjpekaa
open Go.AM
set_option maxRecDepth 100000
set_option maxHeartbeats 1000000
set_option linter.unusedSimpArgs false
set_option linter.unusedVariables false
def ok_clashlaw (l : List Int) (bits : Int) (forgers : Int) (raw : List (List Value)) : Bool := decide (inR bits) && decide (inR forgers) && decide (l.all (fun n => decide (inR n)) = true) && decide (l.length < 4611686018427387904) && decide (raw.length < 4611686018427387904)
def val_clashlaw (l : List Int) (bits : Int) (forgers : Int) (raw : List (List Value)) : Value := .bool true
def new_clashlaw (l : List Int) (bits : Int) (forgers : Int) (raw : List (List Value)) : List (List Value) := []
theorem clashlaw_m {s_l : Value} {s_raw : Value} {l : List Int} {bits : Int} {forgers : Int} {raw : List (List Value)} (hs_l : Sl 0 1 l.length s_l) (hs_raw : Sl 1 46 raw.length s_raw) (h_raw : cfs T.K43 raw) (hok : ok_clashlaw l bits forgers raw = true) : Meets Try.prog (.func 3) [s_l, .int .i64 bits, .int .i64 forgers, s_raw] (cheap [ints l, raw.flatten]) (val_clashlaw l bits forgers raw) (rheap [ints l, raw.flatten] (new_clashlaw l bits forgers raw)) := by
 have hP := Fits
 have hC : CallSound Try.prog (tabOf [(8, c_made), (14, c_around), (10, c_clashes), (11, c_clashes33), (9, c_samePairs), (12, c_clash), (13, c_clash33), (16, c_agreed), (17, c_agreed33), (15, c_sameAns), (18, c_least), (19, c_least33), (20, c_same01), (21, c_lives)]) := tab_sound (tab_cons con_made (tab_cons con_around (tab_cons con_clashes (tab_cons con_clashes33 (tab_cons con_samePairs (tab_cons con_clash (tab_cons con_clash33 (tab_cons con_agreed (tab_cons con_agreed33 (tab_cons con_sameAns (tab_cons con_least (tab_cons con_least33 (tab_cons con_same01 (tab_cons con_lives tab_end))))))))))))))
 simp only [ok_clashlaw, Bool.and_eq_true, decide_eq_true_eq] at hok
 obtain ⟨⟨⟨⟨hbt, hfg⟩, hl⟩, hlb⟩, hrb⟩ := hok
 obtain ⟨A, hA⟩ : ∃ A, A = mkA l bits (min (l.length : Int) 14) := ⟨_, rfl⟩
 obtain ⟨R, hR⟩ : ∃ R, R = mkR l (min (l.length : Int) 14) := ⟨_, rfl⟩
 have hMk : Mk A R := by rw [hA, hR]; exact Mk.made
 have h_A := hMk.cfA
 have h_R := hMk.cfR
 have hAl := hMk.len
 have hA14 : A.length ≤ 14 := by rw [hA, mkA_len]; omega
 obtain ⟨m, hmm⟩ : ∃ m : Int, m = min (raw.length : Int) 6 := ⟨_, rfl⟩
 have hm0 : 0 ≤ m := by omega
 have hm1 : m ≤ raw.length := by omega
 have hm6 : m ≤ 6 := by omega
 obtain ⟨B, hB⟩ : ∃ B, B = A ++ raw.take m.toNat := ⟨_, rfl⟩
 have hBl : B.length = A.length + m.toNat := by rw [hB, List.length_append, List.length_take, Nat.min_eq_left (by omega)]
 have hBb : B.length ≤ 20 := by omega
 have h_B : cfs T.K43 B := by rw [hB]; exact cfs_append h_A (cfs_take h_raw)
 obtain ⟨Z, hZ⟩ : ∃ Z : Int, Z = around forgers 5 - 1 := ⟨_, rfl⟩
 have hZ0 := around_lo (n := forgers) (m := 5) (by decide)
 have hZ1 := around_hi (n := forgers) (m := 5) (by decide)
 have hB0 : 100000 ≤ BIG := by unfold BIG; omega
 refine meets_start (sz := 148) hP Try.func3 rfl rfl zo (by simp only [Tr.ofList, roRows, Nat.zero_add, Nat.reduceAdd] <;> rfl) zl ?_
 skip
 ·skip
  refine k_seq ?_
  refine k_region hP hC ?_
  refine os (x_assign rfl (by rfl)) ?_
  refine o_done ?_
  refine e_seq ?_
  refine k_seq ?_
  refine k_region hP hC ?_
  refine os (x_move rfl zt) ?_
  refine os (x_move rfl zt) ?_
  refine o_call2 (fun v w => .tuple ⟨[v, w]⟩) (wA_none rfl) rfl rfl rfl zv (by decide) (tab_hit.trans (made_cE hA hR (rd_sl hs_l (by decide) (whole_row (by (repeat (first | rw [Tr.get_set, if_neg (by omega)])) <;> first | rfl | assumption | (rw [Tr.get_set, if_pos (by omega)]; done) | (rw [Tr.get_set, if_pos (by omega)]; rfl)) rfl) (by rw [ints_len, Nat.mul_one]) (ints_free0 _)) (by simp only [ok_made, Bool.and_eq_true, decide_eq_true_eq]; exact ⟨⟨⟨⟨by decide, by decide⟩, hbt⟩, hl⟩, hlb⟩))) hAl.symm (cfs_len h_A) (by rw [hAl]; exact cfs_len h_R) (fun v1 w1 t1 nx1 qa1 qb1 hx1 rA rR => ?_)
  refine os (x_move rfl zt) ?_
  refine os (x_extract rfl zt rfl) ?_
  refine os (x_extract rfl zt rfl) ?_
  refine os (x_assign rfl zt) ?_
  refine os (x_assign rfl zt) ?_
  refine o_done ?_
  refine e_seq ?_
  refine k_seq ?_
  have hqB : nx1 ≤ BIG := by omega
  refine k_nm (fun tS2 nS2 qS2 hxS2 => ?_)
  have rA0 := rA
  clear rA
  have rA : RdS tS2 nS2 46 v1 A.length A.flatten := rA0.keep (by omega) (fun id hid => by (repeat (first | rw [Tr.get_set, if_neg (by omega)] | rw [hxS2 _ (by omega)] | rw [hx1 _ (by omega)])) <;> first | rfl | assumption | (rw [Tr.get_set, if_pos (by omega)]; done) | (rw [Tr.get_set, if_pos (by omega)]; rfl))
  clear rA0
  have hqB : nS2 ≤ BIG := by omega
  refine k_draw hP hC zr ?_
  refine ds (y_bslice0 rfl Try.underlying23 T.s43 T.z43 (by decide) rfl rfl) ?_
  refine ds (x_move rfl zt) ?_
  have qB3 : nS2 + 1 ≤ BIG := by omega
  refine d_appE (AccE.start (n0 := nS2) (id := nS2) (by (repeat (first | rw [Tr.get_set, if_neg (by omega)] | rw [hxS2 _ (by omega)] | rw [hx1 _ (by omega)])) <;> first | rfl | assumption | (rw [Tr.get_set, if_pos (by omega)]; done) | (rw [Tr.get_set, if_pos (by omega)]; rfl)) (by omega) (by omega)) (by omega) qB3 (wA_none rfl) rfl rfl rfl zv rfl rfl zr (cells_Q (rA.q.keep (by omega) (fun id hid => by (repeat (first | rw [Tr.get_set, if_neg (by omega)] | rw [hxS2 _ (by omega)] | rw [hx1 _ (by omega)])) <;> first | rfl | assumption | (rw [Tr.get_set, if_pos (by omega)]; done) | (rw [Tr.get_set, if_pos (by omega)]; rfl))) Try.underlying23 T.s43) Try.underlying23 T.i23 (by decide) (cfs_len h_A) (by omega) (by omega) (allOneC (cfs_free0 h_A)) (by decide) (fun v3 t3 nx3 wr3 xx3 qa3 qb3 qc3 qd3 qe3 hx3 aE3 xq3 => ?_)
  have xr3 := xq3 rfl
  have wz3 := qe3 rfl
  subst wz3
  rw [Nat.zero_add, List.nil_append] at aE3
  have qC3 : nx3 ≤ BIG := by omega
  refine ds (x_move rfl zt) ?_
  refine ds (x_move rfl zt) ?_
  refine ds (x_lenS hs_raw rfl rfl zv rfl Try.underlying23) ?_
  refine ds (x_min rfl rfl zv hmm.symm) ?_
  refine d_cut hs_raw (by omega) (wA_none rfl) rfl rfl zt zt Try.underlying23 T.s43 (by decide) hm0 hm1 (by decide) (fun w4 xx4 sw4 xr4 => ?_)
  have qB5 : nx3 ≤ BIG := by omega
  refine d_appE aE3 (by omega) qB5 (wA_none rfl) rfl rfl rfl zv rfl rfl zr (cells_cutR sw4 Try.underlying23 T.s43 h_raw rfl (whole_row (by (repeat (first | rw [Tr.get_set, if_neg (by omega)] | rw [hx3 _ (by omega)] | rw [hxS2 _ (by omega)] | rw [hx1 _ (by omega)])) <;> first | rfl | assumption | (rw [Tr.get_set, if_pos (by omega)]; done) | (rw [Tr.get_set, if_pos (by omega)]; rfl)) rfl) (by omega)) Try.underlying23 T.i23 (by decide) (by rw [cfs_len (cfs_take h_raw), List.length_take, Nat.min_eq_left (by omega)]; rfl) (by omega) (by omega) (allOneC (cfs_free0 (cfs_take h_raw))) (by decide) (fun v5 t5 nx5 wr5 xx5 qa5 qb5 qc5 qd5 qe5 hx5 aE5 xq5 => ?_)
  have qC5 : nx5 ≤ BIG := by omega
  have rB : RdQ t5 nx5 46 v5 B.length B.flatten := by
   have q := aE5.q
   rw [← List.flatten_append, ← hB, ← hBl] at q
   exact q
  have hxb5 : ∀ id, id < nS2 → t5.get id = tS2.get id := fun id hid => (hx5 id hid).trans (by (repeat (first | rw [Tr.get_set, if_neg (by omega)] | rw [hx3 _ (by omega)])) <;> first | rfl | assumption | (rw [Tr.get_set, if_pos (by omega)]; done) | (rw [Tr.get_set, if_pos (by omega)]; rfl))
  refine ds (x_assign rfl zt) ?_
  refine d_done ⟨de_two (by simp only [List.all_append, List.all_cons, List.all_nil, infOf, decide_eq_true hqB, Bool.and_self, decide_eq_true qB3, xr3, decide_eq_true qC3, xr4]) zr (by show _ ≤ BIG; omega) (by show _ ≤ BIG; first | omega | (dsimp only; omega)), ?_⟩
  refine e_seq ?_
  refine k_seq ?_
  refine k_region hP hC ?_
  refine os (x_move rfl zt) ?_
  refine os (x_move rfl zt) ?_
  refine os (y_bsliceN (cs := [v1, v5]) rfl zp Try.underlying27 T.s23 T.z23 (by decide) (by decide) rfl rfl (fill2 rA.q.shape rB.shape)) ?_
  refine os (x_assign rfl zt) ?_
  refine o_done ?_
  refine e_seq ?_
  refine k_seq ?_
  refine k_seq ?_
  refine k_region hP hC ?_
  refine os (x_assign rfl (by rfl)) ?_
  refine o_done ?_
  refine e_seq ?_
  refine k_block ?_
  refine k_nm (fun tS6 nS6 qS6 hxS6 => ?_)
  have hrow : tS6.get (nx5) = some (.row [v1, v5] (nx5) BIG false 2) := by (repeat (first | rw [Tr.get_set, if_neg (by omega)] | rw [hxS6 _ (by omega)] | rw [hxb5 _ (by omega)] | rw [hxS2 _ (by omega)] | rw [hx1 _ (by omega)])) <;> first | rfl | assumption | (rw [Tr.get_set, if_pos (by omega)]; done) | (rw [Tr.get_set, if_pos (by omega)]; rfl)
  have rA1 : RdQ tS6 nS6 46 v1 A.length A.flatten := rA.q.keep (by omega) (fun id hid => by (repeat (first | rw [Tr.get_set, if_neg (by omega)] | rw [hxS6 _ (by omega)] | rw [hxb5 _ (by omega)] | rw [hxS2 _ (by omega)] | rw [hx1 _ (by omega)])) <;> first | rfl | assumption | (rw [Tr.get_set, if_pos (by omega)]; done) | (rw [Tr.get_set, if_pos (by omega)]; rfl))
  have rB1 : RdQ tS6 nS6 46 v5 B.length B.flatten := rB.keep (by omega) (fun id hid => by (repeat (first | rw [Tr.get_set, if_neg (by omega)] | rw [hxS6 _ (by omega)] | rw [hxb5 _ (by omega)] | rw [hxS2 _ (by omega)] | rw [hx1 _ (by omega)])) <;> first | rfl | assumption | (rw [Tr.get_set, if_pos (by omega)]; done) | (rw [Tr.get_set, if_pos (by omega)]; rfl))
  have hbL : nx5 < nS6 := by omega
  refine k_loopI (α := Int) (fun i s => ∃ e t nx wr, s = ⟨e, 148, ⟨t, nx, wr⟩⟩ ∧ e.get 2 = some (.int .i64 forgers) ∧ e.get 12 = some (.slice (some ⟨nx5, 0, none⟩) 2 2) ∧ e.get 13 = some (.int .i64 i) ∧ 0 ≤ i ∧ i ≤ 2 ∧ nS6 ≤ nx ∧ (nx : Int) ≤ nS6 + 20 * i ∧ 2 ≤ wr ∧ wr ≤ BIG ∧ (∀ id, id < nS6 → t.get id = tS6.get id)) (fun i => (2 - i).toNat) 0 ⟨_, _, _, _, rfl, (by (repeat (first | rw [Tr.get_set, if_neg (by omega)] | rw [hxS6 _ (by omega)] | rw [hxb5 _ (by omega)] | rw [hxS2 _ (by omega)] | rw [hx1 _ (by omega)])) <;> first | rfl | assumption | (rw [Tr.get_set, if_pos (by omega)]; done) | (rw [Tr.get_set, if_pos (by omega)]; rfl)), (by (repeat (first | rw [Tr.get_set, if_neg (by omega)] | rw [hxS6 _ (by omega)] | rw [hxb5 _ (by omega)] | rw [hxS2 _ (by omega)] | rw [hx1 _ (by omega)])) <;> first | rfl | assumption | (rw [Tr.get_set, if_pos (by omega)]; done) | (rw [Tr.get_set, if_pos (by omega)]; rfl)), (by (repeat (first | rw [Tr.get_set, if_neg (by omega)] | rw [hxS6 _ (by omega)] | rw [hxb5 _ (by omega)] | rw [hxS2 _ (by omega)] | rw [hx1 _ (by omega)])) <;> first | rfl | assumption | (rw [Tr.get_set, if_pos (by omega)]; done) | (rw [Tr.get_set, if_pos (by omega)]; rfl)), by omega, by omega, by omega, by omega, by omega, by omega, fun _ _ => rfl⟩ ?_
  rintro i s ⟨e, t, nx, wr, rfl, he7_2, he7_12, he7_13, i0, i1, n0, nb, w1, wb, hx7⟩
  refine k_seq ?_
  refine k_seq ?_
  refine k_region hP hC ?_
  refine os (x_move rfl za) ?_
  refine os (x_bin rfl za (by rfl) b_lss) ?_
  refine o_done ?_
  refine e_seq ?_
  refine k_cond (by simp only [Tr.get_set, reduceIte, Nat.reduceEqDiff, Nat.reduceAdd, ev_tmp, he7_2, he7_12, he7_13] <;> rfl) (fun g2 => ?_) (fun g2 => ?_)
  ·have p2 := g2; try simp only [d1, d2, d3, d4, d5, d6, d7, d8, d9] at p2
   refine k_skip ?_
   refine e_seq ?_
   refine k_seq ?_
   refine k_block ?_
   refine k_seq ?_
   refine k_seq ?_
   have hqB : nx ≤ BIG := by omega
   obtain ⟨vX, X, hvX, rX, h_X, hXb⟩ : ∃ v X, ([v1, v5] : List Value)[i.toNat]? = some v ∧ RdQ t nx 46 v X.length X.flatten ∧ cfs T.K43 X ∧ X.length ≤ 20 := by
    rcases (show i = 0 ∨ i = 1 by omega) with rfl | rfl
    ·exact ⟨_, A, rfl, rA1.keep (by omega) hx7, h_A, by omega⟩
    ·exact ⟨_, B, rfl, rB1.keep (by omega) hx7, h_B, hBb⟩
   have hXb3 : X.length ≤ 1000 := by omega
   refine k_draw hP hC zr ?_
   refine ds (x_move rfl za) ?_
   refine ds (x_move rfl za) ?_
   refine ds (x_index rfl za za Try.underlying27 T.s23 (by omega) (by omega)) ?_
   refine ds (x_load1 rfl za T.g23 (l_cell (by (repeat (first | rw [Tr.get_set, if_neg (by omega)] | rw [hx7 _ (by omega)] | rw [hxS6 _ (by omega)] | rw [hxb5 _ (by omega)] | rw [hxS2 _ (by omega)] | rw [hx1 _ (by omega)])) <;> first | rfl | assumption | (rw [Tr.get_set, if_pos (by omega)]; done) | (rw [Tr.get_set, if_pos (by omega)]; rfl)) rfl hvX)) ?_
   have qB8 : nx ≤ BIG := by omega
   refine d_call1 (fun v => v) qB8 (wA_none rfl) rfl rfl rfl (by simp only [evs, ev_tmp, Tr.get_set, reduceIte, Nat.reduceEqDiff, Nat.reduceAdd, he7_2, he7_12, he7_13, g2] <;> rfl) (by decide) ((tab_miss (by decide)).trans ((tab_miss (by decide)).trans (tab_hit.trans (clashes_c (rX.at (by decide) (cfs_free0 h_X) (fun id hid => by (repeat (first | rw [Tr.get_set, if_neg (by omega)] | rw [hx7 _ (by omega)] | rw [hxS6 _ (by omega)] | rw [hxb5 _ (by omega)] | rw [hxS2 _ (by omega)] | rw [hx1 _ (by omega)])) <;> first | rfl | assumption | (rw [Tr.get_set, if_pos (by omega)]; done) | (rw [Tr.get_set, if_pos (by omega)]; rfl))) h_X (by rw [ok_clashes, decide_eq_true hXb3]))))) (cfs_len clO_cfs) (fun v8 t8 nx8 xx8 qa8 qb8 hx8 rC hq8 => ?_)
   have qC8 : nx8 ≤ BIG := by omega
   refine ds (x_move rfl za) ?_
   refine ds (x_move rfl za) ?_
   refine ds (x_index rfl za za Try.underlying27 T.s23 (by omega) (by omega)) ?_
   refine ds (x_load1 rfl za T.g23 (l_cell (by (repeat (first | rw [Tr.get_set, if_neg (by omega)] | rw [hx8 _ (by omega)] | rw [hx7 _ (by omega)] | rw [hxS6 _ (by omega)] | rw [hxb5 _ (by omega)] | rw [hxS2 _ (by omega)] | rw [hx1 _ (by omega)])) <;> first | rfl | assumption | (rw [Tr.get_set, if_pos (by omega)]; done) | (rw [Tr.get_set, if_pos (by omega)]; rfl)) rfl hvX)) ?_
   have qB9 : nx8 ≤ BIG := by omega
   refine d_call1 (fun v => v) qB9 (wA_none rfl) rfl rfl rfl (by simp only [evs, ev_tmp, Tr.get_set, reduceIte, Nat.reduceEqDiff, Nat.reduceAdd, he7_2, he7_12, he7_13, g2] <;> rfl) (by decide) ((tab_miss (by decide)).trans ((tab_miss (by decide)).trans ((tab_miss (by decide)).trans (tab_hit.trans (clashes33_c (rX.at (by decide) (cfs_free0 h_X) (fun id hid => by (repeat (first | rw [Tr.get_set, if_neg (by omega)] | rw [hx8 _ (by omega)] | rw [hx7 _ (by omega)] | rw [hxS6 _ (by omega)] | rw [hxb5 _ (by omega)] | rw [hxS2 _ (by omega)] | rw [hx1 _ (by omega)])) <;> first | rfl | assumption | (rw [Tr.get_set, if_pos (by omega)]; done) | (rw [Tr.get_set, if_pos (by omega)]; rfl))) h_X (by rw [ok_clashes33, decide_eq_true hXb3])))))) (cfs_len clO_cfs) (fun v9 t9 nx9 xx9 qa9 qb9 hx9 rD hq9 => ?_)
   have qC9 : nx9 ≤ BIG := by omega
   refine d_call0 (wA_none rfl) rfl rfl rfl (by simp only [evs, ev_tmp, Tr.get_set, reduceIte, Nat.reduceEqDiff, Nat.reduceAdd, he7_2, he7_12, he7_13, g2] <;> rfl) (by decide) ?_
   refine ⟨_, _, _, _, ((tab_miss (by decide)).trans ((tab_miss (by decide)).trans ((tab_miss (by decide)).trans ((tab_miss (by decide)).trans (tab_hit.trans (samePairs_cT (rC.at (by decide) (cfs_free0 clO_cfs) (fun id hid => by (repeat (first | rw [Tr.get_set, if_neg (by omega)] | rw [hx9 _ (by omega)] | rw [hx8 _ (by omega)] | rw [hx7 _ (by omega)] | rw [hxS6 _ (by omega)] | rw [hxb5 _ (by omega)] | rw [hxS2 _ (by omega)] | rw [hx1 _ (by omega)])) <;> first | rfl | assumption | (rw [Tr.get_set, if_pos (by omega)]; done) | (rw [Tr.get_set, if_pos (by omega)]; rfl))) (rD.at (by decide) (cfs_free0 clO_cfs) (fun id hid => by (repeat (first | rw [Tr.get_set, if_neg (by omega)] | rw [hx9 _ (by omega)] | rw [hx8 _ (by omega)] | rw [hx7 _ (by omega)] | rw [hxS6 _ (by omega)] | rw [hxb5 _ (by omega)] | rw [hxS2 _ (by omega)] | rw [hx1 _ (by omega)])) <;> first | rfl | assumption | (rw [Tr.get_set, if_pos (by omega)]; done) | (rw [Tr.get_set, if_pos (by omega)]; rfl))) clO_cfs (clashes_len hXb3))))))), ?_⟩
   refine ds (x_notT rfl (by simp only [Tr.get_set, reduceIte, Nat.reduceEqDiff, Nat.reduceAdd, ev_tmp, g2] <;> rfl)) ?_
   refine d_done ⟨de_quiet (by simp only [List.all_append, List.all_cons, List.all_nil, infOf, decide_eq_true hqB, Bool.and_self, hq8, decide_eq_true qC8, hq9, decide_eq_true qC9]) (by show _ ≤ BIG; omega) (by show _ ≤ BIG; first | omega | (dsimp only; omega)), ?_⟩
   refine e_seq ?_
   refine k_condF (by simp only [Tr.get_set, reduceIte, Nat.reduceEqDiff, Nat.reduceAdd, ev_tmp, g2] <;> rfl) ?_
   refine k_skip ?_
   refine e_seq ?_
   refine k_seq ?_
   refine k_seq ?_
   refine k_region hP hC ?_
   refine os (x_assign rfl (by rfl)) ?_
   refine o_done ?_
   refine e_seq ?_
   refine k_block ?_
   refine k_nm (fun tS10 nS10 qS10 hxS10 => ?_)
   have rX1 := rX
   clear rX
   have rX : RdQ tS10 nS10 46 vX X.length X.flatten := rX1.keep (by omega) (fun id hid => by (repeat (first | rw [Tr.get_set, if_neg (by omega)] | rw [hxS10 _ (by omega)] | rw [hx9 _ (by omega)] | rw [hx8 _ (by omega)] | rw [hx7 _ (by omega)] | rw [hxS6 _ (by omega)] | rw [hxb5 _ (by omega)] | rw [hxS2 _ (by omega)] | rw [hx1 _ (by omega)])) <;> first | rfl | assumption | (rw [Tr.get_set, if_pos (by omega)]; done) | (rw [Tr.get_set, if_pos (by omega)]; rfl))
   clear rX1
   have w1K := w1
   have wbK := wb
   refine k_loopI (α := Int) (fun k s => ∃ e wr, s = ⟨e, 148, ⟨tS10, nS10, wr⟩⟩ ∧ e.get 2 = some (.int .i64 forgers) ∧ e.get 12 = some (.slice (some ⟨nx5, 0, none⟩) 2 2) ∧ e.get 13 = some (.int .i64 i) ∧ e.get 14 = some (.int .i64 k) ∧ 0 ≤ k ∧ k ≤ X.length ∧ 2 ≤ wr ∧ wr ≤ BIG) (fun k => (X.length - k).toNat) 0 ⟨_, _, rfl, za, za, za, za, by omega, by omega, by omega, by omega⟩ ?_
   rintro k s ⟨e, wr, rfl, he11_2, he11_12, he11_13, he11_14, k0, k1, w1, wb⟩
   refine k_seq ?_
   refine k_seq ?_
   refine k_region hP hC ?_
   refine os (x_move rfl za) ?_
   refine os (x_move rfl za) ?_
   refine os (x_move rfl za) ?_
   refine os (x_index rfl za za Try.underlying27 T.s23 (by omega) (by omega)) ?_
   refine os (x_load1 rfl za T.g23 (l_cell (by (repeat (first | rw [Tr.get_set, if_neg (by omega)] | rw [hxS10 _ (by omega)] | rw [hx9 _ (by omega)] | rw [hx8 _ (by omega)] | rw [hx7 _ (by omega)] | rw [hxS6 _ (by omega)] | rw [hxb5 _ (by omega)] | rw [hxS2 _ (by omega)] | rw [hx1 _ (by omega)])) <;> first | rfl | assumption | (rw [Tr.get_set, if_pos (by omega)]; done) | (rw [Tr.get_set, if_pos (by omega)]; rfl)) rfl hvX)) ?_
   refine os (x_lenQ rX rfl rfl (by simp only [evs, ev_tmp, Tr.get_set, reduceIte, Nat.reduceEqDiff, Nat.reduceAdd, he11_2, he11_12, he11_13, he11_14] <;> rfl) rfl Try.underlying23) ?_
   refine os (x_bin rfl za za b_lss) ?_
   refine o_done ?_
   refine e_seq ?_
   refine k_cond (by simp only [Tr.get_set, reduceIte, Nat.reduceEqDiff, Nat.reduceAdd, ev_tmp, he11_2, he11_12, he11_13, he11_14] <;> rfl) (fun g4 => ?_) (fun g4 => ?_)
   ·have p4 := g4; try simp only [d1, d2, d3, d4, d5, d6, d7, d8, d9] at p4
    refine k_skip ?_
    refine e_seq ?_
    refine k_seq ?_
    refine k_block ?_
    refine k_seq ?_
    have hqB : nS10 ≤ BIG := by omega
    obtain ⟨iX, jX, cX, hvX2, oX, bjX, biX⟩ := rX.own (show 0 < X.length by omega)
    subst hvX2
    refine k_draw hP hC zr ?_
    refine ds (x_move rfl za) ?_
    refine ds (x_move rfl za) ?_
    refine ds (x_index rfl za za Try.underlying27 T.s23 (by omega) (by omega)) ?_
    refine ds (x_load1 rfl za T.g23 (l_cell (by (repeat (first | rw [Tr.get_set, if_neg (by omega)] | rw [hxS10 _ (by omega)] | rw [hx9 _ (by omega)] | rw [hx8 _ (by omega)] | rw [hx7 _ (by omega)] | rw [hxS6 _ (by omega)] | rw [hxb5 _ (by omega)] | rw [hxS2 _ (by omega)] | rw [hx1 _ (by omega)])) <;> first | rfl | assumption | (rw [Tr.get_set, if_pos (by omega)]; done) | (rw [Tr.get_set, if_pos (by omega)]; rfl)) rfl hvX)) ?_
    refine ds (x_index rfl za (by rfl) Try.underlying23 T.s43 (by omega) (by omega)) ?_
    refine ds (x_loadA rfl za T.g43 T.s43 (l_elem ((oX.keep (by (repeat (first | rw [Tr.get_set, if_neg (by omega)] | rw [hxS10 _ (by omega)] | rw [hx9 _ (by omega)] | rw [hx8 _ (by omega)] | rw [hx7 _ (by omega)] | rw [hxS6 _ (by omega)] | rw [hxb5 _ (by omega)] | rw [hxS2 _ (by omega)] | rw [hx1 _ (by omega)])) <;> first | rfl | assumption | (rw [Tr.get_set, if_pos (by omega)]; done) | (rw [Tr.get_set, if_pos (by omega)]; rfl)) (by (repeat (first | rw [Tr.get_set, if_neg (by omega)] | rw [hxS10 _ (by omega)] | rw [hx9 _ (by omega)] | rw [hx8 _ (by omega)] | rw [hx7 _ (by omega)] | rw [hxS6 _ (by omega)] | rw [hxb5 _ (by omega)] | rw [hxS2 _ (by omega)] | rw [hx1 _ (by omega)])) <;> first | rfl | assumption | (rw [Tr.get_set, if_pos (by omega)]; done) | (rw [Tr.get_set, if_pos (by omega)]; rfl))).whole) h_X rfl (by omega) (by omega))) ?_
    refine ds (x_move rfl za) ?_
    refine ds (x_move rfl za) ?_
    refine ds (x_index rfl za za Try.underlying27 T.s23 (by omega) (by omega)) ?_
    refine ds (x_load1 rfl za T.g23 (l_cell (by (repeat (first | rw [Tr.get_set, if_neg (by omega)] | rw [hxS10 _ (by omega)] | rw [hx9 _ (by omega)] | rw [hx8 _ (by omega)] | rw [hx7 _ (by omega)] | rw [hxS6 _ (by omega)] | rw [hxb5 _ (by omega)] | rw [hxS2 _ (by omega)] | rw [hx1 _ (by omega)])) <;> first | rfl | assumption | (rw [Tr.get_set, if_pos (by omega)]; done) | (rw [Tr.get_set, if_pos (by omega)]; rfl)) rfl hvX)) ?_
    refine ds (x_move rfl za) ?_
    refine ds (x_index rfl za za Try.underlying23 T.s43 (by omega) (by omega)) ?_
    refine ds (x_loadA rfl za T.g43 T.s43 (l_elem ((oX.keep (by (repeat (first | rw [Tr.get_set, if_neg (by omega)] | rw [hxS10 _ (by omega)] | rw [hx9 _ (by omega)] | rw [hx8 _ (by omega)] | rw [hx7 _ (by omega)] | rw [hxS6 _ (by omega)] | rw [hxb5 _ (by omega)] | rw [hxS2 _ (by omega)] | rw [hx1 _ (by omega)])) <;> first | rfl | assumption | (rw [Tr.get_set, if_pos (by omega)]; done) | (rw [Tr.get_set, if_pos (by omega)]; rfl)) (by (repeat (first | rw [Tr.get_set, if_neg (by omega)] | rw [hxS10 _ (by omega)] | rw [hx9 _ (by omega)] | rw [hx8 _ (by omega)] | rw [hx7 _ (by omega)] | rw [hxS6 _ (by omega)] | rw [hxb5 _ (by omega)] | rw [hxS2 _ (by omega)] | rw [hx1 _ (by omega)])) <;> first | rfl | assumption | (rw [Tr.get_set, if_pos (by omega)]; done) | (rw [Tr.get_set, if_pos (by omega)]; rfl))).whole) h_X rfl (by omega) (by omega))) ?_
    refine d_call0 (wA_none rfl) rfl rfl rfl (by simp only [evs, ev_tmp, Tr.get_set, reduceIte, Nat.reduceEqDiff, Nat.reduceAdd, he11_2, he11_12, he11_13, he11_14, g4] <;> rfl) (by decide) ?_
    refine ⟨_, _, _, _, ((tab_miss (by decide)).trans ((tab_miss (by decide)).trans ((tab_miss (by decide)).trans ((tab_miss (by decide)).trans ((tab_miss (by decide)).trans (tab_hit.trans (clash_c (cf_nth h_X (by decide) (by omega)) (cf_nth h_X k0 (by omega)) rfl))))))), ?_⟩
    refine ds (x_move rfl za) ?_
    refine ds (x_move rfl za) ?_
    refine ds (x_index rfl za za Try.underlying27 T.s23 (by omega) (by omega)) ?_
    refine ds (x_load1 rfl za T.g23 (l_cell (by (repeat (first | rw [Tr.get_set, if_neg (by omega)] | rw [hxS10 _ (by omega)] | rw [hx9 _ (by omega)] | rw [hx8 _ (by omega)] | rw [hx7 _ (by omega)] | rw [hxS6 _ (by omega)] | rw [hxb5 _ (by omega)] | rw [hxS2 _ (by omega)] | rw [hx1 _ (by omega)])) <;> first | rfl | assumption | (rw [Tr.get_set, if_pos (by omega)]; done) | (rw [Tr.get_set, if_pos (by omega)]; rfl)) rfl hvX)) ?_
    refine ds (x_index rfl za (by rfl) Try.underlying23 T.s43 (by omega) (by omega)) ?_
    refine ds (x_loadA rfl za T.g43 T.s43 (l_elem ((oX.keep (by (repeat (first | rw [Tr.get_set, if_neg (by omega)] | rw [hxS10 _ (by omega)] | rw [hx9 _ (by omega)] | rw [hx8 _ (by omega)] | rw [hx7 _ (by omega)] | rw [hxS6 _ (by omega)] | rw [hxb5 _ (by omega)] | rw [hxS2 _ (by omega)] | rw [hx1 _ (by omega)])) <;> first | rfl | assumption | (rw [Tr.get_set, if_pos (by omega)]; done) | (rw [Tr.get_set, if_pos (by omega)]; rfl)) (by (repeat (first | rw [Tr.get_set, if_neg (by omega)] | rw [hxS10 _ (by omega)] | rw [hx9 _ (by omega)] | rw [hx8 _ (by omega)] | rw [hx7 _ (by omega)] | rw [hxS6 _ (by omega)] | rw [hxb5 _ (by omega)] | rw [hxS2 _ (by omega)] | rw [hx1 _ (by omega)])) <;> first | rfl | assumption | (rw [Tr.get_set, if_pos (by omega)]; done) | (rw [Tr.get_set, if_pos (by omega)]; rfl))).whole) h_X rfl (by omega) (by omega))) ?_
    refine ds (x_move rfl za) ?_
    refine ds (x_move rfl za) ?_
    refine ds (x_index rfl za za Try.underlying27 T.s23 (by omega) (by omega)) ?_
    refine ds (x_load1 rfl za T.g23 (l_cell (by (repeat (first | rw [Tr.get_set, if_neg (by omega)] | rw [hxS10 _ (by omega)] | rw [hx9 _ (by omega)] | rw [hx8 _ (by omega)] | rw [hx7 _ (by omega)] | rw [hxS6 _ (by omega)] | rw [hxb5 _ (by omega)] | rw [hxS2 _ (by omega)] | rw [hx1 _ (by omega)])) <;> first | rfl | assumption | (rw [Tr.get_set, if_pos (by omega)]; done) | (rw [Tr.get_set, if_pos (by omega)]; rfl)) rfl hvX)) ?_
    refine ds (x_move rfl za) ?_
    refine ds (x_index rfl za za Try.underlying23 T.s43 (by omega) (by omega)) ?_
    refine ds (x_loadA rfl za T.g43 T.s43 (l_elem ((oX.keep (by (repeat (first | rw [Tr.get_set, if_neg (by omega)] | rw [hxS10 _ (by omega)] | rw [hx9 _ (by omega)] | rw [hx8 _ (by omega)] | rw [hx7 _ (by omega)] | rw [hxS6 _ (by omega)] | rw [hxb5 _ (by omega)] | rw [hxS2 _ (by omega)] | rw [hx1 _ (by omega)])) <;> first | rfl | assumption | (rw [Tr.get_set, if_pos (by omega)]; done) | (rw [Tr.get_set, if_pos (by omega)]; rfl)) (by (repeat (first | rw [Tr.get_set, if_neg (by omega)] | rw [hxS10 _ (by omega)] | rw [hx9 _ (by omega)] | rw [hx8 _ (by omega)] | rw [hx7 _ (by omega)] | rw [hxS6 _ (by omega)] | rw [hxb5 _ (by omega)] | rw [hxS2 _ (by omega)] | rw [hx1 _ (by omega)])) <;> first | rfl | assumption | (rw [Tr.get_set, if_pos (by omega)]; done) | (rw [Tr.get_set, if_pos (by omega)]; rfl))).whole) h_X rfl (by omega) (by omega))) ?_
    refine d_call0 (wA_none rfl) rfl rfl rfl (by simp only [evs, ev_tmp, Tr.get_set, reduceIte, Nat.reduceEqDiff, Nat.reduceAdd, he11_2, he11_12, he11_13, he11_14, g4] <;> rfl) (by decide) ?_
    refine ⟨_, _, _, _, ((tab_miss (by decide)).trans ((tab_miss (by decide)).trans ((tab_miss (by decide)).trans ((tab_miss (by decide)).trans ((tab_miss (by decide)).trans ((tab_miss (by decide)).trans (tab_hit.trans (clash33_c (cf_nth h_X (by decide) (by omega)) (cf_nth h_X k0 (by omega)) rfl)))))))), ?_⟩
    refine ds (x_bin (u := .bool false) rfl za za (by rw [b_neqBB])) ?_
    refine d_done ⟨de_quiet (by simp only [List.all_append, List.all_cons, List.all_nil, infOf, decide_eq_true hqB, Bool.and_self]) (by show _ ≤ BIG; omega) (by show _ ≤ BIG; first | omega | (dsimp only; omega)), ?_⟩
    refine e_seq ?_
    refine k_condF (by simp only [Tr.get_set, reduceIte, Nat.reduceEqDiff, Nat.reduceAdd, ev_tmp, g4] <;> rfl) ?_
    refine k_skip ?_
    refine e_block ?_
    refine e_seq ?_
    refine k_region hP hC ?_
    refine os (x_move rfl za) ?_
    refine os (x_bin rfl za (by rfl) b_add) ?_
    refine os (x_assign rfl za) ?_
    refine o_done ?_
    refine e_loop ?_
    have hw1 : IntKind.i64.wrap (k + 1) = k + 1 := wr1 (by omega) (by omega)
    refine ⟨IntKind.i64.wrap (k + 1), ⟨_, _, rfl, za, za, za, za, by rw [hw1]; omega, by rw [hw1]; omega, by omega, by omega⟩, ?_⟩
    ·show (X.length - IntKind.i64.wrap (k + 1)).toNat < (X.length - k).toNat; rw [hw1]; omega
   ·have p4 := g4; try simp only [d1, d2, d3, d4, d5, d6, d7, d8, d9] at p4
    refine k_exit ?_
    refine e_seq_exit ?_
    refine e_loop_exit ?_
    refine e_block_eq ?_
    refine e_seq ?_
    refine k_seq ?_
    refine k_region hP hC ?_
    refine os (x_move rfl za) ?_
    refine os (x_move rfl za) ?_
    refine o_call0 (wA_none rfl) rfl rfl rfl (by simp only [evs, ev_tmp, Tr.get_set, reduceIte, Nat.reduceEqDiff, Nat.reduceAdd, he11_2, he11_12, he11_13, he11_14, g4] <;> rfl) (by decide) ?_
    refine ⟨_, _, ((tab_miss (by decide)).trans (tab_hit.trans (around_c (by simp only [ok_around, Bool.and_eq_true, decide_eq_true_eq]; exact ⟨hfg, by decide⟩)))), ?_⟩
    refine os (x_bin (u := .int .i64 Z) rfl za (by rfl) (by rw [b_sub]; rw [IntWalk.i64_in _ (by omega), ← hZ])) ?_
    refine os (y_bsliceN (cs := [.int .i64 forgers, .int .i64 Z]) rfl (by simp only [evP, ev_tmp, Tr.get_set, reduceIte, Nat.reduceEqDiff, Nat.reduceAdd, he11_2, he11_12, he11_13, he11_14, g4] <;> rfl) Try.underlying22 T.s3 T.z3 (by decide) (by decide) rfl rfl (by rfl)) ?_
    refine os (x_assign rfl za) ?_
    refine o_done ?_
    refine e_seq ?_
    refine k_seq ?_
    refine k_seq ?_
    refine k_region hP hC ?_
    refine os (x_assign rfl (by rfl)) ?_
    refine o_done ?_
    refine e_seq ?_
    refine k_block ?_
    refine k_nm (fun tS12 nS12 qS12 hxS12 => ?_)
    have rX1 := rX
    clear rX
    have rX : RdQ tS12 nS12 46 vX X.length X.flatten := rX1.keep (by omega) (fun id hid => by (repeat (first | rw [Tr.get_set, if_neg (by omega)] | rw [hxS12 _ (by omega)] | rw [hxS10 _ (by omega)] | rw [hx9 _ (by omega)] | rw [hx8 _ (by omega)] | rw [hx7 _ (by omega)] | rw [hxS6 _ (by omega)] | rw [hxb5 _ (by omega)] | rw [hxS2 _ (by omega)] | rw [hx1 _ (by omega)])) <;> first | rfl | assumption | (rw [Tr.get_set, if_pos (by omega)]; done) | (rw [Tr.get_set, if_pos (by omega)]; rfl))
    clear rX1
    have hrowN : tS12.get (nS10) = some (.row [.int .i64 forgers, .int .i64 Z] (nS10) BIG false 2) := by (repeat (first | rw [Tr.get_set, if_neg (by omega)] | rw [hxS12 _ (by omega)] | rw [hxS10 _ (by omega)] | rw [hx9 _ (by omega)] | rw [hx8 _ (by omega)] | rw [hx7 _ (by omega)] | rw [hxS6 _ (by omega)] | rw [hxb5 _ (by omega)] | rw [hxS2 _ (by omega)] | rw [hx1 _ (by omega)])) <;> first | rfl | assumption | (rw [Tr.get_set, if_pos (by omega)]; done) | (rw [Tr.get_set, if_pos (by omega)]; rfl)
    have hbN : nS10 < nS12 := by omega
    refine k_loopI (α := Int) (fun k s => ∃ e t nx wr, s = ⟨e, 148, ⟨t, nx, wr⟩⟩ ∧ e.get 2 = some (.int .i64 forgers) ∧ e.get 12 = some (.slice (some ⟨nx5, 0, none⟩) 2 2) ∧ e.get 13 = some (.int .i64 i) ∧ e.get 15 = some (.slice (some ⟨nS10, 0, none⟩) 2 2) ∧ e.get 16 = some (.int .i64 k) ∧ 0 ≤ k ∧ k ≤ 2 ∧ nS12 ≤ nx ∧ (nx : Int) ≤ nS12 + 2 * k ∧ 2 ≤ wr ∧ wr ≤ BIG ∧ (∀ id, id < nS12 → t.get id = tS12.get id)) (fun k => (2 - k).toNat) 0 ⟨_, _, _, _, rfl, za, za, za, za, za, by omega, by omega, by omega, by omega, by omega, by omega, fun _ _ => rfl⟩ ?_
    rintro k s ⟨e, t, nx, wr, rfl, he13_2, he13_12, he13_13, he13_15, he13_16, k0, k1, n1, nb1, w1, wb, hx13⟩
    refine k_seq ?_
    refine k_seq ?_
    refine k_region hP hC ?_
    refine os (x_move rfl za) ?_
    refine os (x_bin rfl za (by rfl) b_lss) ?_
    refine o_done ?_
    refine e_seq ?_
    refine k_cond (by simp only [Tr.get_set, reduceIte, Nat.reduceEqDiff, Nat.reduceAdd, ev_tmp, he13_2, he13_12, he13_13, he13_15, he13_16] <;> rfl) (fun g8 => ?_) (fun g8 => ?_)
    ·have p8 := g8; try simp only [d1, d2, d3, d4, d5, d6, d7, d8, d9] at p8
     refine k_skip ?_
     refine e_seq ?_
     refine k_seq ?_
     refine k_block ?_
     refine k_seq ?_
     have hqB : nx ≤ BIG := by omega
     obtain ⟨N, hvN⟩ : ∃ N, ([.int .i64 forgers, .int .i64 Z] : List Value)[k.toNat]? = some (.int .i64 N) := by
      rcases (show k = 0 ∨ k = 1 by omega) with rfl | rfl
      ·exact ⟨_, rfl⟩
      ·exact ⟨_, rfl⟩
     refine k_draw hP hC zr ?_
     refine ds (x_move rfl za) ?_
     refine ds (x_move rfl za) ?_
     refine ds (x_index rfl za za Try.underlying27 T.s23 (by omega) (by omega)) ?_
     refine ds (x_load1 rfl za T.g23 (l_cell (by (repeat (first | rw [Tr.get_set, if_neg (by omega)] | rw [hx13 _ (by omega)] | rw [hxS12 _ (by omega)] | rw [hxS10 _ (by omega)] | rw [hx9 _ (by omega)] | rw [hx8 _ (by omega)] | rw [hx7 _ (by omega)] | rw [hxS6 _ (by omega)] | rw [hxb5 _ (by omega)] | rw [hxS2 _ (by omega)] | rw [hx1 _ (by omega)])) <;> first | rfl | assumption | (rw [Tr.get_set, if_pos (by omega)]; done) | (rw [Tr.get_set, if_pos (by omega)]; rfl)) rfl hvX)) ?_
     refine ds (x_move rfl za) ?_
     refine ds (x_move rfl za) ?_
     refine ds (x_index rfl za za Try.underlying22 T.s3 (by omega) (by omega)) ?_
     refine ds (x_load1 rfl za T.g3 (l_cell (by (repeat (first | rw [Tr.get_set, if_neg (by omega)] | rw [hx13 _ (by omega)] | rw [hxS12 _ (by omega)] | rw [hxS10 _ (by omega)] | rw [hx9 _ (by omega)] | rw [hx8 _ (by omega)] | rw [hx7 _ (by omega)] | rw [hxS6 _ (by omega)] | rw [hxb5 _ (by omega)] | rw [hxS2 _ (by omega)] | rw [hx1 _ (by omega)])) <;> first | rfl | assumption | (rw [Tr.get_set, if_pos (by omega)]; done) | (rw [Tr.get_set, if_pos (by omega)]; rfl)) rfl hvN)) ?_
     have qB14 : nx ≤ BIG := by omega
     refine d_call1 (fun v => v) qB14 (wA_none rfl) rfl rfl rfl (by simp only [evs, ev_tmp, Tr.get_set, reduceIte, Nat.reduceEqDiff, Nat.reduceAdd, he13_2, he13_12, he13_13, he13_15, he13_16, g8] <;> rfl) (by decide) ((tab_miss (by decide)).trans ((tab_miss (by decide)).trans ((tab_miss (by decide)).trans ((tab_miss (by decide)).trans ((tab_miss (by decide)).trans ((tab_miss (by decide)).trans ((tab_miss (by decide)).trans (tab_hit.trans (agreed_c (F := N) (rX.at (by decide) (cfs_free0 h_X) (fun id hid => by (repeat (first | rw [Tr.get_set, if_neg (by omega)] | rw [hx13 _ (by omega)] | rw [hxS12 _ (by omega)] | rw [hxS10 _ (by omega)] | rw [hx9 _ (by omega)] | rw [hx8 _ (by omega)] | rw [hx7 _ (by omega)] | rw [hxS6 _ (by omega)] | rw [hxb5 _ (by omega)] | rw [hxS2 _ (by omega)] | rw [hx1 _ (by omega)])) <;> first | rfl | assumption | (rw [Tr.get_set, if_pos (by omega)]; done) | (rw [Tr.get_set, if_pos (by omega)]; rfl))) h_X (by rw [ok_agreed, decide_eq_true hXb3])))))))))) (cfs_len (agreedL_cfs h_X)) (fun v14 t14 nx14 xx14 qa14 qb14 hx14 rG hq14 => ?_)
     have qC14 : nx14 ≤ BIG := by omega
     refine ds (x_move rfl za) ?_
     refine ds (x_move rfl za) ?_
     refine ds (x_index rfl za za Try.underlying27 T.s23 (by omega) (by omega)) ?_
     refine ds (x_load1 rfl za T.g23 (l_cell (by (repeat (first | rw [Tr.get_set, if_neg (by omega)] | rw [hx14 _ (by omega)] | rw [hx13 _ (by omega)] | rw [hxS12 _ (by omega)] | rw [hxS10 _ (by omega)] | rw [hx9 _ (by omega)] | rw [hx8 _ (by omega)] | rw [hx7 _ (by omega)] | rw [hxS6 _ (by omega)] | rw [hxb5 _ (by omega)] | rw [hxS2 _ (by omega)] | rw [hx1 _ (by omega)])) <;> first | rfl | assumption | (rw [Tr.get_set, if_pos (by omega)]; done) | (rw [Tr.get_set, if_pos (by omega)]; rfl)) rfl hvX)) ?_
     refine ds (x_move rfl za) ?_
     refine ds (x_move rfl za) ?_
     refine ds (x_index rfl za za Try.underlying22 T.s3 (by omega) (by omega)) ?_
     refine ds (x_load1 rfl za T.g3 (l_cell (by (repeat (first | rw [Tr.get_set, if_neg (by omega)] | rw [hx14 _ (by omega)] | rw [hx13 _ (by omega)] | rw [hxS12 _ (by omega)] | rw [hxS10 _ (by omega)] | rw [hx9 _ (by omega)] | rw [hx8 _ (by omega)] | rw [hx7 _ (by omega)] | rw [hxS6 _ (by omega)] | rw [hxb5 _ (by omega)] | rw [hxS2 _ (by omega)] | rw [hx1 _ (by omega)])) <;> first | rfl | assumption | (rw [Tr.get_set, if_pos (by omega)]; done) | (rw [Tr.get_set, if_pos (by omega)]; rfl)) rfl hvN)) ?_
     have qB15 : nx14 ≤ BIG := by omega
     refine d_call1 (fun v => v) qB15 (wA_none rfl) rfl rfl rfl (by simp only [evs, ev_tmp, Tr.get_set, reduceIte, Nat.reduceEqDiff, Nat.reduceAdd, he13_2, he13_12, he13_13, he13_15, he13_16, g8] <;> rfl) (by decide) ((tab_miss (by decide)).trans ((tab_miss (by decide)).trans ((tab_miss (by decide)).trans ((tab_miss (by decide)).trans ((tab_miss (by decide)).trans ((tab_miss (by decide)).trans ((tab_miss (by decide)).trans ((tab_miss (by decide)).trans (tab_hit.trans (agreed33_c (F := N) (rX.at (by decide) (cfs_free0 h_X) (fun id hid => by (repeat (first | rw [Tr.get_set, if_neg (by omega)] | rw [hx14 _ (by omega)] | rw [hx13 _ (by omega)] | rw [hxS12 _ (by omega)] | rw [hxS10 _ (by omega)] | rw [hx9 _ (by omega)] | rw [hx8 _ (by omega)] | rw [hx7 _ (by omega)] | rw [hxS6 _ (by omega)] | rw [hxb5 _ (by omega)] | rw [hxS2 _ (by omega)] | rw [hx1 _ (by omega)])) <;> first | rfl | assumption | (rw [Tr.get_set, if_pos (by omega)]; done) | (rw [Tr.get_set, if_pos (by omega)]; rfl))) h_X (by rw [ok_agreed33, decide_eq_true hXb3]))))))))))) (cfs_len (agreedL_cfs h_X)) (fun v15 t15 nx15 xx15 qa15 qb15 hx15 rH hq15 => ?_)
     have qC15 : nx15 ≤ BIG := by omega
     refine d_call0 (wA_none rfl) rfl rfl rfl (by simp only [evs, ev_tmp, Tr.get_set, reduceIte, Nat.reduceEqDiff, Nat.reduceAdd, he13_2, he13_12, he13_13, he13_15, he13_16, g8] <;> rfl) (by decide) ?_
     refine ⟨_, _, _, _, ((tab_miss (by decide)).trans ((tab_miss (by decide)).trans ((tab_miss (by decide)).trans ((tab_miss (by decide)).trans ((tab_miss (by decide)).trans ((tab_miss (by decide)).trans ((tab_miss (by decide)).trans ((tab_miss (by decide)).trans ((tab_miss (by decide)).trans (tab_hit.trans (sameAns_cT (rG.at (by decide) (cfs_free0 (agreedL_cfs h_X)) (fun id hid => by (repeat (first | rw [Tr.get_set, if_neg (by omega)] | rw [hx15 _ (by omega)] | rw [hx14 _ (by omega)] | rw [hx13 _ (by omega)] | rw [hxS12 _ (by omega)] | rw [hxS10 _ (by omega)] | rw [hx9 _ (by omega)] | rw [hx8 _ (by omega)] | rw [hx7 _ (by omega)] | rw [hxS6 _ (by omega)] | rw [hxb5 _ (by omega)] | rw [hxS2 _ (by omega)] | rw [hx1 _ (by omega)])) <;> first | rfl | assumption | (rw [Tr.get_set, if_pos (by omega)]; done) | (rw [Tr.get_set, if_pos (by omega)]; rfl))) (rH.at (by decide) (cfs_free0 (agreedL_cfs h_X)) (fun id hid => by (repeat (first | rw [Tr.get_set, if_neg (by omega)] | rw [hx15 _ (by omega)] | rw [hx14 _ (by omega)] | rw [hx13 _ (by omega)] | rw [hxS12 _ (by omega)] | rw [hxS10 _ (by omega)] | rw [hx9 _ (by omega)] | rw [hx8 _ (by omega)] | rw [hx7 _ (by omega)] | rw [hxS6 _ (by omega)] | rw [hxb5 _ (by omega)] | rw [hxS2 _ (by omega)] | rw [hx1 _ (by omega)])) <;> first | rfl | assumption | (rw [Tr.get_set, if_pos (by omega)]; done) | (rw [Tr.get_set, if_pos (by omega)]; rfl))) (agreedL_cfs h_X) (agreed_len2 hXb3)))))))))))), ?_⟩
     refine ds (x_notT rfl (by simp only [Tr.get_set, reduceIte, Nat.reduceEqDiff, Nat.reduceAdd, ev_tmp, g8] <;> rfl)) ?_
     refine d_done ⟨de_quiet (by simp only [List.all_append, List.all_cons, List.all_nil, infOf, decide_eq_true hqB, Bool.and_self, hq14, decide_eq_true qC14, hq15, decide_eq_true qC15]) (by show _ ≤ BIG; omega) (by show _ ≤ BIG; first | omega | (dsimp only; omega)), ?_⟩
     refine e_seq ?_
     refine k_condF (by simp only [Tr.get_set, reduceIte, Nat.reduceEqDiff, Nat.reduceAdd, ev_tmp, g8] <;> rfl) ?_
     refine k_skip ?_
     refine e_block ?_
     refine e_seq ?_
     refine k_region hP hC ?_
     refine os (x_move rfl za) ?_
     refine os (x_bin rfl za (by rfl) b_add) ?_
     refine os (x_assign rfl za) ?_
     refine o_done ?_
     refine e_loop ?_
     have hw1 : IntKind.i64.wrap (k + 1) = k + 1 := wr1 (by omega) (by omega)
     refine ⟨IntKind.i64.wrap (k + 1), ⟨_, _, _, _, rfl, za, za, za, za, za, by rw [hw1]; omega, by rw [hw1]; omega, by omega, by rw [hw1]; omega, by omega, by omega, fun id hid => by (repeat (first | rw [Tr.get_set, if_neg (by omega)] | rw [hx15 _ (by omega)] | rw [hx14 _ (by omega)] | rw [hx13 _ (by omega)] | rw [hxS12 _ (by omega)] | rw [hxS10 _ (by omega)] | rw [hx9 _ (by omega)] | rw [hx8 _ (by omega)] | rw [hx7 _ (by omega)] | rw [hxS6 _ (by omega)] | rw [hxb5 _ (by omega)] | rw [hxS2 _ (by omega)] | rw [hx1 _ (by omega)])) <;> first | rfl | assumption | (rw [Tr.get_set, if_pos (by omega)]; done) | (rw [Tr.get_set, if_pos (by omega)]; rfl)⟩, ?_⟩
     ·show (2 - IntKind.i64.wrap (k + 1)).toNat < (2 - k).toNat; rw [hw1]; omega
    ·have p8 := g8; try simp only [d1, d2, d3, d4, d5, d6, d7, d8, d9] at p8
     refine k_exit ?_
     refine e_seq_exit ?_
     refine e_loop_exit ?_
     refine e_block_eq ?_
     refine e_seq ?_
     refine k_seq ?_
     cases ho : X.any oddC
     ·skip
      refine k_region hP hC ?_
      refine os (x_move rfl za) ?_
      refine os (x_move rfl za) ?_
      refine os (x_index rfl za za Try.underlying27 T.s23 (by omega) (by omega)) ?_
      refine os (x_load1 rfl za T.g23 (l_cell (by (repeat (first | rw [Tr.get_set, if_neg (by omega)] | rw [hx13 _ (by omega)] | rw [hxS12 _ (by omega)] | rw [hxS10 _ (by omega)] | rw [hx9 _ (by omega)] | rw [hx8 _ (by omega)] | rw [hx7 _ (by omega)] | rw [hxS6 _ (by omega)] | rw [hxb5 _ (by omega)] | rw [hxS2 _ (by omega)] | rw [hx1 _ (by omega)])) <;> first | rfl | assumption | (rw [Tr.get_set, if_pos (by omega)]; done) | (rw [Tr.get_set, if_pos (by omega)]; rfl)) rfl hvX)) ?_
      refine o_call1 (fun v => .tuple ⟨[v, .int .i64 0]⟩) (wA_none rfl) rfl rfl rfl (by simp only [evs, ev_tmp, Tr.get_set, reduceIte, Nat.reduceEqDiff, Nat.reduceAdd, he13_2, he13_12, he13_13, he13_15, he13_16, g8] <;> rfl) (by decide) ((tab_miss (by decide)).trans ((tab_miss (by decide)).trans ((tab_miss (by decide)).trans ((tab_miss (by decide)).trans ((tab_miss (by decide)).trans ((tab_miss (by decide)).trans ((tab_miss (by decide)).trans ((tab_miss (by decide)).trans ((tab_miss (by decide)).trans ((tab_miss (by decide)).trans (tab_hit.trans (least_cN (rX.at (by decide) (cfs_free0 h_X) (fun id hid => by (repeat (first | rw [Tr.get_set, if_neg (by omega)] | rw [hx13 _ (by omega)] | rw [hxS12 _ (by omega)] | rw [hxS10 _ (by omega)] | rw [hx9 _ (by omega)] | rw [hx8 _ (by omega)] | rw [hx7 _ (by omega)] | rw [hxS6 _ (by omega)] | rw [hxb5 _ (by omega)] | rw [hxS2 _ (by omega)] | rw [hx1 _ (by omega)])) <;> first | rfl | assumption | (rw [Tr.get_set, if_pos (by omega)]; done) | (rw [Tr.get_set, if_pos (by omega)]; rfl))) h_X hXb3 ho)))))))))))) intsLen (fun v16 t16 nx16 qa16 qb16 hx16 rM => ?_)
      refine os (x_move rfl za) ?_
      refine os (x_extract rfl za rfl) ?_
      refine os (x_extract rfl za rfl) ?_
      refine os (x_assign rfl za) ?_
      refine os (x_assign rfl za) ?_
      refine o_done ?_
      refine e_seq ?_
      refine k_seq ?_
      refine k_region hP hC ?_
      refine os (x_move rfl za) ?_
      refine os (x_move rfl za) ?_
      refine os (x_index rfl za za Try.underlying27 T.s23 (by omega) (by omega)) ?_
      refine os (x_load1 rfl za T.g23 (l_cell (by (repeat (first | rw [Tr.get_set, if_neg (by omega)] | rw [hx16 _ (by omega)] | rw [hx13 _ (by omega)] | rw [hxS12 _ (by omega)] | rw [hxS10 _ (by omega)] | rw [hx9 _ (by omega)] | rw [hx8 _ (by omega)] | rw [hx7 _ (by omega)] | rw [hxS6 _ (by omega)] | rw [hxb5 _ (by omega)] | rw [hxS2 _ (by omega)] | rw [hx1 _ (by omega)])) <;> first | rfl | assumption | (rw [Tr.get_set, if_pos (by omega)]; done) | (rw [Tr.get_set, if_pos (by omega)]; rfl)) rfl hvX)) ?_
      refine o_callB (fun v => .tuple ⟨[v, .int .i64 0]⟩) (wA_none rfl) rfl rfl rfl (by simp only [evs, ev_tmp, Tr.get_set, reduceIte, Nat.reduceEqDiff, Nat.reduceAdd, he13_2, he13_12, he13_13, he13_15, he13_16, g8] <;> rfl) (by decide) ((tab_miss (by decide)).trans ((tab_miss (by decide)).trans ((tab_miss (by decide)).trans ((tab_miss (by decide)).trans ((tab_miss (by decide)).trans ((tab_miss (by decide)).trans ((tab_miss (by decide)).trans ((tab_miss (by decide)).trans ((tab_miss (by decide)).trans ((tab_miss (by decide)).trans ((tab_miss (by decide)).trans (tab_hit.trans (least33_cN (rX.at (by decide) (cfs_free0 h_X) (fun id hid => by (repeat (first | rw [Tr.get_set, if_neg (by omega)] | rw [hx16 _ (by omega)] | rw [hx13 _ (by omega)] | rw [hxS12 _ (by omega)] | rw [hxS10 _ (by omega)] | rw [hx9 _ (by omega)] | rw [hx8 _ (by omega)] | rw [hx7 _ (by omega)] | rw [hxS6 _ (by omega)] | rw [hxb5 _ (by omega)] | rw [hxS2 _ (by omega)] | rw [hx1 _ (by omega)])) <;> first | rfl | assumption | (rw [Tr.get_set, if_pos (by omega)]; done) | (rw [Tr.get_set, if_pos (by omega)]; rfl))) h_X hXb3 ho))))))))))))) (fun v17 t17 nx17 qa17 qb17 hx17 rN => ?_)
      rw [leastF_eq ho] at rN
      refine os (x_move rfl za) ?_
      refine os (x_extract rfl za rfl) ?_
      refine os (x_extract rfl za rfl) ?_
      refine os (x_assign rfl za) ?_
      refine os (x_assign rfl za) ?_
      refine o_done ?_
      refine e_seq ?_
      refine k_seq ?_
      refine k_region hP hC ?_
      refine os (x_move rfl za) ?_
      refine os (x_move rfl za) ?_
      refine os (x_bin (u := .bool false) rfl za za (by rw [b_neq]; rfl)) ?_
      refine os (x_move rfl za) ?_
      refine o_step (wA_on rfl rfl (by simp only [Tr.get_set, reduceIte, Nat.reduceEqDiff, Nat.reduceAdd, g8] <;> rfl)) rfl (x_move rfl za) (by decide) ?_
      refine o_step (wA_on rfl rfl (by simp only [Tr.get_set, reduceIte, Nat.reduceEqDiff, Nat.reduceAdd, g8] <;> rfl)) rfl (x_move rfl za) (by decide) ?_
      refine o_call0 (wA_on rfl rfl (by simp only [Tr.get_set, reduceIte, Nat.reduceEqDiff, Nat.reduceAdd, g8] <;> rfl)) rfl rfl rfl (by simp only [evs, ev_tmp, Tr.get_set, reduceIte, Nat.reduceEqDiff, Nat.reduceAdd, he13_2, he13_12, he13_13, he13_15, he13_16, g8] <;> rfl) (by decide) ?_
      refine ⟨_, _, ((tab_miss (by decide)).trans ((tab_miss (by decide)).trans ((tab_miss (by decide)).trans ((tab_miss (by decide)).trans ((tab_miss (by decide)).trans ((tab_miss (by decide)).trans ((tab_miss (by decide)).trans ((tab_miss (by decide)).trans ((tab_miss (by decide)).trans ((tab_miss (by decide)).trans ((tab_miss (by decide)).trans ((tab_miss (by decide)).trans (tab_hit.trans (same01_cT (rM.at (by decide) (ints_free0 _) (fun id hid => by (repeat (first | rw [Tr.get_set, if_neg (by omega)] | rw [hx17 _ (by omega)] | rw [hx16 _ (by omega)] | rw [hx13 _ (by omega)] | rw [hxS12 _ (by omega)] | rw [hxS10 _ (by omega)] | rw [hx9 _ (by omega)] | rw [hx8 _ (by omega)] | rw [hx7 _ (by omega)] | rw [hxS6 _ (by omega)] | rw [hxb5 _ (by omega)] | rw [hxS2 _ (by omega)] | rw [hx1 _ (by omega)])) <;> first | rfl | assumption | (rw [Tr.get_set, if_pos (by omega)]; done) | (rw [Tr.get_set, if_pos (by omega)]; rfl))) (rN.at (by decide) (ints_free0 _) (fun id hid => by (repeat (first | rw [Tr.get_set, if_neg (by omega)] | rw [hx17 _ (by omega)] | rw [hx16 _ (by omega)] | rw [hx13 _ (by omega)] | rw [hxS12 _ (by omega)] | rw [hxS10 _ (by omega)] | rw [hx9 _ (by omega)] | rw [hx8 _ (by omega)] | rw [hx7 _ (by omega)] | rw [hxS6 _ (by omega)] | rw [hxb5 _ (by omega)] | rw [hxS2 _ (by omega)] | rw [hx1 _ (by omega)])) <;> first | rfl | assumption | (rw [Tr.get_set, if_pos (by omega)]; done) | (rw [Tr.get_set, if_pos (by omega)]; rfl))) (by have := @least_len6 X; omega) rfl)))))))))))))), ?_⟩
      refine o_step (wA_on rfl rfl (by simp only [Tr.get_set, reduceIte, Nat.reduceEqDiff, Nat.reduceAdd, g8] <;> rfl)) rfl (x_notT rfl (by simp only [Tr.get_set, reduceIte, Nat.reduceEqDiff, Nat.reduceAdd, ev_tmp, g8] <;> rfl)) (by decide) ?_
      refine os (x_pick rfl (by simp only [Tr.get_set, reduceIte, Nat.reduceEqDiff, Nat.reduceAdd, ev_tmp, g8] <;> rfl) (by simp only [if_true, if_false, Bool.false_eq_true, ev_tmp, Tr.get_set, reduceIte, Nat.reduceEqDiff, Nat.reduceAdd, g8]; rfl)) ?_
      refine o_done ?_
      refine e_seq ?_
      refine k_condF (by simp only [Tr.get_set, reduceIte, Nat.reduceEqDiff, Nat.reduceAdd, ev_tmp, g8] <;> rfl) ?_
      refine k_skip ?_
      refine e_block ?_
      refine e_seq ?_
      refine k_region hP hC ?_
      refine os (x_move rfl za) ?_
      refine os (x_bin rfl za (by rfl) b_add) ?_
      refine os (x_assign rfl za) ?_
      refine o_done ?_
      refine e_loop ?_
      have hw2 : IntKind.i64.wrap (i + 1) = i + 1 := wr1 (by omega) (by omega)
      refine ⟨IntKind.i64.wrap (i + 1), ⟨_, _, _, _, rfl, za, za, za, by rw [hw2]; omega, by rw [hw2]; omega, by omega, by rw [hw2]; omega, by omega, by omega, fun id hid => by (repeat (first | rw [Tr.get_set, if_neg (by omega)] | rw [hx17 _ (by omega)] | rw [hx16 _ (by omega)] | rw [hx13 _ (by omega)] | rw [hxS12 _ (by omega)] | rw [hxS10 _ (by omega)] | rw [hx9 _ (by omega)] | rw [hx8 _ (by omega)] | rw [hx7 _ (by omega)] | rw [hxS6 _ (by omega)] | rw [hxb5 _ (by omega)] | rw [hxS2 _ (by omega)] | rw [hx1 _ (by omega)])) <;> first | rfl | assumption | (rw [Tr.get_set, if_pos (by omega)]; done) | (rw [Tr.get_set, if_pos (by omega)]; rfl)⟩, ?_⟩
      ·show (2 - IntKind.i64.wrap (i + 1)).toNat < (2 - i).toNat; rw [hw2]; omega
     ·skip
      refine k_region hP hC ?_
      refine os (x_move rfl za) ?_
      refine os (x_move rfl za) ?_
      refine os (x_index rfl za za Try.underlying27 T.s23 (by omega) (by omega)) ?_
      refine os (x_load1 rfl za T.g23 (l_cell (by (repeat (first | rw [Tr.get_set, if_neg (by omega)] | rw [hx13 _ (by omega)] | rw [hxS12 _ (by omega)] | rw [hxS10 _ (by omega)] | rw [hx9 _ (by omega)] | rw [hx8 _ (by omega)] | rw [hx7 _ (by omega)] | rw [hxS6 _ (by omega)] | rw [hxb5 _ (by omega)] | rw [hxS2 _ (by omega)] | rw [hx1 _ (by omega)])) <;> first | rfl | assumption | (rw [Tr.get_set, if_pos (by omega)]; done) | (rw [Tr.get_set, if_pos (by omega)]; rfl)) rfl hvX)) ?_
      refine o_call0 (wA_none rfl) rfl rfl rfl (by simp only [evs, ev_tmp, Tr.get_set, reduceIte, Nat.reduceEqDiff, Nat.reduceAdd, he13_2, he13_12, he13_13, he13_15, he13_16, g8] <;> rfl) (by decide) ?_
      refine ⟨_, _, ((tab_miss (by decide)).trans ((tab_miss (by decide)).trans ((tab_miss (by decide)).trans ((tab_miss (by decide)).trans ((tab_miss (by decide)).trans ((tab_miss (by decide)).trans ((tab_miss (by decide)).trans ((tab_miss (by decide)).trans ((tab_miss (by decide)).trans ((tab_miss (by decide)).trans (tab_hit.trans (least_cO (rX.at (by decide) (cfs_free0 h_X) (fun id hid => by (repeat (first | rw [Tr.get_set, if_neg (by omega)] | rw [hx13 _ (by omega)] | rw [hxS12 _ (by omega)] | rw [hxS10 _ (by omega)] | rw [hx9 _ (by omega)] | rw [hx8 _ (by omega)] | rw [hx7 _ (by omega)] | rw [hxS6 _ (by omega)] | rw [hxb5 _ (by omega)] | rw [hxS2 _ (by omega)] | rw [hx1 _ (by omega)])) <;> first | rfl | assumption | (rw [Tr.get_set, if_pos (by omega)]; done) | (rw [Tr.get_set, if_pos (by omega)]; rfl))) h_X hXb3 ho)))))))))))), ?_⟩
      refine os (x_move rfl za) ?_
      refine os (x_extract rfl za rfl) ?_
      refine os (x_extract rfl za rfl) ?_
      refine os (x_assign rfl za) ?_
      refine os (x_assign rfl za) ?_
      refine o_done ?_
      refine e_seq ?_
      refine k_seq ?_
      refine k_region hP hC ?_
      refine os (x_move rfl za) ?_
      refine os (x_move rfl za) ?_
      refine os (x_index rfl za za Try.underlying27 T.s23 (by omega) (by omega)) ?_
      refine os (x_load1 rfl za T.g23 (l_cell (by (repeat (first | rw [Tr.get_set, if_neg (by omega)] | rw [hx13 _ (by omega)] | rw [hxS12 _ (by omega)] | rw [hxS10 _ (by omega)] | rw [hx9 _ (by omega)] | rw [hx8 _ (by omega)] | rw [hx7 _ (by omega)] | rw [hxS6 _ (by omega)] | rw [hxb5 _ (by omega)] | rw [hxS2 _ (by omega)] | rw [hx1 _ (by omega)])) <;> first | rfl | assumption | (rw [Tr.get_set, if_pos (by omega)]; done) | (rw [Tr.get_set, if_pos (by omega)]; rfl)) rfl hvX)) ?_
      refine o_call0 (wA_none rfl) rfl rfl rfl (by simp only [evs, ev_tmp, Tr.get_set, reduceIte, Nat.reduceEqDiff, Nat.reduceAdd, he13_2, he13_12, he13_13, he13_15, he13_16, g8] <;> rfl) (by decide) ?_
      refine ⟨_, _, ((tab_miss (by decide)).trans ((tab_miss (by decide)).trans ((tab_miss (by decide)).trans ((tab_miss (by decide)).trans ((tab_miss (by decide)).trans ((tab_miss (by decide)).trans ((tab_miss (by decide)).trans ((tab_miss (by decide)).trans ((tab_miss (by decide)).trans ((tab_miss (by decide)).trans ((tab_miss (by decide)).trans (tab_hit.trans (least33_cO (rX.at (by decide) (cfs_free0 h_X) (fun id hid => by (repeat (first | rw [Tr.get_set, if_neg (by omega)] | rw [hx13 _ (by omega)] | rw [hxS12 _ (by omega)] | rw [hxS10 _ (by omega)] | rw [hx9 _ (by omega)] | rw [hx8 _ (by omega)] | rw [hx7 _ (by omega)] | rw [hxS6 _ (by omega)] | rw [hxb5 _ (by omega)] | rw [hxS2 _ (by omega)] | rw [hx1 _ (by omega)])) <;> first | rfl | assumption | (rw [Tr.get_set, if_pos (by omega)]; done) | (rw [Tr.get_set, if_pos (by omega)]; rfl))) h_X hXb3 ho))))))))))))), ?_⟩
      refine os (x_move rfl za) ?_
      refine os (x_extract rfl za rfl) ?_
      refine os (x_extract rfl za rfl) ?_
      refine os (x_assign rfl za) ?_
      refine os (x_assign rfl za) ?_
      refine o_done ?_
      refine e_seq ?_
      refine k_seq ?_
      refine k_region hP hC ?_
      refine os (x_move rfl za) ?_
      refine os (x_move rfl za) ?_
      refine os (x_bin (u := .bool false) rfl za za (by rw [b_neq]; rfl)) ?_
      refine os (x_move rfl za) ?_
      refine o_step (wA_on rfl rfl (by simp only [Tr.get_set, reduceIte, Nat.reduceEqDiff, Nat.reduceAdd, g8] <;> rfl)) rfl (x_move rfl za) (by decide) ?_
      refine o_step (wA_on rfl rfl (by simp only [Tr.get_set, reduceIte, Nat.reduceEqDiff, Nat.reduceAdd, g8] <;> rfl)) rfl (x_move rfl za) (by decide) ?_
      refine o_call0 (wA_on rfl rfl (by simp only [Tr.get_set, reduceIte, Nat.reduceEqDiff, Nat.reduceAdd, g8] <;> rfl)) rfl rfl rfl (by simp only [evs, ev_tmp, Tr.get_set, reduceIte, Nat.reduceEqDiff, Nat.reduceAdd, he13_2, he13_12, he13_13, he13_15, he13_16, g8] <;> rfl) (by decide) ?_
      refine ⟨_, _, ((tab_miss (by decide)).trans ((tab_miss (by decide)).trans ((tab_miss (by decide)).trans ((tab_miss (by decide)).trans ((tab_miss (by decide)).trans ((tab_miss (by decide)).trans ((tab_miss (by decide)).trans ((tab_miss (by decide)).trans ((tab_miss (by decide)).trans ((tab_miss (by decide)).trans ((tab_miss (by decide)).trans ((tab_miss (by decide)).trans (tab_hit.trans (same01_cT (l := []) (m := []) (rd_nil (k := 1)) (rd_nil (k := 1)) (by decide) rfl)))))))))))))), ?_⟩
      refine o_step (wA_on rfl rfl (by simp only [Tr.get_set, reduceIte, Nat.reduceEqDiff, Nat.reduceAdd, g8] <;> rfl)) rfl (x_notT rfl (by simp only [Tr.get_set, reduceIte, Nat.reduceEqDiff, Nat.reduceAdd, ev_tmp, g8] <;> rfl)) (by decide) ?_
      refine os (x_pick rfl (by simp only [Tr.get_set, reduceIte, Nat.reduceEqDiff, Nat.reduceAdd, ev_tmp, g8] <;> rfl) (by simp only [if_true, if_false, Bool.false_eq_true, ev_tmp, Tr.get_set, reduceIte, Nat.reduceEqDiff, Nat.reduceAdd, g8]; rfl)) ?_
      refine o_done ?_
      refine e_seq ?_
      refine k_condF (by simp only [Tr.get_set, reduceIte, Nat.reduceEqDiff, Nat.reduceAdd, ev_tmp, g8] <;> rfl) ?_
      refine k_skip ?_
      refine e_block ?_
      refine e_seq ?_
      refine k_region hP hC ?_
      refine os (x_move rfl za) ?_
      refine os (x_bin rfl za (by rfl) b_add) ?_
      refine os (x_assign rfl za) ?_
      refine o_done ?_
      refine e_loop ?_
      have hw2 : IntKind.i64.wrap (i + 1) = i + 1 := wr1 (by omega) (by omega)
      refine ⟨IntKind.i64.wrap (i + 1), ⟨_, _, _, _, rfl, za, za, za, by rw [hw2]; omega, by rw [hw2]; omega, by omega, by rw [hw2]; omega, by omega, by omega, fun id hid => by (repeat (first | rw [Tr.get_set, if_neg (by omega)] | rw [hx13 _ (by omega)] | rw [hxS12 _ (by omega)] | rw [hxS10 _ (by omega)] | rw [hx9 _ (by omega)] | rw [hx8 _ (by omega)] | rw [hx7 _ (by omega)] | rw [hxS6 _ (by omega)] | rw [hxb5 _ (by omega)] | rw [hxS2 _ (by omega)] | rw [hx1 _ (by omega)])) <;> first | rfl | assumption | (rw [Tr.get_set, if_pos (by omega)]; done) | (rw [Tr.get_set, if_pos (by omega)]; rfl)⟩, ?_⟩
      ·show (2 - IntKind.i64.wrap (i + 1)).toNat < (2 - i).toNat; rw [hw2]; omega
  ·have p2 := g2; try simp only [d1, d2, d3, d4, d5, d6, d7, d8, d9] at p2
   refine k_exit ?_
   refine e_seq_exit ?_
   refine e_loop_exit ?_
   refine e_block_eq ?_
   refine e_seq ?_
   refine k_seq ?_
   refine k_region hP hC ?_
   refine o_call0 (wA_none rfl) rfl rfl rfl (by simp only [evs, ev_tmp, Tr.get_set, reduceIte, Nat.reduceEqDiff, Nat.reduceAdd, he7_2, he7_12, he7_13, g2] <;> rfl) (by decide) ?_
   refine ⟨_, _, ((tab_miss (by decide)).trans ((tab_miss (by decide)).trans ((tab_miss (by decide)).trans ((tab_miss (by decide)).trans ((tab_miss (by decide)).trans ((tab_miss (by decide)).trans ((tab_miss (by decide)).trans ((tab_miss (by decide)).trans ((tab_miss (by decide)).trans ((tab_miss (by decide)).trans ((tab_miss (by decide)).trans ((tab_miss (by decide)).trans ((tab_miss (by decide)).trans (tab_hit.trans lives_c)))))))))))))), ?_⟩
   refine os (x_assign rfl za) ?_
   refine o_done ?_
   refine e_seq ?_
   refine k_ret ?_
   exact gives_mk2 (L := [0, 1]) (w := 2) (.inr rfl) gcOk_two (by simp only [Try.results3, resA, Tr.get_set, reduceIte, Nat.reduceEqDiff, Nat.reduceAdd, he7_2, he7_12, he7_13, g2] <;> rfl) (by rfl) (gcH_cons (gcO_old (by simp only [Bool.and_eq_true, Nat.blt_eq]; exact ⟨by show _ < 2; decide, by show _ < _; omega⟩) (by (repeat (first | rw [Tr.get_set, if_neg (by omega)] | rw [hx7 _ (by omega)] | rw [hxS6 _ (by omega)] | rw [hxb5 _ (by omega)] | rw [hxS2 _ (by omega)] | rw [hx1 _ (by omega)])) <;> first | rfl | assumption | (rw [Tr.get_set, if_pos (by omega)]; done) | (rw [Tr.get_set, if_pos (by omega)]; rfl))) (gcH_cons (gcO_old (by simp only [Bool.and_eq_true, Nat.blt_eq]; exact ⟨by show _ < 2; decide, by show _ < _; omega⟩) (by (repeat (first | rw [Tr.get_set, if_neg (by omega)] | rw [hx7 _ (by omega)] | rw [hxS6 _ (by omega)] | rw [hxb5 _ (by omega)] | rw [hxS2 _ (by omega)] | rw [hx1 _ (by omega)])) <;> first | rfl | assumption | (rw [Tr.get_set, if_pos (by omega)]; done) | (rw [Tr.get_set, if_pos (by omega)]; rfl))) gcH_nil)) (Nat.ble_eq_true_of_le (by first | omega | (dsimp only; omega)))
end Go.Proofs.Ytohhcnehcjpekaa
