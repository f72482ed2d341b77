/-
  Contracts: checking of a finding.
-/
import Derived.Test.YtohhcnehcjpekaaJJd
namespace Go.Proofs.Ytohhcnehcjpekaa
open Go.AM
set_option maxRecDepth 100000
set_option maxHeartbeats 1000000
set_option linter.unusedSimpArgs false
set_option linter.unusedVariables false
def chkG (L R : List (List Value)) (w a : List Int) (j : Int) : Bool := decide (0 ≤ ith a j) && decide (ith a j < L.length) && decide (wkr (nth L (ith a j)) = ith w j) && !eqCs (resC (nth L (ith a j))) (nth R (ith a j))
def checkE (L R : List (List Value)) (w a : List Int) : Int := if judgeE L R ≠ 0 then judgeE L R else if w = judgeW L R ∧ a.length = w.length ∧ (List.range a.length).all (fun (j : Nat) => chkG L R w a j) = true then 0 else 17
theorem checkE_err {L R : List (List Value)} {w a : List Int} (h : judgeE L R ≠ 0) : checkE L R w a = judgeE L R := by unfold checkE; rw [if_pos h]
theorem checkE_17 {L R : List (List Value)} {w a : List Int} (h : judgeE L R = 0) (h2 : ¬ w = judgeW L R ∨ ¬ (a.length : Int) = w.length) : checkE L R w a = 17 := by
 unfold checkE
 rw [if_neg ow, if_neg]
 rintro ⟨e1, e2, -⟩
 rcases h2 with h2 | h2
 ·exact h2 e1
 ·omega
theorem checkE_bad {L R : List (List Value)} {w a : List Int} {j : Int} (h : judgeE L R = 0) (h0 : 0 ≤ j) (h1 : j < a.length) (h2 : chkG L R w a j = false) : checkE L R w a = 17 := by
 unfold checkE
 rw [if_neg ow, if_neg]
 rintro ⟨-, -, e⟩
 rw [List.all_eq_true] at e
 have := e j.toNat (List.mem_range.2 ow)
 rw [show ((j.toNat : Nat) : Int) = j by omega, h2] at this
 cases this
theorem checkE_ok {L R : List (List Value)} {w a : List Int} (h : judgeE L R = 0) (h1 : w = judgeW L R) (h2 : (a.length : Int) = w.length) (h3 : ∀ j : Int, 0 ≤ j → j < a.length → chkG L R w a j = true) : checkE L R w a = 0 := by
 unfold checkE
 rw [if_neg ow, if_pos ⟨h1, by omega, List.all_eq_true.2 fun x hx => h3 x ow (by have := List.mem_range.1 hx; omega)⟩]
theorem judgeE_len {L R : List (List Value)} (h : judgeE L R = 0) : (R.length : Int) = L.length := by
 unfold judgeE at h
 split at h
 ·rename_i hc
  rw [Bool.and_eq_true, decide_eq_true_eq] at hc
  omega
 ·omega
theorem chk_1 {L R : List (List Value)} {w a : List Int} {j : Int} (h : ith a j < 0) : chkG L R w a j = false := by unfold chkG; rw [decide_eq_false ow]; rfl
theorem chk_2 {L R : List (List Value)} {w a : List Int} {j : Int} (h : (L.length : Int) ≤ ith a j) : chkG L R w a j = false := by unfold chkG; rw [decide_eq_false (p := ith a j < L.length) ow]; simp
theorem chk_3 {L R : List (List Value)} {w a : List Int} {j : Int} (h : ¬ wkr (nth L (ith a j)) = ith w j) : chkG L R w a j = false := by unfold chkG; rw [decide_eq_false h]; simp
theorem chk_4 {L R : List (List Value)} {w a : List Int} {j : Int} (h : eqCs (resC (nth L (ith a j))) (nth R (ith a j)) = true) : chkG L R w a j = false := by unfold chkG; rw [h]; simp
theorem chk_y {L R : List (List Value)} {w a : List Int} {j : Int} (h0 : 0 ≤ ith a j) (h1 : ith a j < L.length) (h2 : wkr (nth L (ith a j)) = ith w j) (h3 : eqCs (resC (nth L (ith a j))) (nth R (ith a j)) = false) : chkG L R w a j = true := by unfold chkG; rw [decide_eq_true h0, decide_eq_true h1, decide_eq_true h2, h3]; rfl
theorem chk_step {L R : List (List Value)} {w a : List Int} {i : Int} (h : ∀ j : Int, 0 ≤ j → j < i → chkG L R w a j = true) (h2 : chkG L R w a i = true) : ∀ j : Int, 0 ≤ j → j < i + 1 → chkG L R w a j = true := by
 intro j h3 h4
 rcases Int.lt_or_le j i with h5 | h5
 ·exact h j h3 h5
 ·rw [show j = i by omega]; exact h2
def ok_check (L : List (List Value)) (R : List (List Value)) (w : List Int) (a : List Int) : Bool := decide (L.length ≤ 1000) && decide (w.length < 4611686018427387904) && decide (a.length < 4611686018427387904)
def val_check (L : List (List Value)) (R : List (List Value)) (w : List Int) (a : List Int) : Value := .int .i64 (checkE L R w a)
def new_check (L : List (List Value)) (R : List (List Value)) (w : List Int) (a : List Int) : List (List Value) := []
def spec_check : Go.AM.Spec := fun us cs => match us, cs with
 | [s_L, s_R, .agg ⟨[s_w, s_a]⟩], [c_L, c_R, c_w, c_a] => if slOk 0 46 c_L s_L && isRows T.K43 c_L && slOk 1 22 c_R s_R && isRows T.K41 c_R && slOk 2 1 c_w s_w && isInts c_w && slOk 3 1 c_a s_a && isInts c_a && ok_check (chunks 46 c_L) (chunks 22 c_R) (unints c_w) (unints c_a) then some (val_check (chunks 46 c_L) (chunks 22 c_R) (unints c_w) (unints c_a), new_check (chunks 46 c_L) (chunks 22 c_R) (unints c_w) (unints c_a)) else none
 | _, _ => none
def c_check := flatC [.sl 46, .sl 22, .ag [1, 1]] spec_check
theorem check_m {s_L : Value} {s_R : Value} {s_w : Value} {s_a : Value} {L : List (List Value)} {R : List (List Value)} {w : List Int} {a : List Int} (hs_L : Sl 0 46 L.length s_L) (h_L : cfs T.K43 L) (hs_R : Sl 1 22 R.length s_R) (h_R : cfs T.K41 R) (hs_w : Sl 2 1 w.length s_w) (hs_a : Sl 3 1 a.length s_a) (hok : ok_check L R w a = true) : Meets Try.prog (.func 26) [s_L, s_R, .agg ⟨[s_w, s_a]⟩] (cheap [L.flatten, R.flatten, ints w, ints a]) (val_check L R w a) (rheap [L.flatten, R.flatten, ints w, ints a] (new_check L R w a)) := by
 have hP := Fits
 have hC : CallSound Try.prog (tabOf [(23, c_judge), (46, c_equal)]) := tab_sound (tab_cons con_judge (tab_cons con_equal tab_end))
 simp only [ok_check, Bool.and_eq_true, decide_eq_true_eq] at hok
 obtain ⟨⟨hb, hw⟩, ha⟩ := hok
 refine meets_start (sz := 77) hP Try.func26 rfl rfl zo (by simp only [Tr.ofList, roRows, Nat.zero_add, Nat.reduceAdd] <;> rfl) zl ?_
 rcases Decidable.em (judgeE L R ≠ 0) with hE | hE
 ·skip
  have hWz : (judgeW L R).length = 0 := by unfold judgeW; rw [if_neg hE]; rfl
  ·skip
   have hWn : judgeW L R = [] := List.eq_nil_of_length_eq_zero hWz
   ·skip
    refine k_seq ?_
    refine k_region hP hC ?_
    refine os (y_boxA rfl zt) ?_
    refine os (x_assign rfl (by rfl)) ?_
    refine o_done ?_
    refine e_seq ?_
    refine k_seq ?_
    refine k_region hP hC ?_
    refine os (x_move rfl zt) ?_
    refine os (x_move rfl zt) ?_
    refine o_call0 (wA_none rfl) rfl rfl rfl zv zd ?_
    refine ⟨_, _, ((tab_hit.trans (judge_c (rd_sl hs_L zd (whole_row zh rfl) (cfs_len h_L).symm (cfs_free0 h_L)) h_L (rd_sl hs_R zd (whole_row zh rfl) (cfs_len h_R).symm (cfs_free0 h_R)) h_R (by rw [ok_judge, decide_eq_true hb]))).trans (jout0 hWz judge_len)), ?_⟩
    refine os (x_move rfl zt) ?_
    refine os (x_extract rfl zt rfl) ?_
    refine os (x_extract rfl zt rfl) ?_
    refine os (y_alloc rfl T.z56 rfl rfl) ?_
    refine o_stepN (wA_none rfl) rfl (y_storeA rfl zt zt T.s56 rfl zh rfl rfl rfl) ?_
    refine os (x_assign rfl zt) ?_
    refine o_done ?_
    refine e_seq ?_
    refine k_seq ?_
    refine k_seq ?_
    refine k_region hP hC ?_
    refine os (x_move rfl zt) ?_
    refine os (x_bin (u := .bool true) rfl zt zt (by rw [b_neq]; congr 2; simpa using hE)) ?_
    refine o_done ?_
    refine e_seq ?_
    refine k_condT zt ?_
    refine k_seq ?_
    refine k_region hP hC ?_
    refine os (x_move rfl zt) ?_
    refine os (x_assign rfl zt) ?_
    refine o_done ?_
    refine e_seq ?_
    refine k_ret ?_
    refine e_seq_ret ?_
    have hV : checkE L R w a = judgeE L R := checkE_err hE
    refine gives_mk (L := [0, 1, 2, 3]) (slots := [6]) (w := 4) (.inr rfl) zr (gcVs_cons zh (gcV_free rfl) gcVs_nil) (gcH_cons (gcO_old (by rfl) zh) (gcH_cons (gcO_old (by rfl) zh) (gcH_cons (gcO_old (by rfl) zh) (gcH_cons (gcO_old (by rfl) zh) gcH_nil)))) zr (by simp only [Try.results26, resA, cst, mkE, Tr.get_set, reduceIte, Nat.reduceEqDiff, Nat.reduceAdd] <;> rfl) ?_
    simp only [one, val_check]; rw [hV]
 ·skip
  have hE : judgeE L R = 0 := by omega
  have hRL := judgeE_len hE
  rcases Nat.eq_zero_or_pos (judgeW L R).length with hWz | hWp
  ·skip
   have hWn : judgeW L R = [] := List.eq_nil_of_length_eq_zero hWz
   ·skip
    refine k_seq ?_
    refine k_region hP hC ?_
    refine os (y_boxA rfl zt) ?_
    refine os (x_assign rfl (by rfl)) ?_
    refine o_done ?_
    refine e_seq ?_
    refine k_seq ?_
    refine k_region hP hC ?_
    refine os (x_move rfl zt) ?_
    refine os (x_move rfl zt) ?_
    refine o_call0 (wA_none rfl) rfl rfl rfl zv zd ?_
    refine ⟨_, _, ((tab_hit.trans (judge_c (rd_sl hs_L zd (whole_row zh rfl) (cfs_len h_L).symm (cfs_free0 h_L)) h_L (rd_sl hs_R zd (whole_row zh rfl) (cfs_len h_R).symm (cfs_free0 h_R)) h_R (by rw [ok_judge, decide_eq_true hb]))).trans (jout0 hWz judge_len)), ?_⟩
    refine os (x_move rfl zt) ?_
    refine os (x_extract rfl zt rfl) ?_
    refine os (x_extract rfl zt rfl) ?_
    refine os (y_alloc rfl T.z56 rfl rfl) ?_
    refine o_stepN (wA_none rfl) rfl (y_storeA rfl zt zt T.s56 rfl zh rfl rfl rfl) ?_
    refine os (x_assign rfl zt) ?_
    refine o_done ?_
    refine e_seq ?_
    refine k_seq ?_
    refine k_seq ?_
    refine k_region hP hC ?_
    refine os (x_move rfl zt) ?_
    refine os (x_bin (u := .bool false) rfl zt zt (by rw [b_neq]; congr 2; simpa using hE)) ?_
    refine o_done ?_
    refine e_seq ?_
    refine k_condF zt ?_
    refine k_skip ?_
    refine e_seq ?_
    refine k_seq ?_
    refine k_seq ?_
    refine k_region hP hC ?_
    refine os (x_field (off' := 0) rfl zt Try.underlying56 rfl T.s22 rfl) ?_
    refine os (x_load1 rfl zt T.g22 (by first | exact l_boxI (whole_row zh rfl) (by (first | assumption | (exact cf_nth zs ow ow))) rfl | exact l_boxS (whole_row zh rfl) (by (first | assumption | (exact cf_nth zs ow ow))) rfl | (simp only [loadC, AH.fam, Tr.get_set, reduceIte, Nat.reduceEqDiff, Nat.reduceAdd, Fam.rb, List.drop_zero, List.drop_succ_cons, List.take_succ_cons, List.take_zero, List.length_cons, List.length_nil, Nat.zero_le, Nat.reduceLeDiff, and_self, true_and] <;> rfl))) ?_
    refine os (x_field (off' := 0) rfl zt Try.underlying56 rfl T.s22 rfl) ?_
    refine os (x_load1' rfl zt T.g22 zh rfl (Nat.le_of_ble_eq_true rfl) (by simp only [List.take_succ_cons, List.drop_succ_cons, List.take_zero, List.drop_zero, List.take_nil, List.drop_nil, List.cons_append, List.nil_append, List.append_nil, List.length_cons, List.length_nil, Nat.reduceAdd, Int.toNat_zero, Nat.zero_mul, Nat.add_zero, Nat.zero_add] <;> rfl)) ?_
    refine o_call0 (wA_none rfl) rfl rfl rfl zv zd ?_
    refine ⟨_, _, ((tab_miss zd).trans (tab_hit.trans (equal_c (m := []) (rd_sl hs_w zd (whole_row zh rfl) (by rw [ints_len, Nat.mul_one]) (ints_free0 _)) (rd_nil (k := 1)) (by rw [ok_equal, decide_eq_true hw])))), ?_⟩
    refine os (x_not rfl zt) ?_
    refine os (x_move rfl zt) ?_
    refine o_guard rfl rfl zh (fun g3 => ?_) (fun g3 => ?_)
    ·have p3 := g3; try simp only [d1, d2, d3, d4, d5, d6, d7, d8, d9] at p3
     refine o_skip (wA_off rfl rfl zg) rfl zd ?_
     refine o_skip (wA_off rfl rfl zg) rfl zd ?_
     refine o_skip (wA_off rfl rfl zg) rfl zd ?_
     refine o_skip (wA_off rfl rfl zg) rfl zd ?_
     refine o_skip (wA_off rfl rfl zg) rfl zd ?_
     refine o_skip (wA_off rfl rfl zg) rfl zd ?_
     refine o_skip (wA_off rfl rfl zg) rfl zd ?_
     refine os (x_pick rfl zg zb) ?_
     refine o_done ?_
     refine e_seq ?_
     refine k_condT zg ?_
     refine k_seq ?_
     refine k_region hP hC ?_
     refine os (x_assign rfl (by rfl)) ?_
     refine o_done ?_
     refine e_seq ?_
     refine k_ret ?_
     refine e_seq_ret ?_
     have hV : checkE L R w a = 17 := checkE_17 hE (by first | exact .inl zs | exact .inr zs | (rw [hWn]; exact .inl zs))
     refine gives_mk (L := [0, 1, 2, 3]) (slots := [6]) (w := 4) (.inr rfl) zr (gcVs_cons zh (gcV_free rfl) gcVs_nil) (gcH_cons (gcO_old (by rfl) zh) (gcH_cons (gcO_old (by rfl) zh) (gcH_cons (gcO_old (by rfl) zh) (gcH_cons (gcO_old (by rfl) zh) gcH_nil)))) zr (by simp only [Try.results26, resA, cst, mkE, Tr.get_set, reduceIte, Nat.reduceEqDiff, Nat.reduceAdd] <;> rfl) ?_
     simp only [one, val_check]; rw [hV]
    ·have p3 := g3; try simp only [d1, d2, d3, d4, d5, d6, d7, d8, d9] at p3
     refine o_step (wA_on rfl rfl zg) rfl (x_field (off' := 1) rfl zt Try.underlying56 rfl T.s22 rfl) zd ?_
     refine o_step (wA_on rfl rfl zg) rfl (x_load1 rfl zt T.g22 (by first | exact l_boxI (whole_row zh rfl) (by (first | assumption | (exact cf_nth zs ow ow))) rfl | exact l_boxS (whole_row zh rfl) (by (first | assumption | (exact cf_nth zs ow ow))) rfl | (simp only [loadC, AH.fam, Tr.get_set, reduceIte, Nat.reduceEqDiff, Nat.reduceAdd, Fam.rb, List.drop_zero, List.drop_succ_cons, List.take_succ_cons, List.take_zero, List.length_cons, List.length_nil, Nat.zero_le, Nat.reduceLeDiff, and_self, true_and] <;> rfl))) zd ?_
     refine o_step (wA_on rfl rfl zg) rfl (x_lenS hs_a rfl rfl zv rfl Try.underlying22) zd ?_
     refine o_step (wA_on rfl rfl zg) rfl (x_field (off' := 0) rfl zt Try.underlying56 rfl T.s22 rfl) zd ?_
     refine o_step (wA_on rfl rfl zg) rfl (x_load1 rfl zt T.g22 (by first | exact l_boxI (whole_row zh rfl) (by (first | assumption | (exact cf_nth zs ow ow))) rfl | exact l_boxS (whole_row zh rfl) (by (first | assumption | (exact cf_nth zs ow ow))) rfl | (simp only [loadC, AH.fam, Tr.get_set, reduceIte, Nat.reduceEqDiff, Nat.reduceAdd, Fam.rb, List.drop_zero, List.drop_succ_cons, List.take_succ_cons, List.take_zero, List.length_cons, List.length_nil, Nat.zero_le, Nat.reduceLeDiff, and_self, true_and] <;> rfl))) zd ?_
     refine o_step (wA_on rfl rfl zg) rfl (x_lenS hs_w rfl rfl zv rfl Try.underlying22) zd ?_
     refine o_step (wA_on rfl rfl zg) rfl (x_bin rfl zt zt b_neq) zd ?_
     refine os (x_pick rfl zg zb) ?_
     refine o_done ?_
     refine e_seq ?_
     refine k_cond (by simp only [Tr.get_set, reduceIte, Nat.reduceEqDiff, Nat.reduceAdd, ev_tmp, g3] <;> rfl) (fun g5 => ?_) (fun g5 => ?_)
     ·have p5 := g5; try simp only [d1, d2, d3, d4, d5, d6, d7, d8, d9] at p5
      refine k_seq ?_
      refine k_region hP hC ?_
      refine os (x_assign rfl (by rfl)) ?_
      refine o_done ?_
      refine e_seq ?_
      refine k_ret ?_
      refine e_seq_ret ?_
      have hV : checkE L R w a = 17 := checkE_17 hE (by first | exact .inl zs | exact .inr zs | (rw [hWn]; exact .inl zs))
      refine gives_mk (L := [0, 1, 2, 3]) (slots := [6]) (w := 4) (.inr rfl) zr (gcVs_cons zh (gcV_free rfl) gcVs_nil) (gcH_cons (gcO_old (by rfl) zh) (gcH_cons (gcO_old (by rfl) zh) (gcH_cons (gcO_old (by rfl) zh) (gcH_cons (gcO_old (by rfl) zh) gcH_nil)))) zr (by simp only [Try.results26, resA, cst, mkE, Tr.get_set, reduceIte, Nat.reduceEqDiff, Nat.reduceAdd] <;> rfl) ?_
      simp only [one, val_check]; rw [hV]
     ·have p5 := g5; try simp only [d1, d2, d3, d4, d5, d6, d7, d8, d9] at p5
      refine k_skip ?_
      refine e_seq ?_
      refine k_seq ?_
      refine k_seq ?_
      refine k_region hP hC ?_
      refine os (x_field (off' := 1) rfl zt Try.underlying56 rfl T.s22 rfl) ?_
      refine os (x_load1 rfl zt T.g22 (by first | exact l_boxI (whole_row zh rfl) (by (first | assumption | (exact cf_nth zs ow ow))) rfl | exact l_boxS (whole_row zh rfl) (by (first | assumption | (exact cf_nth zs ow ow))) rfl | (simp only [loadC, AH.fam, Tr.get_set, reduceIte, Nat.reduceEqDiff, Nat.reduceAdd, Fam.rb, List.drop_zero, List.drop_succ_cons, List.take_succ_cons, List.take_zero, List.length_cons, List.length_nil, Nat.zero_le, Nat.reduceLeDiff, and_self, true_and] <;> rfl))) ?_
      refine os (x_lenS hs_a rfl rfl zv rfl Try.underlying22) ?_
      refine os (x_move rfl (by rfl)) ?_
      refine o_done ?_
      refine e_seq ?_
      refine k_block ?_
      have hwJ : w = judgeW L R := by first | assumption | (rw [hWn]; assumption)
      have hal : (a.length : Int) = w.length := by assumption
      refine k_loop (α := Int) (fun i => cst 77 [0, 1, 5, 36, 37, 38] [s_L, s_R, .pointer (some ⟨4, 0, none⟩), s_a, .int .i64 a.length, .int .i64 i] [.row L.flatten 0 BIG true L.flatten.length, .row R.flatten 1 BIG true R.flatten.length, .row (ints w) 2 BIG true (ints w).length, .row (ints a) 3 BIG true (ints a).length, .row [s_w, s_a] 4 BIG false 2] 4) (fun i => 0 ≤ i ∧ i ≤ a.length ∧ ∀ j : Int, 0 ≤ j → j < i → chkG L R w a j = true) (fun i => (a.length - i).toNat) 0 (to_mk (L := [0, 1, 2, 3, 4]) (slots := [0, 1, 5, 36, 37, 38]) (w := 4) zr (gcVs_cons zh (gcV_sl hs_L rfl) (gcVs_cons zh (gcV_sl hs_R rfl) (gcVs_cons zh (gcV_ptr rfl) (gcVs_cons zh (gcV_sl hs_a rfl) (gcVs_cons zh (gcV_free rfl) (gcVs_cons zh (gcV_free rfl) gcVs_nil)))))) (gcH_cons (gcO_old (by rfl) zh) (gcH_cons (gcO_old (by rfl) zh) (gcH_cons (gcO_old (by rfl) zh) (gcH_cons (gcO_old (by rfl) zh) (gcH_cons (gcO_rowE (by rfl) zh (gcD_cons (gcV_sl hs_w rfl) (gcD_cons (gcV_sl hs_a rfl) gcD_nil)) rfl) gcH_nil))))) zr) ⟨by omega, by omega, fun j h1 h2 => by omega⟩ ?_
      rintro i ⟨h0, h1, h2⟩
      refine k_cst zm zo zl ?_
      refine k_seq ?_
      refine k_region hP hC ?_
      refine os (x_bin rfl zt zt b_lss) ?_
      refine o_done ?_
      refine e_seq ?_
      refine k_seq ?_
      refine k_cond zt (fun g7 => ?_) (fun g7 => ?_)
      ·have p7 := g7; try simp only [d1, d2, d3, d4, d5, d6, d7, d8, d9] at p7
       refine k_skip ?_
       refine e_seq ?_
       refine k_seq ?_
       refine k_block ?_
       refine k_seq ?_
       refine k_region hP hC ?_
       refine os (x_move rfl zt) ?_
       refine os (x_indexS hs_a rfl zt zt Try.underlying22 T.s3 ow ow) ?_
       refine os (x_load1 rfl zt T.g3 (by first | exact l_ints (whole_row zh rfl) ow ow | exact l_partI0 (whole_row zh rfl) zs rfl ow ow rfl)) ?_
       refine os (x_assign rfl zt) ?_
       refine os (x_assign rfl zt) ?_
       refine o_done ?_
       refine e_seq ?_
       refine k_seq ?_
       refine k_draw hP hC zr ?_
       refine ds (x_move rfl zt) ?_
       refine ds (x_bin rfl zt (by rfl) b_lss) ?_
       refine ds (x_move rfl zt) ?_
       refine d_guard rfl rfl zh (fun g9 => ?_) (fun g9 => ?_)
       ·have p9 := g9; try simp only [d1, d2, d3, d4, d5, d6, d7, d8, d9] at p9
        refine d_skip (wA_off rfl rfl zg) rfl zd ?_
        refine d_skip (wA_off rfl rfl zg) rfl zd ?_
        refine d_skip (wA_off rfl rfl zg) rfl zd ?_
        refine d_skip (wA_off rfl rfl zg) rfl zd ?_
        refine ds (x_pick rfl zg zb) ?_
        refine ds (x_move rfl zt) ?_
        refine d_skip (wA_off rfl rfl zg) rfl zd ?_
        refine d_skip (wA_off rfl rfl zg) rfl zd ?_
        refine d_skip (wA_off rfl rfl zg) rfl zd ?_
        refine d_skip (wA_off rfl rfl zg) rfl zd ?_
        refine d_skip (wA_off rfl rfl zg) rfl zd ?_
        refine d_skip (wA_off rfl rfl zg) rfl zd ?_
        refine d_skip (wA_off rfl rfl zg) rfl zd ?_
        refine d_skip (wA_off rfl rfl zg) rfl zd ?_
        refine d_skip (wA_off rfl rfl zg) rfl zd ?_
        refine d_skip (wA_off rfl rfl zg) rfl zd ?_
        refine d_skip (wA_off rfl rfl zg) rfl zd ?_
        refine ds (x_pick rfl zg zb) ?_
        refine ds (x_move rfl zt) ?_
        refine d_skip (wA_off rfl rfl zg) rfl zd ?_
        refine d_skip (wA_off rfl rfl zg) rfl zd ?_
        refine d_skip (wA_off rfl rfl zg) rfl zd ?_
        refine d_skip (wA_off rfl rfl zg) rfl zd ?_
        refine d_skip (wA_off rfl rfl zg) rfl zd ?_
        refine d_skip (wA_off rfl rfl zg) rfl zd ?_
        refine d_skip (wA_off rfl rfl zg) rfl zd ?_
        refine d_skip (wA_off rfl rfl zg) rfl zd ?_
        refine d_skip (wA_off rfl rfl zg) rfl zd ?_
        refine d_skip (wA_off rfl rfl zg) rfl zd ?_
        refine ds (x_pick rfl zg zb) ?_
        refine d_done ⟨by kernel_rfl, ?_⟩
        refine e_seq ?_
        refine k_condT zg ?_
        refine k_seq ?_
        refine k_region hP hC ?_
        refine os (x_assign rfl (by rfl)) ?_
        refine o_done ?_
        refine e_seq ?_
        refine k_ret ?_
        refine e_block_ret ?_
        refine e_seq_ret ?_
        refine e_loop_ret ?_
        refine e_block_ret ?_
        refine e_seq_ret ?_
        have hV : checkE L R w a = 17 := checkE_bad hE h0 ow (by first | exact chk_1 zs | exact chk_2 zs | exact chk_3 zs | exact chk_4 zs)
        refine gives_mk (L := [0, 1, 2, 3]) (slots := [6]) (w := 4) (.inr rfl) zr (gcVs_cons zh (gcV_free rfl) gcVs_nil) (gcH_cons (gcO_old (by rfl) zh) (gcH_cons (gcO_old (by rfl) zh) (gcH_cons (gcO_old (by rfl) zh) (gcH_cons (gcO_old (by rfl) zh) gcH_nil)))) zr (by simp only [Try.results26, resA, cst, mkE, Tr.get_set, reduceIte, Nat.reduceEqDiff, Nat.reduceAdd] <;> rfl) ?_
        simp only [one, val_check]; rw [hV]
       ·have p9 := g9; try simp only [d1, d2, d3, d4, d5, d6, d7, d8, d9] at p9
        refine d_step (wA_on rfl rfl zg) rfl (x_move rfl zt) zd ?_
        refine d_step (wA_on rfl rfl zg) rfl (x_move rfl zt) zd ?_
        refine d_step (wA_on rfl rfl zg) rfl (x_lenS hs_L rfl rfl zv rfl Try.underlying23) zd ?_
        refine d_step (wA_on rfl rfl zg) rfl (x_bin rfl zt zt b_geq) zd ?_
        refine ds (x_pick rfl zg zb) ?_
        refine ds (x_move rfl zt) ?_
        refine d_guard rfl rfl zh (fun g11 => ?_) (fun g11 => ?_)
        ·have p11 := g11; try simp only [d1, d2, d3, d4, d5, d6, d7, d8, d9] at p11
         refine d_skip (wA_off rfl rfl zg) rfl zd ?_
         refine d_skip (wA_off rfl rfl zg) rfl zd ?_
         refine d_skip (wA_off rfl rfl zg) rfl zd ?_
         refine d_skip (wA_off rfl rfl zg) rfl zd ?_
         refine d_skip (wA_off rfl rfl zg) rfl zd ?_
         refine d_skip (wA_off rfl rfl zg) rfl zd ?_
         refine d_skip (wA_off rfl rfl zg) rfl zd ?_
         refine d_skip (wA_off rfl rfl zg) rfl zd ?_
         refine d_skip (wA_off rfl rfl zg) rfl zd ?_
         refine d_skip (wA_off rfl rfl zg) rfl zd ?_
         refine d_skip (wA_off rfl rfl zg) rfl zd ?_
         refine ds (x_pick rfl zg zb) ?_
         refine ds (x_move rfl zt) ?_
         refine d_skip (wA_off rfl rfl zg) rfl zd ?_
         refine d_skip (wA_off rfl rfl zg) rfl zd ?_
         refine d_skip (wA_off rfl rfl zg) rfl zd ?_
         refine d_skip (wA_off rfl rfl zg) rfl zd ?_
         refine d_skip (wA_off rfl rfl zg) rfl zd ?_
         refine d_skip (wA_off rfl rfl zg) rfl zd ?_
         refine d_skip (wA_off rfl rfl zg) rfl zd ?_
         refine d_skip (wA_off rfl rfl zg) rfl zd ?_
         refine d_skip (wA_off rfl rfl zg) rfl zd ?_
         refine d_skip (wA_off rfl rfl zg) rfl zd ?_
         refine ds (x_pick rfl zg zb) ?_
         refine d_done ⟨by kernel_rfl, ?_⟩
         refine e_seq ?_
         refine k_condT zg ?_
         refine k_seq ?_
         refine k_region hP hC ?_
         refine os (x_assign rfl (by rfl)) ?_
         refine o_done ?_
         refine e_seq ?_
         refine k_ret ?_
         refine e_block_ret ?_
         refine e_seq_ret ?_
         refine e_loop_ret ?_
         refine e_block_ret ?_
         refine e_seq_ret ?_
         have hV : checkE L R w a = 17 := checkE_bad hE h0 ow (by first | exact chk_1 zs | exact chk_2 zs | exact chk_3 zs | exact chk_4 zs)
         refine gives_mk (L := [0, 1, 2, 3]) (slots := [6]) (w := 4) (.inr rfl) zr (gcVs_cons zh (gcV_free rfl) gcVs_nil) (gcH_cons (gcO_old (by rfl) zh) (gcH_cons (gcO_old (by rfl) zh) (gcH_cons (gcO_old (by rfl) zh) (gcH_cons (gcO_old (by rfl) zh) gcH_nil)))) zr (by simp only [Try.results26, resA, cst, mkE, Tr.get_set, reduceIte, Nat.reduceEqDiff, Nat.reduceAdd] <;> rfl) ?_
         simp only [one, val_check]; rw [hV]
        ·have p11 := g11; try simp only [d1, d2, d3, d4, d5, d6, d7, d8, d9] at p11
         refine d_step (wA_on rfl rfl zg) rfl (x_move rfl zt) zd ?_
         refine d_step (wA_on rfl rfl zg) rfl (x_move rfl zt) zd ?_
         refine d_step (wA_on rfl rfl zg) rfl (x_indexS hs_L rfl zt zt Try.underlying23 T.s43 ow ow) zd ?_
         refine d_step (wA_on rfl rfl zg) rfl (x_field0 rfl zt Try.underlying43 rfl T.s3 rfl) zd ?_
         refine d_step (wA_on rfl rfl zg) rfl (x_load1 rfl zt T.g3 (l_partI0 (K := 46) (whole_row zh rfl) zs rfl ow ow rfl)) zd ?_
         refine d_step (wA_on rfl rfl zg) rfl (x_field (off' := 0) rfl zt Try.underlying56 rfl T.s22 rfl) zd ?_
         refine d_step (wA_on rfl rfl zg) rfl (x_load1 rfl zt T.g22 (by first | exact l_boxI (whole_row zh rfl) (by (first | assumption | (exact cf_nth zs ow ow))) rfl | exact l_boxS (whole_row zh rfl) (by (first | assumption | (exact cf_nth zs ow ow))) rfl | (simp only [loadC, AH.fam, Tr.get_set, reduceIte, Nat.reduceEqDiff, Nat.reduceAdd, Fam.rb, List.drop_zero, List.drop_succ_cons, List.take_succ_cons, List.take_zero, List.length_cons, List.length_nil, Nat.zero_le, Nat.reduceLeDiff, and_self, true_and] <;> rfl))) zd ?_
         refine d_step (wA_on rfl rfl zg) rfl (x_move rfl zt) zd ?_
         refine d_step (wA_on rfl rfl zg) rfl (x_indexS hs_w rfl zt zt Try.underlying22 T.s3 ow ow) zd ?_
         refine d_step (wA_on rfl rfl zg) rfl (x_load1 rfl zt T.g3 (by first | exact l_ints (whole_row zh rfl) ow ow | exact l_partI0 (whole_row zh rfl) zs rfl ow ow rfl)) zd ?_
         refine d_step (wA_on rfl rfl zg) rfl (x_bin rfl zt zt b_neq) zd ?_
         refine ds (x_pick rfl zg zb) ?_
         refine ds (x_move rfl zt) ?_
         refine d_guard rfl rfl zh (fun g13 => ?_) (fun g13 => ?_)
         ·have p13 := g13; try simp only [d1, d2, d3, d4, d5, d6, d7, d8, d9] at p13
          refine d_skip (wA_off rfl rfl zg) rfl zd ?_
          refine d_skip (wA_off rfl rfl zg) rfl zd ?_
          refine d_skip (wA_off rfl rfl zg) rfl zd ?_
          refine d_skip (wA_off rfl rfl zg) rfl zd ?_
          refine d_skip (wA_off rfl rfl zg) rfl zd ?_
          refine d_skip (wA_off rfl rfl zg) rfl zd ?_
          refine d_skip (wA_off rfl rfl zg) rfl zd ?_
          refine d_skip (wA_off rfl rfl zg) rfl zd ?_
          refine d_skip (wA_off rfl rfl zg) rfl zd ?_
          refine d_skip (wA_off rfl rfl zg) rfl zd ?_
          refine ds (x_pick rfl zg zb) ?_
          refine d_done ⟨by kernel_rfl, ?_⟩
          refine e_seq ?_
          refine k_condT zg ?_
          refine k_seq ?_
          refine k_region hP hC ?_
          refine os (x_assign rfl (by rfl)) ?_
          refine o_done ?_
          refine e_seq ?_
          refine k_ret ?_
          refine e_block_ret ?_
          refine e_seq_ret ?_
          refine e_loop_ret ?_
          refine e_block_ret ?_
          refine e_seq_ret ?_
          have hV : checkE L R w a = 17 := checkE_bad hE h0 ow (by first | exact chk_1 zs | exact chk_2 zs | exact chk_3 zs | exact chk_4 zs)
          refine gives_mk (L := [0, 1, 2, 3]) (slots := [6]) (w := 4) (.inr rfl) zr (gcVs_cons zh (gcV_free rfl) gcVs_nil) (gcH_cons (gcO_old (by rfl) zh) (gcH_cons (gcO_old (by rfl) zh) (gcH_cons (gcO_old (by rfl) zh) (gcH_cons (gcO_old (by rfl) zh) gcH_nil)))) zr (by simp only [Try.results26, resA, cst, mkE, Tr.get_set, reduceIte, Nat.reduceEqDiff, Nat.reduceAdd] <;> rfl) ?_
          simp only [one, val_check]; rw [hV]
         ·have p13 := g13; try simp only [d1, d2, d3, d4, d5, d6, d7, d8, d9] at p13
          refine d_step (wA_on rfl rfl zg) rfl (x_move rfl zt) zd ?_
          refine d_step (wA_on rfl rfl zg) rfl (x_move rfl zt) zd ?_
          refine d_step (wA_on rfl rfl zg) rfl (x_indexS hs_L rfl zt zt Try.underlying23 T.s43 ow ow) zd ?_
          refine d_step (wA_on rfl rfl zg) rfl (x_fieldK (a := 23) rfl zt Try.underlying43 rfl T.s41 rfl) zd ?_
          refine d_step (wA_on rfl rfl zg) rfl (x_loadA rfl zt T.g41 T.s41 (l_part (a := 23) (K := 46) (whole_row zh rfl) zs rfl ow ow zd)) zd ?_
          refine d_step (wA_on rfl rfl zg) rfl (x_move rfl zt) zd ?_
          refine d_step (wA_on rfl rfl zg) rfl (x_move rfl zt) zd ?_
          refine d_step (wA_on rfl rfl zg) rfl (x_indexS hs_R rfl zt zt Try.underlying24 T.s41 ow ow) zd ?_
          refine d_step (wA_on rfl rfl zg) rfl (x_loadA rfl zt T.g41 T.s41 (l_elem (whole_row zh rfl) zs rfl ow ow)) zd ?_
          refine d_step (wA_on rfl rfl zg) rfl (x_bin rfl zt zt (b_eqlA zd T.f41 T.g41 T.q41 zc zc)) zd ?_
          refine ds (x_pick rfl zg zb) ?_
          refine d_done ⟨by kernel_rfl, ?_⟩
          refine e_seq ?_
          refine k_cond (by simp only [Tr.get_set, reduceIte, Nat.reduceEqDiff, Nat.reduceAdd, ev_tmp, g7, g9, g11, g13] <;> rfl) (fun g15 => ?_) (fun g15 => ?_)
          ·have p15 := g15; try simp only [d1, d2, d3, d4, d5, d6, d7, d8, d9] at p15
           refine k_seq ?_
           refine k_region hP hC ?_
           refine os (x_assign rfl (by rfl)) ?_
           refine o_done ?_
           refine e_seq ?_
           refine k_ret ?_
           refine e_block_ret ?_
           refine e_seq_ret ?_
           refine e_loop_ret ?_
           refine e_block_ret ?_
           refine e_seq_ret ?_
           have hV : checkE L R w a = 17 := checkE_bad hE h0 ow (by first | exact chk_1 zs | exact chk_2 zs | exact chk_3 zs | exact chk_4 zs)
           refine gives_mk (L := [0, 1, 2, 3]) (slots := [6]) (w := 4) (.inr rfl) zr (gcVs_cons zh (gcV_free rfl) gcVs_nil) (gcH_cons (gcO_old (by rfl) zh) (gcH_cons (gcO_old (by rfl) zh) (gcH_cons (gcO_old (by rfl) zh) (gcH_cons (gcO_old (by rfl) zh) gcH_nil)))) zr (by simp only [Try.results26, resA, cst, mkE, Tr.get_set, reduceIte, Nat.reduceEqDiff, Nat.reduceAdd] <;> rfl) ?_
           simp only [one, val_check]; rw [hV]
          ·have p15 := g15; try simp only [d1, d2, d3, d4, d5, d6, d7, d8, d9] at p15
           refine k_skip ?_
           refine e_block ?_
           refine e_seq ?_
           refine k_region hP hC ?_
           refine os (x_bin rfl zt (by rfl) b_add) ?_
           refine os (x_move rfl zt) ?_
           refine o_done ?_
           refine e_loop ?_
           refine ⟨IntKind.i64.wrap (i + 1), (to_mk (L := [0, 1, 2, 3, 4]) (slots := [0, 1, 5, 36, 37, 38]) (w := 4) zr (gcVs_cons zh (gcV_sl hs_L rfl) (gcVs_cons zh (gcV_sl hs_R rfl) (gcVs_cons zh (gcV_ptr rfl) (gcVs_cons zh (gcV_sl hs_a rfl) (gcVs_cons zh (gcV_free rfl) (gcVs_cons zh (gcV_free rfl) gcVs_nil)))))) (gcH_cons (gcO_old (by rfl) zh) (gcH_cons (gcO_old (by rfl) zh) (gcH_cons (gcO_old (by rfl) zh) (gcH_cons (gcO_old (by rfl) zh) (gcH_cons (gcO_rowE (by rfl) zh (gcD_cons (gcV_sl hs_w rfl) (gcD_cons (gcV_sl hs_a rfl) gcD_nil)) rfl) gcH_nil))))) zr), ?_, ?_⟩
           ·rw [wr1 ow ow]; exact ⟨by omega, by omega, chk_step h2 (chk_y zs zs zs zs)⟩
           ·rw [wr1 ow ow]; omega
      ·have p7 := g7; try simp only [d1, d2, d3, d4, d5, d6, d7, d8, d9] at p7
       refine k_exit ?_
       refine e_seq_exit ?_
       refine e_loop_exit ?_
       refine e_block_eq ?_
       refine e_seq ?_
       refine k_seq ?_
       refine k_region hP hC ?_
       refine os (x_assign rfl (by rfl)) ?_
       refine o_done ?_
       refine e_seq ?_
       refine k_ret ?_
       have hV : checkE L R w a = 0 := checkE_ok hE hwJ hal (fun j h3 h4 => h2 j h3 ow)
       refine gives_mk (L := [0, 1, 2, 3]) (slots := [6]) (w := 4) (.inr rfl) zr (gcVs_cons zh (gcV_free rfl) gcVs_nil) (gcH_cons (gcO_old (by rfl) zh) (gcH_cons (gcO_old (by rfl) zh) (gcH_cons (gcO_old (by rfl) zh) (gcH_cons (gcO_old (by rfl) zh) gcH_nil)))) zr (by simp only [Try.results26, resA, cst, mkE, Tr.get_set, reduceIte, Nat.reduceEqDiff, Nat.reduceAdd] <;> rfl) ?_
       simp only [one, val_check]; rw [hV]
  ·skip
   skip
   ·skip
    refine k_seq ?_
    refine k_region hP hC ?_
    refine os (y_boxA rfl zt) ?_
    refine os (x_assign rfl (by rfl)) ?_
    refine o_done ?_
    refine e_seq ?_
    refine k_seq ?_
    refine k_region hP hC ?_
    refine os (x_move rfl zt) ?_
    refine os (x_move rfl zt) ?_
    refine o_call0 (wA_none rfl) rfl rfl rfl zv zd ?_
    refine ⟨_, _, ((tab_hit.trans (judge_c (rd_sl hs_L zd (whole_row zh rfl) (cfs_len h_L).symm (cfs_free0 h_L)) h_L (rd_sl hs_R zd (whole_row zh rfl) (cfs_len h_R).symm (cfs_free0 h_R)) h_R (by rw [ok_judge, decide_eq_true hb]))).trans (jout1 hWp judge_len)), ?_⟩
    refine os (x_move rfl zt) ?_
    refine os (x_extract rfl zt rfl) ?_
    refine os (x_extract rfl zt rfl) ?_
    refine os (y_alloc rfl T.z56 rfl rfl) ?_
    refine o_stepN (wA_none rfl) rfl (y_storeA rfl zt zt T.s56 rfl zh rfl rfl rfl) ?_
    refine os (x_assign rfl zt) ?_
    refine o_done ?_
    refine e_seq ?_
    refine k_seq ?_
    refine k_seq ?_
    refine k_region hP hC ?_
    refine os (x_move rfl zt) ?_
    refine os (x_bin (u := .bool false) rfl zt zt (by rw [b_neq]; congr 2; simpa using hE)) ?_
    refine o_done ?_
    refine e_seq ?_
    refine k_condF zt ?_
    refine k_skip ?_
    refine e_seq ?_
    refine k_seq ?_
    refine k_seq ?_
    refine k_region hP hC ?_
    refine os (x_field (off' := 0) rfl zt Try.underlying56 rfl T.s22 rfl) ?_
    refine os (x_load1 rfl zt T.g22 (by first | exact l_boxI (whole_row zh rfl) (by (first | assumption | (exact cf_nth zs ow ow))) rfl | exact l_boxS (whole_row zh rfl) (by (first | assumption | (exact cf_nth zs ow ow))) rfl | (simp only [loadC, AH.fam, Tr.get_set, reduceIte, Nat.reduceEqDiff, Nat.reduceAdd, Fam.rb, List.drop_zero, List.drop_succ_cons, List.take_succ_cons, List.take_zero, List.length_cons, List.length_nil, Nat.zero_le, Nat.reduceLeDiff, and_self, true_and] <;> rfl))) ?_
    refine os (x_field (off' := 0) rfl zt Try.underlying56 rfl T.s22 rfl) ?_
    refine os (x_load1' rfl zt T.g22 zh rfl (Nat.le_of_ble_eq_true rfl) (by simp only [List.take_succ_cons, List.drop_succ_cons, List.take_zero, List.drop_zero, List.take_nil, List.drop_nil, List.cons_append, List.nil_append, List.append_nil, List.length_cons, List.length_nil, Nat.reduceAdd, Int.toNat_zero, Nat.zero_mul, Nat.add_zero, Nat.zero_add] <;> rfl)) ?_
    refine o_call0 (wA_none rfl) rfl rfl rfl zv zd ?_
    refine ⟨_, _, ((tab_miss zd).trans (tab_hit.trans (equal_c (rd_sl hs_w zd (whole_row zh rfl) (by rw [ints_len, Nat.mul_one]) (ints_free0 _)) (rd_whole zd (.inr rfl) (whole_row zh rfl) (by rw [ints_len, Nat.mul_one]) (ints_free0 _)) (by rw [ok_equal, decide_eq_true hw])))), ?_⟩
    refine os (x_not rfl zt) ?_
    refine os (x_move rfl zt) ?_
    refine o_guard rfl rfl zh (fun g18 => ?_) (fun g18 => ?_)
    ·have p18 := g18; try simp only [d1, d2, d3, d4, d5, d6, d7, d8, d9] at p18
     refine o_skip (wA_off rfl rfl zg) rfl zd ?_
     refine o_skip (wA_off rfl rfl zg) rfl zd ?_
     refine o_skip (wA_off rfl rfl zg) rfl zd ?_
     refine o_skip (wA_off rfl rfl zg) rfl zd ?_
     refine o_skip (wA_off rfl rfl zg) rfl zd ?_
     refine o_skip (wA_off rfl rfl zg) rfl zd ?_
     refine o_skip (wA_off rfl rfl zg) rfl zd ?_
     refine os (x_pick rfl zg zb) ?_
     refine o_done ?_
     refine e_seq ?_
     refine k_condT zg ?_
     refine k_seq ?_
     refine k_region hP hC ?_
     refine os (x_assign rfl (by rfl)) ?_
     refine o_done ?_
     refine e_seq ?_
     refine k_ret ?_
     refine e_seq_ret ?_
     have hV : checkE L R w a = 17 := checkE_17 hE (by first | exact .inl zs | exact .inr zs | (rw [hWn]; exact .inl zs))
     refine gives_mk (L := [0, 1, 2, 3]) (slots := [6]) (w := 4) (.inr rfl) zr (gcVs_cons zh (gcV_free rfl) gcVs_nil) (gcH_cons (gcO_old (by rfl) zh) (gcH_cons (gcO_old (by rfl) zh) (gcH_cons (gcO_old (by rfl) zh) (gcH_cons (gcO_old (by rfl) zh) gcH_nil)))) zr (by simp only [Try.results26, resA, cst, mkE, Tr.get_set, reduceIte, Nat.reduceEqDiff, Nat.reduceAdd] <;> rfl) ?_
     simp only [one, val_check]; rw [hV]
    ·have p18 := g18; try simp only [d1, d2, d3, d4, d5, d6, d7, d8, d9] at p18
     refine o_step (wA_on rfl rfl zg) rfl (x_field (off' := 1) rfl zt Try.underlying56 rfl T.s22 rfl) zd ?_
     refine o_step (wA_on rfl rfl zg) rfl (x_load1 rfl zt T.g22 (by first | exact l_boxI (whole_row zh rfl) (by (first | assumption | (exact cf_nth zs ow ow))) rfl | exact l_boxS (whole_row zh rfl) (by (first | assumption | (exact cf_nth zs ow ow))) rfl | (simp only [loadC, AH.fam, Tr.get_set, reduceIte, Nat.reduceEqDiff, Nat.reduceAdd, Fam.rb, List.drop_zero, List.drop_succ_cons, List.take_succ_cons, List.take_zero, List.length_cons, List.length_nil, Nat.zero_le, Nat.reduceLeDiff, and_self, true_and] <;> rfl))) zd ?_
     refine o_step (wA_on rfl rfl zg) rfl (x_lenS hs_a rfl rfl zv rfl Try.underlying22) zd ?_
     refine o_step (wA_on rfl rfl zg) rfl (x_field (off' := 0) rfl zt Try.underlying56 rfl T.s22 rfl) zd ?_
     refine o_step (wA_on rfl rfl zg) rfl (x_load1 rfl zt T.g22 (by first | exact l_boxI (whole_row zh rfl) (by (first | assumption | (exact cf_nth zs ow ow))) rfl | exact l_boxS (whole_row zh rfl) (by (first | assumption | (exact cf_nth zs ow ow))) rfl | (simp only [loadC, AH.fam, Tr.get_set, reduceIte, Nat.reduceEqDiff, Nat.reduceAdd, Fam.rb, List.drop_zero, List.drop_succ_cons, List.take_succ_cons, List.take_zero, List.length_cons, List.length_nil, Nat.zero_le, Nat.reduceLeDiff, and_self, true_and] <;> rfl))) zd ?_
     refine o_step (wA_on rfl rfl zg) rfl (x_lenS hs_w rfl rfl zv rfl Try.underlying22) zd ?_
     refine o_step (wA_on rfl rfl zg) rfl (x_bin rfl zt zt b_neq) zd ?_
     refine os (x_pick rfl zg zb) ?_
     refine o_done ?_
     refine e_seq ?_
     refine k_cond (by simp only [Tr.get_set, reduceIte, Nat.reduceEqDiff, Nat.reduceAdd, ev_tmp, g18] <;> rfl) (fun g20 => ?_) (fun g20 => ?_)
     ·have p20 := g20; try simp only [d1, d2, d3, d4, d5, d6, d7, d8, d9] at p20
      refine k_seq ?_
      refine k_region hP hC ?_
      refine os (x_assign rfl (by rfl)) ?_
      refine o_done ?_
      refine e_seq ?_
      refine k_ret ?_
      refine e_seq_ret ?_
      have hV : checkE L R w a = 17 := checkE_17 hE (by first | exact .inl zs | exact .inr zs | (rw [hWn]; exact .inl zs))
      refine gives_mk (L := [0, 1, 2, 3]) (slots := [6]) (w := 4) (.inr rfl) zr (gcVs_cons zh (gcV_free rfl) gcVs_nil) (gcH_cons (gcO_old (by rfl) zh) (gcH_cons (gcO_old (by rfl) zh) (gcH_cons (gcO_old (by rfl) zh) (gcH_cons (gcO_old (by rfl) zh) gcH_nil)))) zr (by simp only [Try.results26, resA, cst, mkE, Tr.get_set, reduceIte, Nat.reduceEqDiff, Nat.reduceAdd] <;> rfl) ?_
      simp only [one, val_check]; rw [hV]
     ·have p20 := g20; try simp only [d1, d2, d3, d4, d5, d6, d7, d8, d9] at p20
      refine k_skip ?_
      refine e_seq ?_
      refine k_seq ?_
      refine k_seq ?_
      refine k_region hP hC ?_
      refine os (x_field (off' := 1) rfl zt Try.underlying56 rfl T.s22 rfl) ?_
      refine os (x_load1 rfl zt T.g22 (by first | exact l_boxI (whole_row zh rfl) (by (first | assumption | (exact cf_nth zs ow ow))) rfl | exact l_boxS (whole_row zh rfl) (by (first | assumption | (exact cf_nth zs ow ow))) rfl | (simp only [loadC, AH.fam, Tr.get_set, reduceIte, Nat.reduceEqDiff, Nat.reduceAdd, Fam.rb, List.drop_zero, List.drop_succ_cons, List.take_succ_cons, List.take_zero, List.length_cons, List.length_nil, Nat.zero_le, Nat.reduceLeDiff, and_self, true_and] <;> rfl))) ?_
      refine os (x_lenS hs_a rfl rfl zv rfl Try.underlying22) ?_
      refine os (x_move rfl (by rfl)) ?_
      refine o_done ?_
      refine e_seq ?_
      refine k_block ?_
      have hwJ : w = judgeW L R := by first | assumption | (rw [hWn]; assumption)
      have hal : (a.length : Int) = w.length := by assumption
      refine k_loop (α := Int) (fun i => cst 77 [0, 1, 5, 36, 37, 38] [s_L, s_R, .pointer (some ⟨4, 0, none⟩), s_a, .int .i64 a.length, .int .i64 i] [.row L.flatten 0 BIG true L.flatten.length, .row R.flatten 1 BIG true R.flatten.length, .row (ints w) 2 BIG true (ints w).length, .row (ints a) 3 BIG true (ints a).length, .row [s_w, s_a] 4 BIG false 2] 4) (fun i => 0 ≤ i ∧ i ≤ a.length ∧ ∀ j : Int, 0 ≤ j → j < i → chkG L R w a j = true) (fun i => (a.length - i).toNat) 0 (to_mk (L := [0, 1, 2, 3, 4]) (slots := [0, 1, 5, 36, 37, 38]) (w := 4) zr (gcVs_cons zh (gcV_sl hs_L rfl) (gcVs_cons zh (gcV_sl hs_R rfl) (gcVs_cons zh (gcV_ptr rfl) (gcVs_cons zh (gcV_sl hs_a rfl) (gcVs_cons zh (gcV_free rfl) (gcVs_cons zh (gcV_free rfl) gcVs_nil)))))) (gcH_cons (gcO_old (by rfl) zh) (gcH_cons (gcO_old (by rfl) zh) (gcH_cons (gcO_old (by rfl) zh) (gcH_cons (gcO_old (by rfl) zh) (gcH_cons (gcO_rowE (by rfl) zh (gcD_cons (gcV_sl hs_w rfl) (gcD_cons (gcV_sl hs_a rfl) gcD_nil)) rfl) gcH_nil))))) zr) ⟨by omega, by omega, fun j h1 h2 => by omega⟩ ?_
      rintro i ⟨h0, h1, h2⟩
      refine k_cst zm zo zl ?_
      refine k_seq ?_
      refine k_region hP hC ?_
      refine os (x_bin rfl zt zt b_lss) ?_
      refine o_done ?_
      refine e_seq ?_
      refine k_seq ?_
      refine k_cond zt (fun g22 => ?_) (fun g22 => ?_)
      ·have p22 := g22; try simp only [d1, d2, d3, d4, d5, d6, d7, d8, d9] at p22
       refine k_skip ?_
       refine e_seq ?_
       refine k_seq ?_
       refine k_block ?_
       refine k_seq ?_
       refine k_region hP hC ?_
       refine os (x_move rfl zt) ?_
       refine os (x_indexS hs_a rfl zt zt Try.underlying22 T.s3 ow ow) ?_
       refine os (x_load1 rfl zt T.g3 (by first | exact l_ints (whole_row zh rfl) ow ow | exact l_partI0 (whole_row zh rfl) zs rfl ow ow rfl)) ?_
       refine os (x_assign rfl zt) ?_
       refine os (x_assign rfl zt) ?_
       refine o_done ?_
       refine e_seq ?_
       refine k_seq ?_
       refine k_draw hP hC zr ?_
       refine ds (x_move rfl zt) ?_
       refine ds (x_bin rfl zt (by rfl) b_lss) ?_
       refine ds (x_move rfl zt) ?_
       refine d_guard rfl rfl zh (fun g24 => ?_) (fun g24 => ?_)
       ·have p24 := g24; try simp only [d1, d2, d3, d4, d5, d6, d7, d8, d9] at p24
        refine d_skip (wA_off rfl rfl zg) rfl zd ?_
        refine d_skip (wA_off rfl rfl zg) rfl zd ?_
        refine d_skip (wA_off rfl rfl zg) rfl zd ?_
        refine d_skip (wA_off rfl rfl zg) rfl zd ?_
        refine ds (x_pick rfl zg zb) ?_
        refine ds (x_move rfl zt) ?_
        refine d_skip (wA_off rfl rfl zg) rfl zd ?_
        refine d_skip (wA_off rfl rfl zg) rfl zd ?_
        refine d_skip (wA_off rfl rfl zg) rfl zd ?_
        refine d_skip (wA_off rfl rfl zg) rfl zd ?_
        refine d_skip (wA_off rfl rfl zg) rfl zd ?_
        refine d_skip (wA_off rfl rfl zg) rfl zd ?_
        refine d_skip (wA_off rfl rfl zg) rfl zd ?_
        refine d_skip (wA_off rfl rfl zg) rfl zd ?_
        refine d_skip (wA_off rfl rfl zg) rfl zd ?_
        refine d_skip (wA_off rfl rfl zg) rfl zd ?_
        refine d_skip (wA_off rfl rfl zg) rfl zd ?_
        refine ds (x_pick rfl zg zb) ?_
        refine ds (x_move rfl zt) ?_
        refine d_skip (wA_off rfl rfl zg) rfl zd ?_
        refine d_skip (wA_off rfl rfl zg) rfl zd ?_
        refine d_skip (wA_off rfl rfl zg) rfl zd ?_
        refine d_skip (wA_off rfl rfl zg) rfl zd ?_
        refine d_skip (wA_off rfl rfl zg) rfl zd ?_
        refine d_skip (wA_off rfl rfl zg) rfl zd ?_
        refine d_skip (wA_off rfl rfl zg) rfl zd ?_
        refine d_skip (wA_off rfl rfl zg) rfl zd ?_
        refine d_skip (wA_off rfl rfl zg) rfl zd ?_
        refine d_skip (wA_off rfl rfl zg) rfl zd ?_
        refine ds (x_pick rfl zg zb) ?_
        refine d_done ⟨by kernel_rfl, ?_⟩
        refine e_seq ?_
        refine k_condT zg ?_
        refine k_seq ?_
        refine k_region hP hC ?_
        refine os (x_assign rfl (by rfl)) ?_
        refine o_done ?_
        refine e_seq ?_
        refine k_ret ?_
        refine e_block_ret ?_
        refine e_seq_ret ?_
        refine e_loop_ret ?_
        refine e_block_ret ?_
        refine e_seq_ret ?_
        have hV : checkE L R w a = 17 := checkE_bad hE h0 ow (by first | exact chk_1 zs | exact chk_2 zs | exact chk_3 zs | exact chk_4 zs)
        refine gives_mk (L := [0, 1, 2, 3]) (slots := [6]) (w := 4) (.inr rfl) zr (gcVs_cons zh (gcV_free rfl) gcVs_nil) (gcH_cons (gcO_old (by rfl) zh) (gcH_cons (gcO_old (by rfl) zh) (gcH_cons (gcO_old (by rfl) zh) (gcH_cons (gcO_old (by rfl) zh) gcH_nil)))) zr (by simp only [Try.results26, resA, cst, mkE, Tr.get_set, reduceIte, Nat.reduceEqDiff, Nat.reduceAdd] <;> rfl) ?_
        simp only [one, val_check]; rw [hV]
       ·have p24 := g24; try simp only [d1, d2, d3, d4, d5, d6, d7, d8, d9] at p24
        refine d_step (wA_on rfl rfl zg) rfl (x_move rfl zt) zd ?_
        refine d_step (wA_on rfl rfl zg) rfl (x_move rfl zt) zd ?_
        refine d_step (wA_on rfl rfl zg) rfl (x_lenS hs_L rfl rfl zv rfl Try.underlying23) zd ?_
        refine d_step (wA_on rfl rfl zg) rfl (x_bin rfl zt zt b_geq) zd ?_
        refine ds (x_pick rfl zg zb) ?_
        refine ds (x_move rfl zt) ?_
        refine d_guard rfl rfl zh (fun g26 => ?_) (fun g26 => ?_)
        ·have p26 := g26; try simp only [d1, d2, d3, d4, d5, d6, d7, d8, d9] at p26
         refine d_skip (wA_off rfl rfl zg) rfl zd ?_
         refine d_skip (wA_off rfl rfl zg) rfl zd ?_
         refine d_skip (wA_off rfl rfl zg) rfl zd ?_
         refine d_skip (wA_off rfl rfl zg) rfl zd ?_
         refine d_skip (wA_off rfl rfl zg) rfl zd ?_
         refine d_skip (wA_off rfl rfl zg) rfl zd ?_
         refine d_skip (wA_off rfl rfl zg) rfl zd ?_
         refine d_skip (wA_off rfl rfl zg) rfl zd ?_
         refine d_skip (wA_off rfl rfl zg) rfl zd ?_
         refine d_skip (wA_off rfl rfl zg) rfl zd ?_
         refine d_skip (wA_off rfl rfl zg) rfl zd ?_
         refine ds (x_pick rfl zg zb) ?_
         refine ds (x_move rfl zt) ?_
         refine d_skip (wA_off rfl rfl zg) rfl zd ?_
         refine d_skip (wA_off rfl rfl zg) rfl zd ?_
         refine d_skip (wA_off rfl rfl zg) rfl zd ?_
         refine d_skip (wA_off rfl rfl zg) rfl zd ?_
         refine d_skip (wA_off rfl rfl zg) rfl zd ?_
         refine d_skip (wA_off rfl rfl zg) rfl zd ?_
         refine d_skip (wA_off rfl rfl zg) rfl zd ?_
         refine d_skip (wA_off rfl rfl zg) rfl zd ?_
         refine d_skip (wA_off rfl rfl zg) rfl zd ?_
         refine d_skip (wA_off rfl rfl zg) rfl zd ?_
         refine ds (x_pick rfl zg zb) ?_
         refine d_done ⟨by kernel_rfl, ?_⟩
         refine e_seq ?_
         refine k_condT zg ?_
         refine k_seq ?_
         refine k_region hP hC ?_
         refine os (x_assign rfl (by rfl)) ?_
         refine o_done ?_
         refine e_seq ?_
         refine k_ret ?_
         refine e_block_ret ?_
         refine e_seq_ret ?_
         refine e_loop_ret ?_
         refine e_block_ret ?_
         refine e_seq_ret ?_
         have hV : checkE L R w a = 17 := checkE_bad hE h0 ow (by first | exact chk_1 zs | exact chk_2 zs | exact chk_3 zs | exact chk_4 zs)
         refine gives_mk (L := [0, 1, 2, 3]) (slots := [6]) (w := 4) (.inr rfl) zr (gcVs_cons zh (gcV_free rfl) gcVs_nil) (gcH_cons (gcO_old (by rfl) zh) (gcH_cons (gcO_old (by rfl) zh) (gcH_cons (gcO_old (by rfl) zh) (gcH_cons (gcO_old (by rfl) zh) gcH_nil)))) zr (by simp only [Try.results26, resA, cst, mkE, Tr.get_set, reduceIte, Nat.reduceEqDiff, Nat.reduceAdd] <;> rfl) ?_
         simp only [one, val_check]; rw [hV]
        ·have p26 := g26; try simp only [d1, d2, d3, d4, d5, d6, d7, d8, d9] at p26
         refine d_step (wA_on rfl rfl zg) rfl (x_move rfl zt) zd ?_
         refine d_step (wA_on rfl rfl zg) rfl (x_move rfl zt) zd ?_
         refine d_step (wA_on rfl rfl zg) rfl (x_indexS hs_L rfl zt zt Try.underlying23 T.s43 ow ow) zd ?_
         refine d_step (wA_on rfl rfl zg) rfl (x_field0 rfl zt Try.underlying43 rfl T.s3 rfl) zd ?_
         refine d_step (wA_on rfl rfl zg) rfl (x_load1 rfl zt T.g3 (l_partI0 (K := 46) (whole_row zh rfl) zs rfl ow ow rfl)) zd ?_
         refine d_step (wA_on rfl rfl zg) rfl (x_field (off' := 0) rfl zt Try.underlying56 rfl T.s22 rfl) zd ?_
         refine d_step (wA_on rfl rfl zg) rfl (x_load1 rfl zt T.g22 (by first | exact l_boxI (whole_row zh rfl) (by (first | assumption | (exact cf_nth zs ow ow))) rfl | exact l_boxS (whole_row zh rfl) (by (first | assumption | (exact cf_nth zs ow ow))) rfl | (simp only [loadC, AH.fam, Tr.get_set, reduceIte, Nat.reduceEqDiff, Nat.reduceAdd, Fam.rb, List.drop_zero, List.drop_succ_cons, List.take_succ_cons, List.take_zero, List.length_cons, List.length_nil, Nat.zero_le, Nat.reduceLeDiff, and_self, true_and] <;> rfl))) zd ?_
         refine d_step (wA_on rfl rfl zg) rfl (x_move rfl zt) zd ?_
         refine d_step (wA_on rfl rfl zg) rfl (x_indexS hs_w rfl zt zt Try.underlying22 T.s3 ow ow) zd ?_
         refine d_step (wA_on rfl rfl zg) rfl (x_load1 rfl zt T.g3 (by first | exact l_ints (whole_row zh rfl) ow ow | exact l_partI0 (whole_row zh rfl) zs rfl ow ow rfl)) zd ?_
         refine d_step (wA_on rfl rfl zg) rfl (x_bin rfl zt zt b_neq) zd ?_
         refine ds (x_pick rfl zg zb) ?_
         refine ds (x_move rfl zt) ?_
         refine d_guard rfl rfl zh (fun g28 => ?_) (fun g28 => ?_)
         ·have p28 := g28; try simp only [d1, d2, d3, d4, d5, d6, d7, d8, d9] at p28
          refine d_skip (wA_off rfl rfl zg) rfl zd ?_
          refine d_skip (wA_off rfl rfl zg) rfl zd ?_
          refine d_skip (wA_off rfl rfl zg) rfl zd ?_
          refine d_skip (wA_off rfl rfl zg) rfl zd ?_
          refine d_skip (wA_off rfl rfl zg) rfl zd ?_
          refine d_skip (wA_off rfl rfl zg) rfl zd ?_
          refine d_skip (wA_off rfl rfl zg) rfl zd ?_
          refine d_skip (wA_off rfl rfl zg) rfl zd ?_
          refine d_skip (wA_off rfl rfl zg) rfl zd ?_
          refine d_skip (wA_off rfl rfl zg) rfl zd ?_
          refine ds (x_pick rfl zg zb) ?_
          refine d_done ⟨by kernel_rfl, ?_⟩
          refine e_seq ?_
          refine k_condT zg ?_
          refine k_seq ?_
          refine k_region hP hC ?_
          refine os (x_assign rfl (by rfl)) ?_
          refine o_done ?_
          refine e_seq ?_
          refine k_ret ?_
          refine e_block_ret ?_
          refine e_seq_ret ?_
          refine e_loop_ret ?_
          refine e_block_ret ?_
          refine e_seq_ret ?_
          have hV : checkE L R w a = 17 := checkE_bad hE h0 ow (by first | exact chk_1 zs | exact chk_2 zs | exact chk_3 zs | exact chk_4 zs)
          refine gives_mk (L := [0, 1, 2, 3]) (slots := [6]) (w := 4) (.inr rfl) zr (gcVs_cons zh (gcV_free rfl) gcVs_nil) (gcH_cons (gcO_old (by rfl) zh) (gcH_cons (gcO_old (by rfl) zh) (gcH_cons (gcO_old (by rfl) zh) (gcH_cons (gcO_old (by rfl) zh) gcH_nil)))) zr (by simp only [Try.results26, resA, cst, mkE, Tr.get_set, reduceIte, Nat.reduceEqDiff, Nat.reduceAdd] <;> rfl) ?_
          simp only [one, val_check]; rw [hV]
         ·have p28 := g28; try simp only [d1, d2, d3, d4, d5, d6, d7, d8, d9] at p28
          refine d_step (wA_on rfl rfl zg) rfl (x_move rfl zt) zd ?_
          refine d_step (wA_on rfl rfl zg) rfl (x_move rfl zt) zd ?_
          refine d_step (wA_on rfl rfl zg) rfl (x_indexS hs_L rfl zt zt Try.underlying23 T.s43 ow ow) zd ?_
          refine d_step (wA_on rfl rfl zg) rfl (x_fieldK (a := 23) rfl zt Try.underlying43 rfl T.s41 rfl) zd ?_
          refine d_step (wA_on rfl rfl zg) rfl (x_loadA rfl zt T.g41 T.s41 (l_part (a := 23) (K := 46) (whole_row zh rfl) zs rfl ow ow zd)) zd ?_
          refine d_step (wA_on rfl rfl zg) rfl (x_move rfl zt) zd ?_
          refine d_step (wA_on rfl rfl zg) rfl (x_move rfl zt) zd ?_
          refine d_step (wA_on rfl rfl zg) rfl (x_indexS hs_R rfl zt zt Try.underlying24 T.s41 ow ow) zd ?_
          refine d_step (wA_on rfl rfl zg) rfl (x_loadA rfl zt T.g41 T.s41 (l_elem (whole_row zh rfl) zs rfl ow ow)) zd ?_
          refine d_step (wA_on rfl rfl zg) rfl (x_bin rfl zt zt (b_eqlA zd T.f41 T.g41 T.q41 zc zc)) zd ?_
          refine ds (x_pick rfl zg zb) ?_
          refine d_done ⟨by kernel_rfl, ?_⟩
          refine e_seq ?_
          refine k_cond (by simp only [Tr.get_set, reduceIte, Nat.reduceEqDiff, Nat.reduceAdd, ev_tmp, g22, g24, g26, g28] <;> rfl) (fun g30 => ?_) (fun g30 => ?_)
          ·have p30 := g30; try simp only [d1, d2, d3, d4, d5, d6, d7, d8, d9] at p30
           refine k_seq ?_
           refine k_region hP hC ?_
           refine os (x_assign rfl (by rfl)) ?_
           refine o_done ?_
           refine e_seq ?_
           refine k_ret ?_
           refine e_block_ret ?_
           refine e_seq_ret ?_
           refine e_loop_ret ?_
           refine e_block_ret ?_
           refine e_seq_ret ?_
           have hV : checkE L R w a = 17 := checkE_bad hE h0 ow (by first | exact chk_1 zs | exact chk_2 zs | exact chk_3 zs | exact chk_4 zs)
           refine gives_mk (L := [0, 1, 2, 3]) (slots := [6]) (w := 4) (.inr rfl) zr (gcVs_cons zh (gcV_free rfl) gcVs_nil) (gcH_cons (gcO_old (by rfl) zh) (gcH_cons (gcO_old (by rfl) zh) (gcH_cons (gcO_old (by rfl) zh) (gcH_cons (gcO_old (by rfl) zh) gcH_nil)))) zr (by simp only [Try.results26, resA, cst, mkE, Tr.get_set, reduceIte, Nat.reduceEqDiff, Nat.reduceAdd] <;> rfl) ?_
           simp only [one, val_check]; rw [hV]
          ·have p30 := g30; try simp only [d1, d2, d3, d4, d5, d6, d7, d8, d9] at p30
           refine k_skip ?_
           refine e_block ?_
           refine e_seq ?_
           refine k_region hP hC ?_
           refine os (x_bin rfl zt (by rfl) b_add) ?_
           refine os (x_move rfl zt) ?_
           refine o_done ?_
           refine e_loop ?_
           refine ⟨IntKind.i64.wrap (i + 1), (to_mk (L := [0, 1, 2, 3, 4]) (slots := [0, 1, 5, 36, 37, 38]) (w := 4) zr (gcVs_cons zh (gcV_sl hs_L rfl) (gcVs_cons zh (gcV_sl hs_R rfl) (gcVs_cons zh (gcV_ptr rfl) (gcVs_cons zh (gcV_sl hs_a rfl) (gcVs_cons zh (gcV_free rfl) (gcVs_cons zh (gcV_free rfl) gcVs_nil)))))) (gcH_cons (gcO_old (by rfl) zh) (gcH_cons (gcO_old (by rfl) zh) (gcH_cons (gcO_old (by rfl) zh) (gcH_cons (gcO_old (by rfl) zh) (gcH_cons (gcO_rowE (by rfl) zh (gcD_cons (gcV_sl hs_w rfl) (gcD_cons (gcV_sl hs_a rfl) gcD_nil)) rfl) gcH_nil))))) zr), ?_, ?_⟩
           ·rw [wr1 ow ow]; exact ⟨by omega, by omega, chk_step h2 (chk_y zs zs zs zs)⟩
           ·rw [wr1 ow ow]; omega
      ·have p22 := g22; try simp only [d1, d2, d3, d4, d5, d6, d7, d8, d9] at p22
       refine k_exit ?_
       refine e_seq_exit ?_
       refine e_loop_exit ?_
       refine e_block_eq ?_
       refine e_seq ?_
       refine k_seq ?_
       refine k_region hP hC ?_
       refine os (x_assign rfl (by rfl)) ?_
       refine o_done ?_
       refine e_seq ?_
       refine k_ret ?_
       have hV : checkE L R w a = 0 := checkE_ok hE hwJ hal (fun j h3 h4 => h2 j h3 ow)
       refine gives_mk (L := [0, 1, 2, 3]) (slots := [6]) (w := 4) (.inr rfl) zr (gcVs_cons zh (gcV_free rfl) gcVs_nil) (gcH_cons (gcO_old (by rfl) zh) (gcH_cons (gcO_old (by rfl) zh) (gcH_cons (gcO_old (by rfl) zh) (gcH_cons (gcO_old (by rfl) zh) gcH_nil)))) zr (by simp only [Try.results26, resA, cst, mkE, Tr.get_set, reduceIte, Nat.reduceEqDiff, Nat.reduceAdd] <;> rfl) ?_
       simp only [one, val_check]; rw [hV]
theorem con_check : Con Try.prog 26 c_check := con_flat Try.func26 rfl fun us cs v new h => by
 unfold spec_check at h
 split at h
 case h_2 => cases h
 rename_i s_L s_R s_w s_a c_L c_R c_w c_a
 split at h
 case isFalse => cases h
 rename_i hc
 try simp only [Bool.and_eq_true] at hc
 obtain ⟨⟨⟨⟨⟨⟨⟨⟨q_L, r_L⟩, q_R⟩, r_R⟩, q_w⟩, r_w⟩, q_a⟩, r_a⟩, hok⟩ := hc
 cases h
 obtain ⟨h_L, e_L⟩ := isRows_cfs zd r_L
 have hs_L := slOk_sl (n := (chunks 46 c_L).length) q_L zd (rows_len (ks := T.K43) zd r_L)
 obtain ⟨h_R, e_R⟩ := isRows_cfs zd r_R
 have hs_R := slOk_sl (n := (chunks 22 c_R).length) q_R zd (rows_len (ks := T.K41) zd r_R)
 have e_w := ints_unints r_w
 have hs_w := slOk_sl (n := (unints c_w).length) q_w zd (by rw [← ints_len, e_w, Nat.mul_one])
 have e_a := ints_unints r_a
 have hs_a := slOk_sl (n := (unints c_a).length) q_a zd (by rw [← ints_len, e_a, Nat.mul_one])
 have key := check_m hs_L h_L hs_R h_R hs_w hs_a hok
 have hrows : [(chunks T.K43.length c_L).flatten, (chunks T.K41.length c_R).flatten, ints (unints c_w), ints (unints c_a)] = [c_L, c_R, c_w, c_a] := by rw [e_L, e_R, e_w, e_a]
 rw [← hrows]
 exact key
theorem check_c {H : AH} {s_L : Value} {s_R : Value} {s_w : Value} {s_a : Value} {L : List (List Value)} {R : List (List Value)} {w : List Int} {a : List Int} (hr_L : Rd H 46 s_L L.length L.flatten) (h_L : cfs T.K43 L) (hr_R : Rd H 22 s_R R.length R.flatten) (h_R : cfs T.K41 R) (hr_w : Rd H 1 s_w w.length (ints w)) (hr_a : Rd H 1 s_a a.length (ints a)) (hok : ok_check L R w a = true) : c_check [s_L, s_R, .agg ⟨[s_w, s_a]⟩] H = some (.int .i64 (checkE L R w a), H) := by
 obtain ⟨u_L, a_L, b_L⟩ := hr_L 0
 obtain ⟨u_R, a_R, b_R⟩ := hr_R 1
 obtain ⟨u_w, a_w, b_w⟩ := hr_w 2
 obtain ⟨u_a, a_a, b_a⟩ := hr_a 3
 have k_L := isRows_flat zd h_L
 have k2_L : chunks 46 L.flatten = L := k_L.2
 have k_R := isRows_flat zd h_R
 have k2_R : chunks 22 R.flatten = R := k_R.2
 exact flatC_at (v := val_check L R w a) (new := new_check L R w a) (cl_sl a_L (cl_sl a_R (cl_ag2 a_w a_a cl_nil))) (by simp only [spec_check, sl_slOk b_L (cfs_len h_L), k_L.1, k2_L, sl_slOk b_R (cfs_len h_R), k_R.1, k2_R, sl_slOk b_w (by rw [ints_len, Nat.mul_one]), isInts_ints, unints_ints, sl_slOk b_a (by rw [ints_len, Nat.mul_one]), hok, Bool.and_self, if_true]) (rfl) (gcV_free rfl)
def ok_check33 (L : List (List Value)) (R : List (List Value)) (w : List Int) (a : List Int) : Bool := decide (L.length ≤ 1000) && decide (w.length < 4611686018427387904) && decide (a.length < 4611686018427387904)
def val_check33 (L : List (List Value)) (R : List (List Value)) (w : List Int) (a : List Int) : Value := .int .i64 (checkE L R w a)
def new_check33 (L : List (List Value)) (R : List (List Value)) (w : List Int) (a : List Int) : List (List Value) := []
def spec_check33 : Go.AM.Spec := fun us cs => match us, cs with
 | [s_L, s_R, .agg ⟨[s_w, s_a]⟩], [c_L, c_R, c_w, c_a] => if slOk 0 46 c_L s_L && isRows T.K43 c_L && slOk 1 22 c_R s_R && isRows T.K41 c_R && slOk 2 1 c_w s_w && isInts c_w && slOk 3 1 c_a s_a && isInts c_a && ok_check33 (chunks 46 c_L) (chunks 22 c_R) (unints c_w) (unints c_a) then some (val_check33 (chunks 46 c_L) (chunks 22 c_R) (unints c_w) (unints c_a), new_check33 (chunks 46 c_L) (chunks 22 c_R) (unints c_w) (unints c_a)) else none
 | _, _ => none
def c_check33 := flatC [.sl 46, .sl 22, .ag [1, 1]] spec_check33
theorem check33_m {s_L : Value} {s_R : Value} {s_w : Value} {s_a : Value} {L : List (List Value)} {R : List (List Value)} {w : List Int} {a : List Int} (hs_L : Sl 0 46 L.length s_L) (h_L : cfs T.K43 L) (hs_R : Sl 1 22 R.length s_R) (h_R : cfs T.K41 R) (hs_w : Sl 2 1 w.length s_w) (hs_a : Sl 3 1 a.length s_a) (hok : ok_check33 L R w a = true) : Meets Try.prog (.func 27) [s_L, s_R, .agg ⟨[s_w, s_a]⟩] (cheap [L.flatten, R.flatten, ints w, ints a]) (val_check33 L R w a) (rheap [L.flatten, R.flatten, ints w, ints a] (new_check33 L R w a)) := by
 have hP := Fits
 have hC : CallSound Try.prog (tabOf [(24, c_judge33), (20, c_same01)]) := tab_sound (tab_cons con_judge33 (tab_cons con_same01 tab_end))
 simp only [ok_check33, Bool.and_eq_true, decide_eq_true_eq] at hok
 obtain ⟨⟨hb, hw⟩, ha⟩ := hok
 refine meets_start (sz := 95) hP Try.func27 rfl rfl zo (by simp only [Tr.ofList, roRows, Nat.zero_add, Nat.reduceAdd] <;> rfl) zl ?_
 rcases Decidable.em (judgeE L R ≠ 0) with hE | hE
 ·skip
  have hWz : (judgeW L R).length = 0 := by unfold judgeW; rw [if_neg hE]; rfl
  ·skip
   have hWn : judgeW L R = [] := List.eq_nil_of_length_eq_zero hWz
   ·skip
    refine k_seq ?_
    refine k_region hP hC ?_
    refine os (y_boxA rfl zt) ?_
    refine os (x_assign rfl (by rfl)) ?_
    refine o_done ?_
    refine e_seq ?_
    refine k_seq ?_
    refine k_region hP hC ?_
    refine os (x_move rfl zt) ?_
    refine os (x_move rfl zt) ?_
    refine o_call0 (wA_none rfl) rfl rfl rfl zv zd ?_
    refine ⟨_, _, ((tab_hit.trans (judge33_c (rd_sl hs_L zd (whole_row zh rfl) (cfs_len h_L).symm (cfs_free0 h_L)) h_L (rd_sl hs_R zd (whole_row zh rfl) (cfs_len h_R).symm (cfs_free0 h_R)) h_R (by rw [ok_judge33, decide_eq_true hb]))).trans (jout0 hWz judge_len)), ?_⟩
    refine os (x_move rfl zt) ?_
    refine os (x_extract rfl zt rfl) ?_
    refine os (x_extract rfl zt rfl) ?_
    refine os (y_alloc rfl T.z59 rfl rfl) ?_
    refine o_stepN (wA_none rfl) rfl (y_storeA rfl zt zt T.s59 rfl zh rfl rfl rfl) ?_
    refine os (x_assign rfl zt) ?_
    refine o_done ?_
    refine e_seq ?_
    refine k_seq ?_
    refine k_seq ?_
    refine k_region hP hC ?_
    refine os (x_move rfl zt) ?_
    refine os (x_bin (u := .bool true) rfl zt zt (by rw [b_neq]; congr 2; simpa using hE)) ?_
    refine o_done ?_
    refine e_seq ?_
    refine k_condT zt ?_
    refine k_seq ?_
    refine k_region hP hC ?_
    refine os (x_move rfl zt) ?_
    refine os (x_assign rfl zt) ?_
    refine o_done ?_
    refine e_seq ?_
    refine k_ret ?_
    refine e_seq_ret ?_
    have hV : checkE L R w a = judgeE L R := checkE_err hE
    refine gives_mk (L := [0, 1, 2, 3]) (slots := [6]) (w := 4) (.inr rfl) zr (gcVs_cons zh (gcV_free rfl) gcVs_nil) (gcH_cons (gcO_old (by rfl) zh) (gcH_cons (gcO_old (by rfl) zh) (gcH_cons (gcO_old (by rfl) zh) (gcH_cons (gcO_old (by rfl) zh) gcH_nil)))) zr (by simp only [Try.results27, resA, cst, mkE, Tr.get_set, reduceIte, Nat.reduceEqDiff, Nat.reduceAdd] <;> rfl) ?_
    simp only [one, val_check33]; rw [hV]
 ·skip
  have hE : judgeE L R = 0 := by omega
  have hRL := judgeE_len hE
  rcases Nat.eq_zero_or_pos (judgeW L R).length with hWz | hWp
  ·skip
   have hWn : judgeW L R = [] := List.eq_nil_of_length_eq_zero hWz
   ·skip
    refine k_seq ?_
    refine k_region hP hC ?_
    refine os (y_boxA rfl zt) ?_
    refine os (x_assign rfl (by rfl)) ?_
    refine o_done ?_
    refine e_seq ?_
    refine k_seq ?_
    refine k_region hP hC ?_
    refine os (x_move rfl zt) ?_
    refine os (x_move rfl zt) ?_
    refine o_call0 (wA_none rfl) rfl rfl rfl zv zd ?_
    refine ⟨_, _, ((tab_hit.trans (judge33_c (rd_sl hs_L zd (whole_row zh rfl) (cfs_len h_L).symm (cfs_free0 h_L)) h_L (rd_sl hs_R zd (whole_row zh rfl) (cfs_len h_R).symm (cfs_free0 h_R)) h_R (by rw [ok_judge33, decide_eq_true hb]))).trans (jout0 hWz judge_len)), ?_⟩
    refine os (x_move rfl zt) ?_
    refine os (x_extract rfl zt rfl) ?_
    refine os (x_extract rfl zt rfl) ?_
    refine os (y_alloc rfl T.z59 rfl rfl) ?_
    refine o_stepN (wA_none rfl) rfl (y_storeA rfl zt zt T.s59 rfl zh rfl rfl rfl) ?_
    refine os (x_assign rfl zt) ?_
    refine o_done ?_
    refine e_seq ?_
    refine k_seq ?_
    refine k_seq ?_
    refine k_region hP hC ?_
    refine os (x_move rfl zt) ?_
    refine os (x_bin (u := .bool false) rfl zt zt (by rw [b_neq]; congr 2; simpa using hE)) ?_
    refine o_done ?_
    refine e_seq ?_
    refine k_condF zt ?_
    refine k_skip ?_
    refine e_seq ?_
    refine k_seq ?_
    refine k_seq ?_
    refine k_region hP hC ?_
    refine os (x_field (off' := 0) rfl zt Try.underlying59 rfl T.s22 rfl) ?_
    refine os (x_load1 rfl zt T.g22 (by first | exact l_boxI (whole_row zh rfl) (by (first | assumption | (exact cf_nth zs ow ow))) rfl | exact l_boxS (whole_row zh rfl) (by (first | assumption | (exact cf_nth zs ow ow))) rfl | (simp only [loadC, AH.fam, Tr.get_set, reduceIte, Nat.reduceEqDiff, Nat.reduceAdd, Fam.rb, List.drop_zero, List.drop_succ_cons, List.take_succ_cons, List.take_zero, List.length_cons, List.length_nil, Nat.zero_le, Nat.reduceLeDiff, and_self, true_and] <;> rfl))) ?_
    refine os (x_field (off' := 0) rfl zt Try.underlying59 rfl T.s22 rfl) ?_
    refine os (x_load1' rfl zt T.g22 zh rfl (Nat.le_of_ble_eq_true rfl) (by simp only [List.take_succ_cons, List.drop_succ_cons, List.take_zero, List.drop_zero, List.take_nil, List.drop_nil, List.cons_append, List.nil_append, List.append_nil, List.length_cons, List.length_nil, Nat.reduceAdd, Int.toNat_zero, Nat.zero_mul, Nat.add_zero, Nat.zero_add] <;> rfl)) ?_
    refine o_call0 (wA_none rfl) rfl rfl rfl zv zd ?_
    refine ⟨_, _, ((tab_miss zd).trans (tab_hit.trans (same01_c (m := []) (rd_sl hs_w zd (whole_row zh rfl) (by rw [ints_len, Nat.mul_one]) (ints_free0 _)) (rd_nil (k := 1)) (by rw [ok_same01, decide_eq_true hw])))), ?_⟩
    refine os (x_not rfl zt) ?_
    refine os (x_move rfl zt) ?_
    refine o_guard rfl rfl zh (fun g3 => ?_) (fun g3 => ?_)
    ·have p3 := g3; try simp only [d1, d2, d3, d4, d5, d6, d7, d8, d9] at p3
     refine o_skip (wA_off rfl rfl zg) rfl zd ?_
     refine o_skip (wA_off rfl rfl zg) rfl zd ?_
     refine o_skip (wA_off rfl rfl zg) rfl zd ?_
     refine o_skip (wA_off rfl rfl zg) rfl zd ?_
     refine o_skip (wA_off rfl rfl zg) rfl zd ?_
     refine o_skip (wA_off rfl rfl zg) rfl zd ?_
     refine o_skip (wA_off rfl rfl zg) rfl zd ?_
     refine os (x_pick rfl zg zb) ?_
     refine o_done ?_
     refine e_seq ?_
     refine k_condT zg ?_
     refine k_seq ?_
     refine k_region hP hC ?_
     refine os (x_assign rfl (by rfl)) ?_
     refine o_done ?_
     refine e_seq ?_
     refine k_ret ?_
     refine e_seq_ret ?_
     have hV : checkE L R w a = 17 := checkE_17 hE (by first | exact .inl zs | exact .inr zs | (rw [hWn]; exact .inl zs))
     refine gives_mk (L := [0, 1, 2, 3]) (slots := [6]) (w := 4) (.inr rfl) zr (gcVs_cons zh (gcV_free rfl) gcVs_nil) (gcH_cons (gcO_old (by rfl) zh) (gcH_cons (gcO_old (by rfl) zh) (gcH_cons (gcO_old (by rfl) zh) (gcH_cons (gcO_old (by rfl) zh) gcH_nil)))) zr (by simp only [Try.results27, resA, cst, mkE, Tr.get_set, reduceIte, Nat.reduceEqDiff, Nat.reduceAdd] <;> rfl) ?_
     simp only [one, val_check33]; rw [hV]
    ·have p3 := g3; try simp only [d1, d2, d3, d4, d5, d6, d7, d8, d9] at p3
     refine o_step (wA_on rfl rfl zg) rfl (x_field (off' := 1) rfl zt Try.underlying59 rfl T.s22 rfl) zd ?_
     refine o_step (wA_on rfl rfl zg) rfl (x_load1 rfl zt T.g22 (by first | exact l_boxI (whole_row zh rfl) (by (first | assumption | (exact cf_nth zs ow ow))) rfl | exact l_boxS (whole_row zh rfl) (by (first | assumption | (exact cf_nth zs ow ow))) rfl | (simp only [loadC, AH.fam, Tr.get_set, reduceIte, Nat.reduceEqDiff, Nat.reduceAdd, Fam.rb, List.drop_zero, List.drop_succ_cons, List.take_succ_cons, List.take_zero, List.length_cons, List.length_nil, Nat.zero_le, Nat.reduceLeDiff, and_self, true_and] <;> rfl))) zd ?_
     refine o_step (wA_on rfl rfl zg) rfl (x_lenS hs_a rfl rfl zv rfl Try.underlying22) zd ?_
     refine o_step (wA_on rfl rfl zg) rfl (x_field (off' := 0) rfl zt Try.underlying59 rfl T.s22 rfl) zd ?_
     refine o_step (wA_on rfl rfl zg) rfl (x_load1 rfl zt T.g22 (by first | exact l_boxI (whole_row zh rfl) (by (first | assumption | (exact cf_nth zs ow ow))) rfl | exact l_boxS (whole_row zh rfl) (by (first | assumption | (exact cf_nth zs ow ow))) rfl | (simp only [loadC, AH.fam, Tr.get_set, reduceIte, Nat.reduceEqDiff, Nat.reduceAdd, Fam.rb, List.drop_zero, List.drop_succ_cons, List.take_succ_cons, List.take_zero, List.length_cons, List.length_nil, Nat.zero_le, Nat.reduceLeDiff, and_self, true_and] <;> rfl))) zd ?_
     refine o_step (wA_on rfl rfl zg) rfl (x_lenS hs_w rfl rfl zv rfl Try.underlying22) zd ?_
     refine o_step (wA_on rfl rfl zg) rfl (x_bin rfl zt zt b_neq) zd ?_
     refine os (x_pick rfl zg zb) ?_
     refine o_done ?_
     refine e_seq ?_
     refine k_cond (by simp only [Tr.get_set, reduceIte, Nat.reduceEqDiff, Nat.reduceAdd, ev_tmp, g3] <;> rfl) (fun g5 => ?_) (fun g5 => ?_)
     ·have p5 := g5; try simp only [d1, d2, d3, d4, d5, d6, d7, d8, d9] at p5
      refine k_seq ?_
      refine k_region hP hC ?_
      refine os (x_assign rfl (by rfl)) ?_
      refine o_done ?_
      refine e_seq ?_
      refine k_ret ?_
      refine e_seq_ret ?_
      have hV : checkE L R w a = 17 := checkE_17 hE (by first | exact .inl zs | exact .inr zs | (rw [hWn]; exact .inl zs))
      refine gives_mk (L := [0, 1, 2, 3]) (slots := [6]) (w := 4) (.inr rfl) zr (gcVs_cons zh (gcV_free rfl) gcVs_nil) (gcH_cons (gcO_old (by rfl) zh) (gcH_cons (gcO_old (by rfl) zh) (gcH_cons (gcO_old (by rfl) zh) (gcH_cons (gcO_old (by rfl) zh) gcH_nil)))) zr (by simp only [Try.results27, resA, cst, mkE, Tr.get_set, reduceIte, Nat.reduceEqDiff, Nat.reduceAdd] <;> rfl) ?_
      simp only [one, val_check33]; rw [hV]
     ·have p5 := g5; try simp only [d1, d2, d3, d4, d5, d6, d7, d8, d9] at p5
      refine k_skip ?_
      refine e_seq ?_
      refine k_seq ?_
      refine k_seq ?_
      refine k_region hP hC ?_
      refine os (x_assign rfl (by rfl)) ?_
      refine o_done ?_
      refine e_seq ?_
      refine k_block ?_
      have hwJ : w = judgeW L R := by first | assumption | (rw [hWn]; assumption)
      have hal : (a.length : Int) = w.length := by assumption
      refine k_loop (α := Int) (fun i => cst 95 [0, 1, 5, 9] [s_L, s_R, .pointer (some ⟨4, 0, none⟩), .int .i64 i] [.row L.flatten 0 BIG true L.flatten.length, .row R.flatten 1 BIG true R.flatten.length, .row (ints w) 2 BIG true (ints w).length, .row (ints a) 3 BIG true (ints a).length, .row [s_w, s_a] 4 BIG false 2] 4) (fun i => 0 ≤ i ∧ i ≤ a.length ∧ ∀ j : Int, 0 ≤ j → j < i → chkG L R w a j = true) (fun i => (a.length - i).toNat) 0 (to_mk (L := [0, 1, 2, 3, 4]) (slots := [0, 1, 5, 9]) (w := 4) zr (gcVs_cons zh (gcV_sl hs_L rfl) (gcVs_cons zh (gcV_sl hs_R rfl) (gcVs_cons zh (gcV_ptr rfl) (gcVs_cons zh (gcV_free rfl) gcVs_nil)))) (gcH_cons (gcO_old (by rfl) zh) (gcH_cons (gcO_old (by rfl) zh) (gcH_cons (gcO_old (by rfl) zh) (gcH_cons (gcO_old (by rfl) zh) (gcH_cons (gcO_rowE (by rfl) zh (gcD_cons (gcV_sl hs_w rfl) (gcD_cons (gcV_sl hs_a rfl) gcD_nil)) rfl) gcH_nil))))) zr) ⟨by omega, by omega, fun j h1 h2 => by omega⟩ ?_
      rintro i ⟨h0, h1, h2⟩
      refine k_cst zm zo zl ?_
      refine k_seq ?_
      refine k_seq ?_
      refine k_region hP hC ?_
      refine os (x_move rfl zt) ?_
      refine os (x_field (off' := 1) rfl zt Try.underlying59 rfl T.s22 rfl) ?_
      refine os (x_load1 rfl zt T.g22 (by first | exact l_boxI (whole_row zh rfl) (by (first | assumption | (exact cf_nth zs ow ow))) rfl | exact l_boxS (whole_row zh rfl) (by (first | assumption | (exact cf_nth zs ow ow))) rfl | (simp only [loadC, AH.fam, Tr.get_set, reduceIte, Nat.reduceEqDiff, Nat.reduceAdd, Fam.rb, List.drop_zero, List.drop_succ_cons, List.take_succ_cons, List.take_zero, List.length_cons, List.length_nil, Nat.zero_le, Nat.reduceLeDiff, and_self, true_and] <;> rfl))) ?_
      refine os (x_lenS hs_a rfl rfl zv rfl Try.underlying22) ?_
      refine os (x_bin rfl zt zt b_lss) ?_
      refine o_done ?_
      refine e_seq ?_
      refine k_cond zt (fun g7 => ?_) (fun g7 => ?_)
      ·have p7 := g7; try simp only [d1, d2, d3, d4, d5, d6, d7, d8, d9] at p7
       refine k_skip ?_
       refine e_seq ?_
       refine k_seq ?_
       refine k_block ?_
       refine k_seq ?_
       refine k_region hP hC ?_
       refine os (x_field (off' := 1) rfl zt Try.underlying59 rfl T.s22 rfl) ?_
       refine os (x_load1 rfl zt T.g22 (by first | exact l_boxI (whole_row zh rfl) (by (first | assumption | (exact cf_nth zs ow ow))) rfl | exact l_boxS (whole_row zh rfl) (by (first | assumption | (exact cf_nth zs ow ow))) rfl | (simp only [loadC, AH.fam, Tr.get_set, reduceIte, Nat.reduceEqDiff, Nat.reduceAdd, Fam.rb, List.drop_zero, List.drop_succ_cons, List.take_succ_cons, List.take_zero, List.length_cons, List.length_nil, Nat.zero_le, Nat.reduceLeDiff, and_self, true_and] <;> rfl))) ?_
       refine os (x_move rfl zt) ?_
       refine os (x_indexS hs_a rfl zt zt Try.underlying22 T.s3 ow ow) ?_
       refine os (x_load1 rfl zt T.g3 (by first | exact l_ints (whole_row zh rfl) ow ow | exact l_partI0 (whole_row zh rfl) zs rfl ow ow rfl)) ?_
       refine os (x_assign rfl zt) ?_
       refine o_done ?_
       refine e_seq ?_
       refine k_seq ?_
       refine k_draw hP hC zr ?_
       refine ds (x_move rfl zt) ?_
       refine ds (x_bin rfl zt (by rfl) b_lss) ?_
       refine ds (x_move rfl zt) ?_
       refine d_guard rfl rfl zh (fun g9 => ?_) (fun g9 => ?_)
       ·have p9 := g9; try simp only [d1, d2, d3, d4, d5, d6, d7, d8, d9] at p9
        refine d_skip (wA_off rfl rfl zg) rfl zd ?_
        refine d_skip (wA_off rfl rfl zg) rfl zd ?_
        refine d_skip (wA_off rfl rfl zg) rfl zd ?_
        refine d_skip (wA_off rfl rfl zg) rfl zd ?_
        refine ds (x_pick rfl zg zb) ?_
        refine ds (x_move rfl zt) ?_
        refine d_skip (wA_off rfl rfl zg) rfl zd ?_
        refine d_skip (wA_off rfl rfl zg) rfl zd ?_
        refine d_skip (wA_off rfl rfl zg) rfl zd ?_
        refine d_skip (wA_off rfl rfl zg) rfl zd ?_
        refine d_skip (wA_off rfl rfl zg) rfl zd ?_
        refine d_skip (wA_off rfl rfl zg) rfl zd ?_
        refine d_skip (wA_off rfl rfl zg) rfl zd ?_
        refine d_skip (wA_off rfl rfl zg) rfl zd ?_
        refine d_skip (wA_off rfl rfl zg) rfl zd ?_
        refine d_skip (wA_off rfl rfl zg) rfl zd ?_
        refine d_skip (wA_off rfl rfl zg) rfl zd ?_
        refine d_skip (wA_off rfl rfl zg) rfl zd ?_
        refine d_skip (wA_off rfl rfl zg) rfl zd ?_
        refine d_skip (wA_off rfl rfl zg) rfl zd ?_
        refine d_skip (wA_off rfl rfl zg) rfl zd ?_
        refine d_skip (wA_off rfl rfl zg) rfl zd ?_
        refine ds (x_pick rfl zg zb) ?_
        refine ds (x_move rfl zt) ?_
        refine d_skip (wA_off rfl rfl zg) rfl zd ?_
        refine d_skip (wA_off rfl rfl zg) rfl zd ?_
        refine d_skip (wA_off rfl rfl zg) rfl zd ?_
        refine d_skip (wA_off rfl rfl zg) rfl zd ?_
        refine d_skip (wA_off rfl rfl zg) rfl zd ?_
        refine d_skip (wA_off rfl rfl zg) rfl zd ?_
        refine d_skip (wA_off rfl rfl zg) rfl zd ?_
        refine d_skip (wA_off rfl rfl zg) rfl zd ?_
        refine d_skip (wA_off rfl rfl zg) rfl zd ?_
        refine d_skip (wA_off rfl rfl zg) rfl zd ?_
        refine d_skip (wA_off rfl rfl zg) rfl zd ?_
        refine d_skip (wA_off rfl rfl zg) rfl zd ?_
        refine d_skip (wA_off rfl rfl zg) rfl zd ?_
        refine d_skip (wA_off rfl rfl zg) rfl zd ?_
        refine d_skip (wA_off rfl rfl zg) rfl zd ?_
        refine d_skip (wA_off rfl rfl zg) rfl zd ?_
        refine d_skip (wA_off rfl rfl zg) rfl zd ?_
        refine d_skip (wA_off rfl rfl zg) rfl zd ?_
        refine d_skip (wA_off rfl rfl zg) rfl zd ?_
        refine d_skip (wA_off rfl rfl zg) rfl zd ?_
        refine ds (x_pick rfl zg zb) ?_
        refine d_done ⟨by kernel_rfl, ?_⟩
        refine e_seq ?_
        refine k_condT zg ?_
        refine k_seq ?_
        refine k_region hP hC ?_
        refine os (x_assign rfl (by rfl)) ?_
        refine o_done ?_
        refine e_seq ?_
        refine k_ret ?_
        refine e_block_ret ?_
        refine e_seq_ret ?_
        refine e_loop_ret ?_
        refine e_block_ret ?_
        refine e_seq_ret ?_
        have hV : checkE L R w a = 17 := checkE_bad hE h0 ow (by first | exact chk_1 zs | exact chk_2 zs | exact chk_3 zs | exact chk_4 zs)
        refine gives_mk (L := [0, 1, 2, 3]) (slots := [6]) (w := 4) (.inr rfl) zr (gcVs_cons zh (gcV_free rfl) gcVs_nil) (gcH_cons (gcO_old (by rfl) zh) (gcH_cons (gcO_old (by rfl) zh) (gcH_cons (gcO_old (by rfl) zh) (gcH_cons (gcO_old (by rfl) zh) gcH_nil)))) zr (by simp only [Try.results27, resA, cst, mkE, Tr.get_set, reduceIte, Nat.reduceEqDiff, Nat.reduceAdd] <;> rfl) ?_
        simp only [one, val_check33]; rw [hV]
       ·have p9 := g9; try simp only [d1, d2, d3, d4, d5, d6, d7, d8, d9] at p9
        refine d_step (wA_on rfl rfl zg) rfl (x_move rfl zt) zd ?_
        refine d_step (wA_on rfl rfl zg) rfl (x_move rfl zt) zd ?_
        refine d_step (wA_on rfl rfl zg) rfl (x_lenS hs_L rfl rfl zv rfl Try.underlying23) zd ?_
        refine d_step (wA_on rfl rfl zg) rfl (x_bin rfl zt zt b_geq) zd ?_
        refine ds (x_pick rfl zg zb) ?_
        refine ds (x_move rfl zt) ?_
        refine d_guard rfl rfl zh (fun g11 => ?_) (fun g11 => ?_)
        ·have p11 := g11; try simp only [d1, d2, d3, d4, d5, d6, d7, d8, d9] at p11
         refine d_skip (wA_off rfl rfl zg) rfl zd ?_
         refine d_skip (wA_off rfl rfl zg) rfl zd ?_
         refine d_skip (wA_off rfl rfl zg) rfl zd ?_
         refine d_skip (wA_off rfl rfl zg) rfl zd ?_
         refine d_skip (wA_off rfl rfl zg) rfl zd ?_
         refine d_skip (wA_off rfl rfl zg) rfl zd ?_
         refine d_skip (wA_off rfl rfl zg) rfl zd ?_
         refine d_skip (wA_off rfl rfl zg) rfl zd ?_
         refine d_skip (wA_off rfl rfl zg) rfl zd ?_
         refine d_skip (wA_off rfl rfl zg) rfl zd ?_
         refine d_skip (wA_off rfl rfl zg) rfl zd ?_
         refine d_skip (wA_off rfl rfl zg) rfl zd ?_
         refine d_skip (wA_off rfl rfl zg) rfl zd ?_
         refine d_skip (wA_off rfl rfl zg) rfl zd ?_
         refine d_skip (wA_off rfl rfl zg) rfl zd ?_
         refine d_skip (wA_off rfl rfl zg) rfl zd ?_
         refine ds (x_pick rfl zg zb) ?_
         refine ds (x_move rfl zt) ?_
         refine d_skip (wA_off rfl rfl zg) rfl zd ?_
         refine d_skip (wA_off rfl rfl zg) rfl zd ?_
         refine d_skip (wA_off rfl rfl zg) rfl zd ?_
         refine d_skip (wA_off rfl rfl zg) rfl zd ?_
         refine d_skip (wA_off rfl rfl zg) rfl zd ?_
         refine d_skip (wA_off rfl rfl zg) rfl zd ?_
         refine d_skip (wA_off rfl rfl zg) rfl zd ?_
         refine d_skip (wA_off rfl rfl zg) rfl zd ?_
         refine d_skip (wA_off rfl rfl zg) rfl zd ?_
         refine d_skip (wA_off rfl rfl zg) rfl zd ?_
         refine d_skip (wA_off rfl rfl zg) rfl zd ?_
         refine d_skip (wA_off rfl rfl zg) rfl zd ?_
         refine d_skip (wA_off rfl rfl zg) rfl zd ?_
         refine d_skip (wA_off rfl rfl zg) rfl zd ?_
         refine d_skip (wA_off rfl rfl zg) rfl zd ?_
         refine d_skip (wA_off rfl rfl zg) rfl zd ?_
         refine d_skip (wA_off rfl rfl zg) rfl zd ?_
         refine d_skip (wA_off rfl rfl zg) rfl zd ?_
         refine d_skip (wA_off rfl rfl zg) rfl zd ?_
         refine d_skip (wA_off rfl rfl zg) rfl zd ?_
         refine ds (x_pick rfl zg zb) ?_
         refine d_done ⟨by kernel_rfl, ?_⟩
         refine e_seq ?_
         refine k_condT zg ?_
         refine k_seq ?_
         refine k_region hP hC ?_
         refine os (x_assign rfl (by rfl)) ?_
         refine o_done ?_
         refine e_seq ?_
         refine k_ret ?_
         refine e_block_ret ?_
         refine e_seq_ret ?_
         refine e_loop_ret ?_
         refine e_block_ret ?_
         refine e_seq_ret ?_
         have hV : checkE L R w a = 17 := checkE_bad hE h0 ow (by first | exact chk_1 zs | exact chk_2 zs | exact chk_3 zs | exact chk_4 zs)
         refine gives_mk (L := [0, 1, 2, 3]) (slots := [6]) (w := 4) (.inr rfl) zr (gcVs_cons zh (gcV_free rfl) gcVs_nil) (gcH_cons (gcO_old (by rfl) zh) (gcH_cons (gcO_old (by rfl) zh) (gcH_cons (gcO_old (by rfl) zh) (gcH_cons (gcO_old (by rfl) zh) gcH_nil)))) zr (by simp only [Try.results27, resA, cst, mkE, Tr.get_set, reduceIte, Nat.reduceEqDiff, Nat.reduceAdd] <;> rfl) ?_
         simp only [one, val_check33]; rw [hV]
        ·have p11 := g11; try simp only [d1, d2, d3, d4, d5, d6, d7, d8, d9] at p11
         refine d_step (wA_on rfl rfl zg) rfl (x_move rfl zt) zd ?_
         refine d_step (wA_on rfl rfl zg) rfl (x_move rfl zt) zd ?_
         refine d_step (wA_on rfl rfl zg) rfl (x_move rfl zt) zd ?_
         refine d_step (wA_on rfl rfl zg) rfl (x_lenS hs_L rfl rfl zv rfl Try.underlying23) zd ?_
         refine d_step (wA_on rfl rfl zg) rfl (x_bin rfl zt (by rfl) b_sub) zd ?_
         refine d_step (wA_on rfl rfl zg) rfl (x_min (r := ith a i) rfl rfl zv (by rw [IntWalk.i64_in _ ow]; omega)) zd ?_
         refine d_step (wA_on rfl rfl zg) rfl (x_max (r := ith a i) rfl rfl zv ow) zd ?_
         refine d_step (wA_on rfl rfl zg) rfl (x_indexS hs_L rfl zt zt Try.underlying23 T.s43 ow ow) zd ?_
         refine d_step (wA_on rfl rfl zg) rfl (x_field0 rfl zt Try.underlying43 rfl T.s3 rfl) zd ?_
         refine d_step (wA_on rfl rfl zg) rfl (x_load1 rfl zt T.g3 (l_partI0 (K := 46) (whole_row zh rfl) zs rfl ow ow rfl)) zd ?_
         refine d_step (wA_on rfl rfl zg) rfl (x_field (off' := 0) rfl zt Try.underlying59 rfl T.s22 rfl) zd ?_
         refine d_step (wA_on rfl rfl zg) rfl (x_load1 rfl zt T.g22 (by first | exact l_boxI (whole_row zh rfl) (by (first | assumption | (exact cf_nth zs ow ow))) rfl | exact l_boxS (whole_row zh rfl) (by (first | assumption | (exact cf_nth zs ow ow))) rfl | (simp only [loadC, AH.fam, Tr.get_set, reduceIte, Nat.reduceEqDiff, Nat.reduceAdd, Fam.rb, List.drop_zero, List.drop_succ_cons, List.take_succ_cons, List.take_zero, List.length_cons, List.length_nil, Nat.zero_le, Nat.reduceLeDiff, and_self, true_and] <;> rfl))) zd ?_
         refine d_step (wA_on rfl rfl zg) rfl (x_move rfl zt) zd ?_
         refine d_step (wA_on rfl rfl zg) rfl (x_indexS hs_w rfl zt zt Try.underlying22 T.s3 ow ow) zd ?_
         refine d_step (wA_on rfl rfl zg) rfl (x_load1 rfl zt T.g3 (by first | exact l_ints (whole_row zh rfl) ow ow | exact l_partI0 (whole_row zh rfl) zs rfl ow ow rfl)) zd ?_
         refine d_step (wA_on rfl rfl zg) rfl (x_bin rfl zt zt b_neq) zd ?_
         refine ds (x_pick rfl zg zb) ?_
         refine ds (x_move rfl zt) ?_
         refine d_guard rfl rfl zh (fun g13 => ?_) (fun g13 => ?_)
         ·have p13 := g13; try simp only [d1, d2, d3, d4, d5, d6, d7, d8, d9] at p13
          refine d_skip (wA_off rfl rfl zg) rfl zd ?_
          refine d_skip (wA_off rfl rfl zg) rfl zd ?_
          refine d_skip (wA_off rfl rfl zg) rfl zd ?_
          refine d_skip (wA_off rfl rfl zg) rfl zd ?_
          refine d_skip (wA_off rfl rfl zg) rfl zd ?_
          refine d_skip (wA_off rfl rfl zg) rfl zd ?_
          refine d_skip (wA_off rfl rfl zg) rfl zd ?_
          refine d_skip (wA_off rfl rfl zg) rfl zd ?_
          refine d_skip (wA_off rfl rfl zg) rfl zd ?_
          refine d_skip (wA_off rfl rfl zg) rfl zd ?_
          refine d_skip (wA_off rfl rfl zg) rfl zd ?_
          refine d_skip (wA_off rfl rfl zg) rfl zd ?_
          refine d_skip (wA_off rfl rfl zg) rfl zd ?_
          refine d_skip (wA_off rfl rfl zg) rfl zd ?_
          refine d_skip (wA_off rfl rfl zg) rfl zd ?_
          refine d_skip (wA_off rfl rfl zg) rfl zd ?_
          refine d_skip (wA_off rfl rfl zg) rfl zd ?_
          refine d_skip (wA_off rfl rfl zg) rfl zd ?_
          refine d_skip (wA_off rfl rfl zg) rfl zd ?_
          refine d_skip (wA_off rfl rfl zg) rfl zd ?_
          refine ds (x_pick rfl zg zb) ?_
          refine d_done ⟨by kernel_rfl, ?_⟩
          refine e_seq ?_
          refine k_condT zg ?_
          refine k_seq ?_
          refine k_region hP hC ?_
          refine os (x_assign rfl (by rfl)) ?_
          refine o_done ?_
          refine e_seq ?_
          refine k_ret ?_
          refine e_block_ret ?_
          refine e_seq_ret ?_
          refine e_loop_ret ?_
          refine e_block_ret ?_
          refine e_seq_ret ?_
          have hV : checkE L R w a = 17 := checkE_bad hE h0 ow (by first | exact chk_1 zs | exact chk_2 zs | exact chk_3 zs | exact chk_4 zs)
          refine gives_mk (L := [0, 1, 2, 3]) (slots := [6]) (w := 4) (.inr rfl) zr (gcVs_cons zh (gcV_free rfl) gcVs_nil) (gcH_cons (gcO_old (by rfl) zh) (gcH_cons (gcO_old (by rfl) zh) (gcH_cons (gcO_old (by rfl) zh) (gcH_cons (gcO_old (by rfl) zh) gcH_nil)))) zr (by simp only [Try.results27, resA, cst, mkE, Tr.get_set, reduceIte, Nat.reduceEqDiff, Nat.reduceAdd] <;> rfl) ?_
          simp only [one, val_check33]; rw [hV]
         ·have p13 := g13; try simp only [d1, d2, d3, d4, d5, d6, d7, d8, d9] at p13
          refine d_step (wA_on rfl rfl zg) rfl (x_move rfl zt) zd ?_
          refine d_step (wA_on rfl rfl zg) rfl (x_move rfl zt) zd ?_
          refine d_step (wA_on rfl rfl zg) rfl (x_move rfl zt) zd ?_
          refine d_step (wA_on rfl rfl zg) rfl (x_lenS hs_L rfl rfl zv rfl Try.underlying23) zd ?_
          refine d_step (wA_on rfl rfl zg) rfl (x_bin rfl zt (by rfl) b_sub) zd ?_
          refine d_step (wA_on rfl rfl zg) rfl (x_min (r := ith a i) rfl rfl zv (by rw [IntWalk.i64_in _ ow]; omega)) zd ?_
          refine d_step (wA_on rfl rfl zg) rfl (x_max (r := ith a i) rfl rfl zv ow) zd ?_
          refine d_step (wA_on rfl rfl zg) rfl (x_indexS hs_L rfl zt zt Try.underlying23 T.s43 ow ow) zd ?_
          refine d_step (wA_on rfl rfl zg) rfl (x_fieldK (a := 23) rfl zt Try.underlying43 rfl T.s41 rfl) zd ?_
          refine d_step (wA_on rfl rfl zg) rfl (x_loadA rfl zt T.g41 T.s41 (l_part (a := 23) (K := 46) (whole_row zh rfl) zs rfl ow ow zd)) zd ?_
          refine d_step (wA_on rfl rfl zg) rfl (x_move rfl zt) zd ?_
          refine d_step (wA_on rfl rfl zg) rfl (x_move rfl zt) zd ?_
          refine d_step (wA_on rfl rfl zg) rfl (x_move rfl zt) zd ?_
          refine d_step (wA_on rfl rfl zg) rfl (x_lenS hs_L rfl rfl zv rfl Try.underlying23) zd ?_
          refine d_step (wA_on rfl rfl zg) rfl (x_bin rfl zt (by rfl) b_sub) zd ?_
          refine d_step (wA_on rfl rfl zg) rfl (x_min (r := ith a i) rfl rfl zv (by rw [IntWalk.i64_in _ ow]; omega)) zd ?_
          refine d_step (wA_on rfl rfl zg) rfl (x_max (r := ith a i) rfl rfl zv ow) zd ?_
          refine d_step (wA_on rfl rfl zg) rfl (x_indexS hs_R rfl zt zt Try.underlying24 T.s41 ow ow) zd ?_
          refine d_step (wA_on rfl rfl zg) rfl (x_loadA rfl zt T.g41 T.s41 (l_elem (whole_row zh rfl) zs rfl ow ow)) zd ?_
          refine d_step (wA_on rfl rfl zg) rfl (x_bin rfl zt zt (b_eqlA zd T.f41 T.g41 T.q41 zc zc)) zd ?_
          refine ds (x_pick rfl zg zb) ?_
          refine d_done ⟨by kernel_rfl, ?_⟩
          refine e_seq ?_
          refine k_cond (by simp only [Tr.get_set, reduceIte, Nat.reduceEqDiff, Nat.reduceAdd, ev_tmp, g7, g9, g11, g13] <;> rfl) (fun g15 => ?_) (fun g15 => ?_)
          ·have p15 := g15; try simp only [d1, d2, d3, d4, d5, d6, d7, d8, d9] at p15
           refine k_seq ?_
           refine k_region hP hC ?_
           refine os (x_assign rfl (by rfl)) ?_
           refine o_done ?_
           refine e_seq ?_
           refine k_ret ?_
           refine e_block_ret ?_
           refine e_seq_ret ?_
           refine e_loop_ret ?_
           refine e_block_ret ?_
           refine e_seq_ret ?_
           have hV : checkE L R w a = 17 := checkE_bad hE h0 ow (by first | exact chk_1 zs | exact chk_2 zs | exact chk_3 zs | exact chk_4 zs)
           refine gives_mk (L := [0, 1, 2, 3]) (slots := [6]) (w := 4) (.inr rfl) zr (gcVs_cons zh (gcV_free rfl) gcVs_nil) (gcH_cons (gcO_old (by rfl) zh) (gcH_cons (gcO_old (by rfl) zh) (gcH_cons (gcO_old (by rfl) zh) (gcH_cons (gcO_old (by rfl) zh) gcH_nil)))) zr (by simp only [Try.results27, resA, cst, mkE, Tr.get_set, reduceIte, Nat.reduceEqDiff, Nat.reduceAdd] <;> rfl) ?_
           simp only [one, val_check33]; rw [hV]
          ·have p15 := g15; try simp only [d1, d2, d3, d4, d5, d6, d7, d8, d9] at p15
           refine k_skip ?_
           refine e_block ?_
           refine e_seq ?_
           refine k_region hP hC ?_
           refine os (x_move rfl zt) ?_
           refine os (x_bin rfl zt (by rfl) b_add) ?_
           refine os (x_assign rfl zt) ?_
           refine o_done ?_
           refine e_loop ?_
           refine ⟨IntKind.i64.wrap (i + 1), (to_mk (L := [0, 1, 2, 3, 4]) (slots := [0, 1, 5, 9]) (w := 4) zr (gcVs_cons zh (gcV_sl hs_L rfl) (gcVs_cons zh (gcV_sl hs_R rfl) (gcVs_cons zh (gcV_ptr rfl) (gcVs_cons zh (gcV_free rfl) gcVs_nil)))) (gcH_cons (gcO_old (by rfl) zh) (gcH_cons (gcO_old (by rfl) zh) (gcH_cons (gcO_old (by rfl) zh) (gcH_cons (gcO_old (by rfl) zh) (gcH_cons (gcO_rowE (by rfl) zh (gcD_cons (gcV_sl hs_w rfl) (gcD_cons (gcV_sl hs_a rfl) gcD_nil)) rfl) gcH_nil))))) zr), ?_, ?_⟩
           ·rw [wr1 ow ow]; exact ⟨by omega, by omega, chk_step h2 (chk_y zs zs zs zs)⟩
           ·rw [wr1 ow ow]; omega
      ·have p7 := g7; try simp only [d1, d2, d3, d4, d5, d6, d7, d8, d9] at p7
       refine k_exit ?_
       refine e_seq_exit ?_
       refine e_loop_exit ?_
       refine e_block_eq ?_
       refine e_seq ?_
       refine k_seq ?_
       refine k_region hP hC ?_
       refine os (x_assign rfl (by rfl)) ?_
       refine o_done ?_
       refine e_seq ?_
       refine k_ret ?_
       have hV : checkE L R w a = 0 := checkE_ok hE hwJ hal (fun j h3 h4 => h2 j h3 ow)
       refine gives_mk (L := [0, 1, 2, 3]) (slots := [6]) (w := 4) (.inr rfl) zr (gcVs_cons zh (gcV_free rfl) gcVs_nil) (gcH_cons (gcO_old (by rfl) zh) (gcH_cons (gcO_old (by rfl) zh) (gcH_cons (gcO_old (by rfl) zh) (gcH_cons (gcO_old (by rfl) zh) gcH_nil)))) zr (by simp only [Try.results27, resA, cst, mkE, Tr.get_set, reduceIte, Nat.reduceEqDiff, Nat.reduceAdd] <;> rfl) ?_
       simp only [one, val_check33]; rw [hV]
  ·skip
   skip
   ·skip
    refine k_seq ?_
    refine k_region hP hC ?_
    refine os (y_boxA rfl zt) ?_
    refine os (x_assign rfl (by rfl)) ?_
    refine o_done ?_
    refine e_seq ?_
    refine k_seq ?_
    refine k_region hP hC ?_
    refine os (x_move rfl zt) ?_
    refine os (x_move rfl zt) ?_
    refine o_call0 (wA_none rfl) rfl rfl rfl zv zd ?_
    refine ⟨_, _, ((tab_hit.trans (judge33_c (rd_sl hs_L zd (whole_row zh rfl) (cfs_len h_L).symm (cfs_free0 h_L)) h_L (rd_sl hs_R zd (whole_row zh rfl) (cfs_len h_R).symm (cfs_free0 h_R)) h_R (by rw [ok_judge33, decide_eq_true hb]))).trans (jout1 hWp judge_len)), ?_⟩
    refine os (x_move rfl zt) ?_
    refine os (x_extract rfl zt rfl) ?_
    refine os (x_extract rfl zt rfl) ?_
    refine os (y_alloc rfl T.z59 rfl rfl) ?_
    refine o_stepN (wA_none rfl) rfl (y_storeA rfl zt zt T.s59 rfl zh rfl rfl rfl) ?_
    refine os (x_assign rfl zt) ?_
    refine o_done ?_
    refine e_seq ?_
    refine k_seq ?_
    refine k_seq ?_
    refine k_region hP hC ?_
    refine os (x_move rfl zt) ?_
    refine os (x_bin (u := .bool false) rfl zt zt (by rw [b_neq]; congr 2; simpa using hE)) ?_
    refine o_done ?_
    refine e_seq ?_
    refine k_condF zt ?_
    refine k_skip ?_
    refine e_seq ?_
    refine k_seq ?_
    refine k_seq ?_
    refine k_region hP hC ?_
    refine os (x_field (off' := 0) rfl zt Try.underlying59 rfl T.s22 rfl) ?_
    refine os (x_load1 rfl zt T.g22 (by first | exact l_boxI (whole_row zh rfl) (by (first | assumption | (exact cf_nth zs ow ow))) rfl | exact l_boxS (whole_row zh rfl) (by (first | assumption | (exact cf_nth zs ow ow))) rfl | (simp only [loadC, AH.fam, Tr.get_set, reduceIte, Nat.reduceEqDiff, Nat.reduceAdd, Fam.rb, List.drop_zero, List.drop_succ_cons, List.take_succ_cons, List.take_zero, List.length_cons, List.length_nil, Nat.zero_le, Nat.reduceLeDiff, and_self, true_and] <;> rfl))) ?_
    refine os (x_field (off' := 0) rfl zt Try.underlying59 rfl T.s22 rfl) ?_
    refine os (x_load1' rfl zt T.g22 zh rfl (Nat.le_of_ble_eq_true rfl) (by simp only [List.take_succ_cons, List.drop_succ_cons, List.take_zero, List.drop_zero, List.take_nil, List.drop_nil, List.cons_append, List.nil_append, List.append_nil, List.length_cons, List.length_nil, Nat.reduceAdd, Int.toNat_zero, Nat.zero_mul, Nat.add_zero, Nat.zero_add] <;> rfl)) ?_
    refine o_call0 (wA_none rfl) rfl rfl rfl zv zd ?_
    refine ⟨_, _, ((tab_miss zd).trans (tab_hit.trans (same01_c (rd_sl hs_w zd (whole_row zh rfl) (by rw [ints_len, Nat.mul_one]) (ints_free0 _)) (rd_whole zd (.inr rfl) (whole_row zh rfl) (by rw [ints_len, Nat.mul_one]) (ints_free0 _)) (by rw [ok_same01, decide_eq_true hw])))), ?_⟩
    refine os (x_not rfl zt) ?_
    refine os (x_move rfl zt) ?_
    refine o_guard rfl rfl zh (fun g18 => ?_) (fun g18 => ?_)
    ·have p18 := g18; try simp only [d1, d2, d3, d4, d5, d6, d7, d8, d9] at p18
     refine o_skip (wA_off rfl rfl zg) rfl zd ?_
     refine o_skip (wA_off rfl rfl zg) rfl zd ?_
     refine o_skip (wA_off rfl rfl zg) rfl zd ?_
     refine o_skip (wA_off rfl rfl zg) rfl zd ?_
     refine o_skip (wA_off rfl rfl zg) rfl zd ?_
     refine o_skip (wA_off rfl rfl zg) rfl zd ?_
     refine o_skip (wA_off rfl rfl zg) rfl zd ?_
     refine os (x_pick rfl zg zb) ?_
     refine o_done ?_
     refine e_seq ?_
     refine k_condT zg ?_
     refine k_seq ?_
     refine k_region hP hC ?_
     refine os (x_assign rfl (by rfl)) ?_
     refine o_done ?_
     refine e_seq ?_
     refine k_ret ?_
     refine e_seq_ret ?_
     have hV : checkE L R w a = 17 := checkE_17 hE (by first | exact .inl zs | exact .inr zs | (rw [hWn]; exact .inl zs))
     refine gives_mk (L := [0, 1, 2, 3]) (slots := [6]) (w := 4) (.inr rfl) zr (gcVs_cons zh (gcV_free rfl) gcVs_nil) (gcH_cons (gcO_old (by rfl) zh) (gcH_cons (gcO_old (by rfl) zh) (gcH_cons (gcO_old (by rfl) zh) (gcH_cons (gcO_old (by rfl) zh) gcH_nil)))) zr (by simp only [Try.results27, resA, cst, mkE, Tr.get_set, reduceIte, Nat.reduceEqDiff, Nat.reduceAdd] <;> rfl) ?_
     simp only [one, val_check33]; rw [hV]
    ·have p18 := g18; try simp only [d1, d2, d3, d4, d5, d6, d7, d8, d9] at p18
     refine o_step (wA_on rfl rfl zg) rfl (x_field (off' := 1) rfl zt Try.underlying59 rfl T.s22 rfl) zd ?_
     refine o_step (wA_on rfl rfl zg) rfl (x_load1 rfl zt T.g22 (by first | exact l_boxI (whole_row zh rfl) (by (first | assumption | (exact cf_nth zs ow ow))) rfl | exact l_boxS (whole_row zh rfl) (by (first | assumption | (exact cf_nth zs ow ow))) rfl | (simp only [loadC, AH.fam, Tr.get_set, reduceIte, Nat.reduceEqDiff, Nat.reduceAdd, Fam.rb, List.drop_zero, List.drop_succ_cons, List.take_succ_cons, List.take_zero, List.length_cons, List.length_nil, Nat.zero_le, Nat.reduceLeDiff, and_self, true_and] <;> rfl))) zd ?_
     refine o_step (wA_on rfl rfl zg) rfl (x_lenS hs_a rfl rfl zv rfl Try.underlying22) zd ?_
     refine o_step (wA_on rfl rfl zg) rfl (x_field (off' := 0) rfl zt Try.underlying59 rfl T.s22 rfl) zd ?_
     refine o_step (wA_on rfl rfl zg) rfl (x_load1 rfl zt T.g22 (by first | exact l_boxI (whole_row zh rfl) (by (first | assumption | (exact cf_nth zs ow ow))) rfl | exact l_boxS (whole_row zh rfl) (by (first | assumption | (exact cf_nth zs ow ow))) rfl | (simp only [loadC, AH.fam, Tr.get_set, reduceIte, Nat.reduceEqDiff, Nat.reduceAdd, Fam.rb, List.drop_zero, List.drop_succ_cons, List.take_succ_cons, List.take_zero, List.length_cons, List.length_nil, Nat.zero_le, Nat.reduceLeDiff, and_self, true_and] <;> rfl))) zd ?_
     refine o_step (wA_on rfl rfl zg) rfl (x_lenS hs_w rfl rfl zv rfl Try.underlying22) zd ?_
     refine o_step (wA_on rfl rfl zg) rfl (x_bin rfl zt zt b_neq) zd ?_
     refine os (x_pick rfl zg zb) ?_
     refine o_done ?_
     refine e_seq ?_
     refine k_cond (by simp only [Tr.get_set, reduceIte, Nat.reduceEqDiff, Nat.reduceAdd, ev_tmp, g18] <;> rfl) (fun g20 => ?_) (fun g20 => ?_)
     ·have p20 := g20; try simp only [d1, d2, d3, d4, d5, d6, d7, d8, d9] at p20
      refine k_seq ?_
      refine k_region hP hC ?_
      refine os (x_assign rfl (by rfl)) ?_
      refine o_done ?_
      refine e_seq ?_
      refine k_ret ?_
      refine e_seq_ret ?_
      have hV : checkE L R w a = 17 := checkE_17 hE (by first | exact .inl zs | exact .inr zs | (rw [hWn]; exact .inl zs))
      refine gives_mk (L := [0, 1, 2, 3]) (slots := [6]) (w := 4) (.inr rfl) zr (gcVs_cons zh (gcV_free rfl) gcVs_nil) (gcH_cons (gcO_old (by rfl) zh) (gcH_cons (gcO_old (by rfl) zh) (gcH_cons (gcO_old (by rfl) zh) (gcH_cons (gcO_old (by rfl) zh) gcH_nil)))) zr (by simp only [Try.results27, resA, cst, mkE, Tr.get_set, reduceIte, Nat.reduceEqDiff, Nat.reduceAdd] <;> rfl) ?_
      simp only [one, val_check33]; rw [hV]
     ·have p20 := g20; try simp only [d1, d2, d3, d4, d5, d6, d7, d8, d9] at p20
      refine k_skip ?_
      refine e_seq ?_
      refine k_seq ?_
      refine k_seq ?_
      refine k_region hP hC ?_
      refine os (x_assign rfl (by rfl)) ?_
      refine o_done ?_
      refine e_seq ?_
      refine k_block ?_
      have hwJ : w = judgeW L R := by first | assumption | (rw [hWn]; assumption)
      have hal : (a.length : Int) = w.length := by assumption
      refine k_loop (α := Int) (fun i => cst 95 [0, 1, 5, 9] [s_L, s_R, .pointer (some ⟨4, 0, none⟩), .int .i64 i] [.row L.flatten 0 BIG true L.flatten.length, .row R.flatten 1 BIG true R.flatten.length, .row (ints w) 2 BIG true (ints w).length, .row (ints a) 3 BIG true (ints a).length, .row [s_w, s_a] 4 BIG false 2] 4) (fun i => 0 ≤ i ∧ i ≤ a.length ∧ ∀ j : Int, 0 ≤ j → j < i → chkG L R w a j = true) (fun i => (a.length - i).toNat) 0 (to_mk (L := [0, 1, 2, 3, 4]) (slots := [0, 1, 5, 9]) (w := 4) zr (gcVs_cons zh (gcV_sl hs_L rfl) (gcVs_cons zh (gcV_sl hs_R rfl) (gcVs_cons zh (gcV_ptr rfl) (gcVs_cons zh (gcV_free rfl) gcVs_nil)))) (gcH_cons (gcO_old (by rfl) zh) (gcH_cons (gcO_old (by rfl) zh) (gcH_cons (gcO_old (by rfl) zh) (gcH_cons (gcO_old (by rfl) zh) (gcH_cons (gcO_rowE (by rfl) zh (gcD_cons (gcV_sl hs_w rfl) (gcD_cons (gcV_sl hs_a rfl) gcD_nil)) rfl) gcH_nil))))) zr) ⟨by omega, by omega, fun j h1 h2 => by omega⟩ ?_
      rintro i ⟨h0, h1, h2⟩
      refine k_cst zm zo zl ?_
      refine k_seq ?_
      refine k_seq ?_
      refine k_region hP hC ?_
      refine os (x_move rfl zt) ?_
      refine os (x_field (off' := 1) rfl zt Try.underlying59 rfl T.s22 rfl) ?_
      refine os (x_load1 rfl zt T.g22 (by first | exact l_boxI (whole_row zh rfl) (by (first | assumption | (exact cf_nth zs ow ow))) rfl | exact l_boxS (whole_row zh rfl) (by (first | assumption | (exact cf_nth zs ow ow))) rfl | (simp only [loadC, AH.fam, Tr.get_set, reduceIte, Nat.reduceEqDiff, Nat.reduceAdd, Fam.rb, List.drop_zero, List.drop_succ_cons, List.take_succ_cons, List.take_zero, List.length_cons, List.length_nil, Nat.zero_le, Nat.reduceLeDiff, and_self, true_and] <;> rfl))) ?_
      refine os (x_lenS hs_a rfl rfl zv rfl Try.underlying22) ?_
      refine os (x_bin rfl zt zt b_lss) ?_
      refine o_done ?_
      refine e_seq ?_
      refine k_cond zt (fun g22 => ?_) (fun g22 => ?_)
      ·have p22 := g22; try simp only [d1, d2, d3, d4, d5, d6, d7, d8, d9] at p22
       refine k_skip ?_
       refine e_seq ?_
       refine k_seq ?_
       refine k_block ?_
       refine k_seq ?_
       refine k_region hP hC ?_
       refine os (x_field (off' := 1) rfl zt Try.underlying59 rfl T.s22 rfl) ?_
       refine os (x_load1 rfl zt T.g22 (by first | exact l_boxI (whole_row zh rfl) (by (first | assumption | (exact cf_nth zs ow ow))) rfl | exact l_boxS (whole_row zh rfl) (by (first | assumption | (exact cf_nth zs ow ow))) rfl | (simp only [loadC, AH.fam, Tr.get_set, reduceIte, Nat.reduceEqDiff, Nat.reduceAdd, Fam.rb, List.drop_zero, List.drop_succ_cons, List.take_succ_cons, List.take_zero, List.length_cons, List.length_nil, Nat.zero_le, Nat.reduceLeDiff, and_self, true_and] <;> rfl))) ?_
       refine os (x_move rfl zt) ?_
       refine os (x_indexS hs_a rfl zt zt Try.underlying22 T.s3 ow ow) ?_
       refine os (x_load1 rfl zt T.g3 (by first | exact l_ints (whole_row zh rfl) ow ow | exact l_partI0 (whole_row zh rfl) zs rfl ow ow rfl)) ?_
       refine os (x_assign rfl zt) ?_
       refine o_done ?_
       refine e_seq ?_
       refine k_seq ?_
       refine k_draw hP hC zr ?_
       refine ds (x_move rfl zt) ?_
       refine ds (x_bin rfl zt (by rfl) b_lss) ?_
       refine ds (x_move rfl zt) ?_
       refine d_guard rfl rfl zh (fun g24 => ?_) (fun g24 => ?_)
       ·have p24 := g24; try simp only [d1, d2, d3, d4, d5, d6, d7, d8, d9] at p24
        refine d_skip (wA_off rfl rfl zg) rfl zd ?_
        refine d_skip (wA_off rfl rfl zg) rfl zd ?_
        refine d_skip (wA_off rfl rfl zg) rfl zd ?_
        refine d_skip (wA_off rfl rfl zg) rfl zd ?_
        refine ds (x_pick rfl zg zb) ?_
        refine ds (x_move rfl zt) ?_
        refine d_skip (wA_off rfl rfl zg) rfl zd ?_
        refine d_skip (wA_off rfl rfl zg) rfl zd ?_
        refine d_skip (wA_off rfl rfl zg) rfl zd ?_
        refine d_skip (wA_off rfl rfl zg) rfl zd ?_
        refine d_skip (wA_off rfl rfl zg) rfl zd ?_
        refine d_skip (wA_off rfl rfl zg) rfl zd ?_
        refine d_skip (wA_off rfl rfl zg) rfl zd ?_
        refine d_skip (wA_off rfl rfl zg) rfl zd ?_
        refine d_skip (wA_off rfl rfl zg) rfl zd ?_
        refine d_skip (wA_off rfl rfl zg) rfl zd ?_
        refine d_skip (wA_off rfl rfl zg) rfl zd ?_
        refine d_skip (wA_off rfl rfl zg) rfl zd ?_
        refine d_skip (wA_off rfl rfl zg) rfl zd ?_
        refine d_skip (wA_off rfl rfl zg) rfl zd ?_
        refine d_skip (wA_off rfl rfl zg) rfl zd ?_
        refine d_skip (wA_off rfl rfl zg) rfl zd ?_
        refine ds (x_pick rfl zg zb) ?_
        refine ds (x_move rfl zt) ?_
        refine d_skip (wA_off rfl rfl zg) rfl zd ?_
        refine d_skip (wA_off rfl rfl zg) rfl zd ?_
        refine d_skip (wA_off rfl rfl zg) rfl zd ?_
        refine d_skip (wA_off rfl rfl zg) rfl zd ?_
        refine d_skip (wA_off rfl rfl zg) rfl zd ?_
        refine d_skip (wA_off rfl rfl zg) rfl zd ?_
        refine d_skip (wA_off rfl rfl zg) rfl zd ?_
        refine d_skip (wA_off rfl rfl zg) rfl zd ?_
        refine d_skip (wA_off rfl rfl zg) rfl zd ?_
        refine d_skip (wA_off rfl rfl zg) rfl zd ?_
        refine d_skip (wA_off rfl rfl zg) rfl zd ?_
        refine d_skip (wA_off rfl rfl zg) rfl zd ?_
        refine d_skip (wA_off rfl rfl zg) rfl zd ?_
        refine d_skip (wA_off rfl rfl zg) rfl zd ?_
        refine d_skip (wA_off rfl rfl zg) rfl zd ?_
        refine d_skip (wA_off rfl rfl zg) rfl zd ?_
        refine d_skip (wA_off rfl rfl zg) rfl zd ?_
        refine d_skip (wA_off rfl rfl zg) rfl zd ?_
        refine d_skip (wA_off rfl rfl zg) rfl zd ?_
        refine d_skip (wA_off rfl rfl zg) rfl zd ?_
        refine ds (x_pick rfl zg zb) ?_
        refine d_done ⟨by kernel_rfl, ?_⟩
        refine e_seq ?_
        refine k_condT zg ?_
        refine k_seq ?_
        refine k_region hP hC ?_
        refine os (x_assign rfl (by rfl)) ?_
        refine o_done ?_
        refine e_seq ?_
        refine k_ret ?_
        refine e_block_ret ?_
        refine e_seq_ret ?_
        refine e_loop_ret ?_
        refine e_block_ret ?_
        refine e_seq_ret ?_
        have hV : checkE L R w a = 17 := checkE_bad hE h0 ow (by first | exact chk_1 zs | exact chk_2 zs | exact chk_3 zs | exact chk_4 zs)
        refine gives_mk (L := [0, 1, 2, 3]) (slots := [6]) (w := 4) (.inr rfl) zr (gcVs_cons zh (gcV_free rfl) gcVs_nil) (gcH_cons (gcO_old (by rfl) zh) (gcH_cons (gcO_old (by rfl) zh) (gcH_cons (gcO_old (by rfl) zh) (gcH_cons (gcO_old (by rfl) zh) gcH_nil)))) zr (by simp only [Try.results27, resA, cst, mkE, Tr.get_set, reduceIte, Nat.reduceEqDiff, Nat.reduceAdd] <;> rfl) ?_
        simp only [one, val_check33]; rw [hV]
       ·have p24 := g24; try simp only [d1, d2, d3, d4, d5, d6, d7, d8, d9] at p24
        refine d_step (wA_on rfl rfl zg) rfl (x_move rfl zt) zd ?_
        refine d_step (wA_on rfl rfl zg) rfl (x_move rfl zt) zd ?_
        refine d_step (wA_on rfl rfl zg) rfl (x_lenS hs_L rfl rfl zv rfl Try.underlying23) zd ?_
        refine d_step (wA_on rfl rfl zg) rfl (x_bin rfl zt zt b_geq) zd ?_
        refine ds (x_pick rfl zg zb) ?_
        refine ds (x_move rfl zt) ?_
        refine d_guard rfl rfl zh (fun g26 => ?_) (fun g26 => ?_)
        ·have p26 := g26; try simp only [d1, d2, d3, d4, d5, d6, d7, d8, d9] at p26
         refine d_skip (wA_off rfl rfl zg) rfl zd ?_
         refine d_skip (wA_off rfl rfl zg) rfl zd ?_
         refine d_skip (wA_off rfl rfl zg) rfl zd ?_
         refine d_skip (wA_off rfl rfl zg) rfl zd ?_
         refine d_skip (wA_off rfl rfl zg) rfl zd ?_
         refine d_skip (wA_off rfl rfl zg) rfl zd ?_
         refine d_skip (wA_off rfl rfl zg) rfl zd ?_
         refine d_skip (wA_off rfl rfl zg) rfl zd ?_
         refine d_skip (wA_off rfl rfl zg) rfl zd ?_
         refine d_skip (wA_off rfl rfl zg) rfl zd ?_
         refine d_skip (wA_off rfl rfl zg) rfl zd ?_
         refine d_skip (wA_off rfl rfl zg) rfl zd ?_
         refine d_skip (wA_off rfl rfl zg) rfl zd ?_
         refine d_skip (wA_off rfl rfl zg) rfl zd ?_
         refine d_skip (wA_off rfl rfl zg) rfl zd ?_
         refine d_skip (wA_off rfl rfl zg) rfl zd ?_
         refine ds (x_pick rfl zg zb) ?_
         refine ds (x_move rfl zt) ?_
         refine d_skip (wA_off rfl rfl zg) rfl zd ?_
         refine d_skip (wA_off rfl rfl zg) rfl zd ?_
         refine d_skip (wA_off rfl rfl zg) rfl zd ?_
         refine d_skip (wA_off rfl rfl zg) rfl zd ?_
         refine d_skip (wA_off rfl rfl zg) rfl zd ?_
         refine d_skip (wA_off rfl rfl zg) rfl zd ?_
         refine d_skip (wA_off rfl rfl zg) rfl zd ?_
         refine d_skip (wA_off rfl rfl zg) rfl zd ?_
         refine d_skip (wA_off rfl rfl zg) rfl zd ?_
         refine d_skip (wA_off rfl rfl zg) rfl zd ?_
         refine d_skip (wA_off rfl rfl zg) rfl zd ?_
         refine d_skip (wA_off rfl rfl zg) rfl zd ?_
         refine d_skip (wA_off rfl rfl zg) rfl zd ?_
         refine d_skip (wA_off rfl rfl zg) rfl zd ?_
         refine d_skip (wA_off rfl rfl zg) rfl zd ?_
         refine d_skip (wA_off rfl rfl zg) rfl zd ?_
         refine d_skip (wA_off rfl rfl zg) rfl zd ?_
         refine d_skip (wA_off rfl rfl zg) rfl zd ?_
         refine d_skip (wA_off rfl rfl zg) rfl zd ?_
         refine d_skip (wA_off rfl rfl zg) rfl zd ?_
         refine ds (x_pick rfl zg zb) ?_
         refine d_done ⟨by kernel_rfl, ?_⟩
         refine e_seq ?_
         refine k_condT zg ?_
         refine k_seq ?_
         refine k_region hP hC ?_
         refine os (x_assign rfl (by rfl)) ?_
         refine o_done ?_
         refine e_seq ?_
         refine k_ret ?_
         refine e_block_ret ?_
         refine e_seq_ret ?_
         refine e_loop_ret ?_
         refine e_block_ret ?_
         refine e_seq_ret ?_
         have hV : checkE L R w a = 17 := checkE_bad hE h0 ow (by first | exact chk_1 zs | exact chk_2 zs | exact chk_3 zs | exact chk_4 zs)
         refine gives_mk (L := [0, 1, 2, 3]) (slots := [6]) (w := 4) (.inr rfl) zr (gcVs_cons zh (gcV_free rfl) gcVs_nil) (gcH_cons (gcO_old (by rfl) zh) (gcH_cons (gcO_old (by rfl) zh) (gcH_cons (gcO_old (by rfl) zh) (gcH_cons (gcO_old (by rfl) zh) gcH_nil)))) zr (by simp only [Try.results27, resA, cst, mkE, Tr.get_set, reduceIte, Nat.reduceEqDiff, Nat.reduceAdd] <;> rfl) ?_
         simp only [one, val_check33]; rw [hV]
        ·have p26 := g26; try simp only [d1, d2, d3, d4, d5, d6, d7, d8, d9] at p26
         refine d_step (wA_on rfl rfl zg) rfl (x_move rfl zt) zd ?_
         refine d_step (wA_on rfl rfl zg) rfl (x_move rfl zt) zd ?_
         refine d_step (wA_on rfl rfl zg) rfl (x_move rfl zt) zd ?_
         refine d_step (wA_on rfl rfl zg) rfl (x_lenS hs_L rfl rfl zv rfl Try.underlying23) zd ?_
         refine d_step (wA_on rfl rfl zg) rfl (x_bin rfl zt (by rfl) b_sub) zd ?_
         refine d_step (wA_on rfl rfl zg) rfl (x_min (r := ith a i) rfl rfl zv (by rw [IntWalk.i64_in _ ow]; omega)) zd ?_
         refine d_step (wA_on rfl rfl zg) rfl (x_max (r := ith a i) rfl rfl zv ow) zd ?_
         refine d_step (wA_on rfl rfl zg) rfl (x_indexS hs_L rfl zt zt Try.underlying23 T.s43 ow ow) zd ?_
         refine d_step (wA_on rfl rfl zg) rfl (x_field0 rfl zt Try.underlying43 rfl T.s3 rfl) zd ?_
         refine d_step (wA_on rfl rfl zg) rfl (x_load1 rfl zt T.g3 (l_partI0 (K := 46) (whole_row zh rfl) zs rfl ow ow rfl)) zd ?_
         refine d_step (wA_on rfl rfl zg) rfl (x_field (off' := 0) rfl zt Try.underlying59 rfl T.s22 rfl) zd ?_
         refine d_step (wA_on rfl rfl zg) rfl (x_load1 rfl zt T.g22 (by first | exact l_boxI (whole_row zh rfl) (by (first | assumption | (exact cf_nth zs ow ow))) rfl | exact l_boxS (whole_row zh rfl) (by (first | assumption | (exact cf_nth zs ow ow))) rfl | (simp only [loadC, AH.fam, Tr.get_set, reduceIte, Nat.reduceEqDiff, Nat.reduceAdd, Fam.rb, List.drop_zero, List.drop_succ_cons, List.take_succ_cons, List.take_zero, List.length_cons, List.length_nil, Nat.zero_le, Nat.reduceLeDiff, and_self, true_and] <;> rfl))) zd ?_
         refine d_step (wA_on rfl rfl zg) rfl (x_move rfl zt) zd ?_
         refine d_step (wA_on rfl rfl zg) rfl (x_indexS hs_w rfl zt zt Try.underlying22 T.s3 ow ow) zd ?_
         refine d_step (wA_on rfl rfl zg) rfl (x_load1 rfl zt T.g3 (by first | exact l_ints (whole_row zh rfl) ow ow | exact l_partI0 (whole_row zh rfl) zs rfl ow ow rfl)) zd ?_
         refine d_step (wA_on rfl rfl zg) rfl (x_bin rfl zt zt b_neq) zd ?_
         refine ds (x_pick rfl zg zb) ?_
         refine ds (x_move rfl zt) ?_
         refine d_guard rfl rfl zh (fun g28 => ?_) (fun g28 => ?_)
         ·have p28 := g28; try simp only [d1, d2, d3, d4, d5, d6, d7, d8, d9] at p28
          refine d_skip (wA_off rfl rfl zg) rfl zd ?_
          refine d_skip (wA_off rfl rfl zg) rfl zd ?_
          refine d_skip (wA_off rfl rfl zg) rfl zd ?_
          refine d_skip (wA_off rfl rfl zg) rfl zd ?_
          refine d_skip (wA_off rfl rfl zg) rfl zd ?_
          refine d_skip (wA_off rfl rfl zg) rfl zd ?_
          refine d_skip (wA_off rfl rfl zg) rfl zd ?_
          refine d_skip (wA_off rfl rfl zg) rfl zd ?_
          refine d_skip (wA_off rfl rfl zg) rfl zd ?_
          refine d_skip (wA_off rfl rfl zg) rfl zd ?_
          refine d_skip (wA_off rfl rfl zg) rfl zd ?_
          refine d_skip (wA_off rfl rfl zg) rfl zd ?_
          refine d_skip (wA_off rfl rfl zg) rfl zd ?_
          refine d_skip (wA_off rfl rfl zg) rfl zd ?_
          refine d_skip (wA_off rfl rfl zg) rfl zd ?_
          refine d_skip (wA_off rfl rfl zg) rfl zd ?_
          refine d_skip (wA_off rfl rfl zg) rfl zd ?_
          refine d_skip (wA_off rfl rfl zg) rfl zd ?_
          refine d_skip (wA_off rfl rfl zg) rfl zd ?_
          refine d_skip (wA_off rfl rfl zg) rfl zd ?_
          refine ds (x_pick rfl zg zb) ?_
          refine d_done ⟨by kernel_rfl, ?_⟩
          refine e_seq ?_
          refine k_condT zg ?_
          refine k_seq ?_
          refine k_region hP hC ?_
          refine os (x_assign rfl (by rfl)) ?_
          refine o_done ?_
          refine e_seq ?_
          refine k_ret ?_
          refine e_block_ret ?_
          refine e_seq_ret ?_
          refine e_loop_ret ?_
          refine e_block_ret ?_
          refine e_seq_ret ?_
          have hV : checkE L R w a = 17 := checkE_bad hE h0 ow (by first | exact chk_1 zs | exact chk_2 zs | exact chk_3 zs | exact chk_4 zs)
          refine gives_mk (L := [0, 1, 2, 3]) (slots := [6]) (w := 4) (.inr rfl) zr (gcVs_cons zh (gcV_free rfl) gcVs_nil) (gcH_cons (gcO_old (by rfl) zh) (gcH_cons (gcO_old (by rfl) zh) (gcH_cons (gcO_old (by rfl) zh) (gcH_cons (gcO_old (by rfl) zh) gcH_nil)))) zr (by simp only [Try.results27, resA, cst, mkE, Tr.get_set, reduceIte, Nat.reduceEqDiff, Nat.reduceAdd] <;> rfl) ?_
          simp only [one, val_check33]; rw [hV]
         ·have p28 := g28; try simp only [d1, d2, d3, d4, d5, d6, d7, d8, d9] at p28
          refine d_step (wA_on rfl rfl zg) rfl (x_move rfl zt) zd ?_
          refine d_step (wA_on rfl rfl zg) rfl (x_move rfl zt) zd ?_
          refine d_step (wA_on rfl rfl zg) rfl (x_move rfl zt) zd ?_
          refine d_step (wA_on rfl rfl zg) rfl (x_lenS hs_L rfl rfl zv rfl Try.underlying23) zd ?_
          refine d_step (wA_on rfl rfl zg) rfl (x_bin rfl zt (by rfl) b_sub) zd ?_
          refine d_step (wA_on rfl rfl zg) rfl (x_min (r := ith a i) rfl rfl zv (by rw [IntWalk.i64_in _ ow]; omega)) zd ?_
          refine d_step (wA_on rfl rfl zg) rfl (x_max (r := ith a i) rfl rfl zv ow) zd ?_
          refine d_step (wA_on rfl rfl zg) rfl (x_indexS hs_L rfl zt zt Try.underlying23 T.s43 ow ow) zd ?_
          refine d_step (wA_on rfl rfl zg) rfl (x_fieldK (a := 23) rfl zt Try.underlying43 rfl T.s41 rfl) zd ?_
          refine d_step (wA_on rfl rfl zg) rfl (x_loadA rfl zt T.g41 T.s41 (l_part (a := 23) (K := 46) (whole_row zh rfl) zs rfl ow ow zd)) zd ?_
          refine d_step (wA_on rfl rfl zg) rfl (x_move rfl zt) zd ?_
          refine d_step (wA_on rfl rfl zg) rfl (x_move rfl zt) zd ?_
          refine d_step (wA_on rfl rfl zg) rfl (x_move rfl zt) zd ?_
          refine d_step (wA_on rfl rfl zg) rfl (x_lenS hs_L rfl rfl zv rfl Try.underlying23) zd ?_
          refine d_step (wA_on rfl rfl zg) rfl (x_bin rfl zt (by rfl) b_sub) zd ?_
          refine d_step (wA_on rfl rfl zg) rfl (x_min (r := ith a i) rfl rfl zv (by rw [IntWalk.i64_in _ ow]; omega)) zd ?_
          refine d_step (wA_on rfl rfl zg) rfl (x_max (r := ith a i) rfl rfl zv ow) zd ?_
          refine d_step (wA_on rfl rfl zg) rfl (x_indexS hs_R rfl zt zt Try.underlying24 T.s41 ow ow) zd ?_
          refine d_step (wA_on rfl rfl zg) rfl (x_loadA rfl zt T.g41 T.s41 (l_elem (whole_row zh rfl) zs rfl ow ow)) zd ?_
          refine d_step (wA_on rfl rfl zg) rfl (x_bin rfl zt zt (b_eqlA zd T.f41 T.g41 T.q41 zc zc)) zd ?_
          refine ds (x_pick rfl zg zb) ?_
          refine d_done ⟨by kernel_rfl, ?_⟩
          refine e_seq ?_
          refine k_cond (by simp only [Tr.get_set, reduceIte, Nat.reduceEqDiff, Nat.reduceAdd, ev_tmp, g22, g24, g26, g28] <;> rfl) (fun g30 => ?_) (fun g30 => ?_)
          ·have p30 := g30; try simp only [d1, d2, d3, d4, d5, d6, d7, d8, d9] at p30
           refine k_seq ?_
           refine k_region hP hC ?_
           refine os (x_assign rfl (by rfl)) ?_
           refine o_done ?_
           refine e_seq ?_
           refine k_ret ?_
           refine e_block_ret ?_
           refine e_seq_ret ?_
           refine e_loop_ret ?_
           refine e_block_ret ?_
           refine e_seq_ret ?_
           have hV : checkE L R w a = 17 := checkE_bad hE h0 ow (by first | exact chk_1 zs | exact chk_2 zs | exact chk_3 zs | exact chk_4 zs)
           refine gives_mk (L := [0, 1, 2, 3]) (slots := [6]) (w := 4) (.inr rfl) zr (gcVs_cons zh (gcV_free rfl) gcVs_nil) (gcH_cons (gcO_old (by rfl) zh) (gcH_cons (gcO_old (by rfl) zh) (gcH_cons (gcO_old (by rfl) zh) (gcH_cons (gcO_old (by rfl) zh) gcH_nil)))) zr (by simp only [Try.results27, resA, cst, mkE, Tr.get_set, reduceIte, Nat.reduceEqDiff, Nat.reduceAdd] <;> rfl) ?_
           simp only [one, val_check33]; rw [hV]
          ·have p30 := g30; try simp only [d1, d2, d3, d4, d5, d6, d7, d8, d9] at p30
           refine k_skip ?_
           refine e_block ?_
           refine e_seq ?_
           refine k_region hP hC ?_
           refine os (x_move rfl zt) ?_
           refine os (x_bin rfl zt (by rfl) b_add) ?_
           refine os (x_assign rfl zt) ?_
           refine o_done ?_
           refine e_loop ?_
           refine ⟨IntKind.i64.wrap (i + 1), (to_mk (L := [0, 1, 2, 3, 4]) (slots := [0, 1, 5, 9]) (w := 4) zr (gcVs_cons zh (gcV_sl hs_L rfl) (gcVs_cons zh (gcV_sl hs_R rfl) (gcVs_cons zh (gcV_ptr rfl) (gcVs_cons zh (gcV_free rfl) gcVs_nil)))) (gcH_cons (gcO_old (by rfl) zh) (gcH_cons (gcO_old (by rfl) zh) (gcH_cons (gcO_old (by rfl) zh) (gcH_cons (gcO_old (by rfl) zh) (gcH_cons (gcO_rowE (by rfl) zh (gcD_cons (gcV_sl hs_w rfl) (gcD_cons (gcV_sl hs_a rfl) gcD_nil)) rfl) gcH_nil))))) zr), ?_, ?_⟩
           ·rw [wr1 ow ow]; exact ⟨by omega, by omega, chk_step h2 (chk_y zs zs zs zs)⟩
           ·rw [wr1 ow ow]; omega
      ·have p22 := g22; try simp only [d1, d2, d3, d4, d5, d6, d7, d8, d9] at p22
       refine k_exit ?_
       refine e_seq_exit ?_
       refine e_loop_exit ?_
       refine e_block_eq ?_
       refine e_seq ?_
       refine k_seq ?_
       refine k_region hP hC ?_
       refine os (x_assign rfl (by rfl)) ?_
       refine o_done ?_
       refine e_seq ?_
       refine k_ret ?_
       have hV : checkE L R w a = 0 := checkE_ok hE hwJ hal (fun j h3 h4 => h2 j h3 ow)
       refine gives_mk (L := [0, 1, 2, 3]) (slots := [6]) (w := 4) (.inr rfl) zr (gcVs_cons zh (gcV_free rfl) gcVs_nil) (gcH_cons (gcO_old (by rfl) zh) (gcH_cons (gcO_old (by rfl) zh) (gcH_cons (gcO_old (by rfl) zh) (gcH_cons (gcO_old (by rfl) zh) gcH_nil)))) zr (by simp only [Try.results27, resA, cst, mkE, Tr.get_set, reduceIte, Nat.reduceEqDiff, Nat.reduceAdd] <;> rfl) ?_
       simp only [one, val_check33]; rw [hV]
theorem con_check33 : Con Try.prog 27 c_check33 := con_flat Try.func27 rfl fun us cs v new h => by
 unfold spec_check33 at h
 split at h
 case h_2 => cases h
 rename_i s_L s_R s_w s_a c_L c_R c_w c_a
 split at h
 case isFalse => cases h
 rename_i hc
 try simp only [Bool.and_eq_true] at hc
 obtain ⟨⟨⟨⟨⟨⟨⟨⟨q_L, r_L⟩, q_R⟩, r_R⟩, q_w⟩, r_w⟩, q_a⟩, r_a⟩, hok⟩ := hc
 cases h
 obtain ⟨h_L, e_L⟩ := isRows_cfs zd r_L
 have hs_L := slOk_sl (n := (chunks 46 c_L).length) q_L zd (rows_len (ks := T.K43) zd r_L)
 obtain ⟨h_R, e_R⟩ := isRows_cfs zd r_R
 have hs_R := slOk_sl (n := (chunks 22 c_R).length) q_R zd (rows_len (ks := T.K41) zd r_R)
 have e_w := ints_unints r_w
 have hs_w := slOk_sl (n := (unints c_w).length) q_w zd (by rw [← ints_len, e_w, Nat.mul_one])
 have e_a := ints_unints r_a
 have hs_a := slOk_sl (n := (unints c_a).length) q_a zd (by rw [← ints_len, e_a, Nat.mul_one])
 have key := check33_m hs_L h_L hs_R h_R hs_w hs_a hok
 have hrows : [(chunks T.K43.length c_L).flatten, (chunks T.K41.length c_R).flatten, ints (unints c_w), ints (unints c_a)] = [c_L, c_R, c_w, c_a] := by rw [e_L, e_R, e_w, e_a]
 rw [← hrows]
 exact key
theorem check33_c {H : AH} {s_L : Value} {s_R : Value} {s_w : Value} {s_a : Value} {L : List (List Value)} {R : List (List Value)} {w : List Int} {a : List Int} (hr_L : Rd H 46 s_L L.length L.flatten) (h_L : cfs T.K43 L) (hr_R : Rd H 22 s_R R.length R.flatten) (h_R : cfs T.K41 R) (hr_w : Rd H 1 s_w w.length (ints w)) (hr_a : Rd H 1 s_a a.length (ints a)) (hok : ok_check33 L R w a = true) : c_check33 [s_L, s_R, .agg ⟨[s_w, s_a]⟩] H = some (.int .i64 (checkE L R w a), H) := by
 obtain ⟨u_L, a_L, b_L⟩ := hr_L 0
 obtain ⟨u_R, a_R, b_R⟩ := hr_R 1
 obtain ⟨u_w, a_w, b_w⟩ := hr_w 2
 obtain ⟨u_a, a_a, b_a⟩ := hr_a 3
 have k_L := isRows_flat zd h_L
 have k2_L : chunks 46 L.flatten = L := k_L.2
 have k_R := isRows_flat zd h_R
 have k2_R : chunks 22 R.flatten = R := k_R.2
 exact flatC_at (v := val_check33 L R w a) (new := new_check33 L R w a) (cl_sl a_L (cl_sl a_R (cl_ag2 a_w a_a cl_nil))) (by simp only [spec_check33, sl_slOk b_L (cfs_len h_L), k_L.1, k2_L, sl_slOk b_R (cfs_len h_R), k_R.1, k2_R, sl_slOk b_w (by rw [ints_len, Nat.mul_one]), isInts_ints, unints_ints, sl_slOk b_a (by rw [ints_len, Nat.mul_one]), hok, Bool.and_self, if_true]) (rfl) (gcV_free rfl)
end Go.Proofs.Ytohhcnehcjpekaa
