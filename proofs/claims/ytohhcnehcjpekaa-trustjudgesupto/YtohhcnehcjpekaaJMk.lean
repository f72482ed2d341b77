/-
  Contracts: what makes answers.
-/
import Derived.Test.YtohhcnehcjpekaaJLl
namespace Go.Proofs.Ytohhcnehcjpekaa
open Go.AM
set_option maxRecDepth 100000
set_option maxHeartbeats 1000000
set_option linter.unusedSimpArgs false
set_option linter.unusedVariables false
def ok_right (x : List Value) : Bool := decide (inR (intAt x 20))
def val_right (x : List Value) : Value := .agg ⟨rightC (seedC x)⟩
def new_right (x : List Value) : List (List Value) := []
def spec_right : Go.AM.Spec := fun us cs => match us, cs with
 | [.agg ⟨x⟩], [] => if cf T.K37 x && ok_right x then some (val_right x, new_right x) else none
 | _, _ => none
def c_right := flatC [.fr] spec_right
theorem right_m  {x : List Value} (h_x : cf T.K37 x = true) (hok : ok_right x = true) : Meets Try.prog (.func 34) [.agg ⟨x⟩] (cheap []) (val_right x) (rheap [] (new_right x)) := by
 have hP := Fits
 have hC : CallSound Try.prog (tabOf [(14, c_around)]) := tab_sound (tab_cons con_around tab_end)
 simp only [ok_right, Bool.and_eq_true, decide_eq_true_eq] at hok
 have hn := hok
 refine meets_start (sz := 24) hP Try.func34 rfl rfl zo (by simp only [Tr.ofList, roRows, Nat.zero_add, Nat.reduceAdd] <;> rfl) zl ?_
 refine k_seq ?_
 refine k_region hP hC ?_
 refine os (y_boxA rfl zt) ?_
 refine os (y_alloc rfl T.z41 rfl rfl) ?_
 refine o_done ?_
 refine e_seq ?_
 refine k_seq ?_
 refine k_region hP hC ?_
 refine os (x_field (off' := 20) rfl zt Try.underlying37 rfl T.s3 rfl) ?_
 refine os (x_load1 rfl zt T.g3 (by first | exact l_boxI (whole_row zh rfl) (by (first | assumption | (exact cf_nth zs ow ow))) rfl | exact l_boxS (whole_row zh rfl) (by (first | assumption | (exact cf_nth zs ow ow))) rfl | (simp only [loadC, AH.fam, Tr.get_set, reduceIte, Nat.reduceEqDiff, Nat.reduceAdd, Fam.rb, List.drop_zero, List.drop_succ_cons, List.take_succ_cons, List.take_zero, List.length_cons, List.length_nil, Nat.zero_le, Nat.reduceLeDiff, and_self, true_and] <;> rfl))) ?_
 refine o_call0 (wA_none rfl) rfl rfl rfl zv zd ?_
 refine ⟨_, _, (tab_hit.trans (around_c (by rw [ok_around, Bool.and_eq_true, decide_eq_true_eq, decide_eq_true_eq]; exact ⟨hn, by decide⟩))), ?_⟩
 refine os (x_assign rfl zt) ?_
 refine o_done ?_
 refine e_seq ?_
 refine k_seq ?_
 refine k_region hP hC ?_
 refine os (x_move rfl zt) ?_
 refine os (x_bin rfl zt (by rfl) (b_rem (by first | decide | omega))) ?_
 refine os (x_move rfl zt) ?_
 refine os (x_bin rfl zt (by rfl) (b_rem (by first | decide | omega))) ?_
 refine os (x_bin rfl (by rfl) zt b_add) ?_
 refine os (x_build (v := .agg ⟨[.int .i64 (IntKind.i64.wrap (1 + (around (intAt x 20) 4096).tmod 5)), .int .i64 0, .int .i64 0]⟩) rfl zp T.z39 rfl zr) ?_
 refine os (x_build (v := .agg ⟨[.int .i64 ((around (intAt x 20) 4096).tmod 3), .string .empty, .int .i64 0, .int .i64 (IntKind.i64.wrap (1 + (around (intAt x 20) 4096).tmod 5)), .int .i64 0, .int .i64 0, .int .u8 0, .int .u8 0, .int .u8 0, .int .u8 0, .int .u8 0, .int .u8 0, .int .u8 0, .int .u8 0, .int .u8 0, .int .u8 0, .int .u8 0, .int .u8 0, .int .u8 0, .int .u8 0, .int .u8 0, .int .u8 0]⟩) rfl zp T.z41 rfl zr) ?_
 refine os (y_alloc rfl T.z41 rfl rfl) ?_
 refine o_stepN (wA_none rfl) rfl (y_storeA rfl zt zt T.s41 (cf_len (ks := T.K41) (by rfl)) zh rfl rfl (cf_oneC (ks := T.K41) (by rfl))) ?_
 refine o_done ?_
 refine e_seq ?_
 refine k_seq ?_
 refine k_seq ?_
 refine k_region hP hC ?_
 refine os (x_field (off' := 0) rfl zt Try.underlying41 rfl T.s3 rfl) ?_
 refine os (x_load1' rfl zt T.g3 zh rfl (Nat.le_of_ble_eq_true rfl) (by simp only [List.take_succ_cons, List.drop_succ_cons, List.take_zero, List.drop_zero, List.take_nil, List.drop_nil, List.cons_append, List.nil_append, List.append_nil, List.length_cons, List.length_nil, Nat.reduceAdd, Int.toNat_zero, Nat.zero_mul, Nat.add_zero, Nat.zero_add] <;> rfl)) ?_
 refine os (x_bin rfl zt (by rfl) b_neq) ?_
 refine o_done ?_
 refine e_seq ?_
 refine k_cond zt (fun g2 => ?_) (fun g2 => ?_)
 ·have p2 := g2; try simp only [d1, d2, d3, d4, d5, d6, d7, d8, d9] at p2
  refine k_region hP hC ?_
  refine os (x_field (off' := 1) rfl zt Try.underlying41 rfl T.s9 rfl) ?_
  refine o_stepN (wA_none rfl) rfl (y_store1P rfl zt (by rfl) rfl T.s9 zh rfl (Nat.le_of_ble_eq_true rfl) rfl (by simp only [splice, List.take_succ_cons, List.drop_succ_cons, List.take_zero, List.drop_zero, List.take_nil, List.drop_nil, List.cons_append, List.nil_append, List.append_nil, List.length_cons, List.length_nil, Nat.reduceAdd, Int.toNat_zero, Nat.zero_mul, Nat.add_zero, Nat.zero_add] <;> rfl)) ?_
  refine o_done ?_
  refine e_seq ?_
  refine k_seq ?_
  refine k_region hP hC ?_
  refine os (x_move rfl zt) ?_
  refine os (x_convI rfl zt Try.underlying3 Try.underlying5) ?_
  refine os (x_field (off' := 6) rfl zt Try.underlying41 rfl T.s33 rfl) ?_
  refine os (x_indexA rfl zt (by rfl) Try.underlying33 T.s5 ow ow) ?_
  refine o_stepN (wA_none rfl) rfl (y_store1P rfl zt zt rfl T.s5 zh rfl (Nat.le_of_ble_eq_true rfl) rfl (by simp only [splice, List.take_succ_cons, List.drop_succ_cons, List.take_zero, List.drop_zero, List.take_nil, List.drop_nil, List.cons_append, List.nil_append, List.append_nil, List.length_cons, List.length_nil, Nat.reduceAdd, Int.toNat_zero, Nat.zero_mul, Nat.add_zero, Nat.zero_add] <;> rfl)) ?_
  refine o_done ?_
  refine e_seq ?_
  refine k_seq ?_
  refine k_region hP hC ?_
  refine os (x_loadA' rfl zt T.g41 T.s41 zh rfl (Nat.le_of_ble_eq_true rfl) (by simp only [List.take_succ_cons, List.drop_succ_cons, List.take_zero, List.drop_zero, List.take_nil, List.drop_nil, List.cons_append, List.nil_append, List.append_nil, List.length_cons, List.length_nil, Nat.reduceAdd, Int.toNat_zero, Nat.zero_mul, Nat.add_zero, Nat.zero_add] <;> rfl)) ?_
  refine o_stepN (wA_none rfl) rfl (y_storeA rfl zt zt T.s41 (cf_len (ks := T.K41) (by rfl)) zh rfl rfl (cf_oneC (ks := T.K41) (by rfl))) ?_
  refine o_done ?_
  refine e_seq ?_
  refine k_ret ?_
  refine gives_mk2 (L := []) (w := 0) (.inr rfl) zr (resA_cell zh T.g41 T.s41 (l_all (whole_row zh rfl) rfl) resA_nil) ?_ gcH_nil zr
  show gcV _ 9 (.agg ⟨_⟩) = some (.agg ⟨rightC (seedC x)⟩); unfold rightC rightN seedC; (first | rw [if_pos (by simpa using g2)] | rw [if_neg (by simpa using g2)]); exact gcV_agg (ks := T.K41) rfl
 ·have p2 := g2; try simp only [d1, d2, d3, d4, d5, d6, d7, d8, d9] at p2
  refine k_skip ?_
  refine e_seq ?_
  refine k_seq ?_
  refine k_region hP hC ?_
  refine os (x_move rfl zt) ?_
  refine os (x_convI rfl zt Try.underlying3 Try.underlying5) ?_
  refine os (x_field (off' := 6) rfl zt Try.underlying41 rfl T.s33 rfl) ?_
  refine os (x_indexA rfl zt (by rfl) Try.underlying33 T.s5 ow ow) ?_
  refine o_stepN (wA_none rfl) rfl (y_store1P rfl zt zt rfl T.s5 zh rfl (Nat.le_of_ble_eq_true rfl) rfl (by simp only [splice, List.take_succ_cons, List.drop_succ_cons, List.take_zero, List.drop_zero, List.take_nil, List.drop_nil, List.cons_append, List.nil_append, List.append_nil, List.length_cons, List.length_nil, Nat.reduceAdd, Int.toNat_zero, Nat.zero_mul, Nat.add_zero, Nat.zero_add] <;> rfl)) ?_
  refine o_done ?_
  refine e_seq ?_
  refine k_seq ?_
  refine k_region hP hC ?_
  refine os (x_loadA' rfl zt T.g41 T.s41 zh rfl (Nat.le_of_ble_eq_true rfl) (by simp only [List.take_succ_cons, List.drop_succ_cons, List.take_zero, List.drop_zero, List.take_nil, List.drop_nil, List.cons_append, List.nil_append, List.append_nil, List.length_cons, List.length_nil, Nat.reduceAdd, Int.toNat_zero, Nat.zero_mul, Nat.add_zero, Nat.zero_add] <;> rfl)) ?_
  refine o_stepN (wA_none rfl) rfl (y_storeA rfl zt zt T.s41 (cf_len (ks := T.K41) (by rfl)) zh rfl rfl (cf_oneC (ks := T.K41) (by rfl))) ?_
  refine o_done ?_
  refine e_seq ?_
  refine k_ret ?_
  refine gives_mk2 (L := []) (w := 0) (.inr rfl) zr (resA_cell zh T.g41 T.s41 (l_all (whole_row zh rfl) rfl) resA_nil) ?_ gcH_nil zr
  show gcV _ 9 (.agg ⟨_⟩) = some (.agg ⟨rightC (seedC x)⟩); unfold rightC rightN seedC; (first | rw [if_pos (by simpa using g2)] | rw [if_neg (by simpa using g2)]); exact gcV_agg (ks := T.K41) rfl
theorem con_right : Con Try.prog 34 c_right := con_flat Try.func34 rfl fun us cs v new h => by
 unfold spec_right at h
 split at h
 case h_2 => cases h
 rename_i x
 split at h
 case isFalse => cases h
 rename_i hc
 try simp only [Bool.and_eq_true] at hc
 obtain ⟨h_x, hok⟩ := hc
 cases h
 have key := right_m h_x hok
 exact key
theorem right_c {H : AH}  {x : List Value} (h_x : cf T.K37 x = true) (hok : ok_right x = true) : c_right [.agg ⟨x⟩] H = some (.agg ⟨rightC (seedC x)⟩, H) := by
 exact flatC_at (v := val_right x) (new := new_right x) (cl_fr (cf_free0 h_x) cl_nil) (by simp only [spec_right, h_x, hok, Bool.and_self, if_true]) (rfl) (gcV_agg (rightC_cf _))
def ok_wrong31 (r : List Value) (how : Int) (b : Int) : Bool := decide (inR how) && decide (inR b) && decide ((strAt r 1).size ≤ 1000)
def val_wrong31 (r : List Value) (how : Int) (b : Int) : Value := .agg ⟨wrongC r how b⟩
def new_wrong31 (r : List Value) (how : Int) (b : Int) : List (List Value) := []
def spec_wrong31 : Go.AM.Spec := fun us cs => match us, cs with
 | [.agg ⟨r⟩, .int .i64 how, .int .i64 b], [] => if cf T.K41 r && ok_wrong31 r how b then some (val_wrong31 r how b, new_wrong31 r how b) else none
 | _, _ => none
def c_wrong31 := flatC [.fr, .fr, .fr] spec_wrong31
theorem wrong31_m  {r : List Value} {how : Int} {b : Int} (h_r : cf T.K41 r = true) (hok : ok_wrong31 r how b = true) : Meets Try.prog (.func 22) [.agg ⟨r⟩, .int .i64 how, .int .i64 b] (cheap []) (val_wrong31 r how b) (rheap [] (new_wrong31 r how b)) := by
 have hP := Fits
 have hC : CallSound Try.prog (tabOf [(14, c_around)]) := tab_sound (tab_cons con_around tab_end)
 simp only [ok_wrong31, Bool.and_eq_true, decide_eq_true_eq] at hok
 obtain ⟨⟨hh, hb⟩, hs⟩ := hok
 have hx1 : 0 ≤ around b 16 := around_lo zd
 have hx2 : around b 16 < 16 := around_hi zd
 refine meets_start (sz := 80) hP Try.func22 rfl rfl zo (by simp only [Tr.ofList, roRows, Nat.zero_add, Nat.reduceAdd] <;> rfl) zl ?_
 refine k_seq ?_
 refine k_region hP hC ?_
 refine os (y_boxA rfl zt) ?_
 refine os (y_alloc rfl T.z41 rfl rfl) ?_
 refine o_done ?_
 refine e_seq ?_
 refine k_seq ?_
 refine k_seq ?_
 refine k_region hP hC ?_
 refine os (x_move rfl zt) ?_
 refine o_call0 (wA_none rfl) rfl rfl rfl zv zd ?_
 refine ⟨_, _, (tab_hit.trans (around_c (by rw [ok_around, Bool.and_eq_true, decide_eq_true_eq, decide_eq_true_eq]; exact ⟨hh, by decide⟩))), ?_⟩
 refine o_done ?_
 refine e_seq ?_
 refine k_block ?_
 refine k_seq ?_
 refine k_region hP hC ?_
 refine os (x_bin rfl zt (by rfl) b_eql) ?_
 refine os (x_assign rfl zt) ?_
 refine o_done ?_
 refine e_seq ?_
 refine k_cond zt (fun g2 => ?_) (fun g2 => ?_)
 ·have p2 := g2; try simp only [d1, d2, d3, d4, d5, d6, d7, d8, d9] at p2
  refine k_draw hP hC zr ?_
  refine ds (x_field (off' := 0) rfl zt Try.underlying41 rfl T.s3 rfl) ?_
  refine ds (x_load1 rfl zt T.g3 (by first | exact l_boxI (whole_row zh rfl) (by (first | assumption | (exact cf_nth zs ow ow))) rfl | exact l_boxS (whole_row zh rfl) (by (first | assumption | (exact cf_nth zs ow ow))) rfl | (simp only [loadC, AH.fam, Tr.get_set, reduceIte, Nat.reduceEqDiff, Nat.reduceAdd, Fam.rb, List.drop_zero, List.drop_succ_cons, List.take_succ_cons, List.take_zero, List.length_cons, List.length_nil, Nat.zero_le, Nat.reduceLeDiff, and_self, true_and] <;> rfl))) ?_
  refine ds (x_bin rfl zt (by rfl) b_add) ?_
  refine ds (x_move rfl zt) ?_
  refine d_call0 (wA_none rfl) rfl rfl rfl zv zd ?_
  refine ⟨_, _, _, _, (tab_hit.trans (around_c (by rw [ok_around, Bool.and_eq_true, decide_eq_true_eq, decide_eq_true_eq]; exact ⟨hb, by decide⟩))), ?_⟩
  refine ds (x_bin rfl zt zt b_add) ?_
  refine ds (x_bin rfl zt (by rfl) (b_rem (by first | decide | omega))) ?_
  refine ds (x_field (off' := 0) rfl zt Try.underlying41 rfl T.s3 rfl) ?_
  refine d_stepN (wA_none rfl) rfl (y_store1P rfl zt zt rfl T.s3 zh rfl (by rw [cf_len h_r]; first | exact Nat.le_of_ble_eq_true rfl | (have hx1 := around_lo (n := b) (m := 16) zd; have hx2 := around_hi (n := b) (m := 16) zd; show _ ≤ 22; omega)) rfl rfl) ?_
  refine d_done ⟨by kernel_rfl, ?_⟩
  refine e_block ?_
  refine e_seq ?_
  refine k_seq ?_
  refine k_region hP hC ?_
  refine os (x_loadA rfl zt T.g41 T.s41 (l_boxAll (whole_row zh rfl) (by (first | exact cf_splice1 h_r rfl rfl | exact cf_splice1 h_r k41_root rfl)) rfl)) ?_
  refine o_stepN (wA_none rfl) rfl (y_storeA rfl zt zt T.s41 (cf_len (ks := T.K41) (by first | (first | exact cf_splice1 h_r rfl rfl | exact cf_splice1 h_r k41_root rfl) | assumption | (apply cf_part; (first | assumption | (exact cf_nth zs ow ow)); rfl) | (exact cf_nth zs ow ow))) zh rfl rfl (cf_oneC (ks := T.K41) (by first | (first | exact cf_splice1 h_r rfl rfl | exact cf_splice1 h_r k41_root rfl) | assumption | (apply cf_part; (first | assumption | (exact cf_nth zs ow ow)); rfl) | (exact cf_nth zs ow ow)))) ?_
  refine o_done ?_
  refine e_seq ?_
  refine k_ret ?_
  refine gives_mk2 (L := []) (w := 0) (.inr rfl) zr (resA_cell zh T.g41 T.s41 (l_all (whole_row zh rfl) (cf_len (ks := T.K41) (by (first | exact cf_splice1 h_r rfl rfl | exact cf_splice1 h_r k41_root rfl))).symm) resA_nil) ?_ gcH_nil zr
  show gcV _ 9 (.agg ⟨_⟩) = some (.agg ⟨wrongC r how b⟩); unfold wrongC; simp only [p2, if_true, if_false, reduceIte, Int.reduceEq]; exact gcV_agg (ks := T.K41) (by (first | exact cf_splice1 h_r rfl rfl | exact cf_splice1 h_r k41_root rfl))
 ·have p2 := g2; try simp only [d1, d2, d3, d4, d5, d6, d7, d8, d9] at p2
  refine k_seq ?_
  refine k_region hP hC ?_
  refine os (x_bin rfl zt (by rfl) b_eql) ?_
  refine os (x_assign rfl zt) ?_
  refine o_done ?_
  refine e_seq ?_
  refine k_cond (by simp only [Tr.get_set, reduceIte, Nat.reduceEqDiff, Nat.reduceAdd, ev_tmp, g2] <;> rfl) (fun g4 => ?_) (fun g4 => ?_)
  ·have p4 := g4; try simp only [d1, d2, d3, d4, d5, d6, d7, d8, d9] at p4
   refine k_region hP hC ?_
   refine os (x_field (off' := 1) rfl zt Try.underlying41 rfl T.s9 rfl) ?_
   refine os (x_load1 rfl zt T.g9 (by first | exact l_boxI (whole_row zh rfl) (by (first | assumption | (exact cf_nth zs ow ow))) rfl | exact l_boxS (whole_row zh rfl) (by (first | assumption | (exact cf_nth zs ow ow))) rfl | (simp only [loadC, AH.fam, Tr.get_set, reduceIte, Nat.reduceEqDiff, Nat.reduceAdd, Fam.rb, List.drop_zero, List.drop_succ_cons, List.take_succ_cons, List.take_zero, List.length_cons, List.length_nil, Nat.zero_le, Nat.reduceLeDiff, and_self, true_and] <;> rfl))) ?_
   refine os (x_bin rfl zt (by rfl) (b_addS (by show _ + 1 ≤ _; omega))) ?_
   refine os (x_field (off' := 1) rfl zt Try.underlying41 rfl T.s9 rfl) ?_
   refine o_stepN (wA_none rfl) rfl (y_store1P rfl zt zt rfl T.s9 zh rfl (by rw [cf_len h_r]; first | exact Nat.le_of_ble_eq_true rfl | (have hx1 := around_lo (n := b) (m := 16) zd; have hx2 := around_hi (n := b) (m := 16) zd; show _ ≤ 22; omega)) rfl rfl) ?_
   refine o_done ?_
   refine e_block ?_
   refine e_seq ?_
   refine k_seq ?_
   refine k_region hP hC ?_
   refine os (x_loadA rfl zt T.g41 T.s41 (l_boxAll (whole_row zh rfl) (by (first | exact cf_splice1 h_r rfl rfl | exact cf_splice1 h_r k41_root rfl)) rfl)) ?_
   refine o_stepN (wA_none rfl) rfl (y_storeA rfl zt zt T.s41 (cf_len (ks := T.K41) (by first | (first | exact cf_splice1 h_r rfl rfl | exact cf_splice1 h_r k41_root rfl) | assumption | (apply cf_part; (first | assumption | (exact cf_nth zs ow ow)); rfl) | (exact cf_nth zs ow ow))) zh rfl rfl (cf_oneC (ks := T.K41) (by first | (first | exact cf_splice1 h_r rfl rfl | exact cf_splice1 h_r k41_root rfl) | assumption | (apply cf_part; (first | assumption | (exact cf_nth zs ow ow)); rfl) | (exact cf_nth zs ow ow)))) ?_
   refine o_done ?_
   refine e_seq ?_
   refine k_ret ?_
   refine gives_mk2 (L := []) (w := 0) (.inr rfl) zr (resA_cell zh T.g41 T.s41 (l_all (whole_row zh rfl) (cf_len (ks := T.K41) (by (first | exact cf_splice1 h_r rfl rfl | exact cf_splice1 h_r k41_root rfl))).symm) resA_nil) ?_ gcH_nil zr
   show gcV _ 9 (.agg ⟨_⟩) = some (.agg ⟨wrongC r how b⟩); unfold wrongC; simp only [p2, p4, if_true, if_false, reduceIte, Int.reduceEq]; exact gcV_agg (ks := T.K41) (by (first | exact cf_splice1 h_r rfl rfl | exact cf_splice1 h_r k41_root rfl))
  ·have p4 := g4; try simp only [d1, d2, d3, d4, d5, d6, d7, d8, d9] at p4
   refine k_seq ?_
   refine k_region hP hC ?_
   refine os (x_bin rfl zt (by rfl) b_eql) ?_
   refine os (x_assign rfl zt) ?_
   refine o_done ?_
   refine e_seq ?_
   refine k_cond (by simp only [Tr.get_set, reduceIte, Nat.reduceEqDiff, Nat.reduceAdd, ev_tmp, g2, g4] <;> rfl) (fun g6 => ?_) (fun g6 => ?_)
   ·have p6 := g6; try simp only [d1, d2, d3, d4, d5, d6, d7, d8, d9] at p6
    refine k_draw hP hC zr ?_
    refine ds (x_field (off' := 2) rfl zt Try.underlying41 rfl T.s3 rfl) ?_
    refine ds (x_load1 rfl zt T.g3 (by first | exact l_boxI (whole_row zh rfl) (by (first | assumption | (exact cf_nth zs ow ow))) rfl | exact l_boxS (whole_row zh rfl) (by (first | assumption | (exact cf_nth zs ow ow))) rfl | (simp only [loadC, AH.fam, Tr.get_set, reduceIte, Nat.reduceEqDiff, Nat.reduceAdd, Fam.rb, List.drop_zero, List.drop_succ_cons, List.take_succ_cons, List.take_zero, List.length_cons, List.length_nil, Nat.zero_le, Nat.reduceLeDiff, and_self, true_and] <;> rfl))) ?_
    refine ds (x_bin rfl zt (by rfl) b_add) ?_
    refine ds (x_move rfl zt) ?_
    refine d_call0 (wA_none rfl) rfl rfl rfl zv zd ?_
    refine ⟨_, _, _, _, (tab_hit.trans (around_c (by rw [ok_around, Bool.and_eq_true, decide_eq_true_eq, decide_eq_true_eq]; exact ⟨hb, by decide⟩))), ?_⟩
    refine ds (x_bin rfl zt zt b_add) ?_
    refine ds (x_field (off' := 2) rfl zt Try.underlying41 rfl T.s3 rfl) ?_
    refine d_stepN (wA_none rfl) rfl (y_store1P rfl zt zt rfl T.s3 zh rfl (by rw [cf_len h_r]; first | exact Nat.le_of_ble_eq_true rfl | (have hx1 := around_lo (n := b) (m := 16) zd; have hx2 := around_hi (n := b) (m := 16) zd; show _ ≤ 22; omega)) rfl rfl) ?_
    refine d_done ⟨by kernel_rfl, ?_⟩
    refine e_block ?_
    refine e_seq ?_
    refine k_seq ?_
    refine k_region hP hC ?_
    refine os (x_loadA rfl zt T.g41 T.s41 (l_boxAll (whole_row zh rfl) (by (first | exact cf_splice1 h_r rfl rfl | exact cf_splice1 h_r k41_root rfl)) rfl)) ?_
    refine o_stepN (wA_none rfl) rfl (y_storeA rfl zt zt T.s41 (cf_len (ks := T.K41) (by first | (first | exact cf_splice1 h_r rfl rfl | exact cf_splice1 h_r k41_root rfl) | assumption | (apply cf_part; (first | assumption | (exact cf_nth zs ow ow)); rfl) | (exact cf_nth zs ow ow))) zh rfl rfl (cf_oneC (ks := T.K41) (by first | (first | exact cf_splice1 h_r rfl rfl | exact cf_splice1 h_r k41_root rfl) | assumption | (apply cf_part; (first | assumption | (exact cf_nth zs ow ow)); rfl) | (exact cf_nth zs ow ow)))) ?_
    refine o_done ?_
    refine e_seq ?_
    refine k_ret ?_
    refine gives_mk2 (L := []) (w := 0) (.inr rfl) zr (resA_cell zh T.g41 T.s41 (l_all (whole_row zh rfl) (cf_len (ks := T.K41) (by (first | exact cf_splice1 h_r rfl rfl | exact cf_splice1 h_r k41_root rfl))).symm) resA_nil) ?_ gcH_nil zr
    show gcV _ 9 (.agg ⟨_⟩) = some (.agg ⟨wrongC r how b⟩); unfold wrongC; simp only [p2, p4, p6, if_true, if_false, reduceIte, Int.reduceEq]; exact gcV_agg (ks := T.K41) (by (first | exact cf_splice1 h_r rfl rfl | exact cf_splice1 h_r k41_root rfl))
   ·have p6 := g6; try simp only [d1, d2, d3, d4, d5, d6, d7, d8, d9] at p6
    refine k_seq ?_
    refine k_region hP hC ?_
    refine os (x_bin rfl zt (by rfl) b_eql) ?_
    refine os (x_assign rfl zt) ?_
    refine o_done ?_
    refine e_seq ?_
    refine k_cond (by simp only [Tr.get_set, reduceIte, Nat.reduceEqDiff, Nat.reduceAdd, ev_tmp, g2, g4, g6] <;> rfl) (fun g8 => ?_) (fun g8 => ?_)
    ·have p8 := g8; try simp only [d1, d2, d3, d4, d5, d6, d7, d8, d9] at p8
     refine k_draw hP hC zr ?_
     refine ds (x_field (off' := 3) rfl zt Try.underlying41 rfl T.s39 rfl) ?_
     refine ds (x_field (off' := 3) rfl zt Try.underlying39 rfl T.s3 rfl) ?_
     refine ds (x_load1 rfl zt T.g3 (by first | exact l_boxI (whole_row zh rfl) (by (first | assumption | (exact cf_nth zs ow ow))) rfl | exact l_boxS (whole_row zh rfl) (by (first | assumption | (exact cf_nth zs ow ow))) rfl | (simp only [loadC, AH.fam, Tr.get_set, reduceIte, Nat.reduceEqDiff, Nat.reduceAdd, Fam.rb, List.drop_zero, List.drop_succ_cons, List.take_succ_cons, List.take_zero, List.length_cons, List.length_nil, Nat.zero_le, Nat.reduceLeDiff, and_self, true_and] <;> rfl))) ?_
     refine ds (x_bin rfl zt (by rfl) b_add) ?_
     refine ds (x_move rfl zt) ?_
     refine d_call0 (wA_none rfl) rfl rfl rfl zv zd ?_
     refine ⟨_, _, _, _, (tab_hit.trans (around_c (by rw [ok_around, Bool.and_eq_true, decide_eq_true_eq, decide_eq_true_eq]; exact ⟨hb, by decide⟩))), ?_⟩
     refine ds (x_bin rfl zt zt b_add) ?_
     refine ds (x_field (off' := 3) rfl zt Try.underlying41 rfl T.s39 rfl) ?_
     refine ds (x_field (off' := 3) rfl zt Try.underlying39 rfl T.s3 rfl) ?_
     refine d_stepN (wA_none rfl) rfl (y_store1P rfl zt zt rfl T.s3 zh rfl (by rw [cf_len h_r]; first | exact Nat.le_of_ble_eq_true rfl | (have hx1 := around_lo (n := b) (m := 16) zd; have hx2 := around_hi (n := b) (m := 16) zd; show _ ≤ 22; omega)) rfl rfl) ?_
     refine d_done ⟨by kernel_rfl, ?_⟩
     refine e_block ?_
     refine e_seq ?_
     refine k_seq ?_
     refine k_region hP hC ?_
     refine os (x_loadA rfl zt T.g41 T.s41 (l_boxAll (whole_row zh rfl) (by (first | exact cf_splice1 h_r rfl rfl | exact cf_splice1 h_r k41_root rfl)) rfl)) ?_
     refine o_stepN (wA_none rfl) rfl (y_storeA rfl zt zt T.s41 (cf_len (ks := T.K41) (by first | (first | exact cf_splice1 h_r rfl rfl | exact cf_splice1 h_r k41_root rfl) | assumption | (apply cf_part; (first | assumption | (exact cf_nth zs ow ow)); rfl) | (exact cf_nth zs ow ow))) zh rfl rfl (cf_oneC (ks := T.K41) (by first | (first | exact cf_splice1 h_r rfl rfl | exact cf_splice1 h_r k41_root rfl) | assumption | (apply cf_part; (first | assumption | (exact cf_nth zs ow ow)); rfl) | (exact cf_nth zs ow ow)))) ?_
     refine o_done ?_
     refine e_seq ?_
     refine k_ret ?_
     refine gives_mk2 (L := []) (w := 0) (.inr rfl) zr (resA_cell zh T.g41 T.s41 (l_all (whole_row zh rfl) (cf_len (ks := T.K41) (by (first | exact cf_splice1 h_r rfl rfl | exact cf_splice1 h_r k41_root rfl))).symm) resA_nil) ?_ gcH_nil zr
     show gcV _ 9 (.agg ⟨_⟩) = some (.agg ⟨wrongC r how b⟩); unfold wrongC; simp only [p2, p4, p6, p8, if_true, if_false, reduceIte, Int.reduceEq]; exact gcV_agg (ks := T.K41) (by (first | exact cf_splice1 h_r rfl rfl | exact cf_splice1 h_r k41_root rfl))
    ·have p8 := g8; try simp only [d1, d2, d3, d4, d5, d6, d7, d8, d9] at p8
     refine k_seq ?_
     refine k_region hP hC ?_
     refine os (x_bin rfl zt (by rfl) b_eql) ?_
     refine os (x_assign rfl zt) ?_
     refine o_done ?_
     refine e_seq ?_
     refine k_cond (by simp only [Tr.get_set, reduceIte, Nat.reduceEqDiff, Nat.reduceAdd, ev_tmp, g2, g4, g6, g8] <;> rfl) (fun g10 => ?_) (fun g10 => ?_)
     ·have p10 := g10; try simp only [d1, d2, d3, d4, d5, d6, d7, d8, d9] at p10
      refine k_draw hP hC zr ?_
      refine ds (x_field (off' := 3) rfl zt Try.underlying41 rfl T.s39 rfl) ?_
      refine ds (x_field (off' := 4) rfl zt Try.underlying39 rfl T.s3 rfl) ?_
      refine ds (x_load1 rfl zt T.g3 (by first | exact l_boxI (whole_row zh rfl) (by (first | assumption | (exact cf_nth zs ow ow))) rfl | exact l_boxS (whole_row zh rfl) (by (first | assumption | (exact cf_nth zs ow ow))) rfl | (simp only [loadC, AH.fam, Tr.get_set, reduceIte, Nat.reduceEqDiff, Nat.reduceAdd, Fam.rb, List.drop_zero, List.drop_succ_cons, List.take_succ_cons, List.take_zero, List.length_cons, List.length_nil, Nat.zero_le, Nat.reduceLeDiff, and_self, true_and] <;> rfl))) ?_
      refine ds (x_bin rfl zt (by rfl) b_add) ?_
      refine ds (x_move rfl zt) ?_
      refine d_call0 (wA_none rfl) rfl rfl rfl zv zd ?_
      refine ⟨_, _, _, _, (tab_hit.trans (around_c (by rw [ok_around, Bool.and_eq_true, decide_eq_true_eq, decide_eq_true_eq]; exact ⟨hb, by decide⟩))), ?_⟩
      refine ds (x_bin rfl zt zt b_add) ?_
      refine ds (x_field (off' := 3) rfl zt Try.underlying41 rfl T.s39 rfl) ?_
      refine ds (x_field (off' := 4) rfl zt Try.underlying39 rfl T.s3 rfl) ?_
      refine d_stepN (wA_none rfl) rfl (y_store1P rfl zt zt rfl T.s3 zh rfl (by rw [cf_len h_r]; first | exact Nat.le_of_ble_eq_true rfl | (have hx1 := around_lo (n := b) (m := 16) zd; have hx2 := around_hi (n := b) (m := 16) zd; show _ ≤ 22; omega)) rfl rfl) ?_
      refine d_done ⟨by kernel_rfl, ?_⟩
      refine e_block ?_
      refine e_seq ?_
      refine k_seq ?_
      refine k_region hP hC ?_
      refine os (x_loadA rfl zt T.g41 T.s41 (l_boxAll (whole_row zh rfl) (by (first | exact cf_splice1 h_r rfl rfl | exact cf_splice1 h_r k41_root rfl)) rfl)) ?_
      refine o_stepN (wA_none rfl) rfl (y_storeA rfl zt zt T.s41 (cf_len (ks := T.K41) (by first | (first | exact cf_splice1 h_r rfl rfl | exact cf_splice1 h_r k41_root rfl) | assumption | (apply cf_part; (first | assumption | (exact cf_nth zs ow ow)); rfl) | (exact cf_nth zs ow ow))) zh rfl rfl (cf_oneC (ks := T.K41) (by first | (first | exact cf_splice1 h_r rfl rfl | exact cf_splice1 h_r k41_root rfl) | assumption | (apply cf_part; (first | assumption | (exact cf_nth zs ow ow)); rfl) | (exact cf_nth zs ow ow)))) ?_
      refine o_done ?_
      refine e_seq ?_
      refine k_ret ?_
      refine gives_mk2 (L := []) (w := 0) (.inr rfl) zr (resA_cell zh T.g41 T.s41 (l_all (whole_row zh rfl) (cf_len (ks := T.K41) (by (first | exact cf_splice1 h_r rfl rfl | exact cf_splice1 h_r k41_root rfl))).symm) resA_nil) ?_ gcH_nil zr
      show gcV _ 9 (.agg ⟨_⟩) = some (.agg ⟨wrongC r how b⟩); unfold wrongC; simp only [p2, p4, p6, p8, p10, if_true, if_false, reduceIte, Int.reduceEq]; exact gcV_agg (ks := T.K41) (by (first | exact cf_splice1 h_r rfl rfl | exact cf_splice1 h_r k41_root rfl))
     ·have p10 := g10; try simp only [d1, d2, d3, d4, d5, d6, d7, d8, d9] at p10
      refine k_seq ?_
      refine k_region hP hC ?_
      refine os (x_bin rfl zt (by rfl) b_eql) ?_
      refine os (x_assign rfl zt) ?_
      refine o_done ?_
      refine e_seq ?_
      refine k_cond (by simp only [Tr.get_set, reduceIte, Nat.reduceEqDiff, Nat.reduceAdd, ev_tmp, g2, g4, g6, g8, g10] <;> rfl) (fun g12 => ?_) (fun g12 => ?_)
      ·have p12 := g12; try simp only [d1, d2, d3, d4, d5, d6, d7, d8, d9] at p12
       refine k_draw hP hC zr ?_
       refine ds (x_field (off' := 3) rfl zt Try.underlying41 rfl T.s39 rfl) ?_
       refine ds (x_field (off' := 5) rfl zt Try.underlying39 rfl T.s3 rfl) ?_
       refine ds (x_load1 rfl zt T.g3 (by first | exact l_boxI (whole_row zh rfl) (by (first | assumption | (exact cf_nth zs ow ow))) rfl | exact l_boxS (whole_row zh rfl) (by (first | assumption | (exact cf_nth zs ow ow))) rfl | (simp only [loadC, AH.fam, Tr.get_set, reduceIte, Nat.reduceEqDiff, Nat.reduceAdd, Fam.rb, List.drop_zero, List.drop_succ_cons, List.take_succ_cons, List.take_zero, List.length_cons, List.length_nil, Nat.zero_le, Nat.reduceLeDiff, and_self, true_and] <;> rfl))) ?_
       refine ds (x_bin rfl zt (by rfl) b_sub) ?_
       refine ds (x_move rfl zt) ?_
       refine d_call0 (wA_none rfl) rfl rfl rfl zv zd ?_
       refine ⟨_, _, _, _, (tab_hit.trans (around_c (by rw [ok_around, Bool.and_eq_true, decide_eq_true_eq, decide_eq_true_eq]; exact ⟨hb, by decide⟩))), ?_⟩
       refine ds (x_bin rfl zt zt b_sub) ?_
       refine ds (x_field (off' := 3) rfl zt Try.underlying41 rfl T.s39 rfl) ?_
       refine ds (x_field (off' := 5) rfl zt Try.underlying39 rfl T.s3 rfl) ?_
       refine d_stepN (wA_none rfl) rfl (y_store1P rfl zt zt rfl T.s3 zh rfl (by rw [cf_len h_r]; first | exact Nat.le_of_ble_eq_true rfl | (have hx1 := around_lo (n := b) (m := 16) zd; have hx2 := around_hi (n := b) (m := 16) zd; show _ ≤ 22; omega)) rfl rfl) ?_
       refine d_done ⟨by kernel_rfl, ?_⟩
       refine e_block ?_
       refine e_seq ?_
       refine k_seq ?_
       refine k_region hP hC ?_
       refine os (x_loadA rfl zt T.g41 T.s41 (l_boxAll (whole_row zh rfl) (by (first | exact cf_splice1 h_r rfl rfl | exact cf_splice1 h_r k41_root rfl)) rfl)) ?_
       refine o_stepN (wA_none rfl) rfl (y_storeA rfl zt zt T.s41 (cf_len (ks := T.K41) (by first | (first | exact cf_splice1 h_r rfl rfl | exact cf_splice1 h_r k41_root rfl) | assumption | (apply cf_part; (first | assumption | (exact cf_nth zs ow ow)); rfl) | (exact cf_nth zs ow ow))) zh rfl rfl (cf_oneC (ks := T.K41) (by first | (first | exact cf_splice1 h_r rfl rfl | exact cf_splice1 h_r k41_root rfl) | assumption | (apply cf_part; (first | assumption | (exact cf_nth zs ow ow)); rfl) | (exact cf_nth zs ow ow)))) ?_
       refine o_done ?_
       refine e_seq ?_
       refine k_ret ?_
       refine gives_mk2 (L := []) (w := 0) (.inr rfl) zr (resA_cell zh T.g41 T.s41 (l_all (whole_row zh rfl) (cf_len (ks := T.K41) (by (first | exact cf_splice1 h_r rfl rfl | exact cf_splice1 h_r k41_root rfl))).symm) resA_nil) ?_ gcH_nil zr
       show gcV _ 9 (.agg ⟨_⟩) = some (.agg ⟨wrongC r how b⟩); unfold wrongC; simp only [p2, p4, p6, p8, p10, p12, if_true, if_false, reduceIte, Int.reduceEq]; exact gcV_agg (ks := T.K41) (by (first | exact cf_splice1 h_r rfl rfl | exact cf_splice1 h_r k41_root rfl))
      ·have p12 := g12; try simp only [d1, d2, d3, d4, d5, d6, d7, d8, d9] at p12
       refine k_draw hP hC zr ?_
       refine ds (x_move rfl zt) ?_
       refine d_call0 (wA_none rfl) rfl rfl rfl zv zd ?_
       refine ⟨_, _, _, _, (tab_hit.trans (around_c (by rw [ok_around, Bool.and_eq_true, decide_eq_true_eq, decide_eq_true_eq]; exact ⟨hb, by decide⟩))), ?_⟩
       refine ds (x_field (off' := 6) rfl zt Try.underlying41 rfl T.s33 rfl) ?_
       refine ds (x_indexA rfl zt zt Try.underlying33 T.s5 ow ow) ?_
       refine ds (x_load1 rfl zt T.g5 (l_boxI (whole_row zh rfl) h_r k41_root)) ?_
       refine ds (x_move rfl zt) ?_
       refine d_call0 (wA_none rfl) rfl rfl rfl zv zd ?_
       refine ⟨_, _, _, _, (tab_hit.trans (around_c (by rw [ok_around, Bool.and_eq_true, decide_eq_true_eq, decide_eq_true_eq]; exact ⟨hb, by decide⟩))), ?_⟩
       refine ds (x_bin rfl (by rfl) zt b_add) ?_
       refine ds (x_convI rfl zt Try.underlying3 Try.underlying5) ?_
       refine ds (x_bin rfl zt zt b_xor8) ?_
       refine ds (x_field (off' := 6) rfl zt Try.underlying41 rfl T.s33 rfl) ?_
       refine ds (x_indexA rfl zt zt Try.underlying33 T.s5 ow ow) ?_
       refine d_stepN (wA_none rfl) rfl (y_store1P rfl zt zt rfl T.s5 zh rfl (by rw [cf_len h_r]; first | exact Nat.le_of_ble_eq_true rfl | (have hx1 := around_lo (n := b) (m := 16) zd; have hx2 := around_hi (n := b) (m := 16) zd; show _ ≤ 22; omega)) rfl rfl) ?_
       refine d_done ⟨by kernel_rfl, ?_⟩
       refine e_block ?_
       refine e_seq ?_
       refine k_seq ?_
       refine k_region hP hC ?_
       refine os (x_loadA rfl zt T.g41 T.s41 (l_boxAll (whole_row zh rfl) (by (first | exact cf_splice1 h_r rfl rfl | exact cf_splice1 h_r k41_root rfl)) rfl)) ?_
       refine o_stepN (wA_none rfl) rfl (y_storeA rfl zt zt T.s41 (cf_len (ks := T.K41) (by first | (first | exact cf_splice1 h_r rfl rfl | exact cf_splice1 h_r k41_root rfl) | assumption | (apply cf_part; (first | assumption | (exact cf_nth zs ow ow)); rfl) | (exact cf_nth zs ow ow))) zh rfl rfl (cf_oneC (ks := T.K41) (by first | (first | exact cf_splice1 h_r rfl rfl | exact cf_splice1 h_r k41_root rfl) | assumption | (apply cf_part; (first | assumption | (exact cf_nth zs ow ow)); rfl) | (exact cf_nth zs ow ow)))) ?_
       refine o_done ?_
       refine e_seq ?_
       refine k_ret ?_
       refine gives_mk2 (L := []) (w := 0) (.inr rfl) zr (resA_cell zh T.g41 T.s41 (l_all (whole_row zh rfl) (cf_len (ks := T.K41) (by (first | exact cf_splice1 h_r rfl rfl | exact cf_splice1 h_r k41_root rfl))).symm) resA_nil) ?_ gcH_nil zr
       show gcV _ 9 (.agg ⟨_⟩) = some (.agg ⟨wrongC r how b⟩); unfold wrongC; simp only [p2, p4, p6, p8, p10, p12, if_true, if_false, reduceIte, Int.reduceEq]; exact gcV_agg (ks := T.K41) (by (first | exact cf_splice1 h_r rfl rfl | exact cf_splice1 h_r k41_root rfl))
theorem con_wrong31 : Con Try.prog 22 c_wrong31 := con_flat Try.func22 rfl fun us cs v new h => by
 unfold spec_wrong31 at h
 split at h
 case h_2 => cases h
 rename_i r how b
 split at h
 case isFalse => cases h
 rename_i hc
 try simp only [Bool.and_eq_true] at hc
 obtain ⟨h_r, hok⟩ := hc
 cases h
 have key := wrong31_m h_r hok
 exact key
theorem wrong31_c {H : AH}  {r : List Value} {how : Int} {b : Int} (h_r : cf T.K41 r = true) (hok : ok_wrong31 r how b = true) : c_wrong31 [.agg ⟨r⟩, .int .i64 how, .int .i64 b] H = some (.agg ⟨wrongC r how b⟩, H) := by
 exact flatC_at (v := val_wrong31 r how b) (new := new_wrong31 r how b) (cl_fr (cf_free0 h_r) (cl_fr rfl (cl_fr rfl cl_nil))) (by simp only [spec_wrong31, h_r, hok, Bool.and_self, if_true]) (rfl) (gcV_agg (wrongC_cf h_r))
attribute [local irreducible] wrongC rightC
def ok_made (l : List Int) (most : Int) (bits : Int) : Bool := decide (0 ≤ most) && decide (most ≤ 100) && decide (inR bits) && decide (l.all (fun n => decide (inR n)) = true) && decide (l.length < 4611686018427387904)
def val_made (l : List Int) (most : Int) (bits : Int) : Value := .tuple ⟨[outV 1 46 (mkA l bits (min (l.length : Int) most)).length, outV 2 22 (mkR l (min (l.length : Int) most)).length]⟩
def new_made (l : List Int) (most : Int) (bits : Int) : List (List Value) := outN (mkA l bits (min (l.length : Int) most)).length (mkA l bits (min (l.length : Int) most)).flatten ++ outN (mkR l (min (l.length : Int) most)).length (mkR l (min (l.length : Int) most)).flatten
def spec_made : Go.AM.Spec := fun us cs => match us, cs with
 | [s_l, .int .i64 most, .int .i64 bits], [c_l] => if slOk 0 1 c_l s_l && isInts c_l && ok_made (unints c_l) most bits then some (val_made (unints c_l) most bits, new_made (unints c_l) most bits) else none
 | _, _ => none
def c_made := flatC [.sl 1, .fr, .fr] spec_made
theorem made_m {s_l : Value} {l : List Int} {most : Int} {bits : Int} (hs_l : Sl 0 1 l.length s_l) (hok : ok_made l most bits = true) : Meets Try.prog (.func 8) [s_l, .int .i64 most, .int .i64 bits] (cheap [ints l]) (val_made l most bits) (rheap [ints l] (new_made l most bits)) := by
 have hP := Fits
 have hC : CallSound Try.prog (tabOf [(14, c_around), (34, c_right), (22, c_wrong31)]) := tab_sound (tab_cons con_around (tab_cons con_right (tab_cons con_wrong31 tab_end)))
 simp only [ok_made, Bool.and_eq_true, decide_eq_true_eq] at hok
 obtain ⟨⟨⟨⟨hm0, hm1⟩, hbt⟩, hl⟩, hlb⟩ := hok
 refine meets_start (sz := 76) hP Try.func8 rfl rfl zo (by simp only [Tr.ofList, roRows, Nat.zero_add, Nat.reduceAdd] <;> rfl) zl ?_
 refine k_seq ?_
 refine k_region hP hC ?_
 refine os (x_assign rfl (by rfl)) ?_
 refine os (x_assign rfl (by rfl)) ?_
 refine o_done ?_
 refine e_seq ?_
 refine k_seq ?_
 refine k_region hP hC ?_
 refine os (x_assign rfl (by rfl)) ?_
 refine o_done ?_
 refine e_seq ?_
 refine k_seq ?_
 refine k_region hP hC ?_
 refine os (x_assign rfl (by rfl)) ?_
 refine o_done ?_
 refine e_seq ?_
 refine k_seq ?_
 refine k_seq ?_
 refine k_region hP hC ?_
 refine os (x_assign rfl (by rfl)) ?_
 refine o_done ?_
 refine e_seq ?_
 refine k_block ?_
 refine k_loop (α := Bool × Int × List (List Value) × List (List Value)) (fun z => match z with | (false, i, accA, accR) => cst 76 [0, 1, 2, 8, 9, 10] [s_l, .int .i64 most, .int .i64 bits, .slice none 0 0, .slice none 0 0, .int .i64 i] [.row (ints l) 0 BIG true (ints l).length] 1 | (true, i, accA, accR) => cst 76 [0, 1, 2, 8, 9, 10] [s_l, .int .i64 most, .int .i64 bits, .slice (some ⟨1, 0, none⟩) accA.length (accA.length + 46), .slice (some ⟨2, 0, none⟩) accR.length (accR.length + 22), .int .i64 i] [.row (ints l) 0 BIG true (ints l).length, .row accA.flatten 1 BIG false accA.flatten.length, .row accR.flatten 2 BIG false accR.flatten.length] 1) (fun z => match z with | (b, i, accA, accR) => 0 ≤ i ∧ i ≤ l.length ∧ i ≤ most ∧ accA = mkA l bits i ∧ accR = mkR l i ∧ accA.isEmpty = !b ∧ accR.isEmpty = !b) (fun z => match z with | (_, i, _) => (l.length - i).toNat) (false, 0, [], []) (to_mk (L := [0]) (slots := [0, 1, 2, 8, 9, 10]) (w := 1) zr (gcVs_cons zh (gcV_sl hs_l rfl) (gcVs_cons zh (gcV_free rfl) (gcVs_cons zh (gcV_free rfl) (gcVs_cons zh (gcV_free rfl) (gcVs_cons zh (gcV_free rfl) (gcVs_cons zh (gcV_free rfl) gcVs_nil)))))) (gcH_cons (gcO_old (by rfl) zh) gcH_nil) zr) ⟨by omega, by omega, by omega, rfl, rfl, rfl, rfl⟩ ?_
 rintro ⟨_ | _, i, accA, accR⟩ ⟨h0, h1, hm, hA, hR, hbA, hbR⟩
 ·skip
  have haA : accA = [] := List.isEmpty_iff.1 hbA
  have haR : accR = [] := List.isEmpty_iff.1 hbR
  refine k_cst zm zo zl ?_
  refine k_seq ?_
  refine k_seq ?_
  refine k_region hP hC ?_
  refine os (x_move rfl zt) ?_
  refine os (x_move rfl zt) ?_
  refine os (x_lenS hs_l rfl rfl zv rfl Try.underlying22) ?_
  refine os (x_bin rfl zt zt b_lss) ?_
  refine os (x_move rfl zt) ?_
  refine o_guard rfl rfl zh (fun g2 => ?_) (fun g2 => ?_)
  ·have p2 := g2; try simp only [d1, d2, d3, d4, d5, d6, d7, d8, d9] at p2
   refine o_step (wA_on rfl rfl zg) rfl (x_move rfl zt) zd ?_
   refine o_step (wA_on rfl rfl zg) rfl (x_move rfl zt) zd ?_
   refine o_step (wA_on rfl rfl zg) rfl (x_bin rfl zt zt b_lss) zd ?_
   refine os (x_pick rfl zg zb) ?_
   refine o_done ?_
   refine e_seq ?_
   refine k_cond (by simp only [Tr.get_set, reduceIte, Nat.reduceEqDiff, Nat.reduceAdd, ev_tmp, g2] <;> rfl) (fun g4 => ?_) (fun g4 => ?_)
   ·have p4 := g4; try simp only [d1, d2, d3, d4, d5, d6, d7, d8, d9] at p4
    refine k_skip ?_
    refine e_seq ?_
    refine k_seq ?_
    refine k_block ?_
    refine k_seq ?_
    refine k_region hP hC ?_
    refine os (x_move rfl zt) ?_
    refine os (x_move rfl zt) ?_
    refine os (x_indexS hs_l rfl zt zt Try.underlying22 T.s3 ow ow) ?_
    refine os (x_load1 rfl zt T.g3 (by first | exact l_ints (whole_row zh rfl) ow ow | exact l_partI0 (whole_row zh rfl) zs rfl ow ow rfl)) ?_
    refine o_call0 (wA_none rfl) rfl rfl rfl zv zd ?_
    refine ⟨_, _, (tab_hit.trans (around_c (by rw [ok_around, Bool.and_eq_true, decide_eq_true_eq, decide_eq_true_eq]; exact ⟨(all_inR hl h0 ow), by decide⟩))), ?_⟩
    refine os (x_assign rfl zt) ?_
    refine o_done ?_
    refine e_seq ?_
    refine k_seq ?_
    refine k_region hP hC ?_
    refine os (x_move rfl zt) ?_
    refine os (x_bin rfl zt (by rfl) (b_rem (by first | decide | omega))) ?_
    refine os (x_move rfl zt) ?_
    refine os (x_bin rfl zt (by rfl) (b_rem (by first | decide | omega))) ?_
    refine os (x_move rfl zt) ?_
    refine os (x_bin rfl zt (by rfl) (b_quo zd)) ?_
    refine os (x_bin rfl zt (by rfl) (b_rem (by first | decide | omega))) ?_
    refine os (x_build (v := .agg ⟨[.int .u8 0, .int .u8 0, .int .u8 0, .int .u8 0, .int .u8 0, .int .u8 0, .int .u8 0, .int .u8 0, .int .u8 0, .int .u8 0, .int .u8 0, .int .u8 0, .int .u8 0, .int .u8 0, .int .u8 0, .int .u8 0, .string ⟨#[116]⟩, .int .i64 0, .int .i64 0, .int .i64 0, .int .i64 (sdM (ith l i))]⟩) rfl zp T.z37 rfl zr) ?_
    refine os (x_build (v := .agg ⟨ansW (wkM (ith l i)) (i.tmod 64) (askN (sdM (ith l i))) zres⟩) rfl zp T.z43 rfl zr) ?_
    refine os (y_alloc rfl T.z43 rfl rfl) ?_
    refine o_stepN (wA_none rfl) rfl (y_storeA rfl zt zt T.s43 (cf_len (ks := T.K43) (ansW_cf rfl rfl)) zh rfl rfl (cf_oneC (ks := T.K43) (ansW_cf rfl rfl))) ?_
    refine o_done ?_
    refine e_seq ?_
    refine k_seq ?_
    refine k_region hP hC ?_
    refine os (x_field (off' := 2) rfl zt Try.underlying43 rfl T.s37 rfl) ?_
    refine os (x_loadA' rfl zt T.g37 T.s37 zh rfl (by show 2 + 21 ≤ _; rw [cf_len (ks := T.K43) (ansW_cf rfl rfl)]; decide) (ansW_ask rfl)) ?_
    refine o_call0 (wA_none rfl) rfl rfl rfl zv zd ?_
    refine ⟨_, _, (show _ = some (Value.agg ⟨rightC (sdM (ith l i))⟩, _) from ((tab_miss zd).trans (tab_hit.trans (right_c rfl (by rw [ok_right, decide_eq_true_eq]; have hq := sdM_range (ith l i); exact ⟨by show _ ≤ sdM (ith l i); omega, by show sdM (ith l i) ≤ _; omega⟩))))), ?_⟩
    refine os (y_alloc rfl T.z41 rfl rfl) ?_
    refine o_stepN (wA_none rfl) rfl (y_storeA rfl zt zt T.s41 (cf_len (ks := T.K41) (by first | exact rightC_cf _ | exact ansW_cf rfl (rightC_cf _) | exact ansW_cf rfl (wrongC_cf (rightC_cf _)) | exact ansW_cf rfl rfl | assumption | (apply cf_part; (first | assumption | (exact cf_nth zs ow ow)); rfl) | (exact cf_nth zs ow ow))) zh rfl rfl (cf_oneC (ks := T.K41) (by first | exact rightC_cf _ | exact ansW_cf rfl (rightC_cf _) | exact ansW_cf rfl (wrongC_cf (rightC_cf _)) | exact ansW_cf rfl rfl | assumption | (apply cf_part; (first | assumption | (exact cf_nth zs ow ow)); rfl) | (exact cf_nth zs ow ow)))) ?_
    refine o_done ?_
    refine e_seq ?_
    refine k_seq ?_
    refine k_region hP hC ?_
    refine os (x_loadA rfl zt T.g41 T.s41 (l_boxAll (whole_row zh rfl) (by (first | exact rightC_cf _ | assumption | (exact cf_nth zs ow ow))) rfl)) ?_
    refine os (x_field (off' := 23) rfl zt Try.underlying43 rfl T.s41 rfl) ?_
    refine o_stepN (wA_none rfl) rfl (y_storeAP rfl zt zt T.s41 (cf_len (ks := T.K41) (rightC_cf _)) zh rfl (by show 23 + 22 ≤ _; rw [cf_len (ks := T.K43) (ansW_cf rfl rfl)]; decide) (cf_oneC (ks := T.K41) (rightC_cf _)) (ansW_splice rfl (cf_len (ks := T.K41) rfl) (cf_len (ks := T.K41) (rightC_cf _)))) ?_
    refine o_done ?_
    refine e_seq ?_
    refine k_seq ?_
    refine k_seq ?_
    refine k_draw hP hC zr ?_
    refine ds (x_move rfl zt) ?_
    refine d_call0 (wA_none rfl) rfl rfl rfl zv zd ?_
    refine ⟨_, _, _, _, (tab_hit.trans (around_c (by rw [ok_around, Bool.and_eq_true, decide_eq_true_eq, decide_eq_true_eq]; exact ⟨hbt, by decide⟩))), ?_⟩
    refine ds (x_field (off' := 0) rfl zt Try.underlying43 rfl T.s3 rfl) ?_
    refine ds (x_load1' (v := .int .i64 (wkM (ith l i))) rfl zt T.g3 zh rfl (by show 0 + 1 ≤ _; rw [cf_len (ks := T.K43) (ansW_cf rfl (rightC_cf _))]; decide) rfl) ?_
    refine ds (x_convI rfl zt Try.underlying3 Try.underlying77) ?_
    refine ds (x_bin rfl zt zt (b_shr (u64_nonneg _))) ?_
    refine ds (x_bin rfl zt (by rfl) (b_rem (by first | decide | omega))) ?_
    refine ds (x_bin rfl zt (by rfl) b_eql) ?_
    refine ds (x_move rfl zt) ?_
    refine d_guard rfl rfl zh (fun g6 => ?_) (fun g6 => ?_)
    ·have p6 := g6; try simp only [d1, d2, d3, d4, d5, d6, d7, d8, d9] at p6
     refine d_step (wA_on rfl rfl zg) rfl (x_move rfl zt) zd ?_
     refine d_step (wA_on rfl rfl zg) rfl (x_bin rfl zt (by rfl) (b_quo zd)) zd ?_
     refine d_step (wA_on rfl rfl zg) rfl (x_bin rfl zt (by rfl) (b_rem (by first | decide | omega))) zd ?_
     refine d_step (wA_on rfl rfl zg) rfl (x_bin rfl zt (by rfl) b_gtr) zd ?_
     refine ds (x_pick rfl zg zb) ?_
     refine d_done ⟨by kernel_rfl, ?_⟩
     refine e_seq ?_
     refine k_cond (by simp only [Tr.get_set, reduceIte, Nat.reduceEqDiff, Nat.reduceAdd, ev_tmp, g2, g4, g6] <;> rfl) (fun g8 => ?_) (fun g8 => ?_)
     ·have p8 := g8; try simp only [d1, d2, d3, d4, d5, d6, d7, d8, d9] at p8
      refine k_region hP hC ?_
      refine os (x_loadA rfl zt T.g41 T.s41 (l_boxAll (whole_row zh rfl) (by (first | exact rightC_cf _ | assumption | (exact cf_nth zs ow ow))) rfl)) ?_
      refine os (x_move rfl zt) ?_
      refine os (x_bin rfl zt (by rfl) (b_quo zd)) ?_
      refine os (x_bin rfl zt (by rfl) (b_rem (by first | decide | omega))) ?_
      refine os (x_move rfl zt) ?_
      refine os (x_bin rfl zt (by rfl) (b_quo zd)) ?_
      refine o_call0 (wA_none rfl) rfl rfl rfl zv zd ?_
      refine ⟨_, _, ((tab_miss zd).trans ((tab_miss zd).trans (tab_hit.trans (wrong31_c (rightC_cf _) (by rw [ok_wrong31, Bool.and_eq_true, Bool.and_eq_true, decide_eq_true_eq, decide_eq_true_eq, decide_eq_true_eq]; have hq : 0 ≤ IntKind.i64.wrap ((around (ith l i) 65536).tdiv 96) ∧ IntKind.i64.wrap ((around (ith l i) 65536).tdiv 96) < 65536 := quo_range zd; have hq2 := tmod_range hq.1 (b := 3) zd; have hq3 : 0 ≤ IntKind.i64.wrap ((around (ith l i) 65536).tdiv 288) ∧ IntKind.i64.wrap ((around (ith l i) 65536).tdiv 288) < 65536 := quo_range zd; exact ⟨⟨⟨by omega, by omega⟩, ⟨by omega, by omega⟩⟩, strRight _⟩))))), ?_⟩
      refine os (x_field (off' := 23) rfl zt Try.underlying43 rfl T.s41 rfl) ?_
      refine o_stepN (wA_none rfl) rfl (y_storeAP rfl zt zt T.s41 (cf_len (ks := T.K41) (wrongC_cf (rightC_cf _))) zh rfl (by show 23 + 22 ≤ _; rw [cf_len (ks := T.K43) (ansW_cf rfl (rightC_cf _))]; decide) (cf_oneC (ks := T.K41) (wrongC_cf (rightC_cf _))) (ansW_splice rfl (cf_len (ks := T.K41) (rightC_cf _)) (cf_len (ks := T.K41) (wrongC_cf (rightC_cf _))))) ?_
      refine o_done ?_
      refine e_seq ?_
      refine k_seq ?_
      refine k_region hP hC ?_
      refine os (x_move rfl zt) ?_
      refine os (x_loadA rfl zt T.g43 T.s43 (l_boxAll (whole_row zh rfl) (by first | exact rightC_cf _ | exact ansW_cf rfl (rightC_cf _) | exact ansW_cf rfl (wrongC_cf (rightC_cf _)) | exact ansW_cf rfl rfl | assumption | (apply cf_part; (first | assumption | (exact cf_nth zs ow ow)); rfl) | (exact cf_nth zs ow ow)) rfl)) ?_
      refine os (y_bsliceA rfl zt Try.underlying23 T.s43 T.z43 zd rfl rfl (cf_len (ks := T.K43) (by first | rfl | exact rightC_cf _ | exact ansW_cf rfl (rightC_cf _) | exact ansW_cf rfl (wrongC_cf (rightC_cf _)) | exact ansW_cf rfl rfl | assumption | (apply cf_part; (first | assumption | (exact cf_nth zs ow ow)); rfl) | (exact cf_nth zs ow ow))) zd) ?_
      refine os (x_append rfl rfl zv rfl rfl zr (cells_row Try.underlying23 T.s43 (l_all (whole_row zh rfl) (by rw [Nat.one_mul]; exact (cf_len (ks := T.K43) (by first | exact rightC_cf _ | exact ansW_cf rfl (rightC_cf _) | exact ansW_cf rfl (wrongC_cf (rightC_cf _)) | exact ansW_cf rfl rfl | assumption | (apply cf_part; (first | assumption | (exact cf_nth zs ow ow)); rfl) | (exact cf_nth zs ow ow))).symm))) (ya_nil Try.underlying23 T.i23 zd (by rw [Nat.one_mul]; exact cf_len (ks := T.K43) (by first | exact rightC_cf _ | exact ansW_cf rfl (rightC_cf _) | exact ansW_cf rfl (wrongC_cf (rightC_cf _)) | exact ansW_cf rfl rfl | assumption | (apply cf_part; (first | assumption | (exact cf_nth zs ow ow)); rfl) | (exact cf_nth zs ow ow))) zd zd (cf_oneC (ks := T.K43) (by first | exact rightC_cf _ | exact ansW_cf rfl (rightC_cf _) | exact ansW_cf rfl (wrongC_cf (rightC_cf _)) | exact ansW_cf rfl rfl | assumption | (apply cf_part; (first | assumption | (exact cf_nth zs ow ow)); rfl) | (exact cf_nth zs ow ow))) zd)) ?_
      refine os (x_assign rfl zt) ?_
      refine o_done ?_
      refine e_seq ?_
      refine k_region hP hC ?_
      refine os (x_move rfl zt) ?_
      refine os (x_loadA rfl zt T.g41 T.s41 (l_boxAll (whole_row zh rfl) (by (first | exact rightC_cf _ | assumption | (exact cf_nth zs ow ow))) rfl)) ?_
      refine os (y_bsliceA rfl zt Try.underlying24 T.s41 T.z41 zd rfl rfl (cf_len (ks := T.K41) (by first | rfl | exact rightC_cf _ | exact ansW_cf rfl (rightC_cf _) | exact ansW_cf rfl (wrongC_cf (rightC_cf _)) | exact ansW_cf rfl rfl | assumption | (apply cf_part; (first | assumption | (exact cf_nth zs ow ow)); rfl) | (exact cf_nth zs ow ow))) zd) ?_
      refine os (x_append rfl rfl zv rfl rfl zr (cells_row Try.underlying24 T.s41 (l_all (whole_row zh rfl) (by rw [Nat.one_mul]; exact (cf_len (ks := T.K41) (rightC_cf _)).symm))) (ya_nil Try.underlying24 T.i24 zd (by rw [Nat.one_mul]; exact cf_len (ks := T.K41) (rightC_cf _)) zd zd (cf_oneC (ks := T.K41) (rightC_cf _)) zd)) ?_
      refine os (x_assign rfl zt) ?_
      refine o_done ?_
      refine e_block ?_
      refine e_seq ?_
      refine k_region hP hC ?_
      refine os (x_move rfl zt) ?_
      refine os (x_bin rfl zt (by rfl) b_add) ?_
      refine os (x_assign rfl zt) ?_
      refine o_done ?_
      refine e_loop ?_
      have hel : ansM bits i (ith l i) = ansW (wkM (ith l i)) (i.tmod 64) (askN (sdM (ith l i))) (wrongC (rightC (sdM (ith l i))) ((IntKind.i64.wrap ((numM (ith l i)).tdiv 96)).tmod 3) (IntKind.i64.wrap ((numM (ith l i)).tdiv 288))) := by unfold ansM resM forge; simp only [g2, g4, g6, g8, Bool.and_self, Bool.true_and, Bool.and_true, Bool.false_and, Bool.and_false, if_true, if_false, Bool.false_eq_true]; first | rfl | done
      refine ⟨(true, IntKind.i64.wrap (i + 1), [ansW (wkM (ith l i)) (i.tmod 64) (askN (sdM (ith l i))) (wrongC (rightC (sdM (ith l i))) ((IntKind.i64.wrap ((numM (ith l i)).tdiv 96)).tmod 3) (IntKind.i64.wrap ((numM (ith l i)).tdiv 288)))], [(rightC (sdM (ith l i)))]), (to_mk (L := [0, 4, 6]) (slots := [0, 1, 2, 8, 9, 10]) (w := 1) zr (gcVs_cons zh (gcV_sl hs_l rfl) (gcVs_cons zh (gcV_free rfl) (gcVs_cons zh (gcV_free rfl) (gcVs_cons zh (gcV_slice rfl) (gcVs_cons zh (gcV_slice rfl) (gcVs_cons zh (gcV_free rfl) gcVs_nil)))))) (gcH_cons (gcO_old (by rfl) zh) (gcH_cons (gcO_rowE (by rfl) zh (gcD_free (cf_free1 (ks := T.K43) (by first | exact rightC_cf _ | exact ansW_cf rfl (rightC_cf _) | exact ansW_cf rfl (wrongC_cf (rightC_cf _)) | exact ansW_cf rfl rfl | assumption | (apply cf_part; (first | assumption | (exact cf_nth zs ow ow)); rfl) | (exact cf_nth zs ow ow)))) (by simp only [List.flatten_append, List.flatten_cons, List.flatten_nil, List.append_nil, List.nil_append])) (gcH_cons (gcO_rowE (by rfl) zh (gcD_free (cf_free1 (rightC_cf _))) (by simp only [List.flatten_append, List.flatten_cons, List.flatten_nil, List.append_nil, List.nil_append])) gcH_nil))) zr), ?_, ?_⟩
      ·rw [wr1 ow ow]; refine ⟨by omega, by omega, by omega, ?_, ?_, ?_, ?_⟩
       ·rw [mkA_next h0, ← hA, hel]; rw [haA]; rfl
       ·rw [mkR_next h0, ← hR]; rw [haR]; rfl
       ·simp
       ·simp
      ·show (l.length - IntKind.i64.wrap (i + 1)).toNat < (l.length - i).toNat; rw [wr1 ow ow]; omega
     ·have p8 := g8; try simp only [d1, d2, d3, d4, d5, d6, d7, d8, d9] at p8
      refine k_skip ?_
      refine e_seq ?_
      refine k_seq ?_
      refine k_region hP hC ?_
      refine os (x_move rfl zt) ?_
      refine os (x_loadA rfl zt T.g43 T.s43 (l_boxAll (whole_row zh rfl) (by first | exact rightC_cf _ | exact ansW_cf rfl (rightC_cf _) | exact ansW_cf rfl (wrongC_cf (rightC_cf _)) | exact ansW_cf rfl rfl | assumption | (apply cf_part; (first | assumption | (exact cf_nth zs ow ow)); rfl) | (exact cf_nth zs ow ow)) rfl)) ?_
      refine os (y_bsliceA rfl zt Try.underlying23 T.s43 T.z43 zd rfl rfl (cf_len (ks := T.K43) (by first | rfl | exact rightC_cf _ | exact ansW_cf rfl (rightC_cf _) | exact ansW_cf rfl (wrongC_cf (rightC_cf _)) | exact ansW_cf rfl rfl | assumption | (apply cf_part; (first | assumption | (exact cf_nth zs ow ow)); rfl) | (exact cf_nth zs ow ow))) zd) ?_
      refine os (x_append rfl rfl zv rfl rfl zr (cells_row Try.underlying23 T.s43 (l_all (whole_row zh rfl) (by rw [Nat.one_mul]; exact (cf_len (ks := T.K43) (by first | exact rightC_cf _ | exact ansW_cf rfl (rightC_cf _) | exact ansW_cf rfl (wrongC_cf (rightC_cf _)) | exact ansW_cf rfl rfl | assumption | (apply cf_part; (first | assumption | (exact cf_nth zs ow ow)); rfl) | (exact cf_nth zs ow ow))).symm))) (ya_nil Try.underlying23 T.i23 zd (by rw [Nat.one_mul]; exact cf_len (ks := T.K43) (by first | exact rightC_cf _ | exact ansW_cf rfl (rightC_cf _) | exact ansW_cf rfl (wrongC_cf (rightC_cf _)) | exact ansW_cf rfl rfl | assumption | (apply cf_part; (first | assumption | (exact cf_nth zs ow ow)); rfl) | (exact cf_nth zs ow ow))) zd zd (cf_oneC (ks := T.K43) (by first | exact rightC_cf _ | exact ansW_cf rfl (rightC_cf _) | exact ansW_cf rfl (wrongC_cf (rightC_cf _)) | exact ansW_cf rfl rfl | assumption | (apply cf_part; (first | assumption | (exact cf_nth zs ow ow)); rfl) | (exact cf_nth zs ow ow))) zd)) ?_
      refine os (x_assign rfl zt) ?_
      refine o_done ?_
      refine e_seq ?_
      refine k_region hP hC ?_
      refine os (x_move rfl zt) ?_
      refine os (x_loadA rfl zt T.g41 T.s41 (l_boxAll (whole_row zh rfl) (by (first | exact rightC_cf _ | assumption | (exact cf_nth zs ow ow))) rfl)) ?_
      refine os (y_bsliceA rfl zt Try.underlying24 T.s41 T.z41 zd rfl rfl (cf_len (ks := T.K41) (by first | rfl | exact rightC_cf _ | exact ansW_cf rfl (rightC_cf _) | exact ansW_cf rfl (wrongC_cf (rightC_cf _)) | exact ansW_cf rfl rfl | assumption | (apply cf_part; (first | assumption | (exact cf_nth zs ow ow)); rfl) | (exact cf_nth zs ow ow))) zd) ?_
      refine os (x_append rfl rfl zv rfl rfl zr (cells_row Try.underlying24 T.s41 (l_all (whole_row zh rfl) (by rw [Nat.one_mul]; exact (cf_len (ks := T.K41) (rightC_cf _)).symm))) (ya_nil Try.underlying24 T.i24 zd (by rw [Nat.one_mul]; exact cf_len (ks := T.K41) (rightC_cf _)) zd zd (cf_oneC (ks := T.K41) (rightC_cf _)) zd)) ?_
      refine os (x_assign rfl zt) ?_
      refine o_done ?_
      refine e_block ?_
      refine e_seq ?_
      refine k_region hP hC ?_
      refine os (x_move rfl zt) ?_
      refine os (x_bin rfl zt (by rfl) b_add) ?_
      refine os (x_assign rfl zt) ?_
      refine o_done ?_
      refine e_loop ?_
      have hel : ansM bits i (ith l i) = ansW (wkM (ith l i)) (i.tmod 64) (askN (sdM (ith l i))) ((rightC (sdM (ith l i)))) := by unfold ansM resM forge; simp only [g2, g4, g6, g8, Bool.and_self, Bool.true_and, Bool.and_true, Bool.false_and, Bool.and_false, if_true, if_false, Bool.false_eq_true]; first | rfl | done
      refine ⟨(true, IntKind.i64.wrap (i + 1), [ansW (wkM (ith l i)) (i.tmod 64) (askN (sdM (ith l i))) ((rightC (sdM (ith l i))))], [(rightC (sdM (ith l i)))]), (to_mk (L := [0, 4, 6]) (slots := [0, 1, 2, 8, 9, 10]) (w := 1) zr (gcVs_cons zh (gcV_sl hs_l rfl) (gcVs_cons zh (gcV_free rfl) (gcVs_cons zh (gcV_free rfl) (gcVs_cons zh (gcV_slice rfl) (gcVs_cons zh (gcV_slice rfl) (gcVs_cons zh (gcV_free rfl) gcVs_nil)))))) (gcH_cons (gcO_old (by rfl) zh) (gcH_cons (gcO_rowE (by rfl) zh (gcD_free (cf_free1 (ks := T.K43) (by first | exact rightC_cf _ | exact ansW_cf rfl (rightC_cf _) | exact ansW_cf rfl (wrongC_cf (rightC_cf _)) | exact ansW_cf rfl rfl | assumption | (apply cf_part; (first | assumption | (exact cf_nth zs ow ow)); rfl) | (exact cf_nth zs ow ow)))) (by simp only [List.flatten_append, List.flatten_cons, List.flatten_nil, List.append_nil, List.nil_append])) (gcH_cons (gcO_rowE (by rfl) zh (gcD_free (cf_free1 (rightC_cf _))) (by simp only [List.flatten_append, List.flatten_cons, List.flatten_nil, List.append_nil, List.nil_append])) gcH_nil))) zr), ?_, ?_⟩
      ·rw [wr1 ow ow]; refine ⟨by omega, by omega, by omega, ?_, ?_, ?_, ?_⟩
       ·rw [mkA_next h0, ← hA, hel]; rw [haA]; rfl
       ·rw [mkR_next h0, ← hR]; rw [haR]; rfl
       ·simp
       ·simp
      ·show (l.length - IntKind.i64.wrap (i + 1)).toNat < (l.length - i).toNat; rw [wr1 ow ow]; omega
    ·have p6 := g6; try simp only [d1, d2, d3, d4, d5, d6, d7, d8, d9] at p6
     refine d_skip (wA_off rfl rfl zg) rfl zd ?_
     refine d_skip (wA_off rfl rfl zg) rfl zd ?_
     refine d_skip (wA_off rfl rfl zg) rfl zd ?_
     refine d_skip (wA_off rfl rfl zg) rfl zd ?_
     refine ds (x_pick rfl zg zb) ?_
     refine d_done ⟨by kernel_rfl, ?_⟩
     refine e_seq ?_
     refine k_condF zg ?_
     refine k_skip ?_
     refine e_seq ?_
     refine k_seq ?_
     refine k_region hP hC ?_
     refine os (x_move rfl zt) ?_
     refine os (x_loadA rfl zt T.g43 T.s43 (l_boxAll (whole_row zh rfl) (by first | exact rightC_cf _ | exact ansW_cf rfl (rightC_cf _) | exact ansW_cf rfl (wrongC_cf (rightC_cf _)) | exact ansW_cf rfl rfl | assumption | (apply cf_part; (first | assumption | (exact cf_nth zs ow ow)); rfl) | (exact cf_nth zs ow ow)) rfl)) ?_
     refine os (y_bsliceA rfl zt Try.underlying23 T.s43 T.z43 zd rfl rfl (cf_len (ks := T.K43) (by first | rfl | exact rightC_cf _ | exact ansW_cf rfl (rightC_cf _) | exact ansW_cf rfl (wrongC_cf (rightC_cf _)) | exact ansW_cf rfl rfl | assumption | (apply cf_part; (first | assumption | (exact cf_nth zs ow ow)); rfl) | (exact cf_nth zs ow ow))) zd) ?_
     refine os (x_append rfl rfl zv rfl rfl zr (cells_row Try.underlying23 T.s43 (l_all (whole_row zh rfl) (by rw [Nat.one_mul]; exact (cf_len (ks := T.K43) (by first | exact rightC_cf _ | exact ansW_cf rfl (rightC_cf _) | exact ansW_cf rfl (wrongC_cf (rightC_cf _)) | exact ansW_cf rfl rfl | assumption | (apply cf_part; (first | assumption | (exact cf_nth zs ow ow)); rfl) | (exact cf_nth zs ow ow))).symm))) (ya_nil Try.underlying23 T.i23 zd (by rw [Nat.one_mul]; exact cf_len (ks := T.K43) (by first | exact rightC_cf _ | exact ansW_cf rfl (rightC_cf _) | exact ansW_cf rfl (wrongC_cf (rightC_cf _)) | exact ansW_cf rfl rfl | assumption | (apply cf_part; (first | assumption | (exact cf_nth zs ow ow)); rfl) | (exact cf_nth zs ow ow))) zd zd (cf_oneC (ks := T.K43) (by first | exact rightC_cf _ | exact ansW_cf rfl (rightC_cf _) | exact ansW_cf rfl (wrongC_cf (rightC_cf _)) | exact ansW_cf rfl rfl | assumption | (apply cf_part; (first | assumption | (exact cf_nth zs ow ow)); rfl) | (exact cf_nth zs ow ow))) zd)) ?_
     refine os (x_assign rfl zt) ?_
     refine o_done ?_
     refine e_seq ?_
     refine k_region hP hC ?_
     refine os (x_move rfl zt) ?_
     refine os (x_loadA rfl zt T.g41 T.s41 (l_boxAll (whole_row zh rfl) (by (first | exact rightC_cf _ | assumption | (exact cf_nth zs ow ow))) rfl)) ?_
     refine os (y_bsliceA rfl zt Try.underlying24 T.s41 T.z41 zd rfl rfl (cf_len (ks := T.K41) (by first | rfl | exact rightC_cf _ | exact ansW_cf rfl (rightC_cf _) | exact ansW_cf rfl (wrongC_cf (rightC_cf _)) | exact ansW_cf rfl rfl | assumption | (apply cf_part; (first | assumption | (exact cf_nth zs ow ow)); rfl) | (exact cf_nth zs ow ow))) zd) ?_
     refine os (x_append rfl rfl zv rfl rfl zr (cells_row Try.underlying24 T.s41 (l_all (whole_row zh rfl) (by rw [Nat.one_mul]; exact (cf_len (ks := T.K41) (rightC_cf _)).symm))) (ya_nil Try.underlying24 T.i24 zd (by rw [Nat.one_mul]; exact cf_len (ks := T.K41) (rightC_cf _)) zd zd (cf_oneC (ks := T.K41) (rightC_cf _)) zd)) ?_
     refine os (x_assign rfl zt) ?_
     refine o_done ?_
     refine e_block ?_
     refine e_seq ?_
     refine k_region hP hC ?_
     refine os (x_move rfl zt) ?_
     refine os (x_bin rfl zt (by rfl) b_add) ?_
     refine os (x_assign rfl zt) ?_
     refine o_done ?_
     refine e_loop ?_
     have hel : ansM bits i (ith l i) = ansW (wkM (ith l i)) (i.tmod 64) (askN (sdM (ith l i))) ((rightC (sdM (ith l i)))) := by unfold ansM resM forge; simp only [g2, g4, g6, Bool.and_self, Bool.true_and, Bool.and_true, Bool.false_and, Bool.and_false, if_true, if_false, Bool.false_eq_true]; first | rfl | done
     refine ⟨(true, IntKind.i64.wrap (i + 1), [ansW (wkM (ith l i)) (i.tmod 64) (askN (sdM (ith l i))) ((rightC (sdM (ith l i))))], [(rightC (sdM (ith l i)))]), (to_mk (L := [0, 4, 6]) (slots := [0, 1, 2, 8, 9, 10]) (w := 1) zr (gcVs_cons zh (gcV_sl hs_l rfl) (gcVs_cons zh (gcV_free rfl) (gcVs_cons zh (gcV_free rfl) (gcVs_cons zh (gcV_slice rfl) (gcVs_cons zh (gcV_slice rfl) (gcVs_cons zh (gcV_free rfl) gcVs_nil)))))) (gcH_cons (gcO_old (by rfl) zh) (gcH_cons (gcO_rowE (by rfl) zh (gcD_free (cf_free1 (ks := T.K43) (by first | exact rightC_cf _ | exact ansW_cf rfl (rightC_cf _) | exact ansW_cf rfl (wrongC_cf (rightC_cf _)) | exact ansW_cf rfl rfl | assumption | (apply cf_part; (first | assumption | (exact cf_nth zs ow ow)); rfl) | (exact cf_nth zs ow ow)))) (by simp only [List.flatten_append, List.flatten_cons, List.flatten_nil, List.append_nil, List.nil_append])) (gcH_cons (gcO_rowE (by rfl) zh (gcD_free (cf_free1 (rightC_cf _))) (by simp only [List.flatten_append, List.flatten_cons, List.flatten_nil, List.append_nil, List.nil_append])) gcH_nil))) zr), ?_, ?_⟩
     ·rw [wr1 ow ow]; refine ⟨by omega, by omega, by omega, ?_, ?_, ?_, ?_⟩
      ·rw [mkA_next h0, ← hA, hel]; rw [haA]; rfl
      ·rw [mkR_next h0, ← hR]; rw [haR]; rfl
      ·simp
      ·simp
     ·show (l.length - IntKind.i64.wrap (i + 1)).toNat < (l.length - i).toNat; rw [wr1 ow ow]; omega
   ·have p4 := g4; try simp only [d1, d2, d3, d4, d5, d6, d7, d8, d9] at p4
    refine k_exit ?_
    refine e_seq_exit ?_
    refine e_loop_exit ?_
    refine e_block_eq ?_
    refine e_seq ?_
    refine k_seq ?_
    refine k_region hP hC ?_
    refine os (x_move rfl zt) ?_
    refine os (x_move rfl zt) ?_
    refine os (x_assign rfl zt) ?_
    refine os (x_assign rfl zt) ?_
    refine o_done ?_
    refine e_seq ?_
    refine k_ret ?_
    have hi : i = min (l.length : Int) most := by omega
    rw [hi] at hA hR
    unfold val_made new_made
    rw [← hA, ← hR]
    rw [haA, haR]
    refine gives_mk (L := [0]) (slots := [6, 7]) (w := 1) (.inr rfl) zr (gcVs_cons zh (gcV_free rfl) (gcVs_cons zh (gcV_free rfl) gcVs_nil)) (gcH_cons (gcO_old (by rfl) zh) gcH_nil) zr (by simp only [Try.results8, resA, cst, mkE, Tr.get_set, reduceIte, Nat.reduceEqDiff, Nat.reduceAdd] <;> rfl) ?_
    rfl
  ·have p2 := g2; try simp only [d1, d2, d3, d4, d5, d6, d7, d8, d9] at p2
   refine o_skip (wA_off rfl rfl zg) rfl zd ?_
   refine o_skip (wA_off rfl rfl zg) rfl zd ?_
   refine o_skip (wA_off rfl rfl zg) rfl zd ?_
   refine os (x_pick rfl zg zb) ?_
   refine o_done ?_
   refine e_seq ?_
   refine k_condF zg ?_
   refine k_exit ?_
   refine e_seq_exit ?_
   refine e_loop_exit ?_
   refine e_block_eq ?_
   refine e_seq ?_
   refine k_seq ?_
   refine k_region hP hC ?_
   refine os (x_move rfl zt) ?_
   refine os (x_move rfl zt) ?_
   refine os (x_assign rfl zt) ?_
   refine os (x_assign rfl zt) ?_
   refine o_done ?_
   refine e_seq ?_
   refine k_ret ?_
   have hi : i = min (l.length : Int) most := by omega
   rw [hi] at hA hR
   unfold val_made new_made
   rw [← hA, ← hR]
   rw [haA, haR]
   refine gives_mk (L := [0]) (slots := [6, 7]) (w := 1) (.inr rfl) zr (gcVs_cons zh (gcV_free rfl) (gcVs_cons zh (gcV_free rfl) gcVs_nil)) (gcH_cons (gcO_old (by rfl) zh) gcH_nil) zr (by simp only [Try.results8, resA, cst, mkE, Tr.get_set, reduceIte, Nat.reduceEqDiff, Nat.reduceAdd] <;> rfl) ?_
   rfl
 ·skip
  have hlA : (accA.length : Int) = i := by rw [hA, mkA_len]; omega
  have hlR : (accR.length : Int) = i := by rw [hR, mkR_len]; omega
  have hcA : cfs T.K43 accA := by rw [hA]; exact mkA_cfs
  have hcR : cfs T.K41 accR := by rw [hR]; exact mkR_cfs
  refine k_cst zm zo zl ?_
  refine k_seq ?_
  refine k_seq ?_
  refine k_region hP hC ?_
  refine os (x_move rfl zt) ?_
  refine os (x_move rfl zt) ?_
  refine os (x_lenS hs_l rfl rfl zv rfl Try.underlying22) ?_
  refine os (x_bin rfl zt zt b_lss) ?_
  refine os (x_move rfl zt) ?_
  refine o_guard rfl rfl zh (fun g10 => ?_) (fun g10 => ?_)
  ·have p10 := g10; try simp only [d1, d2, d3, d4, d5, d6, d7, d8, d9] at p10
   refine o_step (wA_on rfl rfl zg) rfl (x_move rfl zt) zd ?_
   refine o_step (wA_on rfl rfl zg) rfl (x_move rfl zt) zd ?_
   refine o_step (wA_on rfl rfl zg) rfl (x_bin rfl zt zt b_lss) zd ?_
   refine os (x_pick rfl zg zb) ?_
   refine o_done ?_
   refine e_seq ?_
   refine k_cond (by simp only [Tr.get_set, reduceIte, Nat.reduceEqDiff, Nat.reduceAdd, ev_tmp, g10] <;> rfl) (fun g12 => ?_) (fun g12 => ?_)
   ·have p12 := g12; try simp only [d1, d2, d3, d4, d5, d6, d7, d8, d9] at p12
    refine k_skip ?_
    refine e_seq ?_
    refine k_seq ?_
    refine k_block ?_
    refine k_seq ?_
    refine k_region hP hC ?_
    refine os (x_move rfl zt) ?_
    refine os (x_move rfl zt) ?_
    refine os (x_indexS hs_l rfl zt zt Try.underlying22 T.s3 ow ow) ?_
    refine os (x_load1 rfl zt T.g3 (by first | exact l_ints (whole_row zh rfl) ow ow | exact l_partI0 (whole_row zh rfl) zs rfl ow ow rfl)) ?_
    refine o_call0 (wA_none rfl) rfl rfl rfl zv zd ?_
    refine ⟨_, _, (tab_hit.trans (around_c (by rw [ok_around, Bool.and_eq_true, decide_eq_true_eq, decide_eq_true_eq]; exact ⟨(all_inR hl h0 ow), by decide⟩))), ?_⟩
    refine os (x_assign rfl zt) ?_
    refine o_done ?_
    refine e_seq ?_
    refine k_seq ?_
    refine k_region hP hC ?_
    refine os (x_move rfl zt) ?_
    refine os (x_bin rfl zt (by rfl) (b_rem (by first | decide | omega))) ?_
    refine os (x_move rfl zt) ?_
    refine os (x_bin rfl zt (by rfl) (b_rem (by first | decide | omega))) ?_
    refine os (x_move rfl zt) ?_
    refine os (x_bin rfl zt (by rfl) (b_quo zd)) ?_
    refine os (x_bin rfl zt (by rfl) (b_rem (by first | decide | omega))) ?_
    refine os (x_build (v := .agg ⟨[.int .u8 0, .int .u8 0, .int .u8 0, .int .u8 0, .int .u8 0, .int .u8 0, .int .u8 0, .int .u8 0, .int .u8 0, .int .u8 0, .int .u8 0, .int .u8 0, .int .u8 0, .int .u8 0, .int .u8 0, .int .u8 0, .string ⟨#[116]⟩, .int .i64 0, .int .i64 0, .int .i64 0, .int .i64 (sdM (ith l i))]⟩) rfl zp T.z37 rfl zr) ?_
    refine os (x_build (v := .agg ⟨ansW (wkM (ith l i)) (i.tmod 64) (askN (sdM (ith l i))) zres⟩) rfl zp T.z43 rfl zr) ?_
    refine os (y_alloc rfl T.z43 rfl rfl) ?_
    refine o_stepN (wA_none rfl) rfl (y_storeA rfl zt zt T.s43 (cf_len (ks := T.K43) (ansW_cf rfl rfl)) zh rfl rfl (cf_oneC (ks := T.K43) (ansW_cf rfl rfl))) ?_
    refine o_done ?_
    refine e_seq ?_
    refine k_seq ?_
    refine k_region hP hC ?_
    refine os (x_field (off' := 2) rfl zt Try.underlying43 rfl T.s37 rfl) ?_
    refine os (x_loadA' rfl zt T.g37 T.s37 zh rfl (by show 2 + 21 ≤ _; rw [cf_len (ks := T.K43) (ansW_cf rfl rfl)]; decide) (ansW_ask rfl)) ?_
    refine o_call0 (wA_none rfl) rfl rfl rfl zv zd ?_
    refine ⟨_, _, (show _ = some (Value.agg ⟨rightC (sdM (ith l i))⟩, _) from ((tab_miss zd).trans (tab_hit.trans (right_c rfl (by rw [ok_right, decide_eq_true_eq]; have hq := sdM_range (ith l i); exact ⟨by show _ ≤ sdM (ith l i); omega, by show sdM (ith l i) ≤ _; omega⟩))))), ?_⟩
    refine os (y_alloc rfl T.z41 rfl rfl) ?_
    refine o_stepN (wA_none rfl) rfl (y_storeA rfl zt zt T.s41 (cf_len (ks := T.K41) (by first | exact rightC_cf _ | exact ansW_cf rfl (rightC_cf _) | exact ansW_cf rfl (wrongC_cf (rightC_cf _)) | exact ansW_cf rfl rfl | assumption | (apply cf_part; (first | assumption | (exact cf_nth zs ow ow)); rfl) | (exact cf_nth zs ow ow))) zh rfl rfl (cf_oneC (ks := T.K41) (by first | exact rightC_cf _ | exact ansW_cf rfl (rightC_cf _) | exact ansW_cf rfl (wrongC_cf (rightC_cf _)) | exact ansW_cf rfl rfl | assumption | (apply cf_part; (first | assumption | (exact cf_nth zs ow ow)); rfl) | (exact cf_nth zs ow ow)))) ?_
    refine o_done ?_
    refine e_seq ?_
    refine k_seq ?_
    refine k_region hP hC ?_
    refine os (x_loadA rfl zt T.g41 T.s41 (l_boxAll (whole_row zh rfl) (by (first | exact rightC_cf _ | assumption | (exact cf_nth zs ow ow))) rfl)) ?_
    refine os (x_field (off' := 23) rfl zt Try.underlying43 rfl T.s41 rfl) ?_
    refine o_stepN (wA_none rfl) rfl (y_storeAP rfl zt zt T.s41 (cf_len (ks := T.K41) (rightC_cf _)) zh rfl (by show 23 + 22 ≤ _; rw [cf_len (ks := T.K43) (ansW_cf rfl rfl)]; decide) (cf_oneC (ks := T.K41) (rightC_cf _)) (ansW_splice rfl (cf_len (ks := T.K41) rfl) (cf_len (ks := T.K41) (rightC_cf _)))) ?_
    refine o_done ?_
    refine e_seq ?_
    refine k_seq ?_
    refine k_seq ?_
    refine k_draw hP hC zr ?_
    refine ds (x_move rfl zt) ?_
    refine d_call0 (wA_none rfl) rfl rfl rfl zv zd ?_
    refine ⟨_, _, _, _, (tab_hit.trans (around_c (by rw [ok_around, Bool.and_eq_true, decide_eq_true_eq, decide_eq_true_eq]; exact ⟨hbt, by decide⟩))), ?_⟩
    refine ds (x_field (off' := 0) rfl zt Try.underlying43 rfl T.s3 rfl) ?_
    refine ds (x_load1' (v := .int .i64 (wkM (ith l i))) rfl zt T.g3 zh rfl (by show 0 + 1 ≤ _; rw [cf_len (ks := T.K43) (ansW_cf rfl (rightC_cf _))]; decide) rfl) ?_
    refine ds (x_convI rfl zt Try.underlying3 Try.underlying77) ?_
    refine ds (x_bin rfl zt zt (b_shr (u64_nonneg _))) ?_
    refine ds (x_bin rfl zt (by rfl) (b_rem (by first | decide | omega))) ?_
    refine ds (x_bin rfl zt (by rfl) b_eql) ?_
    refine ds (x_move rfl zt) ?_
    refine d_guard rfl rfl zh (fun g14 => ?_) (fun g14 => ?_)
    ·have p14 := g14; try simp only [d1, d2, d3, d4, d5, d6, d7, d8, d9] at p14
     refine d_step (wA_on rfl rfl zg) rfl (x_move rfl zt) zd ?_
     refine d_step (wA_on rfl rfl zg) rfl (x_bin rfl zt (by rfl) (b_quo zd)) zd ?_
     refine d_step (wA_on rfl rfl zg) rfl (x_bin rfl zt (by rfl) (b_rem (by first | decide | omega))) zd ?_
     refine d_step (wA_on rfl rfl zg) rfl (x_bin rfl zt (by rfl) b_gtr) zd ?_
     refine ds (x_pick rfl zg zb) ?_
     refine d_done ⟨by kernel_rfl, ?_⟩
     refine e_seq ?_
     refine k_cond (by simp only [Tr.get_set, reduceIte, Nat.reduceEqDiff, Nat.reduceAdd, ev_tmp, g10, g12, g14] <;> rfl) (fun g16 => ?_) (fun g16 => ?_)
     ·have p16 := g16; try simp only [d1, d2, d3, d4, d5, d6, d7, d8, d9] at p16
      refine k_region hP hC ?_
      refine os (x_loadA rfl zt T.g41 T.s41 (l_boxAll (whole_row zh rfl) (by (first | exact rightC_cf _ | assumption | (exact cf_nth zs ow ow))) rfl)) ?_
      refine os (x_move rfl zt) ?_
      refine os (x_bin rfl zt (by rfl) (b_quo zd)) ?_
      refine os (x_bin rfl zt (by rfl) (b_rem (by first | decide | omega))) ?_
      refine os (x_move rfl zt) ?_
      refine os (x_bin rfl zt (by rfl) (b_quo zd)) ?_
      refine o_call0 (wA_none rfl) rfl rfl rfl zv zd ?_
      refine ⟨_, _, ((tab_miss zd).trans ((tab_miss zd).trans (tab_hit.trans (wrong31_c (rightC_cf _) (by rw [ok_wrong31, Bool.and_eq_true, Bool.and_eq_true, decide_eq_true_eq, decide_eq_true_eq, decide_eq_true_eq]; have hq : 0 ≤ IntKind.i64.wrap ((around (ith l i) 65536).tdiv 96) ∧ IntKind.i64.wrap ((around (ith l i) 65536).tdiv 96) < 65536 := quo_range zd; have hq2 := tmod_range hq.1 (b := 3) zd; have hq3 : 0 ≤ IntKind.i64.wrap ((around (ith l i) 65536).tdiv 288) ∧ IntKind.i64.wrap ((around (ith l i) 65536).tdiv 288) < 65536 := quo_range zd; exact ⟨⟨⟨by omega, by omega⟩, ⟨by omega, by omega⟩⟩, strRight _⟩))))), ?_⟩
      refine os (x_field (off' := 23) rfl zt Try.underlying43 rfl T.s41 rfl) ?_
      refine o_stepN (wA_none rfl) rfl (y_storeAP rfl zt zt T.s41 (cf_len (ks := T.K41) (wrongC_cf (rightC_cf _))) zh rfl (by show 23 + 22 ≤ _; rw [cf_len (ks := T.K43) (ansW_cf rfl (rightC_cf _))]; decide) (cf_oneC (ks := T.K41) (wrongC_cf (rightC_cf _))) (ansW_splice rfl (cf_len (ks := T.K41) (rightC_cf _)) (cf_len (ks := T.K41) (wrongC_cf (rightC_cf _))))) ?_
      refine o_done ?_
      refine e_seq ?_
      refine k_seq ?_
      refine k_region hP hC ?_
      refine os (x_move rfl zt) ?_
      refine os (x_loadA rfl zt T.g43 T.s43 (l_boxAll (whole_row zh rfl) (by first | exact rightC_cf _ | exact ansW_cf rfl (rightC_cf _) | exact ansW_cf rfl (wrongC_cf (rightC_cf _)) | exact ansW_cf rfl rfl | assumption | (apply cf_part; (first | assumption | (exact cf_nth zs ow ow)); rfl) | (exact cf_nth zs ow ow)) rfl)) ?_
      refine os (y_bsliceA rfl zt Try.underlying23 T.s43 T.z43 zd rfl rfl (cf_len (ks := T.K43) (by first | rfl | exact rightC_cf _ | exact ansW_cf rfl (rightC_cf _) | exact ansW_cf rfl (wrongC_cf (rightC_cf _)) | exact ansW_cf rfl rfl | assumption | (apply cf_part; (first | assumption | (exact cf_nth zs ow ow)); rfl) | (exact cf_nth zs ow ow))) zd) ?_
      refine os (x_append rfl rfl zv rfl rfl zr (cells_row Try.underlying23 T.s43 (l_all (whole_row zh rfl) (by rw [Nat.one_mul]; exact (cf_len (ks := T.K43) (by first | exact rightC_cf _ | exact ansW_cf rfl (rightC_cf _) | exact ansW_cf rfl (wrongC_cf (rightC_cf _)) | exact ansW_cf rfl rfl | assumption | (apply cf_part; (first | assumption | (exact cf_nth zs ow ow)); rfl) | (exact cf_nth zs ow ow))).symm))) (ya_own Try.underlying23 T.i23 zd (by rw [Nat.one_mul]; exact cf_len (ks := T.K43) (by first | exact rightC_cf _ | exact ansW_cf rfl (rightC_cf _) | exact ansW_cf rfl (wrongC_cf (rightC_cf _)) | exact ansW_cf rfl rfl | assumption | (apply cf_part; (first | assumption | (exact cf_nth zs ow ow)); rfl) | (exact cf_nth zs ow ow))) ow (by unfold BIG; omega) (cf_oneC (ks := T.K43) (by first | exact rightC_cf _ | exact ansW_cf rfl (rightC_cf _) | exact ansW_cf rfl (wrongC_cf (rightC_cf _)) | exact ansW_cf rfl rfl | assumption | (apply cf_part; (first | assumption | (exact cf_nth zs ow ow)); rfl) | (exact cf_nth zs ow ow))) zd zh rfl (cfs_len hcA))) ?_
      refine os (x_assign rfl zt) ?_
      refine o_done ?_
      refine e_seq ?_
      refine k_region hP hC ?_
      refine os (x_move rfl zt) ?_
      refine os (x_loadA rfl zt T.g41 T.s41 (l_boxAll (whole_row zh rfl) (by (first | exact rightC_cf _ | assumption | (exact cf_nth zs ow ow))) rfl)) ?_
      refine os (y_bsliceA rfl zt Try.underlying24 T.s41 T.z41 zd rfl rfl (cf_len (ks := T.K41) (by first | rfl | exact rightC_cf _ | exact ansW_cf rfl (rightC_cf _) | exact ansW_cf rfl (wrongC_cf (rightC_cf _)) | exact ansW_cf rfl rfl | assumption | (apply cf_part; (first | assumption | (exact cf_nth zs ow ow)); rfl) | (exact cf_nth zs ow ow))) zd) ?_
      refine os (x_append rfl rfl zv rfl rfl zr (cells_row Try.underlying24 T.s41 (l_all (whole_row zh rfl) (by rw [Nat.one_mul]; exact (cf_len (ks := T.K41) (rightC_cf _)).symm))) (ya_own Try.underlying24 T.i24 zd (by rw [Nat.one_mul]; exact cf_len (ks := T.K41) (rightC_cf _)) ow (by unfold BIG; omega) (cf_oneC (ks := T.K41) (rightC_cf _)) zd zh rfl (cfs_len hcR))) ?_
      refine os (x_assign rfl zt) ?_
      refine o_done ?_
      refine e_block ?_
      refine e_seq ?_
      refine k_region hP hC ?_
      refine os (x_move rfl zt) ?_
      refine os (x_bin rfl zt (by rfl) b_add) ?_
      refine os (x_assign rfl zt) ?_
      refine o_done ?_
      refine e_loop ?_
      have hel : ansM bits i (ith l i) = ansW (wkM (ith l i)) (i.tmod 64) (askN (sdM (ith l i))) (wrongC (rightC (sdM (ith l i))) ((IntKind.i64.wrap ((numM (ith l i)).tdiv 96)).tmod 3) (IntKind.i64.wrap ((numM (ith l i)).tdiv 288))) := by unfold ansM resM forge; simp only [g10, g12, g14, g16, Bool.and_self, Bool.true_and, Bool.and_true, Bool.false_and, Bool.and_false, if_true, if_false, Bool.false_eq_true]; first | rfl | done
      refine ⟨(true, IntKind.i64.wrap (i + 1), (accA ++ [ansW (wkM (ith l i)) (i.tmod 64) (askN (sdM (ith l i))) (wrongC (rightC (sdM (ith l i))) ((IntKind.i64.wrap ((numM (ith l i)).tdiv 96)).tmod 3) (IntKind.i64.wrap ((numM (ith l i)).tdiv 288)))]), (accR ++ [(rightC (sdM (ith l i)))])), (to_mk (L := [0, 6, 8]) (slots := [0, 1, 2, 8, 9, 10]) (w := 1) zr (gcVs_cons zh (gcV_sl hs_l rfl) (gcVs_cons zh (gcV_free rfl) (gcVs_cons zh (gcV_free rfl) (gcVs_cons zh (gcV_sliceE rfl (by simp)) (gcVs_cons zh (gcV_sliceE rfl (by simp)) (gcVs_cons zh (gcV_free rfl) gcVs_nil)))))) (gcH_cons (gcO_old (by rfl) zh) (gcH_cons (gcO_aliasE (by rfl) zh zh (gcD_free (by rw [List.all_append, cfs_free1 hcA]; simp only [Bool.true_and]; exact cf_free1 (ks := T.K43) (by first | exact rightC_cf _ | exact ansW_cf rfl (rightC_cf _) | exact ansW_cf rfl (wrongC_cf (rightC_cf _)) | exact ansW_cf rfl rfl | assumption | (apply cf_part; (first | assumption | (exact cf_nth zs ow ow)); rfl) | (exact cf_nth zs ow ow)))) (by simp only [List.flatten_append, List.flatten_cons, List.flatten_nil, List.append_nil, List.nil_append])) (gcH_cons (gcO_aliasE (by rfl) zh zh (gcD_free (by rw [List.all_append, cfs_free1 hcR]; simp only [Bool.true_and]; exact cf_free1 (rightC_cf _))) (by simp only [List.flatten_append, List.flatten_cons, List.flatten_nil, List.append_nil, List.nil_append])) gcH_nil))) zr), ?_, ?_⟩
      ·rw [wr1 ow ow]; refine ⟨by omega, by omega, by omega, ?_, ?_, ?_, ?_⟩
       ·rw [mkA_next h0, ← hA, hel]
       ·rw [mkR_next h0, ← hR]
       ·simp
       ·simp
      ·show (l.length - IntKind.i64.wrap (i + 1)).toNat < (l.length - i).toNat; rw [wr1 ow ow]; omega
     ·have p16 := g16; try simp only [d1, d2, d3, d4, d5, d6, d7, d8, d9] at p16
      refine k_skip ?_
      refine e_seq ?_
      refine k_seq ?_
      refine k_region hP hC ?_
      refine os (x_move rfl zt) ?_
      refine os (x_loadA rfl zt T.g43 T.s43 (l_boxAll (whole_row zh rfl) (by first | exact rightC_cf _ | exact ansW_cf rfl (rightC_cf _) | exact ansW_cf rfl (wrongC_cf (rightC_cf _)) | exact ansW_cf rfl rfl | assumption | (apply cf_part; (first | assumption | (exact cf_nth zs ow ow)); rfl) | (exact cf_nth zs ow ow)) rfl)) ?_
      refine os (y_bsliceA rfl zt Try.underlying23 T.s43 T.z43 zd rfl rfl (cf_len (ks := T.K43) (by first | rfl | exact rightC_cf _ | exact ansW_cf rfl (rightC_cf _) | exact ansW_cf rfl (wrongC_cf (rightC_cf _)) | exact ansW_cf rfl rfl | assumption | (apply cf_part; (first | assumption | (exact cf_nth zs ow ow)); rfl) | (exact cf_nth zs ow ow))) zd) ?_
      refine os (x_append rfl rfl zv rfl rfl zr (cells_row Try.underlying23 T.s43 (l_all (whole_row zh rfl) (by rw [Nat.one_mul]; exact (cf_len (ks := T.K43) (by first | exact rightC_cf _ | exact ansW_cf rfl (rightC_cf _) | exact ansW_cf rfl (wrongC_cf (rightC_cf _)) | exact ansW_cf rfl rfl | assumption | (apply cf_part; (first | assumption | (exact cf_nth zs ow ow)); rfl) | (exact cf_nth zs ow ow))).symm))) (ya_own Try.underlying23 T.i23 zd (by rw [Nat.one_mul]; exact cf_len (ks := T.K43) (by first | exact rightC_cf _ | exact ansW_cf rfl (rightC_cf _) | exact ansW_cf rfl (wrongC_cf (rightC_cf _)) | exact ansW_cf rfl rfl | assumption | (apply cf_part; (first | assumption | (exact cf_nth zs ow ow)); rfl) | (exact cf_nth zs ow ow))) ow (by unfold BIG; omega) (cf_oneC (ks := T.K43) (by first | exact rightC_cf _ | exact ansW_cf rfl (rightC_cf _) | exact ansW_cf rfl (wrongC_cf (rightC_cf _)) | exact ansW_cf rfl rfl | assumption | (apply cf_part; (first | assumption | (exact cf_nth zs ow ow)); rfl) | (exact cf_nth zs ow ow))) zd zh rfl (cfs_len hcA))) ?_
      refine os (x_assign rfl zt) ?_
      refine o_done ?_
      refine e_seq ?_
      refine k_region hP hC ?_
      refine os (x_move rfl zt) ?_
      refine os (x_loadA rfl zt T.g41 T.s41 (l_boxAll (whole_row zh rfl) (by (first | exact rightC_cf _ | assumption | (exact cf_nth zs ow ow))) rfl)) ?_
      refine os (y_bsliceA rfl zt Try.underlying24 T.s41 T.z41 zd rfl rfl (cf_len (ks := T.K41) (by first | rfl | exact rightC_cf _ | exact ansW_cf rfl (rightC_cf _) | exact ansW_cf rfl (wrongC_cf (rightC_cf _)) | exact ansW_cf rfl rfl | assumption | (apply cf_part; (first | assumption | (exact cf_nth zs ow ow)); rfl) | (exact cf_nth zs ow ow))) zd) ?_
      refine os (x_append rfl rfl zv rfl rfl zr (cells_row Try.underlying24 T.s41 (l_all (whole_row zh rfl) (by rw [Nat.one_mul]; exact (cf_len (ks := T.K41) (rightC_cf _)).symm))) (ya_own Try.underlying24 T.i24 zd (by rw [Nat.one_mul]; exact cf_len (ks := T.K41) (rightC_cf _)) ow (by unfold BIG; omega) (cf_oneC (ks := T.K41) (rightC_cf _)) zd zh rfl (cfs_len hcR))) ?_
      refine os (x_assign rfl zt) ?_
      refine o_done ?_
      refine e_block ?_
      refine e_seq ?_
      refine k_region hP hC ?_
      refine os (x_move rfl zt) ?_
      refine os (x_bin rfl zt (by rfl) b_add) ?_
      refine os (x_assign rfl zt) ?_
      refine o_done ?_
      refine e_loop ?_
      have hel : ansM bits i (ith l i) = ansW (wkM (ith l i)) (i.tmod 64) (askN (sdM (ith l i))) ((rightC (sdM (ith l i)))) := by unfold ansM resM forge; simp only [g10, g12, g14, g16, Bool.and_self, Bool.true_and, Bool.and_true, Bool.false_and, Bool.and_false, if_true, if_false, Bool.false_eq_true]; first | rfl | done
      refine ⟨(true, IntKind.i64.wrap (i + 1), (accA ++ [ansW (wkM (ith l i)) (i.tmod 64) (askN (sdM (ith l i))) ((rightC (sdM (ith l i))))]), (accR ++ [(rightC (sdM (ith l i)))])), (to_mk (L := [0, 6, 8]) (slots := [0, 1, 2, 8, 9, 10]) (w := 1) zr (gcVs_cons zh (gcV_sl hs_l rfl) (gcVs_cons zh (gcV_free rfl) (gcVs_cons zh (gcV_free rfl) (gcVs_cons zh (gcV_sliceE rfl (by simp)) (gcVs_cons zh (gcV_sliceE rfl (by simp)) (gcVs_cons zh (gcV_free rfl) gcVs_nil)))))) (gcH_cons (gcO_old (by rfl) zh) (gcH_cons (gcO_aliasE (by rfl) zh zh (gcD_free (by rw [List.all_append, cfs_free1 hcA]; simp only [Bool.true_and]; exact cf_free1 (ks := T.K43) (by first | exact rightC_cf _ | exact ansW_cf rfl (rightC_cf _) | exact ansW_cf rfl (wrongC_cf (rightC_cf _)) | exact ansW_cf rfl rfl | assumption | (apply cf_part; (first | assumption | (exact cf_nth zs ow ow)); rfl) | (exact cf_nth zs ow ow)))) (by simp only [List.flatten_append, List.flatten_cons, List.flatten_nil, List.append_nil, List.nil_append])) (gcH_cons (gcO_aliasE (by rfl) zh zh (gcD_free (by rw [List.all_append, cfs_free1 hcR]; simp only [Bool.true_and]; exact cf_free1 (rightC_cf _))) (by simp only [List.flatten_append, List.flatten_cons, List.flatten_nil, List.append_nil, List.nil_append])) gcH_nil))) zr), ?_, ?_⟩
      ·rw [wr1 ow ow]; refine ⟨by omega, by omega, by omega, ?_, ?_, ?_, ?_⟩
       ·rw [mkA_next h0, ← hA, hel]
       ·rw [mkR_next h0, ← hR]
       ·simp
       ·simp
      ·show (l.length - IntKind.i64.wrap (i + 1)).toNat < (l.length - i).toNat; rw [wr1 ow ow]; omega
    ·have p14 := g14; try simp only [d1, d2, d3, d4, d5, d6, d7, d8, d9] at p14
     refine d_skip (wA_off rfl rfl zg) rfl zd ?_
     refine d_skip (wA_off rfl rfl zg) rfl zd ?_
     refine d_skip (wA_off rfl rfl zg) rfl zd ?_
     refine d_skip (wA_off rfl rfl zg) rfl zd ?_
     refine ds (x_pick rfl zg zb) ?_
     refine d_done ⟨by kernel_rfl, ?_⟩
     refine e_seq ?_
     refine k_condF zg ?_
     refine k_skip ?_
     refine e_seq ?_
     refine k_seq ?_
     refine k_region hP hC ?_
     refine os (x_move rfl zt) ?_
     refine os (x_loadA rfl zt T.g43 T.s43 (l_boxAll (whole_row zh rfl) (by first | exact rightC_cf _ | exact ansW_cf rfl (rightC_cf _) | exact ansW_cf rfl (wrongC_cf (rightC_cf _)) | exact ansW_cf rfl rfl | assumption | (apply cf_part; (first | assumption | (exact cf_nth zs ow ow)); rfl) | (exact cf_nth zs ow ow)) rfl)) ?_
     refine os (y_bsliceA rfl zt Try.underlying23 T.s43 T.z43 zd rfl rfl (cf_len (ks := T.K43) (by first | rfl | exact rightC_cf _ | exact ansW_cf rfl (rightC_cf _) | exact ansW_cf rfl (wrongC_cf (rightC_cf _)) | exact ansW_cf rfl rfl | assumption | (apply cf_part; (first | assumption | (exact cf_nth zs ow ow)); rfl) | (exact cf_nth zs ow ow))) zd) ?_
     refine os (x_append rfl rfl zv rfl rfl zr (cells_row Try.underlying23 T.s43 (l_all (whole_row zh rfl) (by rw [Nat.one_mul]; exact (cf_len (ks := T.K43) (by first | exact rightC_cf _ | exact ansW_cf rfl (rightC_cf _) | exact ansW_cf rfl (wrongC_cf (rightC_cf _)) | exact ansW_cf rfl rfl | assumption | (apply cf_part; (first | assumption | (exact cf_nth zs ow ow)); rfl) | (exact cf_nth zs ow ow))).symm))) (ya_own Try.underlying23 T.i23 zd (by rw [Nat.one_mul]; exact cf_len (ks := T.K43) (by first | exact rightC_cf _ | exact ansW_cf rfl (rightC_cf _) | exact ansW_cf rfl (wrongC_cf (rightC_cf _)) | exact ansW_cf rfl rfl | assumption | (apply cf_part; (first | assumption | (exact cf_nth zs ow ow)); rfl) | (exact cf_nth zs ow ow))) ow (by unfold BIG; omega) (cf_oneC (ks := T.K43) (by first | exact rightC_cf _ | exact ansW_cf rfl (rightC_cf _) | exact ansW_cf rfl (wrongC_cf (rightC_cf _)) | exact ansW_cf rfl rfl | assumption | (apply cf_part; (first | assumption | (exact cf_nth zs ow ow)); rfl) | (exact cf_nth zs ow ow))) zd zh rfl (cfs_len hcA))) ?_
     refine os (x_assign rfl zt) ?_
     refine o_done ?_
     refine e_seq ?_
     refine k_region hP hC ?_
     refine os (x_move rfl zt) ?_
     refine os (x_loadA rfl zt T.g41 T.s41 (l_boxAll (whole_row zh rfl) (by (first | exact rightC_cf _ | assumption | (exact cf_nth zs ow ow))) rfl)) ?_
     refine os (y_bsliceA rfl zt Try.underlying24 T.s41 T.z41 zd rfl rfl (cf_len (ks := T.K41) (by first | rfl | exact rightC_cf _ | exact ansW_cf rfl (rightC_cf _) | exact ansW_cf rfl (wrongC_cf (rightC_cf _)) | exact ansW_cf rfl rfl | assumption | (apply cf_part; (first | assumption | (exact cf_nth zs ow ow)); rfl) | (exact cf_nth zs ow ow))) zd) ?_
     refine os (x_append rfl rfl zv rfl rfl zr (cells_row Try.underlying24 T.s41 (l_all (whole_row zh rfl) (by rw [Nat.one_mul]; exact (cf_len (ks := T.K41) (rightC_cf _)).symm))) (ya_own Try.underlying24 T.i24 zd (by rw [Nat.one_mul]; exact cf_len (ks := T.K41) (rightC_cf _)) ow (by unfold BIG; omega) (cf_oneC (ks := T.K41) (rightC_cf _)) zd zh rfl (cfs_len hcR))) ?_
     refine os (x_assign rfl zt) ?_
     refine o_done ?_
     refine e_block ?_
     refine e_seq ?_
     refine k_region hP hC ?_
     refine os (x_move rfl zt) ?_
     refine os (x_bin rfl zt (by rfl) b_add) ?_
     refine os (x_assign rfl zt) ?_
     refine o_done ?_
     refine e_loop ?_
     have hel : ansM bits i (ith l i) = ansW (wkM (ith l i)) (i.tmod 64) (askN (sdM (ith l i))) ((rightC (sdM (ith l i)))) := by unfold ansM resM forge; simp only [g10, g12, g14, Bool.and_self, Bool.true_and, Bool.and_true, Bool.false_and, Bool.and_false, if_true, if_false, Bool.false_eq_true]; first | rfl | done
     refine ⟨(true, IntKind.i64.wrap (i + 1), (accA ++ [ansW (wkM (ith l i)) (i.tmod 64) (askN (sdM (ith l i))) ((rightC (sdM (ith l i))))]), (accR ++ [(rightC (sdM (ith l i)))])), (to_mk (L := [0, 6, 8]) (slots := [0, 1, 2, 8, 9, 10]) (w := 1) zr (gcVs_cons zh (gcV_sl hs_l rfl) (gcVs_cons zh (gcV_free rfl) (gcVs_cons zh (gcV_free rfl) (gcVs_cons zh (gcV_sliceE rfl (by simp)) (gcVs_cons zh (gcV_sliceE rfl (by simp)) (gcVs_cons zh (gcV_free rfl) gcVs_nil)))))) (gcH_cons (gcO_old (by rfl) zh) (gcH_cons (gcO_aliasE (by rfl) zh zh (gcD_free (by rw [List.all_append, cfs_free1 hcA]; simp only [Bool.true_and]; exact cf_free1 (ks := T.K43) (by first | exact rightC_cf _ | exact ansW_cf rfl (rightC_cf _) | exact ansW_cf rfl (wrongC_cf (rightC_cf _)) | exact ansW_cf rfl rfl | assumption | (apply cf_part; (first | assumption | (exact cf_nth zs ow ow)); rfl) | (exact cf_nth zs ow ow)))) (by simp only [List.flatten_append, List.flatten_cons, List.flatten_nil, List.append_nil, List.nil_append])) (gcH_cons (gcO_aliasE (by rfl) zh zh (gcD_free (by rw [List.all_append, cfs_free1 hcR]; simp only [Bool.true_and]; exact cf_free1 (rightC_cf _))) (by simp only [List.flatten_append, List.flatten_cons, List.flatten_nil, List.append_nil, List.nil_append])) gcH_nil))) zr), ?_, ?_⟩
     ·rw [wr1 ow ow]; refine ⟨by omega, by omega, by omega, ?_, ?_, ?_, ?_⟩
      ·rw [mkA_next h0, ← hA, hel]
      ·rw [mkR_next h0, ← hR]
      ·simp
      ·simp
     ·show (l.length - IntKind.i64.wrap (i + 1)).toNat < (l.length - i).toNat; rw [wr1 ow ow]; omega
   ·have p12 := g12; try simp only [d1, d2, d3, d4, d5, d6, d7, d8, d9] at p12
    refine k_exit ?_
    refine e_seq_exit ?_
    refine e_loop_exit ?_
    refine e_block_eq ?_
    refine e_seq ?_
    refine k_seq ?_
    refine k_region hP hC ?_
    refine os (x_move rfl zt) ?_
    refine os (x_move rfl zt) ?_
    refine os (x_assign rfl zt) ?_
    refine os (x_assign rfl zt) ?_
    refine o_done ?_
    refine e_seq ?_
    refine k_ret ?_
    have hi : i = min (l.length : Int) most := by omega
    rw [hi] at hA hR
    unfold val_made new_made
    rw [← hA, ← hR]
    have hnA : accA.length ≠ 0 := by intro e; have e2 := List.eq_nil_of_length_eq_zero e; subst e2; cases hbA
    rw [outV_ne hnA, outN_ne hnA]
    have hnR : accR.length ≠ 0 := by omega
    rw [outV_ne hnR, outN_ne hnR]
    refine gives_mk (L := [0, 1, 2]) (slots := [6, 7]) (w := 1) (.inr rfl) zr (gcVs_cons zh (gcV_slice rfl) (gcVs_cons zh (gcV_slice rfl) gcVs_nil)) (gcH_cons (gcO_old (by rfl) zh) (gcH_cons (gcO_row (by rfl) zh (gcD_free (cfs_free1 hcA))) (gcH_cons (gcO_row (by rfl) zh (gcD_free (cfs_free1 hcR))) gcH_nil))) zr (by simp only [Try.results8, resA, cst, mkE, Tr.get_set, reduceIte, Nat.reduceEqDiff, Nat.reduceAdd] <;> rfl) ?_
    rfl
  ·have p10 := g10; try simp only [d1, d2, d3, d4, d5, d6, d7, d8, d9] at p10
   refine o_skip (wA_off rfl rfl zg) rfl zd ?_
   refine o_skip (wA_off rfl rfl zg) rfl zd ?_
   refine o_skip (wA_off rfl rfl zg) rfl zd ?_
   refine os (x_pick rfl zg zb) ?_
   refine o_done ?_
   refine e_seq ?_
   refine k_condF zg ?_
   refine k_exit ?_
   refine e_seq_exit ?_
   refine e_loop_exit ?_
   refine e_block_eq ?_
   refine e_seq ?_
   refine k_seq ?_
   refine k_region hP hC ?_
   refine os (x_move rfl zt) ?_
   refine os (x_move rfl zt) ?_
   refine os (x_assign rfl zt) ?_
   refine os (x_assign rfl zt) ?_
   refine o_done ?_
   refine e_seq ?_
   refine k_ret ?_
   have hi : i = min (l.length : Int) most := by omega
   rw [hi] at hA hR
   unfold val_made new_made
   rw [← hA, ← hR]
   have hnA : accA.length ≠ 0 := by intro e; have e2 := List.eq_nil_of_length_eq_zero e; subst e2; cases hbA
   rw [outV_ne hnA, outN_ne hnA]
   have hnR : accR.length ≠ 0 := by omega
   rw [outV_ne hnR, outN_ne hnR]
   refine gives_mk (L := [0, 1, 2]) (slots := [6, 7]) (w := 1) (.inr rfl) zr (gcVs_cons zh (gcV_slice rfl) (gcVs_cons zh (gcV_slice rfl) gcVs_nil)) (gcH_cons (gcO_old (by rfl) zh) (gcH_cons (gcO_row (by rfl) zh (gcD_free (cfs_free1 hcA))) (gcH_cons (gcO_row (by rfl) zh (gcD_free (cfs_free1 hcR))) gcH_nil))) zr (by simp only [Try.results8, resA, cst, mkE, Tr.get_set, reduceIte, Nat.reduceEqDiff, Nat.reduceAdd] <;> rfl) ?_
   rfl
theorem con_made : Con Try.prog 8 c_made := con_flat Try.func8 rfl fun us cs v new h => by
 unfold spec_made at h
 split at h
 case h_2 => cases h
 rename_i s_l most bits c_l
 split at h
 case isFalse => cases h
 rename_i hc
 try simp only [Bool.and_eq_true] at hc
 obtain ⟨⟨q_l, r_l⟩, hok⟩ := hc
 cases h
 have e_l := ints_unints r_l
 have hs_l := slOk_sl (n := (unints c_l).length) q_l zd (by rw [← ints_len, e_l, Nat.mul_one])
 have key := made_m hs_l hok
 have hrows : [ints (unints c_l)] = [c_l] := by rw [e_l]
 rw [← hrows]
 exact key
theorem made_c {H : AH} {s_l : Value} {l : List Int} {most : Int} {bits : Int} (hr_l : Rd H 1 s_l l.length (ints l)) (hok : ok_made l most bits = true) : c_made [s_l, .int .i64 most, .int .i64 bits] H = some (.tuple ⟨[outV H.next 46 (mkA l bits (min (l.length : Int) most)).length, outV (H.next + 1) 22 (mkR l (min (l.length : Int) most)).length]⟩, addRows H (outN (mkA l bits (min (l.length : Int) most)).length (mkA l bits (min (l.length : Int) most)).flatten ++ outN (mkR l (min (l.length : Int) most)).length (mkR l (min (l.length : Int) most)).flatten)) := by
 obtain ⟨u_l, a_l, b_l⟩ := hr_l 0
 exact flatC_at (v := val_made l most bits) (new := new_made l most bits) (cl_sl a_l (cl_fr rfl (cl_fr rfl cl_nil))) (by simp only [spec_made, sl_slOk b_l (by rw [ints_len, Nat.mul_one]), isInts_ints, unints_ints, hok, Bool.and_self, if_true]) (by unfold new_made; exact outN_free2 (cfs_free0 mkA_cfs) (cfs_free0 mkR_cfs)) (by exact gcV_tup2 out_gc' (out_gcA (j := 1)))
end Go.Proofs.Ytohhcnehcjpekaa
