/-
  Contracts of functions on numbers and aggregates alone.
-/
import Derived.Test.YtohhcnehcjpekaaJDef
namespace Go.Proofs.Ytohhcnehcjpekaa
open Go.AM
set_option maxRecDepth 100000
set_option maxHeartbeats 1000000
set_option linter.unusedSimpArgs false
set_option linter.unusedVariables false
def ok_clash (a : List Value) (b : List Value) : Bool := true
def val_clash (a : List Value) (b : List Value) : Value := .bool (clashC a b)
def new_clash (a : List Value) (b : List Value) : List (List Value) := []
def spec_clash : Go.AM.Spec := fun us cs => match us, cs with
 | [.agg ⟨a⟩, .agg ⟨b⟩], [] => if cf T.K43 a && cf T.K43 b && ok_clash a b then some (val_clash a b, new_clash a b) else none
 | _, _ => none
def c_clash := flatC [.fr, .fr] spec_clash
theorem clash_m  {a : List Value} {b : List Value} (h_a : cf T.K43 a = true) (h_b : cf T.K43 b = true) (hok : ok_clash a b = true) : Meets Try.prog (.func 12) [.agg ⟨a⟩, .agg ⟨b⟩] (cheap []) (val_clash a b) (rheap [] (new_clash a b)) := by
 have hP := Fits
 have hC : CallSound Try.prog (tabOf []) := tab_sound tab_end
 refine meets_start (sz := 17) hP Try.func12 rfl rfl zo (by simp only [Tr.ofList, roRows, Nat.zero_add, Nat.reduceAdd] <;> rfl) zl ?_
 refine k_seq ?_
 refine k_region hP hC ?_
 refine os (y_boxA rfl zt) ?_
 refine os (y_boxA rfl zt) ?_
 refine os (x_assign rfl (by rfl)) ?_
 refine o_done ?_
 refine e_seq ?_
 refine k_seq ?_
 refine k_region hP hC ?_
 refine os (x_field (off' := 2) rfl zt Try.underlying43 rfl T.s37 rfl) ?_
 refine os (x_loadA rfl zt T.g37 T.s37 (l_box (whole_row zh rfl) (by (first | assumption | (exact cf_nth zs ow ow))) zd)) ?_
 refine os (x_field (off' := 2) rfl zt Try.underlying43 rfl T.s37 rfl) ?_
 refine os (x_loadA rfl zt T.g37 T.s37 (l_box (whole_row zh rfl) (by (first | assumption | (exact cf_nth zs ow ow))) zd)) ?_
 refine os (x_bin rfl zt zt (b_eqlA zd T.f37 T.g37 T.q37 zc zc)) ?_
 refine os (x_move rfl zt) ?_
 refine o_guard rfl rfl zh (fun g2 => ?_) (fun g2 => ?_)
 ·have p2 := g2; try simp only [d1, d2, d3, d4, d5, d6, d7, d8, d9] at p2
  refine o_step (wA_on rfl rfl zg) rfl (x_field (off' := 23) rfl zt Try.underlying43 rfl T.s41 rfl) zd ?_
  refine o_step (wA_on rfl rfl zg) rfl (x_loadA rfl zt T.g41 T.s41 (l_box (whole_row zh rfl) (by (first | assumption | (exact cf_nth zs ow ow))) zd)) zd ?_
  refine o_step (wA_on rfl rfl zg) rfl (x_field (off' := 23) rfl zt Try.underlying43 rfl T.s41 rfl) zd ?_
  refine o_step (wA_on rfl rfl zg) rfl (x_loadA rfl zt T.g41 T.s41 (l_box (whole_row zh rfl) (by (first | assumption | (exact cf_nth zs ow ow))) zd)) zd ?_
  refine o_step (wA_on rfl rfl zg) rfl (x_bin rfl zt zt (b_neqA zd T.f41 T.g41 T.q41 zc zc)) zd ?_
  refine os (x_pick rfl zg zb) ?_
  refine os (x_assign rfl zt) ?_
  refine o_done ?_
  refine e_seq ?_
  refine k_ret ?_
  refine gives_mk (L := []) (slots := [4]) (w := 0) (.inr rfl) zr (gcVs_cons zh (gcV_free rfl) gcVs_nil) gcH_nil zr (by simp only [Try.results12, resA, cst, mkE, Tr.get_set, reduceIte, Nat.reduceEqDiff, Nat.reduceAdd] <;> rfl) ?_
  simp only [one, val_clash, clashC, askC, resC, Bool.true_and, Bool.false_and, g2]
 ·have p2 := g2; try simp only [d1, d2, d3, d4, d5, d6, d7, d8, d9] at p2
  refine o_skip (wA_off rfl rfl zg) rfl zd ?_
  refine o_skip (wA_off rfl rfl zg) rfl zd ?_
  refine o_skip (wA_off rfl rfl zg) rfl zd ?_
  refine o_skip (wA_off rfl rfl zg) rfl zd ?_
  refine o_skip (wA_off rfl rfl zg) rfl zd ?_
  refine os (x_pick rfl zg zb) ?_
  refine os (x_assign rfl zt) ?_
  refine o_done ?_
  refine e_seq ?_
  refine k_ret ?_
  refine gives_mk (L := []) (slots := [4]) (w := 0) (.inr rfl) zr (gcVs_cons zh (gcV_free rfl) gcVs_nil) gcH_nil zr (by simp only [Try.results12, resA, cst, mkE, Tr.get_set, reduceIte, Nat.reduceEqDiff, Nat.reduceAdd] <;> rfl) ?_
  simp only [one, val_clash, clashC, askC, resC, Bool.true_and, Bool.false_and, g2]
theorem con_clash : Con Try.prog 12 c_clash := con_flat Try.func12 rfl fun us cs v new h => by
 unfold spec_clash at h
 split at h
 case h_2 => cases h
 rename_i a b
 split at h
 case isFalse => cases h
 rename_i hc
 try simp only [Bool.and_eq_true] at hc
 obtain ⟨⟨h_a, h_b⟩, hok⟩ := hc
 cases h
 have key := clash_m h_a h_b hok
 exact key
def ok_odd (a : List Value) : Bool := true
def val_odd (a : List Value) : Value := .bool (oddC a)
def new_odd (a : List Value) : List (List Value) := []
def spec_odd : Go.AM.Spec := fun us cs => match us, cs with
 | [.agg ⟨a⟩], [] => if cf T.K43 a && ok_odd a then some (val_odd a, new_odd a) else none
 | _, _ => none
def c_odd := flatC [.fr] spec_odd
theorem odd_m  {a : List Value} (h_a : cf T.K43 a = true) (hok : ok_odd a = true) : Meets Try.prog (.func 39) [.agg ⟨a⟩] (cheap []) (val_odd a) (rheap [] (new_odd a)) := by
 have hP := Fits
 have hC : CallSound Try.prog (tabOf []) := tab_sound tab_end
 refine meets_start (sz := 21) hP Try.func39 rfl rfl zo (by simp only [Tr.ofList, roRows, Nat.zero_add, Nat.reduceAdd] <;> rfl) zl ?_
 refine k_seq ?_
 refine k_region hP hC ?_
 refine os (y_boxA rfl zt) ?_
 refine os (x_assign rfl (by rfl)) ?_
 refine o_done ?_
 refine e_seq ?_
 refine k_seq ?_
 refine k_region hP hC ?_
 refine os (x_field (off' := 0) rfl zt Try.underlying43 rfl T.s3 rfl) ?_
 refine os (x_load1 rfl zt T.g3 (by first | exact l_boxI (whole_row zh rfl) (by (first | assumption | (exact cf_nth zs ow ow))) rfl | exact l_boxS (whole_row zh rfl) (by (first | assumption | (exact cf_nth zs ow ow))) rfl | (simp only [loadC, AH.fam, Tr.get_set, reduceIte, Nat.reduceEqDiff, Nat.reduceAdd, Fam.rb, List.drop_zero, List.drop_succ_cons, List.take_succ_cons, List.take_zero, List.length_cons, List.length_nil, Nat.zero_le, Nat.reduceLeDiff, and_self, true_and] <;> rfl))) ?_
 refine os (x_bin rfl zt (by rfl) b_lss) ?_
 refine os (x_move rfl zt) ?_
 refine o_guard rfl rfl zh (fun g2 => ?_) (fun g2 => ?_)
 ·have p2 := g2; try simp only [d1, d2, d3, d4, d5, d6, d7, d8, d9] at p2
  refine o_skip (wA_off rfl rfl zg) rfl zd ?_
  refine o_skip (wA_off rfl rfl zg) rfl zd ?_
  refine o_skip (wA_off rfl rfl zg) rfl zd ?_
  refine os (x_pick rfl zg zb) ?_
  refine os (x_move rfl zt) ?_
  refine o_skip (wA_off rfl rfl zg) rfl zd ?_
  refine o_skip (wA_off rfl rfl zg) rfl zd ?_
  refine o_skip (wA_off rfl rfl zg) rfl zd ?_
  refine os (x_pick rfl zg zb) ?_
  refine os (x_move rfl zt) ?_
  refine o_skip (wA_off rfl rfl zg) rfl zd ?_
  refine o_skip (wA_off rfl rfl zg) rfl zd ?_
  refine o_skip (wA_off rfl rfl zg) rfl zd ?_
  refine os (x_pick rfl zg zb) ?_
  refine os (x_assign rfl zt) ?_
  refine o_done ?_
  refine e_seq ?_
  refine k_ret ?_
  refine gives_mk (L := []) (slots := [2]) (w := 0) (.inr rfl) zr (gcVs_cons zh (gcV_free rfl) gcVs_nil) gcH_nil zr (by simp only [Try.results39, resA, cst, mkE, Tr.get_set, reduceIte, Nat.reduceEqDiff, Nat.reduceAdd] <;> rfl) ?_
  simp only [one, val_odd, oddC, wkr, seqC, Bool.true_or, Bool.false_or, Bool.or_false, Bool.or_true, g2]
 ·have p2 := g2; try simp only [d1, d2, d3, d4, d5, d6, d7, d8, d9] at p2
  refine o_step (wA_on rfl rfl zg) rfl (x_field (off' := 0) rfl zt Try.underlying43 rfl T.s3 rfl) zd ?_
  refine o_step (wA_on rfl rfl zg) rfl (x_load1 rfl zt T.g3 (by first | exact l_boxI (whole_row zh rfl) (by (first | assumption | (exact cf_nth zs ow ow))) rfl | exact l_boxS (whole_row zh rfl) (by (first | assumption | (exact cf_nth zs ow ow))) rfl | (simp only [loadC, AH.fam, Tr.get_set, reduceIte, Nat.reduceEqDiff, Nat.reduceAdd, Fam.rb, List.drop_zero, List.drop_succ_cons, List.take_succ_cons, List.take_zero, List.length_cons, List.length_nil, Nat.zero_le, Nat.reduceLeDiff, and_self, true_and] <;> rfl))) zd ?_
  refine o_step (wA_on rfl rfl zg) rfl (x_bin rfl zt (by rfl) b_geq) zd ?_
  refine os (x_pick rfl zg zb) ?_
  refine os (x_move rfl zt) ?_
  refine o_guard rfl rfl zh (fun g4 => ?_) (fun g4 => ?_)
  ·have p4 := g4; try simp only [d1, d2, d3, d4, d5, d6, d7, d8, d9] at p4
   refine o_skip (wA_off rfl rfl zg) rfl zd ?_
   refine o_skip (wA_off rfl rfl zg) rfl zd ?_
   refine o_skip (wA_off rfl rfl zg) rfl zd ?_
   refine os (x_pick rfl zg zb) ?_
   refine os (x_move rfl zt) ?_
   refine o_skip (wA_off rfl rfl zg) rfl zd ?_
   refine o_skip (wA_off rfl rfl zg) rfl zd ?_
   refine o_skip (wA_off rfl rfl zg) rfl zd ?_
   refine os (x_pick rfl zg zb) ?_
   refine os (x_assign rfl zt) ?_
   refine o_done ?_
   refine e_seq ?_
   refine k_ret ?_
   refine gives_mk (L := []) (slots := [2]) (w := 0) (.inr rfl) zr (gcVs_cons zh (gcV_free rfl) gcVs_nil) gcH_nil zr (by simp only [Try.results39, resA, cst, mkE, Tr.get_set, reduceIte, Nat.reduceEqDiff, Nat.reduceAdd] <;> rfl) ?_
   simp only [one, val_odd, oddC, wkr, seqC, Bool.true_or, Bool.false_or, Bool.or_false, Bool.or_true, g2, g4]
  ·have p4 := g4; try simp only [d1, d2, d3, d4, d5, d6, d7, d8, d9] at p4
   refine o_step (wA_on rfl rfl zg) rfl (x_field (off' := 1) rfl zt Try.underlying43 rfl T.s3 rfl) zd ?_
   refine o_step (wA_on rfl rfl zg) rfl (x_load1 rfl zt T.g3 (by first | exact l_boxI (whole_row zh rfl) (by (first | assumption | (exact cf_nth zs ow ow))) rfl | exact l_boxS (whole_row zh rfl) (by (first | assumption | (exact cf_nth zs ow ow))) rfl | (simp only [loadC, AH.fam, Tr.get_set, reduceIte, Nat.reduceEqDiff, Nat.reduceAdd, Fam.rb, List.drop_zero, List.drop_succ_cons, List.take_succ_cons, List.take_zero, List.length_cons, List.length_nil, Nat.zero_le, Nat.reduceLeDiff, and_self, true_and] <;> rfl))) zd ?_
   refine o_step (wA_on rfl rfl zg) rfl (x_bin rfl zt (by rfl) b_lss) zd ?_
   refine os (x_pick rfl zg zb) ?_
   refine os (x_move rfl zt) ?_
   refine o_guard rfl rfl zh (fun g6 => ?_) (fun g6 => ?_)
   ·have p6 := g6; try simp only [d1, d2, d3, d4, d5, d6, d7, d8, d9] at p6
    refine o_skip (wA_off rfl rfl zg) rfl zd ?_
    refine o_skip (wA_off rfl rfl zg) rfl zd ?_
    refine o_skip (wA_off rfl rfl zg) rfl zd ?_
    refine os (x_pick rfl zg zb) ?_
    refine os (x_assign rfl zt) ?_
    refine o_done ?_
    refine e_seq ?_
    refine k_ret ?_
    refine gives_mk (L := []) (slots := [2]) (w := 0) (.inr rfl) zr (gcVs_cons zh (gcV_free rfl) gcVs_nil) gcH_nil zr (by simp only [Try.results39, resA, cst, mkE, Tr.get_set, reduceIte, Nat.reduceEqDiff, Nat.reduceAdd] <;> rfl) ?_
    simp only [one, val_odd, oddC, wkr, seqC, Bool.true_or, Bool.false_or, Bool.or_false, Bool.or_true, g2, g4, g6]
   ·have p6 := g6; try simp only [d1, d2, d3, d4, d5, d6, d7, d8, d9] at p6
    refine o_step (wA_on rfl rfl zg) rfl (x_field (off' := 1) rfl zt Try.underlying43 rfl T.s3 rfl) zd ?_
    refine o_step (wA_on rfl rfl zg) rfl (x_load1 rfl zt T.g3 (by first | exact l_boxI (whole_row zh rfl) (by (first | assumption | (exact cf_nth zs ow ow))) rfl | exact l_boxS (whole_row zh rfl) (by (first | assumption | (exact cf_nth zs ow ow))) rfl | (simp only [loadC, AH.fam, Tr.get_set, reduceIte, Nat.reduceEqDiff, Nat.reduceAdd, Fam.rb, List.drop_zero, List.drop_succ_cons, List.take_succ_cons, List.take_zero, List.length_cons, List.length_nil, Nat.zero_le, Nat.reduceLeDiff, and_self, true_and] <;> rfl))) zd ?_
    refine o_step (wA_on rfl rfl zg) rfl (x_bin rfl zt (by rfl) b_gtr) zd ?_
    refine os (x_pick rfl zg zb) ?_
    refine os (x_assign rfl zt) ?_
    refine o_done ?_
    refine e_seq ?_
    refine k_ret ?_
    refine gives_mk (L := []) (slots := [2]) (w := 0) (.inr rfl) zr (gcVs_cons zh (gcV_free rfl) gcVs_nil) gcH_nil zr (by simp only [Try.results39, resA, cst, mkE, Tr.get_set, reduceIte, Nat.reduceEqDiff, Nat.reduceAdd] <;> rfl) ?_
    simp only [one, val_odd, oddC, wkr, seqC, Bool.true_or, Bool.false_or, Bool.or_false, Bool.or_true, g2, g4, g6]
theorem con_odd : Con Try.prog 39 c_odd := con_flat Try.func39 rfl fun us cs v new h => by
 unfold spec_odd at h
 split at h
 case h_2 => cases h
 rename_i a
 split at h
 case isFalse => cases h
 rename_i hc
 try simp only [Bool.and_eq_true] at hc
 obtain ⟨h_a, hok⟩ := hc
 cases h
 have key := odd_m h_a hok
 exact key
theorem odd_c {H : AH}  {a : List Value} (h_a : cf T.K43 a = true) (hok : ok_odd a = true) : c_odd [.agg ⟨a⟩] H = some (.bool (oddC a), H) := by
 exact flatC_at (v := val_odd a) (new := new_odd a) (cl_fr (cf_free0 h_a) cl_nil) (by simp only [spec_odd, h_a, hok, Bool.and_self, if_true]) (rfl) (gcV_free rfl)
def ok_possible1 (a : List Value) : Bool := true
def val_possible1 (a : List Value) : Value := .bool (!oddC a)
def new_possible1 (a : List Value) : List (List Value) := []
def spec_possible1 : Go.AM.Spec := fun us cs => match us, cs with
 | [.agg ⟨a⟩], [] => if cf T.K43 a && ok_possible1 a then some (val_possible1 a, new_possible1 a) else none
 | _, _ => none
def c_possible1 := flatC [.fr] spec_possible1
theorem possible1_m  {a : List Value} (h_a : cf T.K43 a = true) (hok : ok_possible1 a = true) : Meets Try.prog (.func 54) [.agg ⟨a⟩] (cheap []) (val_possible1 a) (rheap [] (new_possible1 a)) := by
 have hP := Fits
 have hC : CallSound Try.prog (tabOf []) := tab_sound tab_end
 refine meets_start (sz := 21) hP Try.func54 rfl rfl zo (by simp only [Tr.ofList, roRows, Nat.zero_add, Nat.reduceAdd] <;> rfl) zl ?_
 refine k_seq ?_
 refine k_region hP hC ?_
 refine os (y_boxA rfl zt) ?_
 refine os (x_assign rfl (by rfl)) ?_
 refine o_done ?_
 refine e_seq ?_
 refine k_seq ?_
 refine k_region hP hC ?_
 refine os (x_field (off' := 0) rfl zt Try.underlying43 rfl T.s3 rfl) ?_
 refine os (x_load1 rfl zt T.g3 (by first | exact l_boxI (whole_row zh rfl) (by (first | assumption | (exact cf_nth zs ow ow))) rfl | exact l_boxS (whole_row zh rfl) (by (first | assumption | (exact cf_nth zs ow ow))) rfl | (simp only [loadC, AH.fam, Tr.get_set, reduceIte, Nat.reduceEqDiff, Nat.reduceAdd, Fam.rb, List.drop_zero, List.drop_succ_cons, List.take_succ_cons, List.take_zero, List.length_cons, List.length_nil, Nat.zero_le, Nat.reduceLeDiff, and_self, true_and] <;> rfl))) ?_
 refine os (x_bin rfl zt (by rfl) b_geq) ?_
 refine os (x_move rfl zt) ?_
 refine o_guard rfl rfl zh (fun g2 => ?_) (fun g2 => ?_)
 ·have p2 := g2; try simp only [d1, d2, d3, d4, d5, d6, d7, d8, d9] at p2
  refine o_step (wA_on rfl rfl zg) rfl (x_field (off' := 0) rfl zt Try.underlying43 rfl T.s3 rfl) zd ?_
  refine o_step (wA_on rfl rfl zg) rfl (x_load1 rfl zt T.g3 (by first | exact l_boxI (whole_row zh rfl) (by (first | assumption | (exact cf_nth zs ow ow))) rfl | exact l_boxS (whole_row zh rfl) (by (first | assumption | (exact cf_nth zs ow ow))) rfl | (simp only [loadC, AH.fam, Tr.get_set, reduceIte, Nat.reduceEqDiff, Nat.reduceAdd, Fam.rb, List.drop_zero, List.drop_succ_cons, List.take_succ_cons, List.take_zero, List.length_cons, List.length_nil, Nat.zero_le, Nat.reduceLeDiff, and_self, true_and] <;> rfl))) zd ?_
  refine o_step (wA_on rfl rfl zg) rfl (x_bin rfl zt (by rfl) b_leq) zd ?_
  refine os (x_pick rfl zg zb) ?_
  refine os (x_move rfl zt) ?_
  refine o_guard rfl rfl zh (fun g4 => ?_) (fun g4 => ?_)
  ·have p4 := g4; try simp only [d1, d2, d3, d4, d5, d6, d7, d8, d9] at p4
   refine o_step (wA_on rfl rfl zg) rfl (x_field (off' := 1) rfl zt Try.underlying43 rfl T.s3 rfl) zd ?_
   refine o_step (wA_on rfl rfl zg) rfl (x_load1 rfl zt T.g3 (by first | exact l_boxI (whole_row zh rfl) (by (first | assumption | (exact cf_nth zs ow ow))) rfl | exact l_boxS (whole_row zh rfl) (by (first | assumption | (exact cf_nth zs ow ow))) rfl | (simp only [loadC, AH.fam, Tr.get_set, reduceIte, Nat.reduceEqDiff, Nat.reduceAdd, Fam.rb, List.drop_zero, List.drop_succ_cons, List.take_succ_cons, List.take_zero, List.length_cons, List.length_nil, Nat.zero_le, Nat.reduceLeDiff, and_self, true_and] <;> rfl))) zd ?_
   refine o_step (wA_on rfl rfl zg) rfl (x_bin rfl zt (by rfl) b_geq) zd ?_
   refine os (x_pick rfl zg zb) ?_
   refine os (x_move rfl zt) ?_
   refine o_guard rfl rfl zh (fun g6 => ?_) (fun g6 => ?_)
   ·have p6 := g6; try simp only [d1, d2, d3, d4, d5, d6, d7, d8, d9] at p6
    refine o_step (wA_on rfl rfl zg) rfl (x_field (off' := 1) rfl zt Try.underlying43 rfl T.s3 rfl) zd ?_
    refine o_step (wA_on rfl rfl zg) rfl (x_load1 rfl zt T.g3 (by first | exact l_boxI (whole_row zh rfl) (by (first | assumption | (exact cf_nth zs ow ow))) rfl | exact l_boxS (whole_row zh rfl) (by (first | assumption | (exact cf_nth zs ow ow))) rfl | (simp only [loadC, AH.fam, Tr.get_set, reduceIte, Nat.reduceEqDiff, Nat.reduceAdd, Fam.rb, List.drop_zero, List.drop_succ_cons, List.take_succ_cons, List.take_zero, List.length_cons, List.length_nil, Nat.zero_le, Nat.reduceLeDiff, and_self, true_and] <;> rfl))) zd ?_
    refine o_step (wA_on rfl rfl zg) rfl (x_bin rfl zt (by rfl) b_leq) zd ?_
    refine os (x_pick rfl zg zb) ?_
    refine os (x_assign rfl zt) ?_
    refine o_done ?_
    refine e_seq ?_
    refine k_ret ?_
    refine gives_mk (L := []) (slots := [2]) (w := 0) (.inr rfl) zr (gcVs_cons zh (gcV_free rfl) gcVs_nil) gcH_nil zr (by simp only [Try.results54, resA, cst, mkE, Tr.get_set, reduceIte, Nat.reduceEqDiff, Nat.reduceAdd] <;> rfl) ?_
    simp only [one, val_possible1]; congr 1; rw [Bool.eq_iff_iff]; simp only [oddC, wkr, seqC, decide_eq_true_eq, Bool.or_eq_true, Bool.not_eq_true', Bool.or_eq_false_iff, decide_eq_false_iff_not, Bool.false_eq_true, false_iff]; omega
   ·have p6 := g6; try simp only [d1, d2, d3, d4, d5, d6, d7, d8, d9] at p6
    refine o_skip (wA_off rfl rfl zg) rfl zd ?_
    refine o_skip (wA_off rfl rfl zg) rfl zd ?_
    refine o_skip (wA_off rfl rfl zg) rfl zd ?_
    refine os (x_pick rfl zg zb) ?_
    refine os (x_assign rfl zt) ?_
    refine o_done ?_
    refine e_seq ?_
    refine k_ret ?_
    refine gives_mk (L := []) (slots := [2]) (w := 0) (.inr rfl) zr (gcVs_cons zh (gcV_free rfl) gcVs_nil) gcH_nil zr (by simp only [Try.results54, resA, cst, mkE, Tr.get_set, reduceIte, Nat.reduceEqDiff, Nat.reduceAdd] <;> rfl) ?_
    simp only [one, val_possible1]; congr 1; rw [Bool.eq_iff_iff]; simp only [oddC, wkr, seqC, decide_eq_true_eq, Bool.or_eq_true, Bool.not_eq_true', Bool.or_eq_false_iff, decide_eq_false_iff_not, Bool.false_eq_true, false_iff]; omega
  ·have p4 := g4; try simp only [d1, d2, d3, d4, d5, d6, d7, d8, d9] at p4
   refine o_skip (wA_off rfl rfl zg) rfl zd ?_
   refine o_skip (wA_off rfl rfl zg) rfl zd ?_
   refine o_skip (wA_off rfl rfl zg) rfl zd ?_
   refine os (x_pick rfl zg zb) ?_
   refine os (x_move rfl zt) ?_
   refine o_skip (wA_off rfl rfl zg) rfl zd ?_
   refine o_skip (wA_off rfl rfl zg) rfl zd ?_
   refine o_skip (wA_off rfl rfl zg) rfl zd ?_
   refine os (x_pick rfl zg zb) ?_
   refine os (x_assign rfl zt) ?_
   refine o_done ?_
   refine e_seq ?_
   refine k_ret ?_
   refine gives_mk (L := []) (slots := [2]) (w := 0) (.inr rfl) zr (gcVs_cons zh (gcV_free rfl) gcVs_nil) gcH_nil zr (by simp only [Try.results54, resA, cst, mkE, Tr.get_set, reduceIte, Nat.reduceEqDiff, Nat.reduceAdd] <;> rfl) ?_
   simp only [one, val_possible1]; congr 1; rw [Bool.eq_iff_iff]; simp only [oddC, wkr, seqC, decide_eq_true_eq, Bool.or_eq_true, Bool.not_eq_true', Bool.or_eq_false_iff, decide_eq_false_iff_not, Bool.false_eq_true, false_iff]; omega
 ·have p2 := g2; try simp only [d1, d2, d3, d4, d5, d6, d7, d8, d9] at p2
  refine o_skip (wA_off rfl rfl zg) rfl zd ?_
  refine o_skip (wA_off rfl rfl zg) rfl zd ?_
  refine o_skip (wA_off rfl rfl zg) rfl zd ?_
  refine os (x_pick rfl zg zb) ?_
  refine os (x_move rfl zt) ?_
  refine o_skip (wA_off rfl rfl zg) rfl zd ?_
  refine o_skip (wA_off rfl rfl zg) rfl zd ?_
  refine o_skip (wA_off rfl rfl zg) rfl zd ?_
  refine os (x_pick rfl zg zb) ?_
  refine os (x_move rfl zt) ?_
  refine o_skip (wA_off rfl rfl zg) rfl zd ?_
  refine o_skip (wA_off rfl rfl zg) rfl zd ?_
  refine o_skip (wA_off rfl rfl zg) rfl zd ?_
  refine os (x_pick rfl zg zb) ?_
  refine os (x_assign rfl zt) ?_
  refine o_done ?_
  refine e_seq ?_
  refine k_ret ?_
  refine gives_mk (L := []) (slots := [2]) (w := 0) (.inr rfl) zr (gcVs_cons zh (gcV_free rfl) gcVs_nil) gcH_nil zr (by simp only [Try.results54, resA, cst, mkE, Tr.get_set, reduceIte, Nat.reduceEqDiff, Nat.reduceAdd] <;> rfl) ?_
  simp only [one, val_possible1]; congr 1; rw [Bool.eq_iff_iff]; simp only [oddC, wkr, seqC, decide_eq_true_eq, Bool.or_eq_true, Bool.not_eq_true', Bool.or_eq_false_iff, decide_eq_false_iff_not, Bool.false_eq_true, false_iff]; omega
theorem con_possible1 : Con Try.prog 54 c_possible1 := con_flat Try.func54 rfl fun us cs v new h => by
 unfold spec_possible1 at h
 split at h
 case h_2 => cases h
 rename_i a
 split at h
 case isFalse => cases h
 rename_i hc
 try simp only [Bool.and_eq_true] at hc
 obtain ⟨h_a, hok⟩ := hc
 cases h
 have key := possible1_m h_a hok
 exact key
theorem possible1_c {H : AH}  {a : List Value} (h_a : cf T.K43 a = true) (hok : ok_possible1 a = true) : c_possible1 [.agg ⟨a⟩] H = some (.bool (!oddC a), H) := by
 exact flatC_at (v := val_possible1 a) (new := new_possible1 a) (cl_fr (cf_free0 h_a) cl_nil) (by simp only [spec_possible1, h_a, hok, Bool.and_self, if_true]) (rfl) (gcV_free rfl)
def ok_around (n : Int) (m : Int) : Bool := decide (inR n) && decide (0 < m)
def val_around (n : Int) (m : Int) : Value := .int .i64 (around n m)
def new_around (n : Int) (m : Int) : List (List Value) := []
def spec_around : Go.AM.Spec := fun us cs => match us, cs with
 | [.int .i64 n, .int .i64 m], [] => if ok_around n m then some (val_around n m, new_around n m) else none
 | _, _ => none
def c_around := flatC [.fr, .fr] spec_around
theorem around_m  {n : Int} {m : Int}  (hok : ok_around n m = true) : Meets Try.prog (.func 14) [.int .i64 n, .int .i64 m] (cheap []) (val_around n m) (rheap [] (new_around n m)) := by
 have hP := Fits
 have hC : CallSound Try.prog (tabOf []) := tab_sound tab_end
 simp only [ok_around, Bool.and_eq_true, decide_eq_true_eq] at hok
 obtain ⟨hn, hm⟩ := hok
 refine meets_start (sz := 13) hP Try.func14 rfl rfl zo (by simp only [Tr.ofList, roRows, Nat.zero_add, Nat.reduceAdd] <;> rfl) zl ?_
 refine k_seq ?_
 refine k_region hP hC ?_
 refine os (x_assign rfl (by rfl)) ?_
 refine o_done ?_
 refine e_seq ?_
 refine k_seq ?_
 refine k_seq ?_
 refine k_region hP hC ?_
 refine os (x_move rfl zt) ?_
 refine os (x_bin rfl zt (by rfl) b_lss) ?_
 refine o_done ?_
 refine e_seq ?_
 refine k_cond zt (fun g2 => ?_) (fun g2 => ?_)
 ·have p2 := g2; try simp only [d1, d2, d3, d4, d5, d6, d7, d8, d9] at p2
  refine k_region hP hC ?_
  refine os (x_move rfl zt) ?_
  refine os (x_bin rfl zt (by rfl) b_add) ?_
  refine os (x_neg rfl zt) ?_
  refine os (x_assign rfl zt) ?_
  refine o_done ?_
  refine e_seq ?_
  refine k_seq ?_
  refine k_region hP hC ?_
  refine os (x_move rfl zt) ?_
  refine os (x_move rfl zt) ?_
  refine os (x_bin rfl zt zt (b_rem (by first | decide | omega))) ?_
  refine os (x_assign rfl zt) ?_
  refine o_done ?_
  refine e_seq ?_
  refine k_ret ?_
  refine gives_mk (L := []) (slots := [4]) (w := 0) (.inr rfl) zr (gcVs_cons zh (gcV_free rfl) gcVs_nil) gcH_nil zr (by simp only [Try.results14, resA, cst, mkE, Tr.get_set, reduceIte, Nat.reduceEqDiff, Nat.reduceAdd] <;> rfl) ?_
  simp only [one, val_around]; congr 1; exact around_eq hn (by first | exact .inl ⟨by assumption, rfl⟩ | exact .inr ⟨by assumption, rfl⟩)
 ·have p2 := g2; try simp only [d1, d2, d3, d4, d5, d6, d7, d8, d9] at p2
  refine k_skip ?_
  refine e_seq ?_
  refine k_seq ?_
  refine k_region hP hC ?_
  refine os (x_move rfl zt) ?_
  refine os (x_move rfl zt) ?_
  refine os (x_bin rfl zt zt (b_rem (by first | decide | omega))) ?_
  refine os (x_assign rfl zt) ?_
  refine o_done ?_
  refine e_seq ?_
  refine k_ret ?_
  refine gives_mk (L := []) (slots := [4]) (w := 0) (.inr rfl) zr (gcVs_cons zh (gcV_free rfl) gcVs_nil) gcH_nil zr (by simp only [Try.results14, resA, cst, mkE, Tr.get_set, reduceIte, Nat.reduceEqDiff, Nat.reduceAdd] <;> rfl) ?_
  simp only [one, val_around]; congr 1; exact around_eq hn (by first | exact .inl ⟨by assumption, rfl⟩ | exact .inr ⟨by assumption, rfl⟩)
theorem con_around : Con Try.prog 14 c_around := con_flat Try.func14 rfl fun us cs v new h => by
 unfold spec_around at h
 split at h
 case h_2 => cases h
 rename_i n m
 split at h
 case isFalse => cases h
 rename_i hc
 try simp only [Bool.and_eq_true] at hc
 have hok := hc
 cases h
 have key := around_m  hok
 exact key
theorem around_c {H : AH}  {n : Int} {m : Int}  (hok : ok_around n m = true) : c_around [.int .i64 n, .int .i64 m] H = some (.int .i64 (around n m), H) := by
 exact flatC_at (v := val_around n m) (new := new_around n m) (cl_fr rfl (cl_fr rfl cl_nil)) (by simp only [spec_around, hok, Bool.and_self, if_true]) (rfl) (gcV_free rfl)
end Go.Proofs.Ytohhcnehcjpekaa
