/-
  Contracts of functions on lists of numbers.
-/
import Derived.Test.YtohhcnehcjpekaaJSc
namespace Go.Proofs.Ytohhcnehcjpekaa
open Go.AM
set_option maxRecDepth 100000
set_option maxHeartbeats 1000000
set_option linter.unusedSimpArgs false
set_option linter.unusedVariables false
def ok_in (l : List Int) (n : Int) : Bool := decide (l.length < 4611686018427387904)
def val_in (l : List Int) (n : Int) : Value := .bool (decide (n ∈ l))
def new_in (l : List Int) (n : Int) : List (List Value) := []
def spec_in : Go.AM.Spec := fun us cs => match us, cs with
 | [s_l, .int .i64 n], [c_l] => if slOk 0 1 c_l s_l && isInts c_l && ok_in (unints c_l) n then some (val_in (unints c_l) n, new_in (unints c_l) n) else none
 | _, _ => none
def c_in := flatC [.sl 1, .fr] spec_in
theorem in_m {s_l : Value} {l : List Int} {n : Int} (hs_l : Sl 0 1 l.length s_l) (hok : ok_in l n = true) : Meets Try.prog (.func 32) [s_l, .int .i64 n] (cheap [ints l]) (val_in l n) (rheap [ints l] (new_in l n)) := by
 have hP := Fits
 have hC : CallSound Try.prog (tabOf []) := tab_sound tab_end
 simp only [ok_in, Bool.and_eq_true, decide_eq_true_eq] at hok
 have hb := hok
 refine meets_start (sz := 18) hP Try.func32 rfl rfl zo (by simp only [Tr.ofList, roRows, Nat.zero_add, Nat.reduceAdd] <;> rfl) zl ?_
 refine k_seq ?_
 refine k_region hP hC ?_
 refine os (x_assign rfl (by rfl)) ?_
 refine o_done ?_
 refine e_seq ?_
 refine k_seq ?_
 refine k_seq ?_
 refine k_region hP hC ?_
 refine os (x_assign rfl (by rfl)) ?_
 refine o_done ?_
 refine e_seq ?_
 refine k_block ?_
 refine k_loop (α := Int) (fun i => cst 18 [0, 1, 5] [s_l, .int .i64 n, .int .i64 i] [.row (ints l) 0 BIG true (ints l).length] 1) (fun i => 0 ≤ i ∧ i ≤ l.length ∧ n ∉ l.take i.toNat) (fun i => (l.length - i).toNat) 0 (to_mk (L := [0]) (slots := [0, 1, 5]) (w := 1) zr (gcVs_cons zh (gcV_sl hs_l rfl) (gcVs_cons zh (gcV_free rfl) (gcVs_cons zh (gcV_free rfl) gcVs_nil))) (gcH_cons (gcO_old (by rfl) zh) gcH_nil) zr) ⟨by omega, by omega, by simp⟩ ?_
 rintro i ⟨h0, h1, h2⟩
 refine k_cst zm zo zl ?_
 refine k_seq ?_
 refine k_seq ?_
 refine k_region hP hC ?_
 refine os (x_move rfl zt) ?_
 refine os (x_move rfl zt) ?_
 refine os (x_lenS hs_l rfl rfl zv rfl Try.underlying22) ?_
 refine os (x_bin rfl zt zt b_lss) ?_
 refine o_done ?_
 refine e_seq ?_
 refine k_cond zt (fun g2 => ?_) (fun g2 => ?_)
 ·have p2 := g2; try simp only [d1, d2, d3, d4, d5, d6, d7, d8, d9] at p2
  refine k_skip ?_
  refine e_seq ?_
  refine k_seq ?_
  refine k_block ?_
  refine k_seq ?_
  refine k_region hP hC ?_
  refine os (x_move rfl zt) ?_
  refine os (x_move rfl zt) ?_
  refine os (x_indexS hs_l rfl zt zt Try.underlying22 T.s3 ow ow) ?_
  refine os (x_load1 rfl zt T.g3 (by first | exact l_ints (whole_row zh rfl) ow ow | exact l_partI0 (whole_row zh rfl) zs rfl ow ow rfl)) ?_
  refine os (x_move rfl zt) ?_
  refine os (x_bin rfl zt zt b_eql) ?_
  refine o_done ?_
  refine e_seq ?_
  refine k_cond (by simp only [Tr.get_set, reduceIte, Nat.reduceEqDiff, Nat.reduceAdd, ev_tmp, g2] <;> rfl) (fun g4 => ?_) (fun g4 => ?_)
  ·have p4 := g4; try simp only [d1, d2, d3, d4, d5, d6, d7, d8, d9] at p4
   refine k_seq ?_
   refine k_region hP hC ?_
   refine os (x_assign rfl (by rfl)) ?_
   refine o_done ?_
   refine e_seq ?_
   refine k_ret ?_
   refine e_block_ret ?_
   refine e_seq_ret ?_
   refine e_loop_ret ?_
   refine e_block_ret ?_
   refine e_seq_ret ?_
   refine gives_mk (L := [0]) (slots := [4]) (w := 1) (.inr rfl) zr (gcVs_cons zh (gcV_free rfl) gcVs_nil) (gcH_cons (gcO_old (by rfl) zh) gcH_nil) zr (by simp only [Try.results32, resA, cst, mkE, Tr.get_set, reduceIte, Nat.reduceEqDiff, Nat.reduceAdd] <;> rfl) ?_
   simp only [one, val_in]; first | rw [decide_eq_true (in_here ow ow zs)] | (rw [take_end ow] at h2; rw [decide_eq_false h2])
  ·have p4 := g4; try simp only [d1, d2, d3, d4, d5, d6, d7, d8, d9] at p4
   refine k_skip ?_
   refine e_block ?_
   refine e_seq ?_
   refine k_region hP hC ?_
   refine os (x_move rfl zt) ?_
   refine os (x_bin rfl zt (by rfl) b_add) ?_
   refine os (x_assign rfl zt) ?_
   refine o_done ?_
   refine e_loop ?_
   refine ⟨IntKind.i64.wrap (i + 1), (to_mk (L := [0]) (slots := [0, 1, 5]) (w := 1) zr (gcVs_cons zh (gcV_sl hs_l rfl) (gcVs_cons zh (gcV_free rfl) (gcVs_cons zh (gcV_free rfl) gcVs_nil))) (gcH_cons (gcO_old (by rfl) zh) gcH_nil) zr), ?_, ?_⟩
   ·rw [wr1 ow ow]; exact ⟨by omega, by omega, in_next ow ow h2 zs⟩
   ·rw [wr1 ow ow]; omega
 ·have p2 := g2; try simp only [d1, d2, d3, d4, d5, d6, d7, d8, d9] at p2
  refine k_exit ?_
  refine e_seq_exit ?_
  refine e_loop_exit ?_
  refine e_block_eq ?_
  refine e_seq ?_
  refine k_seq ?_
  refine k_region hP hC ?_
  refine os (x_assign rfl (by rfl)) ?_
  refine o_done ?_
  refine e_seq ?_
  refine k_ret ?_
  refine gives_mk (L := [0]) (slots := [4]) (w := 1) (.inr rfl) zr (gcVs_cons zh (gcV_free rfl) gcVs_nil) (gcH_cons (gcO_old (by rfl) zh) gcH_nil) zr (by simp only [Try.results32, resA, cst, mkE, Tr.get_set, reduceIte, Nat.reduceEqDiff, Nat.reduceAdd] <;> rfl) ?_
  simp only [one, val_in]; first | rw [decide_eq_true (in_here ow ow zs)] | (rw [take_end ow] at h2; rw [decide_eq_false h2])
theorem con_in : Con Try.prog 32 c_in := con_flat Try.func32 rfl fun us cs v new h => by
 unfold spec_in at h
 split at h
 case h_2 => cases h
 rename_i s_l n c_l
 split at h
 case isFalse => cases h
 rename_i hc
 try simp only [Bool.and_eq_true] at hc
 obtain ⟨⟨q_l, r_l⟩, hok⟩ := hc
 cases h
 have e_l := ints_unints r_l
 have hs_l := slOk_sl (n := (unints c_l).length) q_l zd (by rw [← ints_len, e_l, Nat.mul_one])
 have key := in_m hs_l hok
 have hrows : [ints (unints c_l)] = [c_l] := by rw [e_l]
 rw [← hrows]
 exact key
theorem in_c {H : AH} {s_l : Value} {l : List Int} {n : Int} (hr_l : Rd H 1 s_l l.length (ints l)) (hok : ok_in l n = true) : c_in [s_l, .int .i64 n] H = some (.bool (decide (n ∈ l)), H) := by
 obtain ⟨u_l, a_l, b_l⟩ := hr_l 0
 exact flatC_at (v := val_in l n) (new := new_in l n) (cl_sl a_l (cl_fr rfl cl_nil)) (by simp only [spec_in, sl_slOk b_l (by rw [ints_len, Nat.mul_one]), isInts_ints, unints_ints, hok, Bool.and_self, if_true]) (rfl) (gcV_free rfl)
def ok_index (l : List Int) (n : Int) : Bool := decide (l.length < 4611686018427387904)
def val_index (l : List Int) (n : Int) : Value := .int .i64 (idx l n)
def new_index (l : List Int) (n : Int) : List (List Value) := []
def spec_index : Go.AM.Spec := fun us cs => match us, cs with
 | [s_l, .int .i64 n], [c_l] => if slOk 0 1 c_l s_l && isInts c_l && ok_index (unints c_l) n then some (val_index (unints c_l) n, new_index (unints c_l) n) else none
 | _, _ => none
def c_index := flatC [.sl 1, .fr] spec_index
theorem index_m {s_l : Value} {l : List Int} {n : Int} (hs_l : Sl 0 1 l.length s_l) (hok : ok_index l n = true) : Meets Try.prog (.func 55) [s_l, .int .i64 n] (cheap [ints l]) (val_index l n) (rheap [ints l] (new_index l n)) := by
 have hP := Fits
 have hC : CallSound Try.prog (tabOf []) := tab_sound tab_end
 simp only [ok_index, Bool.and_eq_true, decide_eq_true_eq] at hok
 have hb := hok
 refine meets_start (sz := 19) hP Try.func55 rfl rfl zo (by simp only [Tr.ofList, roRows, Nat.zero_add, Nat.reduceAdd] <;> rfl) zl ?_
 refine k_seq ?_
 refine k_region hP hC ?_
 refine os (x_assign rfl (by rfl)) ?_
 refine o_done ?_
 refine e_seq ?_
 refine k_seq ?_
 refine k_seq ?_
 refine k_region hP hC ?_
 refine os (x_move rfl zt) ?_
 refine os (x_lenS hs_l rfl rfl zv rfl Try.underlying22) ?_
 refine os (x_move rfl (by rfl)) ?_
 refine o_done ?_
 refine e_seq ?_
 refine k_block ?_
 refine k_loop (α := Int) (fun i => cst 19 [0, 1, 7, 8] [s_l, .int .i64 n, .int .i64 l.length, .int .i64 i] [.row (ints l) 0 BIG true (ints l).length] 1) (fun i => 0 ≤ i ∧ i ≤ l.length ∧ n ∉ l.take i.toNat) (fun i => (l.length - i).toNat) 0 (to_mk (L := [0]) (slots := [0, 1, 7, 8]) (w := 1) zr (gcVs_cons zh (gcV_sl hs_l rfl) (gcVs_cons zh (gcV_free rfl) (gcVs_cons zh (gcV_free rfl) (gcVs_cons zh (gcV_free rfl) gcVs_nil)))) (gcH_cons (gcO_old (by rfl) zh) gcH_nil) zr) ⟨by omega, by omega, by simp⟩ ?_
 rintro i ⟨h0, h1, h2⟩
 refine k_cst zm zo zl ?_
 refine k_seq ?_
 refine k_region hP hC ?_
 refine os (x_bin rfl zt zt b_lss) ?_
 refine o_done ?_
 refine e_seq ?_
 refine k_seq ?_
 refine k_cond zt (fun g2 => ?_) (fun g2 => ?_)
 ·have p2 := g2; try simp only [d1, d2, d3, d4, d5, d6, d7, d8, d9] at p2
  refine k_skip ?_
  refine e_seq ?_
  refine k_seq ?_
  refine k_block ?_
  refine k_seq ?_
  refine k_region hP hC ?_
  refine os (x_move rfl zt) ?_
  refine os (x_assign rfl zt) ?_
  refine o_done ?_
  refine e_seq ?_
  refine k_seq ?_
  refine k_region hP hC ?_
  refine os (x_move rfl zt) ?_
  refine os (x_move rfl zt) ?_
  refine os (x_move rfl zt) ?_
  refine os (x_indexS hs_l rfl zt zt Try.underlying22 T.s3 ow ow) ?_
  refine os (x_load1 rfl zt T.g3 (by first | exact l_ints (whole_row zh rfl) ow ow | exact l_partI0 (whole_row zh rfl) zs rfl ow ow rfl)) ?_
  refine os (x_bin rfl zt zt b_eql) ?_
  refine o_done ?_
  refine e_seq ?_
  refine k_cond (by simp only [Tr.get_set, reduceIte, Nat.reduceEqDiff, Nat.reduceAdd, ev_tmp, g2] <;> rfl) (fun g4 => ?_) (fun g4 => ?_)
  ·have p4 := g4; try simp only [d1, d2, d3, d4, d5, d6, d7, d8, d9] at p4
   refine k_seq ?_
   refine k_region hP hC ?_
   refine os (x_move rfl zt) ?_
   refine os (x_assign rfl zt) ?_
   refine o_done ?_
   refine e_seq ?_
   refine k_ret ?_
   refine e_block_ret ?_
   refine e_seq_ret ?_
   refine e_loop_ret ?_
   refine e_block_ret ?_
   refine e_seq_ret ?_
   refine gives_mk (L := [0]) (slots := [4]) (w := 1) (.inr rfl) zr (gcVs_cons zh (gcV_free rfl) gcVs_nil) (gcH_cons (gcO_old (by rfl) zh) gcH_nil) zr (by simp only [Try.results55, resA, cst, mkE, Tr.get_set, reduceIte, Nat.reduceEqDiff, Nat.reduceAdd] <;> rfl) ?_
   simp only [one, val_index]; first | rw [idx_here h0 ow h2 (Eq.symm zs)] | (rw [take_end ow] at h2; rw [idx_none h2])
  ·have p4 := g4; try simp only [d1, d2, d3, d4, d5, d6, d7, d8, d9] at p4
   refine k_skip ?_
   refine e_block ?_
   refine e_seq ?_
   refine k_region hP hC ?_
   refine os (x_bin rfl zt (by rfl) b_add) ?_
   refine os (x_move rfl zt) ?_
   refine o_done ?_
   refine e_loop ?_
   refine ⟨IntKind.i64.wrap (i + 1), (to_mk (L := [0]) (slots := [0, 1, 7, 8]) (w := 1) zr (gcVs_cons zh (gcV_sl hs_l rfl) (gcVs_cons zh (gcV_free rfl) (gcVs_cons zh (gcV_free rfl) (gcVs_cons zh (gcV_free rfl) gcVs_nil)))) (gcH_cons (gcO_old (by rfl) zh) gcH_nil) zr), ?_, ?_⟩
   ·rw [wr1 ow ow]; exact ⟨by omega, by omega, in_next ow ow h2 (Ne.symm zs)⟩
   ·rw [wr1 ow ow]; omega
 ·have p2 := g2; try simp only [d1, d2, d3, d4, d5, d6, d7, d8, d9] at p2
  refine k_exit ?_
  refine e_seq_exit ?_
  refine e_loop_exit ?_
  refine e_block_eq ?_
  refine e_seq ?_
  refine k_seq ?_
  refine k_region hP hC ?_
  refine os (x_assign rfl (by rfl)) ?_
  refine o_done ?_
  refine e_seq ?_
  refine k_ret ?_
  refine gives_mk (L := [0]) (slots := [4]) (w := 1) (.inr rfl) zr (gcVs_cons zh (gcV_free rfl) gcVs_nil) (gcH_cons (gcO_old (by rfl) zh) gcH_nil) zr (by simp only [Try.results55, resA, cst, mkE, Tr.get_set, reduceIte, Nat.reduceEqDiff, Nat.reduceAdd] <;> rfl) ?_
  simp only [one, val_index]; first | rw [idx_here h0 ow h2 (Eq.symm zs)] | (rw [take_end ow] at h2; rw [idx_none h2])
theorem con_index : Con Try.prog 55 c_index := con_flat Try.func55 rfl fun us cs v new h => by
 unfold spec_index at h
 split at h
 case h_2 => cases h
 rename_i s_l n c_l
 split at h
 case isFalse => cases h
 rename_i hc
 try simp only [Bool.and_eq_true] at hc
 obtain ⟨⟨q_l, r_l⟩, hok⟩ := hc
 cases h
 have e_l := ints_unints r_l
 have hs_l := slOk_sl (n := (unints c_l).length) q_l zd (by rw [← ints_len, e_l, Nat.mul_one])
 have key := index_m hs_l hok
 have hrows : [ints (unints c_l)] = [c_l] := by rw [e_l]
 rw [← hrows]
 exact key
theorem index_c {H : AH} {s_l : Value} {l : List Int} {n : Int} (hr_l : Rd H 1 s_l l.length (ints l)) (hok : ok_index l n = true) : c_index [s_l, .int .i64 n] H = some (.int .i64 (idx l n), H) := by
 obtain ⟨u_l, a_l, b_l⟩ := hr_l 0
 exact flatC_at (v := val_index l n) (new := new_index l n) (cl_sl a_l (cl_fr rfl cl_nil)) (by simp only [spec_index, sl_slOk b_l (by rw [ints_len, Nat.mul_one]), isInts_ints, unints_ints, hok, Bool.and_self, if_true]) (rfl) (gcV_free rfl)
def ok_contains (l : List Int) (n : Int) : Bool := decide (l.length < 4611686018427387904)
def val_contains (l : List Int) (n : Int) : Value := .bool (decide (n ∈ l))
def new_contains (l : List Int) (n : Int) : List (List Value) := []
def spec_contains : Go.AM.Spec := fun us cs => match us, cs with
 | [s_l, .int .i64 n], [c_l] => if slOk 0 1 c_l s_l && isInts c_l && ok_contains (unints c_l) n then some (val_contains (unints c_l) n, new_contains (unints c_l) n) else none
 | _, _ => none
def c_contains := flatC [.sl 1, .fr] spec_contains
theorem contains_m {s_l : Value} {l : List Int} {n : Int} (hs_l : Sl 0 1 l.length s_l) (hok : ok_contains l n = true) : Meets Try.prog (.func 47) [s_l, .int .i64 n] (cheap [ints l]) (val_contains l n) (rheap [ints l] (new_contains l n)) := by
 have hP := Fits
 have hC : CallSound Try.prog (tabOf [(55, c_index)]) := tab_sound (tab_cons con_index tab_end)
 simp only [ok_contains, Bool.and_eq_true, decide_eq_true_eq] at hok
 have hb := hok
 refine meets_start (sz := 9) hP Try.func47 rfl rfl zo (by simp only [Tr.ofList, roRows, Nat.zero_add, Nat.reduceAdd] <;> rfl) zl ?_
 refine k_seq ?_
 refine k_region hP hC ?_
 refine os (x_assign rfl (by rfl)) ?_
 refine o_done ?_
 refine e_seq ?_
 refine k_seq ?_
 refine k_region hP hC ?_
 refine os (x_move rfl zt) ?_
 refine os (x_move rfl zt) ?_
 refine o_call0 (wA_none rfl) rfl rfl rfl zv zd ?_
 refine ⟨_, _, (tab_hit.trans (index_c (rd_sl hs_l zd (whole_row zh rfl) (by rw [ints_len, Nat.mul_one]) (ints_free0 _)) (by rw [ok_index, decide_eq_true hb]))), ?_⟩
 refine os (x_bin rfl zt (by rfl) b_geq) ?_
 refine os (x_assign rfl zt) ?_
 refine o_done ?_
 refine e_seq ?_
 refine k_ret ?_
 refine gives_mk (L := [0]) (slots := [4]) (w := 1) (.inr rfl) zr (gcVs_cons zh (gcV_free rfl) gcVs_nil) (gcH_cons (gcO_old (by rfl) zh) gcH_nil) zr (by simp only [Try.results47, resA, cst, mkE, Tr.get_set, reduceIte, Nat.reduceEqDiff, Nat.reduceAdd] <;> rfl) ?_
 simp only [one, val_contains]; rw [idx_geq]
theorem con_contains : Con Try.prog 47 c_contains := con_flat Try.func47 rfl fun us cs v new h => by
 unfold spec_contains at h
 split at h
 case h_2 => cases h
 rename_i s_l n c_l
 split at h
 case isFalse => cases h
 rename_i hc
 try simp only [Bool.and_eq_true] at hc
 obtain ⟨⟨q_l, r_l⟩, hok⟩ := hc
 cases h
 have e_l := ints_unints r_l
 have hs_l := slOk_sl (n := (unints c_l).length) q_l zd (by rw [← ints_len, e_l, Nat.mul_one])
 have key := contains_m hs_l hok
 have hrows : [ints (unints c_l)] = [c_l] := by rw [e_l]
 rw [← hrows]
 exact key
theorem contains_c {H : AH} {s_l : Value} {l : List Int} {n : Int} (hr_l : Rd H 1 s_l l.length (ints l)) (hok : ok_contains l n = true) : c_contains [s_l, .int .i64 n] H = some (.bool (decide (n ∈ l)), H) := by
 obtain ⟨u_l, a_l, b_l⟩ := hr_l 0
 exact flatC_at (v := val_contains l n) (new := new_contains l n) (cl_sl a_l (cl_fr rfl cl_nil)) (by simp only [spec_contains, sl_slOk b_l (by rw [ints_len, Nat.mul_one]), isInts_ints, unints_ints, hok, Bool.and_self, if_true]) (rfl) (gcV_free rfl)
def ok_equal (l : List Int) (m : List Int) : Bool := decide (l.length < 4611686018427387904)
def val_equal (l : List Int) (m : List Int) : Value := .bool (decide (l = m))
def new_equal (l : List Int) (m : List Int) : List (List Value) := []
def spec_equal : Go.AM.Spec := fun us cs => match us, cs with
 | [s_l, s_m], [c_l, c_m] => if slOk 0 1 c_l s_l && isInts c_l && slOk 1 1 c_m s_m && isInts c_m && ok_equal (unints c_l) (unints c_m) then some (val_equal (unints c_l) (unints c_m), new_equal (unints c_l) (unints c_m)) else none
 | _, _ => none
def c_equal := flatC [.sl 1, .sl 1] spec_equal
theorem equal_m {s_l : Value} {s_m : Value} {l : List Int} {m : List Int} (hs_l : Sl 0 1 l.length s_l) (hs_m : Sl 1 1 m.length s_m) (hok : ok_equal l m = true) : Meets Try.prog (.func 46) [s_l, s_m] (cheap [ints l, ints m]) (val_equal l m) (rheap [ints l, ints m] (new_equal l m)) := by
 have hP := Fits
 have hC : CallSound Try.prog (tabOf []) := tab_sound tab_end
 simp only [ok_equal, Bool.and_eq_true, decide_eq_true_eq] at hok
 have hb := hok
 refine meets_start (sz := 26) hP Try.func46 rfl rfl zo (by simp only [Tr.ofList, roRows, Nat.zero_add, Nat.reduceAdd] <;> rfl) zl ?_
 refine k_seq ?_
 refine k_region hP hC ?_
 refine os (x_assign rfl (by rfl)) ?_
 refine o_done ?_
 refine e_seq ?_
 refine k_seq ?_
 refine k_seq ?_
 refine k_region hP hC ?_
 refine os (x_move rfl zt) ?_
 refine os (x_lenS hs_l rfl rfl zv rfl Try.underlying22) ?_
 refine os (x_move rfl zt) ?_
 refine os (x_lenS hs_m rfl rfl zv rfl Try.underlying22) ?_
 refine os (x_bin rfl zt zt b_neq) ?_
 refine o_done ?_
 refine e_seq ?_
 refine k_cond zt (fun g2 => ?_) (fun g2 => ?_)
 ·have p2 := g2; try simp only [d1, d2, d3, d4, d5, d6, d7, d8, d9] at p2
  refine k_seq ?_
  refine k_region hP hC ?_
  refine os (x_assign rfl (by rfl)) ?_
  refine o_done ?_
  refine e_seq ?_
  refine k_ret ?_
  refine e_seq_ret ?_
  refine gives_mk (L := [0, 1]) (slots := [4]) (w := 2) (.inr rfl) zr (gcVs_cons zh (gcV_free rfl) gcVs_nil) (gcH_cons (gcO_old (by rfl) zh) (gcH_cons (gcO_old (by rfl) zh) gcH_nil)) zr (by simp only [Try.results46, resA, cst, mkE, Tr.get_set, reduceIte, Nat.reduceEqDiff, Nat.reduceAdd] <;> rfl) ?_
  simp only [one, val_equal]; first | rw [eq_len zs] | rw [eq_end zs ow h2] | rw [eq_diff zs]
 ·have p2 := g2; try simp only [d1, d2, d3, d4, d5, d6, d7, d8, d9] at p2
  refine k_skip ?_
  refine e_seq ?_
  refine k_seq ?_
  refine k_seq ?_
  refine k_region hP hC ?_
  refine os (x_move rfl zt) ?_
  refine os (x_lenS hs_l rfl rfl zv rfl Try.underlying22) ?_
  refine os (x_move rfl (by rfl)) ?_
  refine o_done ?_
  refine e_seq ?_
  refine k_block ?_
  refine k_loop (α := Int) (fun i => cst 26 [0, 1, 12, 13] [s_l, s_m, .int .i64 l.length, .int .i64 i] [.row (ints l) 0 BIG true (ints l).length, .row (ints m) 1 BIG true (ints m).length] 2) (fun i => 0 ≤ i ∧ i ≤ l.length ∧ l.take i.toNat = m.take i.toNat) (fun i => (l.length - i).toNat) 0 (to_mk (L := [0, 1]) (slots := [0, 1, 12, 13]) (w := 2) zr (gcVs_cons zh (gcV_sl hs_l rfl) (gcVs_cons zh (gcV_sl hs_m rfl) (gcVs_cons zh (gcV_free rfl) (gcVs_cons zh (gcV_free rfl) gcVs_nil)))) (gcH_cons (gcO_old (by rfl) zh) (gcH_cons (gcO_old (by rfl) zh) gcH_nil)) zr) ⟨by omega, by omega, by simp⟩ ?_
  rintro i ⟨h0, h1, h2⟩
  refine k_cst zm zo zl ?_
  refine k_seq ?_
  refine k_region hP hC ?_
  refine os (x_bin rfl zt zt b_lss) ?_
  refine o_done ?_
  refine e_seq ?_
  refine k_seq ?_
  refine k_cond zt (fun g4 => ?_) (fun g4 => ?_)
  ·have p4 := g4; try simp only [d1, d2, d3, d4, d5, d6, d7, d8, d9] at p4
   refine k_skip ?_
   refine e_seq ?_
   refine k_seq ?_
   refine k_block ?_
   refine k_seq ?_
   refine k_region hP hC ?_
   refine os (x_move rfl zt) ?_
   refine os (x_assign rfl zt) ?_
   refine o_done ?_
   refine e_seq ?_
   refine k_seq ?_
   refine k_draw hP hC zr ?_
   refine ds (x_move rfl zt) ?_
   refine ds (x_move rfl zt) ?_
   refine ds (x_indexS hs_l rfl zt zt Try.underlying22 T.s3 ow ow) ?_
   refine ds (x_load1 rfl zt T.g3 (by first | exact l_ints (whole_row zh rfl) ow ow | exact l_partI0 (whole_row zh rfl) zs rfl ow ow rfl)) ?_
   refine ds (x_move rfl zt) ?_
   refine ds (x_move rfl zt) ?_
   refine ds (x_indexS hs_m rfl zt zt Try.underlying22 T.s3 ow ow) ?_
   refine ds (x_load1 rfl zt T.g3 (by first | exact l_ints (whole_row zh rfl) ow ow | exact l_partI0 (whole_row zh rfl) zs rfl ow ow rfl)) ?_
   refine ds (x_bin rfl zt zt b_neq) ?_
   refine d_done ⟨by kernel_rfl, ?_⟩
   refine e_seq ?_
   refine k_cond (by simp only [Tr.get_set, reduceIte, Nat.reduceEqDiff, Nat.reduceAdd, ev_tmp, g4] <;> rfl) (fun g6 => ?_) (fun g6 => ?_)
   ·have p6 := g6; try simp only [d1, d2, d3, d4, d5, d6, d7, d8, d9] at p6
    refine k_seq ?_
    refine k_region hP hC ?_
    refine os (x_assign rfl (by rfl)) ?_
    refine o_done ?_
    refine e_seq ?_
    refine k_ret ?_
    refine e_block_ret ?_
    refine e_seq_ret ?_
    refine e_loop_ret ?_
    refine e_block_ret ?_
    refine e_seq_ret ?_
    refine gives_mk (L := [0, 1]) (slots := [4]) (w := 2) (.inr rfl) zr (gcVs_cons zh (gcV_free rfl) gcVs_nil) (gcH_cons (gcO_old (by rfl) zh) (gcH_cons (gcO_old (by rfl) zh) gcH_nil)) zr (by simp only [Try.results46, resA, cst, mkE, Tr.get_set, reduceIte, Nat.reduceEqDiff, Nat.reduceAdd] <;> rfl) ?_
    simp only [one, val_equal]; first | rw [eq_len zs] | rw [eq_end zs ow h2] | rw [eq_diff zs]
   ·have p6 := g6; try simp only [d1, d2, d3, d4, d5, d6, d7, d8, d9] at p6
    refine k_skip ?_
    refine e_block ?_
    refine e_seq ?_
    refine k_region hP hC ?_
    refine os (x_bin rfl zt (by rfl) b_add) ?_
    refine os (x_move rfl zt) ?_
    refine o_done ?_
    refine e_loop ?_
    refine ⟨IntKind.i64.wrap (i + 1), (to_mk (L := [0, 1]) (slots := [0, 1, 12, 13]) (w := 2) zr (gcVs_cons zh (gcV_sl hs_l rfl) (gcVs_cons zh (gcV_sl hs_m rfl) (gcVs_cons zh (gcV_free rfl) (gcVs_cons zh (gcV_free rfl) gcVs_nil)))) (gcH_cons (gcO_old (by rfl) zh) (gcH_cons (gcO_old (by rfl) zh) gcH_nil)) zr), ?_, ?_⟩
    ·rw [wr1 ow ow]; exact ⟨by omega, by omega, eq_next zs ow ow h2 zs⟩
    ·rw [wr1 ow ow]; omega
  ·have p4 := g4; try simp only [d1, d2, d3, d4, d5, d6, d7, d8, d9] at p4
   refine k_exit ?_
   refine e_seq_exit ?_
   refine e_loop_exit ?_
   refine e_block_eq ?_
   refine e_seq ?_
   refine k_seq ?_
   refine k_region hP hC ?_
   refine os (x_assign rfl (by rfl)) ?_
   refine o_done ?_
   refine e_seq ?_
   refine k_ret ?_
   refine gives_mk (L := [0, 1]) (slots := [4]) (w := 2) (.inr rfl) zr (gcVs_cons zh (gcV_free rfl) gcVs_nil) (gcH_cons (gcO_old (by rfl) zh) (gcH_cons (gcO_old (by rfl) zh) gcH_nil)) zr (by simp only [Try.results46, resA, cst, mkE, Tr.get_set, reduceIte, Nat.reduceEqDiff, Nat.reduceAdd] <;> rfl) ?_
   simp only [one, val_equal]; first | rw [eq_len zs] | rw [eq_end zs ow h2] | rw [eq_diff zs]
theorem con_equal : Con Try.prog 46 c_equal := con_flat Try.func46 rfl fun us cs v new h => by
 unfold spec_equal at h
 split at h
 case h_2 => cases h
 rename_i s_l s_m c_l c_m
 split at h
 case isFalse => cases h
 rename_i hc
 try simp only [Bool.and_eq_true] at hc
 obtain ⟨⟨⟨⟨q_l, r_l⟩, q_m⟩, r_m⟩, hok⟩ := hc
 cases h
 have e_l := ints_unints r_l
 have hs_l := slOk_sl (n := (unints c_l).length) q_l zd (by rw [← ints_len, e_l, Nat.mul_one])
 have e_m := ints_unints r_m
 have hs_m := slOk_sl (n := (unints c_m).length) q_m zd (by rw [← ints_len, e_m, Nat.mul_one])
 have key := equal_m hs_l hs_m hok
 have hrows : [ints (unints c_l), ints (unints c_m)] = [c_l, c_m] := by rw [e_l, e_m]
 rw [← hrows]
 exact key
theorem equal_c {H : AH} {s_l : Value} {s_m : Value} {l : List Int} {m : List Int} (hr_l : Rd H 1 s_l l.length (ints l)) (hr_m : Rd H 1 s_m m.length (ints m)) (hok : ok_equal l m = true) : c_equal [s_l, s_m] H = some (.bool (decide (l = m)), H) := by
 obtain ⟨u_l, a_l, b_l⟩ := hr_l 0
 obtain ⟨u_m, a_m, b_m⟩ := hr_m 1
 exact flatC_at (v := val_equal l m) (new := new_equal l m) (cl_sl a_l (cl_sl a_m cl_nil)) (by simp only [spec_equal, sl_slOk b_l (by rw [ints_len, Nat.mul_one]), isInts_ints, unints_ints, sl_slOk b_m (by rw [ints_len, Nat.mul_one]), hok, Bool.and_self, if_true]) (rfl) (gcV_free rfl)
def ok_same01 (l : List Int) (m : List Int) : Bool := decide (l.length < 4611686018427387904)
def val_same01 (l : List Int) (m : List Int) : Value := .bool (decide (l = m))
def new_same01 (l : List Int) (m : List Int) : List (List Value) := []
def spec_same01 : Go.AM.Spec := fun us cs => match us, cs with
 | [s_l, s_m], [c_l, c_m] => if slOk 0 1 c_l s_l && isInts c_l && slOk 1 1 c_m s_m && isInts c_m && ok_same01 (unints c_l) (unints c_m) then some (val_same01 (unints c_l) (unints c_m), new_same01 (unints c_l) (unints c_m)) else none
 | _, _ => none
def c_same01 := flatC [.sl 1, .sl 1] spec_same01
theorem same01_m {s_l : Value} {s_m : Value} {l : List Int} {m : List Int} (hs_l : Sl 0 1 l.length s_l) (hs_m : Sl 1 1 m.length s_m) (hok : ok_same01 l m = true) : Meets Try.prog (.func 20) [s_l, s_m] (cheap [ints l, ints m]) (val_same01 l m) (rheap [ints l, ints m] (new_same01 l m)) := by
 have hP := Fits
 have hC : CallSound Try.prog (tabOf []) := tab_sound tab_end
 simp only [ok_same01, Bool.and_eq_true, decide_eq_true_eq] at hok
 have hb := hok
 refine meets_start (sz := 26) hP Try.func20 rfl rfl zo (by simp only [Tr.ofList, roRows, Nat.zero_add, Nat.reduceAdd] <;> rfl) zl ?_
 refine k_seq ?_
 refine k_region hP hC ?_
 refine os (x_assign rfl (by rfl)) ?_
 refine o_done ?_
 refine e_seq ?_
 refine k_seq ?_
 refine k_seq ?_
 refine k_region hP hC ?_
 refine os (x_move rfl zt) ?_
 refine os (x_lenS hs_l rfl rfl zv rfl Try.underlying22) ?_
 refine os (x_move rfl zt) ?_
 refine os (x_lenS hs_m rfl rfl zv rfl Try.underlying22) ?_
 refine os (x_bin rfl zt zt b_neq) ?_
 refine o_done ?_
 refine e_seq ?_
 refine k_cond zt (fun g2 => ?_) (fun g2 => ?_)
 ·have p2 := g2; try simp only [d1, d2, d3, d4, d5, d6, d7, d8, d9] at p2
  refine k_seq ?_
  refine k_region hP hC ?_
  refine os (x_assign rfl (by rfl)) ?_
  refine o_done ?_
  refine e_seq ?_
  refine k_ret ?_
  refine e_seq_ret ?_
  refine gives_mk (L := [0, 1]) (slots := [4]) (w := 2) (.inr rfl) zr (gcVs_cons zh (gcV_free rfl) gcVs_nil) (gcH_cons (gcO_old (by rfl) zh) (gcH_cons (gcO_old (by rfl) zh) gcH_nil)) zr (by simp only [Try.results20, resA, cst, mkE, Tr.get_set, reduceIte, Nat.reduceEqDiff, Nat.reduceAdd] <;> rfl) ?_
  simp only [one, val_same01]; first | rw [eq_len zs] | rw [eq_end zs ow h2] | rw [eq_diff zs]
 ·have p2 := g2; try simp only [d1, d2, d3, d4, d5, d6, d7, d8, d9] at p2
  refine k_skip ?_
  refine e_seq ?_
  refine k_seq ?_
  refine k_seq ?_
  refine k_region hP hC ?_
  refine os (x_assign rfl (by rfl)) ?_
  refine o_done ?_
  refine e_seq ?_
  refine k_block ?_
  refine k_loop (α := Int) (fun i => cst 26 [0, 1, 5] [s_l, s_m, .int .i64 i] [.row (ints l) 0 BIG true (ints l).length, .row (ints m) 1 BIG true (ints m).length] 2) (fun i => 0 ≤ i ∧ i ≤ l.length ∧ l.take i.toNat = m.take i.toNat) (fun i => (l.length - i).toNat) 0 (to_mk (L := [0, 1]) (slots := [0, 1, 5]) (w := 2) zr (gcVs_cons zh (gcV_sl hs_l rfl) (gcVs_cons zh (gcV_sl hs_m rfl) (gcVs_cons zh (gcV_free rfl) gcVs_nil))) (gcH_cons (gcO_old (by rfl) zh) (gcH_cons (gcO_old (by rfl) zh) gcH_nil)) zr) ⟨by omega, by omega, by simp⟩ ?_
  rintro i ⟨h0, h1, h2⟩
  refine k_cst zm zo zl ?_
  refine k_seq ?_
  refine k_seq ?_
  refine k_region hP hC ?_
  refine os (x_move rfl zt) ?_
  refine os (x_move rfl zt) ?_
  refine os (x_lenS hs_l rfl rfl zv rfl Try.underlying22) ?_
  refine os (x_bin rfl zt zt b_lss) ?_
  refine o_done ?_
  refine e_seq ?_
  refine k_cond zt (fun g4 => ?_) (fun g4 => ?_)
  ·have p4 := g4; try simp only [d1, d2, d3, d4, d5, d6, d7, d8, d9] at p4
   refine k_skip ?_
   refine e_seq ?_
   refine k_seq ?_
   refine k_block ?_
   refine k_seq ?_
   refine k_draw hP hC zr ?_
   refine ds (x_move rfl zt) ?_
   refine ds (x_move rfl zt) ?_
   refine ds (x_indexS hs_l rfl zt zt Try.underlying22 T.s3 ow ow) ?_
   refine ds (x_load1 rfl zt T.g3 (by first | exact l_ints (whole_row zh rfl) ow ow | exact l_partI0 (whole_row zh rfl) zs rfl ow ow rfl)) ?_
   refine ds (x_move rfl zt) ?_
   refine ds (x_move rfl zt) ?_
   refine ds (x_indexS hs_m rfl zt zt Try.underlying22 T.s3 ow ow) ?_
   refine ds (x_load1 rfl zt T.g3 (by first | exact l_ints (whole_row zh rfl) ow ow | exact l_partI0 (whole_row zh rfl) zs rfl ow ow rfl)) ?_
   refine ds (x_bin rfl zt zt b_neq) ?_
   refine d_done ⟨by kernel_rfl, ?_⟩
   refine e_seq ?_
   refine k_cond (by simp only [Tr.get_set, reduceIte, Nat.reduceEqDiff, Nat.reduceAdd, ev_tmp, g4] <;> rfl) (fun g6 => ?_) (fun g6 => ?_)
   ·have p6 := g6; try simp only [d1, d2, d3, d4, d5, d6, d7, d8, d9] at p6
    refine k_seq ?_
    refine k_region hP hC ?_
    refine os (x_assign rfl (by rfl)) ?_
    refine o_done ?_
    refine e_seq ?_
    refine k_ret ?_
    refine e_block_ret ?_
    refine e_seq_ret ?_
    refine e_loop_ret ?_
    refine e_block_ret ?_
    refine e_seq_ret ?_
    refine gives_mk (L := [0, 1]) (slots := [4]) (w := 2) (.inr rfl) zr (gcVs_cons zh (gcV_free rfl) gcVs_nil) (gcH_cons (gcO_old (by rfl) zh) (gcH_cons (gcO_old (by rfl) zh) gcH_nil)) zr (by simp only [Try.results20, resA, cst, mkE, Tr.get_set, reduceIte, Nat.reduceEqDiff, Nat.reduceAdd] <;> rfl) ?_
    simp only [one, val_same01]; first | rw [eq_len zs] | rw [eq_end zs ow h2] | rw [eq_diff zs]
   ·have p6 := g6; try simp only [d1, d2, d3, d4, d5, d6, d7, d8, d9] at p6
    refine k_skip ?_
    refine e_block ?_
    refine e_seq ?_
    refine k_region hP hC ?_
    refine os (x_move rfl zt) ?_
    refine os (x_bin rfl zt (by rfl) b_add) ?_
    refine os (x_assign rfl zt) ?_
    refine o_done ?_
    refine e_loop ?_
    refine ⟨IntKind.i64.wrap (i + 1), (to_mk (L := [0, 1]) (slots := [0, 1, 5]) (w := 2) zr (gcVs_cons zh (gcV_sl hs_l rfl) (gcVs_cons zh (gcV_sl hs_m rfl) (gcVs_cons zh (gcV_free rfl) gcVs_nil))) (gcH_cons (gcO_old (by rfl) zh) (gcH_cons (gcO_old (by rfl) zh) gcH_nil)) zr), ?_, ?_⟩
    ·rw [wr1 ow ow]; exact ⟨by omega, by omega, eq_next zs ow ow h2 zs⟩
    ·rw [wr1 ow ow]; omega
  ·have p4 := g4; try simp only [d1, d2, d3, d4, d5, d6, d7, d8, d9] at p4
   refine k_exit ?_
   refine e_seq_exit ?_
   refine e_loop_exit ?_
   refine e_block_eq ?_
   refine e_seq ?_
   refine k_seq ?_
   refine k_region hP hC ?_
   refine os (x_assign rfl (by rfl)) ?_
   refine o_done ?_
   refine e_seq ?_
   refine k_ret ?_
   refine gives_mk (L := [0, 1]) (slots := [4]) (w := 2) (.inr rfl) zr (gcVs_cons zh (gcV_free rfl) gcVs_nil) (gcH_cons (gcO_old (by rfl) zh) (gcH_cons (gcO_old (by rfl) zh) gcH_nil)) zr (by simp only [Try.results20, resA, cst, mkE, Tr.get_set, reduceIte, Nat.reduceEqDiff, Nat.reduceAdd] <;> rfl) ?_
   simp only [one, val_same01]; first | rw [eq_len zs] | rw [eq_end zs ow h2] | rw [eq_diff zs]
theorem con_same01 : Con Try.prog 20 c_same01 := con_flat Try.func20 rfl fun us cs v new h => by
 unfold spec_same01 at h
 split at h
 case h_2 => cases h
 rename_i s_l s_m c_l c_m
 split at h
 case isFalse => cases h
 rename_i hc
 try simp only [Bool.and_eq_true] at hc
 obtain ⟨⟨⟨⟨q_l, r_l⟩, q_m⟩, r_m⟩, hok⟩ := hc
 cases h
 have e_l := ints_unints r_l
 have hs_l := slOk_sl (n := (unints c_l).length) q_l zd (by rw [← ints_len, e_l, Nat.mul_one])
 have e_m := ints_unints r_m
 have hs_m := slOk_sl (n := (unints c_m).length) q_m zd (by rw [← ints_len, e_m, Nat.mul_one])
 have key := same01_m hs_l hs_m hok
 have hrows : [ints (unints c_l), ints (unints c_m)] = [c_l, c_m] := by rw [e_l, e_m]
 rw [← hrows]
 exact key
theorem same01_c {H : AH} {s_l : Value} {s_m : Value} {l : List Int} {m : List Int} (hr_l : Rd H 1 s_l l.length (ints l)) (hr_m : Rd H 1 s_m m.length (ints m)) (hok : ok_same01 l m = true) : c_same01 [s_l, s_m] H = some (.bool (decide (l = m)), H) := by
 obtain ⟨u_l, a_l, b_l⟩ := hr_l 0
 obtain ⟨u_m, a_m, b_m⟩ := hr_m 1
 exact flatC_at (v := val_same01 l m) (new := new_same01 l m) (cl_sl a_l (cl_sl a_m cl_nil)) (by simp only [spec_same01, sl_slOk b_l (by rw [ints_len, Nat.mul_one]), isInts_ints, unints_ints, sl_slOk b_m (by rw [ints_len, Nat.mul_one]), hok, Bool.and_self, if_true]) (rfl) (gcV_free rfl)
end Go.Proofs.Ytohhcnehcjpekaa
