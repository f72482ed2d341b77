/-
  Contracts: the answers of others.
-/
import Derived.Test.YtohhcnehcjpekaaJLr
namespace Go.Proofs.Ytohhcnehcjpekaa
open Go.AM
set_option maxRecDepth 100000
set_option maxHeartbeats 1000000
set_option linter.unusedSimpArgs false
set_option linter.unusedVariables false
def ok_idxOdd (L : List (List Value)) : Bool := decide (L.length < 4611686018427387904)
def val_idxOdd (L : List (List Value)) : Value := .int .i64 (idxP oddC L)
def new_idxOdd (L : List (List Value)) : List (List Value) := []
def spec_idxOdd : Go.AM.Spec := fun us cs => match us, cs with
 | [s_L, .func (.func 39) ⟨[]⟩ ⟨[]⟩], [c_L] => if slOk 0 46 c_L s_L && isRows T.K43 c_L && ok_idxOdd (chunks 46 c_L) then some (val_idxOdd (chunks 46 c_L), new_idxOdd (chunks 46 c_L)) else none
 | _, _ => none
def c_idxOdd := flatC [.sl 46, .fn] spec_idxOdd
theorem idxOdd_m {s_L : Value} {L : List (List Value)} (hs_L : Sl 0 46 L.length s_L) (h_L : cfs T.K43 L) (hok : ok_idxOdd L = true) : Meets Try.prog (.func 36) [s_L, .func (.func 39) ⟨[]⟩ ⟨[]⟩] (cheap [L.flatten]) (val_idxOdd L) (rheap [L.flatten] (new_idxOdd L)) := by
 have hP := Fits
 have hC : CallSound Try.prog (tabOf [(39, c_odd)]) := tab_sound (tab_cons con_odd tab_end)
 simp only [ok_idxOdd, Bool.and_eq_true, decide_eq_true_eq] at hok
 have hb := hok
 refine meets_start (sz := 19) hP Try.func36 rfl rfl zo (by simp only [Tr.ofList, roRows, Nat.zero_add, Nat.reduceAdd] <;> rfl) zl ?_
 refine k_seq ?_
 refine k_region hP hC ?_
 refine os (x_assign rfl (by rfl)) ?_
 refine o_done ?_
 refine e_seq ?_
 refine k_seq ?_
 refine k_seq ?_
 refine k_region hP hC ?_
 refine os (x_move rfl zt) ?_
 refine os (x_lenS hs_L rfl rfl zv rfl Try.underlying23) ?_
 refine os (x_move rfl (by rfl)) ?_
 refine o_done ?_
 refine e_seq ?_
 refine k_block ?_
 refine k_loop (α := Int) (fun i => cst 19 [0, 1, 7, 8] [s_L, .func (.func 39) ⟨[]⟩ ⟨[]⟩, .int .i64 L.length, .int .i64 i] [.row L.flatten 0 BIG true L.flatten.length] 1) (fun i => 0 ≤ i ∧ i ≤ L.length ∧ (L.take i.toNat).all (fun a => !oddC a) = true) (fun i => (L.length - i).toNat) 0 (to_mk (L := [0]) (slots := [0, 1, 7, 8]) (w := 1) zr (gcVs_cons zh (gcV_sl hs_L rfl) (gcVs_cons zh (gcV_fn) (gcVs_cons zh (gcV_free rfl) (gcVs_cons zh (gcV_free rfl) gcVs_nil)))) (gcH_cons (gcO_old (by rfl) zh) gcH_nil) zr) ⟨by omega, by omega, by simp⟩ ?_
 rintro i ⟨h0, h1, h2⟩
 refine k_cst zm zo zl ?_
 refine k_seq ?_
 refine k_region hP hC ?_
 refine os (x_bin rfl zt zt b_lss) ?_
 refine o_done ?_
 refine e_seq ?_
 refine k_seq ?_
 refine k_cond zt (fun g2 => ?_) (fun g2 => ?_)
 ·have p2 := g2; try simp only [d1, d2, d3, d4, d5, d6, d7, d8, d9] at p2
  refine k_skip ?_
  refine e_seq ?_
  refine k_seq ?_
  refine k_block ?_
  refine k_seq ?_
  refine k_region hP hC ?_
  refine os (x_move rfl zt) ?_
  refine os (x_assign rfl zt) ?_
  refine o_done ?_
  refine e_seq ?_
  refine k_seq ?_
  refine k_region hP hC ?_
  refine os (x_move rfl zt) ?_
  refine os (x_move rfl zt) ?_
  refine os (x_move rfl zt) ?_
  refine os (x_indexS hs_L rfl zt zt Try.underlying23 T.s43 ow ow) ?_
  refine os (x_loadA rfl zt T.g43 T.s43 (l_elem (whole_row zh rfl) zs rfl ow ow)) ?_
  refine o_callF (wA_none rfl) rfl rfl rfl zt zv zd ?_
  refine ⟨_, _, (tab_hit.trans (odd_c (cf_nth h_L ow ow) rfl)), ?_⟩
  refine o_done ?_
  refine e_seq ?_
  refine k_cond (by simp only [Tr.get_set, reduceIte, Nat.reduceEqDiff, Nat.reduceAdd, ev_tmp, g2] <;> rfl) (fun g4 => ?_) (fun g4 => ?_)
  ·have p4 := g4; try simp only [d1, d2, d3, d4, d5, d6, d7, d8, d9] at p4
   refine k_seq ?_
   refine k_region hP hC ?_
   refine os (x_move rfl zt) ?_
   refine os (x_assign rfl zt) ?_
   refine o_done ?_
   refine e_seq ?_
   refine k_ret ?_
   refine e_block_ret ?_
   refine e_seq_ret ?_
   refine e_loop_ret ?_
   refine e_block_ret ?_
   refine e_seq_ret ?_
   refine gives_mk (L := [0]) (slots := [4]) (w := 1) (.inr rfl) zr (gcVs_cons zh (gcV_free rfl) gcVs_nil) (gcH_cons (gcO_old (by rfl) zh) gcH_nil) zr (by simp only [Try.results36, resA, cst, mkE, Tr.get_set, reduceIte, Nat.reduceEqDiff, Nat.reduceAdd] <;> rfl) ?_
   simp only [one, val_idxOdd]; first | rw [idxP_here h0 ow h2 zs] | rw [idxP_none (all_end ow h2)]
  ·have p4 := g4; try simp only [d1, d2, d3, d4, d5, d6, d7, d8, d9] at p4
   refine k_skip ?_
   refine e_block ?_
   refine e_seq ?_
   refine k_region hP hC ?_
   refine os (x_bin rfl zt (by rfl) b_add) ?_
   refine os (x_move rfl zt) ?_
   refine o_done ?_
   refine e_loop ?_
   refine ⟨IntKind.i64.wrap (i + 1), (to_mk (L := [0]) (slots := [0, 1, 7, 8]) (w := 1) zr (gcVs_cons zh (gcV_sl hs_L rfl) (gcVs_cons zh (gcV_fn) (gcVs_cons zh (gcV_free rfl) (gcVs_cons zh (gcV_free rfl) gcVs_nil)))) (gcH_cons (gcO_old (by rfl) zh) gcH_nil) zr), ?_, ?_⟩
   ·rw [wr1 ow ow]; exact ⟨by omega, by omega, all_next ow ow h2 (by simpa using g4)⟩
   ·rw [wr1 ow ow]; omega
 ·have p2 := g2; try simp only [d1, d2, d3, d4, d5, d6, d7, d8, d9] at p2
  refine k_exit ?_
  refine e_seq_exit ?_
  refine e_loop_exit ?_
  refine e_block_eq ?_
  refine e_seq ?_
  refine k_seq ?_
  refine k_region hP hC ?_
  refine os (x_assign rfl (by rfl)) ?_
  refine o_done ?_
  refine e_seq ?_
  refine k_ret ?_
  refine gives_mk (L := [0]) (slots := [4]) (w := 1) (.inr rfl) zr (gcVs_cons zh (gcV_free rfl) gcVs_nil) (gcH_cons (gcO_old (by rfl) zh) gcH_nil) zr (by simp only [Try.results36, resA, cst, mkE, Tr.get_set, reduceIte, Nat.reduceEqDiff, Nat.reduceAdd] <;> rfl) ?_
  simp only [one, val_idxOdd]; first | rw [idxP_here h0 ow h2 zs] | rw [idxP_none (all_end ow h2)]
theorem con_idxOdd : Con Try.prog 36 c_idxOdd := con_flat Try.func36 rfl fun us cs v new h => by
 unfold spec_idxOdd at h
 split at h
 case h_2 => cases h
 rename_i s_L c_L
 split at h
 case isFalse => cases h
 rename_i hc
 try simp only [Bool.and_eq_true] at hc
 obtain ⟨⟨q_L, r_L⟩, hok⟩ := hc
 cases h
 obtain ⟨h_L, e_L⟩ := isRows_cfs zd r_L
 have hs_L := slOk_sl (n := (chunks 46 c_L).length) q_L zd (rows_len (ks := T.K43) zd r_L)
 have key := idxOdd_m hs_L h_L hok
 have hrows : [(chunks T.K43.length c_L).flatten] = [c_L] := by rw [e_L]
 rw [← hrows]
 exact key
theorem idxOdd_c {H : AH} {s_L : Value} {L : List (List Value)} (hr_L : Rd H 46 s_L L.length L.flatten) (h_L : cfs T.K43 L) (hok : ok_idxOdd L = true) : c_idxOdd [s_L, .func (.func 39) ⟨[]⟩ ⟨[]⟩] H = some (.int .i64 (idxP oddC L), H) := by
 obtain ⟨u_L, a_L, b_L⟩ := hr_L 0
 have k_L := isRows_flat zd h_L
 have k2_L : chunks 46 L.flatten = L := k_L.2
 exact flatC_at (v := val_idxOdd L) (new := new_idxOdd L) (cl_sl a_L (cl_fn cl_nil)) (by simp only [spec_idxOdd, sl_slOk b_L (cfs_len h_L), k_L.1, k2_L, hok, Bool.and_self, if_true]) (rfl) (gcV_free rfl)
def ok_anyOdd (L : List (List Value)) : Bool := decide (L.length < 4611686018427387904)
def val_anyOdd (L : List (List Value)) : Value := .bool (L.any oddC)
def new_anyOdd (L : List (List Value)) : List (List Value) := []
def spec_anyOdd : Go.AM.Spec := fun us cs => match us, cs with
 | [s_L, .func (.func 39) ⟨[]⟩ ⟨[]⟩], [c_L] => if slOk 0 46 c_L s_L && isRows T.K43 c_L && ok_anyOdd (chunks 46 c_L) then some (val_anyOdd (chunks 46 c_L), new_anyOdd (chunks 46 c_L)) else none
 | _, _ => none
def c_anyOdd := flatC [.sl 46, .fn] spec_anyOdd
theorem anyOdd_m {s_L : Value} {L : List (List Value)} (hs_L : Sl 0 46 L.length s_L) (h_L : cfs T.K43 L) (hok : ok_anyOdd L = true) : Meets Try.prog (.func 38) [s_L, .func (.func 39) ⟨[]⟩ ⟨[]⟩] (cheap [L.flatten]) (val_anyOdd L) (rheap [L.flatten] (new_anyOdd L)) := by
 have hP := Fits
 have hC : CallSound Try.prog (tabOf [(36, c_idxOdd)]) := tab_sound (tab_cons con_idxOdd tab_end)
 simp only [ok_anyOdd, Bool.and_eq_true, decide_eq_true_eq] at hok
 have hb := hok
 refine meets_start (sz := 9) hP Try.func38 rfl rfl zo (by simp only [Tr.ofList, roRows, Nat.zero_add, Nat.reduceAdd] <;> rfl) zl ?_
 refine k_seq ?_
 refine k_region hP hC ?_
 refine os (x_assign rfl (by rfl)) ?_
 refine o_done ?_
 refine e_seq ?_
 refine k_seq ?_
 refine k_region hP hC ?_
 refine os (x_move rfl zt) ?_
 refine os (x_move rfl zt) ?_
 refine o_call0 (wA_none rfl) rfl rfl rfl zv zd ?_
 refine ⟨_, _, (tab_hit.trans (idxOdd_c (rd_sl hs_L zd (whole_row zh rfl) (cfs_len h_L).symm (cfs_free0 h_L)) h_L (by rw [ok_idxOdd, decide_eq_true hb]))), ?_⟩
 refine os (x_bin rfl zt (by rfl) b_geq) ?_
 refine os (x_assign rfl zt) ?_
 refine o_done ?_
 refine e_seq ?_
 refine k_ret ?_
 refine gives_mk (L := [0]) (slots := [4]) (w := 1) (.inr rfl) zr (gcVs_cons zh (gcV_free rfl) gcVs_nil) (gcH_cons (gcO_old (by rfl) zh) gcH_nil) zr (by simp only [Try.results38, resA, cst, mkE, Tr.get_set, reduceIte, Nat.reduceEqDiff, Nat.reduceAdd] <;> rfl) ?_
 simp only [one, val_anyOdd]; rw [idxP_geq]
theorem con_anyOdd : Con Try.prog 38 c_anyOdd := con_flat Try.func38 rfl fun us cs v new h => by
 unfold spec_anyOdd at h
 split at h
 case h_2 => cases h
 rename_i s_L c_L
 split at h
 case isFalse => cases h
 rename_i hc
 try simp only [Bool.and_eq_true] at hc
 obtain ⟨⟨q_L, r_L⟩, hok⟩ := hc
 cases h
 obtain ⟨h_L, e_L⟩ := isRows_cfs zd r_L
 have hs_L := slOk_sl (n := (chunks 46 c_L).length) q_L zd (rows_len (ks := T.K43) zd r_L)
 have key := anyOdd_m hs_L h_L hok
 have hrows : [(chunks T.K43.length c_L).flatten] = [c_L] := by rw [e_L]
 rw [← hrows]
 exact key
theorem anyOdd_c {H : AH} {s_L : Value} {L : List (List Value)} (hr_L : Rd H 46 s_L L.length L.flatten) (h_L : cfs T.K43 L) (hok : ok_anyOdd L = true) : c_anyOdd [s_L, .func (.func 39) ⟨[]⟩ ⟨[]⟩] H = some (.bool (L.any oddC), H) := by
 obtain ⟨u_L, a_L, b_L⟩ := hr_L 0
 have k_L := isRows_flat zd h_L
 have k2_L : chunks 46 L.flatten = L := k_L.2
 exact flatC_at (v := val_anyOdd L) (new := new_anyOdd L) (cl_sl a_L (cl_fn cl_nil)) (by simp only [spec_anyOdd, sl_slOk b_L (cfs_len h_L), k_L.1, k2_L, hok, Bool.and_self, if_true]) (rfl) (gcV_free rfl)
def ok_kept33 (L : List (List Value)) (w : List Int) (a : List Int) : Bool := decide (L.length ≤ 1000) && decide (w.length < 4611686018427387904)
def val_kept33 (L : List (List Value)) (w : List Int) (a : List Int) : Value := outV 3 46 (keptL w L).length
def new_kept33 (L : List (List Value)) (w : List Int) (a : List Int) : List (List Value) := outN (keptL w L).length (keptL w L).flatten
def spec_kept33 : Go.AM.Spec := fun us cs => match us, cs with
 | [s_L, .agg ⟨[s_w, s_a]⟩], [c_L, c_w, c_a] => if slOk 0 46 c_L s_L && isRows T.K43 c_L && slOk 1 1 c_w s_w && isInts c_w && slOk 2 1 c_a s_a && isInts c_a && ok_kept33 (chunks 46 c_L) (unints c_w) (unints c_a) then some (val_kept33 (chunks 46 c_L) (unints c_w) (unints c_a), new_kept33 (chunks 46 c_L) (unints c_w) (unints c_a)) else none
 | _, _ => none
def c_kept33 := flatC [.sl 46, .ag [1, 1]] spec_kept33
theorem kept33_m {s_L : Value} {s_w : Value} {s_a : Value} {L : List (List Value)} {w : List Int} {a : List Int} (hs_L : Sl 0 46 L.length s_L) (h_L : cfs T.K43 L) (hs_w : Sl 1 1 w.length s_w) (hs_a : Sl 2 1 a.length s_a) (hok : ok_kept33 L w a = true) : Meets Try.prog (.func 29) [s_L, .agg ⟨[s_w, s_a]⟩] (cheap [L.flatten, ints w, ints a]) (val_kept33 L w a) (rheap [L.flatten, ints w, ints a] (new_kept33 L w a)) := by
 have hP := Fits
 have hC : CallSound Try.prog (tabOf [(32, c_in)]) := tab_sound (tab_cons con_in tab_end)
 simp only [ok_kept33, Bool.and_eq_true, decide_eq_true_eq] at hok
 obtain ⟨hb, hw⟩ := hok
 refine meets_start (sz := 30) hP Try.func29 rfl rfl zo (by simp only [Tr.ofList, roRows, Nat.zero_add, Nat.reduceAdd] <;> rfl) zl ?_
 refine k_seq ?_
 refine k_region hP hC ?_
 refine os (y_boxA rfl zt) ?_
 refine os (x_assign rfl (by rfl)) ?_
 refine o_done ?_
 refine e_seq ?_
 refine k_seq ?_
 refine k_region hP hC ?_
 refine os (x_assign rfl (by rfl)) ?_
 refine o_done ?_
 refine e_seq ?_
 refine k_seq ?_
 refine k_seq ?_
 refine k_region hP hC ?_
 refine os (x_assign rfl (by rfl)) ?_
 refine o_done ?_
 refine e_seq ?_
 refine k_block ?_
 refine k_loop (α := Bool × Int × List (List Value)) (fun z => match z with | (false, i, acc) => cst 30 [0, 3, 5, 6] [s_L, .pointer (some ⟨3, 0, none⟩), .slice none 0 0, .int .i64 i] [.row L.flatten 0 BIG true L.flatten.length, .row (ints w) 1 BIG true (ints w).length, .row (ints a) 2 BIG true (ints a).length, .row [s_w, s_a] 3 BIG false 2] 3 | (true, i, acc) => cst 30 [0, 3, 5, 6] [s_L, .pointer (some ⟨3, 0, none⟩), .slice (some ⟨4, 0, none⟩) acc.length (acc.length + 46), .int .i64 i] [.row L.flatten 0 BIG true L.flatten.length, .row (ints w) 1 BIG true (ints w).length, .row (ints a) 2 BIG true (ints a).length, .row [s_w, s_a] 3 BIG false 2, .row acc.flatten 4 BIG false acc.flatten.length] 3) (fun z => match z with | (b, i, acc) => 0 ≤ i ∧ i ≤ L.length ∧ acc = keptL w (L.take i.toNat) ∧ acc.isEmpty = !b ∧ cfs T.K43 acc) (fun z => match z with | (_, i, _) => (L.length - i).toNat) (false, 0, []) (to_mk (L := [0, 1, 2, 3]) (slots := [0, 3, 5, 6]) (w := 3) zr (gcVs_cons zh (gcV_sl hs_L rfl) (gcVs_cons zh (gcV_ptr rfl) (gcVs_cons zh (gcV_free rfl) (gcVs_cons zh (gcV_free rfl) gcVs_nil)))) (gcH_cons (gcO_old (by rfl) zh) (gcH_cons (gcO_old (by rfl) zh) (gcH_cons (gcO_old (by rfl) zh) (gcH_cons (gcO_rowE (by rfl) zh (gcD_cons (gcV_sl hs_w rfl) (gcD_cons (gcV_sl hs_a rfl) gcD_nil)) rfl) gcH_nil)))) zr) ⟨by omega, by omega, rfl, rfl, cfs_nil⟩ ?_
 rintro ⟨_ | _, i, acc⟩ ⟨h0, h1, h2, h3, hc⟩
 ·skip
  have hacc : acc = [] := List.isEmpty_iff.1 h3
  refine k_cst zm zo zl ?_
  refine k_seq ?_
  refine k_seq ?_
  refine k_region hP hC ?_
  refine os (x_move rfl zt) ?_
  refine os (x_move rfl zt) ?_
  refine os (x_lenS hs_L rfl rfl zv rfl Try.underlying23) ?_
  refine os (x_bin rfl zt zt b_lss) ?_
  refine o_done ?_
  refine e_seq ?_
  refine k_cond zt (fun g2 => ?_) (fun g2 => ?_)
  ·have p2 := g2; try simp only [d1, d2, d3, d4, d5, d6, d7, d8, d9] at p2
   refine k_skip ?_
   refine e_seq ?_
   refine k_seq ?_
   refine k_block ?_
   refine k_seq ?_
   refine k_draw hP hC zr ?_
   refine ds (x_field (off' := 0) rfl zt Try.underlying59 rfl T.s22 rfl) ?_
   refine ds (x_load1 rfl zt T.g22 (by first | exact l_boxI (whole_row zh rfl) (by (first | assumption | (exact cf_nth zs ow ow))) rfl | exact l_boxS (whole_row zh rfl) (by (first | assumption | (exact cf_nth zs ow ow))) rfl | (simp only [loadC, AH.fam, Tr.get_set, reduceIte, Nat.reduceEqDiff, Nat.reduceAdd, Fam.rb, List.drop_zero, List.drop_succ_cons, List.take_succ_cons, List.take_zero, List.length_cons, List.length_nil, Nat.zero_le, Nat.reduceLeDiff, and_self, true_and] <;> rfl))) ?_
   refine ds (x_move rfl zt) ?_
   refine ds (x_move rfl zt) ?_
   refine ds (x_indexS hs_L rfl zt zt Try.underlying23 T.s43 ow ow) ?_
   refine ds (x_field0 rfl zt Try.underlying43 rfl T.s3 rfl) ?_
   refine ds (x_load1 rfl zt T.g3 (l_partI0 (K := 46) (whole_row zh rfl) zs rfl ow ow rfl)) ?_
   refine d_call0 (wA_none rfl) rfl rfl rfl zv zd ?_
   refine ⟨_, _, _, _, (tab_hit.trans (in_c (rd_sl hs_w zd (whole_row zh rfl) (by rw [ints_len, Nat.mul_one]) (ints_free0 _)) (by rw [ok_in, decide_eq_true hw]))), ?_⟩
   refine ds (x_not rfl zg) ?_
   refine d_done ⟨by kernel_rfl, ?_⟩
   refine e_seq ?_
   refine k_cond (by simp only [Tr.get_set, reduceIte, Nat.reduceEqDiff, Nat.reduceAdd, ev_tmp, g2] <;> rfl) (fun g5 => ?_) (fun g5 => ?_)
   ·have p5 := g5; try simp only [d1, d2, d3, d4, d5, d6, d7, d8, d9] at p5
    refine k_region hP hC ?_
    refine os (x_move rfl zt) ?_
    refine os (x_move rfl zt) ?_
    refine os (x_move rfl zt) ?_
    refine os (x_indexS hs_L rfl zt zt Try.underlying23 T.s43 ow ow) ?_
    refine os (x_loadA rfl zt T.g43 T.s43 (l_elem (whole_row zh rfl) zs rfl ow ow)) ?_
    refine os (y_bsliceA rfl zt Try.underlying23 T.s43 T.z43 zd rfl rfl (cf_len (ks := T.K43) (by first | rfl | assumption | (apply cf_part; (first | assumption | (exact cf_nth zs ow ow)); rfl) | (exact cf_nth zs ow ow))) zd) ?_
    refine os (x_append rfl rfl zv rfl rfl zr (cells_row Try.underlying23 T.s43 (l_all (whole_row zh rfl) (by rw [Nat.one_mul]; exact (cf_len (ks := T.K43) zc).symm))) (ya_nil Try.underlying23 T.i23 zd (by rw [Nat.one_mul]; exact (cf_len (ks := T.K43) zc)) zd zd (cf_oneC (ks := T.K43) zc) zd)) ?_
    refine os (x_assign rfl zt) ?_
    refine o_done ?_
    refine e_block ?_
    refine e_seq ?_
    refine k_region hP hC ?_
    refine os (x_move rfl zt) ?_
    refine os (x_bin rfl zt (by rfl) b_add) ?_
    refine os (x_assign rfl zt) ?_
    refine o_done ?_
    refine e_loop ?_
    refine ⟨(true, IntKind.i64.wrap (i + 1), [nth L i]), (to_mk (L := [0, 1, 2, 3, 5]) (slots := [0, 3, 5, 6]) (w := 3) zr (gcVs_cons zh (gcV_sl hs_L rfl) (gcVs_cons zh (gcV_ptr rfl) (gcVs_cons zh (gcV_slice rfl) (gcVs_cons zh (gcV_free rfl) gcVs_nil)))) (gcH_cons (gcO_old (by rfl) zh) (gcH_cons (gcO_old (by rfl) zh) (gcH_cons (gcO_old (by rfl) zh) (gcH_cons (gcO_rowE (by rfl) zh (gcD_cons (gcV_sl hs_w rfl) (gcD_cons (gcV_sl hs_a rfl) gcD_nil)) rfl) (gcH_cons (gcO_rowE (by rfl) zh (gcD_free (cf_free1 (ks := T.K43) zc)) (by simp only [List.flatten_append, List.flatten_cons, List.flatten_nil, List.append_nil, List.nil_append])) gcH_nil))))) zr), ?_, ?_⟩
    ·rw [wr1 ow ow]; refine ⟨by omega, by omega, ?_, ?_, ?_⟩
     ·rw [show keptL w (L.take (i + 1).toNat) = keptL w (L.take i.toNat) ++ [nth L i] from filter_hit h0 ow zs, ← h2]; rw [hacc]; rfl
     ·rfl
     ·exact cfs_one zc
    ·show (L.length - IntKind.i64.wrap (i + 1)).toNat < (L.length - i).toNat; rw [wr1 ow ow]; omega
   ·have p5 := g5; try simp only [d1, d2, d3, d4, d5, d6, d7, d8, d9] at p5
    refine k_skip ?_
    refine e_block ?_
    refine e_seq ?_
    refine k_region hP hC ?_
    refine os (x_move rfl zt) ?_
    refine os (x_bin rfl zt (by rfl) b_add) ?_
    refine os (x_assign rfl zt) ?_
    refine o_done ?_
    refine e_loop ?_
    refine ⟨(false, IntKind.i64.wrap (i + 1), acc), (to_mk (L := [0, 1, 2, 3]) (slots := [0, 3, 5, 6]) (w := 3) zr (gcVs_cons zh (gcV_sl hs_L rfl) (gcVs_cons zh (gcV_ptr rfl) (gcVs_cons zh (gcV_free rfl) (gcVs_cons zh (gcV_free rfl) gcVs_nil)))) (gcH_cons (gcO_old (by rfl) zh) (gcH_cons (gcO_old (by rfl) zh) (gcH_cons (gcO_old (by rfl) zh) (gcH_cons (gcO_rowE (by rfl) zh (gcD_cons (gcV_sl hs_w rfl) (gcD_cons (gcV_sl hs_a rfl) gcD_nil)) rfl) gcH_nil)))) zr), ?_, ?_⟩
    ·rw [wr1 ow ow]; refine ⟨by omega, by omega, ?_, ?_, ?_⟩
     ·rw [show keptL w (L.take (i + 1).toNat) = keptL w (L.take i.toNat) from filter_skip h0 ow zs]; exact h2
     ·exact h3
     ·exact hc
    ·show (L.length - IntKind.i64.wrap (i + 1)).toNat < (L.length - i).toNat; rw [wr1 ow ow]; omega
  ·have p2 := g2; try simp only [d1, d2, d3, d4, d5, d6, d7, d8, d9] at p2
   refine k_exit ?_
   refine e_seq_exit ?_
   refine e_loop_exit ?_
   refine e_block_eq ?_
   refine e_seq ?_
   refine k_seq ?_
   refine k_region hP hC ?_
   refine os (x_move rfl zt) ?_
   refine os (x_assign rfl zt) ?_
   refine o_done ?_
   refine e_seq ?_
   refine k_ret ?_
   rw [take_end ow] at h2
   rw [hacc] at h2
   unfold val_kept33 new_kept33
   rw [← h2]
   refine gives_mk (L := [0, 1, 2]) (slots := [4]) (w := 3) (.inr rfl) zr (gcVs_cons zh (gcV_free rfl) gcVs_nil) (gcH_cons (gcO_old (by rfl) zh) (gcH_cons (gcO_old (by rfl) zh) (gcH_cons (gcO_old (by rfl) zh) gcH_nil))) zr (by simp only [Try.results29, resA, cst, mkE, Tr.get_set, reduceIte, Nat.reduceEqDiff, Nat.reduceAdd] <;> rfl) ?_
   rfl
 ·skip
  have hal : acc.length ≤ L.length := by rw [h2]; exact filter_len
  refine k_cst zm zo zl ?_
  refine k_seq ?_
  refine k_seq ?_
  refine k_region hP hC ?_
  refine os (x_move rfl zt) ?_
  refine os (x_move rfl zt) ?_
  refine os (x_lenS hs_L rfl rfl zv rfl Try.underlying23) ?_
  refine os (x_bin rfl zt zt b_lss) ?_
  refine o_done ?_
  refine e_seq ?_
  refine k_cond zt (fun g7 => ?_) (fun g7 => ?_)
  ·have p7 := g7; try simp only [d1, d2, d3, d4, d5, d6, d7, d8, d9] at p7
   refine k_skip ?_
   refine e_seq ?_
   refine k_seq ?_
   refine k_block ?_
   refine k_seq ?_
   refine k_draw hP hC zr ?_
   refine ds (x_field (off' := 0) rfl zt Try.underlying59 rfl T.s22 rfl) ?_
   refine ds (x_load1 rfl zt T.g22 (by first | exact l_boxI (whole_row zh rfl) (by (first | assumption | (exact cf_nth zs ow ow))) rfl | exact l_boxS (whole_row zh rfl) (by (first | assumption | (exact cf_nth zs ow ow))) rfl | (simp only [loadC, AH.fam, Tr.get_set, reduceIte, Nat.reduceEqDiff, Nat.reduceAdd, Fam.rb, List.drop_zero, List.drop_succ_cons, List.take_succ_cons, List.take_zero, List.length_cons, List.length_nil, Nat.zero_le, Nat.reduceLeDiff, and_self, true_and] <;> rfl))) ?_
   refine ds (x_move rfl zt) ?_
   refine ds (x_move rfl zt) ?_
   refine ds (x_indexS hs_L rfl zt zt Try.underlying23 T.s43 ow ow) ?_
   refine ds (x_field0 rfl zt Try.underlying43 rfl T.s3 rfl) ?_
   refine ds (x_load1 rfl zt T.g3 (l_partI0 (K := 46) (whole_row zh rfl) zs rfl ow ow rfl)) ?_
   refine d_call0 (wA_none rfl) rfl rfl rfl zv zd ?_
   refine ⟨_, _, _, _, (tab_hit.trans (in_c (rd_sl hs_w zd (whole_row zh rfl) (by rw [ints_len, Nat.mul_one]) (ints_free0 _)) (by rw [ok_in, decide_eq_true hw]))), ?_⟩
   refine ds (x_not rfl zg) ?_
   refine d_done ⟨by kernel_rfl, ?_⟩
   refine e_seq ?_
   refine k_cond (by simp only [Tr.get_set, reduceIte, Nat.reduceEqDiff, Nat.reduceAdd, ev_tmp, g7] <;> rfl) (fun g10 => ?_) (fun g10 => ?_)
   ·have p10 := g10; try simp only [d1, d2, d3, d4, d5, d6, d7, d8, d9] at p10
    refine k_region hP hC ?_
    refine os (x_move rfl zt) ?_
    refine os (x_move rfl zt) ?_
    refine os (x_move rfl zt) ?_
    refine os (x_indexS hs_L rfl zt zt Try.underlying23 T.s43 ow ow) ?_
    refine os (x_loadA rfl zt T.g43 T.s43 (l_elem (whole_row zh rfl) zs rfl ow ow)) ?_
    refine os (y_bsliceA rfl zt Try.underlying23 T.s43 T.z43 zd rfl rfl (cf_len (ks := T.K43) (by first | rfl | assumption | (apply cf_part; (first | assumption | (exact cf_nth zs ow ow)); rfl) | (exact cf_nth zs ow ow))) zd) ?_
    refine os (x_append rfl rfl zv rfl rfl zr (cells_row Try.underlying23 T.s43 (l_all (whole_row zh rfl) (by rw [Nat.one_mul]; exact (cf_len (ks := T.K43) zc).symm))) (ya_own Try.underlying23 T.i23 zd (by rw [Nat.one_mul]; exact (cf_len (ks := T.K43) zc)) ow (by unfold BIG; omega) (cf_oneC (ks := T.K43) zc) zd zh rfl (cfs_len hc))) ?_
    refine os (x_assign rfl zt) ?_
    refine o_done ?_
    refine e_block ?_
    refine e_seq ?_
    refine k_region hP hC ?_
    refine os (x_move rfl zt) ?_
    refine os (x_bin rfl zt (by rfl) b_add) ?_
    refine os (x_assign rfl zt) ?_
    refine o_done ?_
    refine e_loop ?_
    refine ⟨(true, IntKind.i64.wrap (i + 1), (acc ++ [nth L i])), (to_mk (L := [0, 1, 2, 3, 6]) (slots := [0, 3, 5, 6]) (w := 3) zr (gcVs_cons zh (gcV_sl hs_L rfl) (gcVs_cons zh (gcV_ptr rfl) (gcVs_cons zh (gcV_sliceE rfl (by simp)) (gcVs_cons zh (gcV_free rfl) gcVs_nil)))) (gcH_cons (gcO_old (by rfl) zh) (gcH_cons (gcO_old (by rfl) zh) (gcH_cons (gcO_old (by rfl) zh) (gcH_cons (gcO_rowE (by rfl) zh (gcD_cons (gcV_sl hs_w rfl) (gcD_cons (gcV_sl hs_a rfl) gcD_nil)) rfl) (gcH_cons (gcO_aliasE (by rfl) zh zh (gcD_free (by rw [List.all_append, cfs_free1 hc]; simp only [Bool.true_and]; exact cf_free1 (ks := T.K43) zc)) (by simp only [List.flatten_append, List.flatten_cons, List.flatten_nil, List.append_nil, List.nil_append])) gcH_nil))))) zr), ?_, ?_⟩
    ·rw [wr1 ow ow]; refine ⟨by omega, by omega, ?_, ?_, ?_⟩
     ·rw [show keptL w (L.take (i + 1).toNat) = keptL w (L.take i.toNat) ++ [nth L i] from filter_hit h0 ow zs, ← h2]
     ·simp
     ·exact cfs_append hc (cfs_one zc)
    ·show (L.length - IntKind.i64.wrap (i + 1)).toNat < (L.length - i).toNat; rw [wr1 ow ow]; omega
   ·have p10 := g10; try simp only [d1, d2, d3, d4, d5, d6, d7, d8, d9] at p10
    refine k_skip ?_
    refine e_block ?_
    refine e_seq ?_
    refine k_region hP hC ?_
    refine os (x_move rfl zt) ?_
    refine os (x_bin rfl zt (by rfl) b_add) ?_
    refine os (x_assign rfl zt) ?_
    refine o_done ?_
    refine e_loop ?_
    refine ⟨(true, IntKind.i64.wrap (i + 1), acc), (to_mk (L := [0, 1, 2, 3, 4]) (slots := [0, 3, 5, 6]) (w := 3) zr (gcVs_cons zh (gcV_sl hs_L rfl) (gcVs_cons zh (gcV_ptr rfl) (gcVs_cons zh (gcV_slice rfl) (gcVs_cons zh (gcV_free rfl) gcVs_nil)))) (gcH_cons (gcO_old (by rfl) zh) (gcH_cons (gcO_old (by rfl) zh) (gcH_cons (gcO_old (by rfl) zh) (gcH_cons (gcO_rowE (by rfl) zh (gcD_cons (gcV_sl hs_w rfl) (gcD_cons (gcV_sl hs_a rfl) gcD_nil)) rfl) (gcH_cons (gcO_row (by rfl) zh (gcD_free (cfs_free1 hc))) gcH_nil))))) zr), ?_, ?_⟩
    ·rw [wr1 ow ow]; refine ⟨by omega, by omega, ?_, ?_, ?_⟩
     ·rw [show keptL w (L.take (i + 1).toNat) = keptL w (L.take i.toNat) from filter_skip h0 ow zs]; exact h2
     ·exact h3
     ·exact hc
    ·show (L.length - IntKind.i64.wrap (i + 1)).toNat < (L.length - i).toNat; rw [wr1 ow ow]; omega
  ·have p7 := g7; try simp only [d1, d2, d3, d4, d5, d6, d7, d8, d9] at p7
   refine k_exit ?_
   refine e_seq_exit ?_
   refine e_loop_exit ?_
   refine e_block_eq ?_
   refine e_seq ?_
   refine k_seq ?_
   refine k_region hP hC ?_
   refine os (x_move rfl zt) ?_
   refine os (x_assign rfl zt) ?_
   refine o_done ?_
   refine e_seq ?_
   refine k_ret ?_
   rw [take_end ow] at h2
   unfold val_kept33 new_kept33
   rw [← h2]
   have hne : acc.length ≠ 0 := by intro e; have e2 := List.eq_nil_of_length_eq_zero e; subst e2; cases h3
   rw [outV_ne hne, outN_ne hne]
   refine gives_mk (L := [0, 1, 2, 4]) (slots := [4]) (w := 3) (.inr rfl) zr (gcVs_cons zh (gcV_slice rfl) gcVs_nil) (gcH_cons (gcO_old (by rfl) zh) (gcH_cons (gcO_old (by rfl) zh) (gcH_cons (gcO_old (by rfl) zh) (gcH_cons (gcO_row (by rfl) zh (gcD_free (cfs_free1 hc))) gcH_nil)))) zr (by simp only [Try.results29, resA, cst, mkE, Tr.get_set, reduceIte, Nat.reduceEqDiff, Nat.reduceAdd] <;> rfl) ?_
   rfl
theorem con_kept33 : Con Try.prog 29 c_kept33 := con_flat Try.func29 rfl fun us cs v new h => by
 unfold spec_kept33 at h
 split at h
 case h_2 => cases h
 rename_i s_L s_w s_a c_L c_w c_a
 split at h
 case isFalse => cases h
 rename_i hc
 try simp only [Bool.and_eq_true] at hc
 obtain ⟨⟨⟨⟨⟨⟨q_L, r_L⟩, q_w⟩, r_w⟩, q_a⟩, r_a⟩, hok⟩ := hc
 cases h
 obtain ⟨h_L, e_L⟩ := isRows_cfs zd r_L
 have hs_L := slOk_sl (n := (chunks 46 c_L).length) q_L zd (rows_len (ks := T.K43) zd r_L)
 have e_w := ints_unints r_w
 have hs_w := slOk_sl (n := (unints c_w).length) q_w zd (by rw [← ints_len, e_w, Nat.mul_one])
 have e_a := ints_unints r_a
 have hs_a := slOk_sl (n := (unints c_a).length) q_a zd (by rw [← ints_len, e_a, Nat.mul_one])
 have key := kept33_m hs_L h_L hs_w hs_a hok
 have hrows : [(chunks T.K43.length c_L).flatten, ints (unints c_w), ints (unints c_a)] = [c_L, c_w, c_a] := by rw [e_L, e_w, e_a]
 rw [← hrows]
 exact key
theorem kept33_c {H : AH} {s_L : Value} {s_w : Value} {s_a : Value} {L : List (List Value)} {w : List Int} {a : List Int} (hr_L : Rd H 46 s_L L.length L.flatten) (h_L : cfs T.K43 L) (hr_w : Rd H 1 s_w w.length (ints w)) (hr_a : Rd H 1 s_a a.length (ints a)) (hok : ok_kept33 L w a = true) : c_kept33 [s_L, .agg ⟨[s_w, s_a]⟩] H = some (outV H.next 46 (keptL w L).length, addRows H (outN (keptL w L).length (keptL w L).flatten)) := by
 obtain ⟨u_L, a_L, b_L⟩ := hr_L 0
 obtain ⟨u_w, a_w, b_w⟩ := hr_w 1
 obtain ⟨u_a, a_a, b_a⟩ := hr_a 2
 have k_L := isRows_flat zd h_L
 have k2_L : chunks 46 L.flatten = L := k_L.2
 exact flatC_at (v := val_kept33 L w a) (new := new_kept33 L w a) (cl_sl a_L (cl_ag2 a_w a_a cl_nil)) (by simp only [spec_kept33, sl_slOk b_L (cfs_len h_L), k_L.1, k2_L, sl_slOk b_w (by rw [ints_len, Nat.mul_one]), isInts_ints, unints_ints, sl_slOk b_a (by rw [ints_len, Nat.mul_one]), hok, Bool.and_self, if_true]) (by unfold new_kept33 outN; split; rfl; simp only [List.all_cons, List.all_nil, Bool.and_true]; exact cfs_free0 (keptL_cfs h_L)) (out_gc)
end Go.Proofs.Ytohhcnehcjpekaa
