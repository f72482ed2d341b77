/-
  Contracts of functions on lists of answers and of pairs.
-/
import Derived.Test.YtohhcnehcjpekaaJLa
namespace Go.Proofs.Ytohhcnehcjpekaa
open Go.AM
set_option maxRecDepth 100000
set_option maxHeartbeats 1000000
set_option linter.unusedSimpArgs false
set_option linter.unusedVariables false
def ok_sameAns (L : List (List Value)) (M : List (List Value)) : Bool := decide (L.length < 4611686018427387904)
def val_sameAns (L : List (List Value)) (M : List (List Value)) : Value := .bool (sameR L M)
def new_sameAns (L : List (List Value)) (M : List (List Value)) : List (List Value) := []
def spec_sameAns : Go.AM.Spec := fun us cs => match us, cs with
 | [s_L, s_M], [c_L, c_M] => if slOk 0 46 c_L s_L && isRows T.K43 c_L && slOk 1 46 c_M s_M && isRows T.K43 c_M && ok_sameAns (chunks 46 c_L) (chunks 46 c_M) then some (val_sameAns (chunks 46 c_L) (chunks 46 c_M), new_sameAns (chunks 46 c_L) (chunks 46 c_M)) else none
 | _, _ => none
def c_sameAns := flatC [.sl 46, .sl 46] spec_sameAns
theorem sameAns_m {s_L : Value} {s_M : Value} {L : List (List Value)} {M : List (List Value)} (hs_L : Sl 0 46 L.length s_L) (h_L : cfs T.K43 L) (hs_M : Sl 1 46 M.length s_M) (h_M : cfs T.K43 M) (hok : ok_sameAns L M = true) : Meets Try.prog (.func 15) [s_L, s_M] (cheap [L.flatten, M.flatten]) (val_sameAns L M) (rheap [L.flatten, M.flatten] (new_sameAns L M)) := by
 have hP := Fits
 have hC : CallSound Try.prog (tabOf []) := tab_sound tab_end
 simp only [ok_sameAns, Bool.and_eq_true, decide_eq_true_eq] at hok
 have hb := hok
 refine meets_start (sz := 26) hP Try.func15 rfl rfl zo (by simp only [Tr.ofList, roRows, Nat.zero_add, Nat.reduceAdd] <;> rfl) zl ?_
 refine k_seq ?_
 refine k_region hP hC ?_
 refine os (x_assign rfl (by rfl)) ?_
 refine o_done ?_
 refine e_seq ?_
 refine k_seq ?_
 refine k_seq ?_
 refine k_region hP hC ?_
 refine os (x_move rfl zt) ?_
 refine os (x_lenS hs_L rfl rfl zv rfl Try.underlying23) ?_
 refine os (x_move rfl zt) ?_
 refine os (x_lenS hs_M rfl rfl zv rfl Try.underlying23) ?_
 refine os (x_bin rfl zt zt b_neq) ?_
 refine o_done ?_
 refine e_seq ?_
 refine k_cond zt (fun g2 => ?_) (fun g2 => ?_)
 ·have p2 := g2; try simp only [d1, d2, d3, d4, d5, d6, d7, d8, d9] at p2
  refine k_seq ?_
  refine k_region hP hC ?_
  refine os (x_assign rfl (by rfl)) ?_
  refine o_done ?_
  refine e_seq ?_
  refine k_ret ?_
  refine e_seq_ret ?_
  refine gives_mk (L := [0, 1]) (slots := [4]) (w := 2) (.inr rfl) zr (gcVs_cons zh (gcV_free rfl) gcVs_nil) (gcH_cons (gcO_old (by rfl) zh) (gcH_cons (gcO_old (by rfl) zh) gcH_nil)) zr (by simp only [Try.results15, resA, cst, mkE, Tr.get_set, reduceIte, Nat.reduceEqDiff, Nat.reduceAdd] <;> rfl) ?_
  simp only [one, val_sameAns]; first | rw [eqR_len h_L zs] | rw [eqR_end h_L zs ow h2] | rw [eqR_diff h_L ow ow zs]
 ·have p2 := g2; try simp only [d1, d2, d3, d4, d5, d6, d7, d8, d9] at p2
  refine k_skip ?_
  refine e_seq ?_
  refine k_seq ?_
  refine k_seq ?_
  refine k_region hP hC ?_
  refine os (x_assign rfl (by rfl)) ?_
  refine o_done ?_
  refine e_seq ?_
  refine k_block ?_
  refine k_loop (α := Int) (fun i => cst 26 [0, 1, 5] [s_L, s_M, .int .i64 i] [.row L.flatten 0 BIG true L.flatten.length, .row M.flatten 1 BIG true M.flatten.length] 2) (fun i => 0 ≤ i ∧ i ≤ L.length ∧ L.take i.toNat = M.take i.toNat) (fun i => (L.length - i).toNat) 0 (to_mk (L := [0, 1]) (slots := [0, 1, 5]) (w := 2) zr (gcVs_cons zh (gcV_sl hs_L rfl) (gcVs_cons zh (gcV_sl hs_M rfl) (gcVs_cons zh (gcV_free rfl) gcVs_nil))) (gcH_cons (gcO_old (by rfl) zh) (gcH_cons (gcO_old (by rfl) zh) gcH_nil)) zr) ⟨by omega, by omega, by simp⟩ ?_
  rintro i ⟨h0, h1, h2⟩
  refine k_cst zm zo zl ?_
  refine k_seq ?_
  refine k_seq ?_
  refine k_region hP hC ?_
  refine os (x_move rfl zt) ?_
  refine os (x_move rfl zt) ?_
  refine os (x_lenS hs_L rfl rfl zv rfl Try.underlying23) ?_
  refine os (x_bin rfl zt zt b_lss) ?_
  refine o_done ?_
  refine e_seq ?_
  refine k_cond zt (fun g4 => ?_) (fun g4 => ?_)
  ·have p4 := g4; try simp only [d1, d2, d3, d4, d5, d6, d7, d8, d9] at p4
   refine k_skip ?_
   refine e_seq ?_
   refine k_seq ?_
   refine k_block ?_
   refine k_seq ?_
   refine k_draw hP hC zr ?_
   refine ds (x_move rfl zt) ?_
   refine ds (x_move rfl zt) ?_
   refine ds (x_indexS hs_L rfl zt zt Try.underlying23 T.s43 ow ow) ?_
   refine ds (x_loadA rfl zt T.g43 T.s43 (l_elem (whole_row zh rfl) zs rfl ow ow)) ?_
   refine ds (x_move rfl zt) ?_
   refine ds (x_move rfl zt) ?_
   refine ds (x_indexS hs_M rfl zt zt Try.underlying23 T.s43 ow ow) ?_
   refine ds (x_loadA rfl zt T.g43 T.s43 (l_elem (whole_row zh rfl) zs rfl ow ow)) ?_
   refine ds (x_bin rfl zt zt (b_neqA zd T.f43 T.g43 T.q43 zc zc)) ?_
   refine d_done ⟨by kernel_rfl, ?_⟩
   refine e_seq ?_
   refine k_cond (by simp only [Tr.get_set, reduceIte, Nat.reduceEqDiff, Nat.reduceAdd, ev_tmp, g4] <;> rfl) (fun g6 => ?_) (fun g6 => ?_)
   ·have p6 := g6; try simp only [d1, d2, d3, d4, d5, d6, d7, d8, d9] at p6
    refine k_seq ?_
    refine k_region hP hC ?_
    refine os (x_assign rfl (by rfl)) ?_
    refine o_done ?_
    refine e_seq ?_
    refine k_ret ?_
    refine e_block_ret ?_
    refine e_seq_ret ?_
    refine e_loop_ret ?_
    refine e_block_ret ?_
    refine e_seq_ret ?_
    refine gives_mk (L := [0, 1]) (slots := [4]) (w := 2) (.inr rfl) zr (gcVs_cons zh (gcV_free rfl) gcVs_nil) (gcH_cons (gcO_old (by rfl) zh) (gcH_cons (gcO_old (by rfl) zh) gcH_nil)) zr (by simp only [Try.results15, resA, cst, mkE, Tr.get_set, reduceIte, Nat.reduceEqDiff, Nat.reduceAdd] <;> rfl) ?_
    simp only [one, val_sameAns]; first | rw [eqR_len h_L zs] | rw [eqR_end h_L zs ow h2] | rw [eqR_diff h_L ow ow zs]
   ·have p6 := g6; try simp only [d1, d2, d3, d4, d5, d6, d7, d8, d9] at p6
    refine k_skip ?_
    refine e_block ?_
    refine e_seq ?_
    refine k_region hP hC ?_
    refine os (x_move rfl zt) ?_
    refine os (x_bin rfl zt (by rfl) b_add) ?_
    refine os (x_assign rfl zt) ?_
    refine o_done ?_
    refine e_loop ?_
    refine ⟨IntKind.i64.wrap (i + 1), (to_mk (L := [0, 1]) (slots := [0, 1, 5]) (w := 2) zr (gcVs_cons zh (gcV_sl hs_L rfl) (gcVs_cons zh (gcV_sl hs_M rfl) (gcVs_cons zh (gcV_free rfl) gcVs_nil))) (gcH_cons (gcO_old (by rfl) zh) (gcH_cons (gcO_old (by rfl) zh) gcH_nil)) zr), ?_, ?_⟩
    ·rw [wr1 ow ow]; exact ⟨by omega, by omega, eqR_next h_L zs ow ow h2 zs⟩
    ·rw [wr1 ow ow]; omega
  ·have p4 := g4; try simp only [d1, d2, d3, d4, d5, d6, d7, d8, d9] at p4
   refine k_exit ?_
   refine e_seq_exit ?_
   refine e_loop_exit ?_
   refine e_block_eq ?_
   refine e_seq ?_
   refine k_seq ?_
   refine k_region hP hC ?_
   refine os (x_assign rfl (by rfl)) ?_
   refine o_done ?_
   refine e_seq ?_
   refine k_ret ?_
   refine gives_mk (L := [0, 1]) (slots := [4]) (w := 2) (.inr rfl) zr (gcVs_cons zh (gcV_free rfl) gcVs_nil) (gcH_cons (gcO_old (by rfl) zh) (gcH_cons (gcO_old (by rfl) zh) gcH_nil)) zr (by simp only [Try.results15, resA, cst, mkE, Tr.get_set, reduceIte, Nat.reduceEqDiff, Nat.reduceAdd] <;> rfl) ?_
   simp only [one, val_sameAns]; first | rw [eqR_len h_L zs] | rw [eqR_end h_L zs ow h2] | rw [eqR_diff h_L ow ow zs]
theorem con_sameAns : Con Try.prog 15 c_sameAns := con_flat Try.func15 rfl fun us cs v new h => by
 unfold spec_sameAns at h
 split at h
 case h_2 => cases h
 rename_i s_L s_M c_L c_M
 split at h
 case isFalse => cases h
 rename_i hc
 try simp only [Bool.and_eq_true] at hc
 obtain ⟨⟨⟨⟨q_L, r_L⟩, q_M⟩, r_M⟩, hok⟩ := hc
 cases h
 obtain ⟨h_L, e_L⟩ := isRows_cfs zd r_L
 have hs_L := slOk_sl (n := (chunks 46 c_L).length) q_L zd (rows_len (ks := T.K43) zd r_L)
 obtain ⟨h_M, e_M⟩ := isRows_cfs zd r_M
 have hs_M := slOk_sl (n := (chunks 46 c_M).length) q_M zd (rows_len (ks := T.K43) zd r_M)
 have key := sameAns_m hs_L h_L hs_M h_M hok
 have hrows : [(chunks T.K43.length c_L).flatten, (chunks T.K43.length c_M).flatten] = [c_L, c_M] := by rw [e_L, e_M]
 rw [← hrows]
 exact key
theorem sameAns_c {H : AH} {s_L : Value} {s_M : Value} {L : List (List Value)} {M : List (List Value)} (hr_L : Rd H 46 s_L L.length L.flatten) (h_L : cfs T.K43 L) (hr_M : Rd H 46 s_M M.length M.flatten) (h_M : cfs T.K43 M) (hok : ok_sameAns L M = true) : c_sameAns [s_L, s_M] H = some (.bool (sameR L M), H) := by
 obtain ⟨u_L, a_L, b_L⟩ := hr_L 0
 obtain ⟨u_M, a_M, b_M⟩ := hr_M 1
 have k_L := isRows_flat zd h_L
 have k2_L : chunks 46 L.flatten = L := k_L.2
 have k_M := isRows_flat zd h_M
 have k2_M : chunks 46 M.flatten = M := k_M.2
 exact flatC_at (v := val_sameAns L M) (new := new_sameAns L M) (cl_sl a_L (cl_sl a_M cl_nil)) (by simp only [spec_sameAns, sl_slOk b_L (cfs_len h_L), k_L.1, k2_L, sl_slOk b_M (cfs_len h_M), k_M.1, k2_M, hok, Bool.and_self, if_true]) (rfl) (gcV_free rfl)
def ok_possible (L : List (List Value)) : Bool := decide (L.length < 4611686018427387904)
def val_possible (L : List (List Value)) : Value := .bool (possL L)
def new_possible (L : List (List Value)) : List (List Value) := []
def spec_possible : Go.AM.Spec := fun us cs => match us, cs with
 | [s_L], [c_L] => if slOk 0 46 c_L s_L && isRows T.K43 c_L && ok_possible (chunks 46 c_L) then some (val_possible (chunks 46 c_L), new_possible (chunks 46 c_L)) else none
 | _, _ => none
def c_possible := flatC [.sl 46] spec_possible
theorem possible_m {s_L : Value} {L : List (List Value)} (hs_L : Sl 0 46 L.length s_L) (h_L : cfs T.K43 L) (hok : ok_possible L = true) : Meets Try.prog (.func 42) [s_L] (cheap [L.flatten]) (val_possible L) (rheap [L.flatten] (new_possible L)) := by
 have hP := Fits
 have hC : CallSound Try.prog (tabOf [(54, c_possible1)]) := tab_sound (tab_cons con_possible1 tab_end)
 simp only [ok_possible, Bool.and_eq_true, decide_eq_true_eq] at hok
 have hb := hok
 refine meets_start (sz := 16) hP Try.func42 rfl rfl zo (by simp only [Tr.ofList, roRows, Nat.zero_add, Nat.reduceAdd] <;> rfl) zl ?_
 refine k_seq ?_
 refine k_region hP hC ?_
 refine os (x_assign rfl (by rfl)) ?_
 refine o_done ?_
 refine e_seq ?_
 refine k_seq ?_
 refine k_seq ?_
 refine k_region hP hC ?_
 refine os (x_assign rfl (by rfl)) ?_
 refine o_done ?_
 refine e_seq ?_
 refine k_block ?_
 refine k_loop (α := Int) (fun i => cst 16 [0, 3] [s_L, .int .i64 i] [.row L.flatten 0 BIG true L.flatten.length] 1) (fun i => 0 ≤ i ∧ i ≤ L.length ∧ (L.take i.toNat).all (fun a => !oddC a) = true) (fun i => (L.length - i).toNat) 0 (to_mk (L := [0]) (slots := [0, 3]) (w := 1) zr (gcVs_cons zh (gcV_sl hs_L rfl) (gcVs_cons zh (gcV_free rfl) gcVs_nil)) (gcH_cons (gcO_old (by rfl) zh) gcH_nil) zr) ⟨by omega, by omega, by simp⟩ ?_
 rintro i ⟨h0, h1, h2⟩
 refine k_cst zm zo zl ?_
 refine k_seq ?_
 refine k_seq ?_
 refine k_region hP hC ?_
 refine os (x_move rfl zt) ?_
 refine os (x_move rfl zt) ?_
 refine os (x_lenS hs_L rfl rfl zv rfl Try.underlying23) ?_
 refine os (x_bin rfl zt zt b_lss) ?_
 refine o_done ?_
 refine e_seq ?_
 refine k_cond zt (fun g2 => ?_) (fun g2 => ?_)
 ·have p2 := g2; try simp only [d1, d2, d3, d4, d5, d6, d7, d8, d9] at p2
  refine k_skip ?_
  refine e_seq ?_
  refine k_seq ?_
  refine k_block ?_
  refine k_seq ?_
  refine k_region hP hC ?_
  refine os (x_move rfl zt) ?_
  refine os (x_move rfl zt) ?_
  refine os (x_indexS hs_L rfl zt zt Try.underlying23 T.s43 ow ow) ?_
  refine os (x_loadA rfl zt T.g43 T.s43 (l_elem (whole_row zh rfl) zs rfl ow ow)) ?_
  refine o_call0 (wA_none rfl) rfl rfl rfl zv zd ?_
  refine ⟨_, _, (tab_hit.trans (possible1_c (cf_nth h_L ow ow) rfl)), ?_⟩
  refine os (x_not rfl zg) ?_
  refine o_done ?_
  refine e_seq ?_
  refine k_cond (by simp only [Tr.get_set, reduceIte, Nat.reduceEqDiff, Nat.reduceAdd, ev_tmp, g2] <;> rfl) (fun g5 => ?_) (fun g5 => ?_)
  ·have p5 := g5; try simp only [d1, d2, d3, d4, d5, d6, d7, d8, d9] at p5
   refine k_seq ?_
   refine k_region hP hC ?_
   refine os (x_assign rfl (by rfl)) ?_
   refine o_done ?_
   refine e_seq ?_
   refine k_ret ?_
   refine e_block_ret ?_
   refine e_seq_ret ?_
   refine e_loop_ret ?_
   refine e_block_ret ?_
   refine e_seq_ret ?_
   refine gives_mk (L := [0]) (slots := [2]) (w := 1) (.inr rfl) zr (gcVs_cons zh (gcV_free rfl) gcVs_nil) (gcH_cons (gcO_old (by rfl) zh) gcH_nil) zr (by simp only [Try.results42, resA, cst, mkE, Tr.get_set, reduceIte, Nat.reduceEqDiff, Nat.reduceAdd] <;> rfl) ?_
   simp only [one, val_possible, possL]; first | rw [all_end ow h2] | rw [all_no ow ow (by simpa using g5)]
  ·have p5 := g5; try simp only [d1, d2, d3, d4, d5, d6, d7, d8, d9] at p5
   refine k_skip ?_
   refine e_block ?_
   refine e_seq ?_
   refine k_region hP hC ?_
   refine os (x_move rfl zt) ?_
   refine os (x_bin rfl zt (by rfl) b_add) ?_
   refine os (x_assign rfl zt) ?_
   refine o_done ?_
   refine e_loop ?_
   refine ⟨IntKind.i64.wrap (i + 1), (to_mk (L := [0]) (slots := [0, 3]) (w := 1) zr (gcVs_cons zh (gcV_sl hs_L rfl) (gcVs_cons zh (gcV_free rfl) gcVs_nil)) (gcH_cons (gcO_old (by rfl) zh) gcH_nil) zr), ?_, ?_⟩
   ·rw [wr1 ow ow]; exact ⟨by omega, by omega, all_next ow ow h2 (by simpa using g5)⟩
   ·rw [wr1 ow ow]; omega
 ·have p2 := g2; try simp only [d1, d2, d3, d4, d5, d6, d7, d8, d9] at p2
  refine k_exit ?_
  refine e_seq_exit ?_
  refine e_loop_exit ?_
  refine e_block_eq ?_
  refine e_seq ?_
  refine k_seq ?_
  refine k_region hP hC ?_
  refine os (x_assign rfl (by rfl)) ?_
  refine o_done ?_
  refine e_seq ?_
  refine k_ret ?_
  refine gives_mk (L := [0]) (slots := [2]) (w := 1) (.inr rfl) zr (gcVs_cons zh (gcV_free rfl) gcVs_nil) (gcH_cons (gcO_old (by rfl) zh) gcH_nil) zr (by simp only [Try.results42, resA, cst, mkE, Tr.get_set, reduceIte, Nat.reduceEqDiff, Nat.reduceAdd] <;> rfl) ?_
  simp only [one, val_possible, possL]; first | rw [all_end ow h2] | rw [all_no ow ow (by simpa using g2)]
theorem con_possible : Con Try.prog 42 c_possible := con_flat Try.func42 rfl fun us cs v new h => by
 unfold spec_possible at h
 split at h
 case h_2 => cases h
 rename_i s_L c_L
 split at h
 case isFalse => cases h
 rename_i hc
 try simp only [Bool.and_eq_true] at hc
 obtain ⟨⟨q_L, r_L⟩, hok⟩ := hc
 cases h
 obtain ⟨h_L, e_L⟩ := isRows_cfs zd r_L
 have hs_L := slOk_sl (n := (chunks 46 c_L).length) q_L zd (rows_len (ks := T.K43) zd r_L)
 have key := possible_m hs_L h_L hok
 have hrows : [(chunks T.K43.length c_L).flatten] = [c_L] := by rw [e_L]
 rw [← hrows]
 exact key
theorem possible_c {H : AH} {s_L : Value} {L : List (List Value)} (hr_L : Rd H 46 s_L L.length L.flatten) (h_L : cfs T.K43 L) (hok : ok_possible L = true) : c_possible [s_L] H = some (.bool (possL L), H) := by
 obtain ⟨u_L, a_L, b_L⟩ := hr_L 0
 have k_L := isRows_flat zd h_L
 have k2_L : chunks 46 L.flatten = L := k_L.2
 exact flatC_at (v := val_possible L) (new := new_possible L) (cl_sl a_L cl_nil) (by simp only [spec_possible, sl_slOk b_L (cfs_len h_L), k_L.1, k2_L, hok, Bool.and_self, if_true]) (rfl) (gcV_free rfl)
end Go.Proofs.Ytohhcnehcjpekaa
