/-
  Contracts of functions on lists of answers and of pairs.
-/
import Derived.Test.YtohhcnehcjpekaaCLa
namespace Go.Proofs.Ytohhcnehcjpekaa
open Go.AM
set_option maxRecDepth 100000
set_option maxHeartbeats 1000000
set_option linter.unusedSimpArgs false
set_option linter.unusedVariables false
def ok_samePairs (L : List (List Value)) (M : List (List Value)) : Bool := decide (L.length < 4611686018427387904)
def val_samePairs (L : List (List Value)) (M : List (List Value)) : Value := .bool (sameR L M)
def new_samePairs (L : List (List Value)) (M : List (List Value)) : List (List Value) := []
def spec_samePairs : Go.AM.Spec := fun us cs => match us, cs with
 | [s_L, s_M], [c_L, c_M] => if slOk 0 2 c_L s_L && isRows T.K71 c_L && slOk 1 2 c_M s_M && isRows T.K71 c_M && ok_samePairs (chunks 2 c_L) (chunks 2 c_M) then some (val_samePairs (chunks 2 c_L) (chunks 2 c_M), new_samePairs (chunks 2 c_L) (chunks 2 c_M)) else none
 | _, _ => none
def c_samePairs := flatC [.sl 2, .sl 2] spec_samePairs
theorem samePairs_m {s_L : Value} {s_M : Value} {L : List (List Value)} {M : List (List Value)} (hs_L : Sl 0 2 L.length s_L) (h_L : cfs T.K71 L) (hs_M : Sl 1 2 M.length s_M) (h_M : cfs T.K71 M) (hok : ok_samePairs L M = true) : Meets Try.prog (.func 9) [s_L, s_M] (cheap [L.flatten, M.flatten]) (val_samePairs L M) (rheap [L.flatten, M.flatten] (new_samePairs L M)) := by
 have hP := Fits
 have hC : CallSound Try.prog (tabOf []) := tab_sound tab_end
 simp only [ok_samePairs, Bool.and_eq_true, decide_eq_true_eq] at hok
 have hb := hok
 refine meets_start (sz := 26) hP Try.func9 rfl rfl zo (by simp only [Tr.ofList, roRows, Nat.zero_add, Nat.reduceAdd] <;> rfl) zl ?_
 refine k_seq ?_
 refine k_region hP hC ?_
 refine os (x_assign rfl (by rfl)) ?_
 refine o_done ?_
 refine e_seq ?_
 refine k_seq ?_
 refine k_seq ?_
 refine k_region hP hC ?_
 refine os (x_move rfl zt) ?_
 refine os (x_lenS hs_L rfl rfl zv rfl Try.underlying29) ?_
 refine os (x_move rfl zt) ?_
 refine os (x_lenS hs_M rfl rfl zv rfl Try.underlying29) ?_
 refine os (x_bin rfl zt zt b_neq) ?_
 refine o_done ?_
 refine e_seq ?_
 refine k_cond zt (fun g2 => ?_) (fun g2 => ?_)
 ·have p2 := g2; try simp only [d1, d2, d3, d4, d5, d6, d7, d8, d9] at p2
  refine k_seq ?_
  refine k_region hP hC ?_
  refine os (x_assign rfl (by rfl)) ?_
  refine o_done ?_
  refine e_seq ?_
  refine k_ret ?_
  refine e_seq_ret ?_
  refine gives_mk (L := [0, 1]) (slots := [4]) (w := 2) (.inr rfl) zr (gcVs_cons zh (gcV_free rfl) gcVs_nil) (gcH_cons (gcO_old (by rfl) zh) (gcH_cons (gcO_old (by rfl) zh) gcH_nil)) zr (by simp only [Try.results9, resA, cst, mkE, Tr.get_set, reduceIte, Nat.reduceEqDiff, Nat.reduceAdd] <;> rfl) ?_
  simp only [one, val_samePairs]; first | rw [eqR_len h_L (by assumption)] | rw [eqR_end h_L (by assumption) (by omega) h2] | rw [eqR_diff h_L (by omega) (by omega) (by assumption)]
 ·have p2 := g2; try simp only [d1, d2, d3, d4, d5, d6, d7, d8, d9] at p2
  refine k_skip ?_
  refine e_seq ?_
  refine k_seq ?_
  refine k_seq ?_
  refine k_region hP hC ?_
  refine os (x_assign rfl (by rfl)) ?_
  refine o_done ?_
  refine e_seq ?_
  refine k_block ?_
  refine k_loop (α := Int) (fun i => cst 26 [0, 1, 5] [s_L, s_M, .int .i64 i] [.row L.flatten 0 BIG true L.flatten.length, .row M.flatten 1 BIG true M.flatten.length] 2) (fun i => 0 ≤ i ∧ i ≤ L.length ∧ L.take i.toNat = M.take i.toNat) (fun i => (L.length - i).toNat) 0 (to_mk (L := [0, 1]) (slots := [0, 1, 5]) (w := 2) zr (gcVs_cons zh (gcV_sl hs_L rfl) (gcVs_cons zh (gcV_sl hs_M rfl) (gcVs_cons zh (gcV_free rfl) gcVs_nil))) (gcH_cons (gcO_old (by rfl) zh) (gcH_cons (gcO_old (by rfl) zh) gcH_nil)) zr) ⟨by omega, by omega, by simp⟩ ?_
  rintro i ⟨h0, h1, h2⟩
  refine k_cst zm zo zl ?_
  refine k_seq ?_
  refine k_seq ?_
  refine k_region hP hC ?_
  refine os (x_move rfl zt) ?_
  refine os (x_move rfl zt) ?_
  refine os (x_lenS hs_L rfl rfl zv rfl Try.underlying29) ?_
  refine os (x_bin rfl zt zt b_lss) ?_
  refine o_done ?_
  refine e_seq ?_
  refine k_cond zt (fun g4 => ?_) (fun g4 => ?_)
  ·have p4 := g4; try simp only [d1, d2, d3, d4, d5, d6, d7, d8, d9] at p4
   refine k_skip ?_
   refine e_seq ?_
   refine k_seq ?_
   refine k_block ?_
   refine k_seq ?_
   refine k_draw hP hC zr ?_
   refine ds (x_move rfl zt) ?_
   refine ds (x_move rfl zt) ?_
   refine ds (x_indexS hs_L rfl zt zt Try.underlying29 T.s71 (by omega) (by omega)) ?_
   refine ds (x_loadA rfl zt T.g71 T.s71 (l_elem (whole_row zh rfl) (by assumption) rfl (by omega) (by omega))) ?_
   refine ds (x_move rfl zt) ?_
   refine ds (x_move rfl zt) ?_
   refine ds (x_indexS hs_M rfl zt zt Try.underlying29 T.s71 (by omega) (by omega)) ?_
   refine ds (x_loadA rfl zt T.g71 T.s71 (l_elem (whole_row zh rfl) (by assumption) rfl (by omega) (by omega))) ?_
   refine ds (x_bin rfl zt zt (b_neqA (by decide) T.f71 T.g71 T.q71 zc zc)) ?_
   refine d_done ⟨by kernel_rfl, ?_⟩
   refine e_seq ?_
   refine k_cond (by simp only [Tr.get_set, reduceIte, Nat.reduceEqDiff, Nat.reduceAdd, ev_tmp, g4] <;> rfl) (fun g6 => ?_) (fun g6 => ?_)
   ·have p6 := g6; try simp only [d1, d2, d3, d4, d5, d6, d7, d8, d9] at p6
    refine k_seq ?_
    refine k_region hP hC ?_
    refine os (x_assign rfl (by rfl)) ?_
    refine o_done ?_
    refine e_seq ?_
    refine k_ret ?_
    refine e_block_ret ?_
    refine e_seq_ret ?_
    refine e_loop_ret ?_
    refine e_block_ret ?_
    refine e_seq_ret ?_
    refine gives_mk (L := [0, 1]) (slots := [4]) (w := 2) (.inr rfl) zr (gcVs_cons zh (gcV_free rfl) gcVs_nil) (gcH_cons (gcO_old (by rfl) zh) (gcH_cons (gcO_old (by rfl) zh) gcH_nil)) zr (by simp only [Try.results9, resA, cst, mkE, Tr.get_set, reduceIte, Nat.reduceEqDiff, Nat.reduceAdd] <;> rfl) ?_
    simp only [one, val_samePairs]; first | rw [eqR_len h_L (by assumption)] | rw [eqR_end h_L (by assumption) (by omega) h2] | rw [eqR_diff h_L (by omega) (by omega) (by assumption)]
   ·have p6 := g6; try simp only [d1, d2, d3, d4, d5, d6, d7, d8, d9] at p6
    refine k_skip ?_
    refine e_block ?_
    refine e_seq ?_
    refine k_region hP hC ?_
    refine os (x_move rfl zt) ?_
    refine os (x_bin rfl zt (by rfl) b_add) ?_
    refine os (x_assign rfl zt) ?_
    refine o_done ?_
    refine e_loop ?_
    refine ⟨IntKind.i64.wrap (i + 1), (to_mk (L := [0, 1]) (slots := [0, 1, 5]) (w := 2) zr (gcVs_cons zh (gcV_sl hs_L rfl) (gcVs_cons zh (gcV_sl hs_M rfl) (gcVs_cons zh (gcV_free rfl) gcVs_nil))) (gcH_cons (gcO_old (by rfl) zh) (gcH_cons (gcO_old (by rfl) zh) gcH_nil)) zr), ?_, ?_⟩
    ·rw [wr1 (by omega) (by omega)]; exact ⟨by omega, by omega, eqR_next h_L (by assumption) (by omega) (by omega) h2 (by assumption)⟩
    ·rw [wr1 (by omega) (by omega)]; omega
  ·have p4 := g4; try simp only [d1, d2, d3, d4, d5, d6, d7, d8, d9] at p4
   refine k_exit ?_
   refine e_seq_exit ?_
   refine e_loop_exit ?_
   refine e_block_eq ?_
   refine e_seq ?_
   refine k_seq ?_
   refine k_region hP hC ?_
   refine os (x_assign rfl (by rfl)) ?_
   refine o_done ?_
   refine e_seq ?_
   refine k_ret ?_
   refine gives_mk (L := [0, 1]) (slots := [4]) (w := 2) (.inr rfl) zr (gcVs_cons zh (gcV_free rfl) gcVs_nil) (gcH_cons (gcO_old (by rfl) zh) (gcH_cons (gcO_old (by rfl) zh) gcH_nil)) zr (by simp only [Try.results9, resA, cst, mkE, Tr.get_set, reduceIte, Nat.reduceEqDiff, Nat.reduceAdd] <;> rfl) ?_
   simp only [one, val_samePairs]; first | rw [eqR_len h_L (by assumption)] | rw [eqR_end h_L (by assumption) (by omega) h2] | rw [eqR_diff h_L (by omega) (by omega) (by assumption)]
theorem con_samePairs : Con Try.prog 9 c_samePairs := con_flat Try.func9 rfl fun us cs v new h => by
 unfold spec_samePairs at h
 split at h
 case h_2 => cases h
 rename_i s_L s_M c_L c_M
 split at h
 case isFalse => cases h
 rename_i hc
 try simp only [Bool.and_eq_true] at hc
 obtain ⟨⟨⟨⟨q_L, r_L⟩, q_M⟩, r_M⟩, hok⟩ := hc
 cases h
 obtain ⟨h_L, e_L⟩ := isRows_cfs (by decide) r_L
 have hs_L := slOk_sl (n := (chunks 2 c_L).length) q_L (by decide) (rows_len (ks := T.K71) (by decide) r_L)
 obtain ⟨h_M, e_M⟩ := isRows_cfs (by decide) r_M
 have hs_M := slOk_sl (n := (chunks 2 c_M).length) q_M (by decide) (rows_len (ks := T.K71) (by decide) r_M)
 have key := samePairs_m hs_L h_L hs_M h_M hok
 have hrows : [(chunks T.K71.length c_L).flatten, (chunks T.K71.length c_M).flatten] = [c_L, c_M] := by rw [e_L, e_M]
 rw [← hrows]
 exact key
theorem samePairs_c {H : AH} {s_L : Value} {s_M : Value} {L : List (List Value)} {M : List (List Value)} (hr_L : Rd H 2 s_L L.length L.flatten) (h_L : cfs T.K71 L) (hr_M : Rd H 2 s_M M.length M.flatten) (h_M : cfs T.K71 M) (hok : ok_samePairs L M = true) : c_samePairs [s_L, s_M] H = some (.bool (sameR L M), H) := by
 obtain ⟨u_L, a_L, b_L⟩ := hr_L 0
 obtain ⟨u_M, a_M, b_M⟩ := hr_M 1
 have k_L := isRows_flat (by decide) h_L
 have k2_L : chunks 2 L.flatten = L := k_L.2
 have k_M := isRows_flat (by decide) h_M
 have k2_M : chunks 2 M.flatten = M := k_M.2
 exact flatC_at (v := val_samePairs L M) (new := new_samePairs L M) (cl_sl a_L (cl_sl a_M cl_nil)) (by simp only [spec_samePairs, sl_slOk b_L (cfs_len h_L), k_L.1, k2_L, sl_slOk b_M (cfs_len h_M), k_M.1, k2_M, hok, Bool.and_self, if_true]) (rfl) (gcV_free rfl)
def ok_sameAns (L : List (List Value)) (M : List (List Value)) : Bool := decide (L.length < 4611686018427387904)
def val_sameAns (L : List (List Value)) (M : List (List Value)) : Value := .bool (sameR L M)
def new_sameAns (L : List (List Value)) (M : List (List Value)) : List (List Value) := []
def spec_sameAns : Go.AM.Spec := fun us cs => match us, cs with
 | [s_L, s_M], [c_L, c_M] => if slOk 0 46 c_L s_L && isRows T.K43 c_L && slOk 1 46 c_M s_M && isRows T.K43 c_M && ok_sameAns (chunks 46 c_L) (chunks 46 c_M) then some (val_sameAns (chunks 46 c_L) (chunks 46 c_M), new_sameAns (chunks 46 c_L) (chunks 46 c_M)) else none
 | _, _ => none
def c_sameAns := flatC [.sl 46, .sl 46] spec_sameAns
theorem sameAns_m {s_L : Value} {s_M : Value} {L : List (List Value)} {M : List (List Value)} (hs_L : Sl 0 46 L.length s_L) (h_L : cfs T.K43 L) (hs_M : Sl 1 46 M.length s_M) (h_M : cfs T.K43 M) (hok : ok_sameAns L M = true) : Meets Try.prog (.func 15) [s_L, s_M] (cheap [L.flatten, M.flatten]) (val_sameAns L M) (rheap [L.flatten, M.flatten] (new_sameAns L M)) := by
 have hP := Fits
 have hC : CallSound Try.prog (tabOf []) := tab_sound tab_end
 simp only [ok_sameAns, Bool.and_eq_true, decide_eq_true_eq] at hok
 have hb := hok
 refine meets_start (sz := 26) hP Try.func15 rfl rfl zo (by simp only [Tr.ofList, roRows, Nat.zero_add, Nat.reduceAdd] <;> rfl) zl ?_
 refine k_seq ?_
 refine k_region hP hC ?_
 refine os (x_assign rfl (by rfl)) ?_
 refine o_done ?_
 refine e_seq ?_
 refine k_seq ?_
 refine k_seq ?_
 refine k_region hP hC ?_
 refine os (x_move rfl zt) ?_
 refine os (x_lenS hs_L rfl rfl zv rfl Try.underlying23) ?_
 refine os (x_move rfl zt) ?_
 refine os (x_lenS hs_M rfl rfl zv rfl Try.underlying23) ?_
 refine os (x_bin rfl zt zt b_neq) ?_
 refine o_done ?_
 refine e_seq ?_
 refine k_cond zt (fun g2 => ?_) (fun g2 => ?_)
 ·have p2 := g2; try simp only [d1, d2, d3, d4, d5, d6, d7, d8, d9] at p2
  refine k_seq ?_
  refine k_region hP hC ?_
  refine os (x_assign rfl (by rfl)) ?_
  refine o_done ?_
  refine e_seq ?_
  refine k_ret ?_
  refine e_seq_ret ?_
  refine gives_mk (L := [0, 1]) (slots := [4]) (w := 2) (.inr rfl) zr (gcVs_cons zh (gcV_free rfl) gcVs_nil) (gcH_cons (gcO_old (by rfl) zh) (gcH_cons (gcO_old (by rfl) zh) gcH_nil)) zr (by simp only [Try.results15, resA, cst, mkE, Tr.get_set, reduceIte, Nat.reduceEqDiff, Nat.reduceAdd] <;> rfl) ?_
  simp only [one, val_sameAns]; first | rw [eqR_len h_L (by assumption)] | rw [eqR_end h_L (by assumption) (by omega) h2] | rw [eqR_diff h_L (by omega) (by omega) (by assumption)]
 ·have p2 := g2; try simp only [d1, d2, d3, d4, d5, d6, d7, d8, d9] at p2
  refine k_skip ?_
  refine e_seq ?_
  refine k_seq ?_
  refine k_seq ?_
  refine k_region hP hC ?_
  refine os (x_assign rfl (by rfl)) ?_
  refine o_done ?_
  refine e_seq ?_
  refine k_block ?_
  refine k_loop (α := Int) (fun i => cst 26 [0, 1, 5] [s_L, s_M, .int .i64 i] [.row L.flatten 0 BIG true L.flatten.length, .row M.flatten 1 BIG true M.flatten.length] 2) (fun i => 0 ≤ i ∧ i ≤ L.length ∧ L.take i.toNat = M.take i.toNat) (fun i => (L.length - i).toNat) 0 (to_mk (L := [0, 1]) (slots := [0, 1, 5]) (w := 2) zr (gcVs_cons zh (gcV_sl hs_L rfl) (gcVs_cons zh (gcV_sl hs_M rfl) (gcVs_cons zh (gcV_free rfl) gcVs_nil))) (gcH_cons (gcO_old (by rfl) zh) (gcH_cons (gcO_old (by rfl) zh) gcH_nil)) zr) ⟨by omega, by omega, by simp⟩ ?_
  rintro i ⟨h0, h1, h2⟩
  refine k_cst zm zo zl ?_
  refine k_seq ?_
  refine k_seq ?_
  refine k_region hP hC ?_
  refine os (x_move rfl zt) ?_
  refine os (x_move rfl zt) ?_
  refine os (x_lenS hs_L rfl rfl zv rfl Try.underlying23) ?_
  refine os (x_bin rfl zt zt b_lss) ?_
  refine o_done ?_
  refine e_seq ?_
  refine k_cond zt (fun g4 => ?_) (fun g4 => ?_)
  ·have p4 := g4; try simp only [d1, d2, d3, d4, d5, d6, d7, d8, d9] at p4
   refine k_skip ?_
   refine e_seq ?_
   refine k_seq ?_
   refine k_block ?_
   refine k_seq ?_
   refine k_draw hP hC zr ?_
   refine ds (x_move rfl zt) ?_
   refine ds (x_move rfl zt) ?_
   refine ds (x_indexS hs_L rfl zt zt Try.underlying23 T.s43 (by omega) (by omega)) ?_
   refine ds (x_loadA rfl zt T.g43 T.s43 (l_elem (whole_row zh rfl) (by assumption) rfl (by omega) (by omega))) ?_
   refine ds (x_move rfl zt) ?_
   refine ds (x_move rfl zt) ?_
   refine ds (x_indexS hs_M rfl zt zt Try.underlying23 T.s43 (by omega) (by omega)) ?_
   refine ds (x_loadA rfl zt T.g43 T.s43 (l_elem (whole_row zh rfl) (by assumption) rfl (by omega) (by omega))) ?_
   refine ds (x_bin rfl zt zt (b_neqA (by decide) T.f43 T.g43 T.q43 zc zc)) ?_
   refine d_done ⟨by kernel_rfl, ?_⟩
   refine e_seq ?_
   refine k_cond (by simp only [Tr.get_set, reduceIte, Nat.reduceEqDiff, Nat.reduceAdd, ev_tmp, g4] <;> rfl) (fun g6 => ?_) (fun g6 => ?_)
   ·have p6 := g6; try simp only [d1, d2, d3, d4, d5, d6, d7, d8, d9] at p6
    refine k_seq ?_
    refine k_region hP hC ?_
    refine os (x_assign rfl (by rfl)) ?_
    refine o_done ?_
    refine e_seq ?_
    refine k_ret ?_
    refine e_block_ret ?_
    refine e_seq_ret ?_
    refine e_loop_ret ?_
    refine e_block_ret ?_
    refine e_seq_ret ?_
    refine gives_mk (L := [0, 1]) (slots := [4]) (w := 2) (.inr rfl) zr (gcVs_cons zh (gcV_free rfl) gcVs_nil) (gcH_cons (gcO_old (by rfl) zh) (gcH_cons (gcO_old (by rfl) zh) gcH_nil)) zr (by simp only [Try.results15, resA, cst, mkE, Tr.get_set, reduceIte, Nat.reduceEqDiff, Nat.reduceAdd] <;> rfl) ?_
    simp only [one, val_sameAns]; first | rw [eqR_len h_L (by assumption)] | rw [eqR_end h_L (by assumption) (by omega) h2] | rw [eqR_diff h_L (by omega) (by omega) (by assumption)]
   ·have p6 := g6; try simp only [d1, d2, d3, d4, d5, d6, d7, d8, d9] at p6
    refine k_skip ?_
    refine e_block ?_
    refine e_seq ?_
    refine k_region hP hC ?_
    refine os (x_move rfl zt) ?_
    refine os (x_bin rfl zt (by rfl) b_add) ?_
    refine os (x_assign rfl zt) ?_
    refine o_done ?_
    refine e_loop ?_
    refine ⟨IntKind.i64.wrap (i + 1), (to_mk (L := [0, 1]) (slots := [0, 1, 5]) (w := 2) zr (gcVs_cons zh (gcV_sl hs_L rfl) (gcVs_cons zh (gcV_sl hs_M rfl) (gcVs_cons zh (gcV_free rfl) gcVs_nil))) (gcH_cons (gcO_old (by rfl) zh) (gcH_cons (gcO_old (by rfl) zh) gcH_nil)) zr), ?_, ?_⟩
    ·rw [wr1 (by omega) (by omega)]; exact ⟨by omega, by omega, eqR_next h_L (by assumption) (by omega) (by omega) h2 (by assumption)⟩
    ·rw [wr1 (by omega) (by omega)]; omega
  ·have p4 := g4; try simp only [d1, d2, d3, d4, d5, d6, d7, d8, d9] at p4
   refine k_exit ?_
   refine e_seq_exit ?_
   refine e_loop_exit ?_
   refine e_block_eq ?_
   refine e_seq ?_
   refine k_seq ?_
   refine k_region hP hC ?_
   refine os (x_assign rfl (by rfl)) ?_
   refine o_done ?_
   refine e_seq ?_
   refine k_ret ?_
   refine gives_mk (L := [0, 1]) (slots := [4]) (w := 2) (.inr rfl) zr (gcVs_cons zh (gcV_free rfl) gcVs_nil) (gcH_cons (gcO_old (by rfl) zh) (gcH_cons (gcO_old (by rfl) zh) gcH_nil)) zr (by simp only [Try.results15, resA, cst, mkE, Tr.get_set, reduceIte, Nat.reduceEqDiff, Nat.reduceAdd] <;> rfl) ?_
   simp only [one, val_sameAns]; first | rw [eqR_len h_L (by assumption)] | rw [eqR_end h_L (by assumption) (by omega) h2] | rw [eqR_diff h_L (by omega) (by omega) (by assumption)]
theorem con_sameAns : Con Try.prog 15 c_sameAns := con_flat Try.func15 rfl fun us cs v new h => by
 unfold spec_sameAns at h
 split at h
 case h_2 => cases h
 rename_i s_L s_M c_L c_M
 split at h
 case isFalse => cases h
 rename_i hc
 try simp only [Bool.and_eq_true] at hc
 obtain ⟨⟨⟨⟨q_L, r_L⟩, q_M⟩, r_M⟩, hok⟩ := hc
 cases h
 obtain ⟨h_L, e_L⟩ := isRows_cfs (by decide) r_L
 have hs_L := slOk_sl (n := (chunks 46 c_L).length) q_L (by decide) (rows_len (ks := T.K43) (by decide) r_L)
 obtain ⟨h_M, e_M⟩ := isRows_cfs (by decide) r_M
 have hs_M := slOk_sl (n := (chunks 46 c_M).length) q_M (by decide) (rows_len (ks := T.K43) (by decide) r_M)
 have key := sameAns_m hs_L h_L hs_M h_M hok
 have hrows : [(chunks T.K43.length c_L).flatten, (chunks T.K43.length c_M).flatten] = [c_L, c_M] := by rw [e_L, e_M]
 rw [← hrows]
 exact key
theorem sameAns_c {H : AH} {s_L : Value} {s_M : Value} {L : List (List Value)} {M : List (List Value)} (hr_L : Rd H 46 s_L L.length L.flatten) (h_L : cfs T.K43 L) (hr_M : Rd H 46 s_M M.length M.flatten) (h_M : cfs T.K43 M) (hok : ok_sameAns L M = true) : c_sameAns [s_L, s_M] H = some (.bool (sameR L M), H) := by
 obtain ⟨u_L, a_L, b_L⟩ := hr_L 0
 obtain ⟨u_M, a_M, b_M⟩ := hr_M 1
 have k_L := isRows_flat (by decide) h_L
 have k2_L : chunks 46 L.flatten = L := k_L.2
 have k_M := isRows_flat (by decide) h_M
 have k2_M : chunks 46 M.flatten = M := k_M.2
 exact flatC_at (v := val_sameAns L M) (new := new_sameAns L M) (cl_sl a_L (cl_sl a_M cl_nil)) (by simp only [spec_sameAns, sl_slOk b_L (cfs_len h_L), k_L.1, k2_L, sl_slOk b_M (cfs_len h_M), k_M.1, k2_M, hok, Bool.and_self, if_true]) (rfl) (gcV_free rfl)
def ok_possible (L : List (List Value)) : Bool := decide (L.length < 4611686018427387904)
def val_possible (L : List (List Value)) : Value := .bool (possL L)
def new_possible (L : List (List Value)) : List (List Value) := []
def spec_possible : Go.AM.Spec := fun us cs => match us, cs with
 | [s_L], [c_L] => if slOk 0 46 c_L s_L && isRows T.K43 c_L && ok_possible (chunks 46 c_L) then some (val_possible (chunks 46 c_L), new_possible (chunks 46 c_L)) else none
 | _, _ => none
def c_possible := flatC [.sl 46] spec_possible
theorem possible_m {s_L : Value} {L : List (List Value)} (hs_L : Sl 0 46 L.length s_L) (h_L : cfs T.K43 L) (hok : ok_possible L = true) : Meets Try.prog (.func 42) [s_L] (cheap [L.flatten]) (val_possible L) (rheap [L.flatten] (new_possible L)) := by
 have hP := Fits
 have hC : CallSound Try.prog (tabOf [(54, c_possible1)]) := tab_sound (tab_cons con_possible1 tab_end)
 simp only [ok_possible, Bool.and_eq_true, decide_eq_true_eq] at hok
 have hb := hok
 refine meets_start (sz := 16) hP Try.func42 rfl rfl zo (by simp only [Tr.ofList, roRows, Nat.zero_add, Nat.reduceAdd] <;> rfl) zl ?_
 refine k_seq ?_
 refine k_region hP hC ?_
 refine os (x_assign rfl (by rfl)) ?_
 refine o_done ?_
 refine e_seq ?_
 refine k_seq ?_
 refine k_seq ?_
 refine k_region hP hC ?_
 refine os (x_assign rfl (by rfl)) ?_
 refine o_done ?_
 refine e_seq ?_
 refine k_block ?_
 refine k_loop (α := Int) (fun i => cst 16 [0, 3] [s_L, .int .i64 i] [.row L.flatten 0 BIG true L.flatten.length] 1) (fun i => 0 ≤ i ∧ i ≤ L.length ∧ (L.take i.toNat).all (fun a => !oddC a) = true) (fun i => (L.length - i).toNat) 0 (to_mk (L := [0]) (slots := [0, 3]) (w := 1) zr (gcVs_cons zh (gcV_sl hs_L rfl) (gcVs_cons zh (gcV_free rfl) gcVs_nil)) (gcH_cons (gcO_old (by rfl) zh) gcH_nil) zr) ⟨by omega, by omega, by simp⟩ ?_
 rintro i ⟨h0, h1, h2⟩
 refine k_cst zm zo zl ?_
 refine k_seq ?_
 refine k_seq ?_
 refine k_region hP hC ?_
 refine os (x_move rfl zt) ?_
 refine os (x_move rfl zt) ?_
 refine os (x_lenS hs_L rfl rfl zv rfl Try.underlying23) ?_
 refine os (x_bin rfl zt zt b_lss) ?_
 refine o_done ?_
 refine e_seq ?_
 refine k_cond zt (fun g2 => ?_) (fun g2 => ?_)
 ·have p2 := g2; try simp only [d1, d2, d3, d4, d5, d6, d7, d8, d9] at p2
  refine k_skip ?_
  refine e_seq ?_
  refine k_seq ?_
  refine k_block ?_
  refine k_seq ?_
  refine k_region hP hC ?_
  refine os (x_move rfl zt) ?_
  refine os (x_move rfl zt) ?_
  refine os (x_indexS hs_L rfl zt zt Try.underlying23 T.s43 (by omega) (by omega)) ?_
  refine os (x_loadA rfl zt T.g43 T.s43 (l_elem (whole_row zh rfl) (by assumption) rfl (by omega) (by omega))) ?_
  refine o_call0 (wA_none rfl) rfl rfl rfl zv (by decide) ?_
  refine ⟨_, _, (tab_hit.trans (possible1_c (cf_nth h_L (by omega) (by omega)) rfl)), ?_⟩
  refine os (x_not rfl (by simp only [Tr.get_set, reduceIte, Nat.reduceEqDiff, Nat.reduceAdd, ev_tmp, g2] <;> rfl)) ?_
  refine o_done ?_
  refine e_seq ?_
  refine k_cond (by simp only [Tr.get_set, reduceIte, Nat.reduceEqDiff, Nat.reduceAdd, ev_tmp, g2] <;> rfl) (fun g5 => ?_) (fun g5 => ?_)
  ·have p5 := g5; try simp only [d1, d2, d3, d4, d5, d6, d7, d8, d9] at p5
   refine k_seq ?_
   refine k_region hP hC ?_
   refine os (x_assign rfl (by rfl)) ?_
   refine o_done ?_
   refine e_seq ?_
   refine k_ret ?_
   refine e_block_ret ?_
   refine e_seq_ret ?_
   refine e_loop_ret ?_
   refine e_block_ret ?_
   refine e_seq_ret ?_
   refine gives_mk (L := [0]) (slots := [2]) (w := 1) (.inr rfl) zr (gcVs_cons zh (gcV_free rfl) gcVs_nil) (gcH_cons (gcO_old (by rfl) zh) gcH_nil) zr (by simp only [Try.results42, resA, cst, mkE, Tr.get_set, reduceIte, Nat.reduceEqDiff, Nat.reduceAdd] <;> rfl) ?_
   simp only [one, val_possible, possL]; first | rw [all_end (by omega) h2] | rw [all_no (by omega) (by omega) (by simpa using g5)]
  ·have p5 := g5; try simp only [d1, d2, d3, d4, d5, d6, d7, d8, d9] at p5
   refine k_skip ?_
   refine e_block ?_
   refine e_seq ?_
   refine k_region hP hC ?_
   refine os (x_move rfl zt) ?_
   refine os (x_bin rfl zt (by rfl) b_add) ?_
   refine os (x_assign rfl zt) ?_
   refine o_done ?_
   refine e_loop ?_
   refine ⟨IntKind.i64.wrap (i + 1), (to_mk (L := [0]) (slots := [0, 3]) (w := 1) zr (gcVs_cons zh (gcV_sl hs_L rfl) (gcVs_cons zh (gcV_free rfl) gcVs_nil)) (gcH_cons (gcO_old (by rfl) zh) gcH_nil) zr), ?_, ?_⟩
   ·rw [wr1 (by omega) (by omega)]; exact ⟨by omega, by omega, all_next (by omega) (by omega) h2 (by simpa using g5)⟩
   ·rw [wr1 (by omega) (by omega)]; omega
 ·have p2 := g2; try simp only [d1, d2, d3, d4, d5, d6, d7, d8, d9] at p2
  refine k_exit ?_
  refine e_seq_exit ?_
  refine e_loop_exit ?_
  refine e_block_eq ?_
  refine e_seq ?_
  refine k_seq ?_
  refine k_region hP hC ?_
  refine os (x_assign rfl (by rfl)) ?_
  refine o_done ?_
  refine e_seq ?_
  refine k_ret ?_
  refine gives_mk (L := [0]) (slots := [2]) (w := 1) (.inr rfl) zr (gcVs_cons zh (gcV_free rfl) gcVs_nil) (gcH_cons (gcO_old (by rfl) zh) gcH_nil) zr (by simp only [Try.results42, resA, cst, mkE, Tr.get_set, reduceIte, Nat.reduceEqDiff, Nat.reduceAdd] <;> rfl) ?_
  simp only [one, val_possible, possL]; first | rw [all_end (by omega) h2] | rw [all_no (by omega) (by omega) (by simpa using g2)]
theorem con_possible : Con Try.prog 42 c_possible := con_flat Try.func42 rfl fun us cs v new h => by
 unfold spec_possible at h
 split at h
 case h_2 => cases h
 rename_i s_L c_L
 split at h
 case isFalse => cases h
 rename_i hc
 try simp only [Bool.and_eq_true] at hc
 obtain ⟨⟨q_L, r_L⟩, hok⟩ := hc
 cases h
 obtain ⟨h_L, e_L⟩ := isRows_cfs (by decide) r_L
 have hs_L := slOk_sl (n := (chunks 46 c_L).length) q_L (by decide) (rows_len (ks := T.K43) (by decide) r_L)
 have key := possible_m hs_L h_L hok
 have hrows : [(chunks T.K43.length c_L).flatten] = [c_L] := by rw [e_L]
 rw [← hrows]
 exact key
theorem possible_c {H : AH} {s_L : Value} {L : List (List Value)} (hr_L : Rd H 46 s_L L.length L.flatten) (h_L : cfs T.K43 L) (hok : ok_possible L = true) : c_possible [s_L] H = some (.bool (possL L), H) := by
 obtain ⟨u_L, a_L, b_L⟩ := hr_L 0
 have k_L := isRows_flat (by decide) h_L
 have k2_L : chunks 46 L.flatten = L := k_L.2
 exact flatC_at (v := val_possible L) (new := new_possible L) (cl_sl a_L cl_nil) (by simp only [spec_possible, sl_slOk b_L (cfs_len h_L), k_L.1, k2_L, hok, Bool.and_self, if_true]) (rfl) (gcV_free rfl)
def ok_clashes33 (L : List (List Value)) : Bool := decide (L.length ≤ 1000)
def val_clashes33 (L : List (List Value)) : Value := outV 1 2 (clashesL L).length
def new_clashes33 (L : List (List Value)) : List (List Value) := outN (clashesL L).length (clashesL L).flatten
def spec_clashes33 : Go.AM.Spec := fun us cs => match us, cs with
 | [s_L], [c_L] => if slOk 0 46 c_L s_L && isRows T.K43 c_L && ok_clashes33 (chunks 46 c_L) then some (val_clashes33 (chunks 46 c_L), new_clashes33 (chunks 46 c_L)) else none
 | _, _ => none
def c_clashes33 := flatC [.sl 46] spec_clashes33
theorem clashes33_m {s_L : Value} {L : List (List Value)} (hs_L : Sl 0 46 L.length s_L) (h_L : cfs T.K43 L) (hok : ok_clashes33 L = true) : Meets Try.prog (.func 11) [s_L] (cheap [L.flatten]) (val_clashes33 L) (rheap [L.flatten] (new_clashes33 L)) := by
 have hP := Fits
 have hC : CallSound Try.prog (tabOf [(13, c_clash33)]) := tab_sound (tab_cons con_clash33 tab_end)
 simp only [ok_clashes33, Bool.and_eq_true, decide_eq_true_eq] at hok
 have hb := hok
 refine meets_start (sz := 36) hP Try.func11 rfl rfl zo (by simp only [Tr.ofList, roRows, Nat.zero_add, Nat.reduceAdd] <;> rfl) zl ?_
 refine k_seq ?_
 refine k_region hP hC ?_
 refine os (x_assign rfl (by rfl)) ?_
 refine o_done ?_
 refine e_seq ?_
 refine k_seq ?_
 refine k_region hP hC ?_
 refine os (x_assign rfl (by rfl)) ?_
 refine o_done ?_
 refine e_seq ?_
 refine k_seq ?_
 refine k_seq ?_
 refine k_region hP hC ?_
 refine os (x_assign rfl (by rfl)) ?_
 refine o_done ?_
 refine e_seq ?_
 refine k_block ?_
 refine k_loop (α := Bool × Int × List (List Value)) (fun z => match z with | (false, i, acc) => cst 36 [0, 3, 4] [s_L, .slice none 0 0, .int .i64 i] [.row L.flatten 0 BIG true L.flatten.length] 1 | (true, i, acc) => cst 36 [0, 3, 4] [s_L, .slice (some ⟨1, 0, none⟩) acc.length (acc.length + 2), .int .i64 i] [.row L.flatten 0 BIG true L.flatten.length, .row acc.flatten 1 BIG false acc.flatten.length] 1) (fun z => match z with | (b, i, acc) => 0 ≤ i ∧ i ≤ L.length ∧ acc = clO L i ∧ acc.isEmpty = !b ∧ cfs T.K71 acc) (fun z => match z with | (_, i, _) => (L.length - i).toNat) (false, 0, []) (to_mk (L := [0]) (slots := [0, 3, 4]) (w := 1) zr (gcVs_cons zh (gcV_sl hs_L rfl) (gcVs_cons zh (gcV_free rfl) (gcVs_cons zh (gcV_free rfl) gcVs_nil))) (gcH_cons (gcO_old (by rfl) zh) gcH_nil) zr) ⟨by omega, by omega, rfl, rfl, cfs_nil⟩ ?_
 rintro ⟨_ | _, i, acc⟩ ⟨h0, h1, h2, h3, hc⟩
 ·skip
  have hacc : acc = [] := List.isEmpty_iff.1 h3
  refine k_cst zm zo zl ?_
  refine k_seq ?_
  refine k_seq ?_
  refine k_region hP hC ?_
  refine os (x_move rfl zt) ?_
  refine os (x_move rfl zt) ?_
  refine os (x_lenS hs_L rfl rfl zv rfl Try.underlying23) ?_
  refine os (x_bin rfl zt zt b_lss) ?_
  refine o_done ?_
  refine e_seq ?_
  refine k_cond zt (fun g2 => ?_) (fun g2 => ?_)
  ·have p2 := g2; try simp only [d1, d2, d3, d4, d5, d6, d7, d8, d9] at p2
   refine k_skip ?_
   refine e_seq ?_
   refine k_seq ?_
   refine k_block ?_
   refine k_seq ?_
   refine k_region hP hC ?_
   refine os (x_move rfl zt) ?_
   refine os (x_bin rfl zt (by rfl) b_add) ?_
   refine os (x_assign rfl zt) ?_
   refine o_done ?_
   refine e_seq ?_
   refine k_block ?_
   refine k_loop (α := Bool × Int × List (List Value)) (fun z => match z with | (false, k, acc) => cst 36 [0, 3, 4, 5] [s_L, .slice none 0 0, .int .i64 i, .int .i64 k] [.row L.flatten 0 BIG true L.flatten.length] 1 | (true, k, acc) => cst 36 [0, 3, 4, 5] [s_L, .slice (some ⟨1, 0, none⟩) acc.length (acc.length + 2), .int .i64 i, .int .i64 k] [.row L.flatten 0 BIG true L.flatten.length, .row acc.flatten 1 BIG false acc.flatten.length] 1) (fun z => match z with | (b, k, acc) => i < k ∧ k ≤ L.length ∧ acc = clO L i ++ clI L i k ∧ acc.isEmpty = !b ∧ cfs T.K71 acc) (fun z => match z with | (_, k, _) => (L.length - k).toNat) (false, IntKind.i64.wrap (i + 1), acc) (to_mk (L := [0]) (slots := [0, 3, 4, 5]) (w := 1) zr (gcVs_cons zh (gcV_sl hs_L rfl) (gcVs_cons zh (gcV_free rfl) (gcVs_cons zh (gcV_free rfl) (gcVs_cons zh (gcV_free rfl) gcVs_nil)))) (gcH_cons (gcO_old (by rfl) zh) gcH_nil) zr) ?_ ?_
   ·show i < IntKind.i64.wrap (i + 1) ∧ _; rw [wr1 (by omega) (by omega)]; exact ⟨by omega, by omega, by rw [clI_start h0, List.append_nil]; exact h2, h3, hc⟩
   clear h2 h3 hc
   rintro ⟨_ | _, k, acc⟩ ⟨h4, h5, h2, h3, hc⟩
   ·skip
    have hacc : acc = [] := List.isEmpty_iff.1 h3
    refine k_cst zm zo zl ?_
    refine k_seq ?_
    refine k_seq ?_
    refine k_region hP hC ?_
    refine os (x_move rfl zt) ?_
    refine os (x_move rfl zt) ?_
    refine os (x_lenS hs_L rfl rfl zv rfl Try.underlying23) ?_
    refine os (x_bin rfl zt zt b_lss) ?_
    refine o_done ?_
    refine e_seq ?_
    refine k_cond zt (fun g4 => ?_) (fun g4 => ?_)
    ·have p4 := g4; try simp only [d1, d2, d3, d4, d5, d6, d7, d8, d9] at p4
     refine k_skip ?_
     refine e_seq ?_
     refine k_seq ?_
     refine k_block ?_
     refine k_seq ?_
     refine k_draw hP hC zr ?_
     refine ds (x_move rfl zt) ?_
     refine ds (x_move rfl zt) ?_
     refine ds (x_indexS hs_L rfl zt zt Try.underlying23 T.s43 (by omega) (by omega)) ?_
     refine ds (x_loadA rfl zt T.g43 T.s43 (l_elem (whole_row zh rfl) (by assumption) rfl (by omega) (by omega))) ?_
     refine ds (x_move rfl zt) ?_
     refine ds (x_move rfl zt) ?_
     refine ds (x_indexS hs_L rfl zt zt Try.underlying23 T.s43 (by omega) (by omega)) ?_
     refine ds (x_loadA rfl zt T.g43 T.s43 (l_elem (whole_row zh rfl) (by assumption) rfl (by omega) (by omega))) ?_
     refine d_call0 (wA_none rfl) rfl rfl rfl zv (by decide) ?_
     refine ⟨_, _, _, _, (tab_hit.trans (clash33_c (cf_nth h_L (by omega) (by omega)) (cf_nth h_L (by omega) (by omega)) rfl)), ?_⟩
     refine d_done ⟨by kernel_rfl, ?_⟩
     refine e_seq ?_
     refine k_cond (by simp only [Tr.get_set, reduceIte, Nat.reduceEqDiff, Nat.reduceAdd, ev_tmp, g4] <;> rfl) (fun g6 => ?_) (fun g6 => ?_)
     ·have p6 := g6; try simp only [d1, d2, d3, d4, d5, d6, d7, d8, d9] at p6
      refine k_region hP hC ?_
      refine os (x_move rfl zt) ?_
      refine os (x_move rfl zt) ?_
      refine os (x_move rfl zt) ?_
      refine os (x_build (v := .agg ⟨[.int .i64 i, .int .i64 k]⟩) rfl zp T.z71 rfl zr) ?_
      refine os (y_bsliceA rfl zt Try.underlying29 T.s71 T.z71 (by decide) rfl rfl (cf_len (ks := T.K71) (by first | rfl | assumption | (apply cf_part; (first | assumption | (exact cf_nth (by assumption) (by omega) (by omega))); rfl) | (exact cf_nth (by assumption) (by omega) (by omega)))) (by decide)) ?_
      refine os (x_append rfl rfl zv rfl rfl zr (cells_row Try.underlying29 T.s71 (l_all (whole_row zh rfl) rfl)) (ya_nil Try.underlying29 T.i29 (by decide) rfl (by decide) (by decide) rfl (by decide))) ?_
      refine os (x_assign rfl zt) ?_
      refine o_done ?_
      refine e_block ?_
      refine e_seq ?_
      refine k_region hP hC ?_
      refine os (x_move rfl zt) ?_
      refine os (x_bin rfl zt (by rfl) b_add) ?_
      refine os (x_assign rfl zt) ?_
      refine o_done ?_
      refine e_loop ?_
      refine ⟨(true, IntKind.i64.wrap (k + 1), [[Value.int .i64 i, Value.int .i64 k]]), (to_mk (L := [0, 2]) (slots := [0, 3, 4, 5]) (w := 1) zr (gcVs_cons zh (gcV_sl hs_L rfl) (gcVs_cons zh (gcV_slice rfl) (gcVs_cons zh (gcV_free rfl) (gcVs_cons zh (gcV_free rfl) gcVs_nil)))) (gcH_cons (gcO_old (by rfl) zh) (gcH_cons (gcO_rowE (by rfl) zh (gcD_free rfl) (by simp only [List.flatten_append, List.flatten_cons, List.flatten_nil, List.append_nil, List.nil_append])) gcH_nil)) zr), ?_, ?_⟩
      ·show i < IntKind.i64.wrap (k + 1) ∧ _; rw [wr1 (by omega) (by omega)]; refine ⟨by omega, by omega, ?_, ?_, ?_⟩
       ·show [[Value.int .i64 i, Value.int .i64 k]] = _; rw [clI_hit h0 (by omega) (by assumption), ← List.append_assoc, ← h2]; rw [hacc]; rfl
       ·rfl
       ·exact cfs_one rfl
      ·show (L.length - IntKind.i64.wrap (k + 1)).toNat < (L.length - k).toNat; rw [wr1 (by omega) (by omega)]; omega
     ·have p6 := g6; try simp only [d1, d2, d3, d4, d5, d6, d7, d8, d9] at p6
      refine k_skip ?_
      refine e_block ?_
      refine e_seq ?_
      refine k_region hP hC ?_
      refine os (x_move rfl zt) ?_
      refine os (x_bin rfl zt (by rfl) b_add) ?_
      refine os (x_assign rfl zt) ?_
      refine o_done ?_
      refine e_loop ?_
      refine ⟨(false, IntKind.i64.wrap (k + 1), acc), (to_mk (L := [0]) (slots := [0, 3, 4, 5]) (w := 1) zr (gcVs_cons zh (gcV_sl hs_L rfl) (gcVs_cons zh (gcV_free rfl) (gcVs_cons zh (gcV_free rfl) (gcVs_cons zh (gcV_free rfl) gcVs_nil)))) (gcH_cons (gcO_old (by rfl) zh) gcH_nil) zr), ?_, ?_⟩
      ·show i < IntKind.i64.wrap (k + 1) ∧ _; rw [wr1 (by omega) (by omega)]; refine ⟨by omega, by omega, ?_, ?_, ?_⟩
       ·rw [clI_skip (by omega) (by assumption)]; exact h2
       ·exact h3
       ·exact hc
      ·show (L.length - IntKind.i64.wrap (k + 1)).toNat < (L.length - k).toNat; rw [wr1 (by omega) (by omega)]; omega
    ·have p4 := g4; try simp only [d1, d2, d3, d4, d5, d6, d7, d8, d9] at p4
     refine k_exit ?_
     refine e_seq_exit ?_
     refine e_loop_exit ?_
     refine e_block_eq ?_
     refine e_block ?_
     refine e_seq ?_
     refine k_region hP hC ?_
     refine os (x_move rfl zt) ?_
     refine os (x_bin rfl zt (by rfl) b_add) ?_
     refine os (x_assign rfl zt) ?_
     refine o_done ?_
     refine e_loop ?_
     refine ⟨(false, IntKind.i64.wrap (i + 1), acc), (to_mk (L := [0]) (slots := [0, 3, 4]) (w := 1) zr (gcVs_cons zh (gcV_sl hs_L rfl) (gcVs_cons zh (gcV_free rfl) (gcVs_cons zh (gcV_free rfl) gcVs_nil))) (gcH_cons (gcO_old (by rfl) zh) gcH_nil) zr), ?_, ?_⟩
     ·show 0 ≤ IntKind.i64.wrap (i + 1) ∧ _; rw [wr1 (by omega) (by omega)]; refine ⟨by omega, by omega, ?_, h3, ?_⟩
      ·rw [clO_next h0]; have hkn : k = L.length := by omega
       rw [hkn] at h2; exact h2
      ·exact hc
     ·show (L.length - IntKind.i64.wrap (i + 1)).toNat < (L.length - i).toNat; rw [wr1 (by omega) (by omega)]; omega
   ·skip
    have hal : acc.length ≤ 2000000 := by rw [h2, List.length_append]; have q1 := @clO_len L i; have q2 := @clI_len L i k; have q3 : i.toNat * L.length ≤ 1000 * 1000 := Nat.mul_le_mul (by omega) hb; omega
    refine k_cst zm zo zl ?_
    refine k_seq ?_
    refine k_seq ?_
    refine k_region hP hC ?_
    refine os (x_move rfl zt) ?_
    refine os (x_move rfl zt) ?_
    refine os (x_lenS hs_L rfl rfl zv rfl Try.underlying23) ?_
    refine os (x_bin rfl zt zt b_lss) ?_
    refine o_done ?_
    refine e_seq ?_
    refine k_cond zt (fun g8 => ?_) (fun g8 => ?_)
    ·have p8 := g8; try simp only [d1, d2, d3, d4, d5, d6, d7, d8, d9] at p8
     refine k_skip ?_
     refine e_seq ?_
     refine k_seq ?_
     refine k_block ?_
     refine k_seq ?_
     refine k_draw hP hC zr ?_
     refine ds (x_move rfl zt) ?_
     refine ds (x_move rfl zt) ?_
     refine ds (x_indexS hs_L rfl zt zt Try.underlying23 T.s43 (by omega) (by omega)) ?_
     refine ds (x_loadA rfl zt T.g43 T.s43 (l_elem (whole_row zh rfl) (by assumption) rfl (by omega) (by omega))) ?_
     refine ds (x_move rfl zt) ?_
     refine ds (x_move rfl zt) ?_
     refine ds (x_indexS hs_L rfl zt zt Try.underlying23 T.s43 (by omega) (by omega)) ?_
     refine ds (x_loadA rfl zt T.g43 T.s43 (l_elem (whole_row zh rfl) (by assumption) rfl (by omega) (by omega))) ?_
     refine d_call0 (wA_none rfl) rfl rfl rfl zv (by decide) ?_
     refine ⟨_, _, _, _, (tab_hit.trans (clash33_c (cf_nth h_L (by omega) (by omega)) (cf_nth h_L (by omega) (by omega)) rfl)), ?_⟩
     refine d_done ⟨by kernel_rfl, ?_⟩
     refine e_seq ?_
     refine k_cond (by simp only [Tr.get_set, reduceIte, Nat.reduceEqDiff, Nat.reduceAdd, ev_tmp, g8] <;> rfl) (fun g10 => ?_) (fun g10 => ?_)
     ·have p10 := g10; try simp only [d1, d2, d3, d4, d5, d6, d7, d8, d9] at p10
      refine k_region hP hC ?_
      refine os (x_move rfl zt) ?_
      refine os (x_move rfl zt) ?_
      refine os (x_move rfl zt) ?_
      refine os (x_build (v := .agg ⟨[.int .i64 i, .int .i64 k]⟩) rfl zp T.z71 rfl zr) ?_
      refine os (y_bsliceA rfl zt Try.underlying29 T.s71 T.z71 (by decide) rfl rfl (cf_len (ks := T.K71) (by first | rfl | assumption | (apply cf_part; (first | assumption | (exact cf_nth (by assumption) (by omega) (by omega))); rfl) | (exact cf_nth (by assumption) (by omega) (by omega)))) (by decide)) ?_
      refine os (x_append rfl rfl zv rfl rfl zr (cells_row Try.underlying29 T.s71 (l_all (whole_row zh rfl) rfl)) (ya_own Try.underlying29 T.i29 (by decide) rfl (by omega) (by unfold BIG; omega) rfl (by decide) zh rfl (cfs_len hc))) ?_
      refine os (x_assign rfl zt) ?_
      refine o_done ?_
      refine e_block ?_
      refine e_seq ?_
      refine k_region hP hC ?_
      refine os (x_move rfl zt) ?_
      refine os (x_bin rfl zt (by rfl) b_add) ?_
      refine os (x_assign rfl zt) ?_
      refine o_done ?_
      refine e_loop ?_
      refine ⟨(true, IntKind.i64.wrap (k + 1), (acc ++ [[Value.int .i64 i, Value.int .i64 k]])), (to_mk (L := [0, 3]) (slots := [0, 3, 4, 5]) (w := 1) zr (gcVs_cons zh (gcV_sl hs_L rfl) (gcVs_cons zh (gcV_sliceE rfl (by simp)) (gcVs_cons zh (gcV_free rfl) (gcVs_cons zh (gcV_free rfl) gcVs_nil)))) (gcH_cons (gcO_old (by rfl) zh) (gcH_cons (gcO_aliasE (by rfl) zh zh (gcD_free (by rw [List.all_append, cfs_free1 hc]; rfl)) (by simp only [List.flatten_append, List.flatten_cons, List.flatten_nil, List.append_nil, List.nil_append])) gcH_nil)) zr), ?_, ?_⟩
      ·show i < IntKind.i64.wrap (k + 1) ∧ _; rw [wr1 (by omega) (by omega)]; refine ⟨by omega, by omega, ?_, ?_, ?_⟩
       ·show (acc ++ [[Value.int .i64 i, Value.int .i64 k]]) = _; rw [clI_hit h0 (by omega) (by assumption), ← List.append_assoc, ← h2]
       ·simp
       ·exact cfs_append hc (cfs_one rfl)
      ·show (L.length - IntKind.i64.wrap (k + 1)).toNat < (L.length - k).toNat; rw [wr1 (by omega) (by omega)]; omega
     ·have p10 := g10; try simp only [d1, d2, d3, d4, d5, d6, d7, d8, d9] at p10
      refine k_skip ?_
      refine e_block ?_
      refine e_seq ?_
      refine k_region hP hC ?_
      refine os (x_move rfl zt) ?_
      refine os (x_bin rfl zt (by rfl) b_add) ?_
      refine os (x_assign rfl zt) ?_
      refine o_done ?_
      refine e_loop ?_
      refine ⟨(true, IntKind.i64.wrap (k + 1), acc), (to_mk (L := [0, 1]) (slots := [0, 3, 4, 5]) (w := 1) zr (gcVs_cons zh (gcV_sl hs_L rfl) (gcVs_cons zh (gcV_slice rfl) (gcVs_cons zh (gcV_free rfl) (gcVs_cons zh (gcV_free rfl) gcVs_nil)))) (gcH_cons (gcO_old (by rfl) zh) (gcH_cons (gcO_row (by rfl) zh (gcD_free (cfs_free1 hc))) gcH_nil)) zr), ?_, ?_⟩
      ·show i < IntKind.i64.wrap (k + 1) ∧ _; rw [wr1 (by omega) (by omega)]; refine ⟨by omega, by omega, ?_, ?_, ?_⟩
       ·rw [clI_skip (by omega) (by assumption)]; exact h2
       ·exact h3
       ·exact hc
      ·show (L.length - IntKind.i64.wrap (k + 1)).toNat < (L.length - k).toNat; rw [wr1 (by omega) (by omega)]; omega
    ·have p8 := g8; try simp only [d1, d2, d3, d4, d5, d6, d7, d8, d9] at p8
     refine k_exit ?_
     refine e_seq_exit ?_
     refine e_loop_exit ?_
     refine e_block_eq ?_
     refine e_block ?_
     refine e_seq ?_
     refine k_region hP hC ?_
     refine os (x_move rfl zt) ?_
     refine os (x_bin rfl zt (by rfl) b_add) ?_
     refine os (x_assign rfl zt) ?_
     refine o_done ?_
     refine e_loop ?_
     refine ⟨(true, IntKind.i64.wrap (i + 1), acc), (to_mk (L := [0, 1]) (slots := [0, 3, 4]) (w := 1) zr (gcVs_cons zh (gcV_sl hs_L rfl) (gcVs_cons zh (gcV_slice rfl) (gcVs_cons zh (gcV_free rfl) gcVs_nil))) (gcH_cons (gcO_old (by rfl) zh) (gcH_cons (gcO_row (by rfl) zh (gcD_free (cfs_free1 hc))) gcH_nil)) zr), ?_, ?_⟩
     ·show 0 ≤ IntKind.i64.wrap (i + 1) ∧ _; rw [wr1 (by omega) (by omega)]; refine ⟨by omega, by omega, ?_, h3, ?_⟩
      ·rw [clO_next h0]; have hkn : k = L.length := by omega
       rw [hkn] at h2; exact h2
      ·exact hc
     ·show (L.length - IntKind.i64.wrap (i + 1)).toNat < (L.length - i).toNat; rw [wr1 (by omega) (by omega)]; omega
  ·have p2 := g2; try simp only [d1, d2, d3, d4, d5, d6, d7, d8, d9] at p2
   refine k_exit ?_
   refine e_seq_exit ?_
   refine e_loop_exit ?_
   refine e_block_eq ?_
   refine e_seq ?_
   refine k_seq ?_
   refine k_region hP hC ?_
   refine os (x_move rfl zt) ?_
   refine os (x_assign rfl zt) ?_
   refine o_done ?_
   refine e_seq ?_
   refine k_ret ?_
   have hi : i = L.length := by omega
   rw [hi] at h2
   have h2 : acc = clashesL L := h2
   rw [hacc] at h2
   unfold val_clashes33 new_clashes33
   rw [← h2]
   refine gives_mk (L := [0]) (slots := [2]) (w := 1) (.inr rfl) zr (gcVs_cons zh (gcV_free rfl) gcVs_nil) (gcH_cons (gcO_old (by rfl) zh) gcH_nil) zr (by simp only [Try.results11, resA, cst, mkE, Tr.get_set, reduceIte, Nat.reduceEqDiff, Nat.reduceAdd] <;> rfl) ?_
   rfl
 ·skip
  refine k_cst zm zo zl ?_
  refine k_seq ?_
  refine k_seq ?_
  refine k_region hP hC ?_
  refine os (x_move rfl zt) ?_
  refine os (x_move rfl zt) ?_
  refine os (x_lenS hs_L rfl rfl zv rfl Try.underlying23) ?_
  refine os (x_bin rfl zt zt b_lss) ?_
  refine o_done ?_
  refine e_seq ?_
  refine k_cond zt (fun g12 => ?_) (fun g12 => ?_)
  ·have p12 := g12; try simp only [d1, d2, d3, d4, d5, d6, d7, d8, d9] at p12
   refine k_skip ?_
   refine e_seq ?_
   refine k_seq ?_
   refine k_block ?_
   refine k_seq ?_
   refine k_region hP hC ?_
   refine os (x_move rfl zt) ?_
   refine os (x_bin rfl zt (by rfl) b_add) ?_
   refine os (x_assign rfl zt) ?_
   refine o_done ?_
   refine e_seq ?_
   refine k_block ?_
   refine k_loop (α := Bool × Int × List (List Value)) (fun z => match z with | (false, k, acc) => cst 36 [0, 3, 4, 5] [s_L, .slice none 0 0, .int .i64 i, .int .i64 k] [.row L.flatten 0 BIG true L.flatten.length] 1 | (true, k, acc) => cst 36 [0, 3, 4, 5] [s_L, .slice (some ⟨1, 0, none⟩) acc.length (acc.length + 2), .int .i64 i, .int .i64 k] [.row L.flatten 0 BIG true L.flatten.length, .row acc.flatten 1 BIG false acc.flatten.length] 1) (fun z => match z with | (b, k, acc) => i < k ∧ k ≤ L.length ∧ acc = clO L i ++ clI L i k ∧ acc.isEmpty = !b ∧ cfs T.K71 acc) (fun z => match z with | (_, k, _) => (L.length - k).toNat) (true, IntKind.i64.wrap (i + 1), acc) (to_mk (L := [0, 1]) (slots := [0, 3, 4, 5]) (w := 1) zr (gcVs_cons zh (gcV_sl hs_L rfl) (gcVs_cons zh (gcV_slice rfl) (gcVs_cons zh (gcV_free rfl) (gcVs_cons zh (gcV_free rfl) gcVs_nil)))) (gcH_cons (gcO_old (by rfl) zh) (gcH_cons (gcO_row (by rfl) zh (gcD_free (cfs_free1 hc))) gcH_nil)) zr) ?_ ?_
   ·show i < IntKind.i64.wrap (i + 1) ∧ _; rw [wr1 (by omega) (by omega)]; exact ⟨by omega, by omega, by rw [clI_start h0, List.append_nil]; exact h2, h3, hc⟩
   clear h2 h3 hc
   rintro ⟨_ | _, k, acc⟩ ⟨h4, h5, h2, h3, hc⟩
   ·skip
    have hacc : acc = [] := List.isEmpty_iff.1 h3
    refine k_cst zm zo zl ?_
    refine k_seq ?_
    refine k_seq ?_
    refine k_region hP hC ?_
    refine os (x_move rfl zt) ?_
    refine os (x_move rfl zt) ?_
    refine os (x_lenS hs_L rfl rfl zv rfl Try.underlying23) ?_
    refine os (x_bin rfl zt zt b_lss) ?_
    refine o_done ?_
    refine e_seq ?_
    refine k_cond zt (fun g14 => ?_) (fun g14 => ?_)
    ·have p14 := g14; try simp only [d1, d2, d3, d4, d5, d6, d7, d8, d9] at p14
     refine k_skip ?_
     refine e_seq ?_
     refine k_seq ?_
     refine k_block ?_
     refine k_seq ?_
     refine k_draw hP hC zr ?_
     refine ds (x_move rfl zt) ?_
     refine ds (x_move rfl zt) ?_
     refine ds (x_indexS hs_L rfl zt zt Try.underlying23 T.s43 (by omega) (by omega)) ?_
     refine ds (x_loadA rfl zt T.g43 T.s43 (l_elem (whole_row zh rfl) (by assumption) rfl (by omega) (by omega))) ?_
     refine ds (x_move rfl zt) ?_
     refine ds (x_move rfl zt) ?_
     refine ds (x_indexS hs_L rfl zt zt Try.underlying23 T.s43 (by omega) (by omega)) ?_
     refine ds (x_loadA rfl zt T.g43 T.s43 (l_elem (whole_row zh rfl) (by assumption) rfl (by omega) (by omega))) ?_
     refine d_call0 (wA_none rfl) rfl rfl rfl zv (by decide) ?_
     refine ⟨_, _, _, _, (tab_hit.trans (clash33_c (cf_nth h_L (by omega) (by omega)) (cf_nth h_L (by omega) (by omega)) rfl)), ?_⟩
     refine d_done ⟨by kernel_rfl, ?_⟩
     refine e_seq ?_
     refine k_cond (by simp only [Tr.get_set, reduceIte, Nat.reduceEqDiff, Nat.reduceAdd, ev_tmp, g14] <;> rfl) (fun g16 => ?_) (fun g16 => ?_)
     ·have p16 := g16; try simp only [d1, d2, d3, d4, d5, d6, d7, d8, d9] at p16
      refine k_region hP hC ?_
      refine os (x_move rfl zt) ?_
      refine os (x_move rfl zt) ?_
      refine os (x_move rfl zt) ?_
      refine os (x_build (v := .agg ⟨[.int .i64 i, .int .i64 k]⟩) rfl zp T.z71 rfl zr) ?_
      refine os (y_bsliceA rfl zt Try.underlying29 T.s71 T.z71 (by decide) rfl rfl (cf_len (ks := T.K71) (by first | rfl | assumption | (apply cf_part; (first | assumption | (exact cf_nth (by assumption) (by omega) (by omega))); rfl) | (exact cf_nth (by assumption) (by omega) (by omega)))) (by decide)) ?_
      refine os (x_append rfl rfl zv rfl rfl zr (cells_row Try.underlying29 T.s71 (l_all (whole_row zh rfl) rfl)) (ya_nil Try.underlying29 T.i29 (by decide) rfl (by decide) (by decide) rfl (by decide))) ?_
      refine os (x_assign rfl zt) ?_
      refine o_done ?_
      refine e_block ?_
      refine e_seq ?_
      refine k_region hP hC ?_
      refine os (x_move rfl zt) ?_
      refine os (x_bin rfl zt (by rfl) b_add) ?_
      refine os (x_assign rfl zt) ?_
      refine o_done ?_
      refine e_loop ?_
      refine ⟨(true, IntKind.i64.wrap (k + 1), [[Value.int .i64 i, Value.int .i64 k]]), (to_mk (L := [0, 2]) (slots := [0, 3, 4, 5]) (w := 1) zr (gcVs_cons zh (gcV_sl hs_L rfl) (gcVs_cons zh (gcV_slice rfl) (gcVs_cons zh (gcV_free rfl) (gcVs_cons zh (gcV_free rfl) gcVs_nil)))) (gcH_cons (gcO_old (by rfl) zh) (gcH_cons (gcO_rowE (by rfl) zh (gcD_free rfl) (by simp only [List.flatten_append, List.flatten_cons, List.flatten_nil, List.append_nil, List.nil_append])) gcH_nil)) zr), ?_, ?_⟩
      ·show i < IntKind.i64.wrap (k + 1) ∧ _; rw [wr1 (by omega) (by omega)]; refine ⟨by omega, by omega, ?_, ?_, ?_⟩
       ·show [[Value.int .i64 i, Value.int .i64 k]] = _; rw [clI_hit h0 (by omega) (by assumption), ← List.append_assoc, ← h2]; rw [hacc]; rfl
       ·rfl
       ·exact cfs_one rfl
      ·show (L.length - IntKind.i64.wrap (k + 1)).toNat < (L.length - k).toNat; rw [wr1 (by omega) (by omega)]; omega
     ·have p16 := g16; try simp only [d1, d2, d3, d4, d5, d6, d7, d8, d9] at p16
      refine k_skip ?_
      refine e_block ?_
      refine e_seq ?_
      refine k_region hP hC ?_
      refine os (x_move rfl zt) ?_
      refine os (x_bin rfl zt (by rfl) b_add) ?_
      refine os (x_assign rfl zt) ?_
      refine o_done ?_
      refine e_loop ?_
      refine ⟨(false, IntKind.i64.wrap (k + 1), acc), (to_mk (L := [0]) (slots := [0, 3, 4, 5]) (w := 1) zr (gcVs_cons zh (gcV_sl hs_L rfl) (gcVs_cons zh (gcV_free rfl) (gcVs_cons zh (gcV_free rfl) (gcVs_cons zh (gcV_free rfl) gcVs_nil)))) (gcH_cons (gcO_old (by rfl) zh) gcH_nil) zr), ?_, ?_⟩
      ·show i < IntKind.i64.wrap (k + 1) ∧ _; rw [wr1 (by omega) (by omega)]; refine ⟨by omega, by omega, ?_, ?_, ?_⟩
       ·rw [clI_skip (by omega) (by assumption)]; exact h2
       ·exact h3
       ·exact hc
      ·show (L.length - IntKind.i64.wrap (k + 1)).toNat < (L.length - k).toNat; rw [wr1 (by omega) (by omega)]; omega
    ·have p14 := g14; try simp only [d1, d2, d3, d4, d5, d6, d7, d8, d9] at p14
     refine k_exit ?_
     refine e_seq_exit ?_
     refine e_loop_exit ?_
     refine e_block_eq ?_
     refine e_block ?_
     refine e_seq ?_
     refine k_region hP hC ?_
     refine os (x_move rfl zt) ?_
     refine os (x_bin rfl zt (by rfl) b_add) ?_
     refine os (x_assign rfl zt) ?_
     refine o_done ?_
     refine e_loop ?_
     refine ⟨(false, IntKind.i64.wrap (i + 1), acc), (to_mk (L := [0]) (slots := [0, 3, 4]) (w := 1) zr (gcVs_cons zh (gcV_sl hs_L rfl) (gcVs_cons zh (gcV_free rfl) (gcVs_cons zh (gcV_free rfl) gcVs_nil))) (gcH_cons (gcO_old (by rfl) zh) gcH_nil) zr), ?_, ?_⟩
     ·show 0 ≤ IntKind.i64.wrap (i + 1) ∧ _; rw [wr1 (by omega) (by omega)]; refine ⟨by omega, by omega, ?_, h3, ?_⟩
      ·rw [clO_next h0]; have hkn : k = L.length := by omega
       rw [hkn] at h2; exact h2
      ·exact hc
     ·show (L.length - IntKind.i64.wrap (i + 1)).toNat < (L.length - i).toNat; rw [wr1 (by omega) (by omega)]; omega
   ·skip
    have hal : acc.length ≤ 2000000 := by rw [h2, List.length_append]; have q1 := @clO_len L i; have q2 := @clI_len L i k; have q3 : i.toNat * L.length ≤ 1000 * 1000 := Nat.mul_le_mul (by omega) hb; omega
    refine k_cst zm zo zl ?_
    refine k_seq ?_
    refine k_seq ?_
    refine k_region hP hC ?_
    refine os (x_move rfl zt) ?_
    refine os (x_move rfl zt) ?_
    refine os (x_lenS hs_L rfl rfl zv rfl Try.underlying23) ?_
    refine os (x_bin rfl zt zt b_lss) ?_
    refine o_done ?_
    refine e_seq ?_
    refine k_cond zt (fun g18 => ?_) (fun g18 => ?_)
    ·have p18 := g18; try simp only [d1, d2, d3, d4, d5, d6, d7, d8, d9] at p18
     refine k_skip ?_
     refine e_seq ?_
     refine k_seq ?_
     refine k_block ?_
     refine k_seq ?_
     refine k_draw hP hC zr ?_
     refine ds (x_move rfl zt) ?_
     refine ds (x_move rfl zt) ?_
     refine ds (x_indexS hs_L rfl zt zt Try.underlying23 T.s43 (by omega) (by omega)) ?_
     refine ds (x_loadA rfl zt T.g43 T.s43 (l_elem (whole_row zh rfl) (by assumption) rfl (by omega) (by omega))) ?_
     refine ds (x_move rfl zt) ?_
     refine ds (x_move rfl zt) ?_
     refine ds (x_indexS hs_L rfl zt zt Try.underlying23 T.s43 (by omega) (by omega)) ?_
     refine ds (x_loadA rfl zt T.g43 T.s43 (l_elem (whole_row zh rfl) (by assumption) rfl (by omega) (by omega))) ?_
     refine d_call0 (wA_none rfl) rfl rfl rfl zv (by decide) ?_
     refine ⟨_, _, _, _, (tab_hit.trans (clash33_c (cf_nth h_L (by omega) (by omega)) (cf_nth h_L (by omega) (by omega)) rfl)), ?_⟩
     refine d_done ⟨by kernel_rfl, ?_⟩
     refine e_seq ?_
     refine k_cond (by simp only [Tr.get_set, reduceIte, Nat.reduceEqDiff, Nat.reduceAdd, ev_tmp, g18] <;> rfl) (fun g20 => ?_) (fun g20 => ?_)
     ·have p20 := g20; try simp only [d1, d2, d3, d4, d5, d6, d7, d8, d9] at p20
      refine k_region hP hC ?_
      refine os (x_move rfl zt) ?_
      refine os (x_move rfl zt) ?_
      refine os (x_move rfl zt) ?_
      refine os (x_build (v := .agg ⟨[.int .i64 i, .int .i64 k]⟩) rfl zp T.z71 rfl zr) ?_
      refine os (y_bsliceA rfl zt Try.underlying29 T.s71 T.z71 (by decide) rfl rfl (cf_len (ks := T.K71) (by first | rfl | assumption | (apply cf_part; (first | assumption | (exact cf_nth (by assumption) (by omega) (by omega))); rfl) | (exact cf_nth (by assumption) (by omega) (by omega)))) (by decide)) ?_
      refine os (x_append rfl rfl zv rfl rfl zr (cells_row Try.underlying29 T.s71 (l_all (whole_row zh rfl) rfl)) (ya_own Try.underlying29 T.i29 (by decide) rfl (by omega) (by unfold BIG; omega) rfl (by decide) zh rfl (cfs_len hc))) ?_
      refine os (x_assign rfl zt) ?_
      refine o_done ?_
      refine e_block ?_
      refine e_seq ?_
      refine k_region hP hC ?_
      refine os (x_move rfl zt) ?_
      refine os (x_bin rfl zt (by rfl) b_add) ?_
      refine os (x_assign rfl zt) ?_
      refine o_done ?_
      refine e_loop ?_
      refine ⟨(true, IntKind.i64.wrap (k + 1), (acc ++ [[Value.int .i64 i, Value.int .i64 k]])), (to_mk (L := [0, 3]) (slots := [0, 3, 4, 5]) (w := 1) zr (gcVs_cons zh (gcV_sl hs_L rfl) (gcVs_cons zh (gcV_sliceE rfl (by simp)) (gcVs_cons zh (gcV_free rfl) (gcVs_cons zh (gcV_free rfl) gcVs_nil)))) (gcH_cons (gcO_old (by rfl) zh) (gcH_cons (gcO_aliasE (by rfl) zh zh (gcD_free (by rw [List.all_append, cfs_free1 hc]; rfl)) (by simp only [List.flatten_append, List.flatten_cons, List.flatten_nil, List.append_nil, List.nil_append])) gcH_nil)) zr), ?_, ?_⟩
      ·show i < IntKind.i64.wrap (k + 1) ∧ _; rw [wr1 (by omega) (by omega)]; refine ⟨by omega, by omega, ?_, ?_, ?_⟩
       ·show (acc ++ [[Value.int .i64 i, Value.int .i64 k]]) = _; rw [clI_hit h0 (by omega) (by assumption), ← List.append_assoc, ← h2]
       ·simp
       ·exact cfs_append hc (cfs_one rfl)
      ·show (L.length - IntKind.i64.wrap (k + 1)).toNat < (L.length - k).toNat; rw [wr1 (by omega) (by omega)]; omega
     ·have p20 := g20; try simp only [d1, d2, d3, d4, d5, d6, d7, d8, d9] at p20
      refine k_skip ?_
      refine e_block ?_
      refine e_seq ?_
      refine k_region hP hC ?_
      refine os (x_move rfl zt) ?_
      refine os (x_bin rfl zt (by rfl) b_add) ?_
      refine os (x_assign rfl zt) ?_
      refine o_done ?_
      refine e_loop ?_
      refine ⟨(true, IntKind.i64.wrap (k + 1), acc), (to_mk (L := [0, 1]) (slots := [0, 3, 4, 5]) (w := 1) zr (gcVs_cons zh (gcV_sl hs_L rfl) (gcVs_cons zh (gcV_slice rfl) (gcVs_cons zh (gcV_free rfl) (gcVs_cons zh (gcV_free rfl) gcVs_nil)))) (gcH_cons (gcO_old (by rfl) zh) (gcH_cons (gcO_row (by rfl) zh (gcD_free (cfs_free1 hc))) gcH_nil)) zr), ?_, ?_⟩
      ·show i < IntKind.i64.wrap (k + 1) ∧ _; rw [wr1 (by omega) (by omega)]; refine ⟨by omega, by omega, ?_, ?_, ?_⟩
       ·rw [clI_skip (by omega) (by assumption)]; exact h2
       ·exact h3
       ·exact hc
      ·show (L.length - IntKind.i64.wrap (k + 1)).toNat < (L.length - k).toNat; rw [wr1 (by omega) (by omega)]; omega
    ·have p18 := g18; try simp only [d1, d2, d3, d4, d5, d6, d7, d8, d9] at p18
     refine k_exit ?_
     refine e_seq_exit ?_
     refine e_loop_exit ?_
     refine e_block_eq ?_
     refine e_block ?_
     refine e_seq ?_
     refine k_region hP hC ?_
     refine os (x_move rfl zt) ?_
     refine os (x_bin rfl zt (by rfl) b_add) ?_
     refine os (x_assign rfl zt) ?_
     refine o_done ?_
     refine e_loop ?_
     refine ⟨(true, IntKind.i64.wrap (i + 1), acc), (to_mk (L := [0, 1]) (slots := [0, 3, 4]) (w := 1) zr (gcVs_cons zh (gcV_sl hs_L rfl) (gcVs_cons zh (gcV_slice rfl) (gcVs_cons zh (gcV_free rfl) gcVs_nil))) (gcH_cons (gcO_old (by rfl) zh) (gcH_cons (gcO_row (by rfl) zh (gcD_free (cfs_free1 hc))) gcH_nil)) zr), ?_, ?_⟩
     ·show 0 ≤ IntKind.i64.wrap (i + 1) ∧ _; rw [wr1 (by omega) (by omega)]; refine ⟨by omega, by omega, ?_, h3, ?_⟩
      ·rw [clO_next h0]; have hkn : k = L.length := by omega
       rw [hkn] at h2; exact h2
      ·exact hc
     ·show (L.length - IntKind.i64.wrap (i + 1)).toNat < (L.length - i).toNat; rw [wr1 (by omega) (by omega)]; omega
  ·have p12 := g12; try simp only [d1, d2, d3, d4, d5, d6, d7, d8, d9] at p12
   refine k_exit ?_
   refine e_seq_exit ?_
   refine e_loop_exit ?_
   refine e_block_eq ?_
   refine e_seq ?_
   refine k_seq ?_
   refine k_region hP hC ?_
   refine os (x_move rfl zt) ?_
   refine os (x_assign rfl zt) ?_
   refine o_done ?_
   refine e_seq ?_
   refine k_ret ?_
   have hi : i = L.length := by omega
   rw [hi] at h2
   have h2 : acc = clashesL L := h2
   unfold val_clashes33 new_clashes33
   rw [← h2]
   have hne : acc.length ≠ 0 := by intro e; have e2 := List.eq_nil_of_length_eq_zero e; subst e2; cases h3
   rw [outV_ne hne, outN_ne hne]
   refine gives_mk (L := [0, 1]) (slots := [2]) (w := 1) (.inr rfl) zr (gcVs_cons zh (gcV_slice rfl) gcVs_nil) (gcH_cons (gcO_old (by rfl) zh) (gcH_cons (gcO_row (by rfl) zh (gcD_free (cfs_free1 hc))) gcH_nil)) zr (by simp only [Try.results11, resA, cst, mkE, Tr.get_set, reduceIte, Nat.reduceEqDiff, Nat.reduceAdd] <;> rfl) ?_
   rfl
theorem con_clashes33 : Con Try.prog 11 c_clashes33 := con_flat Try.func11 rfl fun us cs v new h => by
 unfold spec_clashes33 at h
 split at h
 case h_2 => cases h
 rename_i s_L c_L
 split at h
 case isFalse => cases h
 rename_i hc
 try simp only [Bool.and_eq_true] at hc
 obtain ⟨⟨q_L, r_L⟩, hok⟩ := hc
 cases h
 obtain ⟨h_L, e_L⟩ := isRows_cfs (by decide) r_L
 have hs_L := slOk_sl (n := (chunks 46 c_L).length) q_L (by decide) (rows_len (ks := T.K43) (by decide) r_L)
 have key := clashes33_m hs_L h_L hok
 have hrows : [(chunks T.K43.length c_L).flatten] = [c_L] := by rw [e_L]
 rw [← hrows]
 exact key
theorem clashes33_c {H : AH} {s_L : Value} {L : List (List Value)} (hr_L : Rd H 46 s_L L.length L.flatten) (h_L : cfs T.K43 L) (hok : ok_clashes33 L = true) : c_clashes33 [s_L] H = some (outV H.next 2 (clashesL L).length, addRows H (outN (clashesL L).length (clashesL L).flatten)) := by
 obtain ⟨u_L, a_L, b_L⟩ := hr_L 0
 have k_L := isRows_flat (by decide) h_L
 have k2_L : chunks 46 L.flatten = L := k_L.2
 exact flatC_at (v := val_clashes33 L) (new := new_clashes33 L) (cl_sl a_L cl_nil) (by simp only [spec_clashes33, sl_slOk b_L (cfs_len h_L), k_L.1, k2_L, hok, Bool.and_self, if_true]) ((by unfold new_clashes33 outN; split; rfl; simp only [List.all_cons, List.all_nil, Bool.and_true]; exact cfs_free0 clO_cfs)) (out_gc)
def ok_clashes (L : List (List Value)) : Bool := decide (L.length ≤ 1000)
def val_clashes (L : List (List Value)) : Value := outV 1 2 (clashesL L).length
def new_clashes (L : List (List Value)) : List (List Value) := outN (clashesL L).length (clashesL L).flatten
def spec_clashes : Go.AM.Spec := fun us cs => match us, cs with
 | [s_L], [c_L] => if slOk 0 46 c_L s_L && isRows T.K43 c_L && ok_clashes (chunks 46 c_L) then some (val_clashes (chunks 46 c_L), new_clashes (chunks 46 c_L)) else none
 | _, _ => none
def c_clashes := flatC [.sl 46] spec_clashes
theorem clashes_m {s_L : Value} {L : List (List Value)} (hs_L : Sl 0 46 L.length s_L) (h_L : cfs T.K43 L) (hok : ok_clashes L = true) : Meets Try.prog (.func 10) [s_L] (cheap [L.flatten]) (val_clashes L) (rheap [L.flatten] (new_clashes L)) := by
 have hP := Fits
 have hC : CallSound Try.prog (tabOf [(12, c_clash)]) := tab_sound (tab_cons con_clash tab_end)
 simp only [ok_clashes, Bool.and_eq_true, decide_eq_true_eq] at hok
 have hb := hok
 refine meets_start (sz := 36) hP Try.func10 rfl rfl zo (by simp only [Tr.ofList, roRows, Nat.zero_add, Nat.reduceAdd] <;> rfl) zl ?_
 refine k_seq ?_
 refine k_region hP hC ?_
 refine os (x_assign rfl (by rfl)) ?_
 refine o_done ?_
 refine e_seq ?_
 refine k_seq ?_
 refine k_region hP hC ?_
 refine os (x_assign rfl (by rfl)) ?_
 refine o_done ?_
 refine e_seq ?_
 refine k_seq ?_
 refine k_seq ?_
 refine k_region hP hC ?_
 refine os (x_move rfl zt) ?_
 refine os (x_lenS hs_L rfl rfl zv rfl Try.underlying23) ?_
 refine os (x_move rfl (by rfl)) ?_
 refine o_done ?_
 refine e_seq ?_
 refine k_block ?_
 refine k_loop (α := Bool × Int × List (List Value)) (fun z => match z with | (false, i, acc) => cst 36 [0, 3, 7, 8, 9] [s_L, .slice none 0 0, s_L, .int .i64 L.length, .int .i64 i] [.row L.flatten 0 BIG true L.flatten.length] 1 | (true, i, acc) => cst 36 [0, 3, 7, 8, 9] [s_L, .slice (some ⟨1, 0, none⟩) acc.length (acc.length + 2), s_L, .int .i64 L.length, .int .i64 i] [.row L.flatten 0 BIG true L.flatten.length, .row acc.flatten 1 BIG false acc.flatten.length] 1) (fun z => match z with | (b, i, acc) => 0 ≤ i ∧ i ≤ L.length ∧ acc = clO L i ∧ acc.isEmpty = !b ∧ cfs T.K71 acc) (fun z => match z with | (_, i, _) => (L.length - i).toNat) (false, 0, []) (to_mk (L := [0]) (slots := [0, 3, 7, 8, 9]) (w := 1) zr (gcVs_cons zh (gcV_sl hs_L rfl) (gcVs_cons zh (gcV_free rfl) (gcVs_cons zh (gcV_sl hs_L rfl) (gcVs_cons zh (gcV_free rfl) (gcVs_cons zh (gcV_free rfl) gcVs_nil))))) (gcH_cons (gcO_old (by rfl) zh) gcH_nil) zr) ⟨by omega, by omega, rfl, rfl, cfs_nil⟩ ?_
 rintro ⟨_ | _, i, acc⟩ ⟨h0, h1, h2, h3, hc⟩
 ·skip
  have hacc : acc = [] := List.isEmpty_iff.1 h3
  refine k_cst zm zo zl ?_
  refine k_seq ?_
  refine k_region hP hC ?_
  refine os (x_bin rfl zt zt b_lss) ?_
  refine o_done ?_
  refine e_seq ?_
  refine k_seq ?_
  refine k_cond zt (fun g2 => ?_) (fun g2 => ?_)
  ·have p2 := g2; try simp only [d1, d2, d3, d4, d5, d6, d7, d8, d9] at p2
   refine k_skip ?_
   refine e_seq ?_
   refine k_seq ?_
   refine k_block ?_
   refine k_seq ?_
   refine k_region hP hC ?_
   refine os (x_move rfl zt) ?_
   refine os (x_indexS hs_L rfl zt zt Try.underlying23 T.s43 (by omega) (by omega)) ?_
   refine os (x_loadA rfl zt T.g43 T.s43 (l_elem (whole_row zh rfl) (by assumption) rfl (by omega) (by omega))) ?_
   refine os (y_alloc rfl T.z43 rfl rfl) ?_
   refine os (x_assign rfl zt) ?_
   refine o_stepN (wA_none rfl) rfl (y_storeA rfl zt zt T.s43 (cf_len (ks := T.K43) zc) zh rfl rfl (cf_oneC (ks := T.K43) zc)) ?_
   refine o_done ?_
   refine e_seq ?_
   refine k_seq ?_
   refine k_region hP hC ?_
   refine os (x_move rfl zt) ?_
   refine os (x_bin rfl zt (by rfl) b_add) ?_
   refine os (x_assign rfl zt) ?_
   refine o_done ?_
   refine e_seq ?_
   refine k_block ?_
   refine k_loop (α := Bool × Int × List (List Value)) (fun z => match z with | (false, k, acc) => cst 36 [0, 3, 7, 8, 9, 4, 5, 6] [s_L, .slice none 0 0, s_L, .int .i64 L.length, .int .i64 i, .int .i64 i, .pointer (some ⟨1, 0, none⟩), .int .i64 k] [.row L.flatten 0 BIG true L.flatten.length, .row (nth L i) 1 BIG false (nth L i).length] 1 | (true, k, acc) => cst 36 [0, 3, 7, 8, 9, 4, 5, 6] [s_L, .slice (some ⟨1, 0, none⟩) acc.length (acc.length + 2), s_L, .int .i64 L.length, .int .i64 i, .int .i64 i, .pointer (some ⟨2, 0, none⟩), .int .i64 k] [.row L.flatten 0 BIG true L.flatten.length, .row acc.flatten 1 BIG false acc.flatten.length, .row (nth L i) 2 BIG false (nth L i).length] 1) (fun z => match z with | (b, k, acc) => i < k ∧ k ≤ L.length ∧ acc = clO L i ++ clI L i k ∧ acc.isEmpty = !b ∧ cfs T.K71 acc) (fun z => match z with | (_, k, _) => (L.length - k).toNat) (false, IntKind.i64.wrap (i + 1), acc) (to_mk (L := [0, 1]) (slots := [0, 3, 7, 8, 9, 4, 5, 6]) (w := 1) zr (gcVs_cons zh (gcV_sl hs_L rfl) (gcVs_cons zh (gcV_free rfl) (gcVs_cons zh (gcV_sl hs_L rfl) (gcVs_cons zh (gcV_free rfl) (gcVs_cons zh (gcV_free rfl) (gcVs_cons zh (gcV_free rfl) (gcVs_cons zh (gcV_ptr rfl) (gcVs_cons zh (gcV_free rfl) gcVs_nil)))))))) (gcH_cons (gcO_old (by rfl) zh) (gcH_cons (gcO_row (by rfl) zh (gcD_free (cf_free1 zc))) gcH_nil)) zr) ?_ ?_
   ·show i < IntKind.i64.wrap (i + 1) ∧ _; rw [wr1 (by omega) (by omega)]; exact ⟨by omega, by omega, by rw [clI_start h0, List.append_nil]; exact h2, h3, hc⟩
   clear h2 h3 hc
   rintro ⟨_ | _, k, acc⟩ ⟨h4, h5, h2, h3, hc⟩
   ·skip
    have hacc : acc = [] := List.isEmpty_iff.1 h3
    refine k_cst zm zo zl ?_
    refine k_seq ?_
    refine k_seq ?_
    refine k_region hP hC ?_
    refine os (x_move rfl zt) ?_
    refine os (x_move rfl zt) ?_
    refine os (x_lenS hs_L rfl rfl zv rfl Try.underlying23) ?_
    refine os (x_bin rfl zt zt b_lss) ?_
    refine o_done ?_
    refine e_seq ?_
    refine k_cond zt (fun g4 => ?_) (fun g4 => ?_)
    ·have p4 := g4; try simp only [d1, d2, d3, d4, d5, d6, d7, d8, d9] at p4
     refine k_skip ?_
     refine e_seq ?_
     refine k_seq ?_
     refine k_block ?_
     refine k_seq ?_
     refine k_draw hP hC zr ?_
     refine ds (x_loadA rfl zt T.g43 T.s43 (l_boxAll (whole_row zh rfl) (by (first | assumption | (exact cf_nth (by assumption) (by omega) (by omega)))) rfl)) ?_
     refine ds (x_move rfl zt) ?_
     refine ds (x_move rfl zt) ?_
     refine ds (x_indexS hs_L rfl zt zt Try.underlying23 T.s43 (by omega) (by omega)) ?_
     refine ds (x_loadA rfl zt T.g43 T.s43 (l_elem (whole_row zh rfl) (by assumption) rfl (by omega) (by omega))) ?_
     refine d_call0 (wA_none rfl) rfl rfl rfl zv (by decide) ?_
     refine ⟨_, _, _, _, (tab_hit.trans (clash_c (cf_nth h_L (by omega) (by omega)) (cf_nth h_L (by omega) (by omega)) rfl)), ?_⟩
     refine d_done ⟨by kernel_rfl, ?_⟩
     refine e_seq ?_
     refine k_cond (by simp only [Tr.get_set, reduceIte, Nat.reduceEqDiff, Nat.reduceAdd, ev_tmp, g4] <;> rfl) (fun g6 => ?_) (fun g6 => ?_)
     ·have p6 := g6; try simp only [d1, d2, d3, d4, d5, d6, d7, d8, d9] at p6
      refine k_region hP hC ?_
      refine os (x_move rfl zt) ?_
      refine os (x_move rfl zt) ?_
      refine os (x_move rfl zt) ?_
      refine os (x_build (v := .agg ⟨[.int .i64 i, .int .i64 k]⟩) rfl zp T.z71 rfl zr) ?_
      refine os (y_bsliceA rfl zt Try.underlying29 T.s71 T.z71 (by decide) rfl rfl (cf_len (ks := T.K71) (by first | rfl | assumption | (apply cf_part; (first | assumption | (exact cf_nth (by assumption) (by omega) (by omega))); rfl) | (exact cf_nth (by assumption) (by omega) (by omega)))) (by decide)) ?_
      refine os (x_append rfl rfl zv rfl rfl zr (cells_row Try.underlying29 T.s71 (l_all (whole_row zh rfl) rfl)) (ya_nil Try.underlying29 T.i29 (by decide) rfl (by decide) (by decide) rfl (by decide))) ?_
      refine os (x_assign rfl zt) ?_
      refine o_done ?_
      refine e_block ?_
      refine e_seq ?_
      refine k_region hP hC ?_
      refine os (x_move rfl zt) ?_
      refine os (x_bin rfl zt (by rfl) b_add) ?_
      refine os (x_assign rfl zt) ?_
      refine o_done ?_
      refine e_loop ?_
      refine ⟨(true, IntKind.i64.wrap (k + 1), [[Value.int .i64 i, Value.int .i64 k]]), (to_mk (L := [0, 3, 1]) (slots := [0, 3, 7, 8, 9, 4, 5, 6]) (w := 1) zr (gcVs_cons zh (gcV_sl hs_L rfl) (gcVs_cons zh (gcV_slice rfl) (gcVs_cons zh (gcV_sl hs_L rfl) (gcVs_cons zh (gcV_free rfl) (gcVs_cons zh (gcV_free rfl) (gcVs_cons zh (gcV_free rfl) (gcVs_cons zh (gcV_ptr rfl) (gcVs_cons zh (gcV_free rfl) gcVs_nil)))))))) (gcH_cons (gcO_old (by rfl) zh) (gcH_cons (gcO_rowE (by rfl) zh (gcD_free rfl) (by simp only [List.flatten_append, List.flatten_cons, List.flatten_nil, List.append_nil, List.nil_append])) (gcH_cons (gcO_row (by rfl) zh (gcD_free (cf_free1 zc))) gcH_nil))) zr), ?_, ?_⟩
      ·show i < IntKind.i64.wrap (k + 1) ∧ _; rw [wr1 (by omega) (by omega)]; refine ⟨by omega, by omega, ?_, ?_, ?_⟩
       ·show [[Value.int .i64 i, Value.int .i64 k]] = _; rw [clI_hit h0 (by omega) (by assumption), ← List.append_assoc, ← h2]; rw [hacc]; rfl
       ·rfl
       ·exact cfs_one rfl
      ·show (L.length - IntKind.i64.wrap (k + 1)).toNat < (L.length - k).toNat; rw [wr1 (by omega) (by omega)]; omega
     ·have p6 := g6; try simp only [d1, d2, d3, d4, d5, d6, d7, d8, d9] at p6
      refine k_skip ?_
      refine e_block ?_
      refine e_seq ?_
      refine k_region hP hC ?_
      refine os (x_move rfl zt) ?_
      refine os (x_bin rfl zt (by rfl) b_add) ?_
      refine os (x_assign rfl zt) ?_
      refine o_done ?_
      refine e_loop ?_
      refine ⟨(false, IntKind.i64.wrap (k + 1), acc), (to_mk (L := [0, 1]) (slots := [0, 3, 7, 8, 9, 4, 5, 6]) (w := 1) zr (gcVs_cons zh (gcV_sl hs_L rfl) (gcVs_cons zh (gcV_free rfl) (gcVs_cons zh (gcV_sl hs_L rfl) (gcVs_cons zh (gcV_free rfl) (gcVs_cons zh (gcV_free rfl) (gcVs_cons zh (gcV_free rfl) (gcVs_cons zh (gcV_ptr rfl) (gcVs_cons zh (gcV_free rfl) gcVs_nil)))))))) (gcH_cons (gcO_old (by rfl) zh) (gcH_cons (gcO_row (by rfl) zh (gcD_free (cf_free1 zc))) gcH_nil)) zr), ?_, ?_⟩
      ·show i < IntKind.i64.wrap (k + 1) ∧ _; rw [wr1 (by omega) (by omega)]; refine ⟨by omega, by omega, ?_, ?_, ?_⟩
       ·rw [clI_skip (by omega) (by assumption)]; exact h2
       ·exact h3
       ·exact hc
      ·show (L.length - IntKind.i64.wrap (k + 1)).toNat < (L.length - k).toNat; rw [wr1 (by omega) (by omega)]; omega
    ·have p4 := g4; try simp only [d1, d2, d3, d4, d5, d6, d7, d8, d9] at p4
     refine k_exit ?_
     refine e_seq_exit ?_
     refine e_loop_exit ?_
     refine e_block_eq ?_
     refine e_block ?_
     refine e_seq ?_
     refine k_region hP hC ?_
     refine os (x_bin rfl zt (by rfl) b_add) ?_
     refine os (x_move rfl zt) ?_
     refine o_done ?_
     refine e_loop ?_
     refine ⟨(false, IntKind.i64.wrap (i + 1), acc), (to_mk (L := [0]) (slots := [0, 3, 7, 8, 9]) (w := 1) zr (gcVs_cons zh (gcV_sl hs_L rfl) (gcVs_cons zh (gcV_free rfl) (gcVs_cons zh (gcV_sl hs_L rfl) (gcVs_cons zh (gcV_free rfl) (gcVs_cons zh (gcV_free rfl) gcVs_nil))))) (gcH_cons (gcO_old (by rfl) zh) gcH_nil) zr), ?_, ?_⟩
     ·show 0 ≤ IntKind.i64.wrap (i + 1) ∧ _; rw [wr1 (by omega) (by omega)]; refine ⟨by omega, by omega, ?_, h3, ?_⟩
      ·rw [clO_next h0]; have hkn : k = L.length := by omega
       rw [hkn] at h2; exact h2
      ·exact hc
     ·show (L.length - IntKind.i64.wrap (i + 1)).toNat < (L.length - i).toNat; rw [wr1 (by omega) (by omega)]; omega
   ·skip
    have hal : acc.length ≤ 2000000 := by rw [h2, List.length_append]; have q1 := @clO_len L i; have q2 := @clI_len L i k; have q3 : i.toNat * L.length ≤ 1000 * 1000 := Nat.mul_le_mul (by omega) hb; omega
    refine k_cst zm zo zl ?_
    refine k_seq ?_
    refine k_seq ?_
    refine k_region hP hC ?_
    refine os (x_move rfl zt) ?_
    refine os (x_move rfl zt) ?_
    refine os (x_lenS hs_L rfl rfl zv rfl Try.underlying23) ?_
    refine os (x_bin rfl zt zt b_lss) ?_
    refine o_done ?_
    refine e_seq ?_
    refine k_cond zt (fun g8 => ?_) (fun g8 => ?_)
    ·have p8 := g8; try simp only [d1, d2, d3, d4, d5, d6, d7, d8, d9] at p8
     refine k_skip ?_
     refine e_seq ?_
     refine k_seq ?_
     refine k_block ?_
     refine k_seq ?_
     refine k_draw hP hC zr ?_
     refine ds (x_loadA rfl zt T.g43 T.s43 (l_boxAll (whole_row zh rfl) (by (first | assumption | (exact cf_nth (by assumption) (by omega) (by omega)))) rfl)) ?_
     refine ds (x_move rfl zt) ?_
     refine ds (x_move rfl zt) ?_
     refine ds (x_indexS hs_L rfl zt zt Try.underlying23 T.s43 (by omega) (by omega)) ?_
     refine ds (x_loadA rfl zt T.g43 T.s43 (l_elem (whole_row zh rfl) (by assumption) rfl (by omega) (by omega))) ?_
     refine d_call0 (wA_none rfl) rfl rfl rfl zv (by decide) ?_
     refine ⟨_, _, _, _, (tab_hit.trans (clash_c (cf_nth h_L (by omega) (by omega)) (cf_nth h_L (by omega) (by omega)) rfl)), ?_⟩
     refine d_done ⟨by kernel_rfl, ?_⟩
     refine e_seq ?_
     refine k_cond (by simp only [Tr.get_set, reduceIte, Nat.reduceEqDiff, Nat.reduceAdd, ev_tmp, g8] <;> rfl) (fun g10 => ?_) (fun g10 => ?_)
     ·have p10 := g10; try simp only [d1, d2, d3, d4, d5, d6, d7, d8, d9] at p10
      refine k_region hP hC ?_
      refine os (x_move rfl zt) ?_
      refine os (x_move rfl zt) ?_
      refine os (x_move rfl zt) ?_
      refine os (x_build (v := .agg ⟨[.int .i64 i, .int .i64 k]⟩) rfl zp T.z71 rfl zr) ?_
      refine os (y_bsliceA rfl zt Try.underlying29 T.s71 T.z71 (by decide) rfl rfl (cf_len (ks := T.K71) (by first | rfl | assumption | (apply cf_part; (first | assumption | (exact cf_nth (by assumption) (by omega) (by omega))); rfl) | (exact cf_nth (by assumption) (by omega) (by omega)))) (by decide)) ?_
      refine os (x_append rfl rfl zv rfl rfl zr (cells_row Try.underlying29 T.s71 (l_all (whole_row zh rfl) rfl)) (ya_own Try.underlying29 T.i29 (by decide) rfl (by omega) (by unfold BIG; omega) rfl (by decide) zh rfl (cfs_len hc))) ?_
      refine os (x_assign rfl zt) ?_
      refine o_done ?_
      refine e_block ?_
      refine e_seq ?_
      refine k_region hP hC ?_
      refine os (x_move rfl zt) ?_
      refine os (x_bin rfl zt (by rfl) b_add) ?_
      refine os (x_assign rfl zt) ?_
      refine o_done ?_
      refine e_loop ?_
      refine ⟨(true, IntKind.i64.wrap (k + 1), (acc ++ [[Value.int .i64 i, Value.int .i64 k]])), (to_mk (L := [0, 4, 2]) (slots := [0, 3, 7, 8, 9, 4, 5, 6]) (w := 1) zr (gcVs_cons zh (gcV_sl hs_L rfl) (gcVs_cons zh (gcV_sliceE rfl (by simp)) (gcVs_cons zh (gcV_sl hs_L rfl) (gcVs_cons zh (gcV_free rfl) (gcVs_cons zh (gcV_free rfl) (gcVs_cons zh (gcV_free rfl) (gcVs_cons zh (gcV_ptr rfl) (gcVs_cons zh (gcV_free rfl) gcVs_nil)))))))) (gcH_cons (gcO_old (by rfl) zh) (gcH_cons (gcO_aliasE (by rfl) zh zh (gcD_free (by rw [List.all_append, cfs_free1 hc]; rfl)) (by simp only [List.flatten_append, List.flatten_cons, List.flatten_nil, List.append_nil, List.nil_append])) (gcH_cons (gcO_row (by rfl) zh (gcD_free (cf_free1 zc))) gcH_nil))) zr), ?_, ?_⟩
      ·show i < IntKind.i64.wrap (k + 1) ∧ _; rw [wr1 (by omega) (by omega)]; refine ⟨by omega, by omega, ?_, ?_, ?_⟩
       ·show (acc ++ [[Value.int .i64 i, Value.int .i64 k]]) = _; rw [clI_hit h0 (by omega) (by assumption), ← List.append_assoc, ← h2]
       ·simp
       ·exact cfs_append hc (cfs_one rfl)
      ·show (L.length - IntKind.i64.wrap (k + 1)).toNat < (L.length - k).toNat; rw [wr1 (by omega) (by omega)]; omega
     ·have p10 := g10; try simp only [d1, d2, d3, d4, d5, d6, d7, d8, d9] at p10
      refine k_skip ?_
      refine e_block ?_
      refine e_seq ?_
      refine k_region hP hC ?_
      refine os (x_move rfl zt) ?_
      refine os (x_bin rfl zt (by rfl) b_add) ?_
      refine os (x_assign rfl zt) ?_
      refine o_done ?_
      refine e_loop ?_
      refine ⟨(true, IntKind.i64.wrap (k + 1), acc), (to_mk (L := [0, 1, 2]) (slots := [0, 3, 7, 8, 9, 4, 5, 6]) (w := 1) zr (gcVs_cons zh (gcV_sl hs_L rfl) (gcVs_cons zh (gcV_slice rfl) (gcVs_cons zh (gcV_sl hs_L rfl) (gcVs_cons zh (gcV_free rfl) (gcVs_cons zh (gcV_free rfl) (gcVs_cons zh (gcV_free rfl) (gcVs_cons zh (gcV_ptr rfl) (gcVs_cons zh (gcV_free rfl) gcVs_nil)))))))) (gcH_cons (gcO_old (by rfl) zh) (gcH_cons (gcO_row (by rfl) zh (gcD_free (cfs_free1 hc))) (gcH_cons (gcO_row (by rfl) zh (gcD_free (cf_free1 zc))) gcH_nil))) zr), ?_, ?_⟩
      ·show i < IntKind.i64.wrap (k + 1) ∧ _; rw [wr1 (by omega) (by omega)]; refine ⟨by omega, by omega, ?_, ?_, ?_⟩
       ·rw [clI_skip (by omega) (by assumption)]; exact h2
       ·exact h3
       ·exact hc
      ·show (L.length - IntKind.i64.wrap (k + 1)).toNat < (L.length - k).toNat; rw [wr1 (by omega) (by omega)]; omega
    ·have p8 := g8; try simp only [d1, d2, d3, d4, d5, d6, d7, d8, d9] at p8
     refine k_exit ?_
     refine e_seq_exit ?_
     refine e_loop_exit ?_
     refine e_block_eq ?_
     refine e_block ?_
     refine e_seq ?_
     refine k_region hP hC ?_
     refine os (x_bin rfl zt (by rfl) b_add) ?_
     refine os (x_move rfl zt) ?_
     refine o_done ?_
     refine e_loop ?_
     refine ⟨(true, IntKind.i64.wrap (i + 1), acc), (to_mk (L := [0, 1]) (slots := [0, 3, 7, 8, 9]) (w := 1) zr (gcVs_cons zh (gcV_sl hs_L rfl) (gcVs_cons zh (gcV_slice rfl) (gcVs_cons zh (gcV_sl hs_L rfl) (gcVs_cons zh (gcV_free rfl) (gcVs_cons zh (gcV_free rfl) gcVs_nil))))) (gcH_cons (gcO_old (by rfl) zh) (gcH_cons (gcO_row (by rfl) zh (gcD_free (cfs_free1 hc))) gcH_nil)) zr), ?_, ?_⟩
     ·show 0 ≤ IntKind.i64.wrap (i + 1) ∧ _; rw [wr1 (by omega) (by omega)]; refine ⟨by omega, by omega, ?_, h3, ?_⟩
      ·rw [clO_next h0]; have hkn : k = L.length := by omega
       rw [hkn] at h2; exact h2
      ·exact hc
     ·show (L.length - IntKind.i64.wrap (i + 1)).toNat < (L.length - i).toNat; rw [wr1 (by omega) (by omega)]; omega
  ·have p2 := g2; try simp only [d1, d2, d3, d4, d5, d6, d7, d8, d9] at p2
   refine k_exit ?_
   refine e_seq_exit ?_
   refine e_loop_exit ?_
   refine e_block_eq ?_
   refine e_seq ?_
   refine k_seq ?_
   refine k_region hP hC ?_
   refine os (x_move rfl zt) ?_
   refine os (x_assign rfl zt) ?_
   refine o_done ?_
   refine e_seq ?_
   refine k_ret ?_
   have hi : i = L.length := by omega
   rw [hi] at h2
   have h2 : acc = clashesL L := h2
   rw [hacc] at h2
   unfold val_clashes new_clashes
   rw [← h2]
   refine gives_mk (L := [0]) (slots := [2]) (w := 1) (.inr rfl) zr (gcVs_cons zh (gcV_free rfl) gcVs_nil) (gcH_cons (gcO_old (by rfl) zh) gcH_nil) zr (by simp only [Try.results10, resA, cst, mkE, Tr.get_set, reduceIte, Nat.reduceEqDiff, Nat.reduceAdd] <;> rfl) ?_
   rfl
 ·skip
  refine k_cst zm zo zl ?_
  refine k_seq ?_
  refine k_region hP hC ?_
  refine os (x_bin rfl zt zt b_lss) ?_
  refine o_done ?_
  refine e_seq ?_
  refine k_seq ?_
  refine k_cond zt (fun g12 => ?_) (fun g12 => ?_)
  ·have p12 := g12; try simp only [d1, d2, d3, d4, d5, d6, d7, d8, d9] at p12
   refine k_skip ?_
   refine e_seq ?_
   refine k_seq ?_
   refine k_block ?_
   refine k_seq ?_
   refine k_region hP hC ?_
   refine os (x_move rfl zt) ?_
   refine os (x_indexS hs_L rfl zt zt Try.underlying23 T.s43 (by omega) (by omega)) ?_
   refine os (x_loadA rfl zt T.g43 T.s43 (l_elem (whole_row zh rfl) (by assumption) rfl (by omega) (by omega))) ?_
   refine os (y_alloc rfl T.z43 rfl rfl) ?_
   refine os (x_assign rfl zt) ?_
   refine o_stepN (wA_none rfl) rfl (y_storeA rfl zt zt T.s43 (cf_len (ks := T.K43) zc) zh rfl rfl (cf_oneC (ks := T.K43) zc)) ?_
   refine o_done ?_
   refine e_seq ?_
   refine k_seq ?_
   refine k_region hP hC ?_
   refine os (x_move rfl zt) ?_
   refine os (x_bin rfl zt (by rfl) b_add) ?_
   refine os (x_assign rfl zt) ?_
   refine o_done ?_
   refine e_seq ?_
   refine k_block ?_
   refine k_loop (α := Bool × Int × List (List Value)) (fun z => match z with | (false, k, acc) => cst 36 [0, 3, 7, 8, 9, 4, 5, 6] [s_L, .slice none 0 0, s_L, .int .i64 L.length, .int .i64 i, .int .i64 i, .pointer (some ⟨1, 0, none⟩), .int .i64 k] [.row L.flatten 0 BIG true L.flatten.length, .row (nth L i) 1 BIG false (nth L i).length] 1 | (true, k, acc) => cst 36 [0, 3, 7, 8, 9, 4, 5, 6] [s_L, .slice (some ⟨1, 0, none⟩) acc.length (acc.length + 2), s_L, .int .i64 L.length, .int .i64 i, .int .i64 i, .pointer (some ⟨2, 0, none⟩), .int .i64 k] [.row L.flatten 0 BIG true L.flatten.length, .row acc.flatten 1 BIG false acc.flatten.length, .row (nth L i) 2 BIG false (nth L i).length] 1) (fun z => match z with | (b, k, acc) => i < k ∧ k ≤ L.length ∧ acc = clO L i ++ clI L i k ∧ acc.isEmpty = !b ∧ cfs T.K71 acc) (fun z => match z with | (_, k, _) => (L.length - k).toNat) (true, IntKind.i64.wrap (i + 1), acc) (to_mk (L := [0, 1, 2]) (slots := [0, 3, 7, 8, 9, 4, 5, 6]) (w := 1) zr (gcVs_cons zh (gcV_sl hs_L rfl) (gcVs_cons zh (gcV_slice rfl) (gcVs_cons zh (gcV_sl hs_L rfl) (gcVs_cons zh (gcV_free rfl) (gcVs_cons zh (gcV_free rfl) (gcVs_cons zh (gcV_free rfl) (gcVs_cons zh (gcV_ptr rfl) (gcVs_cons zh (gcV_free rfl) gcVs_nil)))))))) (gcH_cons (gcO_old (by rfl) zh) (gcH_cons (gcO_row (by rfl) zh (gcD_free (cfs_free1 hc))) (gcH_cons (gcO_row (by rfl) zh (gcD_free (cf_free1 zc))) gcH_nil))) zr) ?_ ?_
   ·show i < IntKind.i64.wrap (i + 1) ∧ _; rw [wr1 (by omega) (by omega)]; exact ⟨by omega, by omega, by rw [clI_start h0, List.append_nil]; exact h2, h3, hc⟩
   clear h2 h3 hc
   rintro ⟨_ | _, k, acc⟩ ⟨h4, h5, h2, h3, hc⟩
   ·skip
    have hacc : acc = [] := List.isEmpty_iff.1 h3
    refine k_cst zm zo zl ?_
    refine k_seq ?_
    refine k_seq ?_
    refine k_region hP hC ?_
    refine os (x_move rfl zt) ?_
    refine os (x_move rfl zt) ?_
    refine os (x_lenS hs_L rfl rfl zv rfl Try.underlying23) ?_
    refine os (x_bin rfl zt zt b_lss) ?_
    refine o_done ?_
    refine e_seq ?_
    refine k_cond zt (fun g14 => ?_) (fun g14 => ?_)
    ·have p14 := g14; try simp only [d1, d2, d3, d4, d5, d6, d7, d8, d9] at p14
     refine k_skip ?_
     refine e_seq ?_
     refine k_seq ?_
     refine k_block ?_
     refine k_seq ?_
     refine k_draw hP hC zr ?_
     refine ds (x_loadA rfl zt T.g43 T.s43 (l_boxAll (whole_row zh rfl) (by (first | assumption | (exact cf_nth (by assumption) (by omega) (by omega)))) rfl)) ?_
     refine ds (x_move rfl zt) ?_
     refine ds (x_move rfl zt) ?_
     refine ds (x_indexS hs_L rfl zt zt Try.underlying23 T.s43 (by omega) (by omega)) ?_
     refine ds (x_loadA rfl zt T.g43 T.s43 (l_elem (whole_row zh rfl) (by assumption) rfl (by omega) (by omega))) ?_
     refine d_call0 (wA_none rfl) rfl rfl rfl zv (by decide) ?_
     refine ⟨_, _, _, _, (tab_hit.trans (clash_c (cf_nth h_L (by omega) (by omega)) (cf_nth h_L (by omega) (by omega)) rfl)), ?_⟩
     refine d_done ⟨by kernel_rfl, ?_⟩
     refine e_seq ?_
     refine k_cond (by simp only [Tr.get_set, reduceIte, Nat.reduceEqDiff, Nat.reduceAdd, ev_tmp, g14] <;> rfl) (fun g16 => ?_) (fun g16 => ?_)
     ·have p16 := g16; try simp only [d1, d2, d3, d4, d5, d6, d7, d8, d9] at p16
      refine k_region hP hC ?_
      refine os (x_move rfl zt) ?_
      refine os (x_move rfl zt) ?_
      refine os (x_move rfl zt) ?_
      refine os (x_build (v := .agg ⟨[.int .i64 i, .int .i64 k]⟩) rfl zp T.z71 rfl zr) ?_
      refine os (y_bsliceA rfl zt Try.underlying29 T.s71 T.z71 (by decide) rfl rfl (cf_len (ks := T.K71) (by first | rfl | assumption | (apply cf_part; (first | assumption | (exact cf_nth (by assumption) (by omega) (by omega))); rfl) | (exact cf_nth (by assumption) (by omega) (by omega)))) (by decide)) ?_
      refine os (x_append rfl rfl zv rfl rfl zr (cells_row Try.underlying29 T.s71 (l_all (whole_row zh rfl) rfl)) (ya_nil Try.underlying29 T.i29 (by decide) rfl (by decide) (by decide) rfl (by decide))) ?_
      refine os (x_assign rfl zt) ?_
      refine o_done ?_
      refine e_block ?_
      refine e_seq ?_
      refine k_region hP hC ?_
      refine os (x_move rfl zt) ?_
      refine os (x_bin rfl zt (by rfl) b_add) ?_
      refine os (x_assign rfl zt) ?_
      refine o_done ?_
      refine e_loop ?_
      refine ⟨(true, IntKind.i64.wrap (k + 1), [[Value.int .i64 i, Value.int .i64 k]]), (to_mk (L := [0, 3, 1]) (slots := [0, 3, 7, 8, 9, 4, 5, 6]) (w := 1) zr (gcVs_cons zh (gcV_sl hs_L rfl) (gcVs_cons zh (gcV_slice rfl) (gcVs_cons zh (gcV_sl hs_L rfl) (gcVs_cons zh (gcV_free rfl) (gcVs_cons zh (gcV_free rfl) (gcVs_cons zh (gcV_free rfl) (gcVs_cons zh (gcV_ptr rfl) (gcVs_cons zh (gcV_free rfl) gcVs_nil)))))))) (gcH_cons (gcO_old (by rfl) zh) (gcH_cons (gcO_rowE (by rfl) zh (gcD_free rfl) (by simp only [List.flatten_append, List.flatten_cons, List.flatten_nil, List.append_nil, List.nil_append])) (gcH_cons (gcO_row (by rfl) zh (gcD_free (cf_free1 zc))) gcH_nil))) zr), ?_, ?_⟩
      ·show i < IntKind.i64.wrap (k + 1) ∧ _; rw [wr1 (by omega) (by omega)]; refine ⟨by omega, by omega, ?_, ?_, ?_⟩
       ·show [[Value.int .i64 i, Value.int .i64 k]] = _; rw [clI_hit h0 (by omega) (by assumption), ← List.append_assoc, ← h2]; rw [hacc]; rfl
       ·rfl
       ·exact cfs_one rfl
      ·show (L.length - IntKind.i64.wrap (k + 1)).toNat < (L.length - k).toNat; rw [wr1 (by omega) (by omega)]; omega
     ·have p16 := g16; try simp only [d1, d2, d3, d4, d5, d6, d7, d8, d9] at p16
      refine k_skip ?_
      refine e_block ?_
      refine e_seq ?_
      refine k_region hP hC ?_
      refine os (x_move rfl zt) ?_
      refine os (x_bin rfl zt (by rfl) b_add) ?_
      refine os (x_assign rfl zt) ?_
      refine o_done ?_
      refine e_loop ?_
      refine ⟨(false, IntKind.i64.wrap (k + 1), acc), (to_mk (L := [0, 1]) (slots := [0, 3, 7, 8, 9, 4, 5, 6]) (w := 1) zr (gcVs_cons zh (gcV_sl hs_L rfl) (gcVs_cons zh (gcV_free rfl) (gcVs_cons zh (gcV_sl hs_L rfl) (gcVs_cons zh (gcV_free rfl) (gcVs_cons zh (gcV_free rfl) (gcVs_cons zh (gcV_free rfl) (gcVs_cons zh (gcV_ptr rfl) (gcVs_cons zh (gcV_free rfl) gcVs_nil)))))))) (gcH_cons (gcO_old (by rfl) zh) (gcH_cons (gcO_row (by rfl) zh (gcD_free (cf_free1 zc))) gcH_nil)) zr), ?_, ?_⟩
      ·show i < IntKind.i64.wrap (k + 1) ∧ _; rw [wr1 (by omega) (by omega)]; refine ⟨by omega, by omega, ?_, ?_, ?_⟩
       ·rw [clI_skip (by omega) (by assumption)]; exact h2
       ·exact h3
       ·exact hc
      ·show (L.length - IntKind.i64.wrap (k + 1)).toNat < (L.length - k).toNat; rw [wr1 (by omega) (by omega)]; omega
    ·have p14 := g14; try simp only [d1, d2, d3, d4, d5, d6, d7, d8, d9] at p14
     refine k_exit ?_
     refine e_seq_exit ?_
     refine e_loop_exit ?_
     refine e_block_eq ?_
     refine e_block ?_
     refine e_seq ?_
     refine k_region hP hC ?_
     refine os (x_bin rfl zt (by rfl) b_add) ?_
     refine os (x_move rfl zt) ?_
     refine o_done ?_
     refine e_loop ?_
     refine ⟨(false, IntKind.i64.wrap (i + 1), acc), (to_mk (L := [0]) (slots := [0, 3, 7, 8, 9]) (w := 1) zr (gcVs_cons zh (gcV_sl hs_L rfl) (gcVs_cons zh (gcV_free rfl) (gcVs_cons zh (gcV_sl hs_L rfl) (gcVs_cons zh (gcV_free rfl) (gcVs_cons zh (gcV_free rfl) gcVs_nil))))) (gcH_cons (gcO_old (by rfl) zh) gcH_nil) zr), ?_, ?_⟩
     ·show 0 ≤ IntKind.i64.wrap (i + 1) ∧ _; rw [wr1 (by omega) (by omega)]; refine ⟨by omega, by omega, ?_, h3, ?_⟩
      ·rw [clO_next h0]; have hkn : k = L.length := by omega
       rw [hkn] at h2; exact h2
      ·exact hc
     ·show (L.length - IntKind.i64.wrap (i + 1)).toNat < (L.length - i).toNat; rw [wr1 (by omega) (by omega)]; omega
   ·skip
    have hal : acc.length ≤ 2000000 := by rw [h2, List.length_append]; have q1 := @clO_len L i; have q2 := @clI_len L i k; have q3 : i.toNat * L.length ≤ 1000 * 1000 := Nat.mul_le_mul (by omega) hb; omega
    refine k_cst zm zo zl ?_
    refine k_seq ?_
    refine k_seq ?_
    refine k_region hP hC ?_
    refine os (x_move rfl zt) ?_
    refine os (x_move rfl zt) ?_
    refine os (x_lenS hs_L rfl rfl zv rfl Try.underlying23) ?_
    refine os (x_bin rfl zt zt b_lss) ?_
    refine o_done ?_
    refine e_seq ?_
    refine k_cond zt (fun g18 => ?_) (fun g18 => ?_)
    ·have p18 := g18; try simp only [d1, d2, d3, d4, d5, d6, d7, d8, d9] at p18
     refine k_skip ?_
     refine e_seq ?_
     refine k_seq ?_
     refine k_block ?_
     refine k_seq ?_
     refine k_draw hP hC zr ?_
     refine ds (x_loadA rfl zt T.g43 T.s43 (l_boxAll (whole_row zh rfl) (by (first | assumption | (exact cf_nth (by assumption) (by omega) (by omega)))) rfl)) ?_
     refine ds (x_move rfl zt) ?_
     refine ds (x_move rfl zt) ?_
     refine ds (x_indexS hs_L rfl zt zt Try.underlying23 T.s43 (by omega) (by omega)) ?_
     refine ds (x_loadA rfl zt T.g43 T.s43 (l_elem (whole_row zh rfl) (by assumption) rfl (by omega) (by omega))) ?_
     refine d_call0 (wA_none rfl) rfl rfl rfl zv (by decide) ?_
     refine ⟨_, _, _, _, (tab_hit.trans (clash_c (cf_nth h_L (by omega) (by omega)) (cf_nth h_L (by omega) (by omega)) rfl)), ?_⟩
     refine d_done ⟨by kernel_rfl, ?_⟩
     refine e_seq ?_
     refine k_cond (by simp only [Tr.get_set, reduceIte, Nat.reduceEqDiff, Nat.reduceAdd, ev_tmp, g18] <;> rfl) (fun g20 => ?_) (fun g20 => ?_)
     ·have p20 := g20; try simp only [d1, d2, d3, d4, d5, d6, d7, d8, d9] at p20
      refine k_region hP hC ?_
      refine os (x_move rfl zt) ?_
      refine os (x_move rfl zt) ?_
      refine os (x_move rfl zt) ?_
      refine os (x_build (v := .agg ⟨[.int .i64 i, .int .i64 k]⟩) rfl zp T.z71 rfl zr) ?_
      refine os (y_bsliceA rfl zt Try.underlying29 T.s71 T.z71 (by decide) rfl rfl (cf_len (ks := T.K71) (by first | rfl | assumption | (apply cf_part; (first | assumption | (exact cf_nth (by assumption) (by omega) (by omega))); rfl) | (exact cf_nth (by assumption) (by omega) (by omega)))) (by decide)) ?_
      refine os (x_append rfl rfl zv rfl rfl zr (cells_row Try.underlying29 T.s71 (l_all (whole_row zh rfl) rfl)) (ya_own Try.underlying29 T.i29 (by decide) rfl (by omega) (by unfold BIG; omega) rfl (by decide) zh rfl (cfs_len hc))) ?_
      refine os (x_assign rfl zt) ?_
      refine o_done ?_
      refine e_block ?_
      refine e_seq ?_
      refine k_region hP hC ?_
      refine os (x_move rfl zt) ?_
      refine os (x_bin rfl zt (by rfl) b_add) ?_
      refine os (x_assign rfl zt) ?_
      refine o_done ?_
      refine e_loop ?_
      refine ⟨(true, IntKind.i64.wrap (k + 1), (acc ++ [[Value.int .i64 i, Value.int .i64 k]])), (to_mk (L := [0, 4, 2]) (slots := [0, 3, 7, 8, 9, 4, 5, 6]) (w := 1) zr (gcVs_cons zh (gcV_sl hs_L rfl) (gcVs_cons zh (gcV_sliceE rfl (by simp)) (gcVs_cons zh (gcV_sl hs_L rfl) (gcVs_cons zh (gcV_free rfl) (gcVs_cons zh (gcV_free rfl) (gcVs_cons zh (gcV_free rfl) (gcVs_cons zh (gcV_ptr rfl) (gcVs_cons zh (gcV_free rfl) gcVs_nil)))))))) (gcH_cons (gcO_old (by rfl) zh) (gcH_cons (gcO_aliasE (by rfl) zh zh (gcD_free (by rw [List.all_append, cfs_free1 hc]; rfl)) (by simp only [List.flatten_append, List.flatten_cons, List.flatten_nil, List.append_nil, List.nil_append])) (gcH_cons (gcO_row (by rfl) zh (gcD_free (cf_free1 zc))) gcH_nil))) zr), ?_, ?_⟩
      ·show i < IntKind.i64.wrap (k + 1) ∧ _; rw [wr1 (by omega) (by omega)]; refine ⟨by omega, by omega, ?_, ?_, ?_⟩
       ·show (acc ++ [[Value.int .i64 i, Value.int .i64 k]]) = _; rw [clI_hit h0 (by omega) (by assumption), ← List.append_assoc, ← h2]
       ·simp
       ·exact cfs_append hc (cfs_one rfl)
      ·show (L.length - IntKind.i64.wrap (k + 1)).toNat < (L.length - k).toNat; rw [wr1 (by omega) (by omega)]; omega
     ·have p20 := g20; try simp only [d1, d2, d3, d4, d5, d6, d7, d8, d9] at p20
      refine k_skip ?_
      refine e_block ?_
      refine e_seq ?_
      refine k_region hP hC ?_
      refine os (x_move rfl zt) ?_
      refine os (x_bin rfl zt (by rfl) b_add) ?_
      refine os (x_assign rfl zt) ?_
      refine o_done ?_
      refine e_loop ?_
      refine ⟨(true, IntKind.i64.wrap (k + 1), acc), (to_mk (L := [0, 1, 2]) (slots := [0, 3, 7, 8, 9, 4, 5, 6]) (w := 1) zr (gcVs_cons zh (gcV_sl hs_L rfl) (gcVs_cons zh (gcV_slice rfl) (gcVs_cons zh (gcV_sl hs_L rfl) (gcVs_cons zh (gcV_free rfl) (gcVs_cons zh (gcV_free rfl) (gcVs_cons zh (gcV_free rfl) (gcVs_cons zh (gcV_ptr rfl) (gcVs_cons zh (gcV_free rfl) gcVs_nil)))))))) (gcH_cons (gcO_old (by rfl) zh) (gcH_cons (gcO_row (by rfl) zh (gcD_free (cfs_free1 hc))) (gcH_cons (gcO_row (by rfl) zh (gcD_free (cf_free1 zc))) gcH_nil))) zr), ?_, ?_⟩
      ·show i < IntKind.i64.wrap (k + 1) ∧ _; rw [wr1 (by omega) (by omega)]; refine ⟨by omega, by omega, ?_, ?_, ?_⟩
       ·rw [clI_skip (by omega) (by assumption)]; exact h2
       ·exact h3
       ·exact hc
      ·show (L.length - IntKind.i64.wrap (k + 1)).toNat < (L.length - k).toNat; rw [wr1 (by omega) (by omega)]; omega
    ·have p18 := g18; try simp only [d1, d2, d3, d4, d5, d6, d7, d8, d9] at p18
     refine k_exit ?_
     refine e_seq_exit ?_
     refine e_loop_exit ?_
     refine e_block_eq ?_
     refine e_block ?_
     refine e_seq ?_
     refine k_region hP hC ?_
     refine os (x_bin rfl zt (by rfl) b_add) ?_
     refine os (x_move rfl zt) ?_
     refine o_done ?_
     refine e_loop ?_
     refine ⟨(true, IntKind.i64.wrap (i + 1), acc), (to_mk (L := [0, 1]) (slots := [0, 3, 7, 8, 9]) (w := 1) zr (gcVs_cons zh (gcV_sl hs_L rfl) (gcVs_cons zh (gcV_slice rfl) (gcVs_cons zh (gcV_sl hs_L rfl) (gcVs_cons zh (gcV_free rfl) (gcVs_cons zh (gcV_free rfl) gcVs_nil))))) (gcH_cons (gcO_old (by rfl) zh) (gcH_cons (gcO_row (by rfl) zh (gcD_free (cfs_free1 hc))) gcH_nil)) zr), ?_, ?_⟩
     ·show 0 ≤ IntKind.i64.wrap (i + 1) ∧ _; rw [wr1 (by omega) (by omega)]; refine ⟨by omega, by omega, ?_, h3, ?_⟩
      ·rw [clO_next h0]; have hkn : k = L.length := by omega
       rw [hkn] at h2; exact h2
      ·exact hc
     ·show (L.length - IntKind.i64.wrap (i + 1)).toNat < (L.length - i).toNat; rw [wr1 (by omega) (by omega)]; omega
  ·have p12 := g12; try simp only [d1, d2, d3, d4, d5, d6, d7, d8, d9] at p12
   refine k_exit ?_
   refine e_seq_exit ?_
   refine e_loop_exit ?_
   refine e_block_eq ?_
   refine e_seq ?_
   refine k_seq ?_
   refine k_region hP hC ?_
   refine os (x_move rfl zt) ?_
   refine os (x_assign rfl zt) ?_
   refine o_done ?_
   refine e_seq ?_
   refine k_ret ?_
   have hi : i = L.length := by omega
   rw [hi] at h2
   have h2 : acc = clashesL L := h2
   unfold val_clashes new_clashes
   rw [← h2]
   have hne : acc.length ≠ 0 := by intro e; have e2 := List.eq_nil_of_length_eq_zero e; subst e2; cases h3
   rw [outV_ne hne, outN_ne hne]
   refine gives_mk (L := [0, 1]) (slots := [2]) (w := 1) (.inr rfl) zr (gcVs_cons zh (gcV_slice rfl) gcVs_nil) (gcH_cons (gcO_old (by rfl) zh) (gcH_cons (gcO_row (by rfl) zh (gcD_free (cfs_free1 hc))) gcH_nil)) zr (by simp only [Try.results10, resA, cst, mkE, Tr.get_set, reduceIte, Nat.reduceEqDiff, Nat.reduceAdd] <;> rfl) ?_
   rfl
theorem con_clashes : Con Try.prog 10 c_clashes := con_flat Try.func10 rfl fun us cs v new h => by
 unfold spec_clashes at h
 split at h
 case h_2 => cases h
 rename_i s_L c_L
 split at h
 case isFalse => cases h
 rename_i hc
 try simp only [Bool.and_eq_true] at hc
 obtain ⟨⟨q_L, r_L⟩, hok⟩ := hc
 cases h
 obtain ⟨h_L, e_L⟩ := isRows_cfs (by decide) r_L
 have hs_L := slOk_sl (n := (chunks 46 c_L).length) q_L (by decide) (rows_len (ks := T.K43) (by decide) r_L)
 have key := clashes_m hs_L h_L hok
 have hrows : [(chunks T.K43.length c_L).flatten] = [c_L] := by rw [e_L]
 rw [← hrows]
 exact key
theorem clashes_c {H : AH} {s_L : Value} {L : List (List Value)} (hr_L : Rd H 46 s_L L.length L.flatten) (h_L : cfs T.K43 L) (hok : ok_clashes L = true) : c_clashes [s_L] H = some (outV H.next 2 (clashesL L).length, addRows H (outN (clashesL L).length (clashesL L).flatten)) := by
 obtain ⟨u_L, a_L, b_L⟩ := hr_L 0
 have k_L := isRows_flat (by decide) h_L
 have k2_L : chunks 46 L.flatten = L := k_L.2
 exact flatC_at (v := val_clashes L) (new := new_clashes L) (cl_sl a_L cl_nil) (by simp only [spec_clashes, sl_slOk b_L (cfs_len h_L), k_L.1, k2_L, hok, Bool.and_self, if_true]) ((by unfold new_clashes outN; split; rfl; simp only [List.all_cons, List.all_nil, Bool.and_true]; exact cfs_free0 clO_cfs)) (out_gc)
end Go.Proofs.Ytohhcnehcjpekaa
