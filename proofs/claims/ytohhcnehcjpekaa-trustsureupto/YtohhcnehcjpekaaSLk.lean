/-
  Contracts: the answers of others.
-/
import Derived.Test.YtohhcnehcjpekaaSLr
import Derived.Test.YtohhcnehcjpekaaSA3
namespace Go.Proofs.Ytohhcnehcjpekaa
open Go.AM
set_option maxRecDepth 100000
set_option maxHeartbeats 1000000
set_option linter.unusedSimpArgs false
set_option linter.unusedVariables false

def ok_idxOdd (L : List (List Value)) : Bool := decide (L.length < 4611686018427387904)
def val_idxOdd (L : List (List Value)) : Value := .int .i64 (idxP oddC L)
def new_idxOdd (L : List (List Value)) : List (List Value) := []
def spec_idxOdd : Go.AM.Spec := fun us cs => match us, cs with
  | [s_L, .func (.func 39) ⟨[]⟩ ⟨[]⟩], [c_L] => if slOk 0 46 c_L s_L && isRows T.K43 c_L && ok_idxOdd (chunks 46 c_L) then some (val_idxOdd (chunks 46 c_L), new_idxOdd (chunks 46 c_L)) else none
  | _, _ => none
def c_idxOdd := flatC [.sl 46, .fn] spec_idxOdd
theorem idxOdd_m {s_L : Value} {L : List (List Value)} (hs_L : Sl 0 46 L.length s_L) (h_L : cfs T.K43 L) (hok : ok_idxOdd L = true) : Meets Try.prog (.func 36) [s_L, .func (.func 39) ⟨[]⟩ ⟨[]⟩] (cheap [L.flatten]) (val_idxOdd L) (rheap [L.flatten] (new_idxOdd L)) := by
  have hP := Fits
  have hC : CallSound Try.prog (tabOf [(39, c_odd)]) := tab_sound (tab_cons con_odd tab_end)
  simp only [ok_idxOdd, Bool.and_eq_true, decide_eq_true_eq] at hok
  have hb := hok
  refine meets_start (sz := 19) hP Try.func36 rfl rfl zo (by simp only [Tr.ofList, roRows, Nat.zero_add, Nat.reduceAdd] <;> rfl) zl ?_
  refine k_seq ?_
  refine k_region hP hC ?_
  refine os (x_assign rfl (by rfl)) ?_
  refine o_done ?_
  refine e_seq ?_
  refine k_seq ?_
  refine k_seq ?_
  refine k_region hP hC ?_
  refine os (x_move rfl zt) ?_
  refine os (x_lenS hs_L rfl rfl zv rfl Try.underlying23) ?_
  refine os (x_move rfl (by rfl)) ?_
  refine o_done ?_
  refine e_seq ?_
  refine k_block ?_
  refine k_loop (α := Int) (fun i => cst 19 [0, 1, 7, 8] [s_L, .func (.func 39) ⟨[]⟩ ⟨[]⟩, .int .i64 L.length, .int .i64 i] [.row L.flatten 0 BIG true L.flatten.length] 1) (fun i => 0 ≤ i ∧ i ≤ L.length ∧ (L.take i.toNat).all (fun a => !oddC a) = true) (fun i => (L.length - i).toNat) 0 (to_mk (L := [0]) (slots := [0, 1, 7, 8]) (w := 1) zr (gcVs_cons zh (gcV_sl hs_L rfl) (gcVs_cons zh (gcV_fn) (gcVs_cons zh (gcV_free rfl) (gcVs_cons zh (gcV_free rfl) gcVs_nil)))) (gcH_cons (gcO_old (by rfl) zh) gcH_nil) zr) ⟨by omega, by omega, by simp⟩ ?_
  rintro i ⟨h0, h1, h2⟩
  refine k_cst zm zo zl ?_
  refine k_seq ?_
  refine k_region hP hC ?_
  refine os (x_bin rfl zt zt b_lss) ?_
  refine o_done ?_
  refine e_seq ?_
  refine k_seq ?_
  refine k_cond zt (fun g2 => ?_) (fun g2 => ?_)
  · have p2 := g2; try simp only [d1, d2, d3, d4, d5, d6, d7, d8, d9] at p2
    refine k_skip ?_
    refine e_seq ?_
    refine k_seq ?_
    refine k_block ?_
    refine k_seq ?_
    refine k_region hP hC ?_
    refine os (x_move rfl zt) ?_
    refine os (x_assign rfl zt) ?_
    refine o_done ?_
    refine e_seq ?_
    refine k_seq ?_
    refine k_region hP hC ?_
    refine os (x_move rfl zt) ?_
    refine os (x_move rfl zt) ?_
    refine os (x_move rfl zt) ?_
    refine os (x_indexS hs_L rfl zt zt Try.underlying23 T.s43 (by omega) (by omega)) ?_
    refine os (x_loadA rfl zt T.g43 T.s43 (l_elem (whole_row zh rfl) (by assumption) rfl (by omega) (by omega))) ?_
    refine o_callF (wA_none rfl) rfl rfl rfl zt zv (by decide) ?_
    refine ⟨_, _, (tab_hit.trans (odd_c (cf_nth h_L (by omega) (by omega)) rfl)), ?_⟩
    refine o_done ?_
    refine e_seq ?_
    refine k_cond (by simp only [Tr.get_set, reduceIte, Nat.reduceEqDiff, Nat.reduceAdd, ev_tmp, g2] <;> rfl) (fun g4 => ?_) (fun g4 => ?_)
    · have p4 := g4; try simp only [d1, d2, d3, d4, d5, d6, d7, d8, d9] at p4
      refine k_seq ?_
      refine k_region hP hC ?_
      refine os (x_move rfl zt) ?_
      refine os (x_assign rfl zt) ?_
      refine o_done ?_
      refine e_seq ?_
      refine k_ret ?_
      refine e_block_ret ?_
      refine e_seq_ret ?_
      refine e_loop_ret ?_
      refine e_block_ret ?_
      refine e_seq_ret ?_
      refine gives_mk (L := [0]) (slots := [4]) (w := 1) (.inr rfl) zr (gcVs_cons zh (gcV_free rfl) gcVs_nil) (gcH_cons (gcO_old (by rfl) zh) gcH_nil) zr (by simp only [Try.results36, resA, cst, mkE, Tr.get_set, reduceIte, Nat.reduceEqDiff, Nat.reduceAdd] <;> rfl) ?_
      simp only [one, val_idxOdd]; first | rw [idxP_here h0 (by omega) h2 (by assumption)] | rw [idxP_none (all_end (by omega) h2)]
    · have p4 := g4; try simp only [d1, d2, d3, d4, d5, d6, d7, d8, d9] at p4
      refine k_skip ?_
      refine e_block ?_
      refine e_seq ?_
      refine k_region hP hC ?_
      refine os (x_bin rfl zt (by rfl) b_add) ?_
      refine os (x_move rfl zt) ?_
      refine o_done ?_
      refine e_loop ?_
      refine ⟨IntKind.i64.wrap (i + 1), (to_mk (L := [0]) (slots := [0, 1, 7, 8]) (w := 1) zr (gcVs_cons zh (gcV_sl hs_L rfl) (gcVs_cons zh (gcV_fn) (gcVs_cons zh (gcV_free rfl) (gcVs_cons zh (gcV_free rfl) gcVs_nil)))) (gcH_cons (gcO_old (by rfl) zh) gcH_nil) zr), ?_, ?_⟩
      · rw [wr1 (by omega) (by omega)]; exact ⟨by omega, by omega, all_next (by omega) (by omega) h2 (by simpa using g4)⟩
      · rw [wr1 (by omega) (by omega)]; omega
  · have p2 := g2; try simp only [d1, d2, d3, d4, d5, d6, d7, d8, d9] at p2
    refine k_exit ?_
    refine e_seq_exit ?_
    refine e_loop_exit ?_
    refine e_block_eq ?_
    refine e_seq ?_
    refine k_seq ?_
    refine k_region hP hC ?_
    refine os (x_assign rfl (by rfl)) ?_
    refine o_done ?_
    refine e_seq ?_
    refine k_ret ?_
    refine gives_mk (L := [0]) (slots := [4]) (w := 1) (.inr rfl) zr (gcVs_cons zh (gcV_free rfl) gcVs_nil) (gcH_cons (gcO_old (by rfl) zh) gcH_nil) zr (by simp only [Try.results36, resA, cst, mkE, Tr.get_set, reduceIte, Nat.reduceEqDiff, Nat.reduceAdd] <;> rfl) ?_
    simp only [one, val_idxOdd]; first | rw [idxP_here h0 (by omega) h2 (by assumption)] | rw [idxP_none (all_end (by omega) h2)]

theorem con_idxOdd : Con Try.prog 36 c_idxOdd := con_flat Try.func36 rfl fun us cs v new h => by
  unfold spec_idxOdd at h
  split at h
  case h_2 => cases h
  rename_i s_L c_L
  split at h
  case isFalse => cases h
  rename_i hc
  try simp only [Bool.and_eq_true] at hc
  obtain ⟨⟨q_L, r_L⟩, hok⟩ := hc
  cases h
  obtain ⟨h_L, e_L⟩ := isRows_cfs (by decide) r_L
  have hs_L := slOk_sl (n := (chunks 46 c_L).length) q_L (by decide) (rows_len (ks := T.K43) (by decide) r_L)
  have key := idxOdd_m hs_L h_L hok
  have hrows : [(chunks T.K43.length c_L).flatten] = [c_L] := by rw [e_L]
  rw [← hrows]
  exact key
theorem idxOdd_c {H : AH} {s_L : Value} {L : List (List Value)} (hr_L : Rd H 46 s_L L.length L.flatten) (h_L : cfs T.K43 L) (hok : ok_idxOdd L = true) : c_idxOdd [s_L, .func (.func 39) ⟨[]⟩ ⟨[]⟩] H = some (.int .i64 (idxP oddC L), H) := by
  obtain ⟨u_L, a_L, b_L⟩ := hr_L 0
  have k_L := isRows_flat (by decide) h_L
  have k2_L : chunks 46 L.flatten = L := k_L.2
  exact flatC_at (v := val_idxOdd L) (new := new_idxOdd L) (cl_sl a_L (cl_fn cl_nil)) (by simp only [spec_idxOdd, sl_slOk b_L (cfs_len h_L), k_L.1, k2_L, hok, Bool.and_self, if_true]) (rfl) (gcV_free rfl)

def ok_anyOdd (L : List (List Value)) : Bool := decide (L.length < 4611686018427387904)
def val_anyOdd (L : List (List Value)) : Value := .bool (L.any oddC)
def new_anyOdd (L : List (List Value)) : List (List Value) := []
def spec_anyOdd : Go.AM.Spec := fun us cs => match us, cs with
  | [s_L, .func (.func 39) ⟨[]⟩ ⟨[]⟩], [c_L] => if slOk 0 46 c_L s_L && isRows T.K43 c_L && ok_anyOdd (chunks 46 c_L) then some (val_anyOdd (chunks 46 c_L), new_anyOdd (chunks 46 c_L)) else none
  | _, _ => none
def c_anyOdd := flatC [.sl 46, .fn] spec_anyOdd
theorem anyOdd_m {s_L : Value} {L : List (List Value)} (hs_L : Sl 0 46 L.length s_L) (h_L : cfs T.K43 L) (hok : ok_anyOdd L = true) : Meets Try.prog (.func 38) [s_L, .func (.func 39) ⟨[]⟩ ⟨[]⟩] (cheap [L.flatten]) (val_anyOdd L) (rheap [L.flatten] (new_anyOdd L)) := by
  have hP := Fits
  have hC : CallSound Try.prog (tabOf [(36, c_idxOdd)]) := tab_sound (tab_cons con_idxOdd tab_end)
  simp only [ok_anyOdd, Bool.and_eq_true, decide_eq_true_eq] at hok
  have hb := hok
  refine meets_start (sz := 9) hP Try.func38 rfl rfl zo (by simp only [Tr.ofList, roRows, Nat.zero_add, Nat.reduceAdd] <;> rfl) zl ?_
  refine k_seq ?_
  refine k_region hP hC ?_
  refine os (x_assign rfl (by rfl)) ?_
  refine o_done ?_
  refine e_seq ?_
  refine k_seq ?_
  refine k_region hP hC ?_
  refine os (x_move rfl zt) ?_
  refine os (x_move rfl zt) ?_
  refine o_call0 (wA_none rfl) rfl rfl rfl zv (by decide) ?_
  refine ⟨_, _, (tab_hit.trans (idxOdd_c (rd_sl hs_L (by decide) (whole_row zh rfl) (cfs_len h_L).symm (cfs_free0 h_L)) h_L (by rw [ok_idxOdd, decide_eq_true hb]))), ?_⟩
  refine os (x_bin rfl zt (by rfl) b_geq) ?_
  refine os (x_assign rfl zt) ?_
  refine o_done ?_
  refine e_seq ?_
  refine k_ret ?_
  refine gives_mk (L := [0]) (slots := [4]) (w := 1) (.inr rfl) zr (gcVs_cons zh (gcV_free rfl) gcVs_nil) (gcH_cons (gcO_old (by rfl) zh) gcH_nil) zr (by simp only [Try.results38, resA, cst, mkE, Tr.get_set, reduceIte, Nat.reduceEqDiff, Nat.reduceAdd] <;> rfl) ?_
  simp only [one, val_anyOdd]; rw [idxP_geq]

theorem con_anyOdd : Con Try.prog 38 c_anyOdd := con_flat Try.func38 rfl fun us cs v new h => by
  unfold spec_anyOdd at h
  split at h
  case h_2 => cases h
  rename_i s_L c_L
  split at h
  case isFalse => cases h
  rename_i hc
  try simp only [Bool.and_eq_true] at hc
  obtain ⟨⟨q_L, r_L⟩, hok⟩ := hc
  cases h
  obtain ⟨h_L, e_L⟩ := isRows_cfs (by decide) r_L
  have hs_L := slOk_sl (n := (chunks 46 c_L).length) q_L (by decide) (rows_len (ks := T.K43) (by decide) r_L)
  have key := anyOdd_m hs_L h_L hok
  have hrows : [(chunks T.K43.length c_L).flatten] = [c_L] := by rw [e_L]
  rw [← hrows]
  exact key
theorem anyOdd_c {H : AH} {s_L : Value} {L : List (List Value)} (hr_L : Rd H 46 s_L L.length L.flatten) (h_L : cfs T.K43 L) (hok : ok_anyOdd L = true) : c_anyOdd [s_L, .func (.func 39) ⟨[]⟩ ⟨[]⟩] H = some (.bool (L.any oddC), H) := by
  obtain ⟨u_L, a_L, b_L⟩ := hr_L 0
  have k_L := isRows_flat (by decide) h_L
  have k2_L : chunks 46 L.flatten = L := k_L.2
  exact flatC_at (v := val_anyOdd L) (new := new_anyOdd L) (cl_sl a_L (cl_fn cl_nil)) (by simp only [spec_anyOdd, sl_slOk b_L (cfs_len h_L), k_L.1, k2_L, hok, Bool.and_self, if_true]) (rfl) (gcV_free rfl)



end Go.Proofs.Ytohhcnehcjpekaa
