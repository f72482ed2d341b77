/-
  The law TrustForgers: her walk.
-/
import Derived.Test.YtohhcnehcjpekaaDLf
import Derived.Test.YtohhcnehcjpekaaDLt
import Derived.Test.YtohhcnehcjpekaaDLq
import Derived.Test.YtohhcnehcjpekaaDA3
namespace Go.Proofs.Ytohhcnehcjpekaa
open Go.AM
set_option maxRecDepth 100000
set_option maxHeartbeats 1000000
set_option linter.unusedSimpArgs false
set_option linter.unusedVariables false

theorem least_c0 {H : AH} {s_L : Value} {L : List (List Value)} (hr : Rd H 46 s_L L.length L.flatten) (h_L : cfs T.K43 L) (hb : L.length ≤ 1000) (ho : L.any oddC = false) (h0 : leastL L = []) : c_least [s_L] H = some (.tuple ⟨[.slice none 0 0, .int .i64 0]⟩, H) := by
  have q := least_c hr h_L (by rw [ok_least, decide_eq_true hb])
  rw [ho, h0] at q
  exact q
theorem least_c1 {t : Tr AObj} {nx wr : Nat} {s_L : Value} {L : List (List Value)} {M : List Int} (hM : M = leastL L) (hr : Rd ⟨t, nx, wr⟩ 46 s_L L.length L.flatten) (h_L : cfs T.K43 L) (hb : L.length ≤ 1000) (ho : L.any oddC = false) (h0 : 0 < M.length) :
    c_least [s_L] ⟨t, nx, wr⟩ = some (.tuple ⟨[.slice (some ⟨nx, 0, none⟩) M.length (M.length + 1), .int .i64 0]⟩, ⟨t.set nx (.row (ints M) nx BIG false (ints M).length), nx + 1, wr⟩) := by
  have q := least_c hr h_L (by rw [ok_least, decide_eq_true hb])
  rw [ho, ← hM, outV_ne (by omega), outN_ne (by omega)] at q
  exact q
theorem clashes_c0 {H : AH} {s_L : Value} {L : List (List Value)} (hr : Rd H 46 s_L L.length L.flatten) (h_L : cfs T.K43 L) (hb : L.length ≤ 1000) (h0 : clashesL L = []) : c_clashes [s_L] H = some (.slice none 0 0, H) := by
  have q := clashes_c hr h_L (by rw [ok_clashes, decide_eq_true hb])
  rw [h0] at q
  exact q
theorem clashes_c1 {t : Tr AObj} {nx wr : Nat} {s_L : Value} {L C : List (List Value)} (hC : C = clashesL L) (hr : Rd ⟨t, nx, wr⟩ 46 s_L L.length L.flatten) (h_L : cfs T.K43 L) (hb : L.length ≤ 1000) (h0 : 0 < C.length) :
    c_clashes [s_L] ⟨t, nx, wr⟩ = some (.slice (some ⟨nx, 0, none⟩) C.length (C.length + 2), ⟨t.set nx (.row C.flatten nx BIG false C.flatten.length), nx + 1, wr⟩) := by
  have q := clashes_c hr h_L (by rw [ok_clashes, decide_eq_true hb])
  rw [← hC, outV_ne (by omega), outN_ne (by omega)] at q
  exact q
theorem in_cT {H : AH} {s_l : Value} {l : List Int} {n : Int} (hr : Rd H 1 s_l l.length (ints l)) (hb : l.length < 4611686018427387904) (h : n ∈ l) : c_in [s_l, .int .i64 n] H = some (.bool true, H) := by
  have q := in_c (n := n) hr (by rw [ok_in, decide_eq_true hb])
  rw [decide_eq_true h] at q
  exact q
theorem kz_rd {H : AH} {id : Nat} {L : List (List Value)} {w : List Int} (h_L : cfs T.K43 L) (hw : Whole H id (keptZ L w).flatten) : Rd H 46 (.slice (some ⟨id, 0, none⟩) (keptL w L).length ((keptL w L).length + 46)) (keptL w L).length (keptL w L).flatten := by
  have hK := keptL_cfs (ws := w) h_L
  have hl : (keptL w L).flatten.length = (keptL w L).length * 46 := cfs_len hK
  have e : (keptZ L w).flatten = (keptL w L).flatten ++ (List.replicate (L.length - (keptL w L).length) Z43).flatten := by unfold keptZ; rw [List.flatten_append]
  refine rd_row (by decide) (.inr rfl) ?_ (cfs_free0 hK)
  rw [l_whole hw 0 _ (by rw [e, List.length_append]; omega), List.drop_zero, e, ← hl, List.take_left]

def ok_forgers (l : List Int) (bits : Int) : Bool := decide (inR bits) && decide (l.all (fun n => decide (inR n)) = true) && decide (l.length < 4611686018427387904)
def val_forgers (l : List Int) (bits : Int) : Value := .bool true
def new_forgers (l : List Int) (bits : Int) : List (List Value) := []
def spec_forgers : Go.AM.Spec := fun us cs => match us, cs with
  | [s_l, .int .i64 bits], [c_l] => if slOk 0 1 c_l s_l && isInts c_l && ok_forgers (unints c_l) bits then some (val_forgers (unints c_l) bits, new_forgers (unints c_l) bits) else none
  | _, _ => none
def c_forgers := flatC [.sl 1, .fr] spec_forgers
theorem forgers_m {s_l : Value} {l : List Int} {bits : Int} (hs_l : Sl 0 1 l.length s_l) (hok : ok_forgers l bits = true) : Meets Try.prog (.func 5) [s_l, .int .i64 bits] (cheap [ints l]) (val_forgers l bits) (rheap [ints l] (new_forgers l bits)) := by
  have hP := Fits
  have hC : CallSound Try.prog (tabOf [(8, c_made), (23, c_judge), (18, c_least), (10, c_clashes), (32, c_in), (28, c_kept), (21, c_lives)]) := tab_sound (tab_cons con_made (tab_cons con_judge (tab_cons con_least (tab_cons con_clashes (tab_cons con_in (tab_cons con_kept (tab_cons con_lives tab_end)))))))
  simp only [ok_forgers, Bool.and_eq_true, decide_eq_true_eq] at hok
  obtain ⟨⟨hbt, hl⟩, hlb⟩ := hok
  obtain ⟨A, hA⟩ : ∃ A, A = mkA l bits (min (l.length : Int) 16) := ⟨_, rfl⟩
  obtain ⟨R, hR⟩ : ∃ R, R = mkR l (min (l.length : Int) 16) := ⟨_, rfl⟩
  obtain ⟨W, hWd⟩ : ∃ W, W = judgeW A R := ⟨_, rfl⟩
  obtain ⟨AA, hAAd⟩ : ∃ AA, AA = judgeA A R := ⟨_, rfl⟩
  obtain ⟨M, hMd⟩ : ∃ M, M = leastL A := ⟨_, rfl⟩
  obtain ⟨C, hCd⟩ : ∃ C, C = clashesL A := ⟨_, rfl⟩
  have h_A : cfs T.K43 A := by rw [hA]; exact mkA_cfs
  have h_R : cfs T.K41 R := by rw [hR]; exact mkR_cfs
  have h_C : cfs T.K71 C := by rw [hCd]; exact clO_cfs
  have hAl : A.length = R.length := by rw [hA, hR, mkA_len, mkR_len]
  have hA16 : A.length ≤ 16 := by rw [hA, mkA_len]; omega
  have hAb : A.length ≤ 1000 := by omega
  have hodd : A.any oddC = false := by rw [hA]; exact made_odd
  have hWA : W.length = AA.length := by rw [hWd, hAAd]; exact judge_len
  have hW6 : W.length ≤ 6 := by rw [hWd]; exact judgeW_comb.2
  have hWb : W.length < 4611686018427387904 := by omega
  have hE : judgeE A R = 0 := by rw [hA, hR]; exact made_E
  have hxe : explainL A W = true := by rw [hWd]; exact made_explain hA hR
  have hMW : M.length ≤ W.length := by rw [hMd]; exact least_le hW6 (by rw [hWd]; exact judgeW_comb.1) hxe
  have hMb : M.length < 4611686018427387904 := by omega
  have hme : explainL A M = true := by rw [hMd]; exact least_explains hodd
  have hxW : clashesL (keptL W A) = [] := List.isEmpty_iff.1 hxe
  have hxM : clashesL (keptL M A) = [] := List.isEmpty_iff.1 hme
  have hCM : clashesL A = [] ↔ leastL A = [] := cl_least hodd
  have hCl : C.length ≤ 1000000 := by
    rw [hCd]
    have q1 := @clO_len A A.length
    have q2 : (A.length : Int).toNat * A.length ≤ 1000 * 1000 := Nat.mul_le_mul (by omega) hAb
    exact Nat.le_trans q1 (by omega)
  have pf : ∀ i : Int, 0 ≤ i → i < C.length → 0 ≤ intAt (nth C i) 0 ∧ intAt (nth C i) 0 < intAt (nth C i) 1 ∧ intAt (nth C i) 1 < A.length := by
    intro i h0 h1
    rw [hCd] at h1 ⊢
    have := cl_pair h0 h1
    exact ⟨this.1, this.2.1, this.2.2.1⟩
  have pw : ∀ i : Int, 0 ≤ i → i < C.length → wkr (nth A (intAt (nth C i) 0)) ∈ W ∨ wkr (nth A (intAt (nth C i) 1)) ∈ W := by
    intro i h0 h1
    rw [hCd] at h1 ⊢
    have := cl_pair h0 h1
    exact explain_pair hxe this.1 this.2.1 this.2.2.1 this.2.2.2
  have pm : ∀ i : Int, 0 ≤ i → i < C.length → wkr (nth A (intAt (nth C i) 0)) ∈ M ∨ wkr (nth A (intAt (nth C i) 1)) ∈ M := by
    intro i h0 h1
    rw [hCd] at h1 ⊢
    have := cl_pair h0 h1
    exact explain_pair hme this.1 this.2.1 this.2.2.1 this.2.2.2
  clear hxe hme
  have hL0 : ([] : List (List Value)).length = 0 := rfl
  refine meets_start (sz := 143) hP Try.func5 rfl rfl (by simp only [Tr.ofList, Nat.zero_add, Nat.reduceAdd] <;> rfl) (by simp only [Tr.ofList, roRows, Nat.zero_add, Nat.reduceAdd] <;> rfl) (by simp only [roRows, List.length_cons, List.length_nil, Nat.zero_add, Nat.reduceAdd] <;> rfl) ?_
  rcases Nat.eq_zero_or_pos A.length with hA0 | hA1
  · skip
    have hA2 : A = [] := List.eq_nil_of_length_eq_zero hA0
    have hR2 : R = [] := List.eq_nil_of_length_eq_zero (by omega)
    subst hA2; subst hR2
    have hW2 : W = [] := hWd
    have hAA2 : AA = [] := hAAd
    subst hW2; subst hAA2
    have hM2 : M = [] := List.eq_nil_of_length_eq_zero (by rw [List.length_nil] at hMW; omega)
    subst hM2
    · skip
      skip
      · skip
        skip
        · skip
          refine k_seq ?_
          refine k_region hP hC ?_
          refine os (x_assign rfl (by rfl)) ?_
          refine o_done ?_
          refine e_seq ?_
          refine k_seq ?_
          refine k_region hP hC ?_
          refine om ?_
          refine om ?_
          refine o_call0 (wA_none rfl) rfl rfl rfl rfl (by decide) ?_
          refine ⟨_, _, (tab_hit.trans (made_c0 hA hR (rd_sl hs_l (by decide) (whole_row rfl rfl) (by rw [ints_len, Nat.mul_one]) (ints_free0 _)) (by simp only [ok_made, Bool.and_eq_true, decide_eq_true_eq]; exact ⟨⟨⟨⟨by decide, by decide⟩, hbt⟩, hl⟩, hlb⟩) rfl rfl)), ?_⟩
          refine om ?_
          refine os (x_extract rfl rfl rfl) ?_
          refine os (x_extract rfl rfl rfl) ?_
          refine oa ?_
          refine oa ?_
          refine o_done ?_
          refine e_seq ?_
          refine k_seq ?_
          refine k_region hP hC ?_
          refine om ?_
          refine om ?_
          refine o_call0 (wA_none rfl) rfl rfl rfl rfl (by decide) ?_
          refine ⟨_, _, ((tab_miss (by decide)).trans (tab_hit.trans (judge_c0 (L := []) (R := []) (rd_nil (k := 46)) cfs_nil (rd_nil (k := 22)) cfs_nil (by decide) rfl rfl))), ?_⟩
          refine om ?_
          refine os (x_extract rfl rfl rfl) ?_
          refine os (x_extract rfl rfl rfl) ?_
          refine os (y_alloc rfl T.z56 rfl rfl) ?_
          refine o_stepN (wA_none rfl) rfl (y_storeA rfl rfl rfl T.s56 rfl rfl rfl rfl rfl) ?_
          refine oa ?_
          refine o_done ?_
          refine e_seq ?_
          refine k_seq ?_
          refine k_region hP hC ?_
          refine om ?_
          refine o_call0 (wA_none rfl) rfl rfl rfl rfl (by decide) ?_
          refine ⟨_, _, ((tab_miss (by decide)).trans ((tab_miss (by decide)).trans (tab_hit.trans (least_c0 (L := []) (rd_nil (k := 46)) cfs_nil (by decide) rfl least_nil)))), ?_⟩
          refine om ?_
          refine os (x_extract rfl rfl rfl) ?_
          refine os (x_extract rfl rfl rfl) ?_
          refine oa ?_
          refine oa ?_
          refine o_done ?_
          refine e_seq ?_
          refine k_seq ?_
          refine k_region hP hC ?_
          refine om ?_
          refine o_call0 (wA_none rfl) rfl rfl rfl rfl (by decide) ?_
          refine ⟨_, _, ((tab_miss (by decide)).trans ((tab_miss (by decide)).trans ((tab_miss (by decide)).trans (tab_hit.trans (clashes_c0 (L := []) (rd_nil (k := 46)) cfs_nil (by decide) rfl))))), ?_⟩
          refine oa ?_
          refine o_done ?_
          refine e_seq ?_
          refine k_seq ?_
          refine k_seq ?_
          refine k_region hP hC ?_
          refine om ?_
          refine os (x_bin (u := .bool false) rfl rfl (by rfl) (by rw [b_neq]; rfl)) ?_
          refine om ?_
          refine o_step (wA_on rfl rfl rfl) rfl (x_move rfl rfl) (by decide) ?_
          refine o_step (wA_on rfl rfl rfl) rfl (x_bin (u := .bool false) rfl rfl (by rfl) (by rw [b_neq]; rfl)) (by decide) ?_
          refine os (x_pick rfl rfl (by simp only [if_true, if_false, Bool.false_eq_true, ev_tmp, Tr.get_set, reduceIte, Nat.reduceEqDiff, Nat.reduceAdd]; rfl)) ?_
          refine om ?_
          refine o_step (wA_on rfl rfl rfl) rfl (x_move rfl rfl) (by decide) ?_
          refine o_step (wA_on rfl rfl rfl) rfl (x_len rfl rfl rfl rfl Try.underlying22) (by decide) ?_
          refine o_step (wA_on rfl rfl rfl) rfl (x_field (off' := 0) rfl rfl Try.underlying56 rfl T.s22 rfl) (by decide) ?_
          refine o_step (wA_on rfl rfl rfl) rfl (x_load1' rfl rfl T.g22 rfl rfl (Nat.le_of_ble_eq_true rfl) (by simp only [List.take_succ_cons, List.drop_succ_cons, List.take_zero, List.drop_zero, List.take_nil, List.drop_nil, List.cons_append, List.nil_append, List.append_nil, List.length_cons, List.length_nil, Nat.reduceAdd, Int.toNat_zero, Nat.zero_mul, Nat.add_zero, Nat.zero_add] <;> rfl)) (by decide) ?_
          refine o_step (wA_on rfl rfl rfl) rfl (x_len rfl rfl rfl rfl Try.underlying22) (by decide) ?_
          refine o_step (wA_on rfl rfl rfl) rfl (x_bin (u := .bool false) rfl rfl rfl (by rw [b_gtr]; first | rfl | (congr 2; exact decide_eq_false (by omega)))) (by decide) ?_
          refine os (x_pick rfl rfl (by simp only [if_true, if_false, Bool.false_eq_true, ev_tmp, Tr.get_set, reduceIte, Nat.reduceEqDiff, Nat.reduceAdd]; rfl)) ?_
          refine o_done ?_
          refine e_seq ?_
          refine k_condF rfl ?_
          refine k_skip ?_
          refine e_seq ?_
          refine k_seq ?_
          refine k_seq ?_
          refine k_region hP hC ?_
          refine os (x_assign rfl (by rfl)) ?_
          refine o_done ?_
          refine e_seq ?_
          refine k_block ?_
          refine k_loop (α := Int) (fun i => cst 143 [5, 7, 9, 11, 12] [.slice none 0 0, .pointer (some ⟨1, 0, none⟩), .slice none 0 0, .slice none 0 0, .int .i64 i] [.row (ints l) 0 BIG true (ints l).length, .row [.slice none 0 0, .slice none 0 0] 1 BIG false 2] 1) (fun i => 0 ≤ i ∧ i ≤ (0 : Nat)) (fun i => ((0 : Nat) - i).toNat) 0 (to_mk (L := [0, 1]) (slots := [5, 7, 9, 11, 12]) (w := 1) (by kernel_rfl) (gcVs_cons rfl gFre (gcVs_cons rfl (gcV_ptr rfl) (gcVs_cons rfl gFre (gcVs_cons rfl gFre (gcVs_cons rfl gFre gcVs_nil))))) (gcH_cons gOld (gcH_cons (gcO_rowE (by rfl) rfl (gcD_free rfl) rfl) gcH_nil)) (by kernel_rfl)) ⟨by omega, by omega⟩ ?_
          rintro i ⟨h0, h1⟩
          refine k_cst rfl rfl rfl ?_
          refine k_seq ?_
          refine k_seq ?_
          refine k_region hP hC ?_
          refine om ?_
          refine om ?_
          refine os (x_len rfl rfl rfl rfl Try.underlying29) ?_
          refine os (x_bin (u := .bool false) rfl rfl rfl (by rw [b_lss]; congr 2; exact decide_eq_false (by omega))) ?_
          refine o_done ?_
          refine e_seq ?_
          refine k_condF rfl ?_
          refine k_exit ?_
          refine e_seq_exit ?_
          refine e_loop_exit ?_
          refine e_block_eq ?_
          refine e_seq ?_
          refine k_seq ?_
          refine k_region hP hC ?_
          refine om ?_
          refine os (x_loadA' rfl rfl T.g56 T.s56 rfl rfl (Nat.le_of_ble_eq_true rfl) rfl) ?_
          refine o_call0 (wA_none rfl) rfl rfl rfl rfl (by decide) ?_
          refine ⟨_, _, ((tab_miss (by decide)).trans ((tab_miss (by decide)).trans ((tab_miss (by decide)).trans ((tab_miss (by decide)).trans ((tab_miss (by decide)).trans (tab_hit.trans (kept_c0 (w := []) (a := []) (rd_nil (k := 1)) (rd_nil (k := 1)) (by decide)))))))), ?_⟩
          refine o_call0 (wA_none rfl) rfl rfl rfl rfl (by decide) ?_
          refine ⟨_, _, ((tab_miss (by decide)).trans ((tab_miss (by decide)).trans ((tab_miss (by decide)).trans (tab_hit.trans (clashes_c0 (L := []) (rd_nil (k := 46)) cfs_nil (by decide) rfl))))), ?_⟩
          refine os (x_len rfl rfl rfl rfl Try.underlying29) ?_
          refine os (x_bin (u := .bool true) rfl rfl (by rfl) (by rw [b_eql]; rfl)) ?_
          refine om ?_
          refine o_step (wA_on rfl rfl rfl) rfl (x_move rfl rfl) (by decide) ?_
          refine o_step (wA_on rfl rfl rfl) rfl (x_move rfl rfl) (by decide) ?_
          refine o_step (wA_on rfl rfl rfl) rfl (x_build (v := .agg ⟨[.slice none 0 0, .slice none 0 0]⟩) rfl rfl T.z56 rfl (by kernel_rfl)) (by decide) ?_
          refine o_call0 (wA_on rfl rfl rfl) rfl rfl rfl rfl (by decide) ?_
          refine ⟨_, _, ((tab_miss (by decide)).trans ((tab_miss (by decide)).trans ((tab_miss (by decide)).trans ((tab_miss (by decide)).trans ((tab_miss (by decide)).trans (tab_hit.trans (kept_c0 (w := []) (a := []) (rd_nil (k := 1)) (rd_nil (k := 1)) (by decide)))))))), ?_⟩
          refine o_call0 (wA_on rfl rfl rfl) rfl rfl rfl rfl (by decide) ?_
          refine ⟨_, _, ((tab_miss (by decide)).trans ((tab_miss (by decide)).trans ((tab_miss (by decide)).trans (tab_hit.trans (clashes_c0 (L := []) (rd_nil (k := 46)) cfs_nil (by decide) rfl))))), ?_⟩
          refine o_step (wA_on rfl rfl rfl) rfl (x_len rfl rfl rfl rfl Try.underlying29) (by decide) ?_
          refine o_step (wA_on rfl rfl rfl) rfl (x_bin (u := .bool true) rfl rfl (by rfl) (by rw [b_eql]; rfl)) (by decide) ?_
          refine os (x_pick rfl rfl (by simp only [if_true, if_false, Bool.false_eq_true, ev_tmp, Tr.get_set, reduceIte, Nat.reduceEqDiff, Nat.reduceAdd]; rfl)) ?_
          refine om ?_
          refine o_call0 (wA_on rfl rfl rfl) rfl rfl rfl rfl (by decide) ?_
          refine ⟨_, _, ((tab_miss (by decide)).trans ((tab_miss (by decide)).trans ((tab_miss (by decide)).trans ((tab_miss (by decide)).trans ((tab_miss (by decide)).trans ((tab_miss (by decide)).trans (tab_hit.trans lives_c))))))), ?_⟩
          refine os (x_pick rfl rfl (by simp only [if_true, if_false, Bool.false_eq_true, ev_tmp, Tr.get_set, reduceIte, Nat.reduceEqDiff, Nat.reduceAdd]; rfl)) ?_
          refine oa ?_
          refine o_done ?_
          refine e_seq ?_
          refine k_ret ?_
          refine gives_mk (L := [0]) (slots := [4]) (w := 1) (.inr rfl) (by kernel_rfl) (gcVs_cons rfl gFre gcVs_nil) (gcH_cons gOld gcH_nil) (by kernel_rfl) (by simp only [Try.results5, resA, cst, mkE, Tr.get_set, reduceIte, Nat.reduceEqDiff, Nat.reduceAdd] <;> rfl) ?_
          rfl
  · skip
    have hR1 : 0 < R.length := by omega
    rcases Nat.eq_zero_or_pos C.length with hC0 | hC1
    · skip
      have hC0 : clashesL A = [] := by rw [← hCd]; exact List.eq_nil_of_length_eq_zero hC0
      have hM2 : M = [] := by rw [hMd]; exact hCM.1 hC0
      subst hM2
      rcases Nat.eq_zero_or_pos W.length with hW0 | hW1
      · skip
        have hW2 : W = [] := List.eq_nil_of_length_eq_zero hW0
        have hAA2 : AA = [] := List.eq_nil_of_length_eq_zero (by omega)
        subst hW2; subst hAA2
        · skip
          refine k_seq ?_
          refine k_region hP hC ?_
          refine os (x_assign rfl (by rfl)) ?_
          refine o_done ?_
          refine e_seq ?_
          refine k_seq ?_
          refine k_region hP hC ?_
          refine om ?_
          refine om ?_
          refine o_call0 (wA_none rfl) rfl rfl rfl rfl (by decide) ?_
          refine ⟨_, _, (tab_hit.trans (made_c1 hA hR (rd_sl hs_l (by decide) (whole_row rfl rfl) (by rw [ints_len, Nat.mul_one]) (ints_free0 _)) (by simp only [ok_made, Bool.and_eq_true, decide_eq_true_eq]; exact ⟨⟨⟨⟨by decide, by decide⟩, hbt⟩, hl⟩, hlb⟩) hA1 hR1)), ?_⟩
          refine om ?_
          refine os (x_extract rfl rfl rfl) ?_
          refine os (x_extract rfl rfl rfl) ?_
          refine oa ?_
          refine oa ?_
          refine o_done ?_
          refine e_seq ?_
          refine k_seq ?_
          refine k_region hP hC ?_
          refine om ?_
          refine om ?_
          refine o_call0 (wA_none rfl) rfl rfl rfl rfl (by decide) ?_
          refine ⟨_, _, ((tab_miss (by decide)).trans (tab_hit.trans (judge_c0 (L := A) (R := R) (rd_whole (by decide) (.inr rfl) (whole_row rfl rfl) (cfs_len h_A).symm (cfs_free0 h_A)) h_A (rd_whole (by decide) (.inr rfl) (whole_row rfl rfl) (cfs_len h_R).symm (cfs_free0 h_R)) h_R hAb hE (by rw [← hWd]; rfl)))), ?_⟩
          refine om ?_
          refine os (x_extract rfl rfl rfl) ?_
          refine os (x_extract rfl rfl rfl) ?_
          refine os (y_alloc rfl T.z56 rfl rfl) ?_
          refine o_stepN (wA_none rfl) rfl (y_storeA rfl rfl rfl T.s56 rfl rfl rfl rfl rfl) ?_
          refine oa ?_
          refine o_done ?_
          refine e_seq ?_
          refine k_seq ?_
          refine k_region hP hC ?_
          refine om ?_
          refine o_call0 (wA_none rfl) rfl rfl rfl rfl (by decide) ?_
          refine ⟨_, _, ((tab_miss (by decide)).trans ((tab_miss (by decide)).trans (tab_hit.trans (least_c0 (L := A) (rd_whole (by decide) (.inr rfl) (whole_row rfl rfl) (cfs_len h_A).symm (cfs_free0 h_A)) h_A hAb hodd (hMd.symm))))), ?_⟩
          refine om ?_
          refine os (x_extract rfl rfl rfl) ?_
          refine os (x_extract rfl rfl rfl) ?_
          refine oa ?_
          refine oa ?_
          refine o_done ?_
          refine e_seq ?_
          refine k_seq ?_
          refine k_region hP hC ?_
          refine om ?_
          refine o_call0 (wA_none rfl) rfl rfl rfl rfl (by decide) ?_
          refine ⟨_, _, ((tab_miss (by decide)).trans ((tab_miss (by decide)).trans ((tab_miss (by decide)).trans (tab_hit.trans (clashes_c0 (L := A) (rd_whole (by decide) (.inr rfl) (whole_row rfl rfl) (cfs_len h_A).symm (cfs_free0 h_A)) h_A hAb hC0))))), ?_⟩
          refine oa ?_
          refine o_done ?_
          refine e_seq ?_
          refine k_seq ?_
          refine k_seq ?_
          refine k_region hP hC ?_
          refine om ?_
          refine os (x_bin (u := .bool false) rfl rfl (by rfl) (by rw [b_neq]; rfl)) ?_
          refine om ?_
          refine o_step (wA_on rfl rfl rfl) rfl (x_move rfl rfl) (by decide) ?_
          refine o_step (wA_on rfl rfl rfl) rfl (x_bin (u := .bool false) rfl rfl (by rfl) (by rw [b_neq]; rfl)) (by decide) ?_
          refine os (x_pick rfl rfl (by simp only [if_true, if_false, Bool.false_eq_true, ev_tmp, Tr.get_set, reduceIte, Nat.reduceEqDiff, Nat.reduceAdd]; rfl)) ?_
          refine om ?_
          refine o_step (wA_on rfl rfl rfl) rfl (x_move rfl rfl) (by decide) ?_
          refine o_step (wA_on rfl rfl rfl) rfl (x_len rfl rfl rfl rfl Try.underlying22) (by decide) ?_
          refine o_step (wA_on rfl rfl rfl) rfl (x_field (off' := 0) rfl rfl Try.underlying56 rfl T.s22 rfl) (by decide) ?_
          refine o_step (wA_on rfl rfl rfl) rfl (x_load1' rfl rfl T.g22 rfl rfl (Nat.le_of_ble_eq_true rfl) (by simp only [List.take_succ_cons, List.drop_succ_cons, List.take_zero, List.drop_zero, List.take_nil, List.drop_nil, List.cons_append, List.nil_append, List.append_nil, List.length_cons, List.length_nil, Nat.reduceAdd, Int.toNat_zero, Nat.zero_mul, Nat.add_zero, Nat.zero_add] <;> rfl)) (by decide) ?_
          refine o_step (wA_on rfl rfl rfl) rfl (x_len rfl rfl rfl rfl Try.underlying22) (by decide) ?_
          refine o_step (wA_on rfl rfl rfl) rfl (x_bin (u := .bool false) rfl rfl rfl (by rw [b_gtr]; first | rfl | (congr 2; exact decide_eq_false (by omega)))) (by decide) ?_
          refine os (x_pick rfl rfl (by simp only [if_true, if_false, Bool.false_eq_true, ev_tmp, Tr.get_set, reduceIte, Nat.reduceEqDiff, Nat.reduceAdd]; rfl)) ?_
          refine o_done ?_
          refine e_seq ?_
          refine k_condF rfl ?_
          refine k_skip ?_
          refine e_seq ?_
          refine k_seq ?_
          refine k_seq ?_
          refine k_region hP hC ?_
          refine os (x_assign rfl (by rfl)) ?_
          refine o_done ?_
          refine e_seq ?_
          refine k_block ?_
          refine k_loop (α := Int) (fun i => cst 143 [5, 7, 9, 11, 12] [.slice (some ⟨1, 0, none⟩) A.length (A.length + 46), .pointer (some ⟨3, 0, none⟩), .slice none 0 0, .slice none 0 0, .int .i64 i] [.row (ints l) 0 BIG true (ints l).length, .row A.flatten 1 BIG false A.flatten.length, .row R.flatten 2 BIG false R.flatten.length, .row [.slice none 0 0, .slice none 0 0] 3 BIG false 2] 1) (fun i => 0 ≤ i ∧ i ≤ (0 : Nat)) (fun i => ((0 : Nat) - i).toNat) 0 (to_mk (L := [0, 1, 2, 3]) (slots := [5, 7, 9, 11, 12]) (w := 1) (by kernel_rfl) (gcVs_cons rfl (gcV_slice rfl) (gcVs_cons rfl (gcV_ptr rfl) (gcVs_cons rfl gFre (gcVs_cons rfl gFre (gcVs_cons rfl gFre gcVs_nil))))) (gcH_cons gOld (gcH_cons (gcO_row (by rfl) rfl (gcD_free (cfs_free1 h_A))) (gcH_cons (gcO_row (by rfl) rfl (gcD_free (cfs_free1 h_R))) (gcH_cons (gcO_rowE (by rfl) rfl (gcD_free rfl) rfl) gcH_nil)))) (by kernel_rfl)) ⟨by omega, by omega⟩ ?_
          rintro i ⟨h0, h1⟩
          refine k_cst rfl rfl rfl ?_
          refine k_seq ?_
          refine k_seq ?_
          refine k_region hP hC ?_
          refine om ?_
          refine om ?_
          refine os (x_len rfl rfl rfl rfl Try.underlying29) ?_
          refine os (x_bin (u := .bool false) rfl rfl rfl (by rw [b_lss]; congr 2; exact decide_eq_false (by omega))) ?_
          refine o_done ?_
          refine e_seq ?_
          refine k_condF rfl ?_
          refine k_exit ?_
          refine e_seq_exit ?_
          refine e_loop_exit ?_
          refine e_block_eq ?_
          refine e_seq ?_
          refine k_seq ?_
          refine k_region hP hC ?_
          refine om ?_
          refine os (x_loadA' rfl rfl T.g56 T.s56 rfl rfl (Nat.le_of_ble_eq_true rfl) rfl) ?_
          refine o_call0 (wA_none rfl) rfl rfl rfl rfl (by decide) ?_
          refine ⟨_, _, ((tab_miss (by decide)).trans ((tab_miss (by decide)).trans ((tab_miss (by decide)).trans ((tab_miss (by decide)).trans ((tab_miss (by decide)).trans (tab_hit.trans (kept_c1 (L := A) (w := []) (a := []) (rd_whole (by decide) (.inr rfl) (whole_row rfl rfl) (cfs_len h_A).symm (cfs_free0 h_A)) h_A rfl (rd_nil (k := 1)) (rd_nil (k := 1)) hAb (by omega) (by decide)))))))), ?_⟩
          refine o_call0 (wA_none rfl) rfl rfl rfl rfl (by decide) ?_
          refine ⟨_, _, ((tab_miss (by decide)).trans ((tab_miss (by decide)).trans ((tab_miss (by decide)).trans (tab_hit.trans (clashes_c0 (L := keptL [] A) (kz_rd h_A (whole_row (by simp only [Tr.get_set, reduceIte, Nat.reduceEqDiff, Nat.reduceAdd] <;> rfl) rfl)) (keptL_cfs h_A) (Nat.le_trans keptL_len hAb) hxW))))), ?_⟩
          refine os (x_len rfl rfl rfl rfl Try.underlying29) ?_
          refine os (x_bin (u := .bool true) rfl rfl (by rfl) (by rw [b_eql]; rfl)) ?_
          refine om ?_
          refine o_step (wA_on rfl rfl rfl) rfl (x_move rfl rfl) (by decide) ?_
          refine o_step (wA_on rfl rfl rfl) rfl (x_move rfl rfl) (by decide) ?_
          refine o_step (wA_on rfl rfl rfl) rfl (x_build (v := .agg ⟨[.slice none 0 0, .slice none 0 0]⟩) rfl rfl T.z56 rfl (by kernel_rfl)) (by decide) ?_
          refine o_call0 (wA_on rfl rfl rfl) rfl rfl rfl rfl (by decide) ?_
          refine ⟨_, _, ((tab_miss (by decide)).trans ((tab_miss (by decide)).trans ((tab_miss (by decide)).trans ((tab_miss (by decide)).trans ((tab_miss (by decide)).trans (tab_hit.trans (kept_c1 (L := A) (w := []) (a := []) (rd_whole (by decide) (.inr rfl) (whole_row (by simp only [Tr.get_set, reduceIte, Nat.reduceEqDiff, Nat.reduceAdd] <;> rfl) rfl) (cfs_len h_A).symm (cfs_free0 h_A)) h_A rfl (rd_nil (k := 1)) (rd_nil (k := 1)) hAb (by omega) (by decide)))))))), ?_⟩
          refine o_call0 (wA_on rfl rfl rfl) rfl rfl rfl rfl (by decide) ?_
          refine ⟨_, _, ((tab_miss (by decide)).trans ((tab_miss (by decide)).trans ((tab_miss (by decide)).trans (tab_hit.trans (clashes_c0 (L := keptL [] A) (kz_rd h_A (whole_row (by simp only [Tr.get_set, reduceIte, Nat.reduceEqDiff, Nat.reduceAdd] <;> rfl) rfl)) (keptL_cfs h_A) (Nat.le_trans keptL_len hAb) hxM))))), ?_⟩
          refine o_step (wA_on rfl rfl rfl) rfl (x_len rfl rfl rfl rfl Try.underlying29) (by decide) ?_
          refine o_step (wA_on rfl rfl rfl) rfl (x_bin (u := .bool true) rfl rfl (by rfl) (by rw [b_eql]; rfl)) (by decide) ?_
          refine os (x_pick rfl rfl (by simp only [if_true, if_false, Bool.false_eq_true, ev_tmp, Tr.get_set, reduceIte, Nat.reduceEqDiff, Nat.reduceAdd]; rfl)) ?_
          refine om ?_
          refine o_call0 (wA_on rfl rfl rfl) rfl rfl rfl rfl (by decide) ?_
          refine ⟨_, _, ((tab_miss (by decide)).trans ((tab_miss (by decide)).trans ((tab_miss (by decide)).trans ((tab_miss (by decide)).trans ((tab_miss (by decide)).trans ((tab_miss (by decide)).trans (tab_hit.trans lives_c))))))), ?_⟩
          refine os (x_pick rfl rfl (by simp only [if_true, if_false, Bool.false_eq_true, ev_tmp, Tr.get_set, reduceIte, Nat.reduceEqDiff, Nat.reduceAdd]; rfl)) ?_
          refine o_step (wA_none rfl) rfl (x_assign rfl (by simp only [Tr.get_set, reduceIte, Nat.reduceEqDiff, Nat.reduceAdd, ev_tmp] <;> rfl)) (by decide) ?_
          refine o_done ?_
          refine e_seq ?_
          refine k_ret ?_
          refine gives_mk (L := [0]) (slots := [4]) (w := 1) (.inr rfl) (by kernel_rfl) (gcVs_cons (by simp only [Tr.get_set, reduceIte, Nat.reduceEqDiff, Nat.reduceAdd] <;> rfl) (gcV_free rfl) gcVs_nil) (gcH_cons (gcO_old (by rfl) (by simp only [Tr.get_set, reduceIte, Nat.reduceEqDiff, Nat.reduceAdd] <;> rfl)) gcH_nil) (by kernel_rfl) (by simp only [Try.results5, resA, cst, mkE, Tr.get_set, reduceIte, Nat.reduceEqDiff, Nat.reduceAdd] <;> rfl) ?_
          rfl
      · skip
        skip
        · skip
          refine k_seq ?_
          refine k_region hP hC ?_
          refine os (x_assign rfl (by rfl)) ?_
          refine o_done ?_
          refine e_seq ?_
          refine k_seq ?_
          refine k_region hP hC ?_
          refine om ?_
          refine om ?_
          refine o_call0 (wA_none rfl) rfl rfl rfl rfl (by decide) ?_
          refine ⟨_, _, (tab_hit.trans (made_c1 hA hR (rd_sl hs_l (by decide) (whole_row rfl rfl) (by rw [ints_len, Nat.mul_one]) (ints_free0 _)) (by simp only [ok_made, Bool.and_eq_true, decide_eq_true_eq]; exact ⟨⟨⟨⟨by decide, by decide⟩, hbt⟩, hl⟩, hlb⟩) hA1 hR1)), ?_⟩
          refine om ?_
          refine os (x_extract rfl rfl rfl) ?_
          refine os (x_extract rfl rfl rfl) ?_
          refine oa ?_
          refine oa ?_
          refine o_done ?_
          refine e_seq ?_
          refine k_seq ?_
          refine k_region hP hC ?_
          refine om ?_
          refine om ?_
          refine o_call0 (wA_none rfl) rfl rfl rfl rfl (by decide) ?_
          refine ⟨_, _, ((tab_miss (by decide)).trans (tab_hit.trans (judge_c1 hWd hAAd (L := A) (R := R) (rd_whole (by decide) (.inr rfl) (whole_row rfl rfl) (cfs_len h_A).symm (cfs_free0 h_A)) h_A (rd_whole (by decide) (.inr rfl) (whole_row rfl rfl) (cfs_len h_R).symm (cfs_free0 h_R)) h_R hAb hE hW1))), ?_⟩
          refine om ?_
          refine os (x_extract rfl rfl rfl) ?_
          refine os (x_extract rfl rfl rfl) ?_
          refine os (y_alloc rfl T.z56 rfl rfl) ?_
          refine o_stepN (wA_none rfl) rfl (y_storeA rfl rfl rfl T.s56 rfl rfl rfl rfl rfl) ?_
          refine oa ?_
          refine o_done ?_
          refine e_seq ?_
          refine k_seq ?_
          refine k_region hP hC ?_
          refine om ?_
          refine o_call0 (wA_none rfl) rfl rfl rfl rfl (by decide) ?_
          refine ⟨_, _, ((tab_miss (by decide)).trans ((tab_miss (by decide)).trans (tab_hit.trans (least_c0 (L := A) (rd_whole (by decide) (.inr rfl) (whole_row rfl rfl) (cfs_len h_A).symm (cfs_free0 h_A)) h_A hAb hodd (hMd.symm))))), ?_⟩
          refine om ?_
          refine os (x_extract rfl rfl rfl) ?_
          refine os (x_extract rfl rfl rfl) ?_
          refine oa ?_
          refine oa ?_
          refine o_done ?_
          refine e_seq ?_
          refine k_seq ?_
          refine k_region hP hC ?_
          refine om ?_
          refine o_call0 (wA_none rfl) rfl rfl rfl rfl (by decide) ?_
          refine ⟨_, _, ((tab_miss (by decide)).trans ((tab_miss (by decide)).trans ((tab_miss (by decide)).trans (tab_hit.trans (clashes_c0 (L := A) (rd_whole (by decide) (.inr rfl) (whole_row rfl rfl) (cfs_len h_A).symm (cfs_free0 h_A)) h_A hAb hC0))))), ?_⟩
          refine oa ?_
          refine o_done ?_
          refine e_seq ?_
          refine k_seq ?_
          refine k_seq ?_
          refine k_region hP hC ?_
          refine om ?_
          refine os (x_bin (u := .bool false) rfl rfl (by rfl) (by rw [b_neq]; rfl)) ?_
          refine om ?_
          refine o_step (wA_on rfl rfl rfl) rfl (x_move rfl rfl) (by decide) ?_
          refine o_step (wA_on rfl rfl rfl) rfl (x_bin (u := .bool false) rfl rfl (by rfl) (by rw [b_neq]; rfl)) (by decide) ?_
          refine os (x_pick rfl rfl (by simp only [if_true, if_false, Bool.false_eq_true, ev_tmp, Tr.get_set, reduceIte, Nat.reduceEqDiff, Nat.reduceAdd]; rfl)) ?_
          refine om ?_
          refine o_step (wA_on rfl rfl rfl) rfl (x_move rfl rfl) (by decide) ?_
          refine o_step (wA_on rfl rfl rfl) rfl (x_len rfl rfl rfl rfl Try.underlying22) (by decide) ?_
          refine o_step (wA_on rfl rfl rfl) rfl (x_field (off' := 0) rfl rfl Try.underlying56 rfl T.s22 rfl) (by decide) ?_
          refine o_step (wA_on rfl rfl rfl) rfl (x_load1' rfl rfl T.g22 rfl rfl (Nat.le_of_ble_eq_true rfl) (by simp only [List.take_succ_cons, List.drop_succ_cons, List.take_zero, List.drop_zero, List.take_nil, List.drop_nil, List.cons_append, List.nil_append, List.append_nil, List.length_cons, List.length_nil, Nat.reduceAdd, Int.toNat_zero, Nat.zero_mul, Nat.add_zero, Nat.zero_add] <;> rfl)) (by decide) ?_
          refine o_step (wA_on rfl rfl rfl) rfl (x_len rfl rfl rfl rfl Try.underlying22) (by decide) ?_
          refine o_step (wA_on rfl rfl rfl) rfl (x_bin (u := .bool false) rfl rfl rfl (by rw [b_gtr]; first | rfl | (congr 2; exact decide_eq_false (by omega)))) (by decide) ?_
          refine os (x_pick rfl rfl (by simp only [if_true, if_false, Bool.false_eq_true, ev_tmp, Tr.get_set, reduceIte, Nat.reduceEqDiff, Nat.reduceAdd]; rfl)) ?_
          refine o_done ?_
          refine e_seq ?_
          refine k_condF rfl ?_
          refine k_skip ?_
          refine e_seq ?_
          refine k_seq ?_
          refine k_seq ?_
          refine k_region hP hC ?_
          refine os (x_assign rfl (by rfl)) ?_
          refine o_done ?_
          refine e_seq ?_
          refine k_block ?_
          refine k_loop (α := Int) (fun i => cst 143 [5, 7, 9, 11, 12] [.slice (some ⟨1, 0, none⟩) A.length (A.length + 46), .pointer (some ⟨5, 0, none⟩), .slice none 0 0, .slice none 0 0, .int .i64 i] [.row (ints l) 0 BIG true (ints l).length, .row A.flatten 1 BIG false A.flatten.length, .row R.flatten 2 BIG false R.flatten.length, .row (ints W) 3 BIG false (ints W).length, .row (ints AA) 4 BIG false (ints AA).length, .row [.slice (some ⟨3, 0, none⟩) W.length (W.length + 1), .slice (some ⟨4, 0, none⟩) AA.length (AA.length + 1)] 5 BIG false 2] 1) (fun i => 0 ≤ i ∧ i ≤ (0 : Nat)) (fun i => ((0 : Nat) - i).toNat) 0 (to_mk (L := [0, 1, 2, 3, 4, 5]) (slots := [5, 7, 9, 11, 12]) (w := 1) (by kernel_rfl) (gcVs_cons rfl (gcV_slice rfl) (gcVs_cons rfl (gcV_ptr rfl) (gcVs_cons rfl gFre (gcVs_cons rfl gFre (gcVs_cons rfl gFre gcVs_nil))))) (gcH_cons gOld (gcH_cons (gcO_row (by rfl) rfl (gcD_free (cfs_free1 h_A))) (gcH_cons (gcO_row (by rfl) rfl (gcD_free (cfs_free1 h_R))) (gcH_cons (gcO_row (by rfl) rfl (gcD_free (ints_free1 _))) (gcH_cons (gcO_row (by rfl) rfl (gcD_free (ints_free1 _))) (gcH_cons (gcO_rowE (by rfl) rfl (gcD_cons (gcV_slice rfl) (gcD_cons (gcV_slice rfl) gcD_nil)) rfl) gcH_nil)))))) (by kernel_rfl)) ⟨by omega, by omega⟩ ?_
          rintro i ⟨h0, h1⟩
          refine k_cst rfl rfl rfl ?_
          refine k_seq ?_
          refine k_seq ?_
          refine k_region hP hC ?_
          refine om ?_
          refine om ?_
          refine os (x_len rfl rfl rfl rfl Try.underlying29) ?_
          refine os (x_bin (u := .bool false) rfl rfl rfl (by rw [b_lss]; congr 2; exact decide_eq_false (by omega))) ?_
          refine o_done ?_
          refine e_seq ?_
          refine k_condF rfl ?_
          refine k_exit ?_
          refine e_seq_exit ?_
          refine e_loop_exit ?_
          refine e_block_eq ?_
          refine e_seq ?_
          refine k_seq ?_
          refine k_region hP hC ?_
          refine om ?_
          refine os (x_loadA' rfl rfl T.g56 T.s56 rfl rfl (Nat.le_of_ble_eq_true rfl) rfl) ?_
          refine o_call0 (wA_none rfl) rfl rfl rfl rfl (by decide) ?_
          refine ⟨_, _, ((tab_miss (by decide)).trans ((tab_miss (by decide)).trans ((tab_miss (by decide)).trans ((tab_miss (by decide)).trans ((tab_miss (by decide)).trans (tab_hit.trans (kept_c1 (L := A) (rd_whole (by decide) (.inr rfl) (whole_row rfl rfl) (cfs_len h_A).symm (cfs_free0 h_A)) h_A rfl (rd_whole (by decide) (.inr rfl) (whole_row rfl rfl) (by rw [ints_len, Nat.mul_one]) (ints_free0 _)) (rd_whole (by decide) (.inr rfl) (whole_row rfl rfl) (by rw [ints_len, Nat.mul_one]) (ints_free0 _)) hAb (by omega) hWb))))))), ?_⟩
          refine o_call0 (wA_none rfl) rfl rfl rfl rfl (by decide) ?_
          refine ⟨_, _, ((tab_miss (by decide)).trans ((tab_miss (by decide)).trans ((tab_miss (by decide)).trans (tab_hit.trans (clashes_c0 (L := keptL W A) (kz_rd h_A (whole_row (by simp only [Tr.get_set, reduceIte, Nat.reduceEqDiff, Nat.reduceAdd] <;> rfl) rfl)) (keptL_cfs h_A) (Nat.le_trans keptL_len hAb) hxW))))), ?_⟩
          refine os (x_len rfl rfl rfl rfl Try.underlying29) ?_
          refine os (x_bin (u := .bool true) rfl rfl (by rfl) (by rw [b_eql]; rfl)) ?_
          refine om ?_
          refine o_step (wA_on rfl rfl rfl) rfl (x_move rfl rfl) (by decide) ?_
          refine o_step (wA_on rfl rfl rfl) rfl (x_move rfl rfl) (by decide) ?_
          refine o_step (wA_on rfl rfl rfl) rfl (x_build (v := .agg ⟨[.slice none 0 0, .slice none 0 0]⟩) rfl rfl T.z56 rfl (by kernel_rfl)) (by decide) ?_
          refine o_call0 (wA_on rfl rfl rfl) rfl rfl rfl rfl (by decide) ?_
          refine ⟨_, _, ((tab_miss (by decide)).trans ((tab_miss (by decide)).trans ((tab_miss (by decide)).trans ((tab_miss (by decide)).trans ((tab_miss (by decide)).trans (tab_hit.trans (kept_c1 (L := A) (w := []) (a := []) (rd_whole (by decide) (.inr rfl) (whole_row (by simp only [Tr.get_set, reduceIte, Nat.reduceEqDiff, Nat.reduceAdd] <;> rfl) rfl) (cfs_len h_A).symm (cfs_free0 h_A)) h_A rfl (rd_nil (k := 1)) (rd_nil (k := 1)) hAb (by omega) (by decide)))))))), ?_⟩
          refine o_call0 (wA_on rfl rfl rfl) rfl rfl rfl rfl (by decide) ?_
          refine ⟨_, _, ((tab_miss (by decide)).trans ((tab_miss (by decide)).trans ((tab_miss (by decide)).trans (tab_hit.trans (clashes_c0 (L := keptL [] A) (kz_rd h_A (whole_row (by simp only [Tr.get_set, reduceIte, Nat.reduceEqDiff, Nat.reduceAdd] <;> rfl) rfl)) (keptL_cfs h_A) (Nat.le_trans keptL_len hAb) hxM))))), ?_⟩
          refine o_step (wA_on rfl rfl rfl) rfl (x_len rfl rfl rfl rfl Try.underlying29) (by decide) ?_
          refine o_step (wA_on rfl rfl rfl) rfl (x_bin (u := .bool true) rfl rfl (by rfl) (by rw [b_eql]; rfl)) (by decide) ?_
          refine os (x_pick rfl rfl (by simp only [if_true, if_false, Bool.false_eq_true, ev_tmp, Tr.get_set, reduceIte, Nat.reduceEqDiff, Nat.reduceAdd]; rfl)) ?_
          refine om ?_
          refine o_call0 (wA_on rfl rfl rfl) rfl rfl rfl rfl (by decide) ?_
          refine ⟨_, _, ((tab_miss (by decide)).trans ((tab_miss (by decide)).trans ((tab_miss (by decide)).trans ((tab_miss (by decide)).trans ((tab_miss (by decide)).trans ((tab_miss (by decide)).trans (tab_hit.trans lives_c))))))), ?_⟩
          refine os (x_pick rfl rfl (by simp only [if_true, if_false, Bool.false_eq_true, ev_tmp, Tr.get_set, reduceIte, Nat.reduceEqDiff, Nat.reduceAdd]; rfl)) ?_
          refine o_step (wA_none rfl) rfl (x_assign rfl (by simp only [Tr.get_set, reduceIte, Nat.reduceEqDiff, Nat.reduceAdd, ev_tmp] <;> rfl)) (by decide) ?_
          refine o_done ?_
          refine e_seq ?_
          refine k_ret ?_
          refine gives_mk (L := [0]) (slots := [4]) (w := 1) (.inr rfl) (by kernel_rfl) (gcVs_cons (by simp only [Tr.get_set, reduceIte, Nat.reduceEqDiff, Nat.reduceAdd] <;> rfl) (gcV_free rfl) gcVs_nil) (gcH_cons (gcO_old (by rfl) (by simp only [Tr.get_set, reduceIte, Nat.reduceEqDiff, Nat.reduceAdd] <;> rfl)) gcH_nil) (by kernel_rfl) (by simp only [Try.results5, resA, cst, mkE, Tr.get_set, reduceIte, Nat.reduceEqDiff, Nat.reduceAdd] <;> rfl) ?_
          rfl
    · skip
      have hM1 : 0 < M.length := by
        rcases Nat.eq_zero_or_pos M.length with q | q
        · exfalso
          have e : leastL A = [] := by rw [← hMd]; exact List.eq_nil_of_length_eq_zero q
          rw [hCd, hCM.2 e] at hC1
          exact absurd hC1 (by decide)
        · exact q
      have hW1 : 0 < W.length := by omega
      · skip
        skip
        · skip
          refine k_seq ?_
          refine k_region hP hC ?_
          refine os (x_assign rfl (by rfl)) ?_
          refine o_done ?_
          refine e_seq ?_
          refine k_seq ?_
          refine k_region hP hC ?_
          refine om ?_
          refine om ?_
          refine o_call0 (wA_none rfl) rfl rfl rfl rfl (by decide) ?_
          refine ⟨_, _, (tab_hit.trans (made_c1 hA hR (rd_sl hs_l (by decide) (whole_row rfl rfl) (by rw [ints_len, Nat.mul_one]) (ints_free0 _)) (by simp only [ok_made, Bool.and_eq_true, decide_eq_true_eq]; exact ⟨⟨⟨⟨by decide, by decide⟩, hbt⟩, hl⟩, hlb⟩) hA1 hR1)), ?_⟩
          refine om ?_
          refine os (x_extract rfl rfl rfl) ?_
          refine os (x_extract rfl rfl rfl) ?_
          refine oa ?_
          refine oa ?_
          refine o_done ?_
          refine e_seq ?_
          refine k_seq ?_
          refine k_region hP hC ?_
          refine om ?_
          refine om ?_
          refine o_call0 (wA_none rfl) rfl rfl rfl rfl (by decide) ?_
          refine ⟨_, _, ((tab_miss (by decide)).trans (tab_hit.trans (judge_c1 hWd hAAd (L := A) (R := R) (rd_whole (by decide) (.inr rfl) (whole_row rfl rfl) (cfs_len h_A).symm (cfs_free0 h_A)) h_A (rd_whole (by decide) (.inr rfl) (whole_row rfl rfl) (cfs_len h_R).symm (cfs_free0 h_R)) h_R hAb hE hW1))), ?_⟩
          refine om ?_
          refine os (x_extract rfl rfl rfl) ?_
          refine os (x_extract rfl rfl rfl) ?_
          refine os (y_alloc rfl T.z56 rfl rfl) ?_
          refine o_stepN (wA_none rfl) rfl (y_storeA rfl rfl rfl T.s56 rfl rfl rfl rfl rfl) ?_
          refine oa ?_
          refine o_done ?_
          refine e_seq ?_
          refine k_seq ?_
          refine k_region hP hC ?_
          refine om ?_
          refine o_call0 (wA_none rfl) rfl rfl rfl rfl (by decide) ?_
          refine ⟨_, _, ((tab_miss (by decide)).trans ((tab_miss (by decide)).trans (tab_hit.trans (least_c1 hMd (rd_whole (by decide) (.inr rfl) (whole_row rfl rfl) (cfs_len h_A).symm (cfs_free0 h_A)) h_A hAb hodd hM1)))), ?_⟩
          refine om ?_
          refine os (x_extract rfl rfl rfl) ?_
          refine os (x_extract rfl rfl rfl) ?_
          refine oa ?_
          refine oa ?_
          refine o_done ?_
          refine e_seq ?_
          refine k_seq ?_
          refine k_region hP hC ?_
          refine om ?_
          refine o_call0 (wA_none rfl) rfl rfl rfl rfl (by decide) ?_
          refine ⟨_, _, ((tab_miss (by decide)).trans ((tab_miss (by decide)).trans ((tab_miss (by decide)).trans (tab_hit.trans (clashes_c1 hCd (rd_whole (by decide) (.inr rfl) (whole_row rfl rfl) (cfs_len h_A).symm (cfs_free0 h_A)) h_A hAb hC1))))), ?_⟩
          refine oa ?_
          refine o_done ?_
          refine e_seq ?_
          refine k_seq ?_
          refine k_seq ?_
          refine k_region hP hC ?_
          refine om ?_
          refine os (x_bin (u := .bool false) rfl rfl (by rfl) (by rw [b_neq]; rfl)) ?_
          refine om ?_
          refine o_step (wA_on rfl rfl rfl) rfl (x_move rfl rfl) (by decide) ?_
          refine o_step (wA_on rfl rfl rfl) rfl (x_bin (u := .bool false) rfl rfl (by rfl) (by rw [b_neq]; rfl)) (by decide) ?_
          refine os (x_pick rfl rfl (by simp only [if_true, if_false, Bool.false_eq_true, ev_tmp, Tr.get_set, reduceIte, Nat.reduceEqDiff, Nat.reduceAdd]; rfl)) ?_
          refine om ?_
          refine o_step (wA_on rfl rfl rfl) rfl (x_move rfl rfl) (by decide) ?_
          refine o_step (wA_on rfl rfl rfl) rfl (x_len rfl rfl rfl rfl Try.underlying22) (by decide) ?_
          refine o_step (wA_on rfl rfl rfl) rfl (x_field (off' := 0) rfl rfl Try.underlying56 rfl T.s22 rfl) (by decide) ?_
          refine o_step (wA_on rfl rfl rfl) rfl (x_load1' rfl rfl T.g22 rfl rfl (Nat.le_of_ble_eq_true rfl) (by simp only [List.take_succ_cons, List.drop_succ_cons, List.take_zero, List.drop_zero, List.take_nil, List.drop_nil, List.cons_append, List.nil_append, List.append_nil, List.length_cons, List.length_nil, Nat.reduceAdd, Int.toNat_zero, Nat.zero_mul, Nat.add_zero, Nat.zero_add] <;> rfl)) (by decide) ?_
          refine o_step (wA_on rfl rfl rfl) rfl (x_len rfl rfl rfl rfl Try.underlying22) (by decide) ?_
          refine o_step (wA_on rfl rfl rfl) rfl (x_bin (u := .bool false) rfl rfl rfl (by rw [b_gtr]; first | rfl | (congr 2; exact decide_eq_false (by omega)))) (by decide) ?_
          refine os (x_pick rfl rfl (by simp only [if_true, if_false, Bool.false_eq_true, ev_tmp, Tr.get_set, reduceIte, Nat.reduceEqDiff, Nat.reduceAdd]; rfl)) ?_
          refine o_done ?_
          refine e_seq ?_
          refine k_condF rfl ?_
          refine k_skip ?_
          refine e_seq ?_
          refine k_seq ?_
          refine k_seq ?_
          refine k_region hP hC ?_
          refine os (x_assign rfl (by rfl)) ?_
          refine o_done ?_
          refine e_seq ?_
          refine k_block ?_
          refine k_loop (α := Int) (fun i => cst 143 [5, 7, 9, 11, 12] [.slice (some ⟨1, 0, none⟩) A.length (A.length + 46), .pointer (some ⟨5, 0, none⟩), .slice (some ⟨6, 0, none⟩) M.length (M.length + 1), .slice (some ⟨7, 0, none⟩) C.length (C.length + 2), .int .i64 i] [.row (ints l) 0 BIG true (ints l).length, .row A.flatten 1 BIG false A.flatten.length, .row R.flatten 2 BIG false R.flatten.length, .row (ints W) 3 BIG false (ints W).length, .row (ints AA) 4 BIG false (ints AA).length, .row [.slice (some ⟨3, 0, none⟩) W.length (W.length + 1), .slice (some ⟨4, 0, none⟩) AA.length (AA.length + 1)] 5 BIG false 2, .row (ints M) 6 BIG false (ints M).length, .row C.flatten 7 BIG false C.flatten.length] 1) (fun i => 0 ≤ i ∧ i ≤ C.length) (fun i => (C.length - i).toNat) 0 (to_mk (L := [0, 1, 2, 3, 4, 5, 6, 7]) (slots := [5, 7, 9, 11, 12]) (w := 1) (by kernel_rfl) (gcVs_cons rfl (gcV_slice rfl) (gcVs_cons rfl (gcV_ptr rfl) (gcVs_cons rfl (gcV_slice rfl) (gcVs_cons rfl (gcV_slice rfl) (gcVs_cons rfl gFre gcVs_nil))))) (gcH_cons gOld (gcH_cons (gcO_row (by rfl) rfl (gcD_free (cfs_free1 h_A))) (gcH_cons (gcO_row (by rfl) rfl (gcD_free (cfs_free1 h_R))) (gcH_cons (gcO_row (by rfl) rfl (gcD_free (ints_free1 _))) (gcH_cons (gcO_row (by rfl) rfl (gcD_free (ints_free1 _))) (gcH_cons (gcO_rowE (by rfl) rfl (gcD_cons (gcV_slice rfl) (gcD_cons (gcV_slice rfl) gcD_nil)) rfl) (gcH_cons (gcO_row (by rfl) rfl (gcD_free (ints_free1 _))) (gcH_cons (gcO_row (by rfl) rfl (gcD_free (cfs_free1 h_C))) gcH_nil)))))))) (by kernel_rfl)) ⟨by omega, by omega⟩ ?_
          rintro i ⟨h0, h1⟩
          refine k_cst rfl rfl rfl ?_
          refine k_seq ?_
          refine k_seq ?_
          refine k_region hP hC ?_
          refine om ?_
          refine om ?_
          refine os (x_len rfl rfl rfl rfl Try.underlying29) ?_
          refine os (x_bin rfl rfl rfl b_lss) ?_
          refine o_done ?_
          refine e_seq ?_
          refine k_cond rfl (fun g5 => ?_) (fun g5 => ?_)
          · have p5 := g5; try simp only [d1, d2, d3, d4, d5, d6, d7, d8, d9] at p5
            refine k_skip ?_
            refine e_seq ?_
            refine k_seq ?_
            refine k_block ?_
            refine k_seq ?_
            refine k_seq ?_
            refine k_draw hP hC (by kernel_rfl) ?_
            refine dm ?_
            refine dm ?_
            refine ds (x_index rfl rfl rfl Try.underlying29 T.s71 (by omega) (by omega)) ?_
            refine ds (x_indexA rfl rfl (by rfl) Try.underlying71 T.s3 (by omega) (by omega)) ?_
            refine ds (x_load1 rfl rfl T.g3 (by first | exact l_partI0 (K := 2) (whole_row rfl rfl) h_C rfl (by omega) (by omega) rfl | exact l_partI (a := 0) (K := 2) (whole_row rfl rfl) h_C rfl (by omega) (by omega) rfl)) ?_
            refine ds (x_bin (u := .bool false) rfl rfl (by rfl) (by rw [b_lss]; congr 2; exact decide_eq_false (by have q := pf i h0 (by omega); omega))) ?_
            refine dm ?_
            refine d_step (wA_on rfl rfl (by simp only [Tr.get_set, reduceIte, Nat.reduceEqDiff, Nat.reduceAdd, g5] <;> rfl)) rfl (x_move rfl rfl) (by decide) ?_
            refine d_step (wA_on rfl rfl (by simp only [Tr.get_set, reduceIte, Nat.reduceEqDiff, Nat.reduceAdd, g5] <;> rfl)) rfl (x_move rfl rfl) (by decide) ?_
            refine d_step (wA_on rfl rfl (by simp only [Tr.get_set, reduceIte, Nat.reduceEqDiff, Nat.reduceAdd, g5] <;> rfl)) rfl (x_index rfl rfl rfl Try.underlying29 T.s71 (by omega) (by omega)) (by decide) ?_
            refine d_step (wA_on rfl rfl (by simp only [Tr.get_set, reduceIte, Nat.reduceEqDiff, Nat.reduceAdd, g5] <;> rfl)) rfl (x_indexA rfl rfl (by rfl) Try.underlying71 T.s3 (by omega) (by omega)) (by decide) ?_
            refine d_step (wA_on rfl rfl (by simp only [Tr.get_set, reduceIte, Nat.reduceEqDiff, Nat.reduceAdd, g5] <;> rfl)) rfl (x_load1 rfl rfl T.g3 (by first | exact l_partI0 (K := 2) (whole_row rfl rfl) h_C rfl (by omega) (by omega) rfl | exact l_partI (a := 1) (K := 2) (whole_row rfl rfl) h_C rfl (by omega) (by omega) rfl)) (by decide) ?_
            refine d_step (wA_on rfl rfl (by simp only [Tr.get_set, reduceIte, Nat.reduceEqDiff, Nat.reduceAdd, g5] <;> rfl)) rfl (x_move rfl rfl) (by decide) ?_
            refine d_step (wA_on rfl rfl (by simp only [Tr.get_set, reduceIte, Nat.reduceEqDiff, Nat.reduceAdd, g5] <;> rfl)) rfl (x_move rfl rfl) (by decide) ?_
            refine d_step (wA_on rfl rfl (by simp only [Tr.get_set, reduceIte, Nat.reduceEqDiff, Nat.reduceAdd, g5] <;> rfl)) rfl (x_index rfl rfl rfl Try.underlying29 T.s71 (by omega) (by omega)) (by decide) ?_
            refine d_step (wA_on rfl rfl (by simp only [Tr.get_set, reduceIte, Nat.reduceEqDiff, Nat.reduceAdd, g5] <;> rfl)) rfl (x_indexA rfl rfl (by rfl) Try.underlying71 T.s3 (by omega) (by omega)) (by decide) ?_
            refine d_step (wA_on rfl rfl (by simp only [Tr.get_set, reduceIte, Nat.reduceEqDiff, Nat.reduceAdd, g5] <;> rfl)) rfl (x_load1 rfl rfl T.g3 (by first | exact l_partI0 (K := 2) (whole_row rfl rfl) h_C rfl (by omega) (by omega) rfl | exact l_partI (a := 0) (K := 2) (whole_row rfl rfl) h_C rfl (by omega) (by omega) rfl)) (by decide) ?_
            refine d_step (wA_on rfl rfl (by simp only [Tr.get_set, reduceIte, Nat.reduceEqDiff, Nat.reduceAdd, g5] <;> rfl)) rfl (x_bin (u := .bool false) rfl rfl rfl (by rw [b_leq]; congr 2; exact decide_eq_false (by have q := pf i h0 (by omega); omega))) (by decide) ?_
            refine ds (x_pick rfl (by simp only [Tr.get_set, reduceIte, Nat.reduceEqDiff, Nat.reduceAdd, ev_tmp, g5] <;> rfl) (by simp only [if_true, if_false, Bool.false_eq_true, ev_tmp, Tr.get_set, reduceIte, Nat.reduceEqDiff, Nat.reduceAdd, g5]; rfl)) ?_
            refine dm ?_
            refine d_step (wA_on rfl rfl (by simp only [Tr.get_set, reduceIte, Nat.reduceEqDiff, Nat.reduceAdd, g5] <;> rfl)) rfl (x_move rfl rfl) (by decide) ?_
            refine d_step (wA_on rfl rfl (by simp only [Tr.get_set, reduceIte, Nat.reduceEqDiff, Nat.reduceAdd, g5] <;> rfl)) rfl (x_move rfl rfl) (by decide) ?_
            refine d_step (wA_on rfl rfl (by simp only [Tr.get_set, reduceIte, Nat.reduceEqDiff, Nat.reduceAdd, g5] <;> rfl)) rfl (x_index rfl rfl rfl Try.underlying29 T.s71 (by omega) (by omega)) (by decide) ?_
            refine d_step (wA_on rfl rfl (by simp only [Tr.get_set, reduceIte, Nat.reduceEqDiff, Nat.reduceAdd, g5] <;> rfl)) rfl (x_indexA rfl rfl (by rfl) Try.underlying71 T.s3 (by omega) (by omega)) (by decide) ?_
            refine d_step (wA_on rfl rfl (by simp only [Tr.get_set, reduceIte, Nat.reduceEqDiff, Nat.reduceAdd, g5] <;> rfl)) rfl (x_load1 rfl rfl T.g3 (by first | exact l_partI0 (K := 2) (whole_row rfl rfl) h_C rfl (by omega) (by omega) rfl | exact l_partI (a := 1) (K := 2) (whole_row rfl rfl) h_C rfl (by omega) (by omega) rfl)) (by decide) ?_
            refine d_step (wA_on rfl rfl (by simp only [Tr.get_set, reduceIte, Nat.reduceEqDiff, Nat.reduceAdd, g5] <;> rfl)) rfl (x_move rfl rfl) (by decide) ?_
            refine d_step (wA_on rfl rfl (by simp only [Tr.get_set, reduceIte, Nat.reduceEqDiff, Nat.reduceAdd, g5] <;> rfl)) rfl (x_len rfl rfl rfl rfl Try.underlying23) (by decide) ?_
            refine d_step (wA_on rfl rfl (by simp only [Tr.get_set, reduceIte, Nat.reduceEqDiff, Nat.reduceAdd, g5] <;> rfl)) rfl (x_bin (u := .bool false) rfl rfl rfl (by rw [b_geq]; congr 2; exact decide_eq_false (by have q := pf i h0 (by omega); omega))) (by decide) ?_
            refine ds (x_pick rfl (by simp only [Tr.get_set, reduceIte, Nat.reduceEqDiff, Nat.reduceAdd, ev_tmp, g5] <;> rfl) (by simp only [if_true, if_false, Bool.false_eq_true, ev_tmp, Tr.get_set, reduceIte, Nat.reduceEqDiff, Nat.reduceAdd, g5]; rfl)) ?_
            refine d_done ⟨by kernel_rfl, ?_⟩
            refine e_seq ?_
            refine k_condF (by simp only [Tr.get_set, reduceIte, Nat.reduceEqDiff, Nat.reduceAdd, ev_tmp, g5] <;> rfl) ?_
            refine k_skip ?_
            refine e_seq ?_
            refine k_seq ?_
            refine k_region hP hC ?_
            refine om ?_
            refine om ?_
            refine om ?_
            refine os (x_index rfl rfl rfl Try.underlying29 T.s71 (by omega) (by omega)) ?_
            refine os (x_indexA rfl rfl (by rfl) Try.underlying71 T.s3 (by omega) (by omega)) ?_
            refine os (x_load1 rfl rfl T.g3 (by first | exact l_partI0 (K := 2) (whole_row rfl rfl) h_C rfl (by omega) (by omega) rfl | exact l_partI (a := 0) (K := 2) (whole_row rfl rfl) h_C rfl (by omega) (by omega) rfl)) ?_
            refine os (x_index rfl rfl rfl Try.underlying23 T.s43 (by have q := pf i h0 (by omega); omega) (by have q := pf i h0 (by omega); omega)) ?_
            refine os (x_field0 rfl rfl Try.underlying43 rfl T.s3 rfl) ?_
            refine os (x_load1 rfl rfl T.g3 (l_partI0 (K := 46) (whole_row rfl rfl) h_A rfl (by have q := pf i h0 (by omega); omega) (by have q := pf i h0 (by omega); omega) rfl)) ?_
            refine oa ?_
            refine o_done ?_
            refine e_seq ?_
            refine k_seq ?_
            refine k_region hP hC ?_
            refine om ?_
            refine om ?_
            refine om ?_
            refine os (x_index rfl rfl rfl Try.underlying29 T.s71 (by omega) (by omega)) ?_
            refine os (x_indexA rfl rfl (by rfl) Try.underlying71 T.s3 (by omega) (by omega)) ?_
            refine os (x_load1 rfl rfl T.g3 (by first | exact l_partI0 (K := 2) (whole_row rfl rfl) h_C rfl (by omega) (by omega) rfl | exact l_partI (a := 1) (K := 2) (whole_row rfl rfl) h_C rfl (by omega) (by omega) rfl)) ?_
            refine os (x_index rfl rfl rfl Try.underlying23 T.s43 (by have q := pf i h0 (by omega); omega) (by have q := pf i h0 (by omega); omega)) ?_
            refine os (x_field0 rfl rfl Try.underlying43 rfl T.s3 rfl) ?_
            refine os (x_load1 rfl rfl T.g3 (l_partI0 (K := 46) (whole_row rfl rfl) h_A rfl (by have q := pf i h0 (by omega); omega) (by have q := pf i h0 (by omega); omega) rfl)) ?_
            refine oa ?_
            refine o_done ?_
            refine e_seq ?_
            refine k_seq ?_
            refine k_region hP hC ?_
            refine os (x_field (off' := 0) rfl rfl Try.underlying56 rfl T.s22 rfl) ?_
            refine os (x_load1 rfl rfl T.g22 (by first | exact l_boxI (whole_row rfl rfl) (by (first | assumption | (exact cf_nth (by assumption) (by omega) (by omega)))) rfl | exact l_boxS (whole_row rfl rfl) (by (first | assumption | (exact cf_nth (by assumption) (by omega) (by omega)))) rfl | (simp only [loadC, AH.fam, Tr.get_set, reduceIte, Nat.reduceEqDiff, Nat.reduceAdd, Fam.rb, List.drop_zero, List.drop_succ_cons, List.take_succ_cons, List.take_zero, List.length_cons, List.length_nil, Nat.zero_le, Nat.reduceLeDiff, and_self, true_and] <;> rfl))) ?_
            refine om ?_
            refine o_call0 (wA_none rfl) rfl rfl rfl rfl (by decide) ?_
            refine ⟨_, _, ((tab_miss (by decide)).trans ((tab_miss (by decide)).trans ((tab_miss (by decide)).trans ((tab_miss (by decide)).trans (tab_hit.trans (in_c (rd_whole (by decide) (.inr rfl) (whole_row rfl rfl) (by rw [ints_len, Nat.mul_one]) (ints_free0 _)) (by rw [ok_in, decide_eq_true hWb]))))))), ?_⟩
            refine os (x_not rfl rfl) ?_
            refine om ?_
            refine o_guard rfl rfl rfl (fun g8 => ?_) (fun g8 => ?_)
            · have p8 := g8; try simp only [d1, d2, d3, d4, d5, d6, d7, d8, d9] at p8
              refine o_step (wA_on rfl rfl (by simp only [Tr.get_set, reduceIte, Nat.reduceEqDiff, Nat.reduceAdd, g5, g8] <;> rfl)) rfl (x_field (off' := 0) rfl rfl Try.underlying56 rfl T.s22 rfl) (by decide) ?_
              refine o_step (wA_on rfl rfl (by simp only [Tr.get_set, reduceIte, Nat.reduceEqDiff, Nat.reduceAdd, g5, g8] <;> rfl)) rfl (x_load1 rfl rfl T.g22 (by first | exact l_boxI (whole_row rfl rfl) (by (first | assumption | (exact cf_nth (by assumption) (by omega) (by omega)))) rfl | exact l_boxS (whole_row rfl rfl) (by (first | assumption | (exact cf_nth (by assumption) (by omega) (by omega)))) rfl | (simp only [loadC, AH.fam, Tr.get_set, reduceIte, Nat.reduceEqDiff, Nat.reduceAdd, Fam.rb, List.drop_zero, List.drop_succ_cons, List.take_succ_cons, List.take_zero, List.length_cons, List.length_nil, Nat.zero_le, Nat.reduceLeDiff, and_self, true_and] <;> rfl))) (by decide) ?_
              refine o_step (wA_on rfl rfl (by simp only [Tr.get_set, reduceIte, Nat.reduceEqDiff, Nat.reduceAdd, g5, g8] <;> rfl)) rfl (x_move rfl rfl) (by decide) ?_
              refine o_call0 (wA_on rfl rfl (by simp only [Tr.get_set, reduceIte, Nat.reduceEqDiff, Nat.reduceAdd, g5, g8] <;> rfl)) rfl rfl rfl rfl (by decide) ?_
              refine ⟨_, _, ((tab_miss (by decide)).trans ((tab_miss (by decide)).trans ((tab_miss (by decide)).trans ((tab_miss (by decide)).trans (tab_hit.trans (in_cT (rd_whole (by decide) (.inr rfl) (whole_row rfl rfl) (by rw [ints_len, Nat.mul_one]) (ints_free0 _)) hWb ((pw i h0 (by omega)).resolve_left (by simpa using g8)))))))), ?_⟩
              refine o_step (wA_on rfl rfl (by simp only [Tr.get_set, reduceIte, Nat.reduceEqDiff, Nat.reduceAdd, g5, g8] <;> rfl)) rfl (x_not rfl rfl) (by decide) ?_
              refine os (x_pick rfl (by simp only [Tr.get_set, reduceIte, Nat.reduceEqDiff, Nat.reduceAdd, ev_tmp, g5, g8] <;> rfl) (by simp only [if_true, if_false, Bool.false_eq_true, ev_tmp, Tr.get_set, reduceIte, Nat.reduceEqDiff, Nat.reduceAdd, g5, g8]; rfl)) ?_
              refine om ?_
              refine o_step (wA_on rfl rfl (by simp only [Tr.get_set, reduceIte, Nat.reduceEqDiff, Nat.reduceAdd, g5, g8] <;> rfl)) rfl (x_move rfl rfl) (by decide) ?_
              refine o_step (wA_on rfl rfl (by simp only [Tr.get_set, reduceIte, Nat.reduceEqDiff, Nat.reduceAdd, g5, g8] <;> rfl)) rfl (x_move rfl rfl) (by decide) ?_
              refine o_call0 (wA_on rfl rfl (by simp only [Tr.get_set, reduceIte, Nat.reduceEqDiff, Nat.reduceAdd, g5, g8] <;> rfl)) rfl rfl rfl rfl (by decide) ?_
              refine ⟨_, _, ((tab_miss (by decide)).trans ((tab_miss (by decide)).trans ((tab_miss (by decide)).trans ((tab_miss (by decide)).trans (tab_hit.trans (in_c (rd_whole (by decide) (.inr rfl) (whole_row rfl rfl) (by rw [ints_len, Nat.mul_one]) (ints_free0 _)) (by rw [ok_in, decide_eq_true hMb]))))))), ?_⟩
              refine o_step (wA_on rfl rfl (by simp only [Tr.get_set, reduceIte, Nat.reduceEqDiff, Nat.reduceAdd, g5, g8] <;> rfl)) rfl (x_not rfl rfl) (by decide) ?_
              refine o_step (wA_on rfl rfl (by simp only [Tr.get_set, reduceIte, Nat.reduceEqDiff, Nat.reduceAdd, g5, g8] <;> rfl)) rfl (x_move rfl rfl) (by decide) ?_
              refine o_guard rfl rfl rfl (fun g12 => ?_) (fun g12 => ?_)
              · have p12 := g12; try simp only [d1, d2, d3, d4, d5, d6, d7, d8, d9] at p12
                refine o_step (wA_on rfl rfl (by simp only [Tr.get_set, reduceIte, Nat.reduceEqDiff, Nat.reduceAdd, g5, g8, g12] <;> rfl)) rfl (x_move rfl rfl) (by decide) ?_
                refine o_step (wA_on rfl rfl (by simp only [Tr.get_set, reduceIte, Nat.reduceEqDiff, Nat.reduceAdd, g5, g8, g12] <;> rfl)) rfl (x_move rfl rfl) (by decide) ?_
                refine o_call0 (wA_on rfl rfl (by simp only [Tr.get_set, reduceIte, Nat.reduceEqDiff, Nat.reduceAdd, g5, g8, g12] <;> rfl)) rfl rfl rfl rfl (by decide) ?_
                refine ⟨_, _, ((tab_miss (by decide)).trans ((tab_miss (by decide)).trans ((tab_miss (by decide)).trans ((tab_miss (by decide)).trans (tab_hit.trans (in_cT (rd_whole (by decide) (.inr rfl) (whole_row rfl rfl) (by rw [ints_len, Nat.mul_one]) (ints_free0 _)) hMb ((pm i h0 (by omega)).resolve_left (by simpa using g12)))))))), ?_⟩
                refine o_step (wA_on rfl rfl (by simp only [Tr.get_set, reduceIte, Nat.reduceEqDiff, Nat.reduceAdd, g5, g8, g12] <;> rfl)) rfl (x_not rfl rfl) (by decide) ?_
                refine o_step (wA_on rfl rfl (by simp only [Tr.get_set, reduceIte, Nat.reduceEqDiff, Nat.reduceAdd, g5, g8, g12] <;> rfl)) rfl (x_pick rfl (by simp only [Tr.get_set, reduceIte, Nat.reduceEqDiff, Nat.reduceAdd, ev_tmp, g5, g8, g12] <;> rfl) (by simp only [if_true, if_false, Bool.false_eq_true, ev_tmp, Tr.get_set, reduceIte, Nat.reduceEqDiff, Nat.reduceAdd, g5, g8, g12]; rfl)) (by decide) ?_
                refine os (x_pick rfl (by simp only [Tr.get_set, reduceIte, Nat.reduceEqDiff, Nat.reduceAdd, ev_tmp, g5, g8, g12] <;> rfl) (by simp only [if_true, if_false, Bool.false_eq_true, ev_tmp, Tr.get_set, reduceIte, Nat.reduceEqDiff, Nat.reduceAdd, g5, g8, g12]; rfl)) ?_
                refine o_done ?_
                refine e_seq ?_
                refine k_condF (by simp only [Tr.get_set, reduceIte, Nat.reduceEqDiff, Nat.reduceAdd, ev_tmp, g5, g8, g12] <;> rfl) ?_
                refine k_skip ?_
                refine e_block ?_
                refine e_seq ?_
                refine k_region hP hC ?_
                refine om ?_
                refine os (x_bin rfl rfl (by rfl) b_add) ?_
                refine oa ?_
                refine o_done ?_
                refine e_loop ?_
                refine ⟨IntKind.i64.wrap (i + 1), (to_mk (L := [0, 1, 2, 3, 4, 5, 6, 7]) (slots := [5, 7, 9, 11, 12]) (w := 1) (by kernel_rfl) (gcVs_cons rfl (gcV_slice rfl) (gcVs_cons rfl (gcV_ptr rfl) (gcVs_cons rfl (gcV_slice rfl) (gcVs_cons rfl (gcV_slice rfl) (gcVs_cons rfl gFre gcVs_nil))))) (gcH_cons gOld (gcH_cons (gcO_row (by rfl) rfl (gcD_free (cfs_free1 h_A))) (gcH_cons (gcO_row (by rfl) rfl (gcD_free (cfs_free1 h_R))) (gcH_cons (gcO_row (by rfl) rfl (gcD_free (ints_free1 _))) (gcH_cons (gcO_row (by rfl) rfl (gcD_free (ints_free1 _))) (gcH_cons (gcO_rowE (by rfl) rfl (gcD_cons (gcV_slice rfl) (gcD_cons (gcV_slice rfl) gcD_nil)) rfl) (gcH_cons (gcO_row (by rfl) rfl (gcD_free (ints_free1 _))) (gcH_cons (gcO_row (by rfl) rfl (gcD_free (cfs_free1 h_C))) gcH_nil)))))))) (by kernel_rfl)), ?_, ?_⟩
                · rw [wr1 (by omega) (by omega)]; exact ⟨by omega, by omega⟩
                · rw [wr1 (by omega) (by omega)]; omega
              · have p12 := g12; try simp only [d1, d2, d3, d4, d5, d6, d7, d8, d9] at p12
                refine o_skip (wA_off rfl rfl (by simp only [Tr.get_set, reduceIte, Nat.reduceEqDiff, Nat.reduceAdd, g5, g8, g12] <;> rfl)) rfl (by decide) ?_
                refine o_skip (wA_off rfl rfl (by simp only [Tr.get_set, reduceIte, Nat.reduceEqDiff, Nat.reduceAdd, g5, g8, g12] <;> rfl)) rfl (by decide) ?_
                refine o_skip (wA_off rfl rfl (by simp only [Tr.get_set, reduceIte, Nat.reduceEqDiff, Nat.reduceAdd, g5, g8, g12] <;> rfl)) rfl (by decide) ?_
                refine o_skip (wA_off rfl rfl (by simp only [Tr.get_set, reduceIte, Nat.reduceEqDiff, Nat.reduceAdd, g5, g8, g12] <;> rfl)) rfl (by decide) ?_
                refine o_step (wA_on rfl rfl (by simp only [Tr.get_set, reduceIte, Nat.reduceEqDiff, Nat.reduceAdd, g5, g8, g12] <;> rfl)) rfl (x_pick rfl (by simp only [Tr.get_set, reduceIte, Nat.reduceEqDiff, Nat.reduceAdd, ev_tmp, g5, g8, g12] <;> rfl) (by simp only [if_true, if_false, Bool.false_eq_true, ev_tmp, Tr.get_set, reduceIte, Nat.reduceEqDiff, Nat.reduceAdd, g5, g8, g12]; rfl)) (by decide) ?_
                refine os (x_pick rfl (by simp only [Tr.get_set, reduceIte, Nat.reduceEqDiff, Nat.reduceAdd, ev_tmp, g5, g8, g12] <;> rfl) (by simp only [if_true, if_false, Bool.false_eq_true, ev_tmp, Tr.get_set, reduceIte, Nat.reduceEqDiff, Nat.reduceAdd, g5, g8, g12]; rfl)) ?_
                refine o_done ?_
                refine e_seq ?_
                refine k_condF (by simp only [Tr.get_set, reduceIte, Nat.reduceEqDiff, Nat.reduceAdd, ev_tmp, g5, g8, g12] <;> rfl) ?_
                refine k_skip ?_
                refine e_block ?_
                refine e_seq ?_
                refine k_region hP hC ?_
                refine om ?_
                refine os (x_bin rfl rfl (by rfl) b_add) ?_
                refine oa ?_
                refine o_done ?_
                refine e_loop ?_
                refine ⟨IntKind.i64.wrap (i + 1), (to_mk (L := [0, 1, 2, 3, 4, 5, 6, 7]) (slots := [5, 7, 9, 11, 12]) (w := 1) (by kernel_rfl) (gcVs_cons rfl (gcV_slice rfl) (gcVs_cons rfl (gcV_ptr rfl) (gcVs_cons rfl (gcV_slice rfl) (gcVs_cons rfl (gcV_slice rfl) (gcVs_cons rfl gFre gcVs_nil))))) (gcH_cons gOld (gcH_cons (gcO_row (by rfl) rfl (gcD_free (cfs_free1 h_A))) (gcH_cons (gcO_row (by rfl) rfl (gcD_free (cfs_free1 h_R))) (gcH_cons (gcO_row (by rfl) rfl (gcD_free (ints_free1 _))) (gcH_cons (gcO_row (by rfl) rfl (gcD_free (ints_free1 _))) (gcH_cons (gcO_rowE (by rfl) rfl (gcD_cons (gcV_slice rfl) (gcD_cons (gcV_slice rfl) gcD_nil)) rfl) (gcH_cons (gcO_row (by rfl) rfl (gcD_free (ints_free1 _))) (gcH_cons (gcO_row (by rfl) rfl (gcD_free (cfs_free1 h_C))) gcH_nil)))))))) (by kernel_rfl)), ?_, ?_⟩
                · rw [wr1 (by omega) (by omega)]; exact ⟨by omega, by omega⟩
                · rw [wr1 (by omega) (by omega)]; omega
            · have p8 := g8; try simp only [d1, d2, d3, d4, d5, d6, d7, d8, d9] at p8
              refine o_skip (wA_off rfl rfl (by simp only [Tr.get_set, reduceIte, Nat.reduceEqDiff, Nat.reduceAdd, g5, g8] <;> rfl)) rfl (by decide) ?_
              refine o_skip (wA_off rfl rfl (by simp only [Tr.get_set, reduceIte, Nat.reduceEqDiff, Nat.reduceAdd, g5, g8] <;> rfl)) rfl (by decide) ?_
              refine o_skip (wA_off rfl rfl (by simp only [Tr.get_set, reduceIte, Nat.reduceEqDiff, Nat.reduceAdd, g5, g8] <;> rfl)) rfl (by decide) ?_
              refine o_skip (wA_off rfl rfl (by simp only [Tr.get_set, reduceIte, Nat.reduceEqDiff, Nat.reduceAdd, g5, g8] <;> rfl)) rfl (by decide) ?_
              refine o_skip (wA_off rfl rfl (by simp only [Tr.get_set, reduceIte, Nat.reduceEqDiff, Nat.reduceAdd, g5, g8] <;> rfl)) rfl (by decide) ?_
              refine os (x_pick rfl (by simp only [Tr.get_set, reduceIte, Nat.reduceEqDiff, Nat.reduceAdd, ev_tmp, g5, g8] <;> rfl) (by simp only [if_true, if_false, Bool.false_eq_true, ev_tmp, Tr.get_set, reduceIte, Nat.reduceEqDiff, Nat.reduceAdd, g5, g8]; rfl)) ?_
              refine om ?_
              refine o_step (wA_on rfl rfl (by simp only [Tr.get_set, reduceIte, Nat.reduceEqDiff, Nat.reduceAdd, g5, g8] <;> rfl)) rfl (x_move rfl rfl) (by decide) ?_
              refine o_step (wA_on rfl rfl (by simp only [Tr.get_set, reduceIte, Nat.reduceEqDiff, Nat.reduceAdd, g5, g8] <;> rfl)) rfl (x_move rfl rfl) (by decide) ?_
              refine o_call0 (wA_on rfl rfl (by simp only [Tr.get_set, reduceIte, Nat.reduceEqDiff, Nat.reduceAdd, g5, g8] <;> rfl)) rfl rfl rfl rfl (by decide) ?_
              refine ⟨_, _, ((tab_miss (by decide)).trans ((tab_miss (by decide)).trans ((tab_miss (by decide)).trans ((tab_miss (by decide)).trans (tab_hit.trans (in_c (rd_whole (by decide) (.inr rfl) (whole_row rfl rfl) (by rw [ints_len, Nat.mul_one]) (ints_free0 _)) (by rw [ok_in, decide_eq_true hMb]))))))), ?_⟩
              refine o_step (wA_on rfl rfl (by simp only [Tr.get_set, reduceIte, Nat.reduceEqDiff, Nat.reduceAdd, g5, g8] <;> rfl)) rfl (x_not rfl rfl) (by decide) ?_
              refine o_step (wA_on rfl rfl (by simp only [Tr.get_set, reduceIte, Nat.reduceEqDiff, Nat.reduceAdd, g5, g8] <;> rfl)) rfl (x_move rfl rfl) (by decide) ?_
              refine o_guard rfl rfl rfl (fun g16 => ?_) (fun g16 => ?_)
              · have p16 := g16; try simp only [d1, d2, d3, d4, d5, d6, d7, d8, d9] at p16
                refine o_step (wA_on rfl rfl (by simp only [Tr.get_set, reduceIte, Nat.reduceEqDiff, Nat.reduceAdd, g5, g8, g16] <;> rfl)) rfl (x_move rfl rfl) (by decide) ?_
                refine o_step (wA_on rfl rfl (by simp only [Tr.get_set, reduceIte, Nat.reduceEqDiff, Nat.reduceAdd, g5, g8, g16] <;> rfl)) rfl (x_move rfl rfl) (by decide) ?_
                refine o_call0 (wA_on rfl rfl (by simp only [Tr.get_set, reduceIte, Nat.reduceEqDiff, Nat.reduceAdd, g5, g8, g16] <;> rfl)) rfl rfl rfl rfl (by decide) ?_
                refine ⟨_, _, ((tab_miss (by decide)).trans ((tab_miss (by decide)).trans ((tab_miss (by decide)).trans ((tab_miss (by decide)).trans (tab_hit.trans (in_cT (rd_whole (by decide) (.inr rfl) (whole_row rfl rfl) (by rw [ints_len, Nat.mul_one]) (ints_free0 _)) hMb ((pm i h0 (by omega)).resolve_left (by simpa using g16)))))))), ?_⟩
                refine o_step (wA_on rfl rfl (by simp only [Tr.get_set, reduceIte, Nat.reduceEqDiff, Nat.reduceAdd, g5, g8, g16] <;> rfl)) rfl (x_not rfl rfl) (by decide) ?_
                refine o_step (wA_on rfl rfl (by simp only [Tr.get_set, reduceIte, Nat.reduceEqDiff, Nat.reduceAdd, g5, g8, g16] <;> rfl)) rfl (x_pick rfl (by simp only [Tr.get_set, reduceIte, Nat.reduceEqDiff, Nat.reduceAdd, ev_tmp, g5, g8, g16] <;> rfl) (by simp only [if_true, if_false, Bool.false_eq_true, ev_tmp, Tr.get_set, reduceIte, Nat.reduceEqDiff, Nat.reduceAdd, g5, g8, g16]; rfl)) (by decide) ?_
                refine os (x_pick rfl (by simp only [Tr.get_set, reduceIte, Nat.reduceEqDiff, Nat.reduceAdd, ev_tmp, g5, g8, g16] <;> rfl) (by simp only [if_true, if_false, Bool.false_eq_true, ev_tmp, Tr.get_set, reduceIte, Nat.reduceEqDiff, Nat.reduceAdd, g5, g8, g16]; rfl)) ?_
                refine o_done ?_
                refine e_seq ?_
                refine k_condF (by simp only [Tr.get_set, reduceIte, Nat.reduceEqDiff, Nat.reduceAdd, ev_tmp, g5, g8, g16] <;> rfl) ?_
                refine k_skip ?_
                refine e_block ?_
                refine e_seq ?_
                refine k_region hP hC ?_
                refine om ?_
                refine os (x_bin rfl rfl (by rfl) b_add) ?_
                refine oa ?_
                refine o_done ?_
                refine e_loop ?_
                refine ⟨IntKind.i64.wrap (i + 1), (to_mk (L := [0, 1, 2, 3, 4, 5, 6, 7]) (slots := [5, 7, 9, 11, 12]) (w := 1) (by kernel_rfl) (gcVs_cons rfl (gcV_slice rfl) (gcVs_cons rfl (gcV_ptr rfl) (gcVs_cons rfl (gcV_slice rfl) (gcVs_cons rfl (gcV_slice rfl) (gcVs_cons rfl gFre gcVs_nil))))) (gcH_cons gOld (gcH_cons (gcO_row (by rfl) rfl (gcD_free (cfs_free1 h_A))) (gcH_cons (gcO_row (by rfl) rfl (gcD_free (cfs_free1 h_R))) (gcH_cons (gcO_row (by rfl) rfl (gcD_free (ints_free1 _))) (gcH_cons (gcO_row (by rfl) rfl (gcD_free (ints_free1 _))) (gcH_cons (gcO_rowE (by rfl) rfl (gcD_cons (gcV_slice rfl) (gcD_cons (gcV_slice rfl) gcD_nil)) rfl) (gcH_cons (gcO_row (by rfl) rfl (gcD_free (ints_free1 _))) (gcH_cons (gcO_row (by rfl) rfl (gcD_free (cfs_free1 h_C))) gcH_nil)))))))) (by kernel_rfl)), ?_, ?_⟩
                · rw [wr1 (by omega) (by omega)]; exact ⟨by omega, by omega⟩
                · rw [wr1 (by omega) (by omega)]; omega
              · have p16 := g16; try simp only [d1, d2, d3, d4, d5, d6, d7, d8, d9] at p16
                refine o_skip (wA_off rfl rfl (by simp only [Tr.get_set, reduceIte, Nat.reduceEqDiff, Nat.reduceAdd, g5, g8, g16] <;> rfl)) rfl (by decide) ?_
                refine o_skip (wA_off rfl rfl (by simp only [Tr.get_set, reduceIte, Nat.reduceEqDiff, Nat.reduceAdd, g5, g8, g16] <;> rfl)) rfl (by decide) ?_
                refine o_skip (wA_off rfl rfl (by simp only [Tr.get_set, reduceIte, Nat.reduceEqDiff, Nat.reduceAdd, g5, g8, g16] <;> rfl)) rfl (by decide) ?_
                refine o_skip (wA_off rfl rfl (by simp only [Tr.get_set, reduceIte, Nat.reduceEqDiff, Nat.reduceAdd, g5, g8, g16] <;> rfl)) rfl (by decide) ?_
                refine o_step (wA_on rfl rfl (by simp only [Tr.get_set, reduceIte, Nat.reduceEqDiff, Nat.reduceAdd, g5, g8, g16] <;> rfl)) rfl (x_pick rfl (by simp only [Tr.get_set, reduceIte, Nat.reduceEqDiff, Nat.reduceAdd, ev_tmp, g5, g8, g16] <;> rfl) (by simp only [if_true, if_false, Bool.false_eq_true, ev_tmp, Tr.get_set, reduceIte, Nat.reduceEqDiff, Nat.reduceAdd, g5, g8, g16]; rfl)) (by decide) ?_
                refine os (x_pick rfl (by simp only [Tr.get_set, reduceIte, Nat.reduceEqDiff, Nat.reduceAdd, ev_tmp, g5, g8, g16] <;> rfl) (by simp only [if_true, if_false, Bool.false_eq_true, ev_tmp, Tr.get_set, reduceIte, Nat.reduceEqDiff, Nat.reduceAdd, g5, g8, g16]; rfl)) ?_
                refine o_done ?_
                refine e_seq ?_
                refine k_condF (by simp only [Tr.get_set, reduceIte, Nat.reduceEqDiff, Nat.reduceAdd, ev_tmp, g5, g8, g16] <;> rfl) ?_
                refine k_skip ?_
                refine e_block ?_
                refine e_seq ?_
                refine k_region hP hC ?_
                refine om ?_
                refine os (x_bin rfl rfl (by rfl) b_add) ?_
                refine oa ?_
                refine o_done ?_
                refine e_loop ?_
                refine ⟨IntKind.i64.wrap (i + 1), (to_mk (L := [0, 1, 2, 3, 4, 5, 6, 7]) (slots := [5, 7, 9, 11, 12]) (w := 1) (by kernel_rfl) (gcVs_cons rfl (gcV_slice rfl) (gcVs_cons rfl (gcV_ptr rfl) (gcVs_cons rfl (gcV_slice rfl) (gcVs_cons rfl (gcV_slice rfl) (gcVs_cons rfl gFre gcVs_nil))))) (gcH_cons gOld (gcH_cons (gcO_row (by rfl) rfl (gcD_free (cfs_free1 h_A))) (gcH_cons (gcO_row (by rfl) rfl (gcD_free (cfs_free1 h_R))) (gcH_cons (gcO_row (by rfl) rfl (gcD_free (ints_free1 _))) (gcH_cons (gcO_row (by rfl) rfl (gcD_free (ints_free1 _))) (gcH_cons (gcO_rowE (by rfl) rfl (gcD_cons (gcV_slice rfl) (gcD_cons (gcV_slice rfl) gcD_nil)) rfl) (gcH_cons (gcO_row (by rfl) rfl (gcD_free (ints_free1 _))) (gcH_cons (gcO_row (by rfl) rfl (gcD_free (cfs_free1 h_C))) gcH_nil)))))))) (by kernel_rfl)), ?_, ?_⟩
                · rw [wr1 (by omega) (by omega)]; exact ⟨by omega, by omega⟩
                · rw [wr1 (by omega) (by omega)]; omega
          · have p5 := g5; try simp only [d1, d2, d3, d4, d5, d6, d7, d8, d9] at p5
            refine k_exit ?_
            refine e_seq_exit ?_
            refine e_loop_exit ?_
            refine e_block_eq ?_
            refine e_seq ?_
            refine k_seq ?_
            refine k_region hP hC ?_
            refine om ?_
            refine os (x_loadA' rfl rfl T.g56 T.s56 rfl rfl (Nat.le_of_ble_eq_true rfl) rfl) ?_
            refine o_call0 (wA_none rfl) rfl rfl rfl rfl (by decide) ?_
            refine ⟨_, _, ((tab_miss (by decide)).trans ((tab_miss (by decide)).trans ((tab_miss (by decide)).trans ((tab_miss (by decide)).trans ((tab_miss (by decide)).trans (tab_hit.trans (kept_c1 (L := A) (rd_whole (by decide) (.inr rfl) (whole_row rfl rfl) (cfs_len h_A).symm (cfs_free0 h_A)) h_A rfl (rd_whole (by decide) (.inr rfl) (whole_row rfl rfl) (by rw [ints_len, Nat.mul_one]) (ints_free0 _)) (rd_whole (by decide) (.inr rfl) (whole_row rfl rfl) (by rw [ints_len, Nat.mul_one]) (ints_free0 _)) hAb (by omega) hWb))))))), ?_⟩
            refine o_call0 (wA_none rfl) rfl rfl rfl rfl (by decide) ?_
            refine ⟨_, _, ((tab_miss (by decide)).trans ((tab_miss (by decide)).trans ((tab_miss (by decide)).trans (tab_hit.trans (clashes_c0 (L := keptL W A) (kz_rd h_A (whole_row (by simp only [Tr.get_set, reduceIte, Nat.reduceEqDiff, Nat.reduceAdd] <;> rfl) rfl)) (keptL_cfs h_A) (Nat.le_trans keptL_len hAb) hxW))))), ?_⟩
            refine os (x_len rfl rfl rfl rfl Try.underlying29) ?_
            refine os (x_bin (u := .bool true) rfl rfl (by rfl) (by rw [b_eql]; rfl)) ?_
            refine om ?_
            refine o_step (wA_on rfl rfl (by simp only [Tr.get_set, reduceIte, Nat.reduceEqDiff, Nat.reduceAdd, g5] <;> rfl)) rfl (x_move rfl rfl) (by decide) ?_
            refine o_step (wA_on rfl rfl (by simp only [Tr.get_set, reduceIte, Nat.reduceEqDiff, Nat.reduceAdd, g5] <;> rfl)) rfl (x_move rfl rfl) (by decide) ?_
            refine o_step (wA_on rfl rfl (by simp only [Tr.get_set, reduceIte, Nat.reduceEqDiff, Nat.reduceAdd, g5] <;> rfl)) rfl (x_build (v := .agg ⟨[.slice (some ⟨6, 0, none⟩) M.length (M.length + 1), .slice none 0 0]⟩) rfl rfl T.z56 rfl (by kernel_rfl)) (by decide) ?_
            refine o_call0 (wA_on rfl rfl (by simp only [Tr.get_set, reduceIte, Nat.reduceEqDiff, Nat.reduceAdd, g5] <;> rfl)) rfl rfl rfl rfl (by decide) ?_
            refine ⟨_, _, ((tab_miss (by decide)).trans ((tab_miss (by decide)).trans ((tab_miss (by decide)).trans ((tab_miss (by decide)).trans ((tab_miss (by decide)).trans (tab_hit.trans (kept_c1 (L := A) (a := []) (rd_whole (by decide) (.inr rfl) (whole_row (by simp only [Tr.get_set, reduceIte, Nat.reduceEqDiff, Nat.reduceAdd] <;> rfl) rfl) (cfs_len h_A).symm (cfs_free0 h_A)) h_A rfl (rd_whole (by decide) (.inr rfl) (whole_row (by simp only [Tr.get_set, reduceIte, Nat.reduceEqDiff, Nat.reduceAdd] <;> rfl) rfl) (by rw [ints_len, Nat.mul_one]) (ints_free0 _)) (rd_nil (k := 1)) hAb (by omega) hMb))))))), ?_⟩
            refine o_call0 (wA_on rfl rfl (by simp only [Tr.get_set, reduceIte, Nat.reduceEqDiff, Nat.reduceAdd, g5] <;> rfl)) rfl rfl rfl rfl (by decide) ?_
            refine ⟨_, _, ((tab_miss (by decide)).trans ((tab_miss (by decide)).trans ((tab_miss (by decide)).trans (tab_hit.trans (clashes_c0 (L := keptL M A) (kz_rd h_A (whole_row (by simp only [Tr.get_set, reduceIte, Nat.reduceEqDiff, Nat.reduceAdd] <;> rfl) rfl)) (keptL_cfs h_A) (Nat.le_trans keptL_len hAb) hxM))))), ?_⟩
            refine o_step (wA_on rfl rfl (by simp only [Tr.get_set, reduceIte, Nat.reduceEqDiff, Nat.reduceAdd, g5] <;> rfl)) rfl (x_len rfl rfl rfl rfl Try.underlying29) (by decide) ?_
            refine o_step (wA_on rfl rfl (by simp only [Tr.get_set, reduceIte, Nat.reduceEqDiff, Nat.reduceAdd, g5] <;> rfl)) rfl (x_bin (u := .bool true) rfl rfl (by rfl) (by rw [b_eql]; rfl)) (by decide) ?_
            refine os (x_pick rfl (by simp only [Tr.get_set, reduceIte, Nat.reduceEqDiff, Nat.reduceAdd, ev_tmp, g5] <;> rfl) (by simp only [if_true, if_false, Bool.false_eq_true, ev_tmp, Tr.get_set, reduceIte, Nat.reduceEqDiff, Nat.reduceAdd, g5]; rfl)) ?_
            refine om ?_
            refine o_call0 (wA_on rfl rfl (by simp only [Tr.get_set, reduceIte, Nat.reduceEqDiff, Nat.reduceAdd, g5] <;> rfl)) rfl rfl rfl rfl (by decide) ?_
            refine ⟨_, _, ((tab_miss (by decide)).trans ((tab_miss (by decide)).trans ((tab_miss (by decide)).trans ((tab_miss (by decide)).trans ((tab_miss (by decide)).trans ((tab_miss (by decide)).trans (tab_hit.trans lives_c))))))), ?_⟩
            refine os (x_pick rfl (by simp only [Tr.get_set, reduceIte, Nat.reduceEqDiff, Nat.reduceAdd, ev_tmp, g5] <;> rfl) (by simp only [if_true, if_false, Bool.false_eq_true, ev_tmp, Tr.get_set, reduceIte, Nat.reduceEqDiff, Nat.reduceAdd, g5]; rfl)) ?_
            refine o_step (wA_none rfl) rfl (x_assign rfl (by simp only [Tr.get_set, reduceIte, Nat.reduceEqDiff, Nat.reduceAdd, ev_tmp, g5] <;> rfl)) (by decide) ?_
            refine o_done ?_
            refine e_seq ?_
            refine k_ret ?_
            refine gives_mk (L := [0]) (slots := [4]) (w := 1) (.inr rfl) (by kernel_rfl) (gcVs_cons (by simp only [Tr.get_set, reduceIte, Nat.reduceEqDiff, Nat.reduceAdd, g5] <;> rfl) (gcV_free rfl) gcVs_nil) (gcH_cons (gcO_old (by rfl) (by simp only [Tr.get_set, reduceIte, Nat.reduceEqDiff, Nat.reduceAdd] <;> rfl)) gcH_nil) (by kernel_rfl) (by simp only [Try.results5, resA, cst, mkE, Tr.get_set, reduceIte, Nat.reduceEqDiff, Nat.reduceAdd] <;> rfl) ?_
            rfl

theorem con_forgers : Con Try.prog 5 c_forgers := con_flat Try.func5 rfl fun us cs v new h => by
  unfold spec_forgers at h
  split at h
  case h_2 => cases h
  rename_i s_l bits c_l
  split at h
  case isFalse => cases h
  rename_i hc
  try simp only [Bool.and_eq_true] at hc
  obtain ⟨⟨q_l, r_l⟩, hok⟩ := hc
  cases h
  have e_l := ints_unints r_l
  have hs_l := slOk_sl (n := (unints c_l).length) q_l (by decide) (by rw [← ints_len, e_l, Nat.mul_one])
  have key := forgers_m hs_l hok
  have hrows : [ints (unints c_l)] = [c_l] := by rw [e_l]
  rw [← hrows]
  exact key
theorem forgers_c {H : AH} {s_l : Value} {l : List Int} {bits : Int} (hr_l : Rd H 1 s_l l.length (ints l)) (hok : ok_forgers l bits = true) : c_forgers [s_l, .int .i64 bits] H = some (.bool true, H) := by
  obtain ⟨u_l, a_l, b_l⟩ := hr_l 0
  exact flatC_at (v := val_forgers l bits) (new := new_forgers l bits) (cl_sl a_l (cl_fr rfl cl_nil)) (by simp only [spec_forgers, sl_slOk b_l (by rw [ints_len, Nat.mul_one]), isInts_ints, unints_ints, hok, Bool.and_self, if_true]) (rfl) gFre

end Go.Proofs.Ytohhcnehcjpekaa
