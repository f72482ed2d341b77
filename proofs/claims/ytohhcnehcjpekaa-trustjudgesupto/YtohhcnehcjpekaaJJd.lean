/-
  Contracts: the forgers.
-/
import Derived.Test.YtohhcnehcjpekaaJMk
namespace Go.Proofs.Ytohhcnehcjpekaa
open Go.AM
set_option maxRecDepth 100000
set_option maxHeartbeats 1000000
set_option linter.unusedSimpArgs false
set_option linter.unusedVariables false
def ok_judge33 (L : List (List Value)) (R : List (List Value)) : Bool := decide (L.length ≤ 1000)
def val_judge33 (L : List (List Value)) (R : List (List Value)) : Value := .tuple ⟨[.agg ⟨[outV 2 1 (judgeW L R).length, outV 3 1 (judgeA L R).length]⟩, .int .i64 (judgeE L R)]⟩
def new_judge33 (L : List (List Value)) (R : List (List Value)) : List (List Value) := outN (judgeW L R).length (ints (judgeW L R)) ++ outN (judgeA L R).length (ints (judgeA L R))
def spec_judge33 : Go.AM.Spec := fun us cs => match us, cs with
 | [s_L, s_R], [c_L, c_R] => if slOk 0 46 c_L s_L && isRows T.K43 c_L && slOk 1 22 c_R s_R && isRows T.K41 c_R && ok_judge33 (chunks 46 c_L) (chunks 22 c_R) then some (val_judge33 (chunks 46 c_L) (chunks 22 c_R), new_judge33 (chunks 46 c_L) (chunks 22 c_R)) else none
 | _, _ => none
def c_judge33 := flatC [.sl 46, .sl 22] spec_judge33
theorem judge33_m {s_L : Value} {s_R : Value} {L : List (List Value)} {R : List (List Value)} (hs_L : Sl 0 46 L.length s_L) (h_L : cfs T.K43 L) (hs_R : Sl 1 22 R.length s_R) (h_R : cfs T.K41 R) (hok : ok_judge33 L R = true) : Meets Try.prog (.func 24) [s_L, s_R] (cheap [L.flatten, R.flatten]) (val_judge33 L R) (rheap [L.flatten, R.flatten] (new_judge33 L R)) := by
 have hP := Fits
 have hC : CallSound Try.prog (tabOf [(42, c_possible), (32, c_in)]) := tab_sound (tab_cons con_possible (tab_cons con_in tab_end))
 simp only [ok_judge33, Bool.and_eq_true, decide_eq_true_eq] at hok
 have hb := hok
 refine meets_start (sz := 108) hP Try.func24 rfl rfl zo (by simp only [Tr.ofList, roRows, Nat.zero_add, Nat.reduceAdd] <;> rfl) zl ?_
 refine k_seq ?_
 refine k_region hP hC ?_
 refine os (y_alloc rfl T.z59 rfl rfl) ?_
 refine os (x_assign rfl (by rfl)) ?_
 refine o_done ?_
 refine e_seq ?_
 refine k_seq ?_
 refine k_seq ?_
 refine k_region hP hC ?_
 refine os (x_move rfl zt) ?_
 refine os (x_lenS hs_R rfl rfl zv rfl Try.underlying24) ?_
 refine os (x_move rfl zt) ?_
 refine os (x_lenS hs_L rfl rfl zv rfl Try.underlying23) ?_
 refine os (x_bin rfl zt zt b_neq) ?_
 refine os (x_move rfl zt) ?_
 refine o_guard rfl rfl zh (fun g2 => ?_) (fun g2 => ?_)
 ·have p2 := g2; try simp only [d1, d2, d3, d4, d5, d6, d7, d8, d9] at p2
  refine o_skip (wA_off rfl rfl zg) rfl zd ?_
  refine o_skip (wA_off rfl rfl zg) rfl zd ?_
  refine o_skip (wA_off rfl rfl zg) rfl zd ?_
  refine os (x_pick rfl zg zb) ?_
  refine o_done ?_
  refine e_seq ?_
  refine k_condT zg ?_
  refine k_seq ?_
  refine k_region hP hC ?_
  refine os (x_build (v := .agg ⟨[.slice none 0 0, .slice none 0 0]⟩) rfl zp T.z59 rfl zr) ?_
  refine o_stepN (wA_none rfl) rfl (y_storeA rfl zt zt T.s59 rfl zh rfl rfl rfl) ?_
  refine os (x_assign rfl (by rfl)) ?_
  refine o_done ?_
  refine e_seq ?_
  refine k_ret ?_
  refine e_seq_ret ?_
  have hE : judgeE L R = 1 := judgeE_1 (by first | exact .inl zs | exact .inr zs | exact .inr (poss_no zs))
  unfold val_judge33 new_judge33 judgeW judgeA
  rw [hE]
  simp only [Int.reduceEq, if_false, reduceIte]
  refine gives_mk2 (L := [0, 1]) (w := 2) (.inr rfl) zr (resA_cell zh T.g59 T.s59 (l_all (whole_row zh rfl) rfl) (resA_tmp zh resA_nil)) ?_ (gcH_cons (gcO_old (by rfl) zh) (gcH_cons (gcO_old (by rfl) zh) gcH_nil)) zr
  exact gcV_tup2 (gcV_agg2 (gcV_free rfl) (gcV_free rfl) zd) (gcV_free rfl)
 ·have p2 := g2; try simp only [d1, d2, d3, d4, d5, d6, d7, d8, d9] at p2
  refine o_step (wA_on rfl rfl zg) rfl (x_move rfl zt) zd ?_
  refine o_call0 (wA_on rfl rfl zg) rfl rfl rfl zv zd ?_
  refine ⟨_, _, (tab_hit.trans (possible_c (rd_sl hs_L zd (whole_row zh rfl) (cfs_len h_L).symm (cfs_free0 h_L)) h_L (by rw [ok_possible, decide_eq_true ow]))), ?_⟩
  refine o_step (wA_on rfl rfl zg) rfl (x_not rfl zg) zd ?_
  refine os (x_pick rfl zg zb) ?_
  refine o_done ?_
  refine e_seq ?_
  refine k_cond (by simp only [Tr.get_set, reduceIte, Nat.reduceEqDiff, Nat.reduceAdd, ev_tmp, g2] <;> rfl) (fun g5 => ?_) (fun g5 => ?_)
  ·have p5 := g5; try simp only [d1, d2, d3, d4, d5, d6, d7, d8, d9] at p5
   refine k_seq ?_
   refine k_region hP hC ?_
   refine os (x_build (v := .agg ⟨[.slice none 0 0, .slice none 0 0]⟩) rfl zp T.z59 rfl zr) ?_
   refine o_stepN (wA_none rfl) rfl (y_storeA rfl zt zt T.s59 rfl zh rfl rfl rfl) ?_
   refine os (x_assign rfl (by rfl)) ?_
   refine o_done ?_
   refine e_seq ?_
   refine k_ret ?_
   refine e_seq_ret ?_
   have hE : judgeE L R = 1 := judgeE_1 (by first | exact .inl zs | exact .inr zs | exact .inr (poss_no zs))
   unfold val_judge33 new_judge33 judgeW judgeA
   rw [hE]
   simp only [Int.reduceEq, if_false, reduceIte]
   refine gives_mk2 (L := [0, 1]) (w := 2) (.inr rfl) zr (resA_cell zh T.g59 T.s59 (l_all (whole_row zh rfl) rfl) (resA_tmp zh resA_nil)) ?_ (gcH_cons (gcO_old (by rfl) zh) (gcH_cons (gcO_old (by rfl) zh) gcH_nil)) zr
   exact gcV_tup2 (gcV_agg2 (gcV_free rfl) (gcV_free rfl) zd) (gcV_free rfl)
  ·have p5 := g5; try simp only [d1, d2, d3, d4, d5, d6, d7, d8, d9] at p5
   refine k_skip ?_
   refine e_seq ?_
   refine k_seq ?_
   refine k_seq ?_
   refine k_region hP hC ?_
   refine os (x_assign rfl (by rfl)) ?_
   refine o_done ?_
   refine e_seq ?_
   refine k_block ?_
   refine k_loop (α := Int) (fun i => cst 108 [0, 1, 4, 6] [s_L, s_R, .pointer (some ⟨2, 0, none⟩), .int .i64 i] [.row L.flatten 0 BIG true L.flatten.length, .row R.flatten 1 BIG true R.flatten.length, .row [.slice none 0 0, .slice none 0 0] 2 BIG false 2] 2) (fun i => 0 ≤ i ∧ i ≤ L.length ∧ ∀ a b : Int, 0 ≤ a → a < b → b < L.length → a < i → badR L R a b = false) (fun i => (L.length - i).toNat) 0 (to_mk (L := [0, 1, 2]) (slots := [0, 1, 4, 6]) (w := 2) zr (gcVs_cons zh (gcV_sl hs_L rfl) (gcVs_cons zh (gcV_sl hs_R rfl) (gcVs_cons zh (gcV_ptr rfl) (gcVs_cons zh (gcV_free rfl) gcVs_nil)))) (gcH_cons (gcO_old (by rfl) zh) (gcH_cons (gcO_old (by rfl) zh) (gcH_cons (gcO_rowE (by rfl) zh (gcD_free rfl) rfl) gcH_nil))) zr) ⟨by omega, by omega, fun a b h1 h2 h3 h4 => by omega⟩ ?_
   rintro i ⟨h0, h1, h2⟩
   refine k_cst zm zo zl ?_
   refine k_seq ?_
   refine k_seq ?_
   refine k_region hP hC ?_
   refine os (x_move rfl zt) ?_
   refine os (x_move rfl zt) ?_
   refine os (x_lenS hs_L rfl rfl zv rfl Try.underlying23) ?_
   refine os (x_bin rfl zt zt b_lss) ?_
   refine o_done ?_
   refine e_seq ?_
   refine k_cond zt (fun g7 => ?_) (fun g7 => ?_)
   ·have p7 := g7; try simp only [d1, d2, d3, d4, d5, d6, d7, d8, d9] at p7
    refine k_skip ?_
    refine e_seq ?_
    refine k_seq ?_
    refine k_block ?_
    refine k_seq ?_
    refine k_region hP hC ?_
    refine os (x_move rfl zt) ?_
    refine os (x_bin rfl zt (by rfl) b_add) ?_
    refine os (x_assign rfl zt) ?_
    refine o_done ?_
    refine e_seq ?_
    refine k_block ?_
    refine k_loop (α := Int) (fun k => cst 108 [0, 1, 4, 6, 7] [s_L, s_R, .pointer (some ⟨2, 0, none⟩), .int .i64 i, .int .i64 k] [.row L.flatten 0 BIG true L.flatten.length, .row R.flatten 1 BIG true R.flatten.length, .row [.slice none 0 0, .slice none 0 0] 2 BIG false 2] 2) (fun k => i < k ∧ k ≤ L.length ∧ ∀ b : Int, i < b → b < k → badR L R i b = false) (fun k => (L.length - k).toNat) (IntKind.i64.wrap (i + 1)) (to_mk (L := [0, 1, 2]) (slots := [0, 1, 4, 6, 7]) (w := 2) zr (gcVs_cons zh (gcV_sl hs_L rfl) (gcVs_cons zh (gcV_sl hs_R rfl) (gcVs_cons zh (gcV_ptr rfl) (gcVs_cons zh (gcV_free rfl) (gcVs_cons zh (gcV_free rfl) gcVs_nil))))) (gcH_cons (gcO_old (by rfl) zh) (gcH_cons (gcO_old (by rfl) zh) (gcH_cons (gcO_rowE (by rfl) zh (gcD_free rfl) rfl) gcH_nil))) zr) (by rw [wr1 ow ow]; exact ⟨by omega, by omega, fun b h1 h2 => by omega⟩) ?_
    rintro k ⟨h3, h4, h5⟩
    refine k_cst zm zo zl ?_
    refine k_seq ?_
    refine k_seq ?_
    refine k_region hP hC ?_
    refine os (x_move rfl zt) ?_
    refine os (x_move rfl zt) ?_
    refine os (x_lenS hs_L rfl rfl zv rfl Try.underlying23) ?_
    refine os (x_bin rfl zt zt b_lss) ?_
    refine o_done ?_
    refine e_seq ?_
    refine k_cond zt (fun g9 => ?_) (fun g9 => ?_)
    ·have p9 := g9; try simp only [d1, d2, d3, d4, d5, d6, d7, d8, d9] at p9
     refine k_skip ?_
     refine e_seq ?_
     refine k_seq ?_
     refine k_block ?_
     refine k_seq ?_
     refine k_draw hP hC zr ?_
     refine ds (x_move rfl zt) ?_
     refine ds (x_move rfl zt) ?_
     refine ds (x_indexS hs_L rfl zt zt Try.underlying23 T.s43 ow ow) ?_
     refine ds (x_fieldK (a := 2) rfl zt Try.underlying43 rfl T.s37 rfl) ?_
     refine ds (x_loadA rfl zt T.g37 T.s37 (l_part (a := 2) (K := 46) (whole_row zh rfl) zs rfl ow ow zd)) ?_
     refine ds (x_move rfl zt) ?_
     refine ds (x_move rfl zt) ?_
     refine ds (x_indexS hs_L rfl zt zt Try.underlying23 T.s43 ow ow) ?_
     refine ds (x_fieldK (a := 2) rfl zt Try.underlying43 rfl T.s37 rfl) ?_
     refine ds (x_loadA rfl zt T.g37 T.s37 (l_part (a := 2) (K := 46) (whole_row zh rfl) zs rfl ow ow zd)) ?_
     refine ds (x_bin rfl zt zt (b_eqlA zd T.f37 T.g37 T.q37 zc zc)) ?_
     refine ds (x_move rfl zt) ?_
     refine d_guard rfl rfl zh (fun g11 => ?_) (fun g11 => ?_)
     ·have p11 := g11; try simp only [d1, d2, d3, d4, d5, d6, d7, d8, d9] at p11
      refine d_step (wA_on rfl rfl zg) rfl (x_move rfl zt) zd ?_
      refine d_step (wA_on rfl rfl zg) rfl (x_move rfl zt) zd ?_
      refine d_step (wA_on rfl rfl zg) rfl (x_indexS hs_R rfl zt zt Try.underlying24 T.s41 ow ow) zd ?_
      refine d_step (wA_on rfl rfl zg) rfl (x_loadA rfl zt T.g41 T.s41 (l_elem (whole_row zh rfl) zs rfl ow ow)) zd ?_
      refine d_step (wA_on rfl rfl zg) rfl (x_move rfl zt) zd ?_
      refine d_step (wA_on rfl rfl zg) rfl (x_move rfl zt) zd ?_
      refine d_step (wA_on rfl rfl zg) rfl (x_indexS hs_R rfl zt zt Try.underlying24 T.s41 ow ow) zd ?_
      refine d_step (wA_on rfl rfl zg) rfl (x_loadA rfl zt T.g41 T.s41 (l_elem (whole_row zh rfl) zs rfl ow ow)) zd ?_
      refine d_step (wA_on rfl rfl zg) rfl (x_bin rfl zt zt (b_neqA zd T.f41 T.g41 T.q41 zc zc)) zd ?_
      refine ds (x_pick rfl zg zb) ?_
      refine d_done ⟨by kernel_rfl, ?_⟩
      refine e_seq ?_
      refine k_cond (by simp only [Tr.get_set, reduceIte, Nat.reduceEqDiff, Nat.reduceAdd, ev_tmp, g9, g11] <;> rfl) (fun g13 => ?_) (fun g13 => ?_)
      ·have p13 := g13; try simp only [d1, d2, d3, d4, d5, d6, d7, d8, d9] at p13
       refine k_seq ?_
       refine k_region hP hC ?_
       refine os (x_build (v := .agg ⟨[.slice none 0 0, .slice none 0 0]⟩) rfl zp T.z59 rfl zr) ?_
       refine o_stepN (wA_none rfl) rfl (y_storeA rfl zt zt T.s59 rfl zh rfl rfl rfl) ?_
       refine os (x_assign rfl (by rfl)) ?_
       refine o_done ?_
       refine e_seq ?_
       refine k_ret ?_
       refine e_block_ret ?_
       refine e_seq_ret ?_
       refine e_loop_ret ?_
       refine e_block_ret ?_
       refine e_block_ret ?_
       refine e_seq_ret ?_
       refine e_loop_ret ?_
       refine e_block_ret ?_
       refine e_seq_ret ?_
       have hE : judgeE L R = 14 := judgeE_14 zs (by first | assumption | exact poss_yes zs) (clashR_yes h0 h3 ow (badR_yes zs zs))
       unfold val_judge33 new_judge33 judgeW judgeA
       rw [hE]
       simp only [Int.reduceEq, if_false, reduceIte]
       refine gives_mk2 (L := [0, 1]) (w := 2) (.inr rfl) zr (resA_cell zh T.g59 T.s59 (l_all (whole_row zh rfl) rfl) (resA_tmp zh resA_nil)) ?_ (gcH_cons (gcO_old (by rfl) zh) (gcH_cons (gcO_old (by rfl) zh) gcH_nil)) zr
       exact gcV_tup2 (gcV_agg2 (gcV_free rfl) (gcV_free rfl) zd) (gcV_free rfl)
      ·have p13 := g13; try simp only [d1, d2, d3, d4, d5, d6, d7, d8, d9] at p13
       refine k_skip ?_
       refine e_block ?_
       refine e_seq ?_
       refine k_region hP hC ?_
       refine os (x_move rfl zt) ?_
       refine os (x_bin rfl zt (by rfl) b_add) ?_
       refine os (x_assign rfl zt) ?_
       refine o_done ?_
       refine e_loop ?_
       refine ⟨IntKind.i64.wrap (k + 1), (to_mk (L := [0, 1, 2]) (slots := [0, 1, 4, 6, 7]) (w := 2) zr (gcVs_cons zh (gcV_sl hs_L rfl) (gcVs_cons zh (gcV_sl hs_R rfl) (gcVs_cons zh (gcV_ptr rfl) (gcVs_cons zh (gcV_free rfl) (gcVs_cons zh (gcV_free rfl) gcVs_nil))))) (gcH_cons (gcO_old (by rfl) zh) (gcH_cons (gcO_old (by rfl) zh) (gcH_cons (gcO_rowE (by rfl) zh (gcD_free rfl) rfl) gcH_nil))) zr), ?_, ?_⟩
       ·rw [wr1 ow ow]; exact ⟨by omega, by omega, bad_step h5 (by first | exact badR_no1 zs | exact badR_no2 zs)⟩
       ·rw [wr1 ow ow]; omega
     ·have p11 := g11; try simp only [d1, d2, d3, d4, d5, d6, d7, d8, d9] at p11
      refine d_skip (wA_off rfl rfl zg) rfl zd ?_
      refine d_skip (wA_off rfl rfl zg) rfl zd ?_
      refine d_skip (wA_off rfl rfl zg) rfl zd ?_
      refine d_skip (wA_off rfl rfl zg) rfl zd ?_
      refine d_skip (wA_off rfl rfl zg) rfl zd ?_
      refine d_skip (wA_off rfl rfl zg) rfl zd ?_
      refine d_skip (wA_off rfl rfl zg) rfl zd ?_
      refine d_skip (wA_off rfl rfl zg) rfl zd ?_
      refine d_skip (wA_off rfl rfl zg) rfl zd ?_
      refine ds (x_pick rfl zg zb) ?_
      refine d_done ⟨by kernel_rfl, ?_⟩
      refine e_seq ?_
      refine k_condF zg ?_
      refine k_skip ?_
      refine e_block ?_
      refine e_seq ?_
      refine k_region hP hC ?_
      refine os (x_move rfl zt) ?_
      refine os (x_bin rfl zt (by rfl) b_add) ?_
      refine os (x_assign rfl zt) ?_
      refine o_done ?_
      refine e_loop ?_
      refine ⟨IntKind.i64.wrap (k + 1), (to_mk (L := [0, 1, 2]) (slots := [0, 1, 4, 6, 7]) (w := 2) zr (gcVs_cons zh (gcV_sl hs_L rfl) (gcVs_cons zh (gcV_sl hs_R rfl) (gcVs_cons zh (gcV_ptr rfl) (gcVs_cons zh (gcV_free rfl) (gcVs_cons zh (gcV_free rfl) gcVs_nil))))) (gcH_cons (gcO_old (by rfl) zh) (gcH_cons (gcO_old (by rfl) zh) (gcH_cons (gcO_rowE (by rfl) zh (gcD_free rfl) rfl) gcH_nil))) zr), ?_, ?_⟩
      ·rw [wr1 ow ow]; exact ⟨by omega, by omega, bad_step h5 (by first | exact badR_no1 zs | exact badR_no2 zs)⟩
      ·rw [wr1 ow ow]; omega
    ·have p9 := g9; try simp only [d1, d2, d3, d4, d5, d6, d7, d8, d9] at p9
     refine k_exit ?_
     refine e_seq_exit ?_
     refine e_loop_exit ?_
     refine e_block_eq ?_
     refine e_block ?_
     refine e_seq ?_
     refine k_region hP hC ?_
     refine os (x_move rfl zt) ?_
     refine os (x_bin rfl zt (by rfl) b_add) ?_
     refine os (x_assign rfl zt) ?_
     refine o_done ?_
     refine e_loop ?_
     refine ⟨IntKind.i64.wrap (i + 1), (to_mk (L := [0, 1, 2]) (slots := [0, 1, 4, 6]) (w := 2) zr (gcVs_cons zh (gcV_sl hs_L rfl) (gcVs_cons zh (gcV_sl hs_R rfl) (gcVs_cons zh (gcV_ptr rfl) (gcVs_cons zh (gcV_free rfl) gcVs_nil)))) (gcH_cons (gcO_old (by rfl) zh) (gcH_cons (gcO_old (by rfl) zh) (gcH_cons (gcO_rowE (by rfl) zh (gcD_free rfl) rfl) gcH_nil))) zr), ?_, ?_⟩
     ·rw [wr1 ow ow]; exact ⟨by omega, by omega, bad_next h2 (fun b hb1 hb2 => h5 b hb1 ow)⟩
     ·rw [wr1 ow ow]; omega
   ·have p7 := g7; try simp only [d1, d2, d3, d4, d5, d6, d7, d8, d9] at p7
    refine k_exit ?_
    refine e_seq_exit ?_
    refine e_loop_exit ?_
    refine e_block_eq ?_
    refine e_seq ?_
    refine k_seq ?_
    refine k_region hP hC ?_
    refine os (y_alloc rfl T.z59 rfl rfl) ?_
    refine o_done ?_
    refine e_seq ?_
    refine k_seq ?_
    refine k_seq ?_
    refine k_region hP hC ?_
    refine os (x_assign rfl (by rfl)) ?_
    refine o_done ?_
    refine e_seq ?_
    refine k_block ?_
    have hnc : clashR L R = false := clashR_no fun a b ha hab hbn => h2 a b ha hab hbn ow
    clear h2
    refine k_loop (α := Bool × Int × List Int × List Int) (fun z => match z with | (false, w, accW, accA) => cst 108 [0, 1, 4, 8, 9] [s_L, s_R, .pointer (some ⟨2, 0, none⟩), .pointer (some ⟨3, 0, none⟩), .int .i64 w] [.row L.flatten 0 BIG true L.flatten.length, .row R.flatten 1 BIG true R.flatten.length, .row [.slice none 0 0, .slice none 0 0] 2 BIG false 2, .row [.slice none 0 0, .slice none 0 0] 3 BIG false 2] 2 | (true, w, accW, accA) => cst 108 [0, 1, 4, 8, 9] [s_L, s_R, .pointer (some ⟨2, 0, none⟩), .pointer (some ⟨3, 0, none⟩), .int .i64 w] [.row L.flatten 0 BIG true L.flatten.length, .row R.flatten 1 BIG true R.flatten.length, .row [.slice none 0 0, .slice none 0 0] 2 BIG false 2, .row [.slice (some ⟨4, 0, none⟩) accW.length (accW.length + 1), .slice (some ⟨5, 0, none⟩) accA.length (accA.length + 1)] 3 BIG false 2, .row (ints accW) 4 BIG false (ints accW).length, .row (ints accA) 5 BIG false (ints accA).length] 2) (fun z => match z with | (b, w, accW, accA) => 0 ≤ w ∧ w ≤ 6 ∧ (accW, accA) = jOut L R w ∧ accW.isEmpty = !b ∧ accA.isEmpty = !b) (fun z => match z with | (_, w, _, _) => (6 - w).toNat) (false, 0, [], []) (to_mk (L := [0, 1, 2, 3]) (slots := [0, 1, 4, 8, 9]) (w := 2) zr (gcVs_cons zh (gcV_sl hs_L rfl) (gcVs_cons zh (gcV_sl hs_R rfl) (gcVs_cons zh (gcV_ptr rfl) (gcVs_cons zh (gcV_ptr rfl) (gcVs_cons zh (gcV_free rfl) gcVs_nil))))) (gcH_cons (gcO_old (by rfl) zh) (gcH_cons (gcO_old (by rfl) zh) (gcH_cons (gcO_rowE (by rfl) zh (gcD_free rfl) rfl) (gcH_cons (gcO_rowE (by rfl) zh (gcD_free rfl) rfl) gcH_nil)))) zr) ⟨by omega, by omega, rfl, rfl, rfl⟩ ?_
    rintro ⟨_ | _, w, accW, accA⟩ ⟨hw0, hw6, h2, hbW, hbA⟩
    ·skip
     have haW : accW = [] := List.isEmpty_iff.1 hbW
     have haA : accA = [] := List.isEmpty_iff.1 hbA
     refine k_cst zm zo zl ?_
     refine k_seq ?_
     refine k_seq ?_
     refine k_region hP hC ?_
     refine os (x_move rfl zt) ?_
     refine os (x_bin rfl zt (by rfl) b_lss) ?_
     refine o_done ?_
     refine e_seq ?_
     refine k_cond zt (fun g15 => ?_) (fun g15 => ?_)
     ·have p15 := g15; try simp only [d1, d2, d3, d4, d5, d6, d7, d8, d9] at p15
      refine k_skip ?_
      refine e_seq ?_
      refine k_seq ?_
      refine k_block ?_
      refine k_seq ?_
      refine k_region hP hC ?_
      refine os (x_assign rfl (by rfl)) ?_
      refine o_done ?_
      refine e_seq ?_
      refine k_block ?_
      refine k_loop (α := Bool × Int × List Int × List Int) (fun z => match z with | (false, i, accW, accA) => cst 108 [0, 1, 4, 8, 9, 10] [s_L, s_R, .pointer (some ⟨2, 0, none⟩), .pointer (some ⟨3, 0, none⟩), .int .i64 w, .int .i64 i] [.row L.flatten 0 BIG true L.flatten.length, .row R.flatten 1 BIG true R.flatten.length, .row [.slice none 0 0, .slice none 0 0] 2 BIG false 2, .row [.slice none 0 0, .slice none 0 0] 3 BIG false 2] 2 | (true, i, accW, accA) => cst 108 [0, 1, 4, 8, 9, 10] [s_L, s_R, .pointer (some ⟨2, 0, none⟩), .pointer (some ⟨3, 0, none⟩), .int .i64 w, .int .i64 i] [.row L.flatten 0 BIG true L.flatten.length, .row R.flatten 1 BIG true R.flatten.length, .row [.slice none 0 0, .slice none 0 0] 2 BIG false 2, .row [.slice (some ⟨4, 0, none⟩) accW.length (accW.length + 1), .slice (some ⟨5, 0, none⟩) accA.length (accA.length + 1)] 3 BIG false 2, .row (ints accW) 4 BIG false (ints accW).length, .row (ints accA) 5 BIG false (ints accA).length] 2) (fun z => match z with | (b, i, accW, accA) => 0 ≤ i ∧ i ≤ L.length ∧ (accW, accA) = jIn L R w (jOut L R w) i ∧ accW.isEmpty = !b ∧ accA.isEmpty = !b) (fun z => match z with | (_, i, _, _) => (L.length - i).toNat) (false, 0, accW, accA) (to_mk (L := [0, 1, 2, 3]) (slots := [0, 1, 4, 8, 9, 10]) (w := 2) zr (gcVs_cons zh (gcV_sl hs_L rfl) (gcVs_cons zh (gcV_sl hs_R rfl) (gcVs_cons zh (gcV_ptr rfl) (gcVs_cons zh (gcV_ptr rfl) (gcVs_cons zh (gcV_free rfl) (gcVs_cons zh (gcV_free rfl) gcVs_nil)))))) (gcH_cons (gcO_old (by rfl) zh) (gcH_cons (gcO_old (by rfl) zh) (gcH_cons (gcO_rowE (by rfl) zh (gcD_free rfl) rfl) (gcH_cons (gcO_rowE (by rfl) zh (gcD_free rfl) rfl) gcH_nil)))) zr) ⟨by omega, by omega, h2, hbW, hbA⟩ ?_
      clear h2 hbW hbA
      clear haW haA
      rintro ⟨_ | _, i, accW, accA⟩ ⟨h0, h1, h2, hbW, hbA⟩
      ·skip
       have haW : accW = [] := List.isEmpty_iff.1 hbW
       have haA : accA = [] := List.isEmpty_iff.1 hbA
       refine k_cst zm zo zl ?_
       refine k_seq ?_
       refine k_seq ?_
       refine k_region hP hC ?_
       refine os (x_move rfl zt) ?_
       refine os (x_move rfl zt) ?_
       refine os (x_lenS hs_L rfl rfl zv rfl Try.underlying23) ?_
       refine os (x_bin rfl zt zt b_lss) ?_
       refine o_done ?_
       refine e_seq ?_
       refine k_cond zt (fun g17 => ?_) (fun g17 => ?_)
       ·have p17 := g17; try simp only [d1, d2, d3, d4, d5, d6, d7, d8, d9] at p17
        refine k_skip ?_
        refine e_seq ?_
        refine k_seq ?_
        refine k_block ?_
        refine k_seq ?_
        refine k_draw hP hC zr ?_
        refine ds (x_move rfl zt) ?_
        refine ds (x_move rfl zt) ?_
        refine ds (x_indexS hs_L rfl zt zt Try.underlying23 T.s43 ow ow) ?_
        refine ds (x_field0 rfl zt Try.underlying43 rfl T.s3 rfl) ?_
        refine ds (x_load1 rfl zt T.g3 (l_partI0 (K := 46) (whole_row zh rfl) zs rfl ow ow rfl)) ?_
        refine ds (x_move rfl zt) ?_
        refine ds (x_bin rfl zt zt b_eql) ?_
        refine ds (x_move rfl zt) ?_
        refine d_guard rfl rfl zh (fun g19 => ?_) (fun g19 => ?_)
        ·have p19 := g19; try simp only [d1, d2, d3, d4, d5, d6, d7, d8, d9] at p19
         refine d_step (wA_on rfl rfl zg) rfl (x_move rfl zt) zd ?_
         refine d_step (wA_on rfl rfl zg) rfl (x_move rfl zt) zd ?_
         refine d_step (wA_on rfl rfl zg) rfl (x_indexS hs_L rfl zt zt Try.underlying23 T.s43 ow ow) zd ?_
         refine d_step (wA_on rfl rfl zg) rfl (x_fieldK (a := 23) rfl zt Try.underlying43 rfl T.s41 rfl) zd ?_
         refine d_step (wA_on rfl rfl zg) rfl (x_loadA rfl zt T.g41 T.s41 (l_part (a := 23) (K := 46) (whole_row zh rfl) zs rfl ow ow zd)) zd ?_
         refine d_step (wA_on rfl rfl zg) rfl (x_move rfl zt) zd ?_
         refine d_step (wA_on rfl rfl zg) rfl (x_move rfl zt) zd ?_
         refine d_step (wA_on rfl rfl zg) rfl (x_indexS hs_R rfl zt zt Try.underlying24 T.s41 ow ow) zd ?_
         refine d_step (wA_on rfl rfl zg) rfl (x_loadA rfl zt T.g41 T.s41 (l_elem (whole_row zh rfl) zs rfl ow ow)) zd ?_
         refine d_step (wA_on rfl rfl zg) rfl (x_bin rfl zt zt (b_neqA zd T.f41 T.g41 T.q41 zc zc)) zd ?_
         refine ds (x_pick rfl zg zb) ?_
         refine ds (x_move rfl zt) ?_
         refine d_guard rfl rfl zh (fun g21 => ?_) (fun g21 => ?_)
         ·have p21 := g21; try simp only [d1, d2, d3, d4, d5, d6, d7, d8, d9] at p21
          refine d_step (wA_on rfl rfl zg) rfl (x_field (off' := 0) rfl zt Try.underlying59 rfl T.s22 rfl) zd ?_
          refine d_step (wA_on rfl rfl zg) rfl (x_load1' rfl zt T.g22 zh rfl (Nat.le_of_ble_eq_true rfl) (by simp only [List.take_succ_cons, List.drop_succ_cons, List.take_zero, List.drop_zero, List.take_nil, List.drop_nil, List.cons_append, List.nil_append, List.append_nil, List.length_cons, List.length_nil, Nat.reduceAdd, Int.toNat_zero, Nat.zero_mul, Nat.add_zero, Nat.zero_add] <;> rfl)) zd ?_
          refine d_step (wA_on rfl rfl zg) rfl (x_move rfl zt) zd ?_
          refine d_call0 (wA_on rfl rfl zg) rfl rfl rfl zv zd ?_
          refine ⟨_, _, _, _, ((tab_miss zd).trans (tab_hit.trans (in_c (l := []) rd_nil rfl))), ?_⟩
          refine d_step (wA_on rfl rfl zg) rfl (x_not rfl zg) zd ?_
          refine ds (x_pick rfl zg zb) ?_
          refine d_done ⟨by kernel_rfl, ?_⟩
          refine e_seq ?_
          refine k_cond (by simp only [Tr.get_set, reduceIte, Nat.reduceEqDiff, Nat.reduceAdd, ev_tmp, g17, g19, g21] <;> rfl) (fun g24 => ?_) (fun g24 => ?_)
          ·have p24 := g24; try simp only [d1, d2, d3, d4, d5, d6, d7, d8, d9] at p24
           refine k_seq ?_
           refine k_region hP hC ?_
           refine os (x_field (off' := 0) rfl zt Try.underlying59 rfl T.s22 rfl) ?_
           refine os (x_load1' rfl zt T.g22 zh rfl (Nat.le_of_ble_eq_true rfl) (by simp only [List.take_succ_cons, List.drop_succ_cons, List.take_zero, List.drop_zero, List.take_nil, List.drop_nil, List.cons_append, List.nil_append, List.append_nil, List.length_cons, List.length_nil, Nat.reduceAdd, Int.toNat_zero, Nat.zero_mul, Nat.add_zero, Nat.zero_add] <;> rfl)) ?_
           refine os (x_move rfl zt) ?_
           refine os (y_bsliceV rfl zt rfl Try.underlying22 T.s3 T.z3 rfl rfl) ?_
           refine os (x_append rfl rfl zv rfl rfl zr (cells_row Try.underlying22 T.s3 (l_all (whole_row zh rfl) rfl)) (ya_nil Try.underlying22 T.i22 zd rfl zd zd rfl zd)) ?_
           refine os (x_field (off' := 0) rfl zt Try.underlying59 rfl T.s22 rfl) ?_
           refine o_stepN (wA_none rfl) rfl (y_store1P rfl zt zt rfl T.s22 zh rfl (Nat.le_of_ble_eq_true rfl) rfl (by simp only [splice, List.take_succ_cons, List.drop_succ_cons, List.take_zero, List.drop_zero, List.take_nil, List.drop_nil, List.cons_append, List.nil_append, List.append_nil, List.length_cons, List.length_nil, Nat.reduceAdd, Int.toNat_zero, Nat.zero_mul, Nat.add_zero, Nat.zero_add] <;> rfl)) ?_
           refine o_done ?_
           refine e_seq ?_
           refine k_region hP hC ?_
           refine os (x_field (off' := 1) rfl zt Try.underlying59 rfl T.s22 rfl) ?_
           refine os (x_load1' rfl zt T.g22 zh rfl (Nat.le_of_ble_eq_true rfl) (by simp only [List.take_succ_cons, List.drop_succ_cons, List.take_zero, List.drop_zero, List.take_nil, List.drop_nil, List.cons_append, List.nil_append, List.append_nil, List.length_cons, List.length_nil, Nat.reduceAdd, Int.toNat_zero, Nat.zero_mul, Nat.add_zero, Nat.zero_add] <;> rfl)) ?_
           refine os (x_move rfl zt) ?_
           refine os (y_bsliceV rfl zt rfl Try.underlying22 T.s3 T.z3 rfl rfl) ?_
           refine os (x_append rfl rfl zv rfl rfl zr (cells_row Try.underlying22 T.s3 (l_all (whole_row zh rfl) rfl)) (ya_nil Try.underlying22 T.i22 zd rfl zd zd rfl zd)) ?_
           refine os (x_field (off' := 1) rfl zt Try.underlying59 rfl T.s22 rfl) ?_
           refine o_stepN (wA_none rfl) rfl (y_store1P rfl zt zt rfl T.s22 zh rfl (Nat.le_of_ble_eq_true rfl) rfl (by simp only [splice, List.take_succ_cons, List.drop_succ_cons, List.take_zero, List.drop_zero, List.take_nil, List.drop_nil, List.cons_append, List.nil_append, List.append_nil, List.length_cons, List.length_nil, Nat.reduceAdd, Int.toNat_zero, Nat.zero_mul, Nat.add_zero, Nat.zero_add] <;> rfl)) ?_
           refine o_done ?_
           refine e_block ?_
           refine e_seq ?_
           refine k_region hP hC ?_
           refine os (x_move rfl zt) ?_
           refine os (x_bin rfl zt (by rfl) b_add) ?_
           refine os (x_assign rfl zt) ?_
           refine o_done ?_
           refine e_loop ?_
           refine ⟨(true, IntKind.i64.wrap (i + 1), [w], [i]), (to_mk (L := [0, 1, 2, 3, 5, 7]) (slots := [0, 1, 4, 8, 9, 10]) (w := 2) zr (gcVs_cons zh (gcV_sl hs_L rfl) (gcVs_cons zh (gcV_sl hs_R rfl) (gcVs_cons zh (gcV_ptr rfl) (gcVs_cons zh (gcV_ptr rfl) (gcVs_cons zh (gcV_free rfl) (gcVs_cons zh (gcV_free rfl) gcVs_nil)))))) (gcH_cons (gcO_old (by rfl) zh) (gcH_cons (gcO_old (by rfl) zh) (gcH_cons (gcO_rowE (by rfl) zh (gcD_free rfl) rfl) (gcH_cons (gcO_rowE (by rfl) zh (gcD_cons (gcV_sliceE rfl rfl) (gcD_cons (gcV_sliceE rfl rfl) gcD_nil)) rfl) (gcH_cons (gcO_rowE (by rfl) zh (gcD_free rfl) (by simp only [ints_append, ints_one])) (gcH_cons (gcO_rowE (by rfl) zh (gcD_free rfl) (by simp only [ints_append, ints_one])) gcH_nil)))))) zr), ?_, ?_⟩
           ·rw [wr1 ow ow]; refine ⟨by omega, by omega, ?_, ?_, ?_⟩
            ·rw [haW, haA] at h2; exact jIn_hit h0 h2 zs zs (by simp)
            ·simp
            ·simp
           ·show (L.length - IntKind.i64.wrap (i + 1)).toNat < (L.length - i).toNat; rw [wr1 ow ow]; omega
          ·have p24 := g24; try simp only [d1, d2, d3, d4, d5, d6, d7, d8, d9] at p24
           refine k_skip ?_
           refine e_block ?_
           refine e_seq ?_
           refine k_region hP hC ?_
           refine os (x_move rfl zt) ?_
           refine os (x_bin rfl zt (by rfl) b_add) ?_
           refine os (x_assign rfl zt) ?_
           refine o_done ?_
           refine e_loop ?_
           refine ⟨(false, IntKind.i64.wrap (i + 1), accW, accA), (to_mk (L := [0, 1, 2, 3]) (slots := [0, 1, 4, 8, 9, 10]) (w := 2) zr (gcVs_cons zh (gcV_sl hs_L rfl) (gcVs_cons zh (gcV_sl hs_R rfl) (gcVs_cons zh (gcV_ptr rfl) (gcVs_cons zh (gcV_ptr rfl) (gcVs_cons zh (gcV_free rfl) (gcVs_cons zh (gcV_free rfl) gcVs_nil)))))) (gcH_cons (gcO_old (by rfl) zh) (gcH_cons (gcO_old (by rfl) zh) (gcH_cons (gcO_rowE (by rfl) zh (gcD_free rfl) rfl) (gcH_cons (gcO_rowE (by rfl) zh (gcD_free rfl) rfl) gcH_nil)))) zr), ?_, ?_⟩
           ·rw [wr1 ow ow]; refine ⟨by omega, by omega, ?_, ?_, ?_⟩
            ·exact jIn_skip h0 h2 (by first | exact .inl zs | exact .inr (.inl zs) | exact .inr (.inr zs) | exact absurd zs (by simp))
            ·exact hbW
            ·exact hbA
           ·show (L.length - IntKind.i64.wrap (i + 1)).toNat < (L.length - i).toNat; rw [wr1 ow ow]; omega
         ·have p21 := g21; try simp only [d1, d2, d3, d4, d5, d6, d7, d8, d9] at p21
          refine d_skip (wA_off rfl rfl zg) rfl zd ?_
          refine d_skip (wA_off rfl rfl zg) rfl zd ?_
          refine d_skip (wA_off rfl rfl zg) rfl zd ?_
          refine d_skip (wA_off rfl rfl zg) rfl zd ?_
          refine d_skip (wA_off rfl rfl zg) rfl zd ?_
          refine ds (x_pick rfl zg zb) ?_
          refine d_done ⟨by kernel_rfl, ?_⟩
          refine e_seq ?_
          refine k_condF zg ?_
          refine k_skip ?_
          refine e_block ?_
          refine e_seq ?_
          refine k_region hP hC ?_
          refine os (x_move rfl zt) ?_
          refine os (x_bin rfl zt (by rfl) b_add) ?_
          refine os (x_assign rfl zt) ?_
          refine o_done ?_
          refine e_loop ?_
          refine ⟨(false, IntKind.i64.wrap (i + 1), accW, accA), (to_mk (L := [0, 1, 2, 3]) (slots := [0, 1, 4, 8, 9, 10]) (w := 2) zr (gcVs_cons zh (gcV_sl hs_L rfl) (gcVs_cons zh (gcV_sl hs_R rfl) (gcVs_cons zh (gcV_ptr rfl) (gcVs_cons zh (gcV_ptr rfl) (gcVs_cons zh (gcV_free rfl) (gcVs_cons zh (gcV_free rfl) gcVs_nil)))))) (gcH_cons (gcO_old (by rfl) zh) (gcH_cons (gcO_old (by rfl) zh) (gcH_cons (gcO_rowE (by rfl) zh (gcD_free rfl) rfl) (gcH_cons (gcO_rowE (by rfl) zh (gcD_free rfl) rfl) gcH_nil)))) zr), ?_, ?_⟩
          ·rw [wr1 ow ow]; refine ⟨by omega, by omega, ?_, ?_, ?_⟩
           ·exact jIn_skip h0 h2 (by first | exact .inl zs | exact .inr (.inl zs) | exact .inr (.inr zs) | exact absurd zs (by simp))
           ·exact hbW
           ·exact hbA
          ·show (L.length - IntKind.i64.wrap (i + 1)).toNat < (L.length - i).toNat; rw [wr1 ow ow]; omega
        ·have p19 := g19; try simp only [d1, d2, d3, d4, d5, d6, d7, d8, d9] at p19
         refine d_skip (wA_off rfl rfl zg) rfl zd ?_
         refine d_skip (wA_off rfl rfl zg) rfl zd ?_
         refine d_skip (wA_off rfl rfl zg) rfl zd ?_
         refine d_skip (wA_off rfl rfl zg) rfl zd ?_
         refine d_skip (wA_off rfl rfl zg) rfl zd ?_
         refine d_skip (wA_off rfl rfl zg) rfl zd ?_
         refine d_skip (wA_off rfl rfl zg) rfl zd ?_
         refine d_skip (wA_off rfl rfl zg) rfl zd ?_
         refine d_skip (wA_off rfl rfl zg) rfl zd ?_
         refine d_skip (wA_off rfl rfl zg) rfl zd ?_
         refine ds (x_pick rfl zg zb) ?_
         refine ds (x_move rfl zt) ?_
         refine d_skip (wA_off rfl rfl zg) rfl zd ?_
         refine d_skip (wA_off rfl rfl zg) rfl zd ?_
         refine d_skip (wA_off rfl rfl zg) rfl zd ?_
         refine d_skip (wA_off rfl rfl zg) rfl zd ?_
         refine d_skip (wA_off rfl rfl zg) rfl zd ?_
         refine ds (x_pick rfl zg zb) ?_
         refine d_done ⟨by kernel_rfl, ?_⟩
         refine e_seq ?_
         refine k_condF zg ?_
         refine k_skip ?_
         refine e_block ?_
         refine e_seq ?_
         refine k_region hP hC ?_
         refine os (x_move rfl zt) ?_
         refine os (x_bin rfl zt (by rfl) b_add) ?_
         refine os (x_assign rfl zt) ?_
         refine o_done ?_
         refine e_loop ?_
         refine ⟨(false, IntKind.i64.wrap (i + 1), accW, accA), (to_mk (L := [0, 1, 2, 3]) (slots := [0, 1, 4, 8, 9, 10]) (w := 2) zr (gcVs_cons zh (gcV_sl hs_L rfl) (gcVs_cons zh (gcV_sl hs_R rfl) (gcVs_cons zh (gcV_ptr rfl) (gcVs_cons zh (gcV_ptr rfl) (gcVs_cons zh (gcV_free rfl) (gcVs_cons zh (gcV_free rfl) gcVs_nil)))))) (gcH_cons (gcO_old (by rfl) zh) (gcH_cons (gcO_old (by rfl) zh) (gcH_cons (gcO_rowE (by rfl) zh (gcD_free rfl) rfl) (gcH_cons (gcO_rowE (by rfl) zh (gcD_free rfl) rfl) gcH_nil)))) zr), ?_, ?_⟩
         ·rw [wr1 ow ow]; refine ⟨by omega, by omega, ?_, ?_, ?_⟩
          ·exact jIn_skip h0 h2 (by first | exact .inl zs | exact .inr (.inl zs) | exact .inr (.inr zs) | exact absurd zs (by simp))
          ·exact hbW
          ·exact hbA
         ·show (L.length - IntKind.i64.wrap (i + 1)).toNat < (L.length - i).toNat; rw [wr1 ow ow]; omega
       ·have p17 := g17; try simp only [d1, d2, d3, d4, d5, d6, d7, d8, d9] at p17
        refine k_exit ?_
        refine e_seq_exit ?_
        refine e_loop_exit ?_
        refine e_block_eq ?_
        refine e_block ?_
        refine e_seq ?_
        refine k_region hP hC ?_
        refine os (x_move rfl zt) ?_
        refine os (x_bin rfl zt (by rfl) b_add) ?_
        refine os (x_assign rfl zt) ?_
        refine o_done ?_
        refine e_loop ?_
        refine ⟨(false, IntKind.i64.wrap (w + 1), accW, accA), (to_mk (L := [0, 1, 2, 3]) (slots := [0, 1, 4, 8, 9]) (w := 2) zr (gcVs_cons zh (gcV_sl hs_L rfl) (gcVs_cons zh (gcV_sl hs_R rfl) (gcVs_cons zh (gcV_ptr rfl) (gcVs_cons zh (gcV_ptr rfl) (gcVs_cons zh (gcV_free rfl) gcVs_nil))))) (gcH_cons (gcO_old (by rfl) zh) (gcH_cons (gcO_old (by rfl) zh) (gcH_cons (gcO_rowE (by rfl) zh (gcD_free rfl) rfl) (gcH_cons (gcO_rowE (by rfl) zh (gcD_free rfl) rfl) gcH_nil)))) zr), ?_, ?_⟩
        ·rw [wr1 ow ow]; refine ⟨by omega, by omega, ?_, ?_, ?_⟩
         ·rw [jOut_next hw0]; have hkn : i = L.length := by omega
          rw [hkn] at h2; exact h2
         ·exact hbW
         ·exact hbA
        ·show (6 - IntKind.i64.wrap (w + 1)).toNat < (6 - w).toNat; rw [wr1 ow ow]; omega
      ·skip
       have hjl := jlen hw0 ow h0 h1 hb h2
       refine k_cst zm zo zl ?_
       refine k_seq ?_
       refine k_seq ?_
       refine k_region hP hC ?_
       refine os (x_move rfl zt) ?_
       refine os (x_move rfl zt) ?_
       refine os (x_lenS hs_L rfl rfl zv rfl Try.underlying23) ?_
       refine os (x_bin rfl zt zt b_lss) ?_
       refine o_done ?_
       refine e_seq ?_
       refine k_cond zt (fun g26 => ?_) (fun g26 => ?_)
       ·have p26 := g26; try simp only [d1, d2, d3, d4, d5, d6, d7, d8, d9] at p26
        refine k_skip ?_
        refine e_seq ?_
        refine k_seq ?_
        refine k_block ?_
        refine k_seq ?_
        refine k_draw hP hC zr ?_
        refine ds (x_move rfl zt) ?_
        refine ds (x_move rfl zt) ?_
        refine ds (x_indexS hs_L rfl zt zt Try.underlying23 T.s43 ow ow) ?_
        refine ds (x_field0 rfl zt Try.underlying43 rfl T.s3 rfl) ?_
        refine ds (x_load1 rfl zt T.g3 (l_partI0 (K := 46) (whole_row zh rfl) zs rfl ow ow rfl)) ?_
        refine ds (x_move rfl zt) ?_
        refine ds (x_bin rfl zt zt b_eql) ?_
        refine ds (x_move rfl zt) ?_
        refine d_guard rfl rfl zh (fun g28 => ?_) (fun g28 => ?_)
        ·have p28 := g28; try simp only [d1, d2, d3, d4, d5, d6, d7, d8, d9] at p28
         refine d_step (wA_on rfl rfl zg) rfl (x_move rfl zt) zd ?_
         refine d_step (wA_on rfl rfl zg) rfl (x_move rfl zt) zd ?_
         refine d_step (wA_on rfl rfl zg) rfl (x_indexS hs_L rfl zt zt Try.underlying23 T.s43 ow ow) zd ?_
         refine d_step (wA_on rfl rfl zg) rfl (x_fieldK (a := 23) rfl zt Try.underlying43 rfl T.s41 rfl) zd ?_
         refine d_step (wA_on rfl rfl zg) rfl (x_loadA rfl zt T.g41 T.s41 (l_part (a := 23) (K := 46) (whole_row zh rfl) zs rfl ow ow zd)) zd ?_
         refine d_step (wA_on rfl rfl zg) rfl (x_move rfl zt) zd ?_
         refine d_step (wA_on rfl rfl zg) rfl (x_move rfl zt) zd ?_
         refine d_step (wA_on rfl rfl zg) rfl (x_indexS hs_R rfl zt zt Try.underlying24 T.s41 ow ow) zd ?_
         refine d_step (wA_on rfl rfl zg) rfl (x_loadA rfl zt T.g41 T.s41 (l_elem (whole_row zh rfl) zs rfl ow ow)) zd ?_
         refine d_step (wA_on rfl rfl zg) rfl (x_bin rfl zt zt (b_neqA zd T.f41 T.g41 T.q41 zc zc)) zd ?_
         refine ds (x_pick rfl zg zb) ?_
         refine ds (x_move rfl zt) ?_
         refine d_guard rfl rfl zh (fun g30 => ?_) (fun g30 => ?_)
         ·have p30 := g30; try simp only [d1, d2, d3, d4, d5, d6, d7, d8, d9] at p30
          refine d_step (wA_on rfl rfl zg) rfl (x_field (off' := 0) rfl zt Try.underlying59 rfl T.s22 rfl) zd ?_
          refine d_step (wA_on rfl rfl zg) rfl (x_load1' rfl zt T.g22 zh rfl (Nat.le_of_ble_eq_true rfl) (by simp only [List.take_succ_cons, List.drop_succ_cons, List.take_zero, List.drop_zero, List.take_nil, List.drop_nil, List.cons_append, List.nil_append, List.append_nil, List.length_cons, List.length_nil, Nat.reduceAdd, Int.toNat_zero, Nat.zero_mul, Nat.add_zero, Nat.zero_add] <;> rfl)) zd ?_
          refine d_step (wA_on rfl rfl zg) rfl (x_move rfl zt) zd ?_
          refine d_call0 (wA_on rfl rfl zg) rfl rfl rfl zv zd ?_
          refine ⟨_, _, _, _, ((tab_miss zd).trans (tab_hit.trans (in_c (rd_whole zd (.inr rfl) (whole_row zh rfl) (by rw [ints_len, Nat.mul_one]) (ints_free0 _)) (by rw [ok_in, decide_eq_true ow])))), ?_⟩
          refine d_step (wA_on rfl rfl zg) rfl (x_not rfl zg) zd ?_
          refine ds (x_pick rfl zg zb) ?_
          refine d_done ⟨by kernel_rfl, ?_⟩
          refine e_seq ?_
          refine k_cond (by simp only [Tr.get_set, reduceIte, Nat.reduceEqDiff, Nat.reduceAdd, ev_tmp, g26, g28, g30] <;> rfl) (fun g33 => ?_) (fun g33 => ?_)
          ·have p33 := g33; try simp only [d1, d2, d3, d4, d5, d6, d7, d8, d9] at p33
           refine k_seq ?_
           refine k_region hP hC ?_
           refine os (x_field (off' := 0) rfl zt Try.underlying59 rfl T.s22 rfl) ?_
           refine os (x_load1' rfl zt T.g22 zh rfl (Nat.le_of_ble_eq_true rfl) (by simp only [List.take_succ_cons, List.drop_succ_cons, List.take_zero, List.drop_zero, List.take_nil, List.drop_nil, List.cons_append, List.nil_append, List.append_nil, List.length_cons, List.length_nil, Nat.reduceAdd, Int.toNat_zero, Nat.zero_mul, Nat.add_zero, Nat.zero_add] <;> rfl)) ?_
           refine os (x_move rfl zt) ?_
           refine os (y_bsliceV rfl zt rfl Try.underlying22 T.s3 T.z3 rfl rfl) ?_
           refine os (x_append rfl rfl zv rfl rfl zr (cells_row Try.underlying22 T.s3 (l_all (whole_row zh rfl) rfl)) (ya_own Try.underlying22 T.i22 zd rfl ow (by unfold BIG; omega) rfl zd zh rfl (by rw [ints_len, Nat.mul_one]))) ?_
           refine os (x_field (off' := 0) rfl zt Try.underlying59 rfl T.s22 rfl) ?_
           refine o_stepN (wA_none rfl) rfl (y_store1P rfl zt zt rfl T.s22 zh rfl (Nat.le_of_ble_eq_true rfl) rfl (by simp only [splice, List.take_succ_cons, List.drop_succ_cons, List.take_zero, List.drop_zero, List.take_nil, List.drop_nil, List.cons_append, List.nil_append, List.append_nil, List.length_cons, List.length_nil, Nat.reduceAdd, Int.toNat_zero, Nat.zero_mul, Nat.add_zero, Nat.zero_add] <;> rfl)) ?_
           refine o_done ?_
           refine e_seq ?_
           refine k_region hP hC ?_
           refine os (x_field (off' := 1) rfl zt Try.underlying59 rfl T.s22 rfl) ?_
           refine os (x_load1' rfl zt T.g22 zh rfl (Nat.le_of_ble_eq_true rfl) (by simp only [List.take_succ_cons, List.drop_succ_cons, List.take_zero, List.drop_zero, List.take_nil, List.drop_nil, List.cons_append, List.nil_append, List.append_nil, List.length_cons, List.length_nil, Nat.reduceAdd, Int.toNat_zero, Nat.zero_mul, Nat.add_zero, Nat.zero_add] <;> rfl)) ?_
           refine os (x_move rfl zt) ?_
           refine os (y_bsliceV rfl zt rfl Try.underlying22 T.s3 T.z3 rfl rfl) ?_
           refine os (x_append rfl rfl zv rfl rfl zr (cells_row Try.underlying22 T.s3 (l_all (whole_row zh rfl) rfl)) (ya_own Try.underlying22 T.i22 zd rfl ow (by unfold BIG; omega) rfl zd zh rfl (by rw [ints_len, Nat.mul_one]))) ?_
           refine os (x_field (off' := 1) rfl zt Try.underlying59 rfl T.s22 rfl) ?_
           refine o_stepN (wA_none rfl) rfl (y_store1P rfl zt zt rfl T.s22 zh rfl (Nat.le_of_ble_eq_true rfl) rfl (by simp only [splice, List.take_succ_cons, List.drop_succ_cons, List.take_zero, List.drop_zero, List.take_nil, List.drop_nil, List.cons_append, List.nil_append, List.append_nil, List.length_cons, List.length_nil, Nat.reduceAdd, Int.toNat_zero, Nat.zero_mul, Nat.add_zero, Nat.zero_add] <;> rfl)) ?_
           refine o_done ?_
           refine e_block ?_
           refine e_seq ?_
           refine k_region hP hC ?_
           refine os (x_move rfl zt) ?_
           refine os (x_bin rfl zt (by rfl) b_add) ?_
           refine os (x_assign rfl zt) ?_
           refine o_done ?_
           refine e_loop ?_
           refine ⟨(true, IntKind.i64.wrap (i + 1), (accW ++ [w]), (accA ++ [i])), (to_mk (L := [0, 1, 2, 3, 7, 9]) (slots := [0, 1, 4, 8, 9, 10]) (w := 2) zr (gcVs_cons zh (gcV_sl hs_L rfl) (gcVs_cons zh (gcV_sl hs_R rfl) (gcVs_cons zh (gcV_ptr rfl) (gcVs_cons zh (gcV_ptr rfl) (gcVs_cons zh (gcV_free rfl) (gcVs_cons zh (gcV_free rfl) gcVs_nil)))))) (gcH_cons (gcO_old (by rfl) zh) (gcH_cons (gcO_old (by rfl) zh) (gcH_cons (gcO_rowE (by rfl) zh (gcD_free rfl) rfl) (gcH_cons (gcO_rowE (by rfl) zh (gcD_cons (gcV_sliceE rfl (by simp)) (gcD_cons (gcV_sliceE rfl (by simp)) gcD_nil)) rfl) (gcH_cons (gcO_aliasE (by rfl) zh zh (gcD_free (by rw [List.all_append, ints_free1]; rfl)) (by simp only [ints_append, ints_one])) (gcH_cons (gcO_aliasE (by rfl) zh zh (gcD_free (by rw [List.all_append, ints_free1]; rfl)) (by simp only [ints_append, ints_one])) gcH_nil)))))) zr), ?_, ?_⟩
           ·rw [wr1 ow ow]; refine ⟨by omega, by omega, ?_, ?_, ?_⟩
            ·exact jIn_hit h0 h2 zs zs zs
            ·simp
            ·simp
           ·show (L.length - IntKind.i64.wrap (i + 1)).toNat < (L.length - i).toNat; rw [wr1 ow ow]; omega
          ·have p33 := g33; try simp only [d1, d2, d3, d4, d5, d6, d7, d8, d9] at p33
           refine k_skip ?_
           refine e_block ?_
           refine e_seq ?_
           refine k_region hP hC ?_
           refine os (x_move rfl zt) ?_
           refine os (x_bin rfl zt (by rfl) b_add) ?_
           refine os (x_assign rfl zt) ?_
           refine o_done ?_
           refine e_loop ?_
           refine ⟨(true, IntKind.i64.wrap (i + 1), accW, accA), (to_mk (L := [0, 1, 2, 3, 4, 5]) (slots := [0, 1, 4, 8, 9, 10]) (w := 2) zr (gcVs_cons zh (gcV_sl hs_L rfl) (gcVs_cons zh (gcV_sl hs_R rfl) (gcVs_cons zh (gcV_ptr rfl) (gcVs_cons zh (gcV_ptr rfl) (gcVs_cons zh (gcV_free rfl) (gcVs_cons zh (gcV_free rfl) gcVs_nil)))))) (gcH_cons (gcO_old (by rfl) zh) (gcH_cons (gcO_old (by rfl) zh) (gcH_cons (gcO_rowE (by rfl) zh (gcD_free rfl) rfl) (gcH_cons (gcO_rowE (by rfl) zh (gcD_cons (gcV_sliceE rfl rfl) (gcD_cons (gcV_sliceE rfl rfl) gcD_nil)) rfl) (gcH_cons (gcO_row (by rfl) zh (gcD_free (ints_free1 _))) (gcH_cons (gcO_row (by rfl) zh (gcD_free (ints_free1 _))) gcH_nil)))))) zr), ?_, ?_⟩
           ·rw [wr1 ow ow]; refine ⟨by omega, by omega, ?_, ?_, ?_⟩
            ·exact jIn_skip h0 h2 (by first | exact .inl zs | exact .inr (.inl zs) | exact .inr (.inr zs) | exact absurd zs (by simp))
            ·exact hbW
            ·exact hbA
           ·show (L.length - IntKind.i64.wrap (i + 1)).toNat < (L.length - i).toNat; rw [wr1 ow ow]; omega
         ·have p30 := g30; try simp only [d1, d2, d3, d4, d5, d6, d7, d8, d9] at p30
          refine d_skip (wA_off rfl rfl zg) rfl zd ?_
          refine d_skip (wA_off rfl rfl zg) rfl zd ?_
          refine d_skip (wA_off rfl rfl zg) rfl zd ?_
          refine d_skip (wA_off rfl rfl zg) rfl zd ?_
          refine d_skip (wA_off rfl rfl zg) rfl zd ?_
          refine ds (x_pick rfl zg zb) ?_
          refine d_done ⟨by kernel_rfl, ?_⟩
          refine e_seq ?_
          refine k_condF zg ?_
          refine k_skip ?_
          refine e_block ?_
          refine e_seq ?_
          refine k_region hP hC ?_
          refine os (x_move rfl zt) ?_
          refine os (x_bin rfl zt (by rfl) b_add) ?_
          refine os (x_assign rfl zt) ?_
          refine o_done ?_
          refine e_loop ?_
          refine ⟨(true, IntKind.i64.wrap (i + 1), accW, accA), (to_mk (L := [0, 1, 2, 3, 4, 5]) (slots := [0, 1, 4, 8, 9, 10]) (w := 2) zr (gcVs_cons zh (gcV_sl hs_L rfl) (gcVs_cons zh (gcV_sl hs_R rfl) (gcVs_cons zh (gcV_ptr rfl) (gcVs_cons zh (gcV_ptr rfl) (gcVs_cons zh (gcV_free rfl) (gcVs_cons zh (gcV_free rfl) gcVs_nil)))))) (gcH_cons (gcO_old (by rfl) zh) (gcH_cons (gcO_old (by rfl) zh) (gcH_cons (gcO_rowE (by rfl) zh (gcD_free rfl) rfl) (gcH_cons (gcO_rowE (by rfl) zh (gcD_cons (gcV_sliceE rfl rfl) (gcD_cons (gcV_sliceE rfl rfl) gcD_nil)) rfl) (gcH_cons (gcO_row (by rfl) zh (gcD_free (ints_free1 _))) (gcH_cons (gcO_row (by rfl) zh (gcD_free (ints_free1 _))) gcH_nil)))))) zr), ?_, ?_⟩
          ·rw [wr1 ow ow]; refine ⟨by omega, by omega, ?_, ?_, ?_⟩
           ·exact jIn_skip h0 h2 (by first | exact .inl zs | exact .inr (.inl zs) | exact .inr (.inr zs) | exact absurd zs (by simp))
           ·exact hbW
           ·exact hbA
          ·show (L.length - IntKind.i64.wrap (i + 1)).toNat < (L.length - i).toNat; rw [wr1 ow ow]; omega
        ·have p28 := g28; try simp only [d1, d2, d3, d4, d5, d6, d7, d8, d9] at p28
         refine d_skip (wA_off rfl rfl zg) rfl zd ?_
         refine d_skip (wA_off rfl rfl zg) rfl zd ?_
         refine d_skip (wA_off rfl rfl zg) rfl zd ?_
         refine d_skip (wA_off rfl rfl zg) rfl zd ?_
         refine d_skip (wA_off rfl rfl zg) rfl zd ?_
         refine d_skip (wA_off rfl rfl zg) rfl zd ?_
         refine d_skip (wA_off rfl rfl zg) rfl zd ?_
         refine d_skip (wA_off rfl rfl zg) rfl zd ?_
         refine d_skip (wA_off rfl rfl zg) rfl zd ?_
         refine d_skip (wA_off rfl rfl zg) rfl zd ?_
         refine ds (x_pick rfl zg zb) ?_
         refine ds (x_move rfl zt) ?_
         refine d_skip (wA_off rfl rfl zg) rfl zd ?_
         refine d_skip (wA_off rfl rfl zg) rfl zd ?_
         refine d_skip (wA_off rfl rfl zg) rfl zd ?_
         refine d_skip (wA_off rfl rfl zg) rfl zd ?_
         refine d_skip (wA_off rfl rfl zg) rfl zd ?_
         refine ds (x_pick rfl zg zb) ?_
         refine d_done ⟨by kernel_rfl, ?_⟩
         refine e_seq ?_
         refine k_condF zg ?_
         refine k_skip ?_
         refine e_block ?_
         refine e_seq ?_
         refine k_region hP hC ?_
         refine os (x_move rfl zt) ?_
         refine os (x_bin rfl zt (by rfl) b_add) ?_
         refine os (x_assign rfl zt) ?_
         refine o_done ?_
         refine e_loop ?_
         refine ⟨(true, IntKind.i64.wrap (i + 1), accW, accA), (to_mk (L := [0, 1, 2, 3, 4, 5]) (slots := [0, 1, 4, 8, 9, 10]) (w := 2) zr (gcVs_cons zh (gcV_sl hs_L rfl) (gcVs_cons zh (gcV_sl hs_R rfl) (gcVs_cons zh (gcV_ptr rfl) (gcVs_cons zh (gcV_ptr rfl) (gcVs_cons zh (gcV_free rfl) (gcVs_cons zh (gcV_free rfl) gcVs_nil)))))) (gcH_cons (gcO_old (by rfl) zh) (gcH_cons (gcO_old (by rfl) zh) (gcH_cons (gcO_rowE (by rfl) zh (gcD_free rfl) rfl) (gcH_cons (gcO_rowE (by rfl) zh (gcD_cons (gcV_sliceE rfl rfl) (gcD_cons (gcV_sliceE rfl rfl) gcD_nil)) rfl) (gcH_cons (gcO_row (by rfl) zh (gcD_free (ints_free1 _))) (gcH_cons (gcO_row (by rfl) zh (gcD_free (ints_free1 _))) gcH_nil)))))) zr), ?_, ?_⟩
         ·rw [wr1 ow ow]; refine ⟨by omega, by omega, ?_, ?_, ?_⟩
          ·exact jIn_skip h0 h2 (by first | exact .inl zs | exact .inr (.inl zs) | exact .inr (.inr zs) | exact absurd zs (by simp))
          ·exact hbW
          ·exact hbA
         ·show (L.length - IntKind.i64.wrap (i + 1)).toNat < (L.length - i).toNat; rw [wr1 ow ow]; omega
       ·have p26 := g26; try simp only [d1, d2, d3, d4, d5, d6, d7, d8, d9] at p26
        refine k_exit ?_
        refine e_seq_exit ?_
        refine e_loop_exit ?_
        refine e_block_eq ?_
        refine e_block ?_
        refine e_seq ?_
        refine k_region hP hC ?_
        refine os (x_move rfl zt) ?_
        refine os (x_bin rfl zt (by rfl) b_add) ?_
        refine os (x_assign rfl zt) ?_
        refine o_done ?_
        refine e_loop ?_
        refine ⟨(true, IntKind.i64.wrap (w + 1), accW, accA), (to_mk (L := [0, 1, 2, 3, 4, 5]) (slots := [0, 1, 4, 8, 9]) (w := 2) zr (gcVs_cons zh (gcV_sl hs_L rfl) (gcVs_cons zh (gcV_sl hs_R rfl) (gcVs_cons zh (gcV_ptr rfl) (gcVs_cons zh (gcV_ptr rfl) (gcVs_cons zh (gcV_free rfl) gcVs_nil))))) (gcH_cons (gcO_old (by rfl) zh) (gcH_cons (gcO_old (by rfl) zh) (gcH_cons (gcO_rowE (by rfl) zh (gcD_free rfl) rfl) (gcH_cons (gcO_rowE (by rfl) zh (gcD_cons (gcV_sliceE rfl rfl) (gcD_cons (gcV_sliceE rfl rfl) gcD_nil)) rfl) (gcH_cons (gcO_row (by rfl) zh (gcD_free (ints_free1 _))) (gcH_cons (gcO_row (by rfl) zh (gcD_free (ints_free1 _))) gcH_nil)))))) zr), ?_, ?_⟩
        ·rw [wr1 ow ow]; refine ⟨by omega, by omega, ?_, ?_, ?_⟩
         ·rw [jOut_next hw0]; have hkn : i = L.length := by omega
          rw [hkn] at h2; exact h2
         ·exact hbW
         ·exact hbA
        ·show (6 - IntKind.i64.wrap (w + 1)).toNat < (6 - w).toNat; rw [wr1 ow ow]; omega
     ·have p15 := g15; try simp only [d1, d2, d3, d4, d5, d6, d7, d8, d9] at p15
      refine k_exit ?_
      refine e_seq_exit ?_
      refine e_loop_exit ?_
      refine e_block_eq ?_
      refine e_seq ?_
      refine k_seq ?_
      refine k_region hP hC ?_
      refine os (x_loadA' rfl zt T.g59 T.s59 zh rfl (Nat.le_of_ble_eq_true rfl) (by simp only [List.take_succ_cons, List.drop_succ_cons, List.take_zero, List.drop_zero, List.take_nil, List.drop_nil, List.cons_append, List.nil_append, List.append_nil, List.length_cons, List.length_nil, Nat.reduceAdd, Int.toNat_zero, Nat.zero_mul, Nat.add_zero, Nat.zero_add] <;> rfl)) ?_
      refine o_stepN (wA_none rfl) rfl (y_storeA rfl zt zt T.s59 rfl zh rfl rfl rfl) ?_
      refine os (x_assign rfl (by rfl)) ?_
      refine o_done ?_
      refine e_seq ?_
      refine k_ret ?_
      have hE : judgeE L R = 0 := judgeE_0 zs (by first | assumption | exact poss_yes zs) hnc
      have h6 : w = 6 := by omega
      rw [h6] at h2
      unfold val_judge33 new_judge33 judgeW judgeA
      rw [hE]
      simp only [if_true]
      rw [← h2]
      simp only
      rw [haW, haA]
      refine gives_mk2 (L := [0, 1]) (w := 2) (.inr rfl) zr (resA_cell zh T.g59 T.s59 (l_all (whole_row zh rfl) rfl) (resA_tmp zh resA_nil)) ?_ (gcH_cons (gcO_old (by rfl) zh) (gcH_cons (gcO_old (by rfl) zh) gcH_nil)) zr
      exact gcV_tup2 (gcV_agg2 (gcV_free rfl) (gcV_free rfl) zd) (gcV_free rfl)
    ·skip
     refine k_cst zm zo zl ?_
     refine k_seq ?_
     refine k_seq ?_
     refine k_region hP hC ?_
     refine os (x_move rfl zt) ?_
     refine os (x_bin rfl zt (by rfl) b_lss) ?_
     refine o_done ?_
     refine e_seq ?_
     refine k_cond zt (fun g35 => ?_) (fun g35 => ?_)
     ·have p35 := g35; try simp only [d1, d2, d3, d4, d5, d6, d7, d8, d9] at p35
      refine k_skip ?_
      refine e_seq ?_
      refine k_seq ?_
      refine k_block ?_
      refine k_seq ?_
      refine k_region hP hC ?_
      refine os (x_assign rfl (by rfl)) ?_
      refine o_done ?_
      refine e_seq ?_
      refine k_block ?_
      refine k_loop (α := Bool × Int × List Int × List Int) (fun z => match z with | (false, i, accW, accA) => cst 108 [0, 1, 4, 8, 9, 10] [s_L, s_R, .pointer (some ⟨2, 0, none⟩), .pointer (some ⟨3, 0, none⟩), .int .i64 w, .int .i64 i] [.row L.flatten 0 BIG true L.flatten.length, .row R.flatten 1 BIG true R.flatten.length, .row [.slice none 0 0, .slice none 0 0] 2 BIG false 2, .row [.slice none 0 0, .slice none 0 0] 3 BIG false 2] 2 | (true, i, accW, accA) => cst 108 [0, 1, 4, 8, 9, 10] [s_L, s_R, .pointer (some ⟨2, 0, none⟩), .pointer (some ⟨3, 0, none⟩), .int .i64 w, .int .i64 i] [.row L.flatten 0 BIG true L.flatten.length, .row R.flatten 1 BIG true R.flatten.length, .row [.slice none 0 0, .slice none 0 0] 2 BIG false 2, .row [.slice (some ⟨4, 0, none⟩) accW.length (accW.length + 1), .slice (some ⟨5, 0, none⟩) accA.length (accA.length + 1)] 3 BIG false 2, .row (ints accW) 4 BIG false (ints accW).length, .row (ints accA) 5 BIG false (ints accA).length] 2) (fun z => match z with | (b, i, accW, accA) => 0 ≤ i ∧ i ≤ L.length ∧ (accW, accA) = jIn L R w (jOut L R w) i ∧ accW.isEmpty = !b ∧ accA.isEmpty = !b) (fun z => match z with | (_, i, _, _) => (L.length - i).toNat) (true, 0, accW, accA) (to_mk (L := [0, 1, 2, 3, 4, 5]) (slots := [0, 1, 4, 8, 9, 10]) (w := 2) zr (gcVs_cons zh (gcV_sl hs_L rfl) (gcVs_cons zh (gcV_sl hs_R rfl) (gcVs_cons zh (gcV_ptr rfl) (gcVs_cons zh (gcV_ptr rfl) (gcVs_cons zh (gcV_free rfl) (gcVs_cons zh (gcV_free rfl) gcVs_nil)))))) (gcH_cons (gcO_old (by rfl) zh) (gcH_cons (gcO_old (by rfl) zh) (gcH_cons (gcO_rowE (by rfl) zh (gcD_free rfl) rfl) (gcH_cons (gcO_rowE (by rfl) zh (gcD_cons (gcV_sliceE rfl rfl) (gcD_cons (gcV_sliceE rfl rfl) gcD_nil)) rfl) (gcH_cons (gcO_row (by rfl) zh (gcD_free (ints_free1 _))) (gcH_cons (gcO_row (by rfl) zh (gcD_free (ints_free1 _))) gcH_nil)))))) zr) ⟨by omega, by omega, h2, hbW, hbA⟩ ?_
      clear h2 hbW hbA
      rintro ⟨_ | _, i, accW, accA⟩ ⟨h0, h1, h2, hbW, hbA⟩
      ·skip
       have haW : accW = [] := List.isEmpty_iff.1 hbW
       have haA : accA = [] := List.isEmpty_iff.1 hbA
       refine k_cst zm zo zl ?_
       refine k_seq ?_
       refine k_seq ?_
       refine k_region hP hC ?_
       refine os (x_move rfl zt) ?_
       refine os (x_move rfl zt) ?_
       refine os (x_lenS hs_L rfl rfl zv rfl Try.underlying23) ?_
       refine os (x_bin rfl zt zt b_lss) ?_
       refine o_done ?_
       refine e_seq ?_
       refine k_cond zt (fun g37 => ?_) (fun g37 => ?_)
       ·have p37 := g37; try simp only [d1, d2, d3, d4, d5, d6, d7, d8, d9] at p37
        refine k_skip ?_
        refine e_seq ?_
        refine k_seq ?_
        refine k_block ?_
        refine k_seq ?_
        refine k_draw hP hC zr ?_
        refine ds (x_move rfl zt) ?_
        refine ds (x_move rfl zt) ?_
        refine ds (x_indexS hs_L rfl zt zt Try.underlying23 T.s43 ow ow) ?_
        refine ds (x_field0 rfl zt Try.underlying43 rfl T.s3 rfl) ?_
        refine ds (x_load1 rfl zt T.g3 (l_partI0 (K := 46) (whole_row zh rfl) zs rfl ow ow rfl)) ?_
        refine ds (x_move rfl zt) ?_
        refine ds (x_bin rfl zt zt b_eql) ?_
        refine ds (x_move rfl zt) ?_
        refine d_guard rfl rfl zh (fun g39 => ?_) (fun g39 => ?_)
        ·have p39 := g39; try simp only [d1, d2, d3, d4, d5, d6, d7, d8, d9] at p39
         refine d_step (wA_on rfl rfl zg) rfl (x_move rfl zt) zd ?_
         refine d_step (wA_on rfl rfl zg) rfl (x_move rfl zt) zd ?_
         refine d_step (wA_on rfl rfl zg) rfl (x_indexS hs_L rfl zt zt Try.underlying23 T.s43 ow ow) zd ?_
         refine d_step (wA_on rfl rfl zg) rfl (x_fieldK (a := 23) rfl zt Try.underlying43 rfl T.s41 rfl) zd ?_
         refine d_step (wA_on rfl rfl zg) rfl (x_loadA rfl zt T.g41 T.s41 (l_part (a := 23) (K := 46) (whole_row zh rfl) zs rfl ow ow zd)) zd ?_
         refine d_step (wA_on rfl rfl zg) rfl (x_move rfl zt) zd ?_
         refine d_step (wA_on rfl rfl zg) rfl (x_move rfl zt) zd ?_
         refine d_step (wA_on rfl rfl zg) rfl (x_indexS hs_R rfl zt zt Try.underlying24 T.s41 ow ow) zd ?_
         refine d_step (wA_on rfl rfl zg) rfl (x_loadA rfl zt T.g41 T.s41 (l_elem (whole_row zh rfl) zs rfl ow ow)) zd ?_
         refine d_step (wA_on rfl rfl zg) rfl (x_bin rfl zt zt (b_neqA zd T.f41 T.g41 T.q41 zc zc)) zd ?_
         refine ds (x_pick rfl zg zb) ?_
         refine ds (x_move rfl zt) ?_
         refine d_guard rfl rfl zh (fun g41 => ?_) (fun g41 => ?_)
         ·have p41 := g41; try simp only [d1, d2, d3, d4, d5, d6, d7, d8, d9] at p41
          refine d_step (wA_on rfl rfl zg) rfl (x_field (off' := 0) rfl zt Try.underlying59 rfl T.s22 rfl) zd ?_
          refine d_step (wA_on rfl rfl zg) rfl (x_load1' rfl zt T.g22 zh rfl (Nat.le_of_ble_eq_true rfl) (by simp only [List.take_succ_cons, List.drop_succ_cons, List.take_zero, List.drop_zero, List.take_nil, List.drop_nil, List.cons_append, List.nil_append, List.append_nil, List.length_cons, List.length_nil, Nat.reduceAdd, Int.toNat_zero, Nat.zero_mul, Nat.add_zero, Nat.zero_add] <;> rfl)) zd ?_
          refine d_step (wA_on rfl rfl zg) rfl (x_move rfl zt) zd ?_
          refine d_call0 (wA_on rfl rfl zg) rfl rfl rfl zv zd ?_
          refine ⟨_, _, _, _, ((tab_miss zd).trans (tab_hit.trans (in_c (l := []) rd_nil rfl))), ?_⟩
          refine d_step (wA_on rfl rfl zg) rfl (x_not rfl zg) zd ?_
          refine ds (x_pick rfl zg zb) ?_
          refine d_done ⟨by kernel_rfl, ?_⟩
          refine e_seq ?_
          refine k_cond (by simp only [Tr.get_set, reduceIte, Nat.reduceEqDiff, Nat.reduceAdd, ev_tmp, g37, g39, g41] <;> rfl) (fun g44 => ?_) (fun g44 => ?_)
          ·have p44 := g44; try simp only [d1, d2, d3, d4, d5, d6, d7, d8, d9] at p44
           refine k_seq ?_
           refine k_region hP hC ?_
           refine os (x_field (off' := 0) rfl zt Try.underlying59 rfl T.s22 rfl) ?_
           refine os (x_load1' rfl zt T.g22 zh rfl (Nat.le_of_ble_eq_true rfl) (by simp only [List.take_succ_cons, List.drop_succ_cons, List.take_zero, List.drop_zero, List.take_nil, List.drop_nil, List.cons_append, List.nil_append, List.append_nil, List.length_cons, List.length_nil, Nat.reduceAdd, Int.toNat_zero, Nat.zero_mul, Nat.add_zero, Nat.zero_add] <;> rfl)) ?_
           refine os (x_move rfl zt) ?_
           refine os (y_bsliceV rfl zt rfl Try.underlying22 T.s3 T.z3 rfl rfl) ?_
           refine os (x_append rfl rfl zv rfl rfl zr (cells_row Try.underlying22 T.s3 (l_all (whole_row zh rfl) rfl)) (ya_nil Try.underlying22 T.i22 zd rfl zd zd rfl zd)) ?_
           refine os (x_field (off' := 0) rfl zt Try.underlying59 rfl T.s22 rfl) ?_
           refine o_stepN (wA_none rfl) rfl (y_store1P rfl zt zt rfl T.s22 zh rfl (Nat.le_of_ble_eq_true rfl) rfl (by simp only [splice, List.take_succ_cons, List.drop_succ_cons, List.take_zero, List.drop_zero, List.take_nil, List.drop_nil, List.cons_append, List.nil_append, List.append_nil, List.length_cons, List.length_nil, Nat.reduceAdd, Int.toNat_zero, Nat.zero_mul, Nat.add_zero, Nat.zero_add] <;> rfl)) ?_
           refine o_done ?_
           refine e_seq ?_
           refine k_region hP hC ?_
           refine os (x_field (off' := 1) rfl zt Try.underlying59 rfl T.s22 rfl) ?_
           refine os (x_load1' rfl zt T.g22 zh rfl (Nat.le_of_ble_eq_true rfl) (by simp only [List.take_succ_cons, List.drop_succ_cons, List.take_zero, List.drop_zero, List.take_nil, List.drop_nil, List.cons_append, List.nil_append, List.append_nil, List.length_cons, List.length_nil, Nat.reduceAdd, Int.toNat_zero, Nat.zero_mul, Nat.add_zero, Nat.zero_add] <;> rfl)) ?_
           refine os (x_move rfl zt) ?_
           refine os (y_bsliceV rfl zt rfl Try.underlying22 T.s3 T.z3 rfl rfl) ?_
           refine os (x_append rfl rfl zv rfl rfl zr (cells_row Try.underlying22 T.s3 (l_all (whole_row zh rfl) rfl)) (ya_nil Try.underlying22 T.i22 zd rfl zd zd rfl zd)) ?_
           refine os (x_field (off' := 1) rfl zt Try.underlying59 rfl T.s22 rfl) ?_
           refine o_stepN (wA_none rfl) rfl (y_store1P rfl zt zt rfl T.s22 zh rfl (Nat.le_of_ble_eq_true rfl) rfl (by simp only [splice, List.take_succ_cons, List.drop_succ_cons, List.take_zero, List.drop_zero, List.take_nil, List.drop_nil, List.cons_append, List.nil_append, List.append_nil, List.length_cons, List.length_nil, Nat.reduceAdd, Int.toNat_zero, Nat.zero_mul, Nat.add_zero, Nat.zero_add] <;> rfl)) ?_
           refine o_done ?_
           refine e_block ?_
           refine e_seq ?_
           refine k_region hP hC ?_
           refine os (x_move rfl zt) ?_
           refine os (x_bin rfl zt (by rfl) b_add) ?_
           refine os (x_assign rfl zt) ?_
           refine o_done ?_
           refine e_loop ?_
           refine ⟨(true, IntKind.i64.wrap (i + 1), [w], [i]), (to_mk (L := [0, 1, 2, 3, 5, 7]) (slots := [0, 1, 4, 8, 9, 10]) (w := 2) zr (gcVs_cons zh (gcV_sl hs_L rfl) (gcVs_cons zh (gcV_sl hs_R rfl) (gcVs_cons zh (gcV_ptr rfl) (gcVs_cons zh (gcV_ptr rfl) (gcVs_cons zh (gcV_free rfl) (gcVs_cons zh (gcV_free rfl) gcVs_nil)))))) (gcH_cons (gcO_old (by rfl) zh) (gcH_cons (gcO_old (by rfl) zh) (gcH_cons (gcO_rowE (by rfl) zh (gcD_free rfl) rfl) (gcH_cons (gcO_rowE (by rfl) zh (gcD_cons (gcV_sliceE rfl rfl) (gcD_cons (gcV_sliceE rfl rfl) gcD_nil)) rfl) (gcH_cons (gcO_rowE (by rfl) zh (gcD_free rfl) (by simp only [ints_append, ints_one])) (gcH_cons (gcO_rowE (by rfl) zh (gcD_free rfl) (by simp only [ints_append, ints_one])) gcH_nil)))))) zr), ?_, ?_⟩
           ·rw [wr1 ow ow]; refine ⟨by omega, by omega, ?_, ?_, ?_⟩
            ·rw [haW, haA] at h2; exact jIn_hit h0 h2 zs zs (by simp)
            ·simp
            ·simp
           ·show (L.length - IntKind.i64.wrap (i + 1)).toNat < (L.length - i).toNat; rw [wr1 ow ow]; omega
          ·have p44 := g44; try simp only [d1, d2, d3, d4, d5, d6, d7, d8, d9] at p44
           refine k_skip ?_
           refine e_block ?_
           refine e_seq ?_
           refine k_region hP hC ?_
           refine os (x_move rfl zt) ?_
           refine os (x_bin rfl zt (by rfl) b_add) ?_
           refine os (x_assign rfl zt) ?_
           refine o_done ?_
           refine e_loop ?_
           refine ⟨(false, IntKind.i64.wrap (i + 1), accW, accA), (to_mk (L := [0, 1, 2, 3]) (slots := [0, 1, 4, 8, 9, 10]) (w := 2) zr (gcVs_cons zh (gcV_sl hs_L rfl) (gcVs_cons zh (gcV_sl hs_R rfl) (gcVs_cons zh (gcV_ptr rfl) (gcVs_cons zh (gcV_ptr rfl) (gcVs_cons zh (gcV_free rfl) (gcVs_cons zh (gcV_free rfl) gcVs_nil)))))) (gcH_cons (gcO_old (by rfl) zh) (gcH_cons (gcO_old (by rfl) zh) (gcH_cons (gcO_rowE (by rfl) zh (gcD_free rfl) rfl) (gcH_cons (gcO_rowE (by rfl) zh (gcD_free rfl) rfl) gcH_nil)))) zr), ?_, ?_⟩
           ·rw [wr1 ow ow]; refine ⟨by omega, by omega, ?_, ?_, ?_⟩
            ·exact jIn_skip h0 h2 (by first | exact .inl zs | exact .inr (.inl zs) | exact .inr (.inr zs) | exact absurd zs (by simp))
            ·exact hbW
            ·exact hbA
           ·show (L.length - IntKind.i64.wrap (i + 1)).toNat < (L.length - i).toNat; rw [wr1 ow ow]; omega
         ·have p41 := g41; try simp only [d1, d2, d3, d4, d5, d6, d7, d8, d9] at p41
          refine d_skip (wA_off rfl rfl zg) rfl zd ?_
          refine d_skip (wA_off rfl rfl zg) rfl zd ?_
          refine d_skip (wA_off rfl rfl zg) rfl zd ?_
          refine d_skip (wA_off rfl rfl zg) rfl zd ?_
          refine d_skip (wA_off rfl rfl zg) rfl zd ?_
          refine ds (x_pick rfl zg zb) ?_
          refine d_done ⟨by kernel_rfl, ?_⟩
          refine e_seq ?_
          refine k_condF zg ?_
          refine k_skip ?_
          refine e_block ?_
          refine e_seq ?_
          refine k_region hP hC ?_
          refine os (x_move rfl zt) ?_
          refine os (x_bin rfl zt (by rfl) b_add) ?_
          refine os (x_assign rfl zt) ?_
          refine o_done ?_
          refine e_loop ?_
          refine ⟨(false, IntKind.i64.wrap (i + 1), accW, accA), (to_mk (L := [0, 1, 2, 3]) (slots := [0, 1, 4, 8, 9, 10]) (w := 2) zr (gcVs_cons zh (gcV_sl hs_L rfl) (gcVs_cons zh (gcV_sl hs_R rfl) (gcVs_cons zh (gcV_ptr rfl) (gcVs_cons zh (gcV_ptr rfl) (gcVs_cons zh (gcV_free rfl) (gcVs_cons zh (gcV_free rfl) gcVs_nil)))))) (gcH_cons (gcO_old (by rfl) zh) (gcH_cons (gcO_old (by rfl) zh) (gcH_cons (gcO_rowE (by rfl) zh (gcD_free rfl) rfl) (gcH_cons (gcO_rowE (by rfl) zh (gcD_free rfl) rfl) gcH_nil)))) zr), ?_, ?_⟩
          ·rw [wr1 ow ow]; refine ⟨by omega, by omega, ?_, ?_, ?_⟩
           ·exact jIn_skip h0 h2 (by first | exact .inl zs | exact .inr (.inl zs) | exact .inr (.inr zs) | exact absurd zs (by simp))
           ·exact hbW
           ·exact hbA
          ·show (L.length - IntKind.i64.wrap (i + 1)).toNat < (L.length - i).toNat; rw [wr1 ow ow]; omega
        ·have p39 := g39; try simp only [d1, d2, d3, d4, d5, d6, d7, d8, d9] at p39
         refine d_skip (wA_off rfl rfl zg) rfl zd ?_
         refine d_skip (wA_off rfl rfl zg) rfl zd ?_
         refine d_skip (wA_off rfl rfl zg) rfl zd ?_
         refine d_skip (wA_off rfl rfl zg) rfl zd ?_
         refine d_skip (wA_off rfl rfl zg) rfl zd ?_
         refine d_skip (wA_off rfl rfl zg) rfl zd ?_
         refine d_skip (wA_off rfl rfl zg) rfl zd ?_
         refine d_skip (wA_off rfl rfl zg) rfl zd ?_
         refine d_skip (wA_off rfl rfl zg) rfl zd ?_
         refine d_skip (wA_off rfl rfl zg) rfl zd ?_
         refine ds (x_pick rfl zg zb) ?_
         refine ds (x_move rfl zt) ?_
         refine d_skip (wA_off rfl rfl zg) rfl zd ?_
         refine d_skip (wA_off rfl rfl zg) rfl zd ?_
         refine d_skip (wA_off rfl rfl zg) rfl zd ?_
         refine d_skip (wA_off rfl rfl zg) rfl zd ?_
         refine d_skip (wA_off rfl rfl zg) rfl zd ?_
         refine ds (x_pick rfl zg zb) ?_
         refine d_done ⟨by kernel_rfl, ?_⟩
         refine e_seq ?_
         refine k_condF zg ?_
         refine k_skip ?_
         refine e_block ?_
         refine e_seq ?_
         refine k_region hP hC ?_
         refine os (x_move rfl zt) ?_
         refine os (x_bin rfl zt (by rfl) b_add) ?_
         refine os (x_assign rfl zt) ?_
         refine o_done ?_
         refine e_loop ?_
         refine ⟨(false, IntKind.i64.wrap (i + 1), accW, accA), (to_mk (L := [0, 1, 2, 3]) (slots := [0, 1, 4, 8, 9, 10]) (w := 2) zr (gcVs_cons zh (gcV_sl hs_L rfl) (gcVs_cons zh (gcV_sl hs_R rfl) (gcVs_cons zh (gcV_ptr rfl) (gcVs_cons zh (gcV_ptr rfl) (gcVs_cons zh (gcV_free rfl) (gcVs_cons zh (gcV_free rfl) gcVs_nil)))))) (gcH_cons (gcO_old (by rfl) zh) (gcH_cons (gcO_old (by rfl) zh) (gcH_cons (gcO_rowE (by rfl) zh (gcD_free rfl) rfl) (gcH_cons (gcO_rowE (by rfl) zh (gcD_free rfl) rfl) gcH_nil)))) zr), ?_, ?_⟩
         ·rw [wr1 ow ow]; refine ⟨by omega, by omega, ?_, ?_, ?_⟩
          ·exact jIn_skip h0 h2 (by first | exact .inl zs | exact .inr (.inl zs) | exact .inr (.inr zs) | exact absurd zs (by simp))
          ·exact hbW
          ·exact hbA
         ·show (L.length - IntKind.i64.wrap (i + 1)).toNat < (L.length - i).toNat; rw [wr1 ow ow]; omega
       ·have p37 := g37; try simp only [d1, d2, d3, d4, d5, d6, d7, d8, d9] at p37
        refine k_exit ?_
        refine e_seq_exit ?_
        refine e_loop_exit ?_
        refine e_block_eq ?_
        refine e_block ?_
        refine e_seq ?_
        refine k_region hP hC ?_
        refine os (x_move rfl zt) ?_
        refine os (x_bin rfl zt (by rfl) b_add) ?_
        refine os (x_assign rfl zt) ?_
        refine o_done ?_
        refine e_loop ?_
        refine ⟨(false, IntKind.i64.wrap (w + 1), accW, accA), (to_mk (L := [0, 1, 2, 3]) (slots := [0, 1, 4, 8, 9]) (w := 2) zr (gcVs_cons zh (gcV_sl hs_L rfl) (gcVs_cons zh (gcV_sl hs_R rfl) (gcVs_cons zh (gcV_ptr rfl) (gcVs_cons zh (gcV_ptr rfl) (gcVs_cons zh (gcV_free rfl) gcVs_nil))))) (gcH_cons (gcO_old (by rfl) zh) (gcH_cons (gcO_old (by rfl) zh) (gcH_cons (gcO_rowE (by rfl) zh (gcD_free rfl) rfl) (gcH_cons (gcO_rowE (by rfl) zh (gcD_free rfl) rfl) gcH_nil)))) zr), ?_, ?_⟩
        ·rw [wr1 ow ow]; refine ⟨by omega, by omega, ?_, ?_, ?_⟩
         ·rw [jOut_next hw0]; have hkn : i = L.length := by omega
          rw [hkn] at h2; exact h2
         ·exact hbW
         ·exact hbA
        ·show (6 - IntKind.i64.wrap (w + 1)).toNat < (6 - w).toNat; rw [wr1 ow ow]; omega
      ·skip
       have hjl := jlen hw0 ow h0 h1 hb h2
       refine k_cst zm zo zl ?_
       refine k_seq ?_
       refine k_seq ?_
       refine k_region hP hC ?_
       refine os (x_move rfl zt) ?_
       refine os (x_move rfl zt) ?_
       refine os (x_lenS hs_L rfl rfl zv rfl Try.underlying23) ?_
       refine os (x_bin rfl zt zt b_lss) ?_
       refine o_done ?_
       refine e_seq ?_
       refine k_cond zt (fun g46 => ?_) (fun g46 => ?_)
       ·have p46 := g46; try simp only [d1, d2, d3, d4, d5, d6, d7, d8, d9] at p46
        refine k_skip ?_
        refine e_seq ?_
        refine k_seq ?_
        refine k_block ?_
        refine k_seq ?_
        refine k_draw hP hC zr ?_
        refine ds (x_move rfl zt) ?_
        refine ds (x_move rfl zt) ?_
        refine ds (x_indexS hs_L rfl zt zt Try.underlying23 T.s43 ow ow) ?_
        refine ds (x_field0 rfl zt Try.underlying43 rfl T.s3 rfl) ?_
        refine ds (x_load1 rfl zt T.g3 (l_partI0 (K := 46) (whole_row zh rfl) zs rfl ow ow rfl)) ?_
        refine ds (x_move rfl zt) ?_
        refine ds (x_bin rfl zt zt b_eql) ?_
        refine ds (x_move rfl zt) ?_
        refine d_guard rfl rfl zh (fun g48 => ?_) (fun g48 => ?_)
        ·have p48 := g48; try simp only [d1, d2, d3, d4, d5, d6, d7, d8, d9] at p48
         refine d_step (wA_on rfl rfl zg) rfl (x_move rfl zt) zd ?_
         refine d_step (wA_on rfl rfl zg) rfl (x_move rfl zt) zd ?_
         refine d_step (wA_on rfl rfl zg) rfl (x_indexS hs_L rfl zt zt Try.underlying23 T.s43 ow ow) zd ?_
         refine d_step (wA_on rfl rfl zg) rfl (x_fieldK (a := 23) rfl zt Try.underlying43 rfl T.s41 rfl) zd ?_
         refine d_step (wA_on rfl rfl zg) rfl (x_loadA rfl zt T.g41 T.s41 (l_part (a := 23) (K := 46) (whole_row zh rfl) zs rfl ow ow zd)) zd ?_
         refine d_step (wA_on rfl rfl zg) rfl (x_move rfl zt) zd ?_
         refine d_step (wA_on rfl rfl zg) rfl (x_move rfl zt) zd ?_
         refine d_step (wA_on rfl rfl zg) rfl (x_indexS hs_R rfl zt zt Try.underlying24 T.s41 ow ow) zd ?_
         refine d_step (wA_on rfl rfl zg) rfl (x_loadA rfl zt T.g41 T.s41 (l_elem (whole_row zh rfl) zs rfl ow ow)) zd ?_
         refine d_step (wA_on rfl rfl zg) rfl (x_bin rfl zt zt (b_neqA zd T.f41 T.g41 T.q41 zc zc)) zd ?_
         refine ds (x_pick rfl zg zb) ?_
         refine ds (x_move rfl zt) ?_
         refine d_guard rfl rfl zh (fun g50 => ?_) (fun g50 => ?_)
         ·have p50 := g50; try simp only [d1, d2, d3, d4, d5, d6, d7, d8, d9] at p50
          refine d_step (wA_on rfl rfl zg) rfl (x_field (off' := 0) rfl zt Try.underlying59 rfl T.s22 rfl) zd ?_
          refine d_step (wA_on rfl rfl zg) rfl (x_load1' rfl zt T.g22 zh rfl (Nat.le_of_ble_eq_true rfl) (by simp only [List.take_succ_cons, List.drop_succ_cons, List.take_zero, List.drop_zero, List.take_nil, List.drop_nil, List.cons_append, List.nil_append, List.append_nil, List.length_cons, List.length_nil, Nat.reduceAdd, Int.toNat_zero, Nat.zero_mul, Nat.add_zero, Nat.zero_add] <;> rfl)) zd ?_
          refine d_step (wA_on rfl rfl zg) rfl (x_move rfl zt) zd ?_
          refine d_call0 (wA_on rfl rfl zg) rfl rfl rfl zv zd ?_
          refine ⟨_, _, _, _, ((tab_miss zd).trans (tab_hit.trans (in_c (rd_whole zd (.inr rfl) (whole_row zh rfl) (by rw [ints_len, Nat.mul_one]) (ints_free0 _)) (by rw [ok_in, decide_eq_true ow])))), ?_⟩
          refine d_step (wA_on rfl rfl zg) rfl (x_not rfl zg) zd ?_
          refine ds (x_pick rfl zg zb) ?_
          refine d_done ⟨by kernel_rfl, ?_⟩
          refine e_seq ?_
          refine k_cond (by simp only [Tr.get_set, reduceIte, Nat.reduceEqDiff, Nat.reduceAdd, ev_tmp, g46, g48, g50] <;> rfl) (fun g53 => ?_) (fun g53 => ?_)
          ·have p53 := g53; try simp only [d1, d2, d3, d4, d5, d6, d7, d8, d9] at p53
           refine k_seq ?_
           refine k_region hP hC ?_
           refine os (x_field (off' := 0) rfl zt Try.underlying59 rfl T.s22 rfl) ?_
           refine os (x_load1' rfl zt T.g22 zh rfl (Nat.le_of_ble_eq_true rfl) (by simp only [List.take_succ_cons, List.drop_succ_cons, List.take_zero, List.drop_zero, List.take_nil, List.drop_nil, List.cons_append, List.nil_append, List.append_nil, List.length_cons, List.length_nil, Nat.reduceAdd, Int.toNat_zero, Nat.zero_mul, Nat.add_zero, Nat.zero_add] <;> rfl)) ?_
           refine os (x_move rfl zt) ?_
           refine os (y_bsliceV rfl zt rfl Try.underlying22 T.s3 T.z3 rfl rfl) ?_
           refine os (x_append rfl rfl zv rfl rfl zr (cells_row Try.underlying22 T.s3 (l_all (whole_row zh rfl) rfl)) (ya_own Try.underlying22 T.i22 zd rfl ow (by unfold BIG; omega) rfl zd zh rfl (by rw [ints_len, Nat.mul_one]))) ?_
           refine os (x_field (off' := 0) rfl zt Try.underlying59 rfl T.s22 rfl) ?_
           refine o_stepN (wA_none rfl) rfl (y_store1P rfl zt zt rfl T.s22 zh rfl (Nat.le_of_ble_eq_true rfl) rfl (by simp only [splice, List.take_succ_cons, List.drop_succ_cons, List.take_zero, List.drop_zero, List.take_nil, List.drop_nil, List.cons_append, List.nil_append, List.append_nil, List.length_cons, List.length_nil, Nat.reduceAdd, Int.toNat_zero, Nat.zero_mul, Nat.add_zero, Nat.zero_add] <;> rfl)) ?_
           refine o_done ?_
           refine e_seq ?_
           refine k_region hP hC ?_
           refine os (x_field (off' := 1) rfl zt Try.underlying59 rfl T.s22 rfl) ?_
           refine os (x_load1' rfl zt T.g22 zh rfl (Nat.le_of_ble_eq_true rfl) (by simp only [List.take_succ_cons, List.drop_succ_cons, List.take_zero, List.drop_zero, List.take_nil, List.drop_nil, List.cons_append, List.nil_append, List.append_nil, List.length_cons, List.length_nil, Nat.reduceAdd, Int.toNat_zero, Nat.zero_mul, Nat.add_zero, Nat.zero_add] <;> rfl)) ?_
           refine os (x_move rfl zt) ?_
           refine os (y_bsliceV rfl zt rfl Try.underlying22 T.s3 T.z3 rfl rfl) ?_
           refine os (x_append rfl rfl zv rfl rfl zr (cells_row Try.underlying22 T.s3 (l_all (whole_row zh rfl) rfl)) (ya_own Try.underlying22 T.i22 zd rfl ow (by unfold BIG; omega) rfl zd zh rfl (by rw [ints_len, Nat.mul_one]))) ?_
           refine os (x_field (off' := 1) rfl zt Try.underlying59 rfl T.s22 rfl) ?_
           refine o_stepN (wA_none rfl) rfl (y_store1P rfl zt zt rfl T.s22 zh rfl (Nat.le_of_ble_eq_true rfl) rfl (by simp only [splice, List.take_succ_cons, List.drop_succ_cons, List.take_zero, List.drop_zero, List.take_nil, List.drop_nil, List.cons_append, List.nil_append, List.append_nil, List.length_cons, List.length_nil, Nat.reduceAdd, Int.toNat_zero, Nat.zero_mul, Nat.add_zero, Nat.zero_add] <;> rfl)) ?_
           refine o_done ?_
           refine e_block ?_
           refine e_seq ?_
           refine k_region hP hC ?_
           refine os (x_move rfl zt) ?_
           refine os (x_bin rfl zt (by rfl) b_add) ?_
           refine os (x_assign rfl zt) ?_
           refine o_done ?_
           refine e_loop ?_
           refine ⟨(true, IntKind.i64.wrap (i + 1), (accW ++ [w]), (accA ++ [i])), (to_mk (L := [0, 1, 2, 3, 7, 9]) (slots := [0, 1, 4, 8, 9, 10]) (w := 2) zr (gcVs_cons zh (gcV_sl hs_L rfl) (gcVs_cons zh (gcV_sl hs_R rfl) (gcVs_cons zh (gcV_ptr rfl) (gcVs_cons zh (gcV_ptr rfl) (gcVs_cons zh (gcV_free rfl) (gcVs_cons zh (gcV_free rfl) gcVs_nil)))))) (gcH_cons (gcO_old (by rfl) zh) (gcH_cons (gcO_old (by rfl) zh) (gcH_cons (gcO_rowE (by rfl) zh (gcD_free rfl) rfl) (gcH_cons (gcO_rowE (by rfl) zh (gcD_cons (gcV_sliceE rfl (by simp)) (gcD_cons (gcV_sliceE rfl (by simp)) gcD_nil)) rfl) (gcH_cons (gcO_aliasE (by rfl) zh zh (gcD_free (by rw [List.all_append, ints_free1]; rfl)) (by simp only [ints_append, ints_one])) (gcH_cons (gcO_aliasE (by rfl) zh zh (gcD_free (by rw [List.all_append, ints_free1]; rfl)) (by simp only [ints_append, ints_one])) gcH_nil)))))) zr), ?_, ?_⟩
           ·rw [wr1 ow ow]; refine ⟨by omega, by omega, ?_, ?_, ?_⟩
            ·exact jIn_hit h0 h2 zs zs zs
            ·simp
            ·simp
           ·show (L.length - IntKind.i64.wrap (i + 1)).toNat < (L.length - i).toNat; rw [wr1 ow ow]; omega
          ·have p53 := g53; try simp only [d1, d2, d3, d4, d5, d6, d7, d8, d9] at p53
           refine k_skip ?_
           refine e_block ?_
           refine e_seq ?_
           refine k_region hP hC ?_
           refine os (x_move rfl zt) ?_
           refine os (x_bin rfl zt (by rfl) b_add) ?_
           refine os (x_assign rfl zt) ?_
           refine o_done ?_
           refine e_loop ?_
           refine ⟨(true, IntKind.i64.wrap (i + 1), accW, accA), (to_mk (L := [0, 1, 2, 3, 4, 5]) (slots := [0, 1, 4, 8, 9, 10]) (w := 2) zr (gcVs_cons zh (gcV_sl hs_L rfl) (gcVs_cons zh (gcV_sl hs_R rfl) (gcVs_cons zh (gcV_ptr rfl) (gcVs_cons zh (gcV_ptr rfl) (gcVs_cons zh (gcV_free rfl) (gcVs_cons zh (gcV_free rfl) gcVs_nil)))))) (gcH_cons (gcO_old (by rfl) zh) (gcH_cons (gcO_old (by rfl) zh) (gcH_cons (gcO_rowE (by rfl) zh (gcD_free rfl) rfl) (gcH_cons (gcO_rowE (by rfl) zh (gcD_cons (gcV_sliceE rfl rfl) (gcD_cons (gcV_sliceE rfl rfl) gcD_nil)) rfl) (gcH_cons (gcO_row (by rfl) zh (gcD_free (ints_free1 _))) (gcH_cons (gcO_row (by rfl) zh (gcD_free (ints_free1 _))) gcH_nil)))))) zr), ?_, ?_⟩
           ·rw [wr1 ow ow]; refine ⟨by omega, by omega, ?_, ?_, ?_⟩
            ·exact jIn_skip h0 h2 (by first | exact .inl zs | exact .inr (.inl zs) | exact .inr (.inr zs) | exact absurd zs (by simp))
            ·exact hbW
            ·exact hbA
           ·show (L.length - IntKind.i64.wrap (i + 1)).toNat < (L.length - i).toNat; rw [wr1 ow ow]; omega
         ·have p50 := g50; try simp only [d1, d2, d3, d4, d5, d6, d7, d8, d9] at p50
          refine d_skip (wA_off rfl rfl zg) rfl zd ?_
          refine d_skip (wA_off rfl rfl zg) rfl zd ?_
          refine d_skip (wA_off rfl rfl zg) rfl zd ?_
          refine d_skip (wA_off rfl rfl zg) rfl zd ?_
          refine d_skip (wA_off rfl rfl zg) rfl zd ?_
          refine ds (x_pick rfl zg zb) ?_
          refine d_done ⟨by kernel_rfl, ?_⟩
          refine e_seq ?_
          refine k_condF zg ?_
          refine k_skip ?_
          refine e_block ?_
          refine e_seq ?_
          refine k_region hP hC ?_
          refine os (x_move rfl zt) ?_
          refine os (x_bin rfl zt (by rfl) b_add) ?_
          refine os (x_assign rfl zt) ?_
          refine o_done ?_
          refine e_loop ?_
          refine ⟨(true, IntKind.i64.wrap (i + 1), accW, accA), (to_mk (L := [0, 1, 2, 3, 4, 5]) (slots := [0, 1, 4, 8, 9, 10]) (w := 2) zr (gcVs_cons zh (gcV_sl hs_L rfl) (gcVs_cons zh (gcV_sl hs_R rfl) (gcVs_cons zh (gcV_ptr rfl) (gcVs_cons zh (gcV_ptr rfl) (gcVs_cons zh (gcV_free rfl) (gcVs_cons zh (gcV_free rfl) gcVs_nil)))))) (gcH_cons (gcO_old (by rfl) zh) (gcH_cons (gcO_old (by rfl) zh) (gcH_cons (gcO_rowE (by rfl) zh (gcD_free rfl) rfl) (gcH_cons (gcO_rowE (by rfl) zh (gcD_cons (gcV_sliceE rfl rfl) (gcD_cons (gcV_sliceE rfl rfl) gcD_nil)) rfl) (gcH_cons (gcO_row (by rfl) zh (gcD_free (ints_free1 _))) (gcH_cons (gcO_row (by rfl) zh (gcD_free (ints_free1 _))) gcH_nil)))))) zr), ?_, ?_⟩
          ·rw [wr1 ow ow]; refine ⟨by omega, by omega, ?_, ?_, ?_⟩
           ·exact jIn_skip h0 h2 (by first | exact .inl zs | exact .inr (.inl zs) | exact .inr (.inr zs) | exact absurd zs (by simp))
           ·exact hbW
           ·exact hbA
          ·show (L.length - IntKind.i64.wrap (i + 1)).toNat < (L.length - i).toNat; rw [wr1 ow ow]; omega
        ·have p48 := g48; try simp only [d1, d2, d3, d4, d5, d6, d7, d8, d9] at p48
         refine d_skip (wA_off rfl rfl zg) rfl zd ?_
         refine d_skip (wA_off rfl rfl zg) rfl zd ?_
         refine d_skip (wA_off rfl rfl zg) rfl zd ?_
         refine d_skip (wA_off rfl rfl zg) rfl zd ?_
         refine d_skip (wA_off rfl rfl zg) rfl zd ?_
         refine d_skip (wA_off rfl rfl zg) rfl zd ?_
         refine d_skip (wA_off rfl rfl zg) rfl zd ?_
         refine d_skip (wA_off rfl rfl zg) rfl zd ?_
         refine d_skip (wA_off rfl rfl zg) rfl zd ?_
         refine d_skip (wA_off rfl rfl zg) rfl zd ?_
         refine ds (x_pick rfl zg zb) ?_
         refine ds (x_move rfl zt) ?_
         refine d_skip (wA_off rfl rfl zg) rfl zd ?_
         refine d_skip (wA_off rfl rfl zg) rfl zd ?_
         refine d_skip (wA_off rfl rfl zg) rfl zd ?_
         refine d_skip (wA_off rfl rfl zg) rfl zd ?_
         refine d_skip (wA_off rfl rfl zg) rfl zd ?_
         refine ds (x_pick rfl zg zb) ?_
         refine d_done ⟨by kernel_rfl, ?_⟩
         refine e_seq ?_
         refine k_condF zg ?_
         refine k_skip ?_
         refine e_block ?_
         refine e_seq ?_
         refine k_region hP hC ?_
         refine os (x_move rfl zt) ?_
         refine os (x_bin rfl zt (by rfl) b_add) ?_
         refine os (x_assign rfl zt) ?_
         refine o_done ?_
         refine e_loop ?_
         refine ⟨(true, IntKind.i64.wrap (i + 1), accW, accA), (to_mk (L := [0, 1, 2, 3, 4, 5]) (slots := [0, 1, 4, 8, 9, 10]) (w := 2) zr (gcVs_cons zh (gcV_sl hs_L rfl) (gcVs_cons zh (gcV_sl hs_R rfl) (gcVs_cons zh (gcV_ptr rfl) (gcVs_cons zh (gcV_ptr rfl) (gcVs_cons zh (gcV_free rfl) (gcVs_cons zh (gcV_free rfl) gcVs_nil)))))) (gcH_cons (gcO_old (by rfl) zh) (gcH_cons (gcO_old (by rfl) zh) (gcH_cons (gcO_rowE (by rfl) zh (gcD_free rfl) rfl) (gcH_cons (gcO_rowE (by rfl) zh (gcD_cons (gcV_sliceE rfl rfl) (gcD_cons (gcV_sliceE rfl rfl) gcD_nil)) rfl) (gcH_cons (gcO_row (by rfl) zh (gcD_free (ints_free1 _))) (gcH_cons (gcO_row (by rfl) zh (gcD_free (ints_free1 _))) gcH_nil)))))) zr), ?_, ?_⟩
         ·rw [wr1 ow ow]; refine ⟨by omega, by omega, ?_, ?_, ?_⟩
          ·exact jIn_skip h0 h2 (by first | exact .inl zs | exact .inr (.inl zs) | exact .inr (.inr zs) | exact absurd zs (by simp))
          ·exact hbW
          ·exact hbA
         ·show (L.length - IntKind.i64.wrap (i + 1)).toNat < (L.length - i).toNat; rw [wr1 ow ow]; omega
       ·have p46 := g46; try simp only [d1, d2, d3, d4, d5, d6, d7, d8, d9] at p46
        refine k_exit ?_
        refine e_seq_exit ?_
        refine e_loop_exit ?_
        refine e_block_eq ?_
        refine e_block ?_
        refine e_seq ?_
        refine k_region hP hC ?_
        refine os (x_move rfl zt) ?_
        refine os (x_bin rfl zt (by rfl) b_add) ?_
        refine os (x_assign rfl zt) ?_
        refine o_done ?_
        refine e_loop ?_
        refine ⟨(true, IntKind.i64.wrap (w + 1), accW, accA), (to_mk (L := [0, 1, 2, 3, 4, 5]) (slots := [0, 1, 4, 8, 9]) (w := 2) zr (gcVs_cons zh (gcV_sl hs_L rfl) (gcVs_cons zh (gcV_sl hs_R rfl) (gcVs_cons zh (gcV_ptr rfl) (gcVs_cons zh (gcV_ptr rfl) (gcVs_cons zh (gcV_free rfl) gcVs_nil))))) (gcH_cons (gcO_old (by rfl) zh) (gcH_cons (gcO_old (by rfl) zh) (gcH_cons (gcO_rowE (by rfl) zh (gcD_free rfl) rfl) (gcH_cons (gcO_rowE (by rfl) zh (gcD_cons (gcV_sliceE rfl rfl) (gcD_cons (gcV_sliceE rfl rfl) gcD_nil)) rfl) (gcH_cons (gcO_row (by rfl) zh (gcD_free (ints_free1 _))) (gcH_cons (gcO_row (by rfl) zh (gcD_free (ints_free1 _))) gcH_nil)))))) zr), ?_, ?_⟩
        ·rw [wr1 ow ow]; refine ⟨by omega, by omega, ?_, ?_, ?_⟩
         ·rw [jOut_next hw0]; have hkn : i = L.length := by omega
          rw [hkn] at h2; exact h2
         ·exact hbW
         ·exact hbA
        ·show (6 - IntKind.i64.wrap (w + 1)).toNat < (6 - w).toNat; rw [wr1 ow ow]; omega
     ·have p35 := g35; try simp only [d1, d2, d3, d4, d5, d6, d7, d8, d9] at p35
      refine k_exit ?_
      refine e_seq_exit ?_
      refine e_loop_exit ?_
      refine e_block_eq ?_
      refine e_seq ?_
      refine k_seq ?_
      refine k_region hP hC ?_
      refine os (x_loadA' rfl zt T.g59 T.s59 zh rfl (Nat.le_of_ble_eq_true rfl) (by simp only [List.take_succ_cons, List.drop_succ_cons, List.take_zero, List.drop_zero, List.take_nil, List.drop_nil, List.cons_append, List.nil_append, List.append_nil, List.length_cons, List.length_nil, Nat.reduceAdd, Int.toNat_zero, Nat.zero_mul, Nat.add_zero, Nat.zero_add] <;> rfl)) ?_
      refine o_stepN (wA_none rfl) rfl (y_storeA rfl zt zt T.s59 rfl zh rfl rfl rfl) ?_
      refine os (x_assign rfl (by rfl)) ?_
      refine o_done ?_
      refine e_seq ?_
      refine k_ret ?_
      have hE : judgeE L R = 0 := judgeE_0 zs (by first | assumption | exact poss_yes zs) hnc
      have h6 : w = 6 := by omega
      rw [h6] at h2
      unfold val_judge33 new_judge33 judgeW judgeA
      rw [hE]
      simp only [if_true]
      rw [← h2]
      simp only
      have hnW : accW.length ≠ 0 := by intro e; have e2 := List.eq_nil_of_length_eq_zero e; subst e2; cases hbW
      have hnA : accA.length ≠ 0 := by intro e; have e2 := List.eq_nil_of_length_eq_zero e; subst e2; cases hbA
      rw [outV_ne hnW, outV_ne hnA, outN_ne hnW, outN_ne hnA]
      refine gives_mk2 (L := [0, 1, 4, 5]) (w := 2) (.inr rfl) zr (resA_cell zh T.g59 T.s59 (l_all (whole_row zh rfl) rfl) (resA_tmp zh resA_nil)) ?_ (gcH_cons (gcO_old (by rfl) zh) (gcH_cons (gcO_old (by rfl) zh) (gcH_cons (gcO_row (by rfl) zh (gcD_free (ints_free1 _))) (gcH_cons (gcO_row (by rfl) zh (gcD_free (ints_free1 _))) gcH_nil)))) zr
      exact gcV_tup2 (gcV_agg2 (gcV_slice rfl) (gcV_slice rfl) zd) (gcV_free rfl)
theorem con_judge33 : Con Try.prog 24 c_judge33 := con_flat Try.func24 rfl fun us cs v new h => by
 unfold spec_judge33 at h
 split at h
 case h_2 => cases h
 rename_i s_L s_R c_L c_R
 split at h
 case isFalse => cases h
 rename_i hc
 try simp only [Bool.and_eq_true] at hc
 obtain ⟨⟨⟨⟨q_L, r_L⟩, q_R⟩, r_R⟩, hok⟩ := hc
 cases h
 obtain ⟨h_L, e_L⟩ := isRows_cfs zd r_L
 have hs_L := slOk_sl (n := (chunks 46 c_L).length) q_L zd (rows_len (ks := T.K43) zd r_L)
 obtain ⟨h_R, e_R⟩ := isRows_cfs zd r_R
 have hs_R := slOk_sl (n := (chunks 22 c_R).length) q_R zd (rows_len (ks := T.K41) zd r_R)
 have key := judge33_m hs_L h_L hs_R h_R hok
 have hrows : [(chunks T.K43.length c_L).flatten, (chunks T.K41.length c_R).flatten] = [c_L, c_R] := by rw [e_L, e_R]
 rw [← hrows]
 exact key
theorem judge33_c {H : AH} {s_L : Value} {s_R : Value} {L : List (List Value)} {R : List (List Value)} (hr_L : Rd H 46 s_L L.length L.flatten) (h_L : cfs T.K43 L) (hr_R : Rd H 22 s_R R.length R.flatten) (h_R : cfs T.K41 R) (hok : ok_judge33 L R = true) : c_judge33 [s_L, s_R] H = some (.tuple ⟨[.agg ⟨[outV H.next 1 (judgeW L R).length, outV (H.next + 1) 1 (judgeA L R).length]⟩, .int .i64 (judgeE L R)]⟩, addRows H (outN (judgeW L R).length (ints (judgeW L R)) ++ outN (judgeA L R).length (ints (judgeA L R)))) := by
 obtain ⟨u_L, a_L, b_L⟩ := hr_L 0
 obtain ⟨u_R, a_R, b_R⟩ := hr_R 1
 have k_L := isRows_flat zd h_L
 have k2_L : chunks 46 L.flatten = L := k_L.2
 have k_R := isRows_flat zd h_R
 have k2_R : chunks 22 R.flatten = R := k_R.2
 exact flatC_at (v := val_judge33 L R) (new := new_judge33 L R) (cl_sl a_L (cl_sl a_R cl_nil)) (by simp only [spec_judge33, sl_slOk b_L (cfs_len h_L), k_L.1, k2_L, sl_slOk b_R (cfs_len h_R), k_R.1, k2_R, hok, Bool.and_self, if_true]) (by unfold new_judge33; exact outN_free2 (ints_free0 _) (ints_free0 _)) (by exact gcV_tup2 (gcV_agg2 out_gc' (out_gcA (j := 1)) zd) (gcV_free rfl))
def ok_judge (L : List (List Value)) (R : List (List Value)) : Bool := decide (L.length ≤ 1000)
def val_judge (L : List (List Value)) (R : List (List Value)) : Value := .tuple ⟨[.agg ⟨[outV 2 1 (judgeW L R).length, outV 3 1 (judgeA L R).length]⟩, .int .i64 (judgeE L R)]⟩
def new_judge (L : List (List Value)) (R : List (List Value)) : List (List Value) := outN (judgeW L R).length (ints (judgeW L R)) ++ outN (judgeA L R).length (ints (judgeA L R))
def spec_judge : Go.AM.Spec := fun us cs => match us, cs with
 | [s_L, s_R], [c_L, c_R] => if slOk 0 46 c_L s_L && isRows T.K43 c_L && slOk 1 22 c_R s_R && isRows T.K41 c_R && ok_judge (chunks 46 c_L) (chunks 22 c_R) then some (val_judge (chunks 46 c_L) (chunks 22 c_R), new_judge (chunks 46 c_L) (chunks 22 c_R)) else none
 | _, _ => none
def c_judge := flatC [.sl 46, .sl 22] spec_judge
theorem judge_m {s_L : Value} {s_R : Value} {L : List (List Value)} {R : List (List Value)} (hs_L : Sl 0 46 L.length s_L) (h_L : cfs T.K43 L) (hs_R : Sl 1 22 R.length s_R) (h_R : cfs T.K41 R) (hok : ok_judge L R = true) : Meets Try.prog (.func 23) [s_L, s_R] (cheap [L.flatten, R.flatten]) (val_judge L R) (rheap [L.flatten, R.flatten] (new_judge L R)) := by
 have hP := Fits
 have hC : CallSound Try.prog (tabOf [(38, c_anyOdd)]) := tab_sound (tab_cons con_anyOdd tab_end)
 simp only [ok_judge, Bool.and_eq_true, decide_eq_true_eq] at hok
 have hb := hok
 refine meets_start (sz := 96) hP Try.func23 rfl rfl zo (by simp only [Tr.ofList, roRows, Nat.zero_add, Nat.reduceAdd] <;> rfl) zl ?_
 refine k_seq ?_
 refine k_region hP hC ?_
 refine os (y_alloc rfl T.z56 rfl rfl) ?_
 refine os (x_assign rfl (by rfl)) ?_
 refine o_done ?_
 refine e_seq ?_
 refine k_seq ?_
 refine k_seq ?_
 refine k_region hP hC ?_
 refine os (x_move rfl zt) ?_
 refine os (x_lenS hs_R rfl rfl zv rfl Try.underlying24) ?_
 refine os (x_move rfl zt) ?_
 refine os (x_lenS hs_L rfl rfl zv rfl Try.underlying23) ?_
 refine os (x_bin rfl zt zt b_neq) ?_
 refine os (x_move rfl zt) ?_
 refine o_guard rfl rfl zh (fun g2 => ?_) (fun g2 => ?_)
 ·have p2 := g2; try simp only [d1, d2, d3, d4, d5, d6, d7, d8, d9] at p2
  refine o_skip (wA_off rfl rfl zg) rfl zd ?_
  refine o_skip (wA_off rfl rfl zg) rfl zd ?_
  refine os (x_pick rfl zg zb) ?_
  refine o_done ?_
  refine e_seq ?_
  refine k_condT zg ?_
  refine k_seq ?_
  refine k_region hP hC ?_
  refine os (x_build (v := .agg ⟨[.slice none 0 0, .slice none 0 0]⟩) rfl zp T.z56 rfl zr) ?_
  refine o_stepN (wA_none rfl) rfl (y_storeA rfl zt zt T.s56 rfl zh rfl rfl rfl) ?_
  refine os (x_assign rfl (by rfl)) ?_
  refine o_done ?_
  refine e_seq ?_
  refine k_ret ?_
  refine e_seq_ret ?_
  have hE : judgeE L R = 1 := judgeE_1 (by first | exact .inl zs | exact .inr zs | exact .inr (poss_no zs))
  unfold val_judge new_judge judgeW judgeA
  rw [hE]
  simp only [Int.reduceEq, if_false, reduceIte]
  refine gives_mk2 (L := [0, 1]) (w := 2) (.inr rfl) zr (resA_cell zh T.g56 T.s56 (l_all (whole_row zh rfl) rfl) (resA_tmp zh resA_nil)) ?_ (gcH_cons (gcO_old (by rfl) zh) (gcH_cons (gcO_old (by rfl) zh) gcH_nil)) zr
  exact gcV_tup2 (gcV_agg2 (gcV_free rfl) (gcV_free rfl) zd) (gcV_free rfl)
 ·have p2 := g2; try simp only [d1, d2, d3, d4, d5, d6, d7, d8, d9] at p2
  refine o_step (wA_on rfl rfl zg) rfl (x_move rfl zt) zd ?_
  refine o_call0 (wA_on rfl rfl zg) rfl rfl rfl zv zd ?_
  refine ⟨_, _, (tab_hit.trans (anyOdd_c (rd_sl hs_L zd (whole_row zh rfl) (cfs_len h_L).symm (cfs_free0 h_L)) h_L (by rw [ok_anyOdd, decide_eq_true ow]))), ?_⟩
  refine os (x_pick rfl zg zb) ?_
  refine o_done ?_
  refine e_seq ?_
  refine k_cond (by simp only [Tr.get_set, reduceIte, Nat.reduceEqDiff, Nat.reduceAdd, ev_tmp, g2] <;> rfl) (fun g4 => ?_) (fun g4 => ?_)
  ·have p4 := g4; try simp only [d1, d2, d3, d4, d5, d6, d7, d8, d9] at p4
   refine k_seq ?_
   refine k_region hP hC ?_
   refine os (x_build (v := .agg ⟨[.slice none 0 0, .slice none 0 0]⟩) rfl zp T.z56 rfl zr) ?_
   refine o_stepN (wA_none rfl) rfl (y_storeA rfl zt zt T.s56 rfl zh rfl rfl rfl) ?_
   refine os (x_assign rfl (by rfl)) ?_
   refine o_done ?_
   refine e_seq ?_
   refine k_ret ?_
   refine e_seq_ret ?_
   have hE : judgeE L R = 1 := judgeE_1 (by first | exact .inl zs | exact .inr zs | exact .inr (poss_no zs))
   unfold val_judge new_judge judgeW judgeA
   rw [hE]
   simp only [Int.reduceEq, if_false, reduceIte]
   refine gives_mk2 (L := [0, 1]) (w := 2) (.inr rfl) zr (resA_cell zh T.g56 T.s56 (l_all (whole_row zh rfl) rfl) (resA_tmp zh resA_nil)) ?_ (gcH_cons (gcO_old (by rfl) zh) (gcH_cons (gcO_old (by rfl) zh) gcH_nil)) zr
   exact gcV_tup2 (gcV_agg2 (gcV_free rfl) (gcV_free rfl) zd) (gcV_free rfl)
  ·have p4 := g4; try simp only [d1, d2, d3, d4, d5, d6, d7, d8, d9] at p4
   refine k_skip ?_
   refine e_seq ?_
   refine k_seq ?_
   refine k_region hP hC ?_
   refine os (y_makeMap rfl) ?_
   refine os (x_assign rfl zt) ?_
   refine o_done ?_
   refine e_seq ?_
   refine k_seq ?_
   refine k_seq ?_
   refine k_region hP hC ?_
   refine os (x_move rfl zt) ?_
   refine os (x_lenS hs_L rfl rfl zv rfl Try.underlying23) ?_
   refine os (x_move rfl (by rfl)) ?_
   refine o_done ?_
   refine e_seq ?_
   refine k_block ?_
   refine k_loop (α := Int × List (Value × Value)) (fun z => match z with | (i, M) => cst 96 [0, 1, 4, 6, 26, 27, 28] [s_L, s_R, .pointer (some ⟨2, 0, none⟩), .map (some 3), s_L, .int .i64 L.length, .int .i64 i] [.row L.flatten 0 BIG true L.flatten.length, .row R.flatten 1 BIG true R.flatten.length, .row [.slice none 0 0, .slice none 0 0] 2 BIG false 2, .map (ents 0 M) M.length] 2) (fun z => match z with | (i, M) => 0 ≤ i ∧ i ≤ L.length ∧ KInv L R i M) (fun z => match z with | (i, _) => (L.length - i).toNat) (0, []) (to_mk (L := [0, 1, 2, 3]) (slots := [0, 1, 4, 6, 26, 27, 28]) (w := 2) zr (gcVs_cons zh (gcV_sl hs_L rfl) (gcVs_cons zh (gcV_sl hs_R rfl) (gcVs_cons zh (gcV_ptr rfl) (gcVs_cons zh (gcV_map rfl) (gcVs_cons zh (gcV_sl hs_L rfl) (gcVs_cons zh (gcV_free rfl) (gcVs_cons zh (gcV_free rfl) gcVs_nil))))))) (gcH_cons (gcO_old (by rfl) zh) (gcH_cons (gcO_old (by rfl) zh) (gcH_cons (gcO_rowE (by rfl) zh (gcD_free rfl) rfl) (gcH_cons (gcO_map (by rfl) zh (gcM_free (M := []) (by simp))) gcH_nil)))) zr) ⟨by omega, by omega, KInv.start⟩ ?_
   rintro ⟨i, M⟩ ⟨h0, h1, hM⟩
   rcases Int.lt_or_le i L.length with hlt0 | hge0
   ·skip
    rcases hlk : lookM (askK (nth L i)) M with _ | v0
    ·skip
     refine k_cst zm zo zl ?_
     refine k_seq ?_
     refine k_region hP hC ?_
     refine os (x_bin (u := .bool true) rfl zt zt (by rw [b_lss]; congr 2; first | exact decide_eq_true hlt0 | exact decide_eq_false ow)) ?_
     refine o_done ?_
     refine e_seq ?_
     refine k_seq ?_
     refine k_condT zt ?_
     refine k_skip ?_
     refine e_seq ?_
     refine k_seq ?_
     refine k_block ?_
     refine k_seq ?_
     refine k_region hP hC ?_
     refine os (x_move rfl zt) ?_
     refine os (x_indexS hs_L rfl zt zt Try.underlying23 T.s43 ow ow) ?_
     refine os (x_loadA rfl zt T.g43 T.s43 (l_elem (whole_row zh rfl) zs rfl ow ow)) ?_
     refine os (y_alloc rfl T.z43 rfl rfl) ?_
     refine os (x_assign rfl zt) ?_
     refine o_stepN (wA_none rfl) rfl (y_storeA rfl zt zt T.s43 (cf_len (ks := T.K43) (by first | assumption | rfl | (apply cf_part; (first | assumption | (exact cf_nth zs ow ow)); rfl) | (exact cf_nth zs ow ow))) zh rfl rfl (cf_oneC (ks := T.K43) (by first | assumption | rfl | (apply cf_part; (first | assumption | (exact cf_nth zs ow ow)); rfl) | (exact cf_nth zs ow ow)))) ?_
     refine o_done ?_
     refine e_seq ?_
     refine k_seq ?_
     refine k_seq ?_
     refine k_region hP hC ?_
     refine os (x_move rfl zt) ?_
     refine os (x_field (off' := 2) rfl zt Try.underlying43 rfl T.s37 rfl) ?_
     refine os (x_loadA rfl zt T.g37 T.s37 (l_box (whole_row zh rfl) (by (first | assumption | (exact cf_nth zs ow ow))) zd)) ?_
     refine os (y_lookNo (M := M) (k := askK (nth L i)) rfl zt zt Try.underlying93 Try.underlying37 zd T.f37 (askK_ok (cf_nth h_L ow ow)) hM.key T.z41 rfl zh hlk) ?_
     refine os (x_move rfl zt) ?_
     refine os (x_extract (v := .agg ⟨[.int .i64 0, .string .empty, .int .i64 0, .int .i64 0, .int .i64 0, .int .i64 0, .int .u8 0, .int .u8 0, .int .u8 0, .int .u8 0, .int .u8 0, .int .u8 0, .int .u8 0, .int .u8 0, .int .u8 0, .int .u8 0, .int .u8 0, .int .u8 0, .int .u8 0, .int .u8 0, .int .u8 0, .int .u8 0]⟩) rfl zt rfl) ?_
     refine os (x_extract (v := .bool false) rfl zt rfl) ?_
     refine os (y_alloc rfl T.z41 rfl rfl) ?_
     refine o_stepN (wA_none rfl) rfl (y_storeA rfl zt zt T.s41 (cf_len (ks := T.K41) (by first | assumption | rfl | (apply cf_part; (first | assumption | (exact cf_nth zs ow ow)); rfl) | (exact cf_nth zs ow ow))) zh rfl rfl (cf_oneC (ks := T.K41) (by first | assumption | rfl | (apply cf_part; (first | assumption | (exact cf_nth zs ow ow)); rfl) | (exact cf_nth zs ow ow)))) ?_
     refine os (x_assign rfl zt) ?_
     refine o_done ?_
     refine e_seq ?_
     refine k_seq ?_
     refine k_draw hP hC zr ?_
     refine ds (x_move rfl zt) ?_
     refine ds (x_move rfl zt) ?_
     refine d_skip (wA_off rfl rfl zh) rfl zd ?_
     refine d_skip (wA_off rfl rfl zh) rfl zd ?_
     refine d_skip (wA_off rfl rfl zh) rfl zd ?_
     refine d_skip (wA_off rfl rfl zh) rfl zd ?_
     refine d_skip (wA_off rfl rfl zh) rfl zd ?_
     refine d_skip (wA_off rfl rfl zh) rfl zd ?_
     refine ds (x_pick rfl (by simp only [Tr.get_set, reduceIte, Nat.reduceEqDiff, Nat.reduceAdd, ev_tmp] <;> rfl) zb) ?_
     refine d_done ⟨by kernel_rfl, ?_⟩
     refine e_seq ?_
     refine k_condF zt ?_
     refine k_skip ?_
     refine e_seq ?_
     refine k_draw hP hC zr ?_
     refine ds (x_move rfl zt) ?_
     refine ds (x_field (off' := 2) rfl zt Try.underlying43 rfl T.s37 rfl) ?_
     refine ds (x_loadA rfl zt T.g37 T.s37 (l_box (whole_row zh rfl) (by (first | assumption | (exact cf_nth zs ow ow))) zd)) ?_
     refine ds (x_move rfl zt) ?_
     refine ds (x_move rfl zt) ?_
     refine ds (x_indexS hs_R rfl zt zt Try.underlying24 T.s41 ow ow) ?_
     refine ds (x_loadA rfl zt T.g41 T.s41 (l_elem (whole_row zh rfl) zs rfl ow ow)) ?_
     refine d_stepN (wA_none rfl) rfl (y_mapNew (M := M) (k := askK (nth L i)) (v := .agg ⟨nth R i⟩) rfl zt zt zt Try.underlying93 Try.underlying37 zd T.f37 (askK_ok (cf_nth h_L ow ow)) hM.key zh hlk) ?_
     refine d_done ⟨by kernel_rfl, ?_⟩
     refine e_block ?_
     refine e_seq ?_
     refine k_region hP hC ?_
     refine os (x_bin rfl zt (by rfl) b_add) ?_
     refine os (x_move rfl zt) ?_
     refine o_done ?_
     refine e_loop ?_
     refine ⟨(IntKind.i64.wrap (i + 1), (M ++ [(askK (nth L i), .agg ⟨nth R i⟩)])), (to_mk (L := [0, 1, 2, 3]) (slots := [0, 1, 4, 6, 26, 27, 28]) (w := 2) zr (gcVs_cons zh (gcV_sl hs_L rfl) (gcVs_cons zh (gcV_sl hs_R rfl) (gcVs_cons zh (gcV_ptr rfl) (gcVs_cons zh (gcV_map rfl) (gcVs_cons zh (gcV_sl hs_L rfl) (gcVs_cons zh (gcV_free rfl) (gcVs_cons zh (gcV_free rfl) gcVs_nil))))))) (gcH_cons (gcO_old (by rfl) zh) (gcH_cons (gcO_old (by rfl) zh) (gcH_cons (gcO_rowE (by rfl) zh (gcD_free rfl) rfl) (gcH_cons (gcO_map (by rfl) zh (gcM_free (hM.new h_L h_R zs h0 hlt0 hlk).val)) gcH_nil)))) zr), ?_, ?_⟩
     ·rw [wr1 ow ow]; exact ⟨by omega, by omega, hM.new h_L h_R zs h0 hlt0 hlk⟩
     ·show (L.length - IntKind.i64.wrap (i + 1)).toNat < (L.length - i).toNat; rw [wr1 ow ow]; omega
    ·skip
     obtain ⟨rv, rfl, hrv⟩ := hM.val_shape h_R zs hlt0 hlk
     refine k_cst zm zo zl ?_
     refine k_seq ?_
     refine k_region hP hC ?_
     refine os (x_bin (u := .bool true) rfl zt zt (by rw [b_lss]; congr 2; first | exact decide_eq_true hlt0 | exact decide_eq_false ow)) ?_
     refine o_done ?_
     refine e_seq ?_
     refine k_seq ?_
     refine k_condT zt ?_
     refine k_skip ?_
     refine e_seq ?_
     refine k_seq ?_
     refine k_block ?_
     refine k_seq ?_
     refine k_region hP hC ?_
     refine os (x_move rfl zt) ?_
     refine os (x_indexS hs_L rfl zt zt Try.underlying23 T.s43 ow ow) ?_
     refine os (x_loadA rfl zt T.g43 T.s43 (l_elem (whole_row zh rfl) zs rfl ow ow)) ?_
     refine os (y_alloc rfl T.z43 rfl rfl) ?_
     refine os (x_assign rfl zt) ?_
     refine o_stepN (wA_none rfl) rfl (y_storeA rfl zt zt T.s43 (cf_len (ks := T.K43) (by first | assumption | rfl | (apply cf_part; (first | assumption | (exact cf_nth zs ow ow)); rfl) | (exact cf_nth zs ow ow))) zh rfl rfl (cf_oneC (ks := T.K43) (by first | assumption | rfl | (apply cf_part; (first | assumption | (exact cf_nth zs ow ow)); rfl) | (exact cf_nth zs ow ow)))) ?_
     refine o_done ?_
     refine e_seq ?_
     refine k_seq ?_
     refine k_seq ?_
     refine k_region hP hC ?_
     refine os (x_move rfl zt) ?_
     refine os (x_field (off' := 2) rfl zt Try.underlying43 rfl T.s37 rfl) ?_
     refine os (x_loadA rfl zt T.g37 T.s37 (l_box (whole_row zh rfl) (by (first | assumption | (exact cf_nth zs ow ow))) zd)) ?_
     refine os (y_lookYes (M := M) (k := askK (nth L i)) rfl zt zt Try.underlying93 Try.underlying37 zd T.f37 (askK_ok (cf_nth h_L ow ow)) hM.key T.z41 rfl zh hlk) ?_
     refine os (x_move rfl zt) ?_
     refine os (x_extract (v := .agg ⟨rv⟩) rfl zt rfl) ?_
     refine os (x_extract (v := .bool true) rfl zt rfl) ?_
     refine os (y_alloc rfl T.z41 rfl rfl) ?_
     refine o_stepN (wA_none rfl) rfl (y_storeA rfl zt zt T.s41 (cf_len (ks := T.K41) (by first | assumption | rfl | (apply cf_part; (first | assumption | (exact cf_nth zs ow ow)); rfl) | (exact cf_nth zs ow ow))) zh rfl rfl (cf_oneC (ks := T.K41) (by first | assumption | rfl | (apply cf_part; (first | assumption | (exact cf_nth zs ow ow)); rfl) | (exact cf_nth zs ow ow)))) ?_
     refine os (x_assign rfl zt) ?_
     refine o_done ?_
     refine e_seq ?_
     refine k_seq ?_
     refine k_draw hP hC zr ?_
     refine ds (x_move rfl zt) ?_
     refine ds (x_move rfl zt) ?_
     refine d_step (wA_on rfl rfl zh) rfl (x_loadA rfl zt T.g41 T.s41 (l_boxAll (whole_row zh rfl) (by (first | assumption | (exact cf_nth zs ow ow))) rfl)) zd ?_
     refine d_step (wA_on rfl rfl zh) rfl (x_move rfl zt) zd ?_
     refine d_step (wA_on rfl rfl zh) rfl (x_move rfl zt) zd ?_
     refine d_step (wA_on rfl rfl zh) rfl (x_indexS hs_R rfl zt zt Try.underlying24 T.s41 ow ow) zd ?_
     refine d_step (wA_on rfl rfl zh) rfl (x_loadA rfl zt T.g41 T.s41 (l_elem (whole_row zh rfl) zs rfl ow ow)) zd ?_
     refine d_step (wA_on rfl rfl zh) rfl (x_bin rfl zt zt (b_neqA zd T.f41 T.g41 T.q41 (by first | assumption | rfl | (apply cf_part; (first | assumption | (exact cf_nth zs ow ow)); rfl) | (exact cf_nth zs ow ow)) (by first | assumption | rfl | (apply cf_part; (first | assumption | (exact cf_nth zs ow ow)); rfl) | (exact cf_nth zs ow ow)))) zd ?_
     refine ds (x_pick rfl (by simp only [Tr.get_set, reduceIte, Nat.reduceEqDiff, Nat.reduceAdd, ev_tmp] <;> rfl) zb) ?_
     refine d_done ⟨by kernel_rfl, ?_⟩
     refine e_seq ?_
     refine k_cond zt (fun g6 => ?_) (fun g6 => ?_)
     ·have p6 := g6; try simp only [d1, d2, d3, d4, d5, d6, d7, d8, d9] at p6
      refine k_seq ?_
      refine k_region hP hC ?_
      refine os (x_build (v := .agg ⟨[.slice none 0 0, .slice none 0 0]⟩) rfl zp T.z56 rfl zr) ?_
      refine o_stepN (wA_none rfl) rfl (y_storeA rfl zt zt T.s56 rfl zh rfl rfl rfl) ?_
      refine os (x_assign rfl (by rfl)) ?_
      refine o_done ?_
      refine e_seq ?_
      refine k_ret ?_
      refine e_seq_ret ?_
      refine e_block_ret ?_
      refine e_seq_ret ?_
      refine e_loop_ret ?_
      refine e_block_ret ?_
      refine e_seq_ret ?_
      have hE : judgeE L R = 14 := judgeE_14 zs (by first | assumption | exact poss_yes zs) (hM.bad h_L h0 hlt0 hlk zs)
      unfold val_judge new_judge judgeW judgeA
      rw [hE]
      simp only [Int.reduceEq, if_false, reduceIte]
      refine gives_mk2 (L := [0, 1]) (w := 2) (.inr rfl) zr (resA_cell zh T.g56 T.s56 (l_all (whole_row zh rfl) rfl) (resA_tmp zh resA_nil)) ?_ (gcH_cons (gcO_old (by rfl) zh) (gcH_cons (gcO_old (by rfl) zh) gcH_nil)) zr
      exact gcV_tup2 (gcV_agg2 (gcV_free rfl) (gcV_free rfl) zd) (gcV_free rfl)
     ·have p6 := g6; try simp only [d1, d2, d3, d4, d5, d6, d7, d8, d9] at p6
      refine k_skip ?_
      refine e_seq ?_
      refine k_draw hP hC zr ?_
      refine ds (x_move rfl zt) ?_
      refine ds (x_field (off' := 2) rfl zt Try.underlying43 rfl T.s37 rfl) ?_
      refine ds (x_loadA rfl zt T.g37 T.s37 (l_box (whole_row zh rfl) (by (first | assumption | (exact cf_nth zs ow ow))) zd)) ?_
      refine ds (x_move rfl zt) ?_
      refine ds (x_move rfl zt) ?_
      refine ds (x_indexS hs_R rfl zt zt Try.underlying24 T.s41 ow ow) ?_
      refine ds (x_loadA rfl zt T.g41 T.s41 (l_elem (whole_row zh rfl) zs rfl ow ow)) ?_
      refine d_stepN (wA_none rfl) rfl (y_mapSame (M := M) (k := askK (nth L i)) (v := .agg ⟨nth R i⟩) rfl zt zt zt Try.underlying93 Try.underlying37 zd T.f37 (askK_ok (cf_nth h_L ow ow)) hM.key zh (by rw [hlk, (eqCs_iff hrv).1 zs])) ?_
      refine d_done ⟨by kernel_rfl, ?_⟩
      refine e_block ?_
      refine e_seq ?_
      refine k_region hP hC ?_
      refine os (x_bin rfl zt (by rfl) b_add) ?_
      refine os (x_move rfl zt) ?_
      refine o_done ?_
      refine e_loop ?_
      refine ⟨(IntKind.i64.wrap (i + 1), M), (to_mk (L := [0, 1, 2, 3]) (slots := [0, 1, 4, 6, 26, 27, 28]) (w := 2) zr (gcVs_cons zh (gcV_sl hs_L rfl) (gcVs_cons zh (gcV_sl hs_R rfl) (gcVs_cons zh (gcV_ptr rfl) (gcVs_cons zh (gcV_map rfl) (gcVs_cons zh (gcV_sl hs_L rfl) (gcVs_cons zh (gcV_free rfl) (gcVs_cons zh (gcV_free rfl) gcVs_nil))))))) (gcH_cons (gcO_old (by rfl) zh) (gcH_cons (gcO_old (by rfl) zh) (gcH_cons (gcO_rowE (by rfl) zh (gcD_free rfl) rfl) (gcH_cons (gcO_map (by rfl) zh (gcM_free hM.val)) gcH_nil)))) zr), ?_, ?_⟩
      ·rw [wr1 ow ow]; exact ⟨by omega, by omega, hM.same hrv hlk zs⟩
      ·show (L.length - IntKind.i64.wrap (i + 1)).toNat < (L.length - i).toNat; rw [wr1 ow ow]; omega
   ·skip
    refine k_cst zm zo zl ?_
    refine k_seq ?_
    refine k_region hP hC ?_
    refine os (x_bin (u := .bool false) rfl zt zt (by rw [b_lss]; congr 2; first | exact decide_eq_true hlt0 | exact decide_eq_false ow)) ?_
    refine o_done ?_
    refine e_seq ?_
    refine k_seq ?_
    refine k_condF zt ?_
    refine k_exit ?_
    refine e_seq_exit ?_
    refine e_loop_exit ?_
    refine e_block_eq ?_
    refine e_seq ?_
    refine k_seq ?_
    refine k_region hP hC ?_
    refine os (y_alloc rfl T.z56 rfl rfl) ?_
    refine o_done ?_
    refine e_seq ?_
    refine k_seq ?_
    refine k_seq ?_
    refine k_region hP hC ?_
    refine os (x_move rfl (by rfl)) ?_
    refine o_done ?_
    refine e_seq ?_
    refine k_block ?_
    have hnc : clashR L R = false := hM.done h_L h_R zs hge0
    clear hM
    refine k_loop (α := Bool × Int × List Int × List Int) (fun z => match z with | (false, w, accW, accA) => cst 96 [0, 1, 4, 11, 58] [s_L, s_R, .pointer (some ⟨2, 0, none⟩), .pointer (some ⟨3, 0, none⟩), .int .i64 w] [.row L.flatten 0 BIG true L.flatten.length, .row R.flatten 1 BIG true R.flatten.length, .row [.slice none 0 0, .slice none 0 0] 2 BIG false 2, .row [.slice none 0 0, .slice none 0 0] 3 BIG false 2] 2 | (true, w, accW, accA) => cst 96 [0, 1, 4, 11, 58] [s_L, s_R, .pointer (some ⟨2, 0, none⟩), .pointer (some ⟨3, 0, none⟩), .int .i64 w] [.row L.flatten 0 BIG true L.flatten.length, .row R.flatten 1 BIG true R.flatten.length, .row [.slice none 0 0, .slice none 0 0] 2 BIG false 2, .row [.slice (some ⟨4, 0, none⟩) accW.length (accW.length + 1), .slice (some ⟨5, 0, none⟩) accA.length (accA.length + 1)] 3 BIG false 2, .row (ints accW) 4 BIG false (ints accW).length, .row (ints accA) 5 BIG false (ints accA).length] 2) (fun z => match z with | (b, w, accW, accA) => 0 ≤ w ∧ w ≤ 6 ∧ (accW, accA) = jOut L R w ∧ accW.isEmpty = !b ∧ accA.isEmpty = !b ∧ (∀ v ∈ accW, v < w)) (fun z => match z with | (_, w, _, _) => (6 - w).toNat) (false, 0, [], []) (to_mk (L := [0, 1, 2, 4]) (slots := [0, 1, 4, 11, 58]) (w := 2) zr (gcVs_cons zh (gcV_sl hs_L rfl) (gcVs_cons zh (gcV_sl hs_R rfl) (gcVs_cons zh (gcV_ptr rfl) (gcVs_cons zh (gcV_ptr rfl) (gcVs_cons zh (gcV_free rfl) gcVs_nil))))) (gcH_cons (gcO_old (by rfl) zh) (gcH_cons (gcO_old (by rfl) zh) (gcH_cons (gcO_rowE (by rfl) zh (gcD_free rfl) rfl) (gcH_cons (gcO_rowE (by rfl) zh (gcD_free rfl) rfl) gcH_nil)))) zr) ⟨by omega, by omega, rfl, rfl, rfl, by simp⟩ ?_
    rintro ⟨_ | _, w, accW, accA⟩ ⟨hw0, hw6, h2, hbW, hbA, hlt⟩
    ·skip
     have haW : accW = [] := List.isEmpty_iff.1 hbW
     have haA : accA = [] := List.isEmpty_iff.1 hbA
     refine k_cst zm zo zl ?_
     refine k_seq ?_
     refine k_region hP hC ?_
     refine os (x_bin rfl zt (by rfl) b_lss) ?_
     refine o_done ?_
     refine e_seq ?_
     refine k_seq ?_
     refine k_cond zt (fun g8 => ?_) (fun g8 => ?_)
     ·have p8 := g8; try simp only [d1, d2, d3, d4, d5, d6, d7, d8, d9] at p8
      refine k_skip ?_
      refine e_seq ?_
      refine k_seq ?_
      refine k_block ?_
      refine k_seq ?_
      refine k_region hP hC ?_
      refine os (x_move rfl zt) ?_
      refine os (x_assign rfl zt) ?_
      refine o_done ?_
      refine e_seq ?_
      refine k_seq ?_
      refine k_region hP hC ?_
      refine os (x_move rfl zt) ?_
      refine os (x_lenS hs_L rfl rfl zv rfl Try.underlying23) ?_
      refine os (x_move rfl (by rfl)) ?_
      refine o_done ?_
      refine e_seq ?_
      refine k_block ?_
      refine k_loop (α := Bool × Int × List Int × List Int) (fun z => match z with | (false, i, accW, accA) => cst 96 [0, 1, 4, 11, 58, 12, 61, 62, 63] [s_L, s_R, .pointer (some ⟨2, 0, none⟩), .pointer (some ⟨3, 0, none⟩), .int .i64 w, .int .i64 w, s_L, .int .i64 L.length, .int .i64 i] [.row L.flatten 0 BIG true L.flatten.length, .row R.flatten 1 BIG true R.flatten.length, .row [.slice none 0 0, .slice none 0 0] 2 BIG false 2, .row [.slice none 0 0, .slice none 0 0] 3 BIG false 2] 2 | (true, i, accW, accA) => cst 96 [0, 1, 4, 11, 58, 12, 61, 62, 63] [s_L, s_R, .pointer (some ⟨2, 0, none⟩), .pointer (some ⟨3, 0, none⟩), .int .i64 w, .int .i64 w, s_L, .int .i64 L.length, .int .i64 i] [.row L.flatten 0 BIG true L.flatten.length, .row R.flatten 1 BIG true R.flatten.length, .row [.slice none 0 0, .slice none 0 0] 2 BIG false 2, .row [.slice (some ⟨4, 0, none⟩) accW.length (accW.length + 1), .slice (some ⟨5, 0, none⟩) accA.length (accA.length + 1)] 3 BIG false 2, .row (ints accW) 4 BIG false (ints accW).length, .row (ints accA) 5 BIG false (ints accA).length] 2) (fun z => match z with | (b, i, accW, accA) => 0 ≤ i ∧ i ≤ L.length ∧ (accW, accA) = jIn L R w (jOut L R w) i ∧ accW.isEmpty = !b ∧ accA.isEmpty = !b ∧ (∀ v ∈ accW, v < w)) (fun z => match z with | (_, i, _, _) => (L.length - i).toNat) (false, 0, accW, accA) (to_mk (L := [0, 1, 2, 3]) (slots := [0, 1, 4, 11, 58, 12, 61, 62, 63]) (w := 2) zr (gcVs_cons zh (gcV_sl hs_L rfl) (gcVs_cons zh (gcV_sl hs_R rfl) (gcVs_cons zh (gcV_ptr rfl) (gcVs_cons zh (gcV_ptr rfl) (gcVs_cons zh (gcV_free rfl) (gcVs_cons zh (gcV_free rfl) (gcVs_cons zh (gcV_sl hs_L rfl) (gcVs_cons zh (gcV_free rfl) (gcVs_cons zh (gcV_free rfl) gcVs_nil))))))))) (gcH_cons (gcO_old (by rfl) zh) (gcH_cons (gcO_old (by rfl) zh) (gcH_cons (gcO_rowE (by rfl) zh (gcD_free rfl) rfl) (gcH_cons (gcO_rowE (by rfl) zh (gcD_free rfl) rfl) gcH_nil)))) zr) ⟨by omega, by omega, h2, hbW, hbA, hlt⟩ ?_
      clear h2 hbW hbA hlt
      clear haW haA
      rintro ⟨_ | _, i, accW, accA⟩ ⟨h0, h1, h2, hbW, hbA, hlt⟩
      ·skip
       have haW : accW = [] := List.isEmpty_iff.1 hbW
       have haA : accA = [] := List.isEmpty_iff.1 hbA
       refine k_cst zm zo zl ?_
       refine k_seq ?_
       refine k_region hP hC ?_
       refine os (x_bin rfl zt zt b_lss) ?_
       refine o_done ?_
       refine e_seq ?_
       refine k_seq ?_
       refine k_cond zt (fun g10 => ?_) (fun g10 => ?_)
       ·have p10 := g10; try simp only [d1, d2, d3, d4, d5, d6, d7, d8, d9] at p10
        refine k_skip ?_
        refine e_seq ?_
        refine k_seq ?_
        refine k_block ?_
        refine k_seq ?_
        refine k_region hP hC ?_
        refine os (x_move rfl zt) ?_
        refine os (x_indexS hs_L rfl zt zt Try.underlying23 T.s43 ow ow) ?_
        refine os (x_loadA rfl zt T.g43 T.s43 (l_elem (whole_row zh rfl) zs rfl ow ow)) ?_
        refine os (y_alloc rfl T.z43 rfl rfl) ?_
        refine os (x_assign rfl zt) ?_
        refine o_stepN (wA_none rfl) rfl (y_storeA rfl zt zt T.s43 (cf_len (ks := T.K43) (by first | assumption | rfl | (apply cf_part; (first | assumption | (exact cf_nth zs ow ow)); rfl) | (exact cf_nth zs ow ow))) zh rfl rfl (cf_oneC (ks := T.K43) (by first | assumption | rfl | (apply cf_part; (first | assumption | (exact cf_nth zs ow ow)); rfl) | (exact cf_nth zs ow ow)))) ?_
        refine o_done ?_
        refine e_seq ?_
        refine k_seq ?_
        refine k_draw hP hC zr ?_
        refine ds (x_field (off' := 0) rfl zt Try.underlying43 rfl T.s3 rfl) ?_
        refine ds (x_load1 rfl zt T.g3 (by first | exact l_boxI (whole_row zh rfl) (by (first | assumption | (exact cf_nth zs ow ow))) rfl | exact l_boxS (whole_row zh rfl) (by (first | assumption | (exact cf_nth zs ow ow))) rfl | (simp only [loadC, AH.fam, Tr.get_set, reduceIte, Nat.reduceEqDiff, Nat.reduceAdd, Fam.rb, List.drop_zero, List.drop_succ_cons, List.take_succ_cons, List.take_zero, List.length_cons, List.length_nil, Nat.zero_le, Nat.reduceLeDiff, and_self, true_and] <;> rfl))) ?_
        refine ds (x_move rfl zt) ?_
        refine ds (x_bin rfl zt zt b_eql) ?_
        refine ds (x_move rfl zt) ?_
        refine d_guard rfl rfl zh (fun g12 => ?_) (fun g12 => ?_)
        ·have p12 := g12; try simp only [d1, d2, d3, d4, d5, d6, d7, d8, d9] at p12
         refine d_step (wA_on rfl rfl zg) rfl (x_field (off' := 23) rfl zt Try.underlying43 rfl T.s41 rfl) zd ?_
         refine d_step (wA_on rfl rfl zg) rfl (x_loadA rfl zt T.g41 T.s41 (l_box (whole_row zh rfl) (by (first | assumption | (exact cf_nth zs ow ow))) zd)) zd ?_
         refine d_step (wA_on rfl rfl zg) rfl (x_move rfl zt) zd ?_
         refine d_step (wA_on rfl rfl zg) rfl (x_move rfl zt) zd ?_
         refine d_step (wA_on rfl rfl zg) rfl (x_indexS hs_R rfl zt zt Try.underlying24 T.s41 ow ow) zd ?_
         refine d_step (wA_on rfl rfl zg) rfl (x_loadA rfl zt T.g41 T.s41 (l_elem (whole_row zh rfl) zs rfl ow ow)) zd ?_
         refine d_step (wA_on rfl rfl zg) rfl (x_bin rfl zt zt (b_neqA zd T.f41 T.g41 T.q41 (by first | assumption | rfl | (apply cf_part; (first | assumption | (exact cf_nth zs ow ow)); rfl) | (exact cf_nth zs ow ow)) (by first | assumption | rfl | (apply cf_part; (first | assumption | (exact cf_nth zs ow ow)); rfl) | (exact cf_nth zs ow ow)))) zd ?_
         refine ds (x_pick rfl zg zb) ?_
         refine d_done ⟨by kernel_rfl, ?_⟩
         refine e_seq ?_
         refine k_cond (by simp only [Tr.get_set, reduceIte, Nat.reduceEqDiff, Nat.reduceAdd, ev_tmp, g10, g12] <;> rfl) (fun g14 => ?_) (fun g14 => ?_)
         ·have p14 := g14; try simp only [d1, d2, d3, d4, d5, d6, d7, d8, d9] at p14
          refine k_seq ?_
          refine k_region hP hC ?_
          refine os (x_field (off' := 0) rfl zt Try.underlying56 rfl T.s22 rfl) ?_
          refine os (x_load1' rfl zt T.g22 zh rfl (Nat.le_of_ble_eq_true rfl) (by simp only [List.take_succ_cons, List.drop_succ_cons, List.take_zero, List.drop_zero, List.take_nil, List.drop_nil, List.cons_append, List.nil_append, List.append_nil, List.length_cons, List.length_nil, Nat.reduceAdd, Int.toNat_zero, Nat.zero_mul, Nat.add_zero, Nat.zero_add] <;> rfl)) ?_
          refine os (x_move rfl zt) ?_
          refine os (y_bsliceV rfl zt rfl Try.underlying22 T.s3 T.z3 rfl rfl) ?_
          refine os (x_append rfl rfl zv rfl rfl zr (cells_row Try.underlying22 T.s3 (l_all (whole_row zh rfl) rfl)) (ya_nil Try.underlying22 T.i22 zd rfl zd zd rfl zd)) ?_
          refine os (x_field (off' := 0) rfl zt Try.underlying56 rfl T.s22 rfl) ?_
          refine o_stepN (wA_none rfl) rfl (y_store1P rfl zt zt rfl T.s22 zh rfl (Nat.le_of_ble_eq_true rfl) rfl (by simp only [splice, List.take_succ_cons, List.drop_succ_cons, List.take_zero, List.drop_zero, List.take_nil, List.drop_nil, List.cons_append, List.nil_append, List.append_nil, List.length_cons, List.length_nil, Nat.reduceAdd, Int.toNat_zero, Nat.zero_mul, Nat.add_zero, Nat.zero_add] <;> rfl)) ?_
          refine o_done ?_
          refine e_seq ?_
          refine k_seq ?_
          refine k_region hP hC ?_
          refine os (x_field (off' := 1) rfl zt Try.underlying56 rfl T.s22 rfl) ?_
          refine os (x_load1' rfl zt T.g22 zh rfl (Nat.le_of_ble_eq_true rfl) (by simp only [List.take_succ_cons, List.drop_succ_cons, List.take_zero, List.drop_zero, List.take_nil, List.drop_nil, List.cons_append, List.nil_append, List.append_nil, List.length_cons, List.length_nil, Nat.reduceAdd, Int.toNat_zero, Nat.zero_mul, Nat.add_zero, Nat.zero_add] <;> rfl)) ?_
          refine os (x_move rfl zt) ?_
          refine os (y_bsliceV rfl zt rfl Try.underlying22 T.s3 T.z3 rfl rfl) ?_
          refine os (x_append rfl rfl zv rfl rfl zr (cells_row Try.underlying22 T.s3 (l_all (whole_row zh rfl) rfl)) (ya_nil Try.underlying22 T.i22 zd rfl zd zd rfl zd)) ?_
          refine os (x_field (off' := 1) rfl zt Try.underlying56 rfl T.s22 rfl) ?_
          refine o_stepN (wA_none rfl) rfl (y_store1P rfl zt zt rfl T.s22 zh rfl (Nat.le_of_ble_eq_true rfl) rfl (by simp only [splice, List.take_succ_cons, List.drop_succ_cons, List.take_zero, List.drop_zero, List.take_nil, List.drop_nil, List.cons_append, List.nil_append, List.append_nil, List.length_cons, List.length_nil, Nat.reduceAdd, Int.toNat_zero, Nat.zero_mul, Nat.add_zero, Nat.zero_add] <;> rfl)) ?_
          refine o_done ?_
          refine e_seq ?_
          refine k_exit ?_
          refine e_block_ne zd ?_
          refine e_seq_exit ?_
          refine e_loop_exit ?_
          refine e_block_eq ?_
          refine e_block ?_
          refine e_seq ?_
          refine k_region hP hC ?_
          refine os (x_bin rfl zt (by rfl) b_add) ?_
          refine os (x_move rfl zt) ?_
          refine o_done ?_
          refine e_loop ?_
          refine ⟨(true, IntKind.i64.wrap (w + 1), [w], [i]), (to_mk (L := [0, 1, 2, 3, 6, 8]) (slots := [0, 1, 4, 11, 58]) (w := 2) zr (gcVs_cons zh (gcV_sl hs_L rfl) (gcVs_cons zh (gcV_sl hs_R rfl) (gcVs_cons zh (gcV_ptr rfl) (gcVs_cons zh (gcV_ptr rfl) (gcVs_cons zh (gcV_free rfl) gcVs_nil))))) (gcH_cons (gcO_old (by rfl) zh) (gcH_cons (gcO_old (by rfl) zh) (gcH_cons (gcO_rowE (by rfl) zh (gcD_free rfl) rfl) (gcH_cons (gcO_rowE (by rfl) zh (gcD_cons (gcV_sliceE rfl rfl) (gcD_cons (gcV_sliceE rfl rfl) gcD_nil)) rfl) (gcH_cons (gcO_rowE (by rfl) zh (gcD_free rfl) (by simp only [ints_append, ints_one])) (gcH_cons (gcO_rowE (by rfl) zh (gcD_free rfl) (by simp only [ints_append, ints_one])) gcH_nil)))))) zr), ?_, ?_⟩
          ·rw [wr1 ow ow]; refine ⟨by omega, by omega, ?_, ?_, ?_, ?_⟩
           ·rw [jOut_next hw0]; exact jIn_done h0 ow (by rw [haW, haA] at h2; exact (jIn_hit h0 h2 zs zs (by simp))) (by simp)
           ·simp
           ·simp
           ·intro v hv; simp at hv; omega
          ·show (6 - IntKind.i64.wrap (w + 1)).toNat < (6 - w).toNat; rw [wr1 ow ow]; omega
         ·have p14 := g14; try simp only [d1, d2, d3, d4, d5, d6, d7, d8, d9] at p14
          refine k_skip ?_
          refine e_block ?_
          refine e_seq ?_
          refine k_region hP hC ?_
          refine os (x_bin rfl zt (by rfl) b_add) ?_
          refine os (x_move rfl zt) ?_
          refine o_done ?_
          refine e_loop ?_
          refine ⟨(false, IntKind.i64.wrap (i + 1), accW, accA), (to_mk (L := [0, 1, 2, 3]) (slots := [0, 1, 4, 11, 58, 12, 61, 62, 63]) (w := 2) zr (gcVs_cons zh (gcV_sl hs_L rfl) (gcVs_cons zh (gcV_sl hs_R rfl) (gcVs_cons zh (gcV_ptr rfl) (gcVs_cons zh (gcV_ptr rfl) (gcVs_cons zh (gcV_free rfl) (gcVs_cons zh (gcV_free rfl) (gcVs_cons zh (gcV_sl hs_L rfl) (gcVs_cons zh (gcV_free rfl) (gcVs_cons zh (gcV_free rfl) gcVs_nil))))))))) (gcH_cons (gcO_old (by rfl) zh) (gcH_cons (gcO_old (by rfl) zh) (gcH_cons (gcO_rowE (by rfl) zh (gcD_free rfl) rfl) (gcH_cons (gcO_rowE (by rfl) zh (gcD_free rfl) rfl) gcH_nil)))) zr), ?_, ?_⟩
          ·rw [wr1 ow ow]; refine ⟨by omega, by omega, ?_, ?_, ?_, hlt⟩
           ·exact jIn_skip h0 h2 (by first | exact .inl zs | exact .inr (.inl zs) | exact .inr (.inr zs) | exact absurd zs (by simp))
           ·exact hbW
           ·exact hbA
          ·show (L.length - IntKind.i64.wrap (i + 1)).toNat < (L.length - i).toNat; rw [wr1 ow ow]; omega
        ·have p12 := g12; try simp only [d1, d2, d3, d4, d5, d6, d7, d8, d9] at p12
         refine d_skip (wA_off rfl rfl zg) rfl zd ?_
         refine d_skip (wA_off rfl rfl zg) rfl zd ?_
         refine d_skip (wA_off rfl rfl zg) rfl zd ?_
         refine d_skip (wA_off rfl rfl zg) rfl zd ?_
         refine d_skip (wA_off rfl rfl zg) rfl zd ?_
         refine d_skip (wA_off rfl rfl zg) rfl zd ?_
         refine d_skip (wA_off rfl rfl zg) rfl zd ?_
         refine ds (x_pick rfl zg zb) ?_
         refine d_done ⟨by kernel_rfl, ?_⟩
         refine e_seq ?_
         refine k_condF zg ?_
         refine k_skip ?_
         refine e_block ?_
         refine e_seq ?_
         refine k_region hP hC ?_
         refine os (x_bin rfl zt (by rfl) b_add) ?_
         refine os (x_move rfl zt) ?_
         refine o_done ?_
         refine e_loop ?_
         refine ⟨(false, IntKind.i64.wrap (i + 1), accW, accA), (to_mk (L := [0, 1, 2, 3]) (slots := [0, 1, 4, 11, 58, 12, 61, 62, 63]) (w := 2) zr (gcVs_cons zh (gcV_sl hs_L rfl) (gcVs_cons zh (gcV_sl hs_R rfl) (gcVs_cons zh (gcV_ptr rfl) (gcVs_cons zh (gcV_ptr rfl) (gcVs_cons zh (gcV_free rfl) (gcVs_cons zh (gcV_free rfl) (gcVs_cons zh (gcV_sl hs_L rfl) (gcVs_cons zh (gcV_free rfl) (gcVs_cons zh (gcV_free rfl) gcVs_nil))))))))) (gcH_cons (gcO_old (by rfl) zh) (gcH_cons (gcO_old (by rfl) zh) (gcH_cons (gcO_rowE (by rfl) zh (gcD_free rfl) rfl) (gcH_cons (gcO_rowE (by rfl) zh (gcD_free rfl) rfl) gcH_nil)))) zr), ?_, ?_⟩
         ·rw [wr1 ow ow]; refine ⟨by omega, by omega, ?_, ?_, ?_, hlt⟩
          ·exact jIn_skip h0 h2 (by first | exact .inl zs | exact .inr (.inl zs) | exact .inr (.inr zs) | exact absurd zs (by simp))
          ·exact hbW
          ·exact hbA
         ·show (L.length - IntKind.i64.wrap (i + 1)).toNat < (L.length - i).toNat; rw [wr1 ow ow]; omega
       ·have p10 := g10; try simp only [d1, d2, d3, d4, d5, d6, d7, d8, d9] at p10
        refine k_exit ?_
        refine e_seq_exit ?_
        refine e_loop_exit ?_
        refine e_block_eq ?_
        refine e_block ?_
        refine e_seq ?_
        refine k_region hP hC ?_
        refine os (x_bin rfl zt (by rfl) b_add) ?_
        refine os (x_move rfl zt) ?_
        refine o_done ?_
        refine e_loop ?_
        refine ⟨(false, IntKind.i64.wrap (w + 1), accW, accA), (to_mk (L := [0, 1, 2, 3]) (slots := [0, 1, 4, 11, 58]) (w := 2) zr (gcVs_cons zh (gcV_sl hs_L rfl) (gcVs_cons zh (gcV_sl hs_R rfl) (gcVs_cons zh (gcV_ptr rfl) (gcVs_cons zh (gcV_ptr rfl) (gcVs_cons zh (gcV_free rfl) gcVs_nil))))) (gcH_cons (gcO_old (by rfl) zh) (gcH_cons (gcO_old (by rfl) zh) (gcH_cons (gcO_rowE (by rfl) zh (gcD_free rfl) rfl) (gcH_cons (gcO_rowE (by rfl) zh (gcD_free rfl) rfl) gcH_nil)))) zr), ?_, ?_⟩
        ·rw [wr1 ow ow]; refine ⟨by omega, by omega, ?_, ?_, ?_, ?_⟩
         ·rw [jOut_next hw0]; have hkn : i = L.length := by omega
          rw [hkn] at h2; exact h2
         ·exact hbW
         ·exact hbA
         ·intro v hv; have := hlt v hv; omega
        ·show (6 - IntKind.i64.wrap (w + 1)).toNat < (6 - w).toNat; rw [wr1 ow ow]; omega
      ·skip
       have hjl := jlen hw0 ow h0 h1 hb h2
       refine k_cst zm zo zl ?_
       refine k_seq ?_
       refine k_region hP hC ?_
       refine os (x_bin rfl zt zt b_lss) ?_
       refine o_done ?_
       refine e_seq ?_
       refine k_seq ?_
       refine k_cond zt (fun g16 => ?_) (fun g16 => ?_)
       ·have p16 := g16; try simp only [d1, d2, d3, d4, d5, d6, d7, d8, d9] at p16
        refine k_skip ?_
        refine e_seq ?_
        refine k_seq ?_
        refine k_block ?_
        refine k_seq ?_
        refine k_region hP hC ?_
        refine os (x_move rfl zt) ?_
        refine os (x_indexS hs_L rfl zt zt Try.underlying23 T.s43 ow ow) ?_
        refine os (x_loadA rfl zt T.g43 T.s43 (l_elem (whole_row zh rfl) zs rfl ow ow)) ?_
        refine os (y_alloc rfl T.z43 rfl rfl) ?_
        refine os (x_assign rfl zt) ?_
        refine o_stepN (wA_none rfl) rfl (y_storeA rfl zt zt T.s43 (cf_len (ks := T.K43) (by first | assumption | rfl | (apply cf_part; (first | assumption | (exact cf_nth zs ow ow)); rfl) | (exact cf_nth zs ow ow))) zh rfl rfl (cf_oneC (ks := T.K43) (by first | assumption | rfl | (apply cf_part; (first | assumption | (exact cf_nth zs ow ow)); rfl) | (exact cf_nth zs ow ow)))) ?_
        refine o_done ?_
        refine e_seq ?_
        refine k_seq ?_
        refine k_draw hP hC zr ?_
        refine ds (x_field (off' := 0) rfl zt Try.underlying43 rfl T.s3 rfl) ?_
        refine ds (x_load1 rfl zt T.g3 (by first | exact l_boxI (whole_row zh rfl) (by (first | assumption | (exact cf_nth zs ow ow))) rfl | exact l_boxS (whole_row zh rfl) (by (first | assumption | (exact cf_nth zs ow ow))) rfl | (simp only [loadC, AH.fam, Tr.get_set, reduceIte, Nat.reduceEqDiff, Nat.reduceAdd, Fam.rb, List.drop_zero, List.drop_succ_cons, List.take_succ_cons, List.take_zero, List.length_cons, List.length_nil, Nat.zero_le, Nat.reduceLeDiff, and_self, true_and] <;> rfl))) ?_
        refine ds (x_move rfl zt) ?_
        refine ds (x_bin rfl zt zt b_eql) ?_
        refine ds (x_move rfl zt) ?_
        refine d_guard rfl rfl zh (fun g18 => ?_) (fun g18 => ?_)
        ·have p18 := g18; try simp only [d1, d2, d3, d4, d5, d6, d7, d8, d9] at p18
         refine d_step (wA_on rfl rfl zg) rfl (x_field (off' := 23) rfl zt Try.underlying43 rfl T.s41 rfl) zd ?_
         refine d_step (wA_on rfl rfl zg) rfl (x_loadA rfl zt T.g41 T.s41 (l_box (whole_row zh rfl) (by (first | assumption | (exact cf_nth zs ow ow))) zd)) zd ?_
         refine d_step (wA_on rfl rfl zg) rfl (x_move rfl zt) zd ?_
         refine d_step (wA_on rfl rfl zg) rfl (x_move rfl zt) zd ?_
         refine d_step (wA_on rfl rfl zg) rfl (x_indexS hs_R rfl zt zt Try.underlying24 T.s41 ow ow) zd ?_
         refine d_step (wA_on rfl rfl zg) rfl (x_loadA rfl zt T.g41 T.s41 (l_elem (whole_row zh rfl) zs rfl ow ow)) zd ?_
         refine d_step (wA_on rfl rfl zg) rfl (x_bin rfl zt zt (b_neqA zd T.f41 T.g41 T.q41 (by first | assumption | rfl | (apply cf_part; (first | assumption | (exact cf_nth zs ow ow)); rfl) | (exact cf_nth zs ow ow)) (by first | assumption | rfl | (apply cf_part; (first | assumption | (exact cf_nth zs ow ow)); rfl) | (exact cf_nth zs ow ow)))) zd ?_
         refine ds (x_pick rfl zg zb) ?_
         refine d_done ⟨by kernel_rfl, ?_⟩
         refine e_seq ?_
         refine k_cond (by simp only [Tr.get_set, reduceIte, Nat.reduceEqDiff, Nat.reduceAdd, ev_tmp, g16, g18] <;> rfl) (fun g20 => ?_) (fun g20 => ?_)
         ·have p20 := g20; try simp only [d1, d2, d3, d4, d5, d6, d7, d8, d9] at p20
          refine k_seq ?_
          refine k_region hP hC ?_
          refine os (x_field (off' := 0) rfl zt Try.underlying56 rfl T.s22 rfl) ?_
          refine os (x_load1' rfl zt T.g22 zh rfl (Nat.le_of_ble_eq_true rfl) (by simp only [List.take_succ_cons, List.drop_succ_cons, List.take_zero, List.drop_zero, List.take_nil, List.drop_nil, List.cons_append, List.nil_append, List.append_nil, List.length_cons, List.length_nil, Nat.reduceAdd, Int.toNat_zero, Nat.zero_mul, Nat.add_zero, Nat.zero_add] <;> rfl)) ?_
          refine os (x_move rfl zt) ?_
          refine os (y_bsliceV rfl zt rfl Try.underlying22 T.s3 T.z3 rfl rfl) ?_
          refine os (x_append rfl rfl zv rfl rfl zr (cells_row Try.underlying22 T.s3 (l_all (whole_row zh rfl) rfl)) (ya_own Try.underlying22 T.i22 zd rfl ow (by unfold BIG; omega) rfl zd zh rfl (by rw [ints_len, Nat.mul_one]))) ?_
          refine os (x_field (off' := 0) rfl zt Try.underlying56 rfl T.s22 rfl) ?_
          refine o_stepN (wA_none rfl) rfl (y_store1P rfl zt zt rfl T.s22 zh rfl (Nat.le_of_ble_eq_true rfl) rfl (by simp only [splice, List.take_succ_cons, List.drop_succ_cons, List.take_zero, List.drop_zero, List.take_nil, List.drop_nil, List.cons_append, List.nil_append, List.append_nil, List.length_cons, List.length_nil, Nat.reduceAdd, Int.toNat_zero, Nat.zero_mul, Nat.add_zero, Nat.zero_add] <;> rfl)) ?_
          refine o_done ?_
          refine e_seq ?_
          refine k_seq ?_
          refine k_region hP hC ?_
          refine os (x_field (off' := 1) rfl zt Try.underlying56 rfl T.s22 rfl) ?_
          refine os (x_load1' rfl zt T.g22 zh rfl (Nat.le_of_ble_eq_true rfl) (by simp only [List.take_succ_cons, List.drop_succ_cons, List.take_zero, List.drop_zero, List.take_nil, List.drop_nil, List.cons_append, List.nil_append, List.append_nil, List.length_cons, List.length_nil, Nat.reduceAdd, Int.toNat_zero, Nat.zero_mul, Nat.add_zero, Nat.zero_add] <;> rfl)) ?_
          refine os (x_move rfl zt) ?_
          refine os (y_bsliceV rfl zt rfl Try.underlying22 T.s3 T.z3 rfl rfl) ?_
          refine os (x_append rfl rfl zv rfl rfl zr (cells_row Try.underlying22 T.s3 (l_all (whole_row zh rfl) rfl)) (ya_own Try.underlying22 T.i22 zd rfl ow (by unfold BIG; omega) rfl zd zh rfl (by rw [ints_len, Nat.mul_one]))) ?_
          refine os (x_field (off' := 1) rfl zt Try.underlying56 rfl T.s22 rfl) ?_
          refine o_stepN (wA_none rfl) rfl (y_store1P rfl zt zt rfl T.s22 zh rfl (Nat.le_of_ble_eq_true rfl) rfl (by simp only [splice, List.take_succ_cons, List.drop_succ_cons, List.take_zero, List.drop_zero, List.take_nil, List.drop_nil, List.cons_append, List.nil_append, List.append_nil, List.length_cons, List.length_nil, Nat.reduceAdd, Int.toNat_zero, Nat.zero_mul, Nat.add_zero, Nat.zero_add] <;> rfl)) ?_
          refine o_done ?_
          refine e_seq ?_
          refine k_exit ?_
          refine e_block_ne zd ?_
          refine e_seq_exit ?_
          refine e_loop_exit ?_
          refine e_block_eq ?_
          refine e_block ?_
          refine e_seq ?_
          refine k_region hP hC ?_
          refine os (x_bin rfl zt (by rfl) b_add) ?_
          refine os (x_move rfl zt) ?_
          refine o_done ?_
          refine e_loop ?_
          refine ⟨(true, IntKind.i64.wrap (w + 1), (accW ++ [w]), (accA ++ [i])), (to_mk (L := [0, 1, 2, 3, 8, 10]) (slots := [0, 1, 4, 11, 58]) (w := 2) zr (gcVs_cons zh (gcV_sl hs_L rfl) (gcVs_cons zh (gcV_sl hs_R rfl) (gcVs_cons zh (gcV_ptr rfl) (gcVs_cons zh (gcV_ptr rfl) (gcVs_cons zh (gcV_free rfl) gcVs_nil))))) (gcH_cons (gcO_old (by rfl) zh) (gcH_cons (gcO_old (by rfl) zh) (gcH_cons (gcO_rowE (by rfl) zh (gcD_free rfl) rfl) (gcH_cons (gcO_rowE (by rfl) zh (gcD_cons (gcV_sliceE rfl (by simp)) (gcD_cons (gcV_sliceE rfl (by simp)) gcD_nil)) rfl) (gcH_cons (gcO_aliasE (by rfl) zh zh (gcD_free (by rw [List.all_append, ints_free1]; rfl)) (by simp only [ints_append, ints_one])) (gcH_cons (gcO_aliasE (by rfl) zh zh (gcD_free (by rw [List.all_append, ints_free1]; rfl)) (by simp only [ints_append, ints_one])) gcH_nil)))))) zr), ?_, ?_⟩
          ·rw [wr1 ow ow]; refine ⟨by omega, by omega, ?_, ?_, ?_, ?_⟩
           ·rw [jOut_next hw0]; exact jIn_done h0 ow (jIn_hit h0 h2 zs zs (fun hm => absurd (hlt w hm) ow)) (by simp)
           ·simp
           ·simp
           ·intro v hv; rcases List.mem_append.1 hv with hv | hv; have := hlt v hv; omega; simp at hv; omega
          ·show (6 - IntKind.i64.wrap (w + 1)).toNat < (6 - w).toNat; rw [wr1 ow ow]; omega
         ·have p20 := g20; try simp only [d1, d2, d3, d4, d5, d6, d7, d8, d9] at p20
          refine k_skip ?_
          refine e_block ?_
          refine e_seq ?_
          refine k_region hP hC ?_
          refine os (x_bin rfl zt (by rfl) b_add) ?_
          refine os (x_move rfl zt) ?_
          refine o_done ?_
          refine e_loop ?_
          refine ⟨(true, IntKind.i64.wrap (i + 1), accW, accA), (to_mk (L := [0, 1, 2, 3, 4, 5]) (slots := [0, 1, 4, 11, 58, 12, 61, 62, 63]) (w := 2) zr (gcVs_cons zh (gcV_sl hs_L rfl) (gcVs_cons zh (gcV_sl hs_R rfl) (gcVs_cons zh (gcV_ptr rfl) (gcVs_cons zh (gcV_ptr rfl) (gcVs_cons zh (gcV_free rfl) (gcVs_cons zh (gcV_free rfl) (gcVs_cons zh (gcV_sl hs_L rfl) (gcVs_cons zh (gcV_free rfl) (gcVs_cons zh (gcV_free rfl) gcVs_nil))))))))) (gcH_cons (gcO_old (by rfl) zh) (gcH_cons (gcO_old (by rfl) zh) (gcH_cons (gcO_rowE (by rfl) zh (gcD_free rfl) rfl) (gcH_cons (gcO_rowE (by rfl) zh (gcD_cons (gcV_sliceE rfl rfl) (gcD_cons (gcV_sliceE rfl rfl) gcD_nil)) rfl) (gcH_cons (gcO_row (by rfl) zh (gcD_free (ints_free1 _))) (gcH_cons (gcO_row (by rfl) zh (gcD_free (ints_free1 _))) gcH_nil)))))) zr), ?_, ?_⟩
          ·rw [wr1 ow ow]; refine ⟨by omega, by omega, ?_, ?_, ?_, hlt⟩
           ·exact jIn_skip h0 h2 (by first | exact .inl zs | exact .inr (.inl zs) | exact .inr (.inr zs) | exact absurd zs (by simp))
           ·exact hbW
           ·exact hbA
          ·show (L.length - IntKind.i64.wrap (i + 1)).toNat < (L.length - i).toNat; rw [wr1 ow ow]; omega
        ·have p18 := g18; try simp only [d1, d2, d3, d4, d5, d6, d7, d8, d9] at p18
         refine d_skip (wA_off rfl rfl zg) rfl zd ?_
         refine d_skip (wA_off rfl rfl zg) rfl zd ?_
         refine d_skip (wA_off rfl rfl zg) rfl zd ?_
         refine d_skip (wA_off rfl rfl zg) rfl zd ?_
         refine d_skip (wA_off rfl rfl zg) rfl zd ?_
         refine d_skip (wA_off rfl rfl zg) rfl zd ?_
         refine d_skip (wA_off rfl rfl zg) rfl zd ?_
         refine ds (x_pick rfl zg zb) ?_
         refine d_done ⟨by kernel_rfl, ?_⟩
         refine e_seq ?_
         refine k_condF zg ?_
         refine k_skip ?_
         refine e_block ?_
         refine e_seq ?_
         refine k_region hP hC ?_
         refine os (x_bin rfl zt (by rfl) b_add) ?_
         refine os (x_move rfl zt) ?_
         refine o_done ?_
         refine e_loop ?_
         refine ⟨(true, IntKind.i64.wrap (i + 1), accW, accA), (to_mk (L := [0, 1, 2, 3, 4, 5]) (slots := [0, 1, 4, 11, 58, 12, 61, 62, 63]) (w := 2) zr (gcVs_cons zh (gcV_sl hs_L rfl) (gcVs_cons zh (gcV_sl hs_R rfl) (gcVs_cons zh (gcV_ptr rfl) (gcVs_cons zh (gcV_ptr rfl) (gcVs_cons zh (gcV_free rfl) (gcVs_cons zh (gcV_free rfl) (gcVs_cons zh (gcV_sl hs_L rfl) (gcVs_cons zh (gcV_free rfl) (gcVs_cons zh (gcV_free rfl) gcVs_nil))))))))) (gcH_cons (gcO_old (by rfl) zh) (gcH_cons (gcO_old (by rfl) zh) (gcH_cons (gcO_rowE (by rfl) zh (gcD_free rfl) rfl) (gcH_cons (gcO_rowE (by rfl) zh (gcD_cons (gcV_sliceE rfl rfl) (gcD_cons (gcV_sliceE rfl rfl) gcD_nil)) rfl) (gcH_cons (gcO_row (by rfl) zh (gcD_free (ints_free1 _))) (gcH_cons (gcO_row (by rfl) zh (gcD_free (ints_free1 _))) gcH_nil)))))) zr), ?_, ?_⟩
         ·rw [wr1 ow ow]; refine ⟨by omega, by omega, ?_, ?_, ?_, hlt⟩
          ·exact jIn_skip h0 h2 (by first | exact .inl zs | exact .inr (.inl zs) | exact .inr (.inr zs) | exact absurd zs (by simp))
          ·exact hbW
          ·exact hbA
         ·show (L.length - IntKind.i64.wrap (i + 1)).toNat < (L.length - i).toNat; rw [wr1 ow ow]; omega
       ·have p16 := g16; try simp only [d1, d2, d3, d4, d5, d6, d7, d8, d9] at p16
        refine k_exit ?_
        refine e_seq_exit ?_
        refine e_loop_exit ?_
        refine e_block_eq ?_
        refine e_block ?_
        refine e_seq ?_
        refine k_region hP hC ?_
        refine os (x_bin rfl zt (by rfl) b_add) ?_
        refine os (x_move rfl zt) ?_
        refine o_done ?_
        refine e_loop ?_
        refine ⟨(true, IntKind.i64.wrap (w + 1), accW, accA), (to_mk (L := [0, 1, 2, 3, 4, 5]) (slots := [0, 1, 4, 11, 58]) (w := 2) zr (gcVs_cons zh (gcV_sl hs_L rfl) (gcVs_cons zh (gcV_sl hs_R rfl) (gcVs_cons zh (gcV_ptr rfl) (gcVs_cons zh (gcV_ptr rfl) (gcVs_cons zh (gcV_free rfl) gcVs_nil))))) (gcH_cons (gcO_old (by rfl) zh) (gcH_cons (gcO_old (by rfl) zh) (gcH_cons (gcO_rowE (by rfl) zh (gcD_free rfl) rfl) (gcH_cons (gcO_rowE (by rfl) zh (gcD_cons (gcV_sliceE rfl rfl) (gcD_cons (gcV_sliceE rfl rfl) gcD_nil)) rfl) (gcH_cons (gcO_row (by rfl) zh (gcD_free (ints_free1 _))) (gcH_cons (gcO_row (by rfl) zh (gcD_free (ints_free1 _))) gcH_nil)))))) zr), ?_, ?_⟩
        ·rw [wr1 ow ow]; refine ⟨by omega, by omega, ?_, ?_, ?_, ?_⟩
         ·rw [jOut_next hw0]; have hkn : i = L.length := by omega
          rw [hkn] at h2; exact h2
         ·exact hbW
         ·exact hbA
         ·intro v hv; have := hlt v hv; omega
        ·show (6 - IntKind.i64.wrap (w + 1)).toNat < (6 - w).toNat; rw [wr1 ow ow]; omega
     ·have p8 := g8; try simp only [d1, d2, d3, d4, d5, d6, d7, d8, d9] at p8
      refine k_exit ?_
      refine e_seq_exit ?_
      refine e_loop_exit ?_
      refine e_block_eq ?_
      refine e_seq ?_
      refine k_seq ?_
      refine k_region hP hC ?_
      refine os (x_loadA' rfl zt T.g56 T.s56 zh rfl (Nat.le_of_ble_eq_true rfl) (by simp only [List.take_succ_cons, List.drop_succ_cons, List.take_zero, List.drop_zero, List.take_nil, List.drop_nil, List.cons_append, List.nil_append, List.append_nil, List.length_cons, List.length_nil, Nat.reduceAdd, Int.toNat_zero, Nat.zero_mul, Nat.add_zero, Nat.zero_add] <;> rfl)) ?_
      refine o_stepN (wA_none rfl) rfl (y_storeA rfl zt zt T.s56 rfl zh rfl rfl rfl) ?_
      refine os (x_assign rfl (by rfl)) ?_
      refine o_done ?_
      refine e_seq ?_
      refine k_ret ?_
      have hE : judgeE L R = 0 := judgeE_0 zs (by first | assumption | exact poss_yes zs) hnc
      have h6 : w = 6 := by omega
      rw [h6] at h2
      unfold val_judge new_judge judgeW judgeA
      rw [hE]
      simp only [if_true]
      rw [← h2]
      simp only
      rw [haW, haA]
      refine gives_mk2 (L := [0, 1]) (w := 2) (.inr rfl) zr (resA_cell zh T.g56 T.s56 (l_all (whole_row zh rfl) rfl) (resA_tmp zh resA_nil)) ?_ (gcH_cons (gcO_old (by rfl) zh) (gcH_cons (gcO_old (by rfl) zh) gcH_nil)) zr
      exact gcV_tup2 (gcV_agg2 (gcV_free rfl) (gcV_free rfl) zd) (gcV_free rfl)
    ·skip
     refine k_cst zm zo zl ?_
     refine k_seq ?_
     refine k_region hP hC ?_
     refine os (x_bin rfl zt (by rfl) b_lss) ?_
     refine o_done ?_
     refine e_seq ?_
     refine k_seq ?_
     refine k_cond zt (fun g22 => ?_) (fun g22 => ?_)
     ·have p22 := g22; try simp only [d1, d2, d3, d4, d5, d6, d7, d8, d9] at p22
      refine k_skip ?_
      refine e_seq ?_
      refine k_seq ?_
      refine k_block ?_
      refine k_seq ?_
      refine k_region hP hC ?_
      refine os (x_move rfl zt) ?_
      refine os (x_assign rfl zt) ?_
      refine o_done ?_
      refine e_seq ?_
      refine k_seq ?_
      refine k_region hP hC ?_
      refine os (x_move rfl zt) ?_
      refine os (x_lenS hs_L rfl rfl zv rfl Try.underlying23) ?_
      refine os (x_move rfl (by rfl)) ?_
      refine o_done ?_
      refine e_seq ?_
      refine k_block ?_
      refine k_loop (α := Bool × Int × List Int × List Int) (fun z => match z with | (false, i, accW, accA) => cst 96 [0, 1, 4, 11, 58, 12, 61, 62, 63] [s_L, s_R, .pointer (some ⟨2, 0, none⟩), .pointer (some ⟨3, 0, none⟩), .int .i64 w, .int .i64 w, s_L, .int .i64 L.length, .int .i64 i] [.row L.flatten 0 BIG true L.flatten.length, .row R.flatten 1 BIG true R.flatten.length, .row [.slice none 0 0, .slice none 0 0] 2 BIG false 2, .row [.slice none 0 0, .slice none 0 0] 3 BIG false 2] 2 | (true, i, accW, accA) => cst 96 [0, 1, 4, 11, 58, 12, 61, 62, 63] [s_L, s_R, .pointer (some ⟨2, 0, none⟩), .pointer (some ⟨3, 0, none⟩), .int .i64 w, .int .i64 w, s_L, .int .i64 L.length, .int .i64 i] [.row L.flatten 0 BIG true L.flatten.length, .row R.flatten 1 BIG true R.flatten.length, .row [.slice none 0 0, .slice none 0 0] 2 BIG false 2, .row [.slice (some ⟨4, 0, none⟩) accW.length (accW.length + 1), .slice (some ⟨5, 0, none⟩) accA.length (accA.length + 1)] 3 BIG false 2, .row (ints accW) 4 BIG false (ints accW).length, .row (ints accA) 5 BIG false (ints accA).length] 2) (fun z => match z with | (b, i, accW, accA) => 0 ≤ i ∧ i ≤ L.length ∧ (accW, accA) = jIn L R w (jOut L R w) i ∧ accW.isEmpty = !b ∧ accA.isEmpty = !b ∧ (∀ v ∈ accW, v < w)) (fun z => match z with | (_, i, _, _) => (L.length - i).toNat) (true, 0, accW, accA) (to_mk (L := [0, 1, 2, 3, 4, 5]) (slots := [0, 1, 4, 11, 58, 12, 61, 62, 63]) (w := 2) zr (gcVs_cons zh (gcV_sl hs_L rfl) (gcVs_cons zh (gcV_sl hs_R rfl) (gcVs_cons zh (gcV_ptr rfl) (gcVs_cons zh (gcV_ptr rfl) (gcVs_cons zh (gcV_free rfl) (gcVs_cons zh (gcV_free rfl) (gcVs_cons zh (gcV_sl hs_L rfl) (gcVs_cons zh (gcV_free rfl) (gcVs_cons zh (gcV_free rfl) gcVs_nil))))))))) (gcH_cons (gcO_old (by rfl) zh) (gcH_cons (gcO_old (by rfl) zh) (gcH_cons (gcO_rowE (by rfl) zh (gcD_free rfl) rfl) (gcH_cons (gcO_rowE (by rfl) zh (gcD_cons (gcV_sliceE rfl rfl) (gcD_cons (gcV_sliceE rfl rfl) gcD_nil)) rfl) (gcH_cons (gcO_row (by rfl) zh (gcD_free (ints_free1 _))) (gcH_cons (gcO_row (by rfl) zh (gcD_free (ints_free1 _))) gcH_nil)))))) zr) ⟨by omega, by omega, h2, hbW, hbA, hlt⟩ ?_
      clear h2 hbW hbA hlt
      rintro ⟨_ | _, i, accW, accA⟩ ⟨h0, h1, h2, hbW, hbA, hlt⟩
      ·skip
       have haW : accW = [] := List.isEmpty_iff.1 hbW
       have haA : accA = [] := List.isEmpty_iff.1 hbA
       refine k_cst zm zo zl ?_
       refine k_seq ?_
       refine k_region hP hC ?_
       refine os (x_bin rfl zt zt b_lss) ?_
       refine o_done ?_
       refine e_seq ?_
       refine k_seq ?_
       refine k_cond zt (fun g24 => ?_) (fun g24 => ?_)
       ·have p24 := g24; try simp only [d1, d2, d3, d4, d5, d6, d7, d8, d9] at p24
        refine k_skip ?_
        refine e_seq ?_
        refine k_seq ?_
        refine k_block ?_
        refine k_seq ?_
        refine k_region hP hC ?_
        refine os (x_move rfl zt) ?_
        refine os (x_indexS hs_L rfl zt zt Try.underlying23 T.s43 ow ow) ?_
        refine os (x_loadA rfl zt T.g43 T.s43 (l_elem (whole_row zh rfl) zs rfl ow ow)) ?_
        refine os (y_alloc rfl T.z43 rfl rfl) ?_
        refine os (x_assign rfl zt) ?_
        refine o_stepN (wA_none rfl) rfl (y_storeA rfl zt zt T.s43 (cf_len (ks := T.K43) (by first | assumption | rfl | (apply cf_part; (first | assumption | (exact cf_nth zs ow ow)); rfl) | (exact cf_nth zs ow ow))) zh rfl rfl (cf_oneC (ks := T.K43) (by first | assumption | rfl | (apply cf_part; (first | assumption | (exact cf_nth zs ow ow)); rfl) | (exact cf_nth zs ow ow)))) ?_
        refine o_done ?_
        refine e_seq ?_
        refine k_seq ?_
        refine k_draw hP hC zr ?_
        refine ds (x_field (off' := 0) rfl zt Try.underlying43 rfl T.s3 rfl) ?_
        refine ds (x_load1 rfl zt T.g3 (by first | exact l_boxI (whole_row zh rfl) (by (first | assumption | (exact cf_nth zs ow ow))) rfl | exact l_boxS (whole_row zh rfl) (by (first | assumption | (exact cf_nth zs ow ow))) rfl | (simp only [loadC, AH.fam, Tr.get_set, reduceIte, Nat.reduceEqDiff, Nat.reduceAdd, Fam.rb, List.drop_zero, List.drop_succ_cons, List.take_succ_cons, List.take_zero, List.length_cons, List.length_nil, Nat.zero_le, Nat.reduceLeDiff, and_self, true_and] <;> rfl))) ?_
        refine ds (x_move rfl zt) ?_
        refine ds (x_bin rfl zt zt b_eql) ?_
        refine ds (x_move rfl zt) ?_
        refine d_guard rfl rfl zh (fun g26 => ?_) (fun g26 => ?_)
        ·have p26 := g26; try simp only [d1, d2, d3, d4, d5, d6, d7, d8, d9] at p26
         refine d_step (wA_on rfl rfl zg) rfl (x_field (off' := 23) rfl zt Try.underlying43 rfl T.s41 rfl) zd ?_
         refine d_step (wA_on rfl rfl zg) rfl (x_loadA rfl zt T.g41 T.s41 (l_box (whole_row zh rfl) (by (first | assumption | (exact cf_nth zs ow ow))) zd)) zd ?_
         refine d_step (wA_on rfl rfl zg) rfl (x_move rfl zt) zd ?_
         refine d_step (wA_on rfl rfl zg) rfl (x_move rfl zt) zd ?_
         refine d_step (wA_on rfl rfl zg) rfl (x_indexS hs_R rfl zt zt Try.underlying24 T.s41 ow ow) zd ?_
         refine d_step (wA_on rfl rfl zg) rfl (x_loadA rfl zt T.g41 T.s41 (l_elem (whole_row zh rfl) zs rfl ow ow)) zd ?_
         refine d_step (wA_on rfl rfl zg) rfl (x_bin rfl zt zt (b_neqA zd T.f41 T.g41 T.q41 (by first | assumption | rfl | (apply cf_part; (first | assumption | (exact cf_nth zs ow ow)); rfl) | (exact cf_nth zs ow ow)) (by first | assumption | rfl | (apply cf_part; (first | assumption | (exact cf_nth zs ow ow)); rfl) | (exact cf_nth zs ow ow)))) zd ?_
         refine ds (x_pick rfl zg zb) ?_
         refine d_done ⟨by kernel_rfl, ?_⟩
         refine e_seq ?_
         refine k_cond (by simp only [Tr.get_set, reduceIte, Nat.reduceEqDiff, Nat.reduceAdd, ev_tmp, g24, g26] <;> rfl) (fun g28 => ?_) (fun g28 => ?_)
         ·have p28 := g28; try simp only [d1, d2, d3, d4, d5, d6, d7, d8, d9] at p28
          refine k_seq ?_
          refine k_region hP hC ?_
          refine os (x_field (off' := 0) rfl zt Try.underlying56 rfl T.s22 rfl) ?_
          refine os (x_load1' rfl zt T.g22 zh rfl (Nat.le_of_ble_eq_true rfl) (by simp only [List.take_succ_cons, List.drop_succ_cons, List.take_zero, List.drop_zero, List.take_nil, List.drop_nil, List.cons_append, List.nil_append, List.append_nil, List.length_cons, List.length_nil, Nat.reduceAdd, Int.toNat_zero, Nat.zero_mul, Nat.add_zero, Nat.zero_add] <;> rfl)) ?_
          refine os (x_move rfl zt) ?_
          refine os (y_bsliceV rfl zt rfl Try.underlying22 T.s3 T.z3 rfl rfl) ?_
          refine os (x_append rfl rfl zv rfl rfl zr (cells_row Try.underlying22 T.s3 (l_all (whole_row zh rfl) rfl)) (ya_nil Try.underlying22 T.i22 zd rfl zd zd rfl zd)) ?_
          refine os (x_field (off' := 0) rfl zt Try.underlying56 rfl T.s22 rfl) ?_
          refine o_stepN (wA_none rfl) rfl (y_store1P rfl zt zt rfl T.s22 zh rfl (Nat.le_of_ble_eq_true rfl) rfl (by simp only [splice, List.take_succ_cons, List.drop_succ_cons, List.take_zero, List.drop_zero, List.take_nil, List.drop_nil, List.cons_append, List.nil_append, List.append_nil, List.length_cons, List.length_nil, Nat.reduceAdd, Int.toNat_zero, Nat.zero_mul, Nat.add_zero, Nat.zero_add] <;> rfl)) ?_
          refine o_done ?_
          refine e_seq ?_
          refine k_seq ?_
          refine k_region hP hC ?_
          refine os (x_field (off' := 1) rfl zt Try.underlying56 rfl T.s22 rfl) ?_
          refine os (x_load1' rfl zt T.g22 zh rfl (Nat.le_of_ble_eq_true rfl) (by simp only [List.take_succ_cons, List.drop_succ_cons, List.take_zero, List.drop_zero, List.take_nil, List.drop_nil, List.cons_append, List.nil_append, List.append_nil, List.length_cons, List.length_nil, Nat.reduceAdd, Int.toNat_zero, Nat.zero_mul, Nat.add_zero, Nat.zero_add] <;> rfl)) ?_
          refine os (x_move rfl zt) ?_
          refine os (y_bsliceV rfl zt rfl Try.underlying22 T.s3 T.z3 rfl rfl) ?_
          refine os (x_append rfl rfl zv rfl rfl zr (cells_row Try.underlying22 T.s3 (l_all (whole_row zh rfl) rfl)) (ya_nil Try.underlying22 T.i22 zd rfl zd zd rfl zd)) ?_
          refine os (x_field (off' := 1) rfl zt Try.underlying56 rfl T.s22 rfl) ?_
          refine o_stepN (wA_none rfl) rfl (y_store1P rfl zt zt rfl T.s22 zh rfl (Nat.le_of_ble_eq_true rfl) rfl (by simp only [splice, List.take_succ_cons, List.drop_succ_cons, List.take_zero, List.drop_zero, List.take_nil, List.drop_nil, List.cons_append, List.nil_append, List.append_nil, List.length_cons, List.length_nil, Nat.reduceAdd, Int.toNat_zero, Nat.zero_mul, Nat.add_zero, Nat.zero_add] <;> rfl)) ?_
          refine o_done ?_
          refine e_seq ?_
          refine k_exit ?_
          refine e_block_ne zd ?_
          refine e_seq_exit ?_
          refine e_loop_exit ?_
          refine e_block_eq ?_
          refine e_block ?_
          refine e_seq ?_
          refine k_region hP hC ?_
          refine os (x_bin rfl zt (by rfl) b_add) ?_
          refine os (x_move rfl zt) ?_
          refine o_done ?_
          refine e_loop ?_
          refine ⟨(true, IntKind.i64.wrap (w + 1), [w], [i]), (to_mk (L := [0, 1, 2, 3, 6, 8]) (slots := [0, 1, 4, 11, 58]) (w := 2) zr (gcVs_cons zh (gcV_sl hs_L rfl) (gcVs_cons zh (gcV_sl hs_R rfl) (gcVs_cons zh (gcV_ptr rfl) (gcVs_cons zh (gcV_ptr rfl) (gcVs_cons zh (gcV_free rfl) gcVs_nil))))) (gcH_cons (gcO_old (by rfl) zh) (gcH_cons (gcO_old (by rfl) zh) (gcH_cons (gcO_rowE (by rfl) zh (gcD_free rfl) rfl) (gcH_cons (gcO_rowE (by rfl) zh (gcD_cons (gcV_sliceE rfl rfl) (gcD_cons (gcV_sliceE rfl rfl) gcD_nil)) rfl) (gcH_cons (gcO_rowE (by rfl) zh (gcD_free rfl) (by simp only [ints_append, ints_one])) (gcH_cons (gcO_rowE (by rfl) zh (gcD_free rfl) (by simp only [ints_append, ints_one])) gcH_nil)))))) zr), ?_, ?_⟩
          ·rw [wr1 ow ow]; refine ⟨by omega, by omega, ?_, ?_, ?_, ?_⟩
           ·rw [jOut_next hw0]; exact jIn_done h0 ow (by rw [haW, haA] at h2; exact (jIn_hit h0 h2 zs zs (by simp))) (by simp)
           ·simp
           ·simp
           ·intro v hv; simp at hv; omega
          ·show (6 - IntKind.i64.wrap (w + 1)).toNat < (6 - w).toNat; rw [wr1 ow ow]; omega
         ·have p28 := g28; try simp only [d1, d2, d3, d4, d5, d6, d7, d8, d9] at p28
          refine k_skip ?_
          refine e_block ?_
          refine e_seq ?_
          refine k_region hP hC ?_
          refine os (x_bin rfl zt (by rfl) b_add) ?_
          refine os (x_move rfl zt) ?_
          refine o_done ?_
          refine e_loop ?_
          refine ⟨(false, IntKind.i64.wrap (i + 1), accW, accA), (to_mk (L := [0, 1, 2, 3]) (slots := [0, 1, 4, 11, 58, 12, 61, 62, 63]) (w := 2) zr (gcVs_cons zh (gcV_sl hs_L rfl) (gcVs_cons zh (gcV_sl hs_R rfl) (gcVs_cons zh (gcV_ptr rfl) (gcVs_cons zh (gcV_ptr rfl) (gcVs_cons zh (gcV_free rfl) (gcVs_cons zh (gcV_free rfl) (gcVs_cons zh (gcV_sl hs_L rfl) (gcVs_cons zh (gcV_free rfl) (gcVs_cons zh (gcV_free rfl) gcVs_nil))))))))) (gcH_cons (gcO_old (by rfl) zh) (gcH_cons (gcO_old (by rfl) zh) (gcH_cons (gcO_rowE (by rfl) zh (gcD_free rfl) rfl) (gcH_cons (gcO_rowE (by rfl) zh (gcD_free rfl) rfl) gcH_nil)))) zr), ?_, ?_⟩
          ·rw [wr1 ow ow]; refine ⟨by omega, by omega, ?_, ?_, ?_, hlt⟩
           ·exact jIn_skip h0 h2 (by first | exact .inl zs | exact .inr (.inl zs) | exact .inr (.inr zs) | exact absurd zs (by simp))
           ·exact hbW
           ·exact hbA
          ·show (L.length - IntKind.i64.wrap (i + 1)).toNat < (L.length - i).toNat; rw [wr1 ow ow]; omega
        ·have p26 := g26; try simp only [d1, d2, d3, d4, d5, d6, d7, d8, d9] at p26
         refine d_skip (wA_off rfl rfl zg) rfl zd ?_
         refine d_skip (wA_off rfl rfl zg) rfl zd ?_
         refine d_skip (wA_off rfl rfl zg) rfl zd ?_
         refine d_skip (wA_off rfl rfl zg) rfl zd ?_
         refine d_skip (wA_off rfl rfl zg) rfl zd ?_
         refine d_skip (wA_off rfl rfl zg) rfl zd ?_
         refine d_skip (wA_off rfl rfl zg) rfl zd ?_
         refine ds (x_pick rfl zg zb) ?_
         refine d_done ⟨by kernel_rfl, ?_⟩
         refine e_seq ?_
         refine k_condF zg ?_
         refine k_skip ?_
         refine e_block ?_
         refine e_seq ?_
         refine k_region hP hC ?_
         refine os (x_bin rfl zt (by rfl) b_add) ?_
         refine os (x_move rfl zt) ?_
         refine o_done ?_
         refine e_loop ?_
         refine ⟨(false, IntKind.i64.wrap (i + 1), accW, accA), (to_mk (L := [0, 1, 2, 3]) (slots := [0, 1, 4, 11, 58, 12, 61, 62, 63]) (w := 2) zr (gcVs_cons zh (gcV_sl hs_L rfl) (gcVs_cons zh (gcV_sl hs_R rfl) (gcVs_cons zh (gcV_ptr rfl) (gcVs_cons zh (gcV_ptr rfl) (gcVs_cons zh (gcV_free rfl) (gcVs_cons zh (gcV_free rfl) (gcVs_cons zh (gcV_sl hs_L rfl) (gcVs_cons zh (gcV_free rfl) (gcVs_cons zh (gcV_free rfl) gcVs_nil))))))))) (gcH_cons (gcO_old (by rfl) zh) (gcH_cons (gcO_old (by rfl) zh) (gcH_cons (gcO_rowE (by rfl) zh (gcD_free rfl) rfl) (gcH_cons (gcO_rowE (by rfl) zh (gcD_free rfl) rfl) gcH_nil)))) zr), ?_, ?_⟩
         ·rw [wr1 ow ow]; refine ⟨by omega, by omega, ?_, ?_, ?_, hlt⟩
          ·exact jIn_skip h0 h2 (by first | exact .inl zs | exact .inr (.inl zs) | exact .inr (.inr zs) | exact absurd zs (by simp))
          ·exact hbW
          ·exact hbA
         ·show (L.length - IntKind.i64.wrap (i + 1)).toNat < (L.length - i).toNat; rw [wr1 ow ow]; omega
       ·have p24 := g24; try simp only [d1, d2, d3, d4, d5, d6, d7, d8, d9] at p24
        refine k_exit ?_
        refine e_seq_exit ?_
        refine e_loop_exit ?_
        refine e_block_eq ?_
        refine e_block ?_
        refine e_seq ?_
        refine k_region hP hC ?_
        refine os (x_bin rfl zt (by rfl) b_add) ?_
        refine os (x_move rfl zt) ?_
        refine o_done ?_
        refine e_loop ?_
        refine ⟨(false, IntKind.i64.wrap (w + 1), accW, accA), (to_mk (L := [0, 1, 2, 3]) (slots := [0, 1, 4, 11, 58]) (w := 2) zr (gcVs_cons zh (gcV_sl hs_L rfl) (gcVs_cons zh (gcV_sl hs_R rfl) (gcVs_cons zh (gcV_ptr rfl) (gcVs_cons zh (gcV_ptr rfl) (gcVs_cons zh (gcV_free rfl) gcVs_nil))))) (gcH_cons (gcO_old (by rfl) zh) (gcH_cons (gcO_old (by rfl) zh) (gcH_cons (gcO_rowE (by rfl) zh (gcD_free rfl) rfl) (gcH_cons (gcO_rowE (by rfl) zh (gcD_free rfl) rfl) gcH_nil)))) zr), ?_, ?_⟩
        ·rw [wr1 ow ow]; refine ⟨by omega, by omega, ?_, ?_, ?_, ?_⟩
         ·rw [jOut_next hw0]; have hkn : i = L.length := by omega
          rw [hkn] at h2; exact h2
         ·exact hbW
         ·exact hbA
         ·intro v hv; have := hlt v hv; omega
        ·show (6 - IntKind.i64.wrap (w + 1)).toNat < (6 - w).toNat; rw [wr1 ow ow]; omega
      ·skip
       have hjl := jlen hw0 ow h0 h1 hb h2
       refine k_cst zm zo zl ?_
       refine k_seq ?_
       refine k_region hP hC ?_
       refine os (x_bin rfl zt zt b_lss) ?_
       refine o_done ?_
       refine e_seq ?_
       refine k_seq ?_
       refine k_cond zt (fun g30 => ?_) (fun g30 => ?_)
       ·have p30 := g30; try simp only [d1, d2, d3, d4, d5, d6, d7, d8, d9] at p30
        refine k_skip ?_
        refine e_seq ?_
        refine k_seq ?_
        refine k_block ?_
        refine k_seq ?_
        refine k_region hP hC ?_
        refine os (x_move rfl zt) ?_
        refine os (x_indexS hs_L rfl zt zt Try.underlying23 T.s43 ow ow) ?_
        refine os (x_loadA rfl zt T.g43 T.s43 (l_elem (whole_row zh rfl) zs rfl ow ow)) ?_
        refine os (y_alloc rfl T.z43 rfl rfl) ?_
        refine os (x_assign rfl zt) ?_
        refine o_stepN (wA_none rfl) rfl (y_storeA rfl zt zt T.s43 (cf_len (ks := T.K43) (by first | assumption | rfl | (apply cf_part; (first | assumption | (exact cf_nth zs ow ow)); rfl) | (exact cf_nth zs ow ow))) zh rfl rfl (cf_oneC (ks := T.K43) (by first | assumption | rfl | (apply cf_part; (first | assumption | (exact cf_nth zs ow ow)); rfl) | (exact cf_nth zs ow ow)))) ?_
        refine o_done ?_
        refine e_seq ?_
        refine k_seq ?_
        refine k_draw hP hC zr ?_
        refine ds (x_field (off' := 0) rfl zt Try.underlying43 rfl T.s3 rfl) ?_
        refine ds (x_load1 rfl zt T.g3 (by first | exact l_boxI (whole_row zh rfl) (by (first | assumption | (exact cf_nth zs ow ow))) rfl | exact l_boxS (whole_row zh rfl) (by (first | assumption | (exact cf_nth zs ow ow))) rfl | (simp only [loadC, AH.fam, Tr.get_set, reduceIte, Nat.reduceEqDiff, Nat.reduceAdd, Fam.rb, List.drop_zero, List.drop_succ_cons, List.take_succ_cons, List.take_zero, List.length_cons, List.length_nil, Nat.zero_le, Nat.reduceLeDiff, and_self, true_and] <;> rfl))) ?_
        refine ds (x_move rfl zt) ?_
        refine ds (x_bin rfl zt zt b_eql) ?_
        refine ds (x_move rfl zt) ?_
        refine d_guard rfl rfl zh (fun g32 => ?_) (fun g32 => ?_)
        ·have p32 := g32; try simp only [d1, d2, d3, d4, d5, d6, d7, d8, d9] at p32
         refine d_step (wA_on rfl rfl zg) rfl (x_field (off' := 23) rfl zt Try.underlying43 rfl T.s41 rfl) zd ?_
         refine d_step (wA_on rfl rfl zg) rfl (x_loadA rfl zt T.g41 T.s41 (l_box (whole_row zh rfl) (by (first | assumption | (exact cf_nth zs ow ow))) zd)) zd ?_
         refine d_step (wA_on rfl rfl zg) rfl (x_move rfl zt) zd ?_
         refine d_step (wA_on rfl rfl zg) rfl (x_move rfl zt) zd ?_
         refine d_step (wA_on rfl rfl zg) rfl (x_indexS hs_R rfl zt zt Try.underlying24 T.s41 ow ow) zd ?_
         refine d_step (wA_on rfl rfl zg) rfl (x_loadA rfl zt T.g41 T.s41 (l_elem (whole_row zh rfl) zs rfl ow ow)) zd ?_
         refine d_step (wA_on rfl rfl zg) rfl (x_bin rfl zt zt (b_neqA zd T.f41 T.g41 T.q41 (by first | assumption | rfl | (apply cf_part; (first | assumption | (exact cf_nth zs ow ow)); rfl) | (exact cf_nth zs ow ow)) (by first | assumption | rfl | (apply cf_part; (first | assumption | (exact cf_nth zs ow ow)); rfl) | (exact cf_nth zs ow ow)))) zd ?_
         refine ds (x_pick rfl zg zb) ?_
         refine d_done ⟨by kernel_rfl, ?_⟩
         refine e_seq ?_
         refine k_cond (by simp only [Tr.get_set, reduceIte, Nat.reduceEqDiff, Nat.reduceAdd, ev_tmp, g30, g32] <;> rfl) (fun g34 => ?_) (fun g34 => ?_)
         ·have p34 := g34; try simp only [d1, d2, d3, d4, d5, d6, d7, d8, d9] at p34
          refine k_seq ?_
          refine k_region hP hC ?_
          refine os (x_field (off' := 0) rfl zt Try.underlying56 rfl T.s22 rfl) ?_
          refine os (x_load1' rfl zt T.g22 zh rfl (Nat.le_of_ble_eq_true rfl) (by simp only [List.take_succ_cons, List.drop_succ_cons, List.take_zero, List.drop_zero, List.take_nil, List.drop_nil, List.cons_append, List.nil_append, List.append_nil, List.length_cons, List.length_nil, Nat.reduceAdd, Int.toNat_zero, Nat.zero_mul, Nat.add_zero, Nat.zero_add] <;> rfl)) ?_
          refine os (x_move rfl zt) ?_
          refine os (y_bsliceV rfl zt rfl Try.underlying22 T.s3 T.z3 rfl rfl) ?_
          refine os (x_append rfl rfl zv rfl rfl zr (cells_row Try.underlying22 T.s3 (l_all (whole_row zh rfl) rfl)) (ya_own Try.underlying22 T.i22 zd rfl ow (by unfold BIG; omega) rfl zd zh rfl (by rw [ints_len, Nat.mul_one]))) ?_
          refine os (x_field (off' := 0) rfl zt Try.underlying56 rfl T.s22 rfl) ?_
          refine o_stepN (wA_none rfl) rfl (y_store1P rfl zt zt rfl T.s22 zh rfl (Nat.le_of_ble_eq_true rfl) rfl (by simp only [splice, List.take_succ_cons, List.drop_succ_cons, List.take_zero, List.drop_zero, List.take_nil, List.drop_nil, List.cons_append, List.nil_append, List.append_nil, List.length_cons, List.length_nil, Nat.reduceAdd, Int.toNat_zero, Nat.zero_mul, Nat.add_zero, Nat.zero_add] <;> rfl)) ?_
          refine o_done ?_
          refine e_seq ?_
          refine k_seq ?_
          refine k_region hP hC ?_
          refine os (x_field (off' := 1) rfl zt Try.underlying56 rfl T.s22 rfl) ?_
          refine os (x_load1' rfl zt T.g22 zh rfl (Nat.le_of_ble_eq_true rfl) (by simp only [List.take_succ_cons, List.drop_succ_cons, List.take_zero, List.drop_zero, List.take_nil, List.drop_nil, List.cons_append, List.nil_append, List.append_nil, List.length_cons, List.length_nil, Nat.reduceAdd, Int.toNat_zero, Nat.zero_mul, Nat.add_zero, Nat.zero_add] <;> rfl)) ?_
          refine os (x_move rfl zt) ?_
          refine os (y_bsliceV rfl zt rfl Try.underlying22 T.s3 T.z3 rfl rfl) ?_
          refine os (x_append rfl rfl zv rfl rfl zr (cells_row Try.underlying22 T.s3 (l_all (whole_row zh rfl) rfl)) (ya_own Try.underlying22 T.i22 zd rfl ow (by unfold BIG; omega) rfl zd zh rfl (by rw [ints_len, Nat.mul_one]))) ?_
          refine os (x_field (off' := 1) rfl zt Try.underlying56 rfl T.s22 rfl) ?_
          refine o_stepN (wA_none rfl) rfl (y_store1P rfl zt zt rfl T.s22 zh rfl (Nat.le_of_ble_eq_true rfl) rfl (by simp only [splice, List.take_succ_cons, List.drop_succ_cons, List.take_zero, List.drop_zero, List.take_nil, List.drop_nil, List.cons_append, List.nil_append, List.append_nil, List.length_cons, List.length_nil, Nat.reduceAdd, Int.toNat_zero, Nat.zero_mul, Nat.add_zero, Nat.zero_add] <;> rfl)) ?_
          refine o_done ?_
          refine e_seq ?_
          refine k_exit ?_
          refine e_block_ne zd ?_
          refine e_seq_exit ?_
          refine e_loop_exit ?_
          refine e_block_eq ?_
          refine e_block ?_
          refine e_seq ?_
          refine k_region hP hC ?_
          refine os (x_bin rfl zt (by rfl) b_add) ?_
          refine os (x_move rfl zt) ?_
          refine o_done ?_
          refine e_loop ?_
          refine ⟨(true, IntKind.i64.wrap (w + 1), (accW ++ [w]), (accA ++ [i])), (to_mk (L := [0, 1, 2, 3, 8, 10]) (slots := [0, 1, 4, 11, 58]) (w := 2) zr (gcVs_cons zh (gcV_sl hs_L rfl) (gcVs_cons zh (gcV_sl hs_R rfl) (gcVs_cons zh (gcV_ptr rfl) (gcVs_cons zh (gcV_ptr rfl) (gcVs_cons zh (gcV_free rfl) gcVs_nil))))) (gcH_cons (gcO_old (by rfl) zh) (gcH_cons (gcO_old (by rfl) zh) (gcH_cons (gcO_rowE (by rfl) zh (gcD_free rfl) rfl) (gcH_cons (gcO_rowE (by rfl) zh (gcD_cons (gcV_sliceE rfl (by simp)) (gcD_cons (gcV_sliceE rfl (by simp)) gcD_nil)) rfl) (gcH_cons (gcO_aliasE (by rfl) zh zh (gcD_free (by rw [List.all_append, ints_free1]; rfl)) (by simp only [ints_append, ints_one])) (gcH_cons (gcO_aliasE (by rfl) zh zh (gcD_free (by rw [List.all_append, ints_free1]; rfl)) (by simp only [ints_append, ints_one])) gcH_nil)))))) zr), ?_, ?_⟩
          ·rw [wr1 ow ow]; refine ⟨by omega, by omega, ?_, ?_, ?_, ?_⟩
           ·rw [jOut_next hw0]; exact jIn_done h0 ow (jIn_hit h0 h2 zs zs (fun hm => absurd (hlt w hm) ow)) (by simp)
           ·simp
           ·simp
           ·intro v hv; rcases List.mem_append.1 hv with hv | hv; have := hlt v hv; omega; simp at hv; omega
          ·show (6 - IntKind.i64.wrap (w + 1)).toNat < (6 - w).toNat; rw [wr1 ow ow]; omega
         ·have p34 := g34; try simp only [d1, d2, d3, d4, d5, d6, d7, d8, d9] at p34
          refine k_skip ?_
          refine e_block ?_
          refine e_seq ?_
          refine k_region hP hC ?_
          refine os (x_bin rfl zt (by rfl) b_add) ?_
          refine os (x_move rfl zt) ?_
          refine o_done ?_
          refine e_loop ?_
          refine ⟨(true, IntKind.i64.wrap (i + 1), accW, accA), (to_mk (L := [0, 1, 2, 3, 4, 5]) (slots := [0, 1, 4, 11, 58, 12, 61, 62, 63]) (w := 2) zr (gcVs_cons zh (gcV_sl hs_L rfl) (gcVs_cons zh (gcV_sl hs_R rfl) (gcVs_cons zh (gcV_ptr rfl) (gcVs_cons zh (gcV_ptr rfl) (gcVs_cons zh (gcV_free rfl) (gcVs_cons zh (gcV_free rfl) (gcVs_cons zh (gcV_sl hs_L rfl) (gcVs_cons zh (gcV_free rfl) (gcVs_cons zh (gcV_free rfl) gcVs_nil))))))))) (gcH_cons (gcO_old (by rfl) zh) (gcH_cons (gcO_old (by rfl) zh) (gcH_cons (gcO_rowE (by rfl) zh (gcD_free rfl) rfl) (gcH_cons (gcO_rowE (by rfl) zh (gcD_cons (gcV_sliceE rfl rfl) (gcD_cons (gcV_sliceE rfl rfl) gcD_nil)) rfl) (gcH_cons (gcO_row (by rfl) zh (gcD_free (ints_free1 _))) (gcH_cons (gcO_row (by rfl) zh (gcD_free (ints_free1 _))) gcH_nil)))))) zr), ?_, ?_⟩
          ·rw [wr1 ow ow]; refine ⟨by omega, by omega, ?_, ?_, ?_, hlt⟩
           ·exact jIn_skip h0 h2 (by first | exact .inl zs | exact .inr (.inl zs) | exact .inr (.inr zs) | exact absurd zs (by simp))
           ·exact hbW
           ·exact hbA
          ·show (L.length - IntKind.i64.wrap (i + 1)).toNat < (L.length - i).toNat; rw [wr1 ow ow]; omega
        ·have p32 := g32; try simp only [d1, d2, d3, d4, d5, d6, d7, d8, d9] at p32
         refine d_skip (wA_off rfl rfl zg) rfl zd ?_
         refine d_skip (wA_off rfl rfl zg) rfl zd ?_
         refine d_skip (wA_off rfl rfl zg) rfl zd ?_
         refine d_skip (wA_off rfl rfl zg) rfl zd ?_
         refine d_skip (wA_off rfl rfl zg) rfl zd ?_
         refine d_skip (wA_off rfl rfl zg) rfl zd ?_
         refine d_skip (wA_off rfl rfl zg) rfl zd ?_
         refine ds (x_pick rfl zg zb) ?_
         refine d_done ⟨by kernel_rfl, ?_⟩
         refine e_seq ?_
         refine k_condF zg ?_
         refine k_skip ?_
         refine e_block ?_
         refine e_seq ?_
         refine k_region hP hC ?_
         refine os (x_bin rfl zt (by rfl) b_add) ?_
         refine os (x_move rfl zt) ?_
         refine o_done ?_
         refine e_loop ?_
         refine ⟨(true, IntKind.i64.wrap (i + 1), accW, accA), (to_mk (L := [0, 1, 2, 3, 4, 5]) (slots := [0, 1, 4, 11, 58, 12, 61, 62, 63]) (w := 2) zr (gcVs_cons zh (gcV_sl hs_L rfl) (gcVs_cons zh (gcV_sl hs_R rfl) (gcVs_cons zh (gcV_ptr rfl) (gcVs_cons zh (gcV_ptr rfl) (gcVs_cons zh (gcV_free rfl) (gcVs_cons zh (gcV_free rfl) (gcVs_cons zh (gcV_sl hs_L rfl) (gcVs_cons zh (gcV_free rfl) (gcVs_cons zh (gcV_free rfl) gcVs_nil))))))))) (gcH_cons (gcO_old (by rfl) zh) (gcH_cons (gcO_old (by rfl) zh) (gcH_cons (gcO_rowE (by rfl) zh (gcD_free rfl) rfl) (gcH_cons (gcO_rowE (by rfl) zh (gcD_cons (gcV_sliceE rfl rfl) (gcD_cons (gcV_sliceE rfl rfl) gcD_nil)) rfl) (gcH_cons (gcO_row (by rfl) zh (gcD_free (ints_free1 _))) (gcH_cons (gcO_row (by rfl) zh (gcD_free (ints_free1 _))) gcH_nil)))))) zr), ?_, ?_⟩
         ·rw [wr1 ow ow]; refine ⟨by omega, by omega, ?_, ?_, ?_, hlt⟩
          ·exact jIn_skip h0 h2 (by first | exact .inl zs | exact .inr (.inl zs) | exact .inr (.inr zs) | exact absurd zs (by simp))
          ·exact hbW
          ·exact hbA
         ·show (L.length - IntKind.i64.wrap (i + 1)).toNat < (L.length - i).toNat; rw [wr1 ow ow]; omega
       ·have p30 := g30; try simp only [d1, d2, d3, d4, d5, d6, d7, d8, d9] at p30
        refine k_exit ?_
        refine e_seq_exit ?_
        refine e_loop_exit ?_
        refine e_block_eq ?_
        refine e_block ?_
        refine e_seq ?_
        refine k_region hP hC ?_
        refine os (x_bin rfl zt (by rfl) b_add) ?_
        refine os (x_move rfl zt) ?_
        refine o_done ?_
        refine e_loop ?_
        refine ⟨(true, IntKind.i64.wrap (w + 1), accW, accA), (to_mk (L := [0, 1, 2, 3, 4, 5]) (slots := [0, 1, 4, 11, 58]) (w := 2) zr (gcVs_cons zh (gcV_sl hs_L rfl) (gcVs_cons zh (gcV_sl hs_R rfl) (gcVs_cons zh (gcV_ptr rfl) (gcVs_cons zh (gcV_ptr rfl) (gcVs_cons zh (gcV_free rfl) gcVs_nil))))) (gcH_cons (gcO_old (by rfl) zh) (gcH_cons (gcO_old (by rfl) zh) (gcH_cons (gcO_rowE (by rfl) zh (gcD_free rfl) rfl) (gcH_cons (gcO_rowE (by rfl) zh (gcD_cons (gcV_sliceE rfl rfl) (gcD_cons (gcV_sliceE rfl rfl) gcD_nil)) rfl) (gcH_cons (gcO_row (by rfl) zh (gcD_free (ints_free1 _))) (gcH_cons (gcO_row (by rfl) zh (gcD_free (ints_free1 _))) gcH_nil)))))) zr), ?_, ?_⟩
        ·rw [wr1 ow ow]; refine ⟨by omega, by omega, ?_, ?_, ?_, ?_⟩
         ·rw [jOut_next hw0]; have hkn : i = L.length := by omega
          rw [hkn] at h2; exact h2
         ·exact hbW
         ·exact hbA
         ·intro v hv; have := hlt v hv; omega
        ·show (6 - IntKind.i64.wrap (w + 1)).toNat < (6 - w).toNat; rw [wr1 ow ow]; omega
     ·have p22 := g22; try simp only [d1, d2, d3, d4, d5, d6, d7, d8, d9] at p22
      refine k_exit ?_
      refine e_seq_exit ?_
      refine e_loop_exit ?_
      refine e_block_eq ?_
      refine e_seq ?_
      refine k_seq ?_
      refine k_region hP hC ?_
      refine os (x_loadA' rfl zt T.g56 T.s56 zh rfl (Nat.le_of_ble_eq_true rfl) (by simp only [List.take_succ_cons, List.drop_succ_cons, List.take_zero, List.drop_zero, List.take_nil, List.drop_nil, List.cons_append, List.nil_append, List.append_nil, List.length_cons, List.length_nil, Nat.reduceAdd, Int.toNat_zero, Nat.zero_mul, Nat.add_zero, Nat.zero_add] <;> rfl)) ?_
      refine o_stepN (wA_none rfl) rfl (y_storeA rfl zt zt T.s56 rfl zh rfl rfl rfl) ?_
      refine os (x_assign rfl (by rfl)) ?_
      refine o_done ?_
      refine e_seq ?_
      refine k_ret ?_
      have hE : judgeE L R = 0 := judgeE_0 zs (by first | assumption | exact poss_yes zs) hnc
      have h6 : w = 6 := by omega
      rw [h6] at h2
      unfold val_judge new_judge judgeW judgeA
      rw [hE]
      simp only [if_true]
      rw [← h2]
      simp only
      have hnW : accW.length ≠ 0 := by intro e; have e2 := List.eq_nil_of_length_eq_zero e; subst e2; cases hbW
      have hnA : accA.length ≠ 0 := by intro e; have e2 := List.eq_nil_of_length_eq_zero e; subst e2; cases hbA
      rw [outV_ne hnW, outV_ne hnA, outN_ne hnW, outN_ne hnA]
      refine gives_mk2 (L := [0, 1, 4, 5]) (w := 2) (.inr rfl) zr (resA_cell zh T.g56 T.s56 (l_all (whole_row zh rfl) rfl) (resA_tmp zh resA_nil)) ?_ (gcH_cons (gcO_old (by rfl) zh) (gcH_cons (gcO_old (by rfl) zh) (gcH_cons (gcO_row (by rfl) zh (gcD_free (ints_free1 _))) (gcH_cons (gcO_row (by rfl) zh (gcD_free (ints_free1 _))) gcH_nil)))) zr
      exact gcV_tup2 (gcV_agg2 (gcV_slice rfl) (gcV_slice rfl) zd) (gcV_free rfl)
theorem con_judge : Con Try.prog 23 c_judge := con_flat Try.func23 rfl fun us cs v new h => by
 unfold spec_judge at h
 split at h
 case h_2 => cases h
 rename_i s_L s_R c_L c_R
 split at h
 case isFalse => cases h
 rename_i hc
 try simp only [Bool.and_eq_true] at hc
 obtain ⟨⟨⟨⟨q_L, r_L⟩, q_R⟩, r_R⟩, hok⟩ := hc
 cases h
 obtain ⟨h_L, e_L⟩ := isRows_cfs zd r_L
 have hs_L := slOk_sl (n := (chunks 46 c_L).length) q_L zd (rows_len (ks := T.K43) zd r_L)
 obtain ⟨h_R, e_R⟩ := isRows_cfs zd r_R
 have hs_R := slOk_sl (n := (chunks 22 c_R).length) q_R zd (rows_len (ks := T.K41) zd r_R)
 have key := judge_m hs_L h_L hs_R h_R hok
 have hrows : [(chunks T.K43.length c_L).flatten, (chunks T.K41.length c_R).flatten] = [c_L, c_R] := by rw [e_L, e_R]
 rw [← hrows]
 exact key
theorem judge_c {H : AH} {s_L : Value} {s_R : Value} {L : List (List Value)} {R : List (List Value)} (hr_L : Rd H 46 s_L L.length L.flatten) (h_L : cfs T.K43 L) (hr_R : Rd H 22 s_R R.length R.flatten) (h_R : cfs T.K41 R) (hok : ok_judge L R = true) : c_judge [s_L, s_R] H = some (.tuple ⟨[.agg ⟨[outV H.next 1 (judgeW L R).length, outV (H.next + 1) 1 (judgeA L R).length]⟩, .int .i64 (judgeE L R)]⟩, addRows H (outN (judgeW L R).length (ints (judgeW L R)) ++ outN (judgeA L R).length (ints (judgeA L R)))) := by
 obtain ⟨u_L, a_L, b_L⟩ := hr_L 0
 obtain ⟨u_R, a_R, b_R⟩ := hr_R 1
 have k_L := isRows_flat zd h_L
 have k2_L : chunks 46 L.flatten = L := k_L.2
 have k_R := isRows_flat zd h_R
 have k2_R : chunks 22 R.flatten = R := k_R.2
 exact flatC_at (v := val_judge L R) (new := new_judge L R) (cl_sl a_L (cl_sl a_R cl_nil)) (by simp only [spec_judge, sl_slOk b_L (cfs_len h_L), k_L.1, k2_L, sl_slOk b_R (cfs_len h_R), k_R.1, k2_R, hok, Bool.and_self, if_true]) (by unfold new_judge; exact outN_free2 (ints_free0 _) (ints_free0 _)) (by exact gcV_tup2 (gcV_agg2 out_gc' (out_gcA (j := 1)) zd) (gcV_free rfl))
end Go.Proofs.Ytohhcnehcjpekaa
