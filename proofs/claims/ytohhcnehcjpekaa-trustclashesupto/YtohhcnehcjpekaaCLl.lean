/-
  Contracts: same findings, givers, leaning.
-/
import Derived.Test.YtohhcnehcjpekaaCLk
namespace Go.Proofs.Ytohhcnehcjpekaa
open Go.AM
set_option maxRecDepth 100000
set_option maxHeartbeats 1000000
set_option linter.unusedSimpArgs false
set_option linter.unusedVariables false
def ok_givers (L : List (List Value)) (x : List Value) : Bool := decide (L.length ≤ 1000)
def val_givers (L : List (List Value)) (x : List Value) : Value := .int .i64 (giversN L x)
def new_givers (L : List (List Value)) (x : List Value) : List (List Value) := []
def spec_givers : Go.AM.Spec := fun us cs => match us, cs with
 | [s_L, .agg ⟨x⟩], [c_L] => if slOk 0 46 c_L s_L && isRows T.K43 c_L && cf T.K43 x && ok_givers (chunks 46 c_L) x then some (val_givers (chunks 46 c_L) x, new_givers (chunks 46 c_L) x) else none
 | _, _ => none
def c_givers := flatC [.sl 46, .fr] spec_givers
theorem givers_m {s_L : Value} {L : List (List Value)} {x : List Value} (hs_L : Sl 0 46 L.length s_L) (h_L : cfs T.K43 L) (h_x : cf T.K43 x = true) (hok : ok_givers L x = true) : Meets Try.prog (.func 37) [s_L, .agg ⟨x⟩] (cheap [L.flatten]) (val_givers L x) (rheap [L.flatten] (new_givers L x)) := by
 have hP := Fits
 have hC : CallSound Try.prog (tabOf [(32, c_in)]) := tab_sound (tab_cons con_in tab_end)
 simp only [ok_givers, Bool.and_eq_true, decide_eq_true_eq] at hok
 have hb := hok
 refine meets_start (sz := 51) hP Try.func37 rfl rfl zo (by simp only [Tr.ofList, roRows, Nat.zero_add, Nat.reduceAdd] <;> rfl) zl ?_
 refine k_seq ?_
 refine k_region hP hC ?_
 refine os (y_boxA rfl zt) ?_
 refine os (x_assign rfl (by rfl)) ?_
 refine o_done ?_
 refine e_seq ?_
 refine k_seq ?_
 refine k_region hP hC ?_
 refine os (x_assign rfl (by rfl)) ?_
 refine o_done ?_
 refine e_seq ?_
 refine k_seq ?_
 refine k_seq ?_
 refine k_region hP hC ?_
 refine os (x_assign rfl (by rfl)) ?_
 refine o_done ?_
 refine e_seq ?_
 refine k_block ?_
 refine k_loop (α := Bool × Int × List Int) (fun z => match z with | (false, i, acc) => cst 51 [0, 3, 5, 6] [s_L, .pointer (some ⟨1, 0, none⟩), .slice none 0 0, .int .i64 i] [.row L.flatten 0 BIG true L.flatten.length, .row x 1 BIG false x.length] 1 | (true, i, acc) => cst 51 [0, 3, 5, 6] [s_L, .pointer (some ⟨1, 0, none⟩), .slice (some ⟨2, 0, none⟩) acc.length (acc.length + 1), .int .i64 i] [.row L.flatten 0 BIG true L.flatten.length, .row x 1 BIG false x.length, .row (ints acc) 2 BIG false (ints acc).length] 1) (fun z => match z with | (b, i, acc) => 0 ≤ i ∧ i ≤ L.length ∧ acc = gvF x (L.take i.toNat) ∧ acc.isEmpty = !b) (fun z => match z with | (_, i, _) => (L.length - i).toNat) (false, 0, []) (to_mk (L := [0, 1]) (slots := [0, 3, 5, 6]) (w := 1) zr (gcVs_cons zh (gcV_sl hs_L rfl) (gcVs_cons zh (gcV_ptr rfl) (gcVs_cons zh (gcV_free rfl) (gcVs_cons zh (gcV_free rfl) gcVs_nil)))) (gcH_cons (gcO_old (by rfl) zh) (gcH_cons (gcO_row (by rfl) zh (gcD_free (cf_free1 h_x))) gcH_nil)) zr) ⟨by omega, by omega, rfl, rfl⟩ ?_
 rintro ⟨_ | _, i, acc⟩ ⟨h0, h1, h2, h3⟩
 ·skip
  have hacc : acc = [] := List.isEmpty_iff.1 h3
  refine k_cst zm zo zl ?_
  refine k_seq ?_
  refine k_seq ?_
  refine k_region hP hC ?_
  refine os (x_move rfl zt) ?_
  refine os (x_move rfl zt) ?_
  refine os (x_lenS hs_L rfl rfl zv rfl Try.underlying23) ?_
  refine os (x_bin rfl zt zt b_lss) ?_
  refine o_done ?_
  refine e_seq ?_
  refine k_cond zt (fun g2 => ?_) (fun g2 => ?_)
  ·have p2 := g2; try simp only [d1, d2, d3, d4, d5, d6, d7, d8, d9] at p2
   refine k_skip ?_
   refine e_seq ?_
   refine k_seq ?_
   refine k_block ?_
   refine k_seq ?_
   refine k_draw hP hC zr ?_
   refine ds (x_move rfl zt) ?_
   refine ds (x_move rfl zt) ?_
   refine ds (x_indexS hs_L rfl zt zt Try.underlying23 T.s43 (by omega) (by omega)) ?_
   refine ds (x_fieldK (a := 2) rfl zt Try.underlying43 rfl T.s37 rfl) ?_
   refine ds (x_loadA rfl zt T.g37 T.s37 (l_part (a := 2) (K := 46) (whole_row zh rfl) (by assumption) rfl (by omega) (by omega) (by decide))) ?_
   refine ds (x_field (off' := 2) rfl zt Try.underlying43 rfl T.s37 rfl) ?_
   refine ds (x_loadA rfl zt T.g37 T.s37 (l_box (whole_row zh rfl) (by (first | assumption | (exact cf_nth (by assumption) (by omega) (by omega)))) (by decide))) ?_
   refine ds (x_bin rfl zt zt (b_eqlA (by decide) T.f37 T.g37 T.q37 zc zc)) ?_
   refine ds (x_move rfl zt) ?_
   refine d_guard rfl rfl zh (fun g4 => ?_) (fun g4 => ?_)
   ·have p4 := g4; try simp only [d1, d2, d3, d4, d5, d6, d7, d8, d9] at p4
    refine d_step (wA_on rfl rfl (by simp only [Tr.get_set, reduceIte, Nat.reduceEqDiff, Nat.reduceAdd, g2, g4] <;> rfl)) rfl (x_move rfl zt) (by decide) ?_
    refine d_step (wA_on rfl rfl (by simp only [Tr.get_set, reduceIte, Nat.reduceEqDiff, Nat.reduceAdd, g2, g4] <;> rfl)) rfl (x_move rfl zt) (by decide) ?_
    refine d_step (wA_on rfl rfl (by simp only [Tr.get_set, reduceIte, Nat.reduceEqDiff, Nat.reduceAdd, g2, g4] <;> rfl)) rfl (x_indexS hs_L rfl zt zt Try.underlying23 T.s43 (by omega) (by omega)) (by decide) ?_
    refine d_step (wA_on rfl rfl (by simp only [Tr.get_set, reduceIte, Nat.reduceEqDiff, Nat.reduceAdd, g2, g4] <;> rfl)) rfl (x_fieldK (a := 23) rfl zt Try.underlying43 rfl T.s41 rfl) (by decide) ?_
    refine d_step (wA_on rfl rfl (by simp only [Tr.get_set, reduceIte, Nat.reduceEqDiff, Nat.reduceAdd, g2, g4] <;> rfl)) rfl (x_loadA rfl zt T.g41 T.s41 (l_part (a := 23) (K := 46) (whole_row zh rfl) (by assumption) rfl (by omega) (by omega) (by decide))) (by decide) ?_
    refine d_step (wA_on rfl rfl (by simp only [Tr.get_set, reduceIte, Nat.reduceEqDiff, Nat.reduceAdd, g2, g4] <;> rfl)) rfl (x_field (off' := 23) rfl zt Try.underlying43 rfl T.s41 rfl) (by decide) ?_
    refine d_step (wA_on rfl rfl (by simp only [Tr.get_set, reduceIte, Nat.reduceEqDiff, Nat.reduceAdd, g2, g4] <;> rfl)) rfl (x_loadA rfl zt T.g41 T.s41 (l_box (whole_row zh rfl) (by (first | assumption | (exact cf_nth (by assumption) (by omega) (by omega)))) (by decide))) (by decide) ?_
    refine d_step (wA_on rfl rfl (by simp only [Tr.get_set, reduceIte, Nat.reduceEqDiff, Nat.reduceAdd, g2, g4] <;> rfl)) rfl (x_bin rfl zt zt (b_eqlA (by decide) T.f41 T.g41 T.q41 zc zc)) (by decide) ?_
    refine ds (x_pick rfl (by simp only [Tr.get_set, reduceIte, Nat.reduceEqDiff, Nat.reduceAdd, ev_tmp, g2, g4] <;> rfl) (by simp only [if_true, if_false, Bool.false_eq_true, ev_tmp, Tr.get_set, reduceIte, Nat.reduceEqDiff, Nat.reduceAdd, g2, g4]; rfl)) ?_
    refine ds (x_move rfl zt) ?_
    refine d_guard rfl rfl zh (fun g6 => ?_) (fun g6 => ?_)
    ·have p6 := g6; try simp only [d1, d2, d3, d4, d5, d6, d7, d8, d9] at p6
     refine d_step (wA_on rfl rfl (by simp only [Tr.get_set, reduceIte, Nat.reduceEqDiff, Nat.reduceAdd, g2, g4, g6] <;> rfl)) rfl (x_move rfl zt) (by decide) ?_
     refine d_step (wA_on rfl rfl (by simp only [Tr.get_set, reduceIte, Nat.reduceEqDiff, Nat.reduceAdd, g2, g4, g6] <;> rfl)) rfl (x_move rfl zt) (by decide) ?_
     refine d_step (wA_on rfl rfl (by simp only [Tr.get_set, reduceIte, Nat.reduceEqDiff, Nat.reduceAdd, g2, g4, g6] <;> rfl)) rfl (x_move rfl zt) (by decide) ?_
     refine d_step (wA_on rfl rfl (by simp only [Tr.get_set, reduceIte, Nat.reduceEqDiff, Nat.reduceAdd, g2, g4, g6] <;> rfl)) rfl (x_indexS hs_L rfl zt zt Try.underlying23 T.s43 (by omega) (by omega)) (by decide) ?_
     refine d_step (wA_on rfl rfl (by simp only [Tr.get_set, reduceIte, Nat.reduceEqDiff, Nat.reduceAdd, g2, g4, g6] <;> rfl)) rfl (x_field0 rfl zt Try.underlying43 rfl T.s3 rfl) (by decide) ?_
     refine d_step (wA_on rfl rfl (by simp only [Tr.get_set, reduceIte, Nat.reduceEqDiff, Nat.reduceAdd, g2, g4, g6] <;> rfl)) rfl (x_load1 rfl zt T.g3 (l_partI0 (K := 46) (whole_row zh rfl) (by assumption) rfl (by omega) (by omega) rfl)) (by decide) ?_
     refine d_call0 (wA_on rfl rfl (by simp only [Tr.get_set, reduceIte, Nat.reduceEqDiff, Nat.reduceAdd, g2, g4, g6] <;> rfl)) rfl rfl rfl zv (by decide) ?_
     refine ⟨_, _, _, _, (tab_hit.trans (in_c (l := []) rd_nil rfl)), ?_⟩
     refine d_step (wA_on rfl rfl (by simp only [Tr.get_set, reduceIte, Nat.reduceEqDiff, Nat.reduceAdd, g2, g4, g6] <;> rfl)) rfl (x_not rfl (by simp only [Tr.get_set, reduceIte, Nat.reduceEqDiff, Nat.reduceAdd, ev_tmp, g2, g4, g6] <;> rfl)) (by decide) ?_
     refine ds (x_pick rfl (by simp only [Tr.get_set, reduceIte, Nat.reduceEqDiff, Nat.reduceAdd, ev_tmp, g2, g4, g6] <;> rfl) (by simp only [if_true, if_false, Bool.false_eq_true, ev_tmp, Tr.get_set, reduceIte, Nat.reduceEqDiff, Nat.reduceAdd, g2, g4, g6]; rfl)) ?_
     refine d_done ⟨by kernel_rfl, ?_⟩
     refine e_seq ?_
     refine k_cond (by simp only [Tr.get_set, reduceIte, Nat.reduceEqDiff, Nat.reduceAdd, ev_tmp, g2, g4, g6] <;> rfl) (fun g9 => ?_) (fun g9 => ?_)
     ·have p9 := g9; try simp only [d1, d2, d3, d4, d5, d6, d7, d8, d9] at p9
      refine k_region hP hC ?_
      refine os (x_move rfl zt) ?_
      refine os (x_move rfl zt) ?_
      refine os (x_move rfl zt) ?_
      refine os (x_indexS hs_L rfl zt zt Try.underlying23 T.s43 (by omega) (by omega)) ?_
      refine os (x_field0 rfl zt Try.underlying43 rfl T.s3 rfl) ?_
      refine os (x_load1 rfl zt T.g3 (l_partI0 (K := 46) (whole_row zh rfl) (by assumption) rfl (by omega) (by omega) rfl)) ?_
      refine os (y_bsliceV rfl zt rfl Try.underlying22 T.s3 T.z3 rfl rfl) ?_
      refine os (x_append rfl rfl zv rfl rfl zr (cells_row Try.underlying22 T.s3 (l_all (whole_row zh rfl) rfl)) (ya_nil Try.underlying22 T.i22 (by decide) rfl (by decide) (by decide) rfl (by decide))) ?_
      refine os (x_assign rfl zt) ?_
      refine o_done ?_
      refine e_block ?_
      refine e_seq ?_
      refine k_region hP hC ?_
      refine os (x_move rfl zt) ?_
      refine os (x_bin rfl zt (by rfl) b_add) ?_
      refine os (x_assign rfl zt) ?_
      refine o_done ?_
      refine e_loop ?_
      refine ⟨(true, IntKind.i64.wrap (i + 1), [wkr (nth L i)]), (to_mk (L := [0, 1, 3]) (slots := [0, 3, 5, 6]) (w := 1) zr (gcVs_cons zh (gcV_sl hs_L rfl) (gcVs_cons zh (gcV_ptr rfl) (gcVs_cons zh (gcV_slice rfl) (gcVs_cons zh (gcV_free rfl) gcVs_nil)))) (gcH_cons (gcO_old (by rfl) zh) (gcH_cons (gcO_row (by rfl) zh (gcD_free (cf_free1 h_x))) (gcH_cons (gcO_rowE (by rfl) zh (gcD_free rfl) (by simp only [ints_append, ints_one])) gcH_nil))) zr), ?_, ?_⟩
      ·rw [wr1 (by omega) (by omega)]; refine ⟨by omega, by omega, ?_, ?_⟩
       ·rw [gv_hit h0 (by omega) (by assumption) (by assumption) (by rw [← h2]; rw [hacc]; simp), ← h2]; rw [hacc]; rfl
       ·rfl
      ·show (L.length - IntKind.i64.wrap (i + 1)).toNat < (L.length - i).toNat; rw [wr1 (by omega) (by omega)]; omega
     ·have p9 := g9; try simp only [d1, d2, d3, d4, d5, d6, d7, d8, d9] at p9
      refine k_skip ?_
      refine e_block ?_
      refine e_seq ?_
      refine k_region hP hC ?_
      refine os (x_move rfl zt) ?_
      refine os (x_bin rfl zt (by rfl) b_add) ?_
      refine os (x_assign rfl zt) ?_
      refine o_done ?_
      refine e_loop ?_
      refine ⟨(false, IntKind.i64.wrap (i + 1), acc), (to_mk (L := [0, 1]) (slots := [0, 3, 5, 6]) (w := 1) zr (gcVs_cons zh (gcV_sl hs_L rfl) (gcVs_cons zh (gcV_ptr rfl) (gcVs_cons zh (gcV_free rfl) (gcVs_cons zh (gcV_free rfl) gcVs_nil)))) (gcH_cons (gcO_old (by rfl) zh) (gcH_cons (gcO_row (by rfl) zh (gcD_free (cf_free1 h_x))) gcH_nil)) zr), ?_, ?_⟩
      ·rw [wr1 (by omega) (by omega)]; refine ⟨by omega, by omega, ?_, ?_⟩
       ·rw [gv_skip h0 (by omega) (by first | exact .inl (by assumption) | exact .inr (.inl (by assumption)) | exact .inr (.inr (by rw [← h2]; assumption)) | exact .inr (.inr (absurd (by assumption) (by simp))))]; exact h2
       ·exact h3
      ·show (L.length - IntKind.i64.wrap (i + 1)).toNat < (L.length - i).toNat; rw [wr1 (by omega) (by omega)]; omega
    ·have p6 := g6; try simp only [d1, d2, d3, d4, d5, d6, d7, d8, d9] at p6
     refine d_skip (wA_off rfl rfl (by simp only [Tr.get_set, reduceIte, Nat.reduceEqDiff, Nat.reduceAdd, g2, g4, g6] <;> rfl)) rfl (by decide) ?_
     refine d_skip (wA_off rfl rfl (by simp only [Tr.get_set, reduceIte, Nat.reduceEqDiff, Nat.reduceAdd, g2, g4, g6] <;> rfl)) rfl (by decide) ?_
     refine d_skip (wA_off rfl rfl (by simp only [Tr.get_set, reduceIte, Nat.reduceEqDiff, Nat.reduceAdd, g2, g4, g6] <;> rfl)) rfl (by decide) ?_
     refine d_skip (wA_off rfl rfl (by simp only [Tr.get_set, reduceIte, Nat.reduceEqDiff, Nat.reduceAdd, g2, g4, g6] <;> rfl)) rfl (by decide) ?_
     refine d_skip (wA_off rfl rfl (by simp only [Tr.get_set, reduceIte, Nat.reduceEqDiff, Nat.reduceAdd, g2, g4, g6] <;> rfl)) rfl (by decide) ?_
     refine d_skip (wA_off rfl rfl (by simp only [Tr.get_set, reduceIte, Nat.reduceEqDiff, Nat.reduceAdd, g2, g4, g6] <;> rfl)) rfl (by decide) ?_
     refine d_skip (wA_off rfl rfl (by simp only [Tr.get_set, reduceIte, Nat.reduceEqDiff, Nat.reduceAdd, g2, g4, g6] <;> rfl)) rfl (by decide) ?_
     refine d_skip (wA_off rfl rfl (by simp only [Tr.get_set, reduceIte, Nat.reduceEqDiff, Nat.reduceAdd, g2, g4, g6] <;> rfl)) rfl (by decide) ?_
     refine ds (x_pick rfl (by simp only [Tr.get_set, reduceIte, Nat.reduceEqDiff, Nat.reduceAdd, ev_tmp, g2, g4, g6] <;> rfl) (by simp only [if_true, if_false, Bool.false_eq_true, ev_tmp, Tr.get_set, reduceIte, Nat.reduceEqDiff, Nat.reduceAdd, g2, g4, g6]; rfl)) ?_
     refine d_done ⟨by kernel_rfl, ?_⟩
     refine e_seq ?_
     refine k_condF (by simp only [Tr.get_set, reduceIte, Nat.reduceEqDiff, Nat.reduceAdd, ev_tmp, g2, g4, g6] <;> rfl) ?_
     refine k_skip ?_
     refine e_block ?_
     refine e_seq ?_
     refine k_region hP hC ?_
     refine os (x_move rfl zt) ?_
     refine os (x_bin rfl zt (by rfl) b_add) ?_
     refine os (x_assign rfl zt) ?_
     refine o_done ?_
     refine e_loop ?_
     refine ⟨(false, IntKind.i64.wrap (i + 1), acc), (to_mk (L := [0, 1]) (slots := [0, 3, 5, 6]) (w := 1) zr (gcVs_cons zh (gcV_sl hs_L rfl) (gcVs_cons zh (gcV_ptr rfl) (gcVs_cons zh (gcV_free rfl) (gcVs_cons zh (gcV_free rfl) gcVs_nil)))) (gcH_cons (gcO_old (by rfl) zh) (gcH_cons (gcO_row (by rfl) zh (gcD_free (cf_free1 h_x))) gcH_nil)) zr), ?_, ?_⟩
     ·rw [wr1 (by omega) (by omega)]; refine ⟨by omega, by omega, ?_, ?_⟩
      ·rw [gv_skip h0 (by omega) (by first | exact .inl (by assumption) | exact .inr (.inl (by assumption)) | exact .inr (.inr (by rw [← h2]; assumption)) | exact .inr (.inr (absurd (by assumption) (by simp))))]; exact h2
      ·exact h3
     ·show (L.length - IntKind.i64.wrap (i + 1)).toNat < (L.length - i).toNat; rw [wr1 (by omega) (by omega)]; omega
   ·have p4 := g4; try simp only [d1, d2, d3, d4, d5, d6, d7, d8, d9] at p4
    refine d_skip (wA_off rfl rfl (by simp only [Tr.get_set, reduceIte, Nat.reduceEqDiff, Nat.reduceAdd, g2, g4] <;> rfl)) rfl (by decide) ?_
    refine d_skip (wA_off rfl rfl (by simp only [Tr.get_set, reduceIte, Nat.reduceEqDiff, Nat.reduceAdd, g2, g4] <;> rfl)) rfl (by decide) ?_
    refine d_skip (wA_off rfl rfl (by simp only [Tr.get_set, reduceIte, Nat.reduceEqDiff, Nat.reduceAdd, g2, g4] <;> rfl)) rfl (by decide) ?_
    refine d_skip (wA_off rfl rfl (by simp only [Tr.get_set, reduceIte, Nat.reduceEqDiff, Nat.reduceAdd, g2, g4] <;> rfl)) rfl (by decide) ?_
    refine d_skip (wA_off rfl rfl (by simp only [Tr.get_set, reduceIte, Nat.reduceEqDiff, Nat.reduceAdd, g2, g4] <;> rfl)) rfl (by decide) ?_
    refine d_skip (wA_off rfl rfl (by simp only [Tr.get_set, reduceIte, Nat.reduceEqDiff, Nat.reduceAdd, g2, g4] <;> rfl)) rfl (by decide) ?_
    refine d_skip (wA_off rfl rfl (by simp only [Tr.get_set, reduceIte, Nat.reduceEqDiff, Nat.reduceAdd, g2, g4] <;> rfl)) rfl (by decide) ?_
    refine d_skip (wA_off rfl rfl (by simp only [Tr.get_set, reduceIte, Nat.reduceEqDiff, Nat.reduceAdd, g2, g4] <;> rfl)) rfl (by decide) ?_
    refine ds (x_pick rfl (by simp only [Tr.get_set, reduceIte, Nat.reduceEqDiff, Nat.reduceAdd, ev_tmp, g2, g4] <;> rfl) (by simp only [if_true, if_false, Bool.false_eq_true, ev_tmp, Tr.get_set, reduceIte, Nat.reduceEqDiff, Nat.reduceAdd, g2, g4]; rfl)) ?_
    refine ds (x_move rfl zt) ?_
    refine d_skip (wA_off rfl rfl (by simp only [Tr.get_set, reduceIte, Nat.reduceEqDiff, Nat.reduceAdd, g2, g4] <;> rfl)) rfl (by decide) ?_
    refine d_skip (wA_off rfl rfl (by simp only [Tr.get_set, reduceIte, Nat.reduceEqDiff, Nat.reduceAdd, g2, g4] <;> rfl)) rfl (by decide) ?_
    refine d_skip (wA_off rfl rfl (by simp only [Tr.get_set, reduceIte, Nat.reduceEqDiff, Nat.reduceAdd, g2, g4] <;> rfl)) rfl (by decide) ?_
    refine d_skip (wA_off rfl rfl (by simp only [Tr.get_set, reduceIte, Nat.reduceEqDiff, Nat.reduceAdd, g2, g4] <;> rfl)) rfl (by decide) ?_
    refine d_skip (wA_off rfl rfl (by simp only [Tr.get_set, reduceIte, Nat.reduceEqDiff, Nat.reduceAdd, g2, g4] <;> rfl)) rfl (by decide) ?_
    refine d_skip (wA_off rfl rfl (by simp only [Tr.get_set, reduceIte, Nat.reduceEqDiff, Nat.reduceAdd, g2, g4] <;> rfl)) rfl (by decide) ?_
    refine d_skip (wA_off rfl rfl (by simp only [Tr.get_set, reduceIte, Nat.reduceEqDiff, Nat.reduceAdd, g2, g4] <;> rfl)) rfl (by decide) ?_
    refine d_skip (wA_off rfl rfl (by simp only [Tr.get_set, reduceIte, Nat.reduceEqDiff, Nat.reduceAdd, g2, g4] <;> rfl)) rfl (by decide) ?_
    refine ds (x_pick rfl (by simp only [Tr.get_set, reduceIte, Nat.reduceEqDiff, Nat.reduceAdd, ev_tmp, g2, g4] <;> rfl) (by simp only [if_true, if_false, Bool.false_eq_true, ev_tmp, Tr.get_set, reduceIte, Nat.reduceEqDiff, Nat.reduceAdd, g2, g4]; rfl)) ?_
    refine d_done ⟨by kernel_rfl, ?_⟩
    refine e_seq ?_
    refine k_condF (by simp only [Tr.get_set, reduceIte, Nat.reduceEqDiff, Nat.reduceAdd, ev_tmp, g2, g4] <;> rfl) ?_
    refine k_skip ?_
    refine e_block ?_
    refine e_seq ?_
    refine k_region hP hC ?_
    refine os (x_move rfl zt) ?_
    refine os (x_bin rfl zt (by rfl) b_add) ?_
    refine os (x_assign rfl zt) ?_
    refine o_done ?_
    refine e_loop ?_
    refine ⟨(false, IntKind.i64.wrap (i + 1), acc), (to_mk (L := [0, 1]) (slots := [0, 3, 5, 6]) (w := 1) zr (gcVs_cons zh (gcV_sl hs_L rfl) (gcVs_cons zh (gcV_ptr rfl) (gcVs_cons zh (gcV_free rfl) (gcVs_cons zh (gcV_free rfl) gcVs_nil)))) (gcH_cons (gcO_old (by rfl) zh) (gcH_cons (gcO_row (by rfl) zh (gcD_free (cf_free1 h_x))) gcH_nil)) zr), ?_, ?_⟩
    ·rw [wr1 (by omega) (by omega)]; refine ⟨by omega, by omega, ?_, ?_⟩
     ·rw [gv_skip h0 (by omega) (by first | exact .inl (by assumption) | exact .inr (.inl (by assumption)) | exact .inr (.inr (by rw [← h2]; assumption)) | exact .inr (.inr (absurd (by assumption) (by simp))))]; exact h2
     ·exact h3
    ·show (L.length - IntKind.i64.wrap (i + 1)).toNat < (L.length - i).toNat; rw [wr1 (by omega) (by omega)]; omega
  ·have p2 := g2; try simp only [d1, d2, d3, d4, d5, d6, d7, d8, d9] at p2
   refine k_exit ?_
   refine e_seq_exit ?_
   refine e_loop_exit ?_
   refine e_block_eq ?_
   refine e_seq ?_
   refine k_seq ?_
   refine k_region hP hC ?_
   refine os (x_move rfl zt) ?_
   refine os (x_len rfl rfl zv rfl Try.underlying22) ?_
   refine os (x_assign rfl zt) ?_
   refine o_done ?_
   refine e_seq ?_
   refine k_ret ?_
   refine gives_mk (L := [0]) (slots := [4]) (w := 1) (.inr rfl) zr (gcVs_cons zh (gcV_free rfl) gcVs_nil) (gcH_cons (gcO_old (by rfl) zh) gcH_nil) zr (by simp only [Try.results37, resA, cst, mkE, Tr.get_set, reduceIte, Nat.reduceEqDiff, Nat.reduceAdd] <;> rfl) ?_
   rw [take_end (by omega)] at h2; simp only [one, val_givers, giversN]; rw [← h2]; rw [hacc]; rfl
 ·skip
  have hal : acc.length ≤ L.length := by rw [h2]; exact gvF_len
  refine k_cst zm zo zl ?_
  refine k_seq ?_
  refine k_seq ?_
  refine k_region hP hC ?_
  refine os (x_move rfl zt) ?_
  refine os (x_move rfl zt) ?_
  refine os (x_lenS hs_L rfl rfl zv rfl Try.underlying23) ?_
  refine os (x_bin rfl zt zt b_lss) ?_
  refine o_done ?_
  refine e_seq ?_
  refine k_cond zt (fun g11 => ?_) (fun g11 => ?_)
  ·have p11 := g11; try simp only [d1, d2, d3, d4, d5, d6, d7, d8, d9] at p11
   refine k_skip ?_
   refine e_seq ?_
   refine k_seq ?_
   refine k_block ?_
   refine k_seq ?_
   refine k_draw hP hC zr ?_
   refine ds (x_move rfl zt) ?_
   refine ds (x_move rfl zt) ?_
   refine ds (x_indexS hs_L rfl zt zt Try.underlying23 T.s43 (by omega) (by omega)) ?_
   refine ds (x_fieldK (a := 2) rfl zt Try.underlying43 rfl T.s37 rfl) ?_
   refine ds (x_loadA rfl zt T.g37 T.s37 (l_part (a := 2) (K := 46) (whole_row zh rfl) (by assumption) rfl (by omega) (by omega) (by decide))) ?_
   refine ds (x_field (off' := 2) rfl zt Try.underlying43 rfl T.s37 rfl) ?_
   refine ds (x_loadA rfl zt T.g37 T.s37 (l_box (whole_row zh rfl) (by (first | assumption | (exact cf_nth (by assumption) (by omega) (by omega)))) (by decide))) ?_
   refine ds (x_bin rfl zt zt (b_eqlA (by decide) T.f37 T.g37 T.q37 zc zc)) ?_
   refine ds (x_move rfl zt) ?_
   refine d_guard rfl rfl zh (fun g13 => ?_) (fun g13 => ?_)
   ·have p13 := g13; try simp only [d1, d2, d3, d4, d5, d6, d7, d8, d9] at p13
    refine d_step (wA_on rfl rfl (by simp only [Tr.get_set, reduceIte, Nat.reduceEqDiff, Nat.reduceAdd, g11, g13] <;> rfl)) rfl (x_move rfl zt) (by decide) ?_
    refine d_step (wA_on rfl rfl (by simp only [Tr.get_set, reduceIte, Nat.reduceEqDiff, Nat.reduceAdd, g11, g13] <;> rfl)) rfl (x_move rfl zt) (by decide) ?_
    refine d_step (wA_on rfl rfl (by simp only [Tr.get_set, reduceIte, Nat.reduceEqDiff, Nat.reduceAdd, g11, g13] <;> rfl)) rfl (x_indexS hs_L rfl zt zt Try.underlying23 T.s43 (by omega) (by omega)) (by decide) ?_
    refine d_step (wA_on rfl rfl (by simp only [Tr.get_set, reduceIte, Nat.reduceEqDiff, Nat.reduceAdd, g11, g13] <;> rfl)) rfl (x_fieldK (a := 23) rfl zt Try.underlying43 rfl T.s41 rfl) (by decide) ?_
    refine d_step (wA_on rfl rfl (by simp only [Tr.get_set, reduceIte, Nat.reduceEqDiff, Nat.reduceAdd, g11, g13] <;> rfl)) rfl (x_loadA rfl zt T.g41 T.s41 (l_part (a := 23) (K := 46) (whole_row zh rfl) (by assumption) rfl (by omega) (by omega) (by decide))) (by decide) ?_
    refine d_step (wA_on rfl rfl (by simp only [Tr.get_set, reduceIte, Nat.reduceEqDiff, Nat.reduceAdd, g11, g13] <;> rfl)) rfl (x_field (off' := 23) rfl zt Try.underlying43 rfl T.s41 rfl) (by decide) ?_
    refine d_step (wA_on rfl rfl (by simp only [Tr.get_set, reduceIte, Nat.reduceEqDiff, Nat.reduceAdd, g11, g13] <;> rfl)) rfl (x_loadA rfl zt T.g41 T.s41 (l_box (whole_row zh rfl) (by (first | assumption | (exact cf_nth (by assumption) (by omega) (by omega)))) (by decide))) (by decide) ?_
    refine d_step (wA_on rfl rfl (by simp only [Tr.get_set, reduceIte, Nat.reduceEqDiff, Nat.reduceAdd, g11, g13] <;> rfl)) rfl (x_bin rfl zt zt (b_eqlA (by decide) T.f41 T.g41 T.q41 zc zc)) (by decide) ?_
    refine ds (x_pick rfl (by simp only [Tr.get_set, reduceIte, Nat.reduceEqDiff, Nat.reduceAdd, ev_tmp, g11, g13] <;> rfl) (by simp only [if_true, if_false, Bool.false_eq_true, ev_tmp, Tr.get_set, reduceIte, Nat.reduceEqDiff, Nat.reduceAdd, g11, g13]; rfl)) ?_
    refine ds (x_move rfl zt) ?_
    refine d_guard rfl rfl zh (fun g15 => ?_) (fun g15 => ?_)
    ·have p15 := g15; try simp only [d1, d2, d3, d4, d5, d6, d7, d8, d9] at p15
     refine d_step (wA_on rfl rfl (by simp only [Tr.get_set, reduceIte, Nat.reduceEqDiff, Nat.reduceAdd, g11, g13, g15] <;> rfl)) rfl (x_move rfl zt) (by decide) ?_
     refine d_step (wA_on rfl rfl (by simp only [Tr.get_set, reduceIte, Nat.reduceEqDiff, Nat.reduceAdd, g11, g13, g15] <;> rfl)) rfl (x_move rfl zt) (by decide) ?_
     refine d_step (wA_on rfl rfl (by simp only [Tr.get_set, reduceIte, Nat.reduceEqDiff, Nat.reduceAdd, g11, g13, g15] <;> rfl)) rfl (x_move rfl zt) (by decide) ?_
     refine d_step (wA_on rfl rfl (by simp only [Tr.get_set, reduceIte, Nat.reduceEqDiff, Nat.reduceAdd, g11, g13, g15] <;> rfl)) rfl (x_indexS hs_L rfl zt zt Try.underlying23 T.s43 (by omega) (by omega)) (by decide) ?_
     refine d_step (wA_on rfl rfl (by simp only [Tr.get_set, reduceIte, Nat.reduceEqDiff, Nat.reduceAdd, g11, g13, g15] <;> rfl)) rfl (x_field0 rfl zt Try.underlying43 rfl T.s3 rfl) (by decide) ?_
     refine d_step (wA_on rfl rfl (by simp only [Tr.get_set, reduceIte, Nat.reduceEqDiff, Nat.reduceAdd, g11, g13, g15] <;> rfl)) rfl (x_load1 rfl zt T.g3 (l_partI0 (K := 46) (whole_row zh rfl) (by assumption) rfl (by omega) (by omega) rfl)) (by decide) ?_
     refine d_call0 (wA_on rfl rfl (by simp only [Tr.get_set, reduceIte, Nat.reduceEqDiff, Nat.reduceAdd, g11, g13, g15] <;> rfl)) rfl rfl rfl zv (by decide) ?_
     refine ⟨_, _, _, _, (tab_hit.trans (in_c (rd_whole (by decide) (.inr rfl) (whole_row zh rfl) (by rw [ints_len, Nat.mul_one]) (ints_free0 _)) (by rw [ok_in, decide_eq_true (by omega)]))), ?_⟩
     refine d_step (wA_on rfl rfl (by simp only [Tr.get_set, reduceIte, Nat.reduceEqDiff, Nat.reduceAdd, g11, g13, g15] <;> rfl)) rfl (x_not rfl (by simp only [Tr.get_set, reduceIte, Nat.reduceEqDiff, Nat.reduceAdd, ev_tmp, g11, g13, g15] <;> rfl)) (by decide) ?_
     refine ds (x_pick rfl (by simp only [Tr.get_set, reduceIte, Nat.reduceEqDiff, Nat.reduceAdd, ev_tmp, g11, g13, g15] <;> rfl) (by simp only [if_true, if_false, Bool.false_eq_true, ev_tmp, Tr.get_set, reduceIte, Nat.reduceEqDiff, Nat.reduceAdd, g11, g13, g15]; rfl)) ?_
     refine d_done ⟨by kernel_rfl, ?_⟩
     refine e_seq ?_
     refine k_cond (by simp only [Tr.get_set, reduceIte, Nat.reduceEqDiff, Nat.reduceAdd, ev_tmp, g11, g13, g15] <;> rfl) (fun g18 => ?_) (fun g18 => ?_)
     ·have p18 := g18; try simp only [d1, d2, d3, d4, d5, d6, d7, d8, d9] at p18
      refine k_region hP hC ?_
      refine os (x_move rfl zt) ?_
      refine os (x_move rfl zt) ?_
      refine os (x_move rfl zt) ?_
      refine os (x_indexS hs_L rfl zt zt Try.underlying23 T.s43 (by omega) (by omega)) ?_
      refine os (x_field0 rfl zt Try.underlying43 rfl T.s3 rfl) ?_
      refine os (x_load1 rfl zt T.g3 (l_partI0 (K := 46) (whole_row zh rfl) (by assumption) rfl (by omega) (by omega) rfl)) ?_
      refine os (y_bsliceV rfl zt rfl Try.underlying22 T.s3 T.z3 rfl rfl) ?_
      refine os (x_append rfl rfl zv rfl rfl zr (cells_row Try.underlying22 T.s3 (l_all (whole_row zh rfl) rfl)) (ya_own Try.underlying22 T.i22 (by decide) rfl (by omega) (by unfold BIG; omega) rfl (by decide) zh rfl (by rw [ints_len, Nat.mul_one]))) ?_
      refine os (x_assign rfl zt) ?_
      refine o_done ?_
      refine e_block ?_
      refine e_seq ?_
      refine k_region hP hC ?_
      refine os (x_move rfl zt) ?_
      refine os (x_bin rfl zt (by rfl) b_add) ?_
      refine os (x_assign rfl zt) ?_
      refine o_done ?_
      refine e_loop ?_
      refine ⟨(true, IntKind.i64.wrap (i + 1), (acc ++ [wkr (nth L i)])), (to_mk (L := [0, 1, 4]) (slots := [0, 3, 5, 6]) (w := 1) zr (gcVs_cons zh (gcV_sl hs_L rfl) (gcVs_cons zh (gcV_ptr rfl) (gcVs_cons zh (gcV_sliceE rfl (by simp)) (gcVs_cons zh (gcV_free rfl) gcVs_nil)))) (gcH_cons (gcO_old (by rfl) zh) (gcH_cons (gcO_row (by rfl) zh (gcD_free (cf_free1 h_x))) (gcH_cons (gcO_aliasE (by rfl) zh zh (gcD_free (by rw [List.all_append, ints_free1]; rfl)) (by simp only [ints_append, ints_one])) gcH_nil))) zr), ?_, ?_⟩
      ·rw [wr1 (by omega) (by omega)]; refine ⟨by omega, by omega, ?_, ?_⟩
       ·rw [gv_hit h0 (by omega) (by assumption) (by assumption) (by rw [← h2]; assumption), ← h2]
       ·simp
      ·show (L.length - IntKind.i64.wrap (i + 1)).toNat < (L.length - i).toNat; rw [wr1 (by omega) (by omega)]; omega
     ·have p18 := g18; try simp only [d1, d2, d3, d4, d5, d6, d7, d8, d9] at p18
      refine k_skip ?_
      refine e_block ?_
      refine e_seq ?_
      refine k_region hP hC ?_
      refine os (x_move rfl zt) ?_
      refine os (x_bin rfl zt (by rfl) b_add) ?_
      refine os (x_assign rfl zt) ?_
      refine o_done ?_
      refine e_loop ?_
      refine ⟨(true, IntKind.i64.wrap (i + 1), acc), (to_mk (L := [0, 1, 2]) (slots := [0, 3, 5, 6]) (w := 1) zr (gcVs_cons zh (gcV_sl hs_L rfl) (gcVs_cons zh (gcV_ptr rfl) (gcVs_cons zh (gcV_slice rfl) (gcVs_cons zh (gcV_free rfl) gcVs_nil)))) (gcH_cons (gcO_old (by rfl) zh) (gcH_cons (gcO_row (by rfl) zh (gcD_free (cf_free1 h_x))) (gcH_cons (gcO_row (by rfl) zh (gcD_free (ints_free1 _))) gcH_nil))) zr), ?_, ?_⟩
      ·rw [wr1 (by omega) (by omega)]; refine ⟨by omega, by omega, ?_, ?_⟩
       ·rw [gv_skip h0 (by omega) (by first | exact .inl (by assumption) | exact .inr (.inl (by assumption)) | exact .inr (.inr (by rw [← h2]; assumption)) | exact .inr (.inr (absurd (by assumption) (by simp))))]; exact h2
       ·exact h3
      ·show (L.length - IntKind.i64.wrap (i + 1)).toNat < (L.length - i).toNat; rw [wr1 (by omega) (by omega)]; omega
    ·have p15 := g15; try simp only [d1, d2, d3, d4, d5, d6, d7, d8, d9] at p15
     refine d_skip (wA_off rfl rfl (by simp only [Tr.get_set, reduceIte, Nat.reduceEqDiff, Nat.reduceAdd, g11, g13, g15] <;> rfl)) rfl (by decide) ?_
     refine d_skip (wA_off rfl rfl (by simp only [Tr.get_set, reduceIte, Nat.reduceEqDiff, Nat.reduceAdd, g11, g13, g15] <;> rfl)) rfl (by decide) ?_
     refine d_skip (wA_off rfl rfl (by simp only [Tr.get_set, reduceIte, Nat.reduceEqDiff, Nat.reduceAdd, g11, g13, g15] <;> rfl)) rfl (by decide) ?_
     refine d_skip (wA_off rfl rfl (by simp only [Tr.get_set, reduceIte, Nat.reduceEqDiff, Nat.reduceAdd, g11, g13, g15] <;> rfl)) rfl (by decide) ?_
     refine d_skip (wA_off rfl rfl (by simp only [Tr.get_set, reduceIte, Nat.reduceEqDiff, Nat.reduceAdd, g11, g13, g15] <;> rfl)) rfl (by decide) ?_
     refine d_skip (wA_off rfl rfl (by simp only [Tr.get_set, reduceIte, Nat.reduceEqDiff, Nat.reduceAdd, g11, g13, g15] <;> rfl)) rfl (by decide) ?_
     refine d_skip (wA_off rfl rfl (by simp only [Tr.get_set, reduceIte, Nat.reduceEqDiff, Nat.reduceAdd, g11, g13, g15] <;> rfl)) rfl (by decide) ?_
     refine d_skip (wA_off rfl rfl (by simp only [Tr.get_set, reduceIte, Nat.reduceEqDiff, Nat.reduceAdd, g11, g13, g15] <;> rfl)) rfl (by decide) ?_
     refine ds (x_pick rfl (by simp only [Tr.get_set, reduceIte, Nat.reduceEqDiff, Nat.reduceAdd, ev_tmp, g11, g13, g15] <;> rfl) (by simp only [if_true, if_false, Bool.false_eq_true, ev_tmp, Tr.get_set, reduceIte, Nat.reduceEqDiff, Nat.reduceAdd, g11, g13, g15]; rfl)) ?_
     refine d_done ⟨by kernel_rfl, ?_⟩
     refine e_seq ?_
     refine k_condF (by simp only [Tr.get_set, reduceIte, Nat.reduceEqDiff, Nat.reduceAdd, ev_tmp, g11, g13, g15] <;> rfl) ?_
     refine k_skip ?_
     refine e_block ?_
     refine e_seq ?_
     refine k_region hP hC ?_
     refine os (x_move rfl zt) ?_
     refine os (x_bin rfl zt (by rfl) b_add) ?_
     refine os (x_assign rfl zt) ?_
     refine o_done ?_
     refine e_loop ?_
     refine ⟨(true, IntKind.i64.wrap (i + 1), acc), (to_mk (L := [0, 1, 2]) (slots := [0, 3, 5, 6]) (w := 1) zr (gcVs_cons zh (gcV_sl hs_L rfl) (gcVs_cons zh (gcV_ptr rfl) (gcVs_cons zh (gcV_slice rfl) (gcVs_cons zh (gcV_free rfl) gcVs_nil)))) (gcH_cons (gcO_old (by rfl) zh) (gcH_cons (gcO_row (by rfl) zh (gcD_free (cf_free1 h_x))) (gcH_cons (gcO_row (by rfl) zh (gcD_free (ints_free1 _))) gcH_nil))) zr), ?_, ?_⟩
     ·rw [wr1 (by omega) (by omega)]; refine ⟨by omega, by omega, ?_, ?_⟩
      ·rw [gv_skip h0 (by omega) (by first | exact .inl (by assumption) | exact .inr (.inl (by assumption)) | exact .inr (.inr (by rw [← h2]; assumption)) | exact .inr (.inr (absurd (by assumption) (by simp))))]; exact h2
      ·exact h3
     ·show (L.length - IntKind.i64.wrap (i + 1)).toNat < (L.length - i).toNat; rw [wr1 (by omega) (by omega)]; omega
   ·have p13 := g13; try simp only [d1, d2, d3, d4, d5, d6, d7, d8, d9] at p13
    refine d_skip (wA_off rfl rfl (by simp only [Tr.get_set, reduceIte, Nat.reduceEqDiff, Nat.reduceAdd, g11, g13] <;> rfl)) rfl (by decide) ?_
    refine d_skip (wA_off rfl rfl (by simp only [Tr.get_set, reduceIte, Nat.reduceEqDiff, Nat.reduceAdd, g11, g13] <;> rfl)) rfl (by decide) ?_
    refine d_skip (wA_off rfl rfl (by simp only [Tr.get_set, reduceIte, Nat.reduceEqDiff, Nat.reduceAdd, g11, g13] <;> rfl)) rfl (by decide) ?_
    refine d_skip (wA_off rfl rfl (by simp only [Tr.get_set, reduceIte, Nat.reduceEqDiff, Nat.reduceAdd, g11, g13] <;> rfl)) rfl (by decide) ?_
    refine d_skip (wA_off rfl rfl (by simp only [Tr.get_set, reduceIte, Nat.reduceEqDiff, Nat.reduceAdd, g11, g13] <;> rfl)) rfl (by decide) ?_
    refine d_skip (wA_off rfl rfl (by simp only [Tr.get_set, reduceIte, Nat.reduceEqDiff, Nat.reduceAdd, g11, g13] <;> rfl)) rfl (by decide) ?_
    refine d_skip (wA_off rfl rfl (by simp only [Tr.get_set, reduceIte, Nat.reduceEqDiff, Nat.reduceAdd, g11, g13] <;> rfl)) rfl (by decide) ?_
    refine d_skip (wA_off rfl rfl (by simp only [Tr.get_set, reduceIte, Nat.reduceEqDiff, Nat.reduceAdd, g11, g13] <;> rfl)) rfl (by decide) ?_
    refine ds (x_pick rfl (by simp only [Tr.get_set, reduceIte, Nat.reduceEqDiff, Nat.reduceAdd, ev_tmp, g11, g13] <;> rfl) (by simp only [if_true, if_false, Bool.false_eq_true, ev_tmp, Tr.get_set, reduceIte, Nat.reduceEqDiff, Nat.reduceAdd, g11, g13]; rfl)) ?_
    refine ds (x_move rfl zt) ?_
    refine d_skip (wA_off rfl rfl (by simp only [Tr.get_set, reduceIte, Nat.reduceEqDiff, Nat.reduceAdd, g11, g13] <;> rfl)) rfl (by decide) ?_
    refine d_skip (wA_off rfl rfl (by simp only [Tr.get_set, reduceIte, Nat.reduceEqDiff, Nat.reduceAdd, g11, g13] <;> rfl)) rfl (by decide) ?_
    refine d_skip (wA_off rfl rfl (by simp only [Tr.get_set, reduceIte, Nat.reduceEqDiff, Nat.reduceAdd, g11, g13] <;> rfl)) rfl (by decide) ?_
    refine d_skip (wA_off rfl rfl (by simp only [Tr.get_set, reduceIte, Nat.reduceEqDiff, Nat.reduceAdd, g11, g13] <;> rfl)) rfl (by decide) ?_
    refine d_skip (wA_off rfl rfl (by simp only [Tr.get_set, reduceIte, Nat.reduceEqDiff, Nat.reduceAdd, g11, g13] <;> rfl)) rfl (by decide) ?_
    refine d_skip (wA_off rfl rfl (by simp only [Tr.get_set, reduceIte, Nat.reduceEqDiff, Nat.reduceAdd, g11, g13] <;> rfl)) rfl (by decide) ?_
    refine d_skip (wA_off rfl rfl (by simp only [Tr.get_set, reduceIte, Nat.reduceEqDiff, Nat.reduceAdd, g11, g13] <;> rfl)) rfl (by decide) ?_
    refine d_skip (wA_off rfl rfl (by simp only [Tr.get_set, reduceIte, Nat.reduceEqDiff, Nat.reduceAdd, g11, g13] <;> rfl)) rfl (by decide) ?_
    refine ds (x_pick rfl (by simp only [Tr.get_set, reduceIte, Nat.reduceEqDiff, Nat.reduceAdd, ev_tmp, g11, g13] <;> rfl) (by simp only [if_true, if_false, Bool.false_eq_true, ev_tmp, Tr.get_set, reduceIte, Nat.reduceEqDiff, Nat.reduceAdd, g11, g13]; rfl)) ?_
    refine d_done ⟨by kernel_rfl, ?_⟩
    refine e_seq ?_
    refine k_condF (by simp only [Tr.get_set, reduceIte, Nat.reduceEqDiff, Nat.reduceAdd, ev_tmp, g11, g13] <;> rfl) ?_
    refine k_skip ?_
    refine e_block ?_
    refine e_seq ?_
    refine k_region hP hC ?_
    refine os (x_move rfl zt) ?_
    refine os (x_bin rfl zt (by rfl) b_add) ?_
    refine os (x_assign rfl zt) ?_
    refine o_done ?_
    refine e_loop ?_
    refine ⟨(true, IntKind.i64.wrap (i + 1), acc), (to_mk (L := [0, 1, 2]) (slots := [0, 3, 5, 6]) (w := 1) zr (gcVs_cons zh (gcV_sl hs_L rfl) (gcVs_cons zh (gcV_ptr rfl) (gcVs_cons zh (gcV_slice rfl) (gcVs_cons zh (gcV_free rfl) gcVs_nil)))) (gcH_cons (gcO_old (by rfl) zh) (gcH_cons (gcO_row (by rfl) zh (gcD_free (cf_free1 h_x))) (gcH_cons (gcO_row (by rfl) zh (gcD_free (ints_free1 _))) gcH_nil))) zr), ?_, ?_⟩
    ·rw [wr1 (by omega) (by omega)]; refine ⟨by omega, by omega, ?_, ?_⟩
     ·rw [gv_skip h0 (by omega) (by first | exact .inl (by assumption) | exact .inr (.inl (by assumption)) | exact .inr (.inr (by rw [← h2]; assumption)) | exact .inr (.inr (absurd (by assumption) (by simp))))]; exact h2
     ·exact h3
    ·show (L.length - IntKind.i64.wrap (i + 1)).toNat < (L.length - i).toNat; rw [wr1 (by omega) (by omega)]; omega
  ·have p11 := g11; try simp only [d1, d2, d3, d4, d5, d6, d7, d8, d9] at p11
   refine k_exit ?_
   refine e_seq_exit ?_
   refine e_loop_exit ?_
   refine e_block_eq ?_
   refine e_seq ?_
   refine k_seq ?_
   refine k_region hP hC ?_
   refine os (x_move rfl zt) ?_
   refine os (x_len rfl rfl zv rfl Try.underlying22) ?_
   refine os (x_assign rfl zt) ?_
   refine o_done ?_
   refine e_seq ?_
   refine k_ret ?_
   refine gives_mk (L := [0]) (slots := [4]) (w := 1) (.inr rfl) zr (gcVs_cons zh (gcV_free rfl) gcVs_nil) (gcH_cons (gcO_old (by rfl) zh) gcH_nil) zr (by simp only [Try.results37, resA, cst, mkE, Tr.get_set, reduceIte, Nat.reduceEqDiff, Nat.reduceAdd] <;> rfl) ?_
   rw [take_end (by omega)] at h2; simp only [one, val_givers, giversN]; rw [← h2]
theorem con_givers : Con Try.prog 37 c_givers := con_flat Try.func37 rfl fun us cs v new h => by
 unfold spec_givers at h
 split at h
 case h_2 => cases h
 rename_i s_L x c_L
 split at h
 case isFalse => cases h
 rename_i hc
 try simp only [Bool.and_eq_true] at hc
 obtain ⟨⟨⟨q_L, r_L⟩, h_x⟩, hok⟩ := hc
 cases h
 obtain ⟨h_L, e_L⟩ := isRows_cfs (by decide) r_L
 have hs_L := slOk_sl (n := (chunks 46 c_L).length) q_L (by decide) (rows_len (ks := T.K43) (by decide) r_L)
 have key := givers_m hs_L h_L h_x hok
 have hrows : [(chunks T.K43.length c_L).flatten] = [c_L] := by rw [e_L]
 rw [← hrows]
 exact key
theorem givers_c {H : AH} {s_L : Value} {L : List (List Value)} {x : List Value} (hr_L : Rd H 46 s_L L.length L.flatten) (h_L : cfs T.K43 L) (h_x : cf T.K43 x = true) (hok : ok_givers L x = true) : c_givers [s_L, .agg ⟨x⟩] H = some (.int .i64 (giversN L x), H) := by
 obtain ⟨u_L, a_L, b_L⟩ := hr_L 0
 have k_L := isRows_flat (by decide) h_L
 have k2_L : chunks 46 L.flatten = L := k_L.2
 exact flatC_at (v := val_givers L x) (new := new_givers L x) (cl_sl a_L (cl_fr (cf_free0 h_x) cl_nil)) (by simp only [spec_givers, h_x, sl_slOk b_L (cfs_len h_L), k_L.1, k2_L, hok, Bool.and_self, if_true]) (rfl) (gcV_free rfl)
end Go.Proofs.Ytohhcnehcjpekaa
