/-
  The law CommuteApart: her walk.
-/
import Derived.Test.YtlhlkjhjoalhoaaGreatDoorCLw
set_option linter.unusedSimpArgs false
set_option linter.unusedVariables false
namespace Go.Proofs.YtlhlkjhjoalhoaaGreatDoor
open Go.AM
set_option maxRecDepth 100000
set_option maxHeartbeats 1000000
set_option linter.unusedSimpArgs false
set_option linter.unusedVariables false
set_option maxHeartbeats 40000000
def ok_law (l : List Int) (m : List Int) : Bool := decide (l.all (fun n => decide (inR n)) = true) && decide (m.all (fun n => decide (inR n)) = true) && decide (l.length < 4611686018427387904) && decide (m.length < 4611686018427387904)
def val_law (l : List Int) (m : List Int) : Value := .bool true
def new_law (l : List Int) (m : List Int) : List (List Value) := []
theorem law_m {s_l : Value} {s_m : Value} {l : List Int} {m : List Int} (hs_l : Sl 0 1 l.length s_l) (hs_m : Sl 1 1 m.length s_m) (hok : ok_law l m = true) : Meets Tryz.prog (.func 3) [s_l, s_m] (cheap [ints l, ints m]) (val_law l m) (rheap [ints l, ints m] (new_law l m)) := by
 have hP := Fits
 have hC : CallSound Tryz.prog (tabOf [(4, c_around), (5, c_apart), (6, c_accs), (7, c_refApart), (8, c_lives)]) := tab_sound (tab_cons con_around (tab_cons con_apart (tab_cons con_accs (tab_cons con_refApart (tab_cons con_lives tab_end)))))
 simp only [ok_law, Bool.and_eq_true, decide_eq_true_eq] at hok
 obtain ⟨⟨⟨hl, hm⟩, hlb⟩, hmb⟩ := hok
 have hB0 : 100000 ≤ BIG := by unfold BIG; omega
 refine meets_start (sz := 122) hP Tryz.func3 rfl rfl zo (by simp only [Tr.ofList, roRows, Nat.zero_add, Nat.reduceAdd] <;> rfl) zl ?_
 skip
 ·skip
  refine k_seq ?_
  refine k_region hP hC ?_
  refine os (x_assign rfl (by rfl)) ?_
  refine o_done ?_
  refine e_seq ?_
  refine k_seq ?_
  refine k_region hP hC ?_
  refine os (x_assign rfl (by rfl)) ?_
  refine o_done ?_
  refine e_seq ?_
  refine k_seq ?_
  refine k_region hP hC ?_
  refine os (x_assign rfl (by rfl)) ?_
  refine o_done ?_
  refine e_seq ?_
  refine k_seq ?_
  refine k_seq ?_
  refine k_region hP hC ?_
  refine os (x_assign rfl (by rfl)) ?_
  refine o_done ?_
  refine e_seq ?_
  refine k_nm (fun tS1 nS1 qS1 hxS1 => ?_)
  refine k_join (fun s => ∃ U v e t nx wr, s = ⟨e, 122, ⟨t, nx, wr⟩⟩ ∧ e.get 1 = some (s_m) ∧ e.get 5 = some (v) ∧ e.get 6 = some (.slice none 0 0) ∧ cfs T.K26 U ∧ U.length ≤ 9 ∧ nS1 ≤ nx ∧ (nx : Int) ≤ nS1 + 30 ∧ 2 ≤ wr ∧ wr ≤ BIG ∧ (∀ id, id < nS1 → t.get id = tS1.get id) ∧ RdS t nx 3 v U.length U.flatten) ?_ ?_
  ·skip
   refine k_block ?_
   refine k_nm (fun tS3 nS3 qS3 hxS3 => ?_)
   refine k_loopI (α := Int) (fun i s => ∃ v e t nx wr S, s = ⟨e, 122, ⟨t, nx, wr⟩⟩ ∧ e.get 0 = some (s_l) ∧ e.get 1 = some (s_m) ∧ e.get 6 = some (.slice none 0 0) ∧ e.get 5 = some (v) ∧ e.get 7 = some (.int .i64 i) ∧ 0 ≤ i ∧ i ≤ l.length ∧ i ≤ 9 ∧ nS3 ≤ nx ∧ (nx : Int) ≤ nS3 + 3 * i ∧ 2 ≤ wr ∧ wr ≤ BIG ∧ (∀ id, id < nS3 → t.get id = tS3.get id) ∧ AccP t nS3 nx S 3 v (lA l i).length (lA l i).flatten) (fun i => (9 - i).toNat) 0 ⟨_, _, _, _, _, _, rfl, (by (repeat (first | rw [Tr.get_set, if_neg (by omega)] | rw [hxS3 _ (by omega)] | rw [hxS1 _ (by omega)])) <;> first | rfl | assumption | (rw [Tr.get_set, if_pos (by omega)]; done) | (rw [Tr.get_set, if_pos (by omega)]; rfl)), (by (repeat (first | rw [Tr.get_set, if_neg (by omega)] | rw [hxS3 _ (by omega)] | rw [hxS1 _ (by omega)])) <;> first | rfl | assumption | (rw [Tr.get_set, if_pos (by omega)]; done) | (rw [Tr.get_set, if_pos (by omega)]; rfl)), (by (repeat (first | rw [Tr.get_set, if_neg (by omega)] | rw [hxS3 _ (by omega)] | rw [hxS1 _ (by omega)])) <;> first | rfl | assumption | (rw [Tr.get_set, if_pos (by omega)]; done) | (rw [Tr.get_set, if_pos (by omega)]; rfl)), (by (repeat (first | rw [Tr.get_set, if_neg (by omega)] | rw [hxS3 _ (by omega)] | rw [hxS1 _ (by omega)])) <;> first | rfl | assumption | (rw [Tr.get_set, if_pos (by omega)]; done) | (rw [Tr.get_set, if_pos (by omega)]; rfl)), (by (repeat (first | rw [Tr.get_set, if_neg (by omega)] | rw [hxS3 _ (by omega)] | rw [hxS1 _ (by omega)])) <;> first | rfl | assumption | (rw [Tr.get_set, if_pos (by omega)]; done) | (rw [Tr.get_set, if_pos (by omega)]; rfl)), by omega, by omega, by omega, by omega, by omega, by omega, by omega, fun _ _ => rfl, .start⟩ ?_
   rintro i s ⟨vA, e, t, nx, wr, S, rfl, he4_0, he4_1, he4_6, he4_5, he4_7, h0, h1, h9, n0, nb, w1, wb, hx4, aA⟩
   have noA := aA.no
   have hlA := lA_len (l := l) h0 h1
   refine k_seq ?_
   refine k_seq ?_
   refine k_region hP hC ?_
   refine os (x_move rfl za) ?_
   refine os (x_move rfl za) ?_
   refine os (x_lenS hs_l rfl rfl (by simp only [evs, ev_tmp, Tr.get_set, reduceIte, Nat.reduceEqDiff, Nat.reduceAdd, he4_0, he4_1, he4_6, he4_5, he4_7] <;> rfl) rfl Tryz.underlying22) ?_
   refine os (x_bin rfl za za b_lss) ?_
   refine os (x_move rfl za) ?_
   refine o_guard rfl rfl za (fun g2 => ?_) (fun g2 => ?_)
   ·have p2 := g2; try simp only [d1, d2, d3, d4, d5, d6, d7, d8, d9] at p2
    refine o_step (wA_on rfl rfl (by simp only [Tr.get_set, reduceIte, Nat.reduceEqDiff, Nat.reduceAdd, g2] <;> rfl)) rfl (x_move rfl za) (by decide) ?_
    refine o_step (wA_on rfl rfl (by simp only [Tr.get_set, reduceIte, Nat.reduceEqDiff, Nat.reduceAdd, g2] <;> rfl)) rfl (x_bin rfl za (by rfl) b_lss) (by decide) ?_
    refine os (x_pick rfl (by simp only [Tr.get_set, reduceIte, Nat.reduceEqDiff, Nat.reduceAdd, ev_tmp, g2] <;> rfl) (by simp only [if_true, if_false, Bool.false_eq_true, ev_tmp, Tr.get_set, reduceIte, Nat.reduceEqDiff, Nat.reduceAdd, g2]; rfl)) ?_
    refine o_done ?_
    refine e_seq ?_
    refine k_cond (by simp only [Tr.get_set, reduceIte, Nat.reduceEqDiff, Nat.reduceAdd, ev_tmp, g2] <;> rfl) (fun g4 => ?_) (fun g4 => ?_)
    ·have p4 := g4; try simp only [d1, d2, d3, d4, d5, d6, d7, d8, d9] at p4
     refine k_skip ?_
     refine e_seq ?_
     refine k_seq ?_
     refine k_block ?_
     refine k_seq ?_
     refine k_region hP hC ?_
     refine os (x_move rfl za) ?_
     refine os (x_move rfl za) ?_
     refine os (x_indexS hs_l rfl za za Tryz.underlying22 T.s3 (by omega) (by omega)) ?_
     refine os (x_load1 rfl za T.g3 (by first | exact l_ints (whole_row (by (repeat (first | rw [Tr.get_set, if_neg (by omega)] | rw [hx4 _ (by omega)] | rw [hxS3 _ (by omega)] | rw [hxS1 _ (by omega)])) <;> first | rfl | assumption | (rw [Tr.get_set, if_pos (by omega)]; done) | (rw [Tr.get_set, if_pos (by omega)]; rfl)) rfl) (by omega) (by omega) | exact l_partI0 (whole_row (by (repeat (first | rw [Tr.get_set, if_neg (by omega)] | rw [hx4 _ (by omega)] | rw [hxS3 _ (by omega)] | rw [hxS1 _ (by omega)])) <;> first | rfl | assumption | (rw [Tr.get_set, if_pos (by omega)]; done) | (rw [Tr.get_set, if_pos (by omega)]; rfl)) rfl) (by assumption) rfl (by omega) (by omega) rfl)) ?_
     refine o_call0 (wA_none rfl) rfl rfl rfl (by simp only [evs, ev_tmp, Tr.get_set, reduceIte, Nat.reduceEqDiff, Nat.reduceAdd, he4_0, he4_1, he4_6, he4_5, he4_7, g2, g4] <;> rfl) (by decide) ?_
     refine ⟨_, _, (tab_hit.trans (around_c (by simp only [ok_around, Bool.and_eq_true, decide_eq_true_eq]; exact ⟨all_inR hl h0 (by omega), by decide⟩))), ?_⟩
     refine os (x_assign rfl za) ?_
     refine o_done ?_
     refine e_seq ?_
     refine k_region hP hC ?_
     refine os (x_move rfl za) ?_
     refine os (x_move rfl za) ?_
     refine os (x_bin rfl za (by rfl) (b_rem (by first | decide | omega))) ?_
     refine os (x_move rfl za) ?_
     refine os (x_bin rfl za (by rfl) (b_quo (by decide))) ?_
     refine os (x_bin rfl za (by rfl) (b_rem (by first | decide | omega))) ?_
     refine os (x_move rfl za) ?_
     refine os (x_bin rfl za (by rfl) (b_quo (by decide))) ?_
     refine os (x_bin rfl za (by rfl) (b_rem (by first | decide | omega))) ?_
     refine os (x_bin rfl za (by rfl) b_eql) ?_
     refine os (x_build (v := .agg ⟨accN (ith l i)⟩) rfl zp T.z26 rfl bld26v) ?_
     refine os (y_bsliceA rfl za Tryz.underlying23 T.s26 T.z26 (by decide) rfl rfl (accN_len _) (by decide)) ?_
     refine o_appS aA (by omega) (fun x hs => by rw [Tr.get_set, if_neg (by have := aA.bnd x hs; omega)]) (by omega) (wA_none rfl) rfl rfl rfl (by simp only [evs, ev_tmp, Tr.get_set, reduceIte, Nat.reduceEqDiff, Nat.reduceAdd, he4_0, he4_1, he4_6, he4_5, he4_7, g2, g4] <;> rfl) rfl rfl zr (cells_row Tryz.underlying23 T.s26 (l_all (whole_row (by (repeat (first | rw [Tr.get_set, if_neg (by omega)] | rw [hx4 _ (by omega)] | rw [hxS3 _ (by omega)] | rw [hxS1 _ (by omega)])) <;> first | rfl | assumption | (rw [Tr.get_set, if_pos (by omega)]; done) | (rw [Tr.get_set, if_pos (by omega)]; rfl)) rfl) (by rw [Nat.one_mul]; exact (accN_len _).symm))) Tryz.underlying23 T.i23 (by decide) (by rw [Nat.one_mul]; exact accN_len _) (by omega) (by omega) rfl (by decide) (by decide) (by decide) (fun v5 t5 w5 b15 b25 a5 k5 => ?_)
     refine os (x_assign rfl za) ?_
     refine o_done ?_
     refine e_block ?_
     refine e_seq ?_
     refine k_region hP hC ?_
     refine os (x_move rfl za) ?_
     refine os (x_bin rfl za (by rfl) b_add) ?_
     refine os (x_assign rfl za) ?_
     refine o_done ?_
     refine e_loop ?_
     have hw1 : IntKind.i64.wrap (i + 1) = i + 1 := wr1 (by omega) (by omega)
     have hN := lA_next (l := l) h0 (by omega)
     have e1 := @app_len (lA l i) (accN (ith l i))
     have e2 := @app_flat (lA l i) (accN (ith l i))
     refine ⟨IntKind.i64.wrap (i + 1), ⟨v5, _, _, _, _, _, rfl, za, za, za, za, za, by rw [hw1]; omega, by rw [hw1]; omega, by rw [hw1]; omega, by omega, by rw [hw1]; omega, by omega, by omega, fun id hid => by (repeat (first | rw [Tr.get_set, if_neg (by omega)] | rw [k5 _ (noA _ (by omega)) (by omega)] | rw [hx4 _ (by omega)] | rw [hxS3 _ (by omega)] | rw [hxS1 _ (by omega)])) <;> first | rfl | assumption | (rw [Tr.get_set, if_pos (by omega)]; done) | (rw [Tr.get_set, if_pos (by omega)]; rfl), by rw [hw1, hN, e1, e2]; exact a5⟩, ?_⟩
     ·show (9 - IntKind.i64.wrap (i + 1)).toNat < (9 - i).toNat; rw [hw1]; omega
    ·have p4 := g4; try simp only [d1, d2, d3, d4, d5, d6, d7, d8, d9] at p4
     refine k_exit ?_
     refine e_seq_exit ?_
     refine e_loop_exit ?_
     refine e_block_eq ?_
     refine e_loop ?_
     exact ⟨lA l i, vA, _, _, _, _, rfl, za, za, za, lA_cf _ _, by omega, by omega, by omega, by omega, by omega, fun id hid => by (repeat (first | rw [Tr.get_set, if_neg (by omega)] | rw [hx4 _ (by omega)] | rw [hxS3 _ (by omega)] | rw [hxS1 _ (by omega)])) <;> first | rfl | assumption | (rw [Tr.get_set, if_pos (by omega)]; done) | (rw [Tr.get_set, if_pos (by omega)]; rfl), aA.rds⟩
   ·have p2 := g2; try simp only [d1, d2, d3, d4, d5, d6, d7, d8, d9] at p2
    refine o_skip (wA_off rfl rfl (by simp only [Tr.get_set, reduceIte, Nat.reduceEqDiff, Nat.reduceAdd, g2] <;> rfl)) rfl (by decide) ?_
    refine o_skip (wA_off rfl rfl (by simp only [Tr.get_set, reduceIte, Nat.reduceEqDiff, Nat.reduceAdd, g2] <;> rfl)) rfl (by decide) ?_
    refine os (x_pick rfl (by simp only [Tr.get_set, reduceIte, Nat.reduceEqDiff, Nat.reduceAdd, ev_tmp, g2] <;> rfl) (by simp only [if_true, if_false, Bool.false_eq_true, ev_tmp, Tr.get_set, reduceIte, Nat.reduceEqDiff, Nat.reduceAdd, g2]; rfl)) ?_
    refine o_done ?_
    refine e_seq ?_
    refine k_condF (by simp only [Tr.get_set, reduceIte, Nat.reduceEqDiff, Nat.reduceAdd, ev_tmp, g2] <;> rfl) ?_
    refine k_exit ?_
    refine e_seq_exit ?_
    refine e_loop_exit ?_
    refine e_block_eq ?_
    refine e_loop ?_
    exact ⟨lA l i, vA, _, _, _, _, rfl, za, za, za, lA_cf _ _, by omega, by omega, by omega, by omega, by omega, fun id hid => by (repeat (first | rw [Tr.get_set, if_neg (by omega)] | rw [hx4 _ (by omega)] | rw [hxS3 _ (by omega)] | rw [hxS1 _ (by omega)])) <;> first | rfl | assumption | (rw [Tr.get_set, if_pos (by omega)]; done) | (rw [Tr.get_set, if_pos (by omega)]; rfl), aA.rds⟩
  ·skip
   rintro s ⟨A, vA, e, t, nx, wr, rfl, he2_1, he2_5, he2_6, h_A, hbA, n0, nb, w1, wb, hx2, rA0⟩
   refine k_nm (fun tA nA qA hxA => ?_)
   have rA : RdS tA nA 3 vA A.length A.flatten := rA0.keep (by omega) (fun id hid => hxA id (by omega))
   have nbA : (nA : Int) ≤ nS1 + 30 := by omega
   have n2A : nS1 ≤ nA := by omega
   refine k_seq ?_
   refine k_seq ?_
   refine k_region hP hC ?_
   refine os (x_assign rfl (by rfl)) ?_
   refine o_done ?_
   refine e_seq ?_
   refine k_nm (fun tS6 nS6 qS6 hxS6 => ?_)
   refine k_join (fun s => ∃ U v e t nx wr, s = ⟨e, 122, ⟨t, nx, wr⟩⟩ ∧ e.get 5 = some (vA) ∧ e.get 6 = some (v) ∧ cfs T.K26 U ∧ U.length ≤ 9 ∧ nS6 ≤ nx ∧ (nx : Int) ≤ nS6 + 30 ∧ 2 ≤ wr ∧ wr ≤ BIG ∧ (∀ id, id < nS6 → t.get id = tS6.get id) ∧ RdS t nx 3 v U.length U.flatten) ?_ ?_
   ·skip
    refine k_block ?_
    refine k_nm (fun tS8 nS8 qS8 hxS8 => ?_)
    refine k_loopI (α := Int) (fun i s => ∃ v e t nx wr S, s = ⟨e, 122, ⟨t, nx, wr⟩⟩ ∧ e.get 1 = some (s_m) ∧ e.get 5 = some (vA) ∧ e.get 6 = some (v) ∧ e.get 9 = some (.int .i64 i) ∧ 0 ≤ i ∧ i ≤ m.length ∧ i ≤ 9 ∧ nS8 ≤ nx ∧ (nx : Int) ≤ nS8 + 3 * i ∧ 2 ≤ wr ∧ wr ≤ BIG ∧ (∀ id, id < nS8 → t.get id = tS8.get id) ∧ AccP t nS8 nx S 3 v (lA m i).length (lA m i).flatten) (fun i => (9 - i).toNat) 0 ⟨_, _, _, _, _, _, rfl, za, za, za, za, by omega, by omega, by omega, by omega, by omega, by omega, by omega, fun _ _ => rfl, .start⟩ ?_
    rintro i s ⟨vB, e, t, nx, wr, S, rfl, he9_1, he9_5, he9_6, he9_9, h0, h1, h9, n0, nb, w1, wb, hx9, aB⟩
    have noB := aB.no
    have hlB := lA_len (l := m) h0 h1
    refine k_seq ?_
    refine k_seq ?_
    refine k_region hP hC ?_
    refine os (x_move rfl za) ?_
    refine os (x_move rfl za) ?_
    refine os (x_lenS hs_m rfl rfl (by simp only [evs, ev_tmp, Tr.get_set, reduceIte, Nat.reduceEqDiff, Nat.reduceAdd, he9_1, he9_5, he9_6, he9_9] <;> rfl) rfl Tryz.underlying22) ?_
    refine os (x_bin rfl za za b_lss) ?_
    refine os (x_move rfl za) ?_
    refine o_guard rfl rfl za (fun g7 => ?_) (fun g7 => ?_)
    ·have p7 := g7; try simp only [d1, d2, d3, d4, d5, d6, d7, d8, d9] at p7
     refine o_step (wA_on rfl rfl (by simp only [Tr.get_set, reduceIte, Nat.reduceEqDiff, Nat.reduceAdd, g7] <;> rfl)) rfl (x_move rfl za) (by decide) ?_
     refine o_step (wA_on rfl rfl (by simp only [Tr.get_set, reduceIte, Nat.reduceEqDiff, Nat.reduceAdd, g7] <;> rfl)) rfl (x_bin rfl za (by rfl) b_lss) (by decide) ?_
     refine os (x_pick rfl (by simp only [Tr.get_set, reduceIte, Nat.reduceEqDiff, Nat.reduceAdd, ev_tmp, g7] <;> rfl) (by simp only [if_true, if_false, Bool.false_eq_true, ev_tmp, Tr.get_set, reduceIte, Nat.reduceEqDiff, Nat.reduceAdd, g7]; rfl)) ?_
     refine o_done ?_
     refine e_seq ?_
     refine k_cond (by simp only [Tr.get_set, reduceIte, Nat.reduceEqDiff, Nat.reduceAdd, ev_tmp, g7] <;> rfl) (fun g9 => ?_) (fun g9 => ?_)
     ·have p9 := g9; try simp only [d1, d2, d3, d4, d5, d6, d7, d8, d9] at p9
      refine k_skip ?_
      refine e_seq ?_
      refine k_seq ?_
      refine k_block ?_
      refine k_seq ?_
      refine k_region hP hC ?_
      refine os (x_move rfl za) ?_
      refine os (x_move rfl za) ?_
      refine os (x_indexS hs_m rfl za za Tryz.underlying22 T.s3 (by omega) (by omega)) ?_
      refine os (x_load1 rfl za T.g3 (by first | exact l_ints (whole_row (by (repeat (first | rw [Tr.get_set, if_neg (by omega)] | rw [hx9 _ (by omega)] | rw [hxS8 _ (by omega)] | rw [hxS6 _ (by omega)] | rw [hxA _ (by omega)] | rw [hx2 _ (by omega)] | rw [hxS1 _ (by omega)])) <;> first | rfl | assumption | (rw [Tr.get_set, if_pos (by omega)]; done) | (rw [Tr.get_set, if_pos (by omega)]; rfl)) rfl) (by omega) (by omega) | exact l_partI0 (whole_row (by (repeat (first | rw [Tr.get_set, if_neg (by omega)] | rw [hx9 _ (by omega)] | rw [hxS8 _ (by omega)] | rw [hxS6 _ (by omega)] | rw [hxA _ (by omega)] | rw [hx2 _ (by omega)] | rw [hxS1 _ (by omega)])) <;> first | rfl | assumption | (rw [Tr.get_set, if_pos (by omega)]; done) | (rw [Tr.get_set, if_pos (by omega)]; rfl)) rfl) (by assumption) rfl (by omega) (by omega) rfl)) ?_
      refine o_call0 (wA_none rfl) rfl rfl rfl (by simp only [evs, ev_tmp, Tr.get_set, reduceIte, Nat.reduceEqDiff, Nat.reduceAdd, he9_1, he9_5, he9_6, he9_9, g7, g9] <;> rfl) (by decide) ?_
      refine ⟨_, _, (tab_hit.trans (around_c (by simp only [ok_around, Bool.and_eq_true, decide_eq_true_eq]; exact ⟨all_inR hm h0 (by omega), by decide⟩))), ?_⟩
      refine os (x_assign rfl za) ?_
      refine o_done ?_
      refine e_seq ?_
      refine k_region hP hC ?_
      refine os (x_move rfl za) ?_
      refine os (x_move rfl za) ?_
      refine os (x_bin rfl za (by rfl) (b_rem (by first | decide | omega))) ?_
      refine os (x_move rfl za) ?_
      refine os (x_bin rfl za (by rfl) (b_quo (by decide))) ?_
      refine os (x_bin rfl za (by rfl) (b_rem (by first | decide | omega))) ?_
      refine os (x_move rfl za) ?_
      refine os (x_bin rfl za (by rfl) (b_quo (by decide))) ?_
      refine os (x_bin rfl za (by rfl) (b_rem (by first | decide | omega))) ?_
      refine os (x_bin rfl za (by rfl) b_eql) ?_
      refine os (x_build (v := .agg ⟨accN (ith m i)⟩) rfl zp T.z26 rfl bld26v) ?_
      refine os (y_bsliceA rfl za Tryz.underlying23 T.s26 T.z26 (by decide) rfl rfl (accN_len _) (by decide)) ?_
      refine o_appS aB (by omega) (fun x hs => by rw [Tr.get_set, if_neg (by have := aB.bnd x hs; omega)]) (by omega) (wA_none rfl) rfl rfl rfl (by simp only [evs, ev_tmp, Tr.get_set, reduceIte, Nat.reduceEqDiff, Nat.reduceAdd, he9_1, he9_5, he9_6, he9_9, g7, g9] <;> rfl) rfl rfl zr (cells_row Tryz.underlying23 T.s26 (l_all (whole_row (by (repeat (first | rw [Tr.get_set, if_neg (by omega)] | rw [hx9 _ (by omega)] | rw [hxS8 _ (by omega)] | rw [hxS6 _ (by omega)] | rw [hxA _ (by omega)] | rw [hx2 _ (by omega)] | rw [hxS1 _ (by omega)])) <;> first | rfl | assumption | (rw [Tr.get_set, if_pos (by omega)]; done) | (rw [Tr.get_set, if_pos (by omega)]; rfl)) rfl) (by rw [Nat.one_mul]; exact (accN_len _).symm))) Tryz.underlying23 T.i23 (by decide) (by rw [Nat.one_mul]; exact accN_len _) (by omega) (by omega) rfl (by decide) (by decide) (by decide) (fun v10 t10 w10 b110 b210 a10 k10 => ?_)
      refine os (x_assign rfl za) ?_
      refine o_done ?_
      refine e_block ?_
      refine e_seq ?_
      refine k_region hP hC ?_
      refine os (x_move rfl za) ?_
      refine os (x_bin rfl za (by rfl) b_add) ?_
      refine os (x_assign rfl za) ?_
      refine o_done ?_
      refine e_loop ?_
      have hw1 : IntKind.i64.wrap (i + 1) = i + 1 := wr1 (by omega) (by omega)
      have hN := lA_next (l := m) h0 (by omega)
      have e1 := @app_len (lA m i) (accN (ith m i))
      have e2 := @app_flat (lA m i) (accN (ith m i))
      refine ⟨IntKind.i64.wrap (i + 1), ⟨v10, _, _, _, _, _, rfl, za, za, za, za, by rw [hw1]; omega, by rw [hw1]; omega, by rw [hw1]; omega, by omega, by rw [hw1]; omega, by omega, by omega, fun id hid => by (repeat (first | rw [Tr.get_set, if_neg (by omega)] | rw [k10 _ (noB _ (by omega)) (by omega)] | rw [hx9 _ (by omega)] | rw [hxS8 _ (by omega)] | rw [hxS6 _ (by omega)] | rw [hxA _ (by omega)] | rw [hx2 _ (by omega)] | rw [hxS1 _ (by omega)])) <;> first | rfl | assumption | (rw [Tr.get_set, if_pos (by omega)]; done) | (rw [Tr.get_set, if_pos (by omega)]; rfl), by rw [hw1, hN, e1, e2]; exact a10⟩, ?_⟩
      ·show (9 - IntKind.i64.wrap (i + 1)).toNat < (9 - i).toNat; rw [hw1]; omega
     ·have p9 := g9; try simp only [d1, d2, d3, d4, d5, d6, d7, d8, d9] at p9
      refine k_exit ?_
      refine e_seq_exit ?_
      refine e_loop_exit ?_
      refine e_block_eq ?_
      refine e_loop ?_
      exact ⟨lA m i, vB, _, _, _, _, rfl, za, za, lA_cf _ _, by omega, by omega, by omega, by omega, by omega, fun id hid => by (repeat (first | rw [Tr.get_set, if_neg (by omega)] | rw [hx9 _ (by omega)] | rw [hxS8 _ (by omega)] | rw [hxS6 _ (by omega)] | rw [hxA _ (by omega)] | rw [hx2 _ (by omega)] | rw [hxS1 _ (by omega)])) <;> first | rfl | assumption | (rw [Tr.get_set, if_pos (by omega)]; done) | (rw [Tr.get_set, if_pos (by omega)]; rfl), aB.rds⟩
    ·have p7 := g7; try simp only [d1, d2, d3, d4, d5, d6, d7, d8, d9] at p7
     refine o_skip (wA_off rfl rfl (by simp only [Tr.get_set, reduceIte, Nat.reduceEqDiff, Nat.reduceAdd, g7] <;> rfl)) rfl (by decide) ?_
     refine o_skip (wA_off rfl rfl (by simp only [Tr.get_set, reduceIte, Nat.reduceEqDiff, Nat.reduceAdd, g7] <;> rfl)) rfl (by decide) ?_
     refine os (x_pick rfl (by simp only [Tr.get_set, reduceIte, Nat.reduceEqDiff, Nat.reduceAdd, ev_tmp, g7] <;> rfl) (by simp only [if_true, if_false, Bool.false_eq_true, ev_tmp, Tr.get_set, reduceIte, Nat.reduceEqDiff, Nat.reduceAdd, g7]; rfl)) ?_
     refine o_done ?_
     refine e_seq ?_
     refine k_condF (by simp only [Tr.get_set, reduceIte, Nat.reduceEqDiff, Nat.reduceAdd, ev_tmp, g7] <;> rfl) ?_
     refine k_exit ?_
     refine e_seq_exit ?_
     refine e_loop_exit ?_
     refine e_block_eq ?_
     refine e_loop ?_
     exact ⟨lA m i, vB, _, _, _, _, rfl, za, za, lA_cf _ _, by omega, by omega, by omega, by omega, by omega, fun id hid => by (repeat (first | rw [Tr.get_set, if_neg (by omega)] | rw [hx9 _ (by omega)] | rw [hxS8 _ (by omega)] | rw [hxS6 _ (by omega)] | rw [hxA _ (by omega)] | rw [hx2 _ (by omega)] | rw [hxS1 _ (by omega)])) <;> first | rfl | assumption | (rw [Tr.get_set, if_pos (by omega)]; done) | (rw [Tr.get_set, if_pos (by omega)]; rfl), aB.rds⟩
   ·skip
    rintro s ⟨B, vB, e, t, nx, wr, rfl, he7_5, he7_6, h_B, hbB, n0, nb, w1, wb, hx7, rB0⟩
    refine k_nm (fun tB nB qB hxB => ?_)
    have rB : RdS tB nB 3 vB B.length B.flatten := rB0.keep (by omega) (fun id hid => hxB id (by omega))
    have nbB : (nB : Int) ≤ nS6 + 30 := by omega
    have n2B : nS6 ≤ nB := by omega
    refine k_seq ?_
    refine k_region hP hC ?_
    refine os (x_assign rfl (by rfl)) ?_
    refine o_done ?_
    refine e_seq ?_
    refine k_seq ?_
    refine k_seq ?_
    refine k_region hP hC ?_
    refine os (x_move rfl za) ?_
    refine os (x_lenD rA rfl rfl (by simp only [evs, ev_tmp, Tr.get_set, reduceIte, Nat.reduceEqDiff, Nat.reduceAdd, he7_5, he7_6] <;> rfl) rfl Tryz.underlying23) ?_
    refine os (x_bin rfl za (by rfl) b_sub) ?_
    refine os (x_assign rfl za) ?_
    refine o_done ?_
    refine e_seq ?_
    refine k_block ?_
    refine k_nm (fun tS11 nS11 qS11 hxS11 => ?_)
    have hw3 : IntKind.i64.wrap ((A.length : Int) - 1) = A.length - 1 := IntWalk.i64_in _ (by omega)
    refine k_loopI (α := Int) (fun i s => ∃ v e t nx wr S, s = ⟨e, 122, ⟨t, nx, wr⟩⟩ ∧ e.get 5 = some (vA) ∧ e.get 6 = some (vB) ∧ e.get 11 = some (v) ∧ e.get 12 = some (.int .i64 i) ∧ -1 ≤ i ∧ i < A.length ∧ nS11 ≤ nx ∧ (nx : Int) ≤ nS11 + 3 * (A.length - 1 - i) ∧ 2 ≤ wr ∧ wr ≤ BIG ∧ (∀ id, id < nS11 → t.get id = tS11.get id) ∧ AccP t nS11 nx S 3 v (bk A i).length (bk A i).flatten) (fun i => (i + 1).toNat) (A.length - 1) ⟨_, _, _, _, _, _, rfl, za, za, za, (by simp only [Tr.get_set, reduceIte, Nat.reduceEqDiff, Nat.reduceAdd, hw3, he7_5, he7_6] <;> rfl), by omega, by omega, by omega, by omega, by omega, by omega, fun _ _ => rfl, by rw [bk_start]; exact .start⟩ ?_
    rintro i s ⟨vC, e, t, nx, wr, S, rfl, he12_5, he12_6, he12_11, he12_12, h0, h1, n0, nb, w1, wb, hx12, aC⟩
    have noC := aC.no
    have hlC := bk_len h0 h1
    refine k_seq ?_
    refine k_seq ?_
    refine k_region hP hC ?_
    refine os (x_move rfl za) ?_
    refine os (x_bin rfl za (by rfl) b_geq) ?_
    refine o_done ?_
    refine e_seq ?_
    refine k_cond (by simp only [Tr.get_set, reduceIte, Nat.reduceEqDiff, Nat.reduceAdd, ev_tmp, he12_5, he12_6, he12_11, he12_12] <;> rfl) (fun g12 => ?_) (fun g12 => ?_)
    ·have p12 := g12; try simp only [d1, d2, d3, d4, d5, d6, d7, d8, d9] at p12
     refine k_skip ?_
     refine e_seq ?_
     refine k_seq ?_
     refine k_block ?_
     obtain ⟨idA, roA, eA, oA, oA1, oA2⟩ := rA.own (by omega)
     subst eA
     refine k_region hP hC ?_
     refine os (x_move rfl za) ?_
     refine os (x_move rfl za) ?_
     refine os (x_move rfl za) ?_
     refine os (x_index rfl za za Tryz.underlying23 T.s26 (by omega) (by omega)) ?_
     refine os (x_loadA rfl za T.g26 T.s26 (l_elem ((oA.keep (by (repeat (first | rw [Tr.get_set, if_neg (by omega)] | rw [hx12 _ (by omega)] | rw [hxS11 _ (by omega)] | rw [hxB _ (by omega)] | rw [hx7 _ (by omega)] | rw [hxS6 _ (by omega)] | rw [hxA _ (by omega)] | rw [hx2 _ (by omega)] | rw [hxS1 _ (by omega)])) <;> first | rfl | assumption | (rw [Tr.get_set, if_pos (by omega)]; done) | (rw [Tr.get_set, if_pos (by omega)]; rfl)) (by (repeat (first | rw [Tr.get_set, if_neg (by omega)] | rw [hx12 _ (by omega)] | rw [hxS11 _ (by omega)] | rw [hxB _ (by omega)] | rw [hx7 _ (by omega)] | rw [hxS6 _ (by omega)] | rw [hxA _ (by omega)] | rw [hx2 _ (by omega)] | rw [hxS1 _ (by omega)])) <;> first | rfl | assumption | (rw [Tr.get_set, if_pos (by omega)]; done) | (rw [Tr.get_set, if_pos (by omega)]; rfl))).whole) h_A rfl (by omega) (by omega))) ?_
     refine os (y_bsliceA rfl za Tryz.underlying23 T.s26 T.z26 (by decide) rfl rfl (cf_len (cf_nth h_A (by omega) h1)) (by decide)) ?_
     refine o_appS aC (by omega) (fun x hs => by rw [Tr.get_set, if_neg (by have := aC.bnd x hs; omega)]) (by omega) (wA_none rfl) rfl rfl rfl (by simp only [evs, ev_tmp, Tr.get_set, reduceIte, Nat.reduceEqDiff, Nat.reduceAdd, he12_5, he12_6, he12_11, he12_12, g12] <;> rfl) rfl rfl zr (cells_row Tryz.underlying23 T.s26 (l_all (whole_row (by (repeat (first | rw [Tr.get_set, if_neg (by omega)] | rw [hx12 _ (by omega)] | rw [hxS11 _ (by omega)] | rw [hxB _ (by omega)] | rw [hx7 _ (by omega)] | rw [hxS6 _ (by omega)] | rw [hxA _ (by omega)] | rw [hx2 _ (by omega)] | rw [hxS1 _ (by omega)])) <;> first | rfl | assumption | (rw [Tr.get_set, if_pos (by omega)]; done) | (rw [Tr.get_set, if_pos (by omega)]; rfl)) rfl) (by rw [Nat.one_mul]; exact (cf_len (cf_nth h_A (by omega) h1)).symm))) Tryz.underlying23 T.i23 (by decide) (by rw [Nat.one_mul]; exact (cf_len (cf_nth h_A (by omega) h1))) (by omega) (by omega) (cf_oneC (ks := T.K26) (cf_nth h_A (by omega) h1)) (by decide) (by decide) (by decide) (fun v13 t13 w13 b113 b213 a13 k13 => ?_)
     refine os (x_assign rfl za) ?_
     refine o_done ?_
     refine e_block ?_
     refine e_seq ?_
     refine k_region hP hC ?_
     refine os (x_move rfl za) ?_
     refine os (x_bin rfl za (by rfl) b_sub) ?_
     refine os (x_assign rfl za) ?_
     refine o_done ?_
     refine e_loop ?_
     have hw1 : IntKind.i64.wrap (i - 1) = i - 1 := IntWalk.i64_in _ (by omega)
     have hN := bk_next (A := A) (by omega) h1
     have e1 := @app_len (bk A i) (nth A i)
     have e2 := @app_flat (bk A i) (nth A i)
     refine ⟨IntKind.i64.wrap (i - 1), ⟨v13, _, _, _, _, _, rfl, za, za, za, za, by rw [hw1]; omega, by rw [hw1]; omega, by omega, by rw [hw1]; omega, by omega, by omega, fun id hid => by (repeat (first | rw [Tr.get_set, if_neg (by omega)] | rw [k13 _ (noC _ (by omega)) (by omega)] | rw [hx12 _ (by omega)] | rw [hxS11 _ (by omega)] | rw [hxB _ (by omega)] | rw [hx7 _ (by omega)] | rw [hxS6 _ (by omega)] | rw [hxA _ (by omega)] | rw [hx2 _ (by omega)] | rw [hxS1 _ (by omega)])) <;> first | rfl | assumption | (rw [Tr.get_set, if_pos (by omega)]; done) | (rw [Tr.get_set, if_pos (by omega)]; rfl), by rw [hw1, hN, e1, e2]; exact a13⟩, ?_⟩
     ·show (IntKind.i64.wrap (i - 1) + 1).toNat < (i + 1).toNat; rw [hw1]; omega
    ·have p12 := g12; try simp only [d1, d2, d3, d4, d5, d6, d7, d8, d9] at p12
     refine k_exit ?_
     refine e_seq_exit ?_
     refine e_loop_exit ?_
     refine e_block_eq ?_
     refine e_seq ?_
     refine k_seq ?_
     have hi1 : i = -1 := by omega
     have hKm := fun x => bk_mem (A := A) hi1 x
     have h_K := bk_cf h_A i
     have hKl := bk_len h0 h1
     obtain ⟨K, hK⟩ : ∃ K, K = bk A i := ⟨_, rfl⟩
     rw [← hK] at aC hKm h_K hKl
     have hapK : apB B K = apB A B := ap_back hKm
     have hbK : K.length ≤ 9 := by omega
     clear noC h0 h1 hi1 hK
     refine k_nm (fun tK nK qK hxK => ?_)
     have rK : RdS tK nK 3 vC K.length K.flatten := aC.rds.keep (by omega) (fun id hid => hxK id (by omega))
     have nbK : (nK : Int) ≤ 300 := by omega
     have n2K : nB ≤ nK := by omega
     refine k_region hP hC ?_
     refine os (x_move rfl za) ?_
     refine o_call1 (fun v => v) (wA_none rfl) rfl rfl rfl (by simp only [evs, ev_tmp, Tr.get_set, reduceIte, Nat.reduceEqDiff, Nat.reduceAdd, he12_5, he12_6, he12_11, he12_12, g12] <;> rfl) (by decide) ((tab_miss (by decide)).trans ((tab_miss (by decide)).trans (tab_hit.trans (accs_c (rdS_at rA (by decide) (cfs_free0 h_A) (fun id hid => by (repeat (first | rw [Tr.get_set, if_neg (by omega)] | rw [hxK _ (by omega)] | rw [hx12 _ (by omega)] | rw [hxS11 _ (by omega)] | rw [hxB _ (by omega)] | rw [hx7 _ (by omega)] | rw [hxS6 _ (by omega)] | rw [hxA _ (by omega)] | rw [hx2 _ (by omega)] | rw [hxS1 _ (by omega)])) <;> first | rfl | assumption | (rw [Tr.get_set, if_pos (by omega)]; done) | (rw [Tr.get_set, if_pos (by omega)]; rfl))) h_A (by rw [ok_accs, decide_eq_true (by omega)]))))) (cfs_len h_A) (fun v14 t14 nx14 qa14 qb14 hx14 r86 => ?_)
     refine os (x_move rfl za) ?_
     refine o_call1 (fun v => v) (wA_none rfl) rfl rfl rfl (by simp only [evs, ev_tmp, Tr.get_set, reduceIte, Nat.reduceEqDiff, Nat.reduceAdd, he12_5, he12_6, he12_11, he12_12, g12] <;> rfl) (by decide) ((tab_miss (by decide)).trans ((tab_miss (by decide)).trans (tab_hit.trans (accs_c (rdS_at rB (by decide) (cfs_free0 h_B) (fun id hid => by (repeat (first | rw [Tr.get_set, if_neg (by omega)] | rw [hx14 _ (by omega)] | rw [hxK _ (by omega)] | rw [hx12 _ (by omega)] | rw [hxS11 _ (by omega)] | rw [hxB _ (by omega)] | rw [hx7 _ (by omega)] | rw [hxS6 _ (by omega)] | rw [hxA _ (by omega)] | rw [hx2 _ (by omega)] | rw [hxS1 _ (by omega)])) <;> first | rfl | assumption | (rw [Tr.get_set, if_pos (by omega)]; done) | (rw [Tr.get_set, if_pos (by omega)]; rfl))) h_B (by rw [ok_accs, decide_eq_true (by omega)]))))) (cfs_len h_B) (fun v15 t15 nx15 qa15 qb15 hx15 r88 => ?_)
     refine o_call0 (wA_none rfl) rfl rfl rfl (by simp only [evs, ev_tmp, Tr.get_set, reduceIte, Nat.reduceEqDiff, Nat.reduceAdd, he12_5, he12_6, he12_11, he12_12, g12] <;> rfl) (by decide) ?_
     refine ⟨_, _, ((tab_miss (by decide)).trans (tab_hit.trans (apart_c (rdS_at r86 (by decide) (cfs_free0 h_A) (fun id hid => by (repeat (first | rw [Tr.get_set, if_neg (by omega)] | rw [hx15 _ (by omega)] | rw [hx14 _ (by omega)] | rw [hxK _ (by omega)] | rw [hx12 _ (by omega)] | rw [hxS11 _ (by omega)] | rw [hxB _ (by omega)] | rw [hx7 _ (by omega)] | rw [hxS6 _ (by omega)] | rw [hxA _ (by omega)] | rw [hx2 _ (by omega)] | rw [hxS1 _ (by omega)])) <;> first | rfl | assumption | (rw [Tr.get_set, if_pos (by omega)]; done) | (rw [Tr.get_set, if_pos (by omega)]; rfl))) h_A (rdS_at r88 (by decide) (cfs_free0 h_B) (fun id hid => by (repeat (first | rw [Tr.get_set, if_neg (by omega)] | rw [hx15 _ (by omega)] | rw [hx14 _ (by omega)] | rw [hxK _ (by omega)] | rw [hx12 _ (by omega)] | rw [hxS11 _ (by omega)] | rw [hxB _ (by omega)] | rw [hx7 _ (by omega)] | rw [hxS6 _ (by omega)] | rw [hxA _ (by omega)] | rw [hx2 _ (by omega)] | rw [hxS1 _ (by omega)])) <;> first | rfl | assumption | (rw [Tr.get_set, if_pos (by omega)]; done) | (rw [Tr.get_set, if_pos (by omega)]; rfl))) h_B (by rw [ok_apart, Bool.and_eq_true, decide_eq_true_eq, decide_eq_true_eq]; constructor <;> omega)))), ?_⟩
     refine os (x_assign rfl za) ?_
     refine o_done ?_
     refine e_seq ?_
     refine k_seq ?_
     refine k_seq ?_
     refine k_region hP hC ?_
     refine os (x_move rfl za) ?_
     refine os (x_move rfl za) ?_
     refine os (x_move rfl za) ?_
     refine o_call0 (wA_none rfl) rfl rfl rfl (by simp only [evs, ev_tmp, Tr.get_set, reduceIte, Nat.reduceEqDiff, Nat.reduceAdd, he12_5, he12_6, he12_11, he12_12, g12] <;> rfl) (by decide) ?_
     refine ⟨_, _, ((tab_miss (by decide)).trans ((tab_miss (by decide)).trans ((tab_miss (by decide)).trans (tab_hit.trans (refApart_c (rdS_at rA (by decide) (cfs_free0 h_A) (fun id hid => by (repeat (first | rw [Tr.get_set, if_neg (by omega)] | rw [hx15 _ (by omega)] | rw [hx14 _ (by omega)] | rw [hxK _ (by omega)] | rw [hx12 _ (by omega)] | rw [hxS11 _ (by omega)] | rw [hxB _ (by omega)] | rw [hx7 _ (by omega)] | rw [hxS6 _ (by omega)] | rw [hxA _ (by omega)] | rw [hx2 _ (by omega)] | rw [hxS1 _ (by omega)])) <;> first | rfl | assumption | (rw [Tr.get_set, if_pos (by omega)]; done) | (rw [Tr.get_set, if_pos (by omega)]; rfl))) h_A (rdS_at rB (by decide) (cfs_free0 h_B) (fun id hid => by (repeat (first | rw [Tr.get_set, if_neg (by omega)] | rw [hx15 _ (by omega)] | rw [hx14 _ (by omega)] | rw [hxK _ (by omega)] | rw [hx12 _ (by omega)] | rw [hxS11 _ (by omega)] | rw [hxB _ (by omega)] | rw [hx7 _ (by omega)] | rw [hxS6 _ (by omega)] | rw [hxA _ (by omega)] | rw [hx2 _ (by omega)] | rw [hxS1 _ (by omega)])) <;> first | rfl | assumption | (rw [Tr.get_set, if_pos (by omega)]; done) | (rw [Tr.get_set, if_pos (by omega)]; rfl))) h_B (by rw [ok_refApart, Bool.and_eq_true, decide_eq_true_eq, decide_eq_true_eq]; constructor <;> omega)))))), ?_⟩
     refine os (x_bin (u := .bool false) rfl za za b_neqSame) ?_
     refine os (x_move rfl za) ?_
     refine o_step (wA_on rfl rfl (by simp only [Tr.get_set, reduceIte, Nat.reduceEqDiff, Nat.reduceAdd, g12] <;> rfl)) rfl (x_move rfl za) (by decide) ?_
     refine o_step (wA_on rfl rfl (by simp only [Tr.get_set, reduceIte, Nat.reduceEqDiff, Nat.reduceAdd, g12] <;> rfl)) rfl (x_move rfl za) (by decide) ?_
     refine o_call1 (fun v => v) (wA_on rfl rfl (by simp only [Tr.get_set, reduceIte, Nat.reduceEqDiff, Nat.reduceAdd, g12] <;> rfl)) rfl rfl rfl (by simp only [evs, ev_tmp, Tr.get_set, reduceIte, Nat.reduceEqDiff, Nat.reduceAdd, he12_5, he12_6, he12_11, he12_12, g12] <;> rfl) (by decide) ((tab_miss (by decide)).trans ((tab_miss (by decide)).trans (tab_hit.trans (accs_c (rdS_at rB (by decide) (cfs_free0 h_B) (fun id hid => by (repeat (first | rw [Tr.get_set, if_neg (by omega)] | rw [hx15 _ (by omega)] | rw [hx14 _ (by omega)] | rw [hxK _ (by omega)] | rw [hx12 _ (by omega)] | rw [hxS11 _ (by omega)] | rw [hxB _ (by omega)] | rw [hx7 _ (by omega)] | rw [hxS6 _ (by omega)] | rw [hxA _ (by omega)] | rw [hx2 _ (by omega)] | rw [hxS1 _ (by omega)])) <;> first | rfl | assumption | (rw [Tr.get_set, if_pos (by omega)]; done) | (rw [Tr.get_set, if_pos (by omega)]; rfl))) h_B (by rw [ok_accs, decide_eq_true (by omega)]))))) (cfs_len h_B) (fun v16 t16 nx16 qa16 qb16 hx16 r98 => ?_)
     refine o_step (wA_on rfl rfl (by simp only [Tr.get_set, reduceIte, Nat.reduceEqDiff, Nat.reduceAdd, g12] <;> rfl)) rfl (x_move rfl za) (by decide) ?_
     refine o_call1 (fun v => v) (wA_on rfl rfl (by simp only [Tr.get_set, reduceIte, Nat.reduceEqDiff, Nat.reduceAdd, g12] <;> rfl)) rfl rfl rfl (by simp only [evs, ev_tmp, Tr.get_set, reduceIte, Nat.reduceEqDiff, Nat.reduceAdd, he12_5, he12_6, he12_11, he12_12, g12] <;> rfl) (by decide) ((tab_miss (by decide)).trans ((tab_miss (by decide)).trans (tab_hit.trans (accs_c (rdS_at rK (by decide) (cfs_free0 h_K) (fun id hid => by (repeat (first | rw [Tr.get_set, if_neg (by omega)] | rw [hx16 _ (by omega)] | rw [hx15 _ (by omega)] | rw [hx14 _ (by omega)] | rw [hxK _ (by omega)] | rw [hx12 _ (by omega)] | rw [hxS11 _ (by omega)] | rw [hxB _ (by omega)] | rw [hx7 _ (by omega)] | rw [hxS6 _ (by omega)] | rw [hxA _ (by omega)] | rw [hx2 _ (by omega)] | rw [hxS1 _ (by omega)])) <;> first | rfl | assumption | (rw [Tr.get_set, if_pos (by omega)]; done) | (rw [Tr.get_set, if_pos (by omega)]; rfl))) h_K (by rw [ok_accs, decide_eq_true (by omega)]))))) (cfs_len h_K) (fun v17 t17 nx17 qa17 qb17 hx17 r100 => ?_)
     refine o_call0 (wA_on rfl rfl (by simp only [Tr.get_set, reduceIte, Nat.reduceEqDiff, Nat.reduceAdd, g12] <;> rfl)) rfl rfl rfl (by simp only [evs, ev_tmp, Tr.get_set, reduceIte, Nat.reduceEqDiff, Nat.reduceAdd, he12_5, he12_6, he12_11, he12_12, g12] <;> rfl) (by decide) ?_
     refine ⟨_, _, (((tab_miss (by decide)).trans (tab_hit.trans (apart_c (rdS_at r98 (by decide) (cfs_free0 h_B) (fun id hid => by (repeat (first | rw [Tr.get_set, if_neg (by omega)] | rw [hx17 _ (by omega)] | rw [hx16 _ (by omega)] | rw [hx15 _ (by omega)] | rw [hx14 _ (by omega)] | rw [hxK _ (by omega)] | rw [hx12 _ (by omega)] | rw [hxS11 _ (by omega)] | rw [hxB _ (by omega)] | rw [hx7 _ (by omega)] | rw [hxS6 _ (by omega)] | rw [hxA _ (by omega)] | rw [hx2 _ (by omega)] | rw [hxS1 _ (by omega)])) <;> first | rfl | assumption | (rw [Tr.get_set, if_pos (by omega)]; done) | (rw [Tr.get_set, if_pos (by omega)]; rfl))) h_B (rdS_at r100 (by decide) (cfs_free0 h_K) (fun id hid => by (repeat (first | rw [Tr.get_set, if_neg (by omega)] | rw [hx17 _ (by omega)] | rw [hx16 _ (by omega)] | rw [hx15 _ (by omega)] | rw [hx14 _ (by omega)] | rw [hxK _ (by omega)] | rw [hx12 _ (by omega)] | rw [hxS11 _ (by omega)] | rw [hxB _ (by omega)] | rw [hx7 _ (by omega)] | rw [hxS6 _ (by omega)] | rw [hxA _ (by omega)] | rw [hx2 _ (by omega)] | rw [hxS1 _ (by omega)])) <;> first | rfl | assumption | (rw [Tr.get_set, if_pos (by omega)]; done) | (rw [Tr.get_set, if_pos (by omega)]; rfl))) h_K (by rw [ok_apart, Bool.and_eq_true, decide_eq_true_eq, decide_eq_true_eq]; constructor <;> omega)))).trans (by rw [hapK])), ?_⟩
     refine o_step (wA_on rfl rfl (by simp only [Tr.get_set, reduceIte, Nat.reduceEqDiff, Nat.reduceAdd, g12] <;> rfl)) rfl (x_bin (u := .bool false) rfl za za b_neqSame) (by decide) ?_
     refine os (x_pick rfl (by simp only [Tr.get_set, reduceIte, Nat.reduceEqDiff, Nat.reduceAdd, ev_tmp, g12] <;> rfl) (by simp only [if_true, if_false, Bool.false_eq_true, ev_tmp, Tr.get_set, reduceIte, Nat.reduceEqDiff, Nat.reduceAdd, g12]; rfl)) ?_
     refine o_done ?_
     refine e_seq ?_
     refine k_condF (by simp only [Tr.get_set, reduceIte, Nat.reduceEqDiff, Nat.reduceAdd, ev_tmp, g12] <;> rfl) ?_
     refine k_skip ?_
     refine e_seq ?_
     refine k_seq ?_
     refine k_seq ?_
     refine k_region hP hC ?_
     refine os (x_assign rfl (by rfl)) ?_
     refine o_done ?_
     refine e_seq ?_
     refine k_block ?_
     refine k_nm (fun tS18 nS18 qS18 hxS18 => ?_)
     have nbS : (nS18 : Int) ≤ 400 := by omega
     refine k_loopI (α := Int) (fun k s => ∃ e t nx wr, s = ⟨e, 122, ⟨t, nx, wr⟩⟩ ∧ e.get 5 = some (vA) ∧ e.get 6 = some (vB) ∧ e.get 13 = some (.bool (apB A B)) ∧ e.get 14 = some (.int .i64 k) ∧ 0 ≤ k ∧ k ≤ (A.length : Int) + 1 ∧ nS18 ≤ nx ∧ (nx : Int) ≤ nS18 + 3 * k ∧ 2 ≤ wr ∧ wr ≤ BIG ∧ (∀ id, id < nS18 → t.get id = tS18.get id)) (fun k => ((A.length : Int) + 1 - k).toNat) 0 ⟨_, _, _, _, rfl, za, za, za, za, by omega, by omega, by omega, by omega, by omega, by omega, fun _ _ => rfl⟩ ?_
     rintro k s ⟨e, t, nx, wr, rfl, he19_5, he19_6, he19_13, he19_14, h0, h1, n0, nb, w1, wb, hx19⟩
     refine k_seq ?_
     refine k_seq ?_
     refine k_region hP hC ?_
     refine os (x_move rfl za) ?_
     refine os (x_move rfl za) ?_
     refine os (x_lenD rA rfl rfl (by simp only [evs, ev_tmp, Tr.get_set, reduceIte, Nat.reduceEqDiff, Nat.reduceAdd, he19_5, he19_6, he19_13, he19_14] <;> rfl) rfl Tryz.underlying23) ?_
     refine os (x_bin rfl za za b_leq) ?_
     refine o_done ?_
     refine e_seq ?_
     refine k_cond (by simp only [Tr.get_set, reduceIte, Nat.reduceEqDiff, Nat.reduceAdd, ev_tmp, he19_5, he19_6, he19_13, he19_14] <;> rfl) (fun g14 => ?_) (fun g14 => ?_)
     ·have p14 := g14; try simp only [d1, d2, d3, d4, d5, d6, d7, d8, d9] at p14
      refine k_skip ?_
      refine e_seq ?_
      refine k_seq ?_
      refine k_block ?_
      refine k_seq ?_
      refine k_region hP hC ?_
      refine os (x_move rfl za) ?_
      refine os (x_move rfl za) ?_
      refine o_guard rfl rfl za (fun g15 => ?_) (fun g15 => ?_)
      ·have p15 := g15; try simp only [d1, d2, d3, d4, d5, d6, d7, d8, d9] at p15
       refine o_step (wA_on rfl rfl (by simp only [Tr.get_set, reduceIte, Nat.reduceEqDiff, Nat.reduceAdd, g14, g15] <;> rfl)) rfl (x_move rfl za) (by decide) ?_
       refine o_step (wA_on rfl rfl (by simp only [Tr.get_set, reduceIte, Nat.reduceEqDiff, Nat.reduceAdd, g14, g15] <;> rfl)) rfl (x_move rfl za) (by decide) ?_
       obtain ⟨vW, hvW, rW⟩ := x_cutS (P := Tryz.prog) (T := 23) (j := k) rA h_A rfl Tryz.underlying23 T.s26 (by decide) (by omega) (by omega) (by decide)
       refine o_step (wA_on rfl rfl (by simp only [Tr.get_set, reduceIte, Nat.reduceEqDiff, Nat.reduceAdd, g14, g15] <;> rfl)) rfl (hvW rfl za za) (by decide) ?_
       have h_W : cfs T.K26 (A.take k.toNat) := cfs_take h_A
       have hWl : (A.take k.toNat).length ≤ 9 := by rw [List.length_take]; omega
       refine o_call1 (fun v => v) (wA_on rfl rfl (by simp only [Tr.get_set, reduceIte, Nat.reduceEqDiff, Nat.reduceAdd, g14, g15] <;> rfl)) rfl rfl rfl (by simp only [evs, ev_tmp, Tr.get_set, reduceIte, Nat.reduceEqDiff, Nat.reduceAdd, he19_5, he19_6, he19_13, he19_14, g14, g15] <;> rfl) (by decide) ((tab_miss (by decide)).trans ((tab_miss (by decide)).trans (tab_hit.trans (accs_c (L := A.take k.toNat) (rW _ _ _ (fun id hid => by (repeat (first | rw [Tr.get_set, if_neg (by omega)] | rw [hx19 _ (by omega)] | rw [hxS18 _ (by omega)] | rw [hx17 _ (by omega)] | rw [hx16 _ (by omega)] | rw [hx15 _ (by omega)] | rw [hx14 _ (by omega)] | rw [hxK _ (by omega)] | rw [hx12 _ (by omega)] | rw [hxS11 _ (by omega)] | rw [hxB _ (by omega)] | rw [hx7 _ (by omega)] | rw [hxS6 _ (by omega)] | rw [hxA _ (by omega)] | rw [hx2 _ (by omega)] | rw [hxS1 _ (by omega)])) <;> first | rfl | assumption | (rw [Tr.get_set, if_pos (by omega)]; done) | (rw [Tr.get_set, if_pos (by omega)]; rfl))) h_W (by rw [ok_accs, decide_eq_true (by omega)]))))) (cfs_len h_W) (fun v21 t21 nx21 qa21 qb21 hx21 r115 => ?_)
       refine o_step (wA_on rfl rfl (by simp only [Tr.get_set, reduceIte, Nat.reduceEqDiff, Nat.reduceAdd, g14, g15] <;> rfl)) rfl (x_move rfl za) (by decide) ?_
       refine o_call1 (fun v => v) (wA_on rfl rfl (by simp only [Tr.get_set, reduceIte, Nat.reduceEqDiff, Nat.reduceAdd, g14, g15] <;> rfl)) rfl rfl rfl (by simp only [evs, ev_tmp, Tr.get_set, reduceIte, Nat.reduceEqDiff, Nat.reduceAdd, he19_5, he19_6, he19_13, he19_14, g14, g15] <;> rfl) (by decide) ((tab_miss (by decide)).trans ((tab_miss (by decide)).trans (tab_hit.trans (accs_c (rdS_at rB (by decide) (cfs_free0 h_B) (fun id hid => by (repeat (first | rw [Tr.get_set, if_neg (by omega)] | rw [hx21 _ (by omega)] | rw [hx19 _ (by omega)] | rw [hxS18 _ (by omega)] | rw [hx17 _ (by omega)] | rw [hx16 _ (by omega)] | rw [hx15 _ (by omega)] | rw [hx14 _ (by omega)] | rw [hxK _ (by omega)] | rw [hx12 _ (by omega)] | rw [hxS11 _ (by omega)] | rw [hxB _ (by omega)] | rw [hx7 _ (by omega)] | rw [hxS6 _ (by omega)] | rw [hxA _ (by omega)] | rw [hx2 _ (by omega)] | rw [hxS1 _ (by omega)])) <;> first | rfl | assumption | (rw [Tr.get_set, if_pos (by omega)]; done) | (rw [Tr.get_set, if_pos (by omega)]; rfl))) h_B (by rw [ok_accs, decide_eq_true (by omega)]))))) (cfs_len h_B) (fun v22 t22 nx22 qa22 qb22 hx22 r117 => ?_)
       refine o_call0 (wA_on rfl rfl (by simp only [Tr.get_set, reduceIte, Nat.reduceEqDiff, Nat.reduceAdd, g14, g15] <;> rfl)) rfl rfl rfl (by simp only [evs, ev_tmp, Tr.get_set, reduceIte, Nat.reduceEqDiff, Nat.reduceAdd, he19_5, he19_6, he19_13, he19_14, g14, g15] <;> rfl) (by decide) ?_
       refine ⟨_, _, (((tab_miss (by decide)).trans (tab_hit.trans (apart_c (L := A.take k.toNat) (rdS_at r115 (by decide) (cfs_free0 h_W) (fun id hid => by (repeat (first | rw [Tr.get_set, if_neg (by omega)] | rw [hx22 _ (by omega)] | rw [hx21 _ (by omega)] | rw [hx19 _ (by omega)] | rw [hxS18 _ (by omega)] | rw [hx17 _ (by omega)] | rw [hx16 _ (by omega)] | rw [hx15 _ (by omega)] | rw [hx14 _ (by omega)] | rw [hxK _ (by omega)] | rw [hx12 _ (by omega)] | rw [hxS11 _ (by omega)] | rw [hxB _ (by omega)] | rw [hx7 _ (by omega)] | rw [hxS6 _ (by omega)] | rw [hxA _ (by omega)] | rw [hx2 _ (by omega)] | rw [hxS1 _ (by omega)])) <;> first | rfl | assumption | (rw [Tr.get_set, if_pos (by omega)]; done) | (rw [Tr.get_set, if_pos (by omega)]; rfl))) h_W (rdS_at r117 (by decide) (cfs_free0 h_B) (fun id hid => by (repeat (first | rw [Tr.get_set, if_neg (by omega)] | rw [hx22 _ (by omega)] | rw [hx21 _ (by omega)] | rw [hx19 _ (by omega)] | rw [hxS18 _ (by omega)] | rw [hx17 _ (by omega)] | rw [hx16 _ (by omega)] | rw [hx15 _ (by omega)] | rw [hx14 _ (by omega)] | rw [hxK _ (by omega)] | rw [hx12 _ (by omega)] | rw [hxS11 _ (by omega)] | rw [hxB _ (by omega)] | rw [hx7 _ (by omega)] | rw [hxS6 _ (by omega)] | rw [hxA _ (by omega)] | rw [hx2 _ (by omega)] | rw [hxS1 _ (by omega)])) <;> first | rfl | assumption | (rw [Tr.get_set, if_pos (by omega)]; done) | (rw [Tr.get_set, if_pos (by omega)]; rfl))) h_B (by rw [ok_apart, Bool.and_eq_true, decide_eq_true_eq, decide_eq_true_eq]; constructor <;> omega)))).trans (by rw [ap_take g15])), ?_⟩
       refine o_step (wA_on rfl rfl (by simp only [Tr.get_set, reduceIte, Nat.reduceEqDiff, Nat.reduceAdd, g14, g15] <;> rfl)) rfl (x_not rfl (by simp only [Tr.get_set, reduceIte, Nat.reduceEqDiff, Nat.reduceAdd, ev_tmp, g14, g15] <;> rfl)) (by decide) ?_
       refine os (x_pick rfl (by simp only [Tr.get_set, reduceIte, Nat.reduceEqDiff, Nat.reduceAdd, ev_tmp, g14, g15] <;> rfl) (by simp only [if_true, if_false, Bool.false_eq_true, ev_tmp, Tr.get_set, reduceIte, Nat.reduceEqDiff, Nat.reduceAdd, g14, g15]; rfl)) ?_
       refine o_done ?_
       refine e_seq ?_
       refine k_condF (by simp only [Tr.get_set, reduceIte, Nat.reduceEqDiff, Nat.reduceAdd, ev_tmp, g14, g15] <;> rfl) ?_
       refine k_skip ?_
       refine e_block ?_
       refine e_seq ?_
       refine k_region hP hC ?_
       refine os (x_move rfl za) ?_
       refine os (x_bin rfl za (by rfl) b_add) ?_
       refine os (x_assign rfl za) ?_
       refine o_done ?_
       refine e_loop ?_
       have hw1 : IntKind.i64.wrap (k + 1) = k + 1 := wr1 (by omega) (by omega)
       refine ⟨IntKind.i64.wrap (k + 1), ⟨_, _, _, _, rfl, za, za, za, za, by rw [hw1]; omega, by rw [hw1]; omega, by omega, by rw [hw1]; omega, by omega, by omega, fun id hid => by (repeat (first | rw [Tr.get_set, if_neg (by omega)] | rw [hx22 _ (by omega)] | rw [hx21 _ (by omega)] | rw [hx19 _ (by omega)] | rw [hxS18 _ (by omega)] | rw [hx17 _ (by omega)] | rw [hx16 _ (by omega)] | rw [hx15 _ (by omega)] | rw [hx14 _ (by omega)] | rw [hxK _ (by omega)] | rw [hx12 _ (by omega)] | rw [hxS11 _ (by omega)] | rw [hxB _ (by omega)] | rw [hx7 _ (by omega)] | rw [hxS6 _ (by omega)] | rw [hxA _ (by omega)] | rw [hx2 _ (by omega)] | rw [hxS1 _ (by omega)])) <;> first | rfl | assumption | (rw [Tr.get_set, if_pos (by omega)]; done) | (rw [Tr.get_set, if_pos (by omega)]; rfl)⟩, ?_⟩
       ·show ((A.length : Int) + 1 - IntKind.i64.wrap (k + 1)).toNat < ((A.length : Int) + 1 - k).toNat; rw [hw1]; omega
      ·have p15 := g15; try simp only [d1, d2, d3, d4, d5, d6, d7, d8, d9] at p15
       refine o_skip (wA_off rfl rfl (by simp only [Tr.get_set, reduceIte, Nat.reduceEqDiff, Nat.reduceAdd, g14, g15] <;> rfl)) rfl (by decide) ?_
       refine o_skip (wA_off rfl rfl (by simp only [Tr.get_set, reduceIte, Nat.reduceEqDiff, Nat.reduceAdd, g14, g15] <;> rfl)) rfl (by decide) ?_
       refine o_skip (wA_off rfl rfl (by simp only [Tr.get_set, reduceIte, Nat.reduceEqDiff, Nat.reduceAdd, g14, g15] <;> rfl)) rfl (by decide) ?_
       refine o_skip (wA_off rfl rfl (by simp only [Tr.get_set, reduceIte, Nat.reduceEqDiff, Nat.reduceAdd, g14, g15] <;> rfl)) rfl (by decide) ?_
       refine o_skip (wA_off rfl rfl (by simp only [Tr.get_set, reduceIte, Nat.reduceEqDiff, Nat.reduceAdd, g14, g15] <;> rfl)) rfl (by decide) ?_
       refine o_skip (wA_off rfl rfl (by simp only [Tr.get_set, reduceIte, Nat.reduceEqDiff, Nat.reduceAdd, g14, g15] <;> rfl)) rfl (by decide) ?_
       refine o_skip (wA_off rfl rfl (by simp only [Tr.get_set, reduceIte, Nat.reduceEqDiff, Nat.reduceAdd, g14, g15] <;> rfl)) rfl (by decide) ?_
       refine o_skip (wA_off rfl rfl (by simp only [Tr.get_set, reduceIte, Nat.reduceEqDiff, Nat.reduceAdd, g14, g15] <;> rfl)) rfl (by decide) ?_
       refine os (x_pick rfl (by simp only [Tr.get_set, reduceIte, Nat.reduceEqDiff, Nat.reduceAdd, ev_tmp, g14, g15] <;> rfl) (by simp only [if_true, if_false, Bool.false_eq_true, ev_tmp, Tr.get_set, reduceIte, Nat.reduceEqDiff, Nat.reduceAdd, g14, g15]; rfl)) ?_
       refine o_done ?_
       refine e_seq ?_
       refine k_condF (by simp only [Tr.get_set, reduceIte, Nat.reduceEqDiff, Nat.reduceAdd, ev_tmp, g14, g15] <;> rfl) ?_
       refine k_skip ?_
       refine e_block ?_
       refine e_seq ?_
       refine k_region hP hC ?_
       refine os (x_move rfl za) ?_
       refine os (x_bin rfl za (by rfl) b_add) ?_
       refine os (x_assign rfl za) ?_
       refine o_done ?_
       refine e_loop ?_
       have hw1 : IntKind.i64.wrap (k + 1) = k + 1 := wr1 (by omega) (by omega)
       refine ⟨IntKind.i64.wrap (k + 1), ⟨_, _, _, _, rfl, za, za, za, za, by rw [hw1]; omega, by rw [hw1]; omega, by omega, by rw [hw1]; omega, by omega, by omega, fun id hid => by (repeat (first | rw [Tr.get_set, if_neg (by omega)] | rw [hx19 _ (by omega)] | rw [hxS18 _ (by omega)] | rw [hx17 _ (by omega)] | rw [hx16 _ (by omega)] | rw [hx15 _ (by omega)] | rw [hx14 _ (by omega)] | rw [hxK _ (by omega)] | rw [hx12 _ (by omega)] | rw [hxS11 _ (by omega)] | rw [hxB _ (by omega)] | rw [hx7 _ (by omega)] | rw [hxS6 _ (by omega)] | rw [hxA _ (by omega)] | rw [hx2 _ (by omega)] | rw [hxS1 _ (by omega)])) <;> first | rfl | assumption | (rw [Tr.get_set, if_pos (by omega)]; done) | (rw [Tr.get_set, if_pos (by omega)]; rfl)⟩, ?_⟩
       ·show ((A.length : Int) + 1 - IntKind.i64.wrap (k + 1)).toNat < ((A.length : Int) + 1 - k).toNat; rw [hw1]; omega
     ·have p14 := g14; try simp only [d1, d2, d3, d4, d5, d6, d7, d8, d9] at p14
      refine k_exit ?_
      refine e_seq_exit ?_
      refine e_loop_exit ?_
      refine e_block_eq ?_
      refine e_seq ?_
      refine k_seq ?_
      refine k_region hP hC ?_
      refine o_call0 (wA_none rfl) rfl rfl rfl (by simp only [evs, ev_tmp, Tr.get_set, reduceIte, Nat.reduceEqDiff, Nat.reduceAdd, he19_5, he19_6, he19_13, he19_14, g14] <;> rfl) (by decide) ?_
      refine ⟨_, _, ((tab_miss (by decide)).trans ((tab_miss (by decide)).trans ((tab_miss (by decide)).trans ((tab_miss (by decide)).trans (tab_hit.trans lives_c))))), ?_⟩
      refine os (x_assign rfl za) ?_
      refine o_done ?_
      refine e_seq ?_
      refine k_ret ?_
      exact gives_mk2 (L := [0, 1]) (w := 2) (.inr rfl) gcOk_two (by simp only [Tryz.results3, resA, Tr.get_set, reduceIte, Nat.reduceEqDiff, Nat.reduceAdd, he19_5, he19_6, he19_13, he19_14, g14] <;> rfl) (by rfl) (gcH_cons (gcO_old (by simp only [Bool.and_eq_true, Nat.blt_eq]; exact ⟨by show (_ : Nat) < 2; decide, by show _ < _; first | omega | (dsimp only; omega)⟩) (by (repeat (first | rw [Tr.get_set, if_neg (by omega)] | rw [hx19 _ (by omega)] | rw [hxS18 _ (by omega)] | rw [hx17 _ (by omega)] | rw [hx16 _ (by omega)] | rw [hx15 _ (by omega)] | rw [hx14 _ (by omega)] | rw [hxK _ (by omega)] | rw [hx12 _ (by omega)] | rw [hxS11 _ (by omega)] | rw [hxB _ (by omega)] | rw [hx7 _ (by omega)] | rw [hxS6 _ (by omega)] | rw [hxA _ (by omega)] | rw [hx2 _ (by omega)] | rw [hxS1 _ (by omega)])) <;> first | rfl | assumption | (rw [Tr.get_set, if_pos (by omega)]; done) | (rw [Tr.get_set, if_pos (by omega)]; rfl))) (gcH_cons (gcO_old (by simp only [Bool.and_eq_true, Nat.blt_eq]; exact ⟨by show (_ : Nat) < 2; decide, by show _ < _; first | omega | (dsimp only; omega)⟩) (by (repeat (first | rw [Tr.get_set, if_neg (by omega)] | rw [hx19 _ (by omega)] | rw [hxS18 _ (by omega)] | rw [hx17 _ (by omega)] | rw [hx16 _ (by omega)] | rw [hx15 _ (by omega)] | rw [hx14 _ (by omega)] | rw [hxK _ (by omega)] | rw [hx12 _ (by omega)] | rw [hxS11 _ (by omega)] | rw [hxB _ (by omega)] | rw [hx7 _ (by omega)] | rw [hxS6 _ (by omega)] | rw [hxA _ (by omega)] | rw [hx2 _ (by omega)] | rw [hxS1 _ (by omega)])) <;> first | rfl | assumption | (rw [Tr.get_set, if_pos (by omega)]; done) | (rw [Tr.get_set, if_pos (by omega)]; rfl))) gcH_nil)) (Nat.ble_eq_true_of_le (by first | omega | (dsimp only; omega)))
end Go.Proofs.YtlhlkjhjoalhoaaGreatDoor
